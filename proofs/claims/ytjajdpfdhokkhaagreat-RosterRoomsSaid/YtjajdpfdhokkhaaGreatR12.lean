/- Rosters as data, and what their functions come to. Part 12 of 16. -/
import Derived.Test.YtjajdpfdhokkhaaGreatR11
namespace Go.Proofs.E
open Go
set_option linter.unusedVariables false
set_option linter.unusedSimpArgs false
set_option linter.unusedSectionVars false
set_option maxRecDepth 4000
set_option maxHeartbeats 1000000
attribute [local irreducible] Yl TL TC TE Spec YSpec R1 Hp.le EnvLe TS TR YS Stays
-- BN
/-! ## transactions in memory of one's own -/
structure OT where
  x : Tx
  ss : List Value
  ms : List Value
abbrev stkC (x : Tx) (ss : List Value) : List (Nat × Obj) := ownC (.slice x.sv.a x.sv.n x.sv.c) ((x.stack.map lfV).flatten) ss 74
abbrev mrkC (x : Tx) (ms : List Value) : List (Nat × Obj) := ownC (.slice x.mv.a x.mv.n x.mv.c) (x.marks.map u64c) ms 24
structure OwnX (x : Tx) (ss ms : List Value) : Prop where
  s : OwnS (.slice x.sv.a x.sv.n x.sv.c) x.stack.length ((x.stack.map lfV).flatten) ss 2
  m : OwnS (.slice x.mv.a x.mv.n x.mv.c) x.marks.length (x.marks.map u64c) ms 1
theorem OwnS.nn {a : Option Addr} {n c m sz : Nat} {xs sp : List Value} (h : OwnS (.slice a n c) m xs sp sz) : n = m ∧ m ≤ c := by
  rcases h.out with ⟨e, h1, _, _⟩ | ⟨b, cap, e, _, _, h3⟩
  · have := Value.slice.inj e; omega
  · have := Value.slice.inj e; omega
def OT.Own (o : OT) : Prop := OwnX o.x o.ss o.ms
def stC (os : List OT) : List (Nat × Obj) := os.flatMap (fun o => stkC o.x o.ss ++ mrkC o.x o.ms)
def txF (os : List OT) : List Value := ((os.map OT.x).map txV).flatten
theorem stC_app (a b : List OT) : stC (a ++ b) = stC a ++ stC b := by unfold stC; rw [List.flatMap_append]
theorem stC_one (o : OT) : stC [o] = stkC o.x o.ss ++ mrkC o.x o.ms := by simp [stC]
theorem txF_app (a b : List OT) : txF (a ++ b) = txF a ++ txF b := by simp [txF]
theorem txF_one (o : OT) : txF [o] = txV o.x := by simp [txF]
theorem txF_len (os : List OT) : (txF os).length = os.length * 7 := by
  have := flatN_len txV_len (os.map OT.x)
  rw [List.length_map] at this
  exact this
abbrev clkC (cb : Nat) (next : Int) (v : Value) (rv : RV) (r : Rc) (t : Option Addr) : List (Nat × Obj) := [(cb, .cells ⟨[.int .i64 next, v, .int .i64 r.kind, .int .u64 r.lsn, .int .i64 r.txn, .int .u64 r.prev, .int .u64 r.next, .slice rv.i.a rv.i.n rv.i.c, .slice rv.s.a rv.s.n rv.s.c, .int .i64 r.nextTxn, .slice rv.t.a rv.t.n rv.t.c, .slice rv.d.a rv.d.n rv.d.c, .pointer t]⟩ 253 (0, 0))]
abbrev noRV : RV := ⟨⟨none, 0, 0⟩, ⟨none, 0, 0⟩, ⟨none, 0, 0⟩, ⟨none, 0, 0⟩⟩
/-- a roster in memory of one's own: its transactions' block, their stacks and savepoints -/
structure OwnR (vv : Value) (sp : List Value) (os : List OT) (txns : List TxP) : Prop where
  own : OwnS vv os.length (txF os) sp 7
  each : ∀ o ∈ os, o.Own
  says : os.map (fun o => o.x.p) = txns
abbrev ownRC (vv : Value) (sp : List Value) (os : List OT) : SH := [ownC vv (txF os) sp 72, stC os]
theorem OwnR.len {vv sp os txns} (h : OwnR vv sp os txns) : os.length = txns.length := by rw [← h.says, List.length_map]
theorem OwnX.tin {ρ : Hp} {x : Tx} {ss ms : List Value} (h : OwnX x ss ms) (h1 : ∀ p ∈ stkC x ss, ρ p.1 = some p.2) (h2 : ∀ p ∈ mrkC x ms, ρ p.1 = some p.2) (hs : x.stack.length ≤ 200000000000000) (hm : x.marks.length ≤ 200000000000000) : Tx.In ρ x := by
  obtain ⟨a, c, e, hc, hA⟩ := h.s.aIn rfl (fun _ _ => rfl) h1
  obtain ⟨a2, c2, e2, hc2, hA2⟩ := h.m.sIn h2
  have f1 := Value.slice.inj e
  have f2 := Value.slice.inj e2
  obtain ⟨num, st, fi, la, un, sk, mk, ⟨sa, sn, sc⟩, ⟨ma, mn, mc⟩⟩ := x
  dsimp only at *
  obtain ⟨rfl, rfl, rfl⟩ := f1
  obtain ⟨rfl, rfl, rfl⟩ := f2
  exact ⟨hA, hA2, hs, hm, hc, hc2⟩
theorem stC_mem {ρ : Hp} {os : List OT} (h : ∀ p ∈ stC os, ρ p.1 = some p.2) {o : OT} (ho : o ∈ os) : (∀ p ∈ stkC o.x o.ss, ρ p.1 = some p.2) ∧ (∀ p ∈ mrkC o.x o.ms, ρ p.1 = some p.2) :=
  ⟨fun p hp => h p (List.mem_flatMap.2 ⟨o, ho, List.mem_append_left _ hp⟩), fun p hp => h p (List.mem_flatMap.2 ⟨o, ho, List.mem_append_right _ hp⟩)⟩
/-- frozen, it is a roster that stands in memory -/
theorem OwnR.frozen {ρ : Hp} {vv sp os txns} (h : OwnR vv sp os txns) (hn : txns.length ≤ 1000000) (hb : ∀ t ∈ txns, t.stack.length ≤ 200000000000000 ∧ t.marks.length ≤ 200000000000000) (h1 : ∀ p ∈ ownC vv (txF os) sp 72, ρ p.1 = some p.2) (h2 : ∀ p ∈ stC os, ρ p.1 = some p.2) (next : Int) :
    ∃ (v : SV) (r : Ros), vv = .slice v.a v.n v.c ∧ RosIn ρ v r ∧ r.p = ⟨next, txns⟩ ∧ r.next = next := by
  have hl := h.len
  have ho : OwnS vv os.length (((os.map OT.x).map txV).flatten) sp 7 := h.own
  obtain ⟨a, c, e, hc, hA⟩ := ho.aIn (by simp) (fun x _ => txV_len x) h1
  refine ⟨⟨a, os.length, c⟩, ⟨next, os.map OT.x⟩, e, ⟨⟨hA, by show os.length ≤ 1000000; omega, hc⟩, fun x hx => ?_⟩, ?_, rfl⟩
  · obtain ⟨o, hm, rfl⟩ := List.mem_map.1 hx
    obtain ⟨g1, g2⟩ := stC_mem h2 hm
    have := hb o.x.p (by rw [← h.says]; exact List.mem_map.2 ⟨o, hm, rfl⟩)
    exact (h.each o hm).tin g1 g2 this.1 this.2
  · show (⟨next, (os.map OT.x).map Tx.p⟩ : RosP) = _
    rw [List.map_map, ← h.says]; rfl
theorem pair_bound {l : List Nat} : ∀ {lo hi : Nat}, l.Pairwise (· < ·) → (∀ x ∈ l, lo < x ∧ x ≤ hi) → l.length ≤ hi - lo := by
  induction l with
  | nil => intro _ _ _ _; simp
  | cons a r ih =>
    intro lo hi h hb
    rw [List.pairwise_cons] at h
    have ha := hb a (by simp)
    have := ih (lo := a) (hi := hi) h.2 (fun x hx => ⟨h.1 x hx, (hb x (by simp [hx])).2⟩)
    rw [List.length_cons]; omega
theorem TxG.sl {t : TxP} (h : TxG t) : t.stack.length ≤ 1099511627776 := by
  have h1 : (t.stack.map Lf.lsn).Pairwise (· < ·) := List.pairwise_map.2 h.so
  have h2 := pair_bound (lo := t.first) (hi := t.undo) h1 (fun x hx => by
    obtain ⟨s, hs, rfl⟩ := List.mem_map.1 hx
    exact ⟨(h.st s hs).1, (h.st s hs).2.1⟩)
  rw [List.length_map] at h2
  have := h.ul
  have := h.lm
  omega
theorem RosG.bounds {p : RosP} (h : RosG p) : ∀ t ∈ p.txns, t.stack.length ≤ 200000000000000 ∧ t.marks.length ≤ 200000000000000 := fun t ht => by
  have := (h.tx t ht).2.2
  have h1 := this.sl
  have h2 := this.ml
  omega
end Go.Proofs.E

