/- Laws of analysis. Part 23 of 41. -/
import Derived.Test.YtkbiahafeoillaaGreatA22
namespace Go.Proofs.E
open Go
set_option linter.unusedVariables false
set_option linter.unusedSimpArgs false
set_option linter.unusedSectionVars false
set_option maxRecDepth 4000
set_option maxHeartbeats 1000000
attribute [local irreducible] Yl TL TC TE Spec Xb R1 Hp.le EnvLe TS TR YS Zk
theorem flat_oneG {α : Type} {g : α → List Value} (hg : ∀ x, (g x).all (·.oneCell') = true) (l : List α) : ((l.map g).flatten).all (·.oneCell') = true := by
 induction l with
 | nil => rfl
 | cons a r ih => simp only [List.map_cons, List.flatten_cons, List.all_append, Bool.and_eq_true]; exact ⟨hg a, ih⟩
theorem cloneX_spec (ρ : Hp) (a : Option Addr) (n c : Nat) (l : List Tx) (h : AIn ρ 7 Yk a n l) (hn : n ≤ 1200000000000) (hc : n ≤ c) : Spec Tryz.prog 83 [.slice a n c] ρ []
  (fun v ρ' L' => ρ' = ρ ∧ ∃ sp, OwnS v l.length ((l.map Yk).flatten) sp 7 ∧ L' = [ZG v ((l.map Yk).flatten) sp 45]) := by
 have hl := h.len
 cases a with
 | none =>
  have hl0 : l = [] := by
   by_cases h0 : 0 < l.length
   ·obtain ⟨b, off, C, T, fr, h, _⟩ := h.get h0
    cases h
   ·exact List.eq_nil_of_length_eq_zero (by omega)
  subst hl0
  refine Zd Tryz.func83 rfl rfl rfl fun u R => ?_
  simp only [Zo, List.cons_append, List.nil_append]
  repeat' (first | refine zV ?_ | intro _)
  exact qE (L' := [[]]) ⟨rfl, [], OwnS.nil 7, rfl⟩
 | some ad =>
  refine Zd Tryz.func83 rfl rfl rfl fun u R => ?_
  simp only [Zo, List.cons_append, List.nil_append]
  repeat' (first | refine zV ?_ | intro _)
  rename_i bx
  refine ZZ (n := 0) (xs := []) (sp := []) (ys := ((l.map Yk).flatten)) (sz := 7) rfl rfl (OwnS.zero' _ 7) (hR := ZD) h.srcV (by rw [XC txV_len]; omega) (flat_oneG txV_one l) (by decide) rfl (by omega) (by omega) rfl (fun v' sp' hown' => ?_)
  simp only [Nat.zero_add, List.nil_append] at hown' ⊢
  repeat' (first | refine zV ?_ | intro _)
  rw [← hl] at hown'
  exact qE ⟨rfl, sp', hown', rfl⟩
theorem cloneL_spec (ρ : Hp) (a : Option Addr) (n c : Nat) (l : List Lf) (h : AIn ρ 2 lfV a n l) (hn : n ≤ 1200000000000) (hc : n ≤ c) : Spec Tryz.prog 84 [.slice a n c] ρ []
  (fun v ρ' L' => ρ' = ρ ∧ ∃ sp, OwnS v l.length ((l.map lfV).flatten) sp 2 ∧ L' = [ZG v ((l.map lfV).flatten) sp 108]) := by
 have hl := h.len
 cases a with
 | none =>
  have hl0 : l = [] := by
   by_cases h0 : 0 < l.length
   ·obtain ⟨b, off, C, T, fr, h, _⟩ := h.get h0
    cases h
   ·exact List.eq_nil_of_length_eq_zero (by omega)
  subst hl0
  refine Zd Tryz.func84 rfl rfl rfl fun u R => ?_
  simp only [Zo, List.cons_append, List.nil_append]
  repeat' (first | refine zV ?_ | intro _)
  exact qE (L' := [[]]) ⟨rfl, [], OwnS.nil 2, rfl⟩
 | some ad =>
  refine Zd Tryz.func84 rfl rfl rfl fun u R => ?_
  simp only [Zo, List.cons_append, List.nil_append]
  repeat' (first | refine zV ?_ | intro _)
  rename_i bx
  refine ZZ (n := 0) (xs := []) (sp := []) (ys := ((l.map lfV).flatten)) (sz := 2) rfl rfl (OwnS.zero' _ 2) (hR := ZD) h.srcV (by rw [XC lfV_len]; omega) (flat_oneG (fun _ => rfl) l) (by decide) rfl (by omega) (by omega) rfl (fun v' sp' hown' => ?_)
  simp only [Nat.zero_add, List.nil_append] at hown' ⊢
  repeat' (first | refine zV ?_ | intro _)
  rw [← hl] at hown'
  exact qE ⟨rfl, sp', hown', rfl⟩
theorem cloneU_spec (ρ : Hp) (a : Option Addr) (n c : Nat) (l : List Nat) (h : SIn ρ Yr a n l) (hn : n ≤ 1200000000000) (hc : n ≤ c) : Spec Tryz.prog 85 [.slice a n c] ρ []
  (fun v ρ' L' => ρ' = ρ ∧ ∃ sp, OwnS v l.length (l.map Yr) sp 1 ∧ L' = [ZG v (l.map Yr) sp 28]) := by
 have hl := h.len
 cases a with
 | none =>
  have hl0 : l = [] := by
   by_cases h0 : 0 < l.length
   ·obtain ⟨b, off, C, T, fr, h, _⟩ := h.get h0
    cases h
   ·exact List.eq_nil_of_length_eq_zero (by omega)
  subst hl0
  refine Zd Tryz.func85 rfl rfl rfl fun u R => ?_
  simp only [Zo, List.cons_append, List.nil_append]
  repeat' (first | refine zV ?_ | intro _)
  exact qE (L' := [[]]) ⟨rfl, [], OwnS.nil 1, rfl⟩
 | some ad =>
  refine Zd Tryz.func85 rfl rfl rfl fun u R => ?_
  simp only [Zo, List.cons_append, List.nil_append]
  repeat' (first | refine zV ?_ | intro _)
  rename_i bx
  refine ZZ (n := 0) (xs := []) (sp := []) (ys := (l.map Yr)) (sz := 1) rfl rfl (OwnS.zero' _ 1) (hR := ZD) h.srcV (by simp; omega) (by simp [Value.oneCell']) (by decide) rfl (by omega) (by omega) rfl (fun v' sp' hown' => ?_)
  simp only [Nat.zero_add, List.nil_append] at hown' ⊢
  repeat' (first | refine zV ?_ | intro _)
  rw [← hl] at hown'
  exact qE ⟨rfl, sp', hown', rfl⟩
theorem atT1_spec (ρ : Hp) (p : Tx) (n : Int) : Spec Tryz.prog 102 [.agg ⟨Yk p⟩, .int .i64 n] ρ [] (fun v ρ' L' => v = .int .i64 (cmpI p.num n) ∧ ρ' = ρ ∧ L' = []) := by
 refine Zd Tryz.func102 rfl rfl rfl fun u R => ?_
 simp only [Zo, List.cons_append, List.nil_append]
 repeat' (first | (refine Zc (.func 103) ?_; refine qC rfl rfl (cmpI_spec _ _ _) ?_; rintro v ρ' L' hle ⟨rfl, rfl, rfl⟩ <;> (try simp only [kM, kN, kO])) | refine zV ?_ | intro _)
 exact qE ⟨rfl, rfl, rfl⟩
abbrev TblT (l : List Tx) : Prop := l.Pairwise (fun a b => a.num < b.num)
structure AtT (l : List Tx) (num : Int) (i : Nat) (there : Bool) : Prop where
 le : i ≤ l.length
 hit : there = true → ∃ h : i < l.length, l[i].num = num
 lo : TblT l → ∀ j (h : j < l.length), j < i → l[j].num < num
 hi : TblT l → there = false → ∀ j (h : j < l.length), i ≤ j → num < l[j].num
theorem tblT_lt {l : List Tx} (h : TblT l) (i j : Nat) (hj : j < l.length) (hij : i < j) : (l[i]'(by omega)).num < l[j].num := List.pairwise_iff_getElem.1 h i j (by omega) hj hij
theorem searchT_spec (ρ : Hp) (a : Option Addr) (n c : Nat) (l : List Tx) (h : AIn ρ 7 Yk a n l) (hn : n ≤ 1000000) (num : Int) :
  Spec Tryz.prog 101 [.slice a n c, .int .i64 num, .func (.func 102) ⟨[]⟩ ⟨[]⟩] ρ []
  (fun v ρ' L' => ρ' = ρ ∧ ∃ i there, v = .tuple ⟨[.int .i64 (i : Nat), .bool there]⟩ ∧ AtT l num i there ∧ L' = []) := by
 have hl := h.len
 refine Zd Tryz.func101 rfl rfl rfl fun u R => ?_
 simp only [Zo, List.cons_append, List.nil_append]
 repeat' (first | refine zV ?_ | intro _)
 refine Zq [(0, _), (1, _), (2, _), (6, _), (7, _), (8, _)] (fun (ζ : (Nat) × (Nat)) => [(9, .int .i64 ζ.1), (10, .int .i64 ζ.2)]) (fun (ζ : (Nat) × (Nat)) => ρ) (fun (ζ : (Nat) × (Nat)) => []) (fun (ζ : (Nat) × (Nat)) => ζ.1 ≤ ζ.2 ∧ ζ.2 ≤ n ∧ (TblT l → (∀ k (h : k < l.length), k < ζ.1 → l[k].num < num) ∧ ∀ k (h : k < l.length), ζ.2 ≤ k → num ≤ l[k].num)) (fun (ζ : (Nat) × (Nat)) => ζ.2 - ζ.1) ((0, n)) (⟨Nat.zero_le _, Nat.le_refl _, fun _ => ⟨fun k _ h => by omega, fun k h1 h2 => by omega⟩⟩) Ze Ze rfl tk ?_
 rintro ⟨i, j⟩ hI
 try simp only [List.cons_append, List.nil_append, List.append_assoc, List.append_eq] at hI ⊢
 try dsimp only at hI ⊢
 obtain ⟨hij, hj, hok⟩ := hI
 by_cases hlt : i < j
 ·have hm : ((i : Int) + (j : Int)) / 2 ^ 1 = (((i + j) / 2 : Nat) : Int) := by omega
  obtain ⟨b, off, C, T, fr, e1, hb, hfit, hc⟩ := h.get (show (i + j) / 2 < l.length by omega)
  have hq : ∀ x : Tx, l[(i + j) / 2]'(by omega) = x → (x.num < num → TblT l → (∀ k (h : k < l.length), k < (i + j) / 2 + 1 → l[k].num < num)) ∧ (num ≤ x.num → TblT l → ∀ k (h : k < l.length), (i + j) / 2 ≤ k → num ≤ l[k].num) := fun x hx => by
   refine ⟨fun hp ht k hk hk2 => ?_, fun hp ht k hk hk2 => ?_⟩
   ·have hs := tblT_lt ht k ((i + j) / 2) (by omega)
    by_cases e : k = (i + j) / 2
    ·subst e; rw [hx]; exact hp
    ·have := hs (by omega); rw [hx] at this; omega
   ·have hs := tblT_lt ht ((i + j) / 2) k hk
    by_cases e : k = (i + j) / 2
    ·subst e; rw [hx]; exact hp
    ·have := hs (by omega); rw [hx] at this; omega
  generalize hX : l[(i + j) / 2]'(by omega) = x at *
  obtain ⟨q1, q2⟩ := hq x rfl
  rw [e1]
  by_cases hlp : x.num < num
  ·have hcm : cmpI x.num num < 0 := by unfold cmpI; rw [if_pos hlp]; omega
   repeat' (first | (refine iSr ?_; refine tl_y (y_shr (c := 1) rfl rfl (by omega) (by simp [IntKind.bits])) rfl rfl ?_; rw [hm]) | (refine Zc (.tmp 24) ?_; refine qC rfl rfl (atT1_spec _ _ _) ?_; rintro v ρ' L' hle ⟨rfl, rfl, rfl⟩ <;> (try simp only [kM, kN, kO])) | refine zV ?_ | intro _)
   rw [← e1]
   have hs1 := q1 hlp
   refine Zg ((i + j) / 2 + 1, j) (⟨by omega, hj, fun ht => ⟨hs1 ht, (hok ht).2⟩⟩) Ze Ze rfl tk inferInstance (by first | omega | (dsimp only; omega))
  ·have hcm : ¬ cmpI x.num num < 0 := by unfold cmpI; rw [if_neg hlp]; split <;> omega
   repeat' (first | (refine iSr ?_; refine tl_y (y_shr (c := 1) rfl rfl (by omega) (by simp [IntKind.bits])) rfl rfl ?_; rw [hm]) | (refine Zc (.tmp 24) ?_; refine qC rfl rfl (atT1_spec _ _ _) ?_; rintro v ρ' L' hle ⟨rfl, rfl, rfl⟩ <;> (try simp only [kM, kN, kO])) | refine zV ?_ | intro _)
   rw [← e1]
   have hs2 := q2 (by omega)
   refine Zg (i, (i + j) / 2) (⟨by omega, by omega, fun ht => ⟨(hok ht).1, hs2 ht⟩⟩) Ze Ze rfl tk inferInstance (by first | omega | (dsimp only; omega))
 ·obtain rfl : i = j := by omega
  by_cases hin : i < n
  ·obtain ⟨b, off, C, T, fr, e1, hb, hfit, hc⟩ := h.get (show i < l.length by omega)
   have hX : l[i]'(by omega) = l[i]'(by omega) := rfl
   generalize hx : l[i]'(by omega) = x at hc hX
   rw [e1]
   by_cases hp : x.num = num
   ·have hcm : cmpI x.num num = 0 := by unfold cmpI; rw [hp]; simp
    repeat' (first | (refine Zc (.tmp 40) ?_; refine qC rfl rfl (atT1_spec _ _ _) ?_; rintro v ρ' L' hle ⟨rfl, rfl, rfl⟩ <;> (try simp only [kM, kN, kO, hcm])) | refine zV ?_ | intro _)
    exact qE ⟨rfl, i, true, rfl, ⟨by omega, fun _ => ⟨by omega, by rw [hx]; exact hp⟩, fun ht => (hok ht).1, (fun _ e => nomatch e)⟩, rfl⟩
   ·have hcm : cmpI x.num num ≠ 0 := by unfold cmpI; split <;> (try split) <;> omega
    repeat' (first | (refine Zc (.tmp 40) ?_; refine qC rfl rfl (atT1_spec _ _ _) ?_; rintro v ρ' L' hle ⟨rfl, rfl, rfl⟩ <;> (try simp only [kM, kN, kO])) | refine zV ?_ | intro _)
    refine qE ⟨rfl, i, false, rfl, ⟨by omega, (fun e => nomatch e), fun ht => (hok ht).1, fun ht _ k hk hik => ?_⟩, rfl⟩
    have h1 := (hok ht).2 k hk hik
    by_cases e : i = k
    ·subst e; rw [hx]; rw [hx] at h1; omega
    ·have h2 := tblT_lt ht i k hk (by omega)
     have h3 := (hok ht).2 i (by omega) (Nat.le_refl _)
     omega
  ·repeat' (first | refine zV ?_ | intro _)
   exact qE ⟨rfl, i, false, rfl, ⟨by omega, (fun e => nomatch e), fun ht => (hok ht).1, fun ht _ k hk hik => by omega⟩, rfl⟩
theorem atT_spec (ρ : Hp) (nx : Int) (s : SV) (l : List Tx) (h : AS ρ 7 Yk s l) (num : Int) :
  Spec Tryz.prog 54 [.agg ⟨XI s ⟨nx, l⟩⟩, .int .i64 num] ρ [] (fun v ρ' L' => ρ' = ρ ∧ ∃ i there, v = .tuple ⟨[.int .i64 (i : Nat), .bool there]⟩ ∧ AtT l num i there ∧ L' = []) := by
 have hs := searchT_spec ρ s.a s.n s.c l h.at' h.big num
 refine Zd Tryz.func54 rfl rfl rfl fun u R => ?_
 simp only [Zo, List.cons_append, List.nil_append]
 repeat' (first | (refine Zc (.func 101) ?_; refine qC rfl rfl (hs) ?_; rintro v ρ' L' hle ⟨rfl, i, there, rfl, hA, rfl⟩ <;> (try simp only [kM, kN, kO])) | refine zV ?_ | intro _)
 exact qE ⟨rfl, i, there, rfl, hA, rfl⟩
structure OT where
 x : Tx
 ss : List Value
 ms : List Value
abbrev stkC (x : Tx) (ss : List Value) : List (Nat × Obj) := ZG (.slice x.sv.a x.sv.n x.sv.c) ((x.stack.map lfV).flatten) ss 108
abbrev mrkC (x : Tx) (ms : List Value) : List (Nat × Obj) := ZG (.slice x.mv.a x.mv.n x.mv.c) (x.marks.map Yr) ms 28
structure OwnX (x : Tx) (ss ms : List Value) : Prop where
 s : OwnS (.slice x.sv.a x.sv.n x.sv.c) x.stack.length ((x.stack.map lfV).flatten) ss 2
 m : OwnS (.slice x.mv.a x.mv.n x.mv.c) x.marks.length (x.marks.map Yr) ms 1
def OT.Own (o : OT) : Prop := OwnX o.x o.ss o.ms
def stC (os : List OT) : List (Nat × Obj) := os.flatMap (fun o => stkC o.x o.ss ++ mrkC o.x o.ms)
def txF (os : List OT) : List Value := ((os.map OT.x).map Yk).flatten
theorem stC_app (a b : List OT) : stC (a ++ b) = stC a ++ stC b := by unfold stC; rw [List.flatMap_append]
theorem stC_one (o : OT) : stC [o] = stkC o.x o.ss ++ mrkC o.x o.ms := by simp [stC]
theorem txF_app (a b : List OT) : txF (a ++ b) = txF a ++ txF b := by simp [txF]
theorem txF_one (o : OT) : txF [o] = Yk o.x := by simp [txF]
theorem txF_len (os : List OT) : (txF os).length = os.length * 7 := by
 have := XC txV_len (os.map OT.x)
 rw [List.length_map] at this
 exact this
abbrev Xd (cb : Nat) (next : Int) (v : Value) (rv : RV) (r : Rc) (t : Option Addr) : List (Nat × Obj) := [(cb, .cells ⟨[.int .i64 next, v, .int .i64 r.kind, .int .u64 r.lsn, .int .i64 r.txn, .int .u64 r.prev, .int .u64 r.next, .slice rv.i.a rv.i.n rv.i.c, .slice rv.s.a rv.s.n rv.s.c, .int .i64 r.nextTxn, .slice rv.t.a rv.t.n rv.t.c, .slice rv.d.a rv.d.n rv.d.c, .pointer t]⟩ 149 (0, 0))]
abbrev noRV : RV := ⟨⟨none, 0, 0⟩, ⟨none, 0, 0⟩, ⟨none, 0, 0⟩, ⟨none, 0, 0⟩⟩
structure OwnR (vv : Value) (sp : List Value) (os : List OT) (txns : List TxP) : Prop where
 own : OwnS vv os.length (txF os) sp 7
 each : ∀ o ∈ os, o.Own
 says : os.map (fun o => o.x.p) = txns
abbrev ownRC (vv : Value) (sp : List Value) (os : List OT) : SH := [ZG vv (txF os) sp 45, stC os]
theorem OwnR.len {vv sp os txns} (h : OwnR vv sp os txns) : os.length = txns.length := by rw [← h.says, List.length_map]
theorem OwnX.tin {ρ : Hp} {x : Tx} {ss ms : List Value} (h : OwnX x ss ms) (h1 : ∀ p ∈ stkC x ss, ρ p.1 = some p.2) (h2 : ∀ p ∈ mrkC x ms, ρ p.1 = some p.2) (hs : x.stack.length ≤ 200000000000000) (hm : x.marks.length ≤ 200000000000000) : Tx.In ρ x := by
 obtain ⟨a, c, e, hc, hA⟩ := h.s.aIn rfl (fun _ _ => rfl) h1
 obtain ⟨a2, c2, e2, hc2, hA2⟩ := h.m.sIn h2
 have f1 := Value.slice.inj e
 have f2 := Value.slice.inj e2
 obtain ⟨num, st, fi, la, un, sk, mk, ⟨sa, sn, sc⟩, ⟨ma, mn, mc⟩⟩ := x
 dsimp only at *
 obtain ⟨rfl, rfl, rfl⟩ := f1
 obtain ⟨rfl, rfl, rfl⟩ := f2
 exact ⟨hA, hA2, hs, hm, hc, hc2⟩
theorem stC_mem {ρ : Hp} {os : List OT} (h : ∀ p ∈ stC os, ρ p.1 = some p.2) {o : OT} (ho : o ∈ os) : (∀ p ∈ stkC o.x o.ss, ρ p.1 = some p.2) ∧ (∀ p ∈ mrkC o.x o.ms, ρ p.1 = some p.2) :=
 ⟨fun p hp => h p (List.mem_flatMap.2 ⟨o, ho, List.mem_append_left _ hp⟩), fun p hp => h p (List.mem_flatMap.2 ⟨o, ho, List.mem_append_right _ hp⟩)⟩
theorem OwnR.frozen {ρ : Hp} {vv sp os txns} (h : OwnR vv sp os txns) (hn : txns.length ≤ 1000000) (hb : ∀ t ∈ txns, t.stack.length ≤ 200000000000000 ∧ t.marks.length ≤ 200000000000000) (h1 : ∀ p ∈ ZG vv (txF os) sp 45, ρ p.1 = some p.2) (h2 : ∀ p ∈ stC os, ρ p.1 = some p.2) (next : Int) :
  ∃ (v : SV) (r : Ros), vv = .slice v.a v.n v.c ∧ RosIn ρ v r ∧ r.p = ⟨next, txns⟩ ∧ r.next = next := by
 have hl := h.len
 have ho : OwnS vv os.length (((os.map OT.x).map Yk).flatten) sp 7 := h.own
 obtain ⟨a, c, e, hc, hA⟩ := ho.aIn (by simp) (fun x _ => txV_len x) h1
 refine ⟨⟨a, os.length, c⟩, ⟨next, os.map OT.x⟩, e, ⟨⟨hA, by show os.length ≤ 1000000; omega, hc⟩, fun x hx => ?_⟩, ?_, rfl⟩
 ·obtain ⟨o, hm, rfl⟩ := List.mem_map.1 hx
  obtain ⟨g1, g2⟩ := stC_mem h2 hm
  have := hb o.x.p (by rw [← h.says]; exact List.mem_map.2 ⟨o, hm, rfl⟩)
  exact (h.each o hm).tin g1 g2 this.1 this.2
 ·show (⟨next, (os.map OT.x).map Tx.p⟩ : Xh) = _
  rw [List.map_map, ← h.says]; rfl
theorem pair_bound {l : List Nat} : ∀ {lo hi : Nat}, l.Pairwise (· < ·) → (∀ x ∈ l, lo < x ∧ x ≤ hi) → l.length ≤ hi - lo := by
 induction l with
 | nil => intro _ _ _ _; simp
 | cons a r ih =>
  intro lo hi h hb
  rw [List.pairwise_cons] at h
  have ha := hb a (by simp)
  have := ih (lo := a) (hi := hi) h.2 (fun x hx => ⟨h.1 x hx, (hb x (by simp [hx])).2⟩)
  rw [List.length_cons]; omega
theorem TxG.sl {t : TxP} (h : TxG t) : t.stack.length ≤ 1099511627776 := by
 have h1 : (t.stack.map Lf.lsn).Pairwise (· < ·) := List.pairwise_map.2 h.so
 have h2 := pair_bound (lo := t.first) (hi := t.undo) h1 (fun x hx => by
  obtain ⟨s, hs, rfl⟩ := List.mem_map.1 hx
  exact ⟨(h.st s hs).1, (h.st s hs).2.1⟩)
 rw [List.length_map] at h2
 have := h.ul
 have := h.lm
 omega
theorem RosG.bounds {p : Xh} (h : RosG p) : ∀ t ∈ p.txns, t.stack.length ≤ 200000000000000 ∧ t.marks.length ≤ 200000000000000 := fun t ht => by
 have := (h.tx t ht).2.2
 have h1 := this.sl
 have h2 := this.ml
 omega
theorem idxB_spec (ρ : Hp) (b0 : Nat) (bs : List Bool) (hn : bs.length ≤ 10) : Spec Tryz.prog 200 [.slice (some ⟨b0, 0, none⟩) bs.length bs.length, .bool false] ρ [[(b0, .cells ⟨bs.map Value.bool⟩ 4 (0, 0))]]
  (fun z ρ' L' => (∃ i : Int, z = .int .i64 i ∧ (0 ≤ i ↔ bs.all id = false)) ∧ ρ' = ρ ∧ L' = [[(b0, .cells ⟨bs.map Value.bool⟩ 4 (0, 0))]]) := by
 refine Zd Tryz.func200 rfl rfl rfl fun u R => ?_
 simp only [Zo, List.cons_append, List.nil_append]
 repeat' (first | refine zV ?_ | intro _)
 refine Zq [(0, _), (1, _), (7, _)] (fun (ζ : (Nat)) => [(8, .int .i64 ζ), (4, .int .i64 0)]) (fun (ζ : (Nat)) => ρ) (fun (ζ : (Nat)) => [[(b0, .cells ⟨bs.map Value.bool⟩ 4 (0, 0))]]) (fun (ζ : (Nat)) => ζ ≤ bs.length ∧ ∀ x ∈ bs.take ζ, x = true) (fun (ζ : (Nat)) => bs.length - ζ) (0) (⟨Nat.zero_le _, by simp⟩) Ze Ze rfl tk ?_
 rintro k hI
 try simp only [List.cons_append, List.nil_append, List.append_assoc, List.append_eq] at hI ⊢
 try dsimp only at hI ⊢
 obtain ⟨hk, hok⟩ := hI
 by_cases hlt : k < bs.length
 ·have hcell : (bs.map Value.bool)[0 + k * 1]? = some (.bool bs[k]) := by simp [hlt]
  have ht := WD (p := fun x => x = true) hlt
  have hmem := List.getElem_mem hlt
  generalize bs[k] = y at *
  cases y
  ·repeat' (first | refine zV ?_ | intro _)
   exact qE (L' := _) ⟨⟨k, rfl, ⟨fun _ => List.all_eq_false.2 ⟨false, hmem, by simp⟩, fun _ => by omega⟩⟩, rfl, rfl⟩
  ·repeat' (first | refine zV ?_ | intro _)
   refine Zg (k + 1) (⟨hlt, ht rfl hok⟩) Ze Ze rfl tk inferInstance (by first | omega | (dsimp only; omega))
 ·have : bs.all id = true := List.all_eq_true.2 (fun x hx => hok x (by rw [List.take_of_length_le (by omega)]; exact hx))
  repeat' (first | refine zV ?_ | intro _)
  exact qE (L' := _) ⟨⟨-1, rfl, ⟨fun h => by omega, fun h => by rw [this] at h; cases h⟩⟩, rfl, rfl⟩
theorem needB_spec (ρ : Hp) (b0 n : Nat) (bs : List Bool) (hn : bs.length ≤ 10) (hnn : n = bs.length) : Spec Tryz.prog 147 [.slice (some ⟨b0, 0, none⟩) n n] ρ [[(b0, .cells ⟨bs.map Value.bool⟩ 4 (0, 0))]]
  (fun z ρ' L' => z = .int .i64 (if bs.all id then 0 else 2) ∧ ρ' = ρ ∧ L' = []) := by
 subst hnn
 have hI := idxB_spec ρ b0 bs hn
 have hC : Spec Tryz.prog 177 [.slice (some ⟨b0, 0, none⟩) bs.length bs.length, .bool false] ρ [[(b0, .cells ⟨bs.map Value.bool⟩ 4 (0, 0))]]
  (fun z ρ' L' => z = .bool (!(bs.all id)) ∧ ρ' = ρ ∧ L' = []) := by
  refine Zd Tryz.func177 rfl rfl rfl fun u R => ?_
  simp only [Zo, List.cons_append, List.nil_append]
  repeat' (first | (refine Zc (.func 200) ?_; refine qC rfl rfl (hI) ?_; rintro v ρ' L' hle ⟨⟨i, rfl, hi⟩, rfl, rfl⟩ <;> (try simp only [kM, kN, kO])) | refine zV ?_ | intro _)
  by_cases h0 : 0 ≤ i
  ·rw [hi.1 h0, Bool.not_false, decide_eq_true (show i ≥ 0 from h0)]
   exact qE (L' := []) ⟨rfl, rfl, rfl⟩
  ·have : bs.all id = true := by
    cases h : bs.all id
    ·exact absurd (hi.2 h) h0
    ·rfl
   rw [this, Bool.not_true, decide_eq_false (show ¬ i ≥ 0 from h0)]
   exact qE (L' := []) ⟨rfl, rfl, rfl⟩
 refine Zd Tryz.func147 rfl rfl rfl fun u R => ?_
 simp only [Zo, List.cons_append, List.nil_append]
 cases hb : bs.all id
 ·rw [hb] at hC
  simp only [Bool.false_eq_true, if_false]
  repeat' (first | (refine Zc (.func 177) ?_; refine qC rfl rfl (hC) ?_; rintro v ρ' L' hle ⟨rfl, rfl, rfl⟩ <;> (try simp only [kM, kN, kO])) | refine zV ?_ | intro _)
  exact qE (L' := []) ⟨rfl, rfl, rfl⟩
 ·rw [hb] at hC
  simp only [if_true]
  repeat' (first | (refine Zc (.func 177) ?_; refine qC rfl rfl (hC) ?_; rintro v ρ' L' hle ⟨rfl, rfl, rfl⟩ <;> (try simp only [kM, kN, kO])) | refine zV ?_ | intro _)
  exact qE (L' := []) ⟨rfl, rfl, rfl⟩
abbrev txQ (x : Tx) (S : List Value) : List Value := .int .i64 x.num :: .int .i64 x.state :: .int .u64 x.first :: .int .u64 x.last :: .int .u64 x.undo :: .slice x.sv.a x.sv.n x.sv.c :: .slice x.mv.a x.mv.n x.mv.c :: S
abbrev blkC (b : Nat) (P : List Value) (x : Tx) (S : List Value) : List (Nat × Obj) := [(b, .cells ⟨P ++ txQ x S⟩ 45 (0, 0))]
variable (ρ : Hp) (cb : Nat) (next : Int) (vv : Value) (rv : RV) (r : Rc) (b o : Nat) (P : List Value) (x : Tx) (S : List Value)
theorem live_spec (hP : P.length = o) : Spec Tryz.prog 82 [.pointer (some ⟨cb, 0, none⟩)] ρ [Xd cb next vv rv r (some ⟨b, o, none⟩), blkC b P x S]
  (fun z ρ' L' => z = .bool (decide (x.state = 1)) ∧ ρ' = ρ ∧ L' = [Xd cb next vv rv r (some ⟨b, o, none⟩), blkC b P x S]) := by
 have hg1 : (P ++ txQ x S)[o + 1]? = some (.int .i64 x.state) := q_get hP rfl
 refine Zd Tryz.func82 rfl rfl rfl fun u R => ?_
 simp only [Zo, List.cons_append, List.nil_append]
 by_cases h : x.state = 1
 ·rw [decide_eq_true h]
  repeat' (first | refine zV ?_ | intro _)
  exact qE (L' := [Xd cb next vv rv r (some ⟨b, o, none⟩), blkC b P x S]) ⟨rfl, rfl, rfl⟩
 ·rw [decide_eq_false h]
  repeat' (first | refine zV ?_ | intro _)
  exact qE (L' := [Xd cb next vv rv r (some ⟨b, o, none⟩), blkC b P x S]) ⟨rfl, rfl, rfl⟩
theorem within_spec (hP : P.length = o) : Spec Tryz.prog 148 [.pointer (some ⟨cb, 0, none⟩)] ρ [Xd cb next vv rv r (some ⟨b, o, none⟩), blkC b P x S]
  (fun z ρ' L' => z = .bool (XK x.p r) ∧ ρ' = ρ ∧ L' = [Xd cb next vv rv r (some ⟨b, o, none⟩), blkC b P x S]) := by
 have hg2 : (P ++ txQ x S)[o + 2]? = some (.int .u64 x.first) := q_get hP rfl
 have hg4 : (P ++ txQ x S)[o + 4]? = some (.int .u64 x.undo) := q_get hP rfl
 unfold XK
 simp only [Tx.p]
 refine Zd Tryz.func148 rfl rfl rfl fun u R => ?_
 simp only [Zo, List.cons_append, List.nil_append]
 by_cases h1 : x.first ≤ r.next
 ·by_cases h2 : r.next ≤ x.undo
  ·rw [decide_eq_true ⟨h1, h2⟩]
   repeat' (first | refine zV ?_ | intro _)
   refine Zu (Zk _ _ ([Xd cb next vv rv r (some ⟨b, o, none⟩), blkC b P x S])) (Zw (hT := tk) (Hp.le_refl _)) ?_
   all_goals (refine Zx 0 ?_; refine Zz ?_; refine rNc 1 ?_; refine ZN 2 ?_; refine ZN 3 ?_; refine ZQ 4 ?_; refine Zx 5 ?_; refine rNc 6 ?_; refine ZN 7 ?_; refine ZQ 8 ?_; refine rNc 9 ?_; refine ZN 10 ?_; refine ZQ 11 ?_; refine rCm 12 ?_; refine Zx 13 ?_; (first | refine Zb 14 ?_ | refine Za 14 ?_ | refine ZI 14 ?_); (first | refine Zb 15 ?_ | refine Za 15 ?_ | refine wNc 15 ?_); (first | refine Zb 16 ?_ | refine Za 16 ?_ | refine ZE 16 ?_); (first | refine Zb 17 ?_ | refine Za 17 ?_ | refine ZE 17 ?_); (first | refine Zb 18 ?_ | refine Za 18 ?_ | refine ZL 18 ?_); (first | refine Zb 19 ?_ | refine Za 19 ?_ | refine ZI 19 ?_); (first | refine Zb 20 ?_ | refine Za 20 ?_ | refine wNc 20 ?_); (first | refine Zb 21 ?_ | refine Za 21 ?_ | refine ZE 21 ?_); (first | refine Zb 22 ?_ | refine Za 22 ?_ | refine ZL 22 ?_); (first | refine Zb 23 ?_ | refine Za 23 ?_ | refine wNc 23 ?_); (first | refine Zb 24 ?_ | refine Za 24 ?_ | refine ZE 24 ?_); (first | refine Zb 25 ?_ | refine Za 25 ?_ | refine ZL 25 ?_); (first | refine Zb 26 ?_ | refine Za 26 ?_ | refine Yg 26 ?_); refine Yj 27 ?_; refine rAs 28 ?_; refine Zv ?_)
   all_goals (repeat' (first | refine zV ?_ | intro _))
   all_goals exact qE (L' := [Xd cb next vv rv r (some ⟨b, o, none⟩), blkC b P x S]) ⟨rfl, rfl, rfl⟩
  ·rw [decide_eq_false (fun e => h2 e.2)]
   repeat' (first | refine zV ?_ | intro _)
   refine Zu (Zk _ _ ([Xd cb next vv rv r (some ⟨b, o, none⟩), blkC b P x S])) (Zw (hT := tk) (Hp.le_refl _)) ?_
   all_goals (refine Zx 0 ?_; refine Zz ?_; refine rNc 1 ?_; refine ZN 2 ?_; refine ZN 3 ?_; refine ZQ 4 ?_; refine Zx 5 ?_; refine rNc 6 ?_; refine ZN 7 ?_; refine ZQ 8 ?_; refine rNc 9 ?_; refine ZN 10 ?_; refine ZQ 11 ?_; refine rCm 12 ?_; refine Zx 13 ?_; (first | refine Zb 14 ?_ | refine Za 14 ?_ | refine ZI 14 ?_); (first | refine Zb 15 ?_ | refine Za 15 ?_ | refine wNc 15 ?_); (first | refine Zb 16 ?_ | refine Za 16 ?_ | refine ZE 16 ?_); (first | refine Zb 17 ?_ | refine Za 17 ?_ | refine ZE 17 ?_); (first | refine Zb 18 ?_ | refine Za 18 ?_ | refine ZL 18 ?_); (first | refine Zb 19 ?_ | refine Za 19 ?_ | refine ZI 19 ?_); (first | refine Zb 20 ?_ | refine Za 20 ?_ | refine wNc 20 ?_); (first | refine Zb 21 ?_ | refine Za 21 ?_ | refine ZE 21 ?_); (first | refine Zb 22 ?_ | refine Za 22 ?_ | refine ZL 22 ?_); (first | refine Zb 23 ?_ | refine Za 23 ?_ | refine wNc 23 ?_); (first | refine Zb 24 ?_ | refine Za 24 ?_ | refine ZE 24 ?_); (first | refine Zb 25 ?_ | refine Za 25 ?_ | refine ZL 25 ?_); (first | refine Zb 26 ?_ | refine Za 26 ?_ | refine Yg 26 ?_); refine Yj 27 ?_; refine rAs 28 ?_; refine Zv ?_)
   all_goals (repeat' (first | refine zV ?_ | intro _))
   all_goals exact qE (L' := [Xd cb next vv rv r (some ⟨b, o, none⟩), blkC b P x S]) ⟨rfl, rfl, rfl⟩
 ·rw [decide_eq_false (fun e => h1 e.1)]
  repeat' (first | refine zV ?_ | intro _)
  refine Zu (Zk _ _ ([Xd cb next vv rv r (some ⟨b, o, none⟩), blkC b P x S])) (Zw (hT := tk) (Hp.le_refl _)) ?_
  all_goals (refine Zx 0 ?_; refine Zz ?_; refine rNc 1 ?_; refine ZN 2 ?_; refine ZN 3 ?_; refine ZQ 4 ?_; refine Zx 5 ?_; refine rNc 6 ?_; refine ZN 7 ?_; refine ZQ 8 ?_; refine rNc 9 ?_; refine ZN 10 ?_; refine ZQ 11 ?_; refine rCm 12 ?_; refine Zx 13 ?_; (first | refine Zb 14 ?_ | refine Za 14 ?_ | refine ZI 14 ?_); (first | refine Zb 15 ?_ | refine Za 15 ?_ | refine wNc 15 ?_); (first | refine Zb 16 ?_ | refine Za 16 ?_ | refine ZE 16 ?_); (first | refine Zb 17 ?_ | refine Za 17 ?_ | refine ZE 17 ?_); (first | refine Zb 18 ?_ | refine Za 18 ?_ | refine ZL 18 ?_); (first | refine Zb 19 ?_ | refine Za 19 ?_ | refine ZI 19 ?_); (first | refine Zb 20 ?_ | refine Za 20 ?_ | refine wNc 20 ?_); (first | refine Zb 21 ?_ | refine Za 21 ?_ | refine ZE 21 ?_); (first | refine Zb 22 ?_ | refine Za 22 ?_ | refine ZL 22 ?_); (first | refine Zb 23 ?_ | refine Za 23 ?_ | refine wNc 23 ?_); (first | refine Zb 24 ?_ | refine Za 24 ?_ | refine ZE 24 ?_); (first | refine Zb 25 ?_ | refine Za 25 ?_ | refine ZL 25 ?_); (first | refine Zb 26 ?_ | refine Za 26 ?_ | refine Yg 26 ?_); refine Yj 27 ?_; refine rAs 28 ?_; refine Zv ?_)
  all_goals (repeat' (first | refine zV ?_ | intro _))
  all_goals exact qE (L' := [Xd cb next vv rv r (some ⟨b, o, none⟩), blkC b P x S]) ⟨rfl, rfl, rfl⟩
abbrev cellC (pb cb : Nat) : List (Nat × Obj) := [(pb, .cells ⟨[.pointer (some ⟨cb, 0, none⟩)]⟩ 112 (0, 0))]
theorem back1_spec (t : Option Addr) (pb : Nat) (s : Lf) : Spec Tryz.prog 179 [.agg ⟨lfV s⟩, .pointer (some ⟨pb, 0, none⟩)] ρ [cellC pb cb, Xd cb next vv rv r t]
  (fun z ρ' L' => z = .bool (decide (r.next < s.lsn)) ∧ ρ' = ρ ∧ L' = [cellC pb cb, Xd cb next vv rv r t]) := by
 refine Zd Tryz.func179 rfl rfl rfl fun u R => ?_
 simp only [Zo, List.cons_append, List.nil_append]
 by_cases h : r.next < s.lsn
 ·rw [decide_eq_true h]
  repeat' (first | refine zV ?_ | intro _)
  refine Zu (Zk _ _ _) Zp ?_
  all_goals (refine ZN 0 ?_; refine Zz ?_; refine ZQ 1 ?_; refine ZQ 2 ?_; refine rNc 3 ?_; refine ZN 4 ?_; refine ZN 5 ?_; refine ZQ 6 ?_; refine rCm 7 ?_; refine rAs 8 ?_; refine Zv ?_)
  all_goals (repeat' (first | refine zV ?_ | intro _))
  all_goals exact qE (L' := [cellC pb cb, Xd cb next vv rv r t]) ⟨rfl, rfl, rfl⟩
 ·rw [decide_eq_false h]
  repeat' (first | refine zV ?_ | intro _)
  refine Zu (Zk _ _ _) Zp ?_
  all_goals (refine ZN 0 ?_; refine Zz ?_; refine ZQ 1 ?_; refine ZQ 2 ?_; refine rNc 3 ?_; refine ZN 4 ?_; refine ZN 5 ?_; refine ZQ 6 ?_; refine rCm 7 ?_; refine rAs 8 ?_; refine Zv ?_)
  all_goals (repeat' (first | refine zV ?_ | intro _))
  all_goals exact qE (L' := [cellC pb cb, Xd cb next vv rv r t]) ⟨rfl, rfl, rfl⟩
theorem back2_spec (t : Option Addr) (pb : Nat) (m : Nat) : Spec Tryz.prog 181 [Yr m, .pointer (some ⟨pb, 0, none⟩)] ρ [cellC pb cb, Xd cb next vv rv r t]
  (fun z ρ' L' => z = .bool (decide (r.next < m)) ∧ ρ' = ρ ∧ L' = [cellC pb cb, Xd cb next vv rv r t]) := by
 refine Zd Tryz.func181 rfl rfl rfl fun u R => ?_
 simp only [Zo, List.cons_append, List.nil_append]
 by_cases h : r.next < m
 ·rw [decide_eq_true h]
  repeat' (first | refine zV ?_ | intro _)
  exact qE (L' := [cellC pb cb, Xd cb next vv rv r t]) ⟨rfl, rfl, rfl⟩
 ·rw [decide_eq_false h]
  repeat' (first | refine zV ?_ | intro _)
  exact qE (L' := [cellC pb cb, Xd cb next vv rv r t]) ⟨rfl, rfl, rfl⟩
def backX (x : Tx) (to : Nat) (sv mv : SV) : Tx := { x with undo := to, stack := x.stack.filter (fun s => decide (s.lsn ≤ to)), marks := x.marks.filter (fun m => decide (m ≤ to)), sv := sv, mv := mv }
abbrev focC (cb : Nat) (next : Int) (vv : Value) (rv : RV) (r : Rc) (b o : Nat) (P : List Value) (x : Tx) (S ss ms : List Value) : SH := [Xd cb next vv rv r (some ⟨b, o, none⟩), blkC b P x S, stkC x ss, mrkC x ms]
theorem back_spec (ρ : Hp) (cb : Nat) (next : Int) (vv : Value) (rv : RV) (r : Rc) (b o : Nat) (P : List Value) (x : Tx) (S ss ms : List Value) (hP : P.length = o) (hX : OwnX x ss ms) (hsl : x.stack.length ≤ 1099511627776) (hml : x.marks.length ≤ 100) :
  Spec Tryz.prog 149 [.pointer (some ⟨cb, 0, none⟩)] ρ (focC cb next vv rv r b o P x S ss ms)
   (fun z ρ' L' => ρ' = ρ ∧ ∃ x' ss' ms', x'.p = backT x.p r.next ∧ x'.num = x.num ∧ OwnX x' ss' ms' ∧ L' = focC cb next vv rv r b o P x' S ss' ms') := by
 have hf1 : (fun s : Lf => !decide (r.next < s.lsn)) = (fun s => decide (s.lsn ≤ r.next)) := by
  funext s
  rw [← decide_not]; exact decide_eq_decide.2 (by omega)
 have hf2 : (fun s : Nat => !decide (r.next < s)) = (fun s => decide (s ≤ r.next)) := by
  funext s
  rw [← decide_not]; exact decide_eq_decide.2 (by omega)
 have hd1 := fun pb => delL_spec ρ _ ss x.stack (by omega) hX.s 179 [.pointer (some ⟨pb, 0, none⟩)] [cellC pb cb, Xd cb next vv rv r (some ⟨b, o, none⟩)] (fun s => decide (r.next < s.lsn)) (fun ρ1 _ s _ => back1_spec ρ1 cb next vv rv r (some ⟨b, o, none⟩) pb s)
 have hd2 := fun pb => delU_spec ρ _ ms x.marks (by omega) hX.m 181 [.pointer (some ⟨pb, 0, none⟩)] [cellC pb cb, Xd cb next vv rv r (some ⟨b, o, none⟩)] (fun s => decide (r.next < s)) (fun ρ1 _ s _ => back2_spec ρ1 cb next vv rv r (some ⟨b, o, none⟩) pb s)
 rw [hf1] at hd1
 rw [hf2] at hd2
 refine Zd Tryz.func149 rfl rfl rfl fun u R => ?_
 simp only [Zo, List.cons_append, List.nil_append]
 repeat' (first | refine zV ?_ | intro _)
 rename_i pb
 refine Zu (Zk _ _ ([cellC pb cb, Xd cb next vv rv r (some ⟨b, o, none⟩)])) (Zw (hT := tk) (Hp.le_refl _)) ?_
 all_goals (refine ZQ 0 ?_; refine rNc 1 ?_; refine ZN 2 ?_; refine ZQ 3 ?_; refine ZQ 4 ?_; refine rNc 5 ?_; refine ZN 6 ?_; refine ZN 7 ?_; refine ZQ 8 ?_; refine rNc 9 ?_; refine ZN 10 ?_)
 all_goals (refine Zj (i := 11) ?_; ((try refine Zh ?_); (first | (refine ZX (o := o) (P := P) rfl rfl hP rfl ?_) | (refine ZF ?_; try intro _)) <;> ((try simp only [kM, kN, kO]); refine Zf ?_; refine Zi ?_)))
 all_goals refine Zv ?_
 all_goals (repeat' (first | refine zV ?_ | intro _))
 all_goals have hg5 : (P ++ txQ { x with undo := r.next } S)[o + 5]? = some (.slice x.sv.a x.sv.n x.sv.c) := q_get hP rfl
 all_goals refine tc_phase 13 (Zk _ _ ([cellC pb cb, Xd cb next vv rv r (some ⟨b, o, none⟩), blkC b P { x with undo := r.next } S])) (by decide +kernel) (Zw (hT := tk) (Hp.le_refl _)) ?_
 all_goals simp only [List.take_succ_cons, List.take_zero]
 all_goals (refine ZQ 0 ?_; refine rNc 1 ?_; refine ZN 2 ?_; refine ZQ 3 ?_; refine ZQ 4 ?_; refine rNc 5 ?_; refine ZN 6 ?_; refine ZQ 7 ?_; refine rNc 8 ?_; refine ZN 9 ?_; refine ZQ 10 ?_; refine rMf 11 ?_)
 all_goals (refine Zj (i := 12) ?_; ((try refine Zh ?_); (first | (refine Zc (.func 178) ?_; refine qC rfl rfl (hd1 pb) ?_; rintro v ρ' L' hle ⟨rfl, s1, o1, rfl⟩ <;> (try simp only [kM, kN, kO]); obtain ⟨a1, c1, rfl, q1⟩ := o1.slice) | (refine ZX (o := o) (P := P) rfl rfl hP rfl ?_) | (refine ZF ?_; try intro _)) <;> ((try simp only [kM, kN, kO]); refine Zf ?_; refine Zi ?_)))
 all_goals refine Zv ?_
 all_goals refine te_phase (fuel := 3) (m := [true, true, true, true, true, true, true, true, true, true, true, true, true, false, false, false]) (Zk _ _ ([])) rfl rfl (Zw (hT := tk) (Hp.le_refl _)) ?_
 all_goals (refine rNc 13 ?_; refine ZN 14 ?_)
 all_goals (refine Zj (i := 15) ?_; ((try refine Zh ?_); (first | (refine ZX (o := o) (P := P) rfl rfl hP rfl ?_) | (refine ZF ?_; try intro _)) <;> ((try simp only [kM, kN, kO]); refine Zf ?_; refine Zi ?_)))
 all_goals refine Zv ?_
 all_goals (repeat' (first | refine zV ?_ | intro _))
 all_goals have hg6 : (P ++ txQ { x with undo := r.next, sv := ⟨a1, (x.stack.filter (fun s => decide (s.lsn ≤ r.next))).length, c1⟩ } S)[o + 6]? = some (.slice x.mv.a x.mv.n x.mv.c) := q_get hP rfl
 all_goals refine tc_phase 13 (Zk _ _ ([cellC pb cb, Xd cb next vv rv r (some ⟨b, o, none⟩), blkC b P { x with undo := r.next, sv := ⟨a1, (x.stack.filter (fun s => decide (s.lsn ≤ r.next))).length, c1⟩ } S])) (by decide +kernel) (Zw (hT := tk) (Hp.le_refl _)) ?_
 all_goals simp only [List.take_succ_cons, List.take_zero]
 all_goals (refine ZQ 0 ?_; refine rNc 1 ?_; refine ZN 2 ?_; refine ZQ 3 ?_; refine ZQ 4 ?_; refine rNc 5 ?_; refine ZN 6 ?_; refine ZQ 7 ?_; refine rNc 8 ?_; refine ZN 9 ?_; refine ZQ 10 ?_; refine rMf 11 ?_)
 all_goals (refine Zj (i := 12) ?_; ((try refine Zh ?_); (first | (refine Zc (.func 180) ?_; refine qC rfl rfl (hd2 pb) ?_; rintro v ρ' L' hle ⟨rfl, s2, o2, rfl⟩ <;> (try simp only [kM, kN, kO]); obtain ⟨a2, c2, rfl, q2⟩ := o2.slice) | (refine ZX (o := o) (P := P) rfl rfl hP rfl ?_) | (refine ZF ?_; try intro _)) <;> ((try simp only [kM, kN, kO]); refine Zf ?_; refine Zi ?_)))
 all_goals refine Zv ?_
 all_goals refine te_phase (fuel := 3) (m := [true, true, true, true, true, true, true, true, true, true, true, true, true, false, false, false]) (Zk _ _ ([])) rfl rfl (Zw (hT := tk) (Hp.le_refl _)) ?_
 all_goals (refine rNc 13 ?_; refine ZN 14 ?_)
 all_goals (refine Zj (i := 15) ?_; ((try refine Zh ?_); (first | (refine ZX (o := o) (P := P) rfl rfl hP rfl ?_) | (refine ZF ?_; try intro _)) <;> ((try simp only [kM, kN, kO]); refine Zf ?_; refine Zi ?_)))
 all_goals refine Zv ?_
 all_goals (repeat' (first | refine zV ?_ | intro _))
 all_goals exact qE (L' := focC cb next vv rv r b o P (backX x r.next ⟨a1, _, c1⟩ ⟨a2, _, c2⟩) S s1 s2) ⟨rfl, backX x r.next ⟨a1, _, c1⟩ ⟨a2, _, c2⟩, s1, s2, rfl, rfl, ⟨o1, o2⟩, rfl⟩
end Go.Proofs.E
