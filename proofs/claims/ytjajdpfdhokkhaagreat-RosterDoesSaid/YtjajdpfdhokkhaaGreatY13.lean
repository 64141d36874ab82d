/- The law RosterDoes. Part 13 of 20. -/
import Derived.Test.YtjajdpfdhokkhaaGreatY12
namespace Go.Proofs.E
open Go
set_option linter.unusedVariables false
set_option linter.unusedSimpArgs false
set_option linter.unusedSectionVars false
set_option maxRecDepth 4000
set_option maxHeartbeats 1000000
attribute [local irreducible] Yl TL TC TE Spec Wq R1 Hp.le EnvLe TS TR YS Zs
def imB (two : Bool) (x : Im) : List UInt8 := tB x.page :: ((if two then Xb x.b else []) ++ Xb x.a)
def Xu (s : Stp) : List UInt8 := tB s.kind :: (if s.kind = 2 ∨ s.kind = 3 then Yo s.row else tB s.row.t :: (be 2 s.row.id ++ (if s.kind = 1 then be 8 (vN s.by') else [])))
def XS (t : CkT) : List UInt8 := be 4 t.txn.toNat ++ (be 8 t.first ++ (be 8 t.last ++ (be 8 t.undo ++ [tB t.state])))
def Ww (p : CkP) : List UInt8 := tB p.page :: be 8 p.since
def XD {α : Type} (f : α → List UInt8) (l : List α) : List UInt8 := UInt8.ofNat l.length :: l.flatMap f
def recHB (r : Rc) : List UInt8 := tB r.kind :: (be 8 r.lsn ++ (be 4 r.txn.toNat ++ be 8 r.prev))
def imsB (r : Rc) : List UInt8 := XD (imB (decide (r.kind = 2))) r.ims
def recTB (r : Rc) : List UInt8 :=
 if r.kind = 2 then imsB r else if r.kind = 3 then be 8 r.next else if r.kind = 4 then be 8 r.next ++ XD Xu r.steps else if r.kind = 5 then be 8 r.next ++ imsB r
 else if r.kind = 9 then be 4 r.nextTxn.toNat ++ (XD XS r.txns ++ XD Ww r.dirty) else []
def Xv (r : Rc) : List UInt8 := recHB r ++ recTB r
structure LayOk (r : Rc) : Prop where
 kind : 0 ≤ r.kind ∧ r.kind < 256
 lsn : r.lsn < 18446744073709551616
 prev : r.prev < 18446744073709551616
 next : r.next < 18446744073709551616
 txn : 0 ≤ r.txn ∧ r.txn < 4294967296
 nextTxn : 0 ≤ r.nextTxn ∧ r.nextTxn < 4294967296
 il : r.ims.length ≤ 16
 im : ∀ x ∈ r.ims, (0 ≤ x.page ∧ x.page < 64) ∧ YI x.a = true ∧ YI x.b = true
 sl : r.steps.length ≤ 2
 st : ∀ s ∈ r.steps, YL s = true
 tl : r.txns.length ≤ 8
 tx : ∀ t ∈ r.txns, (0 ≤ t.txn ∧ t.txn < 4294967296) ∧ t.first < 18446744073709551616 ∧ t.last < 18446744073709551616 ∧ t.undo < 18446744073709551616 ∧ 0 ≤ t.state ∧ t.state < 256
 dl : r.dirty.length ≤ 64
 di : ∀ p ∈ r.dirty, (0 ≤ p.page ∧ p.page < 64) ∧ p.since < 18446744073709551616
abbrev wrC (wb : Nat) (v : RV) (r : Rc) (w : Value) : List (Nat × Obj) := [(wb, .cells ⟨[.int .i64 r.kind, .int .u64 r.lsn, .int .i64 r.txn, .int .u64 r.prev, .int .u64 r.next, .slice v.i.a v.i.n v.i.c, .slice v.s.a v.s.n v.s.c, .int .i64 r.nextTxn, .slice v.t.a v.t.n v.t.c, .slice v.d.a v.d.n v.d.c, w]⟩ 239 (0, 0))]
abbrev Wt (w : Value) (l : List UInt8) (sp : List Value) : Prop := OwnS w l.length (l.map Yc) sp 1
abbrev YV (w : Value) (l : List UInt8) (sp : List Value) : List (Nat × Obj) := ZK w (l.map Yc) sp 5
abbrev WrP (ρ : Hp) (wb : Nat) (v : RV) (r : Rc) (l : List UInt8) (z : Value) (ρ' : Hp) (L' : List (List (Nat × Obj))) : Prop :=
 z = .tuple ⟨[]⟩ ∧ ρ.le ρ' ∧ ∃ w' sp', Wt w' l sp' ∧ L' = [YV w' l sp', wrC wb v r w']
theorem put32_spec (ρ : Hp) (a : Option Addr) (n c : Nat) (l : List UInt8) (h : SIn ρ Yc a n l) (x : Nat) (hx : x < 4294967296) (hn : n ≤ 1000000) :
  Spec Tryz.prog 255 [.slice a n c, .int .u32 x] ρ [] (fun v ρ' L' => ρ' = ρ ∧ ∃ sp, OwnS v (n + 4) ((l ++ be 4 x).map Yc) sp 1 ∧ L' = [ZK v ((l ++ be 4 x).map Yc) sp 5]) := by
 have hw : IntKind.u64.wrap (x : Int) = x := WK (by simp only [lo, hi]; omega)
 have hs := stand_spec ρ a n c l h x 4 (by omega) (by omega) (by omega) hn
 refine Zg Tryz.func255 rfl rfl rfl fun u R => ?_
 simp only [Zx, List.cons_append, List.nil_append]
 repeat' (first | (refine iCv ?_; refine Zo (y_conv rfl) rfl rfl ?_; rw [hw]) | (refine Ze (.func 284) ?_; refine qC rfl rfl (hs) ?_; rintro v ρ' L' hle ⟨rfl, sp, hown, rfl⟩ <;> (try simp only [kM, kN, kO])) | (refine Zj ?_; first | (refine Zf ?_; refine qQ ?_) | refine Zn ?_) | refine Zb ?_ | (refine Zi ?_; refine Zv ?_) | (refine Zh ?_; refine Zu ?_) | intro _)
 exact qE ⟨rfl, sp, hown, rfl⟩
theorem Xm {α : Type} (f : α → List UInt8) (l : List α) : ∀ k (h : k < l.length), (l.take (k + 1)).flatMap f = (l.take k).flatMap f ++ f (l[k]'h) := fun k h => YP f l k h
theorem wbytes_spec (ρ : Hp) (wb : Nat) (v : RV) (r : Rc) (w : Value) (l : List UInt8) (sp : List Value) (hown : Wt w l sp) (hn : l.length ≤ 100000) (a : Option Addr) (m c : Nat) (ns : List Int) (h : SIn ρ (fun x : Int => Value.int .i64 x) a m ns) (hb : ∀ x ∈ ns, 0 ≤ x ∧ x < 256) (hm : m ≤ 10) :
  Spec Tryz.prog 193 [.pointer (some ⟨wb, 0, none⟩), .slice a m c] ρ [YV w l sp, wrC wb v r w] (WrP ρ wb v r (l ++ ns.map tB)) := by
 have hl := h.len
 refine Zg Tryz.func193 rfl rfl rfl fun u R => ?_
 simp only [Zx, List.cons_append, List.nil_append]
 repeat' (first | (refine Zj ?_; first | (refine Zf ?_; refine qQ ?_) | refine Zn ?_) | refine Zb ?_ | (refine Zi ?_; refine Zv ?_) | (refine Zh ?_; refine Zu ?_) | intro _)
 rw [show YV w l sp = YV w (l ++ (ns.take 0).map tB) sp by simp]
 refine ZB [(0, _), (6, _), (7, _)] (fun (ζ : (Nat) × (Value) × (List Value)) => [(8, .int .i64 ζ.1)]) (fun (ζ : (Nat) × (Value) × (List Value)) => ρ) (fun (ζ : (Nat) × (Value) × (List Value)) => [YV ζ.2.1 (l ++ (ns.take ζ.1).map tB) ζ.2.2, wrC wb v r ζ.2.1]) (fun (ζ : (Nat) × (Value) × (List Value)) => ζ.1 ≤ m ∧ Wt ζ.2.1 (l ++ (ns.take ζ.1).map tB) ζ.2.2) (fun (ζ : (Nat) × (Value) × (List Value)) => m - ζ.1) ((0, w, sp)) (⟨Nat.zero_le _, by simpa using hown⟩) Zm Zm rfl tk ?_
 rintro ⟨k, w1, sp1⟩ hI
 try simp only [List.cons_append, List.nil_append, List.append_assoc, List.append_eq] at hI ⊢
 try dsimp only at hI ⊢
 obtain ⟨hk, hown1⟩ := hI
 by_cases hlt : k < m
 ·obtain ⟨b, off, C, T, fr, e1, hbb, hcc⟩ := h.get (show k < ns.length by omega)
  have hts := List.take_succ_eq_append_getElem (show k < ns.length by omega)
  have hx := hb _ (List.getElem_mem (show k < ns.length by omega))
  generalize ns[k]'(by omega) = x at *
  have hxl : (l ++ (ns.take k).map tB).length ≤ 100010 := by simp; omega
  have hmm : (l ++ (ns.take k).map tB).map Yc ++ [Yc (tB x)] = (l ++ (ns.take (k + 1)).map tB).map Yc := by rw [hts]; simp
  have hll : (l ++ (ns.take k).map tB).length + 1 = (l ++ (ns.take (k + 1)).map tB).length := by rw [hts]; simp; omega
  have hxB := tB_eq hx.1 hx.2
  generalize hX : l ++ (ns.take k).map tB = X at *
  obtain ⟨va, vc, rfl, _⟩ := hown1.slice
  rw [e1]
  repeat' (first | (refine Zr rfl rfl rfl rfl (by simp) rfl rfl (fun _ => ?_); simp only [hxB]) | (refine ZV (ys := [Yc (tB x)]) (m := 1) rfl rfl hown1 (hR := by infer_instance) SrcV.lit rfl rfl (by decide) rfl (by omega) (by omega) rfl (fun v' sp' hown' => ?_); rw [hmm] at hown' ⊢; rw [hll] at hown'; obtain ⟨va', vc', rfl, _⟩ := hown'.slice) | (refine Zj ?_; first | (refine Zf ?_; refine qQ ?_) | refine Zn ?_) | refine Zb ?_ | (refine Zi ?_; refine Zv ?_) | (refine Zh ?_; refine Zu ?_) | intro _)
  rw [← e1]
  refine Zq (k + 1, _, sp') (⟨hlt, hown'⟩) Zm Zm rfl tk inferInstance (by first | omega | (dsimp only; omega))
 ·have hk2 : k = m := by omega
  rw [show ns.take k = ns by rw [hk2, ← hl, List.take_length]] at hown1 ⊢
  repeat' (first | (refine Zj ?_; first | (refine Zf ?_; refine qQ ?_) | refine Zn ?_) | refine Zb ?_ | (refine Zi ?_; refine Zv ?_) | (refine Zh ?_; refine Zu ?_) | intro _)
  exact qE ⟨rfl, Hp.le_refl _, w1, sp1, hown1, rfl⟩
theorem wlongs_spec (ρ : Hp) (wb : Nat) (v : RV) (r : Rc) (w : Value) (l : List UInt8) (sp : List Value) (hown : Wt w l sp) (hn : l.length ≤ 100000) (a : Option Addr) (m c : Nat) (ns : List Nat) (h : SIn ρ (fun x : Nat => Value.int .u64 (x : Int)) a m ns) (hb : ∀ x ∈ ns, x < 18446744073709551616) (hm : m ≤ 10) :
  Spec Tryz.prog 194 [.pointer (some ⟨wb, 0, none⟩), .slice a m c] ρ [YV w l sp, wrC wb v r w] (WrP ρ wb v r (l ++ ns.flatMap (be 8))) := by
 have hl := h.len
 refine Zg Tryz.func194 rfl rfl rfl fun u R => ?_
 simp only [Zx, List.cons_append, List.nil_append]
 repeat' (first | (refine Zj ?_; first | (refine Zf ?_; refine qQ ?_) | refine Zn ?_) | refine Zb ?_ | (refine Zi ?_; refine Zv ?_) | (refine Zh ?_; refine Zu ?_) | intro _)
 rw [show YV w l sp = YV w (l ++ (ns.take 0).flatMap (be 8)) sp by simp]
 refine ZB [(0, _), (6, _), (7, _)] (fun (ζ : (Nat) × (Hp) × (Value) × (List Value)) => [(8, .int .i64 ζ.1)]) (fun (ζ : (Nat) × (Hp) × (Value) × (List Value)) => ζ.2.1) (fun (ζ : (Nat) × (Hp) × (Value) × (List Value)) => [YV ζ.2.2.1 (l ++ (ns.take ζ.1).flatMap (be 8)) ζ.2.2.2, wrC wb v r ζ.2.2.1]) (fun (ζ : (Nat) × (Hp) × (Value) × (List Value)) => ζ.1 ≤ m ∧ ρ.le ζ.2.1 ∧ Wt ζ.2.2.1 (l ++ (ns.take ζ.1).flatMap (be 8)) ζ.2.2.2) (fun (ζ : (Nat) × (Hp) × (Value) × (List Value)) => m - ζ.1) ((0, ρ, w, sp)) (⟨Nat.zero_le _, Hp.le_refl _, by simpa using hown⟩) Zm Zm rfl tk ?_
 rintro ⟨k, ρ1, w1, sp1⟩ hI
 try simp only [List.cons_append, List.nil_append, List.append_assoc, List.append_eq] at hI ⊢
 try dsimp only at hI ⊢
 obtain ⟨hk, hle1, hown1⟩ := hI
 by_cases hlt : k < m
 ·obtain ⟨b, off, C, T, fr, e1, hbb, hcc⟩ := (h.mono hle1).get (show k < ns.length by omega)
  have hts := Xm (be 8) ns k (by omega)
  have hx := hb _ (List.getElem_mem (show k < ns.length by omega))
  have hfl := Yq (be 8) 8 (ns.take k) (fun x _ => Nat.le_of_eq (Zt 8 x))
  have htl : (ns.take k).length ≤ 10 := by simp; omega
  generalize ns[k]'(by omega) = x at *
  have hxl : (l ++ (ns.take k).flatMap (be 8)).length ≤ 100080 := by simp only [List.length_append]; omega
  have hmm : l ++ (ns.take k).flatMap (be 8) ++ be 8 x = l ++ (ns.take (k + 1)).flatMap (be 8) := by rw [hts]; simp
  have hll : (l ++ (ns.take k).flatMap (be 8)).length + 8 = (l ++ (ns.take (k + 1)).flatMap (be 8)).length := by rw [hts]; simp [Zt]; omega
  generalize hX : l ++ (ns.take k).flatMap (be 8) = X at *
  obtain ⟨va, vc, rfl, _⟩ := hown1.slice
  rw [e1]
  repeat' (first | (refine Ze (.func 254) ?_; refine Ys (ZK (.slice va X.length vc) (X.map Yc) sp1 5) (h := by repeat (first | exact ZH | apply ZG)) (fun ρ2 hle2 hfz => ?_); obtain ⟨a1, c1, f1, hc1, hs1⟩ := hown1.sIn hfz; cases f1; refine qC rfl rfl (put64_spec _ va _ vc _ hs1 x hx (by omega)) ?_; rintro v' ρ3 L3 hle3 ⟨rfl, sp3, hown3, rfl⟩; simp only [List.cons_append, List.nil_append]; rw [hmm, hll] at hown3; rw [hmm]; obtain ⟨va', vc', rfl, _⟩ := hown3.slice) | (refine Zj ?_; first | (refine Zf ?_; refine qQ ?_) | refine Zn ?_) | refine Zb ?_ | (refine Zi ?_; refine Zv ?_) | (refine Zh ?_; refine Zu ?_) | intro _)
  rw [← e1]
  refine Zq (k + 1, ρ3, _, sp3) (⟨hlt, Hp.le_trans hle1 hle2, hown3⟩) Zm Zm rfl tk inferInstance (by first | omega | (dsimp only; omega))
 ·have hk2 : k = m := by omega
  rw [show ns.take k = ns by rw [hk2, ← hl, List.take_length]] at hown1 ⊢
  repeat' (first | (refine Zj ?_; first | (refine Zf ?_; refine qQ ?_) | refine Zn ?_) | refine Zb ?_ | (refine Zi ?_; refine Zv ?_) | (refine Zh ?_; refine Zu ?_) | intro _)
  exact qE ⟨rfl, hle1, w1, sp1, hown1, rfl⟩
theorem wtxn_spec (ρ : Hp) (wb : Nat) (v : RV) (r : Rc) (w : Value) (l : List UInt8) (sp : List Value) (hown : Wt w l sp) (hn : l.length ≤ 100000) (x : Int) (h0 : 0 ≤ x ∧ x < 4294967296) :
  Spec Tryz.prog 195 [.pointer (some ⟨wb, 0, none⟩), .int .i64 x] ρ [YV w l sp, wrC wb v r w] (WrP ρ wb v r (l ++ be 4 x.toNat)) := by
 have hll : l.length + 4 = (l ++ be 4 x.toNat).length := by simp [Zt]
 obtain ⟨va, vc, rfl, _⟩ := hown.slice
 obtain ⟨y, rfl⟩ : ∃ y : Nat, x = y := ⟨x.toNat, by omega⟩
 simp only [Int.toNat_natCast] at hll ⊢
 refine Zg Tryz.func195 rfl rfl rfl fun u R => ?_
 simp only [Zx, List.cons_append, List.nil_append]
 repeat' (first | (refine Ze (.func 255) ?_; refine Ys (ZK (.slice va l.length vc) (l.map Yc) sp 5) (h := by repeat (first | exact ZH | apply ZG)) (fun ρ2 hle2 hfz => ?_); obtain ⟨a1, c1, f1, hc1, hs1⟩ := hown.sIn hfz; cases f1; refine qC rfl rfl (put32_spec _ va _ vc _ hs1 y (by omega) (by omega)) ?_; rintro v' ρ3 L3 hle3 ⟨rfl, sp3, hown3, rfl⟩; simp only [List.cons_append, List.nil_append]; rw [hll] at hown3; obtain ⟨va', vc', rfl, _⟩ := hown3.slice) | (refine Zj ?_; first | (refine Zf ?_; refine qQ ?_) | refine Zn ?_) | refine Zb ?_ | (refine Zi ?_; refine Zv ?_) | (refine Zh ?_; refine Zu ?_) | intro _)
 exact qE ⟨rfl, hle2, _, sp3, hown3, rfl⟩
theorem wcontent_spec (ρ : Hp) (wb : Nat) (v : RV) (r : Rc) (w : Value) (l : List UInt8) (sp : List Value) (hown : Wt w l sp) (hn : l.length ≤ 100000) (cv : CV) (c : Cont) (h : CI ρ cv c) (hok : YI c = true) :
  Spec Tryz.prog 256 [.pointer (some ⟨wb, 0, none⟩), .agg ⟨contV c.kind cv⟩] ρ [YV w l sp, wrC wb v r w] (WrP ρ wb v r (l ++ Xb c)) := by
 have hce := contE_spec ρ cv c h.cin (fun r hr => (h.row r hr).id) h.kid
 rw [if_pos hok, if_pos hok] at hce
 have h82 := Wm hok
 obtain ⟨va, vc, rfl, _⟩ := hown.slice
 refine Zg Tryz.func256 rfl rfl rfl fun u R => ?_
 simp only [Zx, List.cons_append, List.nil_append]
 repeat' (first | (refine Ze (.func 285) ?_; refine qC rfl rfl (hce) ?_; rintro v ρ' L' hle ⟨hle1, a1, n1, c1, rfl, hc1, hs1, rfl⟩ <;> (try simp only [kM, kN, kO])) | (have hn1 := hs1.len; refine ZV (ys := (Xb c).map Yc) (m := n1) (sz := 1) rfl rfl hown (hR := by infer_instance) (SIn.srcV hs1) (by simpa using hs1.len) (u8c_one _) (by decide) rfl (by omega) (by omega) rfl (fun v' sp' hown' => ?_); rw [← List.map_append] at hown' ⊢; rw [← hs1.len, ← List.length_append] at hown'; obtain ⟨va', vc', rfl, _⟩ := hown'.slice) | (refine Zj ?_; first | (refine Zf ?_; refine qQ ?_) | refine Zn ?_) | refine Zb ?_ | (refine Zi ?_; refine Zv ?_) | (refine Zh ?_; refine Zu ?_) | intro _)
 exact qE ⟨rfl, hle1, _, sp', hown', rfl⟩
theorem sIn_lit {α : Type} {g : α → Value} {ρ : Hp} {b : Nat} {l : List α} {T : TypeId} {fr : Nat × Nat} (h : ρ b = some (.cells ⟨l.map g⟩ T fr)) : SIn ρ g (some ⟨b, 0, none⟩) l.length l :=
 ⟨rfl, .inr ⟨b, 0, _, T, fr, rfl, h, by rw [List.drop_zero, List.take_of_length_le (by simp)]⟩⟩
abbrev iV (x : Int) : Value := .int .i64 x
abbrev lV (x : Nat) : Value := .int .u64 (x : Int)
theorem YN (ρ : Hp) (wb : Nat) (v : RV) (r : Rc) (w : Value) (l : List UInt8) (sp : List Value) (hown : Wt w l sp) (hn : l.length ≤ 100000) (b : Nat) (x : Int) {T : TypeId} {fr : Nat × Nat} (h : ρ b = some (.cells ⟨[.int .i64 x]⟩ T fr)) (hb : 0 ≤ x ∧ x < 256) :
  Spec Tryz.prog 193 [.pointer (some ⟨wb, 0, none⟩), .slice (some ⟨b, 0, none⟩) 1 1] ρ [YV w l sp, wrC wb v r w] (WrP ρ wb v r (l ++ [tB x])) :=
 wbytes_spec ρ wb v r w l sp hown hn _ 1 1 [x] (sIn_lit (l := [x]) (g := iV) h) (fun y hy => by rw [List.mem_singleton.1 hy]; exact hb) (by decide)
theorem wlong_spec (ρ : Hp) (wb : Nat) (v : RV) (r : Rc) (w : Value) (l : List UInt8) (sp : List Value) (hown : Wt w l sp) (hn : l.length ≤ 100000) (b : Nat) (x : Nat) {T : TypeId} {fr : Nat × Nat} (h : ρ b = some (.cells ⟨[.int .u64 (x : Int)]⟩ T fr)) (hb : x < 18446744073709551616) :
  Spec Tryz.prog 194 [.pointer (some ⟨wb, 0, none⟩), .slice (some ⟨b, 0, none⟩) 1 1] ρ [YV w l sp, wrC wb v r w] (WrP ρ wb v r (l ++ be 8 x)) := by
 have := wlongs_spec ρ wb v r w l sp hown hn _ 1 1 [x] (sIn_lit (l := [x]) (g := lV) h) (fun y hy => by rw [List.mem_singleton.1 hy]; exact hb) (by decide)
 simpa only [List.flatMap_cons, List.flatMap_nil, List.append_nil] using this
theorem wlong3_spec (ρ : Hp) (wb : Nat) (v : RV) (r : Rc) (w : Value) (l : List UInt8) (sp : List Value) (hown : Wt w l sp) (hn : l.length ≤ 100000) (b : Nat) (x y z : Nat) {T : TypeId} {fr : Nat × Nat} (h : ρ b = some (.cells ⟨[.int .u64 (x : Int), .int .u64 (y : Int), .int .u64 (z : Int)]⟩ T fr)) (hx : x < 18446744073709551616) (hy : y < 18446744073709551616) (hz : z < 18446744073709551616) :
  Spec Tryz.prog 194 [.pointer (some ⟨wb, 0, none⟩), .slice (some ⟨b, 0, none⟩) 3 3] ρ [YV w l sp, wrC wb v r w] (WrP ρ wb v r (l ++ (be 8 x ++ (be 8 y ++ be 8 z)))) := by
 have := wlongs_spec ρ wb v r w l sp hown hn _ 3 3 [x, y, z] (sIn_lit (l := [x, y, z]) (g := lV) h) (fun q hq => by simp at hq; rcases hq with rfl | rfl | rfl <;> assumption) (by decide)
 simpa only [List.flatMap_cons, List.flatMap_nil, List.append_nil] using this
theorem wnested_spec (ρ : Hp) (wb : Nat) (v : RV) (r : Rc) (w : Value) (l : List UInt8) (sp : List Value) (hown : Wt w l sp) (hn : l.length ≤ 90000) (h0 : r.next < 18446744073709551616) :
  Spec Tryz.prog 197 [.pointer (some ⟨wb, 0, none⟩)] ρ [YV w l sp, wrC wb v r w] (WrP ρ wb v r (l ++ be 8 r.next)) := by
 have hρ := Hp.le_refl ρ
 refine Zg Tryz.func197 rfl rfl rfl fun u R => ?_
 simp only [Zx, List.cons_append, List.nil_append]
 repeat' (first | (refine Zr rfl rfl rfl rfl (by simp) rfl rfl (fun bs => ?_); refine Ys _ (h := Rem.here) (fun ρz hlz hfz => ?_); have hbs := hfz _ (List.mem_singleton.2 rfl); clear hfz; have hρ := Hp.le_trans hρ hlz; clear hlz; (try simp only [List.nil_append])) | (refine Ze (.func 194) ?_; refine qC rfl rfl (wlong_spec _ wb v r w l sp hown (by omega) _ r.next hbs h0) ?_; rintro v ρ' L' hle ⟨rfl, hl1, w1, sp1, hown, rfl⟩ <;> (try simp only [kM, kN, kO])) | (refine Zj ?_; first | (refine Zf ?_; refine qQ ?_) | refine Zn ?_) | refine Zb ?_ | (refine Zi ?_; refine Zv ?_) | (refine Zh ?_; refine Zu ?_) | intro _)
 exact qE ⟨rfl, Hp.le_trans hρ hl1, w1, sp1, hown, rfl⟩
theorem imB_len {two : Bool} {x : Im} (ha : YI x.a = true) (hb : YI x.b = true) : (imB two x).length ≤ 165 := by
 have h1 := Wm ha
 have h2 := Wm hb
 cases two <;> simp [imB] <;> omega
theorem wimages_spec (ρ : Hp) (wb : Nat) (v : RV) (r : Rc) (w : Value) (l : List UInt8) (sp : List Value) (hown : Wt w l sp) (hn : l.length ≤ 80000) (h : RcIn ρ v r) (hL : LayOk r) :
  Spec Tryz.prog 196 [.pointer (some ⟨wb, 0, none⟩)] ρ [YV w l sp, wrC wb v r w] (WrP ρ wb v r (l ++ imsB r)) := by
 have hρ := Hp.le_refl ρ
 have hA := h.i.at'
 have hl := hA.len
 have hil := hL.il
 refine Zg Tryz.func196 rfl rfl rfl fun u R => ?_
 simp only [Zx, List.cons_append, List.nil_append]
 repeat' (first | (refine Zr rfl rfl rfl rfl (by simp) rfl rfl (fun bs => ?_); refine Ys _ (h := Rem.here) (fun ρz hlz hfz => ?_); have hbs := hfz _ (List.mem_singleton.2 rfl); clear hfz; have hρ := Hp.le_trans hρ hlz; clear hlz; (try simp only [List.nil_append])) | (refine Ze (.func 193) ?_; refine qC rfl rfl (YN _ wb v r w l sp hown (by omega) _ (v.i.n : Int) hbs (by omega)) ?_; rintro v ρ' L' hle ⟨rfl, hl1, w1, sp1, hown, rfl⟩ <;> (try simp only [kM, kN, kO]); have hρ := Hp.le_trans hρ hl1; clear hl1) | (refine Zj ?_; first | (refine Zf ?_; refine qQ ?_) | refine Zn ?_) | refine Zb ?_ | (refine Zi ?_; refine Zv ?_) | (refine Zh ?_; refine Zu ?_) | intro _)
 obtain ⟨B, hB⟩ : ∃ B, l ++ [tB (v.i.n : Int)] = B := ⟨_, rfl⟩
 rw [hB] at hown ⊢
 have hBl : B.length ≤ 80001 := by rw [← hB]; simp; omega
 have hfin : B ++ r.ims.flatMap (imB (decide (r.kind = 2))) = l ++ imsB r := by rw [← hB]; simp [imsB, XD, hl, tB]
 generalize hf : imB (decide (r.kind = 2)) = f at *
 rw [show YV w1 B sp1 = YV w1 (B ++ (r.ims.take 0).flatMap f) sp1 by simp]
 refine ZB [(0, _), (17, _), (18, _)] (fun (ζ : (Nat) × (Hp) × (Value) × (List Value)) => [(19, .int .i64 ζ.1)]) (fun (ζ : (Nat) × (Hp) × (Value) × (List Value)) => ζ.2.1) (fun (ζ : (Nat) × (Hp) × (Value) × (List Value)) => [YV ζ.2.2.1 (B ++ (r.ims.take ζ.1).flatMap f) ζ.2.2.2, wrC wb v r ζ.2.2.1]) (fun (ζ : (Nat) × (Hp) × (Value) × (List Value)) => ζ.1 ≤ v.i.n ∧ ρ.le ζ.2.1 ∧ Wt ζ.2.2.1 (B ++ (r.ims.take ζ.1).flatMap f) ζ.2.2.2) (fun (ζ : (Nat) × (Hp) × (Value) × (List Value)) => v.i.n - ζ.1) ((0, ρ', w1, sp1)) (⟨Nat.zero_le _, hρ, by simpa using hown⟩) Zm Zm rfl tk ?_
 rintro ⟨k, ρ1, w2, sp2⟩ hI
 try simp only [List.cons_append, List.nil_append, List.append_assoc, List.append_eq] at hI ⊢
 try dsimp only at hI ⊢
 obtain ⟨hk, hle1, hown⟩ := hI
 clear hρ
 by_cases hlt : k < v.i.n
 ·obtain ⟨b, off, C, T, fr, e1, hbb, hfit, hcc⟩ := (hA.mono hle1).get (show k < r.ims.length by omega)
  have hts := Xm f r.ims k (by omega)
  have hmem := List.getElem_mem (show k < r.ims.length by omega)
  have hin := (h.im _ hmem).mono hle1
  obtain ⟨hp, ha, hb⟩ := hL.im _ hmem
  have hfl := Yq f 165 (r.ims.take k) (fun x hx => by
   rw [← hf]; exact imB_len (hL.im x (List.mem_of_mem_take hx)).2.1 (hL.im x (List.mem_of_mem_take hx)).2.2)
  have htl : (r.ims.take k).length ≤ 16 := by simp; omega
  generalize r.ims[k]'(by omega) = x at *
  have hxl : (B ++ (r.ims.take k).flatMap f).length ≤ 83000 := by simp only [List.length_append]; omega
  have hmm : B ++ (r.ims.take k).flatMap f ++ f x = B ++ (r.ims.take (k + 1)).flatMap f := by rw [hts]; simp
  generalize hX : B ++ (r.ims.take k).flatMap f = X at *
  have hρ := Hp.le_refl ρ1
  have h82 := Wm hb
  have h83 := Wm ha
  rw [e1]
  by_cases h2 : r.kind = 2
  ·have hfx : f x = tB x.page :: (Xb x.b ++ Xb x.a) := by rw [← hf, h2]; rfl
   repeat' (first | (refine Zr rfl rfl rfl rfl (by simp) rfl rfl (fun bs => ?_); refine Ys _ (h := Rem.here) (fun ρz hlz hfz => ?_); have hbs := hfz _ (List.mem_singleton.2 rfl); clear hfz; have hρ := Hp.le_trans hρ hlz; clear hlz; (try simp only [List.nil_append])) | (refine Ze (.func 193) ?_; refine qC rfl rfl (YN _ wb v r w2 X sp2 hown (by omega) _ x.page hbs (by omega)) ?_; rintro v ρ' L' hle ⟨rfl, hl1, w3, sp3, hown, rfl⟩ <;> (try simp only [kM, kN, kO]); have hρ := Hp.le_trans hρ hl1; clear hl1) | (refine Ze (.func 256) ?_; refine qC rfl rfl ((wcontent_spec _ wb v r w3 _ sp3 hown (by (try simp only [List.length_append, List.length_cons, List.length_nil, List.length_map, Zt]) <;> omega) x.bv x.b (hin.b.mono hρ) hb)) ?_; rintro v ρ' L' hle ⟨rfl, hl1, w4, sp4, hown, rfl⟩ <;> (try simp only [kM, kN, kO]); have hρ := Hp.le_trans hρ hl1; clear hl1) | (refine Ze (.func 256) ?_; refine qC rfl rfl ((wcontent_spec _ wb v r w4 _ sp4 hown (by (try simp only [List.length_append, List.length_cons, List.length_nil, List.length_map, Zt]) <;> omega) x.av x.a (hin.a.mono hρ) ha)) ?_; rintro v ρ' L' hle ⟨rfl, hl1, w5, sp5, hown, rfl⟩ <;> (try simp only [kM, kN, kO]); have hρ := Hp.le_trans hρ hl1; clear hl1) | (refine Zj ?_; first | (refine Zf ?_; refine qQ ?_) | refine Zn ?_) | refine Zb ?_ | (refine Zi ?_; refine Zv ?_) | (refine Zh ?_; refine Zu ?_) | intro _)
   rw [← e1]
   have e2 : X ++ [tB x.page] ++ Xb x.b ++ Xb x.a = B ++ (r.ims.take (k + 1)).flatMap f := by rw [← hmm, hfx]; simp
   rw [e2] at hown ⊢
   refine Zq (k + 1, _, w5, sp5) (⟨hlt, Hp.le_trans hle1 hρ, hown⟩) Zm Zm rfl tk inferInstance (by first | omega | (dsimp only; omega))
  ·have hfx : f x = tB x.page :: Xb x.a := by rw [← hf, decide_eq_false h2]; rfl
   repeat' (first | (refine Zr rfl rfl rfl rfl (by simp) rfl rfl (fun bs => ?_); refine Ys _ (h := Rem.here) (fun ρz hlz hfz => ?_); have hbs := hfz _ (List.mem_singleton.2 rfl); clear hfz; have hρ := Hp.le_trans hρ hlz; clear hlz; (try simp only [List.nil_append])) | (refine Ze (.func 193) ?_; refine qC rfl rfl (YN _ wb v r w2 X sp2 hown (by omega) _ x.page hbs (by omega)) ?_; rintro v ρ' L' hle ⟨rfl, hl1, w3, sp3, hown, rfl⟩ <;> (try simp only [kM, kN, kO]); have hρ := Hp.le_trans hρ hl1; clear hl1) | (refine Ze (.func 256) ?_; refine qC rfl rfl ((wcontent_spec _ wb v r w3 _ sp3 hown (by (try simp only [List.length_append, List.length_cons, List.length_nil, List.length_map, Zt]) <;> omega) x.av x.a (hin.a.mono hρ) ha)) ?_; rintro v ρ' L' hle ⟨rfl, hl1, w5, sp5, hown, rfl⟩ <;> (try simp only [kM, kN, kO]); have hρ := Hp.le_trans hρ hl1; clear hl1) | (refine Zj ?_; first | (refine Zf ?_; refine qQ ?_) | refine Zn ?_) | refine Zb ?_ | (refine Zi ?_; refine Zv ?_) | (refine Zh ?_; refine Zu ?_) | intro _)
   rw [← e1]
   have e2 : X ++ [tB x.page] ++ Xb x.a = B ++ (r.ims.take (k + 1)).flatMap f := by rw [← hmm, hfx]; simp
   rw [e2] at hown ⊢
   refine Zq (k + 1, _, w5, sp5) (⟨hlt, Hp.le_trans hle1 hρ, hown⟩) Zm Zm rfl tk inferInstance (by first | omega | (dsimp only; omega))
 ·rw [show r.ims.take k = r.ims by rw [show k = r.ims.length by omega, List.take_length], hfin] at hown ⊢
  repeat' (first | (refine Zj ?_; first | (refine Zf ?_; refine qQ ?_) | refine Zn ?_) | refine Zb ?_ | (refine Zi ?_; refine Zv ?_) | (refine Zh ?_; refine Zu ?_) | intro _)
  exact qE ⟨rfl, hle1, w2, sp2, hown, rfl⟩
theorem wundone_spec (ρ : Hp) (wb : Nat) (v : RV) (r : Rc) (w : Value) (l : List UInt8) (sp : List Value) (hown : Wt w l sp) (hn : l.length ≤ 70000) (h : RcIn ρ v r) (hL : LayOk r) :
  Spec Tryz.prog 199 [.pointer (some ⟨wb, 0, none⟩)] ρ [YV w l sp, wrC wb v r w] (WrP ρ wb v r (l ++ (be 8 r.next ++ imsB r))) := by
 refine Zg Tryz.func199 rfl rfl rfl fun u R => ?_
 simp only [Zx, List.cons_append, List.nil_append]
 repeat' (first | (refine Ze (.func 197) ?_; refine qC rfl rfl (wnested_spec _ wb v r w l sp hown (by omega) hL.next) ?_; rintro v ρ' L' hle ⟨rfl, hl1, w1, sp1, hown, rfl⟩ <;> (try simp only [kM, kN, kO])) | (refine Ze (.func 196) ?_; refine qC rfl rfl (wimages_spec _ wb v r w1 _ sp1 hown (by (try simp only [List.length_append, List.length_cons, List.length_nil, List.length_map, Zt]) <;> omega) (h.mono hl1) hL) ?_; rintro v ρ' L' hle ⟨rfl, hl2, w2, sp2, hown, rfl⟩ <;> (try simp only [kM, kN, kO])) | (refine Zj ?_; first | (refine Zf ?_; refine qQ ?_) | refine Zn ?_) | refine Zb ?_ | (refine Zi ?_; refine Zv ?_) | (refine Zh ?_; refine Zu ?_) | intro _)
 rw [List.append_assoc] at hown ⊢
 exact qE ⟨rfl, Hp.le_trans hl1 hl2, w2, sp2, hown, rfl⟩
abbrev ztC : Cont := ⟨0, [], []⟩
abbrev nilCV : CV := ⟨none, 0, 0, none, 0, 0⟩
def zeroRc : Rc := ⟨0, 0, 0, 0, 0, [], [], 0, [], []⟩
abbrev Im.plain (x : Im) : Im := ⟨x.page, nilCV, x.b, nilCV, x.a⟩
abbrev Rc.plain (r : Rc) : Rc := { r with ims := r.ims.map Im.plain }
theorem up_all {α : Type} {right : α → Bool} {by' : α → Int} {l : List α} (h : upB right by' l l.length = true) : ∀ i (hi : i < l.length), right l[i] = true ∧ (i = 0 ∨ by' (l[i - 1]'(by omega)) < by' l[i]) := by
 intro i hi
 obtain ⟨h1, h2⟩ := (WH h (Nat.le_refl _)).2 i hi hi
 refine ⟨h1, ?_⟩
 rcases h2 with h2 | h2
 ·exact .inl h2
 ·exact .inr (of_decide_eq_true h2)
theorem up_mem {α : Type} {right : α → Bool} {by' : α → Int} {l : List α} (h : upB right by' l l.length = true) : ∀ x ∈ l, right x = true := by
 intro x hx
 obtain ⟨i, hi, rfl⟩ := List.mem_iff_getElem.1 hx
 exact (up_all h i hi).1
theorem ckP_len {lsn : Nat} {l : List CkP} (h : upB (ckPOk lsn) CkP.page l l.length = true) : l.length ≤ 64 := by
 have hp : ∀ i (hi : i < l.length), 0 ≤ l[i].page ∧ l[i].page < 64 := fun i hi => by
  have := (up_all h i hi).1
  unfold ckPOk pageOk at this
  rw [Bool.and_eq_true, decide_eq_true_eq] at this
  exact this.1
 have hi : ∀ i (hi : i < l.length), (i : Int) ≤ l[i].page := by
  intro i
  induction i with
  | zero => intro hi; exact (hp 0 hi).1
  | succ i ih =>
   intro hi
   have h1 := ih (by omega)
   have h2 := (up_all h (i + 1) hi).2
   simp only [Nat.add_sub_cancel] at h2
   omega
 rcases Nat.lt_or_ge 64 l.length with hl | hl
 ·have := hi 64 hl
  have := hp 64 hl
  omega
 ·exact hl
structure RecOk (r : Rc) : Prop where
 kind : 1 ≤ r.kind ∧ r.kind ≤ 9
 lsn : 1 ≤ r.lsn ∧ r.lsn ≤ 1099511627776 ∧ r.prev < r.lsn
 txn : 0 ≤ r.txn ∧ r.txn ≤ 1073741824
 next : r.next ≤ r.lsn
 n0 : r.next = 0 ∨ r.kind = 3 ∨ r.kind = 4 ∨ r.kind = 5
 i0 : r.ims = [] ∨ r.kind = 2 ∨ r.kind = 5
 s0 : r.steps = [] ∨ r.kind = 4
 c0 : (r.txns = [] ∧ r.dirty = [] ∧ r.nextTxn = 0) ∨ r.kind = 9
 il : r.ims.length ≤ 16
 im : ∀ x ∈ r.ims, (0 ≤ x.page ∧ x.page < 64) ∧ YI x.a = true ∧ YI x.b = true
 i5 : r.kind = 5 → ∀ x ∈ r.ims, x.b = ztC
 sl : r.steps.length ≤ 2
 st : ∀ s ∈ r.steps, YL s = true
 nt : 0 ≤ r.nextTxn ∧ r.nextTxn ≤ 1073741824
 tl : r.txns.length ≤ 8
 tx : ∀ t ∈ r.txns, ckTOk r.lsn r.nextTxn t = true
 dl : r.dirty.length ≤ 64
 di : ∀ p ∈ r.dirty, ckPOk r.lsn p = true
theorem ims_facts {b : Bool} {l : List Im} (h : imsOk b l = true) : l.length ≤ 16 ∧ (∀ x ∈ l, (0 ≤ x.page ∧ x.page < 64) ∧ YI x.a = true ∧ YI x.b = true) ∧ (b = false → ∀ x ∈ l, x.b = ztC) := by
 unfold imsOk at h
 rw [Bool.and_eq_true, decide_eq_true_eq] at h
 obtain ⟨h1, h2⟩ := h
 have h3 := up_mem h2
 have h4 : ∀ x ∈ l, (0 ≤ x.page ∧ x.page < 64) ∧ YI x.a = true ∧ YI x.b = true ∧ (b = true ∨ x.b.kind = 0) := fun x hx => by
  have := h3 x hx
  unfold imOk pageOk at this
  rw [Bool.and_eq_true, Bool.and_eq_true, Bool.and_eq_true, Bool.or_eq_true, decide_eq_true_eq, decide_eq_true_eq] at this
  exact this
 refine ⟨h1, fun x hx => ⟨(h4 x hx).1, (h4 x hx).2.1, (h4 x hx).2.2.1⟩, fun hb x hx => ?_⟩
 obtain ⟨_, _, g3, g4⟩ := h4 x hx
 have g5 : x.b.kind = 0 := by
  rcases g4 with g4 | g4
  ·rw [hb] at g4; cases g4
  ·exact g4
 rcases contB_form g3 with e | e | e
 ·exact e.2.1
 ·omega
 ·omega
theorem We {r : Rc} (h : YF r = true) : RecOk r := by
 unfold YF headOk bareOk at h
 rw [Bool.and_eq_true, Bool.and_eq_true, Bool.and_eq_true, decide_eq_true_eq, decide_eq_true_eq, decide_eq_true_eq] at h
 obtain ⟨hk, ⟨h1, h2, h3, h4, h5, h6, h7⟩, ha, b1, b2, b3, b4⟩ := h
 unfold askOk at ha
 obtain ⟨k, lsn, txn, prev, next, ims, steps, nt, txns, dirty⟩ := r
 dsimp only at *
 by_cases k2 : k = 2
 ·rw [if_pos k2, Bool.and_eq_true] at ha
  obtain ⟨f1, f2, f3⟩ := ims_facts ha.2
  obtain rfl : steps = [] := by rcases b3 with b3 | b3 <;> first | exact b3 | omega
  obtain ⟨rfl, rfl, rfl⟩ : txns = [] ∧ dirty = [] ∧ nt = 0 := by rcases b4 with b4 | b4 <;> first | exact b4 | omega
  exact ⟨hk, ⟨h1, h2, h3⟩, ⟨h4, h5⟩, by dsimp only; omega, b1, b2, b3, b4, f1, f2, fun e => by dsimp only at e; omega, by simp, by simp, by simp, by simp, by simp, by simp, by simp⟩
 ·rw [if_neg k2] at ha
  by_cases k3 : k = 3
  ·rw [if_pos k3, decide_eq_true_eq] at ha
   obtain rfl : ims = [] := by rcases b2 with b2 | b2 <;> first | exact b2 | omega
   obtain rfl : steps = [] := by rcases b3 with b3 | b3 <;> first | exact b3 | omega
   obtain ⟨rfl, rfl, rfl⟩ : txns = [] ∧ dirty = [] ∧ nt = 0 := by rcases b4 with b4 | b4 <;> first | exact b4 | omega
   exact ⟨hk, ⟨h1, h2, h3⟩, ⟨h4, h5⟩, by dsimp only; omega, b1, b2, b3, b4, by simp, by simp, by simp, by simp, by simp, by simp, by simp, by simp, by simp, by simp⟩
  ·rw [if_neg k3] at ha
   by_cases k4 : k = 4
   ·rw [if_pos k4, Bool.and_eq_true, Bool.and_eq_true, decide_eq_true_eq, decide_eq_true_eq] at ha
    obtain rfl : ims = [] := by rcases b2 with b2 | b2 <;> first | exact b2 | omega
    obtain ⟨rfl, rfl, rfl⟩ : txns = [] ∧ dirty = [] ∧ nt = 0 := by rcases b4 with b4 | b4 <;> first | exact b4 | omega
    exact ⟨hk, ⟨h1, h2, h3⟩, ⟨h4, h5⟩, by dsimp only; omega, b1, b2, b3, b4, by simp, by simp, by simp, ha.2.1.2, List.all_eq_true.1 ha.2.2, by simp, by simp, by simp, by simp, by simp⟩
   ·rw [if_neg k4] at ha
    by_cases k5 : k = 5
    ·rw [if_pos k5, Bool.and_eq_true, decide_eq_true_eq] at ha
     obtain ⟨f1, f2, f3⟩ := ims_facts ha.2
     obtain rfl : steps = [] := by rcases b3 with b3 | b3 <;> first | exact b3 | omega
     obtain ⟨rfl, rfl, rfl⟩ : txns = [] ∧ dirty = [] ∧ nt = 0 := by rcases b4 with b4 | b4 <;> first | exact b4 | omega
     exact ⟨hk, ⟨h1, h2, h3⟩, ⟨h4, h5⟩, by dsimp only; omega, b1, b2, b3, b4, f1, f2, fun _ => f3 rfl, by simp, by simp, by simp, by simp, by simp, by simp, by simp⟩
    ·rw [if_neg k5] at ha
     obtain rfl : ims = [] := by rcases b2 with b2 | b2 <;> first | exact b2 | omega
     obtain rfl : steps = [] := by rcases b3 with b3 | b3 <;> first | exact b3 | omega
     by_cases k9 : k = 9
     ·rw [if_pos k9, Bool.and_eq_true, Bool.and_eq_true, decide_eq_true_eq] at ha
      obtain ⟨⟨a1, a2, a3⟩, a4, a5⟩ := ha
      exact ⟨hk, ⟨h1, h2, h3⟩, ⟨h4, h5⟩, by dsimp only; omega, b1, b2, b3, b4, by simp, by simp, by simp, by simp, by simp, ⟨by dsimp only; omega, a2⟩, a3, up_mem a4, ckP_len a5, up_mem a5⟩
     ·obtain ⟨rfl, rfl, rfl⟩ : txns = [] ∧ dirty = [] ∧ nt = 0 := by rcases b4 with b4 | b4 <;> first | exact b4 | omega
      exact ⟨hk, ⟨h1, h2, h3⟩, ⟨h4, h5⟩, by dsimp only; omega, b1, b2, b3, b4, by simp, by simp, by simp, by simp, by simp, by simp, by simp, by simp, by simp, by simp⟩
theorem ContFit.id' {c : Cont} (h : ContFit c) : IdFit c := ⟨h.row, fun k hk => (h.kid k hk).id⟩
theorem stpB_len {s : Stp} (h : YL s = true) : (Xu s).length ≤ 21 := by
 unfold Xu
 by_cases h23 : s.kind = 2 ∨ s.kind = 3
 ·rw [if_pos h23]
  have hr : Xl s.row = true := by
   unfold YL at h
   rw [if_neg (by omega), if_neg (by omega), if_pos h23, Bool.and_eq_true] at h
   exact h.2
  have := rowB_le hr
  simp; omega
 ·rw [if_neg h23]
  split <;> simp [Zt]
theorem ckTB_len (t : CkT) : (XS t).length = 29 := by simp [XS, Zt]
theorem ckPB_len (p : CkP) : (Ww p).length = 9 := by simp [Ww, Zt]
theorem step_kinds {s : Stp} (h : YL s = true) : (s.kind = 1 ∨ s.kind = 2 ∨ s.kind = 3 ∨ s.kind = 4) ∧ ((s.kind = 2 ∨ s.kind = 3) → Xl s.row = true) ∧ (¬ (s.kind = 2 ∨ s.kind = 3) → 0 ≤ s.row.t ∧ s.row.t < 3) := by
 unfold YL at h
 by_cases h1 : s.kind = 1
 ·rw [if_pos h1] at h
  unfold onlyOk at h
  rw [Bool.and_eq_true, decide_eq_true_eq, decide_eq_true_eq] at h
  exact ⟨.inl h1, fun e => by omega, fun _ => h.2⟩
 ·rw [if_neg h1] at h
  by_cases h4 : s.kind = 4
  ·rw [if_pos h4] at h
   unfold onlyOk at h
   rw [Bool.and_eq_true, Bool.and_eq_true, decide_eq_true_eq, decide_eq_true_eq] at h
   exact ⟨by omega, fun e => by omega, fun _ => h.1.2⟩
  ·rw [if_neg h4] at h
   by_cases h23 : s.kind = 2 ∨ s.kind = 3
   ·rw [if_pos h23, Bool.and_eq_true] at h
    exact ⟨by omega, fun _ => h.2, fun e => absurd h23 e⟩
   ·rw [if_neg h23] at h; cases h
theorem wdone_spec (ρ : Hp) (wb : Nat) (v : RV) (r : Rc) (w : Value) (l : List UInt8) (sp : List Value) (hown : Wt w l sp) (hn : l.length ≤ 70000) (h : RcIn ρ v r) (hL : LayOk r) :
  Spec Tryz.prog 198 [.pointer (some ⟨wb, 0, none⟩)] ρ [YV w l sp, wrC wb v r w] (WrP ρ wb v r (l ++ (be 8 r.next ++ XD Xu r.steps))) := by
 have hρ := Hp.le_refl ρ
 have hA := h.s.at'
 have hl := hA.len
 have hil := hL.sl
 refine Zg Tryz.func198 rfl rfl rfl fun u R => ?_
 simp only [Zx, List.cons_append, List.nil_append]
 repeat' (first | (refine Zr rfl rfl rfl rfl (by simp) rfl rfl (fun bs => ?_); refine Ys _ (h := Rem.here) (fun ρz hlz hfz => ?_); have hbs := hfz _ (List.mem_singleton.2 rfl); clear hfz; have hρ := Hp.le_trans hρ hlz; clear hlz; (try simp only [List.nil_append])) | (refine Ze (.func 197) ?_; refine qC rfl rfl (wnested_spec _ wb v r w l sp hown (by omega) hL.next) ?_; rintro v ρ' L' hle ⟨rfl, hl1, w0, sp0, hown, rfl⟩ <;> (try simp only [kM, kN, kO]); have hρ := Hp.le_trans hρ hl1; clear hl1) | (refine Ze (.func 193) ?_; refine qC rfl rfl (YN _ wb v r w0 _ sp0 hown (by (try simp only [List.length_append, List.length_cons, List.length_nil, List.length_map, Zt]) <;> omega) _ (v.s.n : Int) hbs (by omega)) ?_; rintro v ρ' L' hle ⟨rfl, hl1, w1, sp1, hown, rfl⟩ <;> (try simp only [kM, kN, kO]); have hρ := Hp.le_trans hρ hl1; clear hl1) | (refine Zj ?_; first | (refine Zf ?_; refine qQ ?_) | refine Zn ?_) | refine Zb ?_ | (refine Zi ?_; refine Zv ?_) | (refine Zh ?_; refine Zu ?_) | intro _)
 obtain ⟨B, hB⟩ : ∃ B, l ++ be 8 r.next ++ [tB (v.s.n : Int)] = B := ⟨_, rfl⟩
 rw [hB] at hown ⊢
 have hBl : B.length ≤ 80001 := by rw [← hB]; simp [Zt]; omega
 have hfin : B ++ r.steps.flatMap Xu = l ++ (be 8 r.next ++ XD Xu r.steps) := by rw [← hB]; simp [XD, hl, tB]
 rw [show YV w1 B sp1 = YV w1 (B ++ (r.steps.take 0).flatMap Xu) sp1 by simp]
 refine ZB [(0, _), (21, _), (22, _)] (fun (ζ : (Nat) × (Hp) × (Value) × (List Value)) => [(23, .int .i64 ζ.1)]) (fun (ζ : (Nat) × (Hp) × (Value) × (List Value)) => ζ.2.1) (fun (ζ : (Nat) × (Hp) × (Value) × (List Value)) => [YV ζ.2.2.1 (B ++ (r.steps.take ζ.1).flatMap Xu) ζ.2.2.2, wrC wb v r ζ.2.2.1]) (fun (ζ : (Nat) × (Hp) × (Value) × (List Value)) => ζ.1 ≤ v.s.n ∧ ρ.le ζ.2.1 ∧ Wt ζ.2.2.1 (B ++ (r.steps.take ζ.1).flatMap Xu) ζ.2.2.2) (fun (ζ : (Nat) × (Hp) × (Value) × (List Value)) => v.s.n - ζ.1) ((0, ρ', w1, sp1)) (⟨Nat.zero_le _, hρ, by simpa using hown⟩) Zm Zm rfl tk ?_
 rintro ⟨k, ρ1, w2, sp2⟩ hI
 try simp only [List.cons_append, List.nil_append, List.append_assoc, List.append_eq] at hI ⊢
 try dsimp only at hI ⊢
 obtain ⟨hk, hle1, hown⟩ := hI
 clear hρ
 by_cases hlt : k < v.s.n
 ·obtain ⟨b, off, C, T, fr, e1, hbb, hfit, hcc⟩ := (hA.mono hle1).get (show k < r.steps.length by omega)
  have hts := Xm Xu r.steps k (by omega)
  have hmem := List.getElem_mem (show k < r.steps.length by omega)
  have hsf := h.sf _ hmem
  obtain ⟨hk4, hr23, hkt⟩ := step_kinds (hL.st _ hmem)
  have hfl := Yq Xu 21 (r.steps.take k) (fun x hx => stpB_len (hL.st x (List.mem_of_mem_take hx)))
  have htl : (r.steps.take k).length ≤ 2 := by simp; omega
  generalize r.steps[k]'(by omega) = x at *
  have hxl : (B ++ (r.steps.take k).flatMap Xu).length ≤ 83000 := by simp only [List.length_append]; omega
  have hmm : B ++ (r.steps.take k).flatMap Xu ++ Xu x = B ++ (r.steps.take (k + 1)).flatMap Xu := by rw [hts]; simp
  generalize hX : B ++ (r.steps.take k).flatMap Xu = X at *
  have hρ := Hp.le_refl ρ1
  rw [e1]
  by_cases h23 : x.kind = 2 ∨ x.kind = 3
  ·have hst : Xu x = tB x.kind :: Yo x.row := by unfold Xu; rw [if_pos h23]
   have hre := fun ρ => rowE_spec ρ x.row hsf.id
   have hrl := rowB_le (hr23 h23)
   rw [if_pos (hr23 h23), if_pos (hr23 h23)] at hre
   have hmm2 : (X ++ [tB x.kind]).map Yc ++ (Yo x.row).map Yc = (B ++ (r.steps.take (k + 1)).flatMap Xu).map Yc := by rw [← hmm, hst]; simp
   have hll2 : (X ++ [tB x.kind]).length + (Yo x.row).length = (B ++ (r.steps.take (k + 1)).flatMap Xu).length := by rw [← hmm, hst]; simp; omega
   have hx1 : (X ++ [tB x.kind]).length ≤ 84000 := by simp; omega
   rcases h23 with h2 | h2
   all_goals (repeat' (first | (refine Zr rfl rfl rfl rfl (by simp) rfl rfl (fun bs => ?_); refine Ys _ (h := Rem.here) (fun ρz hlz hfz => ?_); have hbs := hfz _ (List.mem_singleton.2 rfl); clear hfz; have hρ := Hp.le_trans hρ hlz; clear hlz; (try simp only [List.nil_append])) | (refine Ze (.func 193) ?_; refine qC rfl rfl (YN _ wb v r w2 X sp2 hown (by omega) _ x.kind hbs (by omega)) ?_; rintro v ρ' L' hle ⟨rfl, hl1, w3, sp3, hown, rfl⟩ <;> (try simp only [kM, kN, kO]); have hρ := Hp.le_trans hρ hl1; clear hl1; obtain ⟨va, vc, rfl, _⟩ := hown.slice) | (refine Ze (.func 257) ?_; refine qC rfl rfl (hre _) ?_; rintro v ρ' L' hle ⟨hl1, a1, n1, c1, rfl, hc1, hs1, rfl⟩ <;> (try simp only [kM, kN, kO]); have hρ := Hp.le_trans hρ hl1; clear hl1) | (have hn1 := hs1.len; refine ZV (ys := (Yo x.row).map Yc) (m := n1) (sz := 1) rfl rfl hown (hR := by infer_instance) (SIn.srcV hs1) (by simpa using hs1.len) (u8c_one _) (by decide) rfl (by omega) (by omega) rfl (fun v' sp' hown' => ?_); rw [hmm2] at hown' ⊢; rw [← hs1.len, hll2] at hown'; obtain ⟨va', vc', rfl, _⟩ := hown'.slice) | (refine Zj ?_; first | (refine Zf ?_; refine qQ ?_) | refine Zn ?_) | refine Zb ?_ | (refine Zi ?_; refine Zv ?_) | (refine Zh ?_; refine Zu ?_) | intro _))
   all_goals rw [← e1]
   all_goals refine Zq (k + 1, _, _, sp') (⟨hlt, Hp.le_trans hle1 hρ, hown'⟩) Zm Zm rfl tk inferInstance (by first | omega | (dsimp only; omega))
  ·have hkt := hkt h23
   have hst : Xu x = tB x.kind :: (tB x.row.t :: (be 2 x.row.id ++ (if x.kind = 1 then be 8 (vN x.by') else []))) := by unfold Xu; rw [if_neg h23]
   have hll2 : (X ++ [tB x.kind] ++ [tB x.row.t]).length + 2 = (X ++ [tB x.kind] ++ [tB x.row.t] ++ be 2 x.row.id).length := by simp [Zt]
   rcases (show x.kind = 1 ∨ x.kind = 4 by omega) with h1 | h1
   ·rw [if_pos h1] at hst
    have hvl := vN_lt x.by'
    repeat' (first | (refine Zr rfl rfl rfl rfl (by simp) rfl rfl (fun bs => ?_); refine Ys _ (h := Rem.here) (fun ρz hlz hfz => ?_); have hbs := hfz _ (List.mem_singleton.2 rfl); clear hfz; have hρ := Hp.le_trans hρ hlz; clear hlz; (try simp only [List.nil_append])) | (refine Ze (.func 193) ?_; refine qC rfl rfl (YN _ wb v r w2 X sp2 hown (by omega) _ x.kind hbs (by omega)) ?_; rintro v ρ' L' hle ⟨rfl, hl1, w3, sp3, hown, rfl⟩ <;> (try simp only [kM, kN, kO]); have hρ := Hp.le_trans hρ hl1; clear hl1; obtain ⟨va, vc, rfl, _⟩ := hown.slice) | (refine Ze (.func 193) ?_; refine qC rfl rfl (YN _ wb v r _ _ sp3 hown (by (try simp only [List.length_append, List.length_cons, List.length_nil, List.length_map, Zt]) <;> omega) _ x.row.t hbs (by omega)) ?_; rintro v ρ' L' hle ⟨rfl, hl1, w4, sp4, hown, rfl⟩ <;> (try simp only [kM, kN, kO]); have hρ := Hp.le_trans hρ hl1; clear hl1; obtain ⟨va, vc, rfl, _⟩ := hown.slice) | (refine Zj ?_; first | (refine Zf ?_; refine qQ ?_) | refine Zn ?_) | refine Zb ?_ | (refine Zi ?_; refine Zv ?_) | (refine Zh ?_; refine Zu ?_) | intro _)
    refine ZD (Zs _ _ ([[(_, .cells ⟨stpV x⟩ 103 (0, 0))]])) (Zz (hT := tk) (Hp.le_refl _)) ?_
    all_goals (refine ZT 0 ?_; refine ZT 1 ?_; refine rNc 2 ?_; refine ZS 3 ?_; refine ZS 5 ?_; refine ZS 6 ?_; refine ZS 7 ?_; refine ZX 8 ?_)
    all_goals (refine Zp (i := 4) ?_; ((try refine Zk ?_); (first | (refine Ze (.func 258) ?_; refine Ys (YV (.slice va (X ++ [tB x.kind] ++ [tB x.row.t]).length vc) (X ++ [tB x.kind] ++ [tB x.row.t]) sp4) (h := by repeat (first | exact ZH | apply ZG)) (fun ρ2 hle2 hfz => ?_); obtain ⟨a1, c1, f1, hc1, hs1⟩ := hown.sIn hfz; cases f1; refine qC rfl rfl (put16_spec _ va _ vc _ hs1 x.row.id hsf.id (by (try simp only [List.length_append, List.length_cons, List.length_nil, List.length_map, Zt]) <;> omega)) ?_; rintro v' ρ3 L3 hle3 ⟨rfl, sp5, hown, rfl⟩; simp only [List.cons_append, List.nil_append]; rw [hll2] at hown; obtain ⟨va, vc, rfl, _⟩ := hown.slice; have hρ := Hp.le_trans hρ hle2) | (refine Zf ?_; refine qQ ?_) | (refine Zn ?_; try intro _)) <;> ((try simp only [kM, kN, kO]); refine Zb ?_; refine Zl ?_)))
    all_goals (refine Zp (i := 9) ?_; ((try refine Zk ?_); (first | (refine Ze (.func 258) ?_; refine Ys (YV (.slice va (X ++ [tB x.kind] ++ [tB x.row.t]).length vc) (X ++ [tB x.kind] ++ [tB x.row.t]) sp4) (h := by repeat (first | exact ZH | apply ZG)) (fun ρ2 hle2 hfz => ?_); obtain ⟨a1, c1, f1, hc1, hs1⟩ := hown.sIn hfz; cases f1; refine qC rfl rfl (put16_spec _ va _ vc _ hs1 x.row.id hsf.id (by (try simp only [List.length_append, List.length_cons, List.length_nil, List.length_map, Zt]) <;> omega)) ?_; rintro v' ρ3 L3 hle3 ⟨rfl, sp5, hown, rfl⟩; simp only [List.cons_append, List.nil_append]; rw [hll2] at hown; obtain ⟨va, vc, rfl, _⟩ := hown.slice; have hρ := Hp.le_trans hρ hle2) | (refine Zf ?_; refine qQ ?_) | (refine Zn ?_; try intro _)) <;> ((try simp only [kM, kN, kO]); refine Zb ?_; refine Zl ?_)))
    all_goals (refine rNc 10 ?_; refine ZS 11 ?_)
    all_goals (refine Zp (i := 12) ?_; ((try refine Zk ?_); (first | (refine Zf ?_; refine qQ ?_) | (refine Zn ?_; try intro _)) <;> ((try simp only [kM, kN, kO]); refine Zb ?_; refine Zl ?_)))
    all_goals refine ZI ?_
    all_goals (repeat' (first | (simp only [vN_eq]; refine Zr rfl rfl rfl rfl (by simp) rfl rfl (fun bs => ?_); refine Ys _ (h := Rem.here) (fun ρz hlz hfz => ?_); have hbs := hfz _ (List.mem_singleton.2 rfl); clear hfz; have hρ := Hp.le_trans hρ hlz; clear hlz; (try simp only [List.nil_append])) | (refine Ze (.func 194) ?_; refine qC rfl rfl (wlong_spec _ wb v r _ _ sp5 hown (by (try simp only [List.length_append, List.length_cons, List.length_nil, List.length_map, Zt]) <;> omega) _ (vN x.by') hbs hvl) ?_; rintro v ρ' L' hle ⟨rfl, hl1, w6, sp6, hown, rfl⟩ <;> (try simp only [kM, kN, kO]); have hρ := Hp.le_trans hρ hl1; clear hl1; obtain ⟨va, vc, rfl, _⟩ := hown.slice) | (refine Zj ?_; first | (refine Zf ?_; refine qQ ?_) | refine Zn ?_) | refine Zb ?_ | (refine Zi ?_; refine Zv ?_) | (refine Zh ?_; refine Zu ?_) | intro _))
    all_goals rw [← e1]
    all_goals have e2 : X ++ [tB x.kind] ++ [tB x.row.t] ++ be 2 x.row.id ++ be 8 (vN x.by') = B ++ (r.steps.take (k + 1)).flatMap Xu := by rw [← hmm, hst]; simp
    all_goals rw [e2] at hown ⊢
    all_goals refine Zq (k + 1, _, _, sp6) (⟨hlt, Hp.le_trans hle1 hρ, hown⟩) Zm Zm rfl tk inferInstance (by first | omega | (dsimp only; omega))
   ·rw [if_neg (by omega)] at hst
    repeat' (first | (refine Zr rfl rfl rfl rfl (by simp) rfl rfl (fun bs => ?_); refine Ys _ (h := Rem.here) (fun ρz hlz hfz => ?_); have hbs := hfz _ (List.mem_singleton.2 rfl); clear hfz; have hρ := Hp.le_trans hρ hlz; clear hlz; (try simp only [List.nil_append])) | (refine Ze (.func 193) ?_; refine qC rfl rfl (YN _ wb v r w2 X sp2 hown (by omega) _ x.kind hbs (by omega)) ?_; rintro v ρ' L' hle ⟨rfl, hl1, w3, sp3, hown, rfl⟩ <;> (try simp only [kM, kN, kO]); have hρ := Hp.le_trans hρ hl1; clear hl1; obtain ⟨va, vc, rfl, _⟩ := hown.slice) | (refine Ze (.func 193) ?_; refine qC rfl rfl (YN _ wb v r _ _ sp3 hown (by (try simp only [List.length_append, List.length_cons, List.length_nil, List.length_map, Zt]) <;> omega) _ x.row.t hbs (by omega)) ?_; rintro v ρ' L' hle ⟨rfl, hl1, w4, sp4, hown, rfl⟩ <;> (try simp only [kM, kN, kO]); have hρ := Hp.le_trans hρ hl1; clear hl1; obtain ⟨va, vc, rfl, _⟩ := hown.slice) | (refine Zj ?_; first | (refine Zf ?_; refine qQ ?_) | refine Zn ?_) | refine Zb ?_ | (refine Zi ?_; refine Zv ?_) | (refine Zh ?_; refine Zu ?_) | intro _)
    refine ZD (Zs _ _ ([[(_, .cells ⟨stpV x⟩ 103 (0, 0))]])) (Zz (hT := tk) (Hp.le_refl _)) ?_
    all_goals (refine ZT 0 ?_; refine ZT 1 ?_; refine rNc 2 ?_; refine ZS 3 ?_; refine ZS 5 ?_; refine ZS 6 ?_; refine ZS 7 ?_; refine ZX 8 ?_)
    all_goals (refine Zp (i := 4) ?_; ((try refine Zk ?_); (first | (refine Ze (.func 258) ?_; refine Ys (YV (.slice va (X ++ [tB x.kind] ++ [tB x.row.t]).length vc) (X ++ [tB x.kind] ++ [tB x.row.t]) sp4) (h := by repeat (first | exact ZH | apply ZG)) (fun ρ2 hle2 hfz => ?_); obtain ⟨a1, c1, f1, hc1, hs1⟩ := hown.sIn hfz; cases f1; refine qC rfl rfl (put16_spec _ va _ vc _ hs1 x.row.id hsf.id (by (try simp only [List.length_append, List.length_cons, List.length_nil, List.length_map, Zt]) <;> omega)) ?_; rintro v' ρ3 L3 hle3 ⟨rfl, sp5, hown, rfl⟩; simp only [List.cons_append, List.nil_append]; rw [hll2] at hown; obtain ⟨va, vc, rfl, _⟩ := hown.slice; have hρ := Hp.le_trans hρ hle2) | (refine Zf ?_; refine qQ ?_) | (refine Zn ?_; try intro _)) <;> ((try simp only [kM, kN, kO]); refine Zb ?_; refine Zl ?_)))
    all_goals (refine Zp (i := 9) ?_; ((try refine Zk ?_); (first | (refine Ze (.func 258) ?_; refine Ys (YV (.slice va (X ++ [tB x.kind] ++ [tB x.row.t]).length vc) (X ++ [tB x.kind] ++ [tB x.row.t]) sp4) (h := by repeat (first | exact ZH | apply ZG)) (fun ρ2 hle2 hfz => ?_); obtain ⟨a1, c1, f1, hc1, hs1⟩ := hown.sIn hfz; cases f1; refine qC rfl rfl (put16_spec _ va _ vc _ hs1 x.row.id hsf.id (by (try simp only [List.length_append, List.length_cons, List.length_nil, List.length_map, Zt]) <;> omega)) ?_; rintro v' ρ3 L3 hle3 ⟨rfl, sp5, hown, rfl⟩; simp only [List.cons_append, List.nil_append]; rw [hll2] at hown; obtain ⟨va, vc, rfl, _⟩ := hown.slice; have hρ := Hp.le_trans hρ hle2) | (refine Zf ?_; refine qQ ?_) | (refine Zn ?_; try intro _)) <;> ((try simp only [kM, kN, kO]); refine Zb ?_; refine Zl ?_)))
    all_goals (refine rNc 10 ?_; refine ZS 11 ?_)
    all_goals (refine Zp (i := 12) ?_; ((try refine Zk ?_); (first | (refine Zf ?_; refine qQ ?_) | (refine Zn ?_; try intro _)) <;> ((try simp only [kM, kN, kO]); refine Zb ?_; refine Zl ?_)))
    all_goals refine ZI ?_
    all_goals (repeat' (first | (refine Zj ?_; first | (refine Zf ?_; refine qQ ?_) | refine Zn ?_) | refine Zb ?_ | (refine Zi ?_; refine Zv ?_) | (refine Zh ?_; refine Zu ?_) | intro _))
    all_goals rw [← e1]
    all_goals have e2 : X ++ [tB x.kind] ++ [tB x.row.t] ++ be 2 x.row.id = B ++ (r.steps.take (k + 1)).flatMap Xu := by rw [← hmm, hst]; simp
    all_goals rw [e2] at hown ⊢
    all_goals refine Zq (k + 1, _, _, sp5) (⟨hlt, Hp.le_trans hle1 hρ, hown⟩) Zm Zm rfl tk inferInstance (by first | omega | (dsimp only; omega))
 ·rw [show r.steps.take k = r.steps by rw [show k = r.steps.length by omega, List.take_length], hfin] at hown ⊢
  repeat' (first | (refine Zj ?_; first | (refine Zf ?_; refine qQ ?_) | refine Zn ?_) | refine Zb ?_ | (refine Zi ?_; refine Zv ?_) | (refine Zh ?_; refine Zu ?_) | intro _)
  exact qE ⟨rfl, hle1, w2, sp2, hown, rfl⟩
theorem wckpt_spec (ρ : Hp) (wb : Nat) (v : RV) (r : Rc) (w : Value) (l : List UInt8) (sp : List Value) (hown : Wt w l sp) (hn : l.length ≤ 70000) (h : RcIn ρ v r) (hL : LayOk r) :
  Spec Tryz.prog 200 [.pointer (some ⟨wb, 0, none⟩)] ρ [YV w l sp, wrC wb v r w] (WrP ρ wb v r (l ++ (be 4 r.nextTxn.toNat ++ (XD XS r.txns ++ XD Ww r.dirty)))) := by
 have hρ := Hp.le_refl ρ
 have hA := h.t.at'
 have hl := hA.len
 have hA2 := h.d.at'
 have hl2 := hA2.len
 have hil := hL.tl
 have hil2 := hL.dl
 refine Zg Tryz.func200 rfl rfl rfl fun u R => ?_
 simp only [Zx, List.cons_append, List.nil_append]
 repeat' (first | (refine Zr rfl rfl rfl rfl (by simp) rfl rfl (fun bs => ?_); refine Ys _ (h := Rem.here) (fun ρz hlz hfz => ?_); have hbs := hfz _ (List.mem_singleton.2 rfl); clear hfz; have hρ := Hp.le_trans hρ hlz; clear hlz; (try simp only [List.nil_append])) | (refine Ze (.func 195) ?_; refine qC rfl rfl (wtxn_spec _ wb v r w l sp hown (by omega) r.nextTxn hL.nextTxn) ?_; rintro v ρ' L' hle ⟨rfl, hl1, w0, sp0, hown, rfl⟩ <;> (try simp only [kM, kN, kO]); have hρ := Hp.le_trans hρ hl1; clear hl1) | (refine Ze (.func 193) ?_; refine qC rfl rfl (YN _ wb v r w0 _ sp0 hown (by (try simp only [List.length_append, List.length_cons, List.length_nil, List.length_map, Zt]) <;> omega) _ (v.t.n : Int) hbs (by omega)) ?_; rintro v ρ' L' hle ⟨rfl, hl1, w1, sp1, hown, rfl⟩ <;> (try simp only [kM, kN, kO]); have hρ := Hp.le_trans hρ hl1; clear hl1) | (refine ZE ?_; refine Zo (Zd rfl) rfl rfl ?_) | (refine Zj ?_; first | (refine Zf ?_; refine qQ ?_) | refine Zn ?_) | refine Zb ?_ | (refine Zi ?_; refine Zv ?_) | (refine Zh ?_; refine Zu ?_) | intro _)
 obtain ⟨B, hB⟩ : ∃ B, l ++ be 4 r.nextTxn.toNat ++ [tB (v.t.n : Int)] = B := ⟨_, rfl⟩
 rw [hB] at hown ⊢
 have hBl : B.length ≤ 80001 := by rw [← hB]; simp [Zt]; omega
 have hfin : B ++ r.txns.flatMap XS = l ++ (be 4 r.nextTxn.toNat ++ XD XS r.txns) := by rw [← hB]; simp [XD, hl, tB]
 rw [show YV w1 B sp1 = YV w1 (B ++ (r.txns.take 0).flatMap XS) sp1 by simp]
 refine ZB [(0, _), (26, _), (27, _)] (fun (ζ : (Nat) × (Hp) × (Value) × (List Value)) => [(28, .int .i64 ζ.1)]) (fun (ζ : (Nat) × (Hp) × (Value) × (List Value)) => ζ.2.1) (fun (ζ : (Nat) × (Hp) × (Value) × (List Value)) => [YV ζ.2.2.1 (B ++ (r.txns.take ζ.1).flatMap XS) ζ.2.2.2, wrC wb v r ζ.2.2.1]) (fun (ζ : (Nat) × (Hp) × (Value) × (List Value)) => ζ.1 ≤ v.t.n ∧ ρ.le ζ.2.1 ∧ Wt ζ.2.2.1 (B ++ (r.txns.take ζ.1).flatMap XS) ζ.2.2.2) (fun (ζ : (Nat) × (Hp) × (Value) × (List Value)) => v.t.n - ζ.1) ((0, ρ', w1, sp1)) (⟨Nat.zero_le _, hρ, by simpa using hown⟩) Zm Zm rfl tk ?_
 rintro ⟨k, ρ1, w2, sp2⟩ hI
 try simp only [List.cons_append, List.nil_append, List.append_assoc, List.append_eq] at hI ⊢
 try dsimp only at hI ⊢
 obtain ⟨hk, hle1, hown⟩ := hI
 clear hρ
 by_cases hlt : k < v.t.n
 ·obtain ⟨b, off, C, T, fr, e1, hbb, hfit, hcc⟩ := (hA.mono hle1).get (show k < r.txns.length by omega)
  have hts := Xm XS r.txns k (by omega)
  have hmem := List.getElem_mem (show k < r.txns.length by omega)
  obtain ⟨g1, g2, g3, g4, g5⟩ := hL.tx _ hmem
  have hfl := Yq XS 29 (r.txns.take k) (fun x _ => Nat.le_of_eq (ckTB_len x))
  have htl : (r.txns.take k).length ≤ 8 := by simp; omega
  generalize r.txns[k]'(by omega) = x at *
  have hxl : (B ++ (r.txns.take k).flatMap XS).length ≤ 83000 := by simp only [List.length_append]; omega
  have hmm : B ++ (r.txns.take k).flatMap XS ++ XS x = B ++ (r.txns.take (k + 1)).flatMap XS := by rw [hts]; simp
  generalize hX : B ++ (r.txns.take k).flatMap XS = X at *
  have hρ := Hp.le_refl ρ1
  rw [e1]
  repeat' (first | (refine Zr rfl rfl rfl rfl (by simp) rfl rfl (fun bs => ?_); refine Ys _ (h := Rem.here) (fun ρz hlz hfz => ?_); have hbs := hfz _ (List.mem_singleton.2 rfl); clear hfz; have hρ := Hp.le_trans hρ hlz; clear hlz; (try simp only [List.nil_append])) | (refine Ze (.func 195) ?_; refine qC rfl rfl (wtxn_spec _ wb v r w2 X sp2 hown (by omega) x.txn g1) ?_; rintro v ρ' L' hle ⟨rfl, hl1, w3, sp3, hown, rfl⟩ <;> (try simp only [kM, kN, kO]); have hρ := Hp.le_trans hρ hl1; clear hl1) | (refine Ze (.func 194) ?_; refine qC rfl rfl (wlong3_spec _ wb v r w3 _ sp3 hown (by (try simp only [List.length_append, List.length_cons, List.length_nil, List.length_map, Zt]) <;> omega) _ x.first x.last x.undo hbs g2 g3 g4) ?_; rintro v ρ' L' hle ⟨rfl, hl1, w4, sp4, hown, rfl⟩ <;> (try simp only [kM, kN, kO]); have hρ := Hp.le_trans hρ hl1; clear hl1) | (refine Ze (.func 193) ?_; refine qC rfl rfl (YN _ wb v r w4 _ sp4 hown (by (try simp only [List.length_append, List.length_cons, List.length_nil, List.length_map, Zt]) <;> omega) _ x.state hbs g5) ?_; rintro v ρ' L' hle ⟨rfl, hl1, w5, sp5, hown, rfl⟩ <;> (try simp only [kM, kN, kO]); have hρ := Hp.le_trans hρ hl1; clear hl1) | (refine ZE ?_; refine Zo (Zd rfl) rfl rfl ?_) | (refine Zj ?_; first | (refine Zf ?_; refine qQ ?_) | refine Zn ?_) | refine Zb ?_ | (refine Zi ?_; refine Zv ?_) | (refine Zh ?_; refine Zu ?_) | intro _)
  rw [← e1]
  have e2 : X ++ be 4 x.txn.toNat ++ (be 8 x.first ++ (be 8 x.last ++ be 8 x.undo)) ++ [tB x.state] = B ++ (r.txns.take (k + 1)).flatMap XS := by rw [← hmm]; simp [XS]
  rw [e2] at hown ⊢
  refine Zq (k + 1, _, w5, sp5) (⟨hlt, Hp.le_trans hle1 hρ, hown⟩) Zm Zm rfl tk inferInstance (by first | omega | (dsimp only; omega))
 ·rw [show r.txns.take k = r.txns by rw [show k = r.txns.length by omega, List.take_length], hfin] at hown ⊢
  have hρ := hle1
  obtain ⟨B2, hB2⟩ : ∃ B2, l ++ (be 4 r.nextTxn.toNat ++ XD XS r.txns) = B2 := ⟨_, rfl⟩
  have hlT : (XD XS r.txns).length ≤ 300 := by
   have := Yq XS 29 r.txns (fun x _ => Nat.le_of_eq (ckTB_len x))
   unfold XD; rw [List.length_cons]; omega
  have hB2l : B2.length ≤ 71000 := by rw [← hB2]; simp [Zt]; omega
  rw [hB2] at hown ⊢
  repeat' (first | (refine Zr rfl rfl rfl rfl (by simp) rfl rfl (fun bs => ?_); refine Ys _ (h := Rem.here) (fun ρz hlz hfz => ?_); have hbs := hfz _ (List.mem_singleton.2 rfl); clear hfz; have hρ := Hp.le_trans hρ hlz; clear hlz; (try simp only [List.nil_append])) | (refine Ze (.func 193) ?_; refine qC rfl rfl (YN _ wb v r w2 B2 sp2 hown (by omega) _ (v.d.n : Int) hbs (by omega)) ?_; rintro v ρ' L' hle ⟨rfl, hl1, w1, sp1, hown, rfl⟩ <;> (try simp only [kM, kN, kO]); have hρ := Hp.le_trans hρ hl1; clear hl1) | (refine ZE ?_; refine Zo (Zd rfl) rfl rfl ?_) | (refine Zj ?_; first | (refine Zf ?_; refine qQ ?_) | refine Zn ?_) | refine Zb ?_ | (refine Zi ?_; refine Zv ?_) | (refine Zh ?_; refine Zu ?_) | intro _)
  obtain ⟨B3, hB3⟩ : ∃ B3, B2 ++ [tB (v.d.n : Int)] = B3 := ⟨_, rfl⟩
  rw [hB3] at hown ⊢
  have hBl3 : B3.length ≤ 80001 := by rw [← hB3]; simp; omega
  have hfin3 : B3 ++ r.dirty.flatMap Ww = l ++ (be 4 r.nextTxn.toNat ++ (XD XS r.txns ++ XD Ww r.dirty)) := by rw [← hB3, ← hB2]; simp [XD, hl2, tB]
  rw [show YV w1 B3 sp1 = YV w1 (B3 ++ (r.dirty.take 0).flatMap Ww) sp1 by simp]
  refine ZB [(0, _), (64, _), (65, _)] (fun (ζ : (Nat) × (Hp) × (Value) × (List Value)) => [(66, .int .i64 ζ.1)]) (fun (ζ : (Nat) × (Hp) × (Value) × (List Value)) => ζ.2.1) (fun (ζ : (Nat) × (Hp) × (Value) × (List Value)) => [YV ζ.2.2.1 (B3 ++ (r.dirty.take ζ.1).flatMap Ww) ζ.2.2.2, wrC wb v r ζ.2.2.1]) (fun (ζ : (Nat) × (Hp) × (Value) × (List Value)) => ζ.1 ≤ v.d.n ∧ ρ.le ζ.2.1 ∧ Wt ζ.2.2.1 (B3 ++ (r.dirty.take ζ.1).flatMap Ww) ζ.2.2.2) (fun (ζ : (Nat) × (Hp) × (Value) × (List Value)) => v.d.n - ζ.1) ((0, ρ', w1, sp1)) (⟨Nat.zero_le _, hρ, by simpa using hown⟩) Zm Zm rfl tk ?_
  rintro ⟨j, ρ2, w3, sp3⟩ hI
  try simp only [List.cons_append, List.nil_append, List.append_assoc, List.append_eq] at hI ⊢
  try dsimp only at hI ⊢
  obtain ⟨hj, hle2, hown⟩ := hI
  clear hρ
  by_cases hlj : j < v.d.n
  ·obtain ⟨b, off, C, T, fr, e1, hbb, hfit, hcc⟩ := (hA2.mono hle2).get (show j < r.dirty.length by omega)
   have hts := Xm Ww r.dirty j (by omega)
   have hmem := List.getElem_mem (show j < r.dirty.length by omega)
   obtain ⟨g1, g2⟩ := hL.di _ hmem
   have hfl := Yq Ww 9 (r.dirty.take j) (fun x _ => Nat.le_of_eq (ckPB_len x))
   have htl : (r.dirty.take j).length ≤ 64 := by simp; omega
   generalize r.dirty[j]'(by omega) = x at *
   have hxl : (B3 ++ (r.dirty.take j).flatMap Ww).length ≤ 83000 := by simp only [List.length_append]; omega
   have hmm : B3 ++ (r.dirty.take j).flatMap Ww ++ Ww x = B3 ++ (r.dirty.take (j + 1)).flatMap Ww := by rw [hts]; simp
   generalize hX : B3 ++ (r.dirty.take j).flatMap Ww = X at *
   have hρ := Hp.le_refl ρ2
   rw [e1]
   repeat' (first | (refine Zr rfl rfl rfl rfl (by simp) rfl rfl (fun bs => ?_); refine Ys _ (h := Rem.here) (fun ρz hlz hfz => ?_); have hbs := hfz _ (List.mem_singleton.2 rfl); clear hfz; have hρ := Hp.le_trans hρ hlz; clear hlz; (try simp only [List.nil_append])) | (refine Ze (.func 193) ?_; refine qC rfl rfl (YN _ wb v r w3 X sp3 hown (by omega) _ x.page hbs (by omega)) ?_; rintro v ρ' L' hle ⟨rfl, hl1, w4, sp4, hown, rfl⟩ <;> (try simp only [kM, kN, kO]); have hρ := Hp.le_trans hρ hl1; clear hl1) | (refine Ze (.func 194) ?_; refine qC rfl rfl (wlong_spec _ wb v r w4 _ sp4 hown (by (try simp only [List.length_append, List.length_cons, List.length_nil, List.length_map, Zt]) <;> omega) _ x.since hbs g2) ?_; rintro v ρ' L' hle ⟨rfl, hl1, w5, sp5, hown, rfl⟩ <;> (try simp only [kM, kN, kO]); have hρ := Hp.le_trans hρ hl1; clear hl1) | (refine ZE ?_; refine Zo (Zd rfl) rfl rfl ?_) | (refine Zj ?_; first | (refine Zf ?_; refine qQ ?_) | refine Zn ?_) | refine Zb ?_ | (refine Zi ?_; refine Zv ?_) | (refine Zh ?_; refine Zu ?_) | intro _)
   rw [← e1]
   have e2 : X ++ [tB x.page] ++ be 8 x.since = B3 ++ (r.dirty.take (j + 1)).flatMap Ww := by rw [← hmm]; simp [Ww]
   rw [e2] at hown ⊢
   refine Zq (j + 1, _, w5, sp5) (⟨hlj, Hp.le_trans hle2 hρ, hown⟩) Zm Zm rfl tk inferInstance (by first | omega | (dsimp only; omega))
  ·rw [show r.dirty.take j = r.dirty by rw [show j = r.dirty.length by omega, List.take_length], hfin3] at hown ⊢
   repeat' (first | (refine ZE ?_; refine Zo (Zd rfl) rfl rfl ?_) | (refine Zj ?_; first | (refine Zf ?_; refine qQ ?_) | refine Zn ?_) | refine Zb ?_ | (refine Zi ?_; refine Zv ?_) | (refine Zh ?_; refine Zu ?_) | intro _)
   exact qE ⟨rfl, hle2, w3, sp3, hown, rfl⟩
def layF (k : Int) : Nat := if k = 2 then 196 else if k = 3 then 197 else if k = 4 then 198 else if k = 5 then 199 else 200
theorem lay_spec (wb : Nat) (v : RV) (r : Rc) (hL : LayOk r) (hk : r.kind = 2 ∨ r.kind = 3 ∨ r.kind = 4 ∨ r.kind = 5 ∨ r.kind = 9) : Yu Tryz.prog (layF r.kind) ∧ ∀ (ρ : Hp) (w : Value) (l : List UInt8) (sp : List Value), Wt w l sp → l.length ≤ 60000 → RcIn ρ v r →
  Spec Tryz.prog (layF r.kind) [.pointer (some ⟨wb, 0, none⟩)] ρ [YV w l sp, wrC wb v r w] (WrP ρ wb v r (l ++ recTB r)) := by
 unfold layF recTB
 rcases hk with e | e | e | e | e
 ·rw [if_pos e, if_pos e]
  exact ⟨inferInstance, fun ρ w l sp hown hn h => wimages_spec ρ wb v r w l sp hown (by omega) h hL⟩
 ·rw [if_neg (by omega), if_pos e, if_neg (by omega), if_pos e]
  exact ⟨inferInstance, fun ρ w l sp hown hn h => wnested_spec ρ wb v r w l sp hown (by omega) hL.next⟩
 ·rw [if_neg (by omega), if_neg (by omega), if_pos e, if_neg (by omega), if_neg (by omega), if_pos e]
  exact ⟨inferInstance, fun ρ w l sp hown hn h => wdone_spec ρ wb v r w l sp hown (by omega) h hL⟩
 ·rw [if_neg (by omega), if_neg (by omega), if_neg (by omega), if_pos e, if_neg (by omega), if_neg (by omega), if_neg (by omega), if_pos e]
  exact ⟨inferInstance, fun ρ w l sp hown hn h => wundone_spec ρ wb v r w l sp hown (by omega) h hL⟩
 ·rw [if_neg (by omega), if_neg (by omega), if_neg (by omega), if_neg (by omega), if_neg (by omega), if_neg (by omega), if_neg (by omega), if_neg (by omega), if_pos e]
  exact ⟨inferInstance, fun ρ w l sp hown hn h => wckpt_spec ρ wb v r w l sp hown (by omega) h hL⟩
theorem layF_chain {f : Nat → Option Value} {k : Int} (hk : k = 2 ∨ k = 3 ∨ k = 4 ∨ k = 5 ∨ k = 9) : (if k = 9 then f 200 else if k = 5 then f 199 else if k = 4 then f 198 else if k = 3 then f 197 else if k = 2 then f 196 else none) = f (layF k) := by
 unfold layF
 rcases hk with e | e | e | e | e <;> subst e <;> rfl
theorem recTB_none {r : Rc} (hk : ¬ (r.kind = 2 ∨ r.kind = 3 ∨ r.kind = 4 ∨ r.kind = 5 ∨ r.kind = 9)) : recTB r = [] := by
 unfold recTB
 rw [if_neg (by omega), if_neg (by omega), if_neg (by omega), if_neg (by omega), if_neg (by omega)]
theorem rlaid_spec (ρ : Hp) (v : RV) (r : Rc) (h : RcIn ρ v r) (hL : LayOk r) : Spec Tryz.prog 112 [.agg ⟨Xh v r⟩] ρ []
  (fun z ρ' L' => ρ.le ρ' ∧ ∃ a c, z = .slice a (Xv r).length c ∧ (Xv r).length ≤ c ∧ SIn ρ' Yc a (Xv r).length (Xv r) ∧ L' = []) := by
 have hρ := Hp.le_refl ρ
 have hnil : Xk .i64 [] := by intro e he; simp at he
 have hg0 : ∀ k : Int, XC [] k = none := fun _ => rfl
 have k1 := hL.kind
 have k2 := hL.lsn
 have k3 := hL.txn
 have k4 := hL.prev
 refine Zg Tryz.func112 rfl rfl rfl fun u R => ?_
 simp only [Zx, List.cons_append, List.nil_append]
 repeat' (first | (refine Zr rfl rfl rfl rfl (by simp) rfl rfl (fun bs => ?_); refine Ys _ (h := Rem.here) (fun ρz hlz hfz => ?_); have hbs := hfz _ (List.mem_singleton.2 rfl); clear hfz; have hρ := Hp.le_trans hρ hlz; clear hlz; (try simp only [List.nil_append])) | (rename_i rb wb; refine Ze (.func 193) ?_; refine tl_call rfl rfl (YN _ _ v r (.slice none 0 0) [] [] (OwnS.nil 1) (by decide) _ r.kind hbs k1) (take_cons' rem_nil' (take_cons' ZH take_nil')) rfl ?_; rintro z1 ρ1 L1 hle0 ⟨rfl, hl1, w1, sp1, hown, rfl⟩; simp only [List.cons_append, List.nil_append] at hown ⊢; have hρ := Hp.le_trans hρ hl1; clear hl1) | (refine Ze (.func 194) ?_; refine qC rfl rfl ((wlong_spec _ _ v r w1 _ sp1 hown (by (try simp only [List.length_append, List.length_cons, List.length_nil, List.length_map, Zt]) <;> omega) _ r.lsn hbs k2)) ?_; rintro v ρ' L' hle ⟨rfl, hl1, w2, sp2, hown, rfl⟩ <;> (try simp only [kM, kN, kO]); have hρ := Hp.le_trans hρ hl1; clear hl1) | (refine Ze (.func 195) ?_; refine qC rfl rfl ((wtxn_spec _ _ v r w2 _ sp2 hown (by (try simp only [List.length_append, List.length_cons, List.length_nil, List.length_map, Zt]) <;> omega) r.txn k3)) ?_; rintro v ρ' L' hle ⟨rfl, hl1, w3, sp3, hown, rfl⟩ <;> (try simp only [kM, kN, kO]); have hρ := Hp.le_trans hρ hl1; clear hl1) | (refine Ze (.func 194) ?_; refine qC rfl rfl ((wlong_spec _ _ v r w3 _ sp3 hown (by (try simp only [List.length_append, List.length_cons, List.length_nil, List.length_map, Zt]) <;> omega) _ r.prev hbs k4)) ?_; rintro v ρ' L' hle ⟨rfl, hl1, w4, sp4, hown, rfl⟩ <;> (try simp only [kM, kN, kO]); have hρ := Hp.le_trans hρ hl1; clear hl1) | (refine Yz rfl rfl rfl hnil (fun es1 ck1 i1 j1 => ?_)) | (refine Yz rfl rfl rfl i1 (fun es2 ck2 i2 j2 => ?_)) | (refine Yz rfl rfl rfl i2 (fun es3 ck3 i3 j3 => ?_)) | (refine Yz rfl rfl rfl i3 (fun es4 ck4 i4 j4 => ?_)) | (refine ZE ?_; refine Zo (Zd rfl) rfl rfl ?_) | (refine Zj ?_; first | (refine Zf ?_; refine qQ ?_) | refine Zn ?_) | refine Zb ?_ | (refine Zi ?_; refine Zv ?_) | (refine Zh ?_; refine Zu ?_) | intro _)
 rename_i mb
 refine Yz rfl rfl rfl i4 (fun es5 ck5 i5 j5 => ?_)
 have hg := j5 r.kind
 rw [j4, j3, j2, j1, hg0] at hg
 clear j1 j2 j3 j4 j5 i1 i2 i3 i4
 have hH : tB r.kind :: (be 8 r.lsn ++ be 4 r.txn.toNat ++ be 8 r.prev) = recHB r := by simp [recHB]
 have hHl : (recHB r).length ≤ 100 := by simp [recHB, Zt]
 simp only [List.cons_append, List.nil_append, hH] at hown ⊢
 by_cases hk : r.kind = 2 ∨ r.kind = 3 ∨ r.kind = 4 ∨ r.kind = 5 ∨ r.kind = 9
 ·obtain ⟨hF, hS⟩ := lay_spec wb v r hL hk
  have hS := fun ρ (hle : Hp.le _ ρ) => hS ρ w4 _ sp4 hown (by omega) (h.mono hle)
  have hgF : XC es5 r.kind = some (Value.func (.func (layF r.kind)) ⟨[.pointer (some ⟨wb, 0, none⟩)]⟩ ⟨[]⟩) := by
   rw [hg]
   exact layF_chain (f := fun F => some (Value.func (.func F) ⟨[.pointer (some ⟨wb, 0, none⟩)]⟩ ⟨[]⟩)) hk
  clear hg
  generalize layF r.kind = F at *
  repeat' (first | (refine Ze (.tmp 46) ?_; refine qC rfl rfl (hS _ hρ) ?_; rintro v ρ' L' hle ⟨rfl, hl1, w5, sp5, hown, rfl⟩ <;> (try simp only [kM, kN, kO]); have hρ := Hp.le_trans hρ hl1; clear hl1) | (refine ZE ?_; refine Zo (Zd rfl) rfl rfl ?_) | (refine Zj ?_; first | (refine Zf ?_; refine qQ ?_) | refine Zn ?_) | refine Zb ?_ | (refine Zi ?_; refine Zv ?_) | (refine Zh ?_; refine Zu ?_) | intro _)
  have hB : recHB r ++ recTB r = Xv r := rfl
  rw [hB] at hown ⊢
  obtain ⟨va, vc, rfl, _⟩ := hown.slice
  repeat' (first | (refine ZE ?_; refine Zo (Zd rfl) rfl rfl ?_) | (refine Zj ?_; first | (refine Zf ?_; refine qQ ?_) | refine Zn ?_) | refine Zb ?_ | (refine Zi ?_; refine Zv ?_) | (refine Zh ?_; refine Zu ?_) | intro _)
  refine Yk (YV (.slice va (Xv r).length vc) (Xv r) sp5) (h := by repeat (first | exact ZH | apply ZG)) (fun ρ6 hle6 hfz => ?_)
  obtain ⟨a6, c6, e6, hc6, hs6⟩ := hown.sIn hfz
  cases e6
  exact qE ⟨Hp.le_trans hρ hle6, va, vc, rfl, hc6, hs6, rfl⟩
 ·have hgN : XC es5 r.kind = none := by
   rw [hg]
   simp only [show ¬ r.kind = 9 by omega, show ¬ r.kind = 5 by omega, show ¬ r.kind = 4 by omega, show ¬ r.kind = 3 by omega, show ¬ r.kind = 2 by omega, if_false]
  clear hg
  have hB : recHB r = Xv r := by unfold Xv; rw [recTB_none hk, List.append_nil]
  rw [hB] at hown ⊢
  obtain ⟨va, vc, rfl, _⟩ := hown.slice
  repeat' (first | (refine ZE ?_; refine Zo (Zd rfl) rfl rfl ?_) | (refine Zj ?_; first | (refine Zf ?_; refine qQ ?_) | refine Zn ?_) | refine Zb ?_ | (refine Zi ?_; refine Zv ?_) | (refine Zh ?_; refine Zu ?_) | intro _)
  refine Yk (YV (.slice va (Xv r).length vc) (Xv r) sp4) (h := by repeat (first | exact ZH | apply ZG)) (fun ρ6 hle6 hfz => ?_)
  obtain ⟨a6, c6, e6, hc6, hs6⟩ := hown.sIn hfz
  cases e6
  exact qE ⟨Hp.le_trans hρ hle6, va, vc, rfl, hc6, hs6, rfl⟩
def sectsB (n : Nat) : Nat := max 1 ((n + 51) / 52)
theorem rsects_spec (ρ : Hp) (n : Nat) (hn : n ≤ 4611686018427387904) : Spec Tryz.prog 127 [.int .i64 n] ρ [] (fun v ρ' L' => v = .int .i64 (sectsB n : Nat) ∧ ρ' = ρ ∧ L' = []) := by
 refine Zg Tryz.func127 rfl rfl rfl fun u R => ?_
 simp only [Zx, List.cons_append, List.nil_append]
 have e : max 1 (IntKind.i64.wrap (((n : Int) + 52 - 1).tdiv 52)) = ((sectsB n : Nat) : Int) := by
  rw [Int.tdiv_eq_ediv_of_nonneg (by omega), WK (by simp only [lo, hi]; omega)]
  unfold sectsB; omega
 repeat' (first | (refine ZE ?_; refine Zo (Zd rfl) rfl rfl ?_) | (refine Zj ?_; first | (refine Zf ?_; refine qQ ?_) | refine Zn ?_) | refine Zb ?_ | (refine Zi ?_; refine Zv ?_) | (refine Zh ?_; refine Zu ?_) | intro _)
 rw [e]
 exact qE ⟨rfl, rfl, rfl⟩
theorem listB_le {α : Type} (f : α → List UInt8) (m : Nat) (l : List α) (h : ∀ x ∈ l, (f x).length ≤ m) : (XD f l).length ≤ 1 + l.length * m := by
 have := Yq f m l h
 unfold XD
 rw [List.length_cons]; omega
theorem recB_le {r : Rc} (h : LayOk r) : (Xv r).length ≤ 4000 := by
 have h1 : (recHB r).length = 21 := by simp [recHB, Zt]
 have h2 : (imsB r).length ≤ 1 + r.ims.length * 165 := listB_le _ 165 r.ims (fun x hx => imB_len (h.im x hx).2.1 (h.im x hx).2.2)
 have h3 : (XD Xu r.steps).length ≤ 1 + r.steps.length * 21 := listB_le _ 21 r.steps (fun x hx => stpB_len (h.st x hx))
 have h4 : (XD XS r.txns).length ≤ 1 + r.txns.length * 29 := listB_le _ 29 r.txns (fun x hx => Nat.le_of_eq (ckTB_len x))
 have h5 : (XD Ww r.dirty).length ≤ 1 + r.dirty.length * 9 := listB_le _ 9 r.dirty (fun x hx => Nat.le_of_eq (ckPB_len x))
 have a1 := h.il
 have a2 := h.sl
 have a3 := h.tl
 have a4 := h.dl
 have h6 : (recTB r).length ≤ 3900 := by
  unfold recTB
  split
  ·omega
  ·split
   ·rw [Zt]; omega
   ·split
    ·rw [List.length_append, Zt]; omega
    ·split
     ·rw [List.length_append, Zt]; omega
     ·split
      ·rw [List.length_append, List.length_append, Zt]; omega
      ·simp
 unfold Xv
 rw [List.length_append]; omega
def errN (r : Rc) : Int := if YF r then 0 else 220
def undI (x : Im) : Im := ⟨0, nilCV, ztC, x.bv, x.b⟩
def undR (l : List Im) : Rc := ⟨5, 0, 0, 0, 0, l.map undI, [], 0, [], []⟩
def stepN (s : Stp) : Nat := if s.kind = 3 ∨ s.kind = 4 then 12 else 1
def pagesN (l : List Stp) : Nat := (l.map stepN).sum
def Wd (r : Rc) : Nat :=
 if YF r then (if r.kind = 1 then 2 else if r.kind = 2 then sectsB (Xv (undR r.ims)).length else if r.kind = 4 then sectsB (30 + min (pagesN r.steps) 16 * 83) else 0) else 0
theorem contOk_z : YI ztC = true := by decide
theorem undR_lay {l : List Im} (h1 : l.length ≤ 16) (h2 : ∀ x ∈ l, YI x.b = true) : LayOk (undR l) := by
 refine ⟨by simp [undR], by simp [undR], by simp [undR], by simp [undR], by simp [undR], by simp [undR], by simp [undR]; omega, ?_, by simp [undR], by simp [undR], by simp [undR], by simp [undR], by simp [undR], by simp [undR]⟩
 intro x hx
 obtain ⟨y, hy, rfl⟩ := List.mem_map.1 hx
 exact ⟨by simp [undI], h2 y hy, contOk_z⟩
theorem pagesN_succ (l : List Stp) (k : Nat) (h : k < l.length) : pagesN (l.take (k + 1)) = pagesN (l.take k) + stepN l[k] := by
 unfold pagesN
 rw [List.take_succ_eq_append_getElem h, List.map_append, List.sum_append]
 simp
theorem pagesN_le (l : List Stp) : pagesN l ≤ l.length * 12 := by
 unfold pagesN
 induction l with
 | nil => simp
 | cons a r ih =>
  have : stepN a ≤ 12 := by unfold stepN; split <;> omega
  simp only [List.map_cons, List.sum_cons, List.length_cons]; omega
theorem undR_nil : (Xv (undR [])).length = 30 := by decide
theorem rreserve_spec (ρ : Hp) (v : RV) (r : Rc) (h : RcIn ρ v r) : Spec Tryz.prog 77 [.agg ⟨Xh v r⟩] ρ []
  (fun z ρ' L' => ρ.le ρ' ∧ z = .tuple ⟨[.int .i64 (Wd r : Nat), .int .i64 (errN r)]⟩ ∧ L' = []) := by
 have hck := rcheck_spec ρ v r h
 unfold Wd errN
 refine Zg Tryz.func77 rfl rfl rfl fun u R => ?_
 simp only [Zx, List.cons_append, List.nil_append]
 cases hok : YF r
 ·rw [hok] at hck
  repeat' (first | (refine Ze (.func 27) ?_; refine qC rfl rfl (hck) ?_; rintro v ρ' L' hle ⟨rfl, rfl, rfl⟩ <;> (try simp only [kM, kN, kO, if_false, Bool.false_eq_true])) | (refine ZE ?_; refine Zo (Zd rfl) rfl rfl ?_) | (refine Zj ?_; first | (refine Zf ?_; refine qQ ?_) | refine Zn ?_) | refine Zb ?_ | (refine Zi ?_; refine Zv ?_) | (refine Zh ?_; refine Zu ?_) | intro _)
  exact qE (L' := []) ⟨Hp.le_refl _, rfl, rfl⟩
 ·rw [hok] at hck
  simp only [if_true]
  have hF := We hok
  by_cases k1 : r.kind = 1
  ·rw [if_pos k1]
   repeat' (first | (refine Ze (.func 27) ?_; refine qC rfl rfl (hck) ?_; rintro v ρ' L' hle ⟨rfl, rfl, rfl⟩ <;> (try simp only [kM, kN, kO, if_true])) | (refine ZE ?_; refine Zo (Zd rfl) rfl rfl ?_) | (refine Zj ?_; first | (refine Zf ?_; refine qQ ?_) | refine Zn ?_) | refine Zb ?_ | (refine Zi ?_; refine Zv ?_) | (refine Zh ?_; refine Zu ?_) | intro _)
   exact qE (L' := []) ⟨Hp.le_refl _, rfl, rfl⟩
  ·rw [if_neg k1]
   by_cases k2 : r.kind = 2
   ·rw [if_pos k2]
    have hA := h.i.at'
    have hl := hA.len
    have hil := hF.il
    have hlay := undR_lay hil (fun x hx => (hF.im x hx).2.2)
    repeat' (first | (refine Ze (.func 27) ?_; refine qC rfl rfl (hck) ?_; rintro v ρ' L' hle ⟨rfl, rfl, rfl⟩ <;> (try simp only [kM, kN, kO, if_true])) | (refine ZE ?_; refine Zo (Zd rfl) rfl rfl ?_) | (refine Zj ?_; first | (refine Zf ?_; refine qQ ?_) | refine Zn ?_) | refine Zb ?_ | (refine Zi ?_; refine Zv ?_) | (refine Zh ?_; refine Zu ?_) | intro _)
    rename_i rb ub
    refine ZB [(1, _), (2, _), (3, _), (5, _), (6, _), (19, _), (25, _), (26, _)] (fun (ζ : (Nat) × (Value) × (List Value)) => [(27, .int .i64 ζ.1)]) (fun (ζ : (Nat) × (Value) × (List Value)) => ρ') (fun (ζ : (Nat) × (Value) × (List Value)) => [[(ub, .cells ⟨[.int .i64 5, .int .u64 0, .int .i64 0, .int .u64 0, .int .u64 0, ζ.2.1, .slice none 0 0, .int .i64 0, .slice none 0 0, .slice none 0 0]⟩ 30 (0, 0))], ZK ζ.2.1 ((((r.ims.take ζ.1).map undI).map imV).flatten) ζ.2.2 128, [(rb, .cells ⟨Xh v r⟩ 30 (0, 0))]]) (fun (ζ : (Nat) × (Value) × (List Value)) => ζ.1 ≤ v.i.n ∧ OwnS ζ.2.1 ζ.1 ((((r.ims.take ζ.1).map undI).map imV).flatten) ζ.2.2 7) (fun (ζ : (Nat) × (Value) × (List Value)) => v.i.n - ζ.1) ((0, .slice none 0 0, [])) (⟨Nat.zero_le _, OwnS.nil 7⟩) Zm Zm rfl tk ?_
    rintro ⟨k, vv, sp⟩ hI
    try simp only [List.cons_append, List.nil_append, List.append_assoc, List.append_eq] at hI ⊢
    try dsimp only at hI ⊢
    obtain ⟨hk, hown⟩ := hI
    obtain ⟨va, vc, rfl, _⟩ := hown.slice
    by_cases hlt : k < v.i.n
    ·obtain ⟨b, off, C, T, fr, e1, hb, hfit, hc⟩ := hA.get (show k < r.ims.length by omega)
     have hx := List.take_succ_eq_append_getElem (show k < r.ims.length by omega)
     generalize r.ims[k]'(by omega) = x at *
     rw [e1]
     repeat' (first | (refine ZE ?_; refine Zo (Zd rfl) rfl rfl ?_) | (refine Zj ?_; first | (refine Zf ?_; refine qQ ?_) | refine Zn ?_) | refine Zb ?_ | (refine Zi ?_; refine Zv ?_) | (refine Zh ?_; refine Zu ?_) | intro _)
     refine ZL (css := [imV (undI x)]) (sz := 7) rfl rfl rfl rfl (by simp) (by simp) rfl (fun bs => ?_)
     simp only [List.flatten_cons, List.flatten_nil, List.append_nil]
     refine ZV (ys := imV (undI x)) (m := 1) rfl rfl hown (hR := by infer_instance) (SrcV.lit) rfl rfl (by decide) rfl (by omega) (by omega) rfl (fun v' sp' hown' => ?_)
     have hm : (((r.ims.take k).map undI).map imV).flatten ++ imV (undI x) = (((r.ims.take (k + 1)).map undI).map imV).flatten := by rw [hx]; simp
     rw [hm] at hown' ⊢
     obtain ⟨va', vc', rfl, _⟩ := hown'.slice
     repeat' (first | (refine ZE ?_; refine Zo (Zd rfl) rfl rfl ?_) | (refine Zj ?_; first | (refine Zf ?_; refine qQ ?_) | refine Zn ?_) | refine Zb ?_ | (refine Zi ?_; refine Zv ?_) | (refine Zh ?_; refine Zu ?_) | intro _)
     rw [← e1]
     refine Zq (k + 1, _, sp') (⟨hlt, hown'⟩) Zm Zm rfl tk inferInstance (by first | omega | (dsimp only; omega))
    ·have hk2 : k = r.ims.length := by omega
     rw [show r.ims.take k = r.ims by rw [hk2, List.take_length]] at hown ⊢
     refine tc_freeze (ZK (.slice va k vc) (((r.ims.map undI).map imV).flatten) sp 128) (fun ρ3 hle3 hfz => ?_)
     obtain ⟨sa, sc, e1, hsc, hA2⟩ := hown.aIn (by simp; omega) (fun x _ => imV_len x) hfz
     cases e1
     have hU : RcIn ρ3 ⟨⟨va, k, vc⟩, ⟨none, 0, 0⟩, ⟨none, 0, 0⟩, ⟨none, 0, 0⟩⟩ (undR r.ims) := ⟨⟨hA2, by dsimp only; omega, hsc⟩, fun x hx => by
      obtain ⟨y, hy, rfl⟩ := List.mem_map.1 hx
      exact ⟨CI.nil, ((h.im y hy).b).mono hle3⟩, AS.nil, AS.nil, AS.nil, by simp [undR]⟩
     have hla := rlaid_spec ρ3 _ _ hU hlay
     have hb4 := recB_le hlay
     repeat' (first | (refine Ze (.func 112) ?_; refine qC rfl rfl (hla) ?_; rintro v ρ' L' hle ⟨hl1, a, c, rfl, hc, hs, rfl⟩ <;> (try simp only [kM, kN, kO])) | (simp only [Int.add_zero]; refine Ze (.func 127) ?_; refine qC rfl rfl (rsects_spec _ _ (by omega)) ?_; rintro z1 ρ1 L1 hle0 ⟨rfl, rfl, rfl⟩; simp only [List.cons_append, List.nil_append]) | (refine ZE ?_; refine Zo (Zd rfl) rfl rfl ?_) | (refine Zj ?_; first | (refine Zf ?_; refine qQ ?_) | refine Zn ?_) | refine Zb ?_ | (refine Zi ?_; refine Zv ?_) | (refine Zh ?_; refine Zu ?_) | intro _)
     exact qE (L' := []) ⟨Hp.le_trans hle3 hl1, rfl, rfl⟩
   ·rw [if_neg k2]
    by_cases k4 : r.kind = 4
    ·rw [if_pos k4]
     have hA := h.s.at'
     have hl := hA.len
     have hsl := hF.sl
     have hU : ∀ ρ, RcIn ρ ⟨⟨none, 0, 0⟩, ⟨none, 0, 0⟩, ⟨none, 0, 0⟩, ⟨none, 0, 0⟩⟩ (undR []) := fun ρ => ⟨AS.nil, by simp [undR], AS.nil, AS.nil, AS.nil, by simp [undR]⟩
     have hla := fun ρ => rlaid_spec ρ _ _ (hU ρ) (undR_lay (l := []) (by simp) (by simp))
     rw [undR_nil] at hla
     repeat' (first | (refine Ze (.func 27) ?_; refine qC rfl rfl (hck) ?_; rintro v ρ' L' hle ⟨rfl, rfl, rfl⟩ <;> (try simp only [kM, kN, kO, if_true])) | (refine ZE ?_; refine Zo (Zd rfl) rfl rfl ?_) | (refine Zj ?_; first | (refine Zf ?_; refine qQ ?_) | refine Zn ?_) | refine Zb ?_ | (refine Zi ?_; refine Zv ?_) | (refine Zh ?_; refine Zu ?_) | intro _)
     rename_i rb ub
     refine ZB [(2, _), (3, _), (5, _), (6, _), (43, _), (44, _)] (fun (ζ : (Nat) × (Nat)) => [(45, .int .i64 ζ.1), (9, .int .i64 ζ.2)]) (fun (ζ : (Nat) × (Nat)) => ρ') (fun (ζ : (Nat) × (Nat)) => [[(rb, .cells ⟨Xh v r⟩ 30 (0, 0))]]) (fun (ζ : (Nat) × (Nat)) => ζ.1 ≤ v.s.n ∧ ζ.2 = pagesN (r.steps.take ζ.1)) (fun (ζ : (Nat) × (Nat)) => v.s.n - ζ.1) ((0, 0)) (⟨Nat.zero_le _, rfl⟩) Zm Zm rfl tk ?_
     rintro ⟨k, n⟩ hI
     try simp only [List.cons_append, List.nil_append, List.append_assoc, List.append_eq] at hI ⊢
     try dsimp only at hI ⊢
     obtain ⟨hk, hn⟩ := hI
     have hple := pagesN_le (r.steps.take k)
     have htl : (r.steps.take k).length ≤ 2 := by simp; omega
     by_cases hlt : k < v.s.n
     ·obtain ⟨b, off, C, T, fr, e1, hb, hfit, hc⟩ := hA.get (show k < r.steps.length by omega)
      have hx := pagesN_succ r.steps k (by omega)
      generalize r.steps[k]'(by omega) = x at *
      rw [e1]
      unfold stepN at hx
      by_cases h34 : x.kind = 3 ∨ x.kind = 4
      ·rw [if_pos h34] at hx
       rcases h34 with e | e
       all_goals (repeat' (first | (refine ZE ?_; refine Zo (Zd rfl) rfl rfl ?_) | (refine Zj ?_; first | (refine Zf ?_; refine qQ ?_) | refine Zn ?_) | refine Zb ?_ | (refine Zi ?_; refine Zv ?_) | (refine Zh ?_; refine Zu ?_) | intro _))
       all_goals rw [← e1]
       all_goals refine Zq (k + 1, n + 12) (⟨hlt, by dsimp only; omega⟩) Zm Zm rfl tk inferInstance (by first | omega | (dsimp only; omega))
      ·rw [if_neg h34] at hx
       repeat' (first | (refine ZE ?_; refine Zo (Zd rfl) rfl rfl ?_) | (refine Zj ?_; first | (refine Zf ?_; refine qQ ?_) | refine Zn ?_) | refine Zb ?_ | (refine Zi ?_; refine Zv ?_) | (refine Zh ?_; refine Zu ?_) | intro _)
       rw [← e1]
       refine Zq (k + 1, n + 1) (⟨hlt, by dsimp only; omega⟩) Zm Zm rfl tk inferInstance (by first | omega | (dsimp only; omega))
     ·rw [show r.steps.take k = r.steps by rw [show k = r.steps.length by omega, List.take_length]] at hn hple htl
      subst hn
      repeat' (first | (refine Ze (.func 112) ?_; refine qC rfl rfl (hla _) ?_; rintro v ρ' L' hle ⟨hl1, a, c, rfl, hc, hs, rfl⟩ <;> (try simp only [kM, kN, kO])) | (rw [show ((30 : Nat) : Int) + min ((pagesN r.steps : Nat) : Int) 16 * 83 = ((30 + min (pagesN r.steps) 16 * 83 : Nat) : Int) by omega]; refine Ze (.func 127) ?_; refine qC rfl rfl (rsects_spec _ _ (by omega)) ?_; rintro z1 ρ1 L1 hle0 ⟨rfl, rfl, rfl⟩; simp only [List.cons_append, List.nil_append]) | (refine ZE ?_; refine Zo (Zd rfl) rfl rfl ?_) | (refine Zj ?_; first | (refine Zf ?_; refine qQ ?_) | refine Zn ?_) | refine Zb ?_ | (refine Zi ?_; refine Zv ?_) | (refine Zh ?_; refine Zu ?_) | intro _)
      exact qE (L' := []) ⟨hl1, rfl, rfl⟩
    ·rw [if_neg k4]
     repeat' (first | (refine Ze (.func 27) ?_; refine qC rfl rfl (hck) ?_; rintro v ρ' L' hle ⟨rfl, rfl, rfl⟩ <;> (try simp only [kM, kN, kO, if_true])) | (refine ZE ?_; refine Zo (Zd rfl) rfl rfl ?_) | (refine Zj ?_; first | (refine Zf ?_; refine qQ ?_) | refine Zn ?_) | refine Zb ?_ | (refine Zi ?_; refine Zv ?_) | (refine Zh ?_; refine Zu ?_) | intro _)
     exact qE (L' := []) ⟨Hp.le_refl _, rfl, rfl⟩
theorem OwnS.pos {v n xs sp sz} (h : OwnS v n xs sp sz) (h0 : 0 < n) : ∃ b cap, v = .slice (some ⟨b, 0, none⟩) n cap := by
 rcases h.out with ⟨_, h2, _⟩ | ⟨b, cap, h1, _⟩
 ·omega
 ·exact ⟨b, cap, h1⟩
def unI (x : Im) : Im := ⟨x.page, nilCV, ztC, x.bv, x.b⟩
theorem flatMap_len2 {α : Type} (f g : α → List UInt8) : ∀ (l : List α), (∀ x ∈ l, (f x).length = (g x).length) → (l.flatMap f).length = (l.flatMap g).length
 | [], _ => rfl
 | x :: r, h => by
  rw [List.flatMap_cons, List.flatMap_cons, List.length_append, List.length_append, h x (by simp), flatMap_len2 f g r (fun y hy => h y (by simp [hy]))]
section
variable {x : Cx} {Q : Exit → Act → World → Prop} {E : Env} {ρ : Hp} {L L1 : SH} {ops : Array Oper} {rest : List Oper} {ty : TypeId} {pos : String} {af : Array Edge}
theorem Yv {d t e m cx : Nat} {s y : Operand} {v : Value} {X Y : List UInt8} {sp : List Value} {a : Option Addr} [hS : Yi x.P t e] [hZ : ZR x.P e 1] [hB : Zy x.P e 1] [hz : ZC x.P e (.int .u8 0)]
  (hs : ev E s = some v) (hy : ev E y = some (.slice a m cx)) (hown : OwnS v X.length (X.map Yc) sp 1) (hsr : SIn ρ Yc a m Y) (hb : X.length + Y.length ≤ 100000) (hd : Nat.blt d x.N = true)
  (k : ∀ va vc sp', OwnS (.slice va (X ++ Y).length vc) (X ++ Y).length ((X ++ Y).map Yc) sp' 1 → TL x ops rest Q ((d, .slice va (X ++ Y).length vc) :: E) ρ (ZK (.slice va (X ++ Y).length vc) ((X ++ Y).map Yc) sp' e :: L1)) (hR : Rem (ZK v (X.map Yc) sp e) L L1 := by infer_instance) :
  TL x ops (⟨some d, .call { callee := .builtin .append, args := #[s, y], argTypes := #[t, t] }, ty, pos, af, none⟩ :: rest) Q E ρ L := by
 have hl := hsr.len
 refine ZV (ys := Y.map Yc) (sz := 1) (by' := 1) hs hy hown (hR := hR) (SIn.srcV hsr) (by simpa using hl) (u8c_one _) (by decide) rfl (by omega) (by omega) hd (fun v' sp' h' => ?_)
 rw [← List.map_append] at h' ⊢
 rw [show X.length + m = (X ++ Y).length by rw [List.length_append, hl]] at h'
 obtain ⟨va, vc, rfl, _⟩ := h'.slice
 exact k va vc sp' h'
theorem Xr {d t e cx : Nat} {s y : Operand} {v : Value} {X : List UInt8} {b : UInt8} {sp : List Value} {a : Option Addr} [hS : Yi x.P t e] [hZ : ZR x.P e 1] [hB : Zy x.P e 1] [hz : ZC x.P e (.int .u8 0)]
  (hs : ev E s = some v) (hy : ev E y = some (.slice a 1 cx)) (hown : OwnS v X.length (X.map Yc) sp 1) (hsr : SrcV x ρ L1 a [Yc b]) (hb : X.length + 1 ≤ 100000) (hd : Nat.blt d x.N = true)
  (k : ∀ va vc sp', OwnS (.slice va (X ++ [b]).length vc) (X ++ [b]).length ((X ++ [b]).map Yc) sp' 1 → TL x ops rest Q ((d, .slice va (X ++ [b]).length vc) :: E) ρ (ZK (.slice va (X ++ [b]).length vc) ((X ++ [b]).map Yc) sp' e :: L1)) (hR : Rem (ZK v (X.map Yc) sp e) L L1 := by infer_instance) :
  TL x ops (⟨some d, .call { callee := .builtin .append, args := #[s, y], argTypes := #[t, t] }, ty, pos, af, none⟩ :: rest) Q E ρ L := by
 refine ZV (ys := [Yc b]) (sz := 1) (by' := 1) (m := 1) hs hy hown (hR := hR) hsr rfl rfl (by decide) rfl (by omega) (by omega) hd (fun v' sp' h' => ?_)
 rw [show X.map Yc ++ [Yc b] = (X ++ [b]).map Yc by simp] at h' ⊢
 rw [show X.length + 1 = (X ++ [b]).length by simp] at h'
 obtain ⟨va, vc, rfl, _⟩ := h'.slice
 exact k va vc sp' h'
end
theorem be_take_succ (n x j : Nat) (h : j < n) : (be n x).take (j + 1) = (be n x).take j ++ [UInt8.ofNat (x / 256 ^ (n - 1 - j))] := by
 induction n generalizing j with
 | zero => omega
 | succ n ih =>
  rw [be]
  cases j with
  | zero => simp
  | succ j =>
   rw [List.take_succ_cons, List.take_succ_cons, ih j (by omega)]
   simp only [List.cons_append]
   rw [show n - 1 - j = n + 1 - 1 - (j + 1) by omega]
theorem Wl (ρ : Hp) (z : Int) (n : Nat) (h0 : 0 ≤ z) (hz : z < 18446744073709551616) (hn : n ≤ 8) :
  Spec Tryz.prog 113 [.int .u64 z, .int .i64 n] ρ [] (fun v ρ' L' => ρ.le ρ' ∧ ∃ a c, v = .slice a n c ∧ n ≤ c ∧ SIn ρ' Yc a n (be n z.toNat) ∧ L' = []) := by
 obtain ⟨x, rfl⟩ : ∃ x : Nat, z = x := ⟨z.toNat, by omega⟩
 simp only [Int.toNat_natCast]
 refine Zg Tryz.func113 rfl rfl rfl fun u R => ?_
 simp only [Zx, List.cons_append, List.nil_append]
 repeat' (first | (refine ZE ?_; refine Zo (Zd rfl) rfl rfl ?_) | (refine Zj ?_; first | (refine Zf ?_; refine qQ ?_) | refine Zn ?_) | refine Zb ?_ | (refine Zi ?_; refine Zv ?_) | (refine Zh ?_; refine Zu ?_) | intro _)
 rw [show ((n : Int) - 1) = (n : Int) - 1 - ((0 : Nat) : Int) by omega]
 refine ZB [(0, _), (4, _)] (fun (ζ : (Nat) × (Value) × (List Value)) => [(6, .int .i64 ((n : Int) - 1 - (ζ.1 : Int))), (5, ζ.2.1)]) (fun (ζ : (Nat) × (Value) × (List Value)) => ρ) (fun (ζ : (Nat) × (Value) × (List Value)) => [ZK ζ.2.1 (((be n x).take ζ.1).map Yc) ζ.2.2 5]) (fun (ζ : (Nat) × (Value) × (List Value)) => ζ.1 ≤ n ∧ OwnS ζ.2.1 ζ.1 (((be n x).take ζ.1).map Yc) ζ.2.2 1) (fun (ζ : (Nat) × (Value) × (List Value)) => n - ζ.1) ((0, .slice none 0 0, [])) (⟨Nat.zero_le _, OwnS.nil 1⟩) Zm Zm rfl tk ?_
 rintro ⟨j, v, sp⟩ hI
 try simp only [List.cons_append, List.nil_append, List.append_assoc, List.append_eq] at hI ⊢
 try dsimp only at hI ⊢
 obtain ⟨hj, hown⟩ := hI
 by_cases hj8 : j < n
 ·have hsh := shr_byte x (n - 1 - j)
  have hts := be_take_succ n x j hj8
  have hxx : ((be n x).take j).map Yc ++ [Yc (UInt8.ofNat (x / 256 ^ (n - 1 - j)))] = ((be n x).take (j + 1)).map Yc := by rw [hts]; simp
  obtain ⟨va, vc, rfl, _⟩ := hown.slice
  repeat' (first | (refine iSr ?_; refine Zo (y_shr (c := 8 * (n - 1 - j)) rfl rfl (by omega) (by simp only [IntKind.bits]; omega)) rfl rfl ?_) | (refine iCv ?_; refine Zo (y_conv (k := .u8) rfl) rfl rfl ?_; rw [hsh]) | (refine Zr rfl rfl rfl rfl (by simp) rfl rfl (fun _ => ?_)) | (refine ZV (ys := [Yc (UInt8.ofNat (x / 256 ^ (n - 1 - j)))]) (m := 1) rfl rfl hown (hR := by infer_instance) SrcV.lit rfl rfl (by decide) rfl (by omega) (by omega) rfl (fun v2 sp2 hown2 => ?_); rw [hxx] at hown2 ⊢) | (refine ZE ?_; refine Zo (Zd rfl) rfl rfl ?_) | (refine Zj ?_; first | (refine Zf ?_; refine qQ ?_) | refine Zn ?_) | refine Zb ?_ | (refine Zi ?_; refine Zv ?_) | (refine Zh ?_; refine Zu ?_) | intro _)
  have e7 : ((n : Int) - 1 - (j : Int) - 1) = (n : Int) - 1 - ((j + 1 : Nat) : Int) := by omega
  rw [e7]
  refine Zq (j + 1, v2, sp2) (⟨hj8, hown2⟩) Zm Zm rfl tk inferInstance (by first | omega | (dsimp only; omega))
 ·obtain rfl : j = n := by omega
  rw [show (be j x).take j = be j x from List.take_of_length_le (by rw [Zt]; exact Nat.le_refl _)] at hown ⊢
  obtain ⟨va, vc, rfl, _⟩ := hown.slice
  repeat' (first | (refine ZE ?_; refine Zo (Zd rfl) rfl rfl ?_) | (refine Zj ?_; first | (refine Zf ?_; refine qQ ?_) | refine Zn ?_) | refine Zb ?_ | (refine Zi ?_; refine Zv ?_) | (refine Zh ?_; refine Zu ?_) | intro _)
  refine Yk (ZK (.slice va j vc) ((be j x).map Yc) sp 5) (fun ρ3 hle3 hfz => ?_)
  obtain ⟨a3, c3, e3, hc3, hs3⟩ := hown.sIn hfz
  cases e3
  exact qE ⟨hle3, va, vc, rfl, hc3, hs3, rfl⟩
theorem stepped_spec (ρ : Hp) (s : Stp) (hs : YL s = true) (hf : RowFit s.row) :
  Spec Tryz.prog 115 [.agg ⟨stpV s⟩] ρ [] (fun v ρ' L' => ρ.le ρ' ∧ ∃ a c, v = .slice a (Xu s).length c ∧ (Xu s).length ≤ c ∧ SIn ρ' Yc a (Xu s).length (Xu s) ∧ L' = []) := by
 obtain ⟨hk4, hr23, hkt⟩ := step_kinds hs
 have hid := hf.id
 have hkB := tB_eq (t := s.kind) (by omega) (by omega)
 refine Zg Tryz.func115 rfl rfl rfl fun u R => ?_
 simp only [Zx, List.cons_append, List.nil_append]
 by_cases h23 : s.kind = 2 ∨ s.kind = 3
 ·have hst : Xu s = [tB s.kind] ++ Yo s.row := by unfold Xu; rw [if_pos h23]; rfl
  have hrr := fun ρ => rowR6_spec ρ s.row (hr23 h23) hid
  have hrl := rowB_le (hr23 h23)
  rcases h23 with e | e
  all_goals (repeat' (first | (refine Zr rfl rfl rfl rfl (by simp) rfl rfl (fun bs => ?_); simp only [hkB]) | (refine ZE ?_; refine Zo (Zd rfl) rfl rfl ?_) | (refine Zj ?_; first | (refine Zf ?_; refine qQ ?_) | refine Zn ?_) | refine Zb ?_ | (refine Zi ?_; refine Zv ?_) | (refine Zh ?_; refine Zu ?_) | intro _))
  all_goals rename_i b1
  all_goals rw [show ([(bs, Obj.cells ⟨[Yc (tB s.kind)]⟩ 5 (0, 0))] : List (Nat × Obj)) = ZK (.slice (some ⟨bs, 0, none⟩) 1 1) ([tB s.kind].map Yc) [] 5 from rfl]
  all_goals have hown : Wt (.slice (some ⟨bs, 0, none⟩) 1 1) [tB s.kind] [] := ⟨.inr ⟨bs, 1, rfl, rfl, rfl, Nat.le_refl _⟩⟩
  all_goals generalize Value.slice (some ⟨bs, 0, none⟩) 1 1 = w0 at *
  all_goals obtain ⟨X0, hX0⟩ : ∃ X0, [tB s.kind] = X0 := ⟨_, rfl⟩
  all_goals have hX0l : X0.length = 1 := by rw [← hX0]; rfl
  all_goals rw [hX0] at hown ⊢
  all_goals obtain ⟨va, vc, rfl, _⟩ := hown.slice
  all_goals (repeat' (first | (refine Ze (.func 201) ?_; refine qC rfl rfl (hrr _) ?_; rintro v2 ρ2 L2 hle0 ⟨hle2, sp2, hown2, rfl⟩; simp only [List.cons_append, List.nil_append]; refine Ys _ (h := Rem.here) (fun ρ3 hle3 hfz => ?_); obtain ⟨a3, c3, rfl, hc3, hs3⟩ := hown2.sIn hfz; clear hfz) | (refine Yv (Y := Yo s.row) rfl rfl hown (by first | exact hs3 | exact SIn.mono hs3 (by assumption)) (by (try simp [Zt]) <;> omega) rfl (fun va vc sp' hown => ?_)) | (refine ZE ?_; refine Zo (Zd rfl) rfl rfl ?_) | (refine Zj ?_; first | (refine Zf ?_; refine qQ ?_) | refine Zn ?_) | refine Zb ?_ | (refine Zi ?_; refine Zv ?_) | (refine Zh ?_; refine Zu ?_) | intro _))
  all_goals rw [hst, hX0]
  all_goals (refine Yk (YV (.slice va (X0 ++ Yo s.row).length vc) (X0 ++ Yo s.row) sp') (h := by repeat (first | exact ZH | apply ZG)) (fun ρ6 hle6 hfz => ?_))
  all_goals obtain ⟨a6, c6, e6, hc6, hs6⟩ := hown.sIn hfz
  all_goals cases e6
  all_goals exact qE (L' := []) ⟨Hp.le_trans hle2 (Hp.le_trans hle3 hle6), va, vc, rfl, hc6, hs6, rfl⟩
 ·have hkt := hkt h23
  have htB := tB_eq (t := s.row.t) (by omega) (by omega)
  have hst : Xu s = [tB s.kind] ++ [tB s.row.t] ++ be 2 s.row.id ++ (if s.kind = 1 then be 8 (vN s.by') else []) := by unfold Xu; rw [if_neg h23]; simp
  have hvl := vN_lt s.by'
  repeat' (first | (refine Zr rfl rfl rfl rfl (by simp) rfl rfl (fun bs => ?_); simp only [hkB]) | (refine ZE ?_; refine Zo (Zd rfl) rfl rfl ?_) | (refine Zj ?_; first | (refine Zf ?_; refine qQ ?_) | refine Zn ?_) | refine Zb ?_ | (refine Zi ?_; refine Zv ?_) | (refine Zh ?_; refine Zu ?_) | intro _)
  rename_i b1
  rw [show ([(bs, Obj.cells ⟨[Yc (tB s.kind)]⟩ 5 (0, 0))] : List (Nat × Obj)) = ZK (.slice (some ⟨bs, 0, none⟩) 1 1) ([tB s.kind].map Yc) [] 5 from rfl]
  have hown : Wt (.slice (some ⟨bs, 0, none⟩) 1 1) [tB s.kind] [] := ⟨.inr ⟨bs, 1, rfl, rfl, rfl, Nat.le_refl _⟩⟩
  generalize Value.slice (some ⟨bs, 0, none⟩) 1 1 = w0 at *
  obtain ⟨X0, hX0⟩ : ∃ X0, [tB s.kind] = X0 := ⟨_, rfl⟩
  have hX0l : X0.length = 1 := by rw [← hX0]; rfl
  rw [hX0] at hown ⊢
  obtain ⟨va, vc, rfl, _⟩ := hown.slice
  repeat' (first | (refine ZE ?_; refine Zo (Zd rfl) rfl rfl ?_) | (refine Zj ?_; first | (refine Zf ?_; refine qQ ?_) | refine Zn ?_) | refine Zb ?_ | (refine Zi ?_; refine Zv ?_) | (refine Zh ?_; refine Zu ?_) | intro _)
  refine tc_cut_k R [] (fun (ζ : (Hp) × (Value) × (List Value)) => [(1, .pointer (some ⟨b1, 0, none⟩)), (2, .slice none 0 0), (3, ζ.2.1)]) (fun (ζ : (Hp) × (Value) × (List Value)) => ζ.1) (fun (ζ : (Hp) × (Value) × (List Value)) => [YV ζ.2.1 (X0 ++ [tB s.row.t] ++ be 2 s.row.id) ζ.2.2, [(b1, .cells ⟨stpV s⟩ 103 (0, 0))]]) (fun (ζ : (Hp) × (Value) × (List Value)) => ρ.le ζ.1 ∧ Wt ζ.2.1 (X0 ++ [tB s.row.t] ++ be 2 s.row.id) ζ.2.2) Zm ?_ ?_
  ·refine ZD (Zs _ _ ([[(b1, .cells ⟨stpV s⟩ 103 (0, 0))]])) (Zz (hT := tk) (Hp.le_refl _)) ?_
   all_goals (refine ZT 0 ?_; refine ZS 1 ?_; refine ZS 2 ?_; refine ZS 3 ?_; refine ZX 4 ?_; refine rCv 5 ?_; refine ZS 8 ?_; refine ZS 9 ?_; refine ZS 10 ?_; refine ZX 11 ?_; refine rCv 12 ?_)
   all_goals (refine Zp (i := 6) ?_; ((try refine Zk ?_); (first | (refine Zr rfl rfl rfl rfl (by simp) rfl rfl (fun bs => ?_); simp only [htB]) | (refine Zn ?_; try intro _)) <;> ((try simp only [kM, kN, kO]); refine Zb ?_; refine Zl ?_)))
   all_goals (refine Zp (i := 7) ?_; ((try refine Zk ?_); (first | (refine Xr (b := tB s.row.t) rfl rfl hown SrcV.lit (by (try simp [Zt]) <;> omega) rfl (fun va vc sp' hown => ?_)) | (refine Yv (Y := be 2 s.row.id) rfl rfl hown (by first | exact hs2 | exact SIn.mono hs2 (by assumption)) (by (try simp [Zt]) <;> omega) rfl (fun va vc sp' hown => ?_)) | (refine Zn ?_; try intro _)) <;> ((try simp only [kM, kN, kO]); refine Zb ?_; refine Zl ?_)))
   all_goals (refine Zp (i := 13) ?_; ((try refine Zk ?_); (first | (refine Ze (.func 113) ?_; refine qC rfl rfl (Wl _ (s.row.id : Int) 2 (by omega) (by omega) (by decide)) ?_; rintro v ρ' L' hle ⟨hl2, a2, c2, rfl, hc2, hs2, rfl⟩ <;> (try simp only [kM, kN, kO]); (simp only [Int.toNat_natCast] at hs2)) | (refine Zn ?_; try intro _)) <;> ((try simp only [kM, kN, kO]); refine Zb ?_; refine Zl ?_)))
   all_goals (refine Zp (i := 14) ?_; ((try refine Zk ?_); (first | (refine Xr (b := tB s.row.t) rfl rfl hown SrcV.lit (by (try simp [Zt]) <;> omega) rfl (fun va vc sp' hown => ?_)) | (refine Yv (Y := be 2 s.row.id) rfl rfl hown (by first | exact hs2 | exact SIn.mono hs2 (by assumption)) (by (try simp [Zt]) <;> omega) rfl (fun va vc sp' hown => ?_)) | (refine Zn ?_; try intro _)) <;> ((try simp only [kM, kN, kO]); refine Zb ?_; refine Zl ?_)))
   all_goals (refine ZO ?_; refine rAs 15 ?_; refine ZI ?_)
   all_goals refine te_cut_g ((_, _, _)) (⟨hl2, hown⟩) Zm Zm rfl tk inferInstance
  ·rintro ⟨ρ1, w, sp⟩ ⟨hle1, hown⟩
   simp only [List.cons_append, List.nil_append] at hle1 ⊢
   dsimp only at hown
   obtain ⟨va, vc, rfl, _⟩ := hown.slice
   by_cases h1 : s.kind = 1
   ·rw [if_pos h1] at hst
    repeat' (first | (simp only [vN_eq]; refine Ze (.func 113) ?_; refine qC rfl rfl (Wl _ (vN s.by' : Int) 8 (by omega) (by omega) (by decide)) ?_; rintro v3 ρ3 L3 hle0 ⟨hl3, a3, c3, rfl, hc3, hs3, rfl⟩; simp only [Int.toNat_natCast] at hs3; simp only [List.cons_append, List.nil_append]) | (refine Yv (Y := be 8 (vN s.by')) rfl rfl hown (by first | exact hs3 | exact SIn.mono hs3 (by assumption)) (by (try simp [Zt]) <;> omega) rfl (fun va vc sp' hown => ?_)) | (refine ZE ?_; refine Zo (Zd rfl) rfl rfl ?_) | (refine Zj ?_; first | (refine Zf ?_; refine qQ ?_) | refine Zn ?_) | refine Zb ?_ | (refine Zi ?_; refine Zv ?_) | (refine Zh ?_; refine Zu ?_) | intro _)
    rw [hst, hX0]
    refine Yk (YV (.slice va (X0 ++ [tB s.row.t] ++ be 2 s.row.id ++ be 8 (vN s.by')).length vc) (X0 ++ [tB s.row.t] ++ be 2 s.row.id ++ be 8 (vN s.by')) sp') (h := by repeat (first | exact ZH | apply ZG)) (fun ρ6 hle6 hfz => ?_)
    obtain ⟨a6, c6, e6, hc6, hs6⟩ := hown.sIn hfz
    cases e6
    exact qE (L' := []) ⟨Hp.le_trans hle1 (Hp.le_trans hl3 hle6), va, vc, rfl, hc6, hs6, rfl⟩
   ·rw [if_neg h1, List.append_nil] at hst
    repeat' (first | (refine ZE ?_; refine Zo (Zd rfl) rfl rfl ?_) | (refine Zj ?_; first | (refine Zf ?_; refine qQ ?_) | refine Zn ?_) | refine Zb ?_ | (refine Zi ?_; refine Zv ?_) | (refine Zh ?_; refine Zu ?_) | intro _)
    rw [hst, hX0]
    refine Yk (YV (.slice va (X0 ++ [tB s.row.t] ++ be 2 s.row.id).length vc) (X0 ++ [tB s.row.t] ++ be 2 s.row.id) sp) (h := by repeat (first | exact ZH | apply ZG)) (fun ρ6 hle6 hfz => ?_)
    obtain ⟨a6, c6, e6, hc6, hs6⟩ := hown.sIn hfz
    cases e6
    exact qE (L' := []) ⟨Hp.le_trans hle1 hle6, va, vc, rfl, hc6, hs6, rfl⟩
end Go.Proofs.E
