/- The law RosterDoes. Part 18 of 20. -/
import Derived.Test.YtjajdpfdhokkhaaGreatY17
namespace Go.Proofs.E
open Go
set_option linter.unusedVariables false
set_option linter.unusedSimpArgs false
set_option linter.unusedSectionVars false
set_option maxRecDepth 4000
set_option maxHeartbeats 1000000
attribute [local irreducible] Yl TL TC TE Spec Wq R1 Hp.le EnvLe TS TR YS Zs
theorem copied_spec (ρ : Hp) (x : Tx) (hin : Tx.In ρ x) (hb1 : x.sv.n ≤ 1099511627776) (hb2 : x.mv.n ≤ 1099511627776) : Spec Tryz.prog 116 [.agg ⟨Ym x⟩] ρ []
  (fun z ρ' L' => ρ.le ρ' ∧ ∃ y : Tx, z = .agg ⟨Ym y⟩ ∧ Tx.In ρ' y ∧ y.p = x.p ∧ L' = []) := by
 refine Zg Tryz.func116 rfl rfl rfl fun u R => ?_
 simp only [Zx, List.cons_append, List.nil_append]
 have hS := hin.s
 have hM := hin.m
 have hSl := hS.len
 have hMl := hM.len
 have hxsc := hin.sc
 have hxmc := hin.mc
 have hxsb := hin.sb
 have hxmb := hin.mb
 have hpx : ∀ a1 c1 a2 c2, ({ x with sv := ⟨a1, x.sv.n, c1⟩, mv := ⟨a2, x.mv.n, c2⟩ } : Tx).p = x.p := fun _ _ _ _ => rfl
 repeat' (first | (refine ZE ?_; refine Zo (Zd rfl) rfl rfl ?_) | (refine Zj ?_; first | (refine Zf ?_; refine qQ ?_) | refine Zn ?_) | refine Zb ?_ | (refine Zi ?_; refine Zv ?_) | (refine Zh ?_; refine Zu ?_) | intro _)
 rename_i b5 b6
 refine Wc 9 (Zs _ _ ([[(b5, .cells ⟨Ym x⟩ 72 (0, 0))]])) (by decide +kernel) (Zz (hT := tk) (Hp.le_refl _)) ?_
 simp only [List.take_succ_cons, List.take_zero]
 all_goals (refine ZS 1 ?_; refine ZX 2 ?_; refine ZS 5 ?_; refine ZX 6 ?_)
 all_goals (refine Ye (i := 0) (j := 4) ?_ ?_ <;> ((try refine Zk ?_); (first | (refine Zn ?_; try intro _)) <;> ((try simp only [kM, kN, kO]); refine Zb ?_; refine Zl ?_)))
 all_goals (first | (refine Ye (i := 3) (j := 4) ?_ ?_ <;> ((try refine Zk ?_); (first | (refine ZV (n := 0) (xs := []) (sp := []) (ys := (x.stack.map lfV).flatten) (m := x.sv.n) (sz := 2) rfl rfl (OwnS.zero _ 2) (hR := by repeat (first | exact ZH | apply ZG)) hS.srcV (by rw [YX WA, hSl]) (XV (fun _ => rfl) _) (by decide) rfl (by omega) (by omega) rfl (fun v1 sp1 o1 => ?_); simp only [Nat.zero_add, List.nil_append] at o1 ⊢; obtain ⟨a1, c1, rfl, q1⟩ := o1.slice) | (refine ZV (n := 0) (xs := []) (sp := []) (ys := x.marks.map ZU) (m := x.mv.n) (sz := 1) rfl rfl (OwnS.zero _ 1) (hR := by repeat (first | exact ZH | apply ZG)) hM.srcV (by rw [List.length_map, hMl]; omega) (by simp [Value.oneCell']) (by decide) rfl (by omega) (by omega) rfl (fun v2 sp2 o2 => ?_); simp only [Nat.zero_add, List.nil_append] at o2 ⊢; obtain ⟨a2, c2, rfl, q2⟩ := o2.slice) | (refine Zn ?_; try intro _)) <;> ((try simp only [kM, kN, kO]); refine Zb ?_; refine Zl ?_))) | (refine Zp (i := 0) ?_; ((try refine Zk ?_); (first | (refine Zn ?_; try intro _)) <;> ((try simp only [kM, kN, kO]); refine Zb ?_; refine Zl ?_))))
 all_goals (first | refine ZS 8 ?_ | (refine Zp (i := 3) ?_; ((try refine Zk ?_); (first | (refine ZV (n := 0) (xs := []) (sp := []) (ys := (x.stack.map lfV).flatten) (m := x.sv.n) (sz := 2) rfl rfl (OwnS.zero _ 2) (hR := by repeat (first | exact ZH | apply ZG)) hS.srcV (by rw [YX WA, hSl]) (XV (fun _ => rfl) _) (by decide) rfl (by omega) (by omega) rfl (fun v1 sp1 o1 => ?_); simp only [Nat.zero_add, List.nil_append] at o1 ⊢; obtain ⟨a1, c1, rfl, q1⟩ := o1.slice) | (refine ZV (n := 0) (xs := []) (sp := []) (ys := x.marks.map ZU) (m := x.mv.n) (sz := 1) rfl rfl (OwnS.zero _ 1) (hR := by repeat (first | exact ZH | apply ZG)) hM.srcV (by rw [List.length_map, hMl]; omega) (by simp [Value.oneCell']) (by decide) rfl (by omega) (by omega) rfl (fun v2 sp2 o2 => ?_); simp only [Nat.zero_add, List.nil_append] at o2 ⊢; obtain ⟨a2, c2, rfl, q2⟩ := o2.slice) | (refine Zn ?_; try intro _)) <;> ((try simp only [kM, kN, kO]); refine Zb ?_; refine Zl ?_))))
 all_goals (first | refine ZS 8 ?_ | (refine Zp (i := 4) ?_; ((try refine Zk ?_); (first | (refine Zn ?_; try intro _)) <;> ((try simp only [kM, kN, kO]); refine Zb ?_; refine Zl ?_))))
 all_goals (refine Zp (i := 7) ?_; ((try refine Zk ?_); (first | (refine ZV (n := 0) (xs := []) (sp := []) (ys := (x.stack.map lfV).flatten) (m := x.sv.n) (sz := 2) rfl rfl (OwnS.zero _ 2) (hR := by repeat (first | exact ZH | apply ZG)) hS.srcV (by rw [YX WA, hSl]) (XV (fun _ => rfl) _) (by decide) rfl (by omega) (by omega) rfl (fun v1 sp1 o1 => ?_); simp only [Nat.zero_add, List.nil_append] at o1 ⊢; obtain ⟨a1, c1, rfl, q1⟩ := o1.slice) | (refine ZV (n := 0) (xs := []) (sp := []) (ys := x.marks.map ZU) (m := x.mv.n) (sz := 1) rfl rfl (OwnS.zero _ 1) (hR := by repeat (first | exact ZH | apply ZG)) hM.srcV (by rw [List.length_map, hMl]; omega) (by simp [Value.oneCell']) (by decide) rfl (by omega) (by omega) rfl (fun v2 sp2 o2 => ?_); simp only [Nat.zero_add, List.nil_append] at o2 ⊢; obtain ⟨a2, c2, rfl, q2⟩ := o2.slice) | (refine Zn ?_; try intro _)) <;> ((try simp only [kM, kN, kO]); refine Zb ?_; refine Zl ?_)))
 all_goals refine ZI ?_
 all_goals refine Wb (fuel := 3) (m := [true, true, true, true, true, true, true, true, true, false, false, false]) (Zs _ _ ([])) rfl rfl (Zz (hT := tk) (Hp.le_refl _)) ?_
 all_goals (refine Zp (i := 9) ?_; ((try refine Zk ?_); (first | (refine Zn ?_; try intro _)) <;> ((try simp only [kM, kN, kO]); refine Zb ?_; refine Zl ?_)))
 all_goals refine ZS 10 ?_
 all_goals (refine Zp (i := 11) ?_; ((try refine Zk ?_); (first | (refine Zn ?_; try intro _)) <;> ((try simp only [kM, kN, kO]); refine Zb ?_; refine Zl ?_)))
 all_goals refine ZI ?_
 all_goals (
  refine Yk (ZK (.slice a1 x.sv.n c1) ((x.stack.map lfV).flatten) sp1 74) (h := by repeat (first | exact ZH | apply ZG)) (fun ρ4 hle4 hf4 => ?_)
  refine Yk (ZK (.slice a2 x.mv.n c2) (x.marks.map ZU) sp2 24) (h := by repeat (first | exact ZH | apply ZG)) (fun ρ5 hle5 hf5 => ?_)
  rw [← hSl] at o1
  rw [← hMl] at o2
  have hx' : Tx.In ρ5 { x with sv := ⟨a1, x.stack.length, c1⟩, mv := ⟨a2, x.marks.length, c2⟩ } := OwnX.tin ⟨o1, o2⟩ (fun p hp => Hp.up hle5 (hf4 p (by rw [← hSl]; exact hp))) (fun p hp => hf5 p (by rw [← hMl]; exact hp)) (by dsimp only; omega) (by dsimp only; omega)
  have hp' := hpx a1 c1 a2 c2
  rw [← hSl, ← hMl] at hp'
  rw [← hSl, ← hMl]
  clear hf4 hf5)
 all_goals (repeat' (first | (refine ZE ?_; refine Zo (Zd rfl) rfl rfl ?_) | (refine Zj ?_; first | (refine Zf ?_; refine qQ ?_) | refine Zn ?_) | refine Zb ?_ | (refine Zi ?_; refine Zv ?_) | (refine Zh ?_; refine Zu ?_) | intro _))
 all_goals exact qE (L' := []) (hle := Hp.le_trans hle4 hle5) ⟨Hp.le_trans hle4 hle5, _, rfl, hx', hp', rfl⟩
def RosB (p : Yr) : Prop := ∀ t ∈ p.txns, t.stack.length ≤ 1099511627776 ∧ t.marks.length ≤ 1099511627776
theorem RosG.rosB {p : Yr} (h : RosG p) : RosB p := fun t ht => by
 have h1 := (h.tx t ht).2.2
 have h2 := h1.sl
 have h3 := h1.ml
 exact ⟨h2, by omega⟩
theorem copy18_spec (ρ : Hp) (v : SV) (r : Ros) (h : RosIn ρ v r) (hB : RosB r.p) : Spec Tryz.prog 38 [.agg ⟨Yh v r⟩] ρ []
  (fun z ρ' L' => ρ.le ρ' ∧ ∃ (v' : SV) (r' : Ros), z = .agg ⟨Yh v' r'⟩ ∧ RosIn ρ' v' r' ∧ r'.p = r.p ∧ L' = []) := by
 have hl := h.at'.at'.len
 have hbig := h.at'.big
 refine Zg Tryz.func38 rfl rfl rfl fun u R => ?_
 simp only [Zx, List.cons_append, List.nil_append]
 have hpt : ∀ k (hk : k < r.txns.length), r.p.txns.take (k + 1) = r.p.txns.take k ++ [(r.txns[k]'hk).p] := fun k hk => by
  rw [List.take_succ_eq_append_getElem (by simp [Ros.p]; exact hk)]
  simp [Ros.p]
 repeat' (first | (refine ZE ?_; refine Zo (Zd rfl) rfl rfl ?_) | (refine Zj ?_; first | (refine Zf ?_; refine qQ ?_) | refine Zn ?_) | refine Zb ?_ | (refine Zi ?_; refine Zv ?_) | (refine Zh ?_; refine Zu ?_) | intro _)
 rename_i b1 b2
 refine ZB [(1, _), (2, _), (7, _), (8, _)] (fun (ζ : (Nat) × (Value) × (List Value) × (Hp) × (List Tx)) => [(9, .int .i64 ζ.1), (3, ζ.2.1)]) (fun (ζ : (Nat) × (Value) × (List Value) × (Hp) × (List Tx)) => ζ.2.2.2.1) (fun (ζ : (Nat) × (Value) × (List Value) × (Hp) × (List Tx)) => [ZK ζ.2.1 ((ζ.2.2.2.2.map Ym).flatten) ζ.2.2.1 72]) (fun (ζ : (Nat) × (Value) × (List Value) × (Hp) × (List Tx)) => ζ.1 ≤ v.n ∧ ρ.le ζ.2.2.2.1 ∧ OwnS ζ.2.1 ζ.2.2.2.2.length ((ζ.2.2.2.2.map Ym).flatten) ζ.2.2.1 7 ∧ ζ.2.2.2.2.map Tx.p = r.p.txns.take ζ.1 ∧ (∀ x ∈ ζ.2.2.2.2, Tx.In ζ.2.2.2.1 x)) (fun (ζ : (Nat) × (Value) × (List Value) × (Hp) × (List Tx)) => v.n - ζ.1) ((0, .slice none 0 0, [], ρ, [])) (⟨Nat.zero_le _, Hp.le_refl _, OwnS.nil 7, by simp, by simp⟩) Zm Zm rfl tk ?_
 rintro ⟨k, vv, sp, ρ1, acc⟩ hI
 try simp only [List.cons_append, List.nil_append, List.append_assoc, List.append_eq] at hI ⊢
 try dsimp only at hI ⊢
 obtain ⟨hk, hle1, hown, hmp, hac⟩ := hI
 have hal : acc.length = k := by
  have := congrArg List.length hmp
  simp only [List.length_map, List.length_take, Ros.p] at this
  omega
 obtain ⟨va, vc, rfl, _⟩ := hown.slice
 by_cases hlt : k < v.n
 ·obtain ⟨b, off, C, T, fr, e1, hb, hfit, hc⟩ := (h.at'.at'.mono hle1).get (show k < r.txns.length by omega)
  have hx2 := hpt k (by omega)
  have hin := (h.tx _ (List.getElem_mem (show k < r.txns.length by omega))).mono hle1
  have hbx := hB (r.txns[k]'(by omega)).p (List.mem_map.2 ⟨_, List.getElem_mem _, rfl⟩)
  generalize r.txns[k]'(by omega) = x at *
  have hxs := hin.s.len
  have hxm := hin.m.len
  have hcp := copied_spec ρ1 x hin (by have := hbx.1; simp only [Tx.p] at this; omega) (by have := hbx.2; simp only [Tx.p] at this; omega)
  rw [e1]
  repeat' (first | (refine Ze (.func 116) ?_; refine qC rfl rfl (hcp) ?_; rintro v ρ' L' hle ⟨hz1, y, rfl, hy, hyp, rfl⟩ <;> (try simp only [kM, kN, kO])) | (refine ZL (css := [Ym y]) (sz := 7) rfl rfl rfl rfl (by simp) (by simp) rfl (fun bs => ?_); simp only [List.flatten_cons, List.flatten_nil, List.append_nil]) | (refine ZV (ys := Ym y) (m := 1) rfl rfl hown (hR := by repeat (first | exact ZH | apply ZG)) SrcV.lit rfl rfl (by decide) rfl (by omega) (by omega) rfl (fun v3 sp3 hown3 => ?_)) | (refine ZE ?_; refine Zo (Zd rfl) rfl rfl ?_) | (refine Zj ?_; first | (refine Zf ?_; refine qQ ?_) | refine Zn ?_) | refine Zb ?_ | (refine Zi ?_; refine Zv ?_) | (refine Zh ?_; refine Zu ?_) | intro _)
  have hm : (acc.map Ym).flatten ++ Ym y = ((acc ++ [y]).map Ym).flatten := by simp
  rw [hm] at hown3 ⊢
  have hmp2 : (acc ++ [y]).map Tx.p = r.p.txns.take (k + 1) := by rw [List.map_append, hmp, hx2, ← hyp]; rfl
  have hac2 : ∀ z ∈ acc ++ [y], Tx.In ρ' z := fun z hz => by
   rcases List.mem_append.1 hz with hz | hz
   ·exact (hac z hz).mono hz1
   ·rw [List.mem_singleton.1 hz]; exact hy
  rw [← e1]
  refine Zq (k + 1, v3, sp3, ρ', acc ++ [y]) (⟨hlt, Hp.le_trans hle1 hz1, by rw [List.length_append]; exact hown3, hmp2, hac2⟩) Zm Zm rfl tk inferInstance (by first | omega | (dsimp only; omega))
 ·have hkn : k = r.txns.length := by omega
  repeat' (first | (refine ZE ?_; refine Zo (Zd rfl) rfl rfl ?_) | (refine Zj ?_; first | (refine Zf ?_; refine qQ ?_) | refine Zn ?_) | refine Zb ?_ | (refine Zi ?_; refine Zv ?_) | (refine Zh ?_; refine Zu ?_) | intro _)
  refine Yk (ZK (.slice va acc.length vc) ((acc.map Ym).flatten) sp 72) (fun ρ3 hle3 hfz => ?_)
  obtain ⟨sa, sc, f1, hsc, hA2⟩ := hown.aIn rfl (fun x _ => Wy x) hfz
  cases f1
  have q : (⟨r.next, acc⟩ : Ros).p = r.p := by
   show (⟨r.next, acc.map Tx.p⟩ : Yr) = _
   rw [hmp, List.take_of_length_le (by simp [Ros.p]; omega)]
  exact qE (L' := []) (hle := Hp.le_trans hle1 hle3) ⟨Hp.le_trans hle1 hle3, ⟨va, acc.length, vc⟩, ⟨r.next, acc⟩, rfl, ⟨⟨hA2, by show acc.length ≤ 1000000; omega, hsc⟩, fun y hy => (hac y hy).mono hle3⟩, q, rfl⟩
def putF (t : TxP) (ov : Bool) (x : TxP) : List TxP := if x.num = t.num then (if ov then [] else [t]) else [x]
def putO (p : Yr) (t : TxP) (ov : Bool) : Yr := ⟨p.next, p.txns.flatMap (putF t ov)⟩
theorem putO_false (p : Yr) (t : TxP) : putO p t false = putT p t := by
 unfold putO putT
 congr 1
 induction p.txns with
 | nil => rfl
 | cons x r ih =>
  rw [List.flatMap_cons, List.map_cons, ih]
  unfold putF
  split <;> rfl
theorem putO_true (p : Yr) (t : TxP) : putO p t true = dropT p t.num := by
 unfold putO dropT
 congr 1
 induction p.txns with
 | nil => rfl
 | cons x r ih =>
  rw [List.flatMap_cons, List.filter_cons, ih]
  by_cases h : x.num = t.num
  ·rw [show putF t true x = [] by unfold putF; rw [if_pos h]; rfl, if_neg (by simp [h])]; rfl
  ·rw [show putF t true x = [x] from if_neg h, if_pos (by simp [h])]; rfl
theorem put18_spec (ρ : Hp) (v : SV) (r : Ros) (h : RosIn ρ v r) (t : Tx) (ht : Tx.In ρ t) (ov : Bool) : Spec Tryz.prog 203 [.agg ⟨Yh v r⟩, .agg ⟨Ym t⟩, .bool ov] ρ []
  (fun z ρ' L' => ρ.le ρ' ∧ ∃ (v' : SV) (r' : Ros), z = .agg ⟨Yh v' r'⟩ ∧ RosIn ρ' v' r' ∧ r'.p = putO r.p t.p ov ∧ L' = []) := by
 have hl := h.at'.at'.len
 have hbig := h.at'.big
 refine Zg Tryz.func203 rfl rfl rfl fun u R => ?_
 simp only [Zx, List.cons_append, List.nil_append]
 have hpt : ∀ k (hk : k < r.txns.length), (r.p.txns.take (k + 1)).flatMap (putF t.p ov) = (r.p.txns.take k).flatMap (putF t.p ov) ++ putF t.p ov (r.txns[k]'hk).p := fun k hk => by
  rw [List.take_succ_eq_append_getElem (by simp [Ros.p]; exact hk), List.flatMap_append]
  simp [Ros.p]
 repeat' (first | (refine ZE ?_; refine Zo (Zd rfl) rfl rfl ?_) | (refine Zj ?_; first | (refine Zf ?_; refine qQ ?_) | refine Zn ?_) | refine Zb ?_ | (refine Zi ?_; refine Zv ?_) | (refine Zh ?_; refine Zu ?_) | intro _)
 refine ZB [(2, _), (3, _), (4, _), (6, _), (11, _), (12, _)] (fun (ζ : (Nat) × (Value) × (List Value) × (List Tx)) => [(13, .int .i64 ζ.1), (7, ζ.2.1)]) (fun (ζ : (Nat) × (Value) × (List Value) × (List Tx)) => ρ) (fun (ζ : (Nat) × (Value) × (List Value) × (List Tx)) => [ZK ζ.2.1 ((ζ.2.2.2.map Ym).flatten) ζ.2.2.1 72]) (fun (ζ : (Nat) × (Value) × (List Value) × (List Tx)) => ζ.1 ≤ v.n ∧ ζ.2.2.2.length ≤ ζ.1 ∧ OwnS ζ.2.1 ζ.2.2.2.length ((ζ.2.2.2.map Ym).flatten) ζ.2.2.1 7 ∧ ζ.2.2.2.map Tx.p = (r.p.txns.take ζ.1).flatMap (putF t.p ov) ∧ (∀ x ∈ ζ.2.2.2, Tx.In ρ x)) (fun (ζ : (Nat) × (Value) × (List Value) × (List Tx)) => v.n - ζ.1) ((0, .slice none 0 0, [], [])) (⟨Nat.zero_le _, Nat.zero_le _, OwnS.nil 7, by simp, by simp⟩) Zm Zm rfl tk ?_
 rintro ⟨k, vv, sp, acc⟩ hI
 try simp only [List.cons_append, List.nil_append, List.append_assoc, List.append_eq] at hI ⊢
 try dsimp only at hI ⊢
 obtain ⟨hk, hal, hown, hmp, hac⟩ := hI
 obtain ⟨va, vc, rfl, _⟩ := hown.slice
 by_cases hlt : k < v.n
 ·obtain ⟨b, off, C, T, fr, e1, hb, hfit, hc⟩ := h.at'.at'.get (show k < r.txns.length by omega)
  have hx2 := hpt k (by omega)
  have hin := h.tx _ (List.getElem_mem (show k < r.txns.length by omega))
  generalize r.txns[k]'(by omega) = x at *
  rw [e1]
  by_cases hnum : x.num = t.num
  ·have hf : putF t.p ov x.p = if ov then [] else [t.p] := if_pos hnum
   rw [hf] at hx2
   cases ov
   ·repeat' (first | (refine ZL (css := [Ym t]) (sz := 7) rfl rfl rfl rfl (by simp) (by simp) rfl (fun bs => ?_); simp only [List.flatten_cons, List.flatten_nil, List.append_nil]) | (refine ZV (ys := Ym t) (m := 1) rfl rfl hown (hR := by repeat (first | exact ZH | apply ZG)) SrcV.lit rfl rfl (by decide) rfl (by omega) (by omega) rfl (fun v3 sp3 hown3 => ?_)) | (refine ZE ?_; refine Zo (Zd rfl) rfl rfl ?_) | (refine Zj ?_; first | (refine Zf ?_; refine qQ ?_) | refine Zn ?_) | refine Zb ?_ | (refine Zi ?_; refine Zv ?_) | (refine Zh ?_; refine Zu ?_) | intro _)
    have hm : (acc.map Ym).flatten ++ Ym t = ((acc ++ [t]).map Ym).flatten := by simp
    rw [hm] at hown3 ⊢
    rw [← e1]
    refine Zq (k + 1, v3, sp3, acc ++ [t]) (⟨hlt, by rw [List.length_append]; exact Nat.succ_le_succ hal, by rw [List.length_append]; exact hown3, by rw [List.map_append, hmp, hx2]; rfl, fun z hz => (List.mem_append.1 hz).elim (hac z) (fun hz => by rw [List.mem_singleton.1 hz]; exact ht)⟩) Zm Zm rfl tk inferInstance (by first | omega | (dsimp only; omega))
   ·repeat' (first | (refine ZE ?_; refine Zo (Zd rfl) rfl rfl ?_) | (refine Zj ?_; first | (refine Zf ?_; refine qQ ?_) | refine Zn ?_) | refine Zb ?_ | (refine Zi ?_; refine Zv ?_) | (refine Zh ?_; refine Zu ?_) | intro _)
    rw [← e1]
    refine Zq (k + 1, .slice va acc.length vc, sp, acc) (⟨hlt, Nat.le_succ_of_le hal, hown, by rw [hmp, hx2]; exact (List.append_nil _).symm, hac⟩) Zm Zm rfl tk inferInstance (by first | omega | (dsimp only; omega))
  ·have hf : putF t.p ov x.p = [x.p] := if_neg hnum
   rw [hf] at hx2
   repeat' (first | (refine ZL (css := [Ym x]) (sz := 7) rfl rfl rfl rfl (by simp) (by simp) rfl (fun bs => ?_); simp only [List.flatten_cons, List.flatten_nil, List.append_nil]) | (refine ZV (ys := Ym x) (m := 1) rfl rfl hown (hR := by repeat (first | exact ZH | apply ZG)) SrcV.lit rfl rfl (by decide) rfl (by omega) (by omega) rfl (fun v3 sp3 hown3 => ?_)) | (refine ZE ?_; refine Zo (Zd rfl) rfl rfl ?_) | (refine Zj ?_; first | (refine Zf ?_; refine qQ ?_) | refine Zn ?_) | refine Zb ?_ | (refine Zi ?_; refine Zv ?_) | (refine Zh ?_; refine Zu ?_) | intro _)
   have hm : (acc.map Ym).flatten ++ Ym x = ((acc ++ [x]).map Ym).flatten := by simp
   rw [hm] at hown3 ⊢
   rw [← e1]
   refine Zq (k + 1, v3, sp3, acc ++ [x]) (⟨hlt, by rw [List.length_append]; exact Nat.succ_le_succ hal, by rw [List.length_append]; exact hown3, by rw [List.map_append, hmp, hx2]; rfl, fun z hz => (List.mem_append.1 hz).elim (hac z) (fun hz => by rw [List.mem_singleton.1 hz]; exact hin)⟩) Zm Zm rfl tk inferInstance (by first | omega | (dsimp only; omega))
 ·have hkn : k = r.txns.length := by omega
  repeat' (first | (refine ZE ?_; refine Zo (Zd rfl) rfl rfl ?_) | (refine Zj ?_; first | (refine Zf ?_; refine qQ ?_) | refine Zn ?_) | refine Zb ?_ | (refine Zi ?_; refine Zv ?_) | (refine Zh ?_; refine Zu ?_) | intro _)
  refine Yk (ZK (.slice va acc.length vc) ((acc.map Ym).flatten) sp 72) (fun ρ3 hle3 hfz => ?_)
  obtain ⟨sa, sc, f1, hsc, hA2⟩ := hown.aIn rfl (fun x _ => Wy x) hfz
  cases f1
  have q : (⟨r.next, acc⟩ : Ros).p = putO r.p t.p ov := by
   show (⟨r.next, acc.map Tx.p⟩ : Yr) = ⟨r.next, _⟩
   rw [hmp, List.take_of_length_le (by simp [Ros.p]; omega)]
  exact qE (L' := []) ⟨hle3, ⟨va, acc.length, vc⟩, ⟨r.next, acc⟩, rfl, ⟨⟨hA2, by show acc.length ≤ 1000000; omega, hsc⟩, fun y hy => (hac y hy).mono hle3⟩, q, rfl⟩
theorem filter_succ {α : Type} (q : α → Bool) (l : List α) {k : Nat} (hk : k < l.length) : (l.take (k + 1)).filter q = (l.take k).filter q ++ (if q l[k] then [l[k]] else []) := by
 rw [List.take_succ_eq_append_getElem hk, List.filter_append]
 congr 1
 cases h : q l[k] <;> simp [h]
theorem back18_spec (ρ : Hp) (x : Tx) (hin : Tx.In ρ x) (to : Nat) (hb1 : x.sv.n ≤ 1099511627776) (hb2 : x.mv.n ≤ 1099511627776) : Spec Tryz.prog 260 [.agg ⟨Ym x⟩, .int .u64 to] ρ []
  (fun z ρ' L' => ρ.le ρ' ∧ ∃ y : Tx, z = .agg ⟨Ym y⟩ ∧ Tx.In ρ' y ∧ y.p = backT x.p to ∧ L' = []) := by
 have hS := hin.s
 have hM := hin.m
 have hSl := hS.len
 have hMl := hM.len
 refine Zg Tryz.func260 rfl rfl rfl fun u R => ?_
 simp only [Zx, List.cons_append, List.nil_append]
 repeat' (first | (refine ZE ?_; refine Zo (Zd rfl) rfl rfl ?_) | (refine Zj ?_; first | (refine Zf ?_; refine qQ ?_) | refine Zn ?_) | refine Zb ?_ | (refine Zi ?_; refine Zv ?_) | (refine Zh ?_; refine Zu ?_) | intro _)
 rename_i b1 b2 b3
 refine ZB [(1, _), (2, _), (4, _), (5, _), (21, _), (22, _)] (fun (ζ : (Nat) × (Value) × (List Value) × (List Lf)) => [(23, .int .i64 ζ.1)]) (fun (ζ : (Nat) × (Value) × (List Value) × (List Lf)) => ρ) (fun (ζ : (Nat) × (Value) × (List Value) × (List Lf)) => [ZK ζ.2.1 ((ζ.2.2.2.map lfV).flatten) ζ.2.2.1 74, [(b3, .cells ⟨[.int .i64 x.num, .int .i64 x.state, .int .u64 x.first, .int .u64 x.last, .int .u64 to, ζ.2.1, .slice none 0 0]⟩ 72 (0, 0))]]) (fun (ζ : (Nat) × (Value) × (List Value) × (List Lf)) => ζ.1 ≤ x.sv.n ∧ ζ.2.2.2.length ≤ ζ.1 ∧ OwnS ζ.2.1 ζ.2.2.2.length ((ζ.2.2.2.map lfV).flatten) ζ.2.2.1 2 ∧ ζ.2.2.2 = (x.stack.take ζ.1).filter (fun s => decide (s.lsn ≤ to))) (fun (ζ : (Nat) × (Value) × (List Value) × (List Lf)) => x.sv.n - ζ.1) ((0, .slice none 0 0, [], [])) (⟨Nat.zero_le _, Nat.zero_le _, OwnS.nil 2, by simp⟩) Zm Zm rfl tk ?_
 rintro ⟨k, vv, sp, acc⟩ hI
 try simp only [List.cons_append, List.nil_append, List.append_assoc, List.append_eq] at hI ⊢
 try dsimp only at hI ⊢
 obtain ⟨hk, hal, hown, hac⟩ := hI
 obtain ⟨va, vc, rfl, _⟩ := hown.slice
 by_cases hlt : k < x.sv.n
 ·obtain ⟨b, off, C, T, fr, e1, hb, hfit, hc⟩ := hS.get (show k < x.stack.length by omega)
  have hx2 := filter_succ (fun s : Lf => decide (s.lsn ≤ to)) x.stack (show k < x.stack.length by omega)
  generalize x.stack[k]'(by omega) = s at *
  rw [e1]
  by_cases hs : s.lsn ≤ to
  ·rw [if_pos (decide_eq_true hs), ← hac] at hx2
   repeat' (first | (refine ZL (css := [lfV s]) (sz := 2) rfl rfl rfl rfl (by simp) (by simp) rfl (fun bs => ?_); simp only [List.flatten_cons, List.flatten_nil, List.append_nil]) | (refine ZV (ys := lfV s) (m := 1) rfl rfl hown (hR := by repeat (first | exact ZH | apply ZG)) SrcV.lit rfl rfl (by decide) rfl (by omega) (by omega) rfl (fun v3 sp3 hown3 => ?_); obtain ⟨va3, vc3, rfl, _⟩ := hown3.slice) | (refine ZE ?_; refine Zo (Zd rfl) rfl rfl ?_) | (refine Zj ?_; first | (refine Zf ?_; refine qQ ?_) | refine Zn ?_) | refine Zb ?_ | (refine Zi ?_; refine Zv ?_) | (refine Zh ?_; refine Zu ?_) | intro _)
   have hm : (acc.map lfV).flatten ++ lfV s = ((acc ++ [s]).map lfV).flatten := by simp
   rw [hm] at hown3 ⊢
   rw [← e1]
   refine Zq (k + 1, .slice va3 (acc.length + 1) vc3, sp3, acc ++ [s]) (⟨hlt, by rw [List.length_append]; exact Nat.succ_le_succ hal, by rw [List.length_append]; exact hown3, hx2.symm⟩) Zm Zm rfl tk inferInstance (by first | omega | (dsimp only; omega))
  ·rw [if_neg (show ¬ decide (s.lsn ≤ to) = true by simp; omega), ← hac, List.append_nil] at hx2
   repeat' (first | (refine ZE ?_; refine Zo (Zd rfl) rfl rfl ?_) | (refine Zj ?_; first | (refine Zf ?_; refine qQ ?_) | refine Zn ?_) | refine Zb ?_ | (refine Zi ?_; refine Zv ?_) | (refine Zh ?_; refine Zu ?_) | intro _)
   rw [← e1]
   refine Zq (k + 1, .slice va acc.length vc, sp, acc) (⟨hlt, Nat.le_succ_of_le hal, hown, hx2.symm⟩) Zm Zm rfl tk inferInstance (by first | omega | (dsimp only; omega))
 ·rw [List.take_of_length_le (by omega)] at hac
  repeat' (first | (refine ZE ?_; refine Zo (Zd rfl) rfl rfl ?_) | (refine Zj ?_; first | (refine Zf ?_; refine qQ ?_) | refine Zn ?_) | refine Zb ?_ | (refine Zi ?_; refine Zv ?_) | (refine Zh ?_; refine Zu ?_) | intro _)
  refine ZB [(1, _), (4, _), (5, _), (39, _), (40, _)] (fun (ζ : (Nat) × (Value) × (List Value) × (List Nat)) => [(41, .int .i64 ζ.1)]) (fun (ζ : (Nat) × (Value) × (List Value) × (List Nat)) => ρ) (fun (ζ : (Nat) × (Value) × (List Value) × (List Nat)) => [ZK ζ.2.1 (ζ.2.2.2.map ZU) ζ.2.2.1 24, [(b3, .cells ⟨[.int .i64 x.num, .int .i64 x.state, .int .u64 x.first, .int .u64 x.last, .int .u64 to, .slice va acc.length vc, ζ.2.1]⟩ 72 (0, 0))]]) (fun (ζ : (Nat) × (Value) × (List Value) × (List Nat)) => ζ.1 ≤ x.mv.n ∧ ζ.2.2.2.length ≤ ζ.1 ∧ OwnS ζ.2.1 ζ.2.2.2.length (ζ.2.2.2.map ZU) ζ.2.2.1 1 ∧ ζ.2.2.2 = (x.marks.take ζ.1).filter (fun m => decide (m ≤ to))) (fun (ζ : (Nat) × (Value) × (List Value) × (List Nat)) => x.mv.n - ζ.1) ((0, .slice none 0 0, [], [])) (⟨Nat.zero_le _, Nat.zero_le _, OwnS.nil 1, by simp⟩) Zm Zm rfl tk ?_
  rintro ⟨j, ww, sq, bcc⟩ hI
  try simp only [List.cons_append, List.nil_append, List.append_assoc, List.append_eq] at hI ⊢
  try dsimp only at hI ⊢
  obtain ⟨hj, hbl, hown2, hbc⟩ := hI
  obtain ⟨wa, wc, rfl, _⟩ := hown2.slice
  by_cases hlt2 : j < x.mv.n
  ·obtain ⟨b, off, C, T, fr, e1, hb, hc⟩ := hM.get (show j < x.marks.length by omega)
   have hx2 := filter_succ (fun m : Nat => decide (m ≤ to)) x.marks (show j < x.marks.length by omega)
   generalize x.marks[j]'(by omega) = s at *
   rw [e1]
   by_cases hs : s ≤ to
   ·rw [if_pos (decide_eq_true hs), ← hbc] at hx2
    repeat' (first | (refine ZL (css := [[ZU s]]) (sz := 1) rfl rfl rfl rfl (by simp) (by simp) rfl (fun bs => ?_); simp only [List.flatten_cons, List.flatten_nil, List.append_nil]) | (refine ZV (ys := [ZU s]) (m := 1) rfl rfl hown2 (hR := by repeat (first | exact ZH | apply ZG)) SrcV.lit rfl rfl (by decide) rfl (by omega) (by omega) rfl (fun v3 sp3 hown3 => ?_); obtain ⟨va3, vc3, rfl, _⟩ := hown3.slice) | (refine ZE ?_; refine Zo (Zd rfl) rfl rfl ?_) | (refine Zj ?_; first | (refine Zf ?_; refine qQ ?_) | refine Zn ?_) | refine Zb ?_ | (refine Zi ?_; refine Zv ?_) | (refine Zh ?_; refine Zu ?_) | intro _)
    have hm : bcc.map ZU ++ [ZU s] = (bcc ++ [s]).map ZU := by simp
    rw [hm] at hown3 ⊢
    rw [← e1]
    refine Zq (j + 1, .slice va3 (bcc.length + 1) vc3, sp3, bcc ++ [s]) (⟨hlt2, by rw [List.length_append]; exact Nat.succ_le_succ hbl, by rw [List.length_append]; exact hown3, hx2.symm⟩) Zm Zm rfl tk inferInstance (by first | omega | (dsimp only; omega))
   ·rw [if_neg (show ¬ decide (s ≤ to) = true by simp; omega), ← hbc, List.append_nil] at hx2
    repeat' (first | (refine ZE ?_; refine Zo (Zd rfl) rfl rfl ?_) | (refine Zj ?_; first | (refine Zf ?_; refine qQ ?_) | refine Zn ?_) | refine Zb ?_ | (refine Zi ?_; refine Zv ?_) | (refine Zh ?_; refine Zu ?_) | intro _)
    rw [← e1]
    refine Zq (j + 1, .slice wa bcc.length wc, sq, bcc) (⟨hlt2, Nat.le_succ_of_le hbl, hown2, hx2.symm⟩) Zm Zm rfl tk inferInstance (by first | omega | (dsimp only; omega))
  ·rw [List.take_of_length_le (by omega)] at hbc
   repeat' (first | (refine ZE ?_; refine Zo (Zd rfl) rfl rfl ?_) | (refine Zj ?_; first | (refine Zf ?_; refine qQ ?_) | refine Zn ?_) | refine Zb ?_ | (refine Zi ?_; refine Zv ?_) | (refine Zh ?_; refine Zu ?_) | intro _)
   refine Yk (ZK (.slice va acc.length vc) ((acc.map lfV).flatten) sp 74) (h := by repeat (first | exact ZH | apply ZG)) (fun ρ4 hle4 hf4 => ?_)
   refine Yk (ZK (.slice wa bcc.length wc) (bcc.map ZU) sq 24) (h := by repeat (first | exact ZH | apply ZG)) (fun ρ5 hle5 hf5 => ?_)
   have hx' : Tx.In ρ5 ⟨x.num, x.state, x.first, x.last, to, acc, bcc, ⟨va, acc.length, vc⟩, ⟨wa, bcc.length, wc⟩⟩ := OwnX.tin ⟨hown, hown2⟩ (fun p hp => Hp.up hle5 (hf4 p hp)) (fun p hp => hf5 p hp) (by dsimp only; omega) (by dsimp only; omega)
   exact qE (L' := []) (hle := Hp.le_trans hle4 hle5) ⟨Hp.le_trans hle4 hle5, _, rfl, hx', by rw [hac, hbc]; rfl, rfl⟩
theorem pushed18_spec (ρ : Hp) (x : Tx) (hin : Tx.In ρ x) (hb1 : x.sv.n ≤ 1099511627776) (hb2 : x.mv.n ≤ 1099511627776) (rv : RV) (r : Rc) (hr : RcIn ρ rv r) (hok : YF r = true) : Spec Tryz.prog 259 [.agg ⟨Ym x⟩, .agg ⟨Xh rv r⟩] ρ []
  (fun z ρ' L' => ρ.le ρ' ∧ ∃ y : Tx, z = .agg ⟨Ym y⟩ ∧ Tx.In ρ' y ∧ y.p = pushT x.p r ∧ L' = []) := by
 have hS := hin.s
 have hSl := hS.len
 have hM := hin.m
 have hxm := hin.mc
 have hre := reserve12_spec ρ rv r hr hok
 have hlf : [Value.int .u64 r.lsn, .int .i64 (Wd r : Nat)] = lfV (Xq r) := rfl
 refine Zg Tryz.func259 rfl rfl rfl fun u R => ?_
 simp only [Zx, List.cons_append, List.nil_append]
 repeat' (first | (refine ZE ?_; refine Zo (Zd rfl) rfl rfl ?_) | (refine Zj ?_; first | (refine Zf ?_; refine qQ ?_) | refine Zn ?_) | refine Zb ?_ | (refine Zi ?_; refine Zv ?_) | (refine Zh ?_; refine Zu ?_) | intro _)
 rename_i b1 b2 b3
 refine Wc 11 (Zs _ _ ([[(b1, .cells ⟨Ym x⟩ 72 (0, 0))], [(b2, .cells ⟨Xh rv r⟩ 30 (0, 0))]])) (by decide +kernel) (Zz (hT := tk) (Hp.le_refl _)) ?_
 simp only [List.take_succ_cons, List.take_zero]
 all_goals (refine ZS 1 ?_; refine ZX 2 ?_; refine ZS 4 ?_; refine ZX 5 ?_; refine ZX 6 ?_)
 all_goals (refine Zp (i := 0) ?_; ((try refine Zk ?_); (first | (refine ZL (css := [lfV (Xq r)]) (sz := 2) rfl rfl rfl rfl (by simp) (by simp) rfl (fun bs => ?_); simp only [List.flatten_cons, List.flatten_nil, List.append_nil]) | (refine Zn ?_; try intro _)) <;> ((try simp only [kM, kN, kO]); refine Zb ?_; refine Zl ?_)))
 all_goals (refine Zp (i := 3) ?_; ((try refine Zk ?_); (first | (refine ZV (n := 0) (xs := []) (sp := []) (ys := (x.stack.map lfV).flatten) (m := x.sv.n) (sz := 2) rfl rfl (OwnS.zero _ 2) (hR := by repeat (first | exact ZH | apply ZG)) hS.srcV (by rw [YX WA, hSl]) (XV (fun _ => rfl) _) (by decide) rfl (by omega) (by omega) rfl (fun v1 sp1 o1 => ?_); simp only [Nat.zero_add, List.nil_append] at o1 ⊢; obtain ⟨a1, c1, rfl, q1⟩ := o1.slice) | (refine ZL (css := [lfV (Xq r)]) (sz := 2) rfl rfl rfl rfl (by simp) (by simp) rfl (fun bs => ?_); simp only [List.flatten_cons, List.flatten_nil, List.append_nil]) | (refine ZV (ys := lfV (Xq r)) (m := 1) rfl rfl o1 (hR := by repeat (first | exact ZH | apply ZG)) SrcV.lit rfl rfl (by decide) rfl (by omega) (by omega) rfl (fun v3 sp3 o3 => ?_); obtain ⟨va3, vc3, rfl, _⟩ := o3.slice) | (refine Zn ?_; try intro _)) <;> ((try simp only [kM, kN, kO]); refine Zb ?_; refine Zl ?_)))
 all_goals (refine Zp (i := 7) ?_; ((try refine Zk ?_); (first | (refine Ze (.func 287) ?_; refine qC rfl rfl (hre) ?_; rintro v ρ' L' hle ⟨hz1, rfl, rfl⟩ <;> (try simp only [kM, kN, kO])) | (refine Zn ?_; try intro _)) <;> ((try simp only [kM, kN, kO]); refine Zb ?_; refine Zl ?_)))
 all_goals refine rBu 8 ?_ (y := fun _ _ => Zd rfl)
 all_goals (refine Zp (i := 9) ?_; ((try refine Zk ?_); (first | (refine ZL (css := [lfV (Xq r)]) (sz := 2) rfl rfl rfl rfl (by simp) (by simp) rfl (fun bs => ?_); simp only [List.flatten_cons, List.flatten_nil, List.append_nil]) | (refine Zn ?_; try intro _)) <;> ((try simp only [kM, kN, kO]); refine Zb ?_; refine Zl ?_)))
 all_goals (refine Zp (i := 10) ?_; ((try refine Zk ?_); (first | (refine ZV (n := 0) (xs := []) (sp := []) (ys := (x.stack.map lfV).flatten) (m := x.sv.n) (sz := 2) rfl rfl (OwnS.zero _ 2) (hR := by repeat (first | exact ZH | apply ZG)) hS.srcV (by rw [YX WA, hSl]) (XV (fun _ => rfl) _) (by decide) rfl (by omega) (by omega) rfl (fun v1 sp1 o1 => ?_); simp only [Nat.zero_add, List.nil_append] at o1 ⊢; obtain ⟨a1, c1, rfl, q1⟩ := o1.slice) | (refine ZL (css := [lfV (Xq r)]) (sz := 2) rfl rfl rfl rfl (by simp) (by simp) rfl (fun bs => ?_); simp only [List.flatten_cons, List.flatten_nil, List.append_nil]) | (refine ZV (ys := lfV (Xq r)) (m := 1) rfl rfl o1 (hR := by repeat (first | exact ZH | apply ZG)) SrcV.lit rfl rfl (by decide) rfl (by omega) (by omega) rfl (fun v3 sp3 o3 => ?_); obtain ⟨va3, vc3, rfl, _⟩ := o3.slice) | (refine Zn ?_; try intro _)) <;> ((try simp only [kM, kN, kO]); refine Zb ?_; refine Zl ?_)))
 all_goals refine ZI ?_
 all_goals refine Wb (fuel := 2) (m := [true, true, true, true, true, true, true, true, true, true, true, false, false]) (Zs _ _ ([])) rfl rfl (Zz (hT := tk) (Hp.le_refl _)) ?_
 all_goals refine ZS 11 ?_
 all_goals (refine Zp (i := 12) ?_; ((try refine Zk ?_); (first | (refine Zn ?_; try intro _)) <;> ((try simp only [kM, kN, kO]); refine Zb ?_; refine Zl ?_)))
 all_goals refine ZI ?_
 all_goals (repeat' (first | (refine ZE ?_; refine Zo (Zd rfl) rfl rfl ?_) | (refine Zj ?_; first | (refine Zf ?_; refine qQ ?_) | refine Zn ?_) | refine Zb ?_ | (refine Zi ?_; refine Zv ?_) | (refine Zh ?_; refine Zu ?_) | intro _))
 all_goals (
  refine Yk (ZK (.slice va3 (x.sv.n + 1) vc3) ((x.stack.map lfV).flatten ++ lfV (Xq r)) sp3 74) (h := by repeat (first | exact ZH | apply ZG)) (fun ρ4 hle4 hf4 => ?_)
  have hm : (x.stack.map lfV).flatten ++ lfV (Xq r) = ((x.stack ++ [Xq r]).map lfV).flatten := by simp
  have hln : x.sv.n + 1 = (x.stack ++ [Xq r]).length := by simp [hSl]
  rw [hm, hln] at o3
  rw [hm, hln] at hf4
  obtain ⟨sa, sc, f1, hsc, hA2⟩ := o3.aIn rfl (fun _ _ => rfl) hf4
  have f2 := Value.slice.inj f1
  obtain ⟨f3, _, f4⟩ := f2
  subst f3; subst f4)
 all_goals exact qE (L' := []) (hle := Hp.le_trans hz1 hle4) ⟨Hp.le_trans hz1 hle4, ⟨x.num, x.state, x.first, x.last, r.lsn, x.stack ++ [Xq r], x.marks, ⟨_, x.sv.n + 1, _⟩, x.mv⟩, rfl, ⟨by rw [hln]; exact hA2, (hM.mono hz1).mono hle4, by dsimp only; omega, by dsimp only; omega, by rw [hln]; exact hsc, hxm⟩, rfl, rfl⟩
theorem mayT_iff (t : TxP) (r : Rc) : mayT t r = true ↔ ((r.kind = 3 ∨ r.kind = 4) ∧ t.state = 1 ∧ t.first ≤ r.next ∧ r.next ≤ t.undo) ∨ (r.kind = 5 ∧ t.state ≠ 3 ∧ t.first ≤ r.next ∧ r.next ≤ t.undo ∧ r.next < t.undo) ∨ (¬ (r.kind = 3 ∨ r.kind = 4 ∨ r.kind = 5) ∧ t.state = 1) := by
 unfold mayT WS XE
 by_cases h1 : r.kind = 3 ∨ r.kind = 4
 ·rw [if_pos h1]
  simp only [Bool.and_eq_true, decide_eq_true_eq]
  omega
 ·rw [if_neg h1]
  by_cases h2 : r.kind = 5
  ·rw [if_pos h2]
   simp only [Bool.and_eq_true, decide_eq_true_eq]
   omega
  ·rw [if_neg h2]
   simp only [decide_eq_true_eq]
   omega
theorem taken8_spec (ρ : Hp) (x : Tx) (rv : RV) (r : Rc) (k8 : r.kind = 8) : Spec Tryz.prog 204 [.agg ⟨Ym x⟩, .agg ⟨Xh rv r⟩] ρ []
  (fun z ρ' L' => z = .tuple ⟨[.agg ⟨Ym x⟩, .bool true, .int .i64 0]⟩ ∧ ρ' = ρ ∧ L' = []) := by
 refine Zg Tryz.func204 rfl rfl rfl fun u R => ?_
 simp only [Zx, List.cons_append, List.nil_append]
 by_cases c1 : x.first ≤ r.next <;> by_cases c2 : r.next ≤ x.undo <;> by_cases c3 : x.state = 1
 all_goals
  repeat' (first | (refine ZE ?_; refine Zo (Zd rfl) rfl rfl ?_) | (refine Zj ?_; first | (refine Zf ?_; refine qQ ?_) | refine Zn ?_) | refine Zb ?_ | (refine Zi ?_; refine Zv ?_) | (refine Zh ?_; refine Zu ?_) | intro _)
  exact qE (L' := []) ⟨rfl, rfl, rfl⟩
theorem takenN_spec (ρ : Hp) (x : Tx) (rv : RV) (r : Rc) (k8 : r.kind ≠ 8) (k2 : 2 ≤ r.kind) (k7 : r.kind ≤ 7) (hm : ¬ mayT x.p r = true) : Spec Tryz.prog 204 [.agg ⟨Ym x⟩, .agg ⟨Xh rv r⟩] ρ []
  (fun z ρ' L' => z = .tuple ⟨[.agg ⟨Ym x⟩, .bool false, .int .i64 2]⟩ ∧ ρ' = ρ ∧ L' = []) := by
 rw [mayT_iff] at hm
 simp only [Tx.p] at hm
 refine Zg Tryz.func204 rfl rfl rfl fun u R => ?_
 simp only [Zx, List.cons_append, List.nil_append]
 obtain k | k | k | k : r.kind = 3 ∨ r.kind = 4 ∨ r.kind = 5 ∨ ¬ (r.kind = 3 ∨ r.kind = 4 ∨ r.kind = 5) := by omega
 all_goals by_cases c1 : x.first ≤ r.next <;> by_cases c2 : r.next ≤ x.undo <;> by_cases c3 : x.state = 1 <;> try (exfalso; omega)
 all_goals by_cases c4 : x.state = 3 <;> by_cases c5 : r.next < x.undo <;> try (exfalso; omega)
 all_goals
  repeat' (first | (refine ZE ?_; refine Zo (Zd rfl) rfl rfl ?_) | (refine Zj ?_; first | (refine Zf ?_; refine qQ ?_) | refine Zn ?_) | refine Zb ?_ | (refine Zi ?_; refine Zv ?_) | (refine Zh ?_; refine Zu ?_) | intro _)
  exact qE (L' := []) ⟨rfl, rfl, rfl⟩
end Go.Proofs.E
