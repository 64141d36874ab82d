/- Laws of analysis. Part 30 of 37. -/
import Derived.Test.YtkbiahafeoillaaGreatB29
namespace Go.Proofs.E
open Go
set_option linter.unusedVariables false
set_option linter.unusedSimpArgs false
set_option linter.unusedSectionVars false
set_option maxRecDepth 4000
set_option maxHeartbeats 1000000
attribute [local irreducible] Yl TL TC TE Spec YY R1 Hp.le EnvLe TS TR YS Zq
theorem eqLF_spec (ρ : Hp) (a a' : Option Addr) (n n' c c' : Nat) (l m : List Lf) (h : AIn ρ 2 lfV a n l) (h' : AIn ρ 2 lfV a' n' m) (hn : n ≤ 200000000000000) :
  Spec Tryz.prog 48 [.slice a n c, .slice a' n' c'] ρ [] (fun v ρ' L' => v = .bool (decide (l = m)) ∧ ρ' = ρ ∧ L' = []) := by
 have hl := h.len
 have hm := h'.len
 refine Zg Tryz.func48 rfl rfl rfl fun u R => ?_
 simp only [Zx, List.cons_append, List.nil_append]
 by_cases hne : n = n'
 ·repeat' (first | (refine Zz ?_; refine Zk (Zc rfl) rfl rfl ?_) | (refine Zh ?_; first | (refine Zf ?_; refine qQ ?_) | refine Zm ?_) | refine Zb ?_ | (refine Zi ?_; refine Zr ?_) | (refine Zj ?_; refine Zs ?_) | intro _)
  refine ZC [(0, _), (1, _), (12, _)] (fun (ζ : (Nat)) => [(13, .int .i64 ζ), (4, .bool false)]) (fun (ζ : (Nat)) => ρ) (fun (ζ : (Nat)) => []) (fun (ζ : (Nat)) => ζ ≤ n ∧ l.take ζ = m.take ζ) (fun (ζ : (Nat)) => n - ζ) (0) (⟨Nat.zero_le _, rfl⟩) Zl Zl rfl tk ?_
  rintro k hI
  try simp only [List.cons_append, List.nil_append, List.append_assoc, List.append_eq] at hI ⊢
  try dsimp only at hI ⊢
  obtain ⟨hk, hpre⟩ := hI
  by_cases hlt : k < n
  ·obtain ⟨b, off, C, T, fr, f1, hb, hfit, hc⟩ := h.get (show k < l.length by omega)
   obtain ⟨b2, off2, C2, T2, fr2, f2, hb2, hfit2, hc2⟩ := h'.get (show k < m.length by omega)
   have ht1 := List.take_succ_eq_append_getElem (show k < l.length by omega)
   have ht2 := List.take_succ_eq_append_getElem (show k < m.length by omega)
   have hf : l = m → l[k]'(by omega) = m[k]'(by omega) := fun e => by subst e; rfl
   generalize l[k]'(by omega) = x at *
   generalize m[k]'(by omega) = y at *
   rw [f1, f2]
   by_cases he : x = y
   ·have hd : decide (x = y) = true := decide_eq_true he
    have hpre2 : l.take (k + 1) = m.take (k + 1) := by rw [ht1, ht2, hpre, he]
    repeat' (first | (refine Zz ?_; refine Zk (Zc rfl) rfl rfl ?_) | (refine Zh ?_; first | (refine Zf ?_; refine qQ ?_) | refine Zm ?_) | refine Zb ?_ | (refine Zi ?_; refine Zr ?_) | (refine Zj ?_; refine Zs ?_) | intro _)
    refine ZB (Zq _ _ _) Zy ?_
    all_goals (refine ZI 0 ?_; refine ZK ?_; refine ZI 1 ?_; refine rIa 2 ?_; refine ZU 3 ?_; refine ZI 4 ?_; refine ZI 5 ?_; refine rIa 6 ?_; refine ZU 7 ?_; refine rCm 8 ?_; refine ZE ?_)
    all_goals (try simp only [hd])
    all_goals (repeat' (first | (refine Zz ?_; refine Zk (Zc rfl) rfl rfl ?_) | (refine Zh ?_; first | (refine Zf ?_; refine qQ ?_) | refine Zm ?_) | refine Zb ?_ | (refine Zi ?_; refine Zr ?_) | (refine Zj ?_; refine Zs ?_) | intro _))
    all_goals rw [← f1, ← f2]
    all_goals refine Zp (k + 1) (⟨hlt, hpre2⟩) Zl Zl rfl tk inferInstance (by first | omega | (dsimp only; omega))
   ·have hd : decide (x = y) = false := decide_eq_false he
    rw [decide_eq_false (fun e => he (hf e))]
    repeat' (first | (refine Zz ?_; refine Zk (Zc rfl) rfl rfl ?_) | (refine Zh ?_; first | (refine Zf ?_; refine qQ ?_) | refine Zm ?_) | refine Zb ?_ | (refine Zi ?_; refine Zr ?_) | (refine Zj ?_; refine Zs ?_) | intro _)
    refine ZB (Zq _ _ _) Zy ?_
    all_goals (refine ZI 0 ?_; refine ZK ?_; refine ZI 1 ?_; refine rIa 2 ?_; refine ZU 3 ?_; refine ZI 4 ?_; refine ZI 5 ?_; refine rIa 6 ?_; refine ZU 7 ?_; refine rCm 8 ?_; refine ZE ?_)
    all_goals (try simp only [hd])
    all_goals (repeat' (first | (refine Zz ?_; refine Zk (Zc rfl) rfl rfl ?_) | (refine Zh ?_; first | (refine Zf ?_; refine qQ ?_) | refine Zm ?_) | refine Zb ?_ | (refine Zi ?_; refine Zr ?_) | (refine Zj ?_; refine Zs ?_) | intro _))
    all_goals exact qE (L' := []) ⟨rfl, rfl, rfl⟩
  ·have hk2 : k = n := by omega
   subst hk2
   rw [List.take_of_length_le (by omega), List.take_of_length_le (by omega)] at hpre
   rw [decide_eq_true hpre]
   repeat' (first | (refine Zz ?_; refine Zk (Zc rfl) rfl rfl ?_) | (refine Zh ?_; first | (refine Zf ?_; refine qQ ?_) | refine Zm ?_) | refine Zb ?_ | (refine Zi ?_; refine Zr ?_) | (refine Zj ?_; refine Zs ?_) | intro _)
   exact qE ⟨rfl, rfl, rfl⟩
 ·rw [decide_eq_false (fun e : l = m => hne (by rw [← hl, ← hm, e]))]
  repeat' (first | (refine Zz ?_; refine Zk (Zc rfl) rfl rfl ?_) | (refine Zh ?_; first | (refine Zf ?_; refine qQ ?_) | refine Zm ?_) | refine Zb ?_ | (refine Zi ?_; refine Zr ?_) | (refine Zj ?_; refine Zs ?_) | intro _)
  exact qE ⟨rfl, rfl, rfl⟩
theorem eqU64_spec (ρ : Hp) (a a' : Option Addr) (n n' c c' : Nat) (l m : List Nat) (h : SIn ρ Yw a n l) (h' : SIn ρ Yw a' n' m) (hn : n ≤ 200000000000000) :
  Spec Tryz.prog 49 [.slice a n c, .slice a' n' c'] ρ [] (fun v ρ' L' => v = .bool (decide (l = m)) ∧ ρ' = ρ ∧ L' = []) := by
 have hl := h.len
 have hm := h'.len
 refine Zg Tryz.func49 rfl rfl rfl fun u R => ?_
 simp only [Zx, List.cons_append, List.nil_append]
 by_cases hne : n = n'
 ·repeat' (first | (refine Zz ?_; refine Zk (Zc rfl) rfl rfl ?_) | (refine Zh ?_; first | (refine Zf ?_; refine qQ ?_) | refine Zm ?_) | refine Zb ?_ | (refine Zi ?_; refine Zr ?_) | (refine Zj ?_; refine Zs ?_) | intro _)
  refine ZC [(0, _), (1, _), (12, _)] (fun (ζ : (Nat)) => [(13, .int .i64 ζ), (4, .bool false)]) (fun (ζ : (Nat)) => ρ) (fun (ζ : (Nat)) => []) (fun (ζ : (Nat)) => ζ ≤ n ∧ l.take ζ = m.take ζ) (fun (ζ : (Nat)) => n - ζ) (0) (⟨Nat.zero_le _, rfl⟩) Zl Zl rfl tk ?_
  rintro k hI
  try simp only [List.cons_append, List.nil_append, List.append_assoc, List.append_eq] at hI ⊢
  try dsimp only at hI ⊢
  obtain ⟨hk, hpre⟩ := hI
  by_cases hlt : k < n
  ·obtain ⟨b, off, C, T, fr, f1, hb, hc⟩ := h.get (show k < l.length by omega)
   obtain ⟨b2, off2, C2, T2, fr2, f2, hb2, hc2⟩ := h'.get (show k < m.length by omega)
   have ht1 := List.take_succ_eq_append_getElem (show k < l.length by omega)
   have ht2 := List.take_succ_eq_append_getElem (show k < m.length by omega)
   have hf : l = m → l[k]'(by omega) = m[k]'(by omega) := fun e => by subst e; rfl
   generalize l[k]'(by omega) = x at *
   generalize m[k]'(by omega) = y at *
   rw [f1, f2]
   by_cases he : x = y
   ·have hd : decide (x = y) = true := decide_eq_true he
    have hpre2 : l.take (k + 1) = m.take (k + 1) := by rw [ht1, ht2, hpre, he]
    repeat' (first | (refine Zz ?_; refine Zk (Zc rfl) rfl rfl ?_) | (refine Zh ?_; first | (refine Zf ?_; refine qQ ?_) | refine Zm ?_) | refine Zb ?_ | (refine Zi ?_; refine Zr ?_) | (refine Zj ?_; refine Zs ?_) | intro _)
    refine ZB (Zq _ _ _) Zy ?_
    all_goals (refine ZI 0 ?_; refine ZK ?_; refine ZI 1 ?_; refine rIa 2 ?_; refine ZU 3 ?_; refine ZI 4 ?_; refine ZI 5 ?_; refine rIa 6 ?_; refine ZU 7 ?_; refine rCm 8 ?_; refine ZE ?_)
    all_goals (try simp only [hd])
    all_goals (repeat' (first | (refine Zz ?_; refine Zk (Zc rfl) rfl rfl ?_) | (refine Zh ?_; first | (refine Zf ?_; refine qQ ?_) | refine Zm ?_) | refine Zb ?_ | (refine Zi ?_; refine Zr ?_) | (refine Zj ?_; refine Zs ?_) | intro _))
    all_goals rw [← f1, ← f2]
    all_goals refine Zp (k + 1) (⟨hlt, hpre2⟩) Zl Zl rfl tk inferInstance (by first | omega | (dsimp only; omega))
   ·have hd : decide (x = y) = false := decide_eq_false he
    rw [decide_eq_false (fun e => he (hf e))]
    repeat' (first | (refine Zz ?_; refine Zk (Zc rfl) rfl rfl ?_) | (refine Zh ?_; first | (refine Zf ?_; refine qQ ?_) | refine Zm ?_) | refine Zb ?_ | (refine Zi ?_; refine Zr ?_) | (refine Zj ?_; refine Zs ?_) | intro _)
    refine ZB (Zq _ _ _) Zy ?_
    all_goals (refine ZI 0 ?_; refine ZK ?_; refine ZI 1 ?_; refine rIa 2 ?_; refine ZU 3 ?_; refine ZI 4 ?_; refine ZI 5 ?_; refine rIa 6 ?_; refine ZU 7 ?_; refine rCm 8 ?_; refine ZE ?_)
    all_goals (try simp only [hd])
    all_goals (repeat' (first | (refine Zz ?_; refine Zk (Zc rfl) rfl rfl ?_) | (refine Zh ?_; first | (refine Zf ?_; refine qQ ?_) | refine Zm ?_) | refine Zb ?_ | (refine Zi ?_; refine Zr ?_) | (refine Zj ?_; refine Zs ?_) | intro _))
    all_goals exact qE (L' := []) ⟨rfl, rfl, rfl⟩
  ·have hk2 : k = n := by omega
   subst hk2
   rw [List.take_of_length_le (by omega), List.take_of_length_le (by omega)] at hpre
   rw [decide_eq_true hpre]
   repeat' (first | (refine Zz ?_; refine Zk (Zc rfl) rfl rfl ?_) | (refine Zh ?_; first | (refine Zf ?_; refine qQ ?_) | refine Zm ?_) | refine Zb ?_ | (refine Zi ?_; refine Zr ?_) | (refine Zj ?_; refine Zs ?_) | intro _)
   exact qE ⟨rfl, rfl, rfl⟩
 ·rw [decide_eq_false (fun e : l = m => hne (by rw [← hl, ← hm, e]))]
  repeat' (first | (refine Zz ?_; refine Zk (Zc rfl) rfl rfl ?_) | (refine Zh ?_; first | (refine Zf ?_; refine qQ ?_) | refine Zm ?_) | refine Zb ?_ | (refine Zi ?_; refine Zr ?_) | (refine Zj ?_; refine Zs ?_) | intro _)
  exact qE ⟨rfl, rfl, rfl⟩
theorem rsame1_spec (ρ : Hp) (x y : Tx) (hx : Tx.In ρ x) (hy : Tx.In ρ y) : Spec Tryz.prog 47 [.agg ⟨txV x⟩, .agg ⟨txV y⟩] ρ [] (fun z ρ' L' => z = .bool (decide (x.p = y.p)) ∧ ρ' = ρ ∧ L' = []) := by
 have h1 := eqLF_spec ρ x.sv.a y.sv.a x.sv.n y.sv.n x.sv.c y.sv.c x.stack y.stack hx.s hy.s hx.sb
 have h2 := eqU64_spec ρ x.mv.a y.mv.a x.mv.n y.mv.n x.mv.c y.mv.c x.marks y.marks hx.m hy.m hx.mb
 have hp : decide (x.p = y.p) = (decide (x.num = y.num ∧ x.state = y.state ∧ x.first = y.first ∧ x.last = y.last ∧ x.undo = y.undo) && (decide (x.stack = y.stack) && decide (x.marks = y.marks))) := by
  simp only [Tx.p, TxP.mk.injEq]
  rw [Bool.eq_iff_iff]
  simp only [Bool.and_eq_true, decide_eq_true_eq, and_assoc]
 rw [hp]
 refine Zg Tryz.func47 rfl rfl rfl fun u R => ?_
 simp only [Zx, List.cons_append, List.nil_append]
 by_cases e : x.num = y.num ∧ x.state = y.state ∧ x.first = y.first ∧ x.last = y.last ∧ x.undo = y.undo
 ·rw [decide_eq_true e, Bool.true_and]
  obtain ⟨g1, g2, g3, g4, g5⟩ := e
  by_cases e6 : x.stack = y.stack
  ·rw [decide_eq_true e6, Bool.true_and]
   rw [decide_eq_true e6] at h1
   generalize decide (x.marks = y.marks) = q at *
   repeat' (first | (refine Ze (.func 48) ?_; refine qC rfl rfl (h1) ?_; rintro v ρ' L' hle ⟨rfl, rfl, rfl⟩ <;> (try simp only [kM, kN, kO])) | (refine Ze (.func 49) ?_; refine qC rfl rfl (h2) ?_; rintro v ρ' L' hle ⟨rfl, rfl, rfl⟩ <;> (try simp only [kM, kN, kO])) | (refine Zz ?_; refine Zk (Zc rfl) rfl rfl ?_) | (refine Zh ?_; first | (refine Zf ?_; refine qQ ?_) | refine Zm ?_) | refine Zb ?_ | (refine Zi ?_; refine Zr ?_) | (refine Zj ?_; refine Zs ?_) | intro _)
   exact qE (L' := []) ⟨rfl, rfl, rfl⟩
  ·rw [decide_eq_false e6, Bool.false_and]
   rw [decide_eq_false e6] at h1
   repeat' (first | (refine Ze (.func 48) ?_; refine qC rfl rfl (h1) ?_; rintro v ρ' L' hle ⟨rfl, rfl, rfl⟩ <;> (try simp only [kM, kN, kO])) | (refine Zz ?_; refine Zk (Zc rfl) rfl rfl ?_) | (refine Zh ?_; first | (refine Zf ?_; refine qQ ?_) | refine Zm ?_) | refine Zb ?_ | (refine Zi ?_; refine Zr ?_) | (refine Zj ?_; refine Zs ?_) | intro _)
   exact qE (L' := []) ⟨rfl, rfl, rfl⟩
 ·rw [decide_eq_false e, Bool.false_and]
  repeat' (first | (refine Zz ?_; refine Zk (Zc rfl) rfl rfl ?_) | (refine Zh ?_; first | (refine Zf ?_; refine qQ ?_) | refine Zm ?_) | refine Zb ?_ | (refine Zi ?_; refine Zr ?_) | (refine Zj ?_; refine Zs ?_) | (refine Xw ?_; refine ZR rfl rfl (fun hb => ?_) (fun hb => ?_) <;> (try simp only [decide_eq_true_eq, decide_eq_false_iff_not, Bool.not_eq_true, Bool.not_eq_false, beq_iff_eq, bne_iff_ne, ne_eq, decide_eq_decide, Bool.not_eq_eq_eq_not, Bool.not_true, Bool.not_false, beq_eq_false_iff_ne, bne_eq_false_iff_eq, Bool.and_eq_true, Bool.or_eq_true, Bool.and_eq_false_imp, Bool.or_eq_false_iff, bq2, bqt, bqf] at hb)) | (refine Ym ?_; refine Yb rfl (fun hb => ?_) (fun hb => ?_) <;> (try simp only [decide_eq_true_eq, decide_eq_false_iff_not, Bool.not_eq_true, Bool.not_eq_false, beq_iff_eq, bne_iff_ne, ne_eq, decide_eq_decide, Bool.not_eq_eq_eq_not, Bool.not_true, Bool.not_false, beq_eq_false_iff_ne, bne_eq_false_iff_eq, Bool.and_eq_true, Bool.or_eq_true, Bool.and_eq_false_imp, Bool.or_eq_false_iff, bq2, bqt, bqf] at hb)) | intro _)
  all_goals first | (exfalso; omega) | skip
  all_goals (refine qF (L' := []) ?_; exact ⟨by first | rfl | (congr 1; simp; omega) | (congr 1; simp), rfl, rfl⟩)
theorem rsameE_spec (ρ : Hp) (s s' : SV) (l m : List Tx) (h : AS ρ 7 txV s l) (h' : AS ρ 7 txV s' m) (hi : ∀ x ∈ l, Tx.In ρ x) (hi' : ∀ x ∈ m, Tx.In ρ x) :
  Spec Tryz.prog 46 [.slice s.a s.n s.c, .slice s'.a s'.n s'.c, .func (.func 47) ⟨[]⟩ ⟨[]⟩] ρ [] (fun v ρ' L' => v = .bool (decide (l.map Tx.p = m.map Tx.p)) ∧ ρ' = ρ ∧ L' = []) := by
 have hl := h.at'.len
 have hm := h'.at'.len
 have hn := h.big
 refine Zg Tryz.func46 rfl rfl rfl fun u R => ?_
 simp only [Zx, List.cons_append, List.nil_append]
 by_cases hne : s.n = s'.n
 ·repeat' (first | (refine Zz ?_; refine Zk (Zc rfl) rfl rfl ?_) | (refine Zh ?_; first | (refine Zf ?_; refine qQ ?_) | refine Zm ?_) | refine Zb ?_ | (refine Zi ?_; refine Zr ?_) | (refine Zj ?_; refine Zs ?_) | intro _)
  refine ZC [(1, _), (2, _), (15, _), (16, _)] (fun (ζ : (Nat)) => [(17, .int .i64 ζ), (6, .bool false)]) (fun (ζ : (Nat)) => ρ) (fun (ζ : (Nat)) => []) (fun (ζ : (Nat)) => ζ ≤ s.n ∧ (l.map Tx.p).take ζ = (m.map Tx.p).take ζ) (fun (ζ : (Nat)) => s.n - ζ) (0) (⟨Nat.zero_le _, rfl⟩) Zl Zl rfl tk ?_
  rintro k hI
  try simp only [List.cons_append, List.nil_append, List.append_assoc, List.append_eq] at hI ⊢
  try dsimp only at hI ⊢
  obtain ⟨hk, hpre⟩ := hI
  by_cases hlt : k < s.n
  ·obtain ⟨b, off, C, T, fr, f1, hb, hfit, hc⟩ := h.at'.get (show k < l.length by omega)
   obtain ⟨b2, off2, C2, T2, fr2, f2, hb2, hfit2, hc2⟩ := h'.at'.get (show k < m.length by omega)
   have ht1 := map_take_suc Tx.p l k (by omega)
   have ht2 := map_take_suc Tx.p m k (by omega)
   have hf : l.map Tx.p = m.map Tx.p → (l[k]'(by omega)).p = (m[k]'(by omega)).p := fun e => by
    have g1 : (l.map Tx.p)[k]? = some (l[k]'(by omega)).p := by simp [show k < l.length by omega]
    have g2 : (m.map Tx.p)[k]? = some (m[k]'(by omega)).p := by simp [show k < m.length by omega]
    rw [e, g2] at g1
    exact (Option.some.inj g1).symm
   have hs1 := rsame1_spec ρ (l[k]'(by omega)) (m[k]'(by omega)) (hi _ (List.getElem_mem _)) (hi' _ (List.getElem_mem _))
   generalize l[k]'(by omega) = x at *
   generalize m[k]'(by omega) = y at *
   rw [f1, f2]
   by_cases he : x.p = y.p
   ·have hpre2 : (l.map Tx.p).take (k + 1) = (m.map Tx.p).take (k + 1) := by rw [ht1, ht2, hpre, he]
    rw [decide_eq_true he] at hs1
    repeat' (first | (refine Ze (.tmp 26) ?_; refine qC rfl rfl (hs1) ?_; rintro v ρ' L' hle ⟨rfl, rfl, rfl⟩ <;> (try simp only [kM, kN, kO])) | (refine Zz ?_; refine Zk (Zc rfl) rfl rfl ?_) | (refine Zh ?_; first | (refine Zf ?_; refine qQ ?_) | refine Zm ?_) | refine Zb ?_ | (refine Zi ?_; refine Zr ?_) | (refine Zj ?_; refine Zs ?_) | intro _)
    rw [← f1, ← f2]
    refine Zp (k + 1) (⟨hlt, hpre2⟩) Zl Zl rfl tk inferInstance (by first | omega | (dsimp only; omega))
   ·rw [decide_eq_false (fun e => he (hf e))]
    rw [decide_eq_false he] at hs1
    repeat' (first | (refine Ze (.tmp 26) ?_; refine qC rfl rfl (hs1) ?_; rintro v ρ' L' hle ⟨rfl, rfl, rfl⟩ <;> (try simp only [kM, kN, kO])) | (refine Zz ?_; refine Zk (Zc rfl) rfl rfl ?_) | (refine Zh ?_; first | (refine Zf ?_; refine qQ ?_) | refine Zm ?_) | refine Zb ?_ | (refine Zi ?_; refine Zr ?_) | (refine Zj ?_; refine Zs ?_) | intro _)
    exact qE (L' := []) ⟨rfl, rfl, rfl⟩
  ·have hk2 : k = s.n := by omega
   subst hk2
   rw [List.take_of_length_le (by simp; omega), List.take_of_length_le (by simp; omega)] at hpre
   rw [decide_eq_true hpre]
   repeat' (first | (refine Zz ?_; refine Zk (Zc rfl) rfl rfl ?_) | (refine Zh ?_; first | (refine Zf ?_; refine qQ ?_) | refine Zm ?_) | refine Zb ?_ | (refine Zi ?_; refine Zr ?_) | (refine Zj ?_; refine Zs ?_) | intro _)
   exact qE ⟨rfl, rfl, rfl⟩
 ·rw [decide_eq_false (fun e : l.map Tx.p = m.map Tx.p => hne (by have := congrArg List.length e; simp at this; omega))]
  repeat' (first | (refine Zz ?_; refine Zk (Zc rfl) rfl rfl ?_) | (refine Zh ?_; first | (refine Zf ?_; refine qQ ?_) | refine Zm ?_) | refine Zb ?_ | (refine Zi ?_; refine Zr ?_) | (refine Zj ?_; refine Zs ?_) | intro _)
  exact qE ⟨rfl, rfl, rfl⟩
theorem rsame_spec (ρ : Hp) (v v' : SV) (x y : Ros) (hx : RosIn ρ v x) (hy : RosIn ρ v' y) : Spec Tryz.prog 16 [.agg ⟨XI v x⟩, .agg ⟨XI v' y⟩] ρ [] (fun z ρ' L' => z = .bool (decide (x.p = y.p)) ∧ ρ' = ρ ∧ L' = []) := by
 have h1 := rsameE_spec ρ v v' x.txns y.txns hx.at' hy.at' hx.tx hy.tx
 have hp : decide (x.p = y.p) = (decide (x.next = y.next) && decide (x.txns.map Tx.p = y.txns.map Tx.p)) := by
  simp only [Ros.p, Xm.mk.injEq]
  rw [Bool.eq_iff_iff]
  simp only [Bool.and_eq_true, decide_eq_true_eq]
 rw [hp]
 generalize decide (x.txns.map Tx.p = y.txns.map Tx.p) = q at *
 refine Zg Tryz.func16 rfl rfl rfl fun u R => ?_
 simp only [Zx, List.cons_append, List.nil_append]
 by_cases e : x.next = y.next
 ·rw [decide_eq_true e, Bool.true_and]
  repeat' (first | (refine Ze (.func 46) ?_; refine qC rfl rfl (h1) ?_; rintro v ρ' L' hle ⟨rfl, rfl, rfl⟩ <;> (try simp only [kM, kN, kO])) | (refine Zz ?_; refine Zk (Zc rfl) rfl rfl ?_) | (refine Zh ?_; first | (refine Zf ?_; refine qQ ?_) | refine Zm ?_) | refine Zb ?_ | (refine Zi ?_; refine Zr ?_) | (refine Zj ?_; refine Zs ?_) | intro _)
  exact qE (L' := []) ⟨rfl, rfl, rfl⟩
 ·rw [decide_eq_false e, Bool.false_and]
  repeat' (first | (refine Zz ?_; refine Zk (Zc rfl) rfl rfl ?_) | (refine Zh ?_; first | (refine Zf ?_; refine qQ ?_) | refine Zm ?_) | refine Zb ?_ | (refine Zi ?_; refine Zr ?_) | (refine Zj ?_; refine Zs ?_) | intro _)
  exact qE (L' := []) ⟨rfl, rfl, rfl⟩
def runE : AnP → List Rc → Int
 | _, [] => 0
 | a, r :: l => if Xn a r = 0 then runE (Wt a r) l else Xn a r
def runP : AnP → List Rc → AnP
 | a, [] => a
 | a, r :: l => if Xn a r = 0 then runP (Wt a r) l else zeroA
theorem step_an_spec (ρ : Hp) (d : AnD) (h : AnIn ρ d) (rv : RV) (r : Rc) (hr : RcIn ρ rv r) : Spec Tryz.prog 29 [.agg ⟨anV d⟩, .agg ⟨YR rv r⟩] ρ [] (Wc ρ d.p r) := by
 by_cases hx : Yn d.p = false ∨ d.next = d.fin ∨ ZZ r = false ∨ r.lsn ≠ d.next
 ·exact step0_spec ρ d h rv r hr hx
 ·have h1 : Yn d.p = true := by
   cases e : Yn d.p with
   | true => rfl
   | false => exact absurd (.inl e) hx
  have h2 : d.next ≠ d.fin := fun e => hx (.inr (.inl e))
  have h3 : ZZ r = true := by
   cases e : ZZ r with
   | true => rfl
   | false => exact absurd (.inr (.inr (.inl e))) hx
  have h4 : r.lsn = d.next := Classical.byContradiction fun e => hx (.inr (.inr (.inr e)))
  cases ho : Wr d.p r with
  | none => exact step_no ρ d h rv r hr h1 h2 h3 h4 ho
  | some q => exact step_yes ρ d h rv r hr h1 h2 h3 h4 ho
abbrev lvV (x : RV × Rc) : List Value := YR x.1 x.2
def runPE (a : AnP) (l : List Rc) : Int := if Yn a then runE a l else 330
def runPP (a : AnP) (l : List Rc) : AnP := if Yn a then runP a l else zeroA
theorem run_an_spec (ρ : Hp) (d : AnD) (h : AnIn ρ d) (a : Option Addr) (n c : Nat) (lv : List (RV × Rc)) (hA : AIn ρ 10 lvV a n lv) (hP : ∀ x ∈ lv, RcIn ρ x.1 x.2) (hn : n ≤ 1000000) :
  Spec Tryz.prog 35 [.agg ⟨anV d⟩, .slice a n c] ρ [] (fun z ρ' L' => ρ.le ρ' ∧ ∃ d' : AnD, z = .tuple ⟨[.agg ⟨anV d'⟩, .int .i64 (runPE d.p (lv.map (·.2)))]⟩ ∧ AnIn ρ' d' ∧ d'.p = runPP d.p (lv.map (·.2)) ∧ L' = []) := by
 have hl := hA.len
 have hC := Wo ρ d h
 unfold runPE runPP
 refine Zg Tryz.func35 rfl rfl rfl fun u R => ?_
 simp only [Zx, List.cons_append, List.nil_append]
 cases hq : Yn d.p
 ·rw [hq] at hC
  simp only [Bool.false_eq_true, if_false] at hC ⊢
  repeat' (first | (refine Ze (.func 27) ?_; refine qC rfl rfl (hC) ?_; rintro v ρ' L' hle ⟨rfl, rfl, rfl⟩ <;> (try simp only [kM, kN, kO])) | (refine Zz ?_; refine Zk (Zc rfl) rfl rfl ?_) | (refine Zh ?_; first | (refine Zf ?_; refine qQ ?_) | refine Zm ?_) | refine Zb ?_ | (refine Zi ?_; refine Zr ?_) | (refine Zj ?_; refine Zs ?_) | intro _)
  exact qE (L' := []) ⟨Hp.le_refl _, zeroD, rfl, XJ, rfl, rfl⟩
 rw [hq] at hC
 simp only [if_true] at hC ⊢
 generalize hE : runE d.p (lv.map (·.2)) = eE
 generalize hPP : runP d.p (lv.map (·.2)) = eP
 repeat' (first | (refine Ze (.func 27) ?_; refine qC rfl rfl (hC) ?_; rintro v ρ' L' hle ⟨rfl, rfl, rfl⟩ <;> (try simp only [kM, kN, kO])) | (refine Zz ?_; refine Zk (Zc rfl) rfl rfl ?_) | (refine Zh ?_; first | (refine Zf ?_; refine qQ ?_) | refine Zm ?_) | refine Zb ?_ | (refine Zi ?_; refine Zr ?_) | (refine Zj ?_; refine Zs ?_) | intro _)
 rename_i b2 b4
 refine ZC [(2, _), (4, _), (17, _), (18, _)] (fun (ζ : (Nat) × (Hp) × (AnD)) => [(19, .int .i64 ζ.1), (5, .int .i64 0)]) (fun (ζ : (Nat) × (Hp) × (AnD)) => ζ.2.1) (fun (ζ : (Nat) × (Hp) × (AnD)) => [[(b4, .cells ⟨[.int .u64 0, .int .u64 0, .int .u64 0, .int .u64 0, .int .i64 0, .slice none 0 0, .slice none 0 0]⟩ 67 (0, 0))], anC b2 ζ.2.2]) (fun (ζ : (Nat) × (Hp) × (AnD)) => ζ.1 ≤ n ∧ ρ'.le ζ.2.1 ∧ AnIn ζ.2.1 ζ.2.2 ∧ runE ζ.2.2.p ((lv.map (·.2)).drop ζ.1) = eE ∧ runP ζ.2.2.p ((lv.map (·.2)).drop ζ.1) = eP) (fun (ζ : (Nat) × (Hp) × (AnD)) => n - ζ.1) ((0, ρ', d)) (⟨Nat.zero_le _, Hp.le_refl _, h, hE, hPP⟩) Zl Zl rfl tk ?_
 rintro ⟨k, ρ1, d1⟩ hI
 try simp only [List.cons_append, List.nil_append, List.append_assoc, List.append_eq] at hI ⊢
 try dsimp only at hI ⊢
 obtain ⟨hk, hle1, hd1, he, hp⟩ := hI
 by_cases hlt : k < n
 ·obtain ⟨b, off, C, T, fr, e1, hb, hfit, hcc⟩ := (hA.mono hle1).get (show k < lv.length by omega)
  have hx := (hP _ (List.getElem_mem (show k < lv.length by omega))).mono hle1
  have hd : (lv.map (·.2)).drop k = (lv[k]'(by omega)).2 :: (lv.map (·.2)).drop (k + 1) := by
   rw [List.drop_eq_getElem_cons (by simp; omega), List.getElem_map]
  rw [hd, runE] at he
  rw [hd, runP] at hp
  generalize lv[k]'(by omega) = y at *
  have hS := step_an_spec ρ1 d1 hd1 y.1 y.2 hx
  unfold Wc at hS
  rw [e1]
  by_cases h0 : Xn d1.p y.2 = 0
  ·rw [if_pos h0] at he hp
   rw [h0] at hS
   repeat' (first | (refine Ze (.func 29) ?_; refine qC rfl rfl (hS) ?_; rintro v ρ' L' hle ⟨hz1, d2, rfl, hd2, hp2, rfl⟩ <;> (try simp only [kM, kN, kO])) | (refine Zz ?_; refine Zk (Zc rfl) rfl rfl ?_) | (refine Zh ?_; first | (refine Zf ?_; refine qQ ?_) | refine Zm ?_) | refine Zb ?_ | (refine Zi ?_; refine Zr ?_) | (refine Zj ?_; refine Zs ?_) | intro _)
   rw [← e1]
   refine Zp (k + 1, ρ', d2) (⟨hlt, Hp.le_trans hle1 hz1, hd2, by rw [hp2]; exact he, by rw [hp2]; exact hp⟩) Zl Zl rfl tk inferInstance (by first | omega | (dsimp only; omega))
  ·rw [if_neg h0] at he hp
   subst he
   subst hp
   generalize Xn d1.p y.2 = se at *
   repeat' (first | (refine Ze (.func 29) ?_; refine qC rfl rfl (hS) ?_; rintro v ρ' L' hle ⟨hz1, d2, rfl, hd2, hp2, rfl⟩ <;> (try simp only [kM, kN, kO])) | (refine Zz ?_; refine Zk (Zc rfl) rfl rfl ?_) | (refine Zh ?_; first | (refine Zf ?_; refine qQ ?_) | refine Zm ?_) | refine Zb ?_ | (refine Zi ?_; refine Zr ?_) | (refine Zj ?_; refine Zs ?_) | intro _)
   exact qE (L' := []) (hle := Hp.le_trans hle1 hz1) ⟨Hp.le_trans hle1 hz1, zeroD, rfl, XJ, rfl, rfl⟩
 ·have hk2 : (lv.map (·.2)).drop k = [] := List.drop_of_length_le (by simp; omega)
  rw [hk2, runE] at he
  rw [hk2, runP] at hp
  subst he
  subst hp
  repeat' (first | (refine Zz ?_; refine Zk (Zc rfl) rfl rfl ?_) | (refine Zh ?_; first | (refine Zf ?_; refine qQ ?_) | refine Zm ?_) | refine Zb ?_ | (refine Zi ?_; refine Zr ?_) | (refine Zj ?_; refine Zs ?_) | intro _)
  exact qE (L' := []) ⟨hle1, d1, rfl, hd1, rfl, rfl⟩
theorem over_an_spec (ρ : Hp) (d : AnD) (h : AnIn ρ d) : Spec Tryz.prog 30 [.agg ⟨anV d⟩] ρ [] (fun z ρ' L' => z = .bool (Yn d.p && decide (d.next = d.fin)) ∧ ρ' = ρ ∧ L' = []) := by
 have hr := Xi ρ d h
 generalize Yn d.p = q at *
 refine Zg Tryz.func30 rfl rfl rfl fun u R => ?_
 simp only [Zx, List.cons_append, List.nil_append]
 cases q
 ·repeat' (first | (refine Ze (.func 58) ?_; refine qC rfl rfl (hr) ?_; rintro v ρ' L' hle ⟨rfl, rfl, rfl⟩ <;> (try simp only [kM, kN, kO])) | (refine Zz ?_; refine Zk (Zc rfl) rfl rfl ?_) | (refine Zh ?_; first | (refine Zf ?_; refine qQ ?_) | refine Zm ?_) | refine Zb ?_ | (refine Zi ?_; refine Zr ?_) | (refine Zj ?_; refine Zs ?_) | intro _)
  exact qE (L' := []) ⟨rfl, rfl, rfl⟩
 ·repeat' (first | (refine Ze (.func 58) ?_; refine qC rfl rfl (hr) ?_; rintro v ρ' L' hle ⟨rfl, rfl, rfl⟩ <;> (try simp only [kM, kN, kO])) | (refine Zz ?_; refine Zk (Zc rfl) rfl rfl ?_) | (refine Zh ?_; first | (refine Zf ?_; refine qQ ?_) | refine Zm ?_) | refine Zb ?_ | (refine Zi ?_; refine Zr ?_) | (refine Zj ?_; refine Zs ?_) | intro _)
  refine qF (L' := []) ?_
  exact ⟨YI (by simp; try omega), rfl, rfl⟩
def firstN (a : AnP) : Nat := leastN a.fin (a.dirty.map Yp.since)
theorem first_an_spec (ρ : Hp) (d : AnD) (h : AnIn ρ d) : Spec Tryz.prog 31 [.agg ⟨anV d⟩] ρ [] (fun z ρ' L' => z = .int .u64 (if Yn d.p then firstN d.p else 0 : Nat) ∧ ρ' = ρ ∧ L' = []) := by
 have hr := Xi ρ d h
 have hl := h.d.at'.len
 have hA := h.d.at'
 have hb := h.d.big
 unfold firstN leastN
 dsimp only
 generalize Yn d.p = q at *
 refine Zg Tryz.func31 rfl rfl rfl fun u R => ?_
 simp only [Zx, List.cons_append, List.nil_append]
 cases q
 ·repeat' (first | (refine Ze (.func 58) ?_; refine qC rfl rfl (hr) ?_; rintro v ρ' L' hle ⟨rfl, rfl, rfl⟩ <;> (try simp only [kM, kN, kO])) | (refine Zz ?_; refine Zk (Zc rfl) rfl rfl ?_) | (refine Zh ?_; first | (refine Zf ?_; refine qQ ?_) | refine Zm ?_) | refine Zb ?_ | (refine Zi ?_; refine Zr ?_) | (refine Zj ?_; refine Zs ?_) | intro _)
  exact qE (L' := []) ⟨rfl, rfl, rfl⟩
 simp only [if_true]
 generalize hq : (d.dirty.map Yp.since).foldl min d.fin = q
 repeat' (first | (refine Ze (.func 58) ?_; refine qC rfl rfl (hr) ?_; rintro v ρ' L' hle ⟨rfl, rfl, rfl⟩ <;> (try simp only [kM, kN, kO])) | (refine Zz ?_; refine Zk (Zc rfl) rfl rfl ?_) | (refine Zh ?_; first | (refine Zf ?_; refine qQ ?_) | refine Zm ?_) | refine Zb ?_ | (refine Zi ?_; refine Zr ?_) | (refine Zj ?_; refine Zs ?_) | intro _)
 refine ZC [(2, _), (12, _), (13, _)] (fun (ζ : (Nat) × (Nat)) => [(14, .int .i64 ζ.1), (3, .int .u64 ζ.2)]) (fun (ζ : (Nat) × (Nat)) => ρ') (fun (ζ : (Nat) × (Nat)) => []) (fun (ζ : (Nat) × (Nat)) => ζ.1 ≤ d.dv.n ∧ ((d.dirty.drop ζ.1).map Yp.since).foldl min ζ.2 = q) (fun (ζ : (Nat) × (Nat)) => d.dv.n - ζ.1) ((0, d.fin)) (⟨Nat.zero_le _, hq⟩) Zl Zl rfl tk ?_
 rintro ⟨k, m⟩ hI
 try simp only [List.cons_append, List.nil_append, List.append_assoc, List.append_eq] at hI ⊢
 try dsimp only at hI ⊢
 obtain ⟨hk, hI⟩ := hI
 by_cases hlt : k < d.dv.n
 ·obtain ⟨b, off, C, T, fr, e1, hb1, hfit, hc⟩ := hA.get (show k < d.dirty.length by omega)
  rw [List.drop_eq_getElem_cons (show k < d.dirty.length by omega), List.map_cons, List.foldl_cons] at hI
  generalize d.dirty[k]'(by omega) = x at *
  have hmn : min (m : Int) (x.since : Int) = ((min m x.since : Nat) : Int) := by omega
  rw [e1]
  repeat' (first | (refine Zz ?_; refine Zk (Zc rfl) rfl rfl ?_) | (refine Zh ?_; first | (refine Zf ?_; refine qQ ?_) | refine Zm ?_) | refine Zb ?_ | (refine Zi ?_; refine Zr ?_) | (refine Zj ?_; refine Zs ?_) | intro _)
  try simp only [hmn]
  rw [← e1]
  refine Zp (k + 1, min m x.since) (⟨hlt, hI⟩) Zl Zl rfl tk inferInstance (by first | omega | (dsimp only; omega))
 ·rw [List.drop_of_length_le (by omega), List.map_nil, List.foldl_nil] at hI
  subst hI
  repeat' (first | (refine Zz ?_; refine Zk (Zc rfl) rfl rfl ?_) | (refine Zh ?_; first | (refine Zf ?_; refine qQ ?_) | refine Zm ?_) | refine Zb ?_ | (refine Zi ?_; refine Zr ?_) | (refine Zj ?_; refine Zs ?_) | intro _)
  exact qE (L' := []) ⟨rfl, rfl, rfl⟩
def overT (t : Tx) : Bool := decide (100 < t.sv.n ∨ 20 < t.mv.n)
def overAB (d : AnD) : Bool := decide (20 < d.rv.n ∨ 80 < d.dv.n) || d.ro.txns.any overT
theorem AnW.ofOver {ρ d} (h : AnW ρ d) (ho : overAB d = false) : AnIn ρ d ∧ d.dv.n ≤ 80 := by
 unfold overAB at ho
 rw [Bool.or_eq_false_iff, decide_eq_false_iff_not] at ho
 exact ⟨h.in' (by omega) (by omega), by omega⟩
theorem over23_spec (ρ : Hp) (d : AnD) (h : AnW ρ d) : Spec Tryz.prog 26 [.agg ⟨anV d⟩] ρ [] (fun z ρ' L' => z = .bool (overAB d) ∧ ρ' = ρ ∧ L' = []) := by
 have hA := h.r.at'.at'
 have hl := hA.len
 have hb1 := h.r.at'.big
 have hb2 := h.d.big
 have htx := h.r.tx
 unfold overAB
 refine Zg Tryz.func26 rfl rfl rfl fun u R => ?_
 simp only [Zx, List.cons_append, List.nil_append]
 by_cases hc : 20 < d.rv.n ∨ 80 < d.dv.n
 ·rw [decide_eq_true hc, Bool.true_or]
  repeat' (first | (refine Zz ?_; refine Zk (Zc rfl) rfl rfl ?_) | (refine Zh ?_; first | (refine Zf ?_; refine qQ ?_) | refine Zm ?_) | refine Zb ?_ | (refine Zi ?_; refine Zr ?_) | (refine Zj ?_; refine Zs ?_) | (refine Xw ?_; refine ZR rfl rfl (fun hb => ?_) (fun hb => ?_) <;> (try simp only [decide_eq_true_eq, decide_eq_false_iff_not, Bool.not_eq_true, Bool.not_eq_false, beq_iff_eq, bne_iff_ne, ne_eq, decide_eq_decide, Bool.not_eq_eq_eq_not, Bool.not_true, Bool.not_false, beq_eq_false_iff_ne, bne_eq_false_iff_eq, Bool.and_eq_true, Bool.or_eq_true, Bool.and_eq_false_imp, Bool.or_eq_false_iff, bq2, bqt, bqf] at hb)) | (refine Ym ?_; refine Yb rfl (fun hb => ?_) (fun hb => ?_) <;> (try simp only [decide_eq_true_eq, decide_eq_false_iff_not, Bool.not_eq_true, Bool.not_eq_false, beq_iff_eq, bne_iff_ne, ne_eq, decide_eq_decide, Bool.not_eq_eq_eq_not, Bool.not_true, Bool.not_false, beq_eq_false_iff_ne, bne_eq_false_iff_eq, Bool.and_eq_true, Bool.or_eq_true, Bool.and_eq_false_imp, Bool.or_eq_false_iff, bq2, bqt, bqf] at hb)) | intro _)
  all_goals first | exact qE (L' := []) ⟨rfl, rfl, rfl⟩ | (exfalso; omega)
 ·rw [decide_eq_false hc, Bool.false_or]
  generalize hq : d.ro.txns.any overT = q
  repeat' (first | (refine Zz ?_; refine Zk (Zc rfl) rfl rfl ?_) | (refine Zh ?_; first | (refine Zf ?_; refine qQ ?_) | refine Zm ?_) | refine Zb ?_ | (refine Zi ?_; refine Zr ?_) | (refine Zj ?_; refine Zs ?_) | intro _)
  refine ZC [(18, _), (19, _)] (fun (ζ : (Nat)) => [(20, .int .i64 ζ), (2, .bool false)]) (fun (ζ : (Nat)) => ρ) (fun (ζ : (Nat)) => []) (fun (ζ : (Nat)) => ζ ≤ d.rv.n ∧ (d.ro.txns.drop ζ).any overT = q) (fun (ζ : (Nat)) => d.rv.n - ζ) (0) (⟨Nat.zero_le _, hq⟩) Zl Zl rfl tk ?_
  rintro k hI
  try simp only [List.cons_append, List.nil_append, List.append_assoc, List.append_eq] at hI ⊢
  try dsimp only at hI ⊢
  obtain ⟨hk, hok⟩ := hI
  by_cases hlt : k < d.rv.n
  ·obtain ⟨b, off, C, T, fr, e1, hb, hfit, hcc⟩ := hA.get (show k < d.ro.txns.length by omega)
   have hx := htx _ (List.getElem_mem (show k < d.ro.txns.length by omega))
   rw [List.drop_eq_getElem_cons (show k < d.ro.txns.length by omega), List.any_cons] at hok
   generalize d.ro.txns[k]'(by omega) = x at *
   have g1 := hx.sb
   have g2 := hx.mb
   rw [e1]
   by_cases hx2 : 100 < x.sv.n ∨ 20 < x.mv.n
   ·have hT : overT x = true := decide_eq_true hx2
    rw [hT, Bool.true_or] at hok
    subst hok
    by_cases hx3 : 100 < x.sv.n
    all_goals (repeat' (first | (refine Zz ?_; refine Zk (Zc rfl) rfl rfl ?_) | (refine Zh ?_; first | (refine Zf ?_; refine qQ ?_) | refine Zm ?_) | refine Zb ?_ | (refine Zi ?_; refine Zr ?_) | (refine Zj ?_; refine Zs ?_) | intro _))
    all_goals exact qE (L' := []) ⟨rfl, rfl, rfl⟩
   ·have hT : overT x = false := decide_eq_false hx2
    rw [hT, Bool.false_or] at hok
    repeat' (first | (refine Zz ?_; refine Zk (Zc rfl) rfl rfl ?_) | (refine Zh ?_; first | (refine Zf ?_; refine qQ ?_) | refine Zm ?_) | refine Zb ?_ | (refine Zi ?_; refine Zr ?_) | (refine Zj ?_; refine Zs ?_) | intro _)
    rw [← e1]
    refine Zp (k + 1) (⟨hlt, hok⟩) Zl Zl rfl tk inferInstance (by first | omega | (dsimp only; omega))
  ·rw [List.drop_of_length_le (by omega), List.any_nil] at hok
   subst hok
   repeat' (first | (refine Zz ?_; refine Zk (Zc rfl) rfl rfl ?_) | (refine Zh ?_; first | (refine Zf ?_; refine qQ ?_) | refine Zm ?_) | refine Zb ?_ | (refine Zi ?_; refine Zr ?_) | (refine Zj ?_; refine Zs ?_) | intro _)
   exact qE (L' := []) ⟨rfl, rfl, rfl⟩
def longR (r : Row) : Bool := decide (100 < r.note.length)
def overC (n m : Nat) (l : List Row) : Bool := decide (10 < n ∨ 10 < m) || l.any longR
def remI (x : Im) (j : Nat) : Bool := if j = 0 then overC x.bv.rn x.bv.kn x.b.rows || overC x.av.rn x.av.kn x.a.rows else if j = 1 then overC x.av.rn x.av.kn x.a.rows else false
def overRB (v : RV) (r : Rc) : Bool := decide (30 < v.i.n ∨ 10 < v.s.n ∨ 20 < v.t.n ∨ 80 < v.d.n) || (r.ims.any (fun x => remI x 0) || r.steps.any (fun s => longR s.row))
theorem RcW.ofOver {ρ v r} (h : RcW ρ v r) (ho : overRB v r = false) : RcIn ρ v r ∧ v.i.n ≤ 30 := by
 unfold overRB at ho
 rw [Bool.or_eq_false_iff, decide_eq_false_iff_not, Bool.or_eq_false_iff, List.any_eq_false] at ho
 obtain ⟨h1, h2, h3⟩ := ho
 refine ⟨⟨⟨h.i.at', by omega, h.i.cap⟩, fun x hx => ?_, ⟨h.s.at', by omega, h.s.cap⟩, ⟨h.t.at', by omega, h.t.cap⟩, ⟨h.d.at', by omega, h.d.cap⟩, h.sf⟩, by omega⟩
 have h4 := h2 x hx
 unfold remI overC at h4
 simp only [if_true, Bool.or_eq_true, decide_eq_true_eq, not_or] at h4
 obtain ⟨hb, ha⟩ := h.im x hx
 exact ⟨⟨⟨hb.r, hb.k, by omega, by omega, hb.rc, hb.kc⟩, hb.row, hb.kid⟩, ⟨⟨ha.r, ha.k, by omega, by omega, ha.rc, ha.kc⟩, ha.row, ha.kid⟩⟩
theorem overRec_spec (ρ : Hp) (v : RV) (r : Rc) (h : RcW ρ v r) : Spec Tryz.prog 28 [.agg ⟨YR v r⟩] ρ [] (fun z ρ' L' => z = .bool (overRB v r) ∧ ρ' = ρ ∧ L' = []) := by
 have hA := h.i.at'
 have hl := hA.len
 have hS := h.s.at'
 have hsl := hS.len
 have g1 := h.i.big
 have g2 := h.s.big
 have g3 := h.t.big
 have g4 := h.d.big
 have him := h.im
 unfold overRB
 refine Zg Tryz.func28 rfl rfl rfl fun u R => ?_
 simp only [Zx, List.cons_append, List.nil_append]
 by_cases hc : 30 < v.i.n ∨ 10 < v.s.n ∨ 20 < v.t.n ∨ 80 < v.d.n
 ·rw [decide_eq_true hc, Bool.true_or]
  repeat' (first | (refine Zz ?_; refine Zk (Zc rfl) rfl rfl ?_) | (refine Zh ?_; first | (refine Zf ?_; refine qQ ?_) | refine Zm ?_) | refine Zb ?_ | (refine Zi ?_; refine Zr ?_) | (refine Zj ?_; refine Zs ?_) | (refine Xw ?_; refine ZR rfl rfl (fun hb => ?_) (fun hb => ?_) <;> (try simp only [decide_eq_true_eq, decide_eq_false_iff_not, Bool.not_eq_true, Bool.not_eq_false, beq_iff_eq, bne_iff_ne, ne_eq, decide_eq_decide, Bool.not_eq_eq_eq_not, Bool.not_true, Bool.not_false, beq_eq_false_iff_ne, bne_eq_false_iff_eq, Bool.and_eq_true, Bool.or_eq_true, Bool.and_eq_false_imp, Bool.or_eq_false_iff, bq2, bqt, bqf] at hb)) | (refine Ym ?_; refine Yb rfl (fun hb => ?_) (fun hb => ?_) <;> (try simp only [decide_eq_true_eq, decide_eq_false_iff_not, Bool.not_eq_true, Bool.not_eq_false, beq_iff_eq, bne_iff_ne, ne_eq, decide_eq_decide, Bool.not_eq_eq_eq_not, Bool.not_true, Bool.not_false, beq_eq_false_iff_ne, bne_eq_false_iff_eq, Bool.and_eq_true, Bool.or_eq_true, Bool.and_eq_false_imp, Bool.or_eq_false_iff, bq2, bqt, bqf] at hb)) | intro _)
  all_goals first | exact qE (L' := []) ⟨rfl, rfl, rfl⟩ | (exfalso; omega)
 ·rw [decide_eq_false hc, Bool.false_or]
  generalize hqs : r.steps.any (fun s => longR s.row) = qs
  generalize hq : (r.ims.any (fun x => remI x 0) || qs) = q
  repeat' (first | (refine Zz ?_; refine Zk (Zc rfl) rfl rfl ?_) | (refine Zh ?_; first | (refine Zf ?_; refine qQ ?_) | refine Zm ?_) | refine Zb ?_ | (refine Zi ?_; refine Zr ?_) | (refine Zj ?_; refine Zs ?_) | intro _)
  rename_i b1
  refine ZC [(1, _), (34, _), (35, _)] (fun (ζ : (Nat)) => [(36, .int .i64 ζ), (2, .bool false)]) (fun (ζ : (Nat)) => ρ) (fun (ζ : (Nat)) => [[(b1, .cells ⟨YR v r⟩ 34 (0, 0))]]) (fun (ζ : (Nat)) => ζ ≤ v.i.n ∧ ((r.ims.drop ζ).any (fun x => remI x 0) || qs) = q) (fun (ζ : (Nat)) => v.i.n - ζ) (0) (⟨Nat.zero_le _, hq⟩) Zl Zl rfl tk ?_
  rintro k hI
  try simp only [List.cons_append, List.nil_append, List.append_assoc, List.append_eq] at hI ⊢
  try dsimp only at hI ⊢
  obtain ⟨hk, hok⟩ := hI
  by_cases hlt : k < v.i.n
  ·obtain ⟨b, off, C, T, fr, e1, hb, hfit, hcc⟩ := hA.get (show k < r.ims.length by omega)
   have hx := him _ (List.getElem_mem (show k < r.ims.length by omega))
   rw [List.drop_eq_getElem_cons (show k < r.ims.length by omega), List.any_cons, Bool.or_assoc] at hok
   generalize r.ims[k]'(by omega) = x at *
   generalize hq2 : ((r.ims.drop (k + 1)).any (fun x => remI x 0) || qs) = q2 at *
   rw [e1]
   repeat' (first | (refine Zz ?_; refine Zk (Zc rfl) rfl rfl ?_) | (refine Zh ?_; first | (refine Zf ?_; refine qQ ?_) | refine Zm ?_) | refine Zb ?_ | (refine Zi ?_; refine Zr ?_) | (refine Zj ?_; refine Zs ?_) | intro _)
   rename_i b4
   show TC _ _ _ ((45, _) :: (44, Value.agg ⟨[.int .i64 x.b.kind, .slice x.bv.ra x.bv.rn x.bv.rc, .slice x.bv.ka x.bv.kn x.bv.kc, .int .i64 x.a.kind, .slice x.av.ra x.av.rn x.av.rc, .slice x.av.ka x.av.kn x.av.kc]⟩) :: _) _ _
   refine ZC [(1, _), (4, _), (34, _), (35, _), (36, _), (37, _), (38, _), (39, _), (40, _), (41, _), (42, _), (43, _), (44, _)] (fun (ζ : (Nat)) => [(45, .int .i64 ζ), (2, .bool false)]) (fun (ζ : (Nat)) => ρ) (fun (ζ : (Nat)) => [[(b4, .cells ⟨imV x⟩ 100 (0, 0))], [(b1, .cells ⟨YR v r⟩ 34 (0, 0))]]) (fun (ζ : (Nat)) => ζ ≤ 2 ∧ (remI x ζ || q2) = q) (fun (ζ : (Nat)) => 2 - ζ) (0) (⟨by omega, hok⟩) Zl Zl rfl tk ?_
   rintro j hI
   try simp only [List.cons_append, List.nil_append, List.append_assoc, List.append_eq] at hI ⊢
   try dsimp only at hI ⊢
   obtain ⟨hj, hok⟩ := hI
   by_cases hj2 : j < 2
   ·obtain ⟨cv, c, hW, hrem, hix⟩ : ∃ (cv : CV) (c : Cont), CW ρ cv c ∧ remI x j = (overC cv.rn cv.kn c.rows || remI x (j + 1)) ∧ (List.drop (j * 3) ([.int .i64 x.b.kind, .slice x.bv.ra x.bv.rn x.bv.rc, .slice x.bv.ka x.bv.kn x.bv.kc, .int .i64 x.a.kind, .slice x.av.ra x.av.rn x.av.rc, .slice x.av.ka x.av.kn x.av.kc] : List Value)).take 3 = contV c.kind cv := by
     rcases (show j = 0 ∨ j = 1 by omega) with rfl | rfl
     ·exact ⟨x.bv, x.b, hx.1, by simp [remI], rfl⟩
     ·exact ⟨x.av, x.a, hx.2, by simp [remI], rfl⟩
    rw [hrem, Bool.or_assoc] at hok
    generalize hq3 : (remI x (j + 1) || q2) = q3 at *
    have w1 := hW.rb
    have w2 := hW.kb
    have w3 := hW.r
    have w4 := w3.len
    clear hrem
    unfold overC at hok
    by_cases hcc2 : 10 < cv.rn ∨ 10 < cv.kn
    ·rw [decide_eq_true hcc2, Bool.true_or, Bool.true_or] at hok
     subst hok
     by_cases hcc3 : 10 < cv.rn
     all_goals (repeat' (first | (refine Zk (y_index_a rfl rfl hj2 hix) rfl rfl ?_) | (refine Zz ?_; refine Zk (Zc rfl) rfl rfl ?_) | (refine Zh ?_; first | (refine Zf ?_; refine qQ ?_) | refine Zm ?_) | refine Zb ?_ | (refine Zi ?_; refine Zr ?_) | (refine Zj ?_; refine Zs ?_) | intro _))
     all_goals exact qE (L' := []) ⟨rfl, rfl, rfl⟩
    ·rw [decide_eq_false hcc2, Bool.false_or] at hok
     repeat' (first | (refine Zk (y_index_a rfl rfl hj2 hix) rfl rfl ?_) | (refine Zz ?_; refine Zk (Zc rfl) rfl rfl ?_) | (refine Zh ?_; first | (refine Zf ?_; refine qQ ?_) | refine Zm ?_) | refine Zb ?_ | (refine Zi ?_; refine Zr ?_) | (refine Zj ?_; refine Zs ?_) | intro _)
     rename_i b6
     refine ZC [(1, _), (4, _), (6, _), (34, _), (35, _), (36, _), (37, _), (38, _), (39, _), (40, _), (41, _), (42, _), (43, _), (44, _), (45, _), (46, _), (47, _), (48, _), (49, _), (50, _), (51, _), (52, _), (53, _), (54, _), (55, _), (56, _), (57, _), (58, _), (59, _), (60, _)] (fun (ζ : (Nat)) => [(61, .int .i64 ζ), (2, .bool false)]) (fun (ζ : (Nat)) => ρ) (fun (ζ : (Nat)) => [[(b6, .cells ⟨contV c.kind cv⟩ 98 (0, 0))], [(b4, .cells ⟨imV x⟩ 100 (0, 0))], [(b1, .cells ⟨YR v r⟩ 34 (0, 0))]]) (fun (ζ : (Nat)) => ζ ≤ cv.rn ∧ ((c.rows.drop ζ).any longR || q3) = q) (fun (ζ : (Nat)) => cv.rn - ζ) (0) (⟨Nat.zero_le _, hok⟩) Zl Zl rfl tk ?_
     rintro i hI
     try simp only [List.cons_append, List.nil_append, List.append_assoc, List.append_eq] at hI ⊢
     try dsimp only at hI ⊢
     obtain ⟨hi, hok⟩ := hI
     by_cases hlt3 : i < cv.rn
     ·obtain ⟨bb, off2, C2, T2, fr2, e2, hb2, hfit2, hc2⟩ := w3.get (show i < c.rows.length by omega)
      rw [List.drop_eq_getElem_cons (show i < c.rows.length by omega), List.any_cons, Bool.or_assoc] at hok
      generalize c.rows[i]'(by omega) = y at *
      rw [e2]
      by_cases hy : 100 < y.note.length
      ·have hT : longR y = true := decide_eq_true hy
       rw [hT, Bool.true_or] at hok
       subst hok
       repeat' (first | (refine Zz ?_; refine Zk (Zc rfl) rfl rfl ?_) | (refine Zh ?_; first | (refine Zf ?_; refine qQ ?_) | refine Zm ?_) | refine Zb ?_ | (refine Zi ?_; refine Zr ?_) | (refine Zj ?_; refine Zs ?_) | intro _)
       exact qE (L' := []) ⟨rfl, rfl, rfl⟩
      ·have hT : longR y = false := decide_eq_false hy
       rw [hT, Bool.false_or] at hok
       repeat' (first | (refine Zz ?_; refine Zk (Zc rfl) rfl rfl ?_) | (refine Zh ?_; first | (refine Zf ?_; refine qQ ?_) | refine Zm ?_) | refine Zb ?_ | (refine Zi ?_; refine Zr ?_) | (refine Zj ?_; refine Zs ?_) | intro _)
       rw [← e2]
       refine Zp (i + 1) (⟨hlt3, hok⟩) Zl Zl rfl tk inferInstance (by first | omega | (dsimp only; omega))
     ·rw [List.drop_of_length_le (by omega), List.any_nil, Bool.false_or] at hok
      repeat' (first | (refine Zz ?_; refine Zk (Zc rfl) rfl rfl ?_) | (refine Zh ?_; first | (refine Zf ?_; refine qQ ?_) | refine Zm ?_) | refine Zb ?_ | (refine Zi ?_; refine Zr ?_) | (refine Zj ?_; refine Zs ?_) | intro _)
      refine Zp (j + 1) (⟨hj2, by rw [hq3]; exact hok⟩) Zl Zl rfl tk inferInstance (by first | omega | (dsimp only; omega))
   ·have hz : remI x j = false := by
     unfold remI; rw [if_neg (by omega), if_neg (by omega)]
    rw [hz, Bool.false_or] at hok
    repeat' (first | (refine Zz ?_; refine Zk (Zc rfl) rfl rfl ?_) | (refine Zh ?_; first | (refine Zf ?_; refine qQ ?_) | refine Zm ?_) | refine Zb ?_ | (refine Zi ?_; refine Zr ?_) | (refine Zj ?_; refine Zs ?_) | intro _)
    rw [← e1]
    refine Zp (k + 1) (⟨hlt, by rw [hq2]; exact hok⟩) Zl Zl rfl tk inferInstance (by first | omega | (dsimp only; omega))
  ·rw [List.drop_of_length_le (by omega), List.any_nil, Bool.false_or] at hok
   subst hok
   repeat' (first | (refine Zz ?_; refine Zk (Zc rfl) rfl rfl ?_) | (refine Zh ?_; first | (refine Zf ?_; refine qQ ?_) | refine Zm ?_) | refine Zb ?_ | (refine Zi ?_; refine Zr ?_) | (refine Zj ?_; refine Zs ?_) | intro _)
   refine ZC [(73, _), (74, _)] (fun (ζ : (Nat)) => [(75, .int .i64 ζ), (2, .bool false)]) (fun (ζ : (Nat)) => ρ) (fun (ζ : (Nat)) => []) (fun (ζ : (Nat)) => ζ ≤ v.s.n ∧ (r.steps.drop ζ).any (fun s => longR s.row) = qs) (fun (ζ : (Nat)) => v.s.n - ζ) (0) (⟨Nat.zero_le _, hqs⟩) Zl Zl rfl tk ?_
   rintro j hI
   try simp only [List.cons_append, List.nil_append, List.append_assoc, List.append_eq] at hI ⊢
   try dsimp only at hI ⊢
   obtain ⟨hj, hok⟩ := hI
   by_cases hlt2 : j < v.s.n
   ·obtain ⟨b, off, C, T, fr, e1, hb, hfit, hcc⟩ := hS.get (show j < r.steps.length by omega)
    rw [List.drop_eq_getElem_cons (show j < r.steps.length by omega), List.any_cons] at hok
    generalize r.steps[j]'(by omega) = y at *
    rw [e1]
    by_cases hy : 100 < y.row.note.length
    ·have hT : longR y.row = true := decide_eq_true hy
     rw [hT, Bool.true_or] at hok
     subst hok
     repeat' (first | (refine Zz ?_; refine Zk (Zc rfl) rfl rfl ?_) | (refine Zh ?_; first | (refine Zf ?_; refine qQ ?_) | refine Zm ?_) | refine Zb ?_ | (refine Zi ?_; refine Zr ?_) | (refine Zj ?_; refine Zs ?_) | intro _)
     exact qE (L' := []) ⟨rfl, rfl, rfl⟩
    ·have hT : longR y.row = false := decide_eq_false hy
     rw [hT, Bool.false_or] at hok
     repeat' (first | (refine Zz ?_; refine Zk (Zc rfl) rfl rfl ?_) | (refine Zh ?_; first | (refine Zf ?_; refine qQ ?_) | refine Zm ?_) | refine Zb ?_ | (refine Zi ?_; refine Zr ?_) | (refine Zj ?_; refine Zs ?_) | intro _)
     rw [← e1]
     refine Zp (j + 1) (⟨hlt2, hok⟩) Zl Zl rfl tk inferInstance (by first | omega | (dsimp only; omega))
   ·rw [List.drop_of_length_le (by omega), List.any_nil] at hok
    subst hok
    repeat' (first | (refine Zz ?_; refine Zk (Zc rfl) rfl rfl ?_) | (refine Zh ?_; first | (refine Zf ?_; refine qQ ?_) | refine Zm ?_) | refine Zb ?_ | (refine Zi ?_; refine Zr ?_) | (refine Zj ?_; refine Zs ?_) | intro _)
    exact qE (L' := []) ⟨rfl, rfl, rfl⟩
theorem tblB_del {page : Int} : ∀ {l : List Yp} {last : Int}, Wn last l = true → Wn last (delP page l) = true
 | [], _, _ => rfl
 | p :: r, last, h => by
  rw [Wn, Bool.and_eq_true, decide_eq_true_eq] at h
  unfold delP
  rw [List.filter_cons]
  split
  ·rw [Wn, Bool.and_eq_true, decide_eq_true_eq]; exact ⟨h.1, tblB_del h.2⟩
  ·exact tblB_up (tblB_del h.2) (by omega)
structure FdD where
 kind : Int
 page : Int
 txn : Int
 rv : RV
 rc : Rc
abbrev fdV (o : FdD) : List Value := [.int .i64 o.kind, .int .i64 o.page, .int .i64 o.txn, .int .i64 o.rc.kind, .int .u64 o.rc.lsn, .int .i64 o.rc.txn, .int .u64 o.rc.prev, .int .u64 o.rc.next, .slice o.rv.i.a o.rv.i.n o.rv.i.c, .slice o.rv.s.a o.rv.s.n o.rv.s.c, .int .i64 o.rc.nextTxn, .slice o.rv.t.a o.rv.t.n o.rv.t.c, .slice o.rv.d.a o.rv.d.n o.rv.d.c]
abbrev lvF (lv : List (RV × Rc)) : List Value := (lv.map lvV).flatten
structure StoS (ρ : Hp) (vv : Value) (sp : List Value) (lv : List (RV × Rc)) (rv : SV) (ro : Ros) (dv : SV) (d : List Yp) (m : Nat) : Prop where
 own : OwnS vv lv.length (lvF lv) sp 10
 rs : RosIn ρ rv ro
 ds : AS ρ 2 YM dv d
 ls : ∀ x ∈ lv, RcIn ρ x.1 x.2
 g : StoG (lv.map (·.2)) ro.p d m
theorem StoS.mono {ρ ρ' vv sp lv rv ro dv d m} (h : StoS ρ vv sp lv rv ro dv d m) (hle : ρ.le ρ') : StoS ρ' vv sp lv rv ro dv d m := ⟨h.own, h.rs.mono hle, h.ds.mono hle, fun x hx => (h.ls x hx).mono hle, h.g⟩
theorem StoS.small {ρ vv sp lv rv ro dv d m} (h : StoS ρ vv sp lv rv ro dv d m) : d.length ≤ 1000 := by
 have := tblB_len (last := -1) (by omega) h.g.ds.t
 omega
abbrev stoC (sb : Nat) (vv : Value) (rv : SV) (ro : Ros) (dv : SV) (m : Nat) : List (Nat × Obj) := [(sb, .cells ⟨[vv, .int .i64 ro.next, .slice rv.a rv.n rv.c, .slice dv.a dv.n dv.c, .int .u64 m]⟩ 84 (0, 0))]
abbrev DoesPost (ρ : Hp) (sb k : Nat) : Value → Hp → SH → Prop :=
 fun _ ρ' L' => ρ.le ρ' ∧ ∃ (vv : Value) (sp : List Value) (lv : List (RV × Rc)) (rv : SV) (ro : Ros) (dv : SV) (d : List Yp) (m : Nat), StoS ρ' vv sp lv rv ro dv d m ∧ lv.length ≤ k + 1 ∧ L' = [ZN vv (lvF lv) sp 34, stoC sb vv rv ro dv m]
theorem does1_spec (ρ : Hp) (sb : Nat) {vv : Value} {sp : List Value} {lv : List (RV × Rc)} {rv : SV} {ro : Ros} {dv : SV} {d : List Yp} {m : Nat} (hS : StoS ρ vv sp lv rv ro dv d m) (hl : lv.length ≤ 1000) (o : FdD) (hk : (IntKind.u64.wrap o.kind).tmod 3 = 1) :
  Spec Tryz.prog 37 [.pointer (some ⟨sb, 0, none⟩), .agg ⟨fdV o⟩] ρ [ZN vv (lvF lv) sp 34, stoC sb vv rv ro dv m] (DoesPost ρ sb lv.length) := by
 have hC := clean_spec ρ dv d hS.ds hS.small o.page
 obtain ⟨va, vc, rfl, hvc⟩ := hS.own.slice
 refine Zg Tryz.func37 rfl rfl rfl fun u R => ?_
 simp only [Zx, List.cons_append, List.nil_append]
 by_cases he : cleanE o.page d = 0
 ·have hcR : cleanR o.page d = delP o.page d := by
   unfold cleanE at he
   unfold cleanR
   rw [hS.g.ds.t, if_pos rfl] at he
   rw [hS.g.ds.t, if_pos ⟨rfl, he⟩]
  rw [he, hcR] at hC
  have hG := hS.g.clean o.page (tblB_del hS.g.ds.t)
  repeat' (first | (refine Zz ?_; refine Zk (Zc rfl) rfl rfl ?_) | (refine Zh ?_; first | (refine Zf ?_; refine qQ ?_) | refine Zm ?_) | refine Zb ?_ | (refine Zi ?_; refine Zr ?_) | (refine Zj ?_; refine Zs ?_) | intro _)
  refine ZB (Zq _ _ _) Zy ?_
  all_goals (refine ZI 0 ?_; refine rNc 1 ?_; refine ZO 2 ?_; refine ZU 3 ?_; refine ZO 4 ?_; refine ZU 5 ?_)
  all_goals (refine Zt (i := 6) ?_; ((try refine Zn ?_); (first | (refine Ze (.func 73) ?_; refine qC rfl rfl (hC) ?_; rintro v ρ' L' hle ⟨hz1, s1, rfl, hs1, rfl⟩ <;> (try simp only [kM, kN, kO])) | (refine Zm ?_; try intro _)) <;> ((try simp only [kM, kN, kO]); refine Zb ?_; refine Zo ?_)))
  all_goals (refine ZK ?_; refine ZI 7 ?_; refine rEx 8 ?_; refine rEx 9 ?_; refine rAs 10 ?_; refine rAs 11 ?_; refine ZE ?_)
  all_goals (repeat' (first | (refine Zz ?_; refine Zk (Zc rfl) rfl rfl ?_) | (refine Zh ?_; first | (refine Zf ?_; refine qQ ?_) | refine Zm ?_) | refine Zb ?_ | (refine Zi ?_; refine Zr ?_) | (refine Zj ?_; refine Zs ?_) | intro _))
  all_goals exact qE (L' := [ZN (.slice va lv.length vc) (lvF lv) sp 34, stoC sb (.slice va lv.length vc) rv ro s1 m]) ⟨hz1, _, sp, lv, rv, ro, s1, delP o.page d, m, ⟨hS.own, hS.rs.mono hz1, hs1, fun x hx => (hS.ls x hx).mono hz1, hG⟩, Nat.le_succ _, rfl⟩
 ·generalize cleanE o.page d = ce at *
  repeat' (first | (refine Zz ?_; refine Zk (Zc rfl) rfl rfl ?_) | (refine Zh ?_; first | (refine Zf ?_; refine qQ ?_) | refine Zm ?_) | refine Zb ?_ | (refine Zi ?_; refine Zr ?_) | (refine Zj ?_; refine Zs ?_) | intro _)
  refine ZB (Zq _ _ _) Zy ?_
  all_goals (refine ZI 0 ?_; refine rNc 1 ?_; refine ZO 2 ?_; refine ZU 3 ?_; refine ZO 4 ?_; refine ZU 5 ?_)
  all_goals (refine Zt (i := 6) ?_; ((try refine Zn ?_); (first | (refine Ze (.func 73) ?_; refine qC rfl rfl (hC) ?_; rintro v ρ' L' hle ⟨hz1, s1, rfl, hs1, rfl⟩ <;> (try simp only [kM, kN, kO])) | (refine Zm ?_; try intro _)) <;> ((try simp only [kM, kN, kO]); refine Zb ?_; refine Zo ?_)))
  all_goals (refine ZK ?_; refine ZI 7 ?_; refine rEx 8 ?_; refine rEx 9 ?_; refine rAs 10 ?_; refine rAs 11 ?_; refine ZE ?_)
  all_goals (repeat' (first | (refine Zz ?_; refine Zk (Zc rfl) rfl rfl ?_) | (refine Zh ?_; first | (refine Zf ?_; refine qQ ?_) | refine Zm ?_) | refine Zb ?_ | (refine Zi ?_; refine Zr ?_) | (refine Zj ?_; refine Zs ?_) | intro _))
  all_goals exact qE (L' := [ZN (.slice va lv.length vc) (lvF lv) sp 34, stoC sb (.slice va lv.length vc) rv ro dv m]) ⟨hz1, _, sp, lv, rv, ro, dv, d, m, hS.mono hz1, Nat.le_succ _, rfl⟩
theorem ckTs2 (l : List Tx) : l.map ckOf = (l.map Tx.p).map ckT := by rw [List.map_map]; rfl
end Go.Proofs.E
