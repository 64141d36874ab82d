/- The law RosterMarks. Part 13 of 20. -/
import Derived.Test.YtkbiahafeoillaaGreatU12
namespace Go.Proofs.E
open Go
set_option linter.unusedVariables false
set_option linter.unusedSimpArgs false
set_option linter.unusedSectionVars false
set_option maxRecDepth 4000
set_option maxHeartbeats 1000000
attribute [local irreducible] Yl TL TC TE Spec Wh R1 Hp.le EnvLe TS TR YS Zq
theorem eqLF_spec (ρ : Hp) (a a' : Option Addr) (n n' c c' : Nat) (l m : List Lf) (h : AIn ρ 2 lfV a n l) (h' : AIn ρ 2 lfV a' n' m) (hn : n ≤ 200000000000000) :
  Spec Tryz.prog 48 [.slice a n c, .slice a' n' c'] ρ [] (fun v ρ' L' => v = .bool (decide (l = m)) ∧ ρ' = ρ ∧ L' = []) := by
 have hl := h.len
 have hm := h'.len
 refine Zg Tryz.func48 rfl rfl rfl fun u R => ?_
 simp only [Zx, List.cons_append, List.nil_append]
 by_cases hne : n = n'
 ·repeat' (first | (refine ZE ?_; refine Zn (Zd rfl) rfl rfl ?_) | (refine Zj ?_; first | (refine Zf ?_; refine qQ ?_) | refine Zm ?_) | refine Za ?_ | (refine Zi ?_; refine Zt ?_) | (refine Zh ?_; refine Zs ?_) | intro _)
  refine ZG [(0, _), (1, _), (12, _)] (fun (ζ : (Nat)) => [(13, .int .i64 ζ), (4, .bool false)]) (fun (ζ : (Nat)) => ρ) (fun (ζ : (Nat)) => []) (fun (ζ : (Nat)) => ζ ≤ n ∧ l.take ζ = m.take ζ) (fun (ζ : (Nat)) => n - ζ) (0) (⟨Nat.zero_le _, rfl⟩) Zo Zo rfl tk ?_
  rintro k hI
  try simp only [List.cons_append, List.nil_append, List.append_assoc, List.append_eq] at hI ⊢
  try dsimp only at hI ⊢
  obtain ⟨hk, hpre⟩ := hI
  by_cases hlt : k < n
  ·obtain ⟨b, off, C, T, fr, f1, hb, hfit, hc⟩ := h.get (show k < l.length by omega)
   obtain ⟨b2, off2, C2, T2, fr2, f2, hb2, hfit2, hc2⟩ := h'.get (show k < m.length by omega)
   have ht1 := List.take_succ_eq_append_getElem (show k < l.length by omega)
   have ht2 := List.take_succ_eq_append_getElem (show k < m.length by omega)
   have hf : l = m → l[k]'(by omega) = m[k]'(by omega) := fun e => by subst e; rfl
   generalize l[k]'(by omega) = x at *
   generalize m[k]'(by omega) = y at *
   rw [f1, f2]
   by_cases he : x = y
   ·have hd : decide (x = y) = true := decide_eq_true he
    have hpre2 : l.take (k + 1) = m.take (k + 1) := by rw [ht1, ht2, hpre, he]
    repeat' (first | (refine ZE ?_; refine Zn (Zd rfl) rfl rfl ?_) | (refine Zj ?_; first | (refine Zf ?_; refine qQ ?_) | refine Zm ?_) | refine Za ?_ | (refine Zi ?_; refine Zt ?_) | (refine Zh ?_; refine Zs ?_) | intro _)
    refine ZC (Zq _ _ _) ZF ?_
    all_goals (refine ZU 0 ?_; refine ZS ?_; refine ZU 1 ?_; refine rIa 2 ?_; refine Yf 3 ?_; refine ZU 4 ?_; refine ZU 5 ?_; refine rIa 6 ?_; refine Yf 7 ?_; refine rCm 8 ?_; refine ZH ?_)
    all_goals (try simp only [hd])
    all_goals (repeat' (first | (refine ZE ?_; refine Zn (Zd rfl) rfl rfl ?_) | (refine Zj ?_; first | (refine Zf ?_; refine qQ ?_) | refine Zm ?_) | refine Za ?_ | (refine Zi ?_; refine Zt ?_) | (refine Zh ?_; refine Zs ?_) | intro _))
    all_goals rw [← f1, ← f2]
    all_goals refine Zr (k + 1) (⟨hlt, hpre2⟩) Zo Zo rfl tk inferInstance (by first | omega | (dsimp only; omega))
   ·have hd : decide (x = y) = false := decide_eq_false he
    rw [decide_eq_false (fun e => he (hf e))]
    repeat' (first | (refine ZE ?_; refine Zn (Zd rfl) rfl rfl ?_) | (refine Zj ?_; first | (refine Zf ?_; refine qQ ?_) | refine Zm ?_) | refine Za ?_ | (refine Zi ?_; refine Zt ?_) | (refine Zh ?_; refine Zs ?_) | intro _)
    refine ZC (Zq _ _ _) ZF ?_
    all_goals (refine ZU 0 ?_; refine ZS ?_; refine ZU 1 ?_; refine rIa 2 ?_; refine Yf 3 ?_; refine ZU 4 ?_; refine ZU 5 ?_; refine rIa 6 ?_; refine Yf 7 ?_; refine rCm 8 ?_; refine ZH ?_)
    all_goals (try simp only [hd])
    all_goals (repeat' (first | (refine ZE ?_; refine Zn (Zd rfl) rfl rfl ?_) | (refine Zj ?_; first | (refine Zf ?_; refine qQ ?_) | refine Zm ?_) | refine Za ?_ | (refine Zi ?_; refine Zt ?_) | (refine Zh ?_; refine Zs ?_) | intro _))
    all_goals exact qE (L' := []) ⟨rfl, rfl, rfl⟩
  ·have hk2 : k = n := by omega
   subst hk2
   rw [List.take_of_length_le (by omega), List.take_of_length_le (by omega)] at hpre
   rw [decide_eq_true hpre]
   repeat' (first | (refine ZE ?_; refine Zn (Zd rfl) rfl rfl ?_) | (refine Zj ?_; first | (refine Zf ?_; refine qQ ?_) | refine Zm ?_) | refine Za ?_ | (refine Zi ?_; refine Zt ?_) | (refine Zh ?_; refine Zs ?_) | intro _)
   exact qE ⟨rfl, rfl, rfl⟩
 ·rw [decide_eq_false (fun e : l = m => hne (by rw [← hl, ← hm, e]))]
  repeat' (first | (refine ZE ?_; refine Zn (Zd rfl) rfl rfl ?_) | (refine Zj ?_; first | (refine Zf ?_; refine qQ ?_) | refine Zm ?_) | refine Za ?_ | (refine Zi ?_; refine Zt ?_) | (refine Zh ?_; refine Zs ?_) | intro _)
  exact qE ⟨rfl, rfl, rfl⟩
theorem eqU64_spec (ρ : Hp) (a a' : Option Addr) (n n' c c' : Nat) (l m : List Nat) (h : SIn ρ Yj a n l) (h' : SIn ρ Yj a' n' m) (hn : n ≤ 200000000000000) :
  Spec Tryz.prog 49 [.slice a n c, .slice a' n' c'] ρ [] (fun v ρ' L' => v = .bool (decide (l = m)) ∧ ρ' = ρ ∧ L' = []) := by
 have hl := h.len
 have hm := h'.len
 refine Zg Tryz.func49 rfl rfl rfl fun u R => ?_
 simp only [Zx, List.cons_append, List.nil_append]
 by_cases hne : n = n'
 ·repeat' (first | (refine ZE ?_; refine Zn (Zd rfl) rfl rfl ?_) | (refine Zj ?_; first | (refine Zf ?_; refine qQ ?_) | refine Zm ?_) | refine Za ?_ | (refine Zi ?_; refine Zt ?_) | (refine Zh ?_; refine Zs ?_) | intro _)
  refine ZG [(0, _), (1, _), (12, _)] (fun (ζ : (Nat)) => [(13, .int .i64 ζ), (4, .bool false)]) (fun (ζ : (Nat)) => ρ) (fun (ζ : (Nat)) => []) (fun (ζ : (Nat)) => ζ ≤ n ∧ l.take ζ = m.take ζ) (fun (ζ : (Nat)) => n - ζ) (0) (⟨Nat.zero_le _, rfl⟩) Zo Zo rfl tk ?_
  rintro k hI
  try simp only [List.cons_append, List.nil_append, List.append_assoc, List.append_eq] at hI ⊢
  try dsimp only at hI ⊢
  obtain ⟨hk, hpre⟩ := hI
  by_cases hlt : k < n
  ·obtain ⟨b, off, C, T, fr, f1, hb, hc⟩ := h.get (show k < l.length by omega)
   obtain ⟨b2, off2, C2, T2, fr2, f2, hb2, hc2⟩ := h'.get (show k < m.length by omega)
   have ht1 := List.take_succ_eq_append_getElem (show k < l.length by omega)
   have ht2 := List.take_succ_eq_append_getElem (show k < m.length by omega)
   have hf : l = m → l[k]'(by omega) = m[k]'(by omega) := fun e => by subst e; rfl
   generalize l[k]'(by omega) = x at *
   generalize m[k]'(by omega) = y at *
   rw [f1, f2]
   by_cases he : x = y
   ·have hd : decide (x = y) = true := decide_eq_true he
    have hpre2 : l.take (k + 1) = m.take (k + 1) := by rw [ht1, ht2, hpre, he]
    repeat' (first | (refine ZE ?_; refine Zn (Zd rfl) rfl rfl ?_) | (refine Zj ?_; first | (refine Zf ?_; refine qQ ?_) | refine Zm ?_) | refine Za ?_ | (refine Zi ?_; refine Zt ?_) | (refine Zh ?_; refine Zs ?_) | intro _)
    refine ZC (Zq _ _ _) ZF ?_
    all_goals (refine ZU 0 ?_; refine ZS ?_; refine ZU 1 ?_; refine rIa 2 ?_; refine Yf 3 ?_; refine ZU 4 ?_; refine ZU 5 ?_; refine rIa 6 ?_; refine Yf 7 ?_; refine rCm 8 ?_; refine ZH ?_)
    all_goals (try simp only [hd])
    all_goals (repeat' (first | (refine ZE ?_; refine Zn (Zd rfl) rfl rfl ?_) | (refine Zj ?_; first | (refine Zf ?_; refine qQ ?_) | refine Zm ?_) | refine Za ?_ | (refine Zi ?_; refine Zt ?_) | (refine Zh ?_; refine Zs ?_) | intro _))
    all_goals rw [← f1, ← f2]
    all_goals refine Zr (k + 1) (⟨hlt, hpre2⟩) Zo Zo rfl tk inferInstance (by first | omega | (dsimp only; omega))
   ·have hd : decide (x = y) = false := decide_eq_false he
    rw [decide_eq_false (fun e => he (hf e))]
    repeat' (first | (refine ZE ?_; refine Zn (Zd rfl) rfl rfl ?_) | (refine Zj ?_; first | (refine Zf ?_; refine qQ ?_) | refine Zm ?_) | refine Za ?_ | (refine Zi ?_; refine Zt ?_) | (refine Zh ?_; refine Zs ?_) | intro _)
    refine ZC (Zq _ _ _) ZF ?_
    all_goals (refine ZU 0 ?_; refine ZS ?_; refine ZU 1 ?_; refine rIa 2 ?_; refine Yf 3 ?_; refine ZU 4 ?_; refine ZU 5 ?_; refine rIa 6 ?_; refine Yf 7 ?_; refine rCm 8 ?_; refine ZH ?_)
    all_goals (try simp only [hd])
    all_goals (repeat' (first | (refine ZE ?_; refine Zn (Zd rfl) rfl rfl ?_) | (refine Zj ?_; first | (refine Zf ?_; refine qQ ?_) | refine Zm ?_) | refine Za ?_ | (refine Zi ?_; refine Zt ?_) | (refine Zh ?_; refine Zs ?_) | intro _))
    all_goals exact qE (L' := []) ⟨rfl, rfl, rfl⟩
  ·have hk2 : k = n := by omega
   subst hk2
   rw [List.take_of_length_le (by omega), List.take_of_length_le (by omega)] at hpre
   rw [decide_eq_true hpre]
   repeat' (first | (refine ZE ?_; refine Zn (Zd rfl) rfl rfl ?_) | (refine Zj ?_; first | (refine Zf ?_; refine qQ ?_) | refine Zm ?_) | refine Za ?_ | (refine Zi ?_; refine Zt ?_) | (refine Zh ?_; refine Zs ?_) | intro _)
   exact qE ⟨rfl, rfl, rfl⟩
 ·rw [decide_eq_false (fun e : l = m => hne (by rw [← hl, ← hm, e]))]
  repeat' (first | (refine ZE ?_; refine Zn (Zd rfl) rfl rfl ?_) | (refine Zj ?_; first | (refine Zf ?_; refine qQ ?_) | refine Zm ?_) | refine Za ?_ | (refine Zi ?_; refine Zt ?_) | (refine Zh ?_; refine Zs ?_) | intro _)
  exact qE ⟨rfl, rfl, rfl⟩
theorem rsame1_spec (ρ : Hp) (x y : Tx) (hx : Tx.In ρ x) (hy : Tx.In ρ y) : Spec Tryz.prog 47 [.agg ⟨txV x⟩, .agg ⟨txV y⟩] ρ [] (fun z ρ' L' => z = .bool (decide (x.p = y.p)) ∧ ρ' = ρ ∧ L' = []) := by
 have h1 := eqLF_spec ρ x.sv.a y.sv.a x.sv.n y.sv.n x.sv.c y.sv.c x.stack y.stack hx.s hy.s hx.sb
 have h2 := eqU64_spec ρ x.mv.a y.mv.a x.mv.n y.mv.n x.mv.c y.mv.c x.marks y.marks hx.m hy.m hx.mb
 have hp : decide (x.p = y.p) = (decide (x.num = y.num ∧ x.state = y.state ∧ x.first = y.first ∧ x.last = y.last ∧ x.undo = y.undo) && (decide (x.stack = y.stack) && decide (x.marks = y.marks))) := by
  simp only [Tx.p, TxP.mk.injEq]
  rw [Bool.eq_iff_iff]
  simp only [Bool.and_eq_true, decide_eq_true_eq, and_assoc]
 rw [hp]
 refine Zg Tryz.func47 rfl rfl rfl fun u R => ?_
 simp only [Zx, List.cons_append, List.nil_append]
 by_cases e : x.num = y.num ∧ x.state = y.state ∧ x.first = y.first ∧ x.last = y.last ∧ x.undo = y.undo
 ·rw [decide_eq_true e, Bool.true_and]
  obtain ⟨g1, g2, g3, g4, g5⟩ := e
  by_cases e6 : x.stack = y.stack
  ·rw [decide_eq_true e6, Bool.true_and]
   rw [decide_eq_true e6] at h1
   generalize decide (x.marks = y.marks) = q at *
   repeat' (first | (refine Ze (.func 48) ?_; refine qC rfl rfl (h1) ?_; rintro v ρ' L' hle ⟨rfl, rfl, rfl⟩ <;> (try simp only [kM, kN, kO])) | (refine Ze (.func 49) ?_; refine qC rfl rfl (h2) ?_; rintro v ρ' L' hle ⟨rfl, rfl, rfl⟩ <;> (try simp only [kM, kN, kO])) | (refine ZE ?_; refine Zn (Zd rfl) rfl rfl ?_) | (refine Zj ?_; first | (refine Zf ?_; refine qQ ?_) | refine Zm ?_) | refine Za ?_ | (refine Zi ?_; refine Zt ?_) | (refine Zh ?_; refine Zs ?_) | intro _)
   exact qE (L' := []) ⟨rfl, rfl, rfl⟩
  ·rw [decide_eq_false e6, Bool.false_and]
   rw [decide_eq_false e6] at h1
   repeat' (first | (refine Ze (.func 48) ?_; refine qC rfl rfl (h1) ?_; rintro v ρ' L' hle ⟨rfl, rfl, rfl⟩ <;> (try simp only [kM, kN, kO])) | (refine ZE ?_; refine Zn (Zd rfl) rfl rfl ?_) | (refine Zj ?_; first | (refine Zf ?_; refine qQ ?_) | refine Zm ?_) | refine Za ?_ | (refine Zi ?_; refine Zt ?_) | (refine Zh ?_; refine Zs ?_) | intro _)
   exact qE (L' := []) ⟨rfl, rfl, rfl⟩
 ·rw [decide_eq_false e, Bool.false_and]
  repeat' (first | (refine ZE ?_; refine Zn (Zd rfl) rfl rfl ?_) | (refine Zj ?_; first | (refine Zf ?_; refine qQ ?_) | refine Zm ?_) | refine Za ?_ | (refine Zi ?_; refine Zt ?_) | (refine Zh ?_; refine Zs ?_) | (refine XM ?_; refine Ye rfl rfl (fun hb => ?_) (fun hb => ?_) <;> (try simp only [decide_eq_true_eq, decide_eq_false_iff_not, Bool.not_eq_true, Bool.not_eq_false, beq_iff_eq, bne_iff_ne, ne_eq, decide_eq_decide, Bool.not_eq_eq_eq_not, Bool.not_true, Bool.not_false, beq_eq_false_iff_ne, bne_eq_false_iff_eq, Bool.and_eq_true, Bool.or_eq_true, Bool.and_eq_false_imp, Bool.or_eq_false_iff, bq2, bqt, bqf] at hb)) | (refine YA ?_; refine Ym rfl (fun hb => ?_) (fun hb => ?_) <;> (try simp only [decide_eq_true_eq, decide_eq_false_iff_not, Bool.not_eq_true, Bool.not_eq_false, beq_iff_eq, bne_iff_ne, ne_eq, decide_eq_decide, Bool.not_eq_eq_eq_not, Bool.not_true, Bool.not_false, beq_eq_false_iff_ne, bne_eq_false_iff_eq, Bool.and_eq_true, Bool.or_eq_true, Bool.and_eq_false_imp, Bool.or_eq_false_iff, bq2, bqt, bqf] at hb)) | intro _)
  all_goals first | (exfalso; omega) | skip
  all_goals (refine qF (L' := []) ?_; exact ⟨by first | rfl | (congr 1; simp; omega) | (congr 1; simp), rfl, rfl⟩)
theorem rsameE_spec (ρ : Hp) (s s' : SV) (l m : List Tx) (h : AS ρ 7 txV s l) (h' : AS ρ 7 txV s' m) (hi : ∀ x ∈ l, Tx.In ρ x) (hi' : ∀ x ∈ m, Tx.In ρ x) :
  Spec Tryz.prog 46 [.slice s.a s.n s.c, .slice s'.a s'.n s'.c, .func (.func 47) ⟨[]⟩ ⟨[]⟩] ρ [] (fun v ρ' L' => v = .bool (decide (l.map Tx.p = m.map Tx.p)) ∧ ρ' = ρ ∧ L' = []) := by
 have hl := h.at'.len
 have hm := h'.at'.len
 have hn := h.big
 refine Zg Tryz.func46 rfl rfl rfl fun u R => ?_
 simp only [Zx, List.cons_append, List.nil_append]
 by_cases hne : s.n = s'.n
 ·repeat' (first | (refine ZE ?_; refine Zn (Zd rfl) rfl rfl ?_) | (refine Zj ?_; first | (refine Zf ?_; refine qQ ?_) | refine Zm ?_) | refine Za ?_ | (refine Zi ?_; refine Zt ?_) | (refine Zh ?_; refine Zs ?_) | intro _)
  refine ZG [(1, _), (2, _), (15, _), (16, _)] (fun (ζ : (Nat)) => [(17, .int .i64 ζ), (6, .bool false)]) (fun (ζ : (Nat)) => ρ) (fun (ζ : (Nat)) => []) (fun (ζ : (Nat)) => ζ ≤ s.n ∧ (l.map Tx.p).take ζ = (m.map Tx.p).take ζ) (fun (ζ : (Nat)) => s.n - ζ) (0) (⟨Nat.zero_le _, rfl⟩) Zo Zo rfl tk ?_
  rintro k hI
  try simp only [List.cons_append, List.nil_append, List.append_assoc, List.append_eq] at hI ⊢
  try dsimp only at hI ⊢
  obtain ⟨hk, hpre⟩ := hI
  by_cases hlt : k < s.n
  ·obtain ⟨b, off, C, T, fr, f1, hb, hfit, hc⟩ := h.at'.get (show k < l.length by omega)
   obtain ⟨b2, off2, C2, T2, fr2, f2, hb2, hfit2, hc2⟩ := h'.at'.get (show k < m.length by omega)
   have ht1 := map_take_suc Tx.p l k (by omega)
   have ht2 := map_take_suc Tx.p m k (by omega)
   have hf : l.map Tx.p = m.map Tx.p → (l[k]'(by omega)).p = (m[k]'(by omega)).p := fun e => by
    have g1 : (l.map Tx.p)[k]? = some (l[k]'(by omega)).p := by simp [show k < l.length by omega]
    have g2 : (m.map Tx.p)[k]? = some (m[k]'(by omega)).p := by simp [show k < m.length by omega]
    rw [e, g2] at g1
    exact (Option.some.inj g1).symm
   have hs1 := rsame1_spec ρ (l[k]'(by omega)) (m[k]'(by omega)) (hi _ (List.getElem_mem _)) (hi' _ (List.getElem_mem _))
   generalize l[k]'(by omega) = x at *
   generalize m[k]'(by omega) = y at *
   rw [f1, f2]
   by_cases he : x.p = y.p
   ·have hpre2 : (l.map Tx.p).take (k + 1) = (m.map Tx.p).take (k + 1) := by rw [ht1, ht2, hpre, he]
    rw [decide_eq_true he] at hs1
    repeat' (first | (refine Ze (.tmp 26) ?_; refine qC rfl rfl (hs1) ?_; rintro v ρ' L' hle ⟨rfl, rfl, rfl⟩ <;> (try simp only [kM, kN, kO])) | (refine ZE ?_; refine Zn (Zd rfl) rfl rfl ?_) | (refine Zj ?_; first | (refine Zf ?_; refine qQ ?_) | refine Zm ?_) | refine Za ?_ | (refine Zi ?_; refine Zt ?_) | (refine Zh ?_; refine Zs ?_) | intro _)
    rw [← f1, ← f2]
    refine Zr (k + 1) (⟨hlt, hpre2⟩) Zo Zo rfl tk inferInstance (by first | omega | (dsimp only; omega))
   ·rw [decide_eq_false (fun e => he (hf e))]
    rw [decide_eq_false he] at hs1
    repeat' (first | (refine Ze (.tmp 26) ?_; refine qC rfl rfl (hs1) ?_; rintro v ρ' L' hle ⟨rfl, rfl, rfl⟩ <;> (try simp only [kM, kN, kO])) | (refine ZE ?_; refine Zn (Zd rfl) rfl rfl ?_) | (refine Zj ?_; first | (refine Zf ?_; refine qQ ?_) | refine Zm ?_) | refine Za ?_ | (refine Zi ?_; refine Zt ?_) | (refine Zh ?_; refine Zs ?_) | intro _)
    exact qE (L' := []) ⟨rfl, rfl, rfl⟩
  ·have hk2 : k = s.n := by omega
   subst hk2
   rw [List.take_of_length_le (by simp; omega), List.take_of_length_le (by simp; omega)] at hpre
   rw [decide_eq_true hpre]
   repeat' (first | (refine ZE ?_; refine Zn (Zd rfl) rfl rfl ?_) | (refine Zj ?_; first | (refine Zf ?_; refine qQ ?_) | refine Zm ?_) | refine Za ?_ | (refine Zi ?_; refine Zt ?_) | (refine Zh ?_; refine Zs ?_) | intro _)
   exact qE ⟨rfl, rfl, rfl⟩
 ·rw [decide_eq_false (fun e : l.map Tx.p = m.map Tx.p => hne (by have := congrArg List.length e; simp at this; omega))]
  repeat' (first | (refine ZE ?_; refine Zn (Zd rfl) rfl rfl ?_) | (refine Zj ?_; first | (refine Zf ?_; refine qQ ?_) | refine Zm ?_) | refine Za ?_ | (refine Zi ?_; refine Zt ?_) | (refine Zh ?_; refine Zs ?_) | intro _)
  exact qE ⟨rfl, rfl, rfl⟩
theorem rsame_spec (ρ : Hp) (v v' : SV) (x y : Ros) (hx : RosIn ρ v x) (hy : RosIn ρ v' y) : Spec Tryz.prog 16 [.agg ⟨Yx v x⟩, .agg ⟨Yx v' y⟩] ρ [] (fun z ρ' L' => z = .bool (decide (x.p = y.p)) ∧ ρ' = ρ ∧ L' = []) := by
 have h1 := rsameE_spec ρ v v' x.txns y.txns hx.at' hy.at' hx.tx hy.tx
 have hp : decide (x.p = y.p) = (decide (x.next = y.next) && decide (x.txns.map Tx.p = y.txns.map Tx.p)) := by
  simp only [Ros.p, Yh.mk.injEq]
  rw [Bool.eq_iff_iff]
  simp only [Bool.and_eq_true, decide_eq_true_eq]
 rw [hp]
 generalize decide (x.txns.map Tx.p = y.txns.map Tx.p) = q at *
 refine Zg Tryz.func16 rfl rfl rfl fun u R => ?_
 simp only [Zx, List.cons_append, List.nil_append]
 by_cases e : x.next = y.next
 ·rw [decide_eq_true e, Bool.true_and]
  repeat' (first | (refine Ze (.func 46) ?_; refine qC rfl rfl (h1) ?_; rintro v ρ' L' hle ⟨rfl, rfl, rfl⟩ <;> (try simp only [kM, kN, kO])) | (refine ZE ?_; refine Zn (Zd rfl) rfl rfl ?_) | (refine Zj ?_; first | (refine Zf ?_; refine qQ ?_) | refine Zm ?_) | refine Za ?_ | (refine Zi ?_; refine Zt ?_) | (refine Zh ?_; refine Zs ?_) | intro _)
  exact qE (L' := []) ⟨rfl, rfl, rfl⟩
 ·rw [decide_eq_false e, Bool.false_and]
  repeat' (first | (refine ZE ?_; refine Zn (Zd rfl) rfl rfl ?_) | (refine Zj ?_; first | (refine Zf ?_; refine qQ ?_) | refine Zm ?_) | refine Za ?_ | (refine Zi ?_; refine Zt ?_) | (refine Zh ?_; refine Zs ?_) | intro _)
  exact qE (L' := []) ⟨rfl, rfl, rfl⟩
theorem rsame_true (ρ : Hp) (v v' : SV) (x y : Ros) (hx : RosIn ρ v x) (hy : RosIn ρ v' y) (h : x.p = y.p) : Spec Tryz.prog 16 [.agg ⟨Yx v x⟩, .agg ⟨Yx v' y⟩] ρ [] (fun z ρ' L' => z = .bool true ∧ ρ' = ρ ∧ L' = []) := by
 have := rsame_spec ρ v v' x y hx hy
 rw [decide_eq_true h] at this
 exact this
theorem rfind_some (ρ : Hp) (v : SV) (ro : Ros) (h : RosIn ρ v ro) (num : Int) {t : TxP} (hok : XY ro = true) (ho : Yq ro.p num = some t) : Spec Tryz.prog 19 [.agg ⟨Yx v ro⟩, .int .i64 num] ρ []
  (fun z ρ' L' => ρ' = ρ ∧ ∃ x, z = .tuple ⟨[.agg ⟨txV x⟩, .bool true]⟩ ∧ Tx.In ρ' x ∧ x.p = t ∧ L' = []) := by
 refine (rfind_spec ρ v ro h num).mono ?_
 rintro z ρ' L' _ ⟨h1, x, b, h2, h3, ⟨t', h4, h5, h6⟩ | ⟨h4, _⟩, h7⟩
 ·rw [if_pos hok, ho] at h4
  cases h4
  exact ⟨h1, x, by rw [h2, h5], h3, h6, h7⟩
 ·rw [if_pos hok, ho] at h4; cases h4
theorem over18_spec (ρ : Hp) (v : RV) (r : Rc) (h : RcW ρ v r) : Spec Tryz.prog 12 [.agg ⟨recV v r⟩] ρ [] (fun z ρ' L' => z = .bool (overB r) ∧ ρ' = ρ ∧ L' = []) := by
 have li := h.i.at'.len
 have ls := h.s.at'.len
 have lt := h.t.at'.len
 have ld := h.d.at'.len
 unfold overB
 refine Zg Tryz.func12 rfl rfl rfl fun u R => ?_
 simp only [Zx, List.cons_append, List.nil_append]
 by_cases hb : 17 < r.ims.length ∨ 3 < r.steps.length ∨ 9 < r.txns.length ∨ 65 < r.dirty.length
 ·rw [decide_eq_true hb, Bool.true_or]
  repeat' (first | (refine ZE ?_; refine Zn (Zd rfl) rfl rfl ?_) | (refine Zj ?_; first | (refine Zf ?_; refine qQ ?_) | refine Zm ?_) | refine Za ?_ | (refine Zi ?_; refine Zt ?_) | (refine Zh ?_; refine Zs ?_) | (refine XM ?_; refine Ye rfl rfl (fun hb => ?_) (fun hb => ?_) <;> (try simp only [decide_eq_true_eq, decide_eq_false_iff_not, Bool.not_eq_true, Bool.not_eq_false, beq_iff_eq, bne_iff_ne, ne_eq, decide_eq_decide, Bool.not_eq_eq_eq_not, Bool.not_true, Bool.not_false, beq_eq_false_iff_ne, bne_eq_false_iff_eq, Bool.and_eq_true, Bool.or_eq_true, Bool.and_eq_false_imp, Bool.or_eq_false_iff, bq2, bqt, bqf] at hb)) | (refine YA ?_; refine Ym rfl (fun hb => ?_) (fun hb => ?_) <;> (try simp only [decide_eq_true_eq, decide_eq_false_iff_not, Bool.not_eq_true, Bool.not_eq_false, beq_iff_eq, bne_iff_ne, ne_eq, decide_eq_decide, Bool.not_eq_eq_eq_not, Bool.not_true, Bool.not_false, beq_eq_false_iff_ne, bne_eq_false_iff_eq, Bool.and_eq_true, Bool.or_eq_true, Bool.and_eq_false_imp, Bool.or_eq_false_iff, bq2, bqt, bqf] at hb)) | intro _)
  all_goals first | exact qE (L' := []) ⟨rfl, rfl, rfl⟩ | (exfalso; omega)
 ·rw [decide_eq_false hb, Bool.false_or]
  have hA := h.i.at'
  generalize hq : r.ims.any (fun x => decide (30 < imN x)) = q
  repeat' (first | (refine ZE ?_; refine Zn (Zd rfl) rfl rfl ?_) | (refine Zj ?_; first | (refine Zf ?_; refine qQ ?_) | refine Zm ?_) | refine Za ?_ | (refine Zi ?_; refine Zt ?_) | (refine Zh ?_; refine Zs ?_) | intro _)
  refine ZG [(28, _), (29, _)] (fun (ζ : (Nat)) => [(30, .int .i64 ζ), (2, .bool false)]) (fun (ζ : (Nat)) => ρ) (fun (ζ : (Nat)) => []) (fun (ζ : (Nat)) => ζ ≤ v.i.n ∧ (r.ims.drop ζ).any (fun x => decide (30 < imN x)) = q) (fun (ζ : (Nat)) => v.i.n - ζ) (0) (⟨Nat.zero_le _, hq⟩) Zo Zo rfl tk ?_
  rintro k hI
  try simp only [List.cons_append, List.nil_append, List.append_assoc, List.append_eq] at hI ⊢
  try dsimp only at hI ⊢
  obtain ⟨hk, hok⟩ := hI
  by_cases hlt : k < v.i.n
  ·obtain ⟨b, off, C, T, fr, e1, hb1, hfit, hc⟩ := hA.get (show k < r.ims.length by omega)
   have hmem := List.getElem_mem (show k < r.ims.length by omega)
   rw [List.drop_eq_getElem_cons (show k < r.ims.length by omega), List.any_cons] at hok
   generalize r.ims[k]'(by omega) = x at *
   obtain ⟨hxb, hxa⟩ := h.im x hmem
   have f1 := hxb.r.len
   have f2 := hxb.k.len
   have f3 := hxa.r.len
   have f4 := hxa.k.len
   have g1 := hxb.rb
   have g2 := hxb.kb
   have g3 := hxa.rb
   have g4 := hxa.kb
   rw [e1]
   by_cases hx : 30 < imN x
   ·rw [decide_eq_true hx, Bool.true_or] at hok
    subst hok
    unfold imN at hx
    repeat' (first | (refine ZE ?_; refine Zn (Zd rfl) rfl rfl ?_) | (refine Zj ?_; first | (refine Zf ?_; refine qQ ?_) | refine Zm ?_) | refine Za ?_ | (refine Zi ?_; refine Zt ?_) | (refine Zh ?_; refine Zs ?_) | intro _)
    exact qE (L' := []) ⟨rfl, rfl, rfl⟩
   ·rw [decide_eq_false hx, Bool.false_or] at hok
    unfold imN at hx
    repeat' (first | (refine ZE ?_; refine Zn (Zd rfl) rfl rfl ?_) | (refine Zj ?_; first | (refine Zf ?_; refine qQ ?_) | refine Zm ?_) | refine Za ?_ | (refine Zi ?_; refine Zt ?_) | (refine Zh ?_; refine Zs ?_) | intro _)
    rw [← e1]
    refine Zr (k + 1) (⟨hlt, hok⟩) Zo Zo rfl tk inferInstance (by first | omega | (dsimp only; omega))
  ·have hk2 : k = r.ims.length := by omega
   rw [hk2, List.drop_length, List.any_nil] at hok
   subst hok
   repeat' (first | (refine ZE ?_; refine Zn (Zd rfl) rfl rfl ?_) | (refine Zj ?_; first | (refine Zf ?_; refine qQ ?_) | refine Zm ?_) | refine Za ?_ | (refine Zi ?_; refine Zt ?_) | (refine Zh ?_; refine Zs ?_) | intro _)
   exact qE (L' := []) ⟨rfl, rfl, rfl⟩
structure OpD where
 kind : Int
 num : Int
 n : Int
 at' : Int
 near : Bool
 rv : RV
 rc : Rc
abbrev opV (o : OpD) : List Value := [.int .i64 o.kind, .int .i64 o.num, .int .i64 o.n, .int .i64 o.at', .bool o.near, .int .i64 o.rc.kind, .int .u64 o.rc.lsn, .int .i64 o.rc.txn, .int .u64 o.rc.prev, .int .u64 o.rc.next, .slice o.rv.i.a o.rv.i.n o.rv.i.c, .slice o.rv.s.a o.rv.s.n o.rv.s.c, .int .i64 o.rc.nextTxn, .slice o.rv.t.a o.rv.t.n o.rv.t.c, .slice o.rv.d.a o.rv.d.n o.rv.d.c]
def idxU (a : Int) (n : Nat) : Nat := ((IntKind.u64.wrap a).tmod (n : Int)).toNat
theorem idxU_lt (a : Int) {n : Nat} (h : 0 < n) : idxU a n < n ∧ 0 ≤ (IntKind.u64.wrap a).tmod (n : Int) ∧ (IntKind.u64.wrap a).tmod (n : Int) < (n : Int) := by
 have h1 : 0 ≤ IntKind.u64.wrap a := by
  have h : IntKind.u64.wrap a = a % 18446744073709551616 := rfl
  omega
 have h2 : (IntKind.u64.wrap a).tmod (n : Int) = (IntKind.u64.wrap a) % (n : Int) := Int.tmod_eq_emod_of_nonneg h1
 have h3 := Int.emod_nonneg (IntKind.u64.wrap a) (show (n : Int) ≠ 0 by omega)
 have h4 := Int.emod_lt_of_pos (IntKind.u64.wrap a) (show (0 : Int) < (n : Int) by omega)
 unfold idxU
 omega
def zP : TxP := ⟨0, 0, 0, 0, 0, [], []⟩
def nthT (p : Yh) (a : Int) : TxP := p.txns.getD (idxU a p.txns.length) zP
def opN (o : OpD) (p : Yh) : Int := if 0 < p.txns.length ∧ o.near = true then (nthT p o.at').num else o.num
theorem nth_cell {ρ : Hp} {v : SV} {ro : Ros} (h : RosIn ρ v ro) (a : Int) (h0 : 0 < v.n) : ∃ b off C T fr x, v.a = some ⟨b, off, none⟩ ∧ ρ b = some (.cells ⟨C⟩ T fr) ∧ off + ((IntKind.u64.wrap a).tmod (v.n : Int)).toNat * 7 + 7 ≤ C.length ∧ (C.drop (off + ((IntKind.u64.wrap a).tmod (v.n : Int)).toNat * 7)).take 7 = txV x ∧ Tx.In ρ x ∧ x.p = nthT ro.p a ∧ nthT ro.p a ∈ ro.p.txns := by
 have hl := h.at'.at'.len
 have hi := (idxU_lt a h0).1
 obtain ⟨b, off, C, T, fr, e1, hb, hfit, hc⟩ := h.at'.at'.get (show idxU a v.n < ro.txns.length by omega)
 have hpl : ro.p.txns.length = v.n := by simp [Ros.p, hl]
 have hn : nthT ro.p a = (ro.txns[idxU a v.n]'(by omega)).p := by
  unfold nthT
  rw [hpl, Xe (by omega)]
  simp [Ros.p]
 refine ⟨b, off, C, T, fr, _, e1, hb, hfit, hc, h.tx _ (List.getElem_mem (show idxU a v.n < ro.txns.length by omega)), hn.symm, ?_⟩
 rw [hn]
 exact List.mem_map.2 ⟨_, List.getElem_mem _, rfl⟩
theorem cell_at {C : List Value} {i sz : Nat} {l : List Value} (h : (C.drop i).take sz = l) {d : Nat} {v : Value} (hd : l[d]? = some v) : C[i + d]? = some v := by
 have h1 : d < sz := by
  have := (List.getElem?_eq_some_iff.1 hd).1
  rw [← h, List.length_take] at this
  omega
 rw [← h, List.getElem?_take_of_lt h1, List.getElem?_drop] at hd
 exact hd
theorem onum_spec (ρ : Hp) (o : OpD) (v : SV) (ro : Ros) (h : RosIn ρ v ro) : Spec Tryz.prog 40 [.agg ⟨opV o⟩, .agg ⟨Yx v ro⟩] ρ [] (fun z ρ' L' => z = .int .i64 (opN o ro.p) ∧ ρ' = ρ ∧ L' = []) := by
 have hl := h.at'.at'.len
 have hbig := h.at'.big
 have hpl : ro.p.txns.length = v.n := by simp [Ros.p, hl]
 unfold opN
 rw [hpl]
 obtain ⟨kd, num, n, a', near, rv, rc⟩ := o
 dsimp only
 refine Zg Tryz.func40 rfl rfl rfl fun u R => ?_
 simp only [Zx, List.cons_append, List.nil_append]
 by_cases h0 : 0 < v.n
 ·cases near
  ·rw [if_neg (by simp)]
   repeat' (first | (refine ZE ?_; refine Zn (Zd rfl) rfl rfl ?_) | (refine Zj ?_; first | (refine Zf ?_; refine qQ ?_) | refine Zm ?_) | refine Za ?_ | (refine Zi ?_; refine Zt ?_) | (refine Zh ?_; refine Zs ?_) | intro _)
   exact qE (L' := []) ⟨rfl, rfl, rfl⟩
  ·rw [if_pos ⟨h0, rfl⟩]
   obtain ⟨b, off, C, T, fr, x, e1, hb, hfit, hc, hx, hp, hm⟩ := nth_cell h a' h0
   have hnm : (nthT ro.p a').num = x.num := by rw [← hp]
   obtain ⟨_, hk0, hk1⟩ := idxU_lt a' h0
   have hcell : C[off + ((IntKind.u64.wrap a').tmod (v.n : Int)).toNat * 7 + 0]? = some (.int .i64 x.num) := cell_at hc rfl
   rw [hnm]
   simp only [Yx]
   rw [e1]
   repeat' (first | (refine ZE ?_; refine Zn (Zd rfl) rfl rfl ?_) | (refine Zj ?_; first | (refine Zf ?_; refine qQ ?_) | refine Zm ?_) | refine Za ?_ | (refine Zi ?_; refine Zt ?_) | (refine Zh ?_; refine Zs ?_) | intro _)
   refine ZC (Zq _ _ _) ZF ?_
   all_goals (refine ZY 0 ?_; refine ZS ?_; refine Yf 1 ?_; refine ZY 2 ?_; refine Yf 3 ?_; refine rCv 4 ?_; refine ZU 5 ?_; refine rCv 6 ?_; refine rRm 7 ?_; refine rIa 8 ?_; refine ZY 9 ?_; refine Yf 10 ?_; refine rAs 11 ?_; refine ZH ?_)
   all_goals (repeat' (first | (refine ZE ?_; refine Zn (Zd rfl) rfl rfl ?_) | (refine Zj ?_; first | (refine Zf ?_; refine qQ ?_) | refine Zm ?_) | refine Za ?_ | (refine Zi ?_; refine Zt ?_) | (refine Zh ?_; refine Zs ?_) | intro _))
   all_goals exact qE (L' := []) ⟨rfl, rfl, rfl⟩
 ·rw [if_neg (fun e => h0 e.1)]
  repeat' (first | (refine ZE ?_; refine Zn (Zd rfl) rfl rfl ?_) | (refine Zj ?_; first | (refine Zf ?_; refine qQ ?_) | refine Zm ?_) | refine Za ?_ | (refine Zi ?_; refine Zt ?_) | (refine Zh ?_; refine Zs ?_) | intro _)
  exact qE (L' := []) ⟨rfl, rfl, rfl⟩
def lastF : Nat → List TxP → Nat
 | n, [] => n
 | n, t :: r => lastF (max n t.last) r
theorem lastF_le : ∀ {l : List TxP} {n m : Nat}, n ≤ m → (∀ t ∈ l, t.last ≤ m) → lastF n l ≤ m
 | [], _, _, h, _ => h
 | t :: r, n, m, h, h2 => by
  rw [lastF]
  have := h2 t (by simp)
  exact lastF_le (by omega) (fun x hx => h2 x (by simp [hx]))
def YH (p : Yh) : Nat := lastF 0 p.txns
theorem last18_spec (ρ : Hp) (v : SV) (ro : Ros) (h : RosIn ρ v ro) : Spec Tryz.prog 17 [.agg ⟨Yx v ro⟩] ρ [] (fun z ρ' L' => z = .int .u64 (YH ro.p : Nat) ∧ ρ' = ρ ∧ L' = []) := by
 have hl := h.at'.at'.len
 have hA := h.at'.at'
 have hbig := h.at'.big
 refine Zg Tryz.func17 rfl rfl rfl fun u R => ?_
 simp only [Zx, List.cons_append, List.nil_append]
 unfold YH
 generalize hq : lastF 0 ro.p.txns = q
 repeat' (first | (refine ZE ?_; refine Zn (Zd rfl) rfl rfl ?_) | (refine Zj ?_; first | (refine Zf ?_; refine qQ ?_) | refine Zm ?_) | refine Za ?_ | (refine Zi ?_; refine Zt ?_) | (refine Zh ?_; refine Zs ?_) | intro _)
 refine ZG [(2, _), (7, _), (8, _)] (fun (ζ : (Nat) × (Nat)) => [(9, .int .i64 ζ.1), (3, .int .u64 ζ.2)]) (fun (ζ : (Nat) × (Nat)) => ρ) (fun (ζ : (Nat) × (Nat)) => []) (fun (ζ : (Nat) × (Nat)) => ζ.1 ≤ v.n ∧ lastF ζ.2 (ro.p.txns.drop ζ.1) = q) (fun (ζ : (Nat) × (Nat)) => v.n - ζ.1) ((0, 0)) (⟨Nat.zero_le _, hq⟩) Zo Zo rfl tk ?_
 rintro ⟨k, n⟩ hI
 try simp only [List.cons_append, List.nil_append, List.append_assoc, List.append_eq] at hI ⊢
 try dsimp only at hI ⊢
 obtain ⟨hk, hI⟩ := hI
 by_cases hlt : k < v.n
 ·obtain ⟨b, off, C, T, fr, e1, hb, hfit, hc⟩ := hA.get (show k < ro.txns.length by omega)
  have hd : ro.p.txns.drop k = (ro.txns[k]'(by omega)).p :: ro.p.txns.drop (k + 1) := by
   rw [List.drop_eq_getElem_cons (show k < ro.p.txns.length by simp [Ros.p]; omega)]
   simp [Ros.p]
  rw [hd, lastF] at hI
  generalize ro.txns[k]'(by omega) = x at *
  have hmx : max (n : Int) (x.last : Int) = ((max n x.last : Nat) : Int) := by omega
  rw [e1]
  repeat' (first | (refine ZE ?_; refine Zn (Zd rfl) rfl rfl ?_) | (refine Zj ?_; first | (refine Zf ?_; refine qQ ?_) | refine Zm ?_) | refine Za ?_ | (refine Zi ?_; refine Zt ?_) | (refine Zh ?_; refine Zs ?_) | intro _)
  try simp only [hmx]
  rw [← e1]
  refine Zr (k + 1, max n x.last) (⟨hlt, hI⟩) Zo Zo rfl tk inferInstance (by first | omega | (dsimp only; omega))
 ·rw [List.drop_of_length_le (by simp [Ros.p]; omega), lastF] at hI
  subst hI
  repeat' (first | (refine ZE ?_; refine Zn (Zd rfl) rfl rfl ?_) | (refine Zj ?_; first | (refine Zf ?_; refine qQ ?_) | refine Zm ?_) | refine Za ?_ | (refine Zi ?_; refine Zt ?_) | (refine Zh ?_; refine Zs ?_) | intro _)
  exact qE (L' := []) ⟨rfl, rfl, rfl⟩
end Go.Proofs.E
