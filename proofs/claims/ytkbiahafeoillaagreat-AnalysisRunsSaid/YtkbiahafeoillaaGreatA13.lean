/- Laws of analysis. Part 13 of 41. -/
import Derived.Test.YtkbiahafeoillaaGreatA12
namespace Go.Proofs.E
open Go
set_option linter.unusedVariables false
set_option linter.unusedSimpArgs false
set_option linter.unusedSectionVars false
set_option maxRecDepth 4000
set_option maxHeartbeats 1000000
attribute [local irreducible] Yl TL TC TE Spec Xb R1 Hp.le EnvLe TS TR YS Zk
theorem Ws (ρ : Hp) (v : SV) (r : Ros) (h : RosIn ρ v r) : Spec Tryz.prog 55 [.agg ⟨XI v r⟩] ρ [] (fun z ρ' L' => z = .int .i64 (if WB r then 0 else 280) ∧ ρ' = ρ ∧ L' = []) := by
 have hl := h.at'.at'.len
 have hn := h.at'.big
 have hA := h.at'.at'
 generalize hq : WB r = q
 unfold WB at hq
 rw [hl] at hq
 refine Zd Tryz.func55 rfl rfl rfl fun u R => ?_
 simp only [Zo, List.cons_append, List.nil_append]
 have hh : ∀ b : Bool, b = decide (1 ≤ r.next ∧ r.next ≤ 1073741824 ∧ v.n ≤ 8) → (b && txsB r.next 0 r.txns) = q := fun b e => by rw [e]; exact hq
 obtain ⟨b0, hb0⟩ : ∃ b0, decide (1 ≤ r.next ∧ r.next ≤ 1073741824 ∧ v.n ≤ 8) = b0 := ⟨_, rfl⟩
 have hq0 := hh b0 hb0.symm
 cases b0
 all_goals simp only [decide_eq_true_eq, decide_eq_false_iff_not] at hb0
 all_goals (repeat' (first | refine zV ?_ | (refine YL ?_; refine ZB rfl rfl (fun hb => ?_) (fun hb => ?_) <;> (try simp only [decide_eq_true_eq, decide_eq_false_iff_not, Bool.not_eq_true, Bool.not_eq_false, beq_iff_eq, bne_iff_ne, ne_eq, decide_eq_decide, Bool.not_eq_eq_eq_not, Bool.not_true, Bool.not_false, beq_eq_false_iff_ne, bne_eq_false_iff_eq, Bool.and_eq_true, Bool.or_eq_true, Bool.and_eq_false_imp, Bool.or_eq_false_iff, bq2, bqt, bqf] at hb)) | (refine ZS ?_; refine ZM rfl (fun hb => ?_) (fun hb => ?_) <;> (try simp only [decide_eq_true_eq, decide_eq_false_iff_not, Bool.not_eq_true, Bool.not_eq_false, beq_iff_eq, bne_iff_ne, ne_eq, decide_eq_decide, Bool.not_eq_eq_eq_not, Bool.not_true, Bool.not_false, beq_eq_false_iff_ne, bne_eq_false_iff_eq, Bool.and_eq_true, Bool.or_eq_true, Bool.and_eq_false_imp, Bool.or_eq_false_iff, bq2, bqt, bqf] at hb)) | intro _))
 all_goals (
  refine Zq [(1, _), (2, _), (22, _), (23, _)] (fun (ζ : (Nat) × (Int) × (Bool)) => [(24, .int .i64 ζ.1), (4, .int .i64 ζ.2.1), (3, .bool ζ.2.2)]) (fun (ζ : (Nat) × (Int) × (Bool)) => ρ) (fun (ζ : (Nat) × (Int) × (Bool)) => [[(_, .cells ⟨XI v r⟩ 26 (0, 0))]]) (fun (ζ : (Nat) × (Int) × (Bool)) => ζ.1 ≤ v.n ∧ (ζ.2.2 && txsB r.next ζ.2.1 (r.txns.drop ζ.1)) = q) (fun (ζ : (Nat) × (Int) × (Bool)) => v.n - ζ.1) ((0, 0, _)) (⟨Nat.zero_le _, hq0⟩) Ze Ze rfl tk ?_
  rintro ⟨k, last, b⟩ hI
  try simp only [List.cons_append, List.nil_append, List.append_assoc, List.append_eq] at hI ⊢
  try dsimp only at hI ⊢
  obtain ⟨hk, hok⟩ := hI
  by_cases hlt : k < v.n
  ·obtain ⟨bb, off, C, T, fr, e1, hb, hfit, hc⟩ := hA.get (show k < r.txns.length by omega)
   have hmem := List.getElem_mem (show k < r.txns.length by omega)
   rw [List.drop_eq_getElem_cons (show k < r.txns.length by omega), txsB, txOk] at hok
   generalize r.txns[k]'(by omega) = x at *
   have hs := stack_spec ρ x (h.tx x hmem)
   have hm := marks_spec ρ x (h.tx x hmem)
   generalize Wp x.undo x.first x.stack = q1 at *
   generalize WH x = q2 at *
   have hfin : ∀ b' : Bool, b' = (b && (txHead r.next last x && (q1 && q2))) → (b' && txsB r.next x.num (r.txns.drop (k + 1))) = q := fun b' e => by rw [e, Bool.and_assoc]; exact hok
   unfold txHead at hfin
   rw [e1]
   cases b
   ·repeat' (first | refine zV ?_ | intro _)
    rw [← e1]
    refine Zg (k + 1, x.num, false) (⟨hlt, hfin false rfl⟩) Ze Ze rfl tk inferInstance (by first | omega | (dsimp only; omega))
   ·repeat' (first | (refine Zc (.func 104) ?_; refine qC rfl rfl (hs) ?_; rintro v ρ' L' hle ⟨rfl, rfl, rfl⟩ <;> (try simp only [kM, kN, kO])) | (refine Zc (.func 105) ?_; refine qC rfl rfl (hm) ?_; rintro v ρ' L' hle ⟨rfl, rfl, rfl⟩ <;> (try simp only [kM, kN, kO])) | refine zV ?_ | (refine YL ?_; refine ZB rfl rfl (fun hb => ?_) (fun hb => ?_) <;> (try simp only [decide_eq_true_eq, decide_eq_false_iff_not, Bool.not_eq_true, Bool.not_eq_false, beq_iff_eq, bne_iff_ne, ne_eq, decide_eq_decide, Bool.not_eq_eq_eq_not, Bool.not_true, Bool.not_false, beq_eq_false_iff_ne, bne_eq_false_iff_eq, Bool.and_eq_true, Bool.or_eq_true, Bool.and_eq_false_imp, Bool.or_eq_false_iff, bq2, bqt, bqf] at hb)) | (refine ZS ?_; refine ZM rfl (fun hb => ?_) (fun hb => ?_) <;> (try simp only [decide_eq_true_eq, decide_eq_false_iff_not, Bool.not_eq_true, Bool.not_eq_false, beq_iff_eq, bne_iff_ne, ne_eq, decide_eq_decide, Bool.not_eq_eq_eq_not, Bool.not_true, Bool.not_false, beq_eq_false_iff_ne, bne_eq_false_iff_eq, Bool.and_eq_true, Bool.or_eq_true, Bool.and_eq_false_imp, Bool.or_eq_false_iff, bq2, bqt, bqf] at hb)) | intro _)
    all_goals (try rw [← e1])
    all_goals refine Zg (k + 1, x.num, _) (?_) Ze Ze rfl tk inferInstance (by first | omega | (dsimp only; omega))
    all_goals exact ⟨hlt, hfin _ (by cases q1 <;> cases q2 <;> ((try simp only [Bool.true_and, Bool.and_true, Bool.and_false, Bool.false_and, Bool.or_true, Bool.true_or, Bool.or_false, Bool.false_or, Bool.not_true, Bool.not_false]) <;> first | rfl | contradiction | exact (decide_eq_true (by omega)).symm | exact (decide_eq_false (by omega)).symm | exact decide_eq_true (by omega) | exact decide_eq_false (by omega) | exact decide_eq_decide.2 (by omega) | (exfalso; omega) | (simp_all; done) | (simp_all; omega)))⟩
  ·have hk2 : k = r.txns.length := by omega
   rw [hk2, List.drop_length, txsB, Bool.and_true] at hok
   subst hok
   repeat' (first | refine zV ?_ | (refine YL ?_; refine ZB rfl rfl (fun hb => ?_) (fun hb => ?_) <;> (try simp only [decide_eq_true_eq, decide_eq_false_iff_not, Bool.not_eq_true, Bool.not_eq_false, beq_iff_eq, bne_iff_ne, ne_eq, decide_eq_decide, Bool.not_eq_eq_eq_not, Bool.not_true, Bool.not_false, beq_eq_false_iff_ne, bne_eq_false_iff_eq, Bool.and_eq_true, Bool.or_eq_true, Bool.and_eq_false_imp, Bool.or_eq_false_iff, bq2, bqt, bqf] at hb)) | (refine ZS ?_; refine ZM rfl (fun hb => ?_) (fun hb => ?_) <;> (try simp only [decide_eq_true_eq, decide_eq_false_iff_not, Bool.not_eq_true, Bool.not_eq_false, beq_iff_eq, bne_iff_ne, ne_eq, decide_eq_decide, Bool.not_eq_eq_eq_not, Bool.not_true, Bool.not_false, beq_eq_false_iff_ne, bne_eq_false_iff_eq, Bool.and_eq_true, Bool.or_eq_true, Bool.and_eq_false_imp, Bool.or_eq_false_iff, bq2, bqt, bqf] at hb)) | intro _)
   all_goals (refine qF (L' := []) ?_; exact ⟨by simp [*], rfl, rfl⟩))
end Go.Proofs.E
