/- Laws of analysis. Part 9 of 41. -/
import Derived.Test.YtkbiahafeoillaaGreatA8
namespace Go.Proofs.E
open Go
set_option linter.unusedVariables false
set_option linter.unusedSimpArgs false
set_option linter.unusedSectionVars false
set_option maxRecDepth 4000
set_option maxHeartbeats 1000000
attribute [local irreducible] Yl TL TC TE Spec Xb R1 Hp.le EnvLe TS TR YS Zk
theorem rpage12_spec (ρ : Hp) (n : Int) : Spec Tryz.prog 123 [.int .i64 n] ρ [] (fun v ρ' L' => v = .bool (Wv n) ∧ ρ' = ρ ∧ L' = []) := by
 refine Zd Tryz.func123 rfl rfl rfl fun u R => ?_
 simp only [Zo, List.cons_append, List.nil_append]
 repeat' (first | refine zV ?_ | (refine YL ?_; refine ZB rfl rfl (fun hb => ?_) (fun hb => ?_) <;> (try simp only [decide_eq_true_eq, decide_eq_false_iff_not, Bool.not_eq_true, Bool.not_eq_false, beq_iff_eq, bne_iff_ne, ne_eq, decide_eq_decide, Bool.not_eq_eq_eq_not, Bool.not_true, Bool.not_false, beq_eq_false_iff_ne, bne_eq_false_iff_eq, Bool.and_eq_true, Bool.or_eq_true, Bool.and_eq_false_imp, Bool.or_eq_false_iff, bq2, bqt, bqf] at hb)) | (refine ZS ?_; refine ZM rfl (fun hb => ?_) (fun hb => ?_) <;> (try simp only [decide_eq_true_eq, decide_eq_false_iff_not, Bool.not_eq_true, Bool.not_eq_false, beq_iff_eq, bne_iff_ne, ne_eq, decide_eq_decide, Bool.not_eq_eq_eq_not, Bool.not_true, Bool.not_false, beq_eq_false_iff_ne, bne_eq_false_iff_eq, Bool.and_eq_true, Bool.or_eq_true, Bool.and_eq_false_imp, Bool.or_eq_false_iff, bq2, bqt, bqf] at hb)) | intro _)
 all_goals (refine qF (L' := []) ?_; exact ⟨Ym (by simp [Wv]; (try omega)), rfl, rfl⟩)
theorem step12_spec (ρ : Hp) (s : Stp) (hf : RowFit s.row) : Spec Tryz.prog 125 [.agg ⟨stpV s⟩] ρ [] (fun v ρ' L' => v = .bool (YM s) ∧ ρ' = ρ ∧ L' = []) := by
 obtain ⟨kind, row, bb⟩ := s
 have hck := Wr ρ row
 have ho := rowV_only row
 unfold YM onlyOk
 dsimp only
 generalize hP : decide (row.val = 0 ∧ row.note = []) = P at *
 generalize hQ : Xr row = Q at *
 refine Zd Tryz.func125 rfl rfl rfl fun u R => ?_
 simp only [Zo, List.cons_append, List.nil_append]
 cases P <;> cases Q
 all_goals (repeat' (first | (refine iBu ?_; refine tl_y (v := .agg ⟨rowV ⟨row.t, row.id, 0, []⟩⟩) (Wl rfl rfl) rfl rfl ?_) | (refine iCm ?_; refine tl_y (y_eqc_l rfl rfl ho) rfl rfl ?_) | (refine Zc (.func 164) ?_; refine qC rfl rfl (hck) ?_; rintro v ρ' L' hle ⟨rfl, rfl, rfl⟩ <;> (try simp only [kM, kN, kO])) | refine zV ?_ | (refine YL ?_; refine ZB rfl rfl (fun hb => ?_) (fun hb => ?_) <;> (try simp only [decide_eq_true_eq, decide_eq_false_iff_not, Bool.not_eq_true, Bool.not_eq_false, beq_iff_eq, bne_iff_ne, ne_eq, decide_eq_decide, Bool.not_eq_eq_eq_not, Bool.not_true, Bool.not_false, beq_eq_false_iff_ne, bne_eq_false_iff_eq, Bool.and_eq_true, Bool.or_eq_true, Bool.and_eq_false_imp, Bool.or_eq_false_iff, bq2, bqt, bqf] at hb)) | (refine ZS ?_; refine ZM rfl (fun hb => ?_) (fun hb => ?_) <;> (try simp only [decide_eq_true_eq, decide_eq_false_iff_not, Bool.not_eq_true, Bool.not_eq_false, beq_iff_eq, bne_iff_ne, ne_eq, decide_eq_decide, Bool.not_eq_eq_eq_not, Bool.not_true, Bool.not_false, beq_eq_false_iff_ne, bne_eq_false_iff_eq, Bool.and_eq_true, Bool.or_eq_true, Bool.and_eq_false_imp, Bool.or_eq_false_iff, bq2, bqt, bqf] at hb)) | intro _))
 all_goals (refine qF (L' := []) ?_; exact ⟨Ym (by clear ho hck; (repeat' split) <;> simp_all <;> omega), rfl, rfl⟩)
theorem steps12_spec (ρ : Hp) (s : SV) (l : List Stp) (h : AS ρ 6 stpV s l) (hf : ∀ x ∈ l, RowFit x.row) : Spec Tryz.prog 69 [.slice s.a s.n s.c] ρ [] (fun v ρ' L' => v = .bool (decide (0 < l.length ∧ l.length ≤ 2) && l.all YM) ∧ ρ' = ρ ∧ L' = []) := by
 have hl := h.at'.len
 have hn := h.big
 have hA := h.at'
 rw [hl]
 generalize hq : l.all YM = q
 refine Zd Tryz.func69 rfl rfl rfl fun u R => ?_
 simp only [Zo, List.cons_append, List.nil_append]
 repeat' (first | refine zV ?_ | intro _)
 refine Zq [(0, _), (5, _), (6, _)] (fun (ζ : (Nat)) => [(7, .int .i64 ζ), (2, .bool false)]) (fun (ζ : (Nat)) => ρ) (fun (ζ : (Nat)) => []) (fun (ζ : (Nat)) => ζ ≤ s.n ∧ (l.drop ζ).all YM = q) (fun (ζ : (Nat)) => s.n - ζ) (0) (⟨Nat.zero_le _, hq⟩) Ze Ze rfl tk ?_
 rintro k hI
 try simp only [List.cons_append, List.nil_append, List.append_assoc, List.append_eq] at hI ⊢
 try dsimp only at hI ⊢
 obtain ⟨hk, hok⟩ := hI
 by_cases hlt : k < s.n
 ·obtain ⟨b, off, C, T, fr, e1, hb, hfit, hc⟩ := hA.get (show k < l.length by omega)
  have hmem := List.getElem_mem (show k < l.length by omega)
  rw [List.drop_eq_getElem_cons (show k < l.length by omega), List.all_cons] at hok
  generalize l[k]'(by omega) = x at *
  have hst := step12_spec ρ x (hf x hmem)
  rw [e1]
  cases hx : YM x
  ·rw [hx, Bool.false_and] at hok
   rw [hx] at hst
   subst hok
   rw [Bool.and_false]
   repeat' (first | (refine Zc (.func 125) ?_; refine qC rfl rfl (hst) ?_; rintro v ρ' L' hle ⟨rfl, rfl, rfl⟩ <;> (try simp only [kM, kN, kO])) | refine zV ?_ | intro _)
   exact qE (L' := []) ⟨rfl, rfl, rfl⟩
  ·rw [hx, Bool.true_and] at hok
   rw [hx] at hst
   repeat' (first | (refine Zc (.func 125) ?_; refine qC rfl rfl (hst) ?_; rintro v ρ' L' hle ⟨rfl, rfl, rfl⟩ <;> (try simp only [kM, kN, kO])) | refine zV ?_ | intro _)
   rw [← e1]
   refine Zg (k + 1) (⟨hlt, hok⟩) Ze Ze rfl tk inferInstance (by first | omega | (dsimp only; omega))
 ·have hk2 : k = l.length := by omega
  rw [hk2, List.drop_length, List.all_nil] at hok
  subst hok
  rw [Bool.and_true]
  repeat' (first | refine zV ?_ | (refine YL ?_; refine ZB rfl rfl (fun hb => ?_) (fun hb => ?_) <;> (try simp only [decide_eq_true_eq, decide_eq_false_iff_not, Bool.not_eq_true, Bool.not_eq_false, beq_iff_eq, bne_iff_ne, ne_eq, decide_eq_decide, Bool.not_eq_eq_eq_not, Bool.not_true, Bool.not_false, beq_eq_false_iff_ne, bne_eq_false_iff_eq, Bool.and_eq_true, Bool.or_eq_true, Bool.and_eq_false_imp, Bool.or_eq_false_iff, bq2, bqt, bqf] at hb)) | (refine ZS ?_; refine ZM rfl (fun hb => ?_) (fun hb => ?_) <;> (try simp only [decide_eq_true_eq, decide_eq_false_iff_not, Bool.not_eq_true, Bool.not_eq_false, beq_iff_eq, bne_iff_ne, ne_eq, decide_eq_decide, Bool.not_eq_eq_eq_not, Bool.not_true, Bool.not_false, beq_eq_false_iff_ne, bne_eq_false_iff_eq, Bool.and_eq_true, Bool.or_eq_true, Bool.and_eq_false_imp, Bool.or_eq_false_iff, bq2, bqt, bqf] at hb)) | intro _)
  all_goals (refine qF (L' := []) ?_; exact ⟨Ym (by (try simp [*]); first | done | omega | (intros; omega) | (constructor <;> intros <;> (try simp_all) <;> omega)), rfl, rfl⟩)
end Go.Proofs.E
