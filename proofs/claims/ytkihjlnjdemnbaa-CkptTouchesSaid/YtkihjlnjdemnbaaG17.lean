/- Tables of layer 22, records of layer 12 and rosters of layer 18 as data, and what their functions come to. Part 17 of 20. -/
import Derived.Test.YtkihjlnjdemnbaaG16
namespace Go.Proofs.E
open Go
set_option linter.unusedVariables false
set_option linter.unusedSimpArgs false
set_option linter.unusedSectionVars false
set_option maxRecDepth 4000
set_option maxHeartbeats 1000000
attribute [local irreducible] Yl TL TC TE Spec YSpec R1 Hp.le EnvLe TS TR YS Stays
theorem right_spec (ρ : Hp) (v : CV) (c : Cont) (h : CIn ρ v c.rows c.kids) (hir : ∀ r ∈ c.rows, r.id < 65536) (hik : ∀ k ∈ c.kids, k.id < 65536) : Spec Try.prog 80 [.agg ⟨contV c.kind v⟩] ρ [] (fun r ρ' L' => r = .bool (contOk c) ∧ ρ' = ρ ∧ L' = []) := by
  obtain ⟨kind, rows, kids⟩ := c
  obtain ⟨ra, rn, rc, ka, kn, kc⟩ := v
  obtain ⟨hr, hk, hrb, hkb, hrc, hkc⟩ := h
  dsimp only at hr hk hrb hkb hrc hkc hir hik
  have hrl := hr.len
  have hkl := hk.len
  have hrs := rowsR_spec ρ ra rn rc rows hr hrb hir
  have hks := kidsR_spec ρ ka kn kc kids hk hkb hkc hik
  generalize hq : contOk ⟨kind, rows, kids⟩ = q
  unfold contOk at hq
  simp only [hrl, hkl] at hq
  refine spec_enter Try.func80 rfl rfl rfl fun u R => ?_
  simp only [argsE, List.cons_append, List.nil_append]
  by_cases k0 : kind = 0
  · rw [if_pos k0] at hq
    by_cases hz : rn = 0
    · by_cases hz2 : kn = 0
      · rw [decide_eq_true (show rn + kn = 0 by omega)] at hq
        subst hq
        repeat' (first | (refine i_op ?_; first | (refine i_qq ?_; refine qQ ?_) | refine qEf ?_) | refine tl_nil ?_ | (refine i_tc ?_; refine qTc ?_) | (refine i_te ?_; refine qTe ?_) | intro _)
        exact qE ⟨rfl, rfl, rfl⟩
      · rw [decide_eq_false (show ¬ rn + kn = 0 by omega)] at hq
        subst hq
        repeat' (first | (refine i_op ?_; first | (refine i_qq ?_; refine qQ ?_) | refine qEf ?_) | refine tl_nil ?_ | (refine i_tc ?_; refine qTc ?_) | (refine i_te ?_; refine qTe ?_) | intro _)
        exact qE ⟨rfl, rfl, rfl⟩
    · rw [decide_eq_false (show ¬ rn + kn = 0 by omega)] at hq
      subst hq
      repeat' (first | (refine i_op ?_; first | (refine i_qq ?_; refine qQ ?_) | refine qEf ?_) | refine tl_nil ?_ | (refine i_tc ?_; refine qTc ?_) | (refine i_te ?_; refine qTe ?_) | intro _)
      exact qE ⟨rfl, rfl, rfl⟩
  · rw [if_neg k0] at hq
    by_cases k1 : kind = 1
    · rw [if_pos k1] at hq
      by_cases hz : kn = 0
      · rw [decide_eq_true hz, Bool.true_and] at hq
        rw [hq] at hrs
        repeat' (first | (refine tl_is (.func 102) ?_; refine qC rfl rfl (hrs) ?_; rintro v ρ' L' hle ⟨rfl, rfl, rfl⟩ <;> (try simp only [List.cons_append, List.nil_append, List.append_eq])) | (refine i_op ?_; first | (refine i_qq ?_; refine qQ ?_) | refine qEf ?_) | refine tl_nil ?_ | (refine i_tc ?_; refine qTc ?_) | (refine i_te ?_; refine qTe ?_) | intro _)
        exact qE ⟨rfl, rfl, rfl⟩
      · rw [decide_eq_false hz, Bool.false_and] at hq
        subst hq
        repeat' (first | (refine i_op ?_; first | (refine i_qq ?_; refine qQ ?_) | refine qEf ?_) | refine tl_nil ?_ | (refine i_tc ?_; refine qTc ?_) | (refine i_te ?_; refine qTe ?_) | intro _)
        exact qE ⟨rfl, rfl, rfl⟩
    · rw [if_neg k1] at hq
      by_cases k2 : kind = 2
      · rw [if_pos k2] at hq
        by_cases hz : rn = 0
        · rw [decide_eq_true hz, Bool.true_and] at hq
          rw [hq] at hks
          repeat' (first | (refine tl_is (.func 103) ?_; refine qC rfl rfl (hks) ?_; rintro v ρ' L' hle ⟨rfl, rfl, rfl⟩ <;> (try simp only [List.cons_append, List.nil_append, List.append_eq])) | (refine i_op ?_; first | (refine i_qq ?_; refine qQ ?_) | refine qEf ?_) | refine tl_nil ?_ | (refine i_tc ?_; refine qTc ?_) | (refine i_te ?_; refine qTe ?_) | intro _)
          exact qE ⟨rfl, rfl, rfl⟩
        · rw [decide_eq_false hz, Bool.false_and] at hq
          subst hq
          repeat' (first | (refine i_op ?_; first | (refine i_qq ?_; refine qQ ?_) | refine qEf ?_) | refine tl_nil ?_ | (refine i_tc ?_; refine qTc ?_) | (refine i_te ?_; refine qTe ?_) | intro _)
          exact qE ⟨rfl, rfl, rfl⟩
      · rw [if_neg k2] at hq
        subst hq
        repeat' (first | (refine i_op ?_; first | (refine i_qq ?_; refine qQ ?_) | refine qEf ?_) | refine tl_nil ?_ | (refine i_tc ?_; refine qTc ?_) | (refine i_te ?_; refine qTe ?_) | intro _)
        exact qE ⟨rfl, rfl, rfl⟩
theorem shr_byte (V m : Nat) : Value.int .u8 (IntKind.u8.wrap ((V : Int) / 2 ^ (8 * m))) = u8c (UInt8.ofNat (V / 256 ^ m)) := by
  have h2 : (2 ^ (8 * m) : Nat) = 256 ^ m := by rw [Nat.pow_mul]
  have h3 : ((2 : Int) ^ (8 * m)) = ((2 ^ (8 * m) : Nat) : Int) := by rw [Int.natCast_pow]; rfl
  rw [h3, h2, ← Int.natCast_ediv, u8_wrap]
theorem be8_take_succ (V j : Nat) (hj : j < 8) : (be 8 V).take (j + 1) = (be 8 V).take j ++ [UInt8.ofNat (V / 256 ^ (7 - j))] := by
  rw [List.take_succ_eq_append_getElem (by rw [be_length]; exact hj)]
  congr 2
  rcases (show j = 0 ∨ j = 1 ∨ j = 2 ∨ j = 3 ∨ j = 4 ∨ j = 5 ∨ j = 6 ∨ j = 7 by omega) with rfl | rfl | rfl | rfl | rfl | rfl | rfl | rfl <;> rfl
end Go.Proofs.E

namespace Go.Proofs.E
open Go
set_option linter.unusedVariables false
set_option linter.unusedSimpArgs false
set_option linter.unusedSectionVars false
set_option maxRecDepth 4000
set_option maxHeartbeats 1000000
attribute [local irreducible] Yl TL TC TE Spec YSpec R1 Hp.le EnvLe TS TR YS Stays
-- BN
/-! ## the document's records: which may be -/
theorem rpage12_spec (ρ : Hp) (n : Int) : Spec Try.prog 79 [.int .i64 n] ρ [] (fun v ρ' L' => v = .bool (pageOk n) ∧ ρ' = ρ ∧ L' = []) := by
  refine spec_enter Try.func79 rfl rfl rfl fun u R => ?_
  simp only [argsE, List.cons_append, List.nil_append]
  repeat' (first | (refine iBu ?_; refine tl_y (y_buildN rfl) rfl rfl ?_) | (refine i_op ?_; first | (refine i_qq ?_; refine qQ ?_) | refine qEf ?_) | refine tl_nil ?_ | (refine i_tc ?_; refine qTc ?_) | (refine i_te ?_; refine qTe ?_) | (refine i_gd ?_; refine tl_guard rfl rfl (fun hb => ?_) (fun hb => ?_) <;> (try simp only [decide_eq_true_eq, decide_eq_false_iff_not, Bool.not_eq_true, Bool.not_eq_false, beq_iff_eq, bne_iff_ne, ne_eq, decide_eq_decide, Bool.not_eq_eq_eq_not, Bool.not_true, Bool.not_false, beq_eq_false_iff_ne, bne_eq_false_iff_eq, Bool.and_eq_true, Bool.or_eq_true, Bool.and_eq_false_imp, Bool.or_eq_false_iff, bq2, bqt, bqf] at hb)) | (refine i_cond ?_; refine tc_cond rfl (fun hb => ?_) (fun hb => ?_) <;> (try simp only [decide_eq_true_eq, decide_eq_false_iff_not, Bool.not_eq_true, Bool.not_eq_false, beq_iff_eq, bne_iff_ne, ne_eq, decide_eq_decide, Bool.not_eq_eq_eq_not, Bool.not_true, Bool.not_false, beq_eq_false_iff_ne, bne_eq_false_iff_eq, Bool.and_eq_true, Bool.or_eq_true, Bool.and_eq_false_imp, Bool.or_eq_false_iff, bq2, bqt, bqf] at hb)) | intro _)
  all_goals (refine qF (L' := []) ?_; exact ⟨bool_eq (by simp [pageOk]; (try omega)), rfl, rfl⟩)
theorem step12_spec (ρ : Hp) (s : Stp) (hf : RowFit s.row) : Spec Try.prog 81 [.agg ⟨stpV s⟩] ρ [] (fun v ρ' L' => v = .bool (stepOk s) ∧ ρ' = ρ ∧ L' = []) := by
  obtain ⟨kind, row, bb⟩ := s
  have hck := rightRow_spec ρ row
  have ho := rowV_only row
  unfold stepOk onlyOk
  dsimp only
  generalize hP : decide (row.val = 0 ∧ row.note = []) = P at *
  generalize hQ : rowOk row = Q at *
  refine spec_enter Try.func81 rfl rfl rfl fun u R => ?_
  simp only [argsE, List.cons_append, List.nil_append]
  cases P <;> cases Q
  all_goals (repeat' (first | (refine iBu ?_; refine tl_y (v := .agg ⟨rowV ⟨row.t, row.id, 0, []⟩⟩) (y_build rfl rfl) rfl rfl ?_) | (refine iCm ?_; refine tl_y (y_eqc_l rfl rfl ho) rfl rfl ?_) | (refine tl_is (.func 104) ?_; refine qC rfl rfl (hck) ?_; rintro v ρ' L' hle ⟨rfl, rfl, rfl⟩ <;> (try simp only [List.cons_append, List.nil_append, List.append_eq])) | (refine iBu ?_; refine tl_y (y_buildN rfl) rfl rfl ?_) | (refine i_op ?_; first | (refine i_qq ?_; refine qQ ?_) | refine qEf ?_) | refine tl_nil ?_ | (refine i_tc ?_; refine qTc ?_) | (refine i_te ?_; refine qTe ?_) | (refine i_gd ?_; refine tl_guard rfl rfl (fun hb => ?_) (fun hb => ?_) <;> (try simp only [decide_eq_true_eq, decide_eq_false_iff_not, Bool.not_eq_true, Bool.not_eq_false, beq_iff_eq, bne_iff_ne, ne_eq, decide_eq_decide, Bool.not_eq_eq_eq_not, Bool.not_true, Bool.not_false, beq_eq_false_iff_ne, bne_eq_false_iff_eq, Bool.and_eq_true, Bool.or_eq_true, Bool.and_eq_false_imp, Bool.or_eq_false_iff, bq2, bqt, bqf] at hb)) | (refine i_cond ?_; refine tc_cond rfl (fun hb => ?_) (fun hb => ?_) <;> (try simp only [decide_eq_true_eq, decide_eq_false_iff_not, Bool.not_eq_true, Bool.not_eq_false, beq_iff_eq, bne_iff_ne, ne_eq, decide_eq_decide, Bool.not_eq_eq_eq_not, Bool.not_true, Bool.not_false, beq_eq_false_iff_ne, bne_eq_false_iff_eq, Bool.and_eq_true, Bool.or_eq_true, Bool.and_eq_false_imp, Bool.or_eq_false_iff, bq2, bqt, bqf] at hb)) | intro _))
  all_goals (refine qF (L' := []) ?_; exact ⟨bool_eq (by clear ho hck; (repeat' split) <;> simp_all <;> omega), rfl, rfl⟩)
theorem steps12_spec (ρ : Hp) (s : SV) (l : List Stp) (h : AS ρ 6 stpV s l) (hf : ∀ x ∈ l, RowFit x.row) : Spec Try.prog 38 [.slice s.a s.n s.c] ρ [] (fun v ρ' L' => v = .bool (decide (0 < l.length ∧ l.length ≤ 2) && l.all stepOk) ∧ ρ' = ρ ∧ L' = []) := by
  have hl := h.at'.len
  have hn := h.big
  have hA := h.at'
  rw [hl]
  generalize hq : l.all stepOk = q
  refine spec_enter Try.func38 rfl rfl rfl fun u R => ?_
  simp only [argsE, List.cons_append, List.nil_append]
  repeat' (first | (refine iBu ?_; refine tl_y (y_buildN rfl) rfl rfl ?_) | (refine i_op ?_; first | (refine i_qq ?_; refine qQ ?_) | refine qEf ?_) | refine tl_nil ?_ | (refine i_tc ?_; refine qTc ?_) | (refine i_te ?_; refine qTe ?_) | intro _)
  refine tc_loop_g [(0, _), (5, _), (6, _)] (fun (ζ : (Nat)) => [(7, .int .i64 ζ), (2, .bool false)]) (fun (ζ : (Nat)) => ρ) (fun (ζ : (Nat)) => []) (fun (ζ : (Nat)) => ζ ≤ s.n ∧ (l.drop ζ).all stepOk = q) (fun (ζ : (Nat)) => s.n - ζ) (0) (⟨Nat.zero_le _, hq⟩) ev_le ev_le rfl tk ?_
  rintro k hI
  try simp only [List.cons_append, List.nil_append, List.append_assoc, List.append_eq] at hI ⊢
  try dsimp only at hI ⊢
  obtain ⟨hk, hok⟩ := hI
  by_cases hlt : k < s.n
  · obtain ⟨b, off, C, T, fr, e1, hb, hfit, hc⟩ := hA.get (show k < l.length by omega)
    have hmem := List.getElem_mem (show k < l.length by omega)
    rw [List.drop_eq_getElem_cons (show k < l.length by omega), List.all_cons] at hok
    generalize l[k]'(by omega) = x at *
    have hst := step12_spec ρ x (hf x hmem)
    rw [e1]
    cases hx : stepOk x
    · rw [hx, Bool.false_and] at hok
      rw [hx] at hst
      subst hok
      rw [Bool.and_false]
      repeat' (first | (refine tl_is (.func 81) ?_; refine qC rfl rfl (hst) ?_; rintro v ρ' L' hle ⟨rfl, rfl, rfl⟩ <;> (try simp only [List.cons_append, List.nil_append, List.append_eq])) | (refine iBu ?_; refine tl_y (y_buildN rfl) rfl rfl ?_) | (refine i_op ?_; first | (refine i_qq ?_; refine qQ ?_) | refine qEf ?_) | refine tl_nil ?_ | (refine i_tc ?_; refine qTc ?_) | (refine i_te ?_; refine qTe ?_) | intro _)
      exact qE (L' := []) ⟨rfl, rfl, rfl⟩
    · rw [hx, Bool.true_and] at hok
      rw [hx] at hst
      repeat' (first | (refine tl_is (.func 81) ?_; refine qC rfl rfl (hst) ?_; rintro v ρ' L' hle ⟨rfl, rfl, rfl⟩ <;> (try simp only [List.cons_append, List.nil_append, List.append_eq])) | (refine iBu ?_; refine tl_y (y_buildN rfl) rfl rfl ?_) | (refine i_op ?_; first | (refine i_qq ?_; refine qQ ?_) | refine qEf ?_) | refine tl_nil ?_ | (refine i_tc ?_; refine qTc ?_) | (refine i_te ?_; refine qTe ?_) | intro _)
      rw [← e1]
      refine te_round_g (k + 1) (⟨hlt, hok⟩) ev_le ev_le rfl tk inferInstance (by first | omega | (dsimp only; omega))
  · have hk2 : k = l.length := by omega
    rw [hk2, List.drop_length, List.all_nil] at hok
    subst hok
    rw [Bool.and_true]
    repeat' (first | (refine iBu ?_; refine tl_y (y_buildN rfl) rfl rfl ?_) | (refine i_op ?_; first | (refine i_qq ?_; refine qQ ?_) | refine qEf ?_) | refine tl_nil ?_ | (refine i_tc ?_; refine qTc ?_) | (refine i_te ?_; refine qTe ?_) | (refine i_gd ?_; refine tl_guard rfl rfl (fun hb => ?_) (fun hb => ?_) <;> (try simp only [decide_eq_true_eq, decide_eq_false_iff_not, Bool.not_eq_true, Bool.not_eq_false, beq_iff_eq, bne_iff_ne, ne_eq, decide_eq_decide, Bool.not_eq_eq_eq_not, Bool.not_true, Bool.not_false, beq_eq_false_iff_ne, bne_eq_false_iff_eq, Bool.and_eq_true, Bool.or_eq_true, Bool.and_eq_false_imp, Bool.or_eq_false_iff, bq2, bqt, bqf] at hb)) | (refine i_cond ?_; refine tc_cond rfl (fun hb => ?_) (fun hb => ?_) <;> (try simp only [decide_eq_true_eq, decide_eq_false_iff_not, Bool.not_eq_true, Bool.not_eq_false, beq_iff_eq, bne_iff_ne, ne_eq, decide_eq_decide, Bool.not_eq_eq_eq_not, Bool.not_true, Bool.not_false, beq_eq_false_iff_ne, bne_eq_false_iff_eq, Bool.and_eq_true, Bool.or_eq_true, Bool.and_eq_false_imp, Bool.or_eq_false_iff, bq2, bqt, bqf] at hb)) | intro _)
    all_goals (refine qF (L' := []) ?_; exact ⟨bool_eq (by (try simp [*]); first | done | omega | (intros; omega) | (constructor <;> intros <;> (try simp_all) <;> omega)), rfl, rfl⟩)
end Go.Proofs.E

