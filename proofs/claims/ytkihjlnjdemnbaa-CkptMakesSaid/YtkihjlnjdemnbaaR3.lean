/- The law CkptMakes. Part 3 of 4. -/
import Derived.Test.YtkihjlnjdemnbaaR2
namespace Go.Proofs.E
open Go
set_option linter.unusedVariables false
set_option linter.unusedSimpArgs false
set_option linter.unusedSectionVars false
set_option maxRecDepth 4000
set_option maxHeartbeats 1000000
attribute [local irreducible] Yl TL TC TE Spec YSpec R1 Hp.le EnvLe TS TR YS Stays
-- BN
theorem txOk_18 {next last : Int} {x : Tx} : txOk next last x = (decide (last < x.num ∧ x.num < next) && tx18B x) := by
  unfold txOk txHead tx18B
  rw [Bool.eq_iff_iff]
  simp only [Bool.and_eq_true, decide_eq_true_eq]
  constructor
  · rintro ⟨⟨h1, h2, h3⟩, h4⟩; exact ⟨⟨h1, h2⟩, h3, h4⟩
  · rintro ⟨⟨h1, h2⟩, h3, h4⟩; exact ⟨⟨h1, h2, h3⟩, h4⟩
theorem right18_spec (ρ : Hp) (v : SV) (r : Ros) (h : RosIn ρ v r) : Spec Try.prog 48 [.agg ⟨rosV v r⟩] ρ [] (fun z ρ' L' => z = .bool (rosOk r) ∧ ρ' = ρ ∧ L' = []) := by
  have hl := h.at'.at'.len
  have hn := h.at'.big
  have hA := h.at'.at'
  unfold rosOk
  rw [hl]
  refine spec_enter Try.func48 rfl rfl rfl fun u R => ?_
  simp only [argsE, List.cons_append, List.nil_append]
  by_cases hH : 1 ≤ r.next ∧ r.next ≤ 1073741824 ∧ v.n ≤ 8
  · rw [decide_eq_true hH, Bool.true_and]
    generalize hq : txsB r.next 0 r.txns = q
    repeat' (first | (refine iBu ?_; refine tl_y (y_buildN rfl) rfl rfl ?_) | (refine i_op ?_; first | (refine i_qq ?_; refine qQ ?_) | refine qEf ?_) | refine tl_nil ?_ | (refine i_tc ?_; refine qTc ?_) | (refine i_te ?_; refine qTe ?_) | intro _)
    rename_i bx
    refine tc_loop_g [(1, _), (20, _), (21, _)] (fun (ζ : (Nat) × (Int)) => [(22, .int .i64 ζ.1), (2, .bool false)]) (fun (ζ : (Nat) × (Int)) => ρ) (fun (ζ : (Nat) × (Int)) => [[(bx, .cells ⟨rosV v r⟩ 47 (0, 0))]]) (fun (ζ : (Nat) × (Int)) => ζ.1 ≤ v.n ∧ txsB r.next ζ.2 (r.txns.drop ζ.1) = q ∧ 0 ≤ ζ.2 ∧ (ζ.1 = 0 → ζ.2 = 0) ∧ (∀ y, 0 < ζ.1 → r.txns[ζ.1 - 1]? = some y → y.num = ζ.2)) (fun (ζ : (Nat) × (Int)) => v.n - ζ.1) ((0, 0)) (⟨Nat.zero_le _, hq, Int.le_refl _, fun _ => rfl, fun _ h => absurd h (Nat.lt_irrefl _)⟩) ev_le ev_le rfl tk ?_
    rintro ⟨k, last⟩ hI
    try simp only [List.cons_append, List.nil_append, List.append_assoc, List.append_eq] at hI ⊢
    try dsimp only at hI ⊢
    obtain ⟨hk, hok, hl0, hk0, hky⟩ := hI
    by_cases hlt : k < v.n
    · obtain ⟨b, off, C, T, fr, e1, hb, hfit, hc⟩ := hA.get (show k < r.txns.length by omega)
      have hmem := List.getElem_mem (show k < r.txns.length by omega)
      have hnext : ∀ y, 0 < k + 1 → r.txns[k + 1 - 1]? = some y → y.num = (r.txns[k]'(by omega)).num := fun y _ hy => by
        rw [Nat.add_sub_cancel, List.getElem?_eq_getElem (by omega)] at hy
        rw [Option.some.inj hy]
      rw [List.drop_eq_getElem_cons (show k < r.txns.length by omega), txsB, txOk_18] at hok
      generalize r.txns[k]'(by omega) = y at *
      have ht := txn18_spec ρ y (h.tx y hmem)
      generalize tx18B y = ty at *
      by_cases hz : k = 0
      · have hl00 := hk0 hz
        (try dsimp only [rosV]); rw [e1]
        by_cases hy : last < y.num ∧ y.num < r.next
        · rw [decide_eq_true hy, Bool.true_and] at hok
          cases ty
          · rw [Bool.false_and] at hok
            subst hok
            repeat' (first | (refine iBu ?_; refine tl_y (y_buildN rfl) rfl rfl ?_) | (refine i_op ?_; first | (refine i_qq ?_; refine qQ ?_) | refine qEf ?_) | refine tl_nil ?_ | (refine i_tc ?_; refine qTc ?_) | (refine i_te ?_; refine qTe ?_) | intro _)
            refine tc_any (Stays _ _ _) stays_refl ?_
            all_goals refine rFa 0 ?_
            all_goals refine rLd 1 ?_
            all_goals refine rCm 2 ?_
            all_goals refine rMv 3 ?_
            all_goals (first | refine wSkip 4 ?_ | refine wSkipU 4 ?_ | refine wFa 4 ?_ | (refine tr_guard (t := 30) rfl (fun hb => ?_) (fun hb => ?_) <;> (try simp only [decide_eq_true_eq, decide_eq_false_iff_not, Bool.not_eq_true, Bool.not_eq_false, beq_iff_eq, bne_iff_ne, ne_eq, Bool.not_eq_eq_eq_not, Bool.not_true, Bool.not_false, beq_eq_false_iff_ne, bne_eq_false_iff_eq] at hb) <;> first | refine wSkip 4 ?_ | refine wSkipU 4 ?_ | refine wFa 4 ?_))
            all_goals (first | refine wSkip 5 ?_ | refine wSkipU 5 ?_ | refine wLd 5 ?_ | (refine tr_guard (t := 30) rfl (fun hb => ?_) (fun hb => ?_) <;> (try simp only [decide_eq_true_eq, decide_eq_false_iff_not, Bool.not_eq_true, Bool.not_eq_false, beq_iff_eq, bne_iff_ne, ne_eq, Bool.not_eq_eq_eq_not, Bool.not_true, Bool.not_false, beq_eq_false_iff_ne, bne_eq_false_iff_eq] at hb) <;> first | refine wSkip 5 ?_ | refine wSkipU 5 ?_ | refine wLd 5 ?_))
            all_goals (first | refine wSkip 6 ?_ | refine wSkipU 6 ?_ | refine wFa 6 ?_ | (refine tr_guard (t := 30) rfl (fun hb => ?_) (fun hb => ?_) <;> (try simp only [decide_eq_true_eq, decide_eq_false_iff_not, Bool.not_eq_true, Bool.not_eq_false, beq_iff_eq, bne_iff_ne, ne_eq, Bool.not_eq_eq_eq_not, Bool.not_true, Bool.not_false, beq_eq_false_iff_ne, bne_eq_false_iff_eq] at hb) <;> first | refine wSkip 6 ?_ | refine wSkipU 6 ?_ | refine wFa 6 ?_))
            all_goals (first | refine wSkip 7 ?_ | refine wSkipU 7 ?_ | refine wLd 7 ?_ | (refine tr_guard (t := 30) rfl (fun hb => ?_) (fun hb => ?_) <;> (try simp only [decide_eq_true_eq, decide_eq_false_iff_not, Bool.not_eq_true, Bool.not_eq_false, beq_iff_eq, bne_iff_ne, ne_eq, Bool.not_eq_eq_eq_not, Bool.not_true, Bool.not_false, beq_eq_false_iff_ne, bne_eq_false_iff_eq] at hb) <;> first | refine wSkip 7 ?_ | refine wSkipU 7 ?_ | refine wLd 7 ?_))
            all_goals (first | refine wSkip 8 ?_ | refine wSkipU 8 ?_ | refine wCm 8 ?_ | (refine tr_guard (t := 30) rfl (fun hb => ?_) (fun hb => ?_) <;> (try simp only [decide_eq_true_eq, decide_eq_false_iff_not, Bool.not_eq_true, Bool.not_eq_false, beq_iff_eq, bne_iff_ne, ne_eq, Bool.not_eq_eq_eq_not, Bool.not_true, Bool.not_false, beq_eq_false_iff_ne, bne_eq_false_iff_eq] at hb) <;> first | refine wSkip 8 ?_ | refine wSkipU 8 ?_ | refine wCm 8 ?_))
            all_goals refine rPk 9 ?_
            all_goals refine rMv 10 ?_
            all_goals (first | refine wSkip 11 ?_ | refine wSkipU 11 ?_ | refine wMv 11 ?_ | (refine tr_guard (t := 37) rfl (fun hb => ?_) (fun hb => ?_) <;> (try simp only [decide_eq_true_eq, decide_eq_false_iff_not, Bool.not_eq_true, Bool.not_eq_false, beq_iff_eq, bne_iff_ne, ne_eq, Bool.not_eq_eq_eq_not, Bool.not_true, Bool.not_false, beq_eq_false_iff_ne, bne_eq_false_iff_eq] at hb) <;> first | refine wSkip 11 ?_ | refine wSkipU 11 ?_ | refine wMv 11 ?_))
            all_goals (first | refine wSkip 12 ?_ | refine wSkipU 12 ?_ | refine wCm 12 ?_ | (refine tr_guard (t := 37) rfl (fun hb => ?_) (fun hb => ?_) <;> (try simp only [decide_eq_true_eq, decide_eq_false_iff_not, Bool.not_eq_true, Bool.not_eq_false, beq_iff_eq, bne_iff_ne, ne_eq, Bool.not_eq_eq_eq_not, Bool.not_true, Bool.not_false, beq_eq_false_iff_ne, bne_eq_false_iff_eq] at hb) <;> first | refine wSkip 12 ?_ | refine wSkipU 12 ?_ | refine wCm 12 ?_))
            all_goals (first | refine wSkip 13 ?_ | refine wSkipU 13 ?_ | refine wMv 13 ?_ | (refine tr_guard (t := 37) rfl (fun hb => ?_) (fun hb => ?_) <;> (try simp only [decide_eq_true_eq, decide_eq_false_iff_not, Bool.not_eq_true, Bool.not_eq_false, beq_iff_eq, bne_iff_ne, ne_eq, Bool.not_eq_eq_eq_not, Bool.not_true, Bool.not_false, beq_eq_false_iff_ne, bne_eq_false_iff_eq] at hb) <;> first | refine wSkip 13 ?_ | refine wSkipU 13 ?_ | refine wMv 13 ?_))
            all_goals (first | refine wSkip 14 ?_ | refine wSkipU 14 ?_ | refine wFa 14 ?_ | (refine tr_guard (t := 40) rfl (fun hb => ?_) (fun hb => ?_) <;> (try simp only [decide_eq_true_eq, decide_eq_false_iff_not, Bool.not_eq_true, Bool.not_eq_false, beq_iff_eq, bne_iff_ne, ne_eq, Bool.not_eq_eq_eq_not, Bool.not_true, Bool.not_false, beq_eq_false_iff_ne, bne_eq_false_iff_eq] at hb) <;> first | refine wSkip 14 ?_ | refine wSkipU 14 ?_ | refine wFa 14 ?_))
            all_goals (first | refine wSkip 15 ?_ | refine wSkipU 15 ?_ | refine wLd 15 ?_ | (refine tr_guard (t := 40) rfl (fun hb => ?_) (fun hb => ?_) <;> (try simp only [decide_eq_true_eq, decide_eq_false_iff_not, Bool.not_eq_true, Bool.not_eq_false, beq_iff_eq, bne_iff_ne, ne_eq, Bool.not_eq_eq_eq_not, Bool.not_true, Bool.not_false, beq_eq_false_iff_ne, bne_eq_false_iff_eq] at hb) <;> first | refine wSkip 15 ?_ | refine wSkipU 15 ?_ | refine wLd 15 ?_))
            all_goals (first | refine wSkip 16 ?_ | refine wSkipU 16 ?_ | refine wMv 16 ?_ | (refine tr_guard (t := 40) rfl (fun hb => ?_) (fun hb => ?_) <;> (try simp only [decide_eq_true_eq, decide_eq_false_iff_not, Bool.not_eq_true, Bool.not_eq_false, beq_iff_eq, bne_iff_ne, ne_eq, Bool.not_eq_eq_eq_not, Bool.not_true, Bool.not_false, beq_eq_false_iff_ne, bne_eq_false_iff_eq] at hb) <;> first | refine wSkip 16 ?_ | refine wSkipU 16 ?_ | refine wMv 16 ?_))
            all_goals (first | refine wSkip 17 ?_ | refine wSkipU 17 ?_ | refine wSb 17 ?_ | (refine tr_guard (t := 40) rfl (fun hb => ?_) (fun hb => ?_) <;> (try simp only [decide_eq_true_eq, decide_eq_false_iff_not, Bool.not_eq_true, Bool.not_eq_false, beq_iff_eq, bne_iff_ne, ne_eq, Bool.not_eq_eq_eq_not, Bool.not_true, Bool.not_false, beq_eq_false_iff_ne, bne_eq_false_iff_eq] at hb) <;> first | refine wSkip 17 ?_ | refine wSkipU 17 ?_ | refine wSb 17 ?_))
            all_goals (first | refine wSkip 18 ?_ | refine wSkipU 18 ?_ | refine wIa 18 ?_ | (refine tr_guard (t := 40) rfl (fun hb => ?_) (fun hb => ?_) <;> (try simp only [decide_eq_true_eq, decide_eq_false_iff_not, Bool.not_eq_true, Bool.not_eq_false, beq_iff_eq, bne_iff_ne, ne_eq, Bool.not_eq_eq_eq_not, Bool.not_true, Bool.not_false, beq_eq_false_iff_ne, bne_eq_false_iff_eq] at hb) <;> first | refine wSkip 18 ?_ | refine wSkipU 18 ?_ | refine wIa 18 ?_))
            all_goals (first | refine wSkip 19 ?_ | refine wSkipU 19 ?_ | refine wFa 19 ?_ | (refine tr_guard (t := 40) rfl (fun hb => ?_) (fun hb => ?_) <;> (try simp only [decide_eq_true_eq, decide_eq_false_iff_not, Bool.not_eq_true, Bool.not_eq_false, beq_iff_eq, bne_iff_ne, ne_eq, Bool.not_eq_eq_eq_not, Bool.not_true, Bool.not_false, beq_eq_false_iff_ne, bne_eq_false_iff_eq] at hb) <;> first | refine wSkip 19 ?_ | refine wSkipU 19 ?_ | refine wFa 19 ?_))
            all_goals (first | refine wSkip 20 ?_ | refine wSkipU 20 ?_ | refine wLd 20 ?_ | (refine tr_guard (t := 40) rfl (fun hb => ?_) (fun hb => ?_) <;> (try simp only [decide_eq_true_eq, decide_eq_false_iff_not, Bool.not_eq_true, Bool.not_eq_false, beq_iff_eq, bne_iff_ne, ne_eq, Bool.not_eq_eq_eq_not, Bool.not_true, Bool.not_false, beq_eq_false_iff_ne, bne_eq_false_iff_eq] at hb) <;> first | refine wSkip 20 ?_ | refine wSkipU 20 ?_ | refine wLd 20 ?_))
            all_goals (first | refine wSkip 21 ?_ | refine wSkipU 21 ?_ | refine wFa 21 ?_ | (refine tr_guard (t := 40) rfl (fun hb => ?_) (fun hb => ?_) <;> (try simp only [decide_eq_true_eq, decide_eq_false_iff_not, Bool.not_eq_true, Bool.not_eq_false, beq_iff_eq, bne_iff_ne, ne_eq, Bool.not_eq_eq_eq_not, Bool.not_true, Bool.not_false, beq_eq_false_iff_ne, bne_eq_false_iff_eq] at hb) <;> first | refine wSkip 21 ?_ | refine wSkipU 21 ?_ | refine wFa 21 ?_))
            all_goals (first | refine wSkip 22 ?_ | refine wSkipU 22 ?_ | refine wLd 22 ?_ | (refine tr_guard (t := 40) rfl (fun hb => ?_) (fun hb => ?_) <;> (try simp only [decide_eq_true_eq, decide_eq_false_iff_not, Bool.not_eq_true, Bool.not_eq_false, beq_iff_eq, bne_iff_ne, ne_eq, Bool.not_eq_eq_eq_not, Bool.not_true, Bool.not_false, beq_eq_false_iff_ne, bne_eq_false_iff_eq] at hb) <;> first | refine wSkip 22 ?_ | refine wSkipU 22 ?_ | refine wLd 22 ?_))
            all_goals (first | refine wSkip 23 ?_ | refine wSkipU 23 ?_ | refine wCm 23 ?_ | (refine tr_guard (t := 40) rfl (fun hb => ?_) (fun hb => ?_) <;> (try simp only [decide_eq_true_eq, decide_eq_false_iff_not, Bool.not_eq_true, Bool.not_eq_false, beq_iff_eq, bne_iff_ne, ne_eq, Bool.not_eq_eq_eq_not, Bool.not_true, Bool.not_false, beq_eq_false_iff_ne, bne_eq_false_iff_eq] at hb) <;> first | refine wSkip 23 ?_ | refine wSkipU 23 ?_ | refine wCm 23 ?_))
            all_goals (first | refine wSkip 24 ?_ | refine wSkipU 24 ?_ | refine wPk 24 ?_ | (refine tr_guard (t := 37) rfl (fun hb => ?_) (fun hb => ?_) <;> (try simp only [decide_eq_true_eq, decide_eq_false_iff_not, Bool.not_eq_true, Bool.not_eq_false, beq_iff_eq, bne_iff_ne, ne_eq, Bool.not_eq_eq_eq_not, Bool.not_true, Bool.not_false, beq_eq_false_iff_ne, bne_eq_false_iff_eq] at hb) <;> first | refine wSkip 24 ?_ | refine wSkipU 24 ?_ | refine wPk 24 ?_))
            all_goals refine rPk 25 ?_
            all_goals refine rMv 26 ?_
            all_goals (first | refine wSkip 27 ?_ | refine wSkipU 27 ?_ | refine wLd 27 ?_ | (refine tr_guard (t := 53) rfl (fun hb => ?_) (fun hb => ?_) <;> (try simp only [decide_eq_true_eq, decide_eq_false_iff_not, Bool.not_eq_true, Bool.not_eq_false, beq_iff_eq, bne_iff_ne, ne_eq, Bool.not_eq_eq_eq_not, Bool.not_true, Bool.not_false, beq_eq_false_iff_ne, bne_eq_false_iff_eq] at hb) <;> first | refine wSkip 27 ?_ | refine wSkipU 27 ?_ | refine wLd 27 ?_))
            all_goals (first | refine wSkip 28 ?_ | refine wSkipU 28 ?_ | (refine rStep (i := 28) ?_; ((try refine qWant ?_); (first | (refine tl_is (.func 84) ?_; refine qC rfl rfl (ht) ?_; rintro v ρ' L' hle ⟨rfl, rfl, rfl⟩ <;> (try simp only [List.cons_append, List.nil_append, List.append_eq])) | (refine qEf ?_; try intro _)) <;> ((try simp only [List.cons_append, List.nil_append, List.append_eq]); refine tl_nil ?_; refine rNext ?_))))
            all_goals refine rFull ?_
            all_goals (first | refine wSkip 29 ?_ | refine wSkipU 29 ?_ | refine wUn 29 ?_ | (refine tr_guard (t := 53) rfl (fun hb => ?_) (fun hb => ?_) <;> (try simp only [decide_eq_true_eq, decide_eq_false_iff_not, Bool.not_eq_true, Bool.not_eq_false, beq_iff_eq, bne_iff_ne, ne_eq, Bool.not_eq_eq_eq_not, Bool.not_true, Bool.not_false, beq_eq_false_iff_ne, bne_eq_false_iff_eq] at hb) <;> first | refine wSkip 29 ?_ | refine wSkipU 29 ?_ | refine wUn 29 ?_))
            all_goals refine rPk 30 ?_
            all_goals refine rDone ?_
            all_goals (repeat' (first | (refine iBu ?_; refine tl_y (y_buildN rfl) rfl rfl ?_) | (refine i_op ?_; first | (refine i_qq ?_; refine qQ ?_) | refine qEf ?_) | refine tl_nil ?_ | (refine i_tc ?_; refine qTc ?_) | (refine i_te ?_; refine qTe ?_) | intro _))
            all_goals exact qE (L' := []) ⟨rfl, rfl, rfl⟩
          · rw [Bool.true_and] at hok
            repeat' (first | (refine iBu ?_; refine tl_y (y_buildN rfl) rfl rfl ?_) | (refine i_op ?_; first | (refine i_qq ?_; refine qQ ?_) | refine qEf ?_) | refine tl_nil ?_ | (refine i_tc ?_; refine qTc ?_) | (refine i_te ?_; refine qTe ?_) | intro _)
            refine tc_any (Stays _ _ _) stays_refl ?_
            all_goals refine rFa 0 ?_
            all_goals refine rLd 1 ?_
            all_goals refine rCm 2 ?_
            all_goals refine rMv 3 ?_
            all_goals (first | refine wSkip 4 ?_ | refine wSkipU 4 ?_ | refine wFa 4 ?_ | (refine tr_guard (t := 30) rfl (fun hb => ?_) (fun hb => ?_) <;> (try simp only [decide_eq_true_eq, decide_eq_false_iff_not, Bool.not_eq_true, Bool.not_eq_false, beq_iff_eq, bne_iff_ne, ne_eq, Bool.not_eq_eq_eq_not, Bool.not_true, Bool.not_false, beq_eq_false_iff_ne, bne_eq_false_iff_eq] at hb) <;> first | refine wSkip 4 ?_ | refine wSkipU 4 ?_ | refine wFa 4 ?_))
            all_goals (first | refine wSkip 5 ?_ | refine wSkipU 5 ?_ | refine wLd 5 ?_ | (refine tr_guard (t := 30) rfl (fun hb => ?_) (fun hb => ?_) <;> (try simp only [decide_eq_true_eq, decide_eq_false_iff_not, Bool.not_eq_true, Bool.not_eq_false, beq_iff_eq, bne_iff_ne, ne_eq, Bool.not_eq_eq_eq_not, Bool.not_true, Bool.not_false, beq_eq_false_iff_ne, bne_eq_false_iff_eq] at hb) <;> first | refine wSkip 5 ?_ | refine wSkipU 5 ?_ | refine wLd 5 ?_))
            all_goals (first | refine wSkip 6 ?_ | refine wSkipU 6 ?_ | refine wFa 6 ?_ | (refine tr_guard (t := 30) rfl (fun hb => ?_) (fun hb => ?_) <;> (try simp only [decide_eq_true_eq, decide_eq_false_iff_not, Bool.not_eq_true, Bool.not_eq_false, beq_iff_eq, bne_iff_ne, ne_eq, Bool.not_eq_eq_eq_not, Bool.not_true, Bool.not_false, beq_eq_false_iff_ne, bne_eq_false_iff_eq] at hb) <;> first | refine wSkip 6 ?_ | refine wSkipU 6 ?_ | refine wFa 6 ?_))
            all_goals (first | refine wSkip 7 ?_ | refine wSkipU 7 ?_ | refine wLd 7 ?_ | (refine tr_guard (t := 30) rfl (fun hb => ?_) (fun hb => ?_) <;> (try simp only [decide_eq_true_eq, decide_eq_false_iff_not, Bool.not_eq_true, Bool.not_eq_false, beq_iff_eq, bne_iff_ne, ne_eq, Bool.not_eq_eq_eq_not, Bool.not_true, Bool.not_false, beq_eq_false_iff_ne, bne_eq_false_iff_eq] at hb) <;> first | refine wSkip 7 ?_ | refine wSkipU 7 ?_ | refine wLd 7 ?_))
            all_goals (first | refine wSkip 8 ?_ | refine wSkipU 8 ?_ | refine wCm 8 ?_ | (refine tr_guard (t := 30) rfl (fun hb => ?_) (fun hb => ?_) <;> (try simp only [decide_eq_true_eq, decide_eq_false_iff_not, Bool.not_eq_true, Bool.not_eq_false, beq_iff_eq, bne_iff_ne, ne_eq, Bool.not_eq_eq_eq_not, Bool.not_true, Bool.not_false, beq_eq_false_iff_ne, bne_eq_false_iff_eq] at hb) <;> first | refine wSkip 8 ?_ | refine wSkipU 8 ?_ | refine wCm 8 ?_))
            all_goals refine rPk 9 ?_
            all_goals refine rMv 10 ?_
            all_goals (first | refine wSkip 11 ?_ | refine wSkipU 11 ?_ | refine wMv 11 ?_ | (refine tr_guard (t := 37) rfl (fun hb => ?_) (fun hb => ?_) <;> (try simp only [decide_eq_true_eq, decide_eq_false_iff_not, Bool.not_eq_true, Bool.not_eq_false, beq_iff_eq, bne_iff_ne, ne_eq, Bool.not_eq_eq_eq_not, Bool.not_true, Bool.not_false, beq_eq_false_iff_ne, bne_eq_false_iff_eq] at hb) <;> first | refine wSkip 11 ?_ | refine wSkipU 11 ?_ | refine wMv 11 ?_))
            all_goals (first | refine wSkip 12 ?_ | refine wSkipU 12 ?_ | refine wCm 12 ?_ | (refine tr_guard (t := 37) rfl (fun hb => ?_) (fun hb => ?_) <;> (try simp only [decide_eq_true_eq, decide_eq_false_iff_not, Bool.not_eq_true, Bool.not_eq_false, beq_iff_eq, bne_iff_ne, ne_eq, Bool.not_eq_eq_eq_not, Bool.not_true, Bool.not_false, beq_eq_false_iff_ne, bne_eq_false_iff_eq] at hb) <;> first | refine wSkip 12 ?_ | refine wSkipU 12 ?_ | refine wCm 12 ?_))
            all_goals (first | refine wSkip 13 ?_ | refine wSkipU 13 ?_ | refine wMv 13 ?_ | (refine tr_guard (t := 37) rfl (fun hb => ?_) (fun hb => ?_) <;> (try simp only [decide_eq_true_eq, decide_eq_false_iff_not, Bool.not_eq_true, Bool.not_eq_false, beq_iff_eq, bne_iff_ne, ne_eq, Bool.not_eq_eq_eq_not, Bool.not_true, Bool.not_false, beq_eq_false_iff_ne, bne_eq_false_iff_eq] at hb) <;> first | refine wSkip 13 ?_ | refine wSkipU 13 ?_ | refine wMv 13 ?_))
            all_goals (first | refine wSkip 14 ?_ | refine wSkipU 14 ?_ | refine wFa 14 ?_ | (refine tr_guard (t := 40) rfl (fun hb => ?_) (fun hb => ?_) <;> (try simp only [decide_eq_true_eq, decide_eq_false_iff_not, Bool.not_eq_true, Bool.not_eq_false, beq_iff_eq, bne_iff_ne, ne_eq, Bool.not_eq_eq_eq_not, Bool.not_true, Bool.not_false, beq_eq_false_iff_ne, bne_eq_false_iff_eq] at hb) <;> first | refine wSkip 14 ?_ | refine wSkipU 14 ?_ | refine wFa 14 ?_))
            all_goals (first | refine wSkip 15 ?_ | refine wSkipU 15 ?_ | refine wLd 15 ?_ | (refine tr_guard (t := 40) rfl (fun hb => ?_) (fun hb => ?_) <;> (try simp only [decide_eq_true_eq, decide_eq_false_iff_not, Bool.not_eq_true, Bool.not_eq_false, beq_iff_eq, bne_iff_ne, ne_eq, Bool.not_eq_eq_eq_not, Bool.not_true, Bool.not_false, beq_eq_false_iff_ne, bne_eq_false_iff_eq] at hb) <;> first | refine wSkip 15 ?_ | refine wSkipU 15 ?_ | refine wLd 15 ?_))
            all_goals (first | refine wSkip 16 ?_ | refine wSkipU 16 ?_ | refine wMv 16 ?_ | (refine tr_guard (t := 40) rfl (fun hb => ?_) (fun hb => ?_) <;> (try simp only [decide_eq_true_eq, decide_eq_false_iff_not, Bool.not_eq_true, Bool.not_eq_false, beq_iff_eq, bne_iff_ne, ne_eq, Bool.not_eq_eq_eq_not, Bool.not_true, Bool.not_false, beq_eq_false_iff_ne, bne_eq_false_iff_eq] at hb) <;> first | refine wSkip 16 ?_ | refine wSkipU 16 ?_ | refine wMv 16 ?_))
            all_goals (first | refine wSkip 17 ?_ | refine wSkipU 17 ?_ | refine wSb 17 ?_ | (refine tr_guard (t := 40) rfl (fun hb => ?_) (fun hb => ?_) <;> (try simp only [decide_eq_true_eq, decide_eq_false_iff_not, Bool.not_eq_true, Bool.not_eq_false, beq_iff_eq, bne_iff_ne, ne_eq, Bool.not_eq_eq_eq_not, Bool.not_true, Bool.not_false, beq_eq_false_iff_ne, bne_eq_false_iff_eq] at hb) <;> first | refine wSkip 17 ?_ | refine wSkipU 17 ?_ | refine wSb 17 ?_))
            all_goals (first | refine wSkip 18 ?_ | refine wSkipU 18 ?_ | refine wIa 18 ?_ | (refine tr_guard (t := 40) rfl (fun hb => ?_) (fun hb => ?_) <;> (try simp only [decide_eq_true_eq, decide_eq_false_iff_not, Bool.not_eq_true, Bool.not_eq_false, beq_iff_eq, bne_iff_ne, ne_eq, Bool.not_eq_eq_eq_not, Bool.not_true, Bool.not_false, beq_eq_false_iff_ne, bne_eq_false_iff_eq] at hb) <;> first | refine wSkip 18 ?_ | refine wSkipU 18 ?_ | refine wIa 18 ?_))
            all_goals (first | refine wSkip 19 ?_ | refine wSkipU 19 ?_ | refine wFa 19 ?_ | (refine tr_guard (t := 40) rfl (fun hb => ?_) (fun hb => ?_) <;> (try simp only [decide_eq_true_eq, decide_eq_false_iff_not, Bool.not_eq_true, Bool.not_eq_false, beq_iff_eq, bne_iff_ne, ne_eq, Bool.not_eq_eq_eq_not, Bool.not_true, Bool.not_false, beq_eq_false_iff_ne, bne_eq_false_iff_eq] at hb) <;> first | refine wSkip 19 ?_ | refine wSkipU 19 ?_ | refine wFa 19 ?_))
            all_goals (first | refine wSkip 20 ?_ | refine wSkipU 20 ?_ | refine wLd 20 ?_ | (refine tr_guard (t := 40) rfl (fun hb => ?_) (fun hb => ?_) <;> (try simp only [decide_eq_true_eq, decide_eq_false_iff_not, Bool.not_eq_true, Bool.not_eq_false, beq_iff_eq, bne_iff_ne, ne_eq, Bool.not_eq_eq_eq_not, Bool.not_true, Bool.not_false, beq_eq_false_iff_ne, bne_eq_false_iff_eq] at hb) <;> first | refine wSkip 20 ?_ | refine wSkipU 20 ?_ | refine wLd 20 ?_))
            all_goals (first | refine wSkip 21 ?_ | refine wSkipU 21 ?_ | refine wFa 21 ?_ | (refine tr_guard (t := 40) rfl (fun hb => ?_) (fun hb => ?_) <;> (try simp only [decide_eq_true_eq, decide_eq_false_iff_not, Bool.not_eq_true, Bool.not_eq_false, beq_iff_eq, bne_iff_ne, ne_eq, Bool.not_eq_eq_eq_not, Bool.not_true, Bool.not_false, beq_eq_false_iff_ne, bne_eq_false_iff_eq] at hb) <;> first | refine wSkip 21 ?_ | refine wSkipU 21 ?_ | refine wFa 21 ?_))
            all_goals (first | refine wSkip 22 ?_ | refine wSkipU 22 ?_ | refine wLd 22 ?_ | (refine tr_guard (t := 40) rfl (fun hb => ?_) (fun hb => ?_) <;> (try simp only [decide_eq_true_eq, decide_eq_false_iff_not, Bool.not_eq_true, Bool.not_eq_false, beq_iff_eq, bne_iff_ne, ne_eq, Bool.not_eq_eq_eq_not, Bool.not_true, Bool.not_false, beq_eq_false_iff_ne, bne_eq_false_iff_eq] at hb) <;> first | refine wSkip 22 ?_ | refine wSkipU 22 ?_ | refine wLd 22 ?_))
            all_goals (first | refine wSkip 23 ?_ | refine wSkipU 23 ?_ | refine wCm 23 ?_ | (refine tr_guard (t := 40) rfl (fun hb => ?_) (fun hb => ?_) <;> (try simp only [decide_eq_true_eq, decide_eq_false_iff_not, Bool.not_eq_true, Bool.not_eq_false, beq_iff_eq, bne_iff_ne, ne_eq, Bool.not_eq_eq_eq_not, Bool.not_true, Bool.not_false, beq_eq_false_iff_ne, bne_eq_false_iff_eq] at hb) <;> first | refine wSkip 23 ?_ | refine wSkipU 23 ?_ | refine wCm 23 ?_))
            all_goals (first | refine wSkip 24 ?_ | refine wSkipU 24 ?_ | refine wPk 24 ?_ | (refine tr_guard (t := 37) rfl (fun hb => ?_) (fun hb => ?_) <;> (try simp only [decide_eq_true_eq, decide_eq_false_iff_not, Bool.not_eq_true, Bool.not_eq_false, beq_iff_eq, bne_iff_ne, ne_eq, Bool.not_eq_eq_eq_not, Bool.not_true, Bool.not_false, beq_eq_false_iff_ne, bne_eq_false_iff_eq] at hb) <;> first | refine wSkip 24 ?_ | refine wSkipU 24 ?_ | refine wPk 24 ?_))
            all_goals refine rPk 25 ?_
            all_goals refine rMv 26 ?_
            all_goals (first | refine wSkip 27 ?_ | refine wSkipU 27 ?_ | refine wLd 27 ?_ | (refine tr_guard (t := 53) rfl (fun hb => ?_) (fun hb => ?_) <;> (try simp only [decide_eq_true_eq, decide_eq_false_iff_not, Bool.not_eq_true, Bool.not_eq_false, beq_iff_eq, bne_iff_ne, ne_eq, Bool.not_eq_eq_eq_not, Bool.not_true, Bool.not_false, beq_eq_false_iff_ne, bne_eq_false_iff_eq] at hb) <;> first | refine wSkip 27 ?_ | refine wSkipU 27 ?_ | refine wLd 27 ?_))
            all_goals (first | refine wSkip 28 ?_ | refine wSkipU 28 ?_ | (refine rStep (i := 28) ?_; ((try refine qWant ?_); (first | (refine tl_is (.func 84) ?_; refine qC rfl rfl (ht) ?_; rintro v ρ' L' hle ⟨rfl, rfl, rfl⟩ <;> (try simp only [List.cons_append, List.nil_append, List.append_eq])) | (refine qEf ?_; try intro _)) <;> ((try simp only [List.cons_append, List.nil_append, List.append_eq]); refine tl_nil ?_; refine rNext ?_))))
            all_goals refine rFull ?_
            all_goals (first | refine wSkip 29 ?_ | refine wSkipU 29 ?_ | refine wUn 29 ?_ | (refine tr_guard (t := 53) rfl (fun hb => ?_) (fun hb => ?_) <;> (try simp only [decide_eq_true_eq, decide_eq_false_iff_not, Bool.not_eq_true, Bool.not_eq_false, beq_iff_eq, bne_iff_ne, ne_eq, Bool.not_eq_eq_eq_not, Bool.not_true, Bool.not_false, beq_eq_false_iff_ne, bne_eq_false_iff_eq] at hb) <;> first | refine wSkip 29 ?_ | refine wSkipU 29 ?_ | refine wUn 29 ?_))
            all_goals refine rPk 30 ?_
            all_goals refine rDone ?_
            all_goals (repeat' (first | (refine iBu ?_; refine tl_y (y_buildN rfl) rfl rfl ?_) | (refine i_op ?_; first | (refine i_qq ?_; refine qQ ?_) | refine qEf ?_) | refine tl_nil ?_ | (refine i_tc ?_; refine qTc ?_) | (refine i_te ?_; refine qTe ?_) | intro _))
            all_goals rw [← e1]
            all_goals refine te_round_g (k + 1, y.num) (⟨hlt, hok, by dsimp only; omega, fun h => by omega, hnext⟩) ev_le ev_le rfl tk inferInstance (by first | omega | (dsimp only; omega))
        · rw [decide_eq_false hy, Bool.false_and, Bool.false_and] at hok
          subst hok
          repeat' (first | (refine iBu ?_; refine tl_y (y_buildN rfl) rfl rfl ?_) | (refine i_op ?_; first | (refine i_qq ?_; refine qQ ?_) | refine qEf ?_) | refine tl_nil ?_ | (refine i_tc ?_; refine qTc ?_) | (refine i_te ?_; refine qTe ?_) | intro _)
          refine tc_any (Stays _ _ _) stays_refl ?_
          all_goals refine rFa 0 ?_
          all_goals refine rLd 1 ?_
          all_goals refine rCm 2 ?_
          all_goals refine rMv 3 ?_
          all_goals (first | refine wSkip 4 ?_ | refine wSkipU 4 ?_ | refine wFa 4 ?_ | (refine tr_guard (t := 30) rfl (fun hb => ?_) (fun hb => ?_) <;> (try simp only [decide_eq_true_eq, decide_eq_false_iff_not, Bool.not_eq_true, Bool.not_eq_false, beq_iff_eq, bne_iff_ne, ne_eq, Bool.not_eq_eq_eq_not, Bool.not_true, Bool.not_false, beq_eq_false_iff_ne, bne_eq_false_iff_eq] at hb) <;> first | refine wSkip 4 ?_ | refine wSkipU 4 ?_ | refine wFa 4 ?_))
          all_goals (first | refine wSkip 5 ?_ | refine wSkipU 5 ?_ | refine wLd 5 ?_ | (refine tr_guard (t := 30) rfl (fun hb => ?_) (fun hb => ?_) <;> (try simp only [decide_eq_true_eq, decide_eq_false_iff_not, Bool.not_eq_true, Bool.not_eq_false, beq_iff_eq, bne_iff_ne, ne_eq, Bool.not_eq_eq_eq_not, Bool.not_true, Bool.not_false, beq_eq_false_iff_ne, bne_eq_false_iff_eq] at hb) <;> first | refine wSkip 5 ?_ | refine wSkipU 5 ?_ | refine wLd 5 ?_))
          all_goals (first | refine wSkip 6 ?_ | refine wSkipU 6 ?_ | refine wFa 6 ?_ | (refine tr_guard (t := 30) rfl (fun hb => ?_) (fun hb => ?_) <;> (try simp only [decide_eq_true_eq, decide_eq_false_iff_not, Bool.not_eq_true, Bool.not_eq_false, beq_iff_eq, bne_iff_ne, ne_eq, Bool.not_eq_eq_eq_not, Bool.not_true, Bool.not_false, beq_eq_false_iff_ne, bne_eq_false_iff_eq] at hb) <;> first | refine wSkip 6 ?_ | refine wSkipU 6 ?_ | refine wFa 6 ?_))
          all_goals (first | refine wSkip 7 ?_ | refine wSkipU 7 ?_ | refine wLd 7 ?_ | (refine tr_guard (t := 30) rfl (fun hb => ?_) (fun hb => ?_) <;> (try simp only [decide_eq_true_eq, decide_eq_false_iff_not, Bool.not_eq_true, Bool.not_eq_false, beq_iff_eq, bne_iff_ne, ne_eq, Bool.not_eq_eq_eq_not, Bool.not_true, Bool.not_false, beq_eq_false_iff_ne, bne_eq_false_iff_eq] at hb) <;> first | refine wSkip 7 ?_ | refine wSkipU 7 ?_ | refine wLd 7 ?_))
          all_goals (first | refine wSkip 8 ?_ | refine wSkipU 8 ?_ | refine wCm 8 ?_ | (refine tr_guard (t := 30) rfl (fun hb => ?_) (fun hb => ?_) <;> (try simp only [decide_eq_true_eq, decide_eq_false_iff_not, Bool.not_eq_true, Bool.not_eq_false, beq_iff_eq, bne_iff_ne, ne_eq, Bool.not_eq_eq_eq_not, Bool.not_true, Bool.not_false, beq_eq_false_iff_ne, bne_eq_false_iff_eq] at hb) <;> first | refine wSkip 8 ?_ | refine wSkipU 8 ?_ | refine wCm 8 ?_))
          all_goals refine rPk 9 ?_
          all_goals refine rMv 10 ?_
          all_goals (first | refine wSkip 11 ?_ | refine wSkipU 11 ?_ | refine wMv 11 ?_ | (refine tr_guard (t := 37) rfl (fun hb => ?_) (fun hb => ?_) <;> (try simp only [decide_eq_true_eq, decide_eq_false_iff_not, Bool.not_eq_true, Bool.not_eq_false, beq_iff_eq, bne_iff_ne, ne_eq, Bool.not_eq_eq_eq_not, Bool.not_true, Bool.not_false, beq_eq_false_iff_ne, bne_eq_false_iff_eq] at hb) <;> first | refine wSkip 11 ?_ | refine wSkipU 11 ?_ | refine wMv 11 ?_))
          all_goals (first | refine wSkip 12 ?_ | refine wSkipU 12 ?_ | refine wCm 12 ?_ | (refine tr_guard (t := 37) rfl (fun hb => ?_) (fun hb => ?_) <;> (try simp only [decide_eq_true_eq, decide_eq_false_iff_not, Bool.not_eq_true, Bool.not_eq_false, beq_iff_eq, bne_iff_ne, ne_eq, Bool.not_eq_eq_eq_not, Bool.not_true, Bool.not_false, beq_eq_false_iff_ne, bne_eq_false_iff_eq] at hb) <;> first | refine wSkip 12 ?_ | refine wSkipU 12 ?_ | refine wCm 12 ?_))
          all_goals (first | refine wSkip 13 ?_ | refine wSkipU 13 ?_ | refine wMv 13 ?_ | (refine tr_guard (t := 37) rfl (fun hb => ?_) (fun hb => ?_) <;> (try simp only [decide_eq_true_eq, decide_eq_false_iff_not, Bool.not_eq_true, Bool.not_eq_false, beq_iff_eq, bne_iff_ne, ne_eq, Bool.not_eq_eq_eq_not, Bool.not_true, Bool.not_false, beq_eq_false_iff_ne, bne_eq_false_iff_eq] at hb) <;> first | refine wSkip 13 ?_ | refine wSkipU 13 ?_ | refine wMv 13 ?_))
          all_goals (first | refine wSkip 14 ?_ | refine wSkipU 14 ?_ | refine wFa 14 ?_ | (refine tr_guard (t := 40) rfl (fun hb => ?_) (fun hb => ?_) <;> (try simp only [decide_eq_true_eq, decide_eq_false_iff_not, Bool.not_eq_true, Bool.not_eq_false, beq_iff_eq, bne_iff_ne, ne_eq, Bool.not_eq_eq_eq_not, Bool.not_true, Bool.not_false, beq_eq_false_iff_ne, bne_eq_false_iff_eq] at hb) <;> first | refine wSkip 14 ?_ | refine wSkipU 14 ?_ | refine wFa 14 ?_))
          all_goals (first | refine wSkip 15 ?_ | refine wSkipU 15 ?_ | refine wLd 15 ?_ | (refine tr_guard (t := 40) rfl (fun hb => ?_) (fun hb => ?_) <;> (try simp only [decide_eq_true_eq, decide_eq_false_iff_not, Bool.not_eq_true, Bool.not_eq_false, beq_iff_eq, bne_iff_ne, ne_eq, Bool.not_eq_eq_eq_not, Bool.not_true, Bool.not_false, beq_eq_false_iff_ne, bne_eq_false_iff_eq] at hb) <;> first | refine wSkip 15 ?_ | refine wSkipU 15 ?_ | refine wLd 15 ?_))
          all_goals (first | refine wSkip 16 ?_ | refine wSkipU 16 ?_ | refine wMv 16 ?_ | (refine tr_guard (t := 40) rfl (fun hb => ?_) (fun hb => ?_) <;> (try simp only [decide_eq_true_eq, decide_eq_false_iff_not, Bool.not_eq_true, Bool.not_eq_false, beq_iff_eq, bne_iff_ne, ne_eq, Bool.not_eq_eq_eq_not, Bool.not_true, Bool.not_false, beq_eq_false_iff_ne, bne_eq_false_iff_eq] at hb) <;> first | refine wSkip 16 ?_ | refine wSkipU 16 ?_ | refine wMv 16 ?_))
          all_goals (first | refine wSkip 17 ?_ | refine wSkipU 17 ?_ | refine wSb 17 ?_ | (refine tr_guard (t := 40) rfl (fun hb => ?_) (fun hb => ?_) <;> (try simp only [decide_eq_true_eq, decide_eq_false_iff_not, Bool.not_eq_true, Bool.not_eq_false, beq_iff_eq, bne_iff_ne, ne_eq, Bool.not_eq_eq_eq_not, Bool.not_true, Bool.not_false, beq_eq_false_iff_ne, bne_eq_false_iff_eq] at hb) <;> first | refine wSkip 17 ?_ | refine wSkipU 17 ?_ | refine wSb 17 ?_))
          all_goals (first | refine wSkip 18 ?_ | refine wSkipU 18 ?_ | refine wIa 18 ?_ | (refine tr_guard (t := 40) rfl (fun hb => ?_) (fun hb => ?_) <;> (try simp only [decide_eq_true_eq, decide_eq_false_iff_not, Bool.not_eq_true, Bool.not_eq_false, beq_iff_eq, bne_iff_ne, ne_eq, Bool.not_eq_eq_eq_not, Bool.not_true, Bool.not_false, beq_eq_false_iff_ne, bne_eq_false_iff_eq] at hb) <;> first | refine wSkip 18 ?_ | refine wSkipU 18 ?_ | refine wIa 18 ?_))
          all_goals (first | refine wSkip 19 ?_ | refine wSkipU 19 ?_ | refine wFa 19 ?_ | (refine tr_guard (t := 40) rfl (fun hb => ?_) (fun hb => ?_) <;> (try simp only [decide_eq_true_eq, decide_eq_false_iff_not, Bool.not_eq_true, Bool.not_eq_false, beq_iff_eq, bne_iff_ne, ne_eq, Bool.not_eq_eq_eq_not, Bool.not_true, Bool.not_false, beq_eq_false_iff_ne, bne_eq_false_iff_eq] at hb) <;> first | refine wSkip 19 ?_ | refine wSkipU 19 ?_ | refine wFa 19 ?_))
          all_goals (first | refine wSkip 20 ?_ | refine wSkipU 20 ?_ | refine wLd 20 ?_ | (refine tr_guard (t := 40) rfl (fun hb => ?_) (fun hb => ?_) <;> (try simp only [decide_eq_true_eq, decide_eq_false_iff_not, Bool.not_eq_true, Bool.not_eq_false, beq_iff_eq, bne_iff_ne, ne_eq, Bool.not_eq_eq_eq_not, Bool.not_true, Bool.not_false, beq_eq_false_iff_ne, bne_eq_false_iff_eq] at hb) <;> first | refine wSkip 20 ?_ | refine wSkipU 20 ?_ | refine wLd 20 ?_))
          all_goals (first | refine wSkip 21 ?_ | refine wSkipU 21 ?_ | refine wFa 21 ?_ | (refine tr_guard (t := 40) rfl (fun hb => ?_) (fun hb => ?_) <;> (try simp only [decide_eq_true_eq, decide_eq_false_iff_not, Bool.not_eq_true, Bool.not_eq_false, beq_iff_eq, bne_iff_ne, ne_eq, Bool.not_eq_eq_eq_not, Bool.not_true, Bool.not_false, beq_eq_false_iff_ne, bne_eq_false_iff_eq] at hb) <;> first | refine wSkip 21 ?_ | refine wSkipU 21 ?_ | refine wFa 21 ?_))
          all_goals (first | refine wSkip 22 ?_ | refine wSkipU 22 ?_ | refine wLd 22 ?_ | (refine tr_guard (t := 40) rfl (fun hb => ?_) (fun hb => ?_) <;> (try simp only [decide_eq_true_eq, decide_eq_false_iff_not, Bool.not_eq_true, Bool.not_eq_false, beq_iff_eq, bne_iff_ne, ne_eq, Bool.not_eq_eq_eq_not, Bool.not_true, Bool.not_false, beq_eq_false_iff_ne, bne_eq_false_iff_eq] at hb) <;> first | refine wSkip 22 ?_ | refine wSkipU 22 ?_ | refine wLd 22 ?_))
          all_goals (first | refine wSkip 23 ?_ | refine wSkipU 23 ?_ | refine wCm 23 ?_ | (refine tr_guard (t := 40) rfl (fun hb => ?_) (fun hb => ?_) <;> (try simp only [decide_eq_true_eq, decide_eq_false_iff_not, Bool.not_eq_true, Bool.not_eq_false, beq_iff_eq, bne_iff_ne, ne_eq, Bool.not_eq_eq_eq_not, Bool.not_true, Bool.not_false, beq_eq_false_iff_ne, bne_eq_false_iff_eq] at hb) <;> first | refine wSkip 23 ?_ | refine wSkipU 23 ?_ | refine wCm 23 ?_))
          all_goals (first | refine wSkip 24 ?_ | refine wSkipU 24 ?_ | refine wPk 24 ?_ | (refine tr_guard (t := 37) rfl (fun hb => ?_) (fun hb => ?_) <;> (try simp only [decide_eq_true_eq, decide_eq_false_iff_not, Bool.not_eq_true, Bool.not_eq_false, beq_iff_eq, bne_iff_ne, ne_eq, Bool.not_eq_eq_eq_not, Bool.not_true, Bool.not_false, beq_eq_false_iff_ne, bne_eq_false_iff_eq] at hb) <;> first | refine wSkip 24 ?_ | refine wSkipU 24 ?_ | refine wPk 24 ?_))
          all_goals refine rPk 25 ?_
          all_goals refine rMv 26 ?_
          all_goals (first | refine wSkip 27 ?_ | refine wSkipU 27 ?_ | refine wLd 27 ?_ | (refine tr_guard (t := 53) rfl (fun hb => ?_) (fun hb => ?_) <;> (try simp only [decide_eq_true_eq, decide_eq_false_iff_not, Bool.not_eq_true, Bool.not_eq_false, beq_iff_eq, bne_iff_ne, ne_eq, Bool.not_eq_eq_eq_not, Bool.not_true, Bool.not_false, beq_eq_false_iff_ne, bne_eq_false_iff_eq] at hb) <;> first | refine wSkip 27 ?_ | refine wSkipU 27 ?_ | refine wLd 27 ?_))
          all_goals (first | refine wSkip 28 ?_ | refine wSkipU 28 ?_ | (refine rStep (i := 28) ?_; ((try refine qWant ?_); (first | (refine tl_is (.func 84) ?_; refine qC rfl rfl (ht) ?_; rintro v ρ' L' hle ⟨rfl, rfl, rfl⟩ <;> (try simp only [List.cons_append, List.nil_append, List.append_eq])) | (refine qEf ?_; try intro _)) <;> ((try simp only [List.cons_append, List.nil_append, List.append_eq]); refine tl_nil ?_; refine rNext ?_))))
          all_goals refine rFull ?_
          all_goals (first | refine wSkip 29 ?_ | refine wSkipU 29 ?_ | refine wUn 29 ?_ | (refine tr_guard (t := 53) rfl (fun hb => ?_) (fun hb => ?_) <;> (try simp only [decide_eq_true_eq, decide_eq_false_iff_not, Bool.not_eq_true, Bool.not_eq_false, beq_iff_eq, bne_iff_ne, ne_eq, Bool.not_eq_eq_eq_not, Bool.not_true, Bool.not_false, beq_eq_false_iff_ne, bne_eq_false_iff_eq] at hb) <;> first | refine wSkip 29 ?_ | refine wSkipU 29 ?_ | refine wUn 29 ?_))
          all_goals refine rPk 30 ?_
          all_goals refine rDone ?_
          all_goals (repeat' (first | (refine iBu ?_; refine tl_y (y_buildN rfl) rfl rfl ?_) | (refine i_op ?_; first | (refine i_qq ?_; refine qQ ?_) | refine qEf ?_) | refine tl_nil ?_ | (refine i_tc ?_; refine qTc ?_) | (refine i_te ?_; refine qTe ?_) | (refine i_gd ?_; refine tl_guard rfl rfl (fun hb => ?_) (fun hb => ?_) <;> (try simp only [decide_eq_true_eq, decide_eq_false_iff_not, Bool.not_eq_true, Bool.not_eq_false, beq_iff_eq, bne_iff_ne, ne_eq, decide_eq_decide, Bool.not_eq_eq_eq_not, Bool.not_true, Bool.not_false, beq_eq_false_iff_ne, bne_eq_false_iff_eq, Bool.and_eq_true, Bool.or_eq_true, Bool.and_eq_false_imp, Bool.or_eq_false_iff, bq2, bqt, bqf] at hb)) | (refine i_cond ?_; refine tc_cond rfl (fun hb => ?_) (fun hb => ?_) <;> (try simp only [decide_eq_true_eq, decide_eq_false_iff_not, Bool.not_eq_true, Bool.not_eq_false, beq_iff_eq, bne_iff_ne, ne_eq, decide_eq_decide, Bool.not_eq_eq_eq_not, Bool.not_true, Bool.not_false, beq_eq_false_iff_ne, bne_eq_false_iff_eq, Bool.and_eq_true, Bool.or_eq_true, Bool.and_eq_false_imp, Bool.or_eq_false_iff, bq2, bqt, bqf] at hb)) | intro _))
          all_goals first | exact qE (L' := []) ⟨rfl, rfl, rfl⟩ | (exfalso; omega)
      · obtain ⟨b2, off2, C2, T2, fr2, f1, hb2, hfit2, hc2⟩ := hA.get (show k - 1 < r.txns.length by omega)
        have hlp := hky _ (by omega) (List.getElem?_eq_getElem (show k - 1 < r.txns.length by omega))
        generalize r.txns[k - 1]'(by omega) = p at *
        rw [e1] at f1
        cases f1
        rw [hb] at hb2
        cases hb2
        have ek : ((k : Int) - 1).toNat = k - 1 := by omega
        have hcy : C[off + ((k : Int) - 1).toNat * 7]? = some (.int .i64 p.num) := by
          have := congrArg (fun l => l[0]?) hc2
          rw [ek]
          simp only [List.getElem?_take, List.getElem?_drop] at this
          simpa using this
        (try dsimp only [rosV]); rw [e1]
        by_cases hy : last < y.num ∧ y.num < r.next
        · rw [decide_eq_true hy, Bool.true_and] at hok
          cases ty
          · rw [Bool.false_and] at hok
            subst hok
            repeat' (first | (refine iBu ?_; refine tl_y (y_buildN rfl) rfl rfl ?_) | (refine i_op ?_; first | (refine i_qq ?_; refine qQ ?_) | refine qEf ?_) | refine tl_nil ?_ | (refine i_tc ?_; refine qTc ?_) | (refine i_te ?_; refine qTe ?_) | intro _)
            refine tc_any (Stays _ _ _) stays_refl ?_
            all_goals refine rFa 0 ?_
            all_goals refine rLd 1 ?_
            all_goals refine rCm 2 ?_
            all_goals refine rMv 3 ?_
            all_goals (first | refine wSkip 4 ?_ | refine wSkipU 4 ?_ | refine wFa 4 ?_ | (refine tr_guard (t := 30) rfl (fun hb => ?_) (fun hb => ?_) <;> (try simp only [decide_eq_true_eq, decide_eq_false_iff_not, Bool.not_eq_true, Bool.not_eq_false, beq_iff_eq, bne_iff_ne, ne_eq, Bool.not_eq_eq_eq_not, Bool.not_true, Bool.not_false, beq_eq_false_iff_ne, bne_eq_false_iff_eq] at hb) <;> first | refine wSkip 4 ?_ | refine wSkipU 4 ?_ | refine wFa 4 ?_))
            all_goals (first | refine wSkip 5 ?_ | refine wSkipU 5 ?_ | refine wLd 5 ?_ | (refine tr_guard (t := 30) rfl (fun hb => ?_) (fun hb => ?_) <;> (try simp only [decide_eq_true_eq, decide_eq_false_iff_not, Bool.not_eq_true, Bool.not_eq_false, beq_iff_eq, bne_iff_ne, ne_eq, Bool.not_eq_eq_eq_not, Bool.not_true, Bool.not_false, beq_eq_false_iff_ne, bne_eq_false_iff_eq] at hb) <;> first | refine wSkip 5 ?_ | refine wSkipU 5 ?_ | refine wLd 5 ?_))
            all_goals (first | refine wSkip 6 ?_ | refine wSkipU 6 ?_ | refine wFa 6 ?_ | (refine tr_guard (t := 30) rfl (fun hb => ?_) (fun hb => ?_) <;> (try simp only [decide_eq_true_eq, decide_eq_false_iff_not, Bool.not_eq_true, Bool.not_eq_false, beq_iff_eq, bne_iff_ne, ne_eq, Bool.not_eq_eq_eq_not, Bool.not_true, Bool.not_false, beq_eq_false_iff_ne, bne_eq_false_iff_eq] at hb) <;> first | refine wSkip 6 ?_ | refine wSkipU 6 ?_ | refine wFa 6 ?_))
            all_goals (first | refine wSkip 7 ?_ | refine wSkipU 7 ?_ | refine wLd 7 ?_ | (refine tr_guard (t := 30) rfl (fun hb => ?_) (fun hb => ?_) <;> (try simp only [decide_eq_true_eq, decide_eq_false_iff_not, Bool.not_eq_true, Bool.not_eq_false, beq_iff_eq, bne_iff_ne, ne_eq, Bool.not_eq_eq_eq_not, Bool.not_true, Bool.not_false, beq_eq_false_iff_ne, bne_eq_false_iff_eq] at hb) <;> first | refine wSkip 7 ?_ | refine wSkipU 7 ?_ | refine wLd 7 ?_))
            all_goals (first | refine wSkip 8 ?_ | refine wSkipU 8 ?_ | refine wCm 8 ?_ | (refine tr_guard (t := 30) rfl (fun hb => ?_) (fun hb => ?_) <;> (try simp only [decide_eq_true_eq, decide_eq_false_iff_not, Bool.not_eq_true, Bool.not_eq_false, beq_iff_eq, bne_iff_ne, ne_eq, Bool.not_eq_eq_eq_not, Bool.not_true, Bool.not_false, beq_eq_false_iff_ne, bne_eq_false_iff_eq] at hb) <;> first | refine wSkip 8 ?_ | refine wSkipU 8 ?_ | refine wCm 8 ?_))
            all_goals refine rPk 9 ?_
            all_goals refine rMv 10 ?_
            all_goals (first | refine wSkip 11 ?_ | refine wSkipU 11 ?_ | refine wMv 11 ?_ | (refine tr_guard (t := 37) rfl (fun hb => ?_) (fun hb => ?_) <;> (try simp only [decide_eq_true_eq, decide_eq_false_iff_not, Bool.not_eq_true, Bool.not_eq_false, beq_iff_eq, bne_iff_ne, ne_eq, Bool.not_eq_eq_eq_not, Bool.not_true, Bool.not_false, beq_eq_false_iff_ne, bne_eq_false_iff_eq] at hb) <;> first | refine wSkip 11 ?_ | refine wSkipU 11 ?_ | refine wMv 11 ?_))
            all_goals (first | refine wSkip 12 ?_ | refine wSkipU 12 ?_ | refine wCm 12 ?_ | (refine tr_guard (t := 37) rfl (fun hb => ?_) (fun hb => ?_) <;> (try simp only [decide_eq_true_eq, decide_eq_false_iff_not, Bool.not_eq_true, Bool.not_eq_false, beq_iff_eq, bne_iff_ne, ne_eq, Bool.not_eq_eq_eq_not, Bool.not_true, Bool.not_false, beq_eq_false_iff_ne, bne_eq_false_iff_eq] at hb) <;> first | refine wSkip 12 ?_ | refine wSkipU 12 ?_ | refine wCm 12 ?_))
            all_goals (first | refine wSkip 13 ?_ | refine wSkipU 13 ?_ | refine wMv 13 ?_ | (refine tr_guard (t := 37) rfl (fun hb => ?_) (fun hb => ?_) <;> (try simp only [decide_eq_true_eq, decide_eq_false_iff_not, Bool.not_eq_true, Bool.not_eq_false, beq_iff_eq, bne_iff_ne, ne_eq, Bool.not_eq_eq_eq_not, Bool.not_true, Bool.not_false, beq_eq_false_iff_ne, bne_eq_false_iff_eq] at hb) <;> first | refine wSkip 13 ?_ | refine wSkipU 13 ?_ | refine wMv 13 ?_))
            all_goals (first | refine wSkip 14 ?_ | refine wSkipU 14 ?_ | refine wFa 14 ?_ | (refine tr_guard (t := 40) rfl (fun hb => ?_) (fun hb => ?_) <;> (try simp only [decide_eq_true_eq, decide_eq_false_iff_not, Bool.not_eq_true, Bool.not_eq_false, beq_iff_eq, bne_iff_ne, ne_eq, Bool.not_eq_eq_eq_not, Bool.not_true, Bool.not_false, beq_eq_false_iff_ne, bne_eq_false_iff_eq] at hb) <;> first | refine wSkip 14 ?_ | refine wSkipU 14 ?_ | refine wFa 14 ?_))
            all_goals (first | refine wSkip 15 ?_ | refine wSkipU 15 ?_ | refine wLd 15 ?_ | (refine tr_guard (t := 40) rfl (fun hb => ?_) (fun hb => ?_) <;> (try simp only [decide_eq_true_eq, decide_eq_false_iff_not, Bool.not_eq_true, Bool.not_eq_false, beq_iff_eq, bne_iff_ne, ne_eq, Bool.not_eq_eq_eq_not, Bool.not_true, Bool.not_false, beq_eq_false_iff_ne, bne_eq_false_iff_eq] at hb) <;> first | refine wSkip 15 ?_ | refine wSkipU 15 ?_ | refine wLd 15 ?_))
            all_goals (first | refine wSkip 16 ?_ | refine wSkipU 16 ?_ | refine wMv 16 ?_ | (refine tr_guard (t := 40) rfl (fun hb => ?_) (fun hb => ?_) <;> (try simp only [decide_eq_true_eq, decide_eq_false_iff_not, Bool.not_eq_true, Bool.not_eq_false, beq_iff_eq, bne_iff_ne, ne_eq, Bool.not_eq_eq_eq_not, Bool.not_true, Bool.not_false, beq_eq_false_iff_ne, bne_eq_false_iff_eq] at hb) <;> first | refine wSkip 16 ?_ | refine wSkipU 16 ?_ | refine wMv 16 ?_))
            all_goals (first | refine wSkip 17 ?_ | refine wSkipU 17 ?_ | refine wSb 17 ?_ | (refine tr_guard (t := 40) rfl (fun hb => ?_) (fun hb => ?_) <;> (try simp only [decide_eq_true_eq, decide_eq_false_iff_not, Bool.not_eq_true, Bool.not_eq_false, beq_iff_eq, bne_iff_ne, ne_eq, Bool.not_eq_eq_eq_not, Bool.not_true, Bool.not_false, beq_eq_false_iff_ne, bne_eq_false_iff_eq] at hb) <;> first | refine wSkip 17 ?_ | refine wSkipU 17 ?_ | refine wSb 17 ?_))
            all_goals (first | refine wSkip 18 ?_ | refine wSkipU 18 ?_ | refine wIa 18 ?_ | (refine tr_guard (t := 40) rfl (fun hb => ?_) (fun hb => ?_) <;> (try simp only [decide_eq_true_eq, decide_eq_false_iff_not, Bool.not_eq_true, Bool.not_eq_false, beq_iff_eq, bne_iff_ne, ne_eq, Bool.not_eq_eq_eq_not, Bool.not_true, Bool.not_false, beq_eq_false_iff_ne, bne_eq_false_iff_eq] at hb) <;> first | refine wSkip 18 ?_ | refine wSkipU 18 ?_ | refine wIa 18 ?_))
            all_goals (first | refine wSkip 19 ?_ | refine wSkipU 19 ?_ | refine wFa 19 ?_ | (refine tr_guard (t := 40) rfl (fun hb => ?_) (fun hb => ?_) <;> (try simp only [decide_eq_true_eq, decide_eq_false_iff_not, Bool.not_eq_true, Bool.not_eq_false, beq_iff_eq, bne_iff_ne, ne_eq, Bool.not_eq_eq_eq_not, Bool.not_true, Bool.not_false, beq_eq_false_iff_ne, bne_eq_false_iff_eq] at hb) <;> first | refine wSkip 19 ?_ | refine wSkipU 19 ?_ | refine wFa 19 ?_))
            all_goals (first | refine wSkip 20 ?_ | refine wSkipU 20 ?_ | refine wLd 20 ?_ | (refine tr_guard (t := 40) rfl (fun hb => ?_) (fun hb => ?_) <;> (try simp only [decide_eq_true_eq, decide_eq_false_iff_not, Bool.not_eq_true, Bool.not_eq_false, beq_iff_eq, bne_iff_ne, ne_eq, Bool.not_eq_eq_eq_not, Bool.not_true, Bool.not_false, beq_eq_false_iff_ne, bne_eq_false_iff_eq] at hb) <;> first | refine wSkip 20 ?_ | refine wSkipU 20 ?_ | refine wLd 20 ?_))
            all_goals (first | refine wSkip 21 ?_ | refine wSkipU 21 ?_ | refine wFa 21 ?_ | (refine tr_guard (t := 40) rfl (fun hb => ?_) (fun hb => ?_) <;> (try simp only [decide_eq_true_eq, decide_eq_false_iff_not, Bool.not_eq_true, Bool.not_eq_false, beq_iff_eq, bne_iff_ne, ne_eq, Bool.not_eq_eq_eq_not, Bool.not_true, Bool.not_false, beq_eq_false_iff_ne, bne_eq_false_iff_eq] at hb) <;> first | refine wSkip 21 ?_ | refine wSkipU 21 ?_ | refine wFa 21 ?_))
            all_goals (first | refine wSkip 22 ?_ | refine wSkipU 22 ?_ | refine wLd 22 ?_ | (refine tr_guard (t := 40) rfl (fun hb => ?_) (fun hb => ?_) <;> (try simp only [decide_eq_true_eq, decide_eq_false_iff_not, Bool.not_eq_true, Bool.not_eq_false, beq_iff_eq, bne_iff_ne, ne_eq, Bool.not_eq_eq_eq_not, Bool.not_true, Bool.not_false, beq_eq_false_iff_ne, bne_eq_false_iff_eq] at hb) <;> first | refine wSkip 22 ?_ | refine wSkipU 22 ?_ | refine wLd 22 ?_))
            all_goals (first | refine wSkip 23 ?_ | refine wSkipU 23 ?_ | refine wCm 23 ?_ | (refine tr_guard (t := 40) rfl (fun hb => ?_) (fun hb => ?_) <;> (try simp only [decide_eq_true_eq, decide_eq_false_iff_not, Bool.not_eq_true, Bool.not_eq_false, beq_iff_eq, bne_iff_ne, ne_eq, Bool.not_eq_eq_eq_not, Bool.not_true, Bool.not_false, beq_eq_false_iff_ne, bne_eq_false_iff_eq] at hb) <;> first | refine wSkip 23 ?_ | refine wSkipU 23 ?_ | refine wCm 23 ?_))
            all_goals (first | refine wSkip 24 ?_ | refine wSkipU 24 ?_ | refine wPk 24 ?_ | (refine tr_guard (t := 37) rfl (fun hb => ?_) (fun hb => ?_) <;> (try simp only [decide_eq_true_eq, decide_eq_false_iff_not, Bool.not_eq_true, Bool.not_eq_false, beq_iff_eq, bne_iff_ne, ne_eq, Bool.not_eq_eq_eq_not, Bool.not_true, Bool.not_false, beq_eq_false_iff_ne, bne_eq_false_iff_eq] at hb) <;> first | refine wSkip 24 ?_ | refine wSkipU 24 ?_ | refine wPk 24 ?_))
            all_goals refine rPk 25 ?_
            all_goals refine rMv 26 ?_
            all_goals (first | refine wSkip 27 ?_ | refine wSkipU 27 ?_ | refine wLd 27 ?_ | (refine tr_guard (t := 53) rfl (fun hb => ?_) (fun hb => ?_) <;> (try simp only [decide_eq_true_eq, decide_eq_false_iff_not, Bool.not_eq_true, Bool.not_eq_false, beq_iff_eq, bne_iff_ne, ne_eq, Bool.not_eq_eq_eq_not, Bool.not_true, Bool.not_false, beq_eq_false_iff_ne, bne_eq_false_iff_eq] at hb) <;> first | refine wSkip 27 ?_ | refine wSkipU 27 ?_ | refine wLd 27 ?_))
            all_goals (first | refine wSkip 28 ?_ | refine wSkipU 28 ?_ | (refine rStep (i := 28) ?_; ((try refine qWant ?_); (first | (refine tl_is (.func 84) ?_; refine qC rfl rfl (ht) ?_; rintro v ρ' L' hle ⟨rfl, rfl, rfl⟩ <;> (try simp only [List.cons_append, List.nil_append, List.append_eq])) | (refine qEf ?_; try intro _)) <;> ((try simp only [List.cons_append, List.nil_append, List.append_eq]); refine tl_nil ?_; refine rNext ?_))))
            all_goals refine rFull ?_
            all_goals (first | refine wSkip 29 ?_ | refine wSkipU 29 ?_ | refine wUn 29 ?_ | (refine tr_guard (t := 53) rfl (fun hb => ?_) (fun hb => ?_) <;> (try simp only [decide_eq_true_eq, decide_eq_false_iff_not, Bool.not_eq_true, Bool.not_eq_false, beq_iff_eq, bne_iff_ne, ne_eq, Bool.not_eq_eq_eq_not, Bool.not_true, Bool.not_false, beq_eq_false_iff_ne, bne_eq_false_iff_eq] at hb) <;> first | refine wSkip 29 ?_ | refine wSkipU 29 ?_ | refine wUn 29 ?_))
            all_goals refine rPk 30 ?_
            all_goals refine rDone ?_
            all_goals (repeat' (first | (refine iBu ?_; refine tl_y (y_buildN rfl) rfl rfl ?_) | (refine i_op ?_; first | (refine i_qq ?_; refine qQ ?_) | refine qEf ?_) | refine tl_nil ?_ | (refine i_tc ?_; refine qTc ?_) | (refine i_te ?_; refine qTe ?_) | intro _))
            all_goals exact qE (L' := []) ⟨rfl, rfl, rfl⟩
          · rw [Bool.true_and] at hok
            repeat' (first | (refine iBu ?_; refine tl_y (y_buildN rfl) rfl rfl ?_) | (refine i_op ?_; first | (refine i_qq ?_; refine qQ ?_) | refine qEf ?_) | refine tl_nil ?_ | (refine i_tc ?_; refine qTc ?_) | (refine i_te ?_; refine qTe ?_) | intro _)
            refine tc_any (Stays _ _ _) stays_refl ?_
            all_goals refine rFa 0 ?_
            all_goals refine rLd 1 ?_
            all_goals refine rCm 2 ?_
            all_goals refine rMv 3 ?_
            all_goals (first | refine wSkip 4 ?_ | refine wSkipU 4 ?_ | refine wFa 4 ?_ | (refine tr_guard (t := 30) rfl (fun hb => ?_) (fun hb => ?_) <;> (try simp only [decide_eq_true_eq, decide_eq_false_iff_not, Bool.not_eq_true, Bool.not_eq_false, beq_iff_eq, bne_iff_ne, ne_eq, Bool.not_eq_eq_eq_not, Bool.not_true, Bool.not_false, beq_eq_false_iff_ne, bne_eq_false_iff_eq] at hb) <;> first | refine wSkip 4 ?_ | refine wSkipU 4 ?_ | refine wFa 4 ?_))
            all_goals (first | refine wSkip 5 ?_ | refine wSkipU 5 ?_ | refine wLd 5 ?_ | (refine tr_guard (t := 30) rfl (fun hb => ?_) (fun hb => ?_) <;> (try simp only [decide_eq_true_eq, decide_eq_false_iff_not, Bool.not_eq_true, Bool.not_eq_false, beq_iff_eq, bne_iff_ne, ne_eq, Bool.not_eq_eq_eq_not, Bool.not_true, Bool.not_false, beq_eq_false_iff_ne, bne_eq_false_iff_eq] at hb) <;> first | refine wSkip 5 ?_ | refine wSkipU 5 ?_ | refine wLd 5 ?_))
            all_goals (first | refine wSkip 6 ?_ | refine wSkipU 6 ?_ | refine wFa 6 ?_ | (refine tr_guard (t := 30) rfl (fun hb => ?_) (fun hb => ?_) <;> (try simp only [decide_eq_true_eq, decide_eq_false_iff_not, Bool.not_eq_true, Bool.not_eq_false, beq_iff_eq, bne_iff_ne, ne_eq, Bool.not_eq_eq_eq_not, Bool.not_true, Bool.not_false, beq_eq_false_iff_ne, bne_eq_false_iff_eq] at hb) <;> first | refine wSkip 6 ?_ | refine wSkipU 6 ?_ | refine wFa 6 ?_))
            all_goals (first | refine wSkip 7 ?_ | refine wSkipU 7 ?_ | refine wLd 7 ?_ | (refine tr_guard (t := 30) rfl (fun hb => ?_) (fun hb => ?_) <;> (try simp only [decide_eq_true_eq, decide_eq_false_iff_not, Bool.not_eq_true, Bool.not_eq_false, beq_iff_eq, bne_iff_ne, ne_eq, Bool.not_eq_eq_eq_not, Bool.not_true, Bool.not_false, beq_eq_false_iff_ne, bne_eq_false_iff_eq] at hb) <;> first | refine wSkip 7 ?_ | refine wSkipU 7 ?_ | refine wLd 7 ?_))
            all_goals (first | refine wSkip 8 ?_ | refine wSkipU 8 ?_ | refine wCm 8 ?_ | (refine tr_guard (t := 30) rfl (fun hb => ?_) (fun hb => ?_) <;> (try simp only [decide_eq_true_eq, decide_eq_false_iff_not, Bool.not_eq_true, Bool.not_eq_false, beq_iff_eq, bne_iff_ne, ne_eq, Bool.not_eq_eq_eq_not, Bool.not_true, Bool.not_false, beq_eq_false_iff_ne, bne_eq_false_iff_eq] at hb) <;> first | refine wSkip 8 ?_ | refine wSkipU 8 ?_ | refine wCm 8 ?_))
            all_goals refine rPk 9 ?_
            all_goals refine rMv 10 ?_
            all_goals (first | refine wSkip 11 ?_ | refine wSkipU 11 ?_ | refine wMv 11 ?_ | (refine tr_guard (t := 37) rfl (fun hb => ?_) (fun hb => ?_) <;> (try simp only [decide_eq_true_eq, decide_eq_false_iff_not, Bool.not_eq_true, Bool.not_eq_false, beq_iff_eq, bne_iff_ne, ne_eq, Bool.not_eq_eq_eq_not, Bool.not_true, Bool.not_false, beq_eq_false_iff_ne, bne_eq_false_iff_eq] at hb) <;> first | refine wSkip 11 ?_ | refine wSkipU 11 ?_ | refine wMv 11 ?_))
            all_goals (first | refine wSkip 12 ?_ | refine wSkipU 12 ?_ | refine wCm 12 ?_ | (refine tr_guard (t := 37) rfl (fun hb => ?_) (fun hb => ?_) <;> (try simp only [decide_eq_true_eq, decide_eq_false_iff_not, Bool.not_eq_true, Bool.not_eq_false, beq_iff_eq, bne_iff_ne, ne_eq, Bool.not_eq_eq_eq_not, Bool.not_true, Bool.not_false, beq_eq_false_iff_ne, bne_eq_false_iff_eq] at hb) <;> first | refine wSkip 12 ?_ | refine wSkipU 12 ?_ | refine wCm 12 ?_))
            all_goals (first | refine wSkip 13 ?_ | refine wSkipU 13 ?_ | refine wMv 13 ?_ | (refine tr_guard (t := 37) rfl (fun hb => ?_) (fun hb => ?_) <;> (try simp only [decide_eq_true_eq, decide_eq_false_iff_not, Bool.not_eq_true, Bool.not_eq_false, beq_iff_eq, bne_iff_ne, ne_eq, Bool.not_eq_eq_eq_not, Bool.not_true, Bool.not_false, beq_eq_false_iff_ne, bne_eq_false_iff_eq] at hb) <;> first | refine wSkip 13 ?_ | refine wSkipU 13 ?_ | refine wMv 13 ?_))
            all_goals (first | refine wSkip 14 ?_ | refine wSkipU 14 ?_ | refine wFa 14 ?_ | (refine tr_guard (t := 40) rfl (fun hb => ?_) (fun hb => ?_) <;> (try simp only [decide_eq_true_eq, decide_eq_false_iff_not, Bool.not_eq_true, Bool.not_eq_false, beq_iff_eq, bne_iff_ne, ne_eq, Bool.not_eq_eq_eq_not, Bool.not_true, Bool.not_false, beq_eq_false_iff_ne, bne_eq_false_iff_eq] at hb) <;> first | refine wSkip 14 ?_ | refine wSkipU 14 ?_ | refine wFa 14 ?_))
            all_goals (first | refine wSkip 15 ?_ | refine wSkipU 15 ?_ | refine wLd 15 ?_ | (refine tr_guard (t := 40) rfl (fun hb => ?_) (fun hb => ?_) <;> (try simp only [decide_eq_true_eq, decide_eq_false_iff_not, Bool.not_eq_true, Bool.not_eq_false, beq_iff_eq, bne_iff_ne, ne_eq, Bool.not_eq_eq_eq_not, Bool.not_true, Bool.not_false, beq_eq_false_iff_ne, bne_eq_false_iff_eq] at hb) <;> first | refine wSkip 15 ?_ | refine wSkipU 15 ?_ | refine wLd 15 ?_))
            all_goals (first | refine wSkip 16 ?_ | refine wSkipU 16 ?_ | refine wMv 16 ?_ | (refine tr_guard (t := 40) rfl (fun hb => ?_) (fun hb => ?_) <;> (try simp only [decide_eq_true_eq, decide_eq_false_iff_not, Bool.not_eq_true, Bool.not_eq_false, beq_iff_eq, bne_iff_ne, ne_eq, Bool.not_eq_eq_eq_not, Bool.not_true, Bool.not_false, beq_eq_false_iff_ne, bne_eq_false_iff_eq] at hb) <;> first | refine wSkip 16 ?_ | refine wSkipU 16 ?_ | refine wMv 16 ?_))
            all_goals (first | refine wSkip 17 ?_ | refine wSkipU 17 ?_ | refine wSb 17 ?_ | (refine tr_guard (t := 40) rfl (fun hb => ?_) (fun hb => ?_) <;> (try simp only [decide_eq_true_eq, decide_eq_false_iff_not, Bool.not_eq_true, Bool.not_eq_false, beq_iff_eq, bne_iff_ne, ne_eq, Bool.not_eq_eq_eq_not, Bool.not_true, Bool.not_false, beq_eq_false_iff_ne, bne_eq_false_iff_eq] at hb) <;> first | refine wSkip 17 ?_ | refine wSkipU 17 ?_ | refine wSb 17 ?_))
            all_goals (first | refine wSkip 18 ?_ | refine wSkipU 18 ?_ | refine wIa 18 ?_ | (refine tr_guard (t := 40) rfl (fun hb => ?_) (fun hb => ?_) <;> (try simp only [decide_eq_true_eq, decide_eq_false_iff_not, Bool.not_eq_true, Bool.not_eq_false, beq_iff_eq, bne_iff_ne, ne_eq, Bool.not_eq_eq_eq_not, Bool.not_true, Bool.not_false, beq_eq_false_iff_ne, bne_eq_false_iff_eq] at hb) <;> first | refine wSkip 18 ?_ | refine wSkipU 18 ?_ | refine wIa 18 ?_))
            all_goals (first | refine wSkip 19 ?_ | refine wSkipU 19 ?_ | refine wFa 19 ?_ | (refine tr_guard (t := 40) rfl (fun hb => ?_) (fun hb => ?_) <;> (try simp only [decide_eq_true_eq, decide_eq_false_iff_not, Bool.not_eq_true, Bool.not_eq_false, beq_iff_eq, bne_iff_ne, ne_eq, Bool.not_eq_eq_eq_not, Bool.not_true, Bool.not_false, beq_eq_false_iff_ne, bne_eq_false_iff_eq] at hb) <;> first | refine wSkip 19 ?_ | refine wSkipU 19 ?_ | refine wFa 19 ?_))
            all_goals (first | refine wSkip 20 ?_ | refine wSkipU 20 ?_ | refine wLd 20 ?_ | (refine tr_guard (t := 40) rfl (fun hb => ?_) (fun hb => ?_) <;> (try simp only [decide_eq_true_eq, decide_eq_false_iff_not, Bool.not_eq_true, Bool.not_eq_false, beq_iff_eq, bne_iff_ne, ne_eq, Bool.not_eq_eq_eq_not, Bool.not_true, Bool.not_false, beq_eq_false_iff_ne, bne_eq_false_iff_eq] at hb) <;> first | refine wSkip 20 ?_ | refine wSkipU 20 ?_ | refine wLd 20 ?_))
            all_goals (first | refine wSkip 21 ?_ | refine wSkipU 21 ?_ | refine wFa 21 ?_ | (refine tr_guard (t := 40) rfl (fun hb => ?_) (fun hb => ?_) <;> (try simp only [decide_eq_true_eq, decide_eq_false_iff_not, Bool.not_eq_true, Bool.not_eq_false, beq_iff_eq, bne_iff_ne, ne_eq, Bool.not_eq_eq_eq_not, Bool.not_true, Bool.not_false, beq_eq_false_iff_ne, bne_eq_false_iff_eq] at hb) <;> first | refine wSkip 21 ?_ | refine wSkipU 21 ?_ | refine wFa 21 ?_))
            all_goals (first | refine wSkip 22 ?_ | refine wSkipU 22 ?_ | refine wLd 22 ?_ | (refine tr_guard (t := 40) rfl (fun hb => ?_) (fun hb => ?_) <;> (try simp only [decide_eq_true_eq, decide_eq_false_iff_not, Bool.not_eq_true, Bool.not_eq_false, beq_iff_eq, bne_iff_ne, ne_eq, Bool.not_eq_eq_eq_not, Bool.not_true, Bool.not_false, beq_eq_false_iff_ne, bne_eq_false_iff_eq] at hb) <;> first | refine wSkip 22 ?_ | refine wSkipU 22 ?_ | refine wLd 22 ?_))
            all_goals (first | refine wSkip 23 ?_ | refine wSkipU 23 ?_ | refine wCm 23 ?_ | (refine tr_guard (t := 40) rfl (fun hb => ?_) (fun hb => ?_) <;> (try simp only [decide_eq_true_eq, decide_eq_false_iff_not, Bool.not_eq_true, Bool.not_eq_false, beq_iff_eq, bne_iff_ne, ne_eq, Bool.not_eq_eq_eq_not, Bool.not_true, Bool.not_false, beq_eq_false_iff_ne, bne_eq_false_iff_eq] at hb) <;> first | refine wSkip 23 ?_ | refine wSkipU 23 ?_ | refine wCm 23 ?_))
            all_goals (first | refine wSkip 24 ?_ | refine wSkipU 24 ?_ | refine wPk 24 ?_ | (refine tr_guard (t := 37) rfl (fun hb => ?_) (fun hb => ?_) <;> (try simp only [decide_eq_true_eq, decide_eq_false_iff_not, Bool.not_eq_true, Bool.not_eq_false, beq_iff_eq, bne_iff_ne, ne_eq, Bool.not_eq_eq_eq_not, Bool.not_true, Bool.not_false, beq_eq_false_iff_ne, bne_eq_false_iff_eq] at hb) <;> first | refine wSkip 24 ?_ | refine wSkipU 24 ?_ | refine wPk 24 ?_))
            all_goals refine rPk 25 ?_
            all_goals refine rMv 26 ?_
            all_goals (first | refine wSkip 27 ?_ | refine wSkipU 27 ?_ | refine wLd 27 ?_ | (refine tr_guard (t := 53) rfl (fun hb => ?_) (fun hb => ?_) <;> (try simp only [decide_eq_true_eq, decide_eq_false_iff_not, Bool.not_eq_true, Bool.not_eq_false, beq_iff_eq, bne_iff_ne, ne_eq, Bool.not_eq_eq_eq_not, Bool.not_true, Bool.not_false, beq_eq_false_iff_ne, bne_eq_false_iff_eq] at hb) <;> first | refine wSkip 27 ?_ | refine wSkipU 27 ?_ | refine wLd 27 ?_))
            all_goals (first | refine wSkip 28 ?_ | refine wSkipU 28 ?_ | (refine rStep (i := 28) ?_; ((try refine qWant ?_); (first | (refine tl_is (.func 84) ?_; refine qC rfl rfl (ht) ?_; rintro v ρ' L' hle ⟨rfl, rfl, rfl⟩ <;> (try simp only [List.cons_append, List.nil_append, List.append_eq])) | (refine qEf ?_; try intro _)) <;> ((try simp only [List.cons_append, List.nil_append, List.append_eq]); refine tl_nil ?_; refine rNext ?_))))
            all_goals refine rFull ?_
            all_goals (first | refine wSkip 29 ?_ | refine wSkipU 29 ?_ | refine wUn 29 ?_ | (refine tr_guard (t := 53) rfl (fun hb => ?_) (fun hb => ?_) <;> (try simp only [decide_eq_true_eq, decide_eq_false_iff_not, Bool.not_eq_true, Bool.not_eq_false, beq_iff_eq, bne_iff_ne, ne_eq, Bool.not_eq_eq_eq_not, Bool.not_true, Bool.not_false, beq_eq_false_iff_ne, bne_eq_false_iff_eq] at hb) <;> first | refine wSkip 29 ?_ | refine wSkipU 29 ?_ | refine wUn 29 ?_))
            all_goals refine rPk 30 ?_
            all_goals refine rDone ?_
            all_goals (repeat' (first | (refine iBu ?_; refine tl_y (y_buildN rfl) rfl rfl ?_) | (refine i_op ?_; first | (refine i_qq ?_; refine qQ ?_) | refine qEf ?_) | refine tl_nil ?_ | (refine i_tc ?_; refine qTc ?_) | (refine i_te ?_; refine qTe ?_) | intro _))
            all_goals rw [← e1]
            all_goals refine te_round_g (k + 1, y.num) (⟨hlt, hok, by dsimp only; omega, fun h => by omega, hnext⟩) ev_le ev_le rfl tk inferInstance (by first | omega | (dsimp only; omega))
        · rw [decide_eq_false hy, Bool.false_and, Bool.false_and] at hok
          subst hok
          repeat' (first | (refine iBu ?_; refine tl_y (y_buildN rfl) rfl rfl ?_) | (refine i_op ?_; first | (refine i_qq ?_; refine qQ ?_) | refine qEf ?_) | refine tl_nil ?_ | (refine i_tc ?_; refine qTc ?_) | (refine i_te ?_; refine qTe ?_) | intro _)
          refine tc_any (Stays _ _ _) stays_refl ?_
          all_goals refine rFa 0 ?_
          all_goals refine rLd 1 ?_
          all_goals refine rCm 2 ?_
          all_goals refine rMv 3 ?_
          all_goals (first | refine wSkip 4 ?_ | refine wSkipU 4 ?_ | refine wFa 4 ?_ | (refine tr_guard (t := 30) rfl (fun hb => ?_) (fun hb => ?_) <;> (try simp only [decide_eq_true_eq, decide_eq_false_iff_not, Bool.not_eq_true, Bool.not_eq_false, beq_iff_eq, bne_iff_ne, ne_eq, Bool.not_eq_eq_eq_not, Bool.not_true, Bool.not_false, beq_eq_false_iff_ne, bne_eq_false_iff_eq] at hb) <;> first | refine wSkip 4 ?_ | refine wSkipU 4 ?_ | refine wFa 4 ?_))
          all_goals (first | refine wSkip 5 ?_ | refine wSkipU 5 ?_ | refine wLd 5 ?_ | (refine tr_guard (t := 30) rfl (fun hb => ?_) (fun hb => ?_) <;> (try simp only [decide_eq_true_eq, decide_eq_false_iff_not, Bool.not_eq_true, Bool.not_eq_false, beq_iff_eq, bne_iff_ne, ne_eq, Bool.not_eq_eq_eq_not, Bool.not_true, Bool.not_false, beq_eq_false_iff_ne, bne_eq_false_iff_eq] at hb) <;> first | refine wSkip 5 ?_ | refine wSkipU 5 ?_ | refine wLd 5 ?_))
          all_goals (first | refine wSkip 6 ?_ | refine wSkipU 6 ?_ | refine wFa 6 ?_ | (refine tr_guard (t := 30) rfl (fun hb => ?_) (fun hb => ?_) <;> (try simp only [decide_eq_true_eq, decide_eq_false_iff_not, Bool.not_eq_true, Bool.not_eq_false, beq_iff_eq, bne_iff_ne, ne_eq, Bool.not_eq_eq_eq_not, Bool.not_true, Bool.not_false, beq_eq_false_iff_ne, bne_eq_false_iff_eq] at hb) <;> first | refine wSkip 6 ?_ | refine wSkipU 6 ?_ | refine wFa 6 ?_))
          all_goals (first | refine wSkip 7 ?_ | refine wSkipU 7 ?_ | refine wLd 7 ?_ | (refine tr_guard (t := 30) rfl (fun hb => ?_) (fun hb => ?_) <;> (try simp only [decide_eq_true_eq, decide_eq_false_iff_not, Bool.not_eq_true, Bool.not_eq_false, beq_iff_eq, bne_iff_ne, ne_eq, Bool.not_eq_eq_eq_not, Bool.not_true, Bool.not_false, beq_eq_false_iff_ne, bne_eq_false_iff_eq] at hb) <;> first | refine wSkip 7 ?_ | refine wSkipU 7 ?_ | refine wLd 7 ?_))
          all_goals (first | refine wSkip 8 ?_ | refine wSkipU 8 ?_ | refine wCm 8 ?_ | (refine tr_guard (t := 30) rfl (fun hb => ?_) (fun hb => ?_) <;> (try simp only [decide_eq_true_eq, decide_eq_false_iff_not, Bool.not_eq_true, Bool.not_eq_false, beq_iff_eq, bne_iff_ne, ne_eq, Bool.not_eq_eq_eq_not, Bool.not_true, Bool.not_false, beq_eq_false_iff_ne, bne_eq_false_iff_eq] at hb) <;> first | refine wSkip 8 ?_ | refine wSkipU 8 ?_ | refine wCm 8 ?_))
          all_goals refine rPk 9 ?_
          all_goals refine rMv 10 ?_
          all_goals (first | refine wSkip 11 ?_ | refine wSkipU 11 ?_ | refine wMv 11 ?_ | (refine tr_guard (t := 37) rfl (fun hb => ?_) (fun hb => ?_) <;> (try simp only [decide_eq_true_eq, decide_eq_false_iff_not, Bool.not_eq_true, Bool.not_eq_false, beq_iff_eq, bne_iff_ne, ne_eq, Bool.not_eq_eq_eq_not, Bool.not_true, Bool.not_false, beq_eq_false_iff_ne, bne_eq_false_iff_eq] at hb) <;> first | refine wSkip 11 ?_ | refine wSkipU 11 ?_ | refine wMv 11 ?_))
          all_goals (first | refine wSkip 12 ?_ | refine wSkipU 12 ?_ | refine wCm 12 ?_ | (refine tr_guard (t := 37) rfl (fun hb => ?_) (fun hb => ?_) <;> (try simp only [decide_eq_true_eq, decide_eq_false_iff_not, Bool.not_eq_true, Bool.not_eq_false, beq_iff_eq, bne_iff_ne, ne_eq, Bool.not_eq_eq_eq_not, Bool.not_true, Bool.not_false, beq_eq_false_iff_ne, bne_eq_false_iff_eq] at hb) <;> first | refine wSkip 12 ?_ | refine wSkipU 12 ?_ | refine wCm 12 ?_))
          all_goals (first | refine wSkip 13 ?_ | refine wSkipU 13 ?_ | refine wMv 13 ?_ | (refine tr_guard (t := 37) rfl (fun hb => ?_) (fun hb => ?_) <;> (try simp only [decide_eq_true_eq, decide_eq_false_iff_not, Bool.not_eq_true, Bool.not_eq_false, beq_iff_eq, bne_iff_ne, ne_eq, Bool.not_eq_eq_eq_not, Bool.not_true, Bool.not_false, beq_eq_false_iff_ne, bne_eq_false_iff_eq] at hb) <;> first | refine wSkip 13 ?_ | refine wSkipU 13 ?_ | refine wMv 13 ?_))
          all_goals (first | refine wSkip 14 ?_ | refine wSkipU 14 ?_ | refine wFa 14 ?_ | (refine tr_guard (t := 40) rfl (fun hb => ?_) (fun hb => ?_) <;> (try simp only [decide_eq_true_eq, decide_eq_false_iff_not, Bool.not_eq_true, Bool.not_eq_false, beq_iff_eq, bne_iff_ne, ne_eq, Bool.not_eq_eq_eq_not, Bool.not_true, Bool.not_false, beq_eq_false_iff_ne, bne_eq_false_iff_eq] at hb) <;> first | refine wSkip 14 ?_ | refine wSkipU 14 ?_ | refine wFa 14 ?_))
          all_goals (first | refine wSkip 15 ?_ | refine wSkipU 15 ?_ | refine wLd 15 ?_ | (refine tr_guard (t := 40) rfl (fun hb => ?_) (fun hb => ?_) <;> (try simp only [decide_eq_true_eq, decide_eq_false_iff_not, Bool.not_eq_true, Bool.not_eq_false, beq_iff_eq, bne_iff_ne, ne_eq, Bool.not_eq_eq_eq_not, Bool.not_true, Bool.not_false, beq_eq_false_iff_ne, bne_eq_false_iff_eq] at hb) <;> first | refine wSkip 15 ?_ | refine wSkipU 15 ?_ | refine wLd 15 ?_))
          all_goals (first | refine wSkip 16 ?_ | refine wSkipU 16 ?_ | refine wMv 16 ?_ | (refine tr_guard (t := 40) rfl (fun hb => ?_) (fun hb => ?_) <;> (try simp only [decide_eq_true_eq, decide_eq_false_iff_not, Bool.not_eq_true, Bool.not_eq_false, beq_iff_eq, bne_iff_ne, ne_eq, Bool.not_eq_eq_eq_not, Bool.not_true, Bool.not_false, beq_eq_false_iff_ne, bne_eq_false_iff_eq] at hb) <;> first | refine wSkip 16 ?_ | refine wSkipU 16 ?_ | refine wMv 16 ?_))
          all_goals (first | refine wSkip 17 ?_ | refine wSkipU 17 ?_ | refine wSb 17 ?_ | (refine tr_guard (t := 40) rfl (fun hb => ?_) (fun hb => ?_) <;> (try simp only [decide_eq_true_eq, decide_eq_false_iff_not, Bool.not_eq_true, Bool.not_eq_false, beq_iff_eq, bne_iff_ne, ne_eq, Bool.not_eq_eq_eq_not, Bool.not_true, Bool.not_false, beq_eq_false_iff_ne, bne_eq_false_iff_eq] at hb) <;> first | refine wSkip 17 ?_ | refine wSkipU 17 ?_ | refine wSb 17 ?_))
          all_goals (first | refine wSkip 18 ?_ | refine wSkipU 18 ?_ | refine wIa 18 ?_ | (refine tr_guard (t := 40) rfl (fun hb => ?_) (fun hb => ?_) <;> (try simp only [decide_eq_true_eq, decide_eq_false_iff_not, Bool.not_eq_true, Bool.not_eq_false, beq_iff_eq, bne_iff_ne, ne_eq, Bool.not_eq_eq_eq_not, Bool.not_true, Bool.not_false, beq_eq_false_iff_ne, bne_eq_false_iff_eq] at hb) <;> first | refine wSkip 18 ?_ | refine wSkipU 18 ?_ | refine wIa 18 ?_))
          all_goals (first | refine wSkip 19 ?_ | refine wSkipU 19 ?_ | refine wFa 19 ?_ | (refine tr_guard (t := 40) rfl (fun hb => ?_) (fun hb => ?_) <;> (try simp only [decide_eq_true_eq, decide_eq_false_iff_not, Bool.not_eq_true, Bool.not_eq_false, beq_iff_eq, bne_iff_ne, ne_eq, Bool.not_eq_eq_eq_not, Bool.not_true, Bool.not_false, beq_eq_false_iff_ne, bne_eq_false_iff_eq] at hb) <;> first | refine wSkip 19 ?_ | refine wSkipU 19 ?_ | refine wFa 19 ?_))
          all_goals (first | refine wSkip 20 ?_ | refine wSkipU 20 ?_ | refine wLd 20 ?_ | (refine tr_guard (t := 40) rfl (fun hb => ?_) (fun hb => ?_) <;> (try simp only [decide_eq_true_eq, decide_eq_false_iff_not, Bool.not_eq_true, Bool.not_eq_false, beq_iff_eq, bne_iff_ne, ne_eq, Bool.not_eq_eq_eq_not, Bool.not_true, Bool.not_false, beq_eq_false_iff_ne, bne_eq_false_iff_eq] at hb) <;> first | refine wSkip 20 ?_ | refine wSkipU 20 ?_ | refine wLd 20 ?_))
          all_goals (first | refine wSkip 21 ?_ | refine wSkipU 21 ?_ | refine wFa 21 ?_ | (refine tr_guard (t := 40) rfl (fun hb => ?_) (fun hb => ?_) <;> (try simp only [decide_eq_true_eq, decide_eq_false_iff_not, Bool.not_eq_true, Bool.not_eq_false, beq_iff_eq, bne_iff_ne, ne_eq, Bool.not_eq_eq_eq_not, Bool.not_true, Bool.not_false, beq_eq_false_iff_ne, bne_eq_false_iff_eq] at hb) <;> first | refine wSkip 21 ?_ | refine wSkipU 21 ?_ | refine wFa 21 ?_))
          all_goals (first | refine wSkip 22 ?_ | refine wSkipU 22 ?_ | refine wLd 22 ?_ | (refine tr_guard (t := 40) rfl (fun hb => ?_) (fun hb => ?_) <;> (try simp only [decide_eq_true_eq, decide_eq_false_iff_not, Bool.not_eq_true, Bool.not_eq_false, beq_iff_eq, bne_iff_ne, ne_eq, Bool.not_eq_eq_eq_not, Bool.not_true, Bool.not_false, beq_eq_false_iff_ne, bne_eq_false_iff_eq] at hb) <;> first | refine wSkip 22 ?_ | refine wSkipU 22 ?_ | refine wLd 22 ?_))
          all_goals (first | refine wSkip 23 ?_ | refine wSkipU 23 ?_ | refine wCm 23 ?_ | (refine tr_guard (t := 40) rfl (fun hb => ?_) (fun hb => ?_) <;> (try simp only [decide_eq_true_eq, decide_eq_false_iff_not, Bool.not_eq_true, Bool.not_eq_false, beq_iff_eq, bne_iff_ne, ne_eq, Bool.not_eq_eq_eq_not, Bool.not_true, Bool.not_false, beq_eq_false_iff_ne, bne_eq_false_iff_eq] at hb) <;> first | refine wSkip 23 ?_ | refine wSkipU 23 ?_ | refine wCm 23 ?_))
          all_goals (first | refine wSkip 24 ?_ | refine wSkipU 24 ?_ | refine wPk 24 ?_ | (refine tr_guard (t := 37) rfl (fun hb => ?_) (fun hb => ?_) <;> (try simp only [decide_eq_true_eq, decide_eq_false_iff_not, Bool.not_eq_true, Bool.not_eq_false, beq_iff_eq, bne_iff_ne, ne_eq, Bool.not_eq_eq_eq_not, Bool.not_true, Bool.not_false, beq_eq_false_iff_ne, bne_eq_false_iff_eq] at hb) <;> first | refine wSkip 24 ?_ | refine wSkipU 24 ?_ | refine wPk 24 ?_))
          all_goals refine rPk 25 ?_
          all_goals refine rMv 26 ?_
          all_goals (first | refine wSkip 27 ?_ | refine wSkipU 27 ?_ | refine wLd 27 ?_ | (refine tr_guard (t := 53) rfl (fun hb => ?_) (fun hb => ?_) <;> (try simp only [decide_eq_true_eq, decide_eq_false_iff_not, Bool.not_eq_true, Bool.not_eq_false, beq_iff_eq, bne_iff_ne, ne_eq, Bool.not_eq_eq_eq_not, Bool.not_true, Bool.not_false, beq_eq_false_iff_ne, bne_eq_false_iff_eq] at hb) <;> first | refine wSkip 27 ?_ | refine wSkipU 27 ?_ | refine wLd 27 ?_))
          all_goals (first | refine wSkip 28 ?_ | refine wSkipU 28 ?_ | (refine rStep (i := 28) ?_; ((try refine qWant ?_); (first | (refine tl_is (.func 84) ?_; refine qC rfl rfl (ht) ?_; rintro v ρ' L' hle ⟨rfl, rfl, rfl⟩ <;> (try simp only [List.cons_append, List.nil_append, List.append_eq])) | (refine qEf ?_; try intro _)) <;> ((try simp only [List.cons_append, List.nil_append, List.append_eq]); refine tl_nil ?_; refine rNext ?_))))
          all_goals refine rFull ?_
          all_goals (first | refine wSkip 29 ?_ | refine wSkipU 29 ?_ | refine wUn 29 ?_ | (refine tr_guard (t := 53) rfl (fun hb => ?_) (fun hb => ?_) <;> (try simp only [decide_eq_true_eq, decide_eq_false_iff_not, Bool.not_eq_true, Bool.not_eq_false, beq_iff_eq, bne_iff_ne, ne_eq, Bool.not_eq_eq_eq_not, Bool.not_true, Bool.not_false, beq_eq_false_iff_ne, bne_eq_false_iff_eq] at hb) <;> first | refine wSkip 29 ?_ | refine wSkipU 29 ?_ | refine wUn 29 ?_))
          all_goals refine rPk 30 ?_
          all_goals refine rDone ?_
          all_goals (repeat' (first | (refine iBu ?_; refine tl_y (y_buildN rfl) rfl rfl ?_) | (refine i_op ?_; first | (refine i_qq ?_; refine qQ ?_) | refine qEf ?_) | refine tl_nil ?_ | (refine i_tc ?_; refine qTc ?_) | (refine i_te ?_; refine qTe ?_) | (refine i_gd ?_; refine tl_guard rfl rfl (fun hb => ?_) (fun hb => ?_) <;> (try simp only [decide_eq_true_eq, decide_eq_false_iff_not, Bool.not_eq_true, Bool.not_eq_false, beq_iff_eq, bne_iff_ne, ne_eq, decide_eq_decide, Bool.not_eq_eq_eq_not, Bool.not_true, Bool.not_false, beq_eq_false_iff_ne, bne_eq_false_iff_eq, Bool.and_eq_true, Bool.or_eq_true, Bool.and_eq_false_imp, Bool.or_eq_false_iff, bq2, bqt, bqf] at hb)) | (refine i_cond ?_; refine tc_cond rfl (fun hb => ?_) (fun hb => ?_) <;> (try simp only [decide_eq_true_eq, decide_eq_false_iff_not, Bool.not_eq_true, Bool.not_eq_false, beq_iff_eq, bne_iff_ne, ne_eq, decide_eq_decide, Bool.not_eq_eq_eq_not, Bool.not_true, Bool.not_false, beq_eq_false_iff_ne, bne_eq_false_iff_eq, Bool.and_eq_true, Bool.or_eq_true, Bool.and_eq_false_imp, Bool.or_eq_false_iff, bq2, bqt, bqf] at hb)) | intro _))
          all_goals first | exact qE (L' := []) ⟨rfl, rfl, rfl⟩ | (exfalso; omega)
    · have hk2 : k = r.txns.length := by omega
      rw [hk2, List.drop_length, txsB] at hok
      subst hok
      repeat' (first | (refine iBu ?_; refine tl_y (y_buildN rfl) rfl rfl ?_) | (refine i_op ?_; first | (refine i_qq ?_; refine qQ ?_) | refine qEf ?_) | refine tl_nil ?_ | (refine i_tc ?_; refine qTc ?_) | (refine i_te ?_; refine qTe ?_) | intro _)
      exact qE (L' := []) ⟨rfl, rfl, rfl⟩
  · rw [decide_eq_false hH, Bool.false_and]
    repeat' (first | (refine iBu ?_; refine tl_y (y_buildN rfl) rfl rfl ?_) | (refine i_op ?_; first | (refine i_qq ?_; refine qQ ?_) | refine qEf ?_) | refine tl_nil ?_ | (refine i_tc ?_; refine qTc ?_) | (refine i_te ?_; refine qTe ?_) | (refine i_gd ?_; refine tl_guard rfl rfl (fun hb => ?_) (fun hb => ?_) <;> (try simp only [decide_eq_true_eq, decide_eq_false_iff_not, Bool.not_eq_true, Bool.not_eq_false, beq_iff_eq, bne_iff_ne, ne_eq, decide_eq_decide, Bool.not_eq_eq_eq_not, Bool.not_true, Bool.not_false, beq_eq_false_iff_ne, bne_eq_false_iff_eq, Bool.and_eq_true, Bool.or_eq_true, Bool.and_eq_false_imp, Bool.or_eq_false_iff, bq2, bqt, bqf] at hb)) | (refine i_cond ?_; refine tc_cond rfl (fun hb => ?_) (fun hb => ?_) <;> (try simp only [decide_eq_true_eq, decide_eq_false_iff_not, Bool.not_eq_true, Bool.not_eq_false, beq_iff_eq, bne_iff_ne, ne_eq, decide_eq_decide, Bool.not_eq_eq_eq_not, Bool.not_true, Bool.not_false, beq_eq_false_iff_ne, bne_eq_false_iff_eq, Bool.and_eq_true, Bool.or_eq_true, Bool.and_eq_false_imp, Bool.or_eq_false_iff, bq2, bqt, bqf] at hb)) | intro _)
    all_goals first | exact qE (L' := []) ⟨rfl, rfl, rfl⟩ | (exfalso; omega)
theorem ckpt18_spec (ρ : Hp) (v : SV) (r : Ros) (h : RosIn ρ v r) : Spec Try.prog 49 [.agg ⟨rosV v r⟩] ρ []
    (fun z ρ' L' => ρ.le ρ' ∧ ∃ s : SV, z = .slice s.a s.n s.c ∧ AS ρ' 5 ckTV s (r.txns.map ckOf) ∧ L' = []) := by
  have hl := h.at'.at'.len
  have hn := h.at'.big
  have hA := h.at'.at'
  refine spec_enter Try.func49 rfl rfl rfl fun u R => ?_
  simp only [argsE, List.cons_append, List.nil_append]
  repeat' (first | (refine iBu ?_; refine tl_y (y_buildN rfl) rfl rfl ?_) | (refine i_op ?_; first | (refine i_qq ?_; refine qQ ?_) | refine qEf ?_) | refine tl_nil ?_ | (refine i_tc ?_; refine qTc ?_) | (refine i_te ?_; refine qTe ?_) | intro _)
  refine tc_loop_g [(2, _), (7, _), (8, _)] (fun (ζ : (Nat) × (Value) × (List Value)) => [(9, .int .i64 ζ.1), (3, ζ.2.1)]) (fun (ζ : (Nat) × (Value) × (List Value)) => ρ) (fun (ζ : (Nat) × (Value) × (List Value)) => [ownC ζ.2.1 ((((r.txns.take ζ.1).map ckOf).map ckTV).flatten) ζ.2.2 102]) (fun (ζ : (Nat) × (Value) × (List Value)) => ζ.1 ≤ v.n ∧ OwnS ζ.2.1 ζ.1 ((((r.txns.take ζ.1).map ckOf).map ckTV).flatten) ζ.2.2 5) (fun (ζ : (Nat) × (Value) × (List Value)) => v.n - ζ.1) ((0, .slice none 0 0, [])) (⟨Nat.zero_le _, OwnS.nil 5⟩) ev_le ev_le rfl tk ?_
  rintro ⟨k, vv, sp⟩ hI
  try simp only [List.cons_append, List.nil_append, List.append_assoc, List.append_eq] at hI ⊢
  try dsimp only at hI ⊢
  obtain ⟨hk, hown⟩ := hI
  by_cases hlt : k < v.n
  · obtain ⟨b, off, C, T, fr, e1, hb, hfit, hc⟩ := hA.get (show k < r.txns.length by omega)
    have hx := List.take_succ_eq_append_getElem (show k < r.txns.length by omega)
    generalize r.txns[k]'(by omega) = x at *
    rw [e1]
    repeat' (first | (refine iBu ?_; refine tl_y (y_buildN rfl) rfl rfl ?_) | (refine i_op ?_; first | (refine i_qq ?_; refine qQ ?_) | refine qEf ?_) | refine tl_nil ?_ | (refine i_tc ?_; refine qTc ?_) | (refine i_te ?_; refine qTe ?_) | intro _)
    refine tl_buildSliceA (css := [ckTV (ckOf x)]) (sz := 5) rfl rfl rfl rfl (by simp) (by simp) rfl (fun bs => ?_)
    simp only [List.flatten_cons, List.flatten_nil, List.append_nil]
    refine tl_app (ys := ckTV (ckOf x)) (m := 1) rfl rfl hown (hR := by infer_instance) (SrcV.lit) rfl rfl (by decide) rfl (by omega) (by omega) rfl (fun v' sp' hown' => ?_)
    have hm : (((r.txns.take k).map ckOf).map ckTV).flatten ++ ckTV (ckOf x) = (((r.txns.take (k + 1)).map ckOf).map ckTV).flatten := by rw [hx]; simp
    rw [hm] at hown' ⊢
    repeat' (first | (refine iBu ?_; refine tl_y (y_buildN rfl) rfl rfl ?_) | (refine i_op ?_; first | (refine i_qq ?_; refine qQ ?_) | refine qEf ?_) | refine tl_nil ?_ | (refine i_tc ?_; refine qTc ?_) | (refine i_te ?_; refine qTe ?_) | intro _)
    rw [← e1]
    refine te_round_g (k + 1, v', sp') (⟨hlt, hown'⟩) ev_le ev_le rfl tk inferInstance (by first | omega | (dsimp only; omega))
  · have hk2 : k = r.txns.length := by omega
    rw [show r.txns.take k = r.txns by rw [hk2, List.take_length]] at hown ⊢
    repeat' (first | (refine iBu ?_; refine tl_y (y_buildN rfl) rfl rfl ?_) | (refine i_op ?_; first | (refine i_qq ?_; refine qQ ?_) | refine qEf ?_) | refine tl_nil ?_ | (refine i_tc ?_; refine qTc ?_) | (refine i_te ?_; refine qTe ?_) | intro _)
    refine te_freeze (ownC vv (((r.txns.map ckOf).map ckTV).flatten) sp 102) (fun ρ3 hle3 hfz => ?_)
    obtain ⟨sa, sc, e1, hsc, hA2⟩ := hown.aIn (by simp; omega) (fun x _ => ckTV_len x) hfz
    subst e1
    exact qE ⟨hle3, ⟨sa, k, sc⟩, rfl, ⟨hA2, by dsimp only; omega, hsc⟩, rfl⟩
end Go.Proofs.E

namespace Go.Proofs.E
open Go
set_option linter.unusedVariables false
set_option linter.unusedSimpArgs false
set_option linter.unusedSectionVars false
set_option maxRecDepth 4000
set_option maxHeartbeats 1000000
attribute [local irreducible] Yl TL TC TE Spec YSpec R1 Hp.le EnvLe TS TR YS Stays
-- BN
theorem make22_spec (ρ : Hp) (v : SV) (r : Ros) (hr : RosIn ρ v r) (s : SV) (l : List CkP) (h : AS ρ 2 ckPV s l) (hl1000 : l.length ≤ 1000) (lsn : Nat) (ht : tblOk l = true) :
    Spec Try.prog 22 [.agg ⟨rosV v r⟩, .slice s.a s.n s.c, .int .u64 lsn] ρ [] (fun z ρ' L' => ρ.le ρ' ∧ ∃ v', z = .tuple ⟨[.agg ⟨recV v' (makeR r l lsn)⟩, .int .i64 (makeE r l lsn)]⟩ ∧ RcIn ρ' v' (makeR r l lsn) ∧ L' = []) := by
  have hl := h.at'.len
  have hn := h.big
  have hrt := fun ρ1 (hle : ρ.le ρ1) => right18_spec ρ1 v r (hr.mono hle)
  unfold makeR makeE
  rw [ht]
  refine spec_enter Try.func22 rfl rfl rfl fun u R => ?_
  simp only [argsE, List.cons_append, List.nil_append]
  cases hro : rosOk r
  · simp only [hro, if_true, Bool.false_eq_true, if_false] at hrt ⊢
    repeat' (first | (refine tl_is (.func 48) ?_; refine qC rfl rfl (hrt _ (Hp.le_refl _)) ?_; rintro v ρ' L' hle ⟨rfl, rfl, rfl⟩ <;> (try simp only [List.cons_append, List.nil_append, List.append_eq])) | (refine iBu ?_; refine tl_y (y_buildN rfl) rfl rfl ?_) | (refine i_op ?_; first | (refine i_qq ?_; refine qQ ?_) | refine qEf ?_) | refine tl_nil ?_ | (refine i_tc ?_; refine qTc ?_) | (refine i_te ?_; refine qTe ?_) | intro _)
    exact qE (L' := []) ⟨Hp.le_refl _, zRV, rfl, RcIn.zero, rfl⟩
  · simp only [hro, if_true] at hrt ⊢
    repeat' (first | (refine tl_is (.func 48) ?_; refine qC rfl rfl (hrt _ (Hp.le_refl _)) ?_; rintro v ρ' L' hle ⟨rfl, rfl, rfl⟩ <;> (try simp only [List.cons_append, List.nil_append, List.append_eq])) | (refine iBu ?_; refine tl_y (y_buildN rfl) rfl rfl ?_) | (refine i_op ?_; first | (refine i_qq ?_; refine qQ ?_) | refine qEf ?_) | refine tl_nil ?_ | (refine i_tc ?_; refine qTc ?_) | (refine i_te ?_; refine qTe ?_) | intro _)
    rename_i rb cb
    refine tc_any (Stays _ _ ([[(rb, .cells ⟨rosV v r⟩ 47 (0, 0))]])) (stays_of (hT := tk) (Hp.le_refl _)) ?_
    all_goals refine rMv 0 ?_
    all_goals refine rFa 1 ?_
    all_goals refine rLd 2 ?_
    all_goals refine rLd 3 ?_
    all_goals refine rMv 6 ?_
    all_goals (refine rStep3 (i := 4) (j := 5) (k := 9) ?_ ?_ ?_ <;> ((try refine qWant ?_); (first | (refine tl_is (.func 49) ?_; refine qC rfl rfl (ckpt18_spec _ v r hr) ?_; rintro v ρ' L' hle ⟨hle2, s2, rfl, hs2, rfl⟩ <;> (try simp only [List.cons_append, List.nil_append, List.append_eq])) | (refine qEf ?_; try intro _)) <;> ((try simp only [List.cons_append, List.nil_append, List.append_eq]); refine tl_nil ?_; refine rNext ?_)))
    all_goals (first | (refine rStep2 (i := 5) (j := 9) ?_ ?_ <;> ((try refine qWant ?_); (first | (refine qEf ?_; try intro _)) <;> ((try simp only [List.cons_append, List.nil_append, List.append_eq]); refine tl_nil ?_; refine rNext ?_))) | (refine rStep2 (i := 4) (j := 9) ?_ ?_ <;> ((try refine qWant ?_); (first | (refine tl_is (.func 49) ?_; refine qC rfl rfl (ckpt18_spec _ v r hr) ?_; rintro v ρ' L' hle ⟨hle2, s2, rfl, hs2, rfl⟩ <;> (try simp only [List.cons_append, List.nil_append, List.append_eq])) | (refine qEf ?_; try intro _)) <;> ((try simp only [List.cons_append, List.nil_append, List.append_eq]); refine tl_nil ?_; refine rNext ?_))) | (refine rStep2 (i := 4) (j := 5) ?_ ?_ <;> ((try refine qWant ?_); (first | (refine tl_is (.func 49) ?_; refine qC rfl rfl (ckpt18_spec _ v r hr) ?_; rintro v ρ' L' hle ⟨hle2, s2, rfl, hs2, rfl⟩ <;> (try simp only [List.cons_append, List.nil_append, List.append_eq])) | (refine qEf ?_; try intro _)) <;> ((try simp only [List.cons_append, List.nil_append, List.append_eq]); refine tl_nil ?_; refine rNext ?_))))
    all_goals (first | (refine rStep2 (i := 7) (j := 9) ?_ ?_ <;> ((try refine qWant ?_); (first | (refine tl_app (n := 0) (xs := []) (sp := []) (ys := flatP l) (m := s.n) (sz := 2) rfl rfl (OwnS.zero' _ 2) (hR := by repeat (first | exact rem_here' | apply rem_there')) (h.mono hle2).at'.srcV (by rw [flatP_len, hl]) (flatP_one _) (by decide) rfl (by omega) (by omega) rfl (fun v' sp' hown' => ?_); simp only [Nat.zero_add, List.nil_append] at hown' ⊢; obtain ⟨va', vc', rfl, _⟩ := hown'.slice) | (refine qEf ?_; try intro _)) <;> ((try simp only [List.cons_append, List.nil_append, List.append_eq]); refine tl_nil ?_; refine rNext ?_))) | (refine rStep (i := 5) ?_; ((try refine qWant ?_); (first | (refine qEf ?_; try intro _)) <;> ((try simp only [List.cons_append, List.nil_append, List.append_eq]); refine tl_nil ?_; refine rNext ?_))) | (refine rStep (i := 4) ?_; ((try refine qWant ?_); (first | (refine tl_is (.func 49) ?_; refine qC rfl rfl (ckpt18_spec _ v r hr) ?_; rintro v ρ' L' hle ⟨hle2, s2, rfl, hs2, rfl⟩ <;> (try simp only [List.cons_append, List.nil_append, List.append_eq])) | (refine qEf ?_; try intro _)) <;> ((try simp only [List.cons_append, List.nil_append, List.append_eq]); refine tl_nil ?_; refine rNext ?_))))
    all_goals (first | refine rBu 8 ?_ | (refine rStep (i := 7) ?_; ((try refine qWant ?_); (first | (refine tl_app (n := 0) (xs := []) (sp := []) (ys := flatP l) (m := s.n) (sz := 2) rfl rfl (OwnS.zero' _ 2) (hR := by repeat (first | exact rem_here' | apply rem_there')) (h.mono hle2).at'.srcV (by rw [flatP_len, hl]) (flatP_one _) (by decide) rfl (by omega) (by omega) rfl (fun v' sp' hown' => ?_); simp only [Nat.zero_add, List.nil_append] at hown' ⊢; obtain ⟨va', vc', rfl, _⟩ := hown'.slice) | (refine qEf ?_; try intro _)) <;> ((try simp only [List.cons_append, List.nil_append, List.append_eq]); refine tl_nil ?_; refine rNext ?_))))
    all_goals (first | (refine rStep (i := 9) ?_; ((try refine qWant ?_); (first | (refine qEf ?_; try intro _)) <;> ((try simp only [List.cons_append, List.nil_append, List.append_eq]); refine tl_nil ?_; refine rNext ?_))) | refine rBu 8 ?_)
    all_goals (refine rStep (i := 10) ?_; ((try refine qWant ?_); (first | (refine qEf ?_; try intro _)) <;> ((try simp only [List.cons_append, List.nil_append, List.append_eq]); refine tl_nil ?_; refine rNext ?_)))
    all_goals refine rDone ?_
    all_goals (
      refine te_freeze (ownC (.slice va' s.n vc') (flatP l) sp' 74) (fun ρ3 hle3 hfz => ?_)
      obtain ⟨sa, sc, f1, hsc, hA2⟩ := hown'.aIn hl (fun x _ => ckPV_len x) hfz
      cases f1
      have hX : RcIn ρ3 ⟨nilS, nilS, s2, ⟨va', s.n, vc'⟩⟩ (makeX r l lsn) := ⟨AS.nil, by simp [makeX], AS.nil, hs2.mono hle3, ⟨hA2, hn, hsc⟩, by simp [makeX]⟩
      have hck := right12k_spec _ _ _ hX rfl rfl rfl
      have hz := Hp.le_trans hle2 hle3
      cases hok : recOk (makeX r l lsn)
      · simp only [hok, Bool.false_eq_true, if_false] at hck ⊢
        repeat' (first | (refine tl_is (.func 14) ?_; refine qC rfl rfl (hck) ?_; rintro v ρ' L' hle ⟨rfl, rfl, rfl⟩ <;> (try simp only [List.cons_append, List.nil_append, List.append_eq])) | (refine iBu ?_; refine tl_y (y_buildN rfl) rfl rfl ?_) | (refine i_op ?_; first | (refine i_qq ?_; refine qQ ?_) | refine qEf ?_) | refine tl_nil ?_ | (refine i_tc ?_; refine qTc ?_) | (refine i_te ?_; refine qTe ?_) | intro _)
        exact qE (L' := []) ⟨hz, zRV, rfl, RcIn.zero, rfl⟩
      · simp only [hok, if_true] at hck ⊢
        repeat' (first | (refine tl_is (.func 14) ?_; refine qC rfl rfl (hck) ?_; rintro v ρ' L' hle ⟨rfl, rfl, rfl⟩ <;> (try simp only [List.cons_append, List.nil_append, List.append_eq])) | (refine iBu ?_; refine tl_y (y_buildN rfl) rfl rfl ?_) | (refine i_op ?_; first | (refine i_qq ?_; refine qQ ?_) | refine qEf ?_) | refine tl_nil ?_ | (refine i_tc ?_; refine qTc ?_) | (refine i_te ?_; refine qTe ?_) | intro _)
        exact qE (L' := []) ⟨hz, _, rfl, hX, rfl⟩)
end Go.Proofs.E

namespace Go.Proofs.E
open Go Go.RowKit
set_option linter.unusedVariables false
set_option linter.unusedSimpArgs false
set_option linter.unusedSectionVars false
set_option maxRecDepth 8000
/-! ## rosters that came in -/
structure RosW (ρ : Hp) (v : SV) (r : Ros) : Prop where
  at' : AW ρ 7 txV v r.txns
  tx : ∀ x ∈ r.txns, Tx.In ρ x
theorem RosW.in' {ρ v r} (h : RosW ρ v r) (hn : v.n ≤ 1000000) : RosIn ρ v r := ⟨⟨h.at'.at', hn, h.at'.cap⟩, h.tx⟩
theorem RosW.mono {ρ ρ' v r} (h : RosW ρ v r) (hle : ρ.le ρ') : RosW ρ' v r := ⟨h.at'.mono hle, fun x hx => (h.tx x hx).mono hle⟩
theorem sIn_ofA {ρ : Hp} {α : Type} {g : α → Value} {a : Option Addr} {n : Nat} {l : List α} (h : AIn ρ 1 (fun x => [g x]) a n l) : SIn ρ g a n l := by
  refine ⟨h.len, ?_⟩
  rcases h.out with h0 | ⟨b, off, C, T, fr, e1, e2, e3, e4⟩
  · exact .inl h0
  · right
    refine ⟨b, off, C, T, fr, e1, e2, ?_⟩
    have key : ∀ l : List α, (l.map (fun x => [g x])).flatten = l.map g := fun l => by
      induction l with
      | nil => rfl
      | cons a r ih => simp only [List.map_cons, List.flatten_cons, ih, List.singleton_append]
    have := key l
    rw [← this, ← e4]; simp
section
variable {H : Type} {enc : TypeId × Value → H} {w : World}
theorem opnS_left : OpnS enc Try.prog w 151 (fun cs (x : Lf) => cs = lfV x ∧ True) := fun fuel cs x h hw => by
  obtain ⟨hl, hf⟩ := opnS_fields Try.underlying151 h hw
  have hl : cs.length = 2 := by rw [hl]; kernel_rfl
  obtain ⟨c0, c1, rfl⟩ : ∃ c0 c1, cs = [c0, c1] := by
    match cs, hl with
    | [c0, c1], _ => exact ⟨c0, c1, rfl⟩
  obtain ⟨k, h0, k0, _⟩ := opnS_field h hw Try.underlying151 0 0 1 rfl rfl rfl (by kernel_rfl) (opn_int Try.underlying27).sized
  obtain ⟨f, h1, f0, f1⟩ := opnS_field h hw Try.underlying151 1 1 1 rfl rfl rfl (by kernel_rfl) (opn_int Try.underlying3).sized
  simp only [List.drop_zero, List.drop_succ_cons, List.take_succ_cons, List.take_zero, List.cons.injEq, and_true] at h0 h1
  subst h0; subst h1
  refine ⟨⟨k.toNat, f⟩, ?_, trivial⟩
  simp only [lfV, u64_back k0]
theorem opnS_u64 : OpnS enc Try.prog w 27 (fun cs (x : Nat) => cs = [u64c x] ∧ x < 18446744073709551616) := fun fuel cs x h hw => by
  obtain ⟨k, h0, k0, k1⟩ := (opn_int Try.underlying27).sized fuel cs x h hw
  refine ⟨k.toNat, by rw [h0]; simp only [u64c, u64_back k0], ?_⟩
  simp only [lo, hi] at k0 k1; omega
theorem opnS_txn : OpnS enc Try.prog w 119 (fun cs (x : Tx) => cs = txV x ∧ Tx.In (hpOf w) x) := fun fuel cs x h hw => by
  obtain ⟨hl, hf⟩ := opnS_fields Try.underlying119 h hw
  have hl : cs.length = 7 := by rw [hl]; kernel_rfl
  obtain ⟨c0, c1, c2, c3, c4, c5, c6, rfl⟩ : ∃ c0 c1 c2 c3 c4 c5 c6, cs = [c0, c1, c2, c3, c4, c5, c6] := by
    match cs, hl with
    | [c0, c1, c2, c3, c4, c5, c6], _ => exact ⟨c0, c1, c2, c3, c4, c5, c6, rfl⟩
  obtain ⟨k, h0, _⟩ := opnS_field h hw Try.underlying119 0 0 1 rfl rfl rfl (by kernel_rfl) (opn_int Try.underlying3).sized
  obtain ⟨s, h1, _⟩ := opnS_field h hw Try.underlying119 1 1 1 rfl rfl rfl (by kernel_rfl) (opn_int Try.underlying3).sized
  obtain ⟨f, h2, f0, _⟩ := opnS_field h hw Try.underlying119 2 2 1 rfl rfl rfl (by kernel_rfl) (opn_int Try.underlying27).sized
  obtain ⟨l, h3, l0, _⟩ := opnS_field h hw Try.underlying119 3 3 1 rfl rfl rfl (by kernel_rfl) (opn_int Try.underlying27).sized
  obtain ⟨u, h4, u0, _⟩ := opnS_field h hw Try.underlying119 4 4 1 rfl rfl rfl (by kernel_rfl) (opn_int Try.underlying27).sized
  obtain ⟨⟨sa, sn, sc, st⟩, h5, w5⟩ := opnS_field h hw Try.underlying119 5 5 1 rfl rfl rfl (by kernel_rfl) (opnS_slice (sz := 2) (by' := 16) Try.underlying117 (by kernel_rfl) (by decide) (by kernel_rfl) opnS_left)
  obtain ⟨⟨ma, mn, mc, ms⟩, h6, w6⟩ := opnS_field h hw Try.underlying119 6 6 1 rfl rfl rfl (by kernel_rfl) (opnS_slice (sz := 1) (by' := 8) Try.underlying48 (by kernel_rfl) (by decide) (by kernel_rfl) opnS_u64)
  obtain ⟨s1, s2, s3, _⟩ := aIn_ofW lfV_len h5
  obtain ⟨m1, m2, m3, _⟩ := aIn_ofW (g := fun x : Nat => [u64c x]) (fun _ => rfl) h6
  simp only [reachBytes] at w5 w6
  replace h5 := h5.cells
  replace h6 := h6.cells
  simp only [List.drop_zero, List.drop_succ_cons, List.take_succ_cons, List.take_zero, List.cons.injEq, and_true] at h0 h1 h2 h3 h4 h5 h6
  subst h0; subst h1; subst h2; subst h3; subst h4; subst h5; subst h6
  refine ⟨⟨k, s, f.toNat, l.toNat, u.toNat, st, ms, ⟨sa, sn, sc⟩, ⟨ma, mn, mc⟩⟩, ?_, ⟨s1, sIn_ofA m1, by dsimp only; omega, by dsimp only; omega, s3, m3⟩⟩
  simp only [txV, u64_back f0, u64_back l0, u64_back u0]
theorem opnS_roster : OpnS enc Try.prog w 47 (fun cs (x : SV × Ros) => cs = rosV x.1 x.2 ∧ RosW (hpOf w) x.1 x.2) := fun fuel cs x h hw => by
  obtain ⟨hl, hf⟩ := opnS_fields Try.underlying47 h hw
  have hl : cs.length = 2 := by rw [hl]; kernel_rfl
  obtain ⟨c0, c1, rfl⟩ : ∃ c0 c1, cs = [c0, c1] := by
    match cs, hl with
    | [c0, c1], _ => exact ⟨c0, c1, rfl⟩
  obtain ⟨k, h0, _⟩ := opnS_field h hw Try.underlying47 0 0 1 rfl rfl rfl (by kernel_rfl) (opn_int Try.underlying3).sized
  obtain ⟨⟨ta, tn, tc, ts⟩, h1, w1⟩ := opnS_field h hw Try.underlying47 1 1 1 rfl rfl rfl (by kernel_rfl) (opnS_slice (sz := 7) (by' := 88) Try.underlying45 (by kernel_rfl) (by decide) (by kernel_rfl) opnS_txn)
  obtain ⟨t1, t2, t3, _⟩ := aIn_ofW txV_len h1
  simp only [reachBytes] at w1
  replace h1 := h1.cells
  simp only [List.drop_zero, List.drop_succ_cons, List.take_succ_cons, List.take_zero, List.cons.injEq, and_true] at h0 h1
  subst h0; subst h1
  exact ⟨(⟨ta, tn, tc⟩, ⟨k, ts⟩), rfl, ⟨⟨t1, by dsimp only; omega, t3⟩, t2⟩⟩
end
end Go.Proofs.E

namespace Go.Proofs.E
open Go
set_option linter.unusedVariables false
set_option linter.unusedSimpArgs false
set_option linter.unusedSectionVars false
set_option maxRecDepth 4000
set_option maxHeartbeats 1000000
attribute [local irreducible] Yl TL TC TE Spec YSpec R1 Hp.le EnvLe TS TR YS Stays
-- BN
instance (priority := 1200) eqCkPh {x : CkP} : EqC Try.prog 8 74 (.agg ⟨ckPV x⟩) (.agg ⟨ckPV x⟩) true := by
  have h : EqC Try.prog 8 74 (.agg ⟨[.int .i64 x.page, .int .u64 x.since]⟩) (.agg ⟨[.int .i64 x.page, .int .u64 x.since]⟩) _ := inferInstance
  exact ⟨fun d w hd => by rw [h.out d w hd]; simp⟩
instance (priority := 1200) eqCkTh {x : CkT} : EqC Try.prog 8 102 (.agg ⟨ckTV x⟩) (.agg ⟨ckTV x⟩) true := by
  have h : EqC Try.prog 8 102 (.agg ⟨[.int .i64 x.txn, .int .u64 x.first, .int .u64 x.last, .int .u64 x.undo, .int .i64 x.state]⟩) (.agg ⟨[.int .i64 x.txn, .int .u64 x.first, .int .u64 x.last, .int .u64 x.undo, .int .i64 x.state]⟩) _ := inferInstance
  exact ⟨fun d w hd => by rw [h.out d w hd]; simp⟩
theorem same12k_spec (ρ : Hp) (v v' : RV) (x : Rc) (h : RcIn ρ v x) (h' : RcIn ρ v' x) (hi : x.ims = []) (hs : x.steps = []) : Spec Try.prog 23 [.agg ⟨recV v x⟩, .agg ⟨recV v' x⟩] ρ [] (fun z ρ' L' => z = .bool true ∧ ρ' = ρ ∧ L' = []) := by
  have n1 := h.i.at'.len
  have n2 := h'.i.at'.len
  have n3 := h.s.at'.len
  have n4 := h'.s.at'.len
  have n5 := h.t.at'.len
  have n6 := h'.t.at'.len
  have n7 := h.d.at'.len
  have n8 := h'.d.at'.len
  have b5 := h.t.big
  have b7 := h.d.big
  have hT := h.t.at'
  have hT' := h'.t.at'
  have hD := h.d.at'
  have hD' := h'.d.at'
  rw [hi] at n1 n2
  rw [hs] at n3 n4
  simp only [List.length_nil] at n1 n2 n3 n4
  rw [show recV v x = [.int .i64 x.kind, .int .u64 x.lsn, .int .i64 x.txn, .int .u64 x.prev, .int .u64 x.next, .slice v.i.a 0 v.i.c, .slice v.s.a 0 v.s.c, .int .i64 x.nextTxn, .slice v.t.a v.t.n v.t.c, .slice v.d.a v.d.n v.d.c] by unfold recV; rw [← n1, ← n3]]
  rw [show recV v' x = [.int .i64 x.kind, .int .u64 x.lsn, .int .i64 x.txn, .int .u64 x.prev, .int .u64 x.next, .slice v'.i.a 0 v'.i.c, .slice v'.s.a 0 v'.s.c, .int .i64 x.nextTxn, .slice v'.t.a v.t.n v'.t.c, .slice v'.d.a v.d.n v'.d.c] by unfold recV; rw [← n2, ← n4, show v'.t.n = v.t.n by omega, show v'.d.n = v.d.n by omega]]
  have e5 : v'.t.n = v.t.n := by omega
  have e7 : v'.d.n = v.d.n := by omega
  rw [e5] at hT'
  rw [e7] at hD'
  refine spec_enter Try.func23 rfl rfl rfl fun u R => ?_
  simp only [argsE, List.cons_append, List.nil_append]
  repeat' (first | (refine iBu ?_; refine tl_y (y_buildN rfl) rfl rfl ?_) | (refine i_op ?_; first | (refine i_qq ?_; refine qQ ?_) | refine qEf ?_) | refine tl_nil ?_ | (refine i_tc ?_; refine qTc ?_) | (refine i_te ?_; refine qTe ?_) | intro _)
  rename_i b2 b3
  refine tc_loop_g [(2, _), (3, _), (87, _)] (fun (ζ : (Nat)) => [(88, .int .i64 0), (4, .bool false)]) (fun (ζ : (Nat)) => ρ) (fun (ζ : (Nat)) => [[(b3, .cells ⟨[.int .i64 x.kind, .int .u64 x.lsn, .int .i64 x.txn, .int .u64 x.prev, .int .u64 x.next, .slice v'.i.a 0 v'.i.c, .slice v'.s.a 0 v'.s.c, .int .i64 x.nextTxn, .slice v'.t.a v.t.n v'.t.c, .slice v'.d.a v.d.n v'.d.c]⟩ 32 (0, 0))], [(b2, .cells ⟨[.int .i64 x.kind, .int .u64 x.lsn, .int .i64 x.txn, .int .u64 x.prev, .int .u64 x.next, .slice v.i.a 0 v.i.c, .slice v.s.a 0 v.s.c, .int .i64 x.nextTxn, .slice v.t.a v.t.n v.t.c, .slice v.d.a v.d.n v.d.c]⟩ 32 (0, 0))]]) (fun (ζ : (Nat)) => True) (fun (ζ : (Nat)) => 0) (0) (trivial) ev_le ev_le rfl tk ?_
  rintro k0 hI
  try simp only [List.cons_append, List.nil_append, List.append_assoc, List.append_eq] at hI ⊢
  try dsimp only at hI ⊢
  repeat' (first | (refine iBu ?_; refine tl_y (y_buildN rfl) rfl rfl ?_) | (refine i_op ?_; first | (refine i_qq ?_; refine qQ ?_) | refine qEf ?_) | refine tl_nil ?_ | (refine i_tc ?_; refine qTc ?_) | (refine i_te ?_; refine qTe ?_) | intro _)
  refine tc_loop_g [(2, _), (3, _), (125, _)] (fun (ζ : (Nat)) => [(126, .int .i64 0), (4, .bool false)]) (fun (ζ : (Nat)) => ρ) (fun (ζ : (Nat)) => [[(b3, .cells ⟨[.int .i64 x.kind, .int .u64 x.lsn, .int .i64 x.txn, .int .u64 x.prev, .int .u64 x.next, .slice v'.i.a 0 v'.i.c, .slice v'.s.a 0 v'.s.c, .int .i64 x.nextTxn, .slice v'.t.a v.t.n v'.t.c, .slice v'.d.a v.d.n v'.d.c]⟩ 32 (0, 0))], [(b2, .cells ⟨[.int .i64 x.kind, .int .u64 x.lsn, .int .i64 x.txn, .int .u64 x.prev, .int .u64 x.next, .slice v.i.a 0 v.i.c, .slice v.s.a 0 v.s.c, .int .i64 x.nextTxn, .slice v.t.a v.t.n v.t.c, .slice v.d.a v.d.n v.d.c]⟩ 32 (0, 0))]]) (fun (ζ : (Nat)) => True) (fun (ζ : (Nat)) => 0) (0) (trivial) ev_le ev_le rfl tk ?_
  rintro k1 hI
  try simp only [List.cons_append, List.nil_append, List.append_assoc, List.append_eq] at hI ⊢
  try dsimp only at hI ⊢
  repeat' (first | (refine iBu ?_; refine tl_y (y_buildN rfl) rfl rfl ?_) | (refine i_op ?_; first | (refine i_qq ?_; refine qQ ?_) | refine qEf ?_) | refine tl_nil ?_ | (refine i_tc ?_; refine qTc ?_) | (refine i_te ?_; refine qTe ?_) | intro _)
  refine tc_loop_g [(2, _), (3, _), (143, _)] (fun (ζ : (Nat)) => [(144, .int .i64 ζ), (4, .bool false)]) (fun (ζ : (Nat)) => ρ) (fun (ζ : (Nat)) => [[(b3, .cells ⟨[.int .i64 x.kind, .int .u64 x.lsn, .int .i64 x.txn, .int .u64 x.prev, .int .u64 x.next, .slice v'.i.a 0 v'.i.c, .slice v'.s.a 0 v'.s.c, .int .i64 x.nextTxn, .slice v'.t.a v.t.n v'.t.c, .slice v'.d.a v.d.n v'.d.c]⟩ 32 (0, 0))], [(b2, .cells ⟨[.int .i64 x.kind, .int .u64 x.lsn, .int .i64 x.txn, .int .u64 x.prev, .int .u64 x.next, .slice v.i.a 0 v.i.c, .slice v.s.a 0 v.s.c, .int .i64 x.nextTxn, .slice v.t.a v.t.n v.t.c, .slice v.d.a v.d.n v.d.c]⟩ 32 (0, 0))]]) (fun (ζ : (Nat)) => ζ ≤ v.t.n) (fun (ζ : (Nat)) => v.t.n - ζ) (0) (Nat.zero_le _) ev_le ev_le rfl tk ?_
  rintro k hI
  try simp only [List.cons_append, List.nil_append, List.append_assoc, List.append_eq] at hI ⊢
  try dsimp only at hI ⊢
  by_cases hlt : k < v.t.n
  · obtain ⟨b, off, C, T, fr, f1, hb, hfit, hc⟩ := hT.get (show k < x.txns.length by omega)
    obtain ⟨bb, off2, C2, T2, fr2, f2, hb2, hfit2, hc2⟩ := hT'.get (show k < x.txns.length by omega)
    generalize x.txns[k]'(by omega) = y at *
    rw [f1, f2]
    repeat' (first | (refine iBu ?_; refine tl_y (y_buildN rfl) rfl rfl ?_) | (refine i_op ?_; first | (refine i_qq ?_; refine qQ ?_) | refine qEf ?_) | refine tl_nil ?_ | (refine i_tc ?_; refine qTc ?_) | (refine i_te ?_; refine qTe ?_) | intro _)
    refine tc_any (Stays _ _ _) stays_refl ?_
    all_goals refine rFa 0 ?_
    all_goals refine rFull ?_
    all_goals refine rLd 1 ?_
    all_goals refine rMv 2 ?_
    all_goals refine rIa 3 ?_
    all_goals refine rLd 4 ?_
    all_goals refine rFa 5 ?_
    all_goals refine rLd 6 ?_
    all_goals refine rMv 7 ?_
    all_goals refine rIa 8 ?_
    all_goals refine rLd 9 ?_
    all_goals refine rCm 10 ?_
    all_goals refine rDone ?_
    all_goals (repeat' (first | (refine iBu ?_; refine tl_y (y_buildN rfl) rfl rfl ?_) | (refine i_op ?_; first | (refine i_qq ?_; refine qQ ?_) | refine qEf ?_) | refine tl_nil ?_ | (refine i_tc ?_; refine qTc ?_) | (refine i_te ?_; refine qTe ?_) | intro _))
    all_goals rw [← f1, ← f2]
    all_goals refine te_round_g (k + 1) (hlt) ev_le ev_le rfl tk inferInstance (by first | omega | (dsimp only; omega))
  · repeat' (first | (refine iBu ?_; refine tl_y (y_buildN rfl) rfl rfl ?_) | (refine i_op ?_; first | (refine i_qq ?_; refine qQ ?_) | refine qEf ?_) | refine tl_nil ?_ | (refine i_tc ?_; refine qTc ?_) | (refine i_te ?_; refine qTe ?_) | intro _)
    refine tc_loop_g [(2, _), (3, _), (161, _)] (fun (ζ : (Nat)) => [(162, .int .i64 ζ), (4, .bool false)]) (fun (ζ : (Nat)) => ρ) (fun (ζ : (Nat)) => [[(b3, .cells ⟨[.int .i64 x.kind, .int .u64 x.lsn, .int .i64 x.txn, .int .u64 x.prev, .int .u64 x.next, .slice v'.i.a 0 v'.i.c, .slice v'.s.a 0 v'.s.c, .int .i64 x.nextTxn, .slice v'.t.a v.t.n v'.t.c, .slice v'.d.a v.d.n v'.d.c]⟩ 32 (0, 0))], [(b2, .cells ⟨[.int .i64 x.kind, .int .u64 x.lsn, .int .i64 x.txn, .int .u64 x.prev, .int .u64 x.next, .slice v.i.a 0 v.i.c, .slice v.s.a 0 v.s.c, .int .i64 x.nextTxn, .slice v.t.a v.t.n v.t.c, .slice v.d.a v.d.n v.d.c]⟩ 32 (0, 0))]]) (fun (ζ : (Nat)) => ζ ≤ v.d.n) (fun (ζ : (Nat)) => v.d.n - ζ) (0) (Nat.zero_le _) ev_le ev_le rfl tk ?_
    rintro j hI
    try simp only [List.cons_append, List.nil_append, List.append_assoc, List.append_eq] at hI ⊢
    try dsimp only at hI ⊢
    by_cases hjt : j < v.d.n
    · obtain ⟨b, off, C, T, fr, f1, hb, hfit, hc⟩ := hD.get (show j < x.dirty.length by omega)
      obtain ⟨bb, off2, C2, T2, fr2, f2, hb2, hfit2, hc2⟩ := hD'.get (show j < x.dirty.length by omega)
      generalize x.dirty[j]'(by omega) = y at *
      rw [f1, f2]
      repeat' (first | (refine iBu ?_; refine tl_y (y_buildN rfl) rfl rfl ?_) | (refine i_op ?_; first | (refine i_qq ?_; refine qQ ?_) | refine qEf ?_) | refine tl_nil ?_ | (refine i_tc ?_; refine qTc ?_) | (refine i_te ?_; refine qTe ?_) | intro _)
      refine tc_any (Stays _ _ _) stays_refl ?_
      all_goals refine rFa 0 ?_
      all_goals refine rFull ?_
      all_goals refine rLd 1 ?_
      all_goals refine rMv 2 ?_
      all_goals refine rIa 3 ?_
      all_goals refine rLd 4 ?_
      all_goals refine rFa 5 ?_
      all_goals refine rLd 6 ?_
      all_goals refine rMv 7 ?_
      all_goals refine rIa 8 ?_
      all_goals refine rLd 9 ?_
      all_goals refine rCm 10 ?_
      all_goals refine rDone ?_
      all_goals (repeat' (first | (refine iBu ?_; refine tl_y (y_buildN rfl) rfl rfl ?_) | (refine i_op ?_; first | (refine i_qq ?_; refine qQ ?_) | refine qEf ?_) | refine tl_nil ?_ | (refine i_tc ?_; refine qTc ?_) | (refine i_te ?_; refine qTe ?_) | intro _))
      all_goals rw [← f1, ← f2]
      all_goals refine te_round_g (j + 1) (hjt) ev_le ev_le rfl tk inferInstance (by first | omega | (dsimp only; omega))
    · repeat' (first | (refine iBu ?_; refine tl_y (y_buildN rfl) rfl rfl ?_) | (refine i_op ?_; first | (refine i_qq ?_; refine qQ ?_) | refine qEf ?_) | refine tl_nil ?_ | (refine i_tc ?_; refine qTc ?_) | (refine i_te ?_; refine qTe ?_) | intro _)
      exact qE (L' := []) ⟨rfl, rfl, rfl⟩
end Go.Proofs.E

