/- The codec of layer 6 as functions on bytes, and what its functions come to. Part 4 of 4. -/
import Derived.Test.YtkgenlmcdbafmaaB3
namespace Go.Proofs.E
open Go
set_option linter.unusedVariables false
set_option linter.unusedSimpArgs false
set_option linter.unusedSectionVars false
set_option maxRecDepth 4000
set_option maxHeartbeats 1000000
attribute [local irreducible] Yl TL TC TE Spec YSpec R1 Hp.le EnvLe TS TR YS Stays
def risesB {α : Type} (most : Nat) (right : Nat → α → Bool) (lt : α → α → Bool) (l : List α) : Nat → Bool
  | 0 => decide (l.length ≤ most)
  | k + 1 => risesB most right lt l k && (match l[k]? with | some x => right k x && (decide (k = 0) || (match l[k - 1]? with | some y => lt y x | none => false)) | none => false)
theorem risesB_succ {α : Type} {most : Nat} {right : Nat → α → Bool} {lt : α → α → Bool} {l : List α} {k : Nat} (h : k < l.length) : risesB most right lt l (k + 1) = (risesB most right lt l k && (right k l[k] && (decide (k = 0) || lt (l[k - 1]'(by omega)) l[k]))) := by
  rw [risesB]
  simp [h, show k - 1 < l.length by omega]
theorem risesB_false {α : Type} {most : Nat} {right : Nat → α → Bool} {lt : α → α → Bool} {l : List α} {k : Nat} (h : risesB most right lt l k = false) : ∀ m, risesB most right lt l (k + m) = false
  | 0 => h
  | m + 1 => by rw [← Nat.add_assoc, risesB, risesB_false h m]; rfl
theorem risesB_false' {α : Type} {most : Nat} {right : Nat → α → Bool} {lt : α → α → Bool} {l : List α} {k n : Nat} (h : risesB most right lt l k = false) (hk : k ≤ n) : risesB most right lt l n = false := by
  have := risesB_false h (n - k)
  rwa [Nat.add_sub_cancel' hk] at this
theorem leaf1_spec (ρ : Hp) (r : Row) : Spec Try.prog 156 [.agg ⟨rowV r⟩] ρ [] (fun v ρ' L' => v = .agg ⟨keyV r.t r.id⟩ ∧ ρ' = ρ ∧ L' = []) := by
  refine spec_enter Try.func156 rfl rfl rfl fun u R => ?_
  simp only [argsE, List.cons_append, List.nil_append]
  repeat' (first | (refine i_op ?_; first | (refine i_qq ?_; refine qQ ?_) | refine qEf ?_) | refine tl_nil ?_ | (refine i_tc ?_; refine qTc ?_) | (refine i_te ?_; refine qTe ?_) | intro _)
  exact qE ⟨rfl, rfl, rfl⟩
theorem leaf2_spec (ρ : Hp) (i : Int) (r : Row) : Spec Try.prog 157 [.int .i64 i, .agg ⟨rowV r⟩] ρ [] (fun v ρ' L' => v = .bool (rowOk r) ∧ ρ' = ρ ∧ L' = []) := by
  refine spec_enter Try.func157 rfl rfl rfl fun u R => ?_
  simp only [argsE, List.cons_append, List.nil_append]
  cases h : rowOk r
  · repeat' (first | (refine tl_is (.func 37) ?_; refine qC rfl rfl (checkRow_spec _ r) ?_; rintro v ρ' L' hle ⟨rfl, rfl, rfl⟩ <;> (try simp only [List.cons_append, List.nil_append, List.append_eq, h, if_false, Bool.false_eq_true])) | (refine i_op ?_; first | (refine i_qq ?_; refine qQ ?_) | refine qEf ?_) | refine tl_nil ?_ | (refine i_tc ?_; refine qTc ?_) | (refine i_te ?_; refine qTe ?_) | intro _)
    exact qE ⟨rfl, rfl, rfl⟩
  · repeat' (first | (refine tl_is (.func 37) ?_; refine qC rfl rfl (checkRow_spec _ r) ?_; rintro v ρ' L' hle ⟨rfl, rfl, rfl⟩ <;> (try simp only [List.cons_append, List.nil_append, List.append_eq, h, if_true])) | (refine i_op ?_; first | (refine i_qq ?_; refine qQ ?_) | refine qEf ?_) | refine tl_nil ?_ | (refine i_tc ?_; refine qTc ?_) | (refine i_te ?_; refine qTe ?_) | intro _)
    exact qE ⟨rfl, rfl, rfl⟩
def ltR (y x : Row) : Bool := decide (cmpK y.t y.id x.t x.id < 0)
def rowsOk (l : List Row) : Bool := risesB 4 (fun _ r => rowOk r) ltR l l.length
theorem rowV_len (r : Row) : (rowV r).length = 4 := rfl
theorem rowV_one (r : Row) : (rowV r).all (·.oneCell') = true := rfl
theorem risesRow_spec (ρ : Hp) (a : Option Addr) (n c : Nat) (l : List Row) (h : AIn ρ 4 rowV a n l) (hn : n ≤ 1000000) :
    Spec Try.prog 155 [.slice a n c, .int .i64 4, .func (.func 156) ⟨[]⟩ ⟨[]⟩, .func (.func 157) ⟨[]⟩ ⟨[]⟩] ρ [] (fun v ρ' L' => v = .bool (rowsOk l) ∧ ρ' = ρ ∧ L' = []) := by
  have hl := h.len
  unfold rowsOk
  rw [hl]
  refine spec_enter Try.func155 rfl rfl rfl fun u R => ?_
  simp only [argsE, List.cons_append, List.nil_append]
  repeat' (first | (refine i_op ?_; first | (refine i_qq ?_; refine qQ ?_) | refine qEf ?_) | refine tl_nil ?_ | (refine i_tc ?_; refine qTc ?_) | (refine i_te ?_; refine qTe ?_) | intro _)
  have e0 : decide ((n : Int) ≤ 4) = risesB 4 (fun _ r => rowOk r) ltR l 0 := by
    rw [risesB]; simp [hl]; omega
  rw [e0]
  refine tc_loop_g [(0, _), (2, _), (3, _), (8, _), (16, _), (17, _)] (fun (ζ : (Nat)) => [(18, .int .i64 ζ), (9, .bool (risesB 4 (fun _ r => rowOk r) ltR l ζ))]) (fun (ζ : (Nat)) => ρ) (fun (ζ : (Nat)) => []) (fun (ζ : (Nat)) => ζ ≤ n) (fun (ζ : (Nat)) => n - ζ) (0) (Nat.zero_le _) ev_le ev_le rfl tk ?_
  rintro k hI
  try simp only [List.cons_append, List.nil_append, List.append_assoc, List.append_eq] at hI ⊢
  try dsimp only at hI ⊢
  by_cases hlt : k < n
  · obtain ⟨b, off, C, T, fr, rfl, hb, hfit, hc⟩ := h.get (show k < l.length by omega)
    have hs := risesB_succ (most := 4) (right := fun _ r => rowOk r) (lt := ltR) (show k < l.length by omega)
    have hfin := fun (e : risesB 4 (fun _ r => rowOk r) ltR l (k + 1) = false) => risesB_false' e (show k + 1 ≤ n by omega)
    cases hok : risesB 4 (fun _ r => rowOk r) ltR l k
    · rw [hok, Bool.false_and] at hs
      rw [hfin hs]
      generalize l[k] = x at *
      repeat' (first | (refine i_op ?_; first | (refine i_qq ?_; refine qQ ?_) | refine qEf ?_) | refine tl_nil ?_ | (refine i_tc ?_; refine qTc ?_) | (refine i_te ?_; refine qTe ?_) | intro _)
      refine tc_any (Stays _ _ _) stays_refl ?_
      all_goals refine rMv 0 ?_
      all_goals refine rMv 1 ?_
      all_goals (first | refine wSkip 2 ?_ | refine wSkipU 2 ?_ | refine wMv 2 ?_ | (refine tr_guard (t := 24) rfl (fun hb => ?_) (fun hb => ?_) <;> (try simp only [decide_eq_true_eq, decide_eq_false_iff_not, Bool.not_eq_true, Bool.not_eq_false, beq_iff_eq, bne_iff_ne, ne_eq, Bool.not_eq_eq_eq_not, Bool.not_true, Bool.not_false, beq_eq_false_iff_ne, bne_eq_false_iff_eq] at hb) <;> first | refine wSkip 2 ?_ | refine wSkipU 2 ?_ | refine wMv 2 ?_))
      all_goals (first | refine wSkip 3 ?_ | refine wSkipU 3 ?_ | refine wMv 3 ?_ | (refine tr_guard (t := 24) rfl (fun hb => ?_) (fun hb => ?_) <;> (try simp only [decide_eq_true_eq, decide_eq_false_iff_not, Bool.not_eq_true, Bool.not_eq_false, beq_iff_eq, bne_iff_ne, ne_eq, Bool.not_eq_eq_eq_not, Bool.not_true, Bool.not_false, beq_eq_false_iff_ne, bne_eq_false_iff_eq] at hb) <;> first | refine wSkip 3 ?_ | refine wSkipU 3 ?_ | refine wMv 3 ?_))
      all_goals (first | refine wSkip 4 ?_ | refine wSkipU 4 ?_ | refine wLd 4 ?_ | (refine tr_guard (t := 24) rfl (fun hb => ?_) (fun hb => ?_) <;> (try simp only [decide_eq_true_eq, decide_eq_false_iff_not, Bool.not_eq_true, Bool.not_eq_false, beq_iff_eq, bne_iff_ne, ne_eq, Bool.not_eq_eq_eq_not, Bool.not_true, Bool.not_false, beq_eq_false_iff_ne, bne_eq_false_iff_eq] at hb) <;> first | refine wSkip 4 ?_ | refine wSkipU 4 ?_ | refine wLd 4 ?_))
      all_goals (first | refine wSkip 5 ?_ | refine wSkipU 5 ?_ | (refine rStep (i := 5) ?_; ((try refine qWant ?_); (first | (refine qEf ?_; try intro _)) <;> ((try simp only [List.cons_append, List.nil_append, List.append_eq]); refine tl_nil ?_; refine rNext ?_))))
      all_goals refine rPk 6 ?_
      all_goals refine rMv 7 ?_
      all_goals (first | refine wSkip 8 ?_ | refine wSkipU 8 ?_ | refine wMv 8 ?_ | (refine tr_guard (t := 30) rfl (fun hb => ?_) (fun hb => ?_) <;> (try simp only [decide_eq_true_eq, decide_eq_false_iff_not, Bool.not_eq_true, Bool.not_eq_false, beq_iff_eq, bne_iff_ne, ne_eq, Bool.not_eq_eq_eq_not, Bool.not_true, Bool.not_false, beq_eq_false_iff_ne, bne_eq_false_iff_eq] at hb) <;> first | refine wSkip 8 ?_ | refine wSkipU 8 ?_ | refine wMv 8 ?_))
      all_goals (first | refine wSkip 9 ?_ | refine wSkipU 9 ?_ | refine wCm 9 ?_ | (refine tr_guard (t := 30) rfl (fun hb => ?_) (fun hb => ?_) <;> (try simp only [decide_eq_true_eq, decide_eq_false_iff_not, Bool.not_eq_true, Bool.not_eq_false, beq_iff_eq, bne_iff_ne, ne_eq, Bool.not_eq_eq_eq_not, Bool.not_true, Bool.not_false, beq_eq_false_iff_ne, bne_eq_false_iff_eq] at hb) <;> first | refine wSkip 9 ?_ | refine wSkipU 9 ?_ | refine wCm 9 ?_))
      all_goals (first | refine wSkip 10 ?_ | refine wSkipU 10 ?_ | refine wMv 10 ?_ | (refine tr_guard (t := 30) rfl (fun hb => ?_) (fun hb => ?_) <;> (try simp only [decide_eq_true_eq, decide_eq_false_iff_not, Bool.not_eq_true, Bool.not_eq_false, beq_iff_eq, bne_iff_ne, ne_eq, Bool.not_eq_eq_eq_not, Bool.not_true, Bool.not_false, beq_eq_false_iff_ne, bne_eq_false_iff_eq] at hb) <;> first | refine wSkip 10 ?_ | refine wSkipU 10 ?_ | refine wMv 10 ?_))
      all_goals (first | refine wSkip 11 ?_ | refine wSkipU 11 ?_ | refine wMv 11 ?_ | (refine tr_guard (t := 33) rfl (fun hb => ?_) (fun hb => ?_) <;> (try simp only [decide_eq_true_eq, decide_eq_false_iff_not, Bool.not_eq_true, Bool.not_eq_false, beq_iff_eq, bne_iff_ne, ne_eq, Bool.not_eq_eq_eq_not, Bool.not_true, Bool.not_false, beq_eq_false_iff_ne, bne_eq_false_iff_eq] at hb) <;> first | refine wSkip 11 ?_ | refine wSkipU 11 ?_ | refine wMv 11 ?_))
      all_goals (first | refine wSkip 12 ?_ | refine wSkipU 12 ?_ | refine wMv 12 ?_ | (refine tr_guard (t := 33) rfl (fun hb => ?_) (fun hb => ?_) <;> (try simp only [decide_eq_true_eq, decide_eq_false_iff_not, Bool.not_eq_true, Bool.not_eq_false, beq_iff_eq, bne_iff_ne, ne_eq, Bool.not_eq_eq_eq_not, Bool.not_true, Bool.not_false, beq_eq_false_iff_ne, bne_eq_false_iff_eq] at hb) <;> first | refine wSkip 12 ?_ | refine wSkipU 12 ?_ | refine wMv 12 ?_))
      all_goals (first | refine wSkip 13 ?_ | refine wSkipU 13 ?_ | refine wMv 13 ?_ | (refine tr_guard (t := 33) rfl (fun hb => ?_) (fun hb => ?_) <;> (try simp only [decide_eq_true_eq, decide_eq_false_iff_not, Bool.not_eq_true, Bool.not_eq_false, beq_iff_eq, bne_iff_ne, ne_eq, Bool.not_eq_eq_eq_not, Bool.not_true, Bool.not_false, beq_eq_false_iff_ne, bne_eq_false_iff_eq] at hb) <;> first | refine wSkip 13 ?_ | refine wSkipU 13 ?_ | refine wMv 13 ?_))
      all_goals (first | refine wSkip 14 ?_ | refine wSkipU 14 ?_ | refine wSb 14 ?_ | (refine tr_guard (t := 33) rfl (fun hb => ?_) (fun hb => ?_) <;> (try simp only [decide_eq_true_eq, decide_eq_false_iff_not, Bool.not_eq_true, Bool.not_eq_false, beq_iff_eq, bne_iff_ne, ne_eq, Bool.not_eq_eq_eq_not, Bool.not_true, Bool.not_false, beq_eq_false_iff_ne, bne_eq_false_iff_eq] at hb) <;> first | refine wSkip 14 ?_ | refine wSkipU 14 ?_ | refine wSb 14 ?_))
      all_goals (first | refine wSkip 15 ?_ | refine wSkipU 15 ?_ | refine wIa 15 ?_ | (refine tr_guard (t := 33) rfl (fun hb => ?_) (fun hb => ?_) <;> (try simp only [decide_eq_true_eq, decide_eq_false_iff_not, Bool.not_eq_true, Bool.not_eq_false, beq_iff_eq, bne_iff_ne, ne_eq, Bool.not_eq_eq_eq_not, Bool.not_true, Bool.not_false, beq_eq_false_iff_ne, bne_eq_false_iff_eq] at hb) <;> first | refine wSkip 15 ?_ | refine wSkipU 15 ?_ | refine wIa 15 ?_))
      all_goals (first | refine wSkip 16 ?_ | refine wSkipU 16 ?_ | refine wLd 16 ?_ | (refine tr_guard (t := 33) rfl (fun hb => ?_) (fun hb => ?_) <;> (try simp only [decide_eq_true_eq, decide_eq_false_iff_not, Bool.not_eq_true, Bool.not_eq_false, beq_iff_eq, bne_iff_ne, ne_eq, Bool.not_eq_eq_eq_not, Bool.not_true, Bool.not_false, beq_eq_false_iff_ne, bne_eq_false_iff_eq] at hb) <;> first | refine wSkip 16 ?_ | refine wSkipU 16 ?_ | refine wLd 16 ?_))
      all_goals (first | refine wSkip 18 ?_ | refine wSkipU 18 ?_ | refine wMv 18 ?_ | (refine tr_guard (t := 33) rfl (fun hb => ?_) (fun hb => ?_) <;> (try simp only [decide_eq_true_eq, decide_eq_false_iff_not, Bool.not_eq_true, Bool.not_eq_false, beq_iff_eq, bne_iff_ne, ne_eq, Bool.not_eq_eq_eq_not, Bool.not_true, Bool.not_false, beq_eq_false_iff_ne, bne_eq_false_iff_eq] at hb) <;> first | refine wSkip 18 ?_ | refine wSkipU 18 ?_ | refine wMv 18 ?_))
      all_goals (first | refine wSkip 19 ?_ | refine wSkipU 19 ?_ | refine wLd 19 ?_ | (refine tr_guard (t := 33) rfl (fun hb => ?_) (fun hb => ?_) <;> (try simp only [decide_eq_true_eq, decide_eq_false_iff_not, Bool.not_eq_true, Bool.not_eq_false, beq_iff_eq, bne_iff_ne, ne_eq, Bool.not_eq_eq_eq_not, Bool.not_true, Bool.not_false, beq_eq_false_iff_ne, bne_eq_false_iff_eq] at hb) <;> first | refine wSkip 19 ?_ | refine wSkipU 19 ?_ | refine wLd 19 ?_))
      all_goals (first | refine wSkip 17 ?_ | refine wSkipU 17 ?_ | (refine rStep (i := 17) ?_; ((try refine qWant ?_); (first | (refine qEf ?_; try intro _)) <;> ((try simp only [List.cons_append, List.nil_append, List.append_eq]); refine tl_nil ?_; refine rNext ?_))))
      all_goals (first | refine wSkip 20 ?_ | refine wSkipU 20 ?_ | (refine rStep (i := 20) ?_; ((try refine qWant ?_); (first | (refine qEf ?_; try intro _)) <;> ((try simp only [List.cons_append, List.nil_append, List.append_eq]); refine tl_nil ?_; refine rNext ?_))))
      all_goals (first | refine wSkip 21 ?_ | refine wSkipU 21 ?_ | (refine rStep (i := 21) ?_; ((try refine qWant ?_); (first | (refine qEf ?_; try intro _)) <;> ((try simp only [List.cons_append, List.nil_append, List.append_eq]); refine tl_nil ?_; refine rNext ?_))))
      all_goals refine rFull ?_
      all_goals (first | refine wSkip 22 ?_ | refine wSkipU 22 ?_ | refine wCm 22 ?_ | (refine tr_guard (t := 33) rfl (fun hb => ?_) (fun hb => ?_) <;> (try simp only [decide_eq_true_eq, decide_eq_false_iff_not, Bool.not_eq_true, Bool.not_eq_false, beq_iff_eq, bne_iff_ne, ne_eq, Bool.not_eq_eq_eq_not, Bool.not_true, Bool.not_false, beq_eq_false_iff_ne, bne_eq_false_iff_eq] at hb) <;> first | refine wSkip 22 ?_ | refine wSkipU 22 ?_ | refine wCm 22 ?_))
      all_goals (first | refine wSkip 23 ?_ | refine wSkipU 23 ?_ | refine wPk 23 ?_ | (refine tr_guard (t := 30) rfl (fun hb => ?_) (fun hb => ?_) <;> (try simp only [decide_eq_true_eq, decide_eq_false_iff_not, Bool.not_eq_true, Bool.not_eq_false, beq_iff_eq, bne_iff_ne, ne_eq, Bool.not_eq_eq_eq_not, Bool.not_true, Bool.not_false, beq_eq_false_iff_ne, bne_eq_false_iff_eq] at hb) <;> first | refine wSkip 23 ?_ | refine wSkipU 23 ?_ | refine wPk 23 ?_))
      all_goals refine rPk 24 ?_
      all_goals refine rAs 25 ?_
      all_goals refine rDone ?_
      repeat' (first | (refine i_op ?_; first | (refine i_qq ?_; refine qQ ?_) | refine qEf ?_) | refine tl_nil ?_ | (refine i_tc ?_; refine qTc ?_) | (refine i_te ?_; refine qTe ?_) | intro _)
      exact qE ⟨rfl, rfl, rfl⟩
    · rw [hok, Bool.true_and] at hs
      cases hx : rowOk l[k]
      · rw [hx, Bool.false_and] at hs
        rw [hfin hs]
        generalize l[k] = x at *
        repeat' (first | (refine i_op ?_; first | (refine i_qq ?_; refine qQ ?_) | refine qEf ?_) | refine tl_nil ?_ | (refine i_tc ?_; refine qTc ?_) | (refine i_te ?_; refine qTe ?_) | intro _)
        refine tc_any (Stays _ _ _) stays_refl ?_
        all_goals refine rMv 0 ?_
        all_goals refine rMv 1 ?_
        all_goals (first | refine wSkip 2 ?_ | refine wSkipU 2 ?_ | refine wMv 2 ?_ | (refine tr_guard (t := 24) rfl (fun hb => ?_) (fun hb => ?_) <;> (try simp only [decide_eq_true_eq, decide_eq_false_iff_not, Bool.not_eq_true, Bool.not_eq_false, beq_iff_eq, bne_iff_ne, ne_eq, Bool.not_eq_eq_eq_not, Bool.not_true, Bool.not_false, beq_eq_false_iff_ne, bne_eq_false_iff_eq] at hb) <;> first | refine wSkip 2 ?_ | refine wSkipU 2 ?_ | refine wMv 2 ?_))
        all_goals (first | refine wSkip 3 ?_ | refine wSkipU 3 ?_ | refine wMv 3 ?_ | (refine tr_guard (t := 24) rfl (fun hb => ?_) (fun hb => ?_) <;> (try simp only [decide_eq_true_eq, decide_eq_false_iff_not, Bool.not_eq_true, Bool.not_eq_false, beq_iff_eq, bne_iff_ne, ne_eq, Bool.not_eq_eq_eq_not, Bool.not_true, Bool.not_false, beq_eq_false_iff_ne, bne_eq_false_iff_eq] at hb) <;> first | refine wSkip 3 ?_ | refine wSkipU 3 ?_ | refine wMv 3 ?_))
        all_goals (first | refine wSkip 4 ?_ | refine wSkipU 4 ?_ | refine wLd 4 ?_ | (refine tr_guard (t := 24) rfl (fun hb => ?_) (fun hb => ?_) <;> (try simp only [decide_eq_true_eq, decide_eq_false_iff_not, Bool.not_eq_true, Bool.not_eq_false, beq_iff_eq, bne_iff_ne, ne_eq, Bool.not_eq_eq_eq_not, Bool.not_true, Bool.not_false, beq_eq_false_iff_ne, bne_eq_false_iff_eq] at hb) <;> first | refine wSkip 4 ?_ | refine wSkipU 4 ?_ | refine wLd 4 ?_))
        all_goals (first | refine wSkip 5 ?_ | refine wSkipU 5 ?_ | (refine rStep (i := 5) ?_; ((try refine qWant ?_); (first | (refine tl_is (.tmp 25) ?_; refine qC rfl rfl (leaf2_spec _ _ _) ?_; rintro v ρ' L' hle ⟨rfl, rfl, rfl⟩ <;> (try simp only [List.cons_append, List.nil_append, List.append_eq, hx])) | (refine tl_is (.tmp 34) ?_; refine qC rfl rfl (leaf1_spec _ _) ?_; rintro v ρ' L' hle ⟨rfl, rfl, rfl⟩ <;> (try simp only [List.cons_append, List.nil_append, List.append_eq])) | (refine tl_is (.tmp 41) ?_; refine qC rfl rfl (leaf1_spec _ _) ?_; rintro v ρ' L' hle ⟨rfl, rfl, rfl⟩ <;> (try simp only [List.cons_append, List.nil_append, List.append_eq])) | (refine qEf ?_; try intro _)) <;> ((try simp only [List.cons_append, List.nil_append, List.append_eq]); refine tl_nil ?_; refine rNext ?_))))
        all_goals refine rPk 6 ?_
        all_goals refine rMv 7 ?_
        all_goals (first | refine wSkip 8 ?_ | refine wSkipU 8 ?_ | refine wMv 8 ?_ | (refine tr_guard (t := 30) rfl (fun hb => ?_) (fun hb => ?_) <;> (try simp only [decide_eq_true_eq, decide_eq_false_iff_not, Bool.not_eq_true, Bool.not_eq_false, beq_iff_eq, bne_iff_ne, ne_eq, Bool.not_eq_eq_eq_not, Bool.not_true, Bool.not_false, beq_eq_false_iff_ne, bne_eq_false_iff_eq] at hb) <;> first | refine wSkip 8 ?_ | refine wSkipU 8 ?_ | refine wMv 8 ?_))
        all_goals (first | refine wSkip 9 ?_ | refine wSkipU 9 ?_ | refine wCm 9 ?_ | (refine tr_guard (t := 30) rfl (fun hb => ?_) (fun hb => ?_) <;> (try simp only [decide_eq_true_eq, decide_eq_false_iff_not, Bool.not_eq_true, Bool.not_eq_false, beq_iff_eq, bne_iff_ne, ne_eq, Bool.not_eq_eq_eq_not, Bool.not_true, Bool.not_false, beq_eq_false_iff_ne, bne_eq_false_iff_eq] at hb) <;> first | refine wSkip 9 ?_ | refine wSkipU 9 ?_ | refine wCm 9 ?_))
        all_goals (first | refine wSkip 10 ?_ | refine wSkipU 10 ?_ | refine wMv 10 ?_ | (refine tr_guard (t := 30) rfl (fun hb => ?_) (fun hb => ?_) <;> (try simp only [decide_eq_true_eq, decide_eq_false_iff_not, Bool.not_eq_true, Bool.not_eq_false, beq_iff_eq, bne_iff_ne, ne_eq, Bool.not_eq_eq_eq_not, Bool.not_true, Bool.not_false, beq_eq_false_iff_ne, bne_eq_false_iff_eq] at hb) <;> first | refine wSkip 10 ?_ | refine wSkipU 10 ?_ | refine wMv 10 ?_))
        all_goals (first | refine wSkip 11 ?_ | refine wSkipU 11 ?_ | refine wMv 11 ?_ | (refine tr_guard (t := 33) rfl (fun hb => ?_) (fun hb => ?_) <;> (try simp only [decide_eq_true_eq, decide_eq_false_iff_not, Bool.not_eq_true, Bool.not_eq_false, beq_iff_eq, bne_iff_ne, ne_eq, Bool.not_eq_eq_eq_not, Bool.not_true, Bool.not_false, beq_eq_false_iff_ne, bne_eq_false_iff_eq] at hb) <;> first | refine wSkip 11 ?_ | refine wSkipU 11 ?_ | refine wMv 11 ?_))
        all_goals (first | refine wSkip 12 ?_ | refine wSkipU 12 ?_ | refine wMv 12 ?_ | (refine tr_guard (t := 33) rfl (fun hb => ?_) (fun hb => ?_) <;> (try simp only [decide_eq_true_eq, decide_eq_false_iff_not, Bool.not_eq_true, Bool.not_eq_false, beq_iff_eq, bne_iff_ne, ne_eq, Bool.not_eq_eq_eq_not, Bool.not_true, Bool.not_false, beq_eq_false_iff_ne, bne_eq_false_iff_eq] at hb) <;> first | refine wSkip 12 ?_ | refine wSkipU 12 ?_ | refine wMv 12 ?_))
        all_goals (first | refine wSkip 13 ?_ | refine wSkipU 13 ?_ | refine wMv 13 ?_ | (refine tr_guard (t := 33) rfl (fun hb => ?_) (fun hb => ?_) <;> (try simp only [decide_eq_true_eq, decide_eq_false_iff_not, Bool.not_eq_true, Bool.not_eq_false, beq_iff_eq, bne_iff_ne, ne_eq, Bool.not_eq_eq_eq_not, Bool.not_true, Bool.not_false, beq_eq_false_iff_ne, bne_eq_false_iff_eq] at hb) <;> first | refine wSkip 13 ?_ | refine wSkipU 13 ?_ | refine wMv 13 ?_))
        all_goals (first | refine wSkip 14 ?_ | refine wSkipU 14 ?_ | refine wSb 14 ?_ | (refine tr_guard (t := 33) rfl (fun hb => ?_) (fun hb => ?_) <;> (try simp only [decide_eq_true_eq, decide_eq_false_iff_not, Bool.not_eq_true, Bool.not_eq_false, beq_iff_eq, bne_iff_ne, ne_eq, Bool.not_eq_eq_eq_not, Bool.not_true, Bool.not_false, beq_eq_false_iff_ne, bne_eq_false_iff_eq] at hb) <;> first | refine wSkip 14 ?_ | refine wSkipU 14 ?_ | refine wSb 14 ?_))
        all_goals (first | refine wSkip 15 ?_ | refine wSkipU 15 ?_ | refine wIa 15 ?_ | (refine tr_guard (t := 33) rfl (fun hb => ?_) (fun hb => ?_) <;> (try simp only [decide_eq_true_eq, decide_eq_false_iff_not, Bool.not_eq_true, Bool.not_eq_false, beq_iff_eq, bne_iff_ne, ne_eq, Bool.not_eq_eq_eq_not, Bool.not_true, Bool.not_false, beq_eq_false_iff_ne, bne_eq_false_iff_eq] at hb) <;> first | refine wSkip 15 ?_ | refine wSkipU 15 ?_ | refine wIa 15 ?_))
        all_goals (first | refine wSkip 16 ?_ | refine wSkipU 16 ?_ | refine wLd 16 ?_ | (refine tr_guard (t := 33) rfl (fun hb => ?_) (fun hb => ?_) <;> (try simp only [decide_eq_true_eq, decide_eq_false_iff_not, Bool.not_eq_true, Bool.not_eq_false, beq_iff_eq, bne_iff_ne, ne_eq, Bool.not_eq_eq_eq_not, Bool.not_true, Bool.not_false, beq_eq_false_iff_ne, bne_eq_false_iff_eq] at hb) <;> first | refine wSkip 16 ?_ | refine wSkipU 16 ?_ | refine wLd 16 ?_))
        all_goals (first | refine wSkip 18 ?_ | refine wSkipU 18 ?_ | refine wMv 18 ?_ | (refine tr_guard (t := 33) rfl (fun hb => ?_) (fun hb => ?_) <;> (try simp only [decide_eq_true_eq, decide_eq_false_iff_not, Bool.not_eq_true, Bool.not_eq_false, beq_iff_eq, bne_iff_ne, ne_eq, Bool.not_eq_eq_eq_not, Bool.not_true, Bool.not_false, beq_eq_false_iff_ne, bne_eq_false_iff_eq] at hb) <;> first | refine wSkip 18 ?_ | refine wSkipU 18 ?_ | refine wMv 18 ?_))
        all_goals (first | refine wSkip 19 ?_ | refine wSkipU 19 ?_ | refine wLd 19 ?_ | (refine tr_guard (t := 33) rfl (fun hb => ?_) (fun hb => ?_) <;> (try simp only [decide_eq_true_eq, decide_eq_false_iff_not, Bool.not_eq_true, Bool.not_eq_false, beq_iff_eq, bne_iff_ne, ne_eq, Bool.not_eq_eq_eq_not, Bool.not_true, Bool.not_false, beq_eq_false_iff_ne, bne_eq_false_iff_eq] at hb) <;> first | refine wSkip 19 ?_ | refine wSkipU 19 ?_ | refine wLd 19 ?_))
        all_goals (first | refine wSkip 17 ?_ | refine wSkipU 17 ?_ | (refine rStep (i := 17) ?_; ((try refine qWant ?_); (first | (refine tl_is (.tmp 25) ?_; refine qC rfl rfl (leaf2_spec _ _ _) ?_; rintro v ρ' L' hle ⟨rfl, rfl, rfl⟩ <;> (try simp only [List.cons_append, List.nil_append, List.append_eq, hx])) | (refine tl_is (.tmp 34) ?_; refine qC rfl rfl (leaf1_spec _ _) ?_; rintro v ρ' L' hle ⟨rfl, rfl, rfl⟩ <;> (try simp only [List.cons_append, List.nil_append, List.append_eq])) | (refine tl_is (.tmp 41) ?_; refine qC rfl rfl (leaf1_spec _ _) ?_; rintro v ρ' L' hle ⟨rfl, rfl, rfl⟩ <;> (try simp only [List.cons_append, List.nil_append, List.append_eq])) | (refine qEf ?_; try intro _)) <;> ((try simp only [List.cons_append, List.nil_append, List.append_eq]); refine tl_nil ?_; refine rNext ?_))))
        all_goals (first | refine wSkip 20 ?_ | refine wSkipU 20 ?_ | (refine rStep (i := 20) ?_; ((try refine qWant ?_); (first | (refine tl_is (.tmp 25) ?_; refine qC rfl rfl (leaf2_spec _ _ _) ?_; rintro v ρ' L' hle ⟨rfl, rfl, rfl⟩ <;> (try simp only [List.cons_append, List.nil_append, List.append_eq, hx])) | (refine tl_is (.tmp 34) ?_; refine qC rfl rfl (leaf1_spec _ _) ?_; rintro v ρ' L' hle ⟨rfl, rfl, rfl⟩ <;> (try simp only [List.cons_append, List.nil_append, List.append_eq])) | (refine tl_is (.tmp 41) ?_; refine qC rfl rfl (leaf1_spec _ _) ?_; rintro v ρ' L' hle ⟨rfl, rfl, rfl⟩ <;> (try simp only [List.cons_append, List.nil_append, List.append_eq])) | (refine qEf ?_; try intro _)) <;> ((try simp only [List.cons_append, List.nil_append, List.append_eq]); refine tl_nil ?_; refine rNext ?_))))
        all_goals (first | refine wSkip 21 ?_ | refine wSkipU 21 ?_ | (refine rStep (i := 21) ?_; ((try refine qWant ?_); (first | (refine tl_is (.func 209) ?_; refine qC rfl rfl (compare_spec _ _ _ _ _) ?_; rintro v ρ' L' hle ⟨rfl, rfl, rfl⟩ <;> (try simp only [List.cons_append, List.nil_append, List.append_eq])) | (refine qEf ?_; try intro _)) <;> ((try simp only [List.cons_append, List.nil_append, List.append_eq]); refine tl_nil ?_; refine rNext ?_))))
        all_goals refine rFull ?_
        all_goals (first | refine wSkip 22 ?_ | refine wSkipU 22 ?_ | refine wCm 22 ?_ | (refine tr_guard (t := 33) rfl (fun hb => ?_) (fun hb => ?_) <;> (try simp only [decide_eq_true_eq, decide_eq_false_iff_not, Bool.not_eq_true, Bool.not_eq_false, beq_iff_eq, bne_iff_ne, ne_eq, Bool.not_eq_eq_eq_not, Bool.not_true, Bool.not_false, beq_eq_false_iff_ne, bne_eq_false_iff_eq] at hb) <;> first | refine wSkip 22 ?_ | refine wSkipU 22 ?_ | refine wCm 22 ?_))
        all_goals (first | refine wSkip 23 ?_ | refine wSkipU 23 ?_ | refine wPk 23 ?_ | (refine tr_guard (t := 30) rfl (fun hb => ?_) (fun hb => ?_) <;> (try simp only [decide_eq_true_eq, decide_eq_false_iff_not, Bool.not_eq_true, Bool.not_eq_false, beq_iff_eq, bne_iff_ne, ne_eq, Bool.not_eq_eq_eq_not, Bool.not_true, Bool.not_false, beq_eq_false_iff_ne, bne_eq_false_iff_eq] at hb) <;> first | refine wSkip 23 ?_ | refine wSkipU 23 ?_ | refine wPk 23 ?_))
        all_goals refine rPk 24 ?_
        all_goals refine rAs 25 ?_
        all_goals refine rDone ?_
        repeat' (first | (refine i_op ?_; first | (refine i_qq ?_; refine qQ ?_) | refine qEf ?_) | refine tl_nil ?_ | (refine i_tc ?_; refine qTc ?_) | (refine i_te ?_; refine qTe ?_) | intro _)
        exact qE ⟨rfl, rfl, rfl⟩
      · rw [hx, Bool.true_and] at hs
        by_cases hk0 : k = 0
        · have hs' : risesB 4 (fun _ r => rowOk r) ltR l (k + 1) = true := by rw [hs]; simp [hk0]
          generalize l[k] = x at *
          repeat' (first | (refine i_op ?_; first | (refine i_qq ?_; refine qQ ?_) | refine qEf ?_) | refine tl_nil ?_ | (refine i_tc ?_; refine qTc ?_) | (refine i_te ?_; refine qTe ?_) | intro _)
          refine tc_any (Stays _ _ _) stays_refl ?_
          all_goals refine rMv 0 ?_
          all_goals refine rMv 1 ?_
          all_goals (first | refine wSkip 2 ?_ | refine wSkipU 2 ?_ | refine wMv 2 ?_ | (refine tr_guard (t := 24) rfl (fun hb => ?_) (fun hb => ?_) <;> (try simp only [decide_eq_true_eq, decide_eq_false_iff_not, Bool.not_eq_true, Bool.not_eq_false, beq_iff_eq, bne_iff_ne, ne_eq, Bool.not_eq_eq_eq_not, Bool.not_true, Bool.not_false, beq_eq_false_iff_ne, bne_eq_false_iff_eq] at hb) <;> first | refine wSkip 2 ?_ | refine wSkipU 2 ?_ | refine wMv 2 ?_))
          all_goals (first | refine wSkip 3 ?_ | refine wSkipU 3 ?_ | refine wMv 3 ?_ | (refine tr_guard (t := 24) rfl (fun hb => ?_) (fun hb => ?_) <;> (try simp only [decide_eq_true_eq, decide_eq_false_iff_not, Bool.not_eq_true, Bool.not_eq_false, beq_iff_eq, bne_iff_ne, ne_eq, Bool.not_eq_eq_eq_not, Bool.not_true, Bool.not_false, beq_eq_false_iff_ne, bne_eq_false_iff_eq] at hb) <;> first | refine wSkip 3 ?_ | refine wSkipU 3 ?_ | refine wMv 3 ?_))
          all_goals (first | refine wSkip 4 ?_ | refine wSkipU 4 ?_ | refine wLd 4 ?_ | (refine tr_guard (t := 24) rfl (fun hb => ?_) (fun hb => ?_) <;> (try simp only [decide_eq_true_eq, decide_eq_false_iff_not, Bool.not_eq_true, Bool.not_eq_false, beq_iff_eq, bne_iff_ne, ne_eq, Bool.not_eq_eq_eq_not, Bool.not_true, Bool.not_false, beq_eq_false_iff_ne, bne_eq_false_iff_eq] at hb) <;> first | refine wSkip 4 ?_ | refine wSkipU 4 ?_ | refine wLd 4 ?_))
          all_goals (first | refine wSkip 5 ?_ | refine wSkipU 5 ?_ | (refine rStep (i := 5) ?_; ((try refine qWant ?_); (first | (refine tl_is (.tmp 25) ?_; refine qC rfl rfl (leaf2_spec _ _ _) ?_; rintro v ρ' L' hle ⟨rfl, rfl, rfl⟩ <;> (try simp only [List.cons_append, List.nil_append, List.append_eq, hx])) | (refine tl_is (.tmp 34) ?_; refine qC rfl rfl (leaf1_spec _ _) ?_; rintro v ρ' L' hle ⟨rfl, rfl, rfl⟩ <;> (try simp only [List.cons_append, List.nil_append, List.append_eq])) | (refine tl_is (.tmp 41) ?_; refine qC rfl rfl (leaf1_spec _ _) ?_; rintro v ρ' L' hle ⟨rfl, rfl, rfl⟩ <;> (try simp only [List.cons_append, List.nil_append, List.append_eq])) | (refine qEf ?_; try intro _)) <;> ((try simp only [List.cons_append, List.nil_append, List.append_eq]); refine tl_nil ?_; refine rNext ?_))))
          all_goals refine rPk 6 ?_
          all_goals refine rMv 7 ?_
          all_goals (first | refine wSkip 8 ?_ | refine wSkipU 8 ?_ | refine wMv 8 ?_ | (refine tr_guard (t := 30) rfl (fun hb => ?_) (fun hb => ?_) <;> (try simp only [decide_eq_true_eq, decide_eq_false_iff_not, Bool.not_eq_true, Bool.not_eq_false, beq_iff_eq, bne_iff_ne, ne_eq, Bool.not_eq_eq_eq_not, Bool.not_true, Bool.not_false, beq_eq_false_iff_ne, bne_eq_false_iff_eq] at hb) <;> first | refine wSkip 8 ?_ | refine wSkipU 8 ?_ | refine wMv 8 ?_))
          all_goals (first | refine wSkip 9 ?_ | refine wSkipU 9 ?_ | refine wCm 9 ?_ | (refine tr_guard (t := 30) rfl (fun hb => ?_) (fun hb => ?_) <;> (try simp only [decide_eq_true_eq, decide_eq_false_iff_not, Bool.not_eq_true, Bool.not_eq_false, beq_iff_eq, bne_iff_ne, ne_eq, Bool.not_eq_eq_eq_not, Bool.not_true, Bool.not_false, beq_eq_false_iff_ne, bne_eq_false_iff_eq] at hb) <;> first | refine wSkip 9 ?_ | refine wSkipU 9 ?_ | refine wCm 9 ?_))
          all_goals (first | refine wSkip 10 ?_ | refine wSkipU 10 ?_ | refine wMv 10 ?_ | (refine tr_guard (t := 30) rfl (fun hb => ?_) (fun hb => ?_) <;> (try simp only [decide_eq_true_eq, decide_eq_false_iff_not, Bool.not_eq_true, Bool.not_eq_false, beq_iff_eq, bne_iff_ne, ne_eq, Bool.not_eq_eq_eq_not, Bool.not_true, Bool.not_false, beq_eq_false_iff_ne, bne_eq_false_iff_eq] at hb) <;> first | refine wSkip 10 ?_ | refine wSkipU 10 ?_ | refine wMv 10 ?_))
          all_goals (first | refine wSkip 11 ?_ | refine wSkipU 11 ?_ | refine wMv 11 ?_ | (refine tr_guard (t := 33) rfl (fun hb => ?_) (fun hb => ?_) <;> (try simp only [decide_eq_true_eq, decide_eq_false_iff_not, Bool.not_eq_true, Bool.not_eq_false, beq_iff_eq, bne_iff_ne, ne_eq, Bool.not_eq_eq_eq_not, Bool.not_true, Bool.not_false, beq_eq_false_iff_ne, bne_eq_false_iff_eq] at hb) <;> first | refine wSkip 11 ?_ | refine wSkipU 11 ?_ | refine wMv 11 ?_))
          all_goals (first | refine wSkip 12 ?_ | refine wSkipU 12 ?_ | refine wMv 12 ?_ | (refine tr_guard (t := 33) rfl (fun hb => ?_) (fun hb => ?_) <;> (try simp only [decide_eq_true_eq, decide_eq_false_iff_not, Bool.not_eq_true, Bool.not_eq_false, beq_iff_eq, bne_iff_ne, ne_eq, Bool.not_eq_eq_eq_not, Bool.not_true, Bool.not_false, beq_eq_false_iff_ne, bne_eq_false_iff_eq] at hb) <;> first | refine wSkip 12 ?_ | refine wSkipU 12 ?_ | refine wMv 12 ?_))
          all_goals (first | refine wSkip 13 ?_ | refine wSkipU 13 ?_ | refine wMv 13 ?_ | (refine tr_guard (t := 33) rfl (fun hb => ?_) (fun hb => ?_) <;> (try simp only [decide_eq_true_eq, decide_eq_false_iff_not, Bool.not_eq_true, Bool.not_eq_false, beq_iff_eq, bne_iff_ne, ne_eq, Bool.not_eq_eq_eq_not, Bool.not_true, Bool.not_false, beq_eq_false_iff_ne, bne_eq_false_iff_eq] at hb) <;> first | refine wSkip 13 ?_ | refine wSkipU 13 ?_ | refine wMv 13 ?_))
          all_goals (first | refine wSkip 14 ?_ | refine wSkipU 14 ?_ | refine wSb 14 ?_ | (refine tr_guard (t := 33) rfl (fun hb => ?_) (fun hb => ?_) <;> (try simp only [decide_eq_true_eq, decide_eq_false_iff_not, Bool.not_eq_true, Bool.not_eq_false, beq_iff_eq, bne_iff_ne, ne_eq, Bool.not_eq_eq_eq_not, Bool.not_true, Bool.not_false, beq_eq_false_iff_ne, bne_eq_false_iff_eq] at hb) <;> first | refine wSkip 14 ?_ | refine wSkipU 14 ?_ | refine wSb 14 ?_))
          all_goals (first | refine wSkip 15 ?_ | refine wSkipU 15 ?_ | refine wIa 15 ?_ | (refine tr_guard (t := 33) rfl (fun hb => ?_) (fun hb => ?_) <;> (try simp only [decide_eq_true_eq, decide_eq_false_iff_not, Bool.not_eq_true, Bool.not_eq_false, beq_iff_eq, bne_iff_ne, ne_eq, Bool.not_eq_eq_eq_not, Bool.not_true, Bool.not_false, beq_eq_false_iff_ne, bne_eq_false_iff_eq] at hb) <;> first | refine wSkip 15 ?_ | refine wSkipU 15 ?_ | refine wIa 15 ?_))
          all_goals (first | refine wSkip 16 ?_ | refine wSkipU 16 ?_ | refine wLd 16 ?_ | (refine tr_guard (t := 33) rfl (fun hb => ?_) (fun hb => ?_) <;> (try simp only [decide_eq_true_eq, decide_eq_false_iff_not, Bool.not_eq_true, Bool.not_eq_false, beq_iff_eq, bne_iff_ne, ne_eq, Bool.not_eq_eq_eq_not, Bool.not_true, Bool.not_false, beq_eq_false_iff_ne, bne_eq_false_iff_eq] at hb) <;> first | refine wSkip 16 ?_ | refine wSkipU 16 ?_ | refine wLd 16 ?_))
          all_goals (first | refine wSkip 18 ?_ | refine wSkipU 18 ?_ | refine wMv 18 ?_ | (refine tr_guard (t := 33) rfl (fun hb => ?_) (fun hb => ?_) <;> (try simp only [decide_eq_true_eq, decide_eq_false_iff_not, Bool.not_eq_true, Bool.not_eq_false, beq_iff_eq, bne_iff_ne, ne_eq, Bool.not_eq_eq_eq_not, Bool.not_true, Bool.not_false, beq_eq_false_iff_ne, bne_eq_false_iff_eq] at hb) <;> first | refine wSkip 18 ?_ | refine wSkipU 18 ?_ | refine wMv 18 ?_))
          all_goals (first | refine wSkip 19 ?_ | refine wSkipU 19 ?_ | refine wLd 19 ?_ | (refine tr_guard (t := 33) rfl (fun hb => ?_) (fun hb => ?_) <;> (try simp only [decide_eq_true_eq, decide_eq_false_iff_not, Bool.not_eq_true, Bool.not_eq_false, beq_iff_eq, bne_iff_ne, ne_eq, Bool.not_eq_eq_eq_not, Bool.not_true, Bool.not_false, beq_eq_false_iff_ne, bne_eq_false_iff_eq] at hb) <;> first | refine wSkip 19 ?_ | refine wSkipU 19 ?_ | refine wLd 19 ?_))
          all_goals (first | refine wSkip 17 ?_ | refine wSkipU 17 ?_ | (refine rStep (i := 17) ?_; ((try refine qWant ?_); (first | (refine tl_is (.tmp 25) ?_; refine qC rfl rfl (leaf2_spec _ _ _) ?_; rintro v ρ' L' hle ⟨rfl, rfl, rfl⟩ <;> (try simp only [List.cons_append, List.nil_append, List.append_eq, hx])) | (refine tl_is (.tmp 34) ?_; refine qC rfl rfl (leaf1_spec _ _) ?_; rintro v ρ' L' hle ⟨rfl, rfl, rfl⟩ <;> (try simp only [List.cons_append, List.nil_append, List.append_eq])) | (refine tl_is (.tmp 41) ?_; refine qC rfl rfl (leaf1_spec _ _) ?_; rintro v ρ' L' hle ⟨rfl, rfl, rfl⟩ <;> (try simp only [List.cons_append, List.nil_append, List.append_eq])) | (refine qEf ?_; try intro _)) <;> ((try simp only [List.cons_append, List.nil_append, List.append_eq]); refine tl_nil ?_; refine rNext ?_))))
          all_goals (first | refine wSkip 20 ?_ | refine wSkipU 20 ?_ | (refine rStep (i := 20) ?_; ((try refine qWant ?_); (first | (refine tl_is (.tmp 25) ?_; refine qC rfl rfl (leaf2_spec _ _ _) ?_; rintro v ρ' L' hle ⟨rfl, rfl, rfl⟩ <;> (try simp only [List.cons_append, List.nil_append, List.append_eq, hx])) | (refine tl_is (.tmp 34) ?_; refine qC rfl rfl (leaf1_spec _ _) ?_; rintro v ρ' L' hle ⟨rfl, rfl, rfl⟩ <;> (try simp only [List.cons_append, List.nil_append, List.append_eq])) | (refine tl_is (.tmp 41) ?_; refine qC rfl rfl (leaf1_spec _ _) ?_; rintro v ρ' L' hle ⟨rfl, rfl, rfl⟩ <;> (try simp only [List.cons_append, List.nil_append, List.append_eq])) | (refine qEf ?_; try intro _)) <;> ((try simp only [List.cons_append, List.nil_append, List.append_eq]); refine tl_nil ?_; refine rNext ?_))))
          all_goals (first | refine wSkip 21 ?_ | refine wSkipU 21 ?_ | (refine rStep (i := 21) ?_; ((try refine qWant ?_); (first | (refine tl_is (.func 209) ?_; refine qC rfl rfl (compare_spec _ _ _ _ _) ?_; rintro v ρ' L' hle ⟨rfl, rfl, rfl⟩ <;> (try simp only [List.cons_append, List.nil_append, List.append_eq])) | (refine qEf ?_; try intro _)) <;> ((try simp only [List.cons_append, List.nil_append, List.append_eq]); refine tl_nil ?_; refine rNext ?_))))
          all_goals refine rFull ?_
          all_goals (first | refine wSkip 22 ?_ | refine wSkipU 22 ?_ | refine wCm 22 ?_ | (refine tr_guard (t := 33) rfl (fun hb => ?_) (fun hb => ?_) <;> (try simp only [decide_eq_true_eq, decide_eq_false_iff_not, Bool.not_eq_true, Bool.not_eq_false, beq_iff_eq, bne_iff_ne, ne_eq, Bool.not_eq_eq_eq_not, Bool.not_true, Bool.not_false, beq_eq_false_iff_ne, bne_eq_false_iff_eq] at hb) <;> first | refine wSkip 22 ?_ | refine wSkipU 22 ?_ | refine wCm 22 ?_))
          all_goals (first | refine wSkip 23 ?_ | refine wSkipU 23 ?_ | refine wPk 23 ?_ | (refine tr_guard (t := 30) rfl (fun hb => ?_) (fun hb => ?_) <;> (try simp only [decide_eq_true_eq, decide_eq_false_iff_not, Bool.not_eq_true, Bool.not_eq_false, beq_iff_eq, bne_iff_ne, ne_eq, Bool.not_eq_eq_eq_not, Bool.not_true, Bool.not_false, beq_eq_false_iff_ne, bne_eq_false_iff_eq] at hb) <;> first | refine wSkip 23 ?_ | refine wSkipU 23 ?_ | refine wPk 23 ?_))
          all_goals refine rPk 24 ?_
          all_goals refine rAs 25 ?_
          all_goals refine rDone ?_
          repeat' (first | (refine i_op ?_; first | (refine i_qq ?_; refine qQ ?_) | refine qEf ?_) | refine tl_nil ?_ | (refine i_tc ?_; refine qTc ?_) | (refine i_te ?_; refine qTe ?_) | intro _)
          rw [← hs']
          refine te_round_g (k + 1) (hlt) ev_le ev_le rfl tk inferInstance (by first | omega | (dsimp only; omega))
        · have hd : decide (k = 0) = false := decide_eq_false hk0
          obtain ⟨b2, off2, C2, T2, fr2, f1, hb2, hfit2, hc2⟩ := h.get (show k - 1 < l.length by omega)
          cases f1
          rw [hb] at hb2
          cases hb2
          have ek : ((k : Int) - 1).toNat = k - 1 := by omega
          rw [← ek] at hfit2
          have hc3 : List.take 4 (List.drop (off + ((k : Int) - 1).toNat * 4) C) = rowV (l[k - 1]'(by omega)) := by rw [ek]; exact hc2
          clear hc2
          rw [hd, Bool.false_or] at hs
          generalize l[k] = x at *
          generalize l[k - 1]'(by omega) = y at *
          unfold ltR at hs
          by_cases hcm : cmpK y.t y.id x.t x.id < 0
          · rw [decide_eq_true hcm] at hs
            repeat' (first | (refine i_op ?_; first | (refine i_qq ?_; refine qQ ?_) | refine qEf ?_) | refine tl_nil ?_ | (refine i_tc ?_; refine qTc ?_) | (refine i_te ?_; refine qTe ?_) | intro _)
            refine tc_any (Stays _ _ _) stays_refl ?_
            all_goals refine rMv 0 ?_
            all_goals refine rMv 1 ?_
            all_goals (first | refine wSkip 2 ?_ | refine wSkipU 2 ?_ | refine wMv 2 ?_ | (refine tr_guard (t := 24) rfl (fun hb => ?_) (fun hb => ?_) <;> (try simp only [decide_eq_true_eq, decide_eq_false_iff_not, Bool.not_eq_true, Bool.not_eq_false, beq_iff_eq, bne_iff_ne, ne_eq, Bool.not_eq_eq_eq_not, Bool.not_true, Bool.not_false, beq_eq_false_iff_ne, bne_eq_false_iff_eq] at hb) <;> first | refine wSkip 2 ?_ | refine wSkipU 2 ?_ | refine wMv 2 ?_))
            all_goals (first | refine wSkip 3 ?_ | refine wSkipU 3 ?_ | refine wMv 3 ?_ | (refine tr_guard (t := 24) rfl (fun hb => ?_) (fun hb => ?_) <;> (try simp only [decide_eq_true_eq, decide_eq_false_iff_not, Bool.not_eq_true, Bool.not_eq_false, beq_iff_eq, bne_iff_ne, ne_eq, Bool.not_eq_eq_eq_not, Bool.not_true, Bool.not_false, beq_eq_false_iff_ne, bne_eq_false_iff_eq] at hb) <;> first | refine wSkip 3 ?_ | refine wSkipU 3 ?_ | refine wMv 3 ?_))
            all_goals (first | refine wSkip 4 ?_ | refine wSkipU 4 ?_ | refine wLd 4 ?_ | (refine tr_guard (t := 24) rfl (fun hb => ?_) (fun hb => ?_) <;> (try simp only [decide_eq_true_eq, decide_eq_false_iff_not, Bool.not_eq_true, Bool.not_eq_false, beq_iff_eq, bne_iff_ne, ne_eq, Bool.not_eq_eq_eq_not, Bool.not_true, Bool.not_false, beq_eq_false_iff_ne, bne_eq_false_iff_eq] at hb) <;> first | refine wSkip 4 ?_ | refine wSkipU 4 ?_ | refine wLd 4 ?_))
            all_goals (first | refine wSkip 5 ?_ | refine wSkipU 5 ?_ | (refine rStep (i := 5) ?_; ((try refine qWant ?_); (first | (refine tl_is (.tmp 25) ?_; refine qC rfl rfl (leaf2_spec _ _ _) ?_; rintro v ρ' L' hle ⟨rfl, rfl, rfl⟩ <;> (try simp only [List.cons_append, List.nil_append, List.append_eq, hx])) | (refine tl_is (.tmp 34) ?_; refine qC rfl rfl (leaf1_spec _ _) ?_; rintro v ρ' L' hle ⟨rfl, rfl, rfl⟩ <;> (try simp only [List.cons_append, List.nil_append, List.append_eq])) | (refine tl_is (.tmp 41) ?_; refine qC rfl rfl (leaf1_spec _ _) ?_; rintro v ρ' L' hle ⟨rfl, rfl, rfl⟩ <;> (try simp only [List.cons_append, List.nil_append, List.append_eq])) | (refine qEf ?_; try intro _)) <;> ((try simp only [List.cons_append, List.nil_append, List.append_eq]); refine tl_nil ?_; refine rNext ?_))))
            all_goals refine rPk 6 ?_
            all_goals refine rMv 7 ?_
            all_goals (first | refine wSkip 8 ?_ | refine wSkipU 8 ?_ | refine wMv 8 ?_ | (refine tr_guard (t := 30) rfl (fun hb => ?_) (fun hb => ?_) <;> (try simp only [decide_eq_true_eq, decide_eq_false_iff_not, Bool.not_eq_true, Bool.not_eq_false, beq_iff_eq, bne_iff_ne, ne_eq, Bool.not_eq_eq_eq_not, Bool.not_true, Bool.not_false, beq_eq_false_iff_ne, bne_eq_false_iff_eq] at hb) <;> first | refine wSkip 8 ?_ | refine wSkipU 8 ?_ | refine wMv 8 ?_))
            all_goals (first | refine wSkip 9 ?_ | refine wSkipU 9 ?_ | refine wCm 9 ?_ | (refine tr_guard (t := 30) rfl (fun hb => ?_) (fun hb => ?_) <;> (try simp only [decide_eq_true_eq, decide_eq_false_iff_not, Bool.not_eq_true, Bool.not_eq_false, beq_iff_eq, bne_iff_ne, ne_eq, Bool.not_eq_eq_eq_not, Bool.not_true, Bool.not_false, beq_eq_false_iff_ne, bne_eq_false_iff_eq] at hb) <;> first | refine wSkip 9 ?_ | refine wSkipU 9 ?_ | refine wCm 9 ?_))
            all_goals (first | refine wSkip 10 ?_ | refine wSkipU 10 ?_ | refine wMv 10 ?_ | (refine tr_guard (t := 30) rfl (fun hb => ?_) (fun hb => ?_) <;> (try simp only [decide_eq_true_eq, decide_eq_false_iff_not, Bool.not_eq_true, Bool.not_eq_false, beq_iff_eq, bne_iff_ne, ne_eq, Bool.not_eq_eq_eq_not, Bool.not_true, Bool.not_false, beq_eq_false_iff_ne, bne_eq_false_iff_eq] at hb) <;> first | refine wSkip 10 ?_ | refine wSkipU 10 ?_ | refine wMv 10 ?_))
            all_goals (first | refine wSkip 11 ?_ | refine wSkipU 11 ?_ | refine wMv 11 ?_ | (refine tr_guard (t := 33) rfl (fun hb => ?_) (fun hb => ?_) <;> (try simp only [decide_eq_true_eq, decide_eq_false_iff_not, Bool.not_eq_true, Bool.not_eq_false, beq_iff_eq, bne_iff_ne, ne_eq, Bool.not_eq_eq_eq_not, Bool.not_true, Bool.not_false, beq_eq_false_iff_ne, bne_eq_false_iff_eq] at hb) <;> first | refine wSkip 11 ?_ | refine wSkipU 11 ?_ | refine wMv 11 ?_))
            all_goals (first | refine wSkip 12 ?_ | refine wSkipU 12 ?_ | refine wMv 12 ?_ | (refine tr_guard (t := 33) rfl (fun hb => ?_) (fun hb => ?_) <;> (try simp only [decide_eq_true_eq, decide_eq_false_iff_not, Bool.not_eq_true, Bool.not_eq_false, beq_iff_eq, bne_iff_ne, ne_eq, Bool.not_eq_eq_eq_not, Bool.not_true, Bool.not_false, beq_eq_false_iff_ne, bne_eq_false_iff_eq] at hb) <;> first | refine wSkip 12 ?_ | refine wSkipU 12 ?_ | refine wMv 12 ?_))
            all_goals (first | refine wSkip 13 ?_ | refine wSkipU 13 ?_ | refine wMv 13 ?_ | (refine tr_guard (t := 33) rfl (fun hb => ?_) (fun hb => ?_) <;> (try simp only [decide_eq_true_eq, decide_eq_false_iff_not, Bool.not_eq_true, Bool.not_eq_false, beq_iff_eq, bne_iff_ne, ne_eq, Bool.not_eq_eq_eq_not, Bool.not_true, Bool.not_false, beq_eq_false_iff_ne, bne_eq_false_iff_eq] at hb) <;> first | refine wSkip 13 ?_ | refine wSkipU 13 ?_ | refine wMv 13 ?_))
            all_goals (first | refine wSkip 14 ?_ | refine wSkipU 14 ?_ | refine wSb 14 ?_ | (refine tr_guard (t := 33) rfl (fun hb => ?_) (fun hb => ?_) <;> (try simp only [decide_eq_true_eq, decide_eq_false_iff_not, Bool.not_eq_true, Bool.not_eq_false, beq_iff_eq, bne_iff_ne, ne_eq, Bool.not_eq_eq_eq_not, Bool.not_true, Bool.not_false, beq_eq_false_iff_ne, bne_eq_false_iff_eq] at hb) <;> first | refine wSkip 14 ?_ | refine wSkipU 14 ?_ | refine wSb 14 ?_))
            all_goals (first | refine wSkip 15 ?_ | refine wSkipU 15 ?_ | refine wIa 15 ?_ | (refine tr_guard (t := 33) rfl (fun hb => ?_) (fun hb => ?_) <;> (try simp only [decide_eq_true_eq, decide_eq_false_iff_not, Bool.not_eq_true, Bool.not_eq_false, beq_iff_eq, bne_iff_ne, ne_eq, Bool.not_eq_eq_eq_not, Bool.not_true, Bool.not_false, beq_eq_false_iff_ne, bne_eq_false_iff_eq] at hb) <;> first | refine wSkip 15 ?_ | refine wSkipU 15 ?_ | refine wIa 15 ?_))
            all_goals (first | refine wSkip 16 ?_ | refine wSkipU 16 ?_ | refine wLd 16 ?_ | (refine tr_guard (t := 33) rfl (fun hb => ?_) (fun hb => ?_) <;> (try simp only [decide_eq_true_eq, decide_eq_false_iff_not, Bool.not_eq_true, Bool.not_eq_false, beq_iff_eq, bne_iff_ne, ne_eq, Bool.not_eq_eq_eq_not, Bool.not_true, Bool.not_false, beq_eq_false_iff_ne, bne_eq_false_iff_eq] at hb) <;> first | refine wSkip 16 ?_ | refine wSkipU 16 ?_ | refine wLd 16 ?_))
            all_goals (first | refine wSkip 18 ?_ | refine wSkipU 18 ?_ | refine wMv 18 ?_ | (refine tr_guard (t := 33) rfl (fun hb => ?_) (fun hb => ?_) <;> (try simp only [decide_eq_true_eq, decide_eq_false_iff_not, Bool.not_eq_true, Bool.not_eq_false, beq_iff_eq, bne_iff_ne, ne_eq, Bool.not_eq_eq_eq_not, Bool.not_true, Bool.not_false, beq_eq_false_iff_ne, bne_eq_false_iff_eq] at hb) <;> first | refine wSkip 18 ?_ | refine wSkipU 18 ?_ | refine wMv 18 ?_))
            all_goals (first | refine wSkip 19 ?_ | refine wSkipU 19 ?_ | refine wLd 19 ?_ | (refine tr_guard (t := 33) rfl (fun hb => ?_) (fun hb => ?_) <;> (try simp only [decide_eq_true_eq, decide_eq_false_iff_not, Bool.not_eq_true, Bool.not_eq_false, beq_iff_eq, bne_iff_ne, ne_eq, Bool.not_eq_eq_eq_not, Bool.not_true, Bool.not_false, beq_eq_false_iff_ne, bne_eq_false_iff_eq] at hb) <;> first | refine wSkip 19 ?_ | refine wSkipU 19 ?_ | refine wLd 19 ?_))
            all_goals (first | refine wSkip 17 ?_ | refine wSkipU 17 ?_ | (refine rStep (i := 17) ?_; ((try refine qWant ?_); (first | (refine tl_is (.tmp 25) ?_; refine qC rfl rfl (leaf2_spec _ _ _) ?_; rintro v ρ' L' hle ⟨rfl, rfl, rfl⟩ <;> (try simp only [List.cons_append, List.nil_append, List.append_eq, hx])) | (refine tl_is (.tmp 34) ?_; refine qC rfl rfl (leaf1_spec _ _) ?_; rintro v ρ' L' hle ⟨rfl, rfl, rfl⟩ <;> (try simp only [List.cons_append, List.nil_append, List.append_eq])) | (refine tl_is (.tmp 41) ?_; refine qC rfl rfl (leaf1_spec _ _) ?_; rintro v ρ' L' hle ⟨rfl, rfl, rfl⟩ <;> (try simp only [List.cons_append, List.nil_append, List.append_eq])) | (refine qEf ?_; try intro _)) <;> ((try simp only [List.cons_append, List.nil_append, List.append_eq]); refine tl_nil ?_; refine rNext ?_))))
            all_goals (first | refine wSkip 20 ?_ | refine wSkipU 20 ?_ | (refine rStep (i := 20) ?_; ((try refine qWant ?_); (first | (refine tl_is (.tmp 25) ?_; refine qC rfl rfl (leaf2_spec _ _ _) ?_; rintro v ρ' L' hle ⟨rfl, rfl, rfl⟩ <;> (try simp only [List.cons_append, List.nil_append, List.append_eq, hx])) | (refine tl_is (.tmp 34) ?_; refine qC rfl rfl (leaf1_spec _ _) ?_; rintro v ρ' L' hle ⟨rfl, rfl, rfl⟩ <;> (try simp only [List.cons_append, List.nil_append, List.append_eq])) | (refine tl_is (.tmp 41) ?_; refine qC rfl rfl (leaf1_spec _ _) ?_; rintro v ρ' L' hle ⟨rfl, rfl, rfl⟩ <;> (try simp only [List.cons_append, List.nil_append, List.append_eq])) | (refine qEf ?_; try intro _)) <;> ((try simp only [List.cons_append, List.nil_append, List.append_eq]); refine tl_nil ?_; refine rNext ?_))))
            all_goals (first | refine wSkip 21 ?_ | refine wSkipU 21 ?_ | (refine rStep (i := 21) ?_; ((try refine qWant ?_); (first | (refine tl_is (.func 209) ?_; refine qC rfl rfl (compare_spec _ _ _ _ _) ?_; rintro v ρ' L' hle ⟨rfl, rfl, rfl⟩ <;> (try simp only [List.cons_append, List.nil_append, List.append_eq])) | (refine qEf ?_; try intro _)) <;> ((try simp only [List.cons_append, List.nil_append, List.append_eq]); refine tl_nil ?_; refine rNext ?_))))
            all_goals refine rFull ?_
            all_goals (first | refine wSkip 22 ?_ | refine wSkipU 22 ?_ | refine wCm 22 ?_ | (refine tr_guard (t := 33) rfl (fun hb => ?_) (fun hb => ?_) <;> (try simp only [decide_eq_true_eq, decide_eq_false_iff_not, Bool.not_eq_true, Bool.not_eq_false, beq_iff_eq, bne_iff_ne, ne_eq, Bool.not_eq_eq_eq_not, Bool.not_true, Bool.not_false, beq_eq_false_iff_ne, bne_eq_false_iff_eq] at hb) <;> first | refine wSkip 22 ?_ | refine wSkipU 22 ?_ | refine wCm 22 ?_))
            all_goals (first | refine wSkip 23 ?_ | refine wSkipU 23 ?_ | refine wPk 23 ?_ | (refine tr_guard (t := 30) rfl (fun hb => ?_) (fun hb => ?_) <;> (try simp only [decide_eq_true_eq, decide_eq_false_iff_not, Bool.not_eq_true, Bool.not_eq_false, beq_iff_eq, bne_iff_ne, ne_eq, Bool.not_eq_eq_eq_not, Bool.not_true, Bool.not_false, beq_eq_false_iff_ne, bne_eq_false_iff_eq] at hb) <;> first | refine wSkip 23 ?_ | refine wSkipU 23 ?_ | refine wPk 23 ?_))
            all_goals refine rPk 24 ?_
            all_goals refine rAs 25 ?_
            all_goals refine rDone ?_
            all_goals (repeat' (first | (refine i_op ?_; first | (refine i_qq ?_; refine qQ ?_) | refine qEf ?_) | refine tl_nil ?_ | (refine i_tc ?_; refine qTc ?_) | (refine i_te ?_; refine qTe ?_) | intro _))
            all_goals rw [← hs]
            all_goals refine te_round_g (k + 1) (hlt) ev_le ev_le rfl tk inferInstance (by first | omega | (dsimp only; omega))
          · rw [decide_eq_false hcm] at hs
            rw [hfin hs]
            repeat' (first | (refine i_op ?_; first | (refine i_qq ?_; refine qQ ?_) | refine qEf ?_) | refine tl_nil ?_ | (refine i_tc ?_; refine qTc ?_) | (refine i_te ?_; refine qTe ?_) | intro _)
            refine tc_any (Stays _ _ _) stays_refl ?_
            all_goals refine rMv 0 ?_
            all_goals refine rMv 1 ?_
            all_goals (first | refine wSkip 2 ?_ | refine wSkipU 2 ?_ | refine wMv 2 ?_ | (refine tr_guard (t := 24) rfl (fun hb => ?_) (fun hb => ?_) <;> (try simp only [decide_eq_true_eq, decide_eq_false_iff_not, Bool.not_eq_true, Bool.not_eq_false, beq_iff_eq, bne_iff_ne, ne_eq, Bool.not_eq_eq_eq_not, Bool.not_true, Bool.not_false, beq_eq_false_iff_ne, bne_eq_false_iff_eq] at hb) <;> first | refine wSkip 2 ?_ | refine wSkipU 2 ?_ | refine wMv 2 ?_))
            all_goals (first | refine wSkip 3 ?_ | refine wSkipU 3 ?_ | refine wMv 3 ?_ | (refine tr_guard (t := 24) rfl (fun hb => ?_) (fun hb => ?_) <;> (try simp only [decide_eq_true_eq, decide_eq_false_iff_not, Bool.not_eq_true, Bool.not_eq_false, beq_iff_eq, bne_iff_ne, ne_eq, Bool.not_eq_eq_eq_not, Bool.not_true, Bool.not_false, beq_eq_false_iff_ne, bne_eq_false_iff_eq] at hb) <;> first | refine wSkip 3 ?_ | refine wSkipU 3 ?_ | refine wMv 3 ?_))
            all_goals (first | refine wSkip 4 ?_ | refine wSkipU 4 ?_ | refine wLd 4 ?_ | (refine tr_guard (t := 24) rfl (fun hb => ?_) (fun hb => ?_) <;> (try simp only [decide_eq_true_eq, decide_eq_false_iff_not, Bool.not_eq_true, Bool.not_eq_false, beq_iff_eq, bne_iff_ne, ne_eq, Bool.not_eq_eq_eq_not, Bool.not_true, Bool.not_false, beq_eq_false_iff_ne, bne_eq_false_iff_eq] at hb) <;> first | refine wSkip 4 ?_ | refine wSkipU 4 ?_ | refine wLd 4 ?_))
            all_goals (first | refine wSkip 5 ?_ | refine wSkipU 5 ?_ | (refine rStep (i := 5) ?_; ((try refine qWant ?_); (first | (refine tl_is (.tmp 25) ?_; refine qC rfl rfl (leaf2_spec _ _ _) ?_; rintro v ρ' L' hle ⟨rfl, rfl, rfl⟩ <;> (try simp only [List.cons_append, List.nil_append, List.append_eq, hx])) | (refine tl_is (.tmp 34) ?_; refine qC rfl rfl (leaf1_spec _ _) ?_; rintro v ρ' L' hle ⟨rfl, rfl, rfl⟩ <;> (try simp only [List.cons_append, List.nil_append, List.append_eq])) | (refine tl_is (.tmp 41) ?_; refine qC rfl rfl (leaf1_spec _ _) ?_; rintro v ρ' L' hle ⟨rfl, rfl, rfl⟩ <;> (try simp only [List.cons_append, List.nil_append, List.append_eq])) | (refine qEf ?_; try intro _)) <;> ((try simp only [List.cons_append, List.nil_append, List.append_eq]); refine tl_nil ?_; refine rNext ?_))))
            all_goals refine rPk 6 ?_
            all_goals refine rMv 7 ?_
            all_goals (first | refine wSkip 8 ?_ | refine wSkipU 8 ?_ | refine wMv 8 ?_ | (refine tr_guard (t := 30) rfl (fun hb => ?_) (fun hb => ?_) <;> (try simp only [decide_eq_true_eq, decide_eq_false_iff_not, Bool.not_eq_true, Bool.not_eq_false, beq_iff_eq, bne_iff_ne, ne_eq, Bool.not_eq_eq_eq_not, Bool.not_true, Bool.not_false, beq_eq_false_iff_ne, bne_eq_false_iff_eq] at hb) <;> first | refine wSkip 8 ?_ | refine wSkipU 8 ?_ | refine wMv 8 ?_))
            all_goals (first | refine wSkip 9 ?_ | refine wSkipU 9 ?_ | refine wCm 9 ?_ | (refine tr_guard (t := 30) rfl (fun hb => ?_) (fun hb => ?_) <;> (try simp only [decide_eq_true_eq, decide_eq_false_iff_not, Bool.not_eq_true, Bool.not_eq_false, beq_iff_eq, bne_iff_ne, ne_eq, Bool.not_eq_eq_eq_not, Bool.not_true, Bool.not_false, beq_eq_false_iff_ne, bne_eq_false_iff_eq] at hb) <;> first | refine wSkip 9 ?_ | refine wSkipU 9 ?_ | refine wCm 9 ?_))
            all_goals (first | refine wSkip 10 ?_ | refine wSkipU 10 ?_ | refine wMv 10 ?_ | (refine tr_guard (t := 30) rfl (fun hb => ?_) (fun hb => ?_) <;> (try simp only [decide_eq_true_eq, decide_eq_false_iff_not, Bool.not_eq_true, Bool.not_eq_false, beq_iff_eq, bne_iff_ne, ne_eq, Bool.not_eq_eq_eq_not, Bool.not_true, Bool.not_false, beq_eq_false_iff_ne, bne_eq_false_iff_eq] at hb) <;> first | refine wSkip 10 ?_ | refine wSkipU 10 ?_ | refine wMv 10 ?_))
            all_goals (first | refine wSkip 11 ?_ | refine wSkipU 11 ?_ | refine wMv 11 ?_ | (refine tr_guard (t := 33) rfl (fun hb => ?_) (fun hb => ?_) <;> (try simp only [decide_eq_true_eq, decide_eq_false_iff_not, Bool.not_eq_true, Bool.not_eq_false, beq_iff_eq, bne_iff_ne, ne_eq, Bool.not_eq_eq_eq_not, Bool.not_true, Bool.not_false, beq_eq_false_iff_ne, bne_eq_false_iff_eq] at hb) <;> first | refine wSkip 11 ?_ | refine wSkipU 11 ?_ | refine wMv 11 ?_))
            all_goals (first | refine wSkip 12 ?_ | refine wSkipU 12 ?_ | refine wMv 12 ?_ | (refine tr_guard (t := 33) rfl (fun hb => ?_) (fun hb => ?_) <;> (try simp only [decide_eq_true_eq, decide_eq_false_iff_not, Bool.not_eq_true, Bool.not_eq_false, beq_iff_eq, bne_iff_ne, ne_eq, Bool.not_eq_eq_eq_not, Bool.not_true, Bool.not_false, beq_eq_false_iff_ne, bne_eq_false_iff_eq] at hb) <;> first | refine wSkip 12 ?_ | refine wSkipU 12 ?_ | refine wMv 12 ?_))
            all_goals (first | refine wSkip 13 ?_ | refine wSkipU 13 ?_ | refine wMv 13 ?_ | (refine tr_guard (t := 33) rfl (fun hb => ?_) (fun hb => ?_) <;> (try simp only [decide_eq_true_eq, decide_eq_false_iff_not, Bool.not_eq_true, Bool.not_eq_false, beq_iff_eq, bne_iff_ne, ne_eq, Bool.not_eq_eq_eq_not, Bool.not_true, Bool.not_false, beq_eq_false_iff_ne, bne_eq_false_iff_eq] at hb) <;> first | refine wSkip 13 ?_ | refine wSkipU 13 ?_ | refine wMv 13 ?_))
            all_goals (first | refine wSkip 14 ?_ | refine wSkipU 14 ?_ | refine wSb 14 ?_ | (refine tr_guard (t := 33) rfl (fun hb => ?_) (fun hb => ?_) <;> (try simp only [decide_eq_true_eq, decide_eq_false_iff_not, Bool.not_eq_true, Bool.not_eq_false, beq_iff_eq, bne_iff_ne, ne_eq, Bool.not_eq_eq_eq_not, Bool.not_true, Bool.not_false, beq_eq_false_iff_ne, bne_eq_false_iff_eq] at hb) <;> first | refine wSkip 14 ?_ | refine wSkipU 14 ?_ | refine wSb 14 ?_))
            all_goals (first | refine wSkip 15 ?_ | refine wSkipU 15 ?_ | refine wIa 15 ?_ | (refine tr_guard (t := 33) rfl (fun hb => ?_) (fun hb => ?_) <;> (try simp only [decide_eq_true_eq, decide_eq_false_iff_not, Bool.not_eq_true, Bool.not_eq_false, beq_iff_eq, bne_iff_ne, ne_eq, Bool.not_eq_eq_eq_not, Bool.not_true, Bool.not_false, beq_eq_false_iff_ne, bne_eq_false_iff_eq] at hb) <;> first | refine wSkip 15 ?_ | refine wSkipU 15 ?_ | refine wIa 15 ?_))
            all_goals (first | refine wSkip 16 ?_ | refine wSkipU 16 ?_ | refine wLd 16 ?_ | (refine tr_guard (t := 33) rfl (fun hb => ?_) (fun hb => ?_) <;> (try simp only [decide_eq_true_eq, decide_eq_false_iff_not, Bool.not_eq_true, Bool.not_eq_false, beq_iff_eq, bne_iff_ne, ne_eq, Bool.not_eq_eq_eq_not, Bool.not_true, Bool.not_false, beq_eq_false_iff_ne, bne_eq_false_iff_eq] at hb) <;> first | refine wSkip 16 ?_ | refine wSkipU 16 ?_ | refine wLd 16 ?_))
            all_goals (first | refine wSkip 18 ?_ | refine wSkipU 18 ?_ | refine wMv 18 ?_ | (refine tr_guard (t := 33) rfl (fun hb => ?_) (fun hb => ?_) <;> (try simp only [decide_eq_true_eq, decide_eq_false_iff_not, Bool.not_eq_true, Bool.not_eq_false, beq_iff_eq, bne_iff_ne, ne_eq, Bool.not_eq_eq_eq_not, Bool.not_true, Bool.not_false, beq_eq_false_iff_ne, bne_eq_false_iff_eq] at hb) <;> first | refine wSkip 18 ?_ | refine wSkipU 18 ?_ | refine wMv 18 ?_))
            all_goals (first | refine wSkip 19 ?_ | refine wSkipU 19 ?_ | refine wLd 19 ?_ | (refine tr_guard (t := 33) rfl (fun hb => ?_) (fun hb => ?_) <;> (try simp only [decide_eq_true_eq, decide_eq_false_iff_not, Bool.not_eq_true, Bool.not_eq_false, beq_iff_eq, bne_iff_ne, ne_eq, Bool.not_eq_eq_eq_not, Bool.not_true, Bool.not_false, beq_eq_false_iff_ne, bne_eq_false_iff_eq] at hb) <;> first | refine wSkip 19 ?_ | refine wSkipU 19 ?_ | refine wLd 19 ?_))
            all_goals (first | refine wSkip 17 ?_ | refine wSkipU 17 ?_ | (refine rStep (i := 17) ?_; ((try refine qWant ?_); (first | (refine tl_is (.tmp 25) ?_; refine qC rfl rfl (leaf2_spec _ _ _) ?_; rintro v ρ' L' hle ⟨rfl, rfl, rfl⟩ <;> (try simp only [List.cons_append, List.nil_append, List.append_eq, hx])) | (refine tl_is (.tmp 34) ?_; refine qC rfl rfl (leaf1_spec _ _) ?_; rintro v ρ' L' hle ⟨rfl, rfl, rfl⟩ <;> (try simp only [List.cons_append, List.nil_append, List.append_eq])) | (refine tl_is (.tmp 41) ?_; refine qC rfl rfl (leaf1_spec _ _) ?_; rintro v ρ' L' hle ⟨rfl, rfl, rfl⟩ <;> (try simp only [List.cons_append, List.nil_append, List.append_eq])) | (refine qEf ?_; try intro _)) <;> ((try simp only [List.cons_append, List.nil_append, List.append_eq]); refine tl_nil ?_; refine rNext ?_))))
            all_goals (first | refine wSkip 20 ?_ | refine wSkipU 20 ?_ | (refine rStep (i := 20) ?_; ((try refine qWant ?_); (first | (refine tl_is (.tmp 25) ?_; refine qC rfl rfl (leaf2_spec _ _ _) ?_; rintro v ρ' L' hle ⟨rfl, rfl, rfl⟩ <;> (try simp only [List.cons_append, List.nil_append, List.append_eq, hx])) | (refine tl_is (.tmp 34) ?_; refine qC rfl rfl (leaf1_spec _ _) ?_; rintro v ρ' L' hle ⟨rfl, rfl, rfl⟩ <;> (try simp only [List.cons_append, List.nil_append, List.append_eq])) | (refine tl_is (.tmp 41) ?_; refine qC rfl rfl (leaf1_spec _ _) ?_; rintro v ρ' L' hle ⟨rfl, rfl, rfl⟩ <;> (try simp only [List.cons_append, List.nil_append, List.append_eq])) | (refine qEf ?_; try intro _)) <;> ((try simp only [List.cons_append, List.nil_append, List.append_eq]); refine tl_nil ?_; refine rNext ?_))))
            all_goals (first | refine wSkip 21 ?_ | refine wSkipU 21 ?_ | (refine rStep (i := 21) ?_; ((try refine qWant ?_); (first | (refine tl_is (.func 209) ?_; refine qC rfl rfl (compare_spec _ _ _ _ _) ?_; rintro v ρ' L' hle ⟨rfl, rfl, rfl⟩ <;> (try simp only [List.cons_append, List.nil_append, List.append_eq])) | (refine qEf ?_; try intro _)) <;> ((try simp only [List.cons_append, List.nil_append, List.append_eq]); refine tl_nil ?_; refine rNext ?_))))
            all_goals refine rFull ?_
            all_goals (first | refine wSkip 22 ?_ | refine wSkipU 22 ?_ | refine wCm 22 ?_ | (refine tr_guard (t := 33) rfl (fun hb => ?_) (fun hb => ?_) <;> (try simp only [decide_eq_true_eq, decide_eq_false_iff_not, Bool.not_eq_true, Bool.not_eq_false, beq_iff_eq, bne_iff_ne, ne_eq, Bool.not_eq_eq_eq_not, Bool.not_true, Bool.not_false, beq_eq_false_iff_ne, bne_eq_false_iff_eq] at hb) <;> first | refine wSkip 22 ?_ | refine wSkipU 22 ?_ | refine wCm 22 ?_))
            all_goals (first | refine wSkip 23 ?_ | refine wSkipU 23 ?_ | refine wPk 23 ?_ | (refine tr_guard (t := 30) rfl (fun hb => ?_) (fun hb => ?_) <;> (try simp only [decide_eq_true_eq, decide_eq_false_iff_not, Bool.not_eq_true, Bool.not_eq_false, beq_iff_eq, bne_iff_ne, ne_eq, Bool.not_eq_eq_eq_not, Bool.not_true, Bool.not_false, beq_eq_false_iff_ne, bne_eq_false_iff_eq] at hb) <;> first | refine wSkip 23 ?_ | refine wSkipU 23 ?_ | refine wPk 23 ?_))
            all_goals refine rPk 24 ?_
            all_goals refine rAs 25 ?_
            all_goals refine rDone ?_
            all_goals (repeat' (first | (refine i_op ?_; first | (refine i_qq ?_; refine qQ ?_) | refine qEf ?_) | refine tl_nil ?_ | (refine i_tc ?_; refine qTc ?_) | (refine i_te ?_; refine qTe ?_) | intro _))
            all_goals exact qE ⟨rfl, rfl, rfl⟩
  · have hk2 : k = n := by omega
    subst hk2
    repeat' (first | (refine i_op ?_; first | (refine i_qq ?_; refine qQ ?_) | refine qEf ?_) | refine tl_nil ?_ | (refine i_tc ?_; refine qTc ?_) | (refine i_te ?_; refine qTe ?_) | intro _)
    exact qE ⟨rfl, rfl, rfl⟩
end Go.Proofs.E

namespace Go.Proofs.E
open Go
set_option linter.unusedVariables false
set_option linter.unusedSimpArgs false
set_option linter.unusedSectionVars false
set_option maxRecDepth 4000
set_option maxHeartbeats 1000000
attribute [local irreducible] Yl TL TC TE Spec YSpec R1 Hp.le EnvLe TS TR YS Stays
structure MetOk (es : List MapEntry) (ps : List Int) : Prop where
  keys : IntKeys .i64 es
  get : ∀ p, mget es p = if p ∈ ps then some (.bool true) else none
theorem MetOk.nil : MetOk [] [] := ⟨by intro e he; simp at he, fun p => by simp [mget]⟩
def kidOk (i : Nat) (ps : List Int) (k : Kid) : Bool := decide (k.page ∉ ps ∧ 0 < k.page ∧ k.page < 64 ∧ (0 ≤ k.t ∧ k.t < 3) ∧ (0 < i ∨ (k.t = 0 ∧ k.id = 0)))
theorem kidV_len (r : Kid) : (kidV r).length = 3 := rfl
theorem kidV_one (r : Kid) : (kidV r).all (·.oneCell') = true := rfl
theorem inner1_spec (ρ : Hp) (r : Kid) : Spec Try.prog 159 [.agg ⟨kidV r⟩] ρ [] (fun v ρ' L' => v = .agg ⟨keyV r.t r.id⟩ ∧ ρ' = ρ ∧ L' = []) := by
  refine spec_enter Try.func159 rfl rfl rfl fun u R => ?_
  simp only [argsE, List.cons_append, List.nil_append]
  repeat' (first | (refine i_op ?_; first | (refine i_qq ?_; refine qQ ?_) | refine qEf ?_) | refine tl_nil ?_ | (refine i_tc ?_; refine qTc ?_) | (refine i_te ?_; refine qTe ?_) | intro _)
  exact qE ⟨rfl, rfl, rfl⟩
abbrev metL (bx mb : Nat) (es : List MapEntry) (ck : Nat) : SH := [[(bx, .cells ⟨[.map (some mb)]⟩ 223 (0, 0))], [(mb, .map ⟨es⟩ ck)]]
theorem inner2_spec (ρ : Hp) (bx mb : Nat) (es : List MapEntry) (ck : Nat) (ps : List Int) (hm : MetOk es ps) (i : Nat) (k : Kid) : Spec Try.prog 160 [.int .i64 i, .agg ⟨kidV k⟩, .pointer (some ⟨bx, 0, none⟩)] ρ (metL bx mb es ck)
    (fun v ρ' L' => v = .bool (kidOk i ps k) ∧ ρ' = ρ ∧ ∃ es' ck', MetOk es' (k.page :: ps) ∧ L' = metL bx mb es' ck') := by
  obtain ⟨t, id, page⟩ := k
  have hes := hm.keys
  have hg := hm.get page
  dsimp only at hg ⊢
  generalize hq : kidOk i ps ⟨t, id, page⟩ = q
  have hfin : ∀ es', IntKeys .i64 es' → (∀ j, mget es' j = if j = page then some (.bool true) else mget es j) → MetOk es' (page :: ps) := fun es' h1 h2 => ⟨h1, fun p => by
    rw [h2 p, hm.get p]
    by_cases e : p = page <;> simp [e]⟩
  refine spec_enter Try.func160 rfl rfl rfl fun u R => ?_
  simp only [argsE, List.cons_append, List.nil_append]
  by_cases hp : page ∈ ps
  · rw [if_pos hp] at hg
    have hq' : q = false := by rw [← hq]; exact decide_eq_false (fun h => h.1 hp)
    subst hq'
    repeat' (first | (refine tl_mapUpdate rfl rfl rfl hes (fun es' ck' h1 h2 => ?_)) | (refine i_op ?_; first | (refine i_qq ?_; refine qQ ?_) | refine qEf ?_) | refine tl_nil ?_ | (refine i_tc ?_; refine qTc ?_) | (refine i_te ?_; refine qTe ?_) | intro _)
    exact qE ⟨rfl, rfl, es', ck', hfin es' h1 h2, rfl⟩
  · rw [if_neg hp] at hg
    by_cases hp0 : 0 < page
    · by_cases hp6 : page < 64
      · by_cases ht : 0 ≤ t ∧ t < 3
        · have hd : decide (0 ≤ t ∧ t < 3) = true := decide_eq_true ht
          by_cases hi : 0 < i
          · have hq' : q = true := by rw [← hq]; exact decide_eq_true ⟨hp, hp0, hp6, ht, .inl hi⟩
            subst hq'
            repeat' (first | (refine tl_mapUpdate rfl rfl rfl hes (fun es' ck' h1 h2 => ?_)) | (refine tl_is (.func 94) ?_; refine qC rfl rfl (table_spec _ _) ?_; rintro v ρ' L' hle ⟨rfl, rfl, rfl⟩ <;> (try simp only [List.cons_append, List.nil_append, List.append_eq, hd])) | (refine i_op ?_; first | (refine i_qq ?_; refine qQ ?_) | refine qEf ?_) | refine tl_nil ?_ | (refine i_tc ?_; refine qTc ?_) | (refine i_te ?_; refine qTe ?_) | intro _)
            exact qE ⟨rfl, rfl, es', ck', hfin es' h1 h2, rfl⟩
          · by_cases hz : t = 0 ∧ id = 0
            · have hq' : q = true := by rw [← hq]; exact decide_eq_true ⟨hp, hp0, hp6, ht, .inr hz⟩
              subst hq'
              obtain ⟨rfl, rfl⟩ := hz
              repeat' (first | (refine tl_mapUpdate rfl rfl rfl hes (fun es' ck' h1 h2 => ?_)) | (refine tl_is (.func 94) ?_; refine qC rfl rfl (table_spec _ _) ?_; rintro v ρ' L' hle ⟨rfl, rfl, rfl⟩ <;> (try simp only [List.cons_append, List.nil_append, List.append_eq, hd])) | (refine i_op ?_; first | (refine i_qq ?_; refine qQ ?_) | refine qEf ?_) | refine tl_nil ?_ | (refine i_tc ?_; refine qTc ?_) | (refine i_te ?_; refine qTe ?_) | intro _)
              exact qE ⟨rfl, rfl, es', ck', hfin es' h1 h2, rfl⟩
            · have hq' : q = false := by rw [← hq]; exact decide_eq_false (fun h => h.2.2.2.2.elim hi hz)
              subst hq'
              have hk : ((t == 0) && (((id : Int) == 0) && true)) = false := by
                simp; intro h; exact fun h' => hz ⟨h, by omega⟩
              repeat' (first | (refine tl_mapUpdate rfl rfl rfl hes (fun es' ck' h1 h2 => ?_)) | (refine tl_is (.func 94) ?_; refine qC rfl rfl (table_spec _ _) ?_; rintro v ρ' L' hle ⟨rfl, rfl, rfl⟩ <;> (try simp only [List.cons_append, List.nil_append, List.append_eq, hd])) | (refine i_op ?_; first | (refine i_qq ?_; refine qQ ?_) | refine qEf ?_) | refine tl_nil ?_ | (refine i_tc ?_; refine qTc ?_) | (refine i_te ?_; refine qTe ?_) | intro _)
              exact qE ⟨by first | rfl | exact congrArg Value.bool hk, rfl, es', ck', hfin es' h1 h2, rfl⟩
        · have hd : decide (0 ≤ t ∧ t < 3) = false := decide_eq_false ht
          have hq' : q = false := by rw [← hq]; exact decide_eq_false (fun h => ht h.2.2.2.1)
          subst hq'
          repeat' (first | (refine tl_mapUpdate rfl rfl rfl hes (fun es' ck' h1 h2 => ?_)) | (refine tl_is (.func 94) ?_; refine qC rfl rfl (table_spec _ _) ?_; rintro v ρ' L' hle ⟨rfl, rfl, rfl⟩ <;> (try simp only [List.cons_append, List.nil_append, List.append_eq, hd])) | (refine i_op ?_; first | (refine i_qq ?_; refine qQ ?_) | refine qEf ?_) | refine tl_nil ?_ | (refine i_tc ?_; refine qTc ?_) | (refine i_te ?_; refine qTe ?_) | intro _)
          exact qE ⟨rfl, rfl, es', ck', hfin es' h1 h2, rfl⟩
      · have hq' : q = false := by rw [← hq]; exact decide_eq_false (fun h => hp6 h.2.2.1)
        subst hq'
        repeat' (first | (refine tl_mapUpdate rfl rfl rfl hes (fun es' ck' h1 h2 => ?_)) | (refine i_op ?_; first | (refine i_qq ?_; refine qQ ?_) | refine qEf ?_) | refine tl_nil ?_ | (refine i_tc ?_; refine qTc ?_) | (refine i_te ?_; refine qTe ?_) | intro _)
        exact qE ⟨rfl, rfl, es', ck', hfin es' h1 h2, rfl⟩
    · have hq' : q = false := by rw [← hq]; exact decide_eq_false (fun h => hp0 h.2.1)
      subst hq'
      repeat' (first | (refine tl_mapUpdate rfl rfl rfl hes (fun es' ck' h1 h2 => ?_)) | (refine i_op ?_; first | (refine i_qq ?_; refine qQ ?_) | refine qEf ?_) | refine tl_nil ?_ | (refine i_tc ?_; refine qTc ?_) | (refine i_te ?_; refine qTe ?_) | intro _)
      exact qE ⟨rfl, rfl, es', ck', hfin es' h1 h2, rfl⟩
def psTo (l : List Kid) (k : Nat) : List Int := ((l.take k).map Kid.page).reverse
theorem psTo_succ {l : List Kid} {k : Nat} (h : k < l.length) : psTo l (k + 1) = l[k].page :: psTo l k := by
  unfold psTo; rw [List.take_succ_eq_append_getElem h, List.map_append, List.reverse_append]; rfl
def ltK (y x : Kid) : Bool := decide (cmpK y.t y.id x.t x.id < 0)
def kidsOk (l : List Kid) : Bool := risesB 4 (fun i k => kidOk i (psTo l i) k) ltK l l.length
theorem risesKid_spec (ρ : Hp) (a : Option Addr) (n c : Nat) (l : List Kid) (h : AIn ρ 3 kidV a n l) (hn : n ≤ 1000000) (bx mb ck0 : Nat) :
    Spec Try.prog 158 [.slice a n c, .int .i64 4, .func (.func 159) ⟨[]⟩ ⟨[]⟩, .func (.func 160) ⟨[]⟩ ⟨[.pointer (some ⟨bx, 0, none⟩)]⟩] ρ (metL bx mb [] ck0) (fun v ρ' L' => v = .bool (kidsOk l) ∧ ρ' = ρ ∧ L' = []) := by
  have hl := h.len
  unfold kidsOk
  rw [hl]
  refine spec_enter Try.func158 rfl rfl rfl fun u R => ?_
  simp only [argsE, List.cons_append, List.nil_append]
  generalize hr : (fun (i : Nat) (k : Kid) => kidOk i (psTo l i) k) = rt
  repeat' (first | (refine i_op ?_; first | (refine i_qq ?_; refine qQ ?_) | refine qEf ?_) | refine tl_nil ?_ | (refine i_tc ?_; refine qTc ?_) | (refine i_te ?_; refine qTe ?_) | intro _)
  have e0 : decide ((n : Int) ≤ 4) = risesB 4 rt ltK l 0 := by
    rw [risesB]; simp [hl]; omega
  rw [e0]
  refine tc_loop_g [(0, _), (2, _), (3, _), (8, _), (16, _), (17, _)] (fun (ζ : (Nat) × (List MapEntry) × (Nat)) => [(18, .int .i64 ζ.1), (9, .bool (risesB 4 rt ltK l ζ.1))]) (fun (ζ : (Nat) × (List MapEntry) × (Nat)) => ρ) (fun (ζ : (Nat) × (List MapEntry) × (Nat)) => metL bx mb ζ.2.1 ζ.2.2) (fun (ζ : (Nat) × (List MapEntry) × (Nat)) => ζ.1 ≤ n ∧ MetOk ζ.2.1 (psTo l ζ.1)) (fun (ζ : (Nat) × (List MapEntry) × (Nat)) => n - ζ.1) ((0, [], ck0)) (⟨Nat.zero_le _, MetOk.nil⟩) ev_le ev_le rfl tk ?_
  rintro ⟨k, es, ck⟩ hI
  try simp only [List.cons_append, List.nil_append, List.append_assoc, List.append_eq] at hI ⊢
  try dsimp only at hI ⊢
  obtain ⟨hI, hm⟩ := hI
  by_cases hlt : k < n
  · obtain ⟨b, off, C, T, fr, rfl, hb, hfit, hc⟩ := h.get (show k < l.length by omega)
    have hs := risesB_succ (most := 4) (right := rt) (lt := ltK) (show k < l.length by omega)
    have hfin := fun (e : risesB 4 rt ltK l (k + 1) = false) => risesB_false' e (show k + 1 ≤ n by omega)
    have hps := psTo_succ (show k < l.length by omega)
    have hrk : rt k l[k] = kidOk k (psTo l k) l[k] := by rw [← hr]
    cases hok : risesB 4 rt ltK l k
    · rw [hok, Bool.false_and] at hs
      rw [hfin hs]
      generalize l[k] = x at *
      repeat' (first | (refine i_op ?_; first | (refine i_qq ?_; refine qQ ?_) | refine qEf ?_) | refine tl_nil ?_ | (refine i_tc ?_; refine qTc ?_) | (refine i_te ?_; refine qTe ?_) | intro _)
      rename_i b11
      refine tc_any (Stays _ _ ([[(b11, .cells ⟨kidV x⟩ 134 (0, 0))]])) (stays_of (Hp.le_refl _)) ?_
      all_goals refine rMv 0 ?_
      all_goals refine rMv 1 ?_
      all_goals (first | refine wSkip 2 ?_ | refine wSkipU 2 ?_ | refine wMv 2 ?_ | (refine tr_guard (t := 24) rfl (fun hb => ?_) (fun hb => ?_) <;> (try simp only [decide_eq_true_eq, decide_eq_false_iff_not, Bool.not_eq_true, Bool.not_eq_false, beq_iff_eq, bne_iff_ne, ne_eq, Bool.not_eq_eq_eq_not, Bool.not_true, Bool.not_false, beq_eq_false_iff_ne, bne_eq_false_iff_eq] at hb) <;> first | refine wSkip 2 ?_ | refine wSkipU 2 ?_ | refine wMv 2 ?_))
      all_goals (first | refine wSkip 3 ?_ | refine wSkipU 3 ?_ | refine wMv 3 ?_ | (refine tr_guard (t := 24) rfl (fun hb => ?_) (fun hb => ?_) <;> (try simp only [decide_eq_true_eq, decide_eq_false_iff_not, Bool.not_eq_true, Bool.not_eq_false, beq_iff_eq, bne_iff_ne, ne_eq, Bool.not_eq_eq_eq_not, Bool.not_true, Bool.not_false, beq_eq_false_iff_ne, bne_eq_false_iff_eq] at hb) <;> first | refine wSkip 3 ?_ | refine wSkipU 3 ?_ | refine wMv 3 ?_))
      all_goals (first | refine wSkip 4 ?_ | refine wSkipU 4 ?_ | refine wLd 4 ?_ | (refine tr_guard (t := 24) rfl (fun hb => ?_) (fun hb => ?_) <;> (try simp only [decide_eq_true_eq, decide_eq_false_iff_not, Bool.not_eq_true, Bool.not_eq_false, beq_iff_eq, bne_iff_ne, ne_eq, Bool.not_eq_eq_eq_not, Bool.not_true, Bool.not_false, beq_eq_false_iff_ne, bne_eq_false_iff_eq] at hb) <;> first | refine wSkip 4 ?_ | refine wSkipU 4 ?_ | refine wLd 4 ?_))
      all_goals (first | refine wSkip 5 ?_ | refine wSkipU 5 ?_ | (refine rStep (i := 5) ?_; ((try refine qWant ?_); (first | (refine qEf ?_; try intro _)) <;> ((try simp only [List.cons_append, List.nil_append, List.append_eq]); refine tl_nil ?_; refine rNext ?_))))
      all_goals refine rPk 6 ?_
      all_goals refine rMv 7 ?_
      all_goals (first | refine wSkip 8 ?_ | refine wSkipU 8 ?_ | refine wMv 8 ?_ | (refine tr_guard (t := 30) rfl (fun hb => ?_) (fun hb => ?_) <;> (try simp only [decide_eq_true_eq, decide_eq_false_iff_not, Bool.not_eq_true, Bool.not_eq_false, beq_iff_eq, bne_iff_ne, ne_eq, Bool.not_eq_eq_eq_not, Bool.not_true, Bool.not_false, beq_eq_false_iff_ne, bne_eq_false_iff_eq] at hb) <;> first | refine wSkip 8 ?_ | refine wSkipU 8 ?_ | refine wMv 8 ?_))
      all_goals (first | refine wSkip 9 ?_ | refine wSkipU 9 ?_ | refine wCm 9 ?_ | (refine tr_guard (t := 30) rfl (fun hb => ?_) (fun hb => ?_) <;> (try simp only [decide_eq_true_eq, decide_eq_false_iff_not, Bool.not_eq_true, Bool.not_eq_false, beq_iff_eq, bne_iff_ne, ne_eq, Bool.not_eq_eq_eq_not, Bool.not_true, Bool.not_false, beq_eq_false_iff_ne, bne_eq_false_iff_eq] at hb) <;> first | refine wSkip 9 ?_ | refine wSkipU 9 ?_ | refine wCm 9 ?_))
      all_goals (first | refine wSkip 10 ?_ | refine wSkipU 10 ?_ | refine wMv 10 ?_ | (refine tr_guard (t := 30) rfl (fun hb => ?_) (fun hb => ?_) <;> (try simp only [decide_eq_true_eq, decide_eq_false_iff_not, Bool.not_eq_true, Bool.not_eq_false, beq_iff_eq, bne_iff_ne, ne_eq, Bool.not_eq_eq_eq_not, Bool.not_true, Bool.not_false, beq_eq_false_iff_ne, bne_eq_false_iff_eq] at hb) <;> first | refine wSkip 10 ?_ | refine wSkipU 10 ?_ | refine wMv 10 ?_))
      all_goals (first | refine wSkip 11 ?_ | refine wSkipU 11 ?_ | refine wMv 11 ?_ | (refine tr_guard (t := 33) rfl (fun hb => ?_) (fun hb => ?_) <;> (try simp only [decide_eq_true_eq, decide_eq_false_iff_not, Bool.not_eq_true, Bool.not_eq_false, beq_iff_eq, bne_iff_ne, ne_eq, Bool.not_eq_eq_eq_not, Bool.not_true, Bool.not_false, beq_eq_false_iff_ne, bne_eq_false_iff_eq] at hb) <;> first | refine wSkip 11 ?_ | refine wSkipU 11 ?_ | refine wMv 11 ?_))
      all_goals (first | refine wSkip 12 ?_ | refine wSkipU 12 ?_ | refine wMv 12 ?_ | (refine tr_guard (t := 33) rfl (fun hb => ?_) (fun hb => ?_) <;> (try simp only [decide_eq_true_eq, decide_eq_false_iff_not, Bool.not_eq_true, Bool.not_eq_false, beq_iff_eq, bne_iff_ne, ne_eq, Bool.not_eq_eq_eq_not, Bool.not_true, Bool.not_false, beq_eq_false_iff_ne, bne_eq_false_iff_eq] at hb) <;> first | refine wSkip 12 ?_ | refine wSkipU 12 ?_ | refine wMv 12 ?_))
      all_goals (first | refine wSkip 13 ?_ | refine wSkipU 13 ?_ | refine wMv 13 ?_ | (refine tr_guard (t := 33) rfl (fun hb => ?_) (fun hb => ?_) <;> (try simp only [decide_eq_true_eq, decide_eq_false_iff_not, Bool.not_eq_true, Bool.not_eq_false, beq_iff_eq, bne_iff_ne, ne_eq, Bool.not_eq_eq_eq_not, Bool.not_true, Bool.not_false, beq_eq_false_iff_ne, bne_eq_false_iff_eq] at hb) <;> first | refine wSkip 13 ?_ | refine wSkipU 13 ?_ | refine wMv 13 ?_))
      all_goals (first | refine wSkip 14 ?_ | refine wSkipU 14 ?_ | refine wSb 14 ?_ | (refine tr_guard (t := 33) rfl (fun hb => ?_) (fun hb => ?_) <;> (try simp only [decide_eq_true_eq, decide_eq_false_iff_not, Bool.not_eq_true, Bool.not_eq_false, beq_iff_eq, bne_iff_ne, ne_eq, Bool.not_eq_eq_eq_not, Bool.not_true, Bool.not_false, beq_eq_false_iff_ne, bne_eq_false_iff_eq] at hb) <;> first | refine wSkip 14 ?_ | refine wSkipU 14 ?_ | refine wSb 14 ?_))
      all_goals (first | refine wSkip 15 ?_ | refine wSkipU 15 ?_ | refine wIa 15 ?_ | (refine tr_guard (t := 33) rfl (fun hb => ?_) (fun hb => ?_) <;> (try simp only [decide_eq_true_eq, decide_eq_false_iff_not, Bool.not_eq_true, Bool.not_eq_false, beq_iff_eq, bne_iff_ne, ne_eq, Bool.not_eq_eq_eq_not, Bool.not_true, Bool.not_false, beq_eq_false_iff_ne, bne_eq_false_iff_eq] at hb) <;> first | refine wSkip 15 ?_ | refine wSkipU 15 ?_ | refine wIa 15 ?_))
      all_goals (first | refine wSkip 16 ?_ | refine wSkipU 16 ?_ | refine wLd 16 ?_ | (refine tr_guard (t := 33) rfl (fun hb => ?_) (fun hb => ?_) <;> (try simp only [decide_eq_true_eq, decide_eq_false_iff_not, Bool.not_eq_true, Bool.not_eq_false, beq_iff_eq, bne_iff_ne, ne_eq, Bool.not_eq_eq_eq_not, Bool.not_true, Bool.not_false, beq_eq_false_iff_ne, bne_eq_false_iff_eq] at hb) <;> first | refine wSkip 16 ?_ | refine wSkipU 16 ?_ | refine wLd 16 ?_))
      all_goals (first | refine wSkip 18 ?_ | refine wSkipU 18 ?_ | refine wMv 18 ?_ | (refine tr_guard (t := 33) rfl (fun hb => ?_) (fun hb => ?_) <;> (try simp only [decide_eq_true_eq, decide_eq_false_iff_not, Bool.not_eq_true, Bool.not_eq_false, beq_iff_eq, bne_iff_ne, ne_eq, Bool.not_eq_eq_eq_not, Bool.not_true, Bool.not_false, beq_eq_false_iff_ne, bne_eq_false_iff_eq] at hb) <;> first | refine wSkip 18 ?_ | refine wSkipU 18 ?_ | refine wMv 18 ?_))
      all_goals (first | refine wSkip 19 ?_ | refine wSkipU 19 ?_ | refine wLd 19 ?_ | (refine tr_guard (t := 33) rfl (fun hb => ?_) (fun hb => ?_) <;> (try simp only [decide_eq_true_eq, decide_eq_false_iff_not, Bool.not_eq_true, Bool.not_eq_false, beq_iff_eq, bne_iff_ne, ne_eq, Bool.not_eq_eq_eq_not, Bool.not_true, Bool.not_false, beq_eq_false_iff_ne, bne_eq_false_iff_eq] at hb) <;> first | refine wSkip 19 ?_ | refine wSkipU 19 ?_ | refine wLd 19 ?_))
      all_goals (first | refine wSkip 17 ?_ | refine wSkipU 17 ?_ | (refine rStep (i := 17) ?_; ((try refine qWant ?_); (first | (refine qEf ?_; try intro _)) <;> ((try simp only [List.cons_append, List.nil_append, List.append_eq]); refine tl_nil ?_; refine rNext ?_))))
      all_goals (first | refine wSkip 20 ?_ | refine wSkipU 20 ?_ | (refine rStep (i := 20) ?_; ((try refine qWant ?_); (first | (refine qEf ?_; try intro _)) <;> ((try simp only [List.cons_append, List.nil_append, List.append_eq]); refine tl_nil ?_; refine rNext ?_))))
      all_goals (first | refine wSkip 21 ?_ | refine wSkipU 21 ?_ | (refine rStep (i := 21) ?_; ((try refine qWant ?_); (first | (refine qEf ?_; try intro _)) <;> ((try simp only [List.cons_append, List.nil_append, List.append_eq]); refine tl_nil ?_; refine rNext ?_))))
      all_goals refine rFull ?_
      all_goals (first | refine wSkip 22 ?_ | refine wSkipU 22 ?_ | refine wCm 22 ?_ | (refine tr_guard (t := 33) rfl (fun hb => ?_) (fun hb => ?_) <;> (try simp only [decide_eq_true_eq, decide_eq_false_iff_not, Bool.not_eq_true, Bool.not_eq_false, beq_iff_eq, bne_iff_ne, ne_eq, Bool.not_eq_eq_eq_not, Bool.not_true, Bool.not_false, beq_eq_false_iff_ne, bne_eq_false_iff_eq] at hb) <;> first | refine wSkip 22 ?_ | refine wSkipU 22 ?_ | refine wCm 22 ?_))
      all_goals (first | refine wSkip 23 ?_ | refine wSkipU 23 ?_ | refine wPk 23 ?_ | (refine tr_guard (t := 30) rfl (fun hb => ?_) (fun hb => ?_) <;> (try simp only [decide_eq_true_eq, decide_eq_false_iff_not, Bool.not_eq_true, Bool.not_eq_false, beq_iff_eq, bne_iff_ne, ne_eq, Bool.not_eq_eq_eq_not, Bool.not_true, Bool.not_false, beq_eq_false_iff_ne, bne_eq_false_iff_eq] at hb) <;> first | refine wSkip 23 ?_ | refine wSkipU 23 ?_ | refine wPk 23 ?_))
      all_goals refine rPk 24 ?_
      all_goals refine rAs 25 ?_
      all_goals refine rDone ?_
      repeat' (first | (refine i_op ?_; first | (refine i_qq ?_; refine qQ ?_) | refine qEf ?_) | refine tl_nil ?_ | (refine i_tc ?_; refine qTc ?_) | (refine i_te ?_; refine qTe ?_) | intro _)
      exact qE ⟨rfl, rfl, rfl⟩
    · rw [hok, Bool.true_and, hrk] at hs
      cases hx : kidOk k (psTo l k) l[k]
      · rw [hx, Bool.false_and] at hs
        rw [hfin hs]
        generalize l[k] = x at *
        repeat' (first | (refine i_op ?_; first | (refine i_qq ?_; refine qQ ?_) | refine qEf ?_) | refine tl_nil ?_ | (refine i_tc ?_; refine qTc ?_) | (refine i_te ?_; refine qTe ?_) | intro _)
        rename_i b11
        refine tc_any (Stays _ _ ([[(b11, .cells ⟨kidV x⟩ 134 (0, 0))]])) (stays_of (Hp.le_refl _)) ?_
        all_goals refine rMv 0 ?_
        all_goals refine rMv 1 ?_
        all_goals (first | refine wSkip 2 ?_ | refine wSkipU 2 ?_ | refine wMv 2 ?_ | (refine tr_guard (t := 24) rfl (fun hb => ?_) (fun hb => ?_) <;> (try simp only [decide_eq_true_eq, decide_eq_false_iff_not, Bool.not_eq_true, Bool.not_eq_false, beq_iff_eq, bne_iff_ne, ne_eq, Bool.not_eq_eq_eq_not, Bool.not_true, Bool.not_false, beq_eq_false_iff_ne, bne_eq_false_iff_eq] at hb) <;> first | refine wSkip 2 ?_ | refine wSkipU 2 ?_ | refine wMv 2 ?_))
        all_goals (first | refine wSkip 3 ?_ | refine wSkipU 3 ?_ | refine wMv 3 ?_ | (refine tr_guard (t := 24) rfl (fun hb => ?_) (fun hb => ?_) <;> (try simp only [decide_eq_true_eq, decide_eq_false_iff_not, Bool.not_eq_true, Bool.not_eq_false, beq_iff_eq, bne_iff_ne, ne_eq, Bool.not_eq_eq_eq_not, Bool.not_true, Bool.not_false, beq_eq_false_iff_ne, bne_eq_false_iff_eq] at hb) <;> first | refine wSkip 3 ?_ | refine wSkipU 3 ?_ | refine wMv 3 ?_))
        all_goals (first | refine wSkip 4 ?_ | refine wSkipU 4 ?_ | refine wLd 4 ?_ | (refine tr_guard (t := 24) rfl (fun hb => ?_) (fun hb => ?_) <;> (try simp only [decide_eq_true_eq, decide_eq_false_iff_not, Bool.not_eq_true, Bool.not_eq_false, beq_iff_eq, bne_iff_ne, ne_eq, Bool.not_eq_eq_eq_not, Bool.not_true, Bool.not_false, beq_eq_false_iff_ne, bne_eq_false_iff_eq] at hb) <;> first | refine wSkip 4 ?_ | refine wSkipU 4 ?_ | refine wLd 4 ?_))
        all_goals (first | refine wSkip 5 ?_ | refine wSkipU 5 ?_ | (refine rStep (i := 5) ?_; ((try refine qWant ?_); (first | (refine tl_is (.tmp 25) ?_; refine qC rfl rfl (inner2_spec _ bx mb es ck _ hm k x) ?_; rintro v ρ' L' hle ⟨rfl, rfl, es', ck', hm', rfl⟩ <;> (try simp only [List.cons_append, List.nil_append, List.append_eq, hx])) | (refine tl_is (.tmp 34) ?_; refine qC rfl rfl (inner1_spec _ _) ?_; rintro v ρ' L' hle ⟨rfl, rfl, rfl⟩ <;> (try simp only [List.cons_append, List.nil_append, List.append_eq])) | (refine tl_is (.tmp 41) ?_; refine qC rfl rfl (inner1_spec _ _) ?_; rintro v ρ' L' hle ⟨rfl, rfl, rfl⟩ <;> (try simp only [List.cons_append, List.nil_append, List.append_eq])) | (refine qEf ?_; try intro _)) <;> ((try simp only [List.cons_append, List.nil_append, List.append_eq]); refine tl_nil ?_; refine rNext ?_))))
        all_goals refine rPk 6 ?_
        all_goals refine rMv 7 ?_
        all_goals (first | refine wSkip 8 ?_ | refine wSkipU 8 ?_ | refine wMv 8 ?_ | (refine tr_guard (t := 30) rfl (fun hb => ?_) (fun hb => ?_) <;> (try simp only [decide_eq_true_eq, decide_eq_false_iff_not, Bool.not_eq_true, Bool.not_eq_false, beq_iff_eq, bne_iff_ne, ne_eq, Bool.not_eq_eq_eq_not, Bool.not_true, Bool.not_false, beq_eq_false_iff_ne, bne_eq_false_iff_eq] at hb) <;> first | refine wSkip 8 ?_ | refine wSkipU 8 ?_ | refine wMv 8 ?_))
        all_goals (first | refine wSkip 9 ?_ | refine wSkipU 9 ?_ | refine wCm 9 ?_ | (refine tr_guard (t := 30) rfl (fun hb => ?_) (fun hb => ?_) <;> (try simp only [decide_eq_true_eq, decide_eq_false_iff_not, Bool.not_eq_true, Bool.not_eq_false, beq_iff_eq, bne_iff_ne, ne_eq, Bool.not_eq_eq_eq_not, Bool.not_true, Bool.not_false, beq_eq_false_iff_ne, bne_eq_false_iff_eq] at hb) <;> first | refine wSkip 9 ?_ | refine wSkipU 9 ?_ | refine wCm 9 ?_))
        all_goals (first | refine wSkip 10 ?_ | refine wSkipU 10 ?_ | refine wMv 10 ?_ | (refine tr_guard (t := 30) rfl (fun hb => ?_) (fun hb => ?_) <;> (try simp only [decide_eq_true_eq, decide_eq_false_iff_not, Bool.not_eq_true, Bool.not_eq_false, beq_iff_eq, bne_iff_ne, ne_eq, Bool.not_eq_eq_eq_not, Bool.not_true, Bool.not_false, beq_eq_false_iff_ne, bne_eq_false_iff_eq] at hb) <;> first | refine wSkip 10 ?_ | refine wSkipU 10 ?_ | refine wMv 10 ?_))
        all_goals (first | refine wSkip 11 ?_ | refine wSkipU 11 ?_ | refine wMv 11 ?_ | (refine tr_guard (t := 33) rfl (fun hb => ?_) (fun hb => ?_) <;> (try simp only [decide_eq_true_eq, decide_eq_false_iff_not, Bool.not_eq_true, Bool.not_eq_false, beq_iff_eq, bne_iff_ne, ne_eq, Bool.not_eq_eq_eq_not, Bool.not_true, Bool.not_false, beq_eq_false_iff_ne, bne_eq_false_iff_eq] at hb) <;> first | refine wSkip 11 ?_ | refine wSkipU 11 ?_ | refine wMv 11 ?_))
        all_goals (first | refine wSkip 12 ?_ | refine wSkipU 12 ?_ | refine wMv 12 ?_ | (refine tr_guard (t := 33) rfl (fun hb => ?_) (fun hb => ?_) <;> (try simp only [decide_eq_true_eq, decide_eq_false_iff_not, Bool.not_eq_true, Bool.not_eq_false, beq_iff_eq, bne_iff_ne, ne_eq, Bool.not_eq_eq_eq_not, Bool.not_true, Bool.not_false, beq_eq_false_iff_ne, bne_eq_false_iff_eq] at hb) <;> first | refine wSkip 12 ?_ | refine wSkipU 12 ?_ | refine wMv 12 ?_))
        all_goals (first | refine wSkip 13 ?_ | refine wSkipU 13 ?_ | refine wMv 13 ?_ | (refine tr_guard (t := 33) rfl (fun hb => ?_) (fun hb => ?_) <;> (try simp only [decide_eq_true_eq, decide_eq_false_iff_not, Bool.not_eq_true, Bool.not_eq_false, beq_iff_eq, bne_iff_ne, ne_eq, Bool.not_eq_eq_eq_not, Bool.not_true, Bool.not_false, beq_eq_false_iff_ne, bne_eq_false_iff_eq] at hb) <;> first | refine wSkip 13 ?_ | refine wSkipU 13 ?_ | refine wMv 13 ?_))
        all_goals (first | refine wSkip 14 ?_ | refine wSkipU 14 ?_ | refine wSb 14 ?_ | (refine tr_guard (t := 33) rfl (fun hb => ?_) (fun hb => ?_) <;> (try simp only [decide_eq_true_eq, decide_eq_false_iff_not, Bool.not_eq_true, Bool.not_eq_false, beq_iff_eq, bne_iff_ne, ne_eq, Bool.not_eq_eq_eq_not, Bool.not_true, Bool.not_false, beq_eq_false_iff_ne, bne_eq_false_iff_eq] at hb) <;> first | refine wSkip 14 ?_ | refine wSkipU 14 ?_ | refine wSb 14 ?_))
        all_goals (first | refine wSkip 15 ?_ | refine wSkipU 15 ?_ | refine wIa 15 ?_ | (refine tr_guard (t := 33) rfl (fun hb => ?_) (fun hb => ?_) <;> (try simp only [decide_eq_true_eq, decide_eq_false_iff_not, Bool.not_eq_true, Bool.not_eq_false, beq_iff_eq, bne_iff_ne, ne_eq, Bool.not_eq_eq_eq_not, Bool.not_true, Bool.not_false, beq_eq_false_iff_ne, bne_eq_false_iff_eq] at hb) <;> first | refine wSkip 15 ?_ | refine wSkipU 15 ?_ | refine wIa 15 ?_))
        all_goals (first | refine wSkip 16 ?_ | refine wSkipU 16 ?_ | refine wLd 16 ?_ | (refine tr_guard (t := 33) rfl (fun hb => ?_) (fun hb => ?_) <;> (try simp only [decide_eq_true_eq, decide_eq_false_iff_not, Bool.not_eq_true, Bool.not_eq_false, beq_iff_eq, bne_iff_ne, ne_eq, Bool.not_eq_eq_eq_not, Bool.not_true, Bool.not_false, beq_eq_false_iff_ne, bne_eq_false_iff_eq] at hb) <;> first | refine wSkip 16 ?_ | refine wSkipU 16 ?_ | refine wLd 16 ?_))
        all_goals (first | refine wSkip 18 ?_ | refine wSkipU 18 ?_ | refine wMv 18 ?_ | (refine tr_guard (t := 33) rfl (fun hb => ?_) (fun hb => ?_) <;> (try simp only [decide_eq_true_eq, decide_eq_false_iff_not, Bool.not_eq_true, Bool.not_eq_false, beq_iff_eq, bne_iff_ne, ne_eq, Bool.not_eq_eq_eq_not, Bool.not_true, Bool.not_false, beq_eq_false_iff_ne, bne_eq_false_iff_eq] at hb) <;> first | refine wSkip 18 ?_ | refine wSkipU 18 ?_ | refine wMv 18 ?_))
        all_goals (first | refine wSkip 19 ?_ | refine wSkipU 19 ?_ | refine wLd 19 ?_ | (refine tr_guard (t := 33) rfl (fun hb => ?_) (fun hb => ?_) <;> (try simp only [decide_eq_true_eq, decide_eq_false_iff_not, Bool.not_eq_true, Bool.not_eq_false, beq_iff_eq, bne_iff_ne, ne_eq, Bool.not_eq_eq_eq_not, Bool.not_true, Bool.not_false, beq_eq_false_iff_ne, bne_eq_false_iff_eq] at hb) <;> first | refine wSkip 19 ?_ | refine wSkipU 19 ?_ | refine wLd 19 ?_))
        all_goals (first | refine wSkip 17 ?_ | refine wSkipU 17 ?_ | (refine rStep (i := 17) ?_; ((try refine qWant ?_); (first | (refine tl_is (.tmp 25) ?_; refine qC rfl rfl (inner2_spec _ bx mb es ck _ hm k x) ?_; rintro v ρ' L' hle ⟨rfl, rfl, es', ck', hm', rfl⟩ <;> (try simp only [List.cons_append, List.nil_append, List.append_eq, hx])) | (refine tl_is (.tmp 34) ?_; refine qC rfl rfl (inner1_spec _ _) ?_; rintro v ρ' L' hle ⟨rfl, rfl, rfl⟩ <;> (try simp only [List.cons_append, List.nil_append, List.append_eq])) | (refine tl_is (.tmp 41) ?_; refine qC rfl rfl (inner1_spec _ _) ?_; rintro v ρ' L' hle ⟨rfl, rfl, rfl⟩ <;> (try simp only [List.cons_append, List.nil_append, List.append_eq])) | (refine qEf ?_; try intro _)) <;> ((try simp only [List.cons_append, List.nil_append, List.append_eq]); refine tl_nil ?_; refine rNext ?_))))
        all_goals (first | refine wSkip 20 ?_ | refine wSkipU 20 ?_ | (refine rStep (i := 20) ?_; ((try refine qWant ?_); (first | (refine tl_is (.tmp 25) ?_; refine qC rfl rfl (inner2_spec _ bx mb es ck _ hm k x) ?_; rintro v ρ' L' hle ⟨rfl, rfl, es', ck', hm', rfl⟩ <;> (try simp only [List.cons_append, List.nil_append, List.append_eq, hx])) | (refine tl_is (.tmp 34) ?_; refine qC rfl rfl (inner1_spec _ _) ?_; rintro v ρ' L' hle ⟨rfl, rfl, rfl⟩ <;> (try simp only [List.cons_append, List.nil_append, List.append_eq])) | (refine tl_is (.tmp 41) ?_; refine qC rfl rfl (inner1_spec _ _) ?_; rintro v ρ' L' hle ⟨rfl, rfl, rfl⟩ <;> (try simp only [List.cons_append, List.nil_append, List.append_eq])) | (refine qEf ?_; try intro _)) <;> ((try simp only [List.cons_append, List.nil_append, List.append_eq]); refine tl_nil ?_; refine rNext ?_))))
        all_goals (first | refine wSkip 21 ?_ | refine wSkipU 21 ?_ | (refine rStep (i := 21) ?_; ((try refine qWant ?_); (first | (refine tl_is (.func 209) ?_; refine qC rfl rfl (compare_spec _ _ _ _ _) ?_; rintro v ρ' L' hle ⟨rfl, rfl, rfl⟩ <;> (try simp only [List.cons_append, List.nil_append, List.append_eq])) | (refine qEf ?_; try intro _)) <;> ((try simp only [List.cons_append, List.nil_append, List.append_eq]); refine tl_nil ?_; refine rNext ?_))))
        all_goals refine rFull ?_
        all_goals (first | refine wSkip 22 ?_ | refine wSkipU 22 ?_ | refine wCm 22 ?_ | (refine tr_guard (t := 33) rfl (fun hb => ?_) (fun hb => ?_) <;> (try simp only [decide_eq_true_eq, decide_eq_false_iff_not, Bool.not_eq_true, Bool.not_eq_false, beq_iff_eq, bne_iff_ne, ne_eq, Bool.not_eq_eq_eq_not, Bool.not_true, Bool.not_false, beq_eq_false_iff_ne, bne_eq_false_iff_eq] at hb) <;> first | refine wSkip 22 ?_ | refine wSkipU 22 ?_ | refine wCm 22 ?_))
        all_goals (first | refine wSkip 23 ?_ | refine wSkipU 23 ?_ | refine wPk 23 ?_ | (refine tr_guard (t := 30) rfl (fun hb => ?_) (fun hb => ?_) <;> (try simp only [decide_eq_true_eq, decide_eq_false_iff_not, Bool.not_eq_true, Bool.not_eq_false, beq_iff_eq, bne_iff_ne, ne_eq, Bool.not_eq_eq_eq_not, Bool.not_true, Bool.not_false, beq_eq_false_iff_ne, bne_eq_false_iff_eq] at hb) <;> first | refine wSkip 23 ?_ | refine wSkipU 23 ?_ | refine wPk 23 ?_))
        all_goals refine rPk 24 ?_
        all_goals refine rAs 25 ?_
        all_goals refine rDone ?_
        repeat' (first | (refine i_op ?_; first | (refine i_qq ?_; refine qQ ?_) | refine qEf ?_) | refine tl_nil ?_ | (refine i_tc ?_; refine qTc ?_) | (refine i_te ?_; refine qTe ?_) | intro _)
        exact qE ⟨rfl, rfl, rfl⟩
      · rw [hx, Bool.true_and] at hs
        by_cases hk0 : k = 0
        · have hs' : risesB 4 rt ltK l (k + 1) = true := by rw [hs]; simp [hk0]
          generalize l[k] = x at *
          repeat' (first | (refine i_op ?_; first | (refine i_qq ?_; refine qQ ?_) | refine qEf ?_) | refine tl_nil ?_ | (refine i_tc ?_; refine qTc ?_) | (refine i_te ?_; refine qTe ?_) | intro _)
          rename_i b11
          refine tc_any (Stays _ _ ([[(b11, .cells ⟨kidV x⟩ 134 (0, 0))]])) (stays_of (Hp.le_refl _)) ?_
          all_goals refine rMv 0 ?_
          all_goals refine rMv 1 ?_
          all_goals (first | refine wSkip 2 ?_ | refine wSkipU 2 ?_ | refine wMv 2 ?_ | (refine tr_guard (t := 24) rfl (fun hb => ?_) (fun hb => ?_) <;> (try simp only [decide_eq_true_eq, decide_eq_false_iff_not, Bool.not_eq_true, Bool.not_eq_false, beq_iff_eq, bne_iff_ne, ne_eq, Bool.not_eq_eq_eq_not, Bool.not_true, Bool.not_false, beq_eq_false_iff_ne, bne_eq_false_iff_eq] at hb) <;> first | refine wSkip 2 ?_ | refine wSkipU 2 ?_ | refine wMv 2 ?_))
          all_goals (first | refine wSkip 3 ?_ | refine wSkipU 3 ?_ | refine wMv 3 ?_ | (refine tr_guard (t := 24) rfl (fun hb => ?_) (fun hb => ?_) <;> (try simp only [decide_eq_true_eq, decide_eq_false_iff_not, Bool.not_eq_true, Bool.not_eq_false, beq_iff_eq, bne_iff_ne, ne_eq, Bool.not_eq_eq_eq_not, Bool.not_true, Bool.not_false, beq_eq_false_iff_ne, bne_eq_false_iff_eq] at hb) <;> first | refine wSkip 3 ?_ | refine wSkipU 3 ?_ | refine wMv 3 ?_))
          all_goals (first | refine wSkip 4 ?_ | refine wSkipU 4 ?_ | refine wLd 4 ?_ | (refine tr_guard (t := 24) rfl (fun hb => ?_) (fun hb => ?_) <;> (try simp only [decide_eq_true_eq, decide_eq_false_iff_not, Bool.not_eq_true, Bool.not_eq_false, beq_iff_eq, bne_iff_ne, ne_eq, Bool.not_eq_eq_eq_not, Bool.not_true, Bool.not_false, beq_eq_false_iff_ne, bne_eq_false_iff_eq] at hb) <;> first | refine wSkip 4 ?_ | refine wSkipU 4 ?_ | refine wLd 4 ?_))
          all_goals (first | refine wSkip 5 ?_ | refine wSkipU 5 ?_ | (refine rStep (i := 5) ?_; ((try refine qWant ?_); (first | (refine tl_is (.tmp 25) ?_; refine qC rfl rfl (inner2_spec _ bx mb es ck _ hm k x) ?_; rintro v ρ' L' hle ⟨rfl, rfl, es', ck', hm', rfl⟩ <;> (try simp only [List.cons_append, List.nil_append, List.append_eq, hx])) | (refine tl_is (.tmp 34) ?_; refine qC rfl rfl (inner1_spec _ _) ?_; rintro v ρ' L' hle ⟨rfl, rfl, rfl⟩ <;> (try simp only [List.cons_append, List.nil_append, List.append_eq])) | (refine tl_is (.tmp 41) ?_; refine qC rfl rfl (inner1_spec _ _) ?_; rintro v ρ' L' hle ⟨rfl, rfl, rfl⟩ <;> (try simp only [List.cons_append, List.nil_append, List.append_eq])) | (refine qEf ?_; try intro _)) <;> ((try simp only [List.cons_append, List.nil_append, List.append_eq]); refine tl_nil ?_; refine rNext ?_))))
          all_goals refine rPk 6 ?_
          all_goals refine rMv 7 ?_
          all_goals (first | refine wSkip 8 ?_ | refine wSkipU 8 ?_ | refine wMv 8 ?_ | (refine tr_guard (t := 30) rfl (fun hb => ?_) (fun hb => ?_) <;> (try simp only [decide_eq_true_eq, decide_eq_false_iff_not, Bool.not_eq_true, Bool.not_eq_false, beq_iff_eq, bne_iff_ne, ne_eq, Bool.not_eq_eq_eq_not, Bool.not_true, Bool.not_false, beq_eq_false_iff_ne, bne_eq_false_iff_eq] at hb) <;> first | refine wSkip 8 ?_ | refine wSkipU 8 ?_ | refine wMv 8 ?_))
          all_goals (first | refine wSkip 9 ?_ | refine wSkipU 9 ?_ | refine wCm 9 ?_ | (refine tr_guard (t := 30) rfl (fun hb => ?_) (fun hb => ?_) <;> (try simp only [decide_eq_true_eq, decide_eq_false_iff_not, Bool.not_eq_true, Bool.not_eq_false, beq_iff_eq, bne_iff_ne, ne_eq, Bool.not_eq_eq_eq_not, Bool.not_true, Bool.not_false, beq_eq_false_iff_ne, bne_eq_false_iff_eq] at hb) <;> first | refine wSkip 9 ?_ | refine wSkipU 9 ?_ | refine wCm 9 ?_))
          all_goals (first | refine wSkip 10 ?_ | refine wSkipU 10 ?_ | refine wMv 10 ?_ | (refine tr_guard (t := 30) rfl (fun hb => ?_) (fun hb => ?_) <;> (try simp only [decide_eq_true_eq, decide_eq_false_iff_not, Bool.not_eq_true, Bool.not_eq_false, beq_iff_eq, bne_iff_ne, ne_eq, Bool.not_eq_eq_eq_not, Bool.not_true, Bool.not_false, beq_eq_false_iff_ne, bne_eq_false_iff_eq] at hb) <;> first | refine wSkip 10 ?_ | refine wSkipU 10 ?_ | refine wMv 10 ?_))
          all_goals (first | refine wSkip 11 ?_ | refine wSkipU 11 ?_ | refine wMv 11 ?_ | (refine tr_guard (t := 33) rfl (fun hb => ?_) (fun hb => ?_) <;> (try simp only [decide_eq_true_eq, decide_eq_false_iff_not, Bool.not_eq_true, Bool.not_eq_false, beq_iff_eq, bne_iff_ne, ne_eq, Bool.not_eq_eq_eq_not, Bool.not_true, Bool.not_false, beq_eq_false_iff_ne, bne_eq_false_iff_eq] at hb) <;> first | refine wSkip 11 ?_ | refine wSkipU 11 ?_ | refine wMv 11 ?_))
          all_goals (first | refine wSkip 12 ?_ | refine wSkipU 12 ?_ | refine wMv 12 ?_ | (refine tr_guard (t := 33) rfl (fun hb => ?_) (fun hb => ?_) <;> (try simp only [decide_eq_true_eq, decide_eq_false_iff_not, Bool.not_eq_true, Bool.not_eq_false, beq_iff_eq, bne_iff_ne, ne_eq, Bool.not_eq_eq_eq_not, Bool.not_true, Bool.not_false, beq_eq_false_iff_ne, bne_eq_false_iff_eq] at hb) <;> first | refine wSkip 12 ?_ | refine wSkipU 12 ?_ | refine wMv 12 ?_))
          all_goals (first | refine wSkip 13 ?_ | refine wSkipU 13 ?_ | refine wMv 13 ?_ | (refine tr_guard (t := 33) rfl (fun hb => ?_) (fun hb => ?_) <;> (try simp only [decide_eq_true_eq, decide_eq_false_iff_not, Bool.not_eq_true, Bool.not_eq_false, beq_iff_eq, bne_iff_ne, ne_eq, Bool.not_eq_eq_eq_not, Bool.not_true, Bool.not_false, beq_eq_false_iff_ne, bne_eq_false_iff_eq] at hb) <;> first | refine wSkip 13 ?_ | refine wSkipU 13 ?_ | refine wMv 13 ?_))
          all_goals (first | refine wSkip 14 ?_ | refine wSkipU 14 ?_ | refine wSb 14 ?_ | (refine tr_guard (t := 33) rfl (fun hb => ?_) (fun hb => ?_) <;> (try simp only [decide_eq_true_eq, decide_eq_false_iff_not, Bool.not_eq_true, Bool.not_eq_false, beq_iff_eq, bne_iff_ne, ne_eq, Bool.not_eq_eq_eq_not, Bool.not_true, Bool.not_false, beq_eq_false_iff_ne, bne_eq_false_iff_eq] at hb) <;> first | refine wSkip 14 ?_ | refine wSkipU 14 ?_ | refine wSb 14 ?_))
          all_goals (first | refine wSkip 15 ?_ | refine wSkipU 15 ?_ | refine wIa 15 ?_ | (refine tr_guard (t := 33) rfl (fun hb => ?_) (fun hb => ?_) <;> (try simp only [decide_eq_true_eq, decide_eq_false_iff_not, Bool.not_eq_true, Bool.not_eq_false, beq_iff_eq, bne_iff_ne, ne_eq, Bool.not_eq_eq_eq_not, Bool.not_true, Bool.not_false, beq_eq_false_iff_ne, bne_eq_false_iff_eq] at hb) <;> first | refine wSkip 15 ?_ | refine wSkipU 15 ?_ | refine wIa 15 ?_))
          all_goals (first | refine wSkip 16 ?_ | refine wSkipU 16 ?_ | refine wLd 16 ?_ | (refine tr_guard (t := 33) rfl (fun hb => ?_) (fun hb => ?_) <;> (try simp only [decide_eq_true_eq, decide_eq_false_iff_not, Bool.not_eq_true, Bool.not_eq_false, beq_iff_eq, bne_iff_ne, ne_eq, Bool.not_eq_eq_eq_not, Bool.not_true, Bool.not_false, beq_eq_false_iff_ne, bne_eq_false_iff_eq] at hb) <;> first | refine wSkip 16 ?_ | refine wSkipU 16 ?_ | refine wLd 16 ?_))
          all_goals (first | refine wSkip 18 ?_ | refine wSkipU 18 ?_ | refine wMv 18 ?_ | (refine tr_guard (t := 33) rfl (fun hb => ?_) (fun hb => ?_) <;> (try simp only [decide_eq_true_eq, decide_eq_false_iff_not, Bool.not_eq_true, Bool.not_eq_false, beq_iff_eq, bne_iff_ne, ne_eq, Bool.not_eq_eq_eq_not, Bool.not_true, Bool.not_false, beq_eq_false_iff_ne, bne_eq_false_iff_eq] at hb) <;> first | refine wSkip 18 ?_ | refine wSkipU 18 ?_ | refine wMv 18 ?_))
          all_goals (first | refine wSkip 19 ?_ | refine wSkipU 19 ?_ | refine wLd 19 ?_ | (refine tr_guard (t := 33) rfl (fun hb => ?_) (fun hb => ?_) <;> (try simp only [decide_eq_true_eq, decide_eq_false_iff_not, Bool.not_eq_true, Bool.not_eq_false, beq_iff_eq, bne_iff_ne, ne_eq, Bool.not_eq_eq_eq_not, Bool.not_true, Bool.not_false, beq_eq_false_iff_ne, bne_eq_false_iff_eq] at hb) <;> first | refine wSkip 19 ?_ | refine wSkipU 19 ?_ | refine wLd 19 ?_))
          all_goals (first | refine wSkip 17 ?_ | refine wSkipU 17 ?_ | (refine rStep (i := 17) ?_; ((try refine qWant ?_); (first | (refine tl_is (.tmp 25) ?_; refine qC rfl rfl (inner2_spec _ bx mb es ck _ hm k x) ?_; rintro v ρ' L' hle ⟨rfl, rfl, es', ck', hm', rfl⟩ <;> (try simp only [List.cons_append, List.nil_append, List.append_eq, hx])) | (refine tl_is (.tmp 34) ?_; refine qC rfl rfl (inner1_spec _ _) ?_; rintro v ρ' L' hle ⟨rfl, rfl, rfl⟩ <;> (try simp only [List.cons_append, List.nil_append, List.append_eq])) | (refine tl_is (.tmp 41) ?_; refine qC rfl rfl (inner1_spec _ _) ?_; rintro v ρ' L' hle ⟨rfl, rfl, rfl⟩ <;> (try simp only [List.cons_append, List.nil_append, List.append_eq])) | (refine qEf ?_; try intro _)) <;> ((try simp only [List.cons_append, List.nil_append, List.append_eq]); refine tl_nil ?_; refine rNext ?_))))
          all_goals (first | refine wSkip 20 ?_ | refine wSkipU 20 ?_ | (refine rStep (i := 20) ?_; ((try refine qWant ?_); (first | (refine tl_is (.tmp 25) ?_; refine qC rfl rfl (inner2_spec _ bx mb es ck _ hm k x) ?_; rintro v ρ' L' hle ⟨rfl, rfl, es', ck', hm', rfl⟩ <;> (try simp only [List.cons_append, List.nil_append, List.append_eq, hx])) | (refine tl_is (.tmp 34) ?_; refine qC rfl rfl (inner1_spec _ _) ?_; rintro v ρ' L' hle ⟨rfl, rfl, rfl⟩ <;> (try simp only [List.cons_append, List.nil_append, List.append_eq])) | (refine tl_is (.tmp 41) ?_; refine qC rfl rfl (inner1_spec _ _) ?_; rintro v ρ' L' hle ⟨rfl, rfl, rfl⟩ <;> (try simp only [List.cons_append, List.nil_append, List.append_eq])) | (refine qEf ?_; try intro _)) <;> ((try simp only [List.cons_append, List.nil_append, List.append_eq]); refine tl_nil ?_; refine rNext ?_))))
          all_goals (first | refine wSkip 21 ?_ | refine wSkipU 21 ?_ | (refine rStep (i := 21) ?_; ((try refine qWant ?_); (first | (refine tl_is (.func 209) ?_; refine qC rfl rfl (compare_spec _ _ _ _ _) ?_; rintro v ρ' L' hle ⟨rfl, rfl, rfl⟩ <;> (try simp only [List.cons_append, List.nil_append, List.append_eq])) | (refine qEf ?_; try intro _)) <;> ((try simp only [List.cons_append, List.nil_append, List.append_eq]); refine tl_nil ?_; refine rNext ?_))))
          all_goals refine rFull ?_
          all_goals (first | refine wSkip 22 ?_ | refine wSkipU 22 ?_ | refine wCm 22 ?_ | (refine tr_guard (t := 33) rfl (fun hb => ?_) (fun hb => ?_) <;> (try simp only [decide_eq_true_eq, decide_eq_false_iff_not, Bool.not_eq_true, Bool.not_eq_false, beq_iff_eq, bne_iff_ne, ne_eq, Bool.not_eq_eq_eq_not, Bool.not_true, Bool.not_false, beq_eq_false_iff_ne, bne_eq_false_iff_eq] at hb) <;> first | refine wSkip 22 ?_ | refine wSkipU 22 ?_ | refine wCm 22 ?_))
          all_goals (first | refine wSkip 23 ?_ | refine wSkipU 23 ?_ | refine wPk 23 ?_ | (refine tr_guard (t := 30) rfl (fun hb => ?_) (fun hb => ?_) <;> (try simp only [decide_eq_true_eq, decide_eq_false_iff_not, Bool.not_eq_true, Bool.not_eq_false, beq_iff_eq, bne_iff_ne, ne_eq, Bool.not_eq_eq_eq_not, Bool.not_true, Bool.not_false, beq_eq_false_iff_ne, bne_eq_false_iff_eq] at hb) <;> first | refine wSkip 23 ?_ | refine wSkipU 23 ?_ | refine wPk 23 ?_))
          all_goals refine rPk 24 ?_
          all_goals refine rAs 25 ?_
          all_goals refine rDone ?_
          repeat' (first | (refine i_op ?_; first | (refine i_qq ?_; refine qQ ?_) | refine qEf ?_) | refine tl_nil ?_ | (refine i_tc ?_; refine qTc ?_) | (refine i_te ?_; refine qTe ?_) | intro _)
          rw [← hs']
          refine te_round_g (k + 1, es', ck') (⟨hlt, by dsimp only; rw [hps]; exact hm'⟩) ev_le ev_le rfl tk inferInstance (by first | omega | (dsimp only; omega))
        · have hd : decide (k = 0) = false := decide_eq_false hk0
          obtain ⟨b2, off2, C2, T2, fr2, f1, hb2, hfit2, hc2⟩ := h.get (show k - 1 < l.length by omega)
          cases f1
          rw [hb] at hb2
          cases hb2
          have ek : ((k : Int) - 1).toNat = k - 1 := by omega
          rw [← ek] at hfit2
          have hc3 : List.take 3 (List.drop (off + ((k : Int) - 1).toNat * 3) C) = kidV (l[k - 1]'(by omega)) := by rw [ek]; exact hc2
          clear hc2
          rw [hd, Bool.false_or] at hs
          generalize l[k] = x at *
          generalize l[k - 1]'(by omega) = y at *
          unfold ltK at hs
          by_cases hcm : cmpK y.t y.id x.t x.id < 0
          · rw [decide_eq_true hcm] at hs
            repeat' (first | (refine i_op ?_; first | (refine i_qq ?_; refine qQ ?_) | refine qEf ?_) | refine tl_nil ?_ | (refine i_tc ?_; refine qTc ?_) | (refine i_te ?_; refine qTe ?_) | intro _)
            rename_i b11
            refine tc_any (Stays _ _ ([[(b11, .cells ⟨kidV x⟩ 134 (0, 0))]])) (stays_of (Hp.le_refl _)) ?_
            all_goals refine rMv 0 ?_
            all_goals refine rMv 1 ?_
            all_goals (first | refine wSkip 2 ?_ | refine wSkipU 2 ?_ | refine wMv 2 ?_ | (refine tr_guard (t := 24) rfl (fun hb => ?_) (fun hb => ?_) <;> (try simp only [decide_eq_true_eq, decide_eq_false_iff_not, Bool.not_eq_true, Bool.not_eq_false, beq_iff_eq, bne_iff_ne, ne_eq, Bool.not_eq_eq_eq_not, Bool.not_true, Bool.not_false, beq_eq_false_iff_ne, bne_eq_false_iff_eq] at hb) <;> first | refine wSkip 2 ?_ | refine wSkipU 2 ?_ | refine wMv 2 ?_))
            all_goals (first | refine wSkip 3 ?_ | refine wSkipU 3 ?_ | refine wMv 3 ?_ | (refine tr_guard (t := 24) rfl (fun hb => ?_) (fun hb => ?_) <;> (try simp only [decide_eq_true_eq, decide_eq_false_iff_not, Bool.not_eq_true, Bool.not_eq_false, beq_iff_eq, bne_iff_ne, ne_eq, Bool.not_eq_eq_eq_not, Bool.not_true, Bool.not_false, beq_eq_false_iff_ne, bne_eq_false_iff_eq] at hb) <;> first | refine wSkip 3 ?_ | refine wSkipU 3 ?_ | refine wMv 3 ?_))
            all_goals (first | refine wSkip 4 ?_ | refine wSkipU 4 ?_ | refine wLd 4 ?_ | (refine tr_guard (t := 24) rfl (fun hb => ?_) (fun hb => ?_) <;> (try simp only [decide_eq_true_eq, decide_eq_false_iff_not, Bool.not_eq_true, Bool.not_eq_false, beq_iff_eq, bne_iff_ne, ne_eq, Bool.not_eq_eq_eq_not, Bool.not_true, Bool.not_false, beq_eq_false_iff_ne, bne_eq_false_iff_eq] at hb) <;> first | refine wSkip 4 ?_ | refine wSkipU 4 ?_ | refine wLd 4 ?_))
            all_goals (first | refine wSkip 5 ?_ | refine wSkipU 5 ?_ | (refine rStep (i := 5) ?_; ((try refine qWant ?_); (first | (refine tl_is (.tmp 25) ?_; refine qC rfl rfl (inner2_spec _ bx mb es ck _ hm k x) ?_; rintro v ρ' L' hle ⟨rfl, rfl, es', ck', hm', rfl⟩ <;> (try simp only [List.cons_append, List.nil_append, List.append_eq, hx])) | (refine tl_is (.tmp 34) ?_; refine qC rfl rfl (inner1_spec _ _) ?_; rintro v ρ' L' hle ⟨rfl, rfl, rfl⟩ <;> (try simp only [List.cons_append, List.nil_append, List.append_eq])) | (refine tl_is (.tmp 41) ?_; refine qC rfl rfl (inner1_spec _ _) ?_; rintro v ρ' L' hle ⟨rfl, rfl, rfl⟩ <;> (try simp only [List.cons_append, List.nil_append, List.append_eq])) | (refine qEf ?_; try intro _)) <;> ((try simp only [List.cons_append, List.nil_append, List.append_eq]); refine tl_nil ?_; refine rNext ?_))))
            all_goals refine rPk 6 ?_
            all_goals refine rMv 7 ?_
            all_goals (first | refine wSkip 8 ?_ | refine wSkipU 8 ?_ | refine wMv 8 ?_ | (refine tr_guard (t := 30) rfl (fun hb => ?_) (fun hb => ?_) <;> (try simp only [decide_eq_true_eq, decide_eq_false_iff_not, Bool.not_eq_true, Bool.not_eq_false, beq_iff_eq, bne_iff_ne, ne_eq, Bool.not_eq_eq_eq_not, Bool.not_true, Bool.not_false, beq_eq_false_iff_ne, bne_eq_false_iff_eq] at hb) <;> first | refine wSkip 8 ?_ | refine wSkipU 8 ?_ | refine wMv 8 ?_))
            all_goals (first | refine wSkip 9 ?_ | refine wSkipU 9 ?_ | refine wCm 9 ?_ | (refine tr_guard (t := 30) rfl (fun hb => ?_) (fun hb => ?_) <;> (try simp only [decide_eq_true_eq, decide_eq_false_iff_not, Bool.not_eq_true, Bool.not_eq_false, beq_iff_eq, bne_iff_ne, ne_eq, Bool.not_eq_eq_eq_not, Bool.not_true, Bool.not_false, beq_eq_false_iff_ne, bne_eq_false_iff_eq] at hb) <;> first | refine wSkip 9 ?_ | refine wSkipU 9 ?_ | refine wCm 9 ?_))
            all_goals (first | refine wSkip 10 ?_ | refine wSkipU 10 ?_ | refine wMv 10 ?_ | (refine tr_guard (t := 30) rfl (fun hb => ?_) (fun hb => ?_) <;> (try simp only [decide_eq_true_eq, decide_eq_false_iff_not, Bool.not_eq_true, Bool.not_eq_false, beq_iff_eq, bne_iff_ne, ne_eq, Bool.not_eq_eq_eq_not, Bool.not_true, Bool.not_false, beq_eq_false_iff_ne, bne_eq_false_iff_eq] at hb) <;> first | refine wSkip 10 ?_ | refine wSkipU 10 ?_ | refine wMv 10 ?_))
            all_goals (first | refine wSkip 11 ?_ | refine wSkipU 11 ?_ | refine wMv 11 ?_ | (refine tr_guard (t := 33) rfl (fun hb => ?_) (fun hb => ?_) <;> (try simp only [decide_eq_true_eq, decide_eq_false_iff_not, Bool.not_eq_true, Bool.not_eq_false, beq_iff_eq, bne_iff_ne, ne_eq, Bool.not_eq_eq_eq_not, Bool.not_true, Bool.not_false, beq_eq_false_iff_ne, bne_eq_false_iff_eq] at hb) <;> first | refine wSkip 11 ?_ | refine wSkipU 11 ?_ | refine wMv 11 ?_))
            all_goals (first | refine wSkip 12 ?_ | refine wSkipU 12 ?_ | refine wMv 12 ?_ | (refine tr_guard (t := 33) rfl (fun hb => ?_) (fun hb => ?_) <;> (try simp only [decide_eq_true_eq, decide_eq_false_iff_not, Bool.not_eq_true, Bool.not_eq_false, beq_iff_eq, bne_iff_ne, ne_eq, Bool.not_eq_eq_eq_not, Bool.not_true, Bool.not_false, beq_eq_false_iff_ne, bne_eq_false_iff_eq] at hb) <;> first | refine wSkip 12 ?_ | refine wSkipU 12 ?_ | refine wMv 12 ?_))
            all_goals (first | refine wSkip 13 ?_ | refine wSkipU 13 ?_ | refine wMv 13 ?_ | (refine tr_guard (t := 33) rfl (fun hb => ?_) (fun hb => ?_) <;> (try simp only [decide_eq_true_eq, decide_eq_false_iff_not, Bool.not_eq_true, Bool.not_eq_false, beq_iff_eq, bne_iff_ne, ne_eq, Bool.not_eq_eq_eq_not, Bool.not_true, Bool.not_false, beq_eq_false_iff_ne, bne_eq_false_iff_eq] at hb) <;> first | refine wSkip 13 ?_ | refine wSkipU 13 ?_ | refine wMv 13 ?_))
            all_goals (first | refine wSkip 14 ?_ | refine wSkipU 14 ?_ | refine wSb 14 ?_ | (refine tr_guard (t := 33) rfl (fun hb => ?_) (fun hb => ?_) <;> (try simp only [decide_eq_true_eq, decide_eq_false_iff_not, Bool.not_eq_true, Bool.not_eq_false, beq_iff_eq, bne_iff_ne, ne_eq, Bool.not_eq_eq_eq_not, Bool.not_true, Bool.not_false, beq_eq_false_iff_ne, bne_eq_false_iff_eq] at hb) <;> first | refine wSkip 14 ?_ | refine wSkipU 14 ?_ | refine wSb 14 ?_))
            all_goals (first | refine wSkip 15 ?_ | refine wSkipU 15 ?_ | refine wIa 15 ?_ | (refine tr_guard (t := 33) rfl (fun hb => ?_) (fun hb => ?_) <;> (try simp only [decide_eq_true_eq, decide_eq_false_iff_not, Bool.not_eq_true, Bool.not_eq_false, beq_iff_eq, bne_iff_ne, ne_eq, Bool.not_eq_eq_eq_not, Bool.not_true, Bool.not_false, beq_eq_false_iff_ne, bne_eq_false_iff_eq] at hb) <;> first | refine wSkip 15 ?_ | refine wSkipU 15 ?_ | refine wIa 15 ?_))
            all_goals (first | refine wSkip 16 ?_ | refine wSkipU 16 ?_ | refine wLd 16 ?_ | (refine tr_guard (t := 33) rfl (fun hb => ?_) (fun hb => ?_) <;> (try simp only [decide_eq_true_eq, decide_eq_false_iff_not, Bool.not_eq_true, Bool.not_eq_false, beq_iff_eq, bne_iff_ne, ne_eq, Bool.not_eq_eq_eq_not, Bool.not_true, Bool.not_false, beq_eq_false_iff_ne, bne_eq_false_iff_eq] at hb) <;> first | refine wSkip 16 ?_ | refine wSkipU 16 ?_ | refine wLd 16 ?_))
            all_goals (first | refine wSkip 18 ?_ | refine wSkipU 18 ?_ | refine wMv 18 ?_ | (refine tr_guard (t := 33) rfl (fun hb => ?_) (fun hb => ?_) <;> (try simp only [decide_eq_true_eq, decide_eq_false_iff_not, Bool.not_eq_true, Bool.not_eq_false, beq_iff_eq, bne_iff_ne, ne_eq, Bool.not_eq_eq_eq_not, Bool.not_true, Bool.not_false, beq_eq_false_iff_ne, bne_eq_false_iff_eq] at hb) <;> first | refine wSkip 18 ?_ | refine wSkipU 18 ?_ | refine wMv 18 ?_))
            all_goals (first | refine wSkip 19 ?_ | refine wSkipU 19 ?_ | refine wLd 19 ?_ | (refine tr_guard (t := 33) rfl (fun hb => ?_) (fun hb => ?_) <;> (try simp only [decide_eq_true_eq, decide_eq_false_iff_not, Bool.not_eq_true, Bool.not_eq_false, beq_iff_eq, bne_iff_ne, ne_eq, Bool.not_eq_eq_eq_not, Bool.not_true, Bool.not_false, beq_eq_false_iff_ne, bne_eq_false_iff_eq] at hb) <;> first | refine wSkip 19 ?_ | refine wSkipU 19 ?_ | refine wLd 19 ?_))
            all_goals (first | refine wSkip 17 ?_ | refine wSkipU 17 ?_ | (refine rStep (i := 17) ?_; ((try refine qWant ?_); (first | (refine tl_is (.tmp 25) ?_; refine qC rfl rfl (inner2_spec _ bx mb es ck _ hm k x) ?_; rintro v ρ' L' hle ⟨rfl, rfl, es', ck', hm', rfl⟩ <;> (try simp only [List.cons_append, List.nil_append, List.append_eq, hx])) | (refine tl_is (.tmp 34) ?_; refine qC rfl rfl (inner1_spec _ _) ?_; rintro v ρ' L' hle ⟨rfl, rfl, rfl⟩ <;> (try simp only [List.cons_append, List.nil_append, List.append_eq])) | (refine tl_is (.tmp 41) ?_; refine qC rfl rfl (inner1_spec _ _) ?_; rintro v ρ' L' hle ⟨rfl, rfl, rfl⟩ <;> (try simp only [List.cons_append, List.nil_append, List.append_eq])) | (refine qEf ?_; try intro _)) <;> ((try simp only [List.cons_append, List.nil_append, List.append_eq]); refine tl_nil ?_; refine rNext ?_))))
            all_goals (first | refine wSkip 20 ?_ | refine wSkipU 20 ?_ | (refine rStep (i := 20) ?_; ((try refine qWant ?_); (first | (refine tl_is (.tmp 25) ?_; refine qC rfl rfl (inner2_spec _ bx mb es ck _ hm k x) ?_; rintro v ρ' L' hle ⟨rfl, rfl, es', ck', hm', rfl⟩ <;> (try simp only [List.cons_append, List.nil_append, List.append_eq, hx])) | (refine tl_is (.tmp 34) ?_; refine qC rfl rfl (inner1_spec _ _) ?_; rintro v ρ' L' hle ⟨rfl, rfl, rfl⟩ <;> (try simp only [List.cons_append, List.nil_append, List.append_eq])) | (refine tl_is (.tmp 41) ?_; refine qC rfl rfl (inner1_spec _ _) ?_; rintro v ρ' L' hle ⟨rfl, rfl, rfl⟩ <;> (try simp only [List.cons_append, List.nil_append, List.append_eq])) | (refine qEf ?_; try intro _)) <;> ((try simp only [List.cons_append, List.nil_append, List.append_eq]); refine tl_nil ?_; refine rNext ?_))))
            all_goals (first | refine wSkip 21 ?_ | refine wSkipU 21 ?_ | (refine rStep (i := 21) ?_; ((try refine qWant ?_); (first | (refine tl_is (.func 209) ?_; refine qC rfl rfl (compare_spec _ _ _ _ _) ?_; rintro v ρ' L' hle ⟨rfl, rfl, rfl⟩ <;> (try simp only [List.cons_append, List.nil_append, List.append_eq])) | (refine qEf ?_; try intro _)) <;> ((try simp only [List.cons_append, List.nil_append, List.append_eq]); refine tl_nil ?_; refine rNext ?_))))
            all_goals refine rFull ?_
            all_goals (first | refine wSkip 22 ?_ | refine wSkipU 22 ?_ | refine wCm 22 ?_ | (refine tr_guard (t := 33) rfl (fun hb => ?_) (fun hb => ?_) <;> (try simp only [decide_eq_true_eq, decide_eq_false_iff_not, Bool.not_eq_true, Bool.not_eq_false, beq_iff_eq, bne_iff_ne, ne_eq, Bool.not_eq_eq_eq_not, Bool.not_true, Bool.not_false, beq_eq_false_iff_ne, bne_eq_false_iff_eq] at hb) <;> first | refine wSkip 22 ?_ | refine wSkipU 22 ?_ | refine wCm 22 ?_))
            all_goals (first | refine wSkip 23 ?_ | refine wSkipU 23 ?_ | refine wPk 23 ?_ | (refine tr_guard (t := 30) rfl (fun hb => ?_) (fun hb => ?_) <;> (try simp only [decide_eq_true_eq, decide_eq_false_iff_not, Bool.not_eq_true, Bool.not_eq_false, beq_iff_eq, bne_iff_ne, ne_eq, Bool.not_eq_eq_eq_not, Bool.not_true, Bool.not_false, beq_eq_false_iff_ne, bne_eq_false_iff_eq] at hb) <;> first | refine wSkip 23 ?_ | refine wSkipU 23 ?_ | refine wPk 23 ?_))
            all_goals refine rPk 24 ?_
            all_goals refine rAs 25 ?_
            all_goals refine rDone ?_
            all_goals (repeat' (first | (refine i_op ?_; first | (refine i_qq ?_; refine qQ ?_) | refine qEf ?_) | refine tl_nil ?_ | (refine i_tc ?_; refine qTc ?_) | (refine i_te ?_; refine qTe ?_) | intro _))
            all_goals rw [← show risesB 4 rt ltK l (k + 1) = true from hs]
            all_goals refine te_round_g (k + 1, es', ck') (⟨hlt, by dsimp only; rw [hps]; exact hm'⟩) ev_le ev_le rfl tk inferInstance (by first | omega | (dsimp only; omega))
          · rw [decide_eq_false hcm] at hs
            rw [hfin hs]
            repeat' (first | (refine i_op ?_; first | (refine i_qq ?_; refine qQ ?_) | refine qEf ?_) | refine tl_nil ?_ | (refine i_tc ?_; refine qTc ?_) | (refine i_te ?_; refine qTe ?_) | intro _)
            rename_i b11
            refine tc_any (Stays _ _ ([[(b11, .cells ⟨kidV x⟩ 134 (0, 0))]])) (stays_of (Hp.le_refl _)) ?_
            all_goals refine rMv 0 ?_
            all_goals refine rMv 1 ?_
            all_goals (first | refine wSkip 2 ?_ | refine wSkipU 2 ?_ | refine wMv 2 ?_ | (refine tr_guard (t := 24) rfl (fun hb => ?_) (fun hb => ?_) <;> (try simp only [decide_eq_true_eq, decide_eq_false_iff_not, Bool.not_eq_true, Bool.not_eq_false, beq_iff_eq, bne_iff_ne, ne_eq, Bool.not_eq_eq_eq_not, Bool.not_true, Bool.not_false, beq_eq_false_iff_ne, bne_eq_false_iff_eq] at hb) <;> first | refine wSkip 2 ?_ | refine wSkipU 2 ?_ | refine wMv 2 ?_))
            all_goals (first | refine wSkip 3 ?_ | refine wSkipU 3 ?_ | refine wMv 3 ?_ | (refine tr_guard (t := 24) rfl (fun hb => ?_) (fun hb => ?_) <;> (try simp only [decide_eq_true_eq, decide_eq_false_iff_not, Bool.not_eq_true, Bool.not_eq_false, beq_iff_eq, bne_iff_ne, ne_eq, Bool.not_eq_eq_eq_not, Bool.not_true, Bool.not_false, beq_eq_false_iff_ne, bne_eq_false_iff_eq] at hb) <;> first | refine wSkip 3 ?_ | refine wSkipU 3 ?_ | refine wMv 3 ?_))
            all_goals (first | refine wSkip 4 ?_ | refine wSkipU 4 ?_ | refine wLd 4 ?_ | (refine tr_guard (t := 24) rfl (fun hb => ?_) (fun hb => ?_) <;> (try simp only [decide_eq_true_eq, decide_eq_false_iff_not, Bool.not_eq_true, Bool.not_eq_false, beq_iff_eq, bne_iff_ne, ne_eq, Bool.not_eq_eq_eq_not, Bool.not_true, Bool.not_false, beq_eq_false_iff_ne, bne_eq_false_iff_eq] at hb) <;> first | refine wSkip 4 ?_ | refine wSkipU 4 ?_ | refine wLd 4 ?_))
            all_goals (first | refine wSkip 5 ?_ | refine wSkipU 5 ?_ | (refine rStep (i := 5) ?_; ((try refine qWant ?_); (first | (refine tl_is (.tmp 25) ?_; refine qC rfl rfl (inner2_spec _ bx mb es ck _ hm k x) ?_; rintro v ρ' L' hle ⟨rfl, rfl, es', ck', hm', rfl⟩ <;> (try simp only [List.cons_append, List.nil_append, List.append_eq, hx])) | (refine tl_is (.tmp 34) ?_; refine qC rfl rfl (inner1_spec _ _) ?_; rintro v ρ' L' hle ⟨rfl, rfl, rfl⟩ <;> (try simp only [List.cons_append, List.nil_append, List.append_eq])) | (refine tl_is (.tmp 41) ?_; refine qC rfl rfl (inner1_spec _ _) ?_; rintro v ρ' L' hle ⟨rfl, rfl, rfl⟩ <;> (try simp only [List.cons_append, List.nil_append, List.append_eq])) | (refine qEf ?_; try intro _)) <;> ((try simp only [List.cons_append, List.nil_append, List.append_eq]); refine tl_nil ?_; refine rNext ?_))))
            all_goals refine rPk 6 ?_
            all_goals refine rMv 7 ?_
            all_goals (first | refine wSkip 8 ?_ | refine wSkipU 8 ?_ | refine wMv 8 ?_ | (refine tr_guard (t := 30) rfl (fun hb => ?_) (fun hb => ?_) <;> (try simp only [decide_eq_true_eq, decide_eq_false_iff_not, Bool.not_eq_true, Bool.not_eq_false, beq_iff_eq, bne_iff_ne, ne_eq, Bool.not_eq_eq_eq_not, Bool.not_true, Bool.not_false, beq_eq_false_iff_ne, bne_eq_false_iff_eq] at hb) <;> first | refine wSkip 8 ?_ | refine wSkipU 8 ?_ | refine wMv 8 ?_))
            all_goals (first | refine wSkip 9 ?_ | refine wSkipU 9 ?_ | refine wCm 9 ?_ | (refine tr_guard (t := 30) rfl (fun hb => ?_) (fun hb => ?_) <;> (try simp only [decide_eq_true_eq, decide_eq_false_iff_not, Bool.not_eq_true, Bool.not_eq_false, beq_iff_eq, bne_iff_ne, ne_eq, Bool.not_eq_eq_eq_not, Bool.not_true, Bool.not_false, beq_eq_false_iff_ne, bne_eq_false_iff_eq] at hb) <;> first | refine wSkip 9 ?_ | refine wSkipU 9 ?_ | refine wCm 9 ?_))
            all_goals (first | refine wSkip 10 ?_ | refine wSkipU 10 ?_ | refine wMv 10 ?_ | (refine tr_guard (t := 30) rfl (fun hb => ?_) (fun hb => ?_) <;> (try simp only [decide_eq_true_eq, decide_eq_false_iff_not, Bool.not_eq_true, Bool.not_eq_false, beq_iff_eq, bne_iff_ne, ne_eq, Bool.not_eq_eq_eq_not, Bool.not_true, Bool.not_false, beq_eq_false_iff_ne, bne_eq_false_iff_eq] at hb) <;> first | refine wSkip 10 ?_ | refine wSkipU 10 ?_ | refine wMv 10 ?_))
            all_goals (first | refine wSkip 11 ?_ | refine wSkipU 11 ?_ | refine wMv 11 ?_ | (refine tr_guard (t := 33) rfl (fun hb => ?_) (fun hb => ?_) <;> (try simp only [decide_eq_true_eq, decide_eq_false_iff_not, Bool.not_eq_true, Bool.not_eq_false, beq_iff_eq, bne_iff_ne, ne_eq, Bool.not_eq_eq_eq_not, Bool.not_true, Bool.not_false, beq_eq_false_iff_ne, bne_eq_false_iff_eq] at hb) <;> first | refine wSkip 11 ?_ | refine wSkipU 11 ?_ | refine wMv 11 ?_))
            all_goals (first | refine wSkip 12 ?_ | refine wSkipU 12 ?_ | refine wMv 12 ?_ | (refine tr_guard (t := 33) rfl (fun hb => ?_) (fun hb => ?_) <;> (try simp only [decide_eq_true_eq, decide_eq_false_iff_not, Bool.not_eq_true, Bool.not_eq_false, beq_iff_eq, bne_iff_ne, ne_eq, Bool.not_eq_eq_eq_not, Bool.not_true, Bool.not_false, beq_eq_false_iff_ne, bne_eq_false_iff_eq] at hb) <;> first | refine wSkip 12 ?_ | refine wSkipU 12 ?_ | refine wMv 12 ?_))
            all_goals (first | refine wSkip 13 ?_ | refine wSkipU 13 ?_ | refine wMv 13 ?_ | (refine tr_guard (t := 33) rfl (fun hb => ?_) (fun hb => ?_) <;> (try simp only [decide_eq_true_eq, decide_eq_false_iff_not, Bool.not_eq_true, Bool.not_eq_false, beq_iff_eq, bne_iff_ne, ne_eq, Bool.not_eq_eq_eq_not, Bool.not_true, Bool.not_false, beq_eq_false_iff_ne, bne_eq_false_iff_eq] at hb) <;> first | refine wSkip 13 ?_ | refine wSkipU 13 ?_ | refine wMv 13 ?_))
            all_goals (first | refine wSkip 14 ?_ | refine wSkipU 14 ?_ | refine wSb 14 ?_ | (refine tr_guard (t := 33) rfl (fun hb => ?_) (fun hb => ?_) <;> (try simp only [decide_eq_true_eq, decide_eq_false_iff_not, Bool.not_eq_true, Bool.not_eq_false, beq_iff_eq, bne_iff_ne, ne_eq, Bool.not_eq_eq_eq_not, Bool.not_true, Bool.not_false, beq_eq_false_iff_ne, bne_eq_false_iff_eq] at hb) <;> first | refine wSkip 14 ?_ | refine wSkipU 14 ?_ | refine wSb 14 ?_))
            all_goals (first | refine wSkip 15 ?_ | refine wSkipU 15 ?_ | refine wIa 15 ?_ | (refine tr_guard (t := 33) rfl (fun hb => ?_) (fun hb => ?_) <;> (try simp only [decide_eq_true_eq, decide_eq_false_iff_not, Bool.not_eq_true, Bool.not_eq_false, beq_iff_eq, bne_iff_ne, ne_eq, Bool.not_eq_eq_eq_not, Bool.not_true, Bool.not_false, beq_eq_false_iff_ne, bne_eq_false_iff_eq] at hb) <;> first | refine wSkip 15 ?_ | refine wSkipU 15 ?_ | refine wIa 15 ?_))
            all_goals (first | refine wSkip 16 ?_ | refine wSkipU 16 ?_ | refine wLd 16 ?_ | (refine tr_guard (t := 33) rfl (fun hb => ?_) (fun hb => ?_) <;> (try simp only [decide_eq_true_eq, decide_eq_false_iff_not, Bool.not_eq_true, Bool.not_eq_false, beq_iff_eq, bne_iff_ne, ne_eq, Bool.not_eq_eq_eq_not, Bool.not_true, Bool.not_false, beq_eq_false_iff_ne, bne_eq_false_iff_eq] at hb) <;> first | refine wSkip 16 ?_ | refine wSkipU 16 ?_ | refine wLd 16 ?_))
            all_goals (first | refine wSkip 18 ?_ | refine wSkipU 18 ?_ | refine wMv 18 ?_ | (refine tr_guard (t := 33) rfl (fun hb => ?_) (fun hb => ?_) <;> (try simp only [decide_eq_true_eq, decide_eq_false_iff_not, Bool.not_eq_true, Bool.not_eq_false, beq_iff_eq, bne_iff_ne, ne_eq, Bool.not_eq_eq_eq_not, Bool.not_true, Bool.not_false, beq_eq_false_iff_ne, bne_eq_false_iff_eq] at hb) <;> first | refine wSkip 18 ?_ | refine wSkipU 18 ?_ | refine wMv 18 ?_))
            all_goals (first | refine wSkip 19 ?_ | refine wSkipU 19 ?_ | refine wLd 19 ?_ | (refine tr_guard (t := 33) rfl (fun hb => ?_) (fun hb => ?_) <;> (try simp only [decide_eq_true_eq, decide_eq_false_iff_not, Bool.not_eq_true, Bool.not_eq_false, beq_iff_eq, bne_iff_ne, ne_eq, Bool.not_eq_eq_eq_not, Bool.not_true, Bool.not_false, beq_eq_false_iff_ne, bne_eq_false_iff_eq] at hb) <;> first | refine wSkip 19 ?_ | refine wSkipU 19 ?_ | refine wLd 19 ?_))
            all_goals (first | refine wSkip 17 ?_ | refine wSkipU 17 ?_ | (refine rStep (i := 17) ?_; ((try refine qWant ?_); (first | (refine tl_is (.tmp 25) ?_; refine qC rfl rfl (inner2_spec _ bx mb es ck _ hm k x) ?_; rintro v ρ' L' hle ⟨rfl, rfl, es', ck', hm', rfl⟩ <;> (try simp only [List.cons_append, List.nil_append, List.append_eq, hx])) | (refine tl_is (.tmp 34) ?_; refine qC rfl rfl (inner1_spec _ _) ?_; rintro v ρ' L' hle ⟨rfl, rfl, rfl⟩ <;> (try simp only [List.cons_append, List.nil_append, List.append_eq])) | (refine tl_is (.tmp 41) ?_; refine qC rfl rfl (inner1_spec _ _) ?_; rintro v ρ' L' hle ⟨rfl, rfl, rfl⟩ <;> (try simp only [List.cons_append, List.nil_append, List.append_eq])) | (refine qEf ?_; try intro _)) <;> ((try simp only [List.cons_append, List.nil_append, List.append_eq]); refine tl_nil ?_; refine rNext ?_))))
            all_goals (first | refine wSkip 20 ?_ | refine wSkipU 20 ?_ | (refine rStep (i := 20) ?_; ((try refine qWant ?_); (first | (refine tl_is (.tmp 25) ?_; refine qC rfl rfl (inner2_spec _ bx mb es ck _ hm k x) ?_; rintro v ρ' L' hle ⟨rfl, rfl, es', ck', hm', rfl⟩ <;> (try simp only [List.cons_append, List.nil_append, List.append_eq, hx])) | (refine tl_is (.tmp 34) ?_; refine qC rfl rfl (inner1_spec _ _) ?_; rintro v ρ' L' hle ⟨rfl, rfl, rfl⟩ <;> (try simp only [List.cons_append, List.nil_append, List.append_eq])) | (refine tl_is (.tmp 41) ?_; refine qC rfl rfl (inner1_spec _ _) ?_; rintro v ρ' L' hle ⟨rfl, rfl, rfl⟩ <;> (try simp only [List.cons_append, List.nil_append, List.append_eq])) | (refine qEf ?_; try intro _)) <;> ((try simp only [List.cons_append, List.nil_append, List.append_eq]); refine tl_nil ?_; refine rNext ?_))))
            all_goals (first | refine wSkip 21 ?_ | refine wSkipU 21 ?_ | (refine rStep (i := 21) ?_; ((try refine qWant ?_); (first | (refine tl_is (.func 209) ?_; refine qC rfl rfl (compare_spec _ _ _ _ _) ?_; rintro v ρ' L' hle ⟨rfl, rfl, rfl⟩ <;> (try simp only [List.cons_append, List.nil_append, List.append_eq])) | (refine qEf ?_; try intro _)) <;> ((try simp only [List.cons_append, List.nil_append, List.append_eq]); refine tl_nil ?_; refine rNext ?_))))
            all_goals refine rFull ?_
            all_goals (first | refine wSkip 22 ?_ | refine wSkipU 22 ?_ | refine wCm 22 ?_ | (refine tr_guard (t := 33) rfl (fun hb => ?_) (fun hb => ?_) <;> (try simp only [decide_eq_true_eq, decide_eq_false_iff_not, Bool.not_eq_true, Bool.not_eq_false, beq_iff_eq, bne_iff_ne, ne_eq, Bool.not_eq_eq_eq_not, Bool.not_true, Bool.not_false, beq_eq_false_iff_ne, bne_eq_false_iff_eq] at hb) <;> first | refine wSkip 22 ?_ | refine wSkipU 22 ?_ | refine wCm 22 ?_))
            all_goals (first | refine wSkip 23 ?_ | refine wSkipU 23 ?_ | refine wPk 23 ?_ | (refine tr_guard (t := 30) rfl (fun hb => ?_) (fun hb => ?_) <;> (try simp only [decide_eq_true_eq, decide_eq_false_iff_not, Bool.not_eq_true, Bool.not_eq_false, beq_iff_eq, bne_iff_ne, ne_eq, Bool.not_eq_eq_eq_not, Bool.not_true, Bool.not_false, beq_eq_false_iff_ne, bne_eq_false_iff_eq] at hb) <;> first | refine wSkip 23 ?_ | refine wSkipU 23 ?_ | refine wPk 23 ?_))
            all_goals refine rPk 24 ?_
            all_goals refine rAs 25 ?_
            all_goals refine rDone ?_
            all_goals (repeat' (first | (refine i_op ?_; first | (refine i_qq ?_; refine qQ ?_) | refine qEf ?_) | refine tl_nil ?_ | (refine i_tc ?_; refine qTc ?_) | (refine i_te ?_; refine qTe ?_) | intro _))
            all_goals exact qE ⟨rfl, rfl, rfl⟩
  · have hk2 : k = n := by omega
    subst hk2
    repeat' (first | (refine i_op ?_; first | (refine i_qq ?_; refine qQ ?_) | refine qEf ?_) | refine tl_nil ?_ | (refine i_tc ?_; refine qTc ?_) | (refine i_te ?_; refine qTe ?_) | intro _)
    exact qE ⟨rfl, rfl, rfl⟩
end Go.Proofs.E

namespace Go.Proofs.E
open Go
set_option linter.unusedVariables false
set_option linter.unusedSimpArgs false
set_option linter.unusedSectionVars false
set_option maxRecDepth 4000
set_option maxHeartbeats 1000000
attribute [local irreducible] Yl TL TC TE Spec YSpec R1 Hp.le EnvLe TS TR YS Stays
structure CV where
  ra : Option Addr
  rn : Nat
  rc : Nat
  ka : Option Addr
  kn : Nat
  kc : Nat
structure Cont where
  kind : Int
  rows : List Row
  kids : List Kid
deriving DecidableEq
abbrev contV (k : Int) (v : CV) : List Value := [.int .i64 k, .slice v.ra v.rn v.rc, .slice v.ka v.kn v.kc]
structure CIn (ρ : Hp) (v : CV) (rows : List Row) (kids : List Kid) : Prop where
  r : AIn ρ 4 rowV v.ra v.rn rows
  k : AIn ρ 3 kidV v.ka v.kn kids
  rb : v.rn ≤ 1000000
  kb : v.kn ≤ 1000000
  rc : v.rn ≤ v.rc
  kc : v.kn ≤ v.kc
theorem CIn.mono {ρ ρ' v rows kids} (h : CIn ρ v rows kids) (hle : ρ.le ρ') : CIn ρ' v rows kids := ⟨h.r.mono hle, h.k.mono hle, h.rb, h.kb, h.rc, h.kc⟩
theorem leafc_spec (ρ : Hp) (a : Option Addr) (n c : Nat) (l : List Row) (h : AIn ρ 4 rowV a n l) (hn : n ≤ 1000000) : Spec Try.prog 88 [.slice a n c] ρ [] (fun v ρ' L' => v = .bool (rowsOk l) ∧ ρ' = ρ ∧ L' = []) := by
  refine spec_enter Try.func88 rfl rfl rfl fun u R => ?_
  simp only [argsE, List.cons_append, List.nil_append]
  repeat' (first | (refine tl_is (.func 155) ?_; refine qC rfl rfl (risesRow_spec _ a n c l h hn) ?_; rintro v ρ' L' hle ⟨rfl, rfl, rfl⟩ <;> (try simp only [List.cons_append, List.nil_append, List.append_eq])) | (refine i_op ?_; first | (refine i_qq ?_; refine qQ ?_) | refine qEf ?_) | refine tl_nil ?_ | (refine i_tc ?_; refine qTc ?_) | (refine i_te ?_; refine qTe ?_) | intro _)
  exact qE ⟨rfl, rfl, rfl⟩
theorem innerc_spec (ρ : Hp) (a : Option Addr) (n c : Nat) (l : List Kid) (h : AIn ρ 3 kidV a n l) (hn : n ≤ 1000000) : Spec Try.prog 89 [.slice a n c] ρ [] (fun v ρ' L' => v = .bool (decide (1 < n) && kidsOk l) ∧ ρ' = ρ ∧ L' = []) := by
  refine spec_enter Try.func89 rfl rfl rfl fun u R => ?_
  simp only [argsE, List.cons_append, List.nil_append]
  by_cases h1 : 1 < n
  · rw [decide_eq_true h1, Bool.true_and]
    repeat' (first | (refine tl_is (.func 158) ?_; refine qC rfl rfl (risesKid_spec _ a n c l h hn _ _ _) ?_; rintro v ρ' L' hle ⟨rfl, rfl, rfl⟩ <;> (try simp only [List.cons_append, List.nil_append, List.append_eq])) | (refine i_op ?_; first | (refine i_qq ?_; refine qQ ?_) | refine qEf ?_) | refine tl_nil ?_ | (refine i_tc ?_; refine qTc ?_) | (refine i_te ?_; refine qTe ?_) | intro _)
    exact qE ⟨rfl, rfl, rfl⟩
  · rw [decide_eq_false h1, Bool.false_and]
    repeat' (first | (refine i_op ?_; first | (refine i_qq ?_; refine qQ ?_) | refine qEf ?_) | refine tl_nil ?_ | (refine i_tc ?_; refine qTc ?_) | (refine i_te ?_; refine qTe ?_) | intro _)
    exact qE ⟨rfl, rfl, rfl⟩
def contOk (c : Cont) : Bool :=
  if c.kind = 0 then decide (c.rows.length + c.kids.length = 0)
  else if c.kind = 1 then decide (c.kids.length = 0) && rowsOk c.rows
  else if c.kind = 2 then decide (c.rows.length = 0) && (decide (1 < c.kids.length) && kidsOk c.kids)
  else false
theorem check_spec (ρ : Hp) (v : CV) (c : Cont) (h : CIn ρ v c.rows c.kids) : Spec Try.prog 31 [.agg ⟨contV c.kind v⟩] ρ [] (fun r ρ' L' => r = .int .i64 (if contOk c then 0 else 160) ∧ ρ' = ρ ∧ L' = []) := by
  obtain ⟨kind, rows, kids⟩ := c
  obtain ⟨ra, rn, rc, ka, kn, kc⟩ := v
  obtain ⟨hr, hk, hrb, hkb, _, _⟩ := h
  dsimp only at hr hk hrb hkb
  have hrl := hr.len
  have hkl := hk.len
  have hrs := leafc_spec ρ ra rn rc rows hr hrb
  have hks := innerc_spec ρ ka kn kc kids hk hkb
  generalize hq : contOk ⟨kind, rows, kids⟩ = q
  unfold contOk at hq
  simp only [hrl, hkl] at hq
  refine spec_enter Try.func31 rfl rfl rfl fun u R => ?_
  simp only [argsE, List.cons_append, List.nil_append]
  by_cases k0 : kind = 0
  · rw [if_pos k0] at hq
    by_cases hz : rn + kn = 0
    · rw [decide_eq_true hz] at hq
      subst hq
      repeat' (first | (refine i_op ?_; first | (refine i_qq ?_; refine qQ ?_) | refine qEf ?_) | refine tl_nil ?_ | (refine i_tc ?_; refine qTc ?_) | (refine i_te ?_; refine qTe ?_) | intro _)
      exact qE ⟨rfl, rfl, rfl⟩
    · rw [decide_eq_false hz] at hq
      subst hq
      repeat' (first | (refine i_op ?_; first | (refine i_qq ?_; refine qQ ?_) | refine qEf ?_) | refine tl_nil ?_ | (refine i_tc ?_; refine qTc ?_) | (refine i_te ?_; refine qTe ?_) | intro _)
      exact qE ⟨rfl, rfl, rfl⟩
  · rw [if_neg k0] at hq
    by_cases k1 : kind = 1
    · rw [if_pos k1] at hq
      by_cases hz : kn = 0
      · rw [decide_eq_true hz, Bool.true_and] at hq
        rw [hq] at hrs
        cases q
        all_goals (repeat' (first | (refine tl_is (.func 88) ?_; refine qC rfl rfl (hrs) ?_; rintro v ρ' L' hle ⟨rfl, rfl, rfl⟩ <;> (try simp only [List.cons_append, List.nil_append, List.append_eq])) | (refine i_op ?_; first | (refine i_qq ?_; refine qQ ?_) | refine qEf ?_) | refine tl_nil ?_ | (refine i_tc ?_; refine qTc ?_) | (refine i_te ?_; refine qTe ?_) | intro _))
        all_goals exact qE ⟨rfl, rfl, rfl⟩
      · rw [decide_eq_false hz, Bool.false_and] at hq
        subst hq
        repeat' (first | (refine i_op ?_; first | (refine i_qq ?_; refine qQ ?_) | refine qEf ?_) | refine tl_nil ?_ | (refine i_tc ?_; refine qTc ?_) | (refine i_te ?_; refine qTe ?_) | intro _)
        exact qE ⟨rfl, rfl, rfl⟩
    · rw [if_neg k1] at hq
      by_cases k2 : kind = 2
      · rw [if_pos k2] at hq
        by_cases hz : rn = 0
        · rw [decide_eq_true hz, Bool.true_and] at hq
          rw [hq] at hks
          cases q
          all_goals (repeat' (first | (refine tl_is (.func 89) ?_; refine qC rfl rfl (hks) ?_; rintro v ρ' L' hle ⟨rfl, rfl, rfl⟩ <;> (try simp only [List.cons_append, List.nil_append, List.append_eq])) | (refine i_op ?_; first | (refine i_qq ?_; refine qQ ?_) | refine qEf ?_) | refine tl_nil ?_ | (refine i_tc ?_; refine qTc ?_) | (refine i_te ?_; refine qTe ?_) | intro _))
          all_goals exact qE ⟨rfl, rfl, rfl⟩
        · rw [decide_eq_false hz, Bool.false_and] at hq
          subst hq
          repeat' (first | (refine i_op ?_; first | (refine i_qq ?_; refine qQ ?_) | refine qEf ?_) | refine tl_nil ?_ | (refine i_tc ?_; refine qTc ?_) | (refine i_te ?_; refine qTe ?_) | intro _)
          exact qE ⟨rfl, rfl, rfl⟩
      · rw [if_neg k2] at hq
        subst hq
        repeat' (first | (refine i_op ?_; first | (refine i_qq ?_; refine qQ ?_) | refine qEf ?_) | refine tl_nil ?_ | (refine i_tc ?_; refine qTc ?_) | (refine i_te ?_; refine qTe ?_) | intro _)
        exact qE ⟨rfl, rfl, rfl⟩
end Go.Proofs.E

namespace Go.Proofs.E
open Go
set_option linter.unusedVariables false
set_option linter.unusedSimpArgs false
set_option linter.unusedSectionVars false
set_option maxRecDepth 4000
set_option maxHeartbeats 1000000
attribute [local irreducible] Yl TL TC TE Spec YSpec R1 Hp.le EnvLe TS TR YS Stays
/-! ## codec: what is taken -/
def manyTo {α : Type} (f : List UInt8 → Int → Bool → α × RS3) : Nat → List UInt8 → Int → Bool → List α × RS3
  | 0, l, st, bad => ([], l, st, bad)
  | n + 1, l, st, bad => if !bad && decide (st = 0) then ((f l st bad).1 :: (manyTo f n (f l st bad).2.1 (f l st bad).2.2.1 (f l st bad).2.2.2).1, (manyTo f n (f l st bad).2.1 (f l st bad).2.2.1 (f l st bad).2.2.2).2) else ([], l, st, bad)
theorem manyTo_stop {α : Type} {f : List UInt8 → Int → Bool → α × RS3} {n : Nat} {l : List UInt8} {st : Int} {bad : Bool} (h : (!bad && decide (st = 0)) = false) : manyTo f n l st bad = ([], l, st, bad) := by
  cases n with
  | zero => rfl
  | succ n => rw [manyTo, h]; rfl
def manyR {α : Type} (f : List UInt8 → Int → Bool → α × RS3) (l : List UInt8) (st : Int) (bad : Bool) : List α × RS3 :=
  manyTo f (numR 1 l st).1 (numR 1 l st).2.1 (numR 1 l st).2.2 (needB bad (numR 1 l st).2.2 (decide (((numR 1 l st).1 : Int) ≤ 4)))
theorem manyRow_spec (ρ : Hp) (bt br : Nat) (all : Int) (bad : Bool) (vk vr vs : Value) (a : Option Addr) (n c : Nat) (l : List UInt8) (h : SIn ρ u8c a n l) (hc : n ≤ c) (st : Int) :
    Spec Try.prog 200 [.pointer (some ⟨bt, 0, none⟩), .int .i64 4, .func (.func 73) ⟨[.pointer (some ⟨bt, 0, none⟩)]⟩ ⟨[]⟩] ρ [tkC bt br all bad vk vr vs, rdC br a n c st]
      (fun v ρ' L' => ρ.le ρ' ∧ ∃ sa sn sc a' n' c', v = .slice sa sn sc ∧ sn ≤ sc ∧ sn ≤ 255 ∧ AIn ρ' 4 rowV sa sn (manyR rowR l st bad).1 ∧ SIn ρ' u8c a' n' (manyR rowR l st bad).2.1 ∧ n' ≤ c' ∧ L' = [tkC bt br all (manyR rowR l st bad).2.2.2 vk vr vs, rdC br a' n' c' (manyR rowR l st bad).2.2.1]) := by
  have hn1 := u8_spec ρ br a n c l h hc st
  have hb1 := numR_lt 1 l st
  generalize hq : manyR rowR l st bad = q
  unfold manyR at hq
  generalize numR 1 l st = r1 at *
  obtain ⟨x1, l1, st1⟩ := r1
  dsimp only at hq hn1 hb1
  have hb255 : x1 < 256 := by simpa using hb1
  generalize hB1 : needB bad st1 (decide ((x1 : Int) ≤ 4)) = b1 at *
  refine spec_enter Try.func200 rfl rfl rfl fun u R => ?_
  simp only [argsE, List.cons_append, List.nil_append]
  repeat' (first | (refine tl_is (.func 138) ?_; refine qC rfl rfl (hn1) ?_; rintro v ρ' L' hle ⟨rfl, rfl, a1, n1, c1, h1, hc1, rfl⟩ <;> (try simp only [List.cons_append, List.nil_append, List.append_eq])) | (refine tl_is (.func 139) ?_; refine qC rfl rfl (need_spec _ bt br all bad vk vr vs a1 n1 c1 st1 (decide ((x1 : Int) ≤ 4))) ?_; rintro v ρ' L' hle ⟨rfl, rfl, rfl⟩ <;> (try simp only [List.cons_append, List.nil_append, List.append_eq, hB1])) | (refine i_op ?_; first | (refine i_qq ?_; refine qQ ?_) | refine qEf ?_) | refine tl_nil ?_ | (refine i_tc ?_; refine qTc ?_) | (refine i_te ?_; refine qTe ?_) | intro _)
  refine tc_loop_g [(0, _), (2, _), (6, _), (7, _)] (fun (ζ : (Nat) × (Hp) × (Value) × (List Value) × (List Row) × (Option Addr) × (Nat) × (Nat) × (List UInt8) × (Int) × (Bool)) => [(9, .int .i64 ζ.1), (8, ζ.2.2.1)]) (fun (ζ : (Nat) × (Hp) × (Value) × (List Value) × (List Row) × (Option Addr) × (Nat) × (Nat) × (List UInt8) × (Int) × (Bool)) => ζ.2.1) (fun (ζ : (Nat) × (Hp) × (Value) × (List Value) × (List Row) × (Option Addr) × (Nat) × (Nat) × (List UInt8) × (Int) × (Bool)) => [ownC ζ.2.2.1 ((ζ.2.2.2.2.1.map rowV).flatten) ζ.2.2.2.1 28, tkC bt br all ζ.2.2.2.2.2.2.2.2.2.2 vk vr vs, rdC br ζ.2.2.2.2.2.1 ζ.2.2.2.2.2.2.1 ζ.2.2.2.2.2.2.2.1 ζ.2.2.2.2.2.2.2.2.2.1]) (fun (ζ : (Nat) × (Hp) × (Value) × (List Value) × (List Row) × (Option Addr) × (Nat) × (Nat) × (List UInt8) × (Int) × (Bool)) => ζ.1 ≤ x1 ∧ ρ'.le ζ.2.1 ∧ OwnS ζ.2.2.1 ζ.1 ((ζ.2.2.2.2.1.map rowV).flatten) ζ.2.2.2.1 4 ∧ ζ.2.2.2.2.1.length = ζ.1 ∧ SIn ζ.2.1 u8c ζ.2.2.2.2.2.1 ζ.2.2.2.2.2.2.1 ζ.2.2.2.2.2.2.2.2.1 ∧ ζ.2.2.2.2.2.2.1 ≤ ζ.2.2.2.2.2.2.2.1 ∧ q = (ζ.2.2.2.2.1 ++ (manyTo rowR (x1 - ζ.1) ζ.2.2.2.2.2.2.2.2.1 ζ.2.2.2.2.2.2.2.2.2.1 ζ.2.2.2.2.2.2.2.2.2.2).1, (manyTo rowR (x1 - ζ.1) ζ.2.2.2.2.2.2.2.2.1 ζ.2.2.2.2.2.2.2.2.2.1 ζ.2.2.2.2.2.2.2.2.2.2).2)) (fun (ζ : (Nat) × (Hp) × (Value) × (List Value) × (List Row) × (Option Addr) × (Nat) × (Nat) × (List UInt8) × (Int) × (Bool)) => x1 - ζ.1) ((0, ρ', .slice none 0 0, [], [], a1, n1, c1, l1, st1, b1)) (⟨Nat.zero_le _, Hp.le_refl _, OwnS.nil 4, rfl, h1, hc1, by simp [hq]⟩) ev_le ev_le rfl tk ?_
  rintro ⟨i, ρ1, v, sp, acc, a2, n2, c2, l2, st2, bad2⟩ hI
  try simp only [List.cons_append, List.nil_append, List.append_assoc, List.append_eq] at hI ⊢
  try dsimp only at hI ⊢
  obtain ⟨hi, hle1, hown, hal, h2, hc2, hq2⟩ := hI
  obtain ⟨va, vc, rfl, _⟩ := hown.len
  have hg : ∀ x ∈ acc, (rowV x).length = 4 := fun x _ => rowV_len x
  by_cases hlt : i < x1
  · cases hok : (!bad2 && decide (st2 = 0))
    · rw [manyTo_stop hok] at hq2
      simp only [List.append_nil] at hq2
      subst hq2
      repeat' (first | (refine tl_is (.func 140) ?_; refine qC rfl rfl (ok_spec _ bt br all bad2 vk vr vs a2 n2 c2 st2) ?_; rintro v ρ' L' hle ⟨rfl, rfl, rfl⟩ <;> (try simp only [List.cons_append, List.nil_append, List.append_eq, hok])) | (refine i_op ?_; first | (refine i_qq ?_; refine qQ ?_) | refine qEf ?_) | refine tl_nil ?_ | (refine i_tc ?_; refine qTc ?_) | (refine i_te ?_; refine qTe ?_) | intro _)
      refine te_freeze (ownC (.slice va i vc) ((acc.map rowV).flatten) sp 28) (fun ρ3 hle3 hfz => ?_)
      obtain ⟨sa, sc, e1, hsc, hA⟩ := hown.aIn hal hg hfz
      cases e1
      exact qE ⟨Hp.le_trans hle1 hle3, _, _, _, a2, n2, c2, rfl, hsc, by omega, hA, h2.mono hle3, hc2, rfl⟩
    · rw [show x1 - i = (x1 - (i + 1)) + 1 by omega, manyTo, if_pos hok] at hq2
      have hrow := fun ρ h => trow_spec ρ bt br all bad2 vk vr vs a2 n2 c2 l2 h hc2 st2
      generalize rowR l2 st2 bad2 = r at *
      obtain ⟨x, l3, st3, bad3⟩ := r
      dsimp only at hq2 hrow
      repeat' (first | (refine tl_is (.func 140) ?_; refine qC rfl rfl (ok_spec _ bt br all bad2 vk vr vs a2 n2 c2 st2) ?_; rintro v ρ' L' hle ⟨rfl, rfl, rfl⟩ <;> (try simp only [List.cons_append, List.nil_append, List.append_eq, hok])) | (refine tl_is (.tmp 31) ?_; refine qC rfl rfl (hrow _ h2) ?_; rintro v ρ' L' hle ⟨rfl, hle3, a3, n3, c3, h3, hc3, rfl⟩ <;> (try simp only [List.cons_append, List.nil_append, List.append_eq])) | (refine i_op ?_; first | (refine i_qq ?_; refine qQ ?_) | refine qEf ?_) | refine tl_nil ?_ | (refine i_tc ?_; refine qTc ?_) | (refine i_te ?_; refine qTe ?_) | intro _)
      refine tl_buildSliceA (css := [rowV x]) (sz := 4) rfl rfl rfl rfl (by simp) (by simp) rfl (fun bs => ?_)
      simp only [List.flatten_cons, List.flatten_nil, List.append_nil]
      refine tl_app (ys := rowV x) (m := 1) rfl rfl hown (hR := by infer_instance) (SrcV.lit) rfl rfl (by decide) rfl (by omega) (by omega) rfl (fun v' sp' hown' => ?_)
      have hm : (acc.map rowV).flatten ++ rowV x = ((acc ++ [x]).map rowV).flatten := by simp
      rw [hm] at hown' ⊢
      repeat' (first | (refine i_op ?_; first | (refine i_qq ?_; refine qQ ?_) | refine qEf ?_) | refine tl_nil ?_ | (refine i_tc ?_; refine qTc ?_) | (refine i_te ?_; refine qTe ?_) | intro _)
      refine te_round_g (i + 1, _, v', sp', acc ++ [x], a3, n3, c3, l3, st3, bad3) (⟨hlt, Hp.le_trans hle1 hle3, hown', by simp [hal], h3, hc3, by rw [hq2]; simp⟩) ev_le ev_le rfl tk inferInstance (by first | omega | (dsimp only; omega))
  · have hi2 : i = x1 := by omega
    subst hi2
    rw [Nat.sub_self, manyTo] at hq2
    simp only [List.append_nil] at hq2
    subst hq2
    repeat' (first | (refine i_op ?_; first | (refine i_qq ?_; refine qQ ?_) | refine qEf ?_) | refine tl_nil ?_ | (refine i_tc ?_; refine qTc ?_) | (refine i_te ?_; refine qTe ?_) | intro _)
    refine te_freeze (ownC (.slice va i vc) ((acc.map rowV).flatten) sp 28) (fun ρ3 hle3 hfz => ?_)
    obtain ⟨sa, sc, e1, hsc, hA⟩ := hown.aIn hal hg hfz
    cases e1
    exact qE ⟨Hp.le_trans hle1 hle3, _, _, _, a2, n2, c2, rfl, hsc, by omega, hA, h2.mono hle3, hc2, rfl⟩
def kidRB (l : List UInt8) (st : Int) (bad : Bool) : Kid × RS3 := ((kidR l st).1, (kidR l st).2.1, (kidR l st).2.2, bad)
theorem tkidB_spec (ρ : Hp) (bt br : Nat) (all : Int) (bad : Bool) (vk vr vs : Value) (a : Option Addr) (n c : Nat) (l : List UInt8) (h : SIn ρ u8c a n l) (hc : n ≤ c) (st : Int) :
    Spec Try.prog 202 [.pointer (some ⟨bt, 0, none⟩)] ρ [tkC bt br all bad vk vr vs, rdC br a n c st]
      (fun v ρ' L' => v = .agg ⟨kidV (kidRB l st bad).1⟩ ∧ ρ.le ρ' ∧ ∃ a' n' c', SIn ρ' u8c a' n' (kidRB l st bad).2.1 ∧ n' ≤ c' ∧ L' = [tkC bt br all (kidRB l st bad).2.2.2 vk vr vs, rdC br a' n' c' (kidRB l st bad).2.2.1]) := by
  refine (tkid_spec ρ bt br all bad vk vr vs a n c l h hc st).mono ?_
  rintro v ρ' L' hle ⟨h1, h2, h3⟩
  exact ⟨h1, hle, h3⟩
theorem manyKid_spec (ρ : Hp) (bt br : Nat) (all : Int) (bad : Bool) (vk vr vs : Value) (a : Option Addr) (n c : Nat) (l : List UInt8) (h : SIn ρ u8c a n l) (hc : n ≤ c) (st : Int) :
    Spec Try.prog 201 [.pointer (some ⟨bt, 0, none⟩), .int .i64 4, .func (.func 202) ⟨[.pointer (some ⟨bt, 0, none⟩)]⟩ ⟨[]⟩] ρ [tkC bt br all bad vk vr vs, rdC br a n c st]
      (fun v ρ' L' => ρ.le ρ' ∧ ∃ sa sn sc a' n' c', v = .slice sa sn sc ∧ sn ≤ sc ∧ sn ≤ 255 ∧ AIn ρ' 3 kidV sa sn (manyR kidRB l st bad).1 ∧ SIn ρ' u8c a' n' (manyR kidRB l st bad).2.1 ∧ n' ≤ c' ∧ L' = [tkC bt br all (manyR kidRB l st bad).2.2.2 vk vr vs, rdC br a' n' c' (manyR kidRB l st bad).2.2.1]) := by
  have hn1 := u8_spec ρ br a n c l h hc st
  have hb1 := numR_lt 1 l st
  generalize hq : manyR kidRB l st bad = q
  unfold manyR at hq
  generalize numR 1 l st = r1 at *
  obtain ⟨x1, l1, st1⟩ := r1
  dsimp only at hq hn1 hb1
  have hb255 : x1 < 256 := by simpa using hb1
  generalize hB1 : needB bad st1 (decide ((x1 : Int) ≤ 4)) = b1 at *
  refine spec_enter Try.func201 rfl rfl rfl fun u R => ?_
  simp only [argsE, List.cons_append, List.nil_append]
  repeat' (first | (refine tl_is (.func 138) ?_; refine qC rfl rfl (hn1) ?_; rintro v ρ' L' hle ⟨rfl, rfl, a1, n1, c1, h1, hc1, rfl⟩ <;> (try simp only [List.cons_append, List.nil_append, List.append_eq])) | (refine tl_is (.func 139) ?_; refine qC rfl rfl (need_spec _ bt br all bad vk vr vs a1 n1 c1 st1 (decide ((x1 : Int) ≤ 4))) ?_; rintro v ρ' L' hle ⟨rfl, rfl, rfl⟩ <;> (try simp only [List.cons_append, List.nil_append, List.append_eq, hB1])) | (refine i_op ?_; first | (refine i_qq ?_; refine qQ ?_) | refine qEf ?_) | refine tl_nil ?_ | (refine i_tc ?_; refine qTc ?_) | (refine i_te ?_; refine qTe ?_) | intro _)
  refine tc_loop_g [(0, _), (2, _), (6, _), (7, _)] (fun (ζ : (Nat) × (Hp) × (Value) × (List Value) × (List Kid) × (Option Addr) × (Nat) × (Nat) × (List UInt8) × (Int) × (Bool)) => [(9, .int .i64 ζ.1), (8, ζ.2.2.1)]) (fun (ζ : (Nat) × (Hp) × (Value) × (List Value) × (List Kid) × (Option Addr) × (Nat) × (Nat) × (List UInt8) × (Int) × (Bool)) => ζ.2.1) (fun (ζ : (Nat) × (Hp) × (Value) × (List Value) × (List Kid) × (Option Addr) × (Nat) × (Nat) × (List UInt8) × (Int) × (Bool)) => [ownC ζ.2.2.1 ((ζ.2.2.2.2.1.map kidV).flatten) ζ.2.2.2.1 134, tkC bt br all ζ.2.2.2.2.2.2.2.2.2.2 vk vr vs, rdC br ζ.2.2.2.2.2.1 ζ.2.2.2.2.2.2.1 ζ.2.2.2.2.2.2.2.1 ζ.2.2.2.2.2.2.2.2.2.1]) (fun (ζ : (Nat) × (Hp) × (Value) × (List Value) × (List Kid) × (Option Addr) × (Nat) × (Nat) × (List UInt8) × (Int) × (Bool)) => ζ.1 ≤ x1 ∧ ρ'.le ζ.2.1 ∧ OwnS ζ.2.2.1 ζ.1 ((ζ.2.2.2.2.1.map kidV).flatten) ζ.2.2.2.1 3 ∧ ζ.2.2.2.2.1.length = ζ.1 ∧ SIn ζ.2.1 u8c ζ.2.2.2.2.2.1 ζ.2.2.2.2.2.2.1 ζ.2.2.2.2.2.2.2.2.1 ∧ ζ.2.2.2.2.2.2.1 ≤ ζ.2.2.2.2.2.2.2.1 ∧ q = (ζ.2.2.2.2.1 ++ (manyTo kidRB (x1 - ζ.1) ζ.2.2.2.2.2.2.2.2.1 ζ.2.2.2.2.2.2.2.2.2.1 ζ.2.2.2.2.2.2.2.2.2.2).1, (manyTo kidRB (x1 - ζ.1) ζ.2.2.2.2.2.2.2.2.1 ζ.2.2.2.2.2.2.2.2.2.1 ζ.2.2.2.2.2.2.2.2.2.2).2)) (fun (ζ : (Nat) × (Hp) × (Value) × (List Value) × (List Kid) × (Option Addr) × (Nat) × (Nat) × (List UInt8) × (Int) × (Bool)) => x1 - ζ.1) ((0, ρ', .slice none 0 0, [], [], a1, n1, c1, l1, st1, b1)) (⟨Nat.zero_le _, Hp.le_refl _, OwnS.nil 3, rfl, h1, hc1, by simp [hq]⟩) ev_le ev_le rfl tk ?_
  rintro ⟨i, ρ1, v, sp, acc, a2, n2, c2, l2, st2, bad2⟩ hI
  try simp only [List.cons_append, List.nil_append, List.append_assoc, List.append_eq] at hI ⊢
  try dsimp only at hI ⊢
  obtain ⟨hi, hle1, hown, hal, h2, hc2, hq2⟩ := hI
  obtain ⟨va, vc, rfl, _⟩ := hown.len
  have hg : ∀ x ∈ acc, (kidV x).length = 3 := fun x _ => kidV_len x
  by_cases hlt : i < x1
  · cases hok : (!bad2 && decide (st2 = 0))
    · rw [manyTo_stop hok] at hq2
      simp only [List.append_nil] at hq2
      subst hq2
      repeat' (first | (refine tl_is (.func 140) ?_; refine qC rfl rfl (ok_spec _ bt br all bad2 vk vr vs a2 n2 c2 st2) ?_; rintro v ρ' L' hle ⟨rfl, rfl, rfl⟩ <;> (try simp only [List.cons_append, List.nil_append, List.append_eq, hok])) | (refine i_op ?_; first | (refine i_qq ?_; refine qQ ?_) | refine qEf ?_) | refine tl_nil ?_ | (refine i_tc ?_; refine qTc ?_) | (refine i_te ?_; refine qTe ?_) | intro _)
      refine te_freeze (ownC (.slice va i vc) ((acc.map kidV).flatten) sp 134) (fun ρ3 hle3 hfz => ?_)
      obtain ⟨sa, sc, e1, hsc, hA⟩ := hown.aIn hal hg hfz
      cases e1
      exact qE ⟨Hp.le_trans hle1 hle3, _, _, _, a2, n2, c2, rfl, hsc, by omega, hA, h2.mono hle3, hc2, rfl⟩
    · rw [show x1 - i = (x1 - (i + 1)) + 1 by omega, manyTo, if_pos hok] at hq2
      have hrow := fun ρ h => tkidB_spec ρ bt br all bad2 vk vr vs a2 n2 c2 l2 h hc2 st2
      generalize kidRB l2 st2 bad2 = r at *
      obtain ⟨x, l3, st3, bad3⟩ := r
      dsimp only at hq2 hrow
      repeat' (first | (refine tl_is (.func 140) ?_; refine qC rfl rfl (ok_spec _ bt br all bad2 vk vr vs a2 n2 c2 st2) ?_; rintro v ρ' L' hle ⟨rfl, rfl, rfl⟩ <;> (try simp only [List.cons_append, List.nil_append, List.append_eq, hok])) | (refine tl_is (.tmp 31) ?_; refine qC rfl rfl (hrow _ h2) ?_; rintro v ρ' L' hle ⟨rfl, hle3, a3, n3, c3, h3, hc3, rfl⟩ <;> (try simp only [List.cons_append, List.nil_append, List.append_eq])) | (refine i_op ?_; first | (refine i_qq ?_; refine qQ ?_) | refine qEf ?_) | refine tl_nil ?_ | (refine i_tc ?_; refine qTc ?_) | (refine i_te ?_; refine qTe ?_) | intro _)
      refine tl_buildSliceA (css := [kidV x]) (sz := 3) rfl rfl rfl rfl (by simp) (by simp) rfl (fun bs => ?_)
      simp only [List.flatten_cons, List.flatten_nil, List.append_nil]
      refine tl_app (ys := kidV x) (m := 1) rfl rfl hown (hR := by infer_instance) (SrcV.lit) rfl rfl (by decide) rfl (by omega) (by omega) rfl (fun v' sp' hown' => ?_)
      have hm : (acc.map kidV).flatten ++ kidV x = ((acc ++ [x]).map kidV).flatten := by simp
      rw [hm] at hown' ⊢
      repeat' (first | (refine i_op ?_; first | (refine i_qq ?_; refine qQ ?_) | refine qEf ?_) | refine tl_nil ?_ | (refine i_tc ?_; refine qTc ?_) | (refine i_te ?_; refine qTe ?_) | intro _)
      refine te_round_g (i + 1, _, v', sp', acc ++ [x], a3, n3, c3, l3, st3, bad3) (⟨hlt, Hp.le_trans hle1 hle3, hown', by simp [hal], h3, hc3, by rw [hq2]; simp⟩) ev_le ev_le rfl tk inferInstance (by first | omega | (dsimp only; omega))
  · have hi2 : i = x1 := by omega
    subst hi2
    rw [Nat.sub_self, manyTo] at hq2
    simp only [List.append_nil] at hq2
    subst hq2
    repeat' (first | (refine i_op ?_; first | (refine i_qq ?_; refine qQ ?_) | refine qEf ?_) | refine tl_nil ?_ | (refine i_tc ?_; refine qTc ?_) | (refine i_te ?_; refine qTe ?_) | intro _)
    refine te_freeze (ownC (.slice va i vc) ((acc.map kidV).flatten) sp 134) (fun ρ3 hle3 hfz => ?_)
    obtain ⟨sa, sc, e1, hsc, hA⟩ := hown.aIn hal hg hfz
    cases e1
    exact qE ⟨Hp.le_trans hle1 hle3, _, _, _, a2, n2, c2, rfl, hsc, by omega, hA, h2.mono hle3, hc2, rfl⟩
theorem tleaf_spec (ρ : Hp) (bt br : Nat) (all : Int) (bad : Bool) (vk vr vs : Value) (h1 : vk.oneCell' = true) (h2 : vr.oneCell' = true) (h3 : vs.oneCell' = true) (a : Option Addr) (n c : Nat) (l : List UInt8) (h : SIn ρ u8c a n l) (hc : n ≤ c) (st : Int) :
    Spec Try.prog 145 [.pointer (some ⟨bt, 0, none⟩)] ρ [tkC bt br all bad vk vr vs, rdC br a n c st]
      (fun v ρ' L' => v = .tuple ⟨[]⟩ ∧ ρ.le ρ' ∧ ∃ sa sn sc a' n' c', sn ≤ sc ∧ sn ≤ 255 ∧ AIn ρ' 4 rowV sa sn (manyR rowR l st bad).1 ∧ SIn ρ' u8c a' n' (manyR rowR l st bad).2.1 ∧ n' ≤ c' ∧ L' = [tkC bt br all (manyR rowR l st bad).2.2.2 vk (.slice sa sn sc) vs, rdC br a' n' c' (manyR rowR l st bad).2.2.1]) := by
  have hm := manyRow_spec ρ bt br all bad vk vr vs a n c l h hc st
  refine spec_enter Try.func145 rfl rfl rfl fun u R => ?_
  simp only [argsE, List.cons_append, List.nil_append]
  repeat' (first | (refine tl_is (.func 200) ?_; refine qC rfl rfl (hm) ?_; rintro v ρ' L' hle ⟨hle1, sa, sn, sc, a', n', c', rfl, q1, q2, q3, q4, q5, rfl⟩ <;> (try simp only [List.cons_append, List.nil_append, List.append_eq])) | (refine i_op ?_; first | (refine i_qq ?_; refine qQ ?_) | refine qEf ?_) | refine tl_nil ?_ | (refine i_tc ?_; refine qTc ?_) | (refine i_te ?_; refine qTe ?_) | intro _)
  exact qE ⟨rfl, hle1, sa, sn, sc, a', n', c', q1, q2, q3, q4, q5, rfl⟩
theorem tinner_spec (ρ : Hp) (bt br : Nat) (all : Int) (bad : Bool) (vk vr vs : Value) (h1 : vk.oneCell' = true) (h2 : vr.oneCell' = true) (h3 : vs.oneCell' = true) (a : Option Addr) (n c : Nat) (l : List UInt8) (h : SIn ρ u8c a n l) (hc : n ≤ c) (st : Int) :
    Spec Try.prog 146 [.pointer (some ⟨bt, 0, none⟩)] ρ [tkC bt br all bad vk vr vs, rdC br a n c st]
      (fun v ρ' L' => v = .tuple ⟨[]⟩ ∧ ρ.le ρ' ∧ ∃ sa sn sc a' n' c', sn ≤ sc ∧ sn ≤ 255 ∧ AIn ρ' 3 kidV sa sn (manyR kidRB l st bad).1 ∧ SIn ρ' u8c a' n' (manyR kidRB l st bad).2.1 ∧ n' ≤ c' ∧ L' = [tkC bt br all (manyR kidRB l st bad).2.2.2 vk vr (.slice sa sn sc), rdC br a' n' c' (manyR kidRB l st bad).2.2.1]) := by
  have hm := manyKid_spec ρ bt br all bad vk vr vs a n c l h hc st
  refine spec_enter Try.func146 rfl rfl rfl fun u R => ?_
  simp only [argsE, List.cons_append, List.nil_append]
  repeat' (first | (refine tl_is (.func 201) ?_; refine qC rfl rfl (hm) ?_; rintro v ρ' L' hle ⟨hle1, sa, sn, sc, a', n', c', rfl, q1, q2, q3, q4, q5, rfl⟩ <;> (try simp only [List.cons_append, List.nil_append, List.append_eq])) | (refine i_op ?_; first | (refine i_qq ?_; refine qQ ?_) | refine qEf ?_) | refine tl_nil ?_ | (refine i_tc ?_; refine qTc ?_) | (refine i_te ?_; refine qTe ?_) | intro _)
  exact qE ⟨rfl, hle1, sa, sn, sc, a', n', c', q1, q2, q3, q4, q5, rfl⟩
end Go.Proofs.E

namespace Go.Proofs.E
open Go
set_option linter.unusedVariables false
set_option linter.unusedSimpArgs false
set_option linter.unusedSectionVars false
set_option maxRecDepth 4000
set_option maxHeartbeats 1000000
attribute [local irreducible] Yl TL TC TE Spec YSpec R1 Hp.le EnvLe TS TR YS Stays
theorem from_spec (ρ : Hp) (a : Option Addr) (n c : Nat) (l : List UInt8) (h : SIn ρ u8c a n l) (hn : n ≤ 1000000) :
    Spec Try.prog 71 [.slice a n c] ρ [] (fun v ρ' L' => ρ.le ρ' ∧ ∃ bt br a' c', v = .pointer (some ⟨bt, 0, none⟩) ∧ n ≤ c' ∧ SIn ρ' u8c a' n l ∧ L' = [tkC bt br n false (.int .i64 0) (.slice none 0 0) (.slice none 0 0), rdC br a' n c' 0]) := by
  have hr := read_spec ρ a n c l h hn
  refine spec_enter Try.func71 rfl rfl rfl fun u R => ?_
  simp only [argsE, List.cons_append, List.nil_append]
  repeat' (first | (refine tl_is (.func 135) ?_; refine qC rfl rfl (hr) ?_; rintro v ρ' L' hle ⟨hle, br, a', c', rfl, hc', hs, rfl⟩ <;> (try simp only [List.cons_append, List.nil_append, List.append_eq])) | (refine i_op ?_; first | (refine i_qq ?_; refine qQ ?_) | refine qEf ?_) | refine tl_nil ?_ | (refine i_tc ?_; refine qTc ?_) | (refine i_te ?_; refine qTe ?_) | intro _)
  exact qE ⟨hle, _, br, a', c', rfl, hc', hs, rfl⟩
def takenN (all : Int) (left : Nat) (bad : Bool) (st : Int) : Int := if bad then 0 else if st ≠ 0 then 0 else all - left
def takenE (bad : Bool) (st : Int) : Int := if bad then 161 else st
theorem takenRow_spec (ρ : Hp) (bt br : Nat) (all : Nat) (hall : all ≤ 1000000) (bad : Bool) (vk vr vs : Value) (a : Option Addr) (n c : Nat) (st : Int) (r : Row) (hn : n ≤ all) :
    Spec Try.prog 72 [.pointer (some ⟨bt, 0, none⟩), .agg ⟨rowV r⟩] ρ [tkC bt br all bad vk vr vs, rdC br a n c st]
      (fun v ρ' L' => v = .tuple ⟨[.agg ⟨rowV (if bad || decide (st ≠ 0) then ⟨0, 0, 0, []⟩ else r)⟩, .int .i64 (takenN all n bad st), .int .i64 (takenE bad st)]⟩ ∧ ρ' = ρ ∧ L' = []) := by
  refine spec_enter Try.func72 rfl rfl rfl fun u R => ?_
  simp only [argsE, List.cons_append, List.nil_append, takenN, takenE]
  cases bad
  · by_cases h : st = 0
    · subst h
      simp only [Bool.false_or, ne_eq, not_true_eq_false, decide_false, Bool.false_eq_true, if_false]
      repeat' (first | (refine tl_is (.func 136) ?_; refine qC rfl rfl (err_spec _ br a n c 0) ?_; rintro v ρ' L' hle ⟨rfl, rfl, rfl⟩ <;> (try simp only [List.cons_append, List.nil_append, List.append_eq])) | (refine i_op ?_; first | (refine i_qq ?_; refine qQ ?_) | refine qEf ?_) | refine tl_nil ?_ | (refine i_tc ?_; refine qTc ?_) | (refine i_te ?_; refine qTe ?_) | intro _)
      rename_i b3 b4 b7
      refine tc_any (Stays _ _ ([tkC bt br all false vk vr vs, [(b3, .cells ⟨rowV r⟩ 28 (0, 0))]])) (stays_of (Hp.le_refl _)) ?_
      all_goals refine rLd 0 ?_
      all_goals refine rMv 1 ?_
      all_goals refine rNc 2 ?_
      all_goals refine rFa 3 ?_
      all_goals refine rLd 4 ?_
      all_goals refine rMv 5 ?_
      all_goals refine rNc 6 ?_
      all_goals refine rFa 7 ?_
      all_goals refine rLd 8 ?_
      all_goals (refine rStep (i := 9) ?_; ((try refine qWant ?_); (first | (refine tl_is (.func 137) ?_; refine qC rfl rfl (left_spec _ br a n c 0) ?_; rintro v ρ' L' hle ⟨rfl, rfl, rfl⟩ <;> (try simp only [List.cons_append, List.nil_append, List.append_eq])) | (refine qEf ?_; try intro _)) <;> ((try simp only [List.cons_append, List.nil_append, List.append_eq]); refine tl_nil ?_; refine rNext ?_)))
      all_goals refine rSb 10 ?_
      all_goals (refine rStep (i := 11) ?_; ((try refine qWant ?_); (first | (refine qEf ?_; try intro _)) <;> ((try simp only [List.cons_append, List.nil_append, List.append_eq]); refine tl_nil ?_; refine rNext ?_)))
      all_goals refine rFull ?_
      all_goals refine rAs 12 ?_
      all_goals refine rAs 13 ?_
      all_goals refine rDone ?_
      repeat' (first | (refine i_op ?_; first | (refine i_qq ?_; refine qQ ?_) | refine qEf ?_) | refine tl_nil ?_ | (refine i_tc ?_; refine qTc ?_) | (refine i_te ?_; refine qTe ?_) | intro _)
      exact qE ⟨rfl, rfl, rfl⟩
    · simp only [Bool.false_or, ne_eq, h, not_false_eq_true, decide_true, if_true, Bool.false_eq_true, if_false]
      repeat' (first | (refine tl_is (.func 136) ?_; refine qC rfl rfl (err_spec _ br a n c st) ?_; rintro v ρ' L' hle ⟨rfl, rfl, rfl⟩ <;> (try simp only [List.cons_append, List.nil_append, List.append_eq])) | (refine i_op ?_; first | (refine i_qq ?_; refine qQ ?_) | refine qEf ?_) | refine tl_nil ?_ | (refine i_tc ?_; refine qTc ?_) | (refine i_te ?_; refine qTe ?_) | intro _)
      rename_i b3 b4 b7
      refine tc_any (Stays _ _ ([tkC bt br all false vk vr vs, [(b7, .cells ⟨rowV ⟨0, 0, 0, []⟩⟩ 28 (0, 0))]])) (stays_of (Hp.le_refl _)) ?_
      all_goals refine rLd 0 ?_
      all_goals refine rMv 1 ?_
      all_goals refine rNc 2 ?_
      all_goals refine rFa 3 ?_
      all_goals refine rLd 4 ?_
      all_goals (refine rStep (i := 5) ?_; ((try refine qWant ?_); (first | (refine tl_is (.func 136) ?_; refine qC rfl rfl (err_spec _ br a n c st) ?_; rintro v ρ' L' hle ⟨rfl, rfl, rfl⟩ <;> (try simp only [List.cons_append, List.nil_append, List.append_eq])) | (refine qEf ?_; try intro _)) <;> ((try simp only [List.cons_append, List.nil_append, List.append_eq]); refine tl_nil ?_; refine rNext ?_)))
      all_goals (refine rStep (i := 6) ?_; ((try refine qWant ?_); (first | (refine qEf ?_; try intro _)) <;> ((try simp only [List.cons_append, List.nil_append, List.append_eq]); refine tl_nil ?_; refine rNext ?_)))
      all_goals refine rFull ?_
      all_goals refine rAs 7 ?_
      all_goals refine rAs 8 ?_
      all_goals refine rDone ?_
      repeat' (first | (refine i_op ?_; first | (refine i_qq ?_; refine qQ ?_) | refine qEf ?_) | refine tl_nil ?_ | (refine i_tc ?_; refine qTc ?_) | (refine i_te ?_; refine qTe ?_) | intro _)
      exact qE ⟨rfl, rfl, rfl⟩
  · simp only [Bool.true_or, if_true]
    repeat' (first | (refine i_op ?_; first | (refine i_qq ?_; refine qQ ?_) | refine qEf ?_) | refine tl_nil ?_ | (refine i_tc ?_; refine qTc ?_) | (refine i_te ?_; refine qTe ?_) | intro _)
    exact qE ⟨rfl, rfl, rfl⟩
theorem takenCont_spec (ρ : Hp) (bt br : Nat) (all : Nat) (hall : all ≤ 1000000) (bad : Bool) (vk vr vs : Value) (a : Option Addr) (n c : Nat) (st : Int) (k : Int) (w : CV) (hn : n ≤ all) :
    Spec Try.prog 75 [.pointer (some ⟨bt, 0, none⟩), .agg ⟨contV k w⟩] ρ [tkC bt br all bad vk vr vs, rdC br a n c st]
      (fun v ρ' L' => v = .tuple ⟨[.agg ⟨if bad || decide (st ≠ 0) then contV 0 ⟨none, 0, 0, none, 0, 0⟩ else contV k w⟩, .int .i64 (takenN all n bad st), .int .i64 (takenE bad st)]⟩ ∧ ρ' = ρ ∧ L' = []) := by
  refine spec_enter Try.func75 rfl rfl rfl fun u R => ?_
  simp only [argsE, List.cons_append, List.nil_append, takenN, takenE]
  cases bad
  · by_cases h : st = 0
    · subst h
      simp only [Bool.false_or, ne_eq, not_true_eq_false, decide_false, Bool.false_eq_true, if_false]
      repeat' (first | (refine tl_is (.func 136) ?_; refine qC rfl rfl (err_spec _ br a n c 0) ?_; rintro v ρ' L' hle ⟨rfl, rfl, rfl⟩ <;> (try simp only [List.cons_append, List.nil_append, List.append_eq])) | (refine i_op ?_; first | (refine i_qq ?_; refine qQ ?_) | refine qEf ?_) | refine tl_nil ?_ | (refine i_tc ?_; refine qTc ?_) | (refine i_te ?_; refine qTe ?_) | intro _)
      rename_i b3 b4 b7
      refine tc_any (Stays _ _ ([tkC bt br all false vk vr vs, [(b3, .cells ⟨contV k w⟩ 38 (0, 0))]])) (stays_of (Hp.le_refl _)) ?_
      all_goals refine rLd 0 ?_
      all_goals refine rMv 1 ?_
      all_goals refine rNc 2 ?_
      all_goals refine rFa 3 ?_
      all_goals refine rLd 4 ?_
      all_goals refine rMv 5 ?_
      all_goals refine rNc 6 ?_
      all_goals refine rFa 7 ?_
      all_goals refine rLd 8 ?_
      all_goals (refine rStep (i := 9) ?_; ((try refine qWant ?_); (first | (refine tl_is (.func 137) ?_; refine qC rfl rfl (left_spec _ br a n c 0) ?_; rintro v ρ' L' hle ⟨rfl, rfl, rfl⟩ <;> (try simp only [List.cons_append, List.nil_append, List.append_eq])) | (refine qEf ?_; try intro _)) <;> ((try simp only [List.cons_append, List.nil_append, List.append_eq]); refine tl_nil ?_; refine rNext ?_)))
      all_goals refine rSb 10 ?_
      all_goals (refine rStep (i := 11) ?_; ((try refine qWant ?_); (first | (refine qEf ?_; try intro _)) <;> ((try simp only [List.cons_append, List.nil_append, List.append_eq]); refine tl_nil ?_; refine rNext ?_)))
      all_goals refine rFull ?_
      all_goals refine rAs 12 ?_
      all_goals refine rAs 13 ?_
      all_goals refine rDone ?_
      repeat' (first | (refine i_op ?_; first | (refine i_qq ?_; refine qQ ?_) | refine qEf ?_) | refine tl_nil ?_ | (refine i_tc ?_; refine qTc ?_) | (refine i_te ?_; refine qTe ?_) | intro _)
      exact qE ⟨rfl, rfl, rfl⟩
    · simp only [Bool.false_or, ne_eq, h, not_false_eq_true, decide_true, if_true, Bool.false_eq_true, if_false]
      repeat' (first | (refine tl_is (.func 136) ?_; refine qC rfl rfl (err_spec _ br a n c st) ?_; rintro v ρ' L' hle ⟨rfl, rfl, rfl⟩ <;> (try simp only [List.cons_append, List.nil_append, List.append_eq])) | (refine i_op ?_; first | (refine i_qq ?_; refine qQ ?_) | refine qEf ?_) | refine tl_nil ?_ | (refine i_tc ?_; refine qTc ?_) | (refine i_te ?_; refine qTe ?_) | intro _)
      rename_i b3 b4 b7
      refine tc_any (Stays _ _ ([tkC bt br all false vk vr vs, [(b7, .cells ⟨contV 0 ⟨none, 0, 0, none, 0, 0⟩⟩ 38 (0, 0))]])) (stays_of (Hp.le_refl _)) ?_
      all_goals refine rLd 0 ?_
      all_goals refine rMv 1 ?_
      all_goals refine rNc 2 ?_
      all_goals refine rFa 3 ?_
      all_goals refine rLd 4 ?_
      all_goals (refine rStep (i := 5) ?_; ((try refine qWant ?_); (first | (refine tl_is (.func 136) ?_; refine qC rfl rfl (err_spec _ br a n c st) ?_; rintro v ρ' L' hle ⟨rfl, rfl, rfl⟩ <;> (try simp only [List.cons_append, List.nil_append, List.append_eq])) | (refine qEf ?_; try intro _)) <;> ((try simp only [List.cons_append, List.nil_append, List.append_eq]); refine tl_nil ?_; refine rNext ?_)))
      all_goals (refine rStep (i := 6) ?_; ((try refine qWant ?_); (first | (refine qEf ?_; try intro _)) <;> ((try simp only [List.cons_append, List.nil_append, List.append_eq]); refine tl_nil ?_; refine rNext ?_)))
      all_goals refine rFull ?_
      all_goals refine rAs 7 ?_
      all_goals refine rAs 8 ?_
      all_goals refine rDone ?_
      repeat' (first | (refine i_op ?_; first | (refine i_qq ?_; refine qQ ?_) | refine qEf ?_) | refine tl_nil ?_ | (refine i_tc ?_; refine qTc ?_) | (refine i_te ?_; refine qTe ?_) | intro _)
      exact qE ⟨rfl, rfl, rfl⟩
  · simp only [Bool.true_or, if_true]
    repeat' (first | (refine i_op ?_; first | (refine i_qq ?_; refine qQ ?_) | refine qEf ?_) | refine tl_nil ?_ | (refine i_tc ?_; refine qTc ?_) | (refine i_te ?_; refine qTe ?_) | intro _)
    exact qE ⟨rfl, rfl, rfl⟩
end Go.Proofs.E

namespace Go.Proofs.E
open Go
set_option linter.unusedVariables false
set_option linter.unusedSimpArgs false
set_option linter.unusedSectionVars false
set_option maxRecDepth 4000
set_option maxHeartbeats 1000000
attribute [local irreducible] Yl TL TC TE Spec YSpec R1 Hp.le EnvLe TS TR YS Stays
def contM (x1 : Nat) (l1 : List UInt8) (st1 : Int) (b1 : Bool) : (List Row × List Kid) × RS3 :=
  if !b1 && decide (st1 = 0) then
    if x1 = 1 then (((manyR rowR l1 st1 b1).1, []), (manyR rowR l1 st1 b1).2)
    else if x1 = 2 then (([], (manyR kidRB l1 st1 b1).1), (manyR kidRB l1 st1 b1).2)
    else (([], []), l1, st1, b1)
  else (([], []), l1, st1, b1)
def contE (x1 : Nat) (m : (List Row × List Kid) × RS3) : Cont × RS3 := (⟨x1, m.1.1, m.1.2⟩, m.2.1, m.2.2.1, needB m.2.2.2 m.2.2.1 (contOk ⟨x1, m.1.1, m.1.2⟩))
def contentR (l : List UInt8) : Cont × RS3 :=
  contE (numR 1 l 0).1 (contM (numR 1 l 0).1 (numR 1 l 0).2.1 (numR 1 l 0).2.2 (needB false (numR 1 l 0).2.2 (decide (((numR 1 l 0).1 : Int) ≤ 2))))
theorem CIn.nil {ρ : Hp} : CIn ρ ⟨none, 0, 0, none, 0, 0⟩ [] [] := ⟨AIn.nil, AIn.nil, by decide, by decide, by decide, by decide⟩
theorem content_spec (ρ : Hp) (bt br : Nat) (all : Int) (a : Option Addr) (n c : Nat) (l : List UInt8) (h : SIn ρ u8c a n l) (hc : n ≤ c) :
    Spec Try.prog 76 [.pointer (some ⟨bt, 0, none⟩)] ρ [tkC bt br all false (.int .i64 0) (.slice none 0 0) (.slice none 0 0), rdC br a n c 0]
      (fun v ρ' L' => ρ.le ρ' ∧ ∃ w a' n' c', v = .agg ⟨contV (contentR l).1.kind w⟩ ∧ CIn ρ' w (contentR l).1.rows (contentR l).1.kids ∧ SIn ρ' u8c a' n' (contentR l).2.1 ∧ n' ≤ c' ∧
        L' = [tkC bt br all (contentR l).2.2.2 (.int .i64 (contentR l).1.kind) (.slice w.ra w.rn w.rc) (.slice w.ka w.kn w.kc), rdC br a' n' c' (contentR l).2.2.1]) := by
  have hn1 := u8_spec ρ br a n c l h hc 0
  have hb1 := numR_lt 1 l 0
  generalize hq : contentR l = q
  unfold contentR at hq
  generalize numR 1 l 0 = r1 at *
  obtain ⟨x1, l1, st1⟩ := r1
  dsimp only at hq hn1 hb1
  generalize hB1 : needB false st1 (decide ((x1 : Int) ≤ 2)) = b1 at *
  have hnil : IntKeys .i64 [] := by intro e he; simp at he
  have hg0 : ∀ k : Int, mget [] k = none := fun _ => rfl
  refine spec_enter Try.func76 rfl rfl rfl fun u R => ?_
  simp only [argsE, List.cons_append, List.nil_append]
  rcases (show (x1 : Int) = 1 ∨ (x1 : Int) = 2 ∨ (x1 : Int) = 0 ∨ (2 : Int) < (x1 : Int) by omega) with hx | hx | hx | hx
  · rw [decide_eq_true (show (x1 : Int) ≤ 2 by omega)] at hB1
    repeat' (first | (refine tl_is (.func 138) ?_; refine qC rfl rfl (hn1) ?_; rintro v ρ' L' hle ⟨rfl, rfl, a1, n1, c1, h1, hc1, rfl⟩ <;> (try simp only [List.cons_append, List.nil_append, List.append_eq])) | (refine tl_is (.func 139) ?_; refine qC rfl rfl (need_spec _ bt br all false _ _ _ a1 n1 c1 st1 _) ?_; rintro v ρ' L' hle ⟨rfl, rfl, rfl⟩ <;> (try simp only [List.cons_append, List.nil_append, List.append_eq, hB1])) | (refine tl_insert rfl rfl rfl hnil (fun es1 ck1 i1 i2 => ?_)) | (refine tl_insert rfl rfl rfl i1 (fun es2 ck2 j1 j2 => ?_); have hg := j2 (x1 : Int); rw [i2, if_neg (by omega), if_pos hx] at hg) | (refine i_op ?_; first | (refine i_qq ?_; refine qQ ?_) | refine qEf ?_) | refine tl_nil ?_ | (refine i_tc ?_; refine qTc ?_) | (refine i_te ?_; refine qTe ?_) | intro _)
    cases hok : (!b1 && decide (st1 = 0))
    · have hm : contM x1 l1 st1 b1 = (([], []), l1, st1, b1) := by rw [contM, hok]; rfl
      rw [hm] at hq
      have hck := fun ρ => check_spec ρ ⟨none, 0, 0, none, 0, 0⟩ ⟨x1, [], []⟩ CIn.nil
      simp only [contE] at hq
      generalize hB2 : needB b1 st1 (contOk ⟨x1, [], []⟩) = b2 at *
      subst hq
      repeat' (first | (refine tl_is (.func 140) ?_; refine qC rfl rfl (ok_spec _ bt br all b1 _ _ _ a1 n1 c1 st1) ?_; rintro v ρ' L' hle ⟨rfl, rfl, rfl⟩ <;> (try simp only [List.cons_append, List.nil_append, List.append_eq, hok])) | (refine i_op ?_; first | (refine i_qq ?_; refine qQ ?_) | refine qEf ?_) | refine tl_nil ?_ | (refine i_tc ?_; refine qTc ?_) | (refine i_te ?_; refine qTe ?_) | intro _)
      cases hco : contOk ⟨x1, [], []⟩
      all_goals rw [hco] at hck hB2
      all_goals (repeat' (first | (refine tl_is (.func 31) ?_; refine qC rfl rfl (hck _) ?_; rintro v ρ' L' hle ⟨rfl, rfl, rfl⟩ <;> (try simp only [List.cons_append, List.nil_append, List.append_eq, if_true, if_false, Bool.false_eq_true])) | (refine tl_is (.func 139) ?_; refine qC rfl rfl (need_spec _ bt br all b1 _ _ _ a1 n1 c1 st1 _) ?_; rintro v ρ' L' hle ⟨rfl, rfl, rfl⟩ <;> (try simp only [List.cons_append, List.nil_append, List.append_eq, hB2])) | (refine i_op ?_; first | (refine i_qq ?_; refine qQ ?_) | refine qEf ?_) | refine tl_nil ?_ | (refine i_tc ?_; refine qTc ?_) | (refine i_te ?_; refine qTe ?_) | intro _))
      all_goals exact qE ⟨Hp.le_refl _, ⟨none, 0, 0, none, 0, 0⟩, a1, n1, c1, rfl, CIn.nil, h1, hc1, rfl⟩
    · have hlf := fun ρ (h : SIn ρ u8c a1 n1 l1) => tleaf_spec ρ bt br all b1 (.int .i64 x1) (.slice none 0 0) (.slice none 0 0) rfl rfl rfl a1 n1 c1 l1 h hc1 st1
      have hm : contM x1 l1 st1 b1 = (((manyR rowR l1 st1 b1).1, []), (manyR rowR l1 st1 b1).2) := by rw [contM, if_pos hok, if_pos (by omega)]
      rw [hm] at hq
      generalize manyR rowR l1 st1 b1 = m at *
      obtain ⟨xs, l2, st2, b2⟩ := m
      dsimp only at hq hlf
      have hck := fun ρ w h => check_spec ρ w ⟨x1, xs, []⟩ h
      simp only [contE] at hq
      generalize hB2 : needB b2 st2 (contOk ⟨x1, xs, []⟩) = b3 at *
      subst hq
      repeat' (first | (refine tl_is (.func 140) ?_; refine qC rfl rfl (ok_spec _ bt br all b1 _ _ _ a1 n1 c1 st1) ?_; rintro v ρ' L' hle ⟨rfl, rfl, rfl⟩ <;> (try simp only [List.cons_append, List.nil_append, List.append_eq, hok])) | (refine tl_is (.tmp 40) ?_; refine qC rfl rfl (hlf _ h1) ?_; rintro v ρ' L' hle ⟨rfl, hle2, sa, sn, sc, a2, n2, c2, hsc, hs255, hA, h2, hc2, rfl⟩ <;> (try simp only [List.cons_append, List.nil_append, List.append_eq])) | (refine i_op ?_; first | (refine i_qq ?_; refine qQ ?_) | refine qEf ?_) | refine tl_nil ?_ | (refine i_tc ?_; refine qTc ?_) | (refine i_te ?_; refine qTe ?_) | intro _)
      have hC : CIn ρ' ⟨sa, sn, sc, none, 0, 0⟩ xs [] := ⟨hA, AIn.nil, by dsimp only; omega, Nat.zero_le _, hsc, Nat.le_refl _⟩
      cases hco : contOk ⟨x1, xs, []⟩
      all_goals rw [hco] at hck hB2
      all_goals (repeat' (first | (refine tl_is (.func 31) ?_; refine qC rfl rfl (hck _ _ hC) ?_; rintro v ρ' L' hle ⟨rfl, rfl, rfl⟩ <;> (try simp only [List.cons_append, List.nil_append, List.append_eq, if_true, if_false, Bool.false_eq_true])) | (refine tl_is (.func 139) ?_; refine qC rfl rfl (need_spec _ bt br all b2 _ _ _ a2 n2 c2 st2 _) ?_; rintro v ρ' L' hle ⟨rfl, rfl, rfl⟩ <;> (try simp only [List.cons_append, List.nil_append, List.append_eq, hB2])) | (refine i_op ?_; first | (refine i_qq ?_; refine qQ ?_) | refine qEf ?_) | refine tl_nil ?_ | (refine i_tc ?_; refine qTc ?_) | (refine i_te ?_; refine qTe ?_) | intro _))
      all_goals exact qE ⟨hle2, ⟨sa, sn, sc, none, 0, 0⟩, a2, n2, c2, rfl, hC, h2, hc2, rfl⟩
  · rw [decide_eq_true (show (x1 : Int) ≤ 2 by omega)] at hB1
    repeat' (first | (refine tl_is (.func 138) ?_; refine qC rfl rfl (hn1) ?_; rintro v ρ' L' hle ⟨rfl, rfl, a1, n1, c1, h1, hc1, rfl⟩ <;> (try simp only [List.cons_append, List.nil_append, List.append_eq])) | (refine tl_is (.func 139) ?_; refine qC rfl rfl (need_spec _ bt br all false _ _ _ a1 n1 c1 st1 _) ?_; rintro v ρ' L' hle ⟨rfl, rfl, rfl⟩ <;> (try simp only [List.cons_append, List.nil_append, List.append_eq, hB1])) | (refine tl_insert rfl rfl rfl hnil (fun es1 ck1 i1 i2 => ?_)) | (refine tl_insert rfl rfl rfl i1 (fun es2 ck2 j1 j2 => ?_); have hg := j2 (x1 : Int); rw [if_pos hx] at hg) | (refine i_op ?_; first | (refine i_qq ?_; refine qQ ?_) | refine qEf ?_) | refine tl_nil ?_ | (refine i_tc ?_; refine qTc ?_) | (refine i_te ?_; refine qTe ?_) | intro _)
    cases hok : (!b1 && decide (st1 = 0))
    · have hm : contM x1 l1 st1 b1 = (([], []), l1, st1, b1) := by rw [contM, hok]; rfl
      rw [hm] at hq
      have hck := fun ρ => check_spec ρ ⟨none, 0, 0, none, 0, 0⟩ ⟨x1, [], []⟩ CIn.nil
      simp only [contE] at hq
      generalize hB2 : needB b1 st1 (contOk ⟨x1, [], []⟩) = b2 at *
      subst hq
      repeat' (first | (refine tl_is (.func 140) ?_; refine qC rfl rfl (ok_spec _ bt br all b1 _ _ _ a1 n1 c1 st1) ?_; rintro v ρ' L' hle ⟨rfl, rfl, rfl⟩ <;> (try simp only [List.cons_append, List.nil_append, List.append_eq, hok])) | (refine i_op ?_; first | (refine i_qq ?_; refine qQ ?_) | refine qEf ?_) | refine tl_nil ?_ | (refine i_tc ?_; refine qTc ?_) | (refine i_te ?_; refine qTe ?_) | intro _)
      cases hco : contOk ⟨x1, [], []⟩
      all_goals rw [hco] at hck hB2
      all_goals (repeat' (first | (refine tl_is (.func 31) ?_; refine qC rfl rfl (hck _) ?_; rintro v ρ' L' hle ⟨rfl, rfl, rfl⟩ <;> (try simp only [List.cons_append, List.nil_append, List.append_eq, if_true, if_false, Bool.false_eq_true])) | (refine tl_is (.func 139) ?_; refine qC rfl rfl (need_spec _ bt br all b1 _ _ _ a1 n1 c1 st1 _) ?_; rintro v ρ' L' hle ⟨rfl, rfl, rfl⟩ <;> (try simp only [List.cons_append, List.nil_append, List.append_eq, hB2])) | (refine i_op ?_; first | (refine i_qq ?_; refine qQ ?_) | refine qEf ?_) | refine tl_nil ?_ | (refine i_tc ?_; refine qTc ?_) | (refine i_te ?_; refine qTe ?_) | intro _))
      all_goals exact qE ⟨Hp.le_refl _, ⟨none, 0, 0, none, 0, 0⟩, a1, n1, c1, rfl, CIn.nil, h1, hc1, rfl⟩
    · have hlf := fun ρ (h : SIn ρ u8c a1 n1 l1) => tinner_spec ρ bt br all b1 (.int .i64 x1) (.slice none 0 0) (.slice none 0 0) rfl rfl rfl a1 n1 c1 l1 h hc1 st1
      have hm : contM x1 l1 st1 b1 = (([], (manyR kidRB l1 st1 b1).1), (manyR kidRB l1 st1 b1).2) := by rw [contM, if_pos hok, if_neg (by omega), if_pos (by omega)]
      rw [hm] at hq
      generalize manyR kidRB l1 st1 b1 = m at *
      obtain ⟨xs, l2, st2, b2⟩ := m
      dsimp only at hq hlf
      have hck := fun ρ w h => check_spec ρ w ⟨x1, [], xs⟩ h
      simp only [contE] at hq
      generalize hB2 : needB b2 st2 (contOk ⟨x1, [], xs⟩) = b3 at *
      subst hq
      repeat' (first | (refine tl_is (.func 140) ?_; refine qC rfl rfl (ok_spec _ bt br all b1 _ _ _ a1 n1 c1 st1) ?_; rintro v ρ' L' hle ⟨rfl, rfl, rfl⟩ <;> (try simp only [List.cons_append, List.nil_append, List.append_eq, hok])) | (refine tl_is (.tmp 40) ?_; refine qC rfl rfl (hlf _ h1) ?_; rintro v ρ' L' hle ⟨rfl, hle2, sa, sn, sc, a2, n2, c2, hsc, hs255, hA, h2, hc2, rfl⟩ <;> (try simp only [List.cons_append, List.nil_append, List.append_eq])) | (refine i_op ?_; first | (refine i_qq ?_; refine qQ ?_) | refine qEf ?_) | refine tl_nil ?_ | (refine i_tc ?_; refine qTc ?_) | (refine i_te ?_; refine qTe ?_) | intro _)
      have hC : CIn ρ' ⟨none, 0, 0, sa, sn, sc⟩ [] xs := ⟨AIn.nil, hA, Nat.zero_le _, by dsimp only; omega, Nat.le_refl _, hsc⟩
      cases hco : contOk ⟨x1, [], xs⟩
      all_goals rw [hco] at hck hB2
      all_goals (repeat' (first | (refine tl_is (.func 31) ?_; refine qC rfl rfl (hck _ _ hC) ?_; rintro v ρ' L' hle ⟨rfl, rfl, rfl⟩ <;> (try simp only [List.cons_append, List.nil_append, List.append_eq, if_true, if_false, Bool.false_eq_true])) | (refine tl_is (.func 139) ?_; refine qC rfl rfl (need_spec _ bt br all b2 _ _ _ a2 n2 c2 st2 _) ?_; rintro v ρ' L' hle ⟨rfl, rfl, rfl⟩ <;> (try simp only [List.cons_append, List.nil_append, List.append_eq, hB2])) | (refine i_op ?_; first | (refine i_qq ?_; refine qQ ?_) | refine qEf ?_) | refine tl_nil ?_ | (refine i_tc ?_; refine qTc ?_) | (refine i_te ?_; refine qTe ?_) | intro _))
      all_goals exact qE ⟨hle2, ⟨none, 0, 0, sa, sn, sc⟩, a2, n2, c2, rfl, hC, h2, hc2, rfl⟩
  · rw [decide_eq_true (show (x1 : Int) ≤ 2 by omega)] at hB1
    repeat' (first | (refine tl_is (.func 138) ?_; refine qC rfl rfl (hn1) ?_; rintro v ρ' L' hle ⟨rfl, rfl, a1, n1, c1, h1, hc1, rfl⟩ <;> (try simp only [List.cons_append, List.nil_append, List.append_eq])) | (refine tl_is (.func 139) ?_; refine qC rfl rfl (need_spec _ bt br all false _ _ _ a1 n1 c1 st1 _) ?_; rintro v ρ' L' hle ⟨rfl, rfl, rfl⟩ <;> (try simp only [List.cons_append, List.nil_append, List.append_eq, hB1])) | (refine tl_insert rfl rfl rfl hnil (fun es1 ck1 i1 i2 => ?_)) | (refine tl_insert rfl rfl rfl i1 (fun es2 ck2 j1 j2 => ?_); have hg := j2 (x1 : Int); rw [i2, if_neg (by omega), if_neg (by omega), hg0] at hg) | (refine i_op ?_; first | (refine i_qq ?_; refine qQ ?_) | refine qEf ?_) | refine tl_nil ?_ | (refine i_tc ?_; refine qTc ?_) | (refine i_te ?_; refine qTe ?_) | intro _)
    have hm : contM x1 l1 st1 b1 = (([], []), l1, st1, b1) := by
      rw [contM]
      split
      · rw [if_neg (by omega), if_neg (by omega)]
      · rfl
    rw [hm] at hq
    have hck := fun ρ => check_spec ρ ⟨none, 0, 0, none, 0, 0⟩ ⟨x1, [], []⟩ CIn.nil
    simp only [contE] at hq
    generalize hB2 : needB b1 st1 (contOk ⟨x1, [], []⟩) = b2 at *
    subst hq
    cases hco : contOk ⟨x1, [], []⟩
    all_goals rw [hco] at hck hB2
    all_goals (repeat' (first | (refine tl_is (.func 31) ?_; refine qC rfl rfl (hck _) ?_; rintro v ρ' L' hle ⟨rfl, rfl, rfl⟩ <;> (try simp only [List.cons_append, List.nil_append, List.append_eq, if_true, if_false, Bool.false_eq_true])) | (refine tl_is (.func 139) ?_; refine qC rfl rfl (need_spec _ bt br all b1 _ _ _ a1 n1 c1 st1 _) ?_; rintro v ρ' L' hle ⟨rfl, rfl, rfl⟩ <;> (try simp only [List.cons_append, List.nil_append, List.append_eq, hB2])) | (refine i_op ?_; first | (refine i_qq ?_; refine qQ ?_) | refine qEf ?_) | refine tl_nil ?_ | (refine i_tc ?_; refine qTc ?_) | (refine i_te ?_; refine qTe ?_) | intro _))
    all_goals exact qE ⟨Hp.le_refl _, ⟨none, 0, 0, none, 0, 0⟩, a1, n1, c1, rfl, CIn.nil, h1, hc1, rfl⟩
  · rw [decide_eq_false (show ¬ (x1 : Int) ≤ 2 by omega)] at hB1
    repeat' (first | (refine tl_is (.func 138) ?_; refine qC rfl rfl (hn1) ?_; rintro v ρ' L' hle ⟨rfl, rfl, a1, n1, c1, h1, hc1, rfl⟩ <;> (try simp only [List.cons_append, List.nil_append, List.append_eq])) | (refine tl_is (.func 139) ?_; refine qC rfl rfl (need_spec _ bt br all false _ _ _ a1 n1 c1 st1 _) ?_; rintro v ρ' L' hle ⟨rfl, rfl, rfl⟩ <;> (try simp only [List.cons_append, List.nil_append, List.append_eq, hB1])) | (refine tl_insert rfl rfl rfl hnil (fun es1 ck1 i1 i2 => ?_)) | (refine tl_insert rfl rfl rfl i1 (fun es2 ck2 j1 j2 => ?_); have hg := j2 (x1 : Int); rw [i2, if_neg (by omega), if_neg (by omega), hg0] at hg) | (refine i_op ?_; first | (refine i_qq ?_; refine qQ ?_) | refine qEf ?_) | refine tl_nil ?_ | (refine i_tc ?_; refine qTc ?_) | (refine i_te ?_; refine qTe ?_) | intro _)
    have hm : contM x1 l1 st1 b1 = (([], []), l1, st1, b1) := by
      rw [contM]
      split
      · rw [if_neg (by omega), if_neg (by omega)]
      · rfl
    rw [hm] at hq
    have hck := fun ρ => check_spec ρ ⟨none, 0, 0, none, 0, 0⟩ ⟨x1, [], []⟩ CIn.nil
    simp only [contE] at hq
    generalize hB2 : needB b1 st1 (contOk ⟨x1, [], []⟩) = b2 at *
    subst hq
    cases hco : contOk ⟨x1, [], []⟩
    all_goals rw [hco] at hck hB2
    all_goals (repeat' (first | (refine tl_is (.func 31) ?_; refine qC rfl rfl (hck _) ?_; rintro v ρ' L' hle ⟨rfl, rfl, rfl⟩ <;> (try simp only [List.cons_append, List.nil_append, List.append_eq, if_true, if_false, Bool.false_eq_true])) | (refine tl_is (.func 139) ?_; refine qC rfl rfl (need_spec _ bt br all b1 _ _ _ a1 n1 c1 st1 _) ?_; rintro v ρ' L' hle ⟨rfl, rfl, rfl⟩ <;> (try simp only [List.cons_append, List.nil_append, List.append_eq, hB2])) | (refine i_op ?_; first | (refine i_qq ?_; refine qQ ?_) | refine qEf ?_) | refine tl_nil ?_ | (refine i_tc ?_; refine qTc ?_) | (refine i_te ?_; refine qTe ?_) | intro _))
    all_goals exact qE ⟨Hp.le_refl _, ⟨none, 0, 0, none, 0, 0⟩, a1, n1, c1, rfl, CIn.nil, h1, hc1, rfl⟩
end Go.Proofs.E

namespace Go.Proofs.E
open Go
set_option linter.unusedVariables false
set_option linter.unusedSimpArgs false
set_option linter.unusedSectionVars false
set_option maxRecDepth 4000
set_option maxHeartbeats 1000000
attribute [local irreducible] Yl TL TC TE Spec YSpec R1 Hp.le EnvLe TS TR YS Stays
theorem numR_len (k : Nat) (l : List UInt8) (st : Int) : (numR k l st).2.1.length ≤ l.length := by
  unfold numR; split
  · exact Nat.le_refl _
  · split
    · exact Nat.le_refl _
    · simp
theorem rawR_len (k : Nat) (l : List UInt8) (st : Int) : (rawR k l st).2.1.length ≤ l.length := by
  unfold rawR; split
  · exact Nat.le_refl _
  · split
    · exact Nat.le_refl _
    · simp
theorem rowR_len (l : List UInt8) (st : Int) (bad : Bool) : (rowR l st bad).2.1.length ≤ l.length := by
  unfold rowR
  dsimp only
  have e1 := numR_len 1 l st
  generalize numR 1 l st = r1 at *
  have e2 := numR_len 2 r1.2.1 r1.2.2
  generalize numR 2 r1.2.1 r1.2.2 = r2 at *
  have e3 := numR_len 8 r2.2.1 r2.2.2
  generalize numR 8 r2.2.1 r2.2.2 = r3 at *
  have e4 := numR_len 1 r3.2.1 r3.2.2
  generalize numR 1 r3.2.1 r3.2.2 = r4 at *
  have e5 := rawR_len r4.1 r4.2.1 r4.2.2
  split
  · split <;> dsimp only <;> omega
  · dsimp only; omega
theorem kidR_len (l : List UInt8) (st : Int) : (kidR l st).2.1.length ≤ l.length := by
  unfold kidR
  dsimp only
  have e1 := numR_len 1 l st
  generalize numR 1 l st = r1 at *
  have e2 := numR_len 2 r1.2.1 r1.2.2
  generalize numR 2 r1.2.1 r1.2.2 = r2 at *
  have e3 := numR_len 1 r2.2.1 r2.2.2
  omega
theorem manyTo_len {α : Type} {f : List UInt8 → Int → Bool → α × RS3} (hf : ∀ l st bad, (f l st bad).2.1.length ≤ l.length) : ∀ (n : Nat) (l : List UInt8) (st : Int) (bad : Bool), (manyTo f n l st bad).2.1.length ≤ l.length
  | 0, l, st, bad => Nat.le_refl _
  | n + 1, l, st, bad => by
    rw [manyTo]
    split
    · exact Nat.le_trans (manyTo_len hf n _ _ _) (hf l st bad)
    · exact Nat.le_refl _
theorem manyR_len {α : Type} {f : List UInt8 → Int → Bool → α × RS3} (hf : ∀ l st bad, (f l st bad).2.1.length ≤ l.length) (l : List UInt8) (st : Int) (bad : Bool) : (manyR f l st bad).2.1.length ≤ l.length :=
  Nat.le_trans (manyTo_len hf _ _ _ _) (numR_len 1 l st)
theorem contentR_len (l : List UInt8) : (contentR l).2.1.length ≤ l.length := by
  unfold contentR contE
  dsimp only
  have e1 := numR_len 1 l 0
  generalize numR 1 l 0 = r1 at *
  have h2 : ∀ b, (contM r1.1 r1.2.1 r1.2.2 b).2.1.length ≤ r1.2.1.length := fun b => by
    unfold contM
    have a1 := manyR_len (f := rowR) rowR_len r1.2.1 r1.2.2 b
    have a2 := manyR_len (f := kidRB) (fun l st bad => kidR_len l st) r1.2.1 r1.2.2 b
    split
    · split
      · exact a1
      · split
        · exact a2
        · exact Nat.le_refl _
    · exact Nat.le_refl _
  exact Nat.le_trans (h2 _) e1
def takeRowR (l : List UInt8) : Row × Int × Int :=
  let r := rowR l 0 false
  (if r.2.2.2 || decide (r.2.2.1 ≠ 0) then ⟨0, 0, 0, []⟩ else r.1, takenN l.length r.2.1.length r.2.2.2 r.2.2.1, takenE r.2.2.2 r.2.2.1)
def takeContR (l : List UInt8) : Cont × Int × Int :=
  let r := contentR l
  (if r.2.2.2 || decide (r.2.2.1 ≠ 0) then ⟨0, [], []⟩ else r.1, takenN l.length r.2.1.length r.2.2.2 r.2.2.1, takenE r.2.2.2 r.2.2.1)
theorem takeRow_spec (ρ : Hp) (a : Option Addr) (n c : Nat) (l : List UInt8) (h : SIn ρ u8c a n l) (hn : n ≤ 1000000) :
    Spec Try.prog 16 [.slice a n c] ρ [] (fun v ρ' L' => v = .tuple ⟨[.agg ⟨rowV (takeRowR l).1⟩, .int .i64 (takeRowR l).2.1, .int .i64 (takeRowR l).2.2]⟩ ∧ ρ.le ρ' ∧ L' = []) := by
  have hf := from_spec ρ a n c l h hn
  have hl := h.len
  have hlen := rowR_len l 0 false
  unfold takeRowR
  dsimp only
  rw [hl] at hlen ⊢
  refine spec_enter Try.func16 rfl rfl rfl fun u R => ?_
  simp only [argsE, List.cons_append, List.nil_append]
  repeat' (first | (refine tl_is (.func 71) ?_; refine qC rfl rfl (hf) ?_; rintro v ρ' L' hle ⟨hle1, bt, br, a1, c1, rfl, hc1, h1, rfl⟩ <;> (try simp only [List.cons_append, List.nil_append, List.append_eq])) | (refine i_op ?_; first | (refine i_qq ?_; refine qQ ?_) | refine qEf ?_) | refine tl_nil ?_ | (refine i_tc ?_; refine qTc ?_) | (refine i_te ?_; refine qTe ?_) | intro _)
  have hr := trow_spec _ bt br n false (.int .i64 0) (.slice none 0 0) (.slice none 0 0) a1 n c1 l h1 hc1 0
  generalize rowR l 0 false = r at *
  obtain ⟨x, l2, st2, b2⟩ := r
  dsimp only at hr hlen ⊢
  repeat' (first | (refine tl_is (.func 73) ?_; refine qC rfl rfl (hr) ?_; rintro v ρ' L' hle ⟨rfl, hle2, a2, n2, c2, h2, hc2, rfl⟩ <;> (try simp only [List.cons_append, List.nil_append, List.append_eq])) | (refine i_op ?_; first | (refine i_qq ?_; refine qQ ?_) | refine qEf ?_) | refine tl_nil ?_ | (refine i_tc ?_; refine qTc ?_) | (refine i_te ?_; refine qTe ?_) | intro _)
  have hl2 := h2.len
  rw [hl2]
  repeat' (first | (refine tl_is (.func 72) ?_; refine qC rfl rfl (takenRow_spec _ bt br n hn b2 _ _ _ a2 n2 c2 st2 x (by omega)) ?_; rintro v ρ' L' hle ⟨rfl, rfl, rfl⟩ <;> (try simp only [List.cons_append, List.nil_append, List.append_eq])) | (refine i_op ?_; first | (refine i_qq ?_; refine qQ ?_) | refine qEf ?_) | refine tl_nil ?_ | (refine i_tc ?_; refine qTc ?_) | (refine i_te ?_; refine qTe ?_) | intro _)
  exact qE ⟨rfl, Hp.le_trans hle1 hle2, rfl⟩
theorem takeCont_spec (ρ : Hp) (a : Option Addr) (n c : Nat) (l : List UInt8) (h : SIn ρ u8c a n l) (hn : n ≤ 1000000) :
    Spec Try.prog 19 [.slice a n c] ρ [] (fun v ρ' L' => ρ.le ρ' ∧ ∃ w, v = .tuple ⟨[.agg ⟨contV (takeContR l).1.kind w⟩, .int .i64 (takeContR l).2.1, .int .i64 (takeContR l).2.2]⟩ ∧ CIn ρ' w (takeContR l).1.rows (takeContR l).1.kids ∧ L' = []) := by
  have hf := from_spec ρ a n c l h hn
  have hl := h.len
  have hlen := contentR_len l
  unfold takeContR
  dsimp only
  rw [hl] at hlen ⊢
  refine spec_enter Try.func19 rfl rfl rfl fun u R => ?_
  simp only [argsE, List.cons_append, List.nil_append]
  repeat' (first | (refine tl_is (.func 71) ?_; refine qC rfl rfl (hf) ?_; rintro v ρ' L' hle ⟨hle1, bt, br, a1, c1, rfl, hc1, h1, rfl⟩ <;> (try simp only [List.cons_append, List.nil_append, List.append_eq])) | (refine i_op ?_; first | (refine i_qq ?_; refine qQ ?_) | refine qEf ?_) | refine tl_nil ?_ | (refine i_tc ?_; refine qTc ?_) | (refine i_te ?_; refine qTe ?_) | intro _)
  have hr := content_spec _ bt br n a1 n c1 l h1 hc1
  generalize contentR l = r at *
  obtain ⟨x, l2, st2, b2⟩ := r
  dsimp only at hr hlen ⊢
  repeat' (first | (refine tl_is (.func 76) ?_; refine qC rfl rfl (hr) ?_; rintro v ρ' L' hle ⟨hle2, w, a2, n2, c2, rfl, hC, h2, hc2, rfl⟩ <;> (try simp only [List.cons_append, List.nil_append, List.append_eq])) | (refine i_op ?_; first | (refine i_qq ?_; refine qQ ?_) | refine qEf ?_) | refine tl_nil ?_ | (refine i_tc ?_; refine qTc ?_) | (refine i_te ?_; refine qTe ?_) | intro _)
  have hl2 := h2.len
  rw [hl2]
  have ht := fun ρ => takenCont_spec ρ bt br n hn b2 (.int .i64 x.kind) (.slice w.ra w.rn w.rc) (.slice w.ka w.kn w.kc) a2 n2 c2 st2 x.kind w (by omega)
  by_cases hb : (b2 || decide (st2 ≠ 0)) = true
  · rw [if_pos hb] at ht
    rw [if_pos hb]
    repeat' (first | (refine tl_is (.func 75) ?_; refine qC rfl rfl (ht _) ?_; rintro v ρ' L' hle ⟨rfl, rfl, rfl⟩ <;> (try simp only [List.cons_append, List.nil_append, List.append_eq])) | (refine i_op ?_; first | (refine i_qq ?_; refine qQ ?_) | refine qEf ?_) | refine tl_nil ?_ | (refine i_tc ?_; refine qTc ?_) | (refine i_te ?_; refine qTe ?_) | intro _)
    exact qE ⟨Hp.le_trans hle1 hle2, ⟨none, 0, 0, none, 0, 0⟩, rfl, CIn.nil, rfl⟩
  · rw [if_neg hb] at ht
    rw [if_neg hb]
    repeat' (first | (refine tl_is (.func 75) ?_; refine qC rfl rfl (ht _) ?_; rintro v ρ' L' hle ⟨rfl, rfl, rfl⟩ <;> (try simp only [List.cons_append, List.nil_append, List.append_eq])) | (refine i_op ?_; first | (refine i_qq ?_; refine qQ ?_) | refine qEf ?_) | refine tl_nil ?_ | (refine i_tc ?_; refine qTc ?_) | (refine i_te ?_; refine qTe ?_) | intro _)
    exact qE ⟨Hp.le_trans hle1 hle2, w, rfl, hC, rfl⟩
end Go.Proofs.E

namespace Go.Proofs.E
open Go
set_option linter.unusedVariables false
set_option linter.unusedSimpArgs false
set_option linter.unusedSectionVars false
set_option maxRecDepth 4000
set_option maxHeartbeats 1000000
attribute [local irreducible] Yl TL TC TE Spec YSpec R1 Hp.le EnvLe TS TR YS Stays
/-! ## codec: bytes of rows -/
def tB (t : Int) : UInt8 := UInt8.ofNat t.toNat
def keyB (t : Int) (id : Nat) : List UInt8 := tB t :: be 2 id
def vN (v : Int) : Nat := (IntKind.u64.wrap v).toNat
theorem vN_eq (v : Int) : IntKind.u64.wrap v = (vN v : Nat) := by
  have : 0 ≤ IntKind.u64.wrap v := by simp only [IntKind.wrap, IntKind.bits, IntKind.signed, Bool.false_and, Bool.false_eq_true, if_false]; omega
  simp [vN]; omega
theorem vN_lt (v : Int) : vN v < 18446744073709551616 := by
  have : IntKind.u64.wrap v < 18446744073709551616 := by simp only [IntKind.wrap, IntKind.bits, IntKind.signed, Bool.false_and, Bool.false_eq_true, if_false]; omega
  have h := vN_eq v
  omega
def rowB (r : Row) : List UInt8 := keyB r.t r.id ++ (be 8 (vN r.val) ++ (UInt8.ofNat r.note.length :: r.note))
theorem tB_eq {t : Int} (h0 : 0 ≤ t) (h1 : t < 256) : Value.int .u8 t = u8c (tB t) := by
  obtain ⟨n, rfl⟩ : ∃ n : Nat, t = n := ⟨t.toNat, by omega⟩
  simp only [u8c, tB, Int.toNat_natCast, UInt8.toNat_ofNat']
  congr 1
  have e : (2 : Nat) ^ 8 = 256 := by decide
  rw [e]
  omega
theorem key_spec (ρ : Hp) (v : Value) (n : Nat) (l : List UInt8) (sp : List Value) (hown : OwnS v n (l.map u8c) sp 1) (hn : n ≤ 100000) (t : Int) (id : Nat) (h0 : 0 ≤ t) (h3 : t < 256) (hid : id < 65536) :
    Spec Try.prog 77 [v, .agg ⟨keyV t id⟩] ρ [ownC v (l.map u8c) sp 5] (fun r ρ' L' => ρ.le ρ' ∧ ∃ sp', OwnS r (n + 3) ((l ++ keyB t id).map u8c) sp' 1 ∧ L' = [ownC r ((l ++ keyB t id).map u8c) sp' 5]) := by
  have hl : l.length = n := by obtain ⟨_, _, _, h⟩ := hown.len; simpa using h
  refine spec_enter Try.func77 rfl rfl rfl fun u R => ?_
  simp only [argsE, List.cons_append, List.nil_append]
  repeat' (first | (refine i_op ?_; first | (refine i_qq ?_; refine qQ ?_) | refine qEf ?_) | refine tl_nil ?_ | (refine i_tc ?_; refine qTc ?_) | (refine i_te ?_; refine qTe ?_) | intro _)
  rename_i b3
  refine tc_any (Stays _ _ ([[(b3, .cells ⟨keyV t id⟩ 26 (0, 0))]])) (stays_of (Hp.le_refl _)) ?_
  all_goals refine rMv 0 ?_
  all_goals refine rFa 1 ?_
  all_goals refine rLd 2 ?_
  all_goals refine rCv 3 ?_
  all_goals refine rFa 6 ?_
  all_goals refine rLd 7 ?_
  all_goals (refine rStep (i := 4) ?_; ((try refine qWant ?_); (first | (refine tl_buildSlice_s rfl rfl rfl rfl (by simp) rfl rfl (fun _ => ?_); simp only [tB_eq h0 h3]) | (refine qEf ?_; try intro _)) <;> ((try simp only [List.cons_append, List.nil_append, List.append_eq]); refine tl_nil ?_; refine rNext ?_)))
  all_goals (refine rStep (i := 5) ?_; ((try refine qWant ?_); (first | (refine tl_app (ys := [u8c (tB t)]) (m := 1) rfl rfl hown (hR := by infer_instance) SrcV.lit rfl rfl (by decide) rfl (by omega) (by omega) rfl (fun v' sp' hown' => ?_); rw [show l.map u8c ++ [u8c (tB t)] = (l ++ [tB t]).map u8c by simp] at hown' ⊢; refine tl_freeze _ (h := Rem.here) (fun ρ2 hle2 hfz => ?_); obtain ⟨a', c', rfl, hc', hs⟩ := hown'.sIn hfz) | (refine qEf ?_; try intro _)) <;> ((try simp only [List.cons_append, List.nil_append, List.append_eq]); refine tl_nil ?_; refine rNext ?_)))
  all_goals (refine rStep (i := 8) ?_; ((try refine qWant ?_); (first | (refine tl_is (.func 147) ?_; refine qC rfl rfl (put16_spec _ a' _ c' _ hs id hid (by omega)) ?_; rintro v ρ' L' hle ⟨rfl, sp2, hown2, rfl⟩ <;> (try simp only [List.cons_append, List.nil_append, List.append_eq])) | (refine qEf ?_; try intro _)) <;> ((try simp only [List.cons_append, List.nil_append, List.append_eq]); refine tl_nil ?_; refine rNext ?_)))
  all_goals refine rFull ?_
  all_goals refine rAs 9 ?_
  all_goals refine rDone ?_
  have e : l ++ [tB t] ++ be 2 id = l ++ keyB t id := by rw [List.append_assoc]; rfl
  rw [e] at hown2 ⊢
  repeat' (first | (refine i_op ?_; first | (refine i_qq ?_; refine qQ ?_) | refine qEf ?_) | refine tl_nil ?_ | (refine i_tc ?_; refine qTc ?_) | (refine i_te ?_; refine qTe ?_) | intro _)
  exact qE ⟨hle2, sp2, hown2, rfl⟩
theorem rowOk_iff {r : Row} (h : rowOk r = true) : 0 ≤ r.t ∧ r.t < 3 ∧ r.note.length ≤ 8 := by
  have := of_decide_eq_true h
  exact ⟨this.1.1, this.1.2, this.2⟩
theorem lenB {n : Nat} (h : n ≤ 200) : Value.int .u8 (n : Int) = u8c (UInt8.ofNat n) := by
  simp only [u8c, UInt8.toNat_ofNat']
  congr 1
  have e : (2 : Nat) ^ 8 = 256 := by decide
  rw [e]
  omega
theorem laid_spec (ρ : Hp) (v : Value) (n : Nat) (l : List UInt8) (sp : List Value) (hown : OwnS v n (l.map u8c) sp 1) (hn : n ≤ 1000) (r : Row) (hr : rowOk r = true) (hid : r.id < 65536) :
    Spec Try.prog 74 [v, .agg ⟨rowV r⟩] ρ [ownC v (l.map u8c) sp 5] (fun q ρ' L' => ρ.le ρ' ∧ ∃ sp', OwnS q (n + (rowB r).length) ((l ++ rowB r).map u8c) sp' 1 ∧ L' = [ownC q ((l ++ rowB r).map u8c) sp' 5]) := by
  obtain ⟨h0, h3, h8⟩ := rowOk_iff hr
  have hl : l.length = n := by obtain ⟨_, _, _, h⟩ := hown.len; simpa using h
  have hvl := vN_lt r.val
  have hkb : (keyB r.t r.id).length = 3 := by simp [keyB, be_length]
  have hlb := lenB (n := r.note.length) (by omega)
  refine spec_enter Try.func74 rfl rfl rfl fun u R => ?_
  simp only [argsE, List.cons_append, List.nil_append]
  repeat' (first | (refine i_op ?_; first | (refine i_qq ?_; refine qQ ?_) | refine qEf ?_) | refine tl_nil ?_ | (refine i_tc ?_; refine qTc ?_) | (refine i_te ?_; refine qTe ?_) | intro _)
  rename_i b3
  refine tc_any (Stays _ _ ([[(b3, .cells ⟨rowV r⟩ 28 (0, 0))]])) (stays_of (Hp.le_refl _)) ?_
  all_goals refine rMv 0 ?_
  all_goals refine rFa 1 ?_
  all_goals refine rLd 2 ?_
  all_goals refine rFa 4 ?_
  all_goals refine rLd 5 ?_
  all_goals refine rCv 6 ?_
  all_goals (refine rStep (i := 3) ?_; ((try refine qWant ?_); (first | (simp only [vN_eq]; refine tl_is (.func 77) ?_; refine qC rfl rfl (key_spec _ v n l sp hown (by omega) r.t r.id h0 (by omega) hid) ?_; rintro v1 ρ1 L1 hle0 ⟨hle1, sp1, hown1, rfl⟩; simp only [List.cons_append, List.nil_append]; refine tl_freeze _ (h := Rem.here) (fun ρ2 hle2 hfz => ?_); obtain ⟨a1, c1, rfl, hc1, hs1⟩ := hown1.sIn hfz) | (refine qEf ?_; try intro _)) <;> ((try simp only [List.cons_append, List.nil_append, List.append_eq]); refine tl_nil ?_; refine rNext ?_)))
  all_goals (refine rStep (i := 7) ?_; ((try refine qWant ?_); (first | (refine tl_is (.func 144) ?_; refine qC rfl rfl (put64_spec _ a1 _ c1 _ hs1 (vN r.val) hvl (by omega)) ?_; rintro v ρ' L' hle ⟨rfl, sp3, hown3, rfl⟩ <;> (try simp only [List.cons_append, List.nil_append, List.append_eq])) | (refine qEf ?_; try intro _)) <;> ((try simp only [List.cons_append, List.nil_append, List.append_eq]); refine tl_nil ?_; refine rNext ?_)))
  all_goals refine rFull ?_
  all_goals refine rAs 8 ?_
  all_goals refine rDone ?_
  repeat' (first | (refine i_op ?_; first | (refine i_qq ?_; refine qQ ?_) | refine qEf ?_) | refine tl_nil ?_ | (refine i_tc ?_; refine qTc ?_) | (refine i_te ?_; refine qTe ?_) | intro _)
  refine tc_any (Stays _ _ ([[(b3, .cells ⟨rowV r⟩ 28 (0, 0))]])) (stays_of (Hp.le_refl _)) ?_
  all_goals refine rMv 0 ?_
  all_goals refine rFa 1 ?_
  all_goals refine rLd 2 ?_
  all_goals refine rBi 3 ?_
  all_goals refine rCv 4 ?_
  all_goals refine rFa 7 ?_
  all_goals refine rLd 8 ?_
  all_goals (refine rStep (i := 5) ?_; ((try refine qWant ?_); (first | (refine tl_buildSlice_s rfl rfl rfl rfl (by simp) rfl rfl (fun _ => ?_); simp only [hlb]) | (refine qEf ?_; try intro _)) <;> ((try simp only [List.cons_append, List.nil_append, List.append_eq]); refine tl_nil ?_; refine rNext ?_)))
  all_goals (refine rStep (i := 6) ?_; ((try refine qWant ?_); (first | (refine tl_app (ys := [u8c (UInt8.ofNat r.note.length)]) (m := 1) rfl rfl hown3 (hR := by infer_instance) SrcV.lit rfl rfl (by decide) rfl (by omega) (by omega) rfl (fun v4 sp4 hown4 => ?_)) | (refine tl_app_str (l := r.note) rfl rfl hown4 (hR := by infer_instance) (by omega) rfl (fun v5 sp5 hown5 => ?_)) | (refine qEf ?_; try intro _)) <;> ((try simp only [List.cons_append, List.nil_append, List.append_eq]); refine tl_nil ?_; refine rNext ?_)))
  all_goals (refine rStep (i := 9) ?_; ((try refine qWant ?_); (first | (refine tl_app (ys := [u8c (UInt8.ofNat r.note.length)]) (m := 1) rfl rfl hown3 (hR := by infer_instance) SrcV.lit rfl rfl (by decide) rfl (by omega) (by omega) rfl (fun v4 sp4 hown4 => ?_)) | (refine tl_app_str (l := r.note) rfl rfl hown4 (hR := by infer_instance) (by omega) rfl (fun v5 sp5 hown5 => ?_)) | (refine qEf ?_; try intro _)) <;> ((try simp only [List.cons_append, List.nil_append, List.append_eq]); refine tl_nil ?_; refine rNext ?_)))
  all_goals refine rFull ?_
  all_goals refine rAs 10 ?_
  all_goals refine rDone ?_
  have e : (l ++ keyB r.t r.id ++ be 8 (vN r.val)).map u8c ++ [u8c (UInt8.ofNat r.note.length)] ++ r.note.map u8c = (l ++ rowB r).map u8c := by simp [rowB]
  have e2 : n + 3 + 8 + 1 + r.note.length = n + (rowB r).length := by simp [rowB, hkb, be_length]; omega
  rw [e] at hown5 ⊢
  rw [e2] at hown5
  repeat' (first | (refine i_op ?_; first | (refine i_qq ?_; refine qQ ?_) | refine qEf ?_) | refine tl_nil ?_ | (refine i_tc ?_; refine qTc ?_) | (refine i_te ?_; refine qTe ?_) | intro _)
  exact qE ⟨Hp.le_trans hle1 hle2, sp5, hown5, rfl⟩
theorem rowE_spec (ρ : Hp) (r : Row) (hid : r.id < 65536) :
    Spec Try.prog 17 [.agg ⟨rowV r⟩] ρ [] (fun v ρ' L' => ρ.le ρ' ∧ ∃ a n c, v = .tuple ⟨[.slice a n c, .int .i64 (if rowOk r then 0 else 151)]⟩ ∧ n ≤ c ∧ SIn ρ' u8c a n (if rowOk r then rowB r else []) ∧ L' = []) := by
  have hck := fun ρ => checkRow_spec ρ r
  refine spec_enter Try.func17 rfl rfl rfl fun u R => ?_
  simp only [argsE, List.cons_append, List.nil_append]
  cases hok : rowOk r
  · simp only [hok, Bool.false_eq_true, if_false] at hck ⊢
    repeat' (first | (refine tl_is (.func 37) ?_; refine qC rfl rfl (hck _) ?_; rintro v ρ' L' hle ⟨rfl, rfl, rfl⟩ <;> (try simp only [List.cons_append, List.nil_append, List.append_eq])) | (refine i_op ?_; first | (refine i_qq ?_; refine qQ ?_) | refine qEf ?_) | refine tl_nil ?_ | (refine i_tc ?_; refine qTc ?_) | (refine i_te ?_; refine qTe ?_) | intro _)
    exact qE ⟨Hp.le_refl _, none, 0, 0, rfl, Nat.le_refl _, SIn.nil, rfl⟩
  · simp only [hok, if_true] at hck ⊢
    repeat' (first | (refine tl_is (.func 37) ?_; refine qC rfl rfl (hck _) ?_; rintro v ρ' L' hle ⟨rfl, rfl, rfl⟩ <;> (try simp only [List.cons_append, List.nil_append, List.append_eq])) | (refine tl_is (.func 74) ?_; refine tl_call rfl rfl (laid_spec _ (.slice none 0 0) 0 [] [] (OwnS.nil 1) (by omega) r hok hid) (take_cons' rem_nil' take_nil') rfl ?_; rintro v1 ρ1 L1 hle0 ⟨hle1, sp1, hown1, rfl⟩; simp only [List.cons_append, List.nil_append, Nat.zero_add] at hown1 ⊢; refine tl_freeze _ (h := Rem.here) (fun ρ2 hle2 hfz => ?_); obtain ⟨a1, c1, rfl, hc1, hs1⟩ := hown1.sIn hfz) | (refine i_op ?_; first | (refine i_qq ?_; refine qQ ?_) | refine qEf ?_) | refine tl_nil ?_ | (refine i_tc ?_; refine qTc ?_) | (refine i_te ?_; refine qTe ?_) | intro _)
    exact qE ⟨Hp.le_trans hle1 hle2, a1, _, c1, rfl, hc1, hs1, rfl⟩
end Go.Proofs.E

namespace Go.Proofs.E
open Go
set_option linter.unusedVariables false
set_option linter.unusedSimpArgs false
set_option linter.unusedSectionVars false
set_option maxRecDepth 4000
set_option maxHeartbeats 1000000
attribute [local irreducible] Yl TL TC TE Spec YSpec R1 Hp.le EnvLe TS TR YS Stays
def kidB (k : Kid) : List UInt8 := keyB k.t k.id ++ [tB k.page]
def cntB (c : Cont) : List UInt8 := if c.kind = 0 then [] else [UInt8.ofNat (c.rows.length + c.kids.length)]
def contB (c : Cont) : List UInt8 := tB c.kind :: cntB c ++ (c.rows.flatMap rowB ++ c.kids.flatMap kidB)
theorem risesB_true {α : Type} {most : Nat} {right : Nat → α → Bool} {lt : α → α → Bool} {l : List α} : ∀ {k : Nat}, risesB most right lt l k = true → k ≤ l.length → l.length ≤ most ∧ ∀ i (h : i < l.length), i < k → right i l[i] = true ∧ (i = 0 ∨ lt (l[i - 1]'(by omega)) l[i] = true)
  | 0, h, _ => ⟨of_decide_eq_true h, fun i _ hi => by omega⟩
  | k + 1, h, hk => by
    rw [risesB_succ (show k < l.length by omega), Bool.and_eq_true, Bool.and_eq_true] at h
    obtain ⟨h1, h2, h3⟩ := h
    obtain ⟨g1, g2⟩ := risesB_true h1 (by omega)
    refine ⟨g1, fun i hi hik => ?_⟩
    by_cases e : i < k
    · exact g2 i hi e
    · have : i = k := by omega
      subst this
      refine ⟨h2, ?_⟩
      simpa using h3
structure ContOk (c : Cont) : Prop where
  kind : c.kind = 0 ∧ c.rows = [] ∧ c.kids = [] ∨ c.kind = 1 ∧ c.kids = [] ∨ c.kind = 2 ∧ c.rows = [] ∧ 1 < c.kids.length
  rl : c.rows.length ≤ 4
  kl : c.kids.length ≤ 4
  row : ∀ r ∈ c.rows, rowOk r = true
  kid : ∀ k ∈ c.kids, (0 ≤ k.t ∧ k.t < 3) ∧ 0 < k.page ∧ k.page < 64
theorem contOk_facts {c : Cont} (h : contOk c = true) : ContOk c := by
  obtain ⟨kind, rows, kids⟩ := c
  unfold contOk at h
  dsimp only at h
  split at h
  · rename_i hk
    have hz := of_decide_eq_true h
    have h1 : rows = [] := List.eq_nil_of_length_eq_zero (by omega)
    have h2 : kids = [] := List.eq_nil_of_length_eq_zero (by omega)
    subst h1; subst h2
    exact ⟨.inl ⟨hk, rfl, rfl⟩, by simp, by simp, by simp, by simp⟩
  · split at h
    · rename_i hk
      rw [Bool.and_eq_true] at h
      have h2 : kids = [] := List.eq_nil_of_length_eq_zero (of_decide_eq_true h.1)
      subst h2
      obtain ⟨g1, g2⟩ := risesB_true h.2 (Nat.le_refl _)
      refine ⟨.inr (.inl ⟨hk, rfl⟩), g1, by simp, fun r hr => ?_, by simp⟩
      obtain ⟨i, hi, rfl⟩ := List.mem_iff_getElem.1 hr
      exact (g2 i hi hi).1
    · split at h
      · rename_i hk
        rw [Bool.and_eq_true, Bool.and_eq_true] at h
        have h1 : rows = [] := List.eq_nil_of_length_eq_zero (of_decide_eq_true h.1)
        subst h1
        obtain ⟨g1, g2⟩ := risesB_true h.2.2 (Nat.le_refl _)
        refine ⟨.inr (.inr ⟨hk, rfl, of_decide_eq_true h.2.1⟩), by simp, g1, by simp, fun k hk => ?_⟩
        obtain ⟨i, hi, rfl⟩ := List.mem_iff_getElem.1 hk
        have := of_decide_eq_true (g2 i hi hi).1
        exact ⟨this.2.2.2.1, this.2.1, this.2.2.1⟩
      · cases h
theorem rowB_len {r : Row} (h : rowOk r = true) : (rowB r).length = 12 + r.note.length := by simp [rowB, keyB, be_length]; omega
theorem rowB_le {r : Row} (h : rowOk r = true) : (rowB r).length ≤ 20 := by rw [rowB_len h]; have := (rowOk_iff h).2.2; omega
theorem kidB_len (k : Kid) : (kidB k).length = 4 := by simp [kidB, keyB, be_length]
theorem flatMap_le {α : Type} (f : α → List UInt8) (m : Nat) : ∀ (l : List α), (∀ x ∈ l, (f x).length ≤ m) → (l.flatMap f).length ≤ l.length * m
  | [], _ => by simp
  | x :: r, h => by
    have h1 := h x (by simp)
    have ih := flatMap_le f m r (fun y hy => h y (by simp [hy]))
    simp only [List.flatMap_cons, List.length_append, List.length_cons, Nat.add_mul]; omega
theorem flatMap_take_succ {α : Type} (f : α → List UInt8) (l : List α) (k : Nat) (h : k < l.length) : (l.take (k + 1)).flatMap f = (l.take k).flatMap f ++ f l[k] := by
  rw [List.take_succ_eq_append_getElem h, List.flatMap_append]; simp
theorem contE_spec (ρ : Hp) (w : CV) (c : Cont) (h : CIn ρ w c.rows c.kids) (hir : ∀ r ∈ c.rows, r.id < 65536) (hik : ∀ k ∈ c.kids, k.id < 65536) :
    Spec Try.prog 20 [.agg ⟨contV c.kind w⟩] ρ [] (fun v ρ' L' => ρ.le ρ' ∧ ∃ a n c', v = .tuple ⟨[.slice a n c', .int .i64 (if contOk c then 0 else 160)]⟩ ∧ n ≤ c' ∧ SIn ρ' u8c a n (if contOk c then contB c else []) ∧ L' = []) := by
  have hck := fun ρ h => check_spec ρ w c h
  refine spec_enter Try.func20 rfl rfl rfl fun u R => ?_
  simp only [argsE, List.cons_append, List.nil_append]
  cases hok : contOk c
  · simp only [hok, Bool.false_eq_true, if_false] at hck ⊢
    repeat' (first | (refine tl_is (.func 31) ?_; refine qC rfl rfl (hck _ h) ?_; rintro v ρ' L' hle ⟨rfl, rfl, rfl⟩ <;> (try simp only [List.cons_append, List.nil_append, List.append_eq])) | (refine i_op ?_; first | (refine i_qq ?_; refine qQ ?_) | refine qEf ?_) | refine tl_nil ?_ | (refine i_tc ?_; refine qTc ?_) | (refine i_te ?_; refine qTe ?_) | intro _)
    exact qE ⟨Hp.le_refl _, none, 0, 0, rfl, Nat.le_refl _, SIn.nil, rfl⟩
  · simp only [hok, if_true] at hck ⊢
    obtain ⟨hkind, hrl, hkl, hrow, hkid⟩ := contOk_facts hok
    have hk03 : 0 ≤ c.kind ∧ c.kind < 3 := by omega
    obtain ⟨kind, rows, kids⟩ := c
    obtain ⟨ra, rn, rc, ka, kn, kc⟩ := w
    obtain ⟨hr, hk, hrb, hkb, hrc, hkc⟩ := h
    dsimp only at hrc hkc hr hk hrb hkb hrow hkid hrl hkl hk03 hir hik ⊢
    have hrn := hr.len
    have hkn := hk.len
    have hcnt := lenB (n := rn + kn) (by omega)
    have hkB := tB_eq (t := kind) (by omega) (by omega)
    dsimp only [contV] at hck ⊢
    by_cases hk0 : kind = 0
    · obtain ⟨B0, hB0⟩ : ∃ B0, tB kind :: cntB ⟨kind, rows, kids⟩ = B0 := ⟨_, rfl⟩
      have hX : B0 = [tB kind] := by rw [← hB0]; simp [cntB, hk0]
      have hBl : B0.length ≤ 2 := by rw [hX]; simp
      repeat' (first | (refine tl_is (.func 31) ?_; refine qC rfl rfl (hck _ ⟨hr, hk, hrb, hkb, hrc, hkc⟩) ?_; rintro v ρ' L' hle ⟨rfl, rfl, rfl⟩ <;> (try simp only [List.cons_append, List.nil_append, List.append_eq])) | (refine tl_buildSlice_s rfl rfl rfl rfl (by simp) rfl rfl (fun _ => ?_); simp only [hkB]) | (refine i_op ?_; first | (refine i_qq ?_; refine qQ ?_) | refine qEf ?_) | refine tl_nil ?_ | (refine i_tc ?_; refine qTc ?_) | (refine i_te ?_; refine qTe ?_) | intro _)
      rename_i b1 b2
      rw [show [u8c (tB kind)] = B0.map u8c by rw [hX]; rfl, own_chunk b2 1 1]
      have hown0 : OwnS (.slice (some ⟨b2, 0, none⟩) 1 1) B0.length (B0.map u8c) [] 1 := ⟨.inr ⟨b2, 1, by rw [hX]; rfl, by simp, by simp [hX], by simp [hX]⟩⟩
      generalize Value.slice (some ⟨b2, 0, none⟩) 1 1 = v0 at *
      rw [show B0.map u8c = (B0 ++ (rows.take 0).flatMap rowB).map u8c by simp]
      refine tc_loop_g [(1, _), (2, _), (3, _), (34, _), (35, _)] (fun (ζ : (Nat) × (Hp) × (Value) × (List Value)) => [(36, .int .i64 ζ.1), (5, ζ.2.2.1)]) (fun (ζ : (Nat) × (Hp) × (Value) × (List Value)) => ζ.2.1) (fun (ζ : (Nat) × (Hp) × (Value) × (List Value)) => [ownC ζ.2.2.1 ((B0 ++ (rows.take ζ.1).flatMap rowB).map u8c) ζ.2.2.2 5, [(b1, .cells ⟨[.int .i64 kind, .slice ra rn rc, .slice ka kn kc]⟩ 38 (0, 0))]]) (fun (ζ : (Nat) × (Hp) × (Value) × (List Value)) => ζ.1 ≤ rn ∧ ρ'.le ζ.2.1 ∧ OwnS ζ.2.2.1 (B0 ++ (rows.take ζ.1).flatMap rowB).length ((B0 ++ (rows.take ζ.1).flatMap rowB).map u8c) ζ.2.2.2 1) (fun (ζ : (Nat) × (Hp) × (Value) × (List Value)) => rn - ζ.1) ((0, ρ', v0, [])) (⟨Nat.zero_le _, Hp.le_refl _, by simpa using hown0⟩) ev_le ev_le rfl tk ?_
      rintro ⟨k, ρ1, v, sp⟩ hI
      try simp only [List.cons_append, List.nil_append, List.append_assoc, List.append_eq] at hI ⊢
      try dsimp only at hI ⊢
      obtain ⟨hkn0, hle1, hown⟩ := hI
      by_cases hlt : k < rn
      · obtain ⟨b, off, C, T, fr, rfl, hb, hfit, hc⟩ := (hr.mono hle1).get (show k < rows.length by omega)
        have hmem : rows[k]'(by omega) ∈ rows := List.getElem_mem _
        have hro := hrow _ hmem
        have hid := hir _ hmem
        have hts := flatMap_take_succ rowB rows k (by omega)
        have hfl := flatMap_le rowB 20 (rows.take k) (fun x hx => rowB_le (hrow x (List.mem_of_mem_take hx)))
        have htl : (rows.take k).length ≤ 4 := by simp; omega
        have hXl : (B0 ++ (rows.take k).flatMap rowB).length ≤ 100 := by simp only [List.length_append]; omega
        have hll : (B0 ++ (rows.take k).flatMap rowB).length + (rowB (rows[k]'(by omega))).length = (B0 ++ (rows.take (k + 1)).flatMap rowB).length := by rw [hts]; simp; omega
        have hmm : B0 ++ (rows.take k).flatMap rowB ++ rowB (rows[k]'(by omega)) = B0 ++ (rows.take (k + 1)).flatMap rowB := by rw [hts]; simp
        generalize rows[k]'(by omega) = x at *
        repeat' (first | (refine tl_is (.func 74) ?_; refine qC rfl rfl (laid_spec _ v _ _ sp hown (by omega) x hro hid) ?_; rintro v2 ρ2 L2 hle0 ⟨hle2, sp2, hown2, rfl⟩; simp only [List.cons_append, List.nil_append, hmm]; rw [hmm, hll] at hown2) | (refine i_op ?_; first | (refine i_qq ?_; refine qQ ?_) | refine qEf ?_) | refine tl_nil ?_ | (refine i_tc ?_; refine qTc ?_) | (refine i_te ?_; refine qTe ?_) | intro _)
        refine te_round_g (k + 1, _, v2, sp2) (⟨hlt, Hp.le_trans hle1 hle2, hown2⟩) ev_le ev_le rfl tk inferInstance (by first | omega | (dsimp only; omega))
      · have hk2 : k = rn := by omega
        subst hk2
        rw [List.take_of_length_le (by omega)] at hown ⊢
        repeat' (first | (refine i_op ?_; first | (refine i_qq ?_; refine qQ ?_) | refine qEf ?_) | refine tl_nil ?_ | (refine i_tc ?_; refine qTc ?_) | (refine i_te ?_; refine qTe ?_) | intro _)
        rw [show (B0 ++ rows.flatMap rowB).map u8c = (B0 ++ (rows.flatMap rowB ++ (kids.take 0).flatMap kidB)).map u8c by simp]
        refine tc_loop_g [(2, _), (3, _), (45, _), (46, _)] (fun (ζ : (Nat) × (Hp) × (Value) × (List Value)) => [(47, .int .i64 ζ.1), (5, ζ.2.2.1)]) (fun (ζ : (Nat) × (Hp) × (Value) × (List Value)) => ζ.2.1) (fun (ζ : (Nat) × (Hp) × (Value) × (List Value)) => [ownC ζ.2.2.1 ((B0 ++ (rows.flatMap rowB ++ (kids.take ζ.1).flatMap kidB)).map u8c) ζ.2.2.2 5]) (fun (ζ : (Nat) × (Hp) × (Value) × (List Value)) => ζ.1 ≤ kn ∧ ρ1.le ζ.2.1 ∧ OwnS ζ.2.2.1 (B0 ++ (rows.flatMap rowB ++ (kids.take ζ.1).flatMap kidB)).length ((B0 ++ (rows.flatMap rowB ++ (kids.take ζ.1).flatMap kidB)).map u8c) ζ.2.2.2 1) (fun (ζ : (Nat) × (Hp) × (Value) × (List Value)) => kn - ζ.1) ((0, ρ1, v, sp)) (⟨Nat.zero_le _, Hp.le_refl _, by simpa using hown⟩) ev_le ev_le rfl tk ?_
        rintro ⟨j, ρ2, v, sp⟩ hI
        try simp only [List.cons_append, List.nil_append, List.append_assoc, List.append_eq] at hI ⊢
        try dsimp only at hI ⊢
        have hfl := flatMap_le rowB 20 rows (fun x hx => rowB_le (hrow x hx))
        obtain ⟨hj0, hle3, hown3⟩ := hI
        by_cases hlj : j < kn
        · obtain ⟨b, off, C, T, fr, rfl, hb, hfit, hc⟩ := (hk.mono (Hp.le_trans hle1 hle3)).get (show j < kids.length by omega)
          have hmem : kids[j]'(by omega) ∈ kids := List.getElem_mem _
          have hko := hkid _ hmem
          have hid := hik _ hmem
          have hts := flatMap_take_succ kidB kids j (by omega)
          have hfk := flatMap_le kidB 4 (kids.take j) (fun x hx => Nat.le_of_eq (kidB_len x))
          have htl : (kids.take j).length ≤ 4 := by simp; omega
          have hXl : (B0 ++ (rows.flatMap rowB ++ (kids.take j).flatMap kidB)).length ≤ 200 := by simp only [List.length_append]; omega
          have hmm : B0 ++ (rows.flatMap rowB ++ (kids.take j).flatMap kidB) ++ keyB (kids[j]'(by omega)).t (kids[j]'(by omega)).id ++ [tB (kids[j]'(by omega)).page] = B0 ++ (rows.flatMap rowB ++ (kids.take (j + 1)).flatMap kidB) := by rw [hts]; simp [kidB]
          have hll : (B0 ++ (rows.flatMap rowB ++ (kids.take j).flatMap kidB)).length + 3 + 1 = (B0 ++ (rows.flatMap rowB ++ (kids.take (j + 1)).flatMap kidB)).length := by rw [hts]; simp [kidB_len]; omega
          have hpg := tB_eq (t := (kids[j]'(by omega)).page) (by omega) (by omega)
          generalize kids[j]'(by omega) = x at *
          generalize hX : B0 ++ (rows.flatMap rowB ++ (kids.take j).flatMap kidB) = X at *
          repeat' (first | (refine i_op ?_; first | (refine i_qq ?_; refine qQ ?_) | refine qEf ?_) | refine tl_nil ?_ | (refine i_tc ?_; refine qTc ?_) | (refine i_te ?_; refine qTe ?_) | intro _)
          rename_i b9
          refine tc_any (Stays _ _ ([[(b9, .cells ⟨kidV x⟩ 134 (0, 0))]])) (stays_of (Hp.le_refl _)) ?_
          all_goals refine rMv 0 ?_
          all_goals refine rFa 1 ?_
          all_goals refine rLd 2 ?_
          all_goals refine rFa 4 ?_
          all_goals refine rLd 5 ?_
          all_goals refine rCv 6 ?_
          all_goals (refine rStep2 (i := 3) (j := 7) ?_ ?_ <;> ((try refine qWant ?_); (first | (refine tl_is (.func 77) ?_; refine qC rfl rfl (key_spec _ v _ X sp hown3 (by omega) x.t x.id hko.1.1 (by omega) hid) ?_; rintro v2 ρ4 L2 hle0 ⟨hle4, sp4, hown4, rfl⟩; simp only [List.cons_append, List.nil_append]) | (refine tl_buildSlice_s rfl rfl rfl rfl (by simp) rfl rfl (fun _ => ?_); simp only [hpg]) | (refine qEf ?_; try intro _)) <;> ((try simp only [List.cons_append, List.nil_append, List.append_eq]); refine tl_nil ?_; refine rNext ?_)))
          all_goals (first | (refine rStep (i := 7) ?_; ((try refine qWant ?_); (first | (refine tl_buildSlice_s rfl rfl rfl rfl (by simp) rfl rfl (fun _ => ?_); simp only [hpg]) | (refine qEf ?_; try intro _)) <;> ((try simp only [List.cons_append, List.nil_append, List.append_eq]); refine tl_nil ?_; refine rNext ?_))) | (refine rStep (i := 3) ?_; ((try refine qWant ?_); (first | (refine tl_is (.func 77) ?_; refine qC rfl rfl (key_spec _ v _ X sp hown3 (by omega) x.t x.id hko.1.1 (by omega) hid) ?_; rintro v2 ρ4 L2 hle0 ⟨hle4, sp4, hown4, rfl⟩; simp only [List.cons_append, List.nil_append]) | (refine qEf ?_; try intro _)) <;> ((try simp only [List.cons_append, List.nil_append, List.append_eq]); refine tl_nil ?_; refine rNext ?_))))
          all_goals (refine rStep (i := 8) ?_; ((try refine qWant ?_); (first | (refine tl_is (.func 77) ?_; refine qC rfl rfl (key_spec _ v _ X sp hown3 (by omega) x.t x.id hko.1.1 (by omega) hid) ?_; rintro v2 ρ4 L2 hle0 ⟨hle4, sp4, hown4, rfl⟩; simp only [List.cons_append, List.nil_append]) | (refine tl_app (ys := [u8c (tB x.page)]) (m := 1) rfl rfl hown4 (hR := by infer_instance) SrcV.lit rfl rfl (by decide) rfl (by omega) (by omega) rfl (fun v5 sp5 hown5 => ?_); rw [show (X ++ keyB x.t x.id).map u8c ++ [u8c (tB x.page)] = (X ++ keyB x.t x.id ++ [tB x.page]).map u8c by simp, hmm] at hown5 ⊢; rw [hll] at hown5) | (refine qEf ?_; try intro _)) <;> ((try simp only [List.cons_append, List.nil_append, List.append_eq]); refine tl_nil ?_; refine rNext ?_)))
          all_goals refine rFull ?_
          all_goals refine rAs 9 ?_
          all_goals refine rDone ?_
          all_goals (repeat' (first | (refine i_op ?_; first | (refine i_qq ?_; refine qQ ?_) | refine qEf ?_) | refine tl_nil ?_ | (refine i_tc ?_; refine qTc ?_) | (refine i_te ?_; refine qTe ?_) | intro _))
          all_goals refine te_round_g (j + 1, _, v5, sp5) (⟨hlj, Hp.le_trans hle3 (by assumption), hown5⟩) ev_le ev_le rfl tk inferInstance (by first | omega | (dsimp only; omega))
        · have hj2 : j = kn := by omega
          subst hj2
          rw [List.take_of_length_le (by omega)] at hown3 ⊢
          have hfin : B0 ++ (rows.flatMap rowB ++ kids.flatMap kidB) = contB ⟨kind, rows, kids⟩ := by rw [← hB0]; simp [contB]
          rw [hfin] at hown3 ⊢
          repeat' (first | (refine i_op ?_; first | (refine i_qq ?_; refine qQ ?_) | refine qEf ?_) | refine tl_nil ?_ | (refine i_tc ?_; refine qTc ?_) | (refine i_te ?_; refine qTe ?_) | intro _)
          refine te_freeze _ (h := Rem.here) (fun ρ6 hle6 hfz => ?_)
          obtain ⟨a6, c6, rfl, hc6, hs6⟩ := hown3.sIn hfz
          exact qE ⟨Hp.le_trans hle1 (Hp.le_trans hle3 hle6), a6, _, c6, rfl, hc6, hs6, rfl⟩
    · obtain ⟨B0, hB0⟩ : ∃ B0, tB kind :: cntB ⟨kind, rows, kids⟩ = B0 := ⟨_, rfl⟩
      have hX : B0 = [tB kind] ++ [UInt8.ofNat (rn + kn)] := by rw [← hB0]; simp [cntB, hk0, hrn, hkn]
      have hBl : B0.length ≤ 2 := by rw [hX]; simp
      have hcnt' : Value.int .u8 ((rn : Int) + (kn : Int)) = u8c (UInt8.ofNat (rn + kn)) := by rw [← hcnt]; simp
      repeat' (first | (refine tl_is (.func 31) ?_; refine qC rfl rfl (hck _ ⟨hr, hk, hrb, hkb, hrc, hkc⟩) ?_; rintro v ρ' L' hle ⟨rfl, rfl, rfl⟩ <;> (try simp only [List.cons_append, List.nil_append, List.append_eq])) | (refine tl_buildSlice_s rfl rfl rfl rfl (by simp) rfl rfl (fun _ => ?_); first | simp only [hkB] | simp only [hcnt']) | (refine i_op ?_; first | (refine i_qq ?_; refine qQ ?_) | refine qEf ?_) | refine tl_nil ?_ | (refine i_tc ?_; refine qTc ?_) | (refine i_te ?_; refine qTe ?_) | intro _)
      rename_i b1 b2 b3
      rw [show ([(b2, Obj.cells ⟨[u8c (tB kind)]⟩ 5 (0, 0))] : List (Nat × Obj)) = ownC (.slice (some ⟨b2, 0, none⟩) 1 1) ([tB kind].map u8c) [] 5 from rfl]
      refine tl_app (ys := [u8c (UInt8.ofNat (rn + kn))]) (m := 1) (n := 1) (xs := [tB kind].map u8c) (sp := []) rfl rfl ⟨.inr ⟨b2, 1, rfl, rfl, rfl, Nat.le_refl _⟩⟩ (hR := by infer_instance) SrcV.lit rfl rfl (by decide) rfl (by omega) (by omega) rfl (fun v0 sp0 hown0 => ?_)
      rw [show [tB kind].map u8c ++ [u8c (UInt8.ofNat (rn + kn))] = B0.map u8c by rw [hX]; rfl] at hown0 ⊢
      replace hown0 : OwnS v0 B0.length (B0.map u8c) sp0 1 := by
        have e : B0.length = 1 + 1 := by rw [hX]; rfl
        rw [e]; exact hown0
      repeat' (first | (refine i_op ?_; first | (refine i_qq ?_; refine qQ ?_) | refine qEf ?_) | refine tl_nil ?_ | (refine i_tc ?_; refine qTc ?_) | (refine i_te ?_; refine qTe ?_) | intro _)
      rw [show B0.map u8c = (B0 ++ (rows.take 0).flatMap rowB).map u8c by simp]
      refine tc_loop_g [(1, _), (2, _), (3, _), (34, _), (35, _)] (fun (ζ : (Nat) × (Hp) × (Value) × (List Value)) => [(36, .int .i64 ζ.1), (5, ζ.2.2.1)]) (fun (ζ : (Nat) × (Hp) × (Value) × (List Value)) => ζ.2.1) (fun (ζ : (Nat) × (Hp) × (Value) × (List Value)) => [ownC ζ.2.2.1 ((B0 ++ (rows.take ζ.1).flatMap rowB).map u8c) ζ.2.2.2 5, [(b1, .cells ⟨[.int .i64 kind, .slice ra rn rc, .slice ka kn kc]⟩ 38 (0, 0))]]) (fun (ζ : (Nat) × (Hp) × (Value) × (List Value)) => ζ.1 ≤ rn ∧ ρ'.le ζ.2.1 ∧ OwnS ζ.2.2.1 (B0 ++ (rows.take ζ.1).flatMap rowB).length ((B0 ++ (rows.take ζ.1).flatMap rowB).map u8c) ζ.2.2.2 1) (fun (ζ : (Nat) × (Hp) × (Value) × (List Value)) => rn - ζ.1) ((0, ρ', v0, sp0)) (⟨Nat.zero_le _, Hp.le_refl _, by simpa using hown0⟩) ev_le ev_le rfl tk ?_
      rintro ⟨k, ρ1, v, sp⟩ hI
      try simp only [List.cons_append, List.nil_append, List.append_assoc, List.append_eq] at hI ⊢
      try dsimp only at hI ⊢
      obtain ⟨hkn0, hle1, hown⟩ := hI
      by_cases hlt : k < rn
      · obtain ⟨b, off, C, T, fr, rfl, hb, hfit, hc⟩ := (hr.mono hle1).get (show k < rows.length by omega)
        have hmem : rows[k]'(by omega) ∈ rows := List.getElem_mem _
        have hro := hrow _ hmem
        have hid := hir _ hmem
        have hts := flatMap_take_succ rowB rows k (by omega)
        have hfl := flatMap_le rowB 20 (rows.take k) (fun x hx => rowB_le (hrow x (List.mem_of_mem_take hx)))
        have htl : (rows.take k).length ≤ 4 := by simp; omega
        have hXl : (B0 ++ (rows.take k).flatMap rowB).length ≤ 100 := by simp only [List.length_append]; omega
        have hll : (B0 ++ (rows.take k).flatMap rowB).length + (rowB (rows[k]'(by omega))).length = (B0 ++ (rows.take (k + 1)).flatMap rowB).length := by rw [hts]; simp; omega
        have hmm : B0 ++ (rows.take k).flatMap rowB ++ rowB (rows[k]'(by omega)) = B0 ++ (rows.take (k + 1)).flatMap rowB := by rw [hts]; simp
        generalize rows[k]'(by omega) = x at *
        repeat' (first | (refine tl_is (.func 74) ?_; refine qC rfl rfl (laid_spec _ v _ _ sp hown (by omega) x hro hid) ?_; rintro v2 ρ2 L2 hle0 ⟨hle2, sp2, hown2, rfl⟩; simp only [List.cons_append, List.nil_append, hmm]; rw [hmm, hll] at hown2) | (refine i_op ?_; first | (refine i_qq ?_; refine qQ ?_) | refine qEf ?_) | refine tl_nil ?_ | (refine i_tc ?_; refine qTc ?_) | (refine i_te ?_; refine qTe ?_) | intro _)
        refine te_round_g (k + 1, _, v2, sp2) (⟨hlt, Hp.le_trans hle1 hle2, hown2⟩) ev_le ev_le rfl tk inferInstance (by first | omega | (dsimp only; omega))
      · have hk2 : k = rn := by omega
        subst hk2
        rw [List.take_of_length_le (by omega)] at hown ⊢
        repeat' (first | (refine i_op ?_; first | (refine i_qq ?_; refine qQ ?_) | refine qEf ?_) | refine tl_nil ?_ | (refine i_tc ?_; refine qTc ?_) | (refine i_te ?_; refine qTe ?_) | intro _)
        rw [show (B0 ++ rows.flatMap rowB).map u8c = (B0 ++ (rows.flatMap rowB ++ (kids.take 0).flatMap kidB)).map u8c by simp]
        refine tc_loop_g [(2, _), (3, _), (45, _), (46, _)] (fun (ζ : (Nat) × (Hp) × (Value) × (List Value)) => [(47, .int .i64 ζ.1), (5, ζ.2.2.1)]) (fun (ζ : (Nat) × (Hp) × (Value) × (List Value)) => ζ.2.1) (fun (ζ : (Nat) × (Hp) × (Value) × (List Value)) => [ownC ζ.2.2.1 ((B0 ++ (rows.flatMap rowB ++ (kids.take ζ.1).flatMap kidB)).map u8c) ζ.2.2.2 5]) (fun (ζ : (Nat) × (Hp) × (Value) × (List Value)) => ζ.1 ≤ kn ∧ ρ1.le ζ.2.1 ∧ OwnS ζ.2.2.1 (B0 ++ (rows.flatMap rowB ++ (kids.take ζ.1).flatMap kidB)).length ((B0 ++ (rows.flatMap rowB ++ (kids.take ζ.1).flatMap kidB)).map u8c) ζ.2.2.2 1) (fun (ζ : (Nat) × (Hp) × (Value) × (List Value)) => kn - ζ.1) ((0, ρ1, v, sp)) (⟨Nat.zero_le _, Hp.le_refl _, by simpa using hown⟩) ev_le ev_le rfl tk ?_
        rintro ⟨j, ρ2, v, sp⟩ hI
        try simp only [List.cons_append, List.nil_append, List.append_assoc, List.append_eq] at hI ⊢
        try dsimp only at hI ⊢
        have hfl := flatMap_le rowB 20 rows (fun x hx => rowB_le (hrow x hx))
        obtain ⟨hj0, hle3, hown3⟩ := hI
        by_cases hlj : j < kn
        · obtain ⟨b, off, C, T, fr, rfl, hb, hfit, hc⟩ := (hk.mono (Hp.le_trans hle1 hle3)).get (show j < kids.length by omega)
          have hmem : kids[j]'(by omega) ∈ kids := List.getElem_mem _
          have hko := hkid _ hmem
          have hid := hik _ hmem
          have hts := flatMap_take_succ kidB kids j (by omega)
          have hfk := flatMap_le kidB 4 (kids.take j) (fun x hx => Nat.le_of_eq (kidB_len x))
          have htl : (kids.take j).length ≤ 4 := by simp; omega
          have hXl : (B0 ++ (rows.flatMap rowB ++ (kids.take j).flatMap kidB)).length ≤ 200 := by simp only [List.length_append]; omega
          have hmm : B0 ++ (rows.flatMap rowB ++ (kids.take j).flatMap kidB) ++ keyB (kids[j]'(by omega)).t (kids[j]'(by omega)).id ++ [tB (kids[j]'(by omega)).page] = B0 ++ (rows.flatMap rowB ++ (kids.take (j + 1)).flatMap kidB) := by rw [hts]; simp [kidB]
          have hll : (B0 ++ (rows.flatMap rowB ++ (kids.take j).flatMap kidB)).length + 3 + 1 = (B0 ++ (rows.flatMap rowB ++ (kids.take (j + 1)).flatMap kidB)).length := by rw [hts]; simp [kidB_len]; omega
          have hpg := tB_eq (t := (kids[j]'(by omega)).page) (by omega) (by omega)
          generalize kids[j]'(by omega) = x at *
          generalize hX : B0 ++ (rows.flatMap rowB ++ (kids.take j).flatMap kidB) = X at *
          repeat' (first | (refine i_op ?_; first | (refine i_qq ?_; refine qQ ?_) | refine qEf ?_) | refine tl_nil ?_ | (refine i_tc ?_; refine qTc ?_) | (refine i_te ?_; refine qTe ?_) | intro _)
          rename_i b9
          refine tc_any (Stays _ _ ([[(b9, .cells ⟨kidV x⟩ 134 (0, 0))]])) (stays_of (Hp.le_refl _)) ?_
          all_goals refine rMv 0 ?_
          all_goals refine rFa 1 ?_
          all_goals refine rLd 2 ?_
          all_goals refine rFa 4 ?_
          all_goals refine rLd 5 ?_
          all_goals refine rCv 6 ?_
          all_goals (refine rStep2 (i := 3) (j := 7) ?_ ?_ <;> ((try refine qWant ?_); (first | (refine tl_is (.func 77) ?_; refine qC rfl rfl (key_spec _ v _ X sp hown3 (by omega) x.t x.id hko.1.1 (by omega) hid) ?_; rintro v2 ρ4 L2 hle0 ⟨hle4, sp4, hown4, rfl⟩; simp only [List.cons_append, List.nil_append]) | (refine tl_buildSlice_s rfl rfl rfl rfl (by simp) rfl rfl (fun _ => ?_); simp only [hpg]) | (refine qEf ?_; try intro _)) <;> ((try simp only [List.cons_append, List.nil_append, List.append_eq]); refine tl_nil ?_; refine rNext ?_)))
          all_goals (first | (refine rStep (i := 7) ?_; ((try refine qWant ?_); (first | (refine tl_buildSlice_s rfl rfl rfl rfl (by simp) rfl rfl (fun _ => ?_); simp only [hpg]) | (refine qEf ?_; try intro _)) <;> ((try simp only [List.cons_append, List.nil_append, List.append_eq]); refine tl_nil ?_; refine rNext ?_))) | (refine rStep (i := 3) ?_; ((try refine qWant ?_); (first | (refine tl_is (.func 77) ?_; refine qC rfl rfl (key_spec _ v _ X sp hown3 (by omega) x.t x.id hko.1.1 (by omega) hid) ?_; rintro v2 ρ4 L2 hle0 ⟨hle4, sp4, hown4, rfl⟩; simp only [List.cons_append, List.nil_append]) | (refine qEf ?_; try intro _)) <;> ((try simp only [List.cons_append, List.nil_append, List.append_eq]); refine tl_nil ?_; refine rNext ?_))))
          all_goals (refine rStep (i := 8) ?_; ((try refine qWant ?_); (first | (refine tl_is (.func 77) ?_; refine qC rfl rfl (key_spec _ v _ X sp hown3 (by omega) x.t x.id hko.1.1 (by omega) hid) ?_; rintro v2 ρ4 L2 hle0 ⟨hle4, sp4, hown4, rfl⟩; simp only [List.cons_append, List.nil_append]) | (refine tl_app (ys := [u8c (tB x.page)]) (m := 1) rfl rfl hown4 (hR := by infer_instance) SrcV.lit rfl rfl (by decide) rfl (by omega) (by omega) rfl (fun v5 sp5 hown5 => ?_); rw [show (X ++ keyB x.t x.id).map u8c ++ [u8c (tB x.page)] = (X ++ keyB x.t x.id ++ [tB x.page]).map u8c by simp, hmm] at hown5 ⊢; rw [hll] at hown5) | (refine qEf ?_; try intro _)) <;> ((try simp only [List.cons_append, List.nil_append, List.append_eq]); refine tl_nil ?_; refine rNext ?_)))
          all_goals refine rFull ?_
          all_goals refine rAs 9 ?_
          all_goals refine rDone ?_
          all_goals (repeat' (first | (refine i_op ?_; first | (refine i_qq ?_; refine qQ ?_) | refine qEf ?_) | refine tl_nil ?_ | (refine i_tc ?_; refine qTc ?_) | (refine i_te ?_; refine qTe ?_) | intro _))
          all_goals refine te_round_g (j + 1, _, v5, sp5) (⟨hlj, Hp.le_trans hle3 (by assumption), hown5⟩) ev_le ev_le rfl tk inferInstance (by first | omega | (dsimp only; omega))
        · have hj2 : j = kn := by omega
          subst hj2
          rw [List.take_of_length_le (by omega)] at hown3 ⊢
          have hfin : B0 ++ (rows.flatMap rowB ++ kids.flatMap kidB) = contB ⟨kind, rows, kids⟩ := by rw [← hB0]; simp [contB]
          rw [hfin] at hown3 ⊢
          repeat' (first | (refine i_op ?_; first | (refine i_qq ?_; refine qQ ?_) | refine qEf ?_) | refine tl_nil ?_ | (refine i_tc ?_; refine qTc ?_) | (refine i_te ?_; refine qTe ?_) | intro _)
          refine te_freeze _ (h := Rem.here) (fun ρ6 hle6 hfz => ?_)
          obtain ⟨a6, c6, rfl, hc6, hs6⟩ := hown3.sIn hfz
          exact qE ⟨Hp.le_trans hle1 (Hp.le_trans hle3 hle6), a6, _, c6, rfl, hc6, hs6, rfl⟩
end Go.Proofs.E

namespace Go.Proofs.E
open Go
set_option linter.unusedVariables false
set_option linter.unusedSimpArgs false
set_option linter.unusedSectionVars false
set_option maxRecDepth 4000
set_option maxHeartbeats 1000000
attribute [local irreducible] Yl TL TC TE Spec YSpec R1 Hp.le EnvLe TS TR YS Stays
/-! ## codec: which are one -/
instance : Fun Try.prog 18 := mkFun (by kernel_rfl)
instance : Fun Try.prog 39 := mkFun (by kernel_rfl)
instance : Fun Try.prog 83 := mkFun (by kernel_rfl)
instance (priority := 1200) eqRow {x y : Row} : EqC Try.prog 8 28 (.agg ⟨rowV x⟩) (.agg ⟨rowV y⟩) (decide (x = y)) := by
  have h : EqC Try.prog 8 28 (.agg ⟨[.int .i64 x.t, .int .u16 x.id, .int .i64 x.val, strV x.note]⟩) (.agg ⟨[.int .i64 y.t, .int .u16 y.id, .int .i64 y.val, strV y.note]⟩) _ := inferInstance
  refine ⟨fun d w hd => ?_⟩
  rw [h.out d w hd]
  congr 1
  obtain ⟨t, i, v, n⟩ := x
  obtain ⟨t', i', v', n'⟩ := y
  simp only [Row.mk.injEq, Bool.and_true, Bool.decide_and]
  have e : ((i : Int) == (i' : Int)) = decide (i = i') := by
    by_cases h : i = i'
    · subst h; simp
    · rw [decide_eq_false h]; simp only [beq_eq_false_iff_ne, ne_eq]; omega
  rw [e]
  by_cases h1 : t = t' <;> by_cases h2 : i = i' <;> by_cases h3 : v = v' <;> simp [h1, h2, h3]
instance (priority := 1200) eqKid {x y : Kid} : EqC Try.prog 8 134 (.agg ⟨kidV x⟩) (.agg ⟨kidV y⟩) (decide (x = y)) := by
  have h : EqC Try.prog 8 134 (.agg ⟨[.int .i64 x.t, .int .u16 x.id, .int .i64 x.page]⟩) (.agg ⟨[.int .i64 y.t, .int .u16 y.id, .int .i64 y.page]⟩) _ := inferInstance
  refine ⟨fun d w hd => ?_⟩
  rw [h.out d w hd]
  congr 1
  obtain ⟨t, i, v⟩ := x
  obtain ⟨t', i', v'⟩ := y
  simp only [Kid.mk.injEq, Bool.and_true, Bool.decide_and]
  have e : ((i : Int) == (i' : Int)) = decide (i = i') := by
    by_cases h : i = i'
    · subst h; simp
    · rw [decide_eq_false h]; simp only [beq_eq_false_iff_ne, ne_eq]; omega
  rw [e]
  by_cases h1 : t = t' <;> by_cases h2 : i = i' <;> by_cases h3 : v = v' <;> simp [h1, h2, h3]
theorem slEqROW_spec (ρ : Hp) (a a' : Option Addr) (n c n' c' : Nat) (l m : List Row) (h : AIn ρ 4 rowV a n l) (h' : AIn ρ 4 rowV a' n' m) (hn : n ≤ 1000000) :
    Spec Try.prog 90 [.slice a n c, .slice a' n' c'] ρ [] (fun v ρ' L' => v = .bool (decide (l = m)) ∧ ρ' = ρ ∧ L' = []) := by
  have hl := h.len
  have hm := h'.len
  refine spec_enter Try.func90 rfl rfl rfl fun u R => ?_
  simp only [argsE, List.cons_append, List.nil_append]
  by_cases hne : n = n'
  · subst hne
    repeat' (first | (refine i_op ?_; first | (refine i_qq ?_; refine qQ ?_) | refine qEf ?_) | refine tl_nil ?_ | (refine i_tc ?_; refine qTc ?_) | (refine i_te ?_; refine qTe ?_) | intro _)
    refine tc_loop_g [(0, _), (1, _), (4, _), (12, _)] (fun (ζ : (Nat)) => [(13, .int .i64 ζ)]) (fun (ζ : (Nat)) => ρ) (fun (ζ : (Nat)) => []) (fun (ζ : (Nat)) => ζ ≤ n ∧ l.take ζ = m.take ζ) (fun (ζ : (Nat)) => n - ζ) (0) (⟨Nat.zero_le _, rfl⟩) ev_le ev_le rfl tk ?_
    rintro k hI
    try simp only [List.cons_append, List.nil_append, List.append_assoc, List.append_eq] at hI ⊢
    try dsimp only at hI ⊢
    obtain ⟨hk, hpre⟩ := hI
    by_cases hlt : k < n
    · obtain ⟨b, off, C, T, fr, rfl, hb, hfit, hc⟩ := h.get (show k < l.length by omega)
      obtain ⟨b2, off2, C2, T2, fr2, rfl, hb2, hfit2, hc2⟩ := h'.get (show k < m.length by omega)
      have ht1 := List.take_succ_eq_append_getElem (show k < l.length by omega)
      have ht2 := List.take_succ_eq_append_getElem (show k < m.length by omega)
      have hf : l = m → l[k]'(by omega) = m[k]'(by omega) := fun e => by subst e; rfl
      generalize l[k]'(by omega) = x at *
      generalize m[k]'(by omega) = y at *
      by_cases he : x = y
      · have hd : decide (x = y) = true := decide_eq_true he
        repeat' (first | (refine i_op ?_; first | (refine i_qq ?_; refine qQ ?_) | refine qEf ?_) | refine tl_nil ?_ | (refine i_tc ?_; refine qTc ?_) | (refine i_te ?_; refine qTe ?_) | intro _)
        refine tc_any (Stays _ _ _) stays_refl ?_
        all_goals refine rMv 0 ?_
        all_goals refine rFull ?_
        all_goals refine rMv 1 ?_
        all_goals refine rIa 2 ?_
        all_goals refine rLd 3 ?_
        all_goals refine rMv 4 ?_
        all_goals refine rMv 5 ?_
        all_goals refine rIa 6 ?_
        all_goals refine rLd 7 ?_
        all_goals refine rCm 8 ?_
        all_goals refine rDone ?_
        try simp only [hd]
        repeat' (first | (refine i_op ?_; first | (refine i_qq ?_; refine qQ ?_) | refine qEf ?_) | refine tl_nil ?_ | (refine i_tc ?_; refine qTc ?_) | (refine i_te ?_; refine qTe ?_) | intro _)
        refine te_round_g (k + 1) (⟨hlt, by rw [ht1, ht2, hpre, he]⟩) ev_le ev_le rfl tk inferInstance (by first | omega | (dsimp only; omega))
      · have hd : decide (x = y) = false := decide_eq_false he
        rw [decide_eq_false (fun e => he (hf e))]
        repeat' (first | (refine i_op ?_; first | (refine i_qq ?_; refine qQ ?_) | refine qEf ?_) | refine tl_nil ?_ | (refine i_tc ?_; refine qTc ?_) | (refine i_te ?_; refine qTe ?_) | intro _)
        refine tc_any (Stays _ _ _) stays_refl ?_
        all_goals refine rMv 0 ?_
        all_goals refine rFull ?_
        all_goals refine rMv 1 ?_
        all_goals refine rIa 2 ?_
        all_goals refine rLd 3 ?_
        all_goals refine rMv 4 ?_
        all_goals refine rMv 5 ?_
        all_goals refine rIa 6 ?_
        all_goals refine rLd 7 ?_
        all_goals refine rCm 8 ?_
        all_goals refine rDone ?_
        try simp only [hd]
        repeat' (first | (refine i_op ?_; first | (refine i_qq ?_; refine qQ ?_) | refine qEf ?_) | refine tl_nil ?_ | (refine i_tc ?_; refine qTc ?_) | (refine i_te ?_; refine qTe ?_) | intro _)
        exact qE ⟨rfl, rfl, rfl⟩
    · have hk2 : k = n := by omega
      subst hk2
      rw [List.take_of_length_le (by omega), List.take_of_length_le (by omega)] at hpre
      rw [decide_eq_true hpre]
      repeat' (first | (refine i_op ?_; first | (refine i_qq ?_; refine qQ ?_) | refine qEf ?_) | refine tl_nil ?_ | (refine i_tc ?_; refine qTc ?_) | (refine i_te ?_; refine qTe ?_) | intro _)
      exact qE ⟨rfl, rfl, rfl⟩
  · rw [decide_eq_false (fun e : l = m => hne (by rw [← hl, ← hm, e]))]
    repeat' (first | (refine i_op ?_; first | (refine i_qq ?_; refine qQ ?_) | refine qEf ?_) | refine tl_nil ?_ | (refine i_tc ?_; refine qTc ?_) | (refine i_te ?_; refine qTe ?_) | intro _)
    exact qE ⟨rfl, rfl, rfl⟩
theorem slEqKID_spec (ρ : Hp) (a a' : Option Addr) (n c n' c' : Nat) (l m : List Kid) (h : AIn ρ 3 kidV a n l) (h' : AIn ρ 3 kidV a' n' m) (hn : n ≤ 1000000) :
    Spec Try.prog 91 [.slice a n c, .slice a' n' c'] ρ [] (fun v ρ' L' => v = .bool (decide (l = m)) ∧ ρ' = ρ ∧ L' = []) := by
  have hl := h.len
  have hm := h'.len
  refine spec_enter Try.func91 rfl rfl rfl fun u R => ?_
  simp only [argsE, List.cons_append, List.nil_append]
  by_cases hne : n = n'
  · subst hne
    repeat' (first | (refine i_op ?_; first | (refine i_qq ?_; refine qQ ?_) | refine qEf ?_) | refine tl_nil ?_ | (refine i_tc ?_; refine qTc ?_) | (refine i_te ?_; refine qTe ?_) | intro _)
    refine tc_loop_g [(0, _), (1, _), (4, _), (12, _)] (fun (ζ : (Nat)) => [(13, .int .i64 ζ)]) (fun (ζ : (Nat)) => ρ) (fun (ζ : (Nat)) => []) (fun (ζ : (Nat)) => ζ ≤ n ∧ l.take ζ = m.take ζ) (fun (ζ : (Nat)) => n - ζ) (0) (⟨Nat.zero_le _, rfl⟩) ev_le ev_le rfl tk ?_
    rintro k hI
    try simp only [List.cons_append, List.nil_append, List.append_assoc, List.append_eq] at hI ⊢
    try dsimp only at hI ⊢
    obtain ⟨hk, hpre⟩ := hI
    by_cases hlt : k < n
    · obtain ⟨b, off, C, T, fr, rfl, hb, hfit, hc⟩ := h.get (show k < l.length by omega)
      obtain ⟨b2, off2, C2, T2, fr2, rfl, hb2, hfit2, hc2⟩ := h'.get (show k < m.length by omega)
      have ht1 := List.take_succ_eq_append_getElem (show k < l.length by omega)
      have ht2 := List.take_succ_eq_append_getElem (show k < m.length by omega)
      have hf : l = m → l[k]'(by omega) = m[k]'(by omega) := fun e => by subst e; rfl
      generalize l[k]'(by omega) = x at *
      generalize m[k]'(by omega) = y at *
      by_cases he : x = y
      · have hd : decide (x = y) = true := decide_eq_true he
        repeat' (first | (refine i_op ?_; first | (refine i_qq ?_; refine qQ ?_) | refine qEf ?_) | refine tl_nil ?_ | (refine i_tc ?_; refine qTc ?_) | (refine i_te ?_; refine qTe ?_) | intro _)
        refine tc_any (Stays _ _ _) stays_refl ?_
        all_goals refine rMv 0 ?_
        all_goals refine rFull ?_
        all_goals refine rMv 1 ?_
        all_goals refine rIa 2 ?_
        all_goals refine rLd 3 ?_
        all_goals refine rMv 4 ?_
        all_goals refine rMv 5 ?_
        all_goals refine rIa 6 ?_
        all_goals refine rLd 7 ?_
        all_goals refine rCm 8 ?_
        all_goals refine rDone ?_
        try simp only [hd]
        repeat' (first | (refine i_op ?_; first | (refine i_qq ?_; refine qQ ?_) | refine qEf ?_) | refine tl_nil ?_ | (refine i_tc ?_; refine qTc ?_) | (refine i_te ?_; refine qTe ?_) | intro _)
        refine te_round_g (k + 1) (⟨hlt, by rw [ht1, ht2, hpre, he]⟩) ev_le ev_le rfl tk inferInstance (by first | omega | (dsimp only; omega))
      · have hd : decide (x = y) = false := decide_eq_false he
        rw [decide_eq_false (fun e => he (hf e))]
        repeat' (first | (refine i_op ?_; first | (refine i_qq ?_; refine qQ ?_) | refine qEf ?_) | refine tl_nil ?_ | (refine i_tc ?_; refine qTc ?_) | (refine i_te ?_; refine qTe ?_) | intro _)
        refine tc_any (Stays _ _ _) stays_refl ?_
        all_goals refine rMv 0 ?_
        all_goals refine rFull ?_
        all_goals refine rMv 1 ?_
        all_goals refine rIa 2 ?_
        all_goals refine rLd 3 ?_
        all_goals refine rMv 4 ?_
        all_goals refine rMv 5 ?_
        all_goals refine rIa 6 ?_
        all_goals refine rLd 7 ?_
        all_goals refine rCm 8 ?_
        all_goals refine rDone ?_
        try simp only [hd]
        repeat' (first | (refine i_op ?_; first | (refine i_qq ?_; refine qQ ?_) | refine qEf ?_) | refine tl_nil ?_ | (refine i_tc ?_; refine qTc ?_) | (refine i_te ?_; refine qTe ?_) | intro _)
        exact qE ⟨rfl, rfl, rfl⟩
    · have hk2 : k = n := by omega
      subst hk2
      rw [List.take_of_length_le (by omega), List.take_of_length_le (by omega)] at hpre
      rw [decide_eq_true hpre]
      repeat' (first | (refine i_op ?_; first | (refine i_qq ?_; refine qQ ?_) | refine qEf ?_) | refine tl_nil ?_ | (refine i_tc ?_; refine qTc ?_) | (refine i_te ?_; refine qTe ?_) | intro _)
      exact qE ⟨rfl, rfl, rfl⟩
  · rw [decide_eq_false (fun e : l = m => hne (by rw [← hl, ← hm, e]))]
    repeat' (first | (refine i_op ?_; first | (refine i_qq ?_; refine qQ ?_) | refine qEf ?_) | refine tl_nil ?_ | (refine i_tc ?_; refine qTc ?_) | (refine i_te ?_; refine qTe ?_) | intro _)
    exact qE ⟨rfl, rfl, rfl⟩
theorem bytesEq_spec (ρ : Hp) (a a' : Option Addr) (n c n' c' : Nat) (l m : List UInt8) (h : SIn ρ u8c a n l) (h' : SIn ρ u8c a' n' m) :
    Spec Try.prog 18 [.slice a n c, .slice a' n' c'] ρ [] (fun v ρ' L' => v = .bool (decide (l = m)) ∧ ρ' = ρ ∧ L' = []) := by
  refine spec_enter Try.func18 rfl rfl rfl fun u R => ?_
  simp only [argsE, List.cons_append, List.nil_append]
  repeat' (first | (refine i_op ?_; first | (refine i_qq ?_; refine qQ ?_) | refine qEf ?_) | refine tl_nil ?_ | (refine i_tc ?_; refine qTc ?_) | (refine i_te ?_; refine qTe ?_) | intro _)
  exact qE ⟨rfl, rfl, rfl⟩
theorem hasPre_spec (ρ : Hp) (a a' : Option Addr) (n c n' c' : Nat) (l m : List UInt8) (h : SIn ρ u8c a n l) (h' : SIn ρ u8c a' n' m) (hc : n ≤ c) :
    Spec Try.prog 39 [.slice a n c, .slice a' n' c'] ρ [] (fun v ρ' L' => v = .bool (decide (m <+: l)) ∧ ρ' = ρ ∧ L' = []) := by
  have hl := h.len
  have hm := h'.len
  refine spec_enter Try.func39 rfl rfl rfl fun u R => ?_
  simp only [argsE, List.cons_append, List.nil_append]
  by_cases hle : n' ≤ n
  · have e : decide (m <+: l) = decide (l.take n' = m) := by
      apply decide_eq_decide.2
      rw [List.prefix_iff_eq_take, hm]
      exact ⟨fun e => e.symm, fun e => e.symm⟩
    rw [e]
    repeat' (first | (refine i_op ?_; first | (refine i_qq ?_; refine qQ ?_) | refine qEf ?_) | refine tl_nil ?_ | (refine i_tc ?_; refine qTc ?_) | (refine i_te ?_; refine qTe ?_) | intro _)
    simp only [Int.toNat_natCast]
    repeat' (first | (refine tl_is (.func 18) ?_; refine qC rfl rfl (bytesEq_spec _ _ _ _ _ _ _ _ _ (h.take hle) h') ?_; rintro v ρ' L' hle ⟨rfl, rfl, rfl⟩ <;> (try simp only [List.cons_append, List.nil_append, List.append_eq])) | (refine i_op ?_; first | (refine i_qq ?_; refine qQ ?_) | refine qEf ?_) | refine tl_nil ?_ | (refine i_tc ?_; refine qTc ?_) | (refine i_te ?_; refine qTe ?_) | intro _)
    exact qE ⟨rfl, rfl, rfl⟩
  · rw [decide_eq_false (fun e : m <+: l => hle (by have := e.length_le; omega))]
    repeat' (first | (refine i_op ?_; first | (refine i_qq ?_; refine qQ ?_) | refine qEf ?_) | refine tl_nil ?_ | (refine i_tc ?_; refine qTc ?_) | (refine i_te ?_; refine qTe ?_) | intro _)
    exact qE ⟨rfl, rfl, rfl⟩
theorem same_spec (ρ : Hp) (w w' : CV) (c d : Cont) (h : CIn ρ w c.rows c.kids) (h' : CIn ρ w' d.rows d.kids) :
    Spec Try.prog 32 [.agg ⟨contV c.kind w⟩, .agg ⟨contV d.kind w'⟩] ρ [] (fun v ρ' L' => v = .bool (decide (c = d)) ∧ ρ' = ρ ∧ L' = []) := by
  have hr := fun ρ h h' => slEqROW_spec ρ w.ra w'.ra w.rn w.rc w'.rn w'.rc c.rows d.rows h h' (CIn.rb (by assumption))
  have hk := fun ρ h h' => slEqKID_spec ρ w.ka w'.ka w.kn w.kc w'.kn w'.kc c.kids d.kids h h' (CIn.kb (by assumption))
  obtain ⟨kind, rows, kids⟩ := c
  obtain ⟨kind', rows', kids'⟩ := d
  dsimp only at hr hk h h' ⊢
  have hrr := h.r
  have hrr' := h'.r
  have hkk := h.k
  have hkk' := h'.k
  simp only [Cont.mk.injEq]
  refine spec_enter Try.func32 rfl rfl rfl fun u R => ?_
  simp only [argsE, List.cons_append, List.nil_append]
  by_cases h1 : kind = kind'
  · by_cases h2 : rows = rows'
    · rw [decide_eq_true h2] at hr
      by_cases h3 : kids = kids'
      · rw [decide_eq_true h3] at hk
        rw [decide_eq_true ⟨h1, h2, h3⟩]
        repeat' (first | (refine tl_is (.func 90) ?_; refine qC rfl rfl (hr _ hrr hrr') ?_; rintro v ρ' L' hle ⟨rfl, rfl, rfl⟩ <;> (try simp only [List.cons_append, List.nil_append, List.append_eq])) | (refine tl_is (.func 91) ?_; refine qC rfl rfl (hk _ hkk hkk') ?_; rintro v ρ' L' hle ⟨rfl, rfl, rfl⟩ <;> (try simp only [List.cons_append, List.nil_append, List.append_eq])) | (refine i_op ?_; first | (refine i_qq ?_; refine qQ ?_) | refine qEf ?_) | refine tl_nil ?_ | (refine i_tc ?_; refine qTc ?_) | (refine i_te ?_; refine qTe ?_) | intro _)
        exact qE ⟨rfl, rfl, rfl⟩
      · rw [decide_eq_false h3] at hk
        rw [decide_eq_false (fun e => h3 e.2.2)]
        repeat' (first | (refine tl_is (.func 90) ?_; refine qC rfl rfl (hr _ hrr hrr') ?_; rintro v ρ' L' hle ⟨rfl, rfl, rfl⟩ <;> (try simp only [List.cons_append, List.nil_append, List.append_eq])) | (refine tl_is (.func 91) ?_; refine qC rfl rfl (hk _ hkk hkk') ?_; rintro v ρ' L' hle ⟨rfl, rfl, rfl⟩ <;> (try simp only [List.cons_append, List.nil_append, List.append_eq])) | (refine i_op ?_; first | (refine i_qq ?_; refine qQ ?_) | refine qEf ?_) | refine tl_nil ?_ | (refine i_tc ?_; refine qTc ?_) | (refine i_te ?_; refine qTe ?_) | intro _)
        exact qE ⟨rfl, rfl, rfl⟩
    · rw [decide_eq_false h2] at hr
      rw [decide_eq_false (fun e => h2 e.2.1)]
      repeat' (first | (refine tl_is (.func 90) ?_; refine qC rfl rfl (hr _ hrr hrr') ?_; rintro v ρ' L' hle ⟨rfl, rfl, rfl⟩ <;> (try simp only [List.cons_append, List.nil_append, List.append_eq])) | (refine i_op ?_; first | (refine i_qq ?_; refine qQ ?_) | refine qEf ?_) | refine tl_nil ?_ | (refine i_tc ?_; refine qTc ?_) | (refine i_te ?_; refine qTe ?_) | intro _)
      exact qE ⟨rfl, rfl, rfl⟩
  · rw [decide_eq_false (fun e => h1 e.1)]
    repeat' (first | (refine i_op ?_; first | (refine i_qq ?_; refine qQ ?_) | refine qEf ?_) | refine tl_nil ?_ | (refine i_tc ?_; refine qTc ?_) | (refine i_te ?_; refine qTe ?_) | intro _)
    exact qE ⟨rfl, rfl, rfl⟩
end Go.Proofs.E

namespace Go.Proofs.E
open Go
set_option linter.unusedVariables false
set_option linter.unusedSimpArgs false
set_option linter.unusedSectionVars false
set_option maxRecDepth 4000
set_option maxHeartbeats 1000000
attribute [local irreducible] Yl TL TC TE Spec YSpec R1 Hp.le EnvLe TS TR YS Stays
theorem sIn_lit {ρ : Hp} {b : Nat} {l : List UInt8} {T : TypeId} {fr : Nat × Nat} (h : ρ b = some (.cells ⟨l.map u8c⟩ T fr)) : SIn ρ u8c (some ⟨b, 0, none⟩) l.length l :=
  ⟨rfl, .inr ⟨b, 0, _, T, fr, rfl, h, by rw [List.drop_zero, List.take_of_length_le (by simp)]⟩⟩
theorem wk_take1 : takeContR [2, 2, 0, 0, 0, 3, 0, 0, 7, 5, 9] = (⟨2, [], [⟨0, 0, 3⟩, ⟨0, 7, 5⟩]⟩, 10, 0) := by decide
theorem wk_take2 : takeContR [3] = (⟨0, [], []⟩, 0, 161) := by decide
theorem wk_row : rowOk ⟨1, 258, -1, [97, 98]⟩ = true := by decide
theorem wk_rowB : rowB ⟨1, 258, -1, [97, 98]⟩ = [1, 1, 2, 255, 255, 255, 255, 255, 255, 255, 255, 2, 97, 98] := by decide
theorem wakes06_spec (ρ : Hp) : Spec Try.prog 15 [] ρ [] (fun v ρ' L' => v = .bool true ∧ ρ.le ρ' ∧ L' = []) := by
  have h1 := fun ρ => rowE_spec ρ ⟨1, 258, -1, [97, 98]⟩ (by decide)
  simp only [wk_row, if_true, wk_rowB] at h1
  have h2 := fun ρ b hb => takeCont_spec ρ (some ⟨b, 0, none⟩) 11 11 [2, 2, 0, 0, 0, 3, 0, 0, 7, 5, 9] (sIn_lit (l := [2, 2, 0, 0, 0, 3, 0, 0, 7, 5, 9]) (b := b) (T := 5) (fr := (0, 0)) hb) (by decide)
  simp only [wk_take1] at h2
  have h3 := fun ρ b hb => takeCont_spec ρ (some ⟨b, 0, none⟩) 1 1 [3] (sIn_lit (l := [3]) (b := b) (T := 5) (fr := (0, 0)) hb) (by decide)
  simp only [wk_take2] at h3
  refine spec_enter Try.func15 rfl rfl rfl fun u R => ?_
  simp only [argsE]
  repeat' (first | (refine tl_is (.func 17) ?_; refine qC rfl rfl (h1 _) ?_; rintro v ρ' L' hle ⟨hle1, ra, rn, rc, rfl, hrc, hrs, rfl⟩ <;> (try simp only [List.cons_append, List.nil_append, List.append_eq])) | (refine tl_is (.func 19) ?_; refine qC rfl rfl (h3 _ _ hbs) ?_; rintro v ρ' L' hle ⟨hle4, w3, rfl, hC3, rfl⟩ <;> (try simp only [List.cons_append, List.nil_append, List.append_eq])) | (refine tl_is (.func 19) ?_; refine qC rfl rfl (h2 _ _ hbs) ?_; rintro v ρ' L' hle ⟨hle3, w, rfl, hC, rfl⟩ <;> (try simp only [List.cons_append, List.nil_append, List.append_eq])) | (refine tl_buildSlice_s rfl rfl rfl rfl (by simp) rfl rfl (fun bs => ?_); refine tl_freeze _ (h := Rem.here) (fun ρ2 hle2 hfz => ?_); have hbs := hfz _ (List.mem_singleton.2 rfl); clear hfz) | (refine i_op ?_; first | (refine i_qq ?_; refine qQ ?_) | refine qEf ?_) | refine tl_nil ?_ | (refine i_tc ?_; refine qTc ?_) | (refine i_te ?_; refine qTe ?_) | intro _)
  have hrn : rn = 14 := hrs.len.symm
  have hkn : w.kn = 2 := hC.k.len.symm
  have hfin : ρ.le ρ' := by solve_by_elim (maxDepth := 10) [Hp.le_trans]
  have hs2 := hrs.mono (show Hp.le _ ρ' by solve_by_elim (maxDepth := 10) [Hp.le_trans])
  have hC2 := hC.mono (show Hp.le _ ρ' by solve_by_elim (maxDepth := 10) [Hp.le_trans])
  clear hrs hC hbs
  subst hrn
  obtain ⟨b, off, C, T, fr, rfl, hb, hc⟩ := hs2.get (i := 13) (by decide)
  obtain ⟨wa, wn, wc, ka, kn, kc⟩ := w
  dsimp only at hkn hC2
  subst hkn
  obtain ⟨b2, off2, C2, T2, fr2, e1, hb2, hfit2, hc2⟩ := hC2.k.get (i := 1) (by decide)
  dsimp only at e1
  subst e1
  simp only [List.getElem_cons_succ, List.getElem_cons_zero, u8c] at hc hc2
  dsimp only [contV]
  repeat' (first | (refine iBu ?_; refine tl_y (v := .agg ⟨kidV ⟨0, 7, 5⟩⟩) (y_build rfl rfl) rfl rfl ?_) | (refine i_op ?_; first | (refine i_qq ?_; refine qQ ?_) | refine qEf ?_) | refine tl_nil ?_ | (refine i_tc ?_; refine qTc ?_) | (refine i_te ?_; refine qTe ?_) | intro _)
  exact qE ⟨rfl, hfin, rfl⟩
end Go.Proofs.E

