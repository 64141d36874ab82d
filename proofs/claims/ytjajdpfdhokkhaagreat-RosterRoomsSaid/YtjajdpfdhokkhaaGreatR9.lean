/- Rosters as data, and what their functions come to. Part 9 of 16. -/
import Derived.Test.YtjajdpfdhokkhaaGreatR8
namespace Go.Proofs.E
open Go
set_option linter.unusedVariables false
set_option linter.unusedSimpArgs false
set_option linter.unusedSectionVars false
set_option maxRecDepth 4000
set_option maxHeartbeats 1000000
attribute [local irreducible] Yl TL TC TE Spec YSpec R1 Hp.le EnvLe TS TR YS Stays
-- BN
/-! ## the document's rosters -/
theorem sort_le {m : List Nat} (h : sortB m = true) : ∀ {i j : Nat}, i ≤ j → j < m.length → m.getD i 0 ≤ m.getD j 0 := by
  intro i j
  induction j with
  | zero => intro hij _; rw [show i = 0 by omega]; exact Nat.le_refl _
  | succ j ih =>
    intro hij hj
    by_cases e : i = j + 1
    · rw [e]; exact Nat.le_refl _
    · have h1 := ih (by omega) (by omega)
      have h2 := List.all_eq_true.1 h (j + 1) (List.mem_range.2 hj)
      rw [decide_eq_true_eq] at h2
      rcases h2 with h2 | h2
      · omega
      · simp only [Nat.add_sub_cancel] at h2; omega
def markP (x : Tx) (i : Nat) : Prop := x.first ≤ x.marks.getD i 0 ∧ x.marks.getD i 0 ≤ x.undo ∧ (i = 0 ∨ x.marks.getD (i - 1) 0 ≤ x.marks.getD i 0)
theorem marks_all {x : Tx} (h : ∀ i, i < x.marks.length → markP x i) (h8 : x.marks.length ≤ 8) : marksB x = decide (x.marks.length = 0 ∨ x.state = 1) := by
  unfold marksB
  by_cases h0 : x.marks.length = 0
  · simp [h0]
  · have hs : sortB x.marks = true := List.all_eq_true.2 (fun i hi => decide_eq_true (h i (List.mem_range.1 hi)).2.2)
    have e1 := (h 0 (by omega)).1
    have e2 := (h (x.marks.length - 1) (by omega)).2.1
    rw [hs, decide_eq_false h0, Bool.false_or, Bool.true_and, decide_eq_true (⟨e1, e2⟩ : _ ∧ _), Bool.and_true]
    exact decide_eq_decide.2 (by omega)
theorem marks_bad {x : Tx} {k : Nat} (hk : k < x.marks.length) (h : ¬ markP x k) : marksB x = false := by
  cases hb : marksB x with
  | false => rfl
  | true =>
    exfalso
    unfold marksB at hb
    rw [decide_eq_false (by omega), Bool.false_or, Bool.and_eq_true, Bool.and_eq_true, decide_eq_true_eq, decide_eq_true_eq] at hb
    obtain ⟨_, hs, h1, h2⟩ := hb
    refine h ⟨?_, ?_, ?_⟩
    · have := sort_le hs (Nat.zero_le k) hk; omega
    · have := sort_le hs (show k ≤ x.marks.length - 1 by omega) (by omega); omega
    · by_cases e : k = 0
      · exact .inl e
      · exact .inr (sort_le hs (by omega) hk)
def tx18B (x : Tx) : Bool := decide (1 ≤ x.state ∧ x.state ≤ 3 ∧ 1 ≤ x.first ∧ x.first ≤ x.undo ∧ x.undo ≤ x.last ∧ x.last ≤ 1099511627776) && (stackB x.undo x.first x.stack && marksB x)
theorem txn18_spec (ρ : Hp) (x : Tx) (h : Tx.In ρ x) : Spec Tryz.prog 129 [.agg ⟨txV x⟩] ρ [] (fun v ρ' L' => v = .bool (tx18B x) ∧ ρ' = ρ ∧ L' = []) := by
  have hsl := h.s.len
  have hml := h.m.len
  have hsb := h.sb
  have hmb := h.mb
  unfold tx18B
  refine spec_enter Tryz.func129 rfl rfl rfl fun u R => ?_
  simp only [argsE, List.cons_append, List.nil_append]
  by_cases hH : (1 ≤ x.state ∧ x.state ≤ 3 ∧ 1 ≤ x.first ∧ x.first ≤ x.undo ∧ x.undo ≤ x.last ∧ x.last ≤ 1099511627776)
  · rw [decide_eq_true hH, Bool.true_and]
    obtain ⟨g1, g2, g3, g4, g5, g6⟩ := hH
    by_cases h8 : x.mv.n ≤ 8
    · repeat' (first | (refine iBu ?_; refine tl_y (y_buildN rfl) rfl rfl ?_) | (refine i_op ?_; first | (refine i_qq ?_; refine qQ ?_) | refine qEf ?_) | refine tl_nil ?_ | (refine i_tc ?_; refine qTc ?_) | (refine i_te ?_; refine qTe ?_) | intro _)
      generalize hq : stackB x.undo x.first x.stack = q
      rename_i bx
      refine tc_loop_g [(1, _), (46, _), (47, _)] (fun (ζ : (Nat) × (Nat)) => [(48, .int .i64 ζ.1), (2, .bool false)]) (fun (ζ : (Nat) × (Nat)) => ρ) (fun (ζ : (Nat) × (Nat)) => [[(bx, .cells ⟨txV x⟩ 72 (0, 0))]]) (fun (ζ : (Nat) × (Nat)) => ζ.1 ≤ x.sv.n ∧ stackB x.undo ζ.2 (x.stack.drop ζ.1) = q ∧ x.first ≤ ζ.2 ∧ (ζ.1 = 0 → ζ.2 = x.first) ∧ (∀ y, 0 < ζ.1 → x.stack[ζ.1 - 1]? = some y → y.lsn = ζ.2)) (fun (ζ : (Nat) × (Nat)) => x.sv.n - ζ.1) ((0, x.first)) (⟨Nat.zero_le _, hq, Nat.le_refl _, fun _ => rfl, fun _ h => absurd h (Nat.lt_irrefl _)⟩) ev_le ev_le rfl tk ?_
      rintro ⟨k, last⟩ hI
      try simp only [List.cons_append, List.nil_append, List.append_assoc, List.append_eq] at hI ⊢
      try dsimp only at hI ⊢
      obtain ⟨hk, hok, hfl, hk0, hky⟩ := hI
      by_cases hlt : k < x.sv.n
      · obtain ⟨b, off, C, T, fr, e1, hb, hfit, hc⟩ := h.s.get (show k < x.stack.length by omega)
        have hnext : ∀ y, 0 < k + 1 → x.stack[k + 1 - 1]? = some y → y.lsn = (x.stack[k]'(by omega)).lsn := fun y _ hy => by
          rw [Nat.add_sub_cancel, List.getElem?_eq_getElem (by omega)] at hy
          rw [Option.some.inj hy]
        rw [List.drop_eq_getElem_cons (show k < x.stack.length by omega), stackB] at hok
        generalize x.stack[k]'(by omega) = y at *
        (try dsimp only [txV]); rw [e1]
        by_cases hz : k = 0
        · have hl0 := hk0 hz
          by_cases hy : last < y.lsn ∧ y.lsn ≤ x.undo ∧ 1 ≤ y.cost ∧ y.cost ≤ 400
          · rw [decide_eq_true hy, Bool.true_and] at hok
            repeat' (first | (refine iBu ?_; refine tl_y (y_buildN rfl) rfl rfl ?_) | (refine i_op ?_; first | (refine i_qq ?_; refine qQ ?_) | refine qEf ?_) | refine tl_nil ?_ | (refine i_tc ?_; refine qTc ?_) | (refine i_te ?_; refine qTe ?_) | intro _)
            refine tc_any (Stays _ _ _) stays_refl ?_
            all_goals refine rFa 0 ?_
            all_goals refine rFull ?_
            all_goals refine rLd 1 ?_
            all_goals refine rFa 2 ?_
            all_goals refine rLd 3 ?_
            all_goals refine rCm 4 ?_
            all_goals refine rMv 5 ?_
            all_goals (first | refine wSkip 6 ?_ | refine wSkipU 6 ?_ | refine wFa 6 ?_ | (refine tr_guard (t := 58) rfl (fun hb => ?_) (fun hb => ?_) <;> (try simp only [kk] at hb) <;> first | refine wSkip 6 ?_ | refine wSkipU 6 ?_ | refine wFa 6 ?_))
            all_goals (first | refine wSkip 7 ?_ | refine wSkipU 7 ?_ | refine wLd 7 ?_ | (refine tr_guard (t := 58) rfl (fun hb => ?_) (fun hb => ?_) <;> (try simp only [kk] at hb) <;> first | refine wSkip 7 ?_ | refine wSkipU 7 ?_ | refine wLd 7 ?_))
            all_goals (first | refine wSkip 8 ?_ | refine wSkipU 8 ?_ | refine wFa 8 ?_ | (refine tr_guard (t := 58) rfl (fun hb => ?_) (fun hb => ?_) <;> (try simp only [kk] at hb) <;> first | refine wSkip 8 ?_ | refine wSkipU 8 ?_ | refine wFa 8 ?_))
            all_goals (first | refine wSkip 9 ?_ | refine wSkipU 9 ?_ | refine wLd 9 ?_ | (refine tr_guard (t := 58) rfl (fun hb => ?_) (fun hb => ?_) <;> (try simp only [kk] at hb) <;> first | refine wSkip 9 ?_ | refine wSkipU 9 ?_ | refine wLd 9 ?_))
            all_goals (first | refine wSkip 10 ?_ | refine wSkipU 10 ?_ | refine wCm 10 ?_ | (refine tr_guard (t := 58) rfl (fun hb => ?_) (fun hb => ?_) <;> (try simp only [kk] at hb) <;> first | refine wSkip 10 ?_ | refine wSkipU 10 ?_ | refine wCm 10 ?_))
            all_goals refine rPk 11 ?_
            all_goals refine rMv 12 ?_
            all_goals (first | refine wSkip 13 ?_ | refine wSkipU 13 ?_ | refine wMv 13 ?_ | (refine tr_guard (t := 65) rfl (fun hb => ?_) (fun hb => ?_) <;> (try simp only [kk] at hb) <;> first | refine wSkip 13 ?_ | refine wSkipU 13 ?_ | refine wMv 13 ?_))
            all_goals (first | refine wSkip 14 ?_ | refine wSkipU 14 ?_ | refine wCm 14 ?_ | (refine tr_guard (t := 65) rfl (fun hb => ?_) (fun hb => ?_) <;> (try simp only [kk] at hb) <;> first | refine wSkip 14 ?_ | refine wSkipU 14 ?_ | refine wCm 14 ?_))
            all_goals (first | refine wSkip 15 ?_ | refine wSkipU 15 ?_ | refine wMv 15 ?_ | (refine tr_guard (t := 65) rfl (fun hb => ?_) (fun hb => ?_) <;> (try simp only [kk] at hb) <;> first | refine wSkip 15 ?_ | refine wSkipU 15 ?_ | refine wMv 15 ?_))
            all_goals (first | refine wSkip 16 ?_ | refine wSkipU 16 ?_ | refine wFa 16 ?_ | (refine tr_guard (t := 68) rfl (fun hb => ?_) (fun hb => ?_) <;> (try simp only [kk] at hb) <;> first | refine wSkip 16 ?_ | refine wSkipU 16 ?_ | refine wFa 16 ?_))
            all_goals (first | refine wSkip 17 ?_ | refine wSkipU 17 ?_ | refine wLd 17 ?_ | (refine tr_guard (t := 68) rfl (fun hb => ?_) (fun hb => ?_) <;> (try simp only [kk] at hb) <;> first | refine wSkip 17 ?_ | refine wSkipU 17 ?_ | refine wLd 17 ?_))
            all_goals (first | refine wSkip 18 ?_ | refine wSkipU 18 ?_ | refine wMv 18 ?_ | (refine tr_guard (t := 68) rfl (fun hb => ?_) (fun hb => ?_) <;> (try simp only [kk] at hb) <;> first | refine wSkip 18 ?_ | refine wSkipU 18 ?_ | refine wMv 18 ?_))
            all_goals (first | refine wSkip 19 ?_ | refine wSkipU 19 ?_ | refine wSb 19 ?_ | (refine tr_guard (t := 68) rfl (fun hb => ?_) (fun hb => ?_) <;> (try simp only [kk] at hb) <;> first | refine wSkip 19 ?_ | refine wSkipU 19 ?_ | refine wSb 19 ?_))
            all_goals (first | refine wSkip 20 ?_ | refine wSkipU 20 ?_ | refine wIa 20 ?_ | (refine tr_guard (t := 68) rfl (fun hb => ?_) (fun hb => ?_) <;> (try simp only [kk] at hb) <;> first | refine wSkip 20 ?_ | refine wSkipU 20 ?_ | refine wIa 20 ?_))
            all_goals (first | refine wSkip 21 ?_ | refine wSkipU 21 ?_ | refine wFa 21 ?_ | (refine tr_guard (t := 68) rfl (fun hb => ?_) (fun hb => ?_) <;> (try simp only [kk] at hb) <;> first | refine wSkip 21 ?_ | refine wSkipU 21 ?_ | refine wFa 21 ?_))
            all_goals (first | refine wSkip 22 ?_ | refine wSkipU 22 ?_ | refine wLd 22 ?_ | (refine tr_guard (t := 68) rfl (fun hb => ?_) (fun hb => ?_) <;> (try simp only [kk] at hb) <;> first | refine wSkip 22 ?_ | refine wSkipU 22 ?_ | refine wLd 22 ?_))
            all_goals (first | refine wSkip 23 ?_ | refine wSkipU 23 ?_ | refine wFa 23 ?_ | (refine tr_guard (t := 68) rfl (fun hb => ?_) (fun hb => ?_) <;> (try simp only [kk] at hb) <;> first | refine wSkip 23 ?_ | refine wSkipU 23 ?_ | refine wFa 23 ?_))
            all_goals (first | refine wSkip 24 ?_ | refine wSkipU 24 ?_ | refine wLd 24 ?_ | (refine tr_guard (t := 68) rfl (fun hb => ?_) (fun hb => ?_) <;> (try simp only [kk] at hb) <;> first | refine wSkip 24 ?_ | refine wSkipU 24 ?_ | refine wLd 24 ?_))
            all_goals (first | refine wSkip 25 ?_ | refine wSkipU 25 ?_ | refine wCm 25 ?_ | (refine tr_guard (t := 68) rfl (fun hb => ?_) (fun hb => ?_) <;> (try simp only [kk] at hb) <;> first | refine wSkip 25 ?_ | refine wSkipU 25 ?_ | refine wCm 25 ?_))
            all_goals (first | refine wSkip 26 ?_ | refine wSkipU 26 ?_ | refine wPk 26 ?_ | (refine tr_guard (t := 65) rfl (fun hb => ?_) (fun hb => ?_) <;> (try simp only [kk] at hb) <;> first | refine wSkip 26 ?_ | refine wSkipU 26 ?_ | refine wPk 26 ?_))
            all_goals refine rPk 27 ?_
            all_goals refine rMv 28 ?_
            all_goals (first | refine wSkip 29 ?_ | refine wSkipU 29 ?_ | refine wFa 29 ?_ | (refine tr_guard (t := 81) rfl (fun hb => ?_) (fun hb => ?_) <;> (try simp only [kk] at hb) <;> first | refine wSkip 29 ?_ | refine wSkipU 29 ?_ | refine wFa 29 ?_))
            all_goals (first | refine wSkip 30 ?_ | refine wSkipU 30 ?_ | refine wLd 30 ?_ | (refine tr_guard (t := 81) rfl (fun hb => ?_) (fun hb => ?_) <;> (try simp only [kk] at hb) <;> first | refine wSkip 30 ?_ | refine wSkipU 30 ?_ | refine wLd 30 ?_))
            all_goals (first | refine wSkip 31 ?_ | refine wSkipU 31 ?_ | refine wCm 31 ?_ | (refine tr_guard (t := 81) rfl (fun hb => ?_) (fun hb => ?_) <;> (try simp only [kk] at hb) <;> first | refine wSkip 31 ?_ | refine wSkipU 31 ?_ | refine wCm 31 ?_))
            all_goals refine rPk 32 ?_
            all_goals refine rMv 33 ?_
            all_goals (first | refine wSkip 34 ?_ | refine wSkipU 34 ?_ | refine wFa 34 ?_ | (refine tr_guard (t := 86) rfl (fun hb => ?_) (fun hb => ?_) <;> (try simp only [kk] at hb) <;> first | refine wSkip 34 ?_ | refine wSkipU 34 ?_ | refine wFa 34 ?_))
            all_goals (first | refine wSkip 35 ?_ | refine wSkipU 35 ?_ | refine wLd 35 ?_ | (refine tr_guard (t := 86) rfl (fun hb => ?_) (fun hb => ?_) <;> (try simp only [kk] at hb) <;> first | refine wSkip 35 ?_ | refine wSkipU 35 ?_ | refine wLd 35 ?_))
            all_goals (first | refine wSkip 36 ?_ | refine wSkipU 36 ?_ | refine wCm 36 ?_ | (refine tr_guard (t := 86) rfl (fun hb => ?_) (fun hb => ?_) <;> (try simp only [kk] at hb) <;> first | refine wSkip 36 ?_ | refine wSkipU 36 ?_ | refine wCm 36 ?_))
            all_goals refine rPk 37 ?_
            all_goals refine rDone ?_
            all_goals (repeat' (first | (refine iBu ?_; refine tl_y (y_buildN rfl) rfl rfl ?_) | (refine i_op ?_; first | (refine i_qq ?_; refine qQ ?_) | refine qEf ?_) | refine tl_nil ?_ | (refine i_tc ?_; refine qTc ?_) | (refine i_te ?_; refine qTe ?_) | intro _))
            all_goals rw [← e1]
            all_goals refine te_round_g (k + 1, y.lsn) (⟨hlt, hok, by dsimp only; omega, fun h => by omega, hnext⟩) ev_le ev_le rfl tk inferInstance (by first | omega | (dsimp only; omega))
          · rw [decide_eq_false hy, Bool.false_and] at hok
            subst hok
            rw [Bool.false_and]
            repeat' (first | (refine iBu ?_; refine tl_y (y_buildN rfl) rfl rfl ?_) | (refine i_op ?_; first | (refine i_qq ?_; refine qQ ?_) | refine qEf ?_) | refine tl_nil ?_ | (refine i_tc ?_; refine qTc ?_) | (refine i_te ?_; refine qTe ?_) | intro _)
            refine tc_any (Stays _ _ _) stays_refl ?_
            all_goals refine rFa 0 ?_
            all_goals refine rFull ?_
            all_goals refine rLd 1 ?_
            all_goals refine rFa 2 ?_
            all_goals refine rLd 3 ?_
            all_goals refine rCm 4 ?_
            all_goals refine rMv 5 ?_
            all_goals (first | refine wSkip 6 ?_ | refine wSkipU 6 ?_ | refine wFa 6 ?_ | (refine tr_guard (t := 58) rfl (fun hb => ?_) (fun hb => ?_) <;> (try simp only [kk] at hb) <;> first | refine wSkip 6 ?_ | refine wSkipU 6 ?_ | refine wFa 6 ?_))
            all_goals (first | refine wSkip 7 ?_ | refine wSkipU 7 ?_ | refine wLd 7 ?_ | (refine tr_guard (t := 58) rfl (fun hb => ?_) (fun hb => ?_) <;> (try simp only [kk] at hb) <;> first | refine wSkip 7 ?_ | refine wSkipU 7 ?_ | refine wLd 7 ?_))
            all_goals (first | refine wSkip 8 ?_ | refine wSkipU 8 ?_ | refine wFa 8 ?_ | (refine tr_guard (t := 58) rfl (fun hb => ?_) (fun hb => ?_) <;> (try simp only [kk] at hb) <;> first | refine wSkip 8 ?_ | refine wSkipU 8 ?_ | refine wFa 8 ?_))
            all_goals (first | refine wSkip 9 ?_ | refine wSkipU 9 ?_ | refine wLd 9 ?_ | (refine tr_guard (t := 58) rfl (fun hb => ?_) (fun hb => ?_) <;> (try simp only [kk] at hb) <;> first | refine wSkip 9 ?_ | refine wSkipU 9 ?_ | refine wLd 9 ?_))
            all_goals (first | refine wSkip 10 ?_ | refine wSkipU 10 ?_ | refine wCm 10 ?_ | (refine tr_guard (t := 58) rfl (fun hb => ?_) (fun hb => ?_) <;> (try simp only [kk] at hb) <;> first | refine wSkip 10 ?_ | refine wSkipU 10 ?_ | refine wCm 10 ?_))
            all_goals refine rPk 11 ?_
            all_goals refine rMv 12 ?_
            all_goals (first | refine wSkip 13 ?_ | refine wSkipU 13 ?_ | refine wMv 13 ?_ | (refine tr_guard (t := 65) rfl (fun hb => ?_) (fun hb => ?_) <;> (try simp only [kk] at hb) <;> first | refine wSkip 13 ?_ | refine wSkipU 13 ?_ | refine wMv 13 ?_))
            all_goals (first | refine wSkip 14 ?_ | refine wSkipU 14 ?_ | refine wCm 14 ?_ | (refine tr_guard (t := 65) rfl (fun hb => ?_) (fun hb => ?_) <;> (try simp only [kk] at hb) <;> first | refine wSkip 14 ?_ | refine wSkipU 14 ?_ | refine wCm 14 ?_))
            all_goals (first | refine wSkip 15 ?_ | refine wSkipU 15 ?_ | refine wMv 15 ?_ | (refine tr_guard (t := 65) rfl (fun hb => ?_) (fun hb => ?_) <;> (try simp only [kk] at hb) <;> first | refine wSkip 15 ?_ | refine wSkipU 15 ?_ | refine wMv 15 ?_))
            all_goals (first | refine wSkip 16 ?_ | refine wSkipU 16 ?_ | refine wFa 16 ?_ | (refine tr_guard (t := 68) rfl (fun hb => ?_) (fun hb => ?_) <;> (try simp only [kk] at hb) <;> first | refine wSkip 16 ?_ | refine wSkipU 16 ?_ | refine wFa 16 ?_))
            all_goals (first | refine wSkip 17 ?_ | refine wSkipU 17 ?_ | refine wLd 17 ?_ | (refine tr_guard (t := 68) rfl (fun hb => ?_) (fun hb => ?_) <;> (try simp only [kk] at hb) <;> first | refine wSkip 17 ?_ | refine wSkipU 17 ?_ | refine wLd 17 ?_))
            all_goals (first | refine wSkip 18 ?_ | refine wSkipU 18 ?_ | refine wMv 18 ?_ | (refine tr_guard (t := 68) rfl (fun hb => ?_) (fun hb => ?_) <;> (try simp only [kk] at hb) <;> first | refine wSkip 18 ?_ | refine wSkipU 18 ?_ | refine wMv 18 ?_))
            all_goals (first | refine wSkip 19 ?_ | refine wSkipU 19 ?_ | refine wSb 19 ?_ | (refine tr_guard (t := 68) rfl (fun hb => ?_) (fun hb => ?_) <;> (try simp only [kk] at hb) <;> first | refine wSkip 19 ?_ | refine wSkipU 19 ?_ | refine wSb 19 ?_))
            all_goals (first | refine wSkip 20 ?_ | refine wSkipU 20 ?_ | refine wIa 20 ?_ | (refine tr_guard (t := 68) rfl (fun hb => ?_) (fun hb => ?_) <;> (try simp only [kk] at hb) <;> first | refine wSkip 20 ?_ | refine wSkipU 20 ?_ | refine wIa 20 ?_))
            all_goals (first | refine wSkip 21 ?_ | refine wSkipU 21 ?_ | refine wFa 21 ?_ | (refine tr_guard (t := 68) rfl (fun hb => ?_) (fun hb => ?_) <;> (try simp only [kk] at hb) <;> first | refine wSkip 21 ?_ | refine wSkipU 21 ?_ | refine wFa 21 ?_))
            all_goals (first | refine wSkip 22 ?_ | refine wSkipU 22 ?_ | refine wLd 22 ?_ | (refine tr_guard (t := 68) rfl (fun hb => ?_) (fun hb => ?_) <;> (try simp only [kk] at hb) <;> first | refine wSkip 22 ?_ | refine wSkipU 22 ?_ | refine wLd 22 ?_))
            all_goals (first | refine wSkip 23 ?_ | refine wSkipU 23 ?_ | refine wFa 23 ?_ | (refine tr_guard (t := 68) rfl (fun hb => ?_) (fun hb => ?_) <;> (try simp only [kk] at hb) <;> first | refine wSkip 23 ?_ | refine wSkipU 23 ?_ | refine wFa 23 ?_))
            all_goals (first | refine wSkip 24 ?_ | refine wSkipU 24 ?_ | refine wLd 24 ?_ | (refine tr_guard (t := 68) rfl (fun hb => ?_) (fun hb => ?_) <;> (try simp only [kk] at hb) <;> first | refine wSkip 24 ?_ | refine wSkipU 24 ?_ | refine wLd 24 ?_))
            all_goals (first | refine wSkip 25 ?_ | refine wSkipU 25 ?_ | refine wCm 25 ?_ | (refine tr_guard (t := 68) rfl (fun hb => ?_) (fun hb => ?_) <;> (try simp only [kk] at hb) <;> first | refine wSkip 25 ?_ | refine wSkipU 25 ?_ | refine wCm 25 ?_))
            all_goals (first | refine wSkip 26 ?_ | refine wSkipU 26 ?_ | refine wPk 26 ?_ | (refine tr_guard (t := 65) rfl (fun hb => ?_) (fun hb => ?_) <;> (try simp only [kk] at hb) <;> first | refine wSkip 26 ?_ | refine wSkipU 26 ?_ | refine wPk 26 ?_))
            all_goals refine rPk 27 ?_
            all_goals refine rMv 28 ?_
            all_goals (first | refine wSkip 29 ?_ | refine wSkipU 29 ?_ | refine wFa 29 ?_ | (refine tr_guard (t := 81) rfl (fun hb => ?_) (fun hb => ?_) <;> (try simp only [kk] at hb) <;> first | refine wSkip 29 ?_ | refine wSkipU 29 ?_ | refine wFa 29 ?_))
            all_goals (first | refine wSkip 30 ?_ | refine wSkipU 30 ?_ | refine wLd 30 ?_ | (refine tr_guard (t := 81) rfl (fun hb => ?_) (fun hb => ?_) <;> (try simp only [kk] at hb) <;> first | refine wSkip 30 ?_ | refine wSkipU 30 ?_ | refine wLd 30 ?_))
            all_goals (first | refine wSkip 31 ?_ | refine wSkipU 31 ?_ | refine wCm 31 ?_ | (refine tr_guard (t := 81) rfl (fun hb => ?_) (fun hb => ?_) <;> (try simp only [kk] at hb) <;> first | refine wSkip 31 ?_ | refine wSkipU 31 ?_ | refine wCm 31 ?_))
            all_goals refine rPk 32 ?_
            all_goals refine rMv 33 ?_
            all_goals (first | refine wSkip 34 ?_ | refine wSkipU 34 ?_ | refine wFa 34 ?_ | (refine tr_guard (t := 86) rfl (fun hb => ?_) (fun hb => ?_) <;> (try simp only [kk] at hb) <;> first | refine wSkip 34 ?_ | refine wSkipU 34 ?_ | refine wFa 34 ?_))
            all_goals (first | refine wSkip 35 ?_ | refine wSkipU 35 ?_ | refine wLd 35 ?_ | (refine tr_guard (t := 86) rfl (fun hb => ?_) (fun hb => ?_) <;> (try simp only [kk] at hb) <;> first | refine wSkip 35 ?_ | refine wSkipU 35 ?_ | refine wLd 35 ?_))
            all_goals (first | refine wSkip 36 ?_ | refine wSkipU 36 ?_ | refine wCm 36 ?_ | (refine tr_guard (t := 86) rfl (fun hb => ?_) (fun hb => ?_) <;> (try simp only [kk] at hb) <;> first | refine wSkip 36 ?_ | refine wSkipU 36 ?_ | refine wCm 36 ?_))
            all_goals refine rPk 37 ?_
            all_goals refine rDone ?_
            all_goals (repeat' (first | (refine iBu ?_; refine tl_y (y_buildN rfl) rfl rfl ?_) | (refine i_op ?_; first | (refine i_qq ?_; refine qQ ?_) | refine qEf ?_) | refine tl_nil ?_ | (refine i_tc ?_; refine qTc ?_) | (refine i_te ?_; refine qTe ?_) | (refine i_gd ?_; refine tl_guard rfl rfl (fun hb => ?_) (fun hb => ?_) <;> (try simp only [decide_eq_true_eq, decide_eq_false_iff_not, Bool.not_eq_true, Bool.not_eq_false, beq_iff_eq, bne_iff_ne, ne_eq, decide_eq_decide, Bool.not_eq_eq_eq_not, Bool.not_true, Bool.not_false, beq_eq_false_iff_ne, bne_eq_false_iff_eq, Bool.and_eq_true, Bool.or_eq_true, Bool.and_eq_false_imp, Bool.or_eq_false_iff, bq2, bqt, bqf] at hb)) | (refine i_cond ?_; refine tc_cond rfl (fun hb => ?_) (fun hb => ?_) <;> (try simp only [decide_eq_true_eq, decide_eq_false_iff_not, Bool.not_eq_true, Bool.not_eq_false, beq_iff_eq, bne_iff_ne, ne_eq, decide_eq_decide, Bool.not_eq_eq_eq_not, Bool.not_true, Bool.not_false, beq_eq_false_iff_ne, bne_eq_false_iff_eq, Bool.and_eq_true, Bool.or_eq_true, Bool.and_eq_false_imp, Bool.or_eq_false_iff, bq2, bqt, bqf] at hb)) | intro _))
            all_goals first | exact qE (L' := []) ⟨rfl, rfl, rfl⟩ | (exfalso; omega)
        · obtain ⟨b2, off2, C2, T2, fr2, f1, hb2, hfit2, hc2⟩ := h.s.get (show k - 1 < x.stack.length by omega)
          have hlp := hky _ (by omega) (List.getElem?_eq_getElem (show k - 1 < x.stack.length by omega))
          generalize x.stack[k - 1]'(by omega) = p at *
          rw [e1] at f1
          cases f1
          rw [hb] at hb2
          cases hb2
          have ek : ((k : Int) - 1).toNat = k - 1 := by omega
          have hcy : C[off + ((k : Int) - 1).toNat * 2]? = some (.int .u64 p.lsn) := by
            have := congrArg (fun l => l[0]?) hc2
            rw [ek]
            simp only [List.getElem?_take, List.getElem?_drop] at this
            simpa using this
          by_cases hy : last < y.lsn ∧ y.lsn ≤ x.undo ∧ 1 ≤ y.cost ∧ y.cost ≤ 400
          · rw [decide_eq_true hy, Bool.true_and] at hok
            repeat' (first | (refine iBu ?_; refine tl_y (y_buildN rfl) rfl rfl ?_) | (refine i_op ?_; first | (refine i_qq ?_; refine qQ ?_) | refine qEf ?_) | refine tl_nil ?_ | (refine i_tc ?_; refine qTc ?_) | (refine i_te ?_; refine qTe ?_) | intro _)
            refine tc_any (Stays _ _ _) stays_refl ?_
            all_goals refine rFa 0 ?_
            all_goals refine rFull ?_
            all_goals refine rLd 1 ?_
            all_goals refine rFa 2 ?_
            all_goals refine rLd 3 ?_
            all_goals refine rCm 4 ?_
            all_goals refine rMv 5 ?_
            all_goals (first | refine wSkip 6 ?_ | refine wSkipU 6 ?_ | refine wFa 6 ?_ | (refine tr_guard (t := 58) rfl (fun hb => ?_) (fun hb => ?_) <;> (try simp only [kk] at hb) <;> first | refine wSkip 6 ?_ | refine wSkipU 6 ?_ | refine wFa 6 ?_))
            all_goals (first | refine wSkip 7 ?_ | refine wSkipU 7 ?_ | refine wLd 7 ?_ | (refine tr_guard (t := 58) rfl (fun hb => ?_) (fun hb => ?_) <;> (try simp only [kk] at hb) <;> first | refine wSkip 7 ?_ | refine wSkipU 7 ?_ | refine wLd 7 ?_))
            all_goals (first | refine wSkip 8 ?_ | refine wSkipU 8 ?_ | refine wFa 8 ?_ | (refine tr_guard (t := 58) rfl (fun hb => ?_) (fun hb => ?_) <;> (try simp only [kk] at hb) <;> first | refine wSkip 8 ?_ | refine wSkipU 8 ?_ | refine wFa 8 ?_))
            all_goals (first | refine wSkip 9 ?_ | refine wSkipU 9 ?_ | refine wLd 9 ?_ | (refine tr_guard (t := 58) rfl (fun hb => ?_) (fun hb => ?_) <;> (try simp only [kk] at hb) <;> first | refine wSkip 9 ?_ | refine wSkipU 9 ?_ | refine wLd 9 ?_))
            all_goals (first | refine wSkip 10 ?_ | refine wSkipU 10 ?_ | refine wCm 10 ?_ | (refine tr_guard (t := 58) rfl (fun hb => ?_) (fun hb => ?_) <;> (try simp only [kk] at hb) <;> first | refine wSkip 10 ?_ | refine wSkipU 10 ?_ | refine wCm 10 ?_))
            all_goals refine rPk 11 ?_
            all_goals refine rMv 12 ?_
            all_goals (first | refine wSkip 13 ?_ | refine wSkipU 13 ?_ | refine wMv 13 ?_ | (refine tr_guard (t := 65) rfl (fun hb => ?_) (fun hb => ?_) <;> (try simp only [kk] at hb) <;> first | refine wSkip 13 ?_ | refine wSkipU 13 ?_ | refine wMv 13 ?_))
            all_goals (first | refine wSkip 14 ?_ | refine wSkipU 14 ?_ | refine wCm 14 ?_ | (refine tr_guard (t := 65) rfl (fun hb => ?_) (fun hb => ?_) <;> (try simp only [kk] at hb) <;> first | refine wSkip 14 ?_ | refine wSkipU 14 ?_ | refine wCm 14 ?_))
            all_goals (first | refine wSkip 15 ?_ | refine wSkipU 15 ?_ | refine wMv 15 ?_ | (refine tr_guard (t := 65) rfl (fun hb => ?_) (fun hb => ?_) <;> (try simp only [kk] at hb) <;> first | refine wSkip 15 ?_ | refine wSkipU 15 ?_ | refine wMv 15 ?_))
            all_goals (first | refine wSkip 16 ?_ | refine wSkipU 16 ?_ | refine wFa 16 ?_ | (refine tr_guard (t := 68) rfl (fun hb => ?_) (fun hb => ?_) <;> (try simp only [kk] at hb) <;> first | refine wSkip 16 ?_ | refine wSkipU 16 ?_ | refine wFa 16 ?_))
            all_goals (first | refine wSkip 17 ?_ | refine wSkipU 17 ?_ | refine wLd 17 ?_ | (refine tr_guard (t := 68) rfl (fun hb => ?_) (fun hb => ?_) <;> (try simp only [kk] at hb) <;> first | refine wSkip 17 ?_ | refine wSkipU 17 ?_ | refine wLd 17 ?_))
            all_goals (first | refine wSkip 18 ?_ | refine wSkipU 18 ?_ | refine wMv 18 ?_ | (refine tr_guard (t := 68) rfl (fun hb => ?_) (fun hb => ?_) <;> (try simp only [kk] at hb) <;> first | refine wSkip 18 ?_ | refine wSkipU 18 ?_ | refine wMv 18 ?_))
            all_goals (first | refine wSkip 19 ?_ | refine wSkipU 19 ?_ | refine wSb 19 ?_ | (refine tr_guard (t := 68) rfl (fun hb => ?_) (fun hb => ?_) <;> (try simp only [kk] at hb) <;> first | refine wSkip 19 ?_ | refine wSkipU 19 ?_ | refine wSb 19 ?_))
            all_goals (first | refine wSkip 20 ?_ | refine wSkipU 20 ?_ | refine wIa 20 ?_ | (refine tr_guard (t := 68) rfl (fun hb => ?_) (fun hb => ?_) <;> (try simp only [kk] at hb) <;> first | refine wSkip 20 ?_ | refine wSkipU 20 ?_ | refine wIa 20 ?_))
            all_goals (first | refine wSkip 21 ?_ | refine wSkipU 21 ?_ | refine wFa 21 ?_ | (refine tr_guard (t := 68) rfl (fun hb => ?_) (fun hb => ?_) <;> (try simp only [kk] at hb) <;> first | refine wSkip 21 ?_ | refine wSkipU 21 ?_ | refine wFa 21 ?_))
            all_goals (first | refine wSkip 22 ?_ | refine wSkipU 22 ?_ | refine wLd 22 ?_ | (refine tr_guard (t := 68) rfl (fun hb => ?_) (fun hb => ?_) <;> (try simp only [kk] at hb) <;> first | refine wSkip 22 ?_ | refine wSkipU 22 ?_ | refine wLd 22 ?_))
            all_goals (first | refine wSkip 23 ?_ | refine wSkipU 23 ?_ | refine wFa 23 ?_ | (refine tr_guard (t := 68) rfl (fun hb => ?_) (fun hb => ?_) <;> (try simp only [kk] at hb) <;> first | refine wSkip 23 ?_ | refine wSkipU 23 ?_ | refine wFa 23 ?_))
            all_goals (first | refine wSkip 24 ?_ | refine wSkipU 24 ?_ | refine wLd 24 ?_ | (refine tr_guard (t := 68) rfl (fun hb => ?_) (fun hb => ?_) <;> (try simp only [kk] at hb) <;> first | refine wSkip 24 ?_ | refine wSkipU 24 ?_ | refine wLd 24 ?_))
            all_goals (first | refine wSkip 25 ?_ | refine wSkipU 25 ?_ | refine wCm 25 ?_ | (refine tr_guard (t := 68) rfl (fun hb => ?_) (fun hb => ?_) <;> (try simp only [kk] at hb) <;> first | refine wSkip 25 ?_ | refine wSkipU 25 ?_ | refine wCm 25 ?_))
            all_goals (first | refine wSkip 26 ?_ | refine wSkipU 26 ?_ | refine wPk 26 ?_ | (refine tr_guard (t := 65) rfl (fun hb => ?_) (fun hb => ?_) <;> (try simp only [kk] at hb) <;> first | refine wSkip 26 ?_ | refine wSkipU 26 ?_ | refine wPk 26 ?_))
            all_goals refine rPk 27 ?_
            all_goals refine rMv 28 ?_
            all_goals (first | refine wSkip 29 ?_ | refine wSkipU 29 ?_ | refine wFa 29 ?_ | (refine tr_guard (t := 81) rfl (fun hb => ?_) (fun hb => ?_) <;> (try simp only [kk] at hb) <;> first | refine wSkip 29 ?_ | refine wSkipU 29 ?_ | refine wFa 29 ?_))
            all_goals (first | refine wSkip 30 ?_ | refine wSkipU 30 ?_ | refine wLd 30 ?_ | (refine tr_guard (t := 81) rfl (fun hb => ?_) (fun hb => ?_) <;> (try simp only [kk] at hb) <;> first | refine wSkip 30 ?_ | refine wSkipU 30 ?_ | refine wLd 30 ?_))
            all_goals (first | refine wSkip 31 ?_ | refine wSkipU 31 ?_ | refine wCm 31 ?_ | (refine tr_guard (t := 81) rfl (fun hb => ?_) (fun hb => ?_) <;> (try simp only [kk] at hb) <;> first | refine wSkip 31 ?_ | refine wSkipU 31 ?_ | refine wCm 31 ?_))
            all_goals refine rPk 32 ?_
            all_goals refine rMv 33 ?_
            all_goals (first | refine wSkip 34 ?_ | refine wSkipU 34 ?_ | refine wFa 34 ?_ | (refine tr_guard (t := 86) rfl (fun hb => ?_) (fun hb => ?_) <;> (try simp only [kk] at hb) <;> first | refine wSkip 34 ?_ | refine wSkipU 34 ?_ | refine wFa 34 ?_))
            all_goals (first | refine wSkip 35 ?_ | refine wSkipU 35 ?_ | refine wLd 35 ?_ | (refine tr_guard (t := 86) rfl (fun hb => ?_) (fun hb => ?_) <;> (try simp only [kk] at hb) <;> first | refine wSkip 35 ?_ | refine wSkipU 35 ?_ | refine wLd 35 ?_))
            all_goals (first | refine wSkip 36 ?_ | refine wSkipU 36 ?_ | refine wCm 36 ?_ | (refine tr_guard (t := 86) rfl (fun hb => ?_) (fun hb => ?_) <;> (try simp only [kk] at hb) <;> first | refine wSkip 36 ?_ | refine wSkipU 36 ?_ | refine wCm 36 ?_))
            all_goals refine rPk 37 ?_
            all_goals refine rDone ?_
            all_goals (repeat' (first | (refine iBu ?_; refine tl_y (y_buildN rfl) rfl rfl ?_) | (refine i_op ?_; first | (refine i_qq ?_; refine qQ ?_) | refine qEf ?_) | refine tl_nil ?_ | (refine i_tc ?_; refine qTc ?_) | (refine i_te ?_; refine qTe ?_) | intro _))
            all_goals rw [← e1]
            all_goals refine te_round_g (k + 1, y.lsn) (⟨hlt, hok, by dsimp only; omega, fun h => by omega, hnext⟩) ev_le ev_le rfl tk inferInstance (by first | omega | (dsimp only; omega))
          · rw [decide_eq_false hy, Bool.false_and] at hok
            subst hok
            rw [Bool.false_and]
            repeat' (first | (refine iBu ?_; refine tl_y (y_buildN rfl) rfl rfl ?_) | (refine i_op ?_; first | (refine i_qq ?_; refine qQ ?_) | refine qEf ?_) | refine tl_nil ?_ | (refine i_tc ?_; refine qTc ?_) | (refine i_te ?_; refine qTe ?_) | intro _)
            refine tc_any (Stays _ _ _) stays_refl ?_
            all_goals refine rFa 0 ?_
            all_goals refine rFull ?_
            all_goals refine rLd 1 ?_
            all_goals refine rFa 2 ?_
            all_goals refine rLd 3 ?_
            all_goals refine rCm 4 ?_
            all_goals refine rMv 5 ?_
            all_goals (first | refine wSkip 6 ?_ | refine wSkipU 6 ?_ | refine wFa 6 ?_ | (refine tr_guard (t := 58) rfl (fun hb => ?_) (fun hb => ?_) <;> (try simp only [kk] at hb) <;> first | refine wSkip 6 ?_ | refine wSkipU 6 ?_ | refine wFa 6 ?_))
            all_goals (first | refine wSkip 7 ?_ | refine wSkipU 7 ?_ | refine wLd 7 ?_ | (refine tr_guard (t := 58) rfl (fun hb => ?_) (fun hb => ?_) <;> (try simp only [kk] at hb) <;> first | refine wSkip 7 ?_ | refine wSkipU 7 ?_ | refine wLd 7 ?_))
            all_goals (first | refine wSkip 8 ?_ | refine wSkipU 8 ?_ | refine wFa 8 ?_ | (refine tr_guard (t := 58) rfl (fun hb => ?_) (fun hb => ?_) <;> (try simp only [kk] at hb) <;> first | refine wSkip 8 ?_ | refine wSkipU 8 ?_ | refine wFa 8 ?_))
            all_goals (first | refine wSkip 9 ?_ | refine wSkipU 9 ?_ | refine wLd 9 ?_ | (refine tr_guard (t := 58) rfl (fun hb => ?_) (fun hb => ?_) <;> (try simp only [kk] at hb) <;> first | refine wSkip 9 ?_ | refine wSkipU 9 ?_ | refine wLd 9 ?_))
            all_goals (first | refine wSkip 10 ?_ | refine wSkipU 10 ?_ | refine wCm 10 ?_ | (refine tr_guard (t := 58) rfl (fun hb => ?_) (fun hb => ?_) <;> (try simp only [kk] at hb) <;> first | refine wSkip 10 ?_ | refine wSkipU 10 ?_ | refine wCm 10 ?_))
            all_goals refine rPk 11 ?_
            all_goals refine rMv 12 ?_
            all_goals (first | refine wSkip 13 ?_ | refine wSkipU 13 ?_ | refine wMv 13 ?_ | (refine tr_guard (t := 65) rfl (fun hb => ?_) (fun hb => ?_) <;> (try simp only [kk] at hb) <;> first | refine wSkip 13 ?_ | refine wSkipU 13 ?_ | refine wMv 13 ?_))
            all_goals (first | refine wSkip 14 ?_ | refine wSkipU 14 ?_ | refine wCm 14 ?_ | (refine tr_guard (t := 65) rfl (fun hb => ?_) (fun hb => ?_) <;> (try simp only [kk] at hb) <;> first | refine wSkip 14 ?_ | refine wSkipU 14 ?_ | refine wCm 14 ?_))
            all_goals (first | refine wSkip 15 ?_ | refine wSkipU 15 ?_ | refine wMv 15 ?_ | (refine tr_guard (t := 65) rfl (fun hb => ?_) (fun hb => ?_) <;> (try simp only [kk] at hb) <;> first | refine wSkip 15 ?_ | refine wSkipU 15 ?_ | refine wMv 15 ?_))
            all_goals (first | refine wSkip 16 ?_ | refine wSkipU 16 ?_ | refine wFa 16 ?_ | (refine tr_guard (t := 68) rfl (fun hb => ?_) (fun hb => ?_) <;> (try simp only [kk] at hb) <;> first | refine wSkip 16 ?_ | refine wSkipU 16 ?_ | refine wFa 16 ?_))
            all_goals (first | refine wSkip 17 ?_ | refine wSkipU 17 ?_ | refine wLd 17 ?_ | (refine tr_guard (t := 68) rfl (fun hb => ?_) (fun hb => ?_) <;> (try simp only [kk] at hb) <;> first | refine wSkip 17 ?_ | refine wSkipU 17 ?_ | refine wLd 17 ?_))
            all_goals (first | refine wSkip 18 ?_ | refine wSkipU 18 ?_ | refine wMv 18 ?_ | (refine tr_guard (t := 68) rfl (fun hb => ?_) (fun hb => ?_) <;> (try simp only [kk] at hb) <;> first | refine wSkip 18 ?_ | refine wSkipU 18 ?_ | refine wMv 18 ?_))
            all_goals (first | refine wSkip 19 ?_ | refine wSkipU 19 ?_ | refine wSb 19 ?_ | (refine tr_guard (t := 68) rfl (fun hb => ?_) (fun hb => ?_) <;> (try simp only [kk] at hb) <;> first | refine wSkip 19 ?_ | refine wSkipU 19 ?_ | refine wSb 19 ?_))
            all_goals (first | refine wSkip 20 ?_ | refine wSkipU 20 ?_ | refine wIa 20 ?_ | (refine tr_guard (t := 68) rfl (fun hb => ?_) (fun hb => ?_) <;> (try simp only [kk] at hb) <;> first | refine wSkip 20 ?_ | refine wSkipU 20 ?_ | refine wIa 20 ?_))
            all_goals (first | refine wSkip 21 ?_ | refine wSkipU 21 ?_ | refine wFa 21 ?_ | (refine tr_guard (t := 68) rfl (fun hb => ?_) (fun hb => ?_) <;> (try simp only [kk] at hb) <;> first | refine wSkip 21 ?_ | refine wSkipU 21 ?_ | refine wFa 21 ?_))
            all_goals (first | refine wSkip 22 ?_ | refine wSkipU 22 ?_ | refine wLd 22 ?_ | (refine tr_guard (t := 68) rfl (fun hb => ?_) (fun hb => ?_) <;> (try simp only [kk] at hb) <;> first | refine wSkip 22 ?_ | refine wSkipU 22 ?_ | refine wLd 22 ?_))
            all_goals (first | refine wSkip 23 ?_ | refine wSkipU 23 ?_ | refine wFa 23 ?_ | (refine tr_guard (t := 68) rfl (fun hb => ?_) (fun hb => ?_) <;> (try simp only [kk] at hb) <;> first | refine wSkip 23 ?_ | refine wSkipU 23 ?_ | refine wFa 23 ?_))
            all_goals (first | refine wSkip 24 ?_ | refine wSkipU 24 ?_ | refine wLd 24 ?_ | (refine tr_guard (t := 68) rfl (fun hb => ?_) (fun hb => ?_) <;> (try simp only [kk] at hb) <;> first | refine wSkip 24 ?_ | refine wSkipU 24 ?_ | refine wLd 24 ?_))
            all_goals (first | refine wSkip 25 ?_ | refine wSkipU 25 ?_ | refine wCm 25 ?_ | (refine tr_guard (t := 68) rfl (fun hb => ?_) (fun hb => ?_) <;> (try simp only [kk] at hb) <;> first | refine wSkip 25 ?_ | refine wSkipU 25 ?_ | refine wCm 25 ?_))
            all_goals (first | refine wSkip 26 ?_ | refine wSkipU 26 ?_ | refine wPk 26 ?_ | (refine tr_guard (t := 65) rfl (fun hb => ?_) (fun hb => ?_) <;> (try simp only [kk] at hb) <;> first | refine wSkip 26 ?_ | refine wSkipU 26 ?_ | refine wPk 26 ?_))
            all_goals refine rPk 27 ?_
            all_goals refine rMv 28 ?_
            all_goals (first | refine wSkip 29 ?_ | refine wSkipU 29 ?_ | refine wFa 29 ?_ | (refine tr_guard (t := 81) rfl (fun hb => ?_) (fun hb => ?_) <;> (try simp only [kk] at hb) <;> first | refine wSkip 29 ?_ | refine wSkipU 29 ?_ | refine wFa 29 ?_))
            all_goals (first | refine wSkip 30 ?_ | refine wSkipU 30 ?_ | refine wLd 30 ?_ | (refine tr_guard (t := 81) rfl (fun hb => ?_) (fun hb => ?_) <;> (try simp only [kk] at hb) <;> first | refine wSkip 30 ?_ | refine wSkipU 30 ?_ | refine wLd 30 ?_))
            all_goals (first | refine wSkip 31 ?_ | refine wSkipU 31 ?_ | refine wCm 31 ?_ | (refine tr_guard (t := 81) rfl (fun hb => ?_) (fun hb => ?_) <;> (try simp only [kk] at hb) <;> first | refine wSkip 31 ?_ | refine wSkipU 31 ?_ | refine wCm 31 ?_))
            all_goals refine rPk 32 ?_
            all_goals refine rMv 33 ?_
            all_goals (first | refine wSkip 34 ?_ | refine wSkipU 34 ?_ | refine wFa 34 ?_ | (refine tr_guard (t := 86) rfl (fun hb => ?_) (fun hb => ?_) <;> (try simp only [kk] at hb) <;> first | refine wSkip 34 ?_ | refine wSkipU 34 ?_ | refine wFa 34 ?_))
            all_goals (first | refine wSkip 35 ?_ | refine wSkipU 35 ?_ | refine wLd 35 ?_ | (refine tr_guard (t := 86) rfl (fun hb => ?_) (fun hb => ?_) <;> (try simp only [kk] at hb) <;> first | refine wSkip 35 ?_ | refine wSkipU 35 ?_ | refine wLd 35 ?_))
            all_goals (first | refine wSkip 36 ?_ | refine wSkipU 36 ?_ | refine wCm 36 ?_ | (refine tr_guard (t := 86) rfl (fun hb => ?_) (fun hb => ?_) <;> (try simp only [kk] at hb) <;> first | refine wSkip 36 ?_ | refine wSkipU 36 ?_ | refine wCm 36 ?_))
            all_goals refine rPk 37 ?_
            all_goals refine rDone ?_
            all_goals (repeat' (first | (refine iBu ?_; refine tl_y (y_buildN rfl) rfl rfl ?_) | (refine i_op ?_; first | (refine i_qq ?_; refine qQ ?_) | refine qEf ?_) | refine tl_nil ?_ | (refine i_tc ?_; refine qTc ?_) | (refine i_te ?_; refine qTe ?_) | (refine i_gd ?_; refine tl_guard rfl rfl (fun hb => ?_) (fun hb => ?_) <;> (try simp only [decide_eq_true_eq, decide_eq_false_iff_not, Bool.not_eq_true, Bool.not_eq_false, beq_iff_eq, bne_iff_ne, ne_eq, decide_eq_decide, Bool.not_eq_eq_eq_not, Bool.not_true, Bool.not_false, beq_eq_false_iff_ne, bne_eq_false_iff_eq, Bool.and_eq_true, Bool.or_eq_true, Bool.and_eq_false_imp, Bool.or_eq_false_iff, bq2, bqt, bqf] at hb)) | (refine i_cond ?_; refine tc_cond rfl (fun hb => ?_) (fun hb => ?_) <;> (try simp only [decide_eq_true_eq, decide_eq_false_iff_not, Bool.not_eq_true, Bool.not_eq_false, beq_iff_eq, bne_iff_ne, ne_eq, decide_eq_decide, Bool.not_eq_eq_eq_not, Bool.not_true, Bool.not_false, beq_eq_false_iff_ne, bne_eq_false_iff_eq, Bool.and_eq_true, Bool.or_eq_true, Bool.and_eq_false_imp, Bool.or_eq_false_iff, bq2, bqt, bqf] at hb)) | intro _))
            all_goals first | exact qE (L' := []) ⟨rfl, rfl, rfl⟩ | (exfalso; omega)
      · have hk2 : k = x.stack.length := by omega
        rw [hk2, List.drop_length, stackB] at hok
        subst hok
        rw [Bool.true_and]
        repeat' (first | (refine iBu ?_; refine tl_y (y_buildN rfl) rfl rfl ?_) | (refine i_op ?_; first | (refine i_qq ?_; refine qQ ?_) | refine qEf ?_) | refine tl_nil ?_ | (refine i_tc ?_; refine qTc ?_) | (refine i_te ?_; refine qTe ?_) | intro _)
        refine tc_loop_g [(1, _), (93, _), (94, _)] (fun (ζ : (Nat)) => [(95, .int .i64 ζ), (2, .bool false)]) (fun (ζ : (Nat)) => ρ) (fun (ζ : (Nat)) => [[(bx, .cells ⟨txV x⟩ 72 (0, 0))]]) (fun (ζ : (Nat)) => ζ ≤ x.mv.n ∧ ∀ i, i < ζ → markP x i) (fun (ζ : (Nat)) => x.mv.n - ζ) (0) (⟨Nat.zero_le _, fun i hi => absurd hi (Nat.not_lt_zero i)⟩) ev_le ev_le rfl tk ?_
        rintro j hI
        try simp only [List.cons_append, List.nil_append, List.append_assoc, List.append_eq] at hI ⊢
        try dsimp only at hI ⊢
        obtain ⟨hj, hall⟩ := hI
        by_cases hlt2 : j < x.mv.n
        · obtain ⟨b, off, C, T, fr, e1, hb, hc⟩ := h.m.get (show j < x.marks.length by omega)
          have hall2 : markP x j → ∀ i, i < j + 1 → markP x i := fun hm i hi => by
            by_cases e : i = j
            · rw [e]; exact hm
            · exact hall i (by omega)
          have hbad := fun (e : ¬ markP x j) => marks_bad (show j < x.marks.length by omega) e
          have gj : x.marks.getD j 0 = x.marks[j]'(by omega) := getD_get (by omega)
          unfold markP at hall2 hbad
          rw [gj] at hall2 hbad
          generalize x.marks[j]'(by omega) = y at *
          (try dsimp only [txV]); rw [e1]
          by_cases hz : j = 0
          · by_cases hy : x.first ≤ y ∧ y ≤ x.undo
            · repeat' (first | (refine iBu ?_; refine tl_y (y_buildN rfl) rfl rfl ?_) | (refine i_op ?_; first | (refine i_qq ?_; refine qQ ?_) | refine qEf ?_) | refine tl_nil ?_ | (refine i_tc ?_; refine qTc ?_) | (refine i_te ?_; refine qTe ?_) | intro _)
              rw [← e1]
              refine te_round_g (j + 1) (⟨hlt2, fun i hi => by have := hall2 ⟨hy.1, hy.2, .inl hz⟩ i hi; exact this⟩) ev_le ev_le rfl tk inferInstance (by first | omega | (dsimp only; omega))
            · rw [hbad (by omega)]
              repeat' (first | (refine iBu ?_; refine tl_y (y_buildN rfl) rfl rfl ?_) | (refine i_op ?_; first | (refine i_qq ?_; refine qQ ?_) | refine qEf ?_) | refine tl_nil ?_ | (refine i_tc ?_; refine qTc ?_) | (refine i_te ?_; refine qTe ?_) | (refine i_gd ?_; refine tl_guard rfl rfl (fun hb => ?_) (fun hb => ?_) <;> (try simp only [decide_eq_true_eq, decide_eq_false_iff_not, Bool.not_eq_true, Bool.not_eq_false, beq_iff_eq, bne_iff_ne, ne_eq, decide_eq_decide, Bool.not_eq_eq_eq_not, Bool.not_true, Bool.not_false, beq_eq_false_iff_ne, bne_eq_false_iff_eq, Bool.and_eq_true, Bool.or_eq_true, Bool.and_eq_false_imp, Bool.or_eq_false_iff, bq2, bqt, bqf] at hb)) | (refine i_cond ?_; refine tc_cond rfl (fun hb => ?_) (fun hb => ?_) <;> (try simp only [decide_eq_true_eq, decide_eq_false_iff_not, Bool.not_eq_true, Bool.not_eq_false, beq_iff_eq, bne_iff_ne, ne_eq, decide_eq_decide, Bool.not_eq_eq_eq_not, Bool.not_true, Bool.not_false, beq_eq_false_iff_ne, bne_eq_false_iff_eq, Bool.and_eq_true, Bool.or_eq_true, Bool.and_eq_false_imp, Bool.or_eq_false_iff, bq2, bqt, bqf] at hb)) | intro _)
              all_goals first | exact qE (L' := []) ⟨rfl, rfl, rfl⟩ | (exfalso; omega)
          · obtain ⟨b2, off2, C2, T2, fr2, f1, hb2, hc2⟩ := h.m.get (show j - 1 < x.marks.length by omega)
            have gp : x.marks.getD (j - 1) 0 = x.marks[j - 1]'(by omega) := getD_get (by omega)
            rw [gp] at hall2 hbad
            generalize x.marks[j - 1]'(by omega) = p at *
            rw [e1] at f1
            cases f1
            rw [hb] at hb2
            cases hb2
            have ek : ((j : Int) - 1).toNat = j - 1 := by omega
            rw [← ek] at hc2
            by_cases hy : x.first ≤ y ∧ y ≤ x.undo ∧ p ≤ y
            · repeat' (first | (refine iBu ?_; refine tl_y (y_buildN rfl) rfl rfl ?_) | (refine i_op ?_; first | (refine i_qq ?_; refine qQ ?_) | refine qEf ?_) | refine tl_nil ?_ | (refine i_tc ?_; refine qTc ?_) | (refine i_te ?_; refine qTe ?_) | intro _)
              rw [← e1]
              refine te_round_g (j + 1) (⟨hlt2, fun i hi => by have := hall2 ⟨hy.1, hy.2.1, .inr hy.2.2⟩ i hi; exact this⟩) ev_le ev_le rfl tk inferInstance (by first | omega | (dsimp only; omega))
            · rw [hbad (by omega)]
              repeat' (first | (refine iBu ?_; refine tl_y (y_buildN rfl) rfl rfl ?_) | (refine i_op ?_; first | (refine i_qq ?_; refine qQ ?_) | refine qEf ?_) | refine tl_nil ?_ | (refine i_tc ?_; refine qTc ?_) | (refine i_te ?_; refine qTe ?_) | (refine i_gd ?_; refine tl_guard rfl rfl (fun hb => ?_) (fun hb => ?_) <;> (try simp only [decide_eq_true_eq, decide_eq_false_iff_not, Bool.not_eq_true, Bool.not_eq_false, beq_iff_eq, bne_iff_ne, ne_eq, decide_eq_decide, Bool.not_eq_eq_eq_not, Bool.not_true, Bool.not_false, beq_eq_false_iff_ne, bne_eq_false_iff_eq, Bool.and_eq_true, Bool.or_eq_true, Bool.and_eq_false_imp, Bool.or_eq_false_iff, bq2, bqt, bqf] at hb)) | (refine i_cond ?_; refine tc_cond rfl (fun hb => ?_) (fun hb => ?_) <;> (try simp only [decide_eq_true_eq, decide_eq_false_iff_not, Bool.not_eq_true, Bool.not_eq_false, beq_iff_eq, bne_iff_ne, ne_eq, decide_eq_decide, Bool.not_eq_eq_eq_not, Bool.not_true, Bool.not_false, beq_eq_false_iff_ne, bne_eq_false_iff_eq, Bool.and_eq_true, Bool.or_eq_true, Bool.and_eq_false_imp, Bool.or_eq_false_iff, bq2, bqt, bqf] at hb)) | intro _)
              all_goals first | exact qE (L' := []) ⟨rfl, rfl, rfl⟩ | (exfalso; omega)
        · have hj2 : j = x.mv.n := by omega
          subst hj2
          rw [marks_all (by rw [hml]; exact hall) (by omega), hml]
          repeat' (first | (refine iBu ?_; refine tl_y (y_buildN rfl) rfl rfl ?_) | (refine i_op ?_; first | (refine i_qq ?_; refine qQ ?_) | refine qEf ?_) | refine tl_nil ?_ | (refine i_tc ?_; refine qTc ?_) | (refine i_te ?_; refine qTe ?_) | (refine i_gd ?_; refine tl_guard rfl rfl (fun hb => ?_) (fun hb => ?_) <;> (try simp only [decide_eq_true_eq, decide_eq_false_iff_not, Bool.not_eq_true, Bool.not_eq_false, beq_iff_eq, bne_iff_ne, ne_eq, decide_eq_decide, Bool.not_eq_eq_eq_not, Bool.not_true, Bool.not_false, beq_eq_false_iff_ne, bne_eq_false_iff_eq, Bool.and_eq_true, Bool.or_eq_true, Bool.and_eq_false_imp, Bool.or_eq_false_iff, bq2, bqt, bqf] at hb)) | (refine i_cond ?_; refine tc_cond rfl (fun hb => ?_) (fun hb => ?_) <;> (try simp only [decide_eq_true_eq, decide_eq_false_iff_not, Bool.not_eq_true, Bool.not_eq_false, beq_iff_eq, bne_iff_ne, ne_eq, decide_eq_decide, Bool.not_eq_eq_eq_not, Bool.not_true, Bool.not_false, beq_eq_false_iff_ne, bne_eq_false_iff_eq, Bool.and_eq_true, Bool.or_eq_true, Bool.and_eq_false_imp, Bool.or_eq_false_iff, bq2, bqt, bqf] at hb)) | intro _)
          all_goals (refine qF (L' := []) ?_; exact ⟨bool_eq (by first | (simp only [decide_eq_true_eq, Bool.false_eq_true, true_iff, false_iff, beq_iff_eq]; omega) | (simp; omega)), rfl, rfl⟩)
    · have hmk : marksB x = false := by
        unfold marksB
        rw [hml, decide_eq_false (show ¬ x.mv.n = 0 by omega), decide_eq_false (show ¬ (x.state = 1 ∧ x.mv.n ≤ 8) by omega)]; rfl
      rw [hmk, Bool.and_false]
      repeat' (first | (refine iBu ?_; refine tl_y (y_buildN rfl) rfl rfl ?_) | (refine i_op ?_; first | (refine i_qq ?_; refine qQ ?_) | refine qEf ?_) | refine tl_nil ?_ | (refine i_tc ?_; refine qTc ?_) | (refine i_te ?_; refine qTe ?_) | intro _)
      exact qE (L' := []) ⟨rfl, rfl, rfl⟩
  · rw [decide_eq_false hH, Bool.false_and]
    repeat' (first | (refine iBu ?_; refine tl_y (y_buildN rfl) rfl rfl ?_) | (refine i_op ?_; first | (refine i_qq ?_; refine qQ ?_) | refine qEf ?_) | refine tl_nil ?_ | (refine i_tc ?_; refine qTc ?_) | (refine i_te ?_; refine qTe ?_) | (refine i_gd ?_; refine tl_guard rfl rfl (fun hb => ?_) (fun hb => ?_) <;> (try simp only [decide_eq_true_eq, decide_eq_false_iff_not, Bool.not_eq_true, Bool.not_eq_false, beq_iff_eq, bne_iff_ne, ne_eq, decide_eq_decide, Bool.not_eq_eq_eq_not, Bool.not_true, Bool.not_false, beq_eq_false_iff_ne, bne_eq_false_iff_eq, Bool.and_eq_true, Bool.or_eq_true, Bool.and_eq_false_imp, Bool.or_eq_false_iff, bq2, bqt, bqf] at hb)) | (refine i_cond ?_; refine tc_cond rfl (fun hb => ?_) (fun hb => ?_) <;> (try simp only [decide_eq_true_eq, decide_eq_false_iff_not, Bool.not_eq_true, Bool.not_eq_false, beq_iff_eq, bne_iff_ne, ne_eq, decide_eq_decide, Bool.not_eq_eq_eq_not, Bool.not_true, Bool.not_false, beq_eq_false_iff_ne, bne_eq_false_iff_eq, Bool.and_eq_true, Bool.or_eq_true, Bool.and_eq_false_imp, Bool.or_eq_false_iff, bq2, bqt, bqf] at hb)) | intro _)
    all_goals first | exact qE (L' := []) ⟨rfl, rfl, rfl⟩ | (exfalso; omega)
end Go.Proofs.E

namespace Go.Proofs.E
open Go
set_option linter.unusedVariables false
set_option linter.unusedSimpArgs false
set_option linter.unusedSectionVars false
set_option maxRecDepth 4000
set_option maxHeartbeats 1000000
attribute [local irreducible] Yl TL TC TE Spec YSpec R1 Hp.le EnvLe TS TR YS Stays
-- BN
theorem txOk_18 {next last : Int} {x : Tx} : txOk next last x = (decide (last < x.num ∧ x.num < next) && tx18B x) := by
  unfold txOk txHead tx18B
  rw [Bool.eq_iff_iff]
  simp only [Bool.and_eq_true, decide_eq_true_eq]
  constructor
  · rintro ⟨⟨h1, h2, h3⟩, h4⟩; exact ⟨⟨h1, h2⟩, h3, h4⟩
  · rintro ⟨⟨h1, h2⟩, h3, h4⟩; exact ⟨⟨h1, h2, h3⟩, h4⟩
theorem right18_spec (ρ : Hp) (v : SV) (r : Ros) (h : RosIn ρ v r) : Spec Tryz.prog 48 [.agg ⟨rosV v r⟩] ρ [] (fun z ρ' L' => z = .bool (rosOk r) ∧ ρ' = ρ ∧ L' = []) := by
  have hl := h.at'.at'.len
  have hn := h.at'.big
  have hA := h.at'.at'
  unfold rosOk
  rw [hl]
  refine spec_enter Tryz.func48 rfl rfl rfl fun u R => ?_
  simp only [argsE, List.cons_append, List.nil_append]
  by_cases hH : 1 ≤ r.next ∧ r.next ≤ 1073741824 ∧ v.n ≤ 8
  · rw [decide_eq_true hH, Bool.true_and]
    generalize hq : txsB r.next 0 r.txns = q
    repeat' (first | (refine iBu ?_; refine tl_y (y_buildN rfl) rfl rfl ?_) | (refine i_op ?_; first | (refine i_qq ?_; refine qQ ?_) | refine qEf ?_) | refine tl_nil ?_ | (refine i_tc ?_; refine qTc ?_) | (refine i_te ?_; refine qTe ?_) | intro _)
    rename_i bx
    refine tc_loop_g [(1, _), (20, _), (21, _)] (fun (ζ : (Nat) × (Int)) => [(22, .int .i64 ζ.1), (2, .bool false)]) (fun (ζ : (Nat) × (Int)) => ρ) (fun (ζ : (Nat) × (Int)) => [[(bx, .cells ⟨rosV v r⟩ 34 (0, 0))]]) (fun (ζ : (Nat) × (Int)) => ζ.1 ≤ v.n ∧ txsB r.next ζ.2 (r.txns.drop ζ.1) = q ∧ 0 ≤ ζ.2 ∧ (ζ.1 = 0 → ζ.2 = 0) ∧ (∀ y, 0 < ζ.1 → r.txns[ζ.1 - 1]? = some y → y.num = ζ.2)) (fun (ζ : (Nat) × (Int)) => v.n - ζ.1) ((0, 0)) (⟨Nat.zero_le _, hq, Int.le_refl _, fun _ => rfl, fun _ h => absurd h (Nat.lt_irrefl _)⟩) ev_le ev_le rfl tk ?_
    rintro ⟨k, last⟩ hI
    try simp only [List.cons_append, List.nil_append, List.append_assoc, List.append_eq] at hI ⊢
    try dsimp only at hI ⊢
    obtain ⟨hk, hok, hl0, hk0, hky⟩ := hI
    by_cases hlt : k < v.n
    · obtain ⟨b, off, C, T, fr, e1, hb, hfit, hc⟩ := hA.get (show k < r.txns.length by omega)
      have hmem := List.getElem_mem (show k < r.txns.length by omega)
      have hnext : ∀ y, 0 < k + 1 → r.txns[k + 1 - 1]? = some y → y.num = (r.txns[k]'(by omega)).num := fun y _ hy => by
        rw [Nat.add_sub_cancel, List.getElem?_eq_getElem (by omega)] at hy
        rw [Option.some.inj hy]
      rw [List.drop_eq_getElem_cons (show k < r.txns.length by omega), txsB, txOk_18] at hok
      generalize r.txns[k]'(by omega) = y at *
      have ht := txn18_spec ρ y (h.tx y hmem)
      generalize tx18B y = ty at *
      by_cases hz : k = 0
      · have hl00 := hk0 hz
        (try dsimp only [rosV]); rw [e1]
        by_cases hy : last < y.num ∧ y.num < r.next
        · rw [decide_eq_true hy, Bool.true_and] at hok
          cases ty
          · rw [Bool.false_and] at hok
            subst hok
            repeat' (first | (refine iBu ?_; refine tl_y (y_buildN rfl) rfl rfl ?_) | (refine i_op ?_; first | (refine i_qq ?_; refine qQ ?_) | refine qEf ?_) | refine tl_nil ?_ | (refine i_tc ?_; refine qTc ?_) | (refine i_te ?_; refine qTe ?_) | intro _)
            refine tc_any (Stays _ _ _) stays_refl ?_
            all_goals refine rFa 0 ?_
            all_goals refine rLd 1 ?_
            all_goals refine rCm 2 ?_
            all_goals refine rMv 3 ?_
            all_goals (first | refine wSkip 4 ?_ | refine wSkipU 4 ?_ | refine wFa 4 ?_ | (refine tr_guard (t := 30) rfl (fun hb => ?_) (fun hb => ?_) <;> (try simp only [kk] at hb) <;> first | refine wSkip 4 ?_ | refine wSkipU 4 ?_ | refine wFa 4 ?_))
            all_goals (first | refine wSkip 5 ?_ | refine wSkipU 5 ?_ | refine wLd 5 ?_ | (refine tr_guard (t := 30) rfl (fun hb => ?_) (fun hb => ?_) <;> (try simp only [kk] at hb) <;> first | refine wSkip 5 ?_ | refine wSkipU 5 ?_ | refine wLd 5 ?_))
            all_goals (first | refine wSkip 6 ?_ | refine wSkipU 6 ?_ | refine wFa 6 ?_ | (refine tr_guard (t := 30) rfl (fun hb => ?_) (fun hb => ?_) <;> (try simp only [kk] at hb) <;> first | refine wSkip 6 ?_ | refine wSkipU 6 ?_ | refine wFa 6 ?_))
            all_goals (first | refine wSkip 7 ?_ | refine wSkipU 7 ?_ | refine wLd 7 ?_ | (refine tr_guard (t := 30) rfl (fun hb => ?_) (fun hb => ?_) <;> (try simp only [kk] at hb) <;> first | refine wSkip 7 ?_ | refine wSkipU 7 ?_ | refine wLd 7 ?_))
            all_goals (first | refine wSkip 8 ?_ | refine wSkipU 8 ?_ | refine wCm 8 ?_ | (refine tr_guard (t := 30) rfl (fun hb => ?_) (fun hb => ?_) <;> (try simp only [kk] at hb) <;> first | refine wSkip 8 ?_ | refine wSkipU 8 ?_ | refine wCm 8 ?_))
            all_goals refine rPk 9 ?_
            all_goals refine rMv 10 ?_
            all_goals (first | refine wSkip 11 ?_ | refine wSkipU 11 ?_ | refine wMv 11 ?_ | (refine tr_guard (t := 37) rfl (fun hb => ?_) (fun hb => ?_) <;> (try simp only [kk] at hb) <;> first | refine wSkip 11 ?_ | refine wSkipU 11 ?_ | refine wMv 11 ?_))
            all_goals (first | refine wSkip 12 ?_ | refine wSkipU 12 ?_ | refine wCm 12 ?_ | (refine tr_guard (t := 37) rfl (fun hb => ?_) (fun hb => ?_) <;> (try simp only [kk] at hb) <;> first | refine wSkip 12 ?_ | refine wSkipU 12 ?_ | refine wCm 12 ?_))
            all_goals (first | refine wSkip 13 ?_ | refine wSkipU 13 ?_ | refine wMv 13 ?_ | (refine tr_guard (t := 37) rfl (fun hb => ?_) (fun hb => ?_) <;> (try simp only [kk] at hb) <;> first | refine wSkip 13 ?_ | refine wSkipU 13 ?_ | refine wMv 13 ?_))
            all_goals (first | refine wSkip 14 ?_ | refine wSkipU 14 ?_ | refine wFa 14 ?_ | (refine tr_guard (t := 40) rfl (fun hb => ?_) (fun hb => ?_) <;> (try simp only [kk] at hb) <;> first | refine wSkip 14 ?_ | refine wSkipU 14 ?_ | refine wFa 14 ?_))
            all_goals (first | refine wSkip 15 ?_ | refine wSkipU 15 ?_ | refine wLd 15 ?_ | (refine tr_guard (t := 40) rfl (fun hb => ?_) (fun hb => ?_) <;> (try simp only [kk] at hb) <;> first | refine wSkip 15 ?_ | refine wSkipU 15 ?_ | refine wLd 15 ?_))
            all_goals (first | refine wSkip 16 ?_ | refine wSkipU 16 ?_ | refine wMv 16 ?_ | (refine tr_guard (t := 40) rfl (fun hb => ?_) (fun hb => ?_) <;> (try simp only [kk] at hb) <;> first | refine wSkip 16 ?_ | refine wSkipU 16 ?_ | refine wMv 16 ?_))
            all_goals (first | refine wSkip 17 ?_ | refine wSkipU 17 ?_ | refine wSb 17 ?_ | (refine tr_guard (t := 40) rfl (fun hb => ?_) (fun hb => ?_) <;> (try simp only [kk] at hb) <;> first | refine wSkip 17 ?_ | refine wSkipU 17 ?_ | refine wSb 17 ?_))
            all_goals (first | refine wSkip 18 ?_ | refine wSkipU 18 ?_ | refine wIa 18 ?_ | (refine tr_guard (t := 40) rfl (fun hb => ?_) (fun hb => ?_) <;> (try simp only [kk] at hb) <;> first | refine wSkip 18 ?_ | refine wSkipU 18 ?_ | refine wIa 18 ?_))
            all_goals (first | refine wSkip 19 ?_ | refine wSkipU 19 ?_ | refine wFa 19 ?_ | (refine tr_guard (t := 40) rfl (fun hb => ?_) (fun hb => ?_) <;> (try simp only [kk] at hb) <;> first | refine wSkip 19 ?_ | refine wSkipU 19 ?_ | refine wFa 19 ?_))
            all_goals (first | refine wSkip 20 ?_ | refine wSkipU 20 ?_ | refine wLd 20 ?_ | (refine tr_guard (t := 40) rfl (fun hb => ?_) (fun hb => ?_) <;> (try simp only [kk] at hb) <;> first | refine wSkip 20 ?_ | refine wSkipU 20 ?_ | refine wLd 20 ?_))
            all_goals (first | refine wSkip 21 ?_ | refine wSkipU 21 ?_ | refine wFa 21 ?_ | (refine tr_guard (t := 40) rfl (fun hb => ?_) (fun hb => ?_) <;> (try simp only [kk] at hb) <;> first | refine wSkip 21 ?_ | refine wSkipU 21 ?_ | refine wFa 21 ?_))
            all_goals (first | refine wSkip 22 ?_ | refine wSkipU 22 ?_ | refine wLd 22 ?_ | (refine tr_guard (t := 40) rfl (fun hb => ?_) (fun hb => ?_) <;> (try simp only [kk] at hb) <;> first | refine wSkip 22 ?_ | refine wSkipU 22 ?_ | refine wLd 22 ?_))
            all_goals (first | refine wSkip 23 ?_ | refine wSkipU 23 ?_ | refine wCm 23 ?_ | (refine tr_guard (t := 40) rfl (fun hb => ?_) (fun hb => ?_) <;> (try simp only [kk] at hb) <;> first | refine wSkip 23 ?_ | refine wSkipU 23 ?_ | refine wCm 23 ?_))
            all_goals (first | refine wSkip 24 ?_ | refine wSkipU 24 ?_ | refine wPk 24 ?_ | (refine tr_guard (t := 37) rfl (fun hb => ?_) (fun hb => ?_) <;> (try simp only [kk] at hb) <;> first | refine wSkip 24 ?_ | refine wSkipU 24 ?_ | refine wPk 24 ?_))
            all_goals refine rPk 25 ?_
            all_goals refine rMv 26 ?_
            all_goals (first | refine wSkip 27 ?_ | refine wSkipU 27 ?_ | refine wLd 27 ?_ | (refine tr_guard (t := 53) rfl (fun hb => ?_) (fun hb => ?_) <;> (try simp only [kk] at hb) <;> first | refine wSkip 27 ?_ | refine wSkipU 27 ?_ | refine wLd 27 ?_))
            all_goals (first | refine wSkip 28 ?_ | refine wSkipU 28 ?_ | (refine rStep (i := 28) ?_; ((try refine qWant ?_); (first | (refine tl_is (.func 129) ?_; refine qC rfl rfl (ht) ?_; rintro v ρ' L' hle ⟨rfl, rfl, rfl⟩ <;> (try simp only [kM, kN, kO])) | (refine qEf ?_; try intro _)) <;> ((try simp only [kM, kN, kO]); refine tl_nil ?_; refine rNext ?_))))
            all_goals refine rFull ?_
            all_goals (first | refine wSkip 29 ?_ | refine wSkipU 29 ?_ | refine wUn 29 ?_ | (refine tr_guard (t := 53) rfl (fun hb => ?_) (fun hb => ?_) <;> (try simp only [kk] at hb) <;> first | refine wSkip 29 ?_ | refine wSkipU 29 ?_ | refine wUn 29 ?_))
            all_goals refine rPk 30 ?_
            all_goals refine rDone ?_
            all_goals (repeat' (first | (refine iBu ?_; refine tl_y (y_buildN rfl) rfl rfl ?_) | (refine i_op ?_; first | (refine i_qq ?_; refine qQ ?_) | refine qEf ?_) | refine tl_nil ?_ | (refine i_tc ?_; refine qTc ?_) | (refine i_te ?_; refine qTe ?_) | intro _))
            all_goals exact qE (L' := []) ⟨rfl, rfl, rfl⟩
          · rw [Bool.true_and] at hok
            repeat' (first | (refine iBu ?_; refine tl_y (y_buildN rfl) rfl rfl ?_) | (refine i_op ?_; first | (refine i_qq ?_; refine qQ ?_) | refine qEf ?_) | refine tl_nil ?_ | (refine i_tc ?_; refine qTc ?_) | (refine i_te ?_; refine qTe ?_) | intro _)
            refine tc_any (Stays _ _ _) stays_refl ?_
            all_goals refine rFa 0 ?_
            all_goals refine rLd 1 ?_
            all_goals refine rCm 2 ?_
            all_goals refine rMv 3 ?_
            all_goals (first | refine wSkip 4 ?_ | refine wSkipU 4 ?_ | refine wFa 4 ?_ | (refine tr_guard (t := 30) rfl (fun hb => ?_) (fun hb => ?_) <;> (try simp only [kk] at hb) <;> first | refine wSkip 4 ?_ | refine wSkipU 4 ?_ | refine wFa 4 ?_))
            all_goals (first | refine wSkip 5 ?_ | refine wSkipU 5 ?_ | refine wLd 5 ?_ | (refine tr_guard (t := 30) rfl (fun hb => ?_) (fun hb => ?_) <;> (try simp only [kk] at hb) <;> first | refine wSkip 5 ?_ | refine wSkipU 5 ?_ | refine wLd 5 ?_))
            all_goals (first | refine wSkip 6 ?_ | refine wSkipU 6 ?_ | refine wFa 6 ?_ | (refine tr_guard (t := 30) rfl (fun hb => ?_) (fun hb => ?_) <;> (try simp only [kk] at hb) <;> first | refine wSkip 6 ?_ | refine wSkipU 6 ?_ | refine wFa 6 ?_))
            all_goals (first | refine wSkip 7 ?_ | refine wSkipU 7 ?_ | refine wLd 7 ?_ | (refine tr_guard (t := 30) rfl (fun hb => ?_) (fun hb => ?_) <;> (try simp only [kk] at hb) <;> first | refine wSkip 7 ?_ | refine wSkipU 7 ?_ | refine wLd 7 ?_))
            all_goals (first | refine wSkip 8 ?_ | refine wSkipU 8 ?_ | refine wCm 8 ?_ | (refine tr_guard (t := 30) rfl (fun hb => ?_) (fun hb => ?_) <;> (try simp only [kk] at hb) <;> first | refine wSkip 8 ?_ | refine wSkipU 8 ?_ | refine wCm 8 ?_))
            all_goals refine rPk 9 ?_
            all_goals refine rMv 10 ?_
            all_goals (first | refine wSkip 11 ?_ | refine wSkipU 11 ?_ | refine wMv 11 ?_ | (refine tr_guard (t := 37) rfl (fun hb => ?_) (fun hb => ?_) <;> (try simp only [kk] at hb) <;> first | refine wSkip 11 ?_ | refine wSkipU 11 ?_ | refine wMv 11 ?_))
            all_goals (first | refine wSkip 12 ?_ | refine wSkipU 12 ?_ | refine wCm 12 ?_ | (refine tr_guard (t := 37) rfl (fun hb => ?_) (fun hb => ?_) <;> (try simp only [kk] at hb) <;> first | refine wSkip 12 ?_ | refine wSkipU 12 ?_ | refine wCm 12 ?_))
            all_goals (first | refine wSkip 13 ?_ | refine wSkipU 13 ?_ | refine wMv 13 ?_ | (refine tr_guard (t := 37) rfl (fun hb => ?_) (fun hb => ?_) <;> (try simp only [kk] at hb) <;> first | refine wSkip 13 ?_ | refine wSkipU 13 ?_ | refine wMv 13 ?_))
            all_goals (first | refine wSkip 14 ?_ | refine wSkipU 14 ?_ | refine wFa 14 ?_ | (refine tr_guard (t := 40) rfl (fun hb => ?_) (fun hb => ?_) <;> (try simp only [kk] at hb) <;> first | refine wSkip 14 ?_ | refine wSkipU 14 ?_ | refine wFa 14 ?_))
            all_goals (first | refine wSkip 15 ?_ | refine wSkipU 15 ?_ | refine wLd 15 ?_ | (refine tr_guard (t := 40) rfl (fun hb => ?_) (fun hb => ?_) <;> (try simp only [kk] at hb) <;> first | refine wSkip 15 ?_ | refine wSkipU 15 ?_ | refine wLd 15 ?_))
            all_goals (first | refine wSkip 16 ?_ | refine wSkipU 16 ?_ | refine wMv 16 ?_ | (refine tr_guard (t := 40) rfl (fun hb => ?_) (fun hb => ?_) <;> (try simp only [kk] at hb) <;> first | refine wSkip 16 ?_ | refine wSkipU 16 ?_ | refine wMv 16 ?_))
            all_goals (first | refine wSkip 17 ?_ | refine wSkipU 17 ?_ | refine wSb 17 ?_ | (refine tr_guard (t := 40) rfl (fun hb => ?_) (fun hb => ?_) <;> (try simp only [kk] at hb) <;> first | refine wSkip 17 ?_ | refine wSkipU 17 ?_ | refine wSb 17 ?_))
            all_goals (first | refine wSkip 18 ?_ | refine wSkipU 18 ?_ | refine wIa 18 ?_ | (refine tr_guard (t := 40) rfl (fun hb => ?_) (fun hb => ?_) <;> (try simp only [kk] at hb) <;> first | refine wSkip 18 ?_ | refine wSkipU 18 ?_ | refine wIa 18 ?_))
            all_goals (first | refine wSkip 19 ?_ | refine wSkipU 19 ?_ | refine wFa 19 ?_ | (refine tr_guard (t := 40) rfl (fun hb => ?_) (fun hb => ?_) <;> (try simp only [kk] at hb) <;> first | refine wSkip 19 ?_ | refine wSkipU 19 ?_ | refine wFa 19 ?_))
            all_goals (first | refine wSkip 20 ?_ | refine wSkipU 20 ?_ | refine wLd 20 ?_ | (refine tr_guard (t := 40) rfl (fun hb => ?_) (fun hb => ?_) <;> (try simp only [kk] at hb) <;> first | refine wSkip 20 ?_ | refine wSkipU 20 ?_ | refine wLd 20 ?_))
            all_goals (first | refine wSkip 21 ?_ | refine wSkipU 21 ?_ | refine wFa 21 ?_ | (refine tr_guard (t := 40) rfl (fun hb => ?_) (fun hb => ?_) <;> (try simp only [kk] at hb) <;> first | refine wSkip 21 ?_ | refine wSkipU 21 ?_ | refine wFa 21 ?_))
            all_goals (first | refine wSkip 22 ?_ | refine wSkipU 22 ?_ | refine wLd 22 ?_ | (refine tr_guard (t := 40) rfl (fun hb => ?_) (fun hb => ?_) <;> (try simp only [kk] at hb) <;> first | refine wSkip 22 ?_ | refine wSkipU 22 ?_ | refine wLd 22 ?_))
            all_goals (first | refine wSkip 23 ?_ | refine wSkipU 23 ?_ | refine wCm 23 ?_ | (refine tr_guard (t := 40) rfl (fun hb => ?_) (fun hb => ?_) <;> (try simp only [kk] at hb) <;> first | refine wSkip 23 ?_ | refine wSkipU 23 ?_ | refine wCm 23 ?_))
            all_goals (first | refine wSkip 24 ?_ | refine wSkipU 24 ?_ | refine wPk 24 ?_ | (refine tr_guard (t := 37) rfl (fun hb => ?_) (fun hb => ?_) <;> (try simp only [kk] at hb) <;> first | refine wSkip 24 ?_ | refine wSkipU 24 ?_ | refine wPk 24 ?_))
            all_goals refine rPk 25 ?_
            all_goals refine rMv 26 ?_
            all_goals (first | refine wSkip 27 ?_ | refine wSkipU 27 ?_ | refine wLd 27 ?_ | (refine tr_guard (t := 53) rfl (fun hb => ?_) (fun hb => ?_) <;> (try simp only [kk] at hb) <;> first | refine wSkip 27 ?_ | refine wSkipU 27 ?_ | refine wLd 27 ?_))
            all_goals (first | refine wSkip 28 ?_ | refine wSkipU 28 ?_ | (refine rStep (i := 28) ?_; ((try refine qWant ?_); (first | (refine tl_is (.func 129) ?_; refine qC rfl rfl (ht) ?_; rintro v ρ' L' hle ⟨rfl, rfl, rfl⟩ <;> (try simp only [kM, kN, kO])) | (refine qEf ?_; try intro _)) <;> ((try simp only [kM, kN, kO]); refine tl_nil ?_; refine rNext ?_))))
            all_goals refine rFull ?_
            all_goals (first | refine wSkip 29 ?_ | refine wSkipU 29 ?_ | refine wUn 29 ?_ | (refine tr_guard (t := 53) rfl (fun hb => ?_) (fun hb => ?_) <;> (try simp only [kk] at hb) <;> first | refine wSkip 29 ?_ | refine wSkipU 29 ?_ | refine wUn 29 ?_))
            all_goals refine rPk 30 ?_
            all_goals refine rDone ?_
            all_goals (repeat' (first | (refine iBu ?_; refine tl_y (y_buildN rfl) rfl rfl ?_) | (refine i_op ?_; first | (refine i_qq ?_; refine qQ ?_) | refine qEf ?_) | refine tl_nil ?_ | (refine i_tc ?_; refine qTc ?_) | (refine i_te ?_; refine qTe ?_) | intro _))
            all_goals rw [← e1]
            all_goals refine te_round_g (k + 1, y.num) (⟨hlt, hok, by dsimp only; omega, fun h => by omega, hnext⟩) ev_le ev_le rfl tk inferInstance (by first | omega | (dsimp only; omega))
        · rw [decide_eq_false hy, Bool.false_and, Bool.false_and] at hok
          subst hok
          repeat' (first | (refine iBu ?_; refine tl_y (y_buildN rfl) rfl rfl ?_) | (refine i_op ?_; first | (refine i_qq ?_; refine qQ ?_) | refine qEf ?_) | refine tl_nil ?_ | (refine i_tc ?_; refine qTc ?_) | (refine i_te ?_; refine qTe ?_) | intro _)
          refine tc_any (Stays _ _ _) stays_refl ?_
          all_goals refine rFa 0 ?_
          all_goals refine rLd 1 ?_
          all_goals refine rCm 2 ?_
          all_goals refine rMv 3 ?_
          all_goals (first | refine wSkip 4 ?_ | refine wSkipU 4 ?_ | refine wFa 4 ?_ | (refine tr_guard (t := 30) rfl (fun hb => ?_) (fun hb => ?_) <;> (try simp only [kk] at hb) <;> first | refine wSkip 4 ?_ | refine wSkipU 4 ?_ | refine wFa 4 ?_))
          all_goals (first | refine wSkip 5 ?_ | refine wSkipU 5 ?_ | refine wLd 5 ?_ | (refine tr_guard (t := 30) rfl (fun hb => ?_) (fun hb => ?_) <;> (try simp only [kk] at hb) <;> first | refine wSkip 5 ?_ | refine wSkipU 5 ?_ | refine wLd 5 ?_))
          all_goals (first | refine wSkip 6 ?_ | refine wSkipU 6 ?_ | refine wFa 6 ?_ | (refine tr_guard (t := 30) rfl (fun hb => ?_) (fun hb => ?_) <;> (try simp only [kk] at hb) <;> first | refine wSkip 6 ?_ | refine wSkipU 6 ?_ | refine wFa 6 ?_))
          all_goals (first | refine wSkip 7 ?_ | refine wSkipU 7 ?_ | refine wLd 7 ?_ | (refine tr_guard (t := 30) rfl (fun hb => ?_) (fun hb => ?_) <;> (try simp only [kk] at hb) <;> first | refine wSkip 7 ?_ | refine wSkipU 7 ?_ | refine wLd 7 ?_))
          all_goals (first | refine wSkip 8 ?_ | refine wSkipU 8 ?_ | refine wCm 8 ?_ | (refine tr_guard (t := 30) rfl (fun hb => ?_) (fun hb => ?_) <;> (try simp only [kk] at hb) <;> first | refine wSkip 8 ?_ | refine wSkipU 8 ?_ | refine wCm 8 ?_))
          all_goals refine rPk 9 ?_
          all_goals refine rMv 10 ?_
          all_goals (first | refine wSkip 11 ?_ | refine wSkipU 11 ?_ | refine wMv 11 ?_ | (refine tr_guard (t := 37) rfl (fun hb => ?_) (fun hb => ?_) <;> (try simp only [kk] at hb) <;> first | refine wSkip 11 ?_ | refine wSkipU 11 ?_ | refine wMv 11 ?_))
          all_goals (first | refine wSkip 12 ?_ | refine wSkipU 12 ?_ | refine wCm 12 ?_ | (refine tr_guard (t := 37) rfl (fun hb => ?_) (fun hb => ?_) <;> (try simp only [kk] at hb) <;> first | refine wSkip 12 ?_ | refine wSkipU 12 ?_ | refine wCm 12 ?_))
          all_goals (first | refine wSkip 13 ?_ | refine wSkipU 13 ?_ | refine wMv 13 ?_ | (refine tr_guard (t := 37) rfl (fun hb => ?_) (fun hb => ?_) <;> (try simp only [kk] at hb) <;> first | refine wSkip 13 ?_ | refine wSkipU 13 ?_ | refine wMv 13 ?_))
          all_goals (first | refine wSkip 14 ?_ | refine wSkipU 14 ?_ | refine wFa 14 ?_ | (refine tr_guard (t := 40) rfl (fun hb => ?_) (fun hb => ?_) <;> (try simp only [kk] at hb) <;> first | refine wSkip 14 ?_ | refine wSkipU 14 ?_ | refine wFa 14 ?_))
          all_goals (first | refine wSkip 15 ?_ | refine wSkipU 15 ?_ | refine wLd 15 ?_ | (refine tr_guard (t := 40) rfl (fun hb => ?_) (fun hb => ?_) <;> (try simp only [kk] at hb) <;> first | refine wSkip 15 ?_ | refine wSkipU 15 ?_ | refine wLd 15 ?_))
          all_goals (first | refine wSkip 16 ?_ | refine wSkipU 16 ?_ | refine wMv 16 ?_ | (refine tr_guard (t := 40) rfl (fun hb => ?_) (fun hb => ?_) <;> (try simp only [kk] at hb) <;> first | refine wSkip 16 ?_ | refine wSkipU 16 ?_ | refine wMv 16 ?_))
          all_goals (first | refine wSkip 17 ?_ | refine wSkipU 17 ?_ | refine wSb 17 ?_ | (refine tr_guard (t := 40) rfl (fun hb => ?_) (fun hb => ?_) <;> (try simp only [kk] at hb) <;> first | refine wSkip 17 ?_ | refine wSkipU 17 ?_ | refine wSb 17 ?_))
          all_goals (first | refine wSkip 18 ?_ | refine wSkipU 18 ?_ | refine wIa 18 ?_ | (refine tr_guard (t := 40) rfl (fun hb => ?_) (fun hb => ?_) <;> (try simp only [kk] at hb) <;> first | refine wSkip 18 ?_ | refine wSkipU 18 ?_ | refine wIa 18 ?_))
          all_goals (first | refine wSkip 19 ?_ | refine wSkipU 19 ?_ | refine wFa 19 ?_ | (refine tr_guard (t := 40) rfl (fun hb => ?_) (fun hb => ?_) <;> (try simp only [kk] at hb) <;> first | refine wSkip 19 ?_ | refine wSkipU 19 ?_ | refine wFa 19 ?_))
          all_goals (first | refine wSkip 20 ?_ | refine wSkipU 20 ?_ | refine wLd 20 ?_ | (refine tr_guard (t := 40) rfl (fun hb => ?_) (fun hb => ?_) <;> (try simp only [kk] at hb) <;> first | refine wSkip 20 ?_ | refine wSkipU 20 ?_ | refine wLd 20 ?_))
          all_goals (first | refine wSkip 21 ?_ | refine wSkipU 21 ?_ | refine wFa 21 ?_ | (refine tr_guard (t := 40) rfl (fun hb => ?_) (fun hb => ?_) <;> (try simp only [kk] at hb) <;> first | refine wSkip 21 ?_ | refine wSkipU 21 ?_ | refine wFa 21 ?_))
          all_goals (first | refine wSkip 22 ?_ | refine wSkipU 22 ?_ | refine wLd 22 ?_ | (refine tr_guard (t := 40) rfl (fun hb => ?_) (fun hb => ?_) <;> (try simp only [kk] at hb) <;> first | refine wSkip 22 ?_ | refine wSkipU 22 ?_ | refine wLd 22 ?_))
          all_goals (first | refine wSkip 23 ?_ | refine wSkipU 23 ?_ | refine wCm 23 ?_ | (refine tr_guard (t := 40) rfl (fun hb => ?_) (fun hb => ?_) <;> (try simp only [kk] at hb) <;> first | refine wSkip 23 ?_ | refine wSkipU 23 ?_ | refine wCm 23 ?_))
          all_goals (first | refine wSkip 24 ?_ | refine wSkipU 24 ?_ | refine wPk 24 ?_ | (refine tr_guard (t := 37) rfl (fun hb => ?_) (fun hb => ?_) <;> (try simp only [kk] at hb) <;> first | refine wSkip 24 ?_ | refine wSkipU 24 ?_ | refine wPk 24 ?_))
          all_goals refine rPk 25 ?_
          all_goals refine rMv 26 ?_
          all_goals (first | refine wSkip 27 ?_ | refine wSkipU 27 ?_ | refine wLd 27 ?_ | (refine tr_guard (t := 53) rfl (fun hb => ?_) (fun hb => ?_) <;> (try simp only [kk] at hb) <;> first | refine wSkip 27 ?_ | refine wSkipU 27 ?_ | refine wLd 27 ?_))
          all_goals (first | refine wSkip 28 ?_ | refine wSkipU 28 ?_ | (refine rStep (i := 28) ?_; ((try refine qWant ?_); (first | (refine tl_is (.func 129) ?_; refine qC rfl rfl (ht) ?_; rintro v ρ' L' hle ⟨rfl, rfl, rfl⟩ <;> (try simp only [kM, kN, kO])) | (refine qEf ?_; try intro _)) <;> ((try simp only [kM, kN, kO]); refine tl_nil ?_; refine rNext ?_))))
          all_goals refine rFull ?_
          all_goals (first | refine wSkip 29 ?_ | refine wSkipU 29 ?_ | refine wUn 29 ?_ | (refine tr_guard (t := 53) rfl (fun hb => ?_) (fun hb => ?_) <;> (try simp only [kk] at hb) <;> first | refine wSkip 29 ?_ | refine wSkipU 29 ?_ | refine wUn 29 ?_))
          all_goals refine rPk 30 ?_
          all_goals refine rDone ?_
          all_goals (repeat' (first | (refine iBu ?_; refine tl_y (y_buildN rfl) rfl rfl ?_) | (refine i_op ?_; first | (refine i_qq ?_; refine qQ ?_) | refine qEf ?_) | refine tl_nil ?_ | (refine i_tc ?_; refine qTc ?_) | (refine i_te ?_; refine qTe ?_) | (refine i_gd ?_; refine tl_guard rfl rfl (fun hb => ?_) (fun hb => ?_) <;> (try simp only [decide_eq_true_eq, decide_eq_false_iff_not, Bool.not_eq_true, Bool.not_eq_false, beq_iff_eq, bne_iff_ne, ne_eq, decide_eq_decide, Bool.not_eq_eq_eq_not, Bool.not_true, Bool.not_false, beq_eq_false_iff_ne, bne_eq_false_iff_eq, Bool.and_eq_true, Bool.or_eq_true, Bool.and_eq_false_imp, Bool.or_eq_false_iff, bq2, bqt, bqf] at hb)) | (refine i_cond ?_; refine tc_cond rfl (fun hb => ?_) (fun hb => ?_) <;> (try simp only [decide_eq_true_eq, decide_eq_false_iff_not, Bool.not_eq_true, Bool.not_eq_false, beq_iff_eq, bne_iff_ne, ne_eq, decide_eq_decide, Bool.not_eq_eq_eq_not, Bool.not_true, Bool.not_false, beq_eq_false_iff_ne, bne_eq_false_iff_eq, Bool.and_eq_true, Bool.or_eq_true, Bool.and_eq_false_imp, Bool.or_eq_false_iff, bq2, bqt, bqf] at hb)) | intro _))
          all_goals first | exact qE (L' := []) ⟨rfl, rfl, rfl⟩ | (exfalso; omega)
      · obtain ⟨b2, off2, C2, T2, fr2, f1, hb2, hfit2, hc2⟩ := hA.get (show k - 1 < r.txns.length by omega)
        have hlp := hky _ (by omega) (List.getElem?_eq_getElem (show k - 1 < r.txns.length by omega))
        generalize r.txns[k - 1]'(by omega) = p at *
        rw [e1] at f1
        cases f1
        rw [hb] at hb2
        cases hb2
        have ek : ((k : Int) - 1).toNat = k - 1 := by omega
        have hcy : C[off + ((k : Int) - 1).toNat * 7]? = some (.int .i64 p.num) := by
          have := congrArg (fun l => l[0]?) hc2
          rw [ek]
          simp only [List.getElem?_take, List.getElem?_drop] at this
          simpa using this
        (try dsimp only [rosV]); rw [e1]
        by_cases hy : last < y.num ∧ y.num < r.next
        · rw [decide_eq_true hy, Bool.true_and] at hok
          cases ty
          · rw [Bool.false_and] at hok
            subst hok
            repeat' (first | (refine iBu ?_; refine tl_y (y_buildN rfl) rfl rfl ?_) | (refine i_op ?_; first | (refine i_qq ?_; refine qQ ?_) | refine qEf ?_) | refine tl_nil ?_ | (refine i_tc ?_; refine qTc ?_) | (refine i_te ?_; refine qTe ?_) | intro _)
            refine tc_any (Stays _ _ _) stays_refl ?_
            all_goals refine rFa 0 ?_
            all_goals refine rLd 1 ?_
            all_goals refine rCm 2 ?_
            all_goals refine rMv 3 ?_
            all_goals (first | refine wSkip 4 ?_ | refine wSkipU 4 ?_ | refine wFa 4 ?_ | (refine tr_guard (t := 30) rfl (fun hb => ?_) (fun hb => ?_) <;> (try simp only [kk] at hb) <;> first | refine wSkip 4 ?_ | refine wSkipU 4 ?_ | refine wFa 4 ?_))
            all_goals (first | refine wSkip 5 ?_ | refine wSkipU 5 ?_ | refine wLd 5 ?_ | (refine tr_guard (t := 30) rfl (fun hb => ?_) (fun hb => ?_) <;> (try simp only [kk] at hb) <;> first | refine wSkip 5 ?_ | refine wSkipU 5 ?_ | refine wLd 5 ?_))
            all_goals (first | refine wSkip 6 ?_ | refine wSkipU 6 ?_ | refine wFa 6 ?_ | (refine tr_guard (t := 30) rfl (fun hb => ?_) (fun hb => ?_) <;> (try simp only [kk] at hb) <;> first | refine wSkip 6 ?_ | refine wSkipU 6 ?_ | refine wFa 6 ?_))
            all_goals (first | refine wSkip 7 ?_ | refine wSkipU 7 ?_ | refine wLd 7 ?_ | (refine tr_guard (t := 30) rfl (fun hb => ?_) (fun hb => ?_) <;> (try simp only [kk] at hb) <;> first | refine wSkip 7 ?_ | refine wSkipU 7 ?_ | refine wLd 7 ?_))
            all_goals (first | refine wSkip 8 ?_ | refine wSkipU 8 ?_ | refine wCm 8 ?_ | (refine tr_guard (t := 30) rfl (fun hb => ?_) (fun hb => ?_) <;> (try simp only [kk] at hb) <;> first | refine wSkip 8 ?_ | refine wSkipU 8 ?_ | refine wCm 8 ?_))
            all_goals refine rPk 9 ?_
            all_goals refine rMv 10 ?_
            all_goals (first | refine wSkip 11 ?_ | refine wSkipU 11 ?_ | refine wMv 11 ?_ | (refine tr_guard (t := 37) rfl (fun hb => ?_) (fun hb => ?_) <;> (try simp only [kk] at hb) <;> first | refine wSkip 11 ?_ | refine wSkipU 11 ?_ | refine wMv 11 ?_))
            all_goals (first | refine wSkip 12 ?_ | refine wSkipU 12 ?_ | refine wCm 12 ?_ | (refine tr_guard (t := 37) rfl (fun hb => ?_) (fun hb => ?_) <;> (try simp only [kk] at hb) <;> first | refine wSkip 12 ?_ | refine wSkipU 12 ?_ | refine wCm 12 ?_))
            all_goals (first | refine wSkip 13 ?_ | refine wSkipU 13 ?_ | refine wMv 13 ?_ | (refine tr_guard (t := 37) rfl (fun hb => ?_) (fun hb => ?_) <;> (try simp only [kk] at hb) <;> first | refine wSkip 13 ?_ | refine wSkipU 13 ?_ | refine wMv 13 ?_))
            all_goals (first | refine wSkip 14 ?_ | refine wSkipU 14 ?_ | refine wFa 14 ?_ | (refine tr_guard (t := 40) rfl (fun hb => ?_) (fun hb => ?_) <;> (try simp only [kk] at hb) <;> first | refine wSkip 14 ?_ | refine wSkipU 14 ?_ | refine wFa 14 ?_))
            all_goals (first | refine wSkip 15 ?_ | refine wSkipU 15 ?_ | refine wLd 15 ?_ | (refine tr_guard (t := 40) rfl (fun hb => ?_) (fun hb => ?_) <;> (try simp only [kk] at hb) <;> first | refine wSkip 15 ?_ | refine wSkipU 15 ?_ | refine wLd 15 ?_))
            all_goals (first | refine wSkip 16 ?_ | refine wSkipU 16 ?_ | refine wMv 16 ?_ | (refine tr_guard (t := 40) rfl (fun hb => ?_) (fun hb => ?_) <;> (try simp only [kk] at hb) <;> first | refine wSkip 16 ?_ | refine wSkipU 16 ?_ | refine wMv 16 ?_))
            all_goals (first | refine wSkip 17 ?_ | refine wSkipU 17 ?_ | refine wSb 17 ?_ | (refine tr_guard (t := 40) rfl (fun hb => ?_) (fun hb => ?_) <;> (try simp only [kk] at hb) <;> first | refine wSkip 17 ?_ | refine wSkipU 17 ?_ | refine wSb 17 ?_))
            all_goals (first | refine wSkip 18 ?_ | refine wSkipU 18 ?_ | refine wIa 18 ?_ | (refine tr_guard (t := 40) rfl (fun hb => ?_) (fun hb => ?_) <;> (try simp only [kk] at hb) <;> first | refine wSkip 18 ?_ | refine wSkipU 18 ?_ | refine wIa 18 ?_))
            all_goals (first | refine wSkip 19 ?_ | refine wSkipU 19 ?_ | refine wFa 19 ?_ | (refine tr_guard (t := 40) rfl (fun hb => ?_) (fun hb => ?_) <;> (try simp only [kk] at hb) <;> first | refine wSkip 19 ?_ | refine wSkipU 19 ?_ | refine wFa 19 ?_))
            all_goals (first | refine wSkip 20 ?_ | refine wSkipU 20 ?_ | refine wLd 20 ?_ | (refine tr_guard (t := 40) rfl (fun hb => ?_) (fun hb => ?_) <;> (try simp only [kk] at hb) <;> first | refine wSkip 20 ?_ | refine wSkipU 20 ?_ | refine wLd 20 ?_))
            all_goals (first | refine wSkip 21 ?_ | refine wSkipU 21 ?_ | refine wFa 21 ?_ | (refine tr_guard (t := 40) rfl (fun hb => ?_) (fun hb => ?_) <;> (try simp only [kk] at hb) <;> first | refine wSkip 21 ?_ | refine wSkipU 21 ?_ | refine wFa 21 ?_))
            all_goals (first | refine wSkip 22 ?_ | refine wSkipU 22 ?_ | refine wLd 22 ?_ | (refine tr_guard (t := 40) rfl (fun hb => ?_) (fun hb => ?_) <;> (try simp only [kk] at hb) <;> first | refine wSkip 22 ?_ | refine wSkipU 22 ?_ | refine wLd 22 ?_))
            all_goals (first | refine wSkip 23 ?_ | refine wSkipU 23 ?_ | refine wCm 23 ?_ | (refine tr_guard (t := 40) rfl (fun hb => ?_) (fun hb => ?_) <;> (try simp only [kk] at hb) <;> first | refine wSkip 23 ?_ | refine wSkipU 23 ?_ | refine wCm 23 ?_))
            all_goals (first | refine wSkip 24 ?_ | refine wSkipU 24 ?_ | refine wPk 24 ?_ | (refine tr_guard (t := 37) rfl (fun hb => ?_) (fun hb => ?_) <;> (try simp only [kk] at hb) <;> first | refine wSkip 24 ?_ | refine wSkipU 24 ?_ | refine wPk 24 ?_))
            all_goals refine rPk 25 ?_
            all_goals refine rMv 26 ?_
            all_goals (first | refine wSkip 27 ?_ | refine wSkipU 27 ?_ | refine wLd 27 ?_ | (refine tr_guard (t := 53) rfl (fun hb => ?_) (fun hb => ?_) <;> (try simp only [kk] at hb) <;> first | refine wSkip 27 ?_ | refine wSkipU 27 ?_ | refine wLd 27 ?_))
            all_goals (first | refine wSkip 28 ?_ | refine wSkipU 28 ?_ | (refine rStep (i := 28) ?_; ((try refine qWant ?_); (first | (refine tl_is (.func 129) ?_; refine qC rfl rfl (ht) ?_; rintro v ρ' L' hle ⟨rfl, rfl, rfl⟩ <;> (try simp only [kM, kN, kO])) | (refine qEf ?_; try intro _)) <;> ((try simp only [kM, kN, kO]); refine tl_nil ?_; refine rNext ?_))))
            all_goals refine rFull ?_
            all_goals (first | refine wSkip 29 ?_ | refine wSkipU 29 ?_ | refine wUn 29 ?_ | (refine tr_guard (t := 53) rfl (fun hb => ?_) (fun hb => ?_) <;> (try simp only [kk] at hb) <;> first | refine wSkip 29 ?_ | refine wSkipU 29 ?_ | refine wUn 29 ?_))
            all_goals refine rPk 30 ?_
            all_goals refine rDone ?_
            all_goals (repeat' (first | (refine iBu ?_; refine tl_y (y_buildN rfl) rfl rfl ?_) | (refine i_op ?_; first | (refine i_qq ?_; refine qQ ?_) | refine qEf ?_) | refine tl_nil ?_ | (refine i_tc ?_; refine qTc ?_) | (refine i_te ?_; refine qTe ?_) | intro _))
            all_goals exact qE (L' := []) ⟨rfl, rfl, rfl⟩
          · rw [Bool.true_and] at hok
            repeat' (first | (refine iBu ?_; refine tl_y (y_buildN rfl) rfl rfl ?_) | (refine i_op ?_; first | (refine i_qq ?_; refine qQ ?_) | refine qEf ?_) | refine tl_nil ?_ | (refine i_tc ?_; refine qTc ?_) | (refine i_te ?_; refine qTe ?_) | intro _)
            refine tc_any (Stays _ _ _) stays_refl ?_
            all_goals refine rFa 0 ?_
            all_goals refine rLd 1 ?_
            all_goals refine rCm 2 ?_
            all_goals refine rMv 3 ?_
            all_goals (first | refine wSkip 4 ?_ | refine wSkipU 4 ?_ | refine wFa 4 ?_ | (refine tr_guard (t := 30) rfl (fun hb => ?_) (fun hb => ?_) <;> (try simp only [kk] at hb) <;> first | refine wSkip 4 ?_ | refine wSkipU 4 ?_ | refine wFa 4 ?_))
            all_goals (first | refine wSkip 5 ?_ | refine wSkipU 5 ?_ | refine wLd 5 ?_ | (refine tr_guard (t := 30) rfl (fun hb => ?_) (fun hb => ?_) <;> (try simp only [kk] at hb) <;> first | refine wSkip 5 ?_ | refine wSkipU 5 ?_ | refine wLd 5 ?_))
            all_goals (first | refine wSkip 6 ?_ | refine wSkipU 6 ?_ | refine wFa 6 ?_ | (refine tr_guard (t := 30) rfl (fun hb => ?_) (fun hb => ?_) <;> (try simp only [kk] at hb) <;> first | refine wSkip 6 ?_ | refine wSkipU 6 ?_ | refine wFa 6 ?_))
            all_goals (first | refine wSkip 7 ?_ | refine wSkipU 7 ?_ | refine wLd 7 ?_ | (refine tr_guard (t := 30) rfl (fun hb => ?_) (fun hb => ?_) <;> (try simp only [kk] at hb) <;> first | refine wSkip 7 ?_ | refine wSkipU 7 ?_ | refine wLd 7 ?_))
            all_goals (first | refine wSkip 8 ?_ | refine wSkipU 8 ?_ | refine wCm 8 ?_ | (refine tr_guard (t := 30) rfl (fun hb => ?_) (fun hb => ?_) <;> (try simp only [kk] at hb) <;> first | refine wSkip 8 ?_ | refine wSkipU 8 ?_ | refine wCm 8 ?_))
            all_goals refine rPk 9 ?_
            all_goals refine rMv 10 ?_
            all_goals (first | refine wSkip 11 ?_ | refine wSkipU 11 ?_ | refine wMv 11 ?_ | (refine tr_guard (t := 37) rfl (fun hb => ?_) (fun hb => ?_) <;> (try simp only [kk] at hb) <;> first | refine wSkip 11 ?_ | refine wSkipU 11 ?_ | refine wMv 11 ?_))
            all_goals (first | refine wSkip 12 ?_ | refine wSkipU 12 ?_ | refine wCm 12 ?_ | (refine tr_guard (t := 37) rfl (fun hb => ?_) (fun hb => ?_) <;> (try simp only [kk] at hb) <;> first | refine wSkip 12 ?_ | refine wSkipU 12 ?_ | refine wCm 12 ?_))
            all_goals (first | refine wSkip 13 ?_ | refine wSkipU 13 ?_ | refine wMv 13 ?_ | (refine tr_guard (t := 37) rfl (fun hb => ?_) (fun hb => ?_) <;> (try simp only [kk] at hb) <;> first | refine wSkip 13 ?_ | refine wSkipU 13 ?_ | refine wMv 13 ?_))
            all_goals (first | refine wSkip 14 ?_ | refine wSkipU 14 ?_ | refine wFa 14 ?_ | (refine tr_guard (t := 40) rfl (fun hb => ?_) (fun hb => ?_) <;> (try simp only [kk] at hb) <;> first | refine wSkip 14 ?_ | refine wSkipU 14 ?_ | refine wFa 14 ?_))
            all_goals (first | refine wSkip 15 ?_ | refine wSkipU 15 ?_ | refine wLd 15 ?_ | (refine tr_guard (t := 40) rfl (fun hb => ?_) (fun hb => ?_) <;> (try simp only [kk] at hb) <;> first | refine wSkip 15 ?_ | refine wSkipU 15 ?_ | refine wLd 15 ?_))
            all_goals (first | refine wSkip 16 ?_ | refine wSkipU 16 ?_ | refine wMv 16 ?_ | (refine tr_guard (t := 40) rfl (fun hb => ?_) (fun hb => ?_) <;> (try simp only [kk] at hb) <;> first | refine wSkip 16 ?_ | refine wSkipU 16 ?_ | refine wMv 16 ?_))
            all_goals (first | refine wSkip 17 ?_ | refine wSkipU 17 ?_ | refine wSb 17 ?_ | (refine tr_guard (t := 40) rfl (fun hb => ?_) (fun hb => ?_) <;> (try simp only [kk] at hb) <;> first | refine wSkip 17 ?_ | refine wSkipU 17 ?_ | refine wSb 17 ?_))
            all_goals (first | refine wSkip 18 ?_ | refine wSkipU 18 ?_ | refine wIa 18 ?_ | (refine tr_guard (t := 40) rfl (fun hb => ?_) (fun hb => ?_) <;> (try simp only [kk] at hb) <;> first | refine wSkip 18 ?_ | refine wSkipU 18 ?_ | refine wIa 18 ?_))
            all_goals (first | refine wSkip 19 ?_ | refine wSkipU 19 ?_ | refine wFa 19 ?_ | (refine tr_guard (t := 40) rfl (fun hb => ?_) (fun hb => ?_) <;> (try simp only [kk] at hb) <;> first | refine wSkip 19 ?_ | refine wSkipU 19 ?_ | refine wFa 19 ?_))
            all_goals (first | refine wSkip 20 ?_ | refine wSkipU 20 ?_ | refine wLd 20 ?_ | (refine tr_guard (t := 40) rfl (fun hb => ?_) (fun hb => ?_) <;> (try simp only [kk] at hb) <;> first | refine wSkip 20 ?_ | refine wSkipU 20 ?_ | refine wLd 20 ?_))
            all_goals (first | refine wSkip 21 ?_ | refine wSkipU 21 ?_ | refine wFa 21 ?_ | (refine tr_guard (t := 40) rfl (fun hb => ?_) (fun hb => ?_) <;> (try simp only [kk] at hb) <;> first | refine wSkip 21 ?_ | refine wSkipU 21 ?_ | refine wFa 21 ?_))
            all_goals (first | refine wSkip 22 ?_ | refine wSkipU 22 ?_ | refine wLd 22 ?_ | (refine tr_guard (t := 40) rfl (fun hb => ?_) (fun hb => ?_) <;> (try simp only [kk] at hb) <;> first | refine wSkip 22 ?_ | refine wSkipU 22 ?_ | refine wLd 22 ?_))
            all_goals (first | refine wSkip 23 ?_ | refine wSkipU 23 ?_ | refine wCm 23 ?_ | (refine tr_guard (t := 40) rfl (fun hb => ?_) (fun hb => ?_) <;> (try simp only [kk] at hb) <;> first | refine wSkip 23 ?_ | refine wSkipU 23 ?_ | refine wCm 23 ?_))
            all_goals (first | refine wSkip 24 ?_ | refine wSkipU 24 ?_ | refine wPk 24 ?_ | (refine tr_guard (t := 37) rfl (fun hb => ?_) (fun hb => ?_) <;> (try simp only [kk] at hb) <;> first | refine wSkip 24 ?_ | refine wSkipU 24 ?_ | refine wPk 24 ?_))
            all_goals refine rPk 25 ?_
            all_goals refine rMv 26 ?_
            all_goals (first | refine wSkip 27 ?_ | refine wSkipU 27 ?_ | refine wLd 27 ?_ | (refine tr_guard (t := 53) rfl (fun hb => ?_) (fun hb => ?_) <;> (try simp only [kk] at hb) <;> first | refine wSkip 27 ?_ | refine wSkipU 27 ?_ | refine wLd 27 ?_))
            all_goals (first | refine wSkip 28 ?_ | refine wSkipU 28 ?_ | (refine rStep (i := 28) ?_; ((try refine qWant ?_); (first | (refine tl_is (.func 129) ?_; refine qC rfl rfl (ht) ?_; rintro v ρ' L' hle ⟨rfl, rfl, rfl⟩ <;> (try simp only [kM, kN, kO])) | (refine qEf ?_; try intro _)) <;> ((try simp only [kM, kN, kO]); refine tl_nil ?_; refine rNext ?_))))
            all_goals refine rFull ?_
            all_goals (first | refine wSkip 29 ?_ | refine wSkipU 29 ?_ | refine wUn 29 ?_ | (refine tr_guard (t := 53) rfl (fun hb => ?_) (fun hb => ?_) <;> (try simp only [kk] at hb) <;> first | refine wSkip 29 ?_ | refine wSkipU 29 ?_ | refine wUn 29 ?_))
            all_goals refine rPk 30 ?_
            all_goals refine rDone ?_
            all_goals (repeat' (first | (refine iBu ?_; refine tl_y (y_buildN rfl) rfl rfl ?_) | (refine i_op ?_; first | (refine i_qq ?_; refine qQ ?_) | refine qEf ?_) | refine tl_nil ?_ | (refine i_tc ?_; refine qTc ?_) | (refine i_te ?_; refine qTe ?_) | intro _))
            all_goals rw [← e1]
            all_goals refine te_round_g (k + 1, y.num) (⟨hlt, hok, by dsimp only; omega, fun h => by omega, hnext⟩) ev_le ev_le rfl tk inferInstance (by first | omega | (dsimp only; omega))
        · rw [decide_eq_false hy, Bool.false_and, Bool.false_and] at hok
          subst hok
          repeat' (first | (refine iBu ?_; refine tl_y (y_buildN rfl) rfl rfl ?_) | (refine i_op ?_; first | (refine i_qq ?_; refine qQ ?_) | refine qEf ?_) | refine tl_nil ?_ | (refine i_tc ?_; refine qTc ?_) | (refine i_te ?_; refine qTe ?_) | intro _)
          refine tc_any (Stays _ _ _) stays_refl ?_
          all_goals refine rFa 0 ?_
          all_goals refine rLd 1 ?_
          all_goals refine rCm 2 ?_
          all_goals refine rMv 3 ?_
          all_goals (first | refine wSkip 4 ?_ | refine wSkipU 4 ?_ | refine wFa 4 ?_ | (refine tr_guard (t := 30) rfl (fun hb => ?_) (fun hb => ?_) <;> (try simp only [kk] at hb) <;> first | refine wSkip 4 ?_ | refine wSkipU 4 ?_ | refine wFa 4 ?_))
          all_goals (first | refine wSkip 5 ?_ | refine wSkipU 5 ?_ | refine wLd 5 ?_ | (refine tr_guard (t := 30) rfl (fun hb => ?_) (fun hb => ?_) <;> (try simp only [kk] at hb) <;> first | refine wSkip 5 ?_ | refine wSkipU 5 ?_ | refine wLd 5 ?_))
          all_goals (first | refine wSkip 6 ?_ | refine wSkipU 6 ?_ | refine wFa 6 ?_ | (refine tr_guard (t := 30) rfl (fun hb => ?_) (fun hb => ?_) <;> (try simp only [kk] at hb) <;> first | refine wSkip 6 ?_ | refine wSkipU 6 ?_ | refine wFa 6 ?_))
          all_goals (first | refine wSkip 7 ?_ | refine wSkipU 7 ?_ | refine wLd 7 ?_ | (refine tr_guard (t := 30) rfl (fun hb => ?_) (fun hb => ?_) <;> (try simp only [kk] at hb) <;> first | refine wSkip 7 ?_ | refine wSkipU 7 ?_ | refine wLd 7 ?_))
          all_goals (first | refine wSkip 8 ?_ | refine wSkipU 8 ?_ | refine wCm 8 ?_ | (refine tr_guard (t := 30) rfl (fun hb => ?_) (fun hb => ?_) <;> (try simp only [kk] at hb) <;> first | refine wSkip 8 ?_ | refine wSkipU 8 ?_ | refine wCm 8 ?_))
          all_goals refine rPk 9 ?_
          all_goals refine rMv 10 ?_
          all_goals (first | refine wSkip 11 ?_ | refine wSkipU 11 ?_ | refine wMv 11 ?_ | (refine tr_guard (t := 37) rfl (fun hb => ?_) (fun hb => ?_) <;> (try simp only [kk] at hb) <;> first | refine wSkip 11 ?_ | refine wSkipU 11 ?_ | refine wMv 11 ?_))
          all_goals (first | refine wSkip 12 ?_ | refine wSkipU 12 ?_ | refine wCm 12 ?_ | (refine tr_guard (t := 37) rfl (fun hb => ?_) (fun hb => ?_) <;> (try simp only [kk] at hb) <;> first | refine wSkip 12 ?_ | refine wSkipU 12 ?_ | refine wCm 12 ?_))
          all_goals (first | refine wSkip 13 ?_ | refine wSkipU 13 ?_ | refine wMv 13 ?_ | (refine tr_guard (t := 37) rfl (fun hb => ?_) (fun hb => ?_) <;> (try simp only [kk] at hb) <;> first | refine wSkip 13 ?_ | refine wSkipU 13 ?_ | refine wMv 13 ?_))
          all_goals (first | refine wSkip 14 ?_ | refine wSkipU 14 ?_ | refine wFa 14 ?_ | (refine tr_guard (t := 40) rfl (fun hb => ?_) (fun hb => ?_) <;> (try simp only [kk] at hb) <;> first | refine wSkip 14 ?_ | refine wSkipU 14 ?_ | refine wFa 14 ?_))
          all_goals (first | refine wSkip 15 ?_ | refine wSkipU 15 ?_ | refine wLd 15 ?_ | (refine tr_guard (t := 40) rfl (fun hb => ?_) (fun hb => ?_) <;> (try simp only [kk] at hb) <;> first | refine wSkip 15 ?_ | refine wSkipU 15 ?_ | refine wLd 15 ?_))
          all_goals (first | refine wSkip 16 ?_ | refine wSkipU 16 ?_ | refine wMv 16 ?_ | (refine tr_guard (t := 40) rfl (fun hb => ?_) (fun hb => ?_) <;> (try simp only [kk] at hb) <;> first | refine wSkip 16 ?_ | refine wSkipU 16 ?_ | refine wMv 16 ?_))
          all_goals (first | refine wSkip 17 ?_ | refine wSkipU 17 ?_ | refine wSb 17 ?_ | (refine tr_guard (t := 40) rfl (fun hb => ?_) (fun hb => ?_) <;> (try simp only [kk] at hb) <;> first | refine wSkip 17 ?_ | refine wSkipU 17 ?_ | refine wSb 17 ?_))
          all_goals (first | refine wSkip 18 ?_ | refine wSkipU 18 ?_ | refine wIa 18 ?_ | (refine tr_guard (t := 40) rfl (fun hb => ?_) (fun hb => ?_) <;> (try simp only [kk] at hb) <;> first | refine wSkip 18 ?_ | refine wSkipU 18 ?_ | refine wIa 18 ?_))
          all_goals (first | refine wSkip 19 ?_ | refine wSkipU 19 ?_ | refine wFa 19 ?_ | (refine tr_guard (t := 40) rfl (fun hb => ?_) (fun hb => ?_) <;> (try simp only [kk] at hb) <;> first | refine wSkip 19 ?_ | refine wSkipU 19 ?_ | refine wFa 19 ?_))
          all_goals (first | refine wSkip 20 ?_ | refine wSkipU 20 ?_ | refine wLd 20 ?_ | (refine tr_guard (t := 40) rfl (fun hb => ?_) (fun hb => ?_) <;> (try simp only [kk] at hb) <;> first | refine wSkip 20 ?_ | refine wSkipU 20 ?_ | refine wLd 20 ?_))
          all_goals (first | refine wSkip 21 ?_ | refine wSkipU 21 ?_ | refine wFa 21 ?_ | (refine tr_guard (t := 40) rfl (fun hb => ?_) (fun hb => ?_) <;> (try simp only [kk] at hb) <;> first | refine wSkip 21 ?_ | refine wSkipU 21 ?_ | refine wFa 21 ?_))
          all_goals (first | refine wSkip 22 ?_ | refine wSkipU 22 ?_ | refine wLd 22 ?_ | (refine tr_guard (t := 40) rfl (fun hb => ?_) (fun hb => ?_) <;> (try simp only [kk] at hb) <;> first | refine wSkip 22 ?_ | refine wSkipU 22 ?_ | refine wLd 22 ?_))
          all_goals (first | refine wSkip 23 ?_ | refine wSkipU 23 ?_ | refine wCm 23 ?_ | (refine tr_guard (t := 40) rfl (fun hb => ?_) (fun hb => ?_) <;> (try simp only [kk] at hb) <;> first | refine wSkip 23 ?_ | refine wSkipU 23 ?_ | refine wCm 23 ?_))
          all_goals (first | refine wSkip 24 ?_ | refine wSkipU 24 ?_ | refine wPk 24 ?_ | (refine tr_guard (t := 37) rfl (fun hb => ?_) (fun hb => ?_) <;> (try simp only [kk] at hb) <;> first | refine wSkip 24 ?_ | refine wSkipU 24 ?_ | refine wPk 24 ?_))
          all_goals refine rPk 25 ?_
          all_goals refine rMv 26 ?_
          all_goals (first | refine wSkip 27 ?_ | refine wSkipU 27 ?_ | refine wLd 27 ?_ | (refine tr_guard (t := 53) rfl (fun hb => ?_) (fun hb => ?_) <;> (try simp only [kk] at hb) <;> first | refine wSkip 27 ?_ | refine wSkipU 27 ?_ | refine wLd 27 ?_))
          all_goals (first | refine wSkip 28 ?_ | refine wSkipU 28 ?_ | (refine rStep (i := 28) ?_; ((try refine qWant ?_); (first | (refine tl_is (.func 129) ?_; refine qC rfl rfl (ht) ?_; rintro v ρ' L' hle ⟨rfl, rfl, rfl⟩ <;> (try simp only [kM, kN, kO])) | (refine qEf ?_; try intro _)) <;> ((try simp only [kM, kN, kO]); refine tl_nil ?_; refine rNext ?_))))
          all_goals refine rFull ?_
          all_goals (first | refine wSkip 29 ?_ | refine wSkipU 29 ?_ | refine wUn 29 ?_ | (refine tr_guard (t := 53) rfl (fun hb => ?_) (fun hb => ?_) <;> (try simp only [kk] at hb) <;> first | refine wSkip 29 ?_ | refine wSkipU 29 ?_ | refine wUn 29 ?_))
          all_goals refine rPk 30 ?_
          all_goals refine rDone ?_
          all_goals (repeat' (first | (refine iBu ?_; refine tl_y (y_buildN rfl) rfl rfl ?_) | (refine i_op ?_; first | (refine i_qq ?_; refine qQ ?_) | refine qEf ?_) | refine tl_nil ?_ | (refine i_tc ?_; refine qTc ?_) | (refine i_te ?_; refine qTe ?_) | (refine i_gd ?_; refine tl_guard rfl rfl (fun hb => ?_) (fun hb => ?_) <;> (try simp only [decide_eq_true_eq, decide_eq_false_iff_not, Bool.not_eq_true, Bool.not_eq_false, beq_iff_eq, bne_iff_ne, ne_eq, decide_eq_decide, Bool.not_eq_eq_eq_not, Bool.not_true, Bool.not_false, beq_eq_false_iff_ne, bne_eq_false_iff_eq, Bool.and_eq_true, Bool.or_eq_true, Bool.and_eq_false_imp, Bool.or_eq_false_iff, bq2, bqt, bqf] at hb)) | (refine i_cond ?_; refine tc_cond rfl (fun hb => ?_) (fun hb => ?_) <;> (try simp only [decide_eq_true_eq, decide_eq_false_iff_not, Bool.not_eq_true, Bool.not_eq_false, beq_iff_eq, bne_iff_ne, ne_eq, decide_eq_decide, Bool.not_eq_eq_eq_not, Bool.not_true, Bool.not_false, beq_eq_false_iff_ne, bne_eq_false_iff_eq, Bool.and_eq_true, Bool.or_eq_true, Bool.and_eq_false_imp, Bool.or_eq_false_iff, bq2, bqt, bqf] at hb)) | intro _))
          all_goals first | exact qE (L' := []) ⟨rfl, rfl, rfl⟩ | (exfalso; omega)
    · have hk2 : k = r.txns.length := by omega
      rw [hk2, List.drop_length, txsB] at hok
      subst hok
      repeat' (first | (refine iBu ?_; refine tl_y (y_buildN rfl) rfl rfl ?_) | (refine i_op ?_; first | (refine i_qq ?_; refine qQ ?_) | refine qEf ?_) | refine tl_nil ?_ | (refine i_tc ?_; refine qTc ?_) | (refine i_te ?_; refine qTe ?_) | intro _)
      exact qE (L' := []) ⟨rfl, rfl, rfl⟩
  · rw [decide_eq_false hH, Bool.false_and]
    repeat' (first | (refine iBu ?_; refine tl_y (y_buildN rfl) rfl rfl ?_) | (refine i_op ?_; first | (refine i_qq ?_; refine qQ ?_) | refine qEf ?_) | refine tl_nil ?_ | (refine i_tc ?_; refine qTc ?_) | (refine i_te ?_; refine qTe ?_) | (refine i_gd ?_; refine tl_guard rfl rfl (fun hb => ?_) (fun hb => ?_) <;> (try simp only [decide_eq_true_eq, decide_eq_false_iff_not, Bool.not_eq_true, Bool.not_eq_false, beq_iff_eq, bne_iff_ne, ne_eq, decide_eq_decide, Bool.not_eq_eq_eq_not, Bool.not_true, Bool.not_false, beq_eq_false_iff_ne, bne_eq_false_iff_eq, Bool.and_eq_true, Bool.or_eq_true, Bool.and_eq_false_imp, Bool.or_eq_false_iff, bq2, bqt, bqf] at hb)) | (refine i_cond ?_; refine tc_cond rfl (fun hb => ?_) (fun hb => ?_) <;> (try simp only [decide_eq_true_eq, decide_eq_false_iff_not, Bool.not_eq_true, Bool.not_eq_false, beq_iff_eq, bne_iff_ne, ne_eq, decide_eq_decide, Bool.not_eq_eq_eq_not, Bool.not_true, Bool.not_false, beq_eq_false_iff_ne, bne_eq_false_iff_eq, Bool.and_eq_true, Bool.or_eq_true, Bool.and_eq_false_imp, Bool.or_eq_false_iff, bq2, bqt, bqf] at hb)) | intro _)
    all_goals first | exact qE (L' := []) ⟨rfl, rfl, rfl⟩ | (exfalso; omega)
end Go.Proofs.E

namespace Go.Proofs.E
open Go
set_option linter.unusedVariables false
set_option linter.unusedSimpArgs false
set_option linter.unusedSectionVars false
set_option maxRecDepth 4000
set_option maxHeartbeats 1000000
attribute [local irreducible] Yl TL TC TE Spec YSpec R1 Hp.le EnvLe TS TR YS Stays
-- BN
theorem from18_spec (ρ : Hp) (next : Int) (s : SV) (l : List CkT) (h : AS ρ 5 ckTV s l) : Spec Tryz.prog 34 [.int .i64 next, .slice s.a s.n s.c] ρ []
    (fun z ρ' L' => ρ.le ρ' ∧ ∃ v : SV, z = .tuple ⟨[.agg ⟨rosV v (fromR next l)⟩, .int .i64 (fromE next l)]⟩ ∧ RosIn ρ' v (fromR next l) ∧ L' = []) := by
  have hl := h.at'.len
  have hn := h.big
  have hA := h.at'
  refine spec_enter Tryz.func34 rfl rfl rfl fun u R => ?_
  simp only [argsE, List.cons_append, List.nil_append]
  repeat' (first | (refine iBu ?_; refine tl_y (y_buildN rfl) rfl rfl ?_) | (refine i_op ?_; first | (refine i_qq ?_; refine qQ ?_) | refine qEf ?_) | refine tl_nil ?_ | (refine i_tc ?_; refine qTc ?_) | (refine i_te ?_; refine qTe ?_) | intro _)
  rename_i br bx
  refine tc_loop_g [(4, _), (5, _), (6, _), (11, _), (12, _)] (fun (ζ : (Nat) × (Value) × (List Value)) => [(13, .int .i64 ζ.1)]) (fun (ζ : (Nat) × (Value) × (List Value)) => ρ) (fun (ζ : (Nat) × (Value) × (List Value)) => [[(bx, .cells ⟨[.int .i64 next, ζ.2.1]⟩ 34 (0, 0))], ownC ζ.2.1 ((((l.take ζ.1).map ofCk).map txV).flatten) ζ.2.2 72]) (fun (ζ : (Nat) × (Value) × (List Value)) => ζ.1 ≤ s.n ∧ OwnS ζ.2.1 ζ.1 ((((l.take ζ.1).map ofCk).map txV).flatten) ζ.2.2 7) (fun (ζ : (Nat) × (Value) × (List Value)) => s.n - ζ.1) ((0, .slice none 0 0, [])) (⟨Nat.zero_le _, OwnS.nil 7⟩) ev_le ev_le rfl tk ?_
  rintro ⟨k, vv, sp⟩ hI
  try simp only [List.cons_append, List.nil_append, List.append_assoc, List.append_eq] at hI ⊢
  try dsimp only at hI ⊢
  obtain ⟨hk, hown⟩ := hI
  obtain ⟨va, vc, rfl, _⟩ := hown.slice
  by_cases hlt : k < s.n
  · obtain ⟨b, off, C, T, fr, e1, hb, hfit, hc⟩ := hA.get (show k < l.length by omega)
    have hx := List.take_succ_eq_append_getElem (show k < l.length by omega)
    generalize l[k]'(by omega) = x at *
    rw [e1]
    repeat' (first | (refine iBu ?_; refine tl_y (y_buildN rfl) rfl rfl ?_) | (refine i_op ?_; first | (refine i_qq ?_; refine qQ ?_) | refine qEf ?_) | refine tl_nil ?_ | (refine i_tc ?_; refine qTc ?_) | (refine i_te ?_; refine qTe ?_) | intro _)
    refine tl_buildSliceA (css := [txV (ofCk x)]) (sz := 7) rfl rfl rfl rfl (by simp) (by simp) rfl (fun bs => ?_)
    simp only [List.flatten_cons, List.flatten_nil, List.append_nil]
    refine tl_app (ys := txV (ofCk x)) (m := 1) rfl rfl hown (hR := by infer_instance) (SrcV.lit) rfl rfl (by decide) rfl (by omega) (by omega) rfl (fun v' sp' hown' => ?_)
    have hm : (((l.take k).map ofCk).map txV).flatten ++ txV (ofCk x) = (((l.take (k + 1)).map ofCk).map txV).flatten := by rw [hx]; simp
    rw [hm] at hown' ⊢
    obtain ⟨va', vc', rfl, _⟩ := hown'.slice
    repeat' (first | (refine iBu ?_; refine tl_y (y_buildN rfl) rfl rfl ?_) | (refine i_op ?_; first | (refine i_qq ?_; refine qQ ?_) | refine qEf ?_) | refine tl_nil ?_ | (refine i_tc ?_; refine qTc ?_) | (refine i_te ?_; refine qTe ?_) | intro _)
    rw [← e1]
    refine te_round_g (k + 1, _, sp') (⟨hlt, hown'⟩) ev_le ev_le rfl tk inferInstance (by first | omega | (dsimp only; omega))
  · have hk2 : k = l.length := by omega
    rw [show l.take k = l by rw [hk2, List.take_length]] at hown ⊢
    refine tc_freeze (ownC (.slice va k vc) (((l.map ofCk).map txV).flatten) sp 72) (fun ρ3 hle3 hfz => ?_)
    obtain ⟨sa, sc, e1, hsc, hA2⟩ := hown.aIn (by simp; omega) (fun x _ => txV_len x) hfz
    cases e1
    have hR : RosIn ρ3 ⟨va, k, vc⟩ ⟨next, l.map ofCk⟩ := ⟨⟨hA2, by dsimp only; omega, hsc⟩, fun x hx => by
      obtain ⟨t, _, rfl⟩ := List.mem_map.1 hx
      exact ofCk_in t⟩
    have hck := right18_spec ρ3 _ _ hR
    unfold fromR fromE
    cases hok : rosOk ⟨next, l.map ofCk⟩
    · rw [hok] at hck
      repeat' (first | (refine tl_is (.func 48) ?_; refine qC rfl rfl (hck) ?_; rintro v ρ' L' hle ⟨rfl, rfl, rfl⟩ <;> (try simp only [kM, kN, kO, if_false, Bool.false_eq_true])) | (refine iBu ?_; refine tl_y (y_buildN rfl) rfl rfl ?_) | (refine i_op ?_; first | (refine i_qq ?_; refine qQ ?_) | refine qEf ?_) | refine tl_nil ?_ | (refine i_tc ?_; refine qTc ?_) | (refine i_te ?_; refine qTe ?_) | intro _)
      exact qE ⟨hle3, nilS, rfl, RosIn.nil, rfl⟩
    · rw [hok] at hck
      repeat' (first | (refine tl_is (.func 48) ?_; refine qC rfl rfl (hck) ?_; rintro v ρ' L' hle ⟨rfl, rfl, rfl⟩ <;> (try simp only [kM, kN, kO, if_true])) | (refine iBu ?_; refine tl_y (y_buildN rfl) rfl rfl ?_) | (refine i_op ?_; first | (refine i_qq ?_; refine qQ ?_) | refine qEf ?_) | refine tl_nil ?_ | (refine i_tc ?_; refine qTc ?_) | (refine i_te ?_; refine qTe ?_) | intro _)
      exact qE ⟨hle3, ⟨va, k, vc⟩, rfl, hR, rfl⟩
end Go.Proofs.E

