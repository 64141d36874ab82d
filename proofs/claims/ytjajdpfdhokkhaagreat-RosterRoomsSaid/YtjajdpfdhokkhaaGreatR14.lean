/- Rosters as data, and what their functions come to. Part 14 of 16. -/
import Derived.Test.YtjajdpfdhokkhaaGreatR13
namespace Go.Proofs.E
open Go
set_option linter.unusedVariables false
set_option linter.unusedSimpArgs false
set_option linter.unusedSectionVars false
set_option maxRecDepth 4000
set_option maxHeartbeats 1000000
attribute [local irreducible] Yl TL TC TE Spec YSpec R1 Hp.le EnvLe TS TR YS Stays
-- BN
theorem idxB_spec (ρ : Hp) (b0 : Nat) (bs : List Bool) (hn : bs.length ≤ 10) : Spec Tryz.prog 311 [.slice (some ⟨b0, 0, none⟩) bs.length bs.length, .bool false] ρ [[(b0, .cells ⟨bs.map Value.bool⟩ 4 (0, 0))]]
    (fun z ρ' L' => (∃ i : Int, z = .int .i64 i ∧ (0 ≤ i ↔ bs.all id = false)) ∧ ρ' = ρ ∧ L' = [[(b0, .cells ⟨bs.map Value.bool⟩ 4 (0, 0))]]) := by
  refine spec_enter Tryz.func311 rfl rfl rfl fun u R => ?_
  simp only [argsE, List.cons_append, List.nil_append]
  repeat' (first | (refine iBu ?_; refine tl_y (y_buildN rfl) rfl rfl ?_) | (refine i_op ?_; first | (refine i_qq ?_; refine qQ ?_) | refine qEf ?_) | refine tl_nil ?_ | (refine i_tc ?_; refine qTc ?_) | (refine i_te ?_; refine qTe ?_) | intro _)
  refine tc_loop_g [(0, _), (1, _), (7, _)] (fun (ζ : (Nat)) => [(8, .int .i64 ζ), (4, .int .i64 0)]) (fun (ζ : (Nat)) => ρ) (fun (ζ : (Nat)) => [[(b0, .cells ⟨bs.map Value.bool⟩ 4 (0, 0))]]) (fun (ζ : (Nat)) => ζ ≤ bs.length ∧ ∀ x ∈ bs.take ζ, x = true) (fun (ζ : (Nat)) => bs.length - ζ) (0) (⟨Nat.zero_le _, by simp⟩) ev_le ev_le rfl tk ?_
  rintro k hI
  try simp only [List.cons_append, List.nil_append, List.append_assoc, List.append_eq] at hI ⊢
  try dsimp only at hI ⊢
  obtain ⟨hk, hok⟩ := hI
  by_cases hlt : k < bs.length
  · have hcell : (bs.map Value.bool)[0 + k * 1]? = some (.bool bs[k]) := by simp [hlt]
    have ht := take_more (p := fun x => x = true) hlt
    have hmem := List.getElem_mem hlt
    generalize bs[k] = y at *
    cases y
    · repeat' (first | (refine iBu ?_; refine tl_y (y_buildN rfl) rfl rfl ?_) | (refine i_op ?_; first | (refine i_qq ?_; refine qQ ?_) | refine qEf ?_) | refine tl_nil ?_ | (refine i_tc ?_; refine qTc ?_) | (refine i_te ?_; refine qTe ?_) | intro _)
      exact qE (L' := _) ⟨⟨k, rfl, ⟨fun _ => List.all_eq_false.2 ⟨false, hmem, by simp⟩, fun _ => by omega⟩⟩, rfl, rfl⟩
    · repeat' (first | (refine iBu ?_; refine tl_y (y_buildN rfl) rfl rfl ?_) | (refine i_op ?_; first | (refine i_qq ?_; refine qQ ?_) | refine qEf ?_) | refine tl_nil ?_ | (refine i_tc ?_; refine qTc ?_) | (refine i_te ?_; refine qTe ?_) | intro _)
      refine te_round_g (k + 1) (⟨hlt, ht rfl hok⟩) ev_le ev_le rfl tk inferInstance (by first | omega | (dsimp only; omega))
  · have : bs.all id = true := List.all_eq_true.2 (fun x hx => hok x (by rw [List.take_of_length_le (by omega)]; exact hx))
    repeat' (first | (refine iBu ?_; refine tl_y (y_buildN rfl) rfl rfl ?_) | (refine i_op ?_; first | (refine i_qq ?_; refine qQ ?_) | refine qEf ?_) | refine tl_nil ?_ | (refine i_tc ?_; refine qTc ?_) | (refine i_te ?_; refine qTe ?_) | intro _)
    exact qE (L' := _) ⟨⟨-1, rfl, ⟨fun h => by omega, fun h => by rw [this] at h; cases h⟩⟩, rfl, rfl⟩
theorem needB_spec (ρ : Hp) (b0 n : Nat) (bs : List Bool) (hn : bs.length ≤ 10) (hnn : n = bs.length) : Spec Tryz.prog 263 [.slice (some ⟨b0, 0, none⟩) n n] ρ [[(b0, .cells ⟨bs.map Value.bool⟩ 4 (0, 0))]]
    (fun z ρ' L' => z = .int .i64 (if bs.all id then 0 else 2) ∧ ρ' = ρ ∧ L' = []) := by
  subst hnn
  have hI := idxB_spec ρ b0 bs hn
  have hC : Spec Tryz.prog 288 [.slice (some ⟨b0, 0, none⟩) bs.length bs.length, .bool false] ρ [[(b0, .cells ⟨bs.map Value.bool⟩ 4 (0, 0))]]
    (fun z ρ' L' => z = .bool (!(bs.all id)) ∧ ρ' = ρ ∧ L' = []) := by
    refine spec_enter Tryz.func288 rfl rfl rfl fun u R => ?_
    simp only [argsE, List.cons_append, List.nil_append]
    repeat' (first | (refine tl_is (.func 311) ?_; refine qC rfl rfl (hI) ?_; rintro v ρ' L' hle ⟨⟨i, rfl, hi⟩, rfl, rfl⟩ <;> (try simp only [kM, kN, kO])) | (refine iBu ?_; refine tl_y (y_buildN rfl) rfl rfl ?_) | (refine i_op ?_; first | (refine i_qq ?_; refine qQ ?_) | refine qEf ?_) | refine tl_nil ?_ | (refine i_tc ?_; refine qTc ?_) | (refine i_te ?_; refine qTe ?_) | intro _)
    by_cases h0 : 0 ≤ i
    · rw [hi.1 h0, Bool.not_false, decide_eq_true (show i ≥ 0 from h0)]
      exact qE (L' := []) ⟨rfl, rfl, rfl⟩
    · have : bs.all id = true := by
        cases h : bs.all id
        · exact absurd (hi.2 h) h0
        · rfl
      rw [this, Bool.not_true, decide_eq_false (show ¬ i ≥ 0 from h0)]
      exact qE (L' := []) ⟨rfl, rfl, rfl⟩
  refine spec_enter Tryz.func263 rfl rfl rfl fun u R => ?_
  simp only [argsE, List.cons_append, List.nil_append]
  cases hb : bs.all id
  · rw [hb] at hC
    simp only [Bool.false_eq_true, if_false]
    repeat' (first | (refine tl_is (.func 288) ?_; refine qC rfl rfl (hC) ?_; rintro v ρ' L' hle ⟨rfl, rfl, rfl⟩ <;> (try simp only [kM, kN, kO])) | (refine iBu ?_; refine tl_y (y_buildN rfl) rfl rfl ?_) | (refine i_op ?_; first | (refine i_qq ?_; refine qQ ?_) | refine qEf ?_) | refine tl_nil ?_ | (refine i_tc ?_; refine qTc ?_) | (refine i_te ?_; refine qTe ?_) | intro _)
    exact qE (L' := []) ⟨rfl, rfl, rfl⟩
  · rw [hb] at hC
    simp only [if_true]
    repeat' (first | (refine tl_is (.func 288) ?_; refine qC rfl rfl (hC) ?_; rintro v ρ' L' hle ⟨rfl, rfl, rfl⟩ <;> (try simp only [kM, kN, kO])) | (refine iBu ?_; refine tl_y (y_buildN rfl) rfl rfl ?_) | (refine i_op ?_; first | (refine i_qq ?_; refine qQ ?_) | refine qEf ?_) | refine tl_nil ?_ | (refine i_tc ?_; refine qTc ?_) | (refine i_te ?_; refine qTe ?_) | intro _)
    exact qE (L' := []) ⟨rfl, rfl, rfl⟩
end Go.Proofs.E

namespace Go.Proofs.E
open Go
set_option linter.unusedVariables false
set_option linter.unusedSimpArgs false
set_option linter.unusedSectionVars false
set_option maxRecDepth 4000
set_option maxHeartbeats 1000000
attribute [local irreducible] Yl TL TC TE Spec YSpec R1 Hp.le EnvLe TS TR YS Stays
-- BN
/-! ## a clerk at a transaction -/
abbrev txQ (x : Tx) (S : List Value) : List Value := .int .i64 x.num :: .int .i64 x.state :: .int .u64 x.first :: .int .u64 x.last :: .int .u64 x.undo :: .slice x.sv.a x.sv.n x.sv.c :: .slice x.mv.a x.mv.n x.mv.c :: S
abbrev blkC (b : Nat) (P : List Value) (x : Tx) (S : List Value) : List (Nat × Obj) := [(b, .cells ⟨P ++ txQ x S⟩ 72 (0, 0))]
variable (ρ : Hp) (cb : Nat) (next : Int) (vv : Value) (rv : RV) (r : Rc) (b o : Nat) (P : List Value) (x : Tx) (S : List Value)
theorem live_spec (hP : P.length = o) : Spec Tryz.prog 211 [.pointer (some ⟨cb, 0, none⟩)] ρ [clkC cb next vv rv r (some ⟨b, o, none⟩), blkC b P x S]
    (fun z ρ' L' => z = .bool (decide (x.state = 1)) ∧ ρ' = ρ ∧ L' = [clkC cb next vv rv r (some ⟨b, o, none⟩), blkC b P x S]) := by
  have hg1 : (P ++ txQ x S)[o + 1]? = some (.int .i64 x.state) := q_get hP rfl
  refine spec_enter Tryz.func211 rfl rfl rfl fun u R => ?_
  simp only [argsE, List.cons_append, List.nil_append]
  by_cases h : x.state = 1
  · rw [decide_eq_true h]
    repeat' (first | (refine iBu ?_; refine tl_y (y_buildN rfl) rfl rfl ?_) | (refine i_op ?_; first | (refine i_qq ?_; refine qQ ?_) | refine qEf ?_) | refine tl_nil ?_ | (refine i_tc ?_; refine qTc ?_) | (refine i_te ?_; refine qTe ?_) | intro _)
    exact qE (L' := [clkC cb next vv rv r (some ⟨b, o, none⟩), blkC b P x S]) ⟨rfl, rfl, rfl⟩
  · rw [decide_eq_false h]
    repeat' (first | (refine iBu ?_; refine tl_y (y_buildN rfl) rfl rfl ?_) | (refine i_op ?_; first | (refine i_qq ?_; refine qQ ?_) | refine qEf ?_) | refine tl_nil ?_ | (refine i_tc ?_; refine qTc ?_) | (refine i_te ?_; refine qTe ?_) | intro _)
    exact qE (L' := [clkC cb next vv rv r (some ⟨b, o, none⟩), blkC b P x S]) ⟨rfl, rfl, rfl⟩
theorem within_spec (hP : P.length = o) : Spec Tryz.prog 264 [.pointer (some ⟨cb, 0, none⟩)] ρ [clkC cb next vv rv r (some ⟨b, o, none⟩), blkC b P x S]
    (fun z ρ' L' => z = .bool (withinT x.p r) ∧ ρ' = ρ ∧ L' = [clkC cb next vv rv r (some ⟨b, o, none⟩), blkC b P x S]) := by
  have hg2 : (P ++ txQ x S)[o + 2]? = some (.int .u64 x.first) := q_get hP rfl
  have hg4 : (P ++ txQ x S)[o + 4]? = some (.int .u64 x.undo) := q_get hP rfl
  unfold withinT
  simp only [Tx.p]
  refine spec_enter Tryz.func264 rfl rfl rfl fun u R => ?_
  simp only [argsE, List.cons_append, List.nil_append]
  by_cases h1 : x.first ≤ r.next
  · by_cases h2 : r.next ≤ x.undo
    · rw [decide_eq_true ⟨h1, h2⟩]
      repeat' (first | (refine iBu ?_; refine tl_y (y_buildN rfl) rfl rfl ?_) | (refine i_op ?_; first | (refine i_qq ?_; refine qQ ?_) | refine qEf ?_) | refine tl_nil ?_ | (refine i_tc ?_; refine qTc ?_) | (refine i_te ?_; refine qTe ?_) | intro _)
      refine tc_any (Stays _ _ ([clkC cb next vv rv r (some ⟨b, o, none⟩), blkC b P x S])) (stays_of (hT := tk) (Hp.le_refl _)) ?_
      all_goals refine rMv 0 ?_
      all_goals refine rFull ?_
      all_goals refine rNc 1 ?_
      all_goals refine rFa 2 ?_
      all_goals refine rFa 3 ?_
      all_goals refine rLd 4 ?_
      all_goals refine rMv 5 ?_
      all_goals refine rNc 6 ?_
      all_goals refine rFa 7 ?_
      all_goals refine rLd 8 ?_
      all_goals refine rNc 9 ?_
      all_goals refine rFa 10 ?_
      all_goals refine rLd 11 ?_
      all_goals refine rCm 12 ?_
      all_goals refine rMv 13 ?_
      all_goals (first | refine wSkip 14 ?_ | refine wSkipU 14 ?_ | refine wMv 14 ?_ | (refine tr_guard (t := 16) rfl (fun hb => ?_) (fun hb => ?_) <;> (try simp only [kk] at hb) <;> first | refine wSkip 14 ?_ | refine wSkipU 14 ?_ | refine wMv 14 ?_))
      all_goals (first | refine wSkip 15 ?_ | refine wSkipU 15 ?_ | refine wNc 15 ?_ | (refine tr_guard (t := 16) rfl (fun hb => ?_) (fun hb => ?_) <;> (try simp only [kk] at hb) <;> first | refine wSkip 15 ?_ | refine wSkipU 15 ?_ | refine wNc 15 ?_))
      all_goals (first | refine wSkip 16 ?_ | refine wSkipU 16 ?_ | refine wFa 16 ?_ | (refine tr_guard (t := 16) rfl (fun hb => ?_) (fun hb => ?_) <;> (try simp only [kk] at hb) <;> first | refine wSkip 16 ?_ | refine wSkipU 16 ?_ | refine wFa 16 ?_))
      all_goals (first | refine wSkip 17 ?_ | refine wSkipU 17 ?_ | refine wFa 17 ?_ | (refine tr_guard (t := 16) rfl (fun hb => ?_) (fun hb => ?_) <;> (try simp only [kk] at hb) <;> first | refine wSkip 17 ?_ | refine wSkipU 17 ?_ | refine wFa 17 ?_))
      all_goals (first | refine wSkip 18 ?_ | refine wSkipU 18 ?_ | refine wLd 18 ?_ | (refine tr_guard (t := 16) rfl (fun hb => ?_) (fun hb => ?_) <;> (try simp only [kk] at hb) <;> first | refine wSkip 18 ?_ | refine wSkipU 18 ?_ | refine wLd 18 ?_))
      all_goals (first | refine wSkip 19 ?_ | refine wSkipU 19 ?_ | refine wMv 19 ?_ | (refine tr_guard (t := 16) rfl (fun hb => ?_) (fun hb => ?_) <;> (try simp only [kk] at hb) <;> first | refine wSkip 19 ?_ | refine wSkipU 19 ?_ | refine wMv 19 ?_))
      all_goals (first | refine wSkip 20 ?_ | refine wSkipU 20 ?_ | refine wNc 20 ?_ | (refine tr_guard (t := 16) rfl (fun hb => ?_) (fun hb => ?_) <;> (try simp only [kk] at hb) <;> first | refine wSkip 20 ?_ | refine wSkipU 20 ?_ | refine wNc 20 ?_))
      all_goals (first | refine wSkip 21 ?_ | refine wSkipU 21 ?_ | refine wFa 21 ?_ | (refine tr_guard (t := 16) rfl (fun hb => ?_) (fun hb => ?_) <;> (try simp only [kk] at hb) <;> first | refine wSkip 21 ?_ | refine wSkipU 21 ?_ | refine wFa 21 ?_))
      all_goals (first | refine wSkip 22 ?_ | refine wSkipU 22 ?_ | refine wLd 22 ?_ | (refine tr_guard (t := 16) rfl (fun hb => ?_) (fun hb => ?_) <;> (try simp only [kk] at hb) <;> first | refine wSkip 22 ?_ | refine wSkipU 22 ?_ | refine wLd 22 ?_))
      all_goals (first | refine wSkip 23 ?_ | refine wSkipU 23 ?_ | refine wNc 23 ?_ | (refine tr_guard (t := 16) rfl (fun hb => ?_) (fun hb => ?_) <;> (try simp only [kk] at hb) <;> first | refine wSkip 23 ?_ | refine wSkipU 23 ?_ | refine wNc 23 ?_))
      all_goals (first | refine wSkip 24 ?_ | refine wSkipU 24 ?_ | refine wFa 24 ?_ | (refine tr_guard (t := 16) rfl (fun hb => ?_) (fun hb => ?_) <;> (try simp only [kk] at hb) <;> first | refine wSkip 24 ?_ | refine wSkipU 24 ?_ | refine wFa 24 ?_))
      all_goals (first | refine wSkip 25 ?_ | refine wSkipU 25 ?_ | refine wLd 25 ?_ | (refine tr_guard (t := 16) rfl (fun hb => ?_) (fun hb => ?_) <;> (try simp only [kk] at hb) <;> first | refine wSkip 25 ?_ | refine wSkipU 25 ?_ | refine wLd 25 ?_))
      all_goals (first | refine wSkip 26 ?_ | refine wSkipU 26 ?_ | refine wCm 26 ?_ | (refine tr_guard (t := 16) rfl (fun hb => ?_) (fun hb => ?_) <;> (try simp only [kk] at hb) <;> first | refine wSkip 26 ?_ | refine wSkipU 26 ?_ | refine wCm 26 ?_))
      all_goals refine rPk 27 ?_
      all_goals refine rAs 28 ?_
      all_goals refine rDone ?_
      all_goals (repeat' (first | (refine iBu ?_; refine tl_y (y_buildN rfl) rfl rfl ?_) | (refine i_op ?_; first | (refine i_qq ?_; refine qQ ?_) | refine qEf ?_) | refine tl_nil ?_ | (refine i_tc ?_; refine qTc ?_) | (refine i_te ?_; refine qTe ?_) | intro _))
      all_goals exact qE (L' := [clkC cb next vv rv r (some ⟨b, o, none⟩), blkC b P x S]) ⟨rfl, rfl, rfl⟩
    · rw [decide_eq_false (fun e => h2 e.2)]
      repeat' (first | (refine iBu ?_; refine tl_y (y_buildN rfl) rfl rfl ?_) | (refine i_op ?_; first | (refine i_qq ?_; refine qQ ?_) | refine qEf ?_) | refine tl_nil ?_ | (refine i_tc ?_; refine qTc ?_) | (refine i_te ?_; refine qTe ?_) | intro _)
      refine tc_any (Stays _ _ ([clkC cb next vv rv r (some ⟨b, o, none⟩), blkC b P x S])) (stays_of (hT := tk) (Hp.le_refl _)) ?_
      all_goals refine rMv 0 ?_
      all_goals refine rFull ?_
      all_goals refine rNc 1 ?_
      all_goals refine rFa 2 ?_
      all_goals refine rFa 3 ?_
      all_goals refine rLd 4 ?_
      all_goals refine rMv 5 ?_
      all_goals refine rNc 6 ?_
      all_goals refine rFa 7 ?_
      all_goals refine rLd 8 ?_
      all_goals refine rNc 9 ?_
      all_goals refine rFa 10 ?_
      all_goals refine rLd 11 ?_
      all_goals refine rCm 12 ?_
      all_goals refine rMv 13 ?_
      all_goals (first | refine wSkip 14 ?_ | refine wSkipU 14 ?_ | refine wMv 14 ?_ | (refine tr_guard (t := 16) rfl (fun hb => ?_) (fun hb => ?_) <;> (try simp only [kk] at hb) <;> first | refine wSkip 14 ?_ | refine wSkipU 14 ?_ | refine wMv 14 ?_))
      all_goals (first | refine wSkip 15 ?_ | refine wSkipU 15 ?_ | refine wNc 15 ?_ | (refine tr_guard (t := 16) rfl (fun hb => ?_) (fun hb => ?_) <;> (try simp only [kk] at hb) <;> first | refine wSkip 15 ?_ | refine wSkipU 15 ?_ | refine wNc 15 ?_))
      all_goals (first | refine wSkip 16 ?_ | refine wSkipU 16 ?_ | refine wFa 16 ?_ | (refine tr_guard (t := 16) rfl (fun hb => ?_) (fun hb => ?_) <;> (try simp only [kk] at hb) <;> first | refine wSkip 16 ?_ | refine wSkipU 16 ?_ | refine wFa 16 ?_))
      all_goals (first | refine wSkip 17 ?_ | refine wSkipU 17 ?_ | refine wFa 17 ?_ | (refine tr_guard (t := 16) rfl (fun hb => ?_) (fun hb => ?_) <;> (try simp only [kk] at hb) <;> first | refine wSkip 17 ?_ | refine wSkipU 17 ?_ | refine wFa 17 ?_))
      all_goals (first | refine wSkip 18 ?_ | refine wSkipU 18 ?_ | refine wLd 18 ?_ | (refine tr_guard (t := 16) rfl (fun hb => ?_) (fun hb => ?_) <;> (try simp only [kk] at hb) <;> first | refine wSkip 18 ?_ | refine wSkipU 18 ?_ | refine wLd 18 ?_))
      all_goals (first | refine wSkip 19 ?_ | refine wSkipU 19 ?_ | refine wMv 19 ?_ | (refine tr_guard (t := 16) rfl (fun hb => ?_) (fun hb => ?_) <;> (try simp only [kk] at hb) <;> first | refine wSkip 19 ?_ | refine wSkipU 19 ?_ | refine wMv 19 ?_))
      all_goals (first | refine wSkip 20 ?_ | refine wSkipU 20 ?_ | refine wNc 20 ?_ | (refine tr_guard (t := 16) rfl (fun hb => ?_) (fun hb => ?_) <;> (try simp only [kk] at hb) <;> first | refine wSkip 20 ?_ | refine wSkipU 20 ?_ | refine wNc 20 ?_))
      all_goals (first | refine wSkip 21 ?_ | refine wSkipU 21 ?_ | refine wFa 21 ?_ | (refine tr_guard (t := 16) rfl (fun hb => ?_) (fun hb => ?_) <;> (try simp only [kk] at hb) <;> first | refine wSkip 21 ?_ | refine wSkipU 21 ?_ | refine wFa 21 ?_))
      all_goals (first | refine wSkip 22 ?_ | refine wSkipU 22 ?_ | refine wLd 22 ?_ | (refine tr_guard (t := 16) rfl (fun hb => ?_) (fun hb => ?_) <;> (try simp only [kk] at hb) <;> first | refine wSkip 22 ?_ | refine wSkipU 22 ?_ | refine wLd 22 ?_))
      all_goals (first | refine wSkip 23 ?_ | refine wSkipU 23 ?_ | refine wNc 23 ?_ | (refine tr_guard (t := 16) rfl (fun hb => ?_) (fun hb => ?_) <;> (try simp only [kk] at hb) <;> first | refine wSkip 23 ?_ | refine wSkipU 23 ?_ | refine wNc 23 ?_))
      all_goals (first | refine wSkip 24 ?_ | refine wSkipU 24 ?_ | refine wFa 24 ?_ | (refine tr_guard (t := 16) rfl (fun hb => ?_) (fun hb => ?_) <;> (try simp only [kk] at hb) <;> first | refine wSkip 24 ?_ | refine wSkipU 24 ?_ | refine wFa 24 ?_))
      all_goals (first | refine wSkip 25 ?_ | refine wSkipU 25 ?_ | refine wLd 25 ?_ | (refine tr_guard (t := 16) rfl (fun hb => ?_) (fun hb => ?_) <;> (try simp only [kk] at hb) <;> first | refine wSkip 25 ?_ | refine wSkipU 25 ?_ | refine wLd 25 ?_))
      all_goals (first | refine wSkip 26 ?_ | refine wSkipU 26 ?_ | refine wCm 26 ?_ | (refine tr_guard (t := 16) rfl (fun hb => ?_) (fun hb => ?_) <;> (try simp only [kk] at hb) <;> first | refine wSkip 26 ?_ | refine wSkipU 26 ?_ | refine wCm 26 ?_))
      all_goals refine rPk 27 ?_
      all_goals refine rAs 28 ?_
      all_goals refine rDone ?_
      all_goals (repeat' (first | (refine iBu ?_; refine tl_y (y_buildN rfl) rfl rfl ?_) | (refine i_op ?_; first | (refine i_qq ?_; refine qQ ?_) | refine qEf ?_) | refine tl_nil ?_ | (refine i_tc ?_; refine qTc ?_) | (refine i_te ?_; refine qTe ?_) | intro _))
      all_goals exact qE (L' := [clkC cb next vv rv r (some ⟨b, o, none⟩), blkC b P x S]) ⟨rfl, rfl, rfl⟩
  · rw [decide_eq_false (fun e => h1 e.1)]
    repeat' (first | (refine iBu ?_; refine tl_y (y_buildN rfl) rfl rfl ?_) | (refine i_op ?_; first | (refine i_qq ?_; refine qQ ?_) | refine qEf ?_) | refine tl_nil ?_ | (refine i_tc ?_; refine qTc ?_) | (refine i_te ?_; refine qTe ?_) | intro _)
    refine tc_any (Stays _ _ ([clkC cb next vv rv r (some ⟨b, o, none⟩), blkC b P x S])) (stays_of (hT := tk) (Hp.le_refl _)) ?_
    all_goals refine rMv 0 ?_
    all_goals refine rFull ?_
    all_goals refine rNc 1 ?_
    all_goals refine rFa 2 ?_
    all_goals refine rFa 3 ?_
    all_goals refine rLd 4 ?_
    all_goals refine rMv 5 ?_
    all_goals refine rNc 6 ?_
    all_goals refine rFa 7 ?_
    all_goals refine rLd 8 ?_
    all_goals refine rNc 9 ?_
    all_goals refine rFa 10 ?_
    all_goals refine rLd 11 ?_
    all_goals refine rCm 12 ?_
    all_goals refine rMv 13 ?_
    all_goals (first | refine wSkip 14 ?_ | refine wSkipU 14 ?_ | refine wMv 14 ?_ | (refine tr_guard (t := 16) rfl (fun hb => ?_) (fun hb => ?_) <;> (try simp only [kk] at hb) <;> first | refine wSkip 14 ?_ | refine wSkipU 14 ?_ | refine wMv 14 ?_))
    all_goals (first | refine wSkip 15 ?_ | refine wSkipU 15 ?_ | refine wNc 15 ?_ | (refine tr_guard (t := 16) rfl (fun hb => ?_) (fun hb => ?_) <;> (try simp only [kk] at hb) <;> first | refine wSkip 15 ?_ | refine wSkipU 15 ?_ | refine wNc 15 ?_))
    all_goals (first | refine wSkip 16 ?_ | refine wSkipU 16 ?_ | refine wFa 16 ?_ | (refine tr_guard (t := 16) rfl (fun hb => ?_) (fun hb => ?_) <;> (try simp only [kk] at hb) <;> first | refine wSkip 16 ?_ | refine wSkipU 16 ?_ | refine wFa 16 ?_))
    all_goals (first | refine wSkip 17 ?_ | refine wSkipU 17 ?_ | refine wFa 17 ?_ | (refine tr_guard (t := 16) rfl (fun hb => ?_) (fun hb => ?_) <;> (try simp only [kk] at hb) <;> first | refine wSkip 17 ?_ | refine wSkipU 17 ?_ | refine wFa 17 ?_))
    all_goals (first | refine wSkip 18 ?_ | refine wSkipU 18 ?_ | refine wLd 18 ?_ | (refine tr_guard (t := 16) rfl (fun hb => ?_) (fun hb => ?_) <;> (try simp only [kk] at hb) <;> first | refine wSkip 18 ?_ | refine wSkipU 18 ?_ | refine wLd 18 ?_))
    all_goals (first | refine wSkip 19 ?_ | refine wSkipU 19 ?_ | refine wMv 19 ?_ | (refine tr_guard (t := 16) rfl (fun hb => ?_) (fun hb => ?_) <;> (try simp only [kk] at hb) <;> first | refine wSkip 19 ?_ | refine wSkipU 19 ?_ | refine wMv 19 ?_))
    all_goals (first | refine wSkip 20 ?_ | refine wSkipU 20 ?_ | refine wNc 20 ?_ | (refine tr_guard (t := 16) rfl (fun hb => ?_) (fun hb => ?_) <;> (try simp only [kk] at hb) <;> first | refine wSkip 20 ?_ | refine wSkipU 20 ?_ | refine wNc 20 ?_))
    all_goals (first | refine wSkip 21 ?_ | refine wSkipU 21 ?_ | refine wFa 21 ?_ | (refine tr_guard (t := 16) rfl (fun hb => ?_) (fun hb => ?_) <;> (try simp only [kk] at hb) <;> first | refine wSkip 21 ?_ | refine wSkipU 21 ?_ | refine wFa 21 ?_))
    all_goals (first | refine wSkip 22 ?_ | refine wSkipU 22 ?_ | refine wLd 22 ?_ | (refine tr_guard (t := 16) rfl (fun hb => ?_) (fun hb => ?_) <;> (try simp only [kk] at hb) <;> first | refine wSkip 22 ?_ | refine wSkipU 22 ?_ | refine wLd 22 ?_))
    all_goals (first | refine wSkip 23 ?_ | refine wSkipU 23 ?_ | refine wNc 23 ?_ | (refine tr_guard (t := 16) rfl (fun hb => ?_) (fun hb => ?_) <;> (try simp only [kk] at hb) <;> first | refine wSkip 23 ?_ | refine wSkipU 23 ?_ | refine wNc 23 ?_))
    all_goals (first | refine wSkip 24 ?_ | refine wSkipU 24 ?_ | refine wFa 24 ?_ | (refine tr_guard (t := 16) rfl (fun hb => ?_) (fun hb => ?_) <;> (try simp only [kk] at hb) <;> first | refine wSkip 24 ?_ | refine wSkipU 24 ?_ | refine wFa 24 ?_))
    all_goals (first | refine wSkip 25 ?_ | refine wSkipU 25 ?_ | refine wLd 25 ?_ | (refine tr_guard (t := 16) rfl (fun hb => ?_) (fun hb => ?_) <;> (try simp only [kk] at hb) <;> first | refine wSkip 25 ?_ | refine wSkipU 25 ?_ | refine wLd 25 ?_))
    all_goals (first | refine wSkip 26 ?_ | refine wSkipU 26 ?_ | refine wCm 26 ?_ | (refine tr_guard (t := 16) rfl (fun hb => ?_) (fun hb => ?_) <;> (try simp only [kk] at hb) <;> first | refine wSkip 26 ?_ | refine wSkipU 26 ?_ | refine wCm 26 ?_))
    all_goals refine rPk 27 ?_
    all_goals refine rAs 28 ?_
    all_goals refine rDone ?_
    all_goals (repeat' (first | (refine iBu ?_; refine tl_y (y_buildN rfl) rfl rfl ?_) | (refine i_op ?_; first | (refine i_qq ?_; refine qQ ?_) | refine qEf ?_) | refine tl_nil ?_ | (refine i_tc ?_; refine qTc ?_) | (refine i_te ?_; refine qTe ?_) | intro _))
    all_goals exact qE (L' := [clkC cb next vv rv r (some ⟨b, o, none⟩), blkC b P x S]) ⟨rfl, rfl, rfl⟩
abbrev cellC (pb cb : Nat) : List (Nat × Obj) := [(pb, .cells ⟨[.pointer (some ⟨cb, 0, none⟩)]⟩ 185 (0, 0))]
theorem back1_spec (t : Option Addr) (pb : Nat) (s : Lf) : Spec Tryz.prog 290 [.agg ⟨lfV s⟩, .pointer (some ⟨pb, 0, none⟩)] ρ [cellC pb cb, clkC cb next vv rv r t]
    (fun z ρ' L' => z = .bool (decide (r.next < s.lsn)) ∧ ρ' = ρ ∧ L' = [cellC pb cb, clkC cb next vv rv r t]) := by
  refine spec_enter Tryz.func290 rfl rfl rfl fun u R => ?_
  simp only [argsE, List.cons_append, List.nil_append]
  by_cases h : r.next < s.lsn
  · rw [decide_eq_true h]
    repeat' (first | (refine iBu ?_; refine tl_y (y_buildN rfl) rfl rfl ?_) | (refine i_op ?_; first | (refine i_qq ?_; refine qQ ?_) | refine qEf ?_) | refine tl_nil ?_ | (refine i_tc ?_; refine qTc ?_) | (refine i_te ?_; refine qTe ?_) | intro _)
    refine tc_any (Stays _ _ _) stays_refl ?_
    all_goals refine rFa 0 ?_
    all_goals refine rFull ?_
    all_goals refine rLd 1 ?_
    all_goals refine rLd 2 ?_
    all_goals refine rNc 3 ?_
    all_goals refine rFa 4 ?_
    all_goals refine rFa 5 ?_
    all_goals refine rLd 6 ?_
    all_goals refine rCm 7 ?_
    all_goals refine rAs 8 ?_
    all_goals refine rDone ?_
    all_goals (repeat' (first | (refine iBu ?_; refine tl_y (y_buildN rfl) rfl rfl ?_) | (refine i_op ?_; first | (refine i_qq ?_; refine qQ ?_) | refine qEf ?_) | refine tl_nil ?_ | (refine i_tc ?_; refine qTc ?_) | (refine i_te ?_; refine qTe ?_) | intro _))
    all_goals exact qE (L' := [cellC pb cb, clkC cb next vv rv r t]) ⟨rfl, rfl, rfl⟩
  · rw [decide_eq_false h]
    repeat' (first | (refine iBu ?_; refine tl_y (y_buildN rfl) rfl rfl ?_) | (refine i_op ?_; first | (refine i_qq ?_; refine qQ ?_) | refine qEf ?_) | refine tl_nil ?_ | (refine i_tc ?_; refine qTc ?_) | (refine i_te ?_; refine qTe ?_) | intro _)
    refine tc_any (Stays _ _ _) stays_refl ?_
    all_goals refine rFa 0 ?_
    all_goals refine rFull ?_
    all_goals refine rLd 1 ?_
    all_goals refine rLd 2 ?_
    all_goals refine rNc 3 ?_
    all_goals refine rFa 4 ?_
    all_goals refine rFa 5 ?_
    all_goals refine rLd 6 ?_
    all_goals refine rCm 7 ?_
    all_goals refine rAs 8 ?_
    all_goals refine rDone ?_
    all_goals (repeat' (first | (refine iBu ?_; refine tl_y (y_buildN rfl) rfl rfl ?_) | (refine i_op ?_; first | (refine i_qq ?_; refine qQ ?_) | refine qEf ?_) | refine tl_nil ?_ | (refine i_tc ?_; refine qTc ?_) | (refine i_te ?_; refine qTe ?_) | intro _))
    all_goals exact qE (L' := [cellC pb cb, clkC cb next vv rv r t]) ⟨rfl, rfl, rfl⟩
theorem back2_spec (t : Option Addr) (pb : Nat) (m : Nat) : Spec Tryz.prog 292 [u64c m, .pointer (some ⟨pb, 0, none⟩)] ρ [cellC pb cb, clkC cb next vv rv r t]
    (fun z ρ' L' => z = .bool (decide (r.next < m)) ∧ ρ' = ρ ∧ L' = [cellC pb cb, clkC cb next vv rv r t]) := by
  refine spec_enter Tryz.func292 rfl rfl rfl fun u R => ?_
  simp only [argsE, List.cons_append, List.nil_append]
  by_cases h : r.next < m
  · rw [decide_eq_true h]
    repeat' (first | (refine iBu ?_; refine tl_y (y_buildN rfl) rfl rfl ?_) | (refine i_op ?_; first | (refine i_qq ?_; refine qQ ?_) | refine qEf ?_) | refine tl_nil ?_ | (refine i_tc ?_; refine qTc ?_) | (refine i_te ?_; refine qTe ?_) | intro _)
    exact qE (L' := [cellC pb cb, clkC cb next vv rv r t]) ⟨rfl, rfl, rfl⟩
  · rw [decide_eq_false h]
    repeat' (first | (refine iBu ?_; refine tl_y (y_buildN rfl) rfl rfl ?_) | (refine i_op ?_; first | (refine i_qq ?_; refine qQ ?_) | refine qEf ?_) | refine tl_nil ?_ | (refine i_tc ?_; refine qTc ?_) | (refine i_te ?_; refine qTe ?_) | intro _)
    exact qE (L' := [cellC pb cb, clkC cb next vv rv r t]) ⟨rfl, rfl, rfl⟩
end Go.Proofs.E

namespace Go.Proofs.E
open Go
set_option linter.unusedVariables false
set_option linter.unusedSimpArgs false
set_option linter.unusedSectionVars false
set_option maxRecDepth 4000
set_option maxHeartbeats 1000000
attribute [local irreducible] Yl TL TC TE Spec YSpec R1 Hp.le EnvLe TS TR YS Stays
-- BN
def backX (x : Tx) (to : Nat) (sv mv : SV) : Tx := { x with undo := to, stack := x.stack.filter (fun s => decide (s.lsn ≤ to)), marks := x.marks.filter (fun m => decide (m ≤ to)), sv := sv, mv := mv }
/-- a clerk's memory at a transaction -/
abbrev focC (cb : Nat) (next : Int) (vv : Value) (rv : RV) (r : Rc) (b o : Nat) (P : List Value) (x : Tx) (S ss ms : List Value) : SH := [clkC cb next vv rv r (some ⟨b, o, none⟩), blkC b P x S, stkC x ss, mrkC x ms]
theorem back_spec (ρ : Hp) (cb : Nat) (next : Int) (vv : Value) (rv : RV) (r : Rc) (b o : Nat) (P : List Value) (x : Tx) (S ss ms : List Value) (hP : P.length = o) (hX : OwnX x ss ms) (hsl : x.stack.length ≤ 1099511627776) (hml : x.marks.length ≤ 100) :
    Spec Tryz.prog 265 [.pointer (some ⟨cb, 0, none⟩)] ρ (focC cb next vv rv r b o P x S ss ms)
      (fun z ρ' L' => ρ' = ρ ∧ ∃ x' ss' ms', x'.p = backT x.p r.next ∧ x'.num = x.num ∧ OwnX x' ss' ms' ∧ L' = focC cb next vv rv r b o P x' S ss' ms') := by
  have hf1 : (fun s : Lf => !decide (r.next < s.lsn)) = (fun s => decide (s.lsn ≤ r.next)) := by
    funext s
    rw [← decide_not]; exact decide_eq_decide.2 (by omega)
  have hf2 : (fun s : Nat => !decide (r.next < s)) = (fun s => decide (s ≤ r.next)) := by
    funext s
    rw [← decide_not]; exact decide_eq_decide.2 (by omega)
  have hd1 := fun pb => delL_spec ρ _ ss x.stack (by omega) hX.s 290 [.pointer (some ⟨pb, 0, none⟩)] [cellC pb cb, clkC cb next vv rv r (some ⟨b, o, none⟩)] (fun s => decide (r.next < s.lsn)) (fun ρ1 _ s _ => back1_spec ρ1 cb next vv rv r (some ⟨b, o, none⟩) pb s)
  have hd2 := fun pb => delU_spec ρ _ ms x.marks (by omega) hX.m 292 [.pointer (some ⟨pb, 0, none⟩)] [cellC pb cb, clkC cb next vv rv r (some ⟨b, o, none⟩)] (fun s => decide (r.next < s)) (fun ρ1 _ s _ => back2_spec ρ1 cb next vv rv r (some ⟨b, o, none⟩) pb s)
  rw [hf1] at hd1
  rw [hf2] at hd2
  refine spec_enter Tryz.func265 rfl rfl rfl fun u R => ?_
  simp only [argsE, List.cons_append, List.nil_append]
  repeat' (first | (refine iBu ?_; refine tl_y (y_buildN rfl) rfl rfl ?_) | (refine i_op ?_; first | (refine i_qq ?_; refine qQ ?_) | refine qEf ?_) | refine tl_nil ?_ | (refine i_tc ?_; refine qTc ?_) | (refine i_te ?_; refine qTe ?_) | intro _)
  rename_i pb
  refine tc_any (Stays _ _ ([cellC pb cb, clkC cb next vv rv r (some ⟨b, o, none⟩)])) (stays_of (hT := tk) (Hp.le_refl _)) ?_
  all_goals refine rLd 0 ?_
  all_goals refine rNc 1 ?_
  all_goals refine rFa 2 ?_
  all_goals refine rLd 3 ?_
  all_goals refine rLd 4 ?_
  all_goals refine rNc 5 ?_
  all_goals refine rFa 6 ?_
  all_goals refine rFa 7 ?_
  all_goals refine rLd 8 ?_
  all_goals refine rNc 9 ?_
  all_goals refine rFa 10 ?_
  all_goals (refine rStep (i := 11) ?_; ((try refine qWant ?_); (first | (refine tl_store_q (o := o) (P := P) rfl rfl hP rfl ?_) | (refine qEf ?_; try intro _)) <;> ((try simp only [kM, kN, kO]); refine tl_nil ?_; refine rNext ?_)))
  all_goals refine rDone ?_
  all_goals (repeat' (first | (refine iBu ?_; refine tl_y (y_buildN rfl) rfl rfl ?_) | (refine i_op ?_; first | (refine i_qq ?_; refine qQ ?_) | refine qEf ?_) | refine tl_nil ?_ | (refine i_tc ?_; refine qTc ?_) | (refine i_te ?_; refine qTe ?_) | intro _))
  all_goals have hg5 : (P ++ txQ { x with undo := r.next } S)[o + 5]? = some (.slice x.sv.a x.sv.n x.sv.c) := q_get hP rfl
  all_goals refine tc_phase 13 (Stays _ _ ([cellC pb cb, clkC cb next vv rv r (some ⟨b, o, none⟩), blkC b P { x with undo := r.next } S])) (by decide +kernel) (stays_of (hT := tk) (Hp.le_refl _)) ?_
  all_goals simp only [List.take_succ_cons, List.take_zero]
  all_goals refine rLd 0 ?_
  all_goals refine rNc 1 ?_
  all_goals refine rFa 2 ?_
  all_goals refine rLd 3 ?_
  all_goals refine rLd 4 ?_
  all_goals refine rNc 5 ?_
  all_goals refine rFa 6 ?_
  all_goals refine rLd 7 ?_
  all_goals refine rNc 8 ?_
  all_goals refine rFa 9 ?_
  all_goals refine rLd 10 ?_
  all_goals refine rMf 11 ?_
  all_goals (refine rStep (i := 12) ?_; ((try refine qWant ?_); (first | (refine tl_is (.func 289) ?_; refine qC rfl rfl (hd1 pb) ?_; rintro v ρ' L' hle ⟨rfl, s1, o1, rfl⟩ <;> (try simp only [kM, kN, kO]); obtain ⟨a1, c1, rfl, q1⟩ := o1.slice) | (refine tl_store_q (o := o) (P := P) rfl rfl hP rfl ?_) | (refine qEf ?_; try intro _)) <;> ((try simp only [kM, kN, kO]); refine tl_nil ?_; refine rNext ?_)))
  all_goals refine rDone ?_
  all_goals refine te_phase (fuel := 3) (m := [true, true, true, true, true, true, true, true, true, true, true, true, true, false, false, false]) (Stays _ _ ([])) rfl rfl (stays_of (hT := tk) (Hp.le_refl _)) ?_
  all_goals refine rNc 13 ?_
  all_goals refine rFa 14 ?_
  all_goals (refine rStep (i := 15) ?_; ((try refine qWant ?_); (first | (refine tl_store_q (o := o) (P := P) rfl rfl hP rfl ?_) | (refine qEf ?_; try intro _)) <;> ((try simp only [kM, kN, kO]); refine tl_nil ?_; refine rNext ?_)))
  all_goals refine rDone ?_
  all_goals (repeat' (first | (refine iBu ?_; refine tl_y (y_buildN rfl) rfl rfl ?_) | (refine i_op ?_; first | (refine i_qq ?_; refine qQ ?_) | refine qEf ?_) | refine tl_nil ?_ | (refine i_tc ?_; refine qTc ?_) | (refine i_te ?_; refine qTe ?_) | intro _))
  all_goals have hg6 : (P ++ txQ { x with undo := r.next, sv := ⟨a1, (x.stack.filter (fun s => decide (s.lsn ≤ r.next))).length, c1⟩ } S)[o + 6]? = some (.slice x.mv.a x.mv.n x.mv.c) := q_get hP rfl
  all_goals refine tc_phase 13 (Stays _ _ ([cellC pb cb, clkC cb next vv rv r (some ⟨b, o, none⟩), blkC b P { x with undo := r.next, sv := ⟨a1, (x.stack.filter (fun s => decide (s.lsn ≤ r.next))).length, c1⟩ } S])) (by decide +kernel) (stays_of (hT := tk) (Hp.le_refl _)) ?_
  all_goals simp only [List.take_succ_cons, List.take_zero]
  all_goals refine rLd 0 ?_
  all_goals refine rNc 1 ?_
  all_goals refine rFa 2 ?_
  all_goals refine rLd 3 ?_
  all_goals refine rLd 4 ?_
  all_goals refine rNc 5 ?_
  all_goals refine rFa 6 ?_
  all_goals refine rLd 7 ?_
  all_goals refine rNc 8 ?_
  all_goals refine rFa 9 ?_
  all_goals refine rLd 10 ?_
  all_goals refine rMf 11 ?_
  all_goals (refine rStep (i := 12) ?_; ((try refine qWant ?_); (first | (refine tl_is (.func 291) ?_; refine qC rfl rfl (hd2 pb) ?_; rintro v ρ' L' hle ⟨rfl, s2, o2, rfl⟩ <;> (try simp only [kM, kN, kO]); obtain ⟨a2, c2, rfl, q2⟩ := o2.slice) | (refine tl_store_q (o := o) (P := P) rfl rfl hP rfl ?_) | (refine qEf ?_; try intro _)) <;> ((try simp only [kM, kN, kO]); refine tl_nil ?_; refine rNext ?_)))
  all_goals refine rDone ?_
  all_goals refine te_phase (fuel := 3) (m := [true, true, true, true, true, true, true, true, true, true, true, true, true, false, false, false]) (Stays _ _ ([])) rfl rfl (stays_of (hT := tk) (Hp.le_refl _)) ?_
  all_goals refine rNc 13 ?_
  all_goals refine rFa 14 ?_
  all_goals (refine rStep (i := 15) ?_; ((try refine qWant ?_); (first | (refine tl_store_q (o := o) (P := P) rfl rfl hP rfl ?_) | (refine qEf ?_; try intro _)) <;> ((try simp only [kM, kN, kO]); refine tl_nil ?_; refine rNext ?_)))
  all_goals refine rDone ?_
  all_goals (repeat' (first | (refine iBu ?_; refine tl_y (y_buildN rfl) rfl rfl ?_) | (refine i_op ?_; first | (refine i_qq ?_; refine qQ ?_) | refine qEf ?_) | refine tl_nil ?_ | (refine i_tc ?_; refine qTc ?_) | (refine i_te ?_; refine qTe ?_) | intro _))
  all_goals exact qE (L' := focC cb next vv rv r b o P (backX x r.next ⟨a1, _, c1⟩ ⟨a2, _, c2⟩) S s1 s2) ⟨rfl, backX x r.next ⟨a1, _, c1⟩ ⟨a2, _, c2⟩, s1, s2, rfl, rfl, ⟨o1, o2⟩, rfl⟩
end Go.Proofs.E

namespace Go.Proofs.E
open Go
set_option linter.unusedVariables false
set_option linter.unusedSimpArgs false
set_option linter.unusedSectionVars false
set_option maxRecDepth 4000
set_option maxHeartbeats 1000000
attribute [local irreducible] Yl TL TC TE Spec YSpec R1 Hp.le EnvLe TS TR YS Stays
-- BN
/-- what a method makes of its transaction -/
def MethR (r : Rc) (cb : Nat) (next : Int) (vv : Value) (rv : RV) (b o : Nat) (P : List Value) (x : Tx) (S : List Value) (may : Bool) (nx : TxP) (ρ : Hp) (z : Value) (ρ' : Hp) (L' : SH) : Prop :=
  ρ.le ρ' ∧ ((may = true ∧ z = .int .i64 0 ∧ ∃ x' ss' ms', x'.p = nx ∧ OwnX x' ss' ms' ∧ L' = focC cb next vv rv r b o P x' S ss' ms') ∨ (may = false ∧ z = .int .i64 2 ∧ ∃ G : SH, L' = G))
theorem mchange_spec (ρ : Hp) (cb : Nat) (next : Int) (vv : Value) (rv : RV) (r : Rc) (b o : Nat) (P : List Value) (x : Tx) (S ss ms : List Value) (hP : P.length = o) (hX : OwnX x ss ms) (hsl : x.stack.length ≤ 1099511627776) (hr : RcIn ρ rv r) (hok : recOk r = true) :
    Spec Tryz.prog 216 [.pointer (some ⟨cb, 0, none⟩)] ρ (focC cb next vv rv r b o P x S ss ms)
      (MethR r cb next vv rv b o P x S (liveT x.p) (pushT x.p r) ρ) := by
  have hli := live_spec ρ cb next vv rv r b o P x S hP
  have hre := rreserve_spec ρ rv r hr
  unfold MethR
  unfold errN at hre
  rw [if_pos hok] at hre
  refine spec_enter Tryz.func216 rfl rfl rfl fun u R => ?_
  simp only [argsE, List.cons_append, List.nil_append]
  by_cases hs : x.state = 1
  · have hlt : liveT x.p = true := decide_eq_true hs
    rw [decide_eq_true hs] at hli
    rw [hlt]
    have hg5 : (P ++ txQ { x with undo := r.lsn } S)[o + 5]? = some (.slice x.sv.a x.sv.n x.sv.c) := q_get hP rfl
    have hXs := hX.s
    repeat' (first | (refine tl_is (.func 211) ?_; refine qC rfl rfl (hli) ?_; rintro v ρ' L' hle ⟨rfl, rfl, rfl⟩ <;> (try simp only [kM, kN, kO])) | (refine tl_is (.func 77) ?_; refine qC rfl rfl (hre) ?_; rintro v ρ' L' hle ⟨hl1, rfl, rfl⟩ <;> (try simp only [kM, kN, kO])) | (refine iBu ?_; refine tl_y (y_buildN rfl) rfl rfl ?_) | (refine i_op ?_; first | (refine i_qq ?_; refine qQ ?_) | refine qEf ?_) | refine tl_nil ?_ | (refine i_tc ?_; refine qTc ?_) | (refine i_te ?_; refine qTe ?_) | intro _)
    refine tc_any (Stays _ _ ([clkC cb next vv rv r (some ⟨b, o, none⟩)])) (stays_of (hT := tk) (Hp.le_refl _)) ?_
    all_goals refine rMv 0 ?_
    all_goals refine rNc 1 ?_
    all_goals refine rFa 2 ?_
    all_goals refine rLd 3 ?_
    all_goals refine rMv 4 ?_
    all_goals refine rNc 5 ?_
    all_goals refine rFa 6 ?_
    all_goals refine rFa 7 ?_
    all_goals refine rLd 8 ?_
    all_goals refine rNc 9 ?_
    all_goals refine rFa 10 ?_
    all_goals (refine rStep (i := 11) ?_; ((try refine qWant ?_); (first | (refine tl_store_q (o := o) (P := P) rfl rfl hP rfl ?_) | (refine qEf ?_; try intro _)) <;> ((try simp only [kM, kN, kO]); refine tl_nil ?_; refine rNext ?_)))
    all_goals refine rDone ?_
    all_goals (repeat' (first | (refine iBu ?_; refine tl_y (y_buildN rfl) rfl rfl ?_) | (refine i_op ?_; first | (refine i_qq ?_; refine qQ ?_) | refine qEf ?_) | refine tl_nil ?_ | (refine i_tc ?_; refine qTc ?_) | (refine i_te ?_; refine qTe ?_) | intro _))
    all_goals refine tc_phase 20 (Stays _ _ ([clkC cb next vv rv r (some ⟨b, o, none⟩), blkC b P { x with undo := r.lsn } S])) (by decide +kernel) (stays_of (hT := tk) (Hp.le_refl _)) ?_
    all_goals simp only [List.take_succ_cons, List.take_zero]
    all_goals refine rMv 0 ?_
    all_goals refine rNc 1 ?_
    all_goals refine rFa 2 ?_
    all_goals refine rLd 3 ?_
    all_goals refine rMv 4 ?_
    all_goals refine rNc 5 ?_
    all_goals refine rFa 6 ?_
    all_goals refine rLd 7 ?_
    all_goals refine rNc 8 ?_
    all_goals refine rFa 9 ?_
    all_goals refine rLd 10 ?_
    all_goals refine rMv 11 ?_
    all_goals refine rNc 12 ?_
    all_goals refine rFa 13 ?_
    all_goals refine rFa 14 ?_
    all_goals refine rLd 15 ?_
    all_goals refine rMv 16 ?_
    all_goals refine rBu 17 ?_ (y := fun _ _ => y_buildN rfl)
    all_goals (refine rStep (i := 18) ?_; ((try refine qWant ?_); (first | (refine tl_buildSliceA (css := [lfV (leftOf r)]) (sz := 2) rfl rfl rfl rfl (by simp) (by simp) rfl (fun bs => ?_); simp only [List.flatten_cons, List.flatten_nil, List.append_nil]) | (refine qEf ?_; try intro _)) <;> ((try simp only [kM, kN, kO]); refine tl_nil ?_; refine rNext ?_)))
    all_goals (refine rStep (i := 19) ?_; ((try refine qWant ?_); (first | (refine tl_buildSliceA (css := [lfV (leftOf r)]) (sz := 2) rfl rfl rfl rfl (by simp) (by simp) rfl (fun bs => ?_); simp only [List.flatten_cons, List.flatten_nil, List.append_nil]) | (refine tl_app (ys := lfV (leftOf r)) (m := 1) rfl rfl hXs (hR := by infer_instance) SrcV.lit rfl rfl (by decide) rfl (by omega) (by omega) rfl (fun v' sp' hown' => ?_); obtain ⟨a1, c1, rfl, q1⟩ := hown'.slice) | (refine qEf ?_; try intro _)) <;> ((try simp only [kM, kN, kO]); refine tl_nil ?_; refine rNext ?_)))
    all_goals refine rDone ?_
    all_goals refine te_phase (fuel := 3) (m := [true, true, true, true, true, true, true, true, true, true, true, true, true, true, true, true, true, true, true, true, false, false, false]) (Stays _ _ ([])) rfl rfl (stays_of (hT := tk) (Hp.le_refl _)) ?_
    all_goals refine rNc 20 ?_
    all_goals refine rFa 21 ?_
    all_goals (refine rStep (i := 22) ?_; ((try refine qWant ?_); (first | (refine tl_store_q (o := o) (P := P) rfl rfl hP rfl ?_) | (refine qEf ?_; try intro _)) <;> ((try simp only [kM, kN, kO]); refine tl_nil ?_; refine rNext ?_)))
    all_goals refine rDone ?_
    all_goals (repeat' (first | (refine iBu ?_; refine tl_y (y_buildN rfl) rfl rfl ?_) | (refine i_op ?_; first | (refine i_qq ?_; refine qQ ?_) | refine qEf ?_) | refine tl_nil ?_ | (refine i_tc ?_; refine qTc ?_) | (refine i_te ?_; refine qTe ?_) | intro _))
    all_goals have hm : (x.stack.map lfV).flatten ++ lfV (leftOf r) = ((x.stack ++ [leftOf r]).map lfV).flatten := by simp
    all_goals rw [hm] at hown' ⊢
    all_goals exact qE (L' := focC cb next vv rv r b o P { x with undo := r.lsn, stack := x.stack ++ [leftOf r], sv := ⟨a1, x.stack.length + 1, c1⟩ } S sp' ms) ⟨hl1, .inl ⟨by trivial, rfl, { x with undo := r.lsn, stack := x.stack ++ [leftOf r], sv := ⟨a1, x.stack.length + 1, c1⟩ }, sp', ms, rfl, ⟨by rw [List.length_append]; exact hown', hX.m⟩, rfl⟩⟩
  · have hlt : liveT x.p = false := decide_eq_false hs
    rw [decide_eq_false hs] at hli
    rw [hlt]
    repeat' (first | (refine tl_is (.func 211) ?_; refine qC rfl rfl (hli) ?_; rintro v ρ' L' hle ⟨rfl, rfl, rfl⟩ <;> (try simp only [kM, kN, kO])) | (refine iBu ?_; refine tl_y (y_buildN rfl) rfl rfl ?_) | (refine i_op ?_; first | (refine i_qq ?_; refine qQ ?_) | refine qEf ?_) | refine tl_nil ?_ | (refine i_tc ?_; refine qTc ?_) | (refine i_te ?_; refine qTe ?_) | intro _)
    exact qE (L' := []) ⟨Hp.le_refl _, .inr ⟨by trivial, rfl, [], rfl⟩⟩
variable (ρ : Hp) (cb : Nat) (next : Int) (vv : Value) (rv : RV) (r : Rc) (b o : Nat) (P : List Value) (x : Tx) (S ss ms : List Value)
theorem mnested_spec (hP : P.length = o) (hX : OwnX x ss ms) (hsl : x.stack.length ≤ 1099511627776) (hml : x.marks.length ≤ 100) :
    Spec Tryz.prog 217 [.pointer (some ⟨cb, 0, none⟩)] ρ (focC cb next vv rv r b o P x S ss ms)
      (MethR r cb next vv rv b o P x S (liveT x.p && withinT x.p r) (backT x.p r.next) ρ) := by
  have hli := live_spec ρ cb next vv rv r b o P x S hP
  have hwi := within_spec ρ cb next vv rv r b o P x S hP
  have hba := back_spec ρ cb next vv rv r b o P x S ss ms hP hX hsl hml
  have hne := fun b0 => needB_spec ρ b0 2 [liveT x.p, withinT x.p r] (by simp) rfl
  rw [show decide (x.state = 1) = liveT x.p from rfl] at hli
  unfold MethR
  generalize liveT x.p = l1 at *
  generalize withinT x.p r = w1 at *
  refine spec_enter Tryz.func217 rfl rfl rfl fun u R => ?_
  simp only [argsE, List.cons_append, List.nil_append]
  have hall : ([l1, w1].all id) = (l1 && w1) := by simp
  rw [hall] at hne
  cases hm : (l1 && w1)
  · rw [hm] at hne
    simp only [Bool.false_eq_true, if_false] at hne
    repeat' (first | (refine tl_is (.func 211) ?_; refine qC rfl rfl (hli) ?_; rintro v ρ' L' hle ⟨rfl, rfl, rfl⟩ <;> (try simp only [kM, kN, kO])) | (refine tl_is (.func 264) ?_; refine qC rfl rfl (hwi) ?_; rintro v ρ' L' hle ⟨rfl, rfl, rfl⟩ <;> (try simp only [kM, kN, kO])) | (refine tl_buildSlice_s rfl rfl rfl rfl (by simp) rfl rfl (fun bs => ?_)) | (refine tl_is (.func 263) ?_; refine qC rfl rfl (hne _) ?_; rintro v ρ' L' hle ⟨rfl, rfl, rfl⟩ <;> (try simp only [kM, kN, kO])) | (refine iBu ?_; refine tl_y (y_buildN rfl) rfl rfl ?_) | (refine i_op ?_; first | (refine i_qq ?_; refine qQ ?_) | refine qEf ?_) | refine tl_nil ?_ | (refine i_tc ?_; refine qTc ?_) | (refine i_te ?_; refine qTe ?_) | intro _)
    exact qE (L' := []) ⟨Hp.le_refl _, .inr ⟨by trivial, rfl, [], rfl⟩⟩
  · rw [hm] at hne
    simp only [if_true] at hne
    repeat' (first | (refine tl_is (.func 211) ?_; refine qC rfl rfl (hli) ?_; rintro v ρ' L' hle ⟨rfl, rfl, rfl⟩ <;> (try simp only [kM, kN, kO])) | (refine tl_is (.func 264) ?_; refine qC rfl rfl (hwi) ?_; rintro v ρ' L' hle ⟨rfl, rfl, rfl⟩ <;> (try simp only [kM, kN, kO])) | (refine tl_buildSlice_s rfl rfl rfl rfl (by simp) rfl rfl (fun bs => ?_)) | (refine tl_is (.func 263) ?_; refine qC rfl rfl (hne _) ?_; rintro v ρ' L' hle ⟨rfl, rfl, rfl⟩ <;> (try simp only [kM, kN, kO])) | (refine tl_is (.func 265) ?_; refine qC rfl rfl (hba) ?_; rintro v ρ' L' hle ⟨rfl, x', ss', ms', e1, e2, hX', rfl⟩ <;> (try simp only [kM, kN, kO])) | (refine iBu ?_; refine tl_y (y_buildN rfl) rfl rfl ?_) | (refine i_op ?_; first | (refine i_qq ?_; refine qQ ?_) | refine qEf ?_) | refine tl_nil ?_ | (refine i_tc ?_; refine qTc ?_) | (refine i_te ?_; refine qTe ?_) | intro _)
    exact qE (L' := focC cb next vv rv r b o P x' S ss' ms') ⟨Hp.le_refl _, .inl ⟨by trivial, rfl, x', ss', ms', e1, hX', rfl⟩⟩
theorem mdone_spec (hP : P.length = o) (hX : OwnX x ss ms) (hsl : x.stack.length ≤ 1099511627776) (hml : x.marks.length ≤ 100) (hr : RcIn ρ rv r) (hok : recOk r = true) :
    Spec Tryz.prog 218 [.pointer (some ⟨cb, 0, none⟩)] ρ (focC cb next vv rv r b o P x S ss ms)
      (MethR r cb next vv rv b o P x S (liveT x.p && withinT x.p r) (pushT (backT x.p r.next) r) ρ) := by
  have hne := mnested_spec ρ cb next vv rv r b o P x S ss ms hP hX hsl hml
  unfold MethR at hne ⊢
  refine spec_enter Tryz.func218 rfl rfl rfl fun u R => ?_
  simp only [argsE, List.cons_append, List.nil_append]
  cases hm : (liveT x.p && withinT x.p r)
  · rw [hm] at hne
    repeat' (first | (refine tl_is (.func 217) ?_; refine qC rfl rfl (hne) ?_; rintro v ρ' L' hle ⟨hl1, ⟨h0, _⟩ | ⟨_, rfl, G, rfl⟩⟩ <;> (try simp only [kM, kN, kO])) | (refine iBu ?_; refine tl_y (y_buildN rfl) rfl rfl ?_) | (refine i_op ?_; first | (refine i_qq ?_; refine qQ ?_) | refine qEf ?_) | refine tl_nil ?_ | (refine i_tc ?_; refine qTc ?_) | (refine i_te ?_; refine qTe ?_) | intro _)
    · exact absurd h0 (by decide)
    · repeat' (first | (refine iBu ?_; refine tl_y (y_buildN rfl) rfl rfl ?_) | (refine i_op ?_; first | (refine i_qq ?_; refine qQ ?_) | refine qEf ?_) | refine tl_nil ?_ | (refine i_tc ?_; refine qTc ?_) | (refine i_te ?_; refine qTe ?_) | intro _)
      exact qE (L' := []) ⟨hl1, .inr ⟨by trivial, rfl, [], rfl⟩⟩
  · rw [hm] at hne
    rw [Bool.and_eq_true] at hm
    repeat' (first | (refine tl_is (.func 217) ?_; refine qC rfl rfl (hne) ?_; rintro v ρ' L' hle ⟨hl1, ⟨_, rfl, x', ss', ms', e1, hX', rfl⟩ | ⟨h0, _⟩⟩ <;> (try simp only [kM, kN, kO])) | (refine iBu ?_; refine tl_y (y_buildN rfl) rfl rfl ?_) | (refine i_op ?_; first | (refine i_qq ?_; refine qQ ?_) | refine qEf ?_) | refine tl_nil ?_ | (refine i_tc ?_; refine qTc ?_) | (refine i_te ?_; refine qTe ?_) | intro _)
    · have hlv : liveT x'.p = true := by rw [e1]; exact hm.1
      have hs' : x'.stack.length ≤ 1099511627776 := by
        have := congrArg TxP.stack e1
        simp only [Tx.p] at this
        rw [this]
        exact Nat.le_trans (List.length_filter_le _ _) hsl
      have hch := fun ρ1 (h : RcIn ρ1 rv r) => mchange_spec ρ1 cb next vv rv r b o P x' S ss' ms' hP hX' hs' h hok
      unfold MethR at hch
      rw [hlv, e1] at hch
      repeat' (first | (refine tl_is (.func 216) ?_; refine qC rfl rfl (hch _ (hr.mono hl1)) ?_; rintro v ρ' L' hle ⟨hl2, ⟨_, rfl, x2, ss2, ms2, e2, hX2, rfl⟩ | ⟨h0, _⟩⟩ <;> (try simp only [kM, kN, kO])) | (refine iBu ?_; refine tl_y (y_buildN rfl) rfl rfl ?_) | (refine i_op ?_; first | (refine i_qq ?_; refine qQ ?_) | refine qEf ?_) | refine tl_nil ?_ | (refine i_tc ?_; refine qTc ?_) | (refine i_te ?_; refine qTe ?_) | intro _)
      · repeat' (first | (refine iBu ?_; refine tl_y (y_buildN rfl) rfl rfl ?_) | (refine i_op ?_; first | (refine i_qq ?_; refine qQ ?_) | refine qEf ?_) | refine tl_nil ?_ | (refine i_tc ?_; refine qTc ?_) | (refine i_te ?_; refine qTe ?_) | intro _)
        exact qE (L' := focC cb next vv rv r b o P x2 S ss2 ms2) ⟨Hp.le_trans hl1 hl2, .inl ⟨by trivial, rfl, x2, ss2, ms2, e2, hX2, rfl⟩⟩
      · exact absurd h0 (by decide)
    · exact absurd h0 (by decide)
theorem mundone_spec (hP : P.length = o) (hX : OwnX x ss ms) (hsl : x.stack.length ≤ 1099511627776) (hml : x.marks.length ≤ 100) :
    Spec Tryz.prog 219 [.pointer (some ⟨cb, 0, none⟩)] ρ (focC cb next vv rv r b o P x S ss ms)
      (MethR r cb next vv rv b o P x S (decide (x.state ≠ 3) && (withinT x.p r && decide (r.next < x.undo))) (backT x.p r.next) ρ) := by
  have hwi := within_spec ρ cb next vv rv r b o P x S hP
  have hba := back_spec ρ cb next vv rv r b o P x S ss ms hP hX hsl hml
  have hne := fun b0 => needB_spec ρ b0 3 [decide (x.state ≠ 3), withinT x.p r, decide (r.next < x.undo)] (by simp) rfl
  have hg1 : (P ++ txQ x S)[o + 1]? = some (.int .i64 x.state) := q_get hP rfl
  have hg4 : (P ++ txQ x S)[o + 4]? = some (.int .u64 x.undo) := q_get hP rfl
  unfold MethR
  generalize withinT x.p r = w1 at *
  refine spec_enter Tryz.func219 rfl rfl rfl fun u R => ?_
  simp only [argsE, List.cons_append, List.nil_append]
  have hall : ([decide (x.state ≠ 3), w1, decide (r.next < x.undo)].all id) = (decide (x.state ≠ 3) && (w1 && decide (r.next < x.undo))) := by simp [Bool.and_assoc]
  rw [hall] at hne
  rcases Decidable.em (x.state = 3) with h1 | h1 <;> rcases Decidable.em (r.next < x.undo) with h2 | h2 <;> cases w1
  all_goals first | rw [decide_eq_true (show x.state ≠ 3 from h1)] at hne ⊢ | rw [decide_eq_false (show ¬ (x.state ≠ 3) from fun e => e h1)] at hne ⊢
  all_goals first | rw [decide_eq_true h2] at hne ⊢ | rw [decide_eq_false h2] at hne ⊢
  all_goals simp only [Bool.true_and, Bool.and_true, Bool.false_and, Bool.and_false, Bool.false_eq_true, if_false, if_true] at hne ⊢
  all_goals (repeat' (first | (refine iBu ?_; refine tl_y (y_buildN rfl) rfl rfl ?_) | (refine i_op ?_; first | (refine i_qq ?_; refine qQ ?_) | refine qEf ?_) | refine tl_nil ?_ | (refine i_tc ?_; refine qTc ?_) | (refine i_te ?_; refine qTe ?_) | intro _))
  all_goals refine tc_any (Stays _ _ ([clkC cb next vv rv r (some ⟨b, o, none⟩), blkC b P x S])) (stays_of (hT := tk) (Hp.le_refl _)) ?_
  all_goals refine rMv 0 ?_
  all_goals refine rNc 1 ?_
  all_goals refine rFa 2 ?_
  all_goals refine rLd 3 ?_
  all_goals refine rNc 4 ?_
  all_goals refine rFa 5 ?_
  all_goals refine rLd 6 ?_
  all_goals refine rCm 7 ?_
  all_goals refine rMv 8 ?_
  all_goals refine rMv 10 ?_
  all_goals refine rNc 11 ?_
  all_goals refine rFa 12 ?_
  all_goals refine rFa 13 ?_
  all_goals refine rLd 14 ?_
  all_goals refine rMv 15 ?_
  all_goals refine rNc 16 ?_
  all_goals refine rFa 17 ?_
  all_goals refine rLd 18 ?_
  all_goals refine rNc 19 ?_
  all_goals refine rFa 20 ?_
  all_goals refine rLd 21 ?_
  all_goals refine rCm 22 ?_
  all_goals (refine rStep (i := 9) ?_; ((try refine qWant ?_); (first | (refine tl_is (.func 264) ?_; refine qC rfl rfl (hwi) ?_; rintro v ρ' L' hle ⟨rfl, rfl, rfl⟩ <;> (try simp only [kM, kN, kO])) | (refine qEf ?_; try intro _)) <;> ((try simp only [kM, kN, kO]); refine tl_nil ?_; refine rNext ?_)))
  all_goals (refine rStep (i := 23) ?_; ((try refine qWant ?_); (first | (refine tl_buildSlice_s rfl rfl rfl rfl (by simp) rfl rfl (fun bs => ?_)) | (refine qEf ?_; try intro _)) <;> ((try simp only [kM, kN, kO]); refine tl_nil ?_; refine rNext ?_)))
  all_goals (refine rStep (i := 24) ?_; ((try refine qWant ?_); (first | (refine tl_is (.func 263) ?_; refine qC rfl rfl (hne _) ?_; rintro v ρ' L' hle ⟨rfl, rfl, rfl⟩ <;> (try simp only [kM, kN, kO])) | (refine qEf ?_; try intro _)) <;> ((try simp only [kM, kN, kO]); refine tl_nil ?_; refine rNext ?_)))
  all_goals refine rFull ?_
  all_goals refine rAs 25 ?_
  all_goals refine rDone ?_
  all_goals (repeat' (first | (refine tl_is (.func 265) ?_; refine qC rfl rfl (hba) ?_; rintro v ρ' L' hle ⟨rfl, x', ss', ms', e1, e2, hX', rfl⟩ <;> (try simp only [kM, kN, kO])) | (refine iBu ?_; refine tl_y (y_buildN rfl) rfl rfl ?_) | (refine i_op ?_; first | (refine i_qq ?_; refine qQ ?_) | refine qEf ?_) | refine tl_nil ?_ | (refine i_tc ?_; refine qTc ?_) | (refine i_te ?_; refine qTe ?_) | intro _))
  all_goals first
    | exact qE (L' := focC cb next vv rv r b o P x' S ss' ms') ⟨Hp.le_refl _, .inl ⟨by trivial, rfl, x', ss', ms', e1, hX', rfl⟩⟩
    | exact qE (L' := []) ⟨Hp.le_refl _, .inr ⟨by trivial, rfl, [], rfl⟩⟩
theorem mends_spec (st : Int) (hP : P.length = o) (hX : OwnX x ss ms) :
    Spec Tryz.prog 266 [.pointer (some ⟨cb, 0, none⟩), .int .i64 st] ρ (focC cb next vv rv r b o P x S ss ms)
      (MethR r cb next vv rv b o P x S (liveT x.p) { x.p with state := st, marks := [] } ρ) := by
  have hli := live_spec ρ cb next vv rv r b o P x S hP
  have hne := fun b0 => needB_spec ρ b0 1 [liveT x.p] (by simp) rfl
  rw [show decide (x.state = 1) = liveT x.p from rfl] at hli
  unfold MethR
  refine spec_enter Tryz.func266 rfl rfl rfl fun u R => ?_
  simp only [argsE, List.cons_append, List.nil_append]
  generalize liveT x.p = l1 at *
  have hall : ([l1].all id) = l1 := by simp
  rw [hall] at hne
  cases l1
  all_goals simp only [Bool.false_eq_true, if_false, if_true] at hne
  all_goals (repeat' (first | (refine tl_is (.func 211) ?_; refine qC rfl rfl (hli) ?_; rintro v ρ' L' hle ⟨rfl, rfl, rfl⟩ <;> (try simp only [kM, kN, kO])) | (refine tl_buildSlice_s rfl rfl rfl rfl (by simp) rfl rfl (fun bs => ?_)) | (refine tl_is (.func 263) ?_; refine qC rfl rfl (hne _) ?_; rintro v ρ' L' hle ⟨rfl, rfl, rfl⟩ <;> (try simp only [kM, kN, kO])) | (refine iBu ?_; refine tl_y (y_buildN rfl) rfl rfl ?_) | (refine i_op ?_; first | (refine i_qq ?_; refine qQ ?_) | refine qEf ?_) | refine tl_nil ?_ | (refine i_tc ?_; refine qTc ?_) | (refine i_te ?_; refine qTe ?_) | intro _))
  all_goals refine tc_any (Stays _ _ ([clkC cb next vv rv r (some ⟨b, o, none⟩)])) (stays_of (hT := tk) (Hp.le_refl _)) ?_
  all_goals refine rMv 0 ?_
  all_goals refine rNc 1 ?_
  all_goals refine rFa 2 ?_
  all_goals refine rLd 3 ?_
  all_goals refine rMv 4 ?_
  all_goals refine rNc 5 ?_
  all_goals refine rFa 6 ?_
  all_goals refine rLd 7 ?_
  all_goals refine rMv 8 ?_
  all_goals refine rNc 9 ?_
  all_goals refine rFa 10 ?_
  all_goals (refine rStep (i := 11) ?_; ((try refine qWant ?_); (first | (refine tl_store_q (o := o) (P := P) rfl rfl hP rfl ?_) | (refine qEf ?_; try intro _)) <;> ((try simp only [kM, kN, kO]); refine tl_nil ?_; refine rNext ?_)))
  all_goals refine rNc 12 ?_
  all_goals refine rFa 13 ?_
  all_goals (refine rStep (i := 14) ?_; ((try refine qWant ?_); (first | (refine tl_store_q (o := o) (P := P) rfl rfl hP rfl ?_) | (refine qEf ?_; try intro _)) <;> ((try simp only [kM, kN, kO]); refine tl_nil ?_; refine rNext ?_)))
  all_goals refine rDone ?_
  all_goals (repeat' (first | (refine iBu ?_; refine tl_y (y_buildN rfl) rfl rfl ?_) | (refine i_op ?_; first | (refine i_qq ?_; refine qQ ?_) | refine qEf ?_) | refine tl_nil ?_ | (refine i_tc ?_; refine qTc ?_) | (refine i_te ?_; refine qTe ?_) | intro _))
  all_goals first
    | exact qE (L' := focC cb next vv rv r b o P { x with state := st, marks := [], mv := ⟨none, 0, 0⟩ } S ss []) ⟨Hp.le_refl _, .inl ⟨by trivial, rfl, { x with state := st, marks := [], mv := ⟨none, 0, 0⟩ }, ss, [], rfl, ⟨hX.s, OwnS.nil 1⟩, rfl⟩⟩
    | exact qE (L' := []) ⟨Hp.le_refl _, .inr ⟨by trivial, rfl, [], rfl⟩⟩
theorem mabort_spec (hP : P.length = o) (hX : OwnX x ss ms) :
    Spec Tryz.prog 221 [.pointer (some ⟨cb, 0, none⟩)] ρ (focC cb next vv rv r b o P x S ss ms)
      (MethR r cb next vv rv b o P x S (liveT x.p) { x.p with state := 2, marks := [] } ρ) := by
  have he := mends_spec ρ cb next vv rv r b o P x S ss ms 2 hP hX
  unfold MethR at he ⊢
  refine spec_enter Tryz.func221 rfl rfl rfl fun u R => ?_
  simp only [argsE, List.cons_append, List.nil_append]
  repeat' (first | (refine tl_is (.func 266) ?_; refine qC rfl rfl (he) ?_; rintro v ρ' L' hle ⟨hl1, ⟨h0, rfl, x', ss', ms', e1, hX', rfl⟩ | ⟨h0, rfl, G, rfl⟩⟩ <;> (try simp only [kM, kN, kO])) | (refine iBu ?_; refine tl_y (y_buildN rfl) rfl rfl ?_) | (refine i_op ?_; first | (refine i_qq ?_; refine qQ ?_) | refine qEf ?_) | refine tl_nil ?_ | (refine i_tc ?_; refine qTc ?_) | (refine i_te ?_; refine qTe ?_) | intro _)
  · repeat' (first | (refine iBu ?_; refine tl_y (y_buildN rfl) rfl rfl ?_) | (refine i_op ?_; first | (refine i_qq ?_; refine qQ ?_) | refine qEf ?_) | refine tl_nil ?_ | (refine i_tc ?_; refine qTc ?_) | (refine i_te ?_; refine qTe ?_) | intro _)
    exact qE (L' := focC cb next vv rv r b o P x' S ss' ms') ⟨hl1, .inl ⟨h0, rfl, x', ss', ms', e1, hX', rfl⟩⟩
  · repeat' (first | (refine iBu ?_; refine tl_y (y_buildN rfl) rfl rfl ?_) | (refine i_op ?_; first | (refine i_qq ?_; refine qQ ?_) | refine qEf ?_) | refine tl_nil ?_ | (refine i_tc ?_; refine qTc ?_) | (refine i_te ?_; refine qTe ?_) | intro _)
    exact qE (L' := []) ⟨hl1, .inr ⟨h0, rfl, [], rfl⟩⟩
theorem mcommit_spec (hP : P.length = o) (hX : OwnX x ss ms) :
    Spec Tryz.prog 220 [.pointer (some ⟨cb, 0, none⟩)] ρ (focC cb next vv rv r b o P x S ss ms)
      (MethR r cb next vv rv b o P x S (liveT x.p) { x.p with state := 3, marks := [], stack := [] } ρ) := by
  have he := mends_spec ρ cb next vv rv r b o P { x with stack := [], sv := ⟨none, 0, 0⟩ } S [] ms 3 hP ⟨OwnS.nil 2, hX.m⟩
  unfold MethR at he ⊢
  refine spec_enter Tryz.func220 rfl rfl rfl fun u R => ?_
  simp only [argsE, List.cons_append, List.nil_append]
  repeat' (first | (refine tl_store_q (o := o) (P := P) rfl rfl hP rfl ?_) | (refine tl_is (.func 266) ?_; refine qC rfl rfl (he) ?_; rintro v ρ' L' hle ⟨hl1, ⟨h0, rfl, x', ss', ms', e1, hX', rfl⟩ | ⟨h0, rfl, G, rfl⟩⟩ <;> (try simp only [kM, kN, kO])) | (refine iBu ?_; refine tl_y (y_buildN rfl) rfl rfl ?_) | (refine i_op ?_; first | (refine i_qq ?_; refine qQ ?_) | refine qEf ?_) | refine tl_nil ?_ | (refine i_tc ?_; refine qTc ?_) | (refine i_te ?_; refine qTe ?_) | intro _)
  · repeat' (first | (refine iBu ?_; refine tl_y (y_buildN rfl) rfl rfl ?_) | (refine i_op ?_; first | (refine i_qq ?_; refine qQ ?_) | refine qEf ?_) | refine tl_nil ?_ | (refine i_tc ?_; refine qTc ?_) | (refine i_te ?_; refine qTe ?_) | intro _)
    exact qE (L' := focC cb next vv rv r b o P x' S ss' ms') ⟨hl1, .inl ⟨h0, rfl, x', ss', ms', e1, hX', rfl⟩⟩
  · repeat' (first | (refine iBu ?_; refine tl_y (y_buildN rfl) rfl rfl ?_) | (refine i_op ?_; first | (refine i_qq ?_; refine qQ ?_) | refine qEf ?_) | refine tl_nil ?_ | (refine i_tc ?_; refine qTc ?_) | (refine i_te ?_; refine qTe ?_) | intro _)
    exact qE (L' := []) ⟨hl1, .inr ⟨h0, rfl, [], rfl⟩⟩
end Go.Proofs.E

namespace Go.Proofs.E
open Go
set_option linter.unusedVariables false
set_option linter.unusedSimpArgs false
set_option linter.unusedSectionVars false
set_option maxRecDepth 4000
set_option maxHeartbeats 1000000
attribute [local irreducible] Yl TL TC TE Spec YSpec R1 Hp.le EnvLe TS TR YS Stays
-- BN
theorem atO_spec (ρ : Hp) (next : Int) (vv : Value) (sp : List Value) (os : List OT) (hl : os.length ≤ 1000000) (hown : OwnS vv os.length (txF os) sp 7) (num : Int) :
    Spec Tryz.prog 128 [.agg ⟨[.int .i64 next, vv]⟩, .int .i64 num] ρ [ownC vv (txF os) sp 72] (fun z ρ' L' => ρ' = ρ ∧ ∃ i there, z = .tuple ⟨[.int .i64 (i : Nat), .bool there]⟩ ∧ AtT (os.map OT.x) num i there ∧ L' = [ownC vv (txF os) sp 72]) := by
  refine (Spec.thaw (C := [ownC vv (txF os) sp 72]) (L := []) (Post := fun z L' => ∃ i there, z = .tuple ⟨[.int .i64 (i : Nat), .bool there]⟩ ∧ AtT (os.map OT.x) num i there ∧ L' = []) (fun ρ1 hle hf => ?_)).mono ?_
  · have ho : OwnS vv os.length (((os.map OT.x).map txV).flatten) sp 7 := hown
    obtain ⟨a, c, rfl, hc, hA⟩ := ho.aIn (by simp) (fun x _ => txV_len x) (fun p hp => hf p (by rw [List.flatten_cons, List.flatten_nil, List.append_nil]; exact hp))
    exact atT_spec ρ1 next ⟨a, os.length, c⟩ (os.map OT.x) ⟨hA, hl, hc⟩ num
  · rintro z ρ' L' _ ⟨rfl, L2, ⟨i, there, rfl, h1, rfl⟩, rfl⟩
    exact ⟨rfl, i, there, rfl, h1, rfl⟩
theorem end1_spec (ρ : Hp) (nb : Nat) (num : Int) (x : Tx) : Spec Tryz.prog 268 [.agg ⟨txV x⟩, .pointer (some ⟨nb, 0, none⟩)] ρ (numC nb num)
    (fun z ρ' L' => z = .bool (decide (x.num = num)) ∧ ρ' = ρ ∧ L' = (numC nb num)) := by
  refine spec_enter Tryz.func268 rfl rfl rfl fun u R => ?_
  simp only [argsE, List.cons_append, List.nil_append]
  by_cases h : x.num = num
  · rw [decide_eq_true h]
    repeat' (first | (refine iBu ?_; refine tl_y (y_buildN rfl) rfl rfl ?_) | (refine i_op ?_; first | (refine i_qq ?_; refine qQ ?_) | refine qEf ?_) | refine tl_nil ?_ | (refine i_tc ?_; refine qTc ?_) | (refine i_te ?_; refine qTe ?_) | intro _)
    exact qE (L' := (numC nb num)) ⟨rfl, rfl, rfl⟩
  · rw [decide_eq_false h]
    repeat' (first | (refine iBu ?_; refine tl_y (y_buildN rfl) rfl rfl ?_) | (refine i_op ?_; first | (refine i_qq ?_; refine qQ ?_) | refine qEf ?_) | refine tl_nil ?_ | (refine i_tc ?_; refine qTc ?_) | (refine i_te ?_; refine qTe ?_) | intro _)
    exact qE (L' := (numC nb num)) ⟨rfl, rfl, rfl⟩
theorem mend_spec (ρ : Hp) (cb : Nat) (next : Int) (rv : RV) (r : Rc) (b o cap : Nat) (P : List Value) (x : Tx) (S sp : List Value) (os : List OT) (hl : os.length ≤ 1000000) (hown : OwnS (.slice (some ⟨b, 0, none⟩) os.length cap) os.length (txF os) sp 7) (hP : P.length = o) (hPS : P ++ txQ x S = txF os ++ sp) :
    Spec Tryz.prog 222 [.pointer (some ⟨cb, 0, none⟩)] ρ [clkC cb next (.slice (some ⟨b, 0, none⟩) os.length cap) rv r (some ⟨b, o, none⟩), ownC (.slice (some ⟨b, 0, none⟩) os.length cap) (txF os) sp 72]
      (fun z ρ' L' => ρ' = ρ ∧ z = .int .i64 0 ∧ ∃ vv' sp', OwnS vv' (os.filter (fun t => !decide (t.x.num = x.num))).length (txF (os.filter (fun t => !decide (t.x.num = x.num)))) sp' 7 ∧ L' = [clkC cb next vv' rv r (some ⟨b, o, none⟩), ownC vv' (txF (os.filter (fun t => !decide (t.x.num = x.num)))) sp' 72]) := by
  have hC : ownC (.slice (some ⟨b, 0, none⟩) os.length cap) (txF os) sp 72 = [(b, .cells ⟨txF os ++ sp⟩ 72 (0, 0))] := rfl
  have hg0 : (txF os ++ sp)[o]? = some (.int .i64 x.num) := by
    rw [← hPS]
    exact q_get (d := 0) hP rfl
  have hd := fun nb => delX_spec ρ _ sp (os.map OT.x) (by simp; omega) (by rw [List.length_map]; exact hown) 268 [.pointer (some ⟨nb, 0, none⟩)] (numC nb x.num) (fun t => decide (t.num = x.num)) (fun ρ1 _ t _ => end1_spec ρ1 nb x.num t)
  have hfl : (os.map OT.x).filter (fun t => !decide (t.num = x.num)) = (os.filter (fun t => !decide (t.x.num = x.num))).map OT.x := by
    rw [List.filter_map]; rfl
  rw [hfl, List.length_map] at hd
  have hd : ∀ nb, Spec Tryz.prog 267 [.slice (some ⟨b, 0, none⟩) os.length cap, .func (.func 268) ⟨[]⟩ ⟨[.pointer (some ⟨nb, 0, none⟩)]⟩] ρ ([(b, .cells ⟨txF os ++ sp⟩ 72 (0, 0))] :: numC nb x.num) (fun z ρ' L' => ρ' = ρ ∧ ∃ sp', OwnS z (os.filter (fun t => !decide (t.x.num = x.num))).length (txF (os.filter (fun t => !decide (t.x.num = x.num)))) sp' 7 ∧ L' = ownC z (txF (os.filter (fun t => !decide (t.x.num = x.num)))) sp' 72 :: numC nb x.num) := hd
  clear hfl
  rw [hC]
  refine spec_enter Tryz.func222 rfl rfl rfl fun u R => ?_
  simp only [argsE, List.cons_append, List.nil_append]
  generalize os.filter (fun t => !decide (t.x.num = x.num)) = os' at *
  repeat' (first | (refine iBu ?_; refine tl_y (y_buildN rfl) rfl rfl ?_) | (refine i_op ?_; first | (refine i_qq ?_; refine qQ ?_) | refine qEf ?_) | refine tl_nil ?_ | (refine i_tc ?_; refine qTc ?_) | (refine i_te ?_; refine qTe ?_) | intro _)
  rename_i nb
  refine tl_is (.func 267) ?_
  refine qC rfl rfl (hd nb) ?_
  rintro z ρ3 L3 hle3 ⟨rfl, sp', hown', rfl⟩
  simp only [List.cons_append, List.nil_append]
  obtain ⟨a1, c1, rfl, q1⟩ := hown'.slice
  repeat' (first | (refine iBu ?_; refine tl_y (y_buildN rfl) rfl rfl ?_) | (refine i_op ?_; first | (refine i_qq ?_; refine qQ ?_) | refine qEf ?_) | refine tl_nil ?_ | (refine i_tc ?_; refine qTc ?_) | (refine i_te ?_; refine qTe ?_) | intro _)
  exact qE (L' := [clkC cb next _ rv r (some ⟨b, o, none⟩), ownC _ (txF os') sp' 72]) ⟨rfl, rfl, _, sp', hown', rfl⟩
def newX (r : Rc) : Tx := ⟨r.txn, 1, r.lsn, r.lsn, r.lsn, [], [], ⟨none, 0, 0⟩, ⟨none, 0, 0⟩⟩
theorem mbegin_spec (ρ : Hp) (cb : Nat) (next : Int) (vv : Value) (rv : RV) (r : Rc) (t : Option Addr) (sp : List Value) (os : List OT) (hn : 1 ≤ next ∧ next ≤ 1073741824) (hl : os.length ≤ 1000000) (hown : OwnS vv os.length (txF os) sp 7) :
    Spec Tryz.prog 215 [.pointer (some ⟨cb, 0, none⟩)] ρ [clkC cb next vv rv r t, ownC vv (txF os) sp 72]
      (fun z ρ' L' => ρ' = ρ ∧ ((∃ e, e ≠ 0 ∧ z = .int .i64 e ∧ (if r.txn ≠ next ∨ next = 1073741824 then (2 : Int) else if 8 ≤ os.length then 6 else 0) = e ∧ ∃ G : SH, L' = G) ∨
        ((if r.txn ≠ next ∨ next = 1073741824 then (2 : Int) else if 8 ≤ os.length then 6 else 0) = 0 ∧ z = .int .i64 0 ∧ ∃ vv' sp', OwnS vv' (os ++ [(⟨newX r, [], []⟩ : OT)]).length (txF (os ++ [(⟨newX r, [], []⟩ : OT)])) sp' 7 ∧ L' = [clkC cb (next + 1) vv' rv r t, ownC vv' (txF (os ++ [(⟨newX r, [], []⟩ : OT)])) sp' 72]))) := by
  obtain ⟨va, vc, rfl, hvc⟩ := hown.slice
  refine spec_enter Tryz.func215 rfl rfl rfl fun u R => ?_
  simp only [argsE, List.cons_append, List.nil_append]
  by_cases h1 : r.txn ≠ next ∨ next = 1073741824
  · rw [if_pos h1]
    by_cases h2 : r.txn = next
    · have h3 : next = 1073741824 := h1.elim (fun h => absurd h2 h) id
      repeat' (first | (refine iBu ?_; refine tl_y (y_buildN rfl) rfl rfl ?_) | (refine i_op ?_; first | (refine i_qq ?_; refine qQ ?_) | refine qEf ?_) | refine tl_nil ?_ | (refine i_tc ?_; refine qTc ?_) | (refine i_te ?_; refine qTe ?_) | intro _)
      refine tc_any (Stays _ _ ([clkC cb next (.slice va os.length vc) rv r t])) (stays_of (hT := tk) (Hp.le_refl _)) ?_
      all_goals refine rMv 0 ?_
      all_goals refine rFull ?_
      all_goals refine rNc 1 ?_
      all_goals refine rFa 2 ?_
      all_goals refine rFa 3 ?_
      all_goals refine rLd 4 ?_
      all_goals refine rMv 5 ?_
      all_goals refine rNc 6 ?_
      all_goals refine rFa 7 ?_
      all_goals refine rFa 8 ?_
      all_goals refine rLd 9 ?_
      all_goals refine rCm 10 ?_
      all_goals refine rMv 11 ?_
      all_goals (first | refine wSkip 12 ?_ | refine wSkipU 12 ?_ | refine wMv 12 ?_ | (refine tr_guard (t := 14) rfl (fun hb => ?_) (fun hb => ?_) <;> (try simp only [kk] at hb) <;> first | refine wSkip 12 ?_ | refine wSkipU 12 ?_ | refine wMv 12 ?_))
      all_goals (first | refine wSkip 13 ?_ | refine wSkipU 13 ?_ | refine wNc 13 ?_ | (refine tr_guard (t := 14) rfl (fun hb => ?_) (fun hb => ?_) <;> (try simp only [kk] at hb) <;> first | refine wSkip 13 ?_ | refine wSkipU 13 ?_ | refine wNc 13 ?_))
      all_goals (first | refine wSkip 14 ?_ | refine wSkipU 14 ?_ | refine wFa 14 ?_ | (refine tr_guard (t := 14) rfl (fun hb => ?_) (fun hb => ?_) <;> (try simp only [kk] at hb) <;> first | refine wSkip 14 ?_ | refine wSkipU 14 ?_ | refine wFa 14 ?_))
      all_goals (first | refine wSkip 15 ?_ | refine wSkipU 15 ?_ | refine wFa 15 ?_ | (refine tr_guard (t := 14) rfl (fun hb => ?_) (fun hb => ?_) <;> (try simp only [kk] at hb) <;> first | refine wSkip 15 ?_ | refine wSkipU 15 ?_ | refine wFa 15 ?_))
      all_goals (first | refine wSkip 16 ?_ | refine wSkipU 16 ?_ | refine wLd 16 ?_ | (refine tr_guard (t := 14) rfl (fun hb => ?_) (fun hb => ?_) <;> (try simp only [kk] at hb) <;> first | refine wSkip 16 ?_ | refine wSkipU 16 ?_ | refine wLd 16 ?_))
      all_goals (first | refine wSkip 17 ?_ | refine wSkipU 17 ?_ | refine wCm 17 ?_ | (refine tr_guard (t := 14) rfl (fun hb => ?_) (fun hb => ?_) <;> (try simp only [kk] at hb) <;> first | refine wSkip 17 ?_ | refine wSkipU 17 ?_ | refine wCm 17 ?_))
      all_goals refine rPk 18 ?_
      all_goals refine rDone ?_
      all_goals (repeat' (first | (refine iBu ?_; refine tl_y (y_buildN rfl) rfl rfl ?_) | (refine i_op ?_; first | (refine i_qq ?_; refine qQ ?_) | refine qEf ?_) | refine tl_nil ?_ | (refine i_tc ?_; refine qTc ?_) | (refine i_te ?_; refine qTe ?_) | intro _))
      all_goals exact qE (L' := []) ⟨rfl, .inl ⟨2, by decide, rfl, rfl, [], rfl⟩⟩
    · repeat' (first | (refine iBu ?_; refine tl_y (y_buildN rfl) rfl rfl ?_) | (refine i_op ?_; first | (refine i_qq ?_; refine qQ ?_) | refine qEf ?_) | refine tl_nil ?_ | (refine i_tc ?_; refine qTc ?_) | (refine i_te ?_; refine qTe ?_) | intro _)
      refine tc_any (Stays _ _ ([clkC cb next (.slice va os.length vc) rv r t])) (stays_of (hT := tk) (Hp.le_refl _)) ?_
      all_goals refine rMv 0 ?_
      all_goals refine rFull ?_
      all_goals refine rNc 1 ?_
      all_goals refine rFa 2 ?_
      all_goals refine rFa 3 ?_
      all_goals refine rLd 4 ?_
      all_goals refine rMv 5 ?_
      all_goals refine rNc 6 ?_
      all_goals refine rFa 7 ?_
      all_goals refine rFa 8 ?_
      all_goals refine rLd 9 ?_
      all_goals refine rCm 10 ?_
      all_goals refine rMv 11 ?_
      all_goals (first | refine wSkip 12 ?_ | refine wSkipU 12 ?_ | refine wMv 12 ?_ | (refine tr_guard (t := 14) rfl (fun hb => ?_) (fun hb => ?_) <;> (try simp only [kk] at hb) <;> first | refine wSkip 12 ?_ | refine wSkipU 12 ?_ | refine wMv 12 ?_))
      all_goals (first | refine wSkip 13 ?_ | refine wSkipU 13 ?_ | refine wNc 13 ?_ | (refine tr_guard (t := 14) rfl (fun hb => ?_) (fun hb => ?_) <;> (try simp only [kk] at hb) <;> first | refine wSkip 13 ?_ | refine wSkipU 13 ?_ | refine wNc 13 ?_))
      all_goals (first | refine wSkip 14 ?_ | refine wSkipU 14 ?_ | refine wFa 14 ?_ | (refine tr_guard (t := 14) rfl (fun hb => ?_) (fun hb => ?_) <;> (try simp only [kk] at hb) <;> first | refine wSkip 14 ?_ | refine wSkipU 14 ?_ | refine wFa 14 ?_))
      all_goals (first | refine wSkip 15 ?_ | refine wSkipU 15 ?_ | refine wFa 15 ?_ | (refine tr_guard (t := 14) rfl (fun hb => ?_) (fun hb => ?_) <;> (try simp only [kk] at hb) <;> first | refine wSkip 15 ?_ | refine wSkipU 15 ?_ | refine wFa 15 ?_))
      all_goals (first | refine wSkip 16 ?_ | refine wSkipU 16 ?_ | refine wLd 16 ?_ | (refine tr_guard (t := 14) rfl (fun hb => ?_) (fun hb => ?_) <;> (try simp only [kk] at hb) <;> first | refine wSkip 16 ?_ | refine wSkipU 16 ?_ | refine wLd 16 ?_))
      all_goals (first | refine wSkip 17 ?_ | refine wSkipU 17 ?_ | refine wCm 17 ?_ | (refine tr_guard (t := 14) rfl (fun hb => ?_) (fun hb => ?_) <;> (try simp only [kk] at hb) <;> first | refine wSkip 17 ?_ | refine wSkipU 17 ?_ | refine wCm 17 ?_))
      all_goals refine rPk 18 ?_
      all_goals refine rDone ?_
      all_goals (repeat' (first | (refine iBu ?_; refine tl_y (y_buildN rfl) rfl rfl ?_) | (refine i_op ?_; first | (refine i_qq ?_; refine qQ ?_) | refine qEf ?_) | refine tl_nil ?_ | (refine i_tc ?_; refine qTc ?_) | (refine i_te ?_; refine qTe ?_) | intro _))
      all_goals exact qE (L' := []) ⟨rfl, .inl ⟨2, by decide, rfl, rfl, [], rfl⟩⟩
  · rw [if_neg h1]
    have h2 : r.txn = next := Decidable.not_not.1 (fun h => h1 (.inl h))
    have h3 : next ≠ 1073741824 := fun h => h1 (.inr h)
    by_cases h8 : 8 ≤ os.length
    · rw [if_pos h8]
      repeat' (first | (refine iBu ?_; refine tl_y (y_buildN rfl) rfl rfl ?_) | (refine i_op ?_; first | (refine i_qq ?_; refine qQ ?_) | refine qEf ?_) | refine tl_nil ?_ | (refine i_tc ?_; refine qTc ?_) | (refine i_te ?_; refine qTe ?_) | intro _)
      refine tc_any (Stays _ _ ([clkC cb next (.slice va os.length vc) rv r t])) (stays_of (hT := tk) (Hp.le_refl _)) ?_
      all_goals refine rMv 0 ?_
      all_goals refine rFull ?_
      all_goals refine rNc 1 ?_
      all_goals refine rFa 2 ?_
      all_goals refine rFa 3 ?_
      all_goals refine rLd 4 ?_
      all_goals refine rMv 5 ?_
      all_goals refine rNc 6 ?_
      all_goals refine rFa 7 ?_
      all_goals refine rFa 8 ?_
      all_goals refine rLd 9 ?_
      all_goals refine rCm 10 ?_
      all_goals refine rMv 11 ?_
      all_goals (first | refine wSkip 12 ?_ | refine wSkipU 12 ?_ | refine wMv 12 ?_ | (refine tr_guard (t := 14) rfl (fun hb => ?_) (fun hb => ?_) <;> (try simp only [kk] at hb) <;> first | refine wSkip 12 ?_ | refine wSkipU 12 ?_ | refine wMv 12 ?_))
      all_goals (first | refine wSkip 13 ?_ | refine wSkipU 13 ?_ | refine wNc 13 ?_ | (refine tr_guard (t := 14) rfl (fun hb => ?_) (fun hb => ?_) <;> (try simp only [kk] at hb) <;> first | refine wSkip 13 ?_ | refine wSkipU 13 ?_ | refine wNc 13 ?_))
      all_goals (first | refine wSkip 14 ?_ | refine wSkipU 14 ?_ | refine wFa 14 ?_ | (refine tr_guard (t := 14) rfl (fun hb => ?_) (fun hb => ?_) <;> (try simp only [kk] at hb) <;> first | refine wSkip 14 ?_ | refine wSkipU 14 ?_ | refine wFa 14 ?_))
      all_goals (first | refine wSkip 15 ?_ | refine wSkipU 15 ?_ | refine wFa 15 ?_ | (refine tr_guard (t := 14) rfl (fun hb => ?_) (fun hb => ?_) <;> (try simp only [kk] at hb) <;> first | refine wSkip 15 ?_ | refine wSkipU 15 ?_ | refine wFa 15 ?_))
      all_goals (first | refine wSkip 16 ?_ | refine wSkipU 16 ?_ | refine wLd 16 ?_ | (refine tr_guard (t := 14) rfl (fun hb => ?_) (fun hb => ?_) <;> (try simp only [kk] at hb) <;> first | refine wSkip 16 ?_ | refine wSkipU 16 ?_ | refine wLd 16 ?_))
      all_goals (first | refine wSkip 17 ?_ | refine wSkipU 17 ?_ | refine wCm 17 ?_ | (refine tr_guard (t := 14) rfl (fun hb => ?_) (fun hb => ?_) <;> (try simp only [kk] at hb) <;> first | refine wSkip 17 ?_ | refine wSkipU 17 ?_ | refine wCm 17 ?_))
      all_goals refine rPk 18 ?_
      all_goals refine rDone ?_
      all_goals (repeat' (first | (refine iBu ?_; refine tl_y (y_buildN rfl) rfl rfl ?_) | (refine i_op ?_; first | (refine i_qq ?_; refine qQ ?_) | refine qEf ?_) | refine tl_nil ?_ | (refine i_tc ?_; refine qTc ?_) | (refine i_te ?_; refine qTe ?_) | intro _))
      all_goals exact qE (L' := []) ⟨rfl, .inl ⟨6, by decide, rfl, rfl, [], rfl⟩⟩
    · rw [if_neg h8]
      have hm : txF os ++ txV (newX r) = txF (os ++ [(⟨newX r, [], []⟩ : OT)]) := by rw [txF_app, txF_one]
      repeat' (first | (refine iBu ?_; refine tl_y (y_buildN rfl) rfl rfl ?_) | (refine i_op ?_; first | (refine i_qq ?_; refine qQ ?_) | refine qEf ?_) | refine tl_nil ?_ | (refine i_tc ?_; refine qTc ?_) | (refine i_te ?_; refine qTe ?_) | intro _)
      refine tc_any (Stays _ _ ([clkC cb next (.slice va os.length vc) rv r t])) (stays_of (hT := tk) (Hp.le_refl _)) ?_
      all_goals refine rMv 0 ?_
      all_goals refine rFull ?_
      all_goals refine rNc 1 ?_
      all_goals refine rFa 2 ?_
      all_goals refine rFa 3 ?_
      all_goals refine rLd 4 ?_
      all_goals refine rMv 5 ?_
      all_goals refine rNc 6 ?_
      all_goals refine rFa 7 ?_
      all_goals refine rFa 8 ?_
      all_goals refine rLd 9 ?_
      all_goals refine rCm 10 ?_
      all_goals refine rMv 11 ?_
      all_goals (first | refine wSkip 12 ?_ | refine wSkipU 12 ?_ | refine wMv 12 ?_ | (refine tr_guard (t := 14) rfl (fun hb => ?_) (fun hb => ?_) <;> (try simp only [kk] at hb) <;> first | refine wSkip 12 ?_ | refine wSkipU 12 ?_ | refine wMv 12 ?_))
      all_goals (first | refine wSkip 13 ?_ | refine wSkipU 13 ?_ | refine wNc 13 ?_ | (refine tr_guard (t := 14) rfl (fun hb => ?_) (fun hb => ?_) <;> (try simp only [kk] at hb) <;> first | refine wSkip 13 ?_ | refine wSkipU 13 ?_ | refine wNc 13 ?_))
      all_goals (first | refine wSkip 14 ?_ | refine wSkipU 14 ?_ | refine wFa 14 ?_ | (refine tr_guard (t := 14) rfl (fun hb => ?_) (fun hb => ?_) <;> (try simp only [kk] at hb) <;> first | refine wSkip 14 ?_ | refine wSkipU 14 ?_ | refine wFa 14 ?_))
      all_goals (first | refine wSkip 15 ?_ | refine wSkipU 15 ?_ | refine wFa 15 ?_ | (refine tr_guard (t := 14) rfl (fun hb => ?_) (fun hb => ?_) <;> (try simp only [kk] at hb) <;> first | refine wSkip 15 ?_ | refine wSkipU 15 ?_ | refine wFa 15 ?_))
      all_goals (first | refine wSkip 16 ?_ | refine wSkipU 16 ?_ | refine wLd 16 ?_ | (refine tr_guard (t := 14) rfl (fun hb => ?_) (fun hb => ?_) <;> (try simp only [kk] at hb) <;> first | refine wSkip 16 ?_ | refine wSkipU 16 ?_ | refine wLd 16 ?_))
      all_goals (first | refine wSkip 17 ?_ | refine wSkipU 17 ?_ | refine wCm 17 ?_ | (refine tr_guard (t := 14) rfl (fun hb => ?_) (fun hb => ?_) <;> (try simp only [kk] at hb) <;> first | refine wSkip 17 ?_ | refine wSkipU 17 ?_ | refine wCm 17 ?_))
      all_goals refine rPk 18 ?_
      all_goals refine rDone ?_
      all_goals (repeat' (first | (refine iBu ?_; refine tl_y (y_buildN rfl) rfl rfl ?_) | (refine i_op ?_; first | (refine i_qq ?_; refine qQ ?_) | refine qEf ?_) | refine tl_nil ?_ | (refine i_tc ?_; refine qTc ?_) | (refine i_te ?_; refine qTe ?_) | intro _))
      all_goals refine tc_phase 29 (Stays _ _ ([clkC cb (next + 1) (.slice va os.length vc) rv r t])) (by decide +kernel) (stays_of (hT := tk) (Hp.le_refl _)) ?_
      all_goals simp only [List.take_succ_cons, List.take_zero]
      all_goals refine rMv 0 ?_
      all_goals refine rMv 1 ?_
      all_goals refine rNc 2 ?_
      all_goals refine rFa 3 ?_
      all_goals refine rFa 4 ?_
      all_goals refine rLd 5 ?_
      all_goals refine rMv 6 ?_
      all_goals refine rNc 7 ?_
      all_goals refine rFa 8 ?_
      all_goals refine rFa 9 ?_
      all_goals refine rLd 10 ?_
      all_goals refine rMv 11 ?_
      all_goals refine rNc 12 ?_
      all_goals refine rFa 13 ?_
      all_goals refine rFa 14 ?_
      all_goals refine rLd 15 ?_
      all_goals refine rMv 16 ?_
      all_goals refine rNc 17 ?_
      all_goals refine rFa 18 ?_
      all_goals refine rFa 19 ?_
      all_goals refine rLd 20 ?_
      all_goals refine rMv 21 ?_
      all_goals refine rNc 22 ?_
      all_goals refine rFa 23 ?_
      all_goals refine rFa 24 ?_
      all_goals refine rLd 25 ?_
      all_goals refine rBu 26 ?_ (y := fun _ _ => y_buildN rfl)
      all_goals (refine rStep (i := 27) ?_; ((try refine qWant ?_); (first | (refine tl_buildSliceA (css := [txV (newX r)]) (sz := 7) rfl rfl rfl rfl (by simp) (by simp) rfl (fun bs => ?_); simp only [List.flatten_cons, List.flatten_nil, List.append_nil]) | (refine qEf ?_; try intro _)) <;> ((try simp only [kM, kN, kO]); refine tl_nil ?_; refine rNext ?_)))
      all_goals (refine rStep (i := 28) ?_; ((try refine qWant ?_); (first | (refine tl_buildSliceA (css := [txV (newX r)]) (sz := 7) rfl rfl rfl rfl (by simp) (by simp) rfl (fun bs => ?_); simp only [List.flatten_cons, List.flatten_nil, List.append_nil]) | (refine tl_app (ys := txV (newX r)) (m := 1) rfl rfl hown (hR := by infer_instance) SrcV.lit rfl rfl (by decide) rfl (by omega) (by omega) rfl (fun v' sp' hown' => ?_); obtain ⟨a1, c1, rfl, q1⟩ := hown'.slice) | (refine qEf ?_; try intro _)) <;> ((try simp only [kM, kN, kO]); refine tl_nil ?_; refine rNext ?_)))
      all_goals refine rDone ?_
      all_goals refine te_phase (fuel := 4) (m := [true, true, true, true, true, true, true, true, true, true, true, true, true, true, true, true, true, true, true, true, true, true, true, true, true, true, true, true, true, false, false, false, false]) (Stays _ _ ([])) rfl rfl (stays_of (hT := tk) (Hp.le_refl _)) ?_
      all_goals refine rNc 29 ?_
      all_goals refine rFa 30 ?_
      all_goals refine rFa 31 ?_
      all_goals (refine rStep (i := 32) ?_; ((try refine qWant ?_); (first | (refine qEf ?_; try intro _)) <;> ((try simp only [kM, kN, kO]); refine tl_nil ?_; refine rNext ?_)))
      all_goals refine rDone ?_
      all_goals (repeat' (first | (refine iBu ?_; refine tl_y (y_buildN rfl) rfl rfl ?_) | (refine i_op ?_; first | (refine i_qq ?_; refine qQ ?_) | refine qEf ?_) | refine tl_nil ?_ | (refine i_tc ?_; refine qTc ?_) | (refine i_te ?_; refine qTe ?_) | intro _))
      all_goals rw [hm] at hown' ⊢
      all_goals exact qE (L' := [clkC cb (next + 1) _ rv r t, ownC _ (txF (os ++ [(⟨newX r, [], []⟩ : OT)])) sp' 72]) ⟨rfl, .inr ⟨by trivial, rfl, _, sp', by rw [List.length_append]; exact hown', rfl⟩⟩
end Go.Proofs.E

namespace Go.Proofs.E
open Go
set_option linter.unusedVariables false
set_option linter.unusedSimpArgs false
set_option linter.unusedSectionVars false
set_option maxRecDepth 4000
set_option maxHeartbeats 1000000
attribute [local irreducible] Yl TL TC TE Spec YSpec R1 Hp.le EnvLe TS TR YS Stays
-- BN
def methF (k : Int) : Nat := if k = 2 then 216 else if k = 3 then 217 else if k = 4 then 218 else if k = 5 then 219 else if k = 6 then 220 else 221
theorem meth_spec (r : Rc) (hok : recOk r = true) (hk : 2 ≤ r.kind ∧ r.kind ≤ 7) : Fun Tryz.prog (methF r.kind) ∧ ∀ (ρ : Hp) (cb : Nat) (next : Int) (vv : Value) (rv : RV) (b o : Nat) (P : List Value) (x : Tx) (S ss ms : List Value), P.length = o → OwnX x ss ms → x.stack.length ≤ 1099511627776 → x.marks.length ≤ 100 → RcIn ρ rv r → x.last = r.lsn →
    Spec Tryz.prog (methF r.kind) [.pointer (some ⟨cb, 0, none⟩)] ρ (focC cb next vv rv r b o P x S ss ms) (MethR r cb next vv rv b o P x S (mayT x.p r) (nextT x.p r) ρ) := by
  have hlast : ∀ x : Tx, x.last = r.lsn → ({ x.p with last := r.lsn } : TxP) = x.p := fun x h => by rw [← h]
  unfold methF mayT nextT
  by_cases k2 : r.kind = 2
  · simp only [k2, if_true, show ¬ ((2 : Int) = 3 ∨ (2 : Int) = 4) by decide, show ¬ ((2 : Int) = 5) by decide, if_false]
    exact ⟨inferInstance, fun ρ cb next vv rv b o P x S ss ms hP hX hs hm hr hl => by rw [hlast x hl]; exact mchange_spec ρ cb next vv rv r b o P x S ss ms hP hX hs hr hok⟩
  by_cases k3 : r.kind = 3
  · simp only [k3, if_true, show ¬ ((3 : Int) = 2) by decide, if_false, true_or]
    exact ⟨inferInstance, fun ρ cb next vv rv b o P x S ss ms hP hX hs hm hr hl => by rw [hlast x hl]; exact mnested_spec ρ cb next vv rv r b o P x S ss ms hP hX hs hm⟩
  by_cases k4 : r.kind = 4
  · simp only [k4, if_true, show ¬ ((4 : Int) = 2) by decide, show ¬ ((4 : Int) = 3) by decide, show ¬ ((4 : Int) = 3 ∨ (4 : Int) = 5) by decide, if_false, or_true]
    exact ⟨inferInstance, fun ρ cb next vv rv b o P x S ss ms hP hX hs hm hr hl => by rw [hlast x hl]; exact mdone_spec ρ cb next vv rv r b o P x S ss ms hP hX hs hm hr hok⟩
  by_cases k5 : r.kind = 5
  · simp only [k5, if_true, show ¬ ((5 : Int) = 2) by decide, show ¬ ((5 : Int) = 3) by decide, show ¬ ((5 : Int) = 4) by decide, show ¬ ((5 : Int) = 3 ∨ (5 : Int) = 4) by decide, if_false, or_true]
    exact ⟨inferInstance, fun ρ cb next vv rv b o P x S ss ms hP hX hs hm hr hl => by rw [hlast x hl]; exact mundone_spec ρ cb next vv rv r b o P x S ss ms hP hX hs hm⟩
  by_cases k6 : r.kind = 6
  · simp only [k6, if_true, show ¬ ((6 : Int) = 2) by decide, show ¬ ((6 : Int) = 3) by decide, show ¬ ((6 : Int) = 4) by decide, show ¬ ((6 : Int) = 5) by decide, show ¬ ((6 : Int) = 3 ∨ (6 : Int) = 4) by decide, show ¬ ((6 : Int) = 3 ∨ (6 : Int) = 5) by decide, if_false]
    exact ⟨inferInstance, fun ρ cb next vv rv b o P x S ss ms hP hX hs hm hr hl => by rw [← hl]; exact mcommit_spec ρ cb next vv rv r b o P x S ss ms hP hX⟩
  · have k7 : r.kind = 7 := by omega
    simp only [k7, show ¬ ((7 : Int) = 2) by decide, show ¬ ((7 : Int) = 3) by decide, show ¬ ((7 : Int) = 4) by decide, show ¬ ((7 : Int) = 5) by decide, show ¬ ((7 : Int) = 6) by decide, show ¬ ((7 : Int) = 3 ∨ (7 : Int) = 4) by decide, show ¬ ((7 : Int) = 3 ∨ (7 : Int) = 5) by decide, if_false]
    exact ⟨inferInstance, fun ρ cb next vv rv b o P x S ss ms hP hX hs hm hr hl => by rw [← hl]; exact mabort_spec ρ cb next vv rv r b o P x S ss ms hP hX⟩
theorem methF_chain {f : Nat → Option Value} {k : Int} (hk : 2 ≤ k ∧ k ≤ 7) : (if k = 8 then f 222 else if k = 7 then f 221 else if k = 6 then f 220 else if k = 5 then f 219 else if k = 4 then f 218 else if k = 3 then f 217 else if k = 2 then f 216 else none) = f (methF k) := by
  unfold methF
  have : k = 2 ∨ k = 3 ∨ k = 4 ∨ k = 5 ∨ k = 6 ∨ k = 7 := by omega
  rcases this with e | e | e | e | e | e <;> subst e <;> rfl
end Go.Proofs.E

namespace Go.Proofs.E
open Go
set_option linter.unusedVariables false
set_option linter.unusedSimpArgs false
set_option linter.unusedSectionVars false
set_option maxRecDepth 4000
set_option maxHeartbeats 1000000
attribute [local irreducible] Yl TL TC TE Spec YSpec R1 Hp.le EnvLe TS TR YS Stays
-- BN
theorem find_at {next : Int} {txns : List TxP} {os : List OT} {num : Int} {i : Nat} {there : Bool} (hA : AtT (os.map OT.x) num i there) (hs : os.map (fun o => o.x.p) = txns) (hG : RosG ⟨next, txns⟩) :
    (there = true → ∃ h : i < os.length, os[i].x.num = num ∧ findT ⟨next, txns⟩ num = some os[i].x.p) ∧ (there = false → findT ⟨next, txns⟩ num = none) := by
  have hup : TblT (os.map OT.x) := by
    have := hG.up
    rw [← hs] at this
    have h2 := (List.pairwise_map (f := fun o : OT => o.x.p) (R := fun a b : TxP => a.num < b.num)).1 this
    exact (List.pairwise_map (f := OT.x) (R := fun a b : Tx => a.num < b.num)).2 h2
  constructor
  · intro ht
    obtain ⟨h1, h2⟩ := hA.hit ht
    rw [List.length_map] at h1
    rw [List.getElem_map] at h2
    refine ⟨h1, h2, ?_⟩
    have hi : i < txns.length := by rw [← hs, List.length_map]; exact h1
    have := findT_idx hG (i := i) hi
    have e : txns[i] = os[i].x.p := by simp [← hs]
    dsimp only at this
    rw [e] at this
    rw [← h2]; exact this
  · intro ht
    unfold findT
    rw [List.find?_eq_none]
    intro t ht2
    rw [← hs] at ht2
    obtain ⟨o, ho, rfl⟩ := List.mem_map.1 ht2
    obtain ⟨j, hj, rfl⟩ := List.mem_iff_getElem.1 ho
    have hj2 : j < (os.map OT.x).length := by simpa using hj
    have e : (os.map OT.x)[j] = os[j].x := by simp
    rw [decide_eq_true_eq]
    show ¬ os[j].x.num = num
    by_cases h : j < i
    · have := hA.lo hup j hj2 h
      rw [e] at this; omega
    · have := hA.hi hup ht j hj2 (by omega)
      rw [e] at this; omega
theorem nextT_num (t : TxP) (r : Rc) : (nextT t r).num = t.num := by
  unfold nextT
  split
  · rfl
  · split
    · rfl
    · split
      · rfl
      · split <;> rfl
/-- one transaction among the others -/
structure Among (os : List OT) (i : Nat) (A : List OT) (o : OT) (B : List OT) : Prop where
  eq : os = A ++ o :: B
  len : A.length = i
theorem among {os : List OT} {i : Nat} (h : i < os.length) : Among os i (os.take i) os[i] (os.drop (i + 1)) :=
  ⟨by rw [← List.drop_eq_getElem_cons h, List.take_append_drop], by rw [List.length_take]; omega⟩
theorem OwnS.blk {vv : Value} {n sz : Nat} {xs sp : List Value} (h : OwnS vv n xs sp sz) (hn : 0 < n) : ∃ b cap, vv = .slice (some ⟨b, 0, none⟩) n cap ∧ xs.length = n * sz ∧ xs.length + sp.length = cap * sz ∧ n ≤ cap := by
  rcases h.out with ⟨_, q1, _, _⟩ | q
  · omega
  · exact q
theorem OwnS.turn {b cap n : Nat} {xs xs' sp : List Value} (h : OwnS (.slice (some ⟨b, 0, none⟩) n cap) n xs sp 7) (hl : xs'.length = xs.length) : OwnS (.slice (some ⟨b, 0, none⟩) n cap) n xs' sp 7 := by
  rcases h.out with ⟨e, _⟩ | ⟨b2, c2, e, h1, h2, h3⟩
  · cases e
  · cases e
    exact ⟨.inr ⟨b, cap, rfl, by omega, by omega, h3⟩⟩
theorem takes_spec (ρ : Hp) (cb : Nat) (next : Int) (vv : Value) (sp : List Value) (os : List OT) (txns : List TxP) (hR : OwnR vv sp os txns) (rv0 : RV) (r0 : Rc) (t0 : Option Addr) (rv : RV) (r : Rc) (h : RcIn ρ rv r) (hok : recOk r = true) (hG : RosG ⟨next, txns⟩) :
    Spec Tryz.prog 141 [.pointer (some ⟨cb, 0, none⟩), .agg ⟨recV rv r⟩] ρ (clkC cb next vv rv0 r0 t0 :: ownRC vv sp os)
      (DoR (takesE ⟨next, txns⟩ r) (takesP ⟨next, txns⟩ r).next (takesP ⟨next, txns⟩ r).txns [] cb ρ) := by
  have hk := (recOk_facts hok).kind
  have h8 := hG.len
  have hol := hR.len
  dsimp only at h8
  have hn := hG.n1
  have hn2 := hG.n2
  dsimp only at hn hn2
  obtain ⟨va, vc, hvv, hvc⟩ := hR.own.slice
  unfold DoR takesE takesP
  by_cases k9 : r.kind = 9
  · simp only [if_pos k9]
    refine spec_enter Tryz.func141 rfl rfl rfl fun u R => ?_
    simp only [argsE, List.cons_append, List.nil_append]
    repeat' (first | (refine iBu ?_; refine tl_y (y_buildN rfl) rfl rfl ?_) | (refine i_op ?_; first | (refine i_qq ?_; refine qQ ?_) | refine qEf ?_) | refine tl_nil ?_ | (refine i_tc ?_; refine qTc ?_) | (refine i_te ?_; refine qTe ?_) | intro _)
    exact qE (L' := clkC cb next vv rv r t0 :: (ownRC vv sp os ++ [])) ⟨Hp.le_refl _, rfl, .inr ⟨by trivial, vv, sp, os, rv, r, t0, hR, rfl⟩⟩
  by_cases k1 : r.kind = 1
  · simp only [if_neg k9, if_pos k1]
    have hb := mbegin_spec ρ cb next vv rv r t0 sp os ⟨hn, hn2⟩ (by omega) hR.own
    rw [hol] at hb
    generalize hE : (if r.txn ≠ next ∨ next = 1073741824 then (2 : Int) else if 8 ≤ txns.length then 6 else 0) = E at *
    refine spec_enter Tryz.func141 rfl rfl rfl fun u R => ?_
    simp only [argsE, List.cons_append, List.nil_append]
    repeat' (first | (refine tl_is (.func 215) ?_; refine qC rfl rfl (hb) ?_; rintro v ρ' L' hle ⟨rfl, ⟨e, he, rfl, rfl, G, rfl⟩ | ⟨he, rfl, vv', sp', ho', rfl⟩⟩ <;> (try simp only [kM, kN, kO])) | (refine iBu ?_; refine tl_y (y_buildN rfl) rfl rfl ?_) | (refine i_op ?_; first | (refine i_qq ?_; refine qQ ?_) | refine qEf ?_) | refine tl_nil ?_ | (refine i_tc ?_; refine qTc ?_) | (refine i_te ?_; refine qTe ?_) | intro _)
    · repeat' (first | (refine iBu ?_; refine tl_y (y_buildN rfl) rfl rfl ?_) | (refine i_op ?_; first | (refine i_qq ?_; refine qQ ?_) | refine qEf ?_) | refine tl_nil ?_ | (refine i_tc ?_; refine qTc ?_) | (refine i_te ?_; refine qTe ?_) | intro _)
      exact qE (L' := [] ++ []) ⟨Hp.le_refl _, rfl, .inl ⟨he, [], rfl⟩⟩
    · subst he
      have hst : stC (os ++ [⟨newX r, [], []⟩]) = stC os := by rw [stC_app, stC_one]; simp [newX, ownC]
      repeat' (first | (refine iBu ?_; refine tl_y (y_buildN rfl) rfl rfl ?_) | (refine i_op ?_; first | (refine i_qq ?_; refine qQ ?_) | refine qEf ?_) | refine tl_nil ?_ | (refine i_tc ?_; refine qTc ?_) | (refine i_te ?_; refine qTe ?_) | intro _)
      rw [← hst]
      refine qE (L' := clkC cb (next + 1) vv' rv r t0 :: (ownRC vv' sp' (os ++ [⟨newX r, [], []⟩]) ++ [])) ⟨Hp.le_refl _, rfl, .inr ⟨by trivial, vv', sp', os ++ [⟨newX r, [], []⟩], rv, r, t0, ⟨ho', fun o ho => ?_, ?_⟩, rfl⟩⟩
      · rcases List.mem_append.1 ho with ho | ho
        · exact hR.each o ho
        · rw [List.mem_singleton] at ho
          subst ho
          exact ⟨OwnS.nil 2, OwnS.nil 1⟩
      · rw [List.map_append, hR.says]; rfl
  simp only [if_neg k9, if_neg k1]
  have hat := atO_spec ρ next vv sp os (by omega) hR.own r.txn
  have hfa := fun i there (hA : AtT (os.map OT.x) r.txn i there) => find_at hA hR.says hG
  refine spec_enter Tryz.func141 rfl rfl rfl fun u R => ?_
  simp only [argsE, List.cons_append, List.nil_append]
  repeat' (first | (refine iBu ?_; refine tl_y (y_buildN rfl) rfl rfl ?_) | (refine i_op ?_; first | (refine i_qq ?_; refine qQ ?_) | refine qEf ?_) | refine tl_nil ?_ | (refine i_tc ?_; refine qTc ?_) | (refine i_te ?_; refine qTe ?_) | intro _)
  rename_i rb
  refine tc_any (Stays _ _ ([clkC cb next vv rv r t0, [(rb, .cells ⟨recV rv r⟩ 30 (0, 0))]])) (stays_of (hT := tk) (Hp.le_refl _)) ?_
  all_goals refine rMv 0 ?_
  all_goals refine rNc 1 ?_
  all_goals refine rFa 2 ?_
  all_goals refine rLd 3 ?_
  all_goals refine rFa 4 ?_
  all_goals refine rLd 5 ?_
  all_goals (refine rStep (i := 6) ?_; ((try refine qWant ?_); (first | (refine tl_is (.func 128) ?_; refine qC rfl rfl (hat) ?_; rintro v ρ' L' hle ⟨rfl, i, there, rfl, hAt, rfl⟩ <;> (try simp only [kM, kN, kO])) | (refine i_qq ?_; refine qQ ?_) | (refine qEf ?_; try intro _)) <;> ((try simp only [kM, kN, kO]); refine tl_nil ?_; refine rNext ?_)))
  all_goals refine rMv 7 ?_
  all_goals refine rEx 8 ?_
  all_goals refine rAs 10 ?_
  all_goals (refine rStep (i := 9) ?_; ((try refine qWant ?_); (first | (refine tl_is (.func 128) ?_; refine qC rfl rfl (hat) ?_; rintro v ρ' L' hle ⟨rfl, i, there, rfl, hAt, rfl⟩ <;> (try simp only [kM, kN, kO])) | (refine i_qq ?_; refine qQ ?_) | (refine qEf ?_; try intro _)) <;> ((try simp only [kM, kN, kO]); refine tl_nil ?_; refine rNext ?_)))
  all_goals refine rFull ?_
  all_goals refine rAs 11 ?_
  all_goals refine rDone ?_
  all_goals obtain ⟨hf1, hf2⟩ := hfa i there hAt
  all_goals cases there
  all_goals (first
    | (rw [hf2 rfl]
       dsimp only [ownE, ownP]
       repeat' (first | (refine iBu ?_; refine tl_y (y_buildN rfl) rfl rfl ?_) | (refine i_op ?_; first | (refine i_qq ?_; refine qQ ?_) | refine qEf ?_) | refine tl_nil ?_ | (refine i_tc ?_; refine qTc ?_) | (refine i_te ?_; refine qTe ?_) | intro _)
       exact qE (L' := [] ++ []) ⟨Hp.le_refl _, rfl, .inl ⟨by decide, [], rfl⟩⟩)
    | skip)
  all_goals obtain ⟨hi, hnum, hfind⟩ := hf1 rfl
  all_goals rw [hfind]
  all_goals dsimp only [ownE, ownP]
  all_goals obtain ⟨b, cap, rfl, e1, e2, e3⟩ := hR.own.blk (show 0 < os.length by omega)
  all_goals (
    have hot := hR.each _ (List.getElem_mem hi)
    have hi2 : i < txns.length := by omega
    have hti : txns[i] = (os[i].x).p := by simp [← hR.says]
    have hxg : TxG (os[i].x).p := by rw [← hti]; exact (hG.tx _ (List.getElem_mem hi2)).2.2
    have hti2 : (txns[i]).num = os[i].x.num := by rw [hti]
    obtain ⟨hE, hAl⟩ := among hi
    generalize os[i] = ot at *
    generalize os.take i = A at *
    generalize os.drop (i + 1) = B at *
    have hsl : ot.x.stack.length ≤ 1099511627776 := hxg.sl
    have hml : ot.x.marks.length ≤ 8 := hxg.ml
    have hPl : (txF A).length = 0 + i * 7 := by rw [txF_len, hAl]; omega
    have hfE : txF os = txF A ++ (txV ot.x ++ txF B) := by rw [hE, txF_app, show txF (ot :: B) = txF ([ot] ++ B) from rfl, txF_app, txF_one]
    have hCe : ownC (.slice (some ⟨b, 0, none⟩) os.length cap) (txF os) sp 72 = blkC b (txF A) ot.x (txF B ++ sp) := by
      show [(b, Obj.cells ⟨txF os ++ sp⟩ 72 (0, 0))] = _
      rw [hfE]; simp
    have hst : stC os = stC A ++ ((stkC ot.x ot.ss ++ mrkC ot.x ot.ms) ++ stC B) := by rw [hE, stC_app, show stC (ot :: B) = stC ([ot] ++ B) from rfl, stC_app, stC_one]
    have hg3 : (txF A ++ txQ ot.x (txF B ++ sp))[0 + i * 7 + 3]? = some (.int .u64 ot.x.last) := q_get hPl rfl)
  all_goals (repeat' (first | (refine iBu ?_; refine tl_y (y_buildN rfl) rfl rfl ?_) | (refine i_op ?_; first | (refine i_qq ?_; refine qQ ?_) | refine qEf ?_) | refine tl_nil ?_ | (refine i_tc ?_; refine qTc ?_) | (refine i_te ?_; refine qTe ?_) | intro _))
  all_goals rw [hCe]
  all_goals by_cases hpv : r.prev = ot.x.last
  all_goals refine tc_any (Stays _ _ ([clkC cb next (.slice (some ⟨b, 0, none⟩) os.length cap) rv r (some ⟨b, 0 + i * 7, none⟩), blkC b (txF A) ot.x (txF B ++ sp), [(rb, .cells ⟨recV rv r⟩ 30 (0, 0))]])) (stays_of (hT := tk) (Hp.le_refl _)) ?_
  all_goals refine rFa 0 ?_
  all_goals refine rFull ?_
  all_goals refine rLd 1 ?_
  all_goals refine rMv 2 ?_
  all_goals refine rNc 3 ?_
  all_goals refine rFa 4 ?_
  all_goals refine rLd 5 ?_
  all_goals refine rNc 6 ?_
  all_goals refine rFa 7 ?_
  all_goals refine rLd 8 ?_
  all_goals refine rCm 9 ?_
  all_goals refine rDone ?_
  all_goals (first
    | (rw [if_pos (show r.prev ≠ ot.x.last from hpv)]
       repeat' (first | (refine iBu ?_; refine tl_y (y_buildN rfl) rfl rfl ?_) | (refine i_op ?_; first | (refine i_qq ?_; refine qQ ?_) | refine qEf ?_) | refine tl_nil ?_ | (refine i_tc ?_; refine qTc ?_) | (refine i_te ?_; refine qTe ?_) | intro _)
       exact qE (L' := [] ++ []) ⟨Hp.le_refl _, rfl, .inl ⟨by decide, [], rfl⟩⟩)
    | rw [if_neg (show ¬ r.prev ≠ ot.x.last from fun e => e hpv)])
  all_goals have hnil : IntKeys .i64 [] := by intro e he; simp at he
  all_goals (repeat' (first | (refine tl_insert rfl rfl rfl hnil (fun es1 ck1 i1 j1 => ?_)) | (refine tl_insert rfl rfl rfl i1 (fun es2 ck2 i2 j2 => ?_)) | (refine tl_insert rfl rfl rfl i2 (fun es3 ck3 i3 j3 => ?_)) | (refine tl_insert rfl rfl rfl i3 (fun es4 ck4 i4 j4 => ?_)) | (refine tl_insert rfl rfl rfl i4 (fun es5 ck5 i5 j5 => ?_)) | (refine tl_insert rfl rfl rfl i5 (fun es6 ck6 i6 j6 => ?_)) | (refine tl_insert rfl rfl rfl i6 (fun es7 ck7 i7 j7 => ?_)) | (refine iBu ?_; refine tl_y (y_buildN rfl) rfl rfl ?_) | (refine i_op ?_; first | (refine i_qq ?_; refine qQ ?_) | refine qEf ?_) | refine tl_nil ?_ | (refine i_tc ?_; refine qTc ?_) | (refine i_te ?_; refine qTe ?_) | intro _))
  all_goals (
    have hg0 : ∀ k : Int, mget [] k = none := fun _ => rfl
    have hg := j7 r.kind
    rw [j6, j5, j4, j3, j2, j1, hg0] at hg
    clear j1 j2 j3 j4 j5 j6 j7 i1 i2 i3 i4 i5 i6)
  all_goals refine tc_any (Stays _ _ ([clkC cb next (.slice (some ⟨b, 0, none⟩) os.length cap) rv r (some ⟨b, 0 + i * 7, none⟩), [(rb, .cells ⟨recV rv r⟩ 30 (0, 0))]])) (stays_of (hT := tk) (Hp.le_refl _)) ?_
  all_goals refine rMv 0 ?_
  all_goals refine rNc 1 ?_
  all_goals refine rFa 2 ?_
  all_goals refine rLd 3 ?_
  all_goals refine rFa 4 ?_
  all_goals refine rLd 5 ?_
  all_goals refine rNc 6 ?_
  all_goals refine rFa 7 ?_
  all_goals (refine rStep (i := 8) ?_; ((try refine qWant ?_); (first | (refine tl_store_q (o := 0 + i * 7) (P := txF A) rfl rfl hPl rfl ?_) | (refine qEf ?_; try intro _)) <;> ((try simp only [kM, kN, kO]); refine tl_nil ?_; refine rNext ?_)))
  all_goals refine rDone ?_
  all_goals by_cases k8 : r.kind = 8
  · rw [if_pos k8] at hg
    simp only [if_pos k8]
    have hst8 : stC (A ++ B) = stC A ++ stC B := stC_app A B
    have hne : ∀ o ∈ A ++ B, o.x.num ≠ ot.x.num := fun o ho => by
      have hp := hG.up
      dsimp only at hp
      rw [← hR.says, hE] at hp
      have hp2 := (List.pairwise_map (f := fun o : OT => o.x.p) (R := fun a b : TxP => a.num < b.num)).1 hp
      rw [List.pairwise_append, List.pairwise_cons] at hp2
      rcases List.mem_append.1 ho with ho | ho
      · have q : o.x.num < ot.x.num := hp2.2.2 o ho ot (by simp)
        omega
      · have q : ot.x.num < o.x.num := hp2.2.1.1 o ho
        omega
    have hfs : (A ++ (⟨{ ot.x with last := r.lsn }, ot.ss, ot.ms⟩ : OT) :: B).filter (fun t => !decide (t.x.num = ot.x.num)) = A ++ B := by
      rw [List.filter_append, List.filter_cons, if_neg (by simp), ← List.filter_append]
      exact List.filter_eq_self.2 (fun o ho => by simp [hne o ho])
    have hlo : (A ++ (⟨{ ot.x with last := r.lsn }, ot.ss, ot.ms⟩ : OT) :: B).length = os.length := by rw [hE]; simp
    have hf1E : txF (A ++ (⟨{ ot.x with last := r.lsn }, ot.ss, ot.ms⟩ : OT) :: B) = txF A ++ (txV { ot.x with last := r.lsn } ++ txF B) := by rw [txF_app, show txF ((⟨{ ot.x with last := r.lsn }, ot.ss, ot.ms⟩ : OT) :: B) = txF ([(⟨{ ot.x with last := r.lsn }, ot.ss, ot.ms⟩ : OT)] ++ B) from rfl, txF_app, txF_one]
    have hown1 := hR.own.turn (xs' := txF (A ++ (⟨{ ot.x with last := r.lsn }, ot.ss, ot.ms⟩ : OT) :: B)) (by rw [txF_len, txF_len, hlo])
    have hPS : txF A ++ txQ { ot.x with last := r.lsn } (txF B ++ sp) = txF (A ++ (⟨{ ot.x with last := r.lsn }, ot.ss, ot.ms⟩ : OT) :: B) ++ sp := by rw [hf1E]; simp
    have hme := mend_spec ρ' cb next rv r b (0 + i * 7) cap (txF A) { ot.x with last := r.lsn } (txF B ++ sp) sp (A ++ (⟨{ ot.x with last := r.lsn }, ot.ss, ot.ms⟩ : OT) :: B) (by omega) (by rw [hlo]; exact hown1) hPl hPS
    rw [hfs, hlo] at hme
    have hCf : ownC (.slice (some ⟨b, 0, none⟩) os.length cap) (txF (A ++ (⟨{ ot.x with last := r.lsn }, ot.ss, ot.ms⟩ : OT) :: B)) sp 72 = [(b, .cells ⟨txF A ++ txQ { ot.x with last := r.lsn } (txF B ++ sp)⟩ 72 (0, 0))] := by rw [hPS]; rfl
    rw [hCf] at hme
    have hdr : (A ++ B).map (fun o => o.x.p) = (dropT ⟨next, txns⟩ r.txn).txns := by
      unfold dropT
      dsimp only
      rw [← hR.says, hE, List.map_append, List.map_append, List.map_cons, List.filter_append, List.filter_cons, if_neg (by simp [hnum]), ← List.filter_append, ← List.map_append]
      symm
      refine List.filter_eq_self.2 (fun t ht => ?_)
      obtain ⟨o, ho, rfl⟩ := List.mem_map.1 ht
      have := hne o ho
      rw [hnum] at this
      simpa using this
    rw [hst]
    repeat' (first | (refine tl_is (.tmp 79) ?_; refine qC rfl rfl (hme) ?_; rintro v ρ' L' hle ⟨rfl, rfl, vv', sp', ho', rfl⟩ <;> (try simp only [kM, kN, kO])) | (refine iBu ?_; refine tl_y (y_buildN rfl) rfl rfl ?_) | (refine i_op ?_; first | (refine i_qq ?_; refine qQ ?_) | refine qEf ?_) | refine tl_nil ?_ | (refine i_tc ?_; refine qTc ?_) | (refine i_te ?_; refine qTe ?_) | intro _)
    refine te_split (stC A) _ ?_
    refine te_split (stkC ot.x ot.ss ++ mrkC ot.x ot.ms) (stC B) ?_
    refine te_merge (stC A) (stC B) ?_
    rw [← hst8]
    refine qE (L' := clkC cb next vv' rv r (some ⟨b, 0 + i * 7, none⟩) :: (ownRC vv' sp' (A ++ B) ++ [])) ⟨Hp.le_refl _, rfl, .inr ⟨by trivial, vv', sp', A ++ B, rv, r, _, ⟨ho', fun o ho => hR.each o ?_, hdr⟩, rfl⟩⟩
    rw [hE]
    rcases List.mem_append.1 ho with ho | ho
    · exact List.mem_append_left _ ho
    · exact List.mem_append_right _ (List.mem_cons_of_mem _ ho)
  · rw [if_neg k8] at hg
    simp only [if_neg k8]
    have hkk : 2 ≤ r.kind ∧ r.kind ≤ 7 := by omega
    obtain ⟨hF, hS⟩ := meth_spec r hok hkk
    have hS := fun ρ1 (hle : Hp.le ρ' ρ1) => hS ρ1 cb next (.slice (some ⟨b, 0, none⟩) os.length cap) rv b (0 + i * 7) (txF A) { ot.x with last := r.lsn } (txF B ++ sp) ot.ss ot.ms hPl ⟨hot.s, hot.m⟩ hsl (by show ot.x.marks.length ≤ 100; omega) (h.mono hle) rfl
    have hgF : mget es7 r.kind = some (Value.func (.func (methF r.kind)) ⟨[.pointer (some ⟨cb, 0, none⟩)]⟩ ⟨[]⟩) := by
      rw [hg]
      have := methF_chain (f := fun F => some (Value.func (.func F) ⟨[.pointer (some ⟨cb, 0, none⟩)]⟩ ⟨[]⟩)) hkk
      rw [if_neg k8] at this
      exact this
    clear hg
    have hmy : mayT ({ ot.x with last := r.lsn } : Tx).p r = mayT ot.x.p r := rfl
    have hnx : nextT ({ ot.x with last := r.lsn } : Tx).p r = nextT ot.x.p r := rfl
    rw [hmy, hnx] at hS
    unfold MethR at hS
    generalize methF r.kind = F at *
    generalize hnx2 : nextT ot.x.p r = nx at *
    have hnn : nx.num = ot.x.num := by rw [← hnx2, nextT_num]
    generalize mayT ot.x.p r = my at *
    rw [hst]
    refine te_split (stC A) _ ?_
    refine te_split (stkC ot.x ot.ss ++ mrkC ot.x ot.ms) (stC B) ?_
    refine te_split (stkC ot.x ot.ss) (mrkC ot.x ot.ms) ?_
    repeat' (first | (refine tl_is (.tmp 79) ?_; refine qC rfl rfl (hS _ (Hp.le_refl _)) ?_; rintro v ρ' L' hle ⟨hl1, ⟨rfl, rfl, x', ss', ms', e4, hX', rfl⟩ | ⟨rfl, rfl, G, rfl⟩⟩ <;> (try simp only [kM, kN, kO])) | (refine iBu ?_; refine tl_y (y_buildN rfl) rfl rfl ?_) | (refine i_op ?_; first | (refine i_qq ?_; refine qQ ?_) | refine qEf ?_) | refine tl_nil ?_ | (refine i_tc ?_; refine qTc ?_) | (refine i_te ?_; refine qTe ?_) | intro _)
    · repeat' (first | (refine iBu ?_; refine tl_y (y_buildN rfl) rfl rfl ?_) | (refine i_op ?_; first | (refine i_qq ?_; refine qQ ?_) | refine qEf ?_) | refine tl_nil ?_ | (refine i_tc ?_; refine qTc ?_) | (refine i_te ?_; refine qTe ?_) | intro _)
      have hlo : (A ++ (⟨x', ss', ms'⟩ : OT) :: B).length = os.length := by rw [hE]; simp
      have hf1E : txF (A ++ (⟨x', ss', ms'⟩ : OT) :: B) = txF A ++ (txV x' ++ txF B) := by rw [txF_app, show txF ((⟨x', ss', ms'⟩ : OT) :: B) = txF ([(⟨x', ss', ms'⟩ : OT)] ++ B) from rfl, txF_app, txF_one]
      have hown1 := hR.own.turn (xs' := txF (A ++ (⟨x', ss', ms'⟩ : OT) :: B)) (by rw [txF_len, txF_len, hlo])
      have hCf : blkC b (txF A) x' (txF B ++ sp) = ownC (.slice (some ⟨b, 0, none⟩) os.length cap) (txF (A ++ (⟨x', ss', ms'⟩ : OT) :: B)) sp 72 := by
        show _ = [(b, Obj.cells ⟨txF (A ++ (⟨x', ss', ms'⟩ : OT) :: B) ++ sp⟩ 72 (0, 0))]
        rw [hf1E]; simp
      have hst9 : stC A ++ ((stkC x' ss' ++ mrkC x' ms') ++ stC B) = stC (A ++ (⟨x', ss', ms'⟩ : OT) :: B) := by rw [stC_app, show stC ((⟨x', ss', ms'⟩ : OT) :: B) = stC ([(⟨x', ss', ms'⟩ : OT)] ++ B) from rfl, stC_app, stC_one]
      have hsay : (A ++ (⟨x', ss', ms'⟩ : OT) :: B).map (fun o => o.x.p) = (putT ⟨next, txns⟩ nx).txns := by
        rw [putT_set hG hi2 (by rw [hti2]; exact hnn)]
        dsimp only
        rw [← hR.says, hE, List.map_append, List.map_cons, List.map_append, List.map_cons, List.set_append_right _ _ (by rw [List.length_map]; omega), List.length_map, hAl, Nat.sub_self, List.set_cons_zero, e4]
      have hCf2 : ∀ Y : SH, (blkC b (txF A) x' (txF B ++ sp) :: Y) = (ownC (.slice (some ⟨b, 0, none⟩) os.length cap) (txF (A ++ (⟨x', ss', ms'⟩ : OT) :: B)) sp 72 :: Y) := fun Y => by rw [hCf]
      rw [hCf2]
      refine te_merge (stkC x' ss') (mrkC x' ms') ?_
      refine te_merge (stkC x' ss' ++ mrkC x' ms') (stC B) ?_
      refine te_merge (stC A) ((stkC x' ss' ++ mrkC x' ms') ++ stC B) ?_
      rw [hst9]
      refine qE (L' := clkC cb next (.slice (some ⟨b, 0, none⟩) os.length cap) rv r (some ⟨b, 0 + i * 7, none⟩) :: (ownRC (.slice (some ⟨b, 0, none⟩) os.length cap) sp (A ++ (⟨x', ss', ms'⟩ : OT) :: B) ++ [])) ⟨hl1, rfl, .inr ⟨by trivial, _, sp, A ++ (⟨x', ss', ms'⟩ : OT) :: B, rv, r, _, ⟨by rw [hlo]; exact hown1, fun o ho => ?_, hsay⟩, rfl⟩⟩
      rcases List.mem_append.1 ho with ho | ho
      · exact hR.each o (by rw [hE]; exact List.mem_append_left _ ho)
      · rcases List.mem_cons.1 ho with rfl | ho
        · exact hX'
        · exact hR.each o (by rw [hE]; exact List.mem_append_right _ (List.mem_cons_of_mem _ ho))
    · repeat' (first | (refine iBu ?_; refine tl_y (y_buildN rfl) rfl rfl ?_) | (refine i_op ?_; first | (refine i_qq ?_; refine qQ ?_) | refine qEf ?_) | refine tl_nil ?_ | (refine i_tc ?_; refine qTc ?_) | (refine i_te ?_; refine qTe ?_) | intro _)
      exact qE (L' := [] ++ []) ⟨hl1, rfl, .inl ⟨by decide, [], rfl⟩⟩
end Go.Proofs.E

