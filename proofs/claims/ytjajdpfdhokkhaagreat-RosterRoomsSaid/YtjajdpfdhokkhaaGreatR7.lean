/- Rosters as data, and what their functions come to. Part 7 of 16. -/
import Derived.Test.YtjajdpfdhokkhaaGreatR6
namespace Go.Proofs.E
open Go
set_option linter.unusedVariables false
set_option linter.unusedSimpArgs false
set_option linter.unusedSectionVars false
set_option maxRecDepth 4000
set_option maxHeartbeats 1000000
attribute [local irreducible] Yl TL TC TE Spec YSpec R1 Hp.le EnvLe TS TR YS Stays
theorem rpage_spec (ρ : Hp) (n : Int) : Spec Tryz.prog 190 [.int .i64 n] ρ [] (fun v ρ' L' => v = .bool (pageOk n) ∧ ρ' = ρ ∧ L' = []) := by
  refine spec_enter Tryz.func190 rfl rfl rfl fun u R => ?_
  simp only [argsE, List.cons_append, List.nil_append]
  repeat' (first | (refine i_op ?_; first | (refine i_qq ?_; refine qQ ?_) | refine qEf ?_) | refine tl_nil ?_ | (refine i_tc ?_; refine qTc ?_) | (refine i_te ?_; refine qTe ?_) | (refine i_gd ?_; refine tl_guard rfl rfl (fun hb => ?_) (fun hb => ?_) <;> (try simp only [decide_eq_true_eq, decide_eq_false_iff_not, Bool.not_eq_true, Bool.not_eq_false, beq_iff_eq, bne_iff_ne, ne_eq, decide_eq_decide, Bool.not_eq_eq_eq_not, Bool.not_true, Bool.not_false, beq_eq_false_iff_ne, bne_eq_false_iff_eq, Bool.and_eq_true, Bool.or_eq_true, Bool.and_eq_false_imp, Bool.or_eq_false_iff] at hb)) | (refine i_cond ?_; refine tc_cond rfl (fun hb => ?_) (fun hb => ?_) <;> (try simp only [decide_eq_true_eq, decide_eq_false_iff_not, Bool.not_eq_true, Bool.not_eq_false, beq_iff_eq, bne_iff_ne, ne_eq, decide_eq_decide, Bool.not_eq_eq_eq_not, Bool.not_true, Bool.not_false, beq_eq_false_iff_ne, bne_eq_false_iff_eq, Bool.and_eq_true, Bool.or_eq_true, Bool.and_eq_false_imp, Bool.or_eq_false_iff] at hb)) | intro _)
  all_goals (refine qF (L' := []) ?_; exact ⟨bool_eq (by simp [pageOk]; (try omega)), rfl, rfl⟩)
theorem images1_spec (ρ : Hp) (x : Im) : Spec Tryz.prog 249 [.agg ⟨imV x⟩] ρ [] (fun v ρ' L' => v = .int .i64 x.page ∧ ρ' = ρ ∧ L' = []) := by
  refine spec_enter Tryz.func249 rfl rfl rfl fun u R => ?_
  simp only [argsE, List.cons_append, List.nil_append]
  repeat' (first | (refine i_op ?_; first | (refine i_qq ?_; refine qQ ?_) | refine qEf ?_) | refine tl_nil ?_ | (refine i_tc ?_; refine qTc ?_) | (refine i_te ?_; refine qTe ?_) | intro _)
  exact qE ⟨rfl, rfl, rfl⟩
abbrev beforeC (bx : Nat) (before : Bool) : SH := [[(bx, .cells ⟨[.bool before]⟩ 4 (0, 0))]]
theorem images2_spec (ρ : Hp) (bx : Nat) (before : Bool) (x : Im) (h : Im.In ρ x) : Spec Tryz.prog 250 [.agg ⟨imV x⟩, .pointer (some ⟨bx, 0, none⟩)] ρ (beforeC bx before) (fun v ρ' L' => v = .bool (imOk before x) ∧ ρ' = ρ ∧ L' = beforeC bx before) := by
  have ha := check_spec ρ x.av x.a h.a.cin
  have hb := check_spec ρ x.bv x.b h.b.cin
  refine spec_enter Tryz.func250 rfl rfl rfl fun u R => ?_
  simp only [argsE, List.cons_append, List.nil_append]
  unfold imOk
  cases h1 : pageOk x.page
  · repeat' (first | (refine tl_is (.func 190) ?_; refine qC rfl rfl (rpage_spec _ _) ?_; rintro v ρ' L' hle ⟨rfl, rfl, rfl⟩ <;> (try simp only [kM, kN, kO, h1])) | (refine i_op ?_; first | (refine i_qq ?_; refine qQ ?_) | refine qEf ?_) | refine tl_nil ?_ | (refine i_tc ?_; refine qTc ?_) | (refine i_te ?_; refine qTe ?_) | intro _)
    exact qE (L' := beforeC bx before) ⟨rfl, rfl, rfl⟩
  · cases h2 : contOk x.a
    · rw [h2] at ha
      repeat' (first | (refine tl_is (.func 190) ?_; refine qC rfl rfl (rpage_spec _ _) ?_; rintro v ρ' L' hle ⟨rfl, rfl, rfl⟩ <;> (try simp only [kM, kN, kO, h1])) | (refine tl_is (.func 251) ?_; refine qC rfl rfl (ha) ?_; rintro v ρ' L' hle ⟨rfl, rfl, rfl⟩ <;> (try simp only [kM, kN, kO, if_false, Bool.false_eq_true])) | (refine i_op ?_; first | (refine i_qq ?_; refine qQ ?_) | refine qEf ?_) | refine tl_nil ?_ | (refine i_tc ?_; refine qTc ?_) | (refine i_te ?_; refine qTe ?_) | intro _)
      exact qE (L' := beforeC bx before) ⟨rfl, rfl, rfl⟩
    · rw [h2] at ha
      cases h3 : contOk x.b
      · rw [h3] at hb
        repeat' (first | (refine tl_is (.func 190) ?_; refine qC rfl rfl (rpage_spec _ _) ?_; rintro v ρ' L' hle ⟨rfl, rfl, rfl⟩ <;> (try simp only [kM, kN, kO, h1])) | (refine tl_is (.func 251) ?_; refine qC rfl rfl (ha) ?_; rintro v ρ' L' hle ⟨rfl, rfl, rfl⟩ <;> (try simp only [kM, kN, kO, if_true])) | (refine tl_is (.func 251) ?_; refine qC rfl rfl (hb) ?_; rintro v ρ' L' hle ⟨rfl, rfl, rfl⟩ <;> (try simp only [kM, kN, kO, if_false, Bool.false_eq_true])) | (refine i_op ?_; first | (refine i_qq ?_; refine qQ ?_) | refine qEf ?_) | refine tl_nil ?_ | (refine i_tc ?_; refine qTc ?_) | (refine i_te ?_; refine qTe ?_) | intro _)
        exact qE (L' := beforeC bx before) ⟨rfl, rfl, rfl⟩
      · rw [h3] at hb
        cases before
        · by_cases h4 : x.b.kind = 0
          · rw [decide_eq_true h4]
            repeat' (first | (refine tl_is (.func 190) ?_; refine qC rfl rfl (rpage_spec _ _) ?_; rintro v ρ' L' hle ⟨rfl, rfl, rfl⟩ <;> (try simp only [kM, kN, kO, h1])) | (refine tl_is (.func 251) ?_; refine qC rfl rfl (ha) ?_; rintro v ρ' L' hle ⟨rfl, rfl, rfl⟩ <;> (try simp only [kM, kN, kO, if_true])) | (refine tl_is (.func 251) ?_; refine qC rfl rfl (hb) ?_; rintro v ρ' L' hle ⟨rfl, rfl, rfl⟩ <;> (try simp only [kM, kN, kO, if_true])) | (refine i_op ?_; first | (refine i_qq ?_; refine qQ ?_) | refine qEf ?_) | refine tl_nil ?_ | (refine i_tc ?_; refine qTc ?_) | (refine i_te ?_; refine qTe ?_) | intro _)
            exact qE (L' := beforeC bx false) ⟨rfl, rfl, rfl⟩
          · rw [decide_eq_false h4]
            repeat' (first | (refine tl_is (.func 190) ?_; refine qC rfl rfl (rpage_spec _ _) ?_; rintro v ρ' L' hle ⟨rfl, rfl, rfl⟩ <;> (try simp only [kM, kN, kO, h1])) | (refine tl_is (.func 251) ?_; refine qC rfl rfl (ha) ?_; rintro v ρ' L' hle ⟨rfl, rfl, rfl⟩ <;> (try simp only [kM, kN, kO, if_true])) | (refine tl_is (.func 251) ?_; refine qC rfl rfl (hb) ?_; rintro v ρ' L' hle ⟨rfl, rfl, rfl⟩ <;> (try simp only [kM, kN, kO, if_true])) | (refine i_op ?_; first | (refine i_qq ?_; refine qQ ?_) | refine qEf ?_) | refine tl_nil ?_ | (refine i_tc ?_; refine qTc ?_) | (refine i_te ?_; refine qTe ?_) | intro _)
            exact qE (L' := beforeC bx false) ⟨rfl, rfl, rfl⟩
        · repeat' (first | (refine tl_is (.func 190) ?_; refine qC rfl rfl (rpage_spec _ _) ?_; rintro v ρ' L' hle ⟨rfl, rfl, rfl⟩ <;> (try simp only [kM, kN, kO, h1])) | (refine tl_is (.func 251) ?_; refine qC rfl rfl (ha) ?_; rintro v ρ' L' hle ⟨rfl, rfl, rfl⟩ <;> (try simp only [kM, kN, kO, if_true])) | (refine tl_is (.func 251) ?_; refine qC rfl rfl (hb) ?_; rintro v ρ' L' hle ⟨rfl, rfl, rfl⟩ <;> (try simp only [kM, kN, kO, if_true])) | (refine i_op ?_; first | (refine i_qq ?_; refine qQ ?_) | refine qEf ?_) | refine tl_nil ?_ | (refine i_tc ?_; refine qTc ?_) | (refine i_te ?_; refine qTe ?_) | intro _)
          exact qE (L' := beforeC bx true) ⟨rfl, rfl, rfl⟩
theorem ckpt1_spec (ρ : Hp) (x : CkT) : Spec Tryz.prog 185 [.agg ⟨ckTV x⟩] ρ [] (fun v ρ' L' => v = .int .i64 x.txn ∧ ρ' = ρ ∧ L' = []) := by
  refine spec_enter Tryz.func185 rfl rfl rfl fun u R => ?_
  simp only [argsE, List.cons_append, List.nil_append]
  repeat' (first | (refine i_op ?_; first | (refine i_qq ?_; refine qQ ?_) | refine qEf ?_) | refine tl_nil ?_ | (refine i_tc ?_; refine qTc ?_) | (refine i_te ?_; refine qTe ?_) | intro _)
  exact qE ⟨rfl, rfl, rfl⟩
theorem ckpt3_spec (ρ : Hp) (x : CkP) : Spec Tryz.prog 188 [.agg ⟨ckPV x⟩] ρ [] (fun v ρ' L' => v = .int .i64 x.page ∧ ρ' = ρ ∧ L' = []) := by
  refine spec_enter Tryz.func188 rfl rfl rfl fun u R => ?_
  simp only [argsE, List.cons_append, List.nil_append]
  repeat' (first | (refine i_op ?_; first | (refine i_qq ?_; refine qQ ?_) | refine qEf ?_) | refine tl_nil ?_ | (refine i_tc ?_; refine qTc ?_) | (refine i_te ?_; refine qTe ?_) | intro _)
  exact qE ⟨rfl, rfl, rfl⟩
/-- an asker -/
abbrev askC (ab : Nat) (v : RV) (r : Rc) : List (Nat × Obj) := [(ab, .cells ⟨recV v r⟩ 158 (0, 0))]
abbrev nextC (nb : Nat) (next : Int) : List (Nat × Obj) := [(nb, .cells ⟨[.int .i64 next]⟩ 3 (0, 0))]
abbrev ptrC (pb ab : Nat) : List (Nat × Obj) := [(pb, .cells ⟨[.pointer (some ⟨ab, 0, none⟩)]⟩ 156 (0, 0))]
theorem ckpt2_spec (ρ : Hp) (nb pb ab : Nat) (next : Int) (v : RV) (r : Rc) (x : CkT) : Spec Tryz.prog 186 [.agg ⟨ckTV x⟩, .pointer (some ⟨nb, 0, none⟩), .pointer (some ⟨pb, 0, none⟩)] ρ [nextC nb next, ptrC pb ab, askC ab v r]
    (fun z ρ' L' => z = .bool (ckTOk r.lsn next x) ∧ ρ' = ρ ∧ L' = [nextC nb next, ptrC pb ab, askC ab v r]) := by
  refine spec_enter Tryz.func186 rfl rfl rfl fun u R => ?_
  simp only [argsE, List.cons_append, List.nil_append]
  repeat' (first | (refine i_op ?_; first | (refine i_qq ?_; refine qQ ?_) | refine qEf ?_) | refine tl_nil ?_ | (refine i_tc ?_; refine qTc ?_) | (refine i_te ?_; refine qTe ?_) | intro _)
  refine tc_any (Stays _ _ _) stays_refl ?_
  all_goals refine rFa 0 ?_
  all_goals refine rFull ?_
  all_goals refine rLd 1 ?_
  all_goals refine rCm 2 ?_
  all_goals refine rMv 3 ?_
  all_goals (first | refine wSkip 4 ?_ | refine wSkipU 4 ?_ | refine wFa 4 ?_ | (refine tr_guard (t := 8) rfl (fun hb => ?_) (fun hb => ?_) <;> (try simp only [kk] at hb) <;> first | refine wSkip 4 ?_ | refine wSkipU 4 ?_ | refine wFa 4 ?_))
  all_goals (first | refine wSkip 5 ?_ | refine wSkipU 5 ?_ | refine wLd 5 ?_ | (refine tr_guard (t := 8) rfl (fun hb => ?_) (fun hb => ?_) <;> (try simp only [kk] at hb) <;> first | refine wSkip 5 ?_ | refine wSkipU 5 ?_ | refine wLd 5 ?_))
  all_goals (first | refine wSkip 6 ?_ | refine wSkipU 6 ?_ | refine wLd 6 ?_ | (refine tr_guard (t := 8) rfl (fun hb => ?_) (fun hb => ?_) <;> (try simp only [kk] at hb) <;> first | refine wSkip 6 ?_ | refine wSkipU 6 ?_ | refine wLd 6 ?_))
  all_goals (first | refine wSkip 7 ?_ | refine wSkipU 7 ?_ | refine wCm 7 ?_ | (refine tr_guard (t := 8) rfl (fun hb => ?_) (fun hb => ?_) <;> (try simp only [kk] at hb) <;> first | refine wSkip 7 ?_ | refine wSkipU 7 ?_ | refine wCm 7 ?_))
  all_goals refine rPk 8 ?_
  all_goals refine rMv 9 ?_
  all_goals (first | refine wSkip 10 ?_ | refine wSkipU 10 ?_ | refine wFa 10 ?_ | (refine tr_guard (t := 14) rfl (fun hb => ?_) (fun hb => ?_) <;> (try simp only [kk] at hb) <;> first | refine wSkip 10 ?_ | refine wSkipU 10 ?_ | refine wFa 10 ?_))
  all_goals (first | refine wSkip 11 ?_ | refine wSkipU 11 ?_ | refine wLd 11 ?_ | (refine tr_guard (t := 14) rfl (fun hb => ?_) (fun hb => ?_) <;> (try simp only [kk] at hb) <;> first | refine wSkip 11 ?_ | refine wSkipU 11 ?_ | refine wLd 11 ?_))
  all_goals (first | refine wSkip 12 ?_ | refine wSkipU 12 ?_ | refine wCm 12 ?_ | (refine tr_guard (t := 14) rfl (fun hb => ?_) (fun hb => ?_) <;> (try simp only [kk] at hb) <;> first | refine wSkip 12 ?_ | refine wSkipU 12 ?_ | refine wCm 12 ?_))
  all_goals refine rPk 13 ?_
  all_goals refine rMv 14 ?_
  all_goals (first | refine wSkip 15 ?_ | refine wSkipU 15 ?_ | refine wFa 15 ?_ | (refine tr_guard (t := 19) rfl (fun hb => ?_) (fun hb => ?_) <;> (try simp only [kk] at hb) <;> first | refine wSkip 15 ?_ | refine wSkipU 15 ?_ | refine wFa 15 ?_))
  all_goals (first | refine wSkip 16 ?_ | refine wSkipU 16 ?_ | refine wLd 16 ?_ | (refine tr_guard (t := 19) rfl (fun hb => ?_) (fun hb => ?_) <;> (try simp only [kk] at hb) <;> first | refine wSkip 16 ?_ | refine wSkipU 16 ?_ | refine wLd 16 ?_))
  all_goals (first | refine wSkip 17 ?_ | refine wSkipU 17 ?_ | refine wFa 17 ?_ | (refine tr_guard (t := 19) rfl (fun hb => ?_) (fun hb => ?_) <;> (try simp only [kk] at hb) <;> first | refine wSkip 17 ?_ | refine wSkipU 17 ?_ | refine wFa 17 ?_))
  all_goals (first | refine wSkip 18 ?_ | refine wSkipU 18 ?_ | refine wLd 18 ?_ | (refine tr_guard (t := 19) rfl (fun hb => ?_) (fun hb => ?_) <;> (try simp only [kk] at hb) <;> first | refine wSkip 18 ?_ | refine wSkipU 18 ?_ | refine wLd 18 ?_))
  all_goals (first | refine wSkip 19 ?_ | refine wSkipU 19 ?_ | refine wCm 19 ?_ | (refine tr_guard (t := 19) rfl (fun hb => ?_) (fun hb => ?_) <;> (try simp only [kk] at hb) <;> first | refine wSkip 19 ?_ | refine wSkipU 19 ?_ | refine wCm 19 ?_))
  all_goals refine rPk 20 ?_
  all_goals refine rMv 21 ?_
  all_goals (first | refine wSkip 22 ?_ | refine wSkipU 22 ?_ | refine wFa 22 ?_ | (refine tr_guard (t := 26) rfl (fun hb => ?_) (fun hb => ?_) <;> (try simp only [kk] at hb) <;> first | refine wSkip 22 ?_ | refine wSkipU 22 ?_ | refine wFa 22 ?_))
  all_goals (first | refine wSkip 23 ?_ | refine wSkipU 23 ?_ | refine wLd 23 ?_ | (refine tr_guard (t := 26) rfl (fun hb => ?_) (fun hb => ?_) <;> (try simp only [kk] at hb) <;> first | refine wSkip 23 ?_ | refine wSkipU 23 ?_ | refine wLd 23 ?_))
  all_goals (first | refine wSkip 24 ?_ | refine wSkipU 24 ?_ | refine wLd 24 ?_ | (refine tr_guard (t := 26) rfl (fun hb => ?_) (fun hb => ?_) <;> (try simp only [kk] at hb) <;> first | refine wSkip 24 ?_ | refine wSkipU 24 ?_ | refine wLd 24 ?_))
  all_goals (first | refine wSkip 25 ?_ | refine wSkipU 25 ?_ | refine wNc 25 ?_ | (refine tr_guard (t := 26) rfl (fun hb => ?_) (fun hb => ?_) <;> (try simp only [kk] at hb) <;> first | refine wSkip 25 ?_ | refine wSkipU 25 ?_ | refine wNc 25 ?_))
  all_goals (first | refine wSkip 26 ?_ | refine wSkipU 26 ?_ | refine wFa 26 ?_ | (refine tr_guard (t := 26) rfl (fun hb => ?_) (fun hb => ?_) <;> (try simp only [kk] at hb) <;> first | refine wSkip 26 ?_ | refine wSkipU 26 ?_ | refine wFa 26 ?_))
  all_goals (first | refine wSkip 27 ?_ | refine wSkipU 27 ?_ | refine wFa 27 ?_ | (refine tr_guard (t := 26) rfl (fun hb => ?_) (fun hb => ?_) <;> (try simp only [kk] at hb) <;> first | refine wSkip 27 ?_ | refine wSkipU 27 ?_ | refine wFa 27 ?_))
  all_goals (first | refine wSkip 28 ?_ | refine wSkipU 28 ?_ | refine wLd 28 ?_ | (refine tr_guard (t := 26) rfl (fun hb => ?_) (fun hb => ?_) <;> (try simp only [kk] at hb) <;> first | refine wSkip 28 ?_ | refine wSkipU 28 ?_ | refine wLd 28 ?_))
  all_goals (first | refine wSkip 29 ?_ | refine wSkipU 29 ?_ | refine wCm 29 ?_ | (refine tr_guard (t := 26) rfl (fun hb => ?_) (fun hb => ?_) <;> (try simp only [kk] at hb) <;> first | refine wSkip 29 ?_ | refine wSkipU 29 ?_ | refine wCm 29 ?_))
  all_goals refine rPk 30 ?_
  all_goals refine rMv 31 ?_
  all_goals (first | refine wSkip 32 ?_ | refine wSkipU 32 ?_ | refine wFa 32 ?_ | (refine tr_guard (t := 36) rfl (fun hb => ?_) (fun hb => ?_) <;> (try simp only [kk] at hb) <;> first | refine wSkip 32 ?_ | refine wSkipU 32 ?_ | refine wFa 32 ?_))
  all_goals (first | refine wSkip 33 ?_ | refine wSkipU 33 ?_ | refine wLd 33 ?_ | (refine tr_guard (t := 36) rfl (fun hb => ?_) (fun hb => ?_) <;> (try simp only [kk] at hb) <;> first | refine wSkip 33 ?_ | refine wSkipU 33 ?_ | refine wLd 33 ?_))
  all_goals (first | refine wSkip 34 ?_ | refine wSkipU 34 ?_ | refine wFa 34 ?_ | (refine tr_guard (t := 36) rfl (fun hb => ?_) (fun hb => ?_) <;> (try simp only [kk] at hb) <;> first | refine wSkip 34 ?_ | refine wSkipU 34 ?_ | refine wFa 34 ?_))
  all_goals (first | refine wSkip 35 ?_ | refine wSkipU 35 ?_ | refine wLd 35 ?_ | (refine tr_guard (t := 36) rfl (fun hb => ?_) (fun hb => ?_) <;> (try simp only [kk] at hb) <;> first | refine wSkip 35 ?_ | refine wSkipU 35 ?_ | refine wLd 35 ?_))
  all_goals (first | refine wSkip 36 ?_ | refine wSkipU 36 ?_ | refine wCm 36 ?_ | (refine tr_guard (t := 36) rfl (fun hb => ?_) (fun hb => ?_) <;> (try simp only [kk] at hb) <;> first | refine wSkip 36 ?_ | refine wSkipU 36 ?_ | refine wCm 36 ?_))
  all_goals refine rPk 37 ?_
  all_goals refine rMv 38 ?_
  all_goals (first | refine wSkip 39 ?_ | refine wSkipU 39 ?_ | refine wFa 39 ?_ | (refine tr_guard (t := 43) rfl (fun hb => ?_) (fun hb => ?_) <;> (try simp only [kk] at hb) <;> first | refine wSkip 39 ?_ | refine wSkipU 39 ?_ | refine wFa 39 ?_))
  all_goals (first | refine wSkip 40 ?_ | refine wSkipU 40 ?_ | refine wLd 40 ?_ | (refine tr_guard (t := 43) rfl (fun hb => ?_) (fun hb => ?_) <;> (try simp only [kk] at hb) <;> first | refine wSkip 40 ?_ | refine wSkipU 40 ?_ | refine wLd 40 ?_))
  all_goals (first | refine wSkip 41 ?_ | refine wSkipU 41 ?_ | refine wCm 41 ?_ | (refine tr_guard (t := 43) rfl (fun hb => ?_) (fun hb => ?_) <;> (try simp only [kk] at hb) <;> first | refine wSkip 41 ?_ | refine wSkipU 41 ?_ | refine wCm 41 ?_))
  all_goals refine rPk 42 ?_
  all_goals refine rMv 43 ?_
  all_goals (first | refine wSkip 44 ?_ | refine wSkipU 44 ?_ | refine wFa 44 ?_ | (refine tr_guard (t := 48) rfl (fun hb => ?_) (fun hb => ?_) <;> (try simp only [kk] at hb) <;> first | refine wSkip 44 ?_ | refine wSkipU 44 ?_ | refine wFa 44 ?_))
  all_goals (first | refine wSkip 45 ?_ | refine wSkipU 45 ?_ | refine wLd 45 ?_ | (refine tr_guard (t := 48) rfl (fun hb => ?_) (fun hb => ?_) <;> (try simp only [kk] at hb) <;> first | refine wSkip 45 ?_ | refine wSkipU 45 ?_ | refine wLd 45 ?_))
  all_goals (first | refine wSkip 46 ?_ | refine wSkipU 46 ?_ | refine wCm 46 ?_ | (refine tr_guard (t := 48) rfl (fun hb => ?_) (fun hb => ?_) <;> (try simp only [kk] at hb) <;> first | refine wSkip 46 ?_ | refine wSkipU 46 ?_ | refine wCm 46 ?_))
  all_goals refine rPk 47 ?_
  all_goals refine rAs 48 ?_
  all_goals refine rDone ?_
  all_goals (repeat' (first | (refine i_op ?_; first | (refine i_qq ?_; refine qQ ?_) | refine qEf ?_) | refine tl_nil ?_ | (refine i_tc ?_; refine qTc ?_) | (refine i_te ?_; refine qTe ?_) | intro _))
  all_goals (refine qF (L' := [nextC nb next, ptrC pb ab, askC ab v r]) ?_; exact ⟨bool_eq (by simp [ckTOk]; (try omega)), rfl, rfl⟩)
theorem ckpt4_spec (ρ : Hp) (pb ab : Nat) (v : RV) (r : Rc) (x : CkP) : Spec Tryz.prog 189 [.agg ⟨ckPV x⟩, .pointer (some ⟨pb, 0, none⟩)] ρ [ptrC pb ab, askC ab v r]
    (fun z ρ' L' => z = .bool (ckPOk r.lsn x) ∧ ρ' = ρ ∧ L' = [ptrC pb ab, askC ab v r]) := by
  refine spec_enter Tryz.func189 rfl rfl rfl fun u R => ?_
  simp only [argsE, List.cons_append, List.nil_append]
  repeat' (first | (refine i_op ?_; first | (refine i_qq ?_; refine qQ ?_) | refine qEf ?_) | refine tl_nil ?_ | (refine i_tc ?_; refine qTc ?_) | (refine i_te ?_; refine qTe ?_) | intro _)
  refine tc_any (Stays _ _ _) stays_refl ?_
  all_goals refine rFa 0 ?_
  all_goals refine rLd 1 ?_
  all_goals (refine rStep (i := 2) ?_; ((try refine qWant ?_); (first | (refine tl_is (.func 190) ?_; refine qC rfl rfl (rpage_spec _ _) ?_; rintro v ρ' L' hle ⟨rfl, rfl, rfl⟩ <;> (try simp only [kM, kN, kO])) | (refine qEf ?_; try intro _)) <;> ((try simp only [kM, kN, kO]); refine tl_nil ?_; refine rNext ?_)))
  all_goals refine rFull ?_
  all_goals refine rMv 3 ?_
  all_goals (first | refine wSkip 4 ?_ | refine wSkipU 4 ?_ | refine wFa 4 ?_ | (refine tr_guard (t := 7) rfl (fun hb => ?_) (fun hb => ?_) <;> (try simp only [kk] at hb) <;> first | refine wSkip 4 ?_ | refine wSkipU 4 ?_ | refine wFa 4 ?_))
  all_goals (first | refine wSkip 5 ?_ | refine wSkipU 5 ?_ | refine wLd 5 ?_ | (refine tr_guard (t := 7) rfl (fun hb => ?_) (fun hb => ?_) <;> (try simp only [kk] at hb) <;> first | refine wSkip 5 ?_ | refine wSkipU 5 ?_ | refine wLd 5 ?_))
  all_goals (first | refine wSkip 6 ?_ | refine wSkipU 6 ?_ | refine wCm 6 ?_ | (refine tr_guard (t := 7) rfl (fun hb => ?_) (fun hb => ?_) <;> (try simp only [kk] at hb) <;> first | refine wSkip 6 ?_ | refine wSkipU 6 ?_ | refine wCm 6 ?_))
  all_goals refine rPk 7 ?_
  all_goals refine rMv 8 ?_
  all_goals (first | refine wSkip 9 ?_ | refine wSkipU 9 ?_ | refine wFa 9 ?_ | (refine tr_guard (t := 12) rfl (fun hb => ?_) (fun hb => ?_) <;> (try simp only [kk] at hb) <;> first | refine wSkip 9 ?_ | refine wSkipU 9 ?_ | refine wFa 9 ?_))
  all_goals (first | refine wSkip 10 ?_ | refine wSkipU 10 ?_ | refine wLd 10 ?_ | (refine tr_guard (t := 12) rfl (fun hb => ?_) (fun hb => ?_) <;> (try simp only [kk] at hb) <;> first | refine wSkip 10 ?_ | refine wSkipU 10 ?_ | refine wLd 10 ?_))
  all_goals (first | refine wSkip 11 ?_ | refine wSkipU 11 ?_ | refine wLd 11 ?_ | (refine tr_guard (t := 12) rfl (fun hb => ?_) (fun hb => ?_) <;> (try simp only [kk] at hb) <;> first | refine wSkip 11 ?_ | refine wSkipU 11 ?_ | refine wLd 11 ?_))
  all_goals (first | refine wSkip 12 ?_ | refine wSkipU 12 ?_ | refine wNc 12 ?_ | (refine tr_guard (t := 12) rfl (fun hb => ?_) (fun hb => ?_) <;> (try simp only [kk] at hb) <;> first | refine wSkip 12 ?_ | refine wSkipU 12 ?_ | refine wNc 12 ?_))
  all_goals (first | refine wSkip 13 ?_ | refine wSkipU 13 ?_ | refine wFa 13 ?_ | (refine tr_guard (t := 12) rfl (fun hb => ?_) (fun hb => ?_) <;> (try simp only [kk] at hb) <;> first | refine wSkip 13 ?_ | refine wSkipU 13 ?_ | refine wFa 13 ?_))
  all_goals (first | refine wSkip 14 ?_ | refine wSkipU 14 ?_ | refine wFa 14 ?_ | (refine tr_guard (t := 12) rfl (fun hb => ?_) (fun hb => ?_) <;> (try simp only [kk] at hb) <;> first | refine wSkip 14 ?_ | refine wSkipU 14 ?_ | refine wFa 14 ?_))
  all_goals (first | refine wSkip 15 ?_ | refine wSkipU 15 ?_ | refine wLd 15 ?_ | (refine tr_guard (t := 12) rfl (fun hb => ?_) (fun hb => ?_) <;> (try simp only [kk] at hb) <;> first | refine wSkip 15 ?_ | refine wSkipU 15 ?_ | refine wLd 15 ?_))
  all_goals (first | refine wSkip 16 ?_ | refine wSkipU 16 ?_ | refine wCm 16 ?_ | (refine tr_guard (t := 12) rfl (fun hb => ?_) (fun hb => ?_) <;> (try simp only [kk] at hb) <;> first | refine wSkip 16 ?_ | refine wSkipU 16 ?_ | refine wCm 16 ?_))
  all_goals refine rPk 17 ?_
  all_goals refine rAs 18 ?_
  all_goals refine rDone ?_
  all_goals (repeat' (first | (refine i_op ?_; first | (refine i_qq ?_; refine qQ ?_) | refine qEf ?_) | refine tl_nil ?_ | (refine i_tc ?_; refine qTc ?_) | (refine i_te ?_; refine qTe ?_) | intro _))
  all_goals (refine qF (L' := [ptrC pb ab, askC ab v r]) ?_; exact ⟨bool_eq (by simp [ckPOk, *]; (try omega)), rfl, rfl⟩)

theorem risesIm_spec (ρ : Hp) (a : Option Addr) (n c : Nat) (l : List Im) (h : AIn ρ 7 imV a n l) (hn : n ≤ 1000000) (bx : Nat) (before : Bool) (him : ∀ x ∈ l, Im.In ρ x) :
    Spec Tryz.prog 248 [.slice a n c, .func (.func 249) ⟨[]⟩ ⟨[]⟩, .func (.func 250) ⟨[]⟩ ⟨[.pointer (some ⟨bx, 0, none⟩)]⟩] ρ (beforeC bx before) (fun z ρ' L' => z = .bool (upB (imOk before) Im.page l l.length) ∧ ρ' = ρ ∧ L' = (beforeC bx before)) := by
  have hl := h.len
  generalize hR : (imOk before) = rt
  unfold upB
  generalize hm : l.length = mo
  have hrt : ∀ x, rt x = (imOk before) x := fun x => by rw [hR]
  refine spec_enter Tryz.func248 rfl rfl rfl fun u R => ?_
  simp only [argsE, List.cons_append, List.nil_append]
  repeat' (first | (refine i_op ?_; first | (refine i_qq ?_; refine qQ ?_) | refine qEf ?_) | refine tl_nil ?_ | (refine i_tc ?_; refine qTc ?_) | (refine i_te ?_; refine qTe ?_) | intro _)
  refine tc_loop_g [(0, _), (1, _), (2, _), (9, _), (10, _)] (fun (ζ : (Nat)) => [(11, .int .i64 ζ), (6, .bool false)]) (fun (ζ : (Nat)) => ρ) (fun (ζ : (Nat)) => (beforeC bx before)) (fun (ζ : (Nat)) => ζ ≤ n ∧ risesB mo (fun _ x => rt x) (fun y x => decide (Im.page y < Im.page x)) l ζ = true) (fun (ζ : (Nat)) => n - ζ) (0) (⟨Nat.zero_le _, by rw [risesB]; simp [hm]⟩) ev_le ev_le rfl tk ?_
  rintro k hI
  try simp only [List.cons_append, List.nil_append, List.append_assoc, List.append_eq] at hI ⊢
  try dsimp only at hI ⊢
  obtain ⟨hk, hok⟩ := hI
  by_cases hlt : k < n
  · obtain ⟨b, off, C, T, fr, e1, hb0, hfit, hc⟩ := h.get (show k < l.length by omega)
    have hs := risesB_succ (most := mo) (right := fun _ x => rt x) (lt := fun y x => decide (Im.page y < Im.page x)) (show k < l.length by omega)
    have hfin0 := fun (e : risesB mo (fun _ x => rt x) (fun y x => decide (Im.page y < Im.page x)) l (k + 1) = false) => risesB_false' e (show k + 1 ≤ mo by omega)
    rw [hok, Bool.true_and] at hs
    have him1 := him _ (List.getElem_mem (show k < l.length by omega))
    have hw := hrt l[k]
    have hfin : (rt l[k] && (decide (k = 0) || decide (Im.page (l[k - 1]'(by omega)) < Im.page l[k]))) = false → risesB mo (fun _ x => rt x) (fun y x => decide (Im.page y < Im.page x)) l mo = false := fun e => hfin0 (by rw [hs]; exact e)
    rw [e1]
    by_cases hk0 : k = 0
    · rw [decide_eq_true hk0, Bool.true_or, Bool.and_true] at hs hfin
      generalize l[k] = x at *
      generalize hQQ : risesB mo (fun _ x => rt x) (fun y x => decide (Im.page y < Im.page x)) l mo = q at *
      clear hfin0 hrt hR
      repeat' (first | (refine i_op ?_; first | (refine i_qq ?_; refine qQ ?_) | refine qEf ?_) | refine tl_nil ?_ | (refine i_tc ?_; refine qTc ?_) | (refine i_te ?_; refine qTe ?_) | intro _)
      refine tc_any (Stays _ _ _) stays_refl ?_
      all_goals refine rMv 0 ?_
      all_goals refine rLd 1 ?_
      all_goals (refine rStep (i := 2) ?_; ((try refine qWant ?_); (first | (refine tl_is (.tmp 16) ?_; refine qC rfl rfl (images2_spec _ bx before _ him1) ?_; rintro v ρ' L' hle ⟨rfl, rfl, rfl⟩ <;> (try simp only [kM, kN, kO])) | (refine tl_is (.tmp 24) ?_; refine qC rfl rfl (images1_spec _ _) ?_; rintro v ρ' L' hle ⟨rfl, rfl, rfl⟩ <;> (try simp only [kM, kN, kO])) | (refine tl_is (.tmp 31) ?_; refine qC rfl rfl (images1_spec _ _) ?_; rintro v ρ' L' hle ⟨rfl, rfl, rfl⟩ <;> (try simp only [kM, kN, kO])) | (refine qEf ?_; try intro _)) <;> ((try simp only [kM, kN, kO]); refine tl_nil ?_; refine rNext ?_)))
      all_goals refine rUn 3 ?_
      all_goals refine rMv 4 ?_
      all_goals (first | refine wSkip 5 ?_ | refine wSkipU 5 ?_ | refine wMv 5 ?_ | (refine tr_guard (t := 20) rfl (fun hb => ?_) (fun hb => ?_) <;> (try simp only [kk] at hb) <;> first | refine wSkip 5 ?_ | refine wSkipU 5 ?_ | refine wMv 5 ?_))
      all_goals (first | refine wSkip 6 ?_ | refine wSkipU 6 ?_ | refine wCm 6 ?_ | (refine tr_guard (t := 20) rfl (fun hb => ?_) (fun hb => ?_) <;> (try simp only [kk] at hb) <;> first | refine wSkip 6 ?_ | refine wSkipU 6 ?_ | refine wCm 6 ?_))
      all_goals (first | refine wSkip 7 ?_ | refine wSkipU 7 ?_ | refine wMv 7 ?_ | (refine tr_guard (t := 20) rfl (fun hb => ?_) (fun hb => ?_) <;> (try simp only [kk] at hb) <;> first | refine wSkip 7 ?_ | refine wSkipU 7 ?_ | refine wMv 7 ?_))
      all_goals (first | refine wSkip 8 ?_ | refine wSkipU 8 ?_ | refine wMv 8 ?_ | (refine tr_guard (t := 23) rfl (fun hb => ?_) (fun hb => ?_) <;> (try simp only [kk] at hb) <;> first | refine wSkip 8 ?_ | refine wSkipU 8 ?_ | refine wMv 8 ?_))
      all_goals (first | refine wSkip 9 ?_ | refine wSkipU 9 ?_ | refine wMv 9 ?_ | (refine tr_guard (t := 23) rfl (fun hb => ?_) (fun hb => ?_) <;> (try simp only [kk] at hb) <;> first | refine wSkip 9 ?_ | refine wSkipU 9 ?_ | refine wMv 9 ?_))
      all_goals (first | refine wSkip 10 ?_ | refine wSkipU 10 ?_ | refine wMv 10 ?_ | (refine tr_guard (t := 23) rfl (fun hb => ?_) (fun hb => ?_) <;> (try simp only [kk] at hb) <;> first | refine wSkip 10 ?_ | refine wSkipU 10 ?_ | refine wMv 10 ?_))
      all_goals (first | refine wSkip 11 ?_ | refine wSkipU 11 ?_ | refine wSb 11 ?_ | (refine tr_guard (t := 23) rfl (fun hb => ?_) (fun hb => ?_) <;> (try simp only [kk] at hb) <;> first | refine wSkip 11 ?_ | refine wSkipU 11 ?_ | refine wSb 11 ?_))
      all_goals (first | refine wSkip 12 ?_ | refine wSkipU 12 ?_ | refine wIa 12 ?_ | (refine tr_guard (t := 23) rfl (fun hb => ?_) (fun hb => ?_) <;> (try simp only [kk] at hb) <;> first | refine wSkip 12 ?_ | refine wSkipU 12 ?_ | refine wIa 12 ?_))
      all_goals (first | refine wSkip 13 ?_ | refine wSkipU 13 ?_ | refine wLd 13 ?_ | (refine tr_guard (t := 23) rfl (fun hb => ?_) (fun hb => ?_) <;> (try simp only [kk] at hb) <;> first | refine wSkip 13 ?_ | refine wSkipU 13 ?_ | refine wLd 13 ?_))
      all_goals (first | refine wSkip 15 ?_ | refine wSkipU 15 ?_ | refine wMv 15 ?_ | (refine tr_guard (t := 23) rfl (fun hb => ?_) (fun hb => ?_) <;> (try simp only [kk] at hb) <;> first | refine wSkip 15 ?_ | refine wSkipU 15 ?_ | refine wMv 15 ?_))
      all_goals (first | refine wSkip 16 ?_ | refine wSkipU 16 ?_ | refine wLd 16 ?_ | (refine tr_guard (t := 23) rfl (fun hb => ?_) (fun hb => ?_) <;> (try simp only [kk] at hb) <;> first | refine wSkip 16 ?_ | refine wSkipU 16 ?_ | refine wLd 16 ?_))
      all_goals (first | refine wSkip 14 ?_ | refine wSkipU 14 ?_ | (refine rStep (i := 14) ?_; ((try refine qWant ?_); (first | (refine tl_is (.tmp 16) ?_; refine qC rfl rfl (images2_spec _ bx before _ him1) ?_; rintro v ρ' L' hle ⟨rfl, rfl, rfl⟩ <;> (try simp only [kM, kN, kO])) | (refine tl_is (.tmp 24) ?_; refine qC rfl rfl (images1_spec _ _) ?_; rintro v ρ' L' hle ⟨rfl, rfl, rfl⟩ <;> (try simp only [kM, kN, kO])) | (refine tl_is (.tmp 31) ?_; refine qC rfl rfl (images1_spec _ _) ?_; rintro v ρ' L' hle ⟨rfl, rfl, rfl⟩ <;> (try simp only [kM, kN, kO])) | (refine qEf ?_; try intro _)) <;> ((try simp only [kM, kN, kO]); refine tl_nil ?_; refine rNext ?_))))
      all_goals (first | refine wSkip 17 ?_ | refine wSkipU 17 ?_ | (refine rStep (i := 17) ?_; ((try refine qWant ?_); (first | (refine tl_is (.tmp 16) ?_; refine qC rfl rfl (images2_spec _ bx before _ him1) ?_; rintro v ρ' L' hle ⟨rfl, rfl, rfl⟩ <;> (try simp only [kM, kN, kO])) | (refine tl_is (.tmp 24) ?_; refine qC rfl rfl (images1_spec _ _) ?_; rintro v ρ' L' hle ⟨rfl, rfl, rfl⟩ <;> (try simp only [kM, kN, kO])) | (refine tl_is (.tmp 31) ?_; refine qC rfl rfl (images1_spec _ _) ?_; rintro v ρ' L' hle ⟨rfl, rfl, rfl⟩ <;> (try simp only [kM, kN, kO])) | (refine qEf ?_; try intro _)) <;> ((try simp only [kM, kN, kO]); refine tl_nil ?_; refine rNext ?_))))
      all_goals refine rFull ?_
      all_goals (first | refine wSkip 18 ?_ | refine wSkipU 18 ?_ | refine wCm 18 ?_ | (refine tr_guard (t := 23) rfl (fun hb => ?_) (fun hb => ?_) <;> (try simp only [kk] at hb) <;> first | refine wSkip 18 ?_ | refine wSkipU 18 ?_ | refine wCm 18 ?_))
      all_goals (first | refine wSkip 19 ?_ | refine wSkipU 19 ?_ | refine wPk 19 ?_ | (refine tr_guard (t := 20) rfl (fun hb => ?_) (fun hb => ?_) <;> (try simp only [kk] at hb) <;> first | refine wSkip 19 ?_ | refine wSkipU 19 ?_ | refine wPk 19 ?_))
      all_goals refine rPk 20 ?_
      all_goals refine rDone ?_
      all_goals (repeat' (first | (refine i_op ?_; first | (refine i_qq ?_; refine qQ ?_) | refine qEf ?_) | refine tl_nil ?_ | (refine i_tc ?_; refine qTc ?_) | (refine i_te ?_; refine qTe ?_) | (refine i_gd ?_; refine tl_guard rfl rfl (fun hb => ?_) (fun hb => ?_) <;> (try simp only [decide_eq_true_eq, decide_eq_false_iff_not, Bool.not_eq_true, Bool.not_eq_false, beq_iff_eq, bne_iff_ne, ne_eq, decide_eq_decide, Bool.not_eq_eq_eq_not, Bool.not_true, Bool.not_false, beq_eq_false_iff_ne, bne_eq_false_iff_eq, Bool.and_eq_true, Bool.or_eq_true, Bool.and_eq_false_imp, Bool.or_eq_false_iff] at hb)) | (refine i_cond ?_; refine tc_cond rfl (fun hb => ?_) (fun hb => ?_) <;> (try simp only [decide_eq_true_eq, decide_eq_false_iff_not, Bool.not_eq_true, Bool.not_eq_false, beq_iff_eq, bne_iff_ne, ne_eq, decide_eq_decide, Bool.not_eq_eq_eq_not, Bool.not_true, Bool.not_false, beq_eq_false_iff_ne, bne_eq_false_iff_eq, Bool.and_eq_true, Bool.or_eq_true, Bool.and_eq_false_imp, Bool.or_eq_false_iff] at hb)) | intro _))
      all_goals (try (rw [hfin (by rw [hw]; (first | (simp [*]; done) | (simp [*]; omega) | (simp_all; done) | (simp_all; omega)))]; refine qF (L' := (beforeC bx before)) ?_; exact ⟨rfl, rfl, rfl⟩))
      all_goals rw [← e1]
      all_goals refine te_round_g (k + 1) (⟨hlt, by rw [hs, hw]; (first | (simp [*]; done) | (simp [*]; omega) | (simp_all; done) | (simp_all; omega))⟩) ev_le ev_le rfl tk inferInstance (by first | omega | (dsimp only; omega))
    · obtain ⟨b2, off2, C2, T2, fr2, f1, hb2, hfit2, hc2⟩ := h.get (show k - 1 < l.length by omega)
      rw [e1] at f1
      cases f1
      rw [hb0] at hb2
      cases hb2
      have ek : ((k : Int) - 1).toNat = k - 1 := by omega
      rw [← ek] at hfit2
      have hc3 : List.take 7 (List.drop (off + ((k : Int) - 1).toNat * 7) C) = imV (l[k - 1]'(by omega)) := by rw [ek]; exact hc2
      clear hc2
      rw [decide_eq_false hk0, Bool.false_or] at hs hfin
      generalize l[k] = x at *
      generalize l[k - 1]'(by omega) = y at *
      generalize hQQ : risesB mo (fun _ x => rt x) (fun y x => decide (Im.page y < Im.page x)) l mo = q at *
      clear hfin0 hrt hR
      repeat' (first | (refine i_op ?_; first | (refine i_qq ?_; refine qQ ?_) | refine qEf ?_) | refine tl_nil ?_ | (refine i_tc ?_; refine qTc ?_) | (refine i_te ?_; refine qTe ?_) | intro _)
      refine tc_any (Stays _ _ _) stays_refl ?_
      all_goals refine rMv 0 ?_
      all_goals refine rLd 1 ?_
      all_goals (refine rStep (i := 2) ?_; ((try refine qWant ?_); (first | (refine tl_is (.tmp 16) ?_; refine qC rfl rfl (images2_spec _ bx before _ him1) ?_; rintro v ρ' L' hle ⟨rfl, rfl, rfl⟩ <;> (try simp only [kM, kN, kO])) | (refine tl_is (.tmp 24) ?_; refine qC rfl rfl (images1_spec _ _) ?_; rintro v ρ' L' hle ⟨rfl, rfl, rfl⟩ <;> (try simp only [kM, kN, kO])) | (refine tl_is (.tmp 31) ?_; refine qC rfl rfl (images1_spec _ _) ?_; rintro v ρ' L' hle ⟨rfl, rfl, rfl⟩ <;> (try simp only [kM, kN, kO])) | (refine qEf ?_; try intro _)) <;> ((try simp only [kM, kN, kO]); refine tl_nil ?_; refine rNext ?_)))
      all_goals refine rUn 3 ?_
      all_goals refine rMv 4 ?_
      all_goals (first | refine wSkip 5 ?_ | refine wSkipU 5 ?_ | refine wMv 5 ?_ | (refine tr_guard (t := 20) rfl (fun hb => ?_) (fun hb => ?_) <;> (try simp only [kk] at hb) <;> first | refine wSkip 5 ?_ | refine wSkipU 5 ?_ | refine wMv 5 ?_))
      all_goals (first | refine wSkip 6 ?_ | refine wSkipU 6 ?_ | refine wCm 6 ?_ | (refine tr_guard (t := 20) rfl (fun hb => ?_) (fun hb => ?_) <;> (try simp only [kk] at hb) <;> first | refine wSkip 6 ?_ | refine wSkipU 6 ?_ | refine wCm 6 ?_))
      all_goals (first | refine wSkip 7 ?_ | refine wSkipU 7 ?_ | refine wMv 7 ?_ | (refine tr_guard (t := 20) rfl (fun hb => ?_) (fun hb => ?_) <;> (try simp only [kk] at hb) <;> first | refine wSkip 7 ?_ | refine wSkipU 7 ?_ | refine wMv 7 ?_))
      all_goals (first | refine wSkip 8 ?_ | refine wSkipU 8 ?_ | refine wMv 8 ?_ | (refine tr_guard (t := 23) rfl (fun hb => ?_) (fun hb => ?_) <;> (try simp only [kk] at hb) <;> first | refine wSkip 8 ?_ | refine wSkipU 8 ?_ | refine wMv 8 ?_))
      all_goals (first | refine wSkip 9 ?_ | refine wSkipU 9 ?_ | refine wMv 9 ?_ | (refine tr_guard (t := 23) rfl (fun hb => ?_) (fun hb => ?_) <;> (try simp only [kk] at hb) <;> first | refine wSkip 9 ?_ | refine wSkipU 9 ?_ | refine wMv 9 ?_))
      all_goals (first | refine wSkip 10 ?_ | refine wSkipU 10 ?_ | refine wMv 10 ?_ | (refine tr_guard (t := 23) rfl (fun hb => ?_) (fun hb => ?_) <;> (try simp only [kk] at hb) <;> first | refine wSkip 10 ?_ | refine wSkipU 10 ?_ | refine wMv 10 ?_))
      all_goals (first | refine wSkip 11 ?_ | refine wSkipU 11 ?_ | refine wSb 11 ?_ | (refine tr_guard (t := 23) rfl (fun hb => ?_) (fun hb => ?_) <;> (try simp only [kk] at hb) <;> first | refine wSkip 11 ?_ | refine wSkipU 11 ?_ | refine wSb 11 ?_))
      all_goals (first | refine wSkip 12 ?_ | refine wSkipU 12 ?_ | refine wIa 12 ?_ | (refine tr_guard (t := 23) rfl (fun hb => ?_) (fun hb => ?_) <;> (try simp only [kk] at hb) <;> first | refine wSkip 12 ?_ | refine wSkipU 12 ?_ | refine wIa 12 ?_))
      all_goals (first | refine wSkip 13 ?_ | refine wSkipU 13 ?_ | refine wLd 13 ?_ | (refine tr_guard (t := 23) rfl (fun hb => ?_) (fun hb => ?_) <;> (try simp only [kk] at hb) <;> first | refine wSkip 13 ?_ | refine wSkipU 13 ?_ | refine wLd 13 ?_))
      all_goals (first | refine wSkip 15 ?_ | refine wSkipU 15 ?_ | refine wMv 15 ?_ | (refine tr_guard (t := 23) rfl (fun hb => ?_) (fun hb => ?_) <;> (try simp only [kk] at hb) <;> first | refine wSkip 15 ?_ | refine wSkipU 15 ?_ | refine wMv 15 ?_))
      all_goals (first | refine wSkip 16 ?_ | refine wSkipU 16 ?_ | refine wLd 16 ?_ | (refine tr_guard (t := 23) rfl (fun hb => ?_) (fun hb => ?_) <;> (try simp only [kk] at hb) <;> first | refine wSkip 16 ?_ | refine wSkipU 16 ?_ | refine wLd 16 ?_))
      all_goals (first | refine wSkip 14 ?_ | refine wSkipU 14 ?_ | (refine rStep (i := 14) ?_; ((try refine qWant ?_); (first | (refine tl_is (.tmp 16) ?_; refine qC rfl rfl (images2_spec _ bx before _ him1) ?_; rintro v ρ' L' hle ⟨rfl, rfl, rfl⟩ <;> (try simp only [kM, kN, kO])) | (refine tl_is (.tmp 24) ?_; refine qC rfl rfl (images1_spec _ _) ?_; rintro v ρ' L' hle ⟨rfl, rfl, rfl⟩ <;> (try simp only [kM, kN, kO])) | (refine tl_is (.tmp 31) ?_; refine qC rfl rfl (images1_spec _ _) ?_; rintro v ρ' L' hle ⟨rfl, rfl, rfl⟩ <;> (try simp only [kM, kN, kO])) | (refine qEf ?_; try intro _)) <;> ((try simp only [kM, kN, kO]); refine tl_nil ?_; refine rNext ?_))))
      all_goals (first | refine wSkip 17 ?_ | refine wSkipU 17 ?_ | (refine rStep (i := 17) ?_; ((try refine qWant ?_); (first | (refine tl_is (.tmp 16) ?_; refine qC rfl rfl (images2_spec _ bx before _ him1) ?_; rintro v ρ' L' hle ⟨rfl, rfl, rfl⟩ <;> (try simp only [kM, kN, kO])) | (refine tl_is (.tmp 24) ?_; refine qC rfl rfl (images1_spec _ _) ?_; rintro v ρ' L' hle ⟨rfl, rfl, rfl⟩ <;> (try simp only [kM, kN, kO])) | (refine tl_is (.tmp 31) ?_; refine qC rfl rfl (images1_spec _ _) ?_; rintro v ρ' L' hle ⟨rfl, rfl, rfl⟩ <;> (try simp only [kM, kN, kO])) | (refine qEf ?_; try intro _)) <;> ((try simp only [kM, kN, kO]); refine tl_nil ?_; refine rNext ?_))))
      all_goals refine rFull ?_
      all_goals (first | refine wSkip 18 ?_ | refine wSkipU 18 ?_ | refine wCm 18 ?_ | (refine tr_guard (t := 23) rfl (fun hb => ?_) (fun hb => ?_) <;> (try simp only [kk] at hb) <;> first | refine wSkip 18 ?_ | refine wSkipU 18 ?_ | refine wCm 18 ?_))
      all_goals (first | refine wSkip 19 ?_ | refine wSkipU 19 ?_ | refine wPk 19 ?_ | (refine tr_guard (t := 20) rfl (fun hb => ?_) (fun hb => ?_) <;> (try simp only [kk] at hb) <;> first | refine wSkip 19 ?_ | refine wSkipU 19 ?_ | refine wPk 19 ?_))
      all_goals refine rPk 20 ?_
      all_goals refine rDone ?_
      all_goals (repeat' (first | (refine i_op ?_; first | (refine i_qq ?_; refine qQ ?_) | refine qEf ?_) | refine tl_nil ?_ | (refine i_tc ?_; refine qTc ?_) | (refine i_te ?_; refine qTe ?_) | (refine i_gd ?_; refine tl_guard rfl rfl (fun hb => ?_) (fun hb => ?_) <;> (try simp only [decide_eq_true_eq, decide_eq_false_iff_not, Bool.not_eq_true, Bool.not_eq_false, beq_iff_eq, bne_iff_ne, ne_eq, decide_eq_decide, Bool.not_eq_eq_eq_not, Bool.not_true, Bool.not_false, beq_eq_false_iff_ne, bne_eq_false_iff_eq, Bool.and_eq_true, Bool.or_eq_true, Bool.and_eq_false_imp, Bool.or_eq_false_iff] at hb)) | (refine i_cond ?_; refine tc_cond rfl (fun hb => ?_) (fun hb => ?_) <;> (try simp only [decide_eq_true_eq, decide_eq_false_iff_not, Bool.not_eq_true, Bool.not_eq_false, beq_iff_eq, bne_iff_ne, ne_eq, decide_eq_decide, Bool.not_eq_eq_eq_not, Bool.not_true, Bool.not_false, beq_eq_false_iff_ne, bne_eq_false_iff_eq, Bool.and_eq_true, Bool.or_eq_true, Bool.and_eq_false_imp, Bool.or_eq_false_iff] at hb)) | intro _))
      all_goals (try (rw [hfin (by rw [hw]; (first | (simp [*]; done) | (simp [*]; omega) | (simp_all; done) | (simp_all; omega)))]; refine qF (L' := (beforeC bx before)) ?_; exact ⟨rfl, rfl, rfl⟩))
      all_goals rw [← e1]
      all_goals refine te_round_g (k + 1) (⟨hlt, by rw [hs, hw]; (first | (simp [*]; done) | (simp [*]; omega) | (simp_all; done) | (simp_all; omega))⟩) ev_le ev_le rfl tk inferInstance (by first | omega | (dsimp only; omega))
  · have hk2 : k = n := by omega
    subst hk2
    have hkm : k = mo := by omega
    rw [hkm] at hok
    rw [hok]
    repeat' (first | (refine i_op ?_; first | (refine i_qq ?_; refine qQ ?_) | refine qEf ?_) | refine tl_nil ?_ | (refine i_tc ?_; refine qTc ?_) | (refine i_te ?_; refine qTe ?_) | intro _)
    exact qE (L' := (beforeC bx before)) ⟨rfl, rfl, rfl⟩
theorem risesCkT_spec (ρ : Hp) (a : Option Addr) (n c : Nat) (l : List CkT) (h : AIn ρ 5 ckTV a n l) (hn : n ≤ 1000000) (nb pb ab : Nat) (next : Int) (v : RV) (r : Rc)  :
    Spec Tryz.prog 184 [.slice a n c, .func (.func 185) ⟨[]⟩ ⟨[]⟩, .func (.func 186) ⟨[]⟩ ⟨[.pointer (some ⟨nb, 0, none⟩), .pointer (some ⟨pb, 0, none⟩)]⟩] ρ [nextC nb next, ptrC pb ab, askC ab v r] (fun z ρ' L' => z = .bool (upB (ckTOk r.lsn next) CkT.txn l l.length) ∧ ρ' = ρ ∧ L' = [nextC nb next, ptrC pb ab, askC ab v r]) := by
  have hl := h.len
  generalize hR : (ckTOk r.lsn next) = rt
  unfold upB
  generalize hm : l.length = mo
  have hrt : ∀ x, rt x = (ckTOk r.lsn next) x := fun x => by rw [hR]
  refine spec_enter Tryz.func184 rfl rfl rfl fun u R => ?_
  simp only [argsE, List.cons_append, List.nil_append]
  repeat' (first | (refine i_op ?_; first | (refine i_qq ?_; refine qQ ?_) | refine qEf ?_) | refine tl_nil ?_ | (refine i_tc ?_; refine qTc ?_) | (refine i_te ?_; refine qTe ?_) | intro _)
  refine tc_loop_g [(0, _), (1, _), (2, _), (9, _), (10, _)] (fun (ζ : (Nat)) => [(11, .int .i64 ζ), (6, .bool false)]) (fun (ζ : (Nat)) => ρ) (fun (ζ : (Nat)) => [nextC nb next, ptrC pb ab, askC ab v r]) (fun (ζ : (Nat)) => ζ ≤ n ∧ risesB mo (fun _ x => rt x) (fun y x => decide (CkT.txn y < CkT.txn x)) l ζ = true) (fun (ζ : (Nat)) => n - ζ) (0) (⟨Nat.zero_le _, by rw [risesB]; simp [hm]⟩) ev_le ev_le rfl tk ?_
  rintro k hI
  try simp only [List.cons_append, List.nil_append, List.append_assoc, List.append_eq] at hI ⊢
  try dsimp only at hI ⊢
  obtain ⟨hk, hok⟩ := hI
  by_cases hlt : k < n
  · obtain ⟨b, off, C, T, fr, e1, hb0, hfit, hc⟩ := h.get (show k < l.length by omega)
    have hs := risesB_succ (most := mo) (right := fun _ x => rt x) (lt := fun y x => decide (CkT.txn y < CkT.txn x)) (show k < l.length by omega)
    have hfin0 := fun (e : risesB mo (fun _ x => rt x) (fun y x => decide (CkT.txn y < CkT.txn x)) l (k + 1) = false) => risesB_false' e (show k + 1 ≤ mo by omega)
    rw [hok, Bool.true_and] at hs
    skip
    have hw := hrt l[k]
    have hfin : (rt l[k] && (decide (k = 0) || decide (CkT.txn (l[k - 1]'(by omega)) < CkT.txn l[k]))) = false → risesB mo (fun _ x => rt x) (fun y x => decide (CkT.txn y < CkT.txn x)) l mo = false := fun e => hfin0 (by rw [hs]; exact e)
    rw [e1]
    by_cases hk0 : k = 0
    · rw [decide_eq_true hk0, Bool.true_or, Bool.and_true] at hs hfin
      generalize l[k] = x at *
      generalize hQQ : risesB mo (fun _ x => rt x) (fun y x => decide (CkT.txn y < CkT.txn x)) l mo = q at *
      clear hfin0 hrt hR
      repeat' (first | (refine i_op ?_; first | (refine i_qq ?_; refine qQ ?_) | refine qEf ?_) | refine tl_nil ?_ | (refine i_tc ?_; refine qTc ?_) | (refine i_te ?_; refine qTe ?_) | intro _)
      refine tc_any (Stays _ _ _) stays_refl ?_
      all_goals refine rMv 0 ?_
      all_goals refine rLd 1 ?_
      all_goals (refine rStep (i := 2) ?_; ((try refine qWant ?_); (first | (refine tl_is (.tmp 16) ?_; refine qC rfl rfl (ckpt2_spec _ nb pb ab next v r _) ?_; rintro v ρ' L' hle ⟨rfl, rfl, rfl⟩ <;> (try simp only [kM, kN, kO])) | (refine tl_is (.tmp 24) ?_; refine qC rfl rfl (ckpt1_spec _ _) ?_; rintro v ρ' L' hle ⟨rfl, rfl, rfl⟩ <;> (try simp only [kM, kN, kO])) | (refine tl_is (.tmp 31) ?_; refine qC rfl rfl (ckpt1_spec _ _) ?_; rintro v ρ' L' hle ⟨rfl, rfl, rfl⟩ <;> (try simp only [kM, kN, kO])) | (refine qEf ?_; try intro _)) <;> ((try simp only [kM, kN, kO]); refine tl_nil ?_; refine rNext ?_)))
      all_goals refine rUn 3 ?_
      all_goals refine rMv 4 ?_
      all_goals (first | refine wSkip 5 ?_ | refine wSkipU 5 ?_ | refine wMv 5 ?_ | (refine tr_guard (t := 20) rfl (fun hb => ?_) (fun hb => ?_) <;> (try simp only [kk] at hb) <;> first | refine wSkip 5 ?_ | refine wSkipU 5 ?_ | refine wMv 5 ?_))
      all_goals (first | refine wSkip 6 ?_ | refine wSkipU 6 ?_ | refine wCm 6 ?_ | (refine tr_guard (t := 20) rfl (fun hb => ?_) (fun hb => ?_) <;> (try simp only [kk] at hb) <;> first | refine wSkip 6 ?_ | refine wSkipU 6 ?_ | refine wCm 6 ?_))
      all_goals (first | refine wSkip 7 ?_ | refine wSkipU 7 ?_ | refine wMv 7 ?_ | (refine tr_guard (t := 20) rfl (fun hb => ?_) (fun hb => ?_) <;> (try simp only [kk] at hb) <;> first | refine wSkip 7 ?_ | refine wSkipU 7 ?_ | refine wMv 7 ?_))
      all_goals (first | refine wSkip 8 ?_ | refine wSkipU 8 ?_ | refine wMv 8 ?_ | (refine tr_guard (t := 23) rfl (fun hb => ?_) (fun hb => ?_) <;> (try simp only [kk] at hb) <;> first | refine wSkip 8 ?_ | refine wSkipU 8 ?_ | refine wMv 8 ?_))
      all_goals (first | refine wSkip 9 ?_ | refine wSkipU 9 ?_ | refine wMv 9 ?_ | (refine tr_guard (t := 23) rfl (fun hb => ?_) (fun hb => ?_) <;> (try simp only [kk] at hb) <;> first | refine wSkip 9 ?_ | refine wSkipU 9 ?_ | refine wMv 9 ?_))
      all_goals (first | refine wSkip 10 ?_ | refine wSkipU 10 ?_ | refine wMv 10 ?_ | (refine tr_guard (t := 23) rfl (fun hb => ?_) (fun hb => ?_) <;> (try simp only [kk] at hb) <;> first | refine wSkip 10 ?_ | refine wSkipU 10 ?_ | refine wMv 10 ?_))
      all_goals (first | refine wSkip 11 ?_ | refine wSkipU 11 ?_ | refine wSb 11 ?_ | (refine tr_guard (t := 23) rfl (fun hb => ?_) (fun hb => ?_) <;> (try simp only [kk] at hb) <;> first | refine wSkip 11 ?_ | refine wSkipU 11 ?_ | refine wSb 11 ?_))
      all_goals (first | refine wSkip 12 ?_ | refine wSkipU 12 ?_ | refine wIa 12 ?_ | (refine tr_guard (t := 23) rfl (fun hb => ?_) (fun hb => ?_) <;> (try simp only [kk] at hb) <;> first | refine wSkip 12 ?_ | refine wSkipU 12 ?_ | refine wIa 12 ?_))
      all_goals (first | refine wSkip 13 ?_ | refine wSkipU 13 ?_ | refine wLd 13 ?_ | (refine tr_guard (t := 23) rfl (fun hb => ?_) (fun hb => ?_) <;> (try simp only [kk] at hb) <;> first | refine wSkip 13 ?_ | refine wSkipU 13 ?_ | refine wLd 13 ?_))
      all_goals (first | refine wSkip 15 ?_ | refine wSkipU 15 ?_ | refine wMv 15 ?_ | (refine tr_guard (t := 23) rfl (fun hb => ?_) (fun hb => ?_) <;> (try simp only [kk] at hb) <;> first | refine wSkip 15 ?_ | refine wSkipU 15 ?_ | refine wMv 15 ?_))
      all_goals (first | refine wSkip 16 ?_ | refine wSkipU 16 ?_ | refine wLd 16 ?_ | (refine tr_guard (t := 23) rfl (fun hb => ?_) (fun hb => ?_) <;> (try simp only [kk] at hb) <;> first | refine wSkip 16 ?_ | refine wSkipU 16 ?_ | refine wLd 16 ?_))
      all_goals (first | refine wSkip 14 ?_ | refine wSkipU 14 ?_ | (refine rStep (i := 14) ?_; ((try refine qWant ?_); (first | (refine tl_is (.tmp 16) ?_; refine qC rfl rfl (ckpt2_spec _ nb pb ab next v r _) ?_; rintro v ρ' L' hle ⟨rfl, rfl, rfl⟩ <;> (try simp only [kM, kN, kO])) | (refine tl_is (.tmp 24) ?_; refine qC rfl rfl (ckpt1_spec _ _) ?_; rintro v ρ' L' hle ⟨rfl, rfl, rfl⟩ <;> (try simp only [kM, kN, kO])) | (refine tl_is (.tmp 31) ?_; refine qC rfl rfl (ckpt1_spec _ _) ?_; rintro v ρ' L' hle ⟨rfl, rfl, rfl⟩ <;> (try simp only [kM, kN, kO])) | (refine qEf ?_; try intro _)) <;> ((try simp only [kM, kN, kO]); refine tl_nil ?_; refine rNext ?_))))
      all_goals (first | refine wSkip 17 ?_ | refine wSkipU 17 ?_ | (refine rStep (i := 17) ?_; ((try refine qWant ?_); (first | (refine tl_is (.tmp 16) ?_; refine qC rfl rfl (ckpt2_spec _ nb pb ab next v r _) ?_; rintro v ρ' L' hle ⟨rfl, rfl, rfl⟩ <;> (try simp only [kM, kN, kO])) | (refine tl_is (.tmp 24) ?_; refine qC rfl rfl (ckpt1_spec _ _) ?_; rintro v ρ' L' hle ⟨rfl, rfl, rfl⟩ <;> (try simp only [kM, kN, kO])) | (refine tl_is (.tmp 31) ?_; refine qC rfl rfl (ckpt1_spec _ _) ?_; rintro v ρ' L' hle ⟨rfl, rfl, rfl⟩ <;> (try simp only [kM, kN, kO])) | (refine qEf ?_; try intro _)) <;> ((try simp only [kM, kN, kO]); refine tl_nil ?_; refine rNext ?_))))
      all_goals refine rFull ?_
      all_goals (first | refine wSkip 18 ?_ | refine wSkipU 18 ?_ | refine wCm 18 ?_ | (refine tr_guard (t := 23) rfl (fun hb => ?_) (fun hb => ?_) <;> (try simp only [kk] at hb) <;> first | refine wSkip 18 ?_ | refine wSkipU 18 ?_ | refine wCm 18 ?_))
      all_goals (first | refine wSkip 19 ?_ | refine wSkipU 19 ?_ | refine wPk 19 ?_ | (refine tr_guard (t := 20) rfl (fun hb => ?_) (fun hb => ?_) <;> (try simp only [kk] at hb) <;> first | refine wSkip 19 ?_ | refine wSkipU 19 ?_ | refine wPk 19 ?_))
      all_goals refine rPk 20 ?_
      all_goals refine rDone ?_
      all_goals (repeat' (first | (refine i_op ?_; first | (refine i_qq ?_; refine qQ ?_) | refine qEf ?_) | refine tl_nil ?_ | (refine i_tc ?_; refine qTc ?_) | (refine i_te ?_; refine qTe ?_) | (refine i_gd ?_; refine tl_guard rfl rfl (fun hb => ?_) (fun hb => ?_) <;> (try simp only [decide_eq_true_eq, decide_eq_false_iff_not, Bool.not_eq_true, Bool.not_eq_false, beq_iff_eq, bne_iff_ne, ne_eq, decide_eq_decide, Bool.not_eq_eq_eq_not, Bool.not_true, Bool.not_false, beq_eq_false_iff_ne, bne_eq_false_iff_eq, Bool.and_eq_true, Bool.or_eq_true, Bool.and_eq_false_imp, Bool.or_eq_false_iff] at hb)) | (refine i_cond ?_; refine tc_cond rfl (fun hb => ?_) (fun hb => ?_) <;> (try simp only [decide_eq_true_eq, decide_eq_false_iff_not, Bool.not_eq_true, Bool.not_eq_false, beq_iff_eq, bne_iff_ne, ne_eq, decide_eq_decide, Bool.not_eq_eq_eq_not, Bool.not_true, Bool.not_false, beq_eq_false_iff_ne, bne_eq_false_iff_eq, Bool.and_eq_true, Bool.or_eq_true, Bool.and_eq_false_imp, Bool.or_eq_false_iff] at hb)) | intro _))
      all_goals (try (rw [hfin (by rw [hw]; (first | (simp [*]; done) | (simp [*]; omega) | (simp_all; done) | (simp_all; omega)))]; refine qF (L' := [nextC nb next, ptrC pb ab, askC ab v r]) ?_; exact ⟨rfl, rfl, rfl⟩))
      all_goals rw [← e1]
      all_goals refine te_round_g (k + 1) (⟨hlt, by rw [hs, hw]; (first | (simp [*]; done) | (simp [*]; omega) | (simp_all; done) | (simp_all; omega))⟩) ev_le ev_le rfl tk inferInstance (by first | omega | (dsimp only; omega))
    · obtain ⟨b2, off2, C2, T2, fr2, f1, hb2, hfit2, hc2⟩ := h.get (show k - 1 < l.length by omega)
      rw [e1] at f1
      cases f1
      rw [hb0] at hb2
      cases hb2
      have ek : ((k : Int) - 1).toNat = k - 1 := by omega
      rw [← ek] at hfit2
      have hc3 : List.take 5 (List.drop (off + ((k : Int) - 1).toNat * 5) C) = ckTV (l[k - 1]'(by omega)) := by rw [ek]; exact hc2
      clear hc2
      rw [decide_eq_false hk0, Bool.false_or] at hs hfin
      generalize l[k] = x at *
      generalize l[k - 1]'(by omega) = y at *
      generalize hQQ : risesB mo (fun _ x => rt x) (fun y x => decide (CkT.txn y < CkT.txn x)) l mo = q at *
      clear hfin0 hrt hR
      repeat' (first | (refine i_op ?_; first | (refine i_qq ?_; refine qQ ?_) | refine qEf ?_) | refine tl_nil ?_ | (refine i_tc ?_; refine qTc ?_) | (refine i_te ?_; refine qTe ?_) | intro _)
      refine tc_any (Stays _ _ _) stays_refl ?_
      all_goals refine rMv 0 ?_
      all_goals refine rLd 1 ?_
      all_goals (refine rStep (i := 2) ?_; ((try refine qWant ?_); (first | (refine tl_is (.tmp 16) ?_; refine qC rfl rfl (ckpt2_spec _ nb pb ab next v r _) ?_; rintro v ρ' L' hle ⟨rfl, rfl, rfl⟩ <;> (try simp only [kM, kN, kO])) | (refine tl_is (.tmp 24) ?_; refine qC rfl rfl (ckpt1_spec _ _) ?_; rintro v ρ' L' hle ⟨rfl, rfl, rfl⟩ <;> (try simp only [kM, kN, kO])) | (refine tl_is (.tmp 31) ?_; refine qC rfl rfl (ckpt1_spec _ _) ?_; rintro v ρ' L' hle ⟨rfl, rfl, rfl⟩ <;> (try simp only [kM, kN, kO])) | (refine qEf ?_; try intro _)) <;> ((try simp only [kM, kN, kO]); refine tl_nil ?_; refine rNext ?_)))
      all_goals refine rUn 3 ?_
      all_goals refine rMv 4 ?_
      all_goals (first | refine wSkip 5 ?_ | refine wSkipU 5 ?_ | refine wMv 5 ?_ | (refine tr_guard (t := 20) rfl (fun hb => ?_) (fun hb => ?_) <;> (try simp only [kk] at hb) <;> first | refine wSkip 5 ?_ | refine wSkipU 5 ?_ | refine wMv 5 ?_))
      all_goals (first | refine wSkip 6 ?_ | refine wSkipU 6 ?_ | refine wCm 6 ?_ | (refine tr_guard (t := 20) rfl (fun hb => ?_) (fun hb => ?_) <;> (try simp only [kk] at hb) <;> first | refine wSkip 6 ?_ | refine wSkipU 6 ?_ | refine wCm 6 ?_))
      all_goals (first | refine wSkip 7 ?_ | refine wSkipU 7 ?_ | refine wMv 7 ?_ | (refine tr_guard (t := 20) rfl (fun hb => ?_) (fun hb => ?_) <;> (try simp only [kk] at hb) <;> first | refine wSkip 7 ?_ | refine wSkipU 7 ?_ | refine wMv 7 ?_))
      all_goals (first | refine wSkip 8 ?_ | refine wSkipU 8 ?_ | refine wMv 8 ?_ | (refine tr_guard (t := 23) rfl (fun hb => ?_) (fun hb => ?_) <;> (try simp only [kk] at hb) <;> first | refine wSkip 8 ?_ | refine wSkipU 8 ?_ | refine wMv 8 ?_))
      all_goals (first | refine wSkip 9 ?_ | refine wSkipU 9 ?_ | refine wMv 9 ?_ | (refine tr_guard (t := 23) rfl (fun hb => ?_) (fun hb => ?_) <;> (try simp only [kk] at hb) <;> first | refine wSkip 9 ?_ | refine wSkipU 9 ?_ | refine wMv 9 ?_))
      all_goals (first | refine wSkip 10 ?_ | refine wSkipU 10 ?_ | refine wMv 10 ?_ | (refine tr_guard (t := 23) rfl (fun hb => ?_) (fun hb => ?_) <;> (try simp only [kk] at hb) <;> first | refine wSkip 10 ?_ | refine wSkipU 10 ?_ | refine wMv 10 ?_))
      all_goals (first | refine wSkip 11 ?_ | refine wSkipU 11 ?_ | refine wSb 11 ?_ | (refine tr_guard (t := 23) rfl (fun hb => ?_) (fun hb => ?_) <;> (try simp only [kk] at hb) <;> first | refine wSkip 11 ?_ | refine wSkipU 11 ?_ | refine wSb 11 ?_))
      all_goals (first | refine wSkip 12 ?_ | refine wSkipU 12 ?_ | refine wIa 12 ?_ | (refine tr_guard (t := 23) rfl (fun hb => ?_) (fun hb => ?_) <;> (try simp only [kk] at hb) <;> first | refine wSkip 12 ?_ | refine wSkipU 12 ?_ | refine wIa 12 ?_))
      all_goals (first | refine wSkip 13 ?_ | refine wSkipU 13 ?_ | refine wLd 13 ?_ | (refine tr_guard (t := 23) rfl (fun hb => ?_) (fun hb => ?_) <;> (try simp only [kk] at hb) <;> first | refine wSkip 13 ?_ | refine wSkipU 13 ?_ | refine wLd 13 ?_))
      all_goals (first | refine wSkip 15 ?_ | refine wSkipU 15 ?_ | refine wMv 15 ?_ | (refine tr_guard (t := 23) rfl (fun hb => ?_) (fun hb => ?_) <;> (try simp only [kk] at hb) <;> first | refine wSkip 15 ?_ | refine wSkipU 15 ?_ | refine wMv 15 ?_))
      all_goals (first | refine wSkip 16 ?_ | refine wSkipU 16 ?_ | refine wLd 16 ?_ | (refine tr_guard (t := 23) rfl (fun hb => ?_) (fun hb => ?_) <;> (try simp only [kk] at hb) <;> first | refine wSkip 16 ?_ | refine wSkipU 16 ?_ | refine wLd 16 ?_))
      all_goals (first | refine wSkip 14 ?_ | refine wSkipU 14 ?_ | (refine rStep (i := 14) ?_; ((try refine qWant ?_); (first | (refine tl_is (.tmp 16) ?_; refine qC rfl rfl (ckpt2_spec _ nb pb ab next v r _) ?_; rintro v ρ' L' hle ⟨rfl, rfl, rfl⟩ <;> (try simp only [kM, kN, kO])) | (refine tl_is (.tmp 24) ?_; refine qC rfl rfl (ckpt1_spec _ _) ?_; rintro v ρ' L' hle ⟨rfl, rfl, rfl⟩ <;> (try simp only [kM, kN, kO])) | (refine tl_is (.tmp 31) ?_; refine qC rfl rfl (ckpt1_spec _ _) ?_; rintro v ρ' L' hle ⟨rfl, rfl, rfl⟩ <;> (try simp only [kM, kN, kO])) | (refine qEf ?_; try intro _)) <;> ((try simp only [kM, kN, kO]); refine tl_nil ?_; refine rNext ?_))))
      all_goals (first | refine wSkip 17 ?_ | refine wSkipU 17 ?_ | (refine rStep (i := 17) ?_; ((try refine qWant ?_); (first | (refine tl_is (.tmp 16) ?_; refine qC rfl rfl (ckpt2_spec _ nb pb ab next v r _) ?_; rintro v ρ' L' hle ⟨rfl, rfl, rfl⟩ <;> (try simp only [kM, kN, kO])) | (refine tl_is (.tmp 24) ?_; refine qC rfl rfl (ckpt1_spec _ _) ?_; rintro v ρ' L' hle ⟨rfl, rfl, rfl⟩ <;> (try simp only [kM, kN, kO])) | (refine tl_is (.tmp 31) ?_; refine qC rfl rfl (ckpt1_spec _ _) ?_; rintro v ρ' L' hle ⟨rfl, rfl, rfl⟩ <;> (try simp only [kM, kN, kO])) | (refine qEf ?_; try intro _)) <;> ((try simp only [kM, kN, kO]); refine tl_nil ?_; refine rNext ?_))))
      all_goals refine rFull ?_
      all_goals (first | refine wSkip 18 ?_ | refine wSkipU 18 ?_ | refine wCm 18 ?_ | (refine tr_guard (t := 23) rfl (fun hb => ?_) (fun hb => ?_) <;> (try simp only [kk] at hb) <;> first | refine wSkip 18 ?_ | refine wSkipU 18 ?_ | refine wCm 18 ?_))
      all_goals (first | refine wSkip 19 ?_ | refine wSkipU 19 ?_ | refine wPk 19 ?_ | (refine tr_guard (t := 20) rfl (fun hb => ?_) (fun hb => ?_) <;> (try simp only [kk] at hb) <;> first | refine wSkip 19 ?_ | refine wSkipU 19 ?_ | refine wPk 19 ?_))
      all_goals refine rPk 20 ?_
      all_goals refine rDone ?_
      all_goals (repeat' (first | (refine i_op ?_; first | (refine i_qq ?_; refine qQ ?_) | refine qEf ?_) | refine tl_nil ?_ | (refine i_tc ?_; refine qTc ?_) | (refine i_te ?_; refine qTe ?_) | (refine i_gd ?_; refine tl_guard rfl rfl (fun hb => ?_) (fun hb => ?_) <;> (try simp only [decide_eq_true_eq, decide_eq_false_iff_not, Bool.not_eq_true, Bool.not_eq_false, beq_iff_eq, bne_iff_ne, ne_eq, decide_eq_decide, Bool.not_eq_eq_eq_not, Bool.not_true, Bool.not_false, beq_eq_false_iff_ne, bne_eq_false_iff_eq, Bool.and_eq_true, Bool.or_eq_true, Bool.and_eq_false_imp, Bool.or_eq_false_iff] at hb)) | (refine i_cond ?_; refine tc_cond rfl (fun hb => ?_) (fun hb => ?_) <;> (try simp only [decide_eq_true_eq, decide_eq_false_iff_not, Bool.not_eq_true, Bool.not_eq_false, beq_iff_eq, bne_iff_ne, ne_eq, decide_eq_decide, Bool.not_eq_eq_eq_not, Bool.not_true, Bool.not_false, beq_eq_false_iff_ne, bne_eq_false_iff_eq, Bool.and_eq_true, Bool.or_eq_true, Bool.and_eq_false_imp, Bool.or_eq_false_iff] at hb)) | intro _))
      all_goals (try (rw [hfin (by rw [hw]; (first | (simp [*]; done) | (simp [*]; omega) | (simp_all; done) | (simp_all; omega)))]; refine qF (L' := [nextC nb next, ptrC pb ab, askC ab v r]) ?_; exact ⟨rfl, rfl, rfl⟩))
      all_goals rw [← e1]
      all_goals refine te_round_g (k + 1) (⟨hlt, by rw [hs, hw]; (first | (simp [*]; done) | (simp [*]; omega) | (simp_all; done) | (simp_all; omega))⟩) ev_le ev_le rfl tk inferInstance (by first | omega | (dsimp only; omega))
  · have hk2 : k = n := by omega
    subst hk2
    have hkm : k = mo := by omega
    rw [hkm] at hok
    rw [hok]
    repeat' (first | (refine i_op ?_; first | (refine i_qq ?_; refine qQ ?_) | refine qEf ?_) | refine tl_nil ?_ | (refine i_tc ?_; refine qTc ?_) | (refine i_te ?_; refine qTe ?_) | intro _)
    exact qE (L' := [nextC nb next, ptrC pb ab, askC ab v r]) ⟨rfl, rfl, rfl⟩
theorem risesCkP_spec (ρ : Hp) (a : Option Addr) (n c : Nat) (l : List CkP) (h : AIn ρ 2 ckPV a n l) (hn : n ≤ 1000000) (pb ab : Nat) (v : RV) (r : Rc)  :
    Spec Tryz.prog 187 [.slice a n c, .func (.func 188) ⟨[]⟩ ⟨[]⟩, .func (.func 189) ⟨[]⟩ ⟨[.pointer (some ⟨pb, 0, none⟩)]⟩] ρ [ptrC pb ab, askC ab v r] (fun z ρ' L' => z = .bool (upB (ckPOk r.lsn) CkP.page l l.length) ∧ ρ' = ρ ∧ L' = [ptrC pb ab, askC ab v r]) := by
  have hl := h.len
  generalize hR : (ckPOk r.lsn) = rt
  unfold upB
  generalize hm : l.length = mo
  have hrt : ∀ x, rt x = (ckPOk r.lsn) x := fun x => by rw [hR]
  refine spec_enter Tryz.func187 rfl rfl rfl fun u R => ?_
  simp only [argsE, List.cons_append, List.nil_append]
  repeat' (first | (refine i_op ?_; first | (refine i_qq ?_; refine qQ ?_) | refine qEf ?_) | refine tl_nil ?_ | (refine i_tc ?_; refine qTc ?_) | (refine i_te ?_; refine qTe ?_) | intro _)
  refine tc_loop_g [(0, _), (1, _), (2, _), (9, _), (10, _)] (fun (ζ : (Nat)) => [(11, .int .i64 ζ), (6, .bool false)]) (fun (ζ : (Nat)) => ρ) (fun (ζ : (Nat)) => [ptrC pb ab, askC ab v r]) (fun (ζ : (Nat)) => ζ ≤ n ∧ risesB mo (fun _ x => rt x) (fun y x => decide (CkP.page y < CkP.page x)) l ζ = true) (fun (ζ : (Nat)) => n - ζ) (0) (⟨Nat.zero_le _, by rw [risesB]; simp [hm]⟩) ev_le ev_le rfl tk ?_
  rintro k hI
  try simp only [List.cons_append, List.nil_append, List.append_assoc, List.append_eq] at hI ⊢
  try dsimp only at hI ⊢
  obtain ⟨hk, hok⟩ := hI
  by_cases hlt : k < n
  · obtain ⟨b, off, C, T, fr, e1, hb0, hfit, hc⟩ := h.get (show k < l.length by omega)
    have hs := risesB_succ (most := mo) (right := fun _ x => rt x) (lt := fun y x => decide (CkP.page y < CkP.page x)) (show k < l.length by omega)
    have hfin0 := fun (e : risesB mo (fun _ x => rt x) (fun y x => decide (CkP.page y < CkP.page x)) l (k + 1) = false) => risesB_false' e (show k + 1 ≤ mo by omega)
    rw [hok, Bool.true_and] at hs
    skip
    have hw := hrt l[k]
    have hfin : (rt l[k] && (decide (k = 0) || decide (CkP.page (l[k - 1]'(by omega)) < CkP.page l[k]))) = false → risesB mo (fun _ x => rt x) (fun y x => decide (CkP.page y < CkP.page x)) l mo = false := fun e => hfin0 (by rw [hs]; exact e)
    rw [e1]
    by_cases hk0 : k = 0
    · rw [decide_eq_true hk0, Bool.true_or, Bool.and_true] at hs hfin
      generalize l[k] = x at *
      generalize hQQ : risesB mo (fun _ x => rt x) (fun y x => decide (CkP.page y < CkP.page x)) l mo = q at *
      clear hfin0 hrt hR
      repeat' (first | (refine i_op ?_; first | (refine i_qq ?_; refine qQ ?_) | refine qEf ?_) | refine tl_nil ?_ | (refine i_tc ?_; refine qTc ?_) | (refine i_te ?_; refine qTe ?_) | intro _)
      refine tc_any (Stays _ _ _) stays_refl ?_
      all_goals refine rMv 0 ?_
      all_goals refine rLd 1 ?_
      all_goals (refine rStep (i := 2) ?_; ((try refine qWant ?_); (first | (refine tl_is (.tmp 16) ?_; refine qC rfl rfl (ckpt4_spec _ pb ab v r _) ?_; rintro v ρ' L' hle ⟨rfl, rfl, rfl⟩ <;> (try simp only [kM, kN, kO])) | (refine tl_is (.tmp 24) ?_; refine qC rfl rfl (ckpt3_spec _ _) ?_; rintro v ρ' L' hle ⟨rfl, rfl, rfl⟩ <;> (try simp only [kM, kN, kO])) | (refine tl_is (.tmp 31) ?_; refine qC rfl rfl (ckpt3_spec _ _) ?_; rintro v ρ' L' hle ⟨rfl, rfl, rfl⟩ <;> (try simp only [kM, kN, kO])) | (refine qEf ?_; try intro _)) <;> ((try simp only [kM, kN, kO]); refine tl_nil ?_; refine rNext ?_)))
      all_goals refine rUn 3 ?_
      all_goals refine rMv 4 ?_
      all_goals (first | refine wSkip 5 ?_ | refine wSkipU 5 ?_ | refine wMv 5 ?_ | (refine tr_guard (t := 20) rfl (fun hb => ?_) (fun hb => ?_) <;> (try simp only [kk] at hb) <;> first | refine wSkip 5 ?_ | refine wSkipU 5 ?_ | refine wMv 5 ?_))
      all_goals (first | refine wSkip 6 ?_ | refine wSkipU 6 ?_ | refine wCm 6 ?_ | (refine tr_guard (t := 20) rfl (fun hb => ?_) (fun hb => ?_) <;> (try simp only [kk] at hb) <;> first | refine wSkip 6 ?_ | refine wSkipU 6 ?_ | refine wCm 6 ?_))
      all_goals (first | refine wSkip 7 ?_ | refine wSkipU 7 ?_ | refine wMv 7 ?_ | (refine tr_guard (t := 20) rfl (fun hb => ?_) (fun hb => ?_) <;> (try simp only [kk] at hb) <;> first | refine wSkip 7 ?_ | refine wSkipU 7 ?_ | refine wMv 7 ?_))
      all_goals (first | refine wSkip 8 ?_ | refine wSkipU 8 ?_ | refine wMv 8 ?_ | (refine tr_guard (t := 23) rfl (fun hb => ?_) (fun hb => ?_) <;> (try simp only [kk] at hb) <;> first | refine wSkip 8 ?_ | refine wSkipU 8 ?_ | refine wMv 8 ?_))
      all_goals (first | refine wSkip 9 ?_ | refine wSkipU 9 ?_ | refine wMv 9 ?_ | (refine tr_guard (t := 23) rfl (fun hb => ?_) (fun hb => ?_) <;> (try simp only [kk] at hb) <;> first | refine wSkip 9 ?_ | refine wSkipU 9 ?_ | refine wMv 9 ?_))
      all_goals (first | refine wSkip 10 ?_ | refine wSkipU 10 ?_ | refine wMv 10 ?_ | (refine tr_guard (t := 23) rfl (fun hb => ?_) (fun hb => ?_) <;> (try simp only [kk] at hb) <;> first | refine wSkip 10 ?_ | refine wSkipU 10 ?_ | refine wMv 10 ?_))
      all_goals (first | refine wSkip 11 ?_ | refine wSkipU 11 ?_ | refine wSb 11 ?_ | (refine tr_guard (t := 23) rfl (fun hb => ?_) (fun hb => ?_) <;> (try simp only [kk] at hb) <;> first | refine wSkip 11 ?_ | refine wSkipU 11 ?_ | refine wSb 11 ?_))
      all_goals (first | refine wSkip 12 ?_ | refine wSkipU 12 ?_ | refine wIa 12 ?_ | (refine tr_guard (t := 23) rfl (fun hb => ?_) (fun hb => ?_) <;> (try simp only [kk] at hb) <;> first | refine wSkip 12 ?_ | refine wSkipU 12 ?_ | refine wIa 12 ?_))
      all_goals (first | refine wSkip 13 ?_ | refine wSkipU 13 ?_ | refine wLd 13 ?_ | (refine tr_guard (t := 23) rfl (fun hb => ?_) (fun hb => ?_) <;> (try simp only [kk] at hb) <;> first | refine wSkip 13 ?_ | refine wSkipU 13 ?_ | refine wLd 13 ?_))
      all_goals (first | refine wSkip 15 ?_ | refine wSkipU 15 ?_ | refine wMv 15 ?_ | (refine tr_guard (t := 23) rfl (fun hb => ?_) (fun hb => ?_) <;> (try simp only [kk] at hb) <;> first | refine wSkip 15 ?_ | refine wSkipU 15 ?_ | refine wMv 15 ?_))
      all_goals (first | refine wSkip 16 ?_ | refine wSkipU 16 ?_ | refine wLd 16 ?_ | (refine tr_guard (t := 23) rfl (fun hb => ?_) (fun hb => ?_) <;> (try simp only [kk] at hb) <;> first | refine wSkip 16 ?_ | refine wSkipU 16 ?_ | refine wLd 16 ?_))
      all_goals (first | refine wSkip 14 ?_ | refine wSkipU 14 ?_ | (refine rStep (i := 14) ?_; ((try refine qWant ?_); (first | (refine tl_is (.tmp 16) ?_; refine qC rfl rfl (ckpt4_spec _ pb ab v r _) ?_; rintro v ρ' L' hle ⟨rfl, rfl, rfl⟩ <;> (try simp only [kM, kN, kO])) | (refine tl_is (.tmp 24) ?_; refine qC rfl rfl (ckpt3_spec _ _) ?_; rintro v ρ' L' hle ⟨rfl, rfl, rfl⟩ <;> (try simp only [kM, kN, kO])) | (refine tl_is (.tmp 31) ?_; refine qC rfl rfl (ckpt3_spec _ _) ?_; rintro v ρ' L' hle ⟨rfl, rfl, rfl⟩ <;> (try simp only [kM, kN, kO])) | (refine qEf ?_; try intro _)) <;> ((try simp only [kM, kN, kO]); refine tl_nil ?_; refine rNext ?_))))
      all_goals (first | refine wSkip 17 ?_ | refine wSkipU 17 ?_ | (refine rStep (i := 17) ?_; ((try refine qWant ?_); (first | (refine tl_is (.tmp 16) ?_; refine qC rfl rfl (ckpt4_spec _ pb ab v r _) ?_; rintro v ρ' L' hle ⟨rfl, rfl, rfl⟩ <;> (try simp only [kM, kN, kO])) | (refine tl_is (.tmp 24) ?_; refine qC rfl rfl (ckpt3_spec _ _) ?_; rintro v ρ' L' hle ⟨rfl, rfl, rfl⟩ <;> (try simp only [kM, kN, kO])) | (refine tl_is (.tmp 31) ?_; refine qC rfl rfl (ckpt3_spec _ _) ?_; rintro v ρ' L' hle ⟨rfl, rfl, rfl⟩ <;> (try simp only [kM, kN, kO])) | (refine qEf ?_; try intro _)) <;> ((try simp only [kM, kN, kO]); refine tl_nil ?_; refine rNext ?_))))
      all_goals refine rFull ?_
      all_goals (first | refine wSkip 18 ?_ | refine wSkipU 18 ?_ | refine wCm 18 ?_ | (refine tr_guard (t := 23) rfl (fun hb => ?_) (fun hb => ?_) <;> (try simp only [kk] at hb) <;> first | refine wSkip 18 ?_ | refine wSkipU 18 ?_ | refine wCm 18 ?_))
      all_goals (first | refine wSkip 19 ?_ | refine wSkipU 19 ?_ | refine wPk 19 ?_ | (refine tr_guard (t := 20) rfl (fun hb => ?_) (fun hb => ?_) <;> (try simp only [kk] at hb) <;> first | refine wSkip 19 ?_ | refine wSkipU 19 ?_ | refine wPk 19 ?_))
      all_goals refine rPk 20 ?_
      all_goals refine rDone ?_
      all_goals (repeat' (first | (refine i_op ?_; first | (refine i_qq ?_; refine qQ ?_) | refine qEf ?_) | refine tl_nil ?_ | (refine i_tc ?_; refine qTc ?_) | (refine i_te ?_; refine qTe ?_) | (refine i_gd ?_; refine tl_guard rfl rfl (fun hb => ?_) (fun hb => ?_) <;> (try simp only [decide_eq_true_eq, decide_eq_false_iff_not, Bool.not_eq_true, Bool.not_eq_false, beq_iff_eq, bne_iff_ne, ne_eq, decide_eq_decide, Bool.not_eq_eq_eq_not, Bool.not_true, Bool.not_false, beq_eq_false_iff_ne, bne_eq_false_iff_eq, Bool.and_eq_true, Bool.or_eq_true, Bool.and_eq_false_imp, Bool.or_eq_false_iff] at hb)) | (refine i_cond ?_; refine tc_cond rfl (fun hb => ?_) (fun hb => ?_) <;> (try simp only [decide_eq_true_eq, decide_eq_false_iff_not, Bool.not_eq_true, Bool.not_eq_false, beq_iff_eq, bne_iff_ne, ne_eq, decide_eq_decide, Bool.not_eq_eq_eq_not, Bool.not_true, Bool.not_false, beq_eq_false_iff_ne, bne_eq_false_iff_eq, Bool.and_eq_true, Bool.or_eq_true, Bool.and_eq_false_imp, Bool.or_eq_false_iff] at hb)) | intro _))
      all_goals (try (rw [hfin (by rw [hw]; (first | (simp [*]; done) | (simp [*]; omega) | (simp_all; done) | (simp_all; omega)))]; refine qF (L' := [ptrC pb ab, askC ab v r]) ?_; exact ⟨rfl, rfl, rfl⟩))
      all_goals rw [← e1]
      all_goals refine te_round_g (k + 1) (⟨hlt, by rw [hs, hw]; (first | (simp [*]; done) | (simp [*]; omega) | (simp_all; done) | (simp_all; omega))⟩) ev_le ev_le rfl tk inferInstance (by first | omega | (dsimp only; omega))
    · obtain ⟨b2, off2, C2, T2, fr2, f1, hb2, hfit2, hc2⟩ := h.get (show k - 1 < l.length by omega)
      rw [e1] at f1
      cases f1
      rw [hb0] at hb2
      cases hb2
      have ek : ((k : Int) - 1).toNat = k - 1 := by omega
      rw [← ek] at hfit2
      have hc3 : List.take 2 (List.drop (off + ((k : Int) - 1).toNat * 2) C) = ckPV (l[k - 1]'(by omega)) := by rw [ek]; exact hc2
      clear hc2
      rw [decide_eq_false hk0, Bool.false_or] at hs hfin
      generalize l[k] = x at *
      generalize l[k - 1]'(by omega) = y at *
      generalize hQQ : risesB mo (fun _ x => rt x) (fun y x => decide (CkP.page y < CkP.page x)) l mo = q at *
      clear hfin0 hrt hR
      repeat' (first | (refine i_op ?_; first | (refine i_qq ?_; refine qQ ?_) | refine qEf ?_) | refine tl_nil ?_ | (refine i_tc ?_; refine qTc ?_) | (refine i_te ?_; refine qTe ?_) | intro _)
      refine tc_any (Stays _ _ _) stays_refl ?_
      all_goals refine rMv 0 ?_
      all_goals refine rLd 1 ?_
      all_goals (refine rStep (i := 2) ?_; ((try refine qWant ?_); (first | (refine tl_is (.tmp 16) ?_; refine qC rfl rfl (ckpt4_spec _ pb ab v r _) ?_; rintro v ρ' L' hle ⟨rfl, rfl, rfl⟩ <;> (try simp only [kM, kN, kO])) | (refine tl_is (.tmp 24) ?_; refine qC rfl rfl (ckpt3_spec _ _) ?_; rintro v ρ' L' hle ⟨rfl, rfl, rfl⟩ <;> (try simp only [kM, kN, kO])) | (refine tl_is (.tmp 31) ?_; refine qC rfl rfl (ckpt3_spec _ _) ?_; rintro v ρ' L' hle ⟨rfl, rfl, rfl⟩ <;> (try simp only [kM, kN, kO])) | (refine qEf ?_; try intro _)) <;> ((try simp only [kM, kN, kO]); refine tl_nil ?_; refine rNext ?_)))
      all_goals refine rUn 3 ?_
      all_goals refine rMv 4 ?_
      all_goals (first | refine wSkip 5 ?_ | refine wSkipU 5 ?_ | refine wMv 5 ?_ | (refine tr_guard (t := 20) rfl (fun hb => ?_) (fun hb => ?_) <;> (try simp only [kk] at hb) <;> first | refine wSkip 5 ?_ | refine wSkipU 5 ?_ | refine wMv 5 ?_))
      all_goals (first | refine wSkip 6 ?_ | refine wSkipU 6 ?_ | refine wCm 6 ?_ | (refine tr_guard (t := 20) rfl (fun hb => ?_) (fun hb => ?_) <;> (try simp only [kk] at hb) <;> first | refine wSkip 6 ?_ | refine wSkipU 6 ?_ | refine wCm 6 ?_))
      all_goals (first | refine wSkip 7 ?_ | refine wSkipU 7 ?_ | refine wMv 7 ?_ | (refine tr_guard (t := 20) rfl (fun hb => ?_) (fun hb => ?_) <;> (try simp only [kk] at hb) <;> first | refine wSkip 7 ?_ | refine wSkipU 7 ?_ | refine wMv 7 ?_))
      all_goals (first | refine wSkip 8 ?_ | refine wSkipU 8 ?_ | refine wMv 8 ?_ | (refine tr_guard (t := 23) rfl (fun hb => ?_) (fun hb => ?_) <;> (try simp only [kk] at hb) <;> first | refine wSkip 8 ?_ | refine wSkipU 8 ?_ | refine wMv 8 ?_))
      all_goals (first | refine wSkip 9 ?_ | refine wSkipU 9 ?_ | refine wMv 9 ?_ | (refine tr_guard (t := 23) rfl (fun hb => ?_) (fun hb => ?_) <;> (try simp only [kk] at hb) <;> first | refine wSkip 9 ?_ | refine wSkipU 9 ?_ | refine wMv 9 ?_))
      all_goals (first | refine wSkip 10 ?_ | refine wSkipU 10 ?_ | refine wMv 10 ?_ | (refine tr_guard (t := 23) rfl (fun hb => ?_) (fun hb => ?_) <;> (try simp only [kk] at hb) <;> first | refine wSkip 10 ?_ | refine wSkipU 10 ?_ | refine wMv 10 ?_))
      all_goals (first | refine wSkip 11 ?_ | refine wSkipU 11 ?_ | refine wSb 11 ?_ | (refine tr_guard (t := 23) rfl (fun hb => ?_) (fun hb => ?_) <;> (try simp only [kk] at hb) <;> first | refine wSkip 11 ?_ | refine wSkipU 11 ?_ | refine wSb 11 ?_))
      all_goals (first | refine wSkip 12 ?_ | refine wSkipU 12 ?_ | refine wIa 12 ?_ | (refine tr_guard (t := 23) rfl (fun hb => ?_) (fun hb => ?_) <;> (try simp only [kk] at hb) <;> first | refine wSkip 12 ?_ | refine wSkipU 12 ?_ | refine wIa 12 ?_))
      all_goals (first | refine wSkip 13 ?_ | refine wSkipU 13 ?_ | refine wLd 13 ?_ | (refine tr_guard (t := 23) rfl (fun hb => ?_) (fun hb => ?_) <;> (try simp only [kk] at hb) <;> first | refine wSkip 13 ?_ | refine wSkipU 13 ?_ | refine wLd 13 ?_))
      all_goals (first | refine wSkip 15 ?_ | refine wSkipU 15 ?_ | refine wMv 15 ?_ | (refine tr_guard (t := 23) rfl (fun hb => ?_) (fun hb => ?_) <;> (try simp only [kk] at hb) <;> first | refine wSkip 15 ?_ | refine wSkipU 15 ?_ | refine wMv 15 ?_))
      all_goals (first | refine wSkip 16 ?_ | refine wSkipU 16 ?_ | refine wLd 16 ?_ | (refine tr_guard (t := 23) rfl (fun hb => ?_) (fun hb => ?_) <;> (try simp only [kk] at hb) <;> first | refine wSkip 16 ?_ | refine wSkipU 16 ?_ | refine wLd 16 ?_))
      all_goals (first | refine wSkip 14 ?_ | refine wSkipU 14 ?_ | (refine rStep (i := 14) ?_; ((try refine qWant ?_); (first | (refine tl_is (.tmp 16) ?_; refine qC rfl rfl (ckpt4_spec _ pb ab v r _) ?_; rintro v ρ' L' hle ⟨rfl, rfl, rfl⟩ <;> (try simp only [kM, kN, kO])) | (refine tl_is (.tmp 24) ?_; refine qC rfl rfl (ckpt3_spec _ _) ?_; rintro v ρ' L' hle ⟨rfl, rfl, rfl⟩ <;> (try simp only [kM, kN, kO])) | (refine tl_is (.tmp 31) ?_; refine qC rfl rfl (ckpt3_spec _ _) ?_; rintro v ρ' L' hle ⟨rfl, rfl, rfl⟩ <;> (try simp only [kM, kN, kO])) | (refine qEf ?_; try intro _)) <;> ((try simp only [kM, kN, kO]); refine tl_nil ?_; refine rNext ?_))))
      all_goals (first | refine wSkip 17 ?_ | refine wSkipU 17 ?_ | (refine rStep (i := 17) ?_; ((try refine qWant ?_); (first | (refine tl_is (.tmp 16) ?_; refine qC rfl rfl (ckpt4_spec _ pb ab v r _) ?_; rintro v ρ' L' hle ⟨rfl, rfl, rfl⟩ <;> (try simp only [kM, kN, kO])) | (refine tl_is (.tmp 24) ?_; refine qC rfl rfl (ckpt3_spec _ _) ?_; rintro v ρ' L' hle ⟨rfl, rfl, rfl⟩ <;> (try simp only [kM, kN, kO])) | (refine tl_is (.tmp 31) ?_; refine qC rfl rfl (ckpt3_spec _ _) ?_; rintro v ρ' L' hle ⟨rfl, rfl, rfl⟩ <;> (try simp only [kM, kN, kO])) | (refine qEf ?_; try intro _)) <;> ((try simp only [kM, kN, kO]); refine tl_nil ?_; refine rNext ?_))))
      all_goals refine rFull ?_
      all_goals (first | refine wSkip 18 ?_ | refine wSkipU 18 ?_ | refine wCm 18 ?_ | (refine tr_guard (t := 23) rfl (fun hb => ?_) (fun hb => ?_) <;> (try simp only [kk] at hb) <;> first | refine wSkip 18 ?_ | refine wSkipU 18 ?_ | refine wCm 18 ?_))
      all_goals (first | refine wSkip 19 ?_ | refine wSkipU 19 ?_ | refine wPk 19 ?_ | (refine tr_guard (t := 20) rfl (fun hb => ?_) (fun hb => ?_) <;> (try simp only [kk] at hb) <;> first | refine wSkip 19 ?_ | refine wSkipU 19 ?_ | refine wPk 19 ?_))
      all_goals refine rPk 20 ?_
      all_goals refine rDone ?_
      all_goals (repeat' (first | (refine i_op ?_; first | (refine i_qq ?_; refine qQ ?_) | refine qEf ?_) | refine tl_nil ?_ | (refine i_tc ?_; refine qTc ?_) | (refine i_te ?_; refine qTe ?_) | (refine i_gd ?_; refine tl_guard rfl rfl (fun hb => ?_) (fun hb => ?_) <;> (try simp only [decide_eq_true_eq, decide_eq_false_iff_not, Bool.not_eq_true, Bool.not_eq_false, beq_iff_eq, bne_iff_ne, ne_eq, decide_eq_decide, Bool.not_eq_eq_eq_not, Bool.not_true, Bool.not_false, beq_eq_false_iff_ne, bne_eq_false_iff_eq, Bool.and_eq_true, Bool.or_eq_true, Bool.and_eq_false_imp, Bool.or_eq_false_iff] at hb)) | (refine i_cond ?_; refine tc_cond rfl (fun hb => ?_) (fun hb => ?_) <;> (try simp only [decide_eq_true_eq, decide_eq_false_iff_not, Bool.not_eq_true, Bool.not_eq_false, beq_iff_eq, bne_iff_ne, ne_eq, decide_eq_decide, Bool.not_eq_eq_eq_not, Bool.not_true, Bool.not_false, beq_eq_false_iff_ne, bne_eq_false_iff_eq, Bool.and_eq_true, Bool.or_eq_true, Bool.and_eq_false_imp, Bool.or_eq_false_iff] at hb)) | intro _))
      all_goals (try (rw [hfin (by rw [hw]; (first | (simp [*]; done) | (simp [*]; omega) | (simp_all; done) | (simp_all; omega)))]; refine qF (L' := [ptrC pb ab, askC ab v r]) ?_; exact ⟨rfl, rfl, rfl⟩))
      all_goals rw [← e1]
      all_goals refine te_round_g (k + 1) (⟨hlt, by rw [hs, hw]; (first | (simp [*]; done) | (simp [*]; omega) | (simp_all; done) | (simp_all; omega))⟩) ev_le ev_le rfl tk inferInstance (by first | omega | (dsimp only; omega))
  · have hk2 : k = n := by omega
    subst hk2
    have hkm : k = mo := by omega
    rw [hkm] at hok
    rw [hok]
    repeat' (first | (refine i_op ?_; first | (refine i_qq ?_; refine qQ ?_) | refine qEf ?_) | refine tl_nil ?_ | (refine i_tc ?_; refine qTc ?_) | (refine i_te ?_; refine qTe ?_) | intro _)
    exact qE (L' := [ptrC pb ab, askC ab v r]) ⟨rfl, rfl, rfl⟩
end Go.Proofs.E

