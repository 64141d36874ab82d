/- The law RecordLays. Part 12 of 21. -/
import Derived.Test.YtjajdpfdhokkhaaGreatQ11
namespace Go.Proofs.E
open Go
set_option linter.unusedVariables false
set_option linter.unusedSimpArgs false
set_option linter.unusedSectionVars false
set_option maxRecDepth 4000
set_option maxHeartbeats 1000000
attribute [local irreducible] Yl TL TC TE Spec YSpec R1 Hp.le EnvLe TS TR YS Stays
-- BN
set_option maxHeartbeats 4000000
theorem right12_spec (ρ : Hp) (v : RV) (r : Rc) (h : RcIn ρ v r) : Spec Tryz.prog 26 [.agg ⟨recV v r⟩] ρ [] (fun z ρ' L' => z = .bool (recOk r) ∧ ρ' = ρ ∧ L' = []) := by
  have li := h.i.at'.len
  have ls := h.s.at'.len
  have lt := h.t.at'.len
  have ld := h.d.at'.len
  have bi := h.i.big
  have bs := h.s.big
  have bt := h.t.big
  have bd := h.d.big
  have ei : r.ims = [] ↔ v.i.n = 0 := by rw [← li]; exact List.length_eq_zero_iff.symm
  have es : r.steps = [] ↔ v.s.n = 0 := by rw [← ls]; exact List.length_eq_zero_iff.symm
  have et : r.txns = [] ↔ v.t.n = 0 := by rw [← lt]; exact List.length_eq_zero_iff.symm
  have ed : r.dirty = [] ↔ v.d.n = 0 := by rw [← ld]; exact List.length_eq_zero_iff.symm
  have hrec : recOk r = true ↔ (1 ≤ r.kind ∧ r.kind ≤ 9) ∧ (1 ≤ r.lsn ∧ r.lsn ≤ 1099511627776 ∧ r.prev < r.lsn ∧ 0 ≤ r.txn ∧ r.txn ≤ 1073741824 ∧ (r.kind = 9 ↔ r.txn = 0) ∧ ((r.kind = 9 ∨ r.kind = 1) ↔ r.prev = 0)) ∧ askOk r = true ∧
      ((r.next = 0 ∨ r.kind = 3 ∨ r.kind = 4 ∨ r.kind = 5) ∧ (v.i.n = 0 ∨ r.kind = 2 ∨ r.kind = 5) ∧ (v.s.n = 0 ∨ r.kind = 4) ∧ ((v.t.n = 0 ∧ v.d.n = 0 ∧ r.nextTxn = 0) ∨ r.kind = 9)) := by
    unfold recOk headOk bareOk
    simp only [Bool.and_eq_true, decide_eq_true_eq, ei, es, et, ed]
  generalize recOk r = rk at *
  have h1 := images12_spec ρ v.i r.ims h.i true h.im
  have h2 := images12_spec ρ v.i r.ims h.i false h.im
  have h3 := steps12_spec ρ v.s r.steps h.s h.sf
  have h4 := txns12_spec ρ v.t r.txns h.t r.lsn r.nextTxn
  have h5 := dirty12_spec ρ v.d r.dirty h.d r.lsn
  change Spec Tryz.prog 95 [.slice v.i.a v.i.n v.i.c, .bool true] ρ [] (fun z ρ' L' => z = .bool (imsOk true r.ims) ∧ ρ' = ρ ∧ L' = []) at h1
  change Spec Tryz.prog 95 [.slice v.i.a v.i.n v.i.c, .bool false] ρ [] (fun z ρ' L' => z = .bool (imsOk false r.ims) ∧ ρ' = ρ ∧ L' = []) at h2
  have hask : ∀ A : Prop, (askOk r = true ↔ A) → (rk = true ↔ (1 ≤ r.kind ∧ r.kind ≤ 9) ∧ (1 ≤ r.lsn ∧ r.lsn ≤ 1099511627776 ∧ r.prev < r.lsn ∧ 0 ≤ r.txn ∧ r.txn ≤ 1073741824 ∧ (r.kind = 9 ↔ r.txn = 0) ∧ ((r.kind = 9 ∨ r.kind = 1) ↔ r.prev = 0)) ∧ A ∧
      ((r.next = 0 ∨ r.kind = 3 ∨ r.kind = 4 ∨ r.kind = 5) ∧ (v.i.n = 0 ∨ r.kind = 2 ∨ r.kind = 5) ∧ (v.s.n = 0 ∨ r.kind = 4) ∧ ((v.t.n = 0 ∧ v.d.n = 0 ∧ r.nextTxn = 0) ∨ r.kind = 9))) := fun A hA => by rw [hrec, hA]
  unfold askOk at hask
  generalize imsOk true r.ims = q1 at *
  generalize imsOk false r.ims = q2 at *
  generalize r.steps.all stepOk = q3 at *
  generalize upB (ckTOk r.lsn r.nextTxn) CkT.txn r.txns r.txns.length = q4 at *
  generalize upB (ckPOk r.lsn) CkP.page r.dirty r.dirty.length = q5 at *
  rw [li, ls, lt] at hask
  rw [ls] at h3
  rw [lt] at h4
  clear hrec
  refine spec_enter Tryz.func26 rfl rfl rfl fun u R => ?_
  simp only [argsE, List.cons_append, List.nil_append]
  by_cases k2 : r.kind = 2
  · have hk := hask (0 < v.i.n ∧ q1 = true) (by rw [if_pos k2]; simp)
    clear hask
    cases q1
    all_goals simp only [Bool.false_eq_true, and_true, and_false, false_and] at hk
    all_goals (repeat' (first | (refine tl_is (.func 95) ?_; refine qC rfl rfl (h1) ?_; rintro v ρ' L' hle ⟨rfl, rfl, rfl⟩ <;> (try simp only [kM, kN, kO])) | (refine tl_is (.func 95) ?_; refine qC rfl rfl (h2) ?_; rintro v ρ' L' hle ⟨rfl, rfl, rfl⟩ <;> (try simp only [kM, kN, kO])) | (refine tl_is (.func 96) ?_; refine qC rfl rfl (h3) ?_; rintro v ρ' L' hle ⟨rfl, rfl, rfl⟩ <;> (try simp only [kM, kN, kO])) | (refine tl_is (.func 97) ?_; refine qC rfl rfl (h4) ?_; rintro v ρ' L' hle ⟨rfl, rfl, rfl⟩ <;> (try simp only [kM, kN, kO])) | (refine tl_is (.func 98) ?_; refine qC rfl rfl (h5) ?_; rintro v ρ' L' hle ⟨rfl, rfl, rfl⟩ <;> (try simp only [kM, kN, kO])) | (refine iBu ?_; refine tl_y (y_buildN rfl) rfl rfl ?_) | (refine i_op ?_; first | (refine i_qq ?_; refine qQ ?_) | refine qEf ?_) | refine tl_nil ?_ | (refine i_tc ?_; refine qTc ?_) | (refine i_te ?_; refine qTe ?_) | (refine i_gd ?_; refine tl_guard rfl rfl (fun hb => ?_) (fun hb => ?_) <;> (try simp only [decide_eq_true_eq, decide_eq_false_iff_not, Bool.not_eq_true, Bool.not_eq_false, beq_iff_eq, bne_iff_ne, ne_eq, decide_eq_decide, Bool.not_eq_eq_eq_not, Bool.not_true, Bool.not_false, beq_eq_false_iff_ne, bne_eq_false_iff_eq, Bool.and_eq_true, Bool.or_eq_true, Bool.and_eq_false_imp, Bool.or_eq_false_iff, bq2, bqt, bqf] at hb)) | (refine i_cond ?_; refine tc_cond rfl (fun hb => ?_) (fun hb => ?_) <;> (try simp only [decide_eq_true_eq, decide_eq_false_iff_not, Bool.not_eq_true, Bool.not_eq_false, beq_iff_eq, bne_iff_ne, ne_eq, decide_eq_decide, Bool.not_eq_eq_eq_not, Bool.not_true, Bool.not_false, beq_eq_false_iff_ne, bne_eq_false_iff_eq, Bool.and_eq_true, Bool.or_eq_true, Bool.and_eq_false_imp, Bool.or_eq_false_iff, bq2, bqt, bqf] at hb)) | intro _))
    all_goals (refine qF (L' := []) ?_; refine ⟨bool_eq ?_, rfl, rfl⟩; rw [hk]; first | omega | (simp only [decide_eq_true_eq, Bool.false_eq_true, true_iff, false_iff, true_and, and_true, beq_iff_eq, Bool.and_true, Bool.and_false, Bool.true_and, Bool.false_and, decide_true, decide_false] <;> omega))
  · skip
    by_cases k3 : r.kind = 3
    · have hk := hask (r.next < r.prev) (by rw [if_neg k2, if_pos k3]; simp)
      clear hask
      repeat' (first | (refine tl_is (.func 95) ?_; refine qC rfl rfl (h1) ?_; rintro v ρ' L' hle ⟨rfl, rfl, rfl⟩ <;> (try simp only [kM, kN, kO])) | (refine tl_is (.func 95) ?_; refine qC rfl rfl (h2) ?_; rintro v ρ' L' hle ⟨rfl, rfl, rfl⟩ <;> (try simp only [kM, kN, kO])) | (refine tl_is (.func 96) ?_; refine qC rfl rfl (h3) ?_; rintro v ρ' L' hle ⟨rfl, rfl, rfl⟩ <;> (try simp only [kM, kN, kO])) | (refine tl_is (.func 97) ?_; refine qC rfl rfl (h4) ?_; rintro v ρ' L' hle ⟨rfl, rfl, rfl⟩ <;> (try simp only [kM, kN, kO])) | (refine tl_is (.func 98) ?_; refine qC rfl rfl (h5) ?_; rintro v ρ' L' hle ⟨rfl, rfl, rfl⟩ <;> (try simp only [kM, kN, kO])) | (refine iBu ?_; refine tl_y (y_buildN rfl) rfl rfl ?_) | (refine i_op ?_; first | (refine i_qq ?_; refine qQ ?_) | refine qEf ?_) | refine tl_nil ?_ | (refine i_tc ?_; refine qTc ?_) | (refine i_te ?_; refine qTe ?_) | (refine i_gd ?_; refine tl_guard rfl rfl (fun hb => ?_) (fun hb => ?_) <;> (try simp only [decide_eq_true_eq, decide_eq_false_iff_not, Bool.not_eq_true, Bool.not_eq_false, beq_iff_eq, bne_iff_ne, ne_eq, decide_eq_decide, Bool.not_eq_eq_eq_not, Bool.not_true, Bool.not_false, beq_eq_false_iff_ne, bne_eq_false_iff_eq, Bool.and_eq_true, Bool.or_eq_true, Bool.and_eq_false_imp, Bool.or_eq_false_iff, bq2, bqt, bqf] at hb)) | (refine i_cond ?_; refine tc_cond rfl (fun hb => ?_) (fun hb => ?_) <;> (try simp only [decide_eq_true_eq, decide_eq_false_iff_not, Bool.not_eq_true, Bool.not_eq_false, beq_iff_eq, bne_iff_ne, ne_eq, decide_eq_decide, Bool.not_eq_eq_eq_not, Bool.not_true, Bool.not_false, beq_eq_false_iff_ne, bne_eq_false_iff_eq, Bool.and_eq_true, Bool.or_eq_true, Bool.and_eq_false_imp, Bool.or_eq_false_iff, bq2, bqt, bqf] at hb)) | intro _)
      all_goals (refine qF (L' := []) ?_; refine ⟨bool_eq ?_, rfl, rfl⟩; rw [hk]; first | omega | (simp only [decide_eq_true_eq, Bool.false_eq_true, true_iff, false_iff, true_and, and_true, beq_iff_eq, Bool.and_true, Bool.and_false, Bool.true_and, Bool.false_and, decide_true, decide_false] <;> omega))
    · skip
      by_cases k4 : r.kind = 4
      · have hk := hask (r.next < r.prev ∧ (0 < v.s.n ∧ v.s.n ≤ 2) ∧ q3 = true) (by rw [if_neg k2, if_neg k3, if_pos k4]; simp)
        clear hask
        cases q3
        all_goals simp only [Bool.false_eq_true, and_true, and_false, false_and] at hk
        all_goals (repeat' (first | (refine tl_is (.func 95) ?_; refine qC rfl rfl (h1) ?_; rintro v ρ' L' hle ⟨rfl, rfl, rfl⟩ <;> (try simp only [kM, kN, kO])) | (refine tl_is (.func 95) ?_; refine qC rfl rfl (h2) ?_; rintro v ρ' L' hle ⟨rfl, rfl, rfl⟩ <;> (try simp only [kM, kN, kO])) | (refine tl_is (.func 96) ?_; refine qC rfl rfl (h3) ?_; rintro v ρ' L' hle ⟨rfl, rfl, rfl⟩ <;> (try simp only [kM, kN, kO])) | (refine tl_is (.func 97) ?_; refine qC rfl rfl (h4) ?_; rintro v ρ' L' hle ⟨rfl, rfl, rfl⟩ <;> (try simp only [kM, kN, kO])) | (refine tl_is (.func 98) ?_; refine qC rfl rfl (h5) ?_; rintro v ρ' L' hle ⟨rfl, rfl, rfl⟩ <;> (try simp only [kM, kN, kO])) | (refine iBu ?_; refine tl_y (y_buildN rfl) rfl rfl ?_) | (refine i_op ?_; first | (refine i_qq ?_; refine qQ ?_) | refine qEf ?_) | refine tl_nil ?_ | (refine i_tc ?_; refine qTc ?_) | (refine i_te ?_; refine qTe ?_) | (refine i_gd ?_; refine tl_guard rfl rfl (fun hb => ?_) (fun hb => ?_) <;> (try simp only [decide_eq_true_eq, decide_eq_false_iff_not, Bool.not_eq_true, Bool.not_eq_false, beq_iff_eq, bne_iff_ne, ne_eq, decide_eq_decide, Bool.not_eq_eq_eq_not, Bool.not_true, Bool.not_false, beq_eq_false_iff_ne, bne_eq_false_iff_eq, Bool.and_eq_true, Bool.or_eq_true, Bool.and_eq_false_imp, Bool.or_eq_false_iff, bq2, bqt, bqf] at hb)) | (refine i_cond ?_; refine tc_cond rfl (fun hb => ?_) (fun hb => ?_) <;> (try simp only [decide_eq_true_eq, decide_eq_false_iff_not, Bool.not_eq_true, Bool.not_eq_false, beq_iff_eq, bne_iff_ne, ne_eq, decide_eq_decide, Bool.not_eq_eq_eq_not, Bool.not_true, Bool.not_false, beq_eq_false_iff_ne, bne_eq_false_iff_eq, Bool.and_eq_true, Bool.or_eq_true, Bool.and_eq_false_imp, Bool.or_eq_false_iff, bq2, bqt, bqf] at hb)) | intro _))
        all_goals (refine qF (L' := []) ?_; refine ⟨bool_eq ?_, rfl, rfl⟩; rw [hk]; first | omega | (simp only [decide_eq_true_eq, Bool.false_eq_true, true_iff, false_iff, true_and, and_true, beq_iff_eq, Bool.and_true, Bool.and_false, Bool.true_and, Bool.false_and, decide_true, decide_false] <;> omega))
      · skip
        by_cases k5 : r.kind = 5
        · have hk := hask (r.next < r.lsn ∧ q2 = true) (by rw [if_neg k2, if_neg k3, if_neg k4, if_pos k5]; simp)
          clear hask
          cases q2
          all_goals simp only [Bool.false_eq_true, and_true, and_false, false_and] at hk
          all_goals (repeat' (first | (refine tl_is (.func 95) ?_; refine qC rfl rfl (h1) ?_; rintro v ρ' L' hle ⟨rfl, rfl, rfl⟩ <;> (try simp only [kM, kN, kO])) | (refine tl_is (.func 95) ?_; refine qC rfl rfl (h2) ?_; rintro v ρ' L' hle ⟨rfl, rfl, rfl⟩ <;> (try simp only [kM, kN, kO])) | (refine tl_is (.func 96) ?_; refine qC rfl rfl (h3) ?_; rintro v ρ' L' hle ⟨rfl, rfl, rfl⟩ <;> (try simp only [kM, kN, kO])) | (refine tl_is (.func 97) ?_; refine qC rfl rfl (h4) ?_; rintro v ρ' L' hle ⟨rfl, rfl, rfl⟩ <;> (try simp only [kM, kN, kO])) | (refine tl_is (.func 98) ?_; refine qC rfl rfl (h5) ?_; rintro v ρ' L' hle ⟨rfl, rfl, rfl⟩ <;> (try simp only [kM, kN, kO])) | (refine iBu ?_; refine tl_y (y_buildN rfl) rfl rfl ?_) | (refine i_op ?_; first | (refine i_qq ?_; refine qQ ?_) | refine qEf ?_) | refine tl_nil ?_ | (refine i_tc ?_; refine qTc ?_) | (refine i_te ?_; refine qTe ?_) | (refine i_gd ?_; refine tl_guard rfl rfl (fun hb => ?_) (fun hb => ?_) <;> (try simp only [decide_eq_true_eq, decide_eq_false_iff_not, Bool.not_eq_true, Bool.not_eq_false, beq_iff_eq, bne_iff_ne, ne_eq, decide_eq_decide, Bool.not_eq_eq_eq_not, Bool.not_true, Bool.not_false, beq_eq_false_iff_ne, bne_eq_false_iff_eq, Bool.and_eq_true, Bool.or_eq_true, Bool.and_eq_false_imp, Bool.or_eq_false_iff, bq2, bqt, bqf] at hb)) | (refine i_cond ?_; refine tc_cond rfl (fun hb => ?_) (fun hb => ?_) <;> (try simp only [decide_eq_true_eq, decide_eq_false_iff_not, Bool.not_eq_true, Bool.not_eq_false, beq_iff_eq, bne_iff_ne, ne_eq, decide_eq_decide, Bool.not_eq_eq_eq_not, Bool.not_true, Bool.not_false, beq_eq_false_iff_ne, bne_eq_false_iff_eq, Bool.and_eq_true, Bool.or_eq_true, Bool.and_eq_false_imp, Bool.or_eq_false_iff, bq2, bqt, bqf] at hb)) | intro _))
          all_goals (refine qF (L' := []) ?_; refine ⟨bool_eq ?_, rfl, rfl⟩; rw [hk]; first | omega | (simp only [decide_eq_true_eq, Bool.false_eq_true, true_iff, false_iff, true_and, and_true, beq_iff_eq, Bool.and_true, Bool.and_false, Bool.true_and, Bool.false_and, decide_true, decide_false] <;> omega))
        · skip
          by_cases k9 : r.kind = 9
          · have hk := hask ((1 ≤ r.nextTxn ∧ r.nextTxn ≤ 1073741824 ∧ v.t.n ≤ 8) ∧ q4 = true ∧ q5 = true) (by rw [if_neg k2, if_neg k3, if_neg k4, if_neg k5, if_pos k9]; simp)
            clear hask
            cases q4
            all_goals cases q5
            all_goals simp only [Bool.false_eq_true, and_true, and_false, false_and] at hk
            all_goals simp only [Bool.and_true, Bool.and_false] at h4
            all_goals (repeat' (first | (refine tl_is (.func 95) ?_; refine qC rfl rfl (h1) ?_; rintro v ρ' L' hle ⟨rfl, rfl, rfl⟩ <;> (try simp only [kM, kN, kO])) | (refine tl_is (.func 95) ?_; refine qC rfl rfl (h2) ?_; rintro v ρ' L' hle ⟨rfl, rfl, rfl⟩ <;> (try simp only [kM, kN, kO])) | (refine tl_is (.func 96) ?_; refine qC rfl rfl (h3) ?_; rintro v ρ' L' hle ⟨rfl, rfl, rfl⟩ <;> (try simp only [kM, kN, kO])) | (refine tl_is (.func 97) ?_; refine qC rfl rfl (h4) ?_; rintro v ρ' L' hle ⟨rfl, rfl, rfl⟩ <;> (try simp only [kM, kN, kO])) | (refine tl_is (.func 98) ?_; refine qC rfl rfl (h5) ?_; rintro v ρ' L' hle ⟨rfl, rfl, rfl⟩ <;> (try simp only [kM, kN, kO])) | (refine iBu ?_; refine tl_y (y_buildN rfl) rfl rfl ?_) | (refine i_op ?_; first | (refine i_qq ?_; refine qQ ?_) | refine qEf ?_) | refine tl_nil ?_ | (refine i_tc ?_; refine qTc ?_) | (refine i_te ?_; refine qTe ?_) | (refine i_gd ?_; refine tl_guard rfl rfl (fun hb => ?_) (fun hb => ?_) <;> (try simp only [decide_eq_true_eq, decide_eq_false_iff_not, Bool.not_eq_true, Bool.not_eq_false, beq_iff_eq, bne_iff_ne, ne_eq, decide_eq_decide, Bool.not_eq_eq_eq_not, Bool.not_true, Bool.not_false, beq_eq_false_iff_ne, bne_eq_false_iff_eq, Bool.and_eq_true, Bool.or_eq_true, Bool.and_eq_false_imp, Bool.or_eq_false_iff, bq2, bqt, bqf] at hb)) | (refine i_cond ?_; refine tc_cond rfl (fun hb => ?_) (fun hb => ?_) <;> (try simp only [decide_eq_true_eq, decide_eq_false_iff_not, Bool.not_eq_true, Bool.not_eq_false, beq_iff_eq, bne_iff_ne, ne_eq, decide_eq_decide, Bool.not_eq_eq_eq_not, Bool.not_true, Bool.not_false, beq_eq_false_iff_ne, bne_eq_false_iff_eq, Bool.and_eq_true, Bool.or_eq_true, Bool.and_eq_false_imp, Bool.or_eq_false_iff, bq2, bqt, bqf] at hb)) | intro _))
            all_goals (refine qF (L' := []) ?_; refine ⟨bool_eq ?_, rfl, rfl⟩; rw [hk]; first | omega | (simp only [decide_eq_true_eq, Bool.false_eq_true, true_iff, false_iff, true_and, and_true, beq_iff_eq, Bool.and_true, Bool.and_false, Bool.true_and, Bool.false_and, decide_true, decide_false] <;> omega))
          · skip
            have hk := hask True (by rw [if_neg k2, if_neg k3, if_neg k4, if_neg k5, if_neg k9]; simp)
            clear hask
            repeat' (first | (refine tl_is (.func 95) ?_; refine qC rfl rfl (h1) ?_; rintro v ρ' L' hle ⟨rfl, rfl, rfl⟩ <;> (try simp only [kM, kN, kO])) | (refine tl_is (.func 95) ?_; refine qC rfl rfl (h2) ?_; rintro v ρ' L' hle ⟨rfl, rfl, rfl⟩ <;> (try simp only [kM, kN, kO])) | (refine tl_is (.func 96) ?_; refine qC rfl rfl (h3) ?_; rintro v ρ' L' hle ⟨rfl, rfl, rfl⟩ <;> (try simp only [kM, kN, kO])) | (refine tl_is (.func 97) ?_; refine qC rfl rfl (h4) ?_; rintro v ρ' L' hle ⟨rfl, rfl, rfl⟩ <;> (try simp only [kM, kN, kO])) | (refine tl_is (.func 98) ?_; refine qC rfl rfl (h5) ?_; rintro v ρ' L' hle ⟨rfl, rfl, rfl⟩ <;> (try simp only [kM, kN, kO])) | (refine iBu ?_; refine tl_y (y_buildN rfl) rfl rfl ?_) | (refine i_op ?_; first | (refine i_qq ?_; refine qQ ?_) | refine qEf ?_) | refine tl_nil ?_ | (refine i_tc ?_; refine qTc ?_) | (refine i_te ?_; refine qTe ?_) | (refine i_gd ?_; refine tl_guard rfl rfl (fun hb => ?_) (fun hb => ?_) <;> (try simp only [decide_eq_true_eq, decide_eq_false_iff_not, Bool.not_eq_true, Bool.not_eq_false, beq_iff_eq, bne_iff_ne, ne_eq, decide_eq_decide, Bool.not_eq_eq_eq_not, Bool.not_true, Bool.not_false, beq_eq_false_iff_ne, bne_eq_false_iff_eq, Bool.and_eq_true, Bool.or_eq_true, Bool.and_eq_false_imp, Bool.or_eq_false_iff, bq2, bqt, bqf] at hb)) | (refine i_cond ?_; refine tc_cond rfl (fun hb => ?_) (fun hb => ?_) <;> (try simp only [decide_eq_true_eq, decide_eq_false_iff_not, Bool.not_eq_true, Bool.not_eq_false, beq_iff_eq, bne_iff_ne, ne_eq, decide_eq_decide, Bool.not_eq_eq_eq_not, Bool.not_true, Bool.not_false, beq_eq_false_iff_ne, bne_eq_false_iff_eq, Bool.and_eq_true, Bool.or_eq_true, Bool.and_eq_false_imp, Bool.or_eq_false_iff, bq2, bqt, bqf] at hb)) | intro _)
            all_goals (refine qF (L' := []) ?_; refine ⟨bool_eq ?_, rfl, rfl⟩; rw [hk]; first | omega | (simp only [decide_eq_true_eq, Bool.false_eq_true, true_iff, false_iff, true_and, and_true, beq_iff_eq, Bool.and_true, Bool.and_false, Bool.true_and, Bool.false_and, decide_true, decide_false] <;> omega))
end Go.Proofs.E

namespace Go.Proofs.E
open Go
set_option linter.unusedVariables false
set_option linter.unusedSimpArgs false
set_option linter.unusedSectionVars false
set_option maxRecDepth 4000
set_option maxHeartbeats 1000000
attribute [local irreducible] Yl TL TC TE Spec YSpec R1 Hp.le EnvLe TS TR YS Stays
-- BN
instance (priority := 1200) eqCkP {x y : CkP} : EqC Tryz.prog 8 125 (.agg ⟨ckPV x⟩) (.agg ⟨ckPV y⟩) (decide (x = y)) := by
  have h : EqC Tryz.prog 8 125 (.agg ⟨[.int .i64 x.page, .int .u64 x.since]⟩) (.agg ⟨[.int .i64 y.page, .int .u64 y.since]⟩) _ := inferInstance
  refine ⟨fun d w hd => ?_⟩
  rw [h.out d w hd]
  congr 1
  obtain ⟨t, i⟩ := x
  obtain ⟨t', i'⟩ := y
  simp only [CkP.mk.injEq, Bool.and_true, Bool.decide_and]
  have e : ((i : Int) == (i' : Int)) = decide (i = i') := by
    by_cases h : i = i'
    · subst h; simp
    · rw [decide_eq_false h]; simp only [beq_eq_false_iff_ne, ne_eq]; omega
  rw [e]
  by_cases h1 : t = t' <;> by_cases h2 : i = i' <;> simp [h1, h2]
end Go.Proofs.E

namespace Go.Proofs.E
open Go
set_option linter.unusedVariables false
set_option linter.unusedSimpArgs false
set_option linter.unusedSectionVars false
set_option maxRecDepth 4000
set_option maxHeartbeats 1000000
attribute [local irreducible] Yl TL TC TE Spec YSpec R1 Hp.le EnvLe TS TR YS Stays
-- BN
instance (priority := 1200) eqCkT {x y : CkT} : EqC Tryz.prog 8 81 (.agg ⟨ckTV x⟩) (.agg ⟨ckTV y⟩) (decide (x = y)) := by
  have h : EqC Tryz.prog 8 81 (.agg ⟨[.int .i64 x.txn, .int .u64 x.first, .int .u64 x.last, .int .u64 x.undo, .int .i64 x.state]⟩) (.agg ⟨[.int .i64 y.txn, .int .u64 y.first, .int .u64 y.last, .int .u64 y.undo, .int .i64 y.state]⟩) _ := inferInstance
  refine ⟨fun d w hd => ?_⟩
  rw [h.out d w hd]
  congr 1
  obtain ⟨t, a, b, c, s⟩ := x
  obtain ⟨t', a', b', c', s'⟩ := y
  simp only [CkT.mk.injEq, Bool.and_true, Bool.decide_and]
  have e : ∀ i i' : Nat, ((i : Int) == (i' : Int)) = decide (i = i') := fun i i' => by
    by_cases h : i = i'
    · subst h; simp
    · rw [decide_eq_false h]; simp only [beq_eq_false_iff_ne, ne_eq]; omega
  rw [e, e, e]
  have e2 : ∀ i i' : Int, (i == i') = decide (i = i') := fun i i' => by
    by_cases h : i = i' <;> simp [h]
  rw [e2, e2]
instance (priority := 1200) eqStp {x y : Stp} : EqC Tryz.prog 8 103 (.agg ⟨stpV x⟩) (.agg ⟨stpV y⟩) (decide (x = y)) := by
  have h : EqC Tryz.prog 8 103 (.agg ⟨[.int .i64 x.kind, .int .i64 x.row.t, .int .u16 x.row.id, .int .i64 x.row.val, strV x.row.note, .int .i64 x.by']⟩) (.agg ⟨[.int .i64 y.kind, .int .i64 y.row.t, .int .u16 y.row.id, .int .i64 y.row.val, strV y.row.note, .int .i64 y.by']⟩) _ := inferInstance
  refine ⟨fun d w hd => ?_⟩
  rw [h.out d w hd]
  congr 1
  obtain ⟨k, ⟨t, i, v, n⟩, b⟩ := x
  obtain ⟨k', ⟨t', i', v', n'⟩, b'⟩ := y
  simp only [Stp.mk.injEq, Row.mk.injEq, Bool.and_true, Bool.decide_and]
  have e : ∀ i i' : Nat, ((i : Int) == (i' : Int)) = decide (i = i') := fun i i' => by
    by_cases h : i = i'
    · subst h; simp
    · rw [decide_eq_false h]; simp only [beq_eq_false_iff_ne, ne_eq]; omega
  rw [e]
  have e2 : ∀ i i' : Int, (i == i') = decide (i = i') := fun i i' => by
    by_cases h : i = i' <;> simp [h]
  rw [e2, e2, e2, e2]
  simp only [Bool.and_assoc]
theorem eqCKP_spec (ρ : Hp) (s s' : SV) (l m : List CkP) (h : AS ρ 2 ckPV s l) (h' : AS ρ 2 ckPV s' m) :
    Spec Tryz.prog 108 [.slice s.a s.n s.c, .slice s'.a s'.n s'.c] ρ [] (fun v ρ' L' => v = .bool (decide (l = m)) ∧ ρ' = ρ ∧ L' = []) := by
  have hl := h.at'.len
  have hm := h'.at'.len
  have hn := h.big
  refine spec_enter Tryz.func108 rfl rfl rfl fun u R => ?_
  simp only [argsE, List.cons_append, List.nil_append]
  by_cases hne : s.n = s'.n
  · repeat' (first | (refine iBu ?_; refine tl_y (y_buildN rfl) rfl rfl ?_) | (refine i_op ?_; first | (refine i_qq ?_; refine qQ ?_) | refine qEf ?_) | refine tl_nil ?_ | (refine i_tc ?_; refine qTc ?_) | (refine i_te ?_; refine qTe ?_) | intro _)
    refine tc_loop_g [(0, _), (1, _), (12, _)] (fun (ζ : (Nat)) => [(13, .int .i64 ζ), (4, .bool false)]) (fun (ζ : (Nat)) => ρ) (fun (ζ : (Nat)) => []) (fun (ζ : (Nat)) => ζ ≤ s.n ∧ l.take ζ = m.take ζ) (fun (ζ : (Nat)) => s.n - ζ) (0) (⟨Nat.zero_le _, rfl⟩) ev_le ev_le rfl tk ?_
    rintro k hI
    try simp only [List.cons_append, List.nil_append, List.append_assoc, List.append_eq] at hI ⊢
    try dsimp only at hI ⊢
    obtain ⟨hk, hpre⟩ := hI
    by_cases hlt : k < s.n
    · obtain ⟨b, off, C, T, fr, f1, hb, hfit, hc⟩ := h.at'.get (show k < l.length by omega)
      obtain ⟨b2, off2, C2, T2, fr2, f2, hb2, hfit2, hc2⟩ := h'.at'.get (show k < m.length by omega)
      have ht1 := List.take_succ_eq_append_getElem (show k < l.length by omega)
      have ht2 := List.take_succ_eq_append_getElem (show k < m.length by omega)
      have hf : l = m → l[k]'(by omega) = m[k]'(by omega) := fun e => by subst e; rfl
      generalize l[k]'(by omega) = x at *
      generalize m[k]'(by omega) = y at *
      rw [f1, f2]
      by_cases he : x = y
      · have hd : decide (x = y) = true := decide_eq_true he
        have hpre2 : l.take (k + 1) = m.take (k + 1) := by rw [ht1, ht2, hpre, he]
        repeat' (first | (refine iBu ?_; refine tl_y (y_buildN rfl) rfl rfl ?_) | (refine i_op ?_; first | (refine i_qq ?_; refine qQ ?_) | refine qEf ?_) | refine tl_nil ?_ | (refine i_tc ?_; refine qTc ?_) | (refine i_te ?_; refine qTe ?_) | intro _)
        refine tc_any (Stays _ _ _) stays_refl ?_
        all_goals refine rMv 0 ?_
        all_goals refine rFull ?_
        all_goals refine rMv 1 ?_
        all_goals refine rIa 2 ?_
        all_goals refine rLd 3 ?_
        all_goals refine rMv 4 ?_
        all_goals refine rMv 5 ?_
        all_goals refine rIa 6 ?_
        all_goals refine rLd 7 ?_
        all_goals refine rCm 8 ?_
        all_goals refine rDone ?_
        all_goals (try simp only [hd])
        all_goals (repeat' (first | (refine iBu ?_; refine tl_y (y_buildN rfl) rfl rfl ?_) | (refine i_op ?_; first | (refine i_qq ?_; refine qQ ?_) | refine qEf ?_) | refine tl_nil ?_ | (refine i_tc ?_; refine qTc ?_) | (refine i_te ?_; refine qTe ?_) | intro _))
        all_goals rw [← f1, ← f2]
        all_goals refine te_round_g (k + 1) (⟨hlt, hpre2⟩) ev_le ev_le rfl tk inferInstance (by first | omega | (dsimp only; omega))
      · have hd : decide (x = y) = false := decide_eq_false he
        rw [decide_eq_false (fun e => he (hf e))]
        repeat' (first | (refine iBu ?_; refine tl_y (y_buildN rfl) rfl rfl ?_) | (refine i_op ?_; first | (refine i_qq ?_; refine qQ ?_) | refine qEf ?_) | refine tl_nil ?_ | (refine i_tc ?_; refine qTc ?_) | (refine i_te ?_; refine qTe ?_) | intro _)
        refine tc_any (Stays _ _ _) stays_refl ?_
        all_goals refine rMv 0 ?_
        all_goals refine rFull ?_
        all_goals refine rMv 1 ?_
        all_goals refine rIa 2 ?_
        all_goals refine rLd 3 ?_
        all_goals refine rMv 4 ?_
        all_goals refine rMv 5 ?_
        all_goals refine rIa 6 ?_
        all_goals refine rLd 7 ?_
        all_goals refine rCm 8 ?_
        all_goals refine rDone ?_
        all_goals (try simp only [hd])
        all_goals (repeat' (first | (refine iBu ?_; refine tl_y (y_buildN rfl) rfl rfl ?_) | (refine i_op ?_; first | (refine i_qq ?_; refine qQ ?_) | refine qEf ?_) | refine tl_nil ?_ | (refine i_tc ?_; refine qTc ?_) | (refine i_te ?_; refine qTe ?_) | intro _))
        all_goals exact qE (L' := []) ⟨rfl, rfl, rfl⟩
    · have hk2 : k = s.n := by omega
      subst hk2
      rw [List.take_of_length_le (by omega), List.take_of_length_le (by omega)] at hpre
      rw [decide_eq_true hpre]
      repeat' (first | (refine iBu ?_; refine tl_y (y_buildN rfl) rfl rfl ?_) | (refine i_op ?_; first | (refine i_qq ?_; refine qQ ?_) | refine qEf ?_) | refine tl_nil ?_ | (refine i_tc ?_; refine qTc ?_) | (refine i_te ?_; refine qTe ?_) | intro _)
      exact qE ⟨rfl, rfl, rfl⟩
  · rw [decide_eq_false (fun e : l = m => hne (by rw [← hl, ← hm, e]))]
    repeat' (first | (refine iBu ?_; refine tl_y (y_buildN rfl) rfl rfl ?_) | (refine i_op ?_; first | (refine i_qq ?_; refine qQ ?_) | refine qEf ?_) | refine tl_nil ?_ | (refine i_tc ?_; refine qTc ?_) | (refine i_te ?_; refine qTe ?_) | intro _)
    exact qE ⟨rfl, rfl, rfl⟩
theorem eqCKT_spec (ρ : Hp) (s s' : SV) (l m : List CkT) (h : AS ρ 5 ckTV s l) (h' : AS ρ 5 ckTV s' m) :
    Spec Tryz.prog 107 [.slice s.a s.n s.c, .slice s'.a s'.n s'.c] ρ [] (fun v ρ' L' => v = .bool (decide (l = m)) ∧ ρ' = ρ ∧ L' = []) := by
  have hl := h.at'.len
  have hm := h'.at'.len
  have hn := h.big
  refine spec_enter Tryz.func107 rfl rfl rfl fun u R => ?_
  simp only [argsE, List.cons_append, List.nil_append]
  by_cases hne : s.n = s'.n
  · repeat' (first | (refine iBu ?_; refine tl_y (y_buildN rfl) rfl rfl ?_) | (refine i_op ?_; first | (refine i_qq ?_; refine qQ ?_) | refine qEf ?_) | refine tl_nil ?_ | (refine i_tc ?_; refine qTc ?_) | (refine i_te ?_; refine qTe ?_) | intro _)
    refine tc_loop_g [(0, _), (1, _), (12, _)] (fun (ζ : (Nat)) => [(13, .int .i64 ζ), (4, .bool false)]) (fun (ζ : (Nat)) => ρ) (fun (ζ : (Nat)) => []) (fun (ζ : (Nat)) => ζ ≤ s.n ∧ l.take ζ = m.take ζ) (fun (ζ : (Nat)) => s.n - ζ) (0) (⟨Nat.zero_le _, rfl⟩) ev_le ev_le rfl tk ?_
    rintro k hI
    try simp only [List.cons_append, List.nil_append, List.append_assoc, List.append_eq] at hI ⊢
    try dsimp only at hI ⊢
    obtain ⟨hk, hpre⟩ := hI
    by_cases hlt : k < s.n
    · obtain ⟨b, off, C, T, fr, f1, hb, hfit, hc⟩ := h.at'.get (show k < l.length by omega)
      obtain ⟨b2, off2, C2, T2, fr2, f2, hb2, hfit2, hc2⟩ := h'.at'.get (show k < m.length by omega)
      have ht1 := List.take_succ_eq_append_getElem (show k < l.length by omega)
      have ht2 := List.take_succ_eq_append_getElem (show k < m.length by omega)
      have hf : l = m → l[k]'(by omega) = m[k]'(by omega) := fun e => by subst e; rfl
      generalize l[k]'(by omega) = x at *
      generalize m[k]'(by omega) = y at *
      rw [f1, f2]
      by_cases he : x = y
      · have hd : decide (x = y) = true := decide_eq_true he
        have hpre2 : l.take (k + 1) = m.take (k + 1) := by rw [ht1, ht2, hpre, he]
        repeat' (first | (refine iBu ?_; refine tl_y (y_buildN rfl) rfl rfl ?_) | (refine i_op ?_; first | (refine i_qq ?_; refine qQ ?_) | refine qEf ?_) | refine tl_nil ?_ | (refine i_tc ?_; refine qTc ?_) | (refine i_te ?_; refine qTe ?_) | intro _)
        refine tc_any (Stays _ _ _) stays_refl ?_
        all_goals refine rMv 0 ?_
        all_goals refine rFull ?_
        all_goals refine rMv 1 ?_
        all_goals refine rIa 2 ?_
        all_goals refine rLd 3 ?_
        all_goals refine rMv 4 ?_
        all_goals refine rMv 5 ?_
        all_goals refine rIa 6 ?_
        all_goals refine rLd 7 ?_
        all_goals refine rCm 8 ?_
        all_goals refine rDone ?_
        all_goals (try simp only [hd])
        all_goals (repeat' (first | (refine iBu ?_; refine tl_y (y_buildN rfl) rfl rfl ?_) | (refine i_op ?_; first | (refine i_qq ?_; refine qQ ?_) | refine qEf ?_) | refine tl_nil ?_ | (refine i_tc ?_; refine qTc ?_) | (refine i_te ?_; refine qTe ?_) | intro _))
        all_goals rw [← f1, ← f2]
        all_goals refine te_round_g (k + 1) (⟨hlt, hpre2⟩) ev_le ev_le rfl tk inferInstance (by first | omega | (dsimp only; omega))
      · have hd : decide (x = y) = false := decide_eq_false he
        rw [decide_eq_false (fun e => he (hf e))]
        repeat' (first | (refine iBu ?_; refine tl_y (y_buildN rfl) rfl rfl ?_) | (refine i_op ?_; first | (refine i_qq ?_; refine qQ ?_) | refine qEf ?_) | refine tl_nil ?_ | (refine i_tc ?_; refine qTc ?_) | (refine i_te ?_; refine qTe ?_) | intro _)
        refine tc_any (Stays _ _ _) stays_refl ?_
        all_goals refine rMv 0 ?_
        all_goals refine rFull ?_
        all_goals refine rMv 1 ?_
        all_goals refine rIa 2 ?_
        all_goals refine rLd 3 ?_
        all_goals refine rMv 4 ?_
        all_goals refine rMv 5 ?_
        all_goals refine rIa 6 ?_
        all_goals refine rLd 7 ?_
        all_goals refine rCm 8 ?_
        all_goals refine rDone ?_
        all_goals (try simp only [hd])
        all_goals (repeat' (first | (refine iBu ?_; refine tl_y (y_buildN rfl) rfl rfl ?_) | (refine i_op ?_; first | (refine i_qq ?_; refine qQ ?_) | refine qEf ?_) | refine tl_nil ?_ | (refine i_tc ?_; refine qTc ?_) | (refine i_te ?_; refine qTe ?_) | intro _))
        all_goals exact qE (L' := []) ⟨rfl, rfl, rfl⟩
    · have hk2 : k = s.n := by omega
      subst hk2
      rw [List.take_of_length_le (by omega), List.take_of_length_le (by omega)] at hpre
      rw [decide_eq_true hpre]
      repeat' (first | (refine iBu ?_; refine tl_y (y_buildN rfl) rfl rfl ?_) | (refine i_op ?_; first | (refine i_qq ?_; refine qQ ?_) | refine qEf ?_) | refine tl_nil ?_ | (refine i_tc ?_; refine qTc ?_) | (refine i_te ?_; refine qTe ?_) | intro _)
      exact qE ⟨rfl, rfl, rfl⟩
  · rw [decide_eq_false (fun e : l = m => hne (by rw [← hl, ← hm, e]))]
    repeat' (first | (refine iBu ?_; refine tl_y (y_buildN rfl) rfl rfl ?_) | (refine i_op ?_; first | (refine i_qq ?_; refine qQ ?_) | refine qEf ?_) | refine tl_nil ?_ | (refine i_tc ?_; refine qTc ?_) | (refine i_te ?_; refine qTe ?_) | intro _)
    exact qE ⟨rfl, rfl, rfl⟩
theorem eqSTP_spec (ρ : Hp) (s s' : SV) (l m : List Stp) (h : AS ρ 6 stpV s l) (h' : AS ρ 6 stpV s' m) :
    Spec Tryz.prog 106 [.slice s.a s.n s.c, .slice s'.a s'.n s'.c] ρ [] (fun v ρ' L' => v = .bool (decide (l = m)) ∧ ρ' = ρ ∧ L' = []) := by
  have hl := h.at'.len
  have hm := h'.at'.len
  have hn := h.big
  refine spec_enter Tryz.func106 rfl rfl rfl fun u R => ?_
  simp only [argsE, List.cons_append, List.nil_append]
  by_cases hne : s.n = s'.n
  · repeat' (first | (refine iBu ?_; refine tl_y (y_buildN rfl) rfl rfl ?_) | (refine i_op ?_; first | (refine i_qq ?_; refine qQ ?_) | refine qEf ?_) | refine tl_nil ?_ | (refine i_tc ?_; refine qTc ?_) | (refine i_te ?_; refine qTe ?_) | intro _)
    refine tc_loop_g [(0, _), (1, _), (12, _)] (fun (ζ : (Nat)) => [(13, .int .i64 ζ), (4, .bool false)]) (fun (ζ : (Nat)) => ρ) (fun (ζ : (Nat)) => []) (fun (ζ : (Nat)) => ζ ≤ s.n ∧ l.take ζ = m.take ζ) (fun (ζ : (Nat)) => s.n - ζ) (0) (⟨Nat.zero_le _, rfl⟩) ev_le ev_le rfl tk ?_
    rintro k hI
    try simp only [List.cons_append, List.nil_append, List.append_assoc, List.append_eq] at hI ⊢
    try dsimp only at hI ⊢
    obtain ⟨hk, hpre⟩ := hI
    by_cases hlt : k < s.n
    · obtain ⟨b, off, C, T, fr, f1, hb, hfit, hc⟩ := h.at'.get (show k < l.length by omega)
      obtain ⟨b2, off2, C2, T2, fr2, f2, hb2, hfit2, hc2⟩ := h'.at'.get (show k < m.length by omega)
      have ht1 := List.take_succ_eq_append_getElem (show k < l.length by omega)
      have ht2 := List.take_succ_eq_append_getElem (show k < m.length by omega)
      have hf : l = m → l[k]'(by omega) = m[k]'(by omega) := fun e => by subst e; rfl
      generalize l[k]'(by omega) = x at *
      generalize m[k]'(by omega) = y at *
      rw [f1, f2]
      by_cases he : x = y
      · have hd : decide (x = y) = true := decide_eq_true he
        have hpre2 : l.take (k + 1) = m.take (k + 1) := by rw [ht1, ht2, hpre, he]
        repeat' (first | (refine iBu ?_; refine tl_y (y_buildN rfl) rfl rfl ?_) | (refine i_op ?_; first | (refine i_qq ?_; refine qQ ?_) | refine qEf ?_) | refine tl_nil ?_ | (refine i_tc ?_; refine qTc ?_) | (refine i_te ?_; refine qTe ?_) | intro _)
        refine tc_any (Stays _ _ _) stays_refl ?_
        all_goals refine rMv 0 ?_
        all_goals refine rFull ?_
        all_goals refine rMv 1 ?_
        all_goals refine rIa 2 ?_
        all_goals refine rLd 3 ?_
        all_goals refine rMv 4 ?_
        all_goals refine rMv 5 ?_
        all_goals refine rIa 6 ?_
        all_goals refine rLd 7 ?_
        all_goals refine rCm 8 ?_
        all_goals refine rDone ?_
        all_goals (try simp only [hd])
        all_goals (repeat' (first | (refine iBu ?_; refine tl_y (y_buildN rfl) rfl rfl ?_) | (refine i_op ?_; first | (refine i_qq ?_; refine qQ ?_) | refine qEf ?_) | refine tl_nil ?_ | (refine i_tc ?_; refine qTc ?_) | (refine i_te ?_; refine qTe ?_) | intro _))
        all_goals rw [← f1, ← f2]
        all_goals refine te_round_g (k + 1) (⟨hlt, hpre2⟩) ev_le ev_le rfl tk inferInstance (by first | omega | (dsimp only; omega))
      · have hd : decide (x = y) = false := decide_eq_false he
        rw [decide_eq_false (fun e => he (hf e))]
        repeat' (first | (refine iBu ?_; refine tl_y (y_buildN rfl) rfl rfl ?_) | (refine i_op ?_; first | (refine i_qq ?_; refine qQ ?_) | refine qEf ?_) | refine tl_nil ?_ | (refine i_tc ?_; refine qTc ?_) | (refine i_te ?_; refine qTe ?_) | intro _)
        refine tc_any (Stays _ _ _) stays_refl ?_
        all_goals refine rMv 0 ?_
        all_goals refine rFull ?_
        all_goals refine rMv 1 ?_
        all_goals refine rIa 2 ?_
        all_goals refine rLd 3 ?_
        all_goals refine rMv 4 ?_
        all_goals refine rMv 5 ?_
        all_goals refine rIa 6 ?_
        all_goals refine rLd 7 ?_
        all_goals refine rCm 8 ?_
        all_goals refine rDone ?_
        all_goals (try simp only [hd])
        all_goals (repeat' (first | (refine iBu ?_; refine tl_y (y_buildN rfl) rfl rfl ?_) | (refine i_op ?_; first | (refine i_qq ?_; refine qQ ?_) | refine qEf ?_) | refine tl_nil ?_ | (refine i_tc ?_; refine qTc ?_) | (refine i_te ?_; refine qTe ?_) | intro _))
        all_goals exact qE (L' := []) ⟨rfl, rfl, rfl⟩
    · have hk2 : k = s.n := by omega
      subst hk2
      rw [List.take_of_length_le (by omega), List.take_of_length_le (by omega)] at hpre
      rw [decide_eq_true hpre]
      repeat' (first | (refine iBu ?_; refine tl_y (y_buildN rfl) rfl rfl ?_) | (refine i_op ?_; first | (refine i_qq ?_; refine qQ ?_) | refine qEf ?_) | refine tl_nil ?_ | (refine i_tc ?_; refine qTc ?_) | (refine i_te ?_; refine qTe ?_) | intro _)
      exact qE ⟨rfl, rfl, rfl⟩
  · rw [decide_eq_false (fun e : l = m => hne (by rw [← hl, ← hm, e]))]
    repeat' (first | (refine iBu ?_; refine tl_y (y_buildN rfl) rfl rfl ?_) | (refine i_op ?_; first | (refine i_qq ?_; refine qQ ?_) | refine qEf ?_) | refine tl_nil ?_ | (refine i_tc ?_; refine qTc ?_) | (refine i_te ?_; refine qTe ?_) | intro _)
    exact qE ⟨rfl, rfl, rfl⟩
end Go.Proofs.E

namespace Go.Proofs.E
open Go
set_option linter.unusedVariables false
set_option linter.unusedSimpArgs false
set_option linter.unusedSectionVars false
set_option maxRecDepth 4000
set_option maxHeartbeats 1000000
attribute [local irreducible] Yl TL TC TE Spec YSpec R1 Hp.le EnvLe TS TR YS Stays
/-! ## record: a record's bytes as data -/
def imB (two : Bool) (x : Im) : List UInt8 := tB x.page :: ((if two then contB x.b else []) ++ contB x.a)
def stpB (s : Stp) : List UInt8 := tB s.kind :: (if s.kind = 2 ∨ s.kind = 3 then rowB s.row else tB s.row.t :: (be 2 s.row.id ++ (if s.kind = 1 then be 8 (vN s.by') else [])))
def ckTB (t : CkT) : List UInt8 := be 4 t.txn.toNat ++ (be 8 t.first ++ (be 8 t.last ++ (be 8 t.undo ++ [tB t.state])))
def ckPB (p : CkP) : List UInt8 := tB p.page :: be 8 p.since
def listB {α : Type} (f : α → List UInt8) (l : List α) : List UInt8 := UInt8.ofNat l.length :: l.flatMap f
def recHB (r : Rc) : List UInt8 := tB r.kind :: (be 8 r.lsn ++ (be 4 r.txn.toNat ++ be 8 r.prev))
def imsB (r : Rc) : List UInt8 := listB (imB (decide (r.kind = 2))) r.ims
def recTB (r : Rc) : List UInt8 :=
  if r.kind = 2 then imsB r else if r.kind = 3 then be 8 r.next else if r.kind = 4 then be 8 r.next ++ listB stpB r.steps else if r.kind = 5 then be 8 r.next ++ imsB r
  else if r.kind = 9 then be 4 r.nextTxn.toNat ++ (listB ckTB r.txns ++ listB ckPB r.dirty) else []
def recB (r : Rc) : List UInt8 := recHB r ++ recTB r
/-- what a record is that its bytes can be laid -/
structure LayOk (r : Rc) : Prop where
  kind : 0 ≤ r.kind ∧ r.kind < 256
  lsn : r.lsn < 18446744073709551616
  prev : r.prev < 18446744073709551616
  next : r.next < 18446744073709551616
  txn : 0 ≤ r.txn ∧ r.txn < 4294967296
  nextTxn : 0 ≤ r.nextTxn ∧ r.nextTxn < 4294967296
  il : r.ims.length ≤ 16
  im : ∀ x ∈ r.ims, (0 ≤ x.page ∧ x.page < 64) ∧ contOk x.a = true ∧ contOk x.b = true
  sl : r.steps.length ≤ 2
  st : ∀ s ∈ r.steps, stepOk s = true
  tl : r.txns.length ≤ 8
  tx : ∀ t ∈ r.txns, (0 ≤ t.txn ∧ t.txn < 4294967296) ∧ t.first < 18446744073709551616 ∧ t.last < 18446744073709551616 ∧ t.undo < 18446744073709551616 ∧ 0 ≤ t.state ∧ t.state < 256
  dl : r.dirty.length ≤ 64
  di : ∀ p ∈ r.dirty, (0 ≤ p.page ∧ p.page < 64) ∧ p.since < 18446744073709551616
abbrev wrC (wb : Nat) (v : RV) (r : Rc) (w : Value) : List (Nat × Obj) := [(wb, .cells ⟨[.int .i64 r.kind, .int .u64 r.lsn, .int .i64 r.txn, .int .u64 r.prev, .int .u64 r.next, .slice v.i.a v.i.n v.i.c, .slice v.s.a v.s.n v.s.c, .int .i64 r.nextTxn, .slice v.t.a v.t.n v.t.c, .slice v.d.a v.d.n v.d.c, w]⟩ 239 (0, 0))]
abbrev OwnB (w : Value) (l : List UInt8) (sp : List Value) : Prop := OwnS w l.length (l.map u8c) sp 1
abbrev bytC (w : Value) (l : List UInt8) (sp : List Value) : List (Nat × Obj) := ownC w (l.map u8c) sp 5
/-- what a writer's function comes to: these bytes are laid -/
abbrev WrP (ρ : Hp) (wb : Nat) (v : RV) (r : Rc) (l : List UInt8) (z : Value) (ρ' : Hp) (L' : List (List (Nat × Obj))) : Prop :=
  z = .tuple ⟨[]⟩ ∧ ρ.le ρ' ∧ ∃ w' sp', OwnB w' l sp' ∧ L' = [bytC w' l sp', wrC wb v r w']
theorem put32_spec (ρ : Hp) (a : Option Addr) (n c : Nat) (l : List UInt8) (h : SIn ρ u8c a n l) (x : Nat) (hx : x < 4294967296) (hn : n ≤ 1000000) :
    Spec Tryz.prog 255 [.slice a n c, .int .u32 x] ρ [] (fun v ρ' L' => ρ' = ρ ∧ ∃ sp, OwnS v (n + 4) ((l ++ be 4 x).map u8c) sp 1 ∧ L' = [ownC v ((l ++ be 4 x).map u8c) sp 5]) := by
  have hw : IntKind.u64.wrap (x : Int) = x := wrap_id (by simp only [lo, hi]; omega)
  have hs := stand_spec ρ a n c l h x 4 (by omega) (by omega) (by omega) hn
  refine spec_enter Tryz.func255 rfl rfl rfl fun u R => ?_
  simp only [argsE, List.cons_append, List.nil_append]
  repeat' (first | (refine iCv ?_; refine tl_y (y_conv rfl) rfl rfl ?_; rw [hw]) | (refine tl_is (.func 284) ?_; refine qC rfl rfl (hs) ?_; rintro v ρ' L' hle ⟨rfl, sp, hown, rfl⟩ <;> (try simp only [kM, kN, kO])) | (refine i_op ?_; first | (refine i_qq ?_; refine qQ ?_) | refine qEf ?_) | refine tl_nil ?_ | (refine i_tc ?_; refine qTc ?_) | (refine i_te ?_; refine qTe ?_) | intro _)
  exact qE ⟨rfl, sp, hown, rfl⟩
theorem flatMap_app {α : Type} (f : α → List UInt8) (l : List α) : ∀ k (h : k < l.length), (l.take (k + 1)).flatMap f = (l.take k).flatMap f ++ f (l[k]'h) := fun k h => flatMap_take_succ f l k h
theorem wbytes_spec (ρ : Hp) (wb : Nat) (v : RV) (r : Rc) (w : Value) (l : List UInt8) (sp : List Value) (hown : OwnB w l sp) (hn : l.length ≤ 100000) (a : Option Addr) (m c : Nat) (ns : List Int) (h : SIn ρ (fun x : Int => Value.int .i64 x) a m ns) (hb : ∀ x ∈ ns, 0 ≤ x ∧ x < 256) (hm : m ≤ 10) :
    Spec Tryz.prog 193 [.pointer (some ⟨wb, 0, none⟩), .slice a m c] ρ [bytC w l sp, wrC wb v r w] (WrP ρ wb v r (l ++ ns.map tB)) := by
  have hl := h.len
  refine spec_enter Tryz.func193 rfl rfl rfl fun u R => ?_
  simp only [argsE, List.cons_append, List.nil_append]
  repeat' (first | (refine i_op ?_; first | (refine i_qq ?_; refine qQ ?_) | refine qEf ?_) | refine tl_nil ?_ | (refine i_tc ?_; refine qTc ?_) | (refine i_te ?_; refine qTe ?_) | intro _)
  rw [show bytC w l sp = bytC w (l ++ (ns.take 0).map tB) sp by simp]
  refine tc_loop_g [(0, _), (6, _), (7, _)] (fun (ζ : (Nat) × (Value) × (List Value)) => [(8, .int .i64 ζ.1)]) (fun (ζ : (Nat) × (Value) × (List Value)) => ρ) (fun (ζ : (Nat) × (Value) × (List Value)) => [bytC ζ.2.1 (l ++ (ns.take ζ.1).map tB) ζ.2.2, wrC wb v r ζ.2.1]) (fun (ζ : (Nat) × (Value) × (List Value)) => ζ.1 ≤ m ∧ OwnB ζ.2.1 (l ++ (ns.take ζ.1).map tB) ζ.2.2) (fun (ζ : (Nat) × (Value) × (List Value)) => m - ζ.1) ((0, w, sp)) (⟨Nat.zero_le _, by simpa using hown⟩) ev_le ev_le rfl tk ?_
  rintro ⟨k, w1, sp1⟩ hI
  try simp only [List.cons_append, List.nil_append, List.append_assoc, List.append_eq] at hI ⊢
  try dsimp only at hI ⊢
  obtain ⟨hk, hown1⟩ := hI
  by_cases hlt : k < m
  · obtain ⟨b, off, C, T, fr, e1, hbb, hcc⟩ := h.get (show k < ns.length by omega)
    have hts := List.take_succ_eq_append_getElem (show k < ns.length by omega)
    have hx := hb _ (List.getElem_mem (show k < ns.length by omega))
    generalize ns[k]'(by omega) = x at *
    have hxl : (l ++ (ns.take k).map tB).length ≤ 100010 := by simp; omega
    have hmm : (l ++ (ns.take k).map tB).map u8c ++ [u8c (tB x)] = (l ++ (ns.take (k + 1)).map tB).map u8c := by rw [hts]; simp
    have hll : (l ++ (ns.take k).map tB).length + 1 = (l ++ (ns.take (k + 1)).map tB).length := by rw [hts]; simp; omega
    have hxB := tB_eq hx.1 hx.2
    generalize hX : l ++ (ns.take k).map tB = X at *
    obtain ⟨va, vc, rfl, _⟩ := hown1.slice
    rw [e1]
    repeat' (first | (refine tl_buildSlice_s rfl rfl rfl rfl (by simp) rfl rfl (fun _ => ?_); simp only [hxB]) | (refine tl_app (ys := [u8c (tB x)]) (m := 1) rfl rfl hown1 (hR := by infer_instance) SrcV.lit rfl rfl (by decide) rfl (by omega) (by omega) rfl (fun v' sp' hown' => ?_); rw [hmm] at hown' ⊢; rw [hll] at hown'; obtain ⟨va', vc', rfl, _⟩ := hown'.slice) | (refine i_op ?_; first | (refine i_qq ?_; refine qQ ?_) | refine qEf ?_) | refine tl_nil ?_ | (refine i_tc ?_; refine qTc ?_) | (refine i_te ?_; refine qTe ?_) | intro _)
    rw [← e1]
    refine te_round_g (k + 1, _, sp') (⟨hlt, hown'⟩) ev_le ev_le rfl tk inferInstance (by first | omega | (dsimp only; omega))
  · have hk2 : k = m := by omega
    rw [show ns.take k = ns by rw [hk2, ← hl, List.take_length]] at hown1 ⊢
    repeat' (first | (refine i_op ?_; first | (refine i_qq ?_; refine qQ ?_) | refine qEf ?_) | refine tl_nil ?_ | (refine i_tc ?_; refine qTc ?_) | (refine i_te ?_; refine qTe ?_) | intro _)
    exact qE ⟨rfl, Hp.le_refl _, w1, sp1, hown1, rfl⟩
theorem wlongs_spec (ρ : Hp) (wb : Nat) (v : RV) (r : Rc) (w : Value) (l : List UInt8) (sp : List Value) (hown : OwnB w l sp) (hn : l.length ≤ 100000) (a : Option Addr) (m c : Nat) (ns : List Nat) (h : SIn ρ (fun x : Nat => Value.int .u64 (x : Int)) a m ns) (hb : ∀ x ∈ ns, x < 18446744073709551616) (hm : m ≤ 10) :
    Spec Tryz.prog 194 [.pointer (some ⟨wb, 0, none⟩), .slice a m c] ρ [bytC w l sp, wrC wb v r w] (WrP ρ wb v r (l ++ ns.flatMap (be 8))) := by
  have hl := h.len
  refine spec_enter Tryz.func194 rfl rfl rfl fun u R => ?_
  simp only [argsE, List.cons_append, List.nil_append]
  repeat' (first | (refine i_op ?_; first | (refine i_qq ?_; refine qQ ?_) | refine qEf ?_) | refine tl_nil ?_ | (refine i_tc ?_; refine qTc ?_) | (refine i_te ?_; refine qTe ?_) | intro _)
  rw [show bytC w l sp = bytC w (l ++ (ns.take 0).flatMap (be 8)) sp by simp]
  refine tc_loop_g [(0, _), (6, _), (7, _)] (fun (ζ : (Nat) × (Hp) × (Value) × (List Value)) => [(8, .int .i64 ζ.1)]) (fun (ζ : (Nat) × (Hp) × (Value) × (List Value)) => ζ.2.1) (fun (ζ : (Nat) × (Hp) × (Value) × (List Value)) => [bytC ζ.2.2.1 (l ++ (ns.take ζ.1).flatMap (be 8)) ζ.2.2.2, wrC wb v r ζ.2.2.1]) (fun (ζ : (Nat) × (Hp) × (Value) × (List Value)) => ζ.1 ≤ m ∧ ρ.le ζ.2.1 ∧ OwnB ζ.2.2.1 (l ++ (ns.take ζ.1).flatMap (be 8)) ζ.2.2.2) (fun (ζ : (Nat) × (Hp) × (Value) × (List Value)) => m - ζ.1) ((0, ρ, w, sp)) (⟨Nat.zero_le _, Hp.le_refl _, by simpa using hown⟩) ev_le ev_le rfl tk ?_
  rintro ⟨k, ρ1, w1, sp1⟩ hI
  try simp only [List.cons_append, List.nil_append, List.append_assoc, List.append_eq] at hI ⊢
  try dsimp only at hI ⊢
  obtain ⟨hk, hle1, hown1⟩ := hI
  by_cases hlt : k < m
  · obtain ⟨b, off, C, T, fr, e1, hbb, hcc⟩ := (h.mono hle1).get (show k < ns.length by omega)
    have hts := flatMap_app (be 8) ns k (by omega)
    have hx := hb _ (List.getElem_mem (show k < ns.length by omega))
    have hfl := flatMap_le (be 8) 8 (ns.take k) (fun x _ => Nat.le_of_eq (be_length 8 x))
    have htl : (ns.take k).length ≤ 10 := by simp; omega
    generalize ns[k]'(by omega) = x at *
    have hxl : (l ++ (ns.take k).flatMap (be 8)).length ≤ 100080 := by simp only [List.length_append]; omega
    have hmm : l ++ (ns.take k).flatMap (be 8) ++ be 8 x = l ++ (ns.take (k + 1)).flatMap (be 8) := by rw [hts]; simp
    have hll : (l ++ (ns.take k).flatMap (be 8)).length + 8 = (l ++ (ns.take (k + 1)).flatMap (be 8)).length := by rw [hts]; simp [be_length]; omega
    generalize hX : l ++ (ns.take k).flatMap (be 8) = X at *
    obtain ⟨va, vc, rfl, _⟩ := hown1.slice
    rw [e1]
    repeat' (first | (refine tl_is (.func 254) ?_; refine tl_freeze (ownC (.slice va X.length vc) (X.map u8c) sp1 5) (h := by repeat (first | exact rem_here' | apply rem_there')) (fun ρ2 hle2 hfz => ?_); obtain ⟨a1, c1, f1, hc1, hs1⟩ := hown1.sIn hfz; cases f1; refine qC rfl rfl (put64_spec _ va _ vc _ hs1 x hx (by omega)) ?_; rintro v' ρ3 L3 hle3 ⟨rfl, sp3, hown3, rfl⟩; simp only [List.cons_append, List.nil_append]; rw [hmm, hll] at hown3; rw [hmm]; obtain ⟨va', vc', rfl, _⟩ := hown3.slice) | (refine i_op ?_; first | (refine i_qq ?_; refine qQ ?_) | refine qEf ?_) | refine tl_nil ?_ | (refine i_tc ?_; refine qTc ?_) | (refine i_te ?_; refine qTe ?_) | intro _)
    rw [← e1]
    refine te_round_g (k + 1, ρ3, _, sp3) (⟨hlt, Hp.le_trans hle1 hle2, hown3⟩) ev_le ev_le rfl tk inferInstance (by first | omega | (dsimp only; omega))
  · have hk2 : k = m := by omega
    rw [show ns.take k = ns by rw [hk2, ← hl, List.take_length]] at hown1 ⊢
    repeat' (first | (refine i_op ?_; first | (refine i_qq ?_; refine qQ ?_) | refine qEf ?_) | refine tl_nil ?_ | (refine i_tc ?_; refine qTc ?_) | (refine i_te ?_; refine qTe ?_) | intro _)
    exact qE ⟨rfl, hle1, w1, sp1, hown1, rfl⟩
theorem wtxn_spec (ρ : Hp) (wb : Nat) (v : RV) (r : Rc) (w : Value) (l : List UInt8) (sp : List Value) (hown : OwnB w l sp) (hn : l.length ≤ 100000) (x : Int) (h0 : 0 ≤ x ∧ x < 4294967296) :
    Spec Tryz.prog 195 [.pointer (some ⟨wb, 0, none⟩), .int .i64 x] ρ [bytC w l sp, wrC wb v r w] (WrP ρ wb v r (l ++ be 4 x.toNat)) := by
  have hll : l.length + 4 = (l ++ be 4 x.toNat).length := by simp [be_length]
  obtain ⟨va, vc, rfl, _⟩ := hown.slice
  obtain ⟨y, rfl⟩ : ∃ y : Nat, x = y := ⟨x.toNat, by omega⟩
  simp only [Int.toNat_natCast] at hll ⊢
  refine spec_enter Tryz.func195 rfl rfl rfl fun u R => ?_
  simp only [argsE, List.cons_append, List.nil_append]
  repeat' (first | (refine tl_is (.func 255) ?_; refine tl_freeze (ownC (.slice va l.length vc) (l.map u8c) sp 5) (h := by repeat (first | exact rem_here' | apply rem_there')) (fun ρ2 hle2 hfz => ?_); obtain ⟨a1, c1, f1, hc1, hs1⟩ := hown.sIn hfz; cases f1; refine qC rfl rfl (put32_spec _ va _ vc _ hs1 y (by omega) (by omega)) ?_; rintro v' ρ3 L3 hle3 ⟨rfl, sp3, hown3, rfl⟩; simp only [List.cons_append, List.nil_append]; rw [hll] at hown3; obtain ⟨va', vc', rfl, _⟩ := hown3.slice) | (refine i_op ?_; first | (refine i_qq ?_; refine qQ ?_) | refine qEf ?_) | refine tl_nil ?_ | (refine i_tc ?_; refine qTc ?_) | (refine i_te ?_; refine qTe ?_) | intro _)
  exact qE ⟨rfl, hle2, _, sp3, hown3, rfl⟩
theorem wcontent_spec (ρ : Hp) (wb : Nat) (v : RV) (r : Rc) (w : Value) (l : List UInt8) (sp : List Value) (hown : OwnB w l sp) (hn : l.length ≤ 100000) (cv : CV) (c : Cont) (h : CI ρ cv c) (hok : contOk c = true) :
    Spec Tryz.prog 256 [.pointer (some ⟨wb, 0, none⟩), .agg ⟨contV c.kind cv⟩] ρ [bytC w l sp, wrC wb v r w] (WrP ρ wb v r (l ++ contB c)) := by
  have hce := contE_spec ρ cv c h.cin (fun r hr => (h.row r hr).id) h.kid
  rw [if_pos hok, if_pos hok] at hce
  have h82 := contB_len hok
  obtain ⟨va, vc, rfl, _⟩ := hown.slice
  refine spec_enter Tryz.func256 rfl rfl rfl fun u R => ?_
  simp only [argsE, List.cons_append, List.nil_append]
  repeat' (first | (refine tl_is (.func 285) ?_; refine qC rfl rfl (hce) ?_; rintro v ρ' L' hle ⟨hle1, a1, n1, c1, rfl, hc1, hs1, rfl⟩ <;> (try simp only [kM, kN, kO])) | (have hn1 := hs1.len; refine tl_app (ys := (contB c).map u8c) (m := n1) (sz := 1) rfl rfl hown (hR := by infer_instance) (SIn.srcV hs1) (by simpa using hs1.len) (u8c_one _) (by decide) rfl (by omega) (by omega) rfl (fun v' sp' hown' => ?_); rw [← List.map_append] at hown' ⊢; rw [← hs1.len, ← List.length_append] at hown'; obtain ⟨va', vc', rfl, _⟩ := hown'.slice) | (refine i_op ?_; first | (refine i_qq ?_; refine qQ ?_) | refine qEf ?_) | refine tl_nil ?_ | (refine i_tc ?_; refine qTc ?_) | (refine i_te ?_; refine qTe ?_) | intro _)
  exact qE ⟨rfl, hle1, _, sp', hown', rfl⟩
theorem sIn_lit {α : Type} {g : α → Value} {ρ : Hp} {b : Nat} {l : List α} {T : TypeId} {fr : Nat × Nat} (h : ρ b = some (.cells ⟨l.map g⟩ T fr)) : SIn ρ g (some ⟨b, 0, none⟩) l.length l :=
  ⟨rfl, .inr ⟨b, 0, _, T, fr, rfl, h, by rw [List.drop_zero, List.take_of_length_le (by simp)]⟩⟩
abbrev iV (x : Int) : Value := .int .i64 x
abbrev lV (x : Nat) : Value := .int .u64 (x : Int)
theorem wbyte_spec (ρ : Hp) (wb : Nat) (v : RV) (r : Rc) (w : Value) (l : List UInt8) (sp : List Value) (hown : OwnB w l sp) (hn : l.length ≤ 100000) (b : Nat) (x : Int) {T : TypeId} {fr : Nat × Nat} (h : ρ b = some (.cells ⟨[.int .i64 x]⟩ T fr)) (hb : 0 ≤ x ∧ x < 256) :
    Spec Tryz.prog 193 [.pointer (some ⟨wb, 0, none⟩), .slice (some ⟨b, 0, none⟩) 1 1] ρ [bytC w l sp, wrC wb v r w] (WrP ρ wb v r (l ++ [tB x])) :=
  wbytes_spec ρ wb v r w l sp hown hn _ 1 1 [x] (sIn_lit (l := [x]) (g := iV) h) (fun y hy => by rw [List.mem_singleton.1 hy]; exact hb) (by decide)
theorem wlong_spec (ρ : Hp) (wb : Nat) (v : RV) (r : Rc) (w : Value) (l : List UInt8) (sp : List Value) (hown : OwnB w l sp) (hn : l.length ≤ 100000) (b : Nat) (x : Nat) {T : TypeId} {fr : Nat × Nat} (h : ρ b = some (.cells ⟨[.int .u64 (x : Int)]⟩ T fr)) (hb : x < 18446744073709551616) :
    Spec Tryz.prog 194 [.pointer (some ⟨wb, 0, none⟩), .slice (some ⟨b, 0, none⟩) 1 1] ρ [bytC w l sp, wrC wb v r w] (WrP ρ wb v r (l ++ be 8 x)) := by
  have := wlongs_spec ρ wb v r w l sp hown hn _ 1 1 [x] (sIn_lit (l := [x]) (g := lV) h) (fun y hy => by rw [List.mem_singleton.1 hy]; exact hb) (by decide)
  simpa only [List.flatMap_cons, List.flatMap_nil, List.append_nil] using this
theorem wlong3_spec (ρ : Hp) (wb : Nat) (v : RV) (r : Rc) (w : Value) (l : List UInt8) (sp : List Value) (hown : OwnB w l sp) (hn : l.length ≤ 100000) (b : Nat) (x y z : Nat) {T : TypeId} {fr : Nat × Nat} (h : ρ b = some (.cells ⟨[.int .u64 (x : Int), .int .u64 (y : Int), .int .u64 (z : Int)]⟩ T fr)) (hx : x < 18446744073709551616) (hy : y < 18446744073709551616) (hz : z < 18446744073709551616) :
    Spec Tryz.prog 194 [.pointer (some ⟨wb, 0, none⟩), .slice (some ⟨b, 0, none⟩) 3 3] ρ [bytC w l sp, wrC wb v r w] (WrP ρ wb v r (l ++ (be 8 x ++ (be 8 y ++ be 8 z)))) := by
  have := wlongs_spec ρ wb v r w l sp hown hn _ 3 3 [x, y, z] (sIn_lit (l := [x, y, z]) (g := lV) h) (fun q hq => by simp at hq; rcases hq with rfl | rfl | rfl <;> assumption) (by decide)
  simpa only [List.flatMap_cons, List.flatMap_nil, List.append_nil] using this
theorem wnested_spec (ρ : Hp) (wb : Nat) (v : RV) (r : Rc) (w : Value) (l : List UInt8) (sp : List Value) (hown : OwnB w l sp) (hn : l.length ≤ 90000) (h0 : r.next < 18446744073709551616) :
    Spec Tryz.prog 197 [.pointer (some ⟨wb, 0, none⟩)] ρ [bytC w l sp, wrC wb v r w] (WrP ρ wb v r (l ++ be 8 r.next)) := by
  have hρ := Hp.le_refl ρ
  refine spec_enter Tryz.func197 rfl rfl rfl fun u R => ?_
  simp only [argsE, List.cons_append, List.nil_append]
  repeat' (first | (refine tl_buildSlice_s rfl rfl rfl rfl (by simp) rfl rfl (fun bs => ?_); refine tl_freeze _ (h := Rem.here) (fun ρz hlz hfz => ?_); have hbs := hfz _ (List.mem_singleton.2 rfl); clear hfz; have hρ := Hp.le_trans hρ hlz; clear hlz; (try simp only [List.nil_append])) | (refine tl_is (.func 194) ?_; refine qC rfl rfl (wlong_spec _ wb v r w l sp hown (by omega) _ r.next hbs h0) ?_; rintro v ρ' L' hle ⟨rfl, hl1, w1, sp1, hown, rfl⟩ <;> (try simp only [kM, kN, kO])) | (refine i_op ?_; first | (refine i_qq ?_; refine qQ ?_) | refine qEf ?_) | refine tl_nil ?_ | (refine i_tc ?_; refine qTc ?_) | (refine i_te ?_; refine qTe ?_) | intro _)
  exact qE ⟨rfl, Hp.le_trans hρ hl1, w1, sp1, hown, rfl⟩
end Go.Proofs.E

namespace Go.Proofs.E
open Go
set_option linter.unusedVariables false
set_option linter.unusedSimpArgs false
set_option linter.unusedSectionVars false
set_option maxRecDepth 4000
set_option maxHeartbeats 1000000
attribute [local irreducible] Yl TL TC TE Spec YSpec R1 Hp.le EnvLe TS TR YS Stays
theorem imB_len {two : Bool} {x : Im} (ha : contOk x.a = true) (hb : contOk x.b = true) : (imB two x).length ≤ 165 := by
  have h1 := contB_len ha
  have h2 := contB_len hb
  cases two <;> simp [imB] <;> omega
theorem wimages_spec (ρ : Hp) (wb : Nat) (v : RV) (r : Rc) (w : Value) (l : List UInt8) (sp : List Value) (hown : OwnB w l sp) (hn : l.length ≤ 80000) (h : RcIn ρ v r) (hL : LayOk r) :
    Spec Tryz.prog 196 [.pointer (some ⟨wb, 0, none⟩)] ρ [bytC w l sp, wrC wb v r w] (WrP ρ wb v r (l ++ imsB r)) := by
  have hρ := Hp.le_refl ρ
  have hA := h.i.at'
  have hl := hA.len
  have hil := hL.il
  refine spec_enter Tryz.func196 rfl rfl rfl fun u R => ?_
  simp only [argsE, List.cons_append, List.nil_append]
  repeat' (first | (refine tl_buildSlice_s rfl rfl rfl rfl (by simp) rfl rfl (fun bs => ?_); refine tl_freeze _ (h := Rem.here) (fun ρz hlz hfz => ?_); have hbs := hfz _ (List.mem_singleton.2 rfl); clear hfz; have hρ := Hp.le_trans hρ hlz; clear hlz; (try simp only [List.nil_append])) | (refine tl_is (.func 193) ?_; refine qC rfl rfl (wbyte_spec _ wb v r w l sp hown (by omega) _ (v.i.n : Int) hbs (by omega)) ?_; rintro v ρ' L' hle ⟨rfl, hl1, w1, sp1, hown, rfl⟩ <;> (try simp only [kM, kN, kO]); have hρ := Hp.le_trans hρ hl1; clear hl1) | (refine i_op ?_; first | (refine i_qq ?_; refine qQ ?_) | refine qEf ?_) | refine tl_nil ?_ | (refine i_tc ?_; refine qTc ?_) | (refine i_te ?_; refine qTe ?_) | intro _)
  obtain ⟨B, hB⟩ : ∃ B, l ++ [tB (v.i.n : Int)] = B := ⟨_, rfl⟩
  rw [hB] at hown ⊢
  have hBl : B.length ≤ 80001 := by rw [← hB]; simp; omega
  have hfin : B ++ r.ims.flatMap (imB (decide (r.kind = 2))) = l ++ imsB r := by rw [← hB]; simp [imsB, listB, hl, tB]
  generalize hf : imB (decide (r.kind = 2)) = f at *
  rw [show bytC w1 B sp1 = bytC w1 (B ++ (r.ims.take 0).flatMap f) sp1 by simp]
  refine tc_loop_g [(0, _), (17, _), (18, _)] (fun (ζ : (Nat) × (Hp) × (Value) × (List Value)) => [(19, .int .i64 ζ.1)]) (fun (ζ : (Nat) × (Hp) × (Value) × (List Value)) => ζ.2.1) (fun (ζ : (Nat) × (Hp) × (Value) × (List Value)) => [bytC ζ.2.2.1 (B ++ (r.ims.take ζ.1).flatMap f) ζ.2.2.2, wrC wb v r ζ.2.2.1]) (fun (ζ : (Nat) × (Hp) × (Value) × (List Value)) => ζ.1 ≤ v.i.n ∧ ρ.le ζ.2.1 ∧ OwnB ζ.2.2.1 (B ++ (r.ims.take ζ.1).flatMap f) ζ.2.2.2) (fun (ζ : (Nat) × (Hp) × (Value) × (List Value)) => v.i.n - ζ.1) ((0, ρ', w1, sp1)) (⟨Nat.zero_le _, hρ, by simpa using hown⟩) ev_le ev_le rfl tk ?_
  rintro ⟨k, ρ1, w2, sp2⟩ hI
  try simp only [List.cons_append, List.nil_append, List.append_assoc, List.append_eq] at hI ⊢
  try dsimp only at hI ⊢
  obtain ⟨hk, hle1, hown⟩ := hI
  clear hρ
  by_cases hlt : k < v.i.n
  · obtain ⟨b, off, C, T, fr, e1, hbb, hfit, hcc⟩ := (hA.mono hle1).get (show k < r.ims.length by omega)
    have hts := flatMap_app f r.ims k (by omega)
    have hmem := List.getElem_mem (show k < r.ims.length by omega)
    have hin := (h.im _ hmem).mono hle1
    obtain ⟨hp, ha, hb⟩ := hL.im _ hmem
    have hfl := flatMap_le f 165 (r.ims.take k) (fun x hx => by
      rw [← hf]; exact imB_len (hL.im x (List.mem_of_mem_take hx)).2.1 (hL.im x (List.mem_of_mem_take hx)).2.2)
    have htl : (r.ims.take k).length ≤ 16 := by simp; omega
    generalize r.ims[k]'(by omega) = x at *
    have hxl : (B ++ (r.ims.take k).flatMap f).length ≤ 83000 := by simp only [List.length_append]; omega
    have hmm : B ++ (r.ims.take k).flatMap f ++ f x = B ++ (r.ims.take (k + 1)).flatMap f := by rw [hts]; simp
    generalize hX : B ++ (r.ims.take k).flatMap f = X at *
    have hρ := Hp.le_refl ρ1
    have h82 := contB_len hb
    have h83 := contB_len ha
    rw [e1]
    by_cases h2 : r.kind = 2
    · have hfx : f x = tB x.page :: (contB x.b ++ contB x.a) := by rw [← hf, h2]; rfl
      repeat' (first | (refine tl_buildSlice_s rfl rfl rfl rfl (by simp) rfl rfl (fun bs => ?_); refine tl_freeze _ (h := Rem.here) (fun ρz hlz hfz => ?_); have hbs := hfz _ (List.mem_singleton.2 rfl); clear hfz; have hρ := Hp.le_trans hρ hlz; clear hlz; (try simp only [List.nil_append])) | (refine tl_is (.func 193) ?_; refine qC rfl rfl (wbyte_spec _ wb v r w2 X sp2 hown (by omega) _ x.page hbs (by omega)) ?_; rintro v ρ' L' hle ⟨rfl, hl1, w3, sp3, hown, rfl⟩ <;> (try simp only [kM, kN, kO]); have hρ := Hp.le_trans hρ hl1; clear hl1) | (refine tl_is (.func 256) ?_; refine qC rfl rfl ((wcontent_spec _ wb v r w3 _ sp3 hown (by (try simp only [List.length_append, List.length_cons, List.length_nil, List.length_map, be_length]) <;> omega) x.bv x.b (hin.b.mono hρ) hb)) ?_; rintro v ρ' L' hle ⟨rfl, hl1, w4, sp4, hown, rfl⟩ <;> (try simp only [kM, kN, kO]); have hρ := Hp.le_trans hρ hl1; clear hl1) | (refine tl_is (.func 256) ?_; refine qC rfl rfl ((wcontent_spec _ wb v r w4 _ sp4 hown (by (try simp only [List.length_append, List.length_cons, List.length_nil, List.length_map, be_length]) <;> omega) x.av x.a (hin.a.mono hρ) ha)) ?_; rintro v ρ' L' hle ⟨rfl, hl1, w5, sp5, hown, rfl⟩ <;> (try simp only [kM, kN, kO]); have hρ := Hp.le_trans hρ hl1; clear hl1) | (refine i_op ?_; first | (refine i_qq ?_; refine qQ ?_) | refine qEf ?_) | refine tl_nil ?_ | (refine i_tc ?_; refine qTc ?_) | (refine i_te ?_; refine qTe ?_) | intro _)
      rw [← e1]
      have e2 : X ++ [tB x.page] ++ contB x.b ++ contB x.a = B ++ (r.ims.take (k + 1)).flatMap f := by rw [← hmm, hfx]; simp
      rw [e2] at hown ⊢
      refine te_round_g (k + 1, _, w5, sp5) (⟨hlt, Hp.le_trans hle1 hρ, hown⟩) ev_le ev_le rfl tk inferInstance (by first | omega | (dsimp only; omega))
    · have hfx : f x = tB x.page :: contB x.a := by rw [← hf, decide_eq_false h2]; rfl
      repeat' (first | (refine tl_buildSlice_s rfl rfl rfl rfl (by simp) rfl rfl (fun bs => ?_); refine tl_freeze _ (h := Rem.here) (fun ρz hlz hfz => ?_); have hbs := hfz _ (List.mem_singleton.2 rfl); clear hfz; have hρ := Hp.le_trans hρ hlz; clear hlz; (try simp only [List.nil_append])) | (refine tl_is (.func 193) ?_; refine qC rfl rfl (wbyte_spec _ wb v r w2 X sp2 hown (by omega) _ x.page hbs (by omega)) ?_; rintro v ρ' L' hle ⟨rfl, hl1, w3, sp3, hown, rfl⟩ <;> (try simp only [kM, kN, kO]); have hρ := Hp.le_trans hρ hl1; clear hl1) | (refine tl_is (.func 256) ?_; refine qC rfl rfl ((wcontent_spec _ wb v r w3 _ sp3 hown (by (try simp only [List.length_append, List.length_cons, List.length_nil, List.length_map, be_length]) <;> omega) x.av x.a (hin.a.mono hρ) ha)) ?_; rintro v ρ' L' hle ⟨rfl, hl1, w5, sp5, hown, rfl⟩ <;> (try simp only [kM, kN, kO]); have hρ := Hp.le_trans hρ hl1; clear hl1) | (refine i_op ?_; first | (refine i_qq ?_; refine qQ ?_) | refine qEf ?_) | refine tl_nil ?_ | (refine i_tc ?_; refine qTc ?_) | (refine i_te ?_; refine qTe ?_) | intro _)
      rw [← e1]
      have e2 : X ++ [tB x.page] ++ contB x.a = B ++ (r.ims.take (k + 1)).flatMap f := by rw [← hmm, hfx]; simp
      rw [e2] at hown ⊢
      refine te_round_g (k + 1, _, w5, sp5) (⟨hlt, Hp.le_trans hle1 hρ, hown⟩) ev_le ev_le rfl tk inferInstance (by first | omega | (dsimp only; omega))
  · rw [show r.ims.take k = r.ims by rw [show k = r.ims.length by omega, List.take_length], hfin] at hown ⊢
    repeat' (first | (refine i_op ?_; first | (refine i_qq ?_; refine qQ ?_) | refine qEf ?_) | refine tl_nil ?_ | (refine i_tc ?_; refine qTc ?_) | (refine i_te ?_; refine qTe ?_) | intro _)
    exact qE ⟨rfl, hle1, w2, sp2, hown, rfl⟩
theorem wundone_spec (ρ : Hp) (wb : Nat) (v : RV) (r : Rc) (w : Value) (l : List UInt8) (sp : List Value) (hown : OwnB w l sp) (hn : l.length ≤ 70000) (h : RcIn ρ v r) (hL : LayOk r) :
    Spec Tryz.prog 199 [.pointer (some ⟨wb, 0, none⟩)] ρ [bytC w l sp, wrC wb v r w] (WrP ρ wb v r (l ++ (be 8 r.next ++ imsB r))) := by
  refine spec_enter Tryz.func199 rfl rfl rfl fun u R => ?_
  simp only [argsE, List.cons_append, List.nil_append]
  repeat' (first | (refine tl_is (.func 197) ?_; refine qC rfl rfl (wnested_spec _ wb v r w l sp hown (by omega) hL.next) ?_; rintro v ρ' L' hle ⟨rfl, hl1, w1, sp1, hown, rfl⟩ <;> (try simp only [kM, kN, kO])) | (refine tl_is (.func 196) ?_; refine qC rfl rfl (wimages_spec _ wb v r w1 _ sp1 hown (by (try simp only [List.length_append, List.length_cons, List.length_nil, List.length_map, be_length]) <;> omega) (h.mono hl1) hL) ?_; rintro v ρ' L' hle ⟨rfl, hl2, w2, sp2, hown, rfl⟩ <;> (try simp only [kM, kN, kO])) | (refine i_op ?_; first | (refine i_qq ?_; refine qQ ?_) | refine qEf ?_) | refine tl_nil ?_ | (refine i_tc ?_; refine qTc ?_) | (refine i_te ?_; refine qTe ?_) | intro _)
  rw [List.append_assoc] at hown ⊢
  exact qE ⟨rfl, Hp.le_trans hl1 hl2, w2, sp2, hown, rfl⟩
end Go.Proofs.E

namespace Go.Proofs.E
open Go
set_option linter.unusedVariables false
set_option linter.unusedSimpArgs false
set_option linter.unusedSectionVars false
set_option maxRecDepth 4000
set_option maxHeartbeats 1000000
attribute [local irreducible] Yl TL TC TE Spec YSpec R1 Hp.le EnvLe TS TR YS Stays
/-! ## record: what bytes say, as data -/
def rdN (k : Nat) (s : RS3) : Nat × RS3 := ((numR k s.1 s.2.1).1, (numR k s.1 s.2.1).2.1, (numR k s.1 s.2.1).2.2, s.2.2)
def okS (s : RS3) : Bool := !s.2.2 && decide (s.2.1 = 0)
def skipS (n : Int) (s : RS3) : RS3 := ((rawR n.toNat s.1 s.2.1).2.1, (rawR n.toNat s.1 s.2.1).2.2, s.2.2)
def tkT {α : Type} (t : List UInt8 → α × Int × Int) (z : α) (s : RS3) : α × RS3 := if okS s then (if (t s.1).2.2 = 0 then ((t s.1).1, skipS (t s.1).2.1 s) else (z, s.1, s.2.1, true)) else (z, s)
abbrev ztC : Cont := ⟨0, [], []⟩
abbrev ztR : Row := ⟨0, 0, 0, []⟩
abbrev nilCV : CV := ⟨none, 0, 0, none, 0, 0⟩
def imDb (two : Bool) (s : RS3) : Cont × RS3 := if two then tkT takeContR ztC s else (ztC, s)
def imDa (two : Bool) (p : Nat) (s : RS3) : Im × RS3 := (⟨p, nilCV, (imDb two s).1, nilCV, (tkT takeContR ztC (imDb two s).2).1⟩, (tkT takeContR ztC (imDb two s).2).2)
def imD (two : Bool) (s : RS3) : Im × RS3 := imDa two (rdN 1 s).1 (rdN 1 s).2
def stpDr (k : Nat) (s : RS3) : Stp × RS3 := (⟨k, (tkT takeRowR ztR s).1, 0⟩, (tkT takeRowR ztR s).2)
def stpDb (k t i : Nat) (s : RS3) : Stp × RS3 := if k = 1 then (⟨k, ⟨t, i, 0, []⟩, i64N (rdN 8 s).1⟩, (rdN 8 s).2) else (⟨k, ⟨t, i, 0, []⟩, 0⟩, s)
def stpDi (k t : Nat) (s : RS3) : Stp × RS3 := stpDb k t (rdN 2 s).1 (rdN 2 s).2
def stpDt (k : Nat) (s : RS3) : Stp × RS3 := if k = 2 ∨ k = 3 then stpDr k s else stpDi k (rdN 1 s).1 (rdN 1 s).2
def stpD (s : RS3) : Stp × RS3 := stpDt (rdN 1 s).1 (rdN 1 s).2
def ckTe (t f l u : Nat) (s : RS3) : CkT × RS3 := (⟨t, f, l, u, (rdN 1 s).1⟩, (rdN 1 s).2)
def ckTu (t f l : Nat) (s : RS3) : CkT × RS3 := ckTe t f l (rdN 8 s).1 (rdN 8 s).2
def ckTl (t f : Nat) (s : RS3) : CkT × RS3 := ckTu t f (rdN 8 s).1 (rdN 8 s).2
def ckTf (t : Nat) (s : RS3) : CkT × RS3 := ckTl t (rdN 8 s).1 (rdN 8 s).2
def ckTD (s : RS3) : CkT × RS3 := ckTf (rdN 4 s).1 (rdN 4 s).2
def ckPr (p : Nat) (s : RS3) : CkP × RS3 := (⟨p, (rdN 8 s).1⟩, (rdN 8 s).2)
def ckPD (s : RS3) : CkP × RS3 := ckPr (rdN 1 s).1 (rdN 1 s).2
def manyS {α : Type} (f : RS3 → α × RS3) : Nat → RS3 → List α × RS3
  | 0, s => ([], s)
  | n + 1, s => if okS s then ((f s).1 :: (manyS f n (f s).2).1, (manyS f n (f s).2).2) else ([], s)
def manyD {α : Type} (f : RS3 → α × RS3) (s : RS3) : List α × RS3 := manyS f (rdN 1 s).1 (rdN 1 s).2
def hdP (k l t : Nat) (s : RS3) : Rc × RS3 := (⟨k, l, t, (rdN 8 s).1, 0, [], [], 0, [], []⟩, (rdN 8 s).2)
def hdT (k l : Nat) (s : RS3) : Rc × RS3 := hdP k l (rdN 4 s).1 (rdN 4 s).2
def hdL (k : Nat) (s : RS3) : Rc × RS3 := hdT k (rdN 8 s).1 (rdN 8 s).2
def headD (s : RS3) : Rc × RS3 := hdL (rdN 1 s).1 (rdN 1 s).2
def chD (r : Rc) (s : RS3) : Rc × RS3 := ({ r with ims := (manyD (imD (decide (r.kind = 2))) s).1 }, (manyD (imD (decide (r.kind = 2))) s).2)
def neD (r : Rc) (s : RS3) : Rc × RS3 := ({ r with next := (rdN 8 s).1 }, (rdN 8 s).2)
def doD (r : Rc) (s : RS3) : Rc × RS3 := ({ r with steps := (manyD stpD s).1 }, (manyD stpD s).2)
def cxD (r : Rc) (s : RS3) : Rc × RS3 := ({ r with nextTxn := (rdN 4 s).1 }, (rdN 4 s).2)
def ctD (r : Rc) (s : RS3) : Rc × RS3 := ({ r with txns := (manyD ckTD s).1 }, (manyD ckTD s).2)
def cdD (r : Rc) (s : RS3) : Rc × RS3 := ({ r with dirty := (manyD ckPD s).1 }, (manyD ckPD s).2)
abbrev thenD (f g : Rc → RS3 → Rc × RS3) (r : Rc) (s : RS3) : Rc × RS3 := g (f r s).1 (f r s).2
def tailD (r : Rc) (s : RS3) : Rc × RS3 :=
  if r.kind = 2 then chD r s else if r.kind = 3 then neD r s else if r.kind = 4 then thenD neD doD r s else if r.kind = 5 then thenD neD chD r s
  else if r.kind = 9 then thenD (thenD cxD ctD) cdD r s else (r, s)
def decD (l : List UInt8) : Rc × RS3 := tailD (headD (l, 0, false)).1 (headD (l, 0, false)).2
def decOk (l : List UInt8) : Bool := okS (decD l).2 && (decide ((decD l).2.1.length = 0) && recOk (decD l).1)
def zeroRc : Rc := ⟨0, 0, 0, 0, 0, [], [], 0, [], []⟩
def decR (l : List UInt8) : Rc := if decOk l then (decD l).1 else zeroRc
/-! ## forth and back -/
abbrev FwB {α : Type} (f : RS3 → α × RS3) (enc : α → List UInt8) (x : α) : Prop := ∀ rest, f (enc x ++ rest, 0, false) = (x, rest, 0, false)
theorem rdN_fw {k x : Nat} (h : x < 256 ^ k) (rest : List UInt8) : rdN k (be k x ++ rest, 0, false) = (x, rest, 0, false) := by
  unfold rdN
  simp only [numR_app (be_length k x), unbe_be, Nat.mod_eq_of_lt h]
theorem tkC_fw {c : Cont} (h : contOk c = true) (hf : IdFit c) (rest : List UInt8) : tkT takeContR ztC (contB c ++ rest, 0, false) = (c, rest, 0, false) := by
  unfold tkT
  rw [if_pos (show okS (contB c ++ rest, 0, false) = true from rfl)]
  simp only [takeCont_back h hf rest, if_true, skipS, Int.toNat_natCast]
  unfold rawR
  rw [if_neg (by simp), if_neg (by simp), List.drop_left' rfl]
theorem tkR_fw {c : Row} (h : rowOk c = true) (hf : RowFit c) (rest : List UInt8) : tkT takeRowR ztR (rowB c ++ rest, 0, false) = (c, rest, 0, false) := by
  unfold tkT
  rw [if_pos (show okS (rowB c ++ rest, 0, false) = true from rfl)]
  simp only [takeRow_back h hf rest, if_true, skipS, Int.toNat_natCast]
  unfold rawR
  rw [if_neg (by simp), if_neg (by simp), List.drop_left' rfl]
theorem manyS_fw {α : Type} {f : RS3 → α × RS3} {enc : α → List UInt8} : ∀ (xs : List α), (∀ x ∈ xs, FwB f enc x) → ∀ rest, manyS f xs.length (xs.flatMap enc ++ rest, 0, false) = (xs, rest, 0, false)
  | [], _, rest => rfl
  | x :: xs, h, rest => by
    rw [List.length_cons, manyS, if_pos (by rfl), List.flatMap_cons, List.append_assoc, h x (by simp)]
    simp only [manyS_fw xs (fun y hy => h y (by simp [hy])) rest]
theorem manyD_fw {α : Type} {f : RS3 → α × RS3} {enc : α → List UInt8} {xs : List α} (hl : xs.length ≤ 255) (h : ∀ x ∈ xs, FwB f enc x) : FwB (manyD f) (listB enc) xs := by
  intro rest
  unfold manyD listB
  have e : (UInt8.ofNat xs.length :: xs.flatMap enc) ++ rest = be 1 xs.length ++ (xs.flatMap enc ++ rest) := by rw [be_one]; simp
  rw [e, rdN_fw (by omega)]
  exact manyS_fw xs h rest
end Go.Proofs.E

namespace Go.Proofs.E
open Go
set_option linter.unusedVariables false
set_option linter.unusedSimpArgs false
set_option linter.unusedSectionVars false
set_option maxRecDepth 4000
set_option maxHeartbeats 1000000
attribute [local irreducible] Yl TL TC TE Spec YSpec R1 Hp.le EnvLe TS TR YS Stays
abbrev Im.plain (x : Im) : Im := ⟨x.page, nilCV, x.b, nilCV, x.a⟩
abbrev Rc.plain (r : Rc) : Rc := { r with ims := r.ims.map Im.plain }
theorem imD_fw {two : Bool} {x : Im} (hp : 0 ≤ x.page ∧ x.page < 64) (ha : contOk x.a = true) (hb : contOk x.b = true) (fa : IdFit x.a) (fb : IdFit x.b) (h0 : two = false → x.b = ztC) : FwB (imD two) (imB two) x.plain := by
  intro rest
  have e : imB two x.plain ++ rest = be 1 x.page.toNat ++ ((if two then contB x.b else []) ++ (contB x.a ++ rest)) := by
    rw [be_one]; simp [imB, tB]
  unfold imD
  rw [e, rdN_fw (by omega)]
  unfold imDa
  have e2 : imDb two ((if two then contB x.b else []) ++ (contB x.a ++ rest), 0, false) = (x.b, contB x.a ++ rest, 0, false) := by
    unfold imDb
    cases two
    · rw [h0 rfl]; rfl
    · simp only [if_true]; exact tkC_fw hb fb _
  simp only [e2, tkC_fw ha fa rest, Prod.mk.injEq, and_true]
  have : ((x.page.toNat : Nat) : Int) = x.page := by omega
  rw [this]
structure StpF (s : Stp) : Prop where
  row : RowFit s.row
  by' : i64in s.by'
theorem stpD_fw {s : Stp} (hs : stepOk s = true) (hf : StpF s) : FwB stpD stpB s := by
  intro rest
  obtain ⟨k, ⟨t, id, val, note⟩, b⟩ := s
  obtain ⟨⟨hid, hval⟩, hby⟩ := hf
  dsimp only at hid hval hby
  have hk : k = 1 ∨ k = 2 ∨ k = 3 ∨ k = 4 := by
    unfold stepOk at hs
    dsimp only at hs
    by_cases h1 : k = 1 <;> by_cases h2 : k = 2 <;> by_cases h3 : k = 3 <;> by_cases h4 : k = 4 <;> simp_all
  have hlead : ∀ X, stpD (tB k :: X, 0, false) = stpDt k.toNat (X, 0, false) := fun X => by
    unfold stpD
    have e : tB k :: X = be 1 k.toNat ++ X := by rw [be_one]; rfl
    rw [e, rdN_fw (by omega)]
  unfold stpB
  rw [List.cons_append, hlead]
  have hkk : ((k.toNat : Nat) : Int) = k := by omega
  by_cases h23 : k = 2 ∨ k = 3
  · have hok : b = 0 ∧ rowOk ⟨t, id, val, note⟩ = true := by
      unfold stepOk at hs
      dsimp only at hs
      rw [if_neg (by omega), if_neg (by omega), if_pos h23, Bool.and_eq_true, decide_eq_true_eq] at hs
      exact hs
    rw [if_pos h23]
    unfold stpDt stpDr
    rw [if_pos (by omega), tkR_fw hok.2 ⟨hid, hval⟩]
    simp only [hkk, hok.1]
  · rw [if_neg h23]
    have hon : onlyOk ⟨k, ⟨t, id, val, note⟩, b⟩ = true ∧ (k ≠ 1 → b = 0) := by
      unfold stepOk at hs
      dsimp only at hs
      by_cases h1 : k = 1
      · rw [if_pos h1] at hs; exact ⟨hs, fun h => absurd h1 h⟩
      · rw [if_neg h1, if_pos (by omega), Bool.and_eq_true, decide_eq_true_eq] at hs
        exact ⟨hs.1, fun _ => hs.2⟩
    obtain ⟨hon, hb0⟩ := hon
    unfold onlyOk at hon
    rw [Bool.and_eq_true, decide_eq_true_eq, decide_eq_true_eq] at hon
    obtain ⟨⟨g1, g2⟩, g3, g4⟩ := hon
    dsimp only at g1 g2 g3 g4
    subst g1 g2
    unfold stpDt
    rw [if_neg (by omega)]
    have e : tB t :: (be 2 id ++ (if k = 1 then be 8 (vN b) else [])) ++ rest = be 1 t.toNat ++ (be 2 id ++ ((if k = 1 then be 8 (vN b) else []) ++ rest)) := by rw [be_one]; simp [tB]
    dsimp only
    rw [e, rdN_fw (by omega)]
    unfold stpDi
    rw [rdN_fw (by omega)]
    unfold stpDb
    have htt : ((t.toNat : Nat) : Int) = t := by omega
    by_cases h1 : k = 1
    · rw [if_pos h1, if_pos (by omega), rdN_fw (by have := vN_lt b; omega)]
      simp only [hkk, htt, i64N_vN hby]
    · rw [if_neg h1, if_neg (by omega)]
      simp only [hkk, htt, hb0 h1, List.nil_append]
structure CkTF (t : CkT) : Prop where
  txn : 0 ≤ t.txn ∧ t.txn < 4294967296
  first : t.first < 18446744073709551616
  last : t.last < 18446744073709551616
  undo : t.undo < 18446744073709551616
  state : 0 ≤ t.state ∧ t.state < 256
theorem ckTD_fw {t : CkT} (h : CkTF t) : FwB ckTD ckTB t := by
  intro rest
  obtain ⟨n, f, l, u, e⟩ := t
  obtain ⟨h1, h2, h3, h4, h5⟩ := h
  dsimp only at h1 h2 h3 h4 h5
  have e0 : ckTB ⟨n, f, l, u, e⟩ ++ rest = be 4 n.toNat ++ (be 8 f ++ (be 8 l ++ (be 8 u ++ (be 1 e.toNat ++ rest)))) := by rw [be_one]; simp [ckTB, tB]
  rw [e0]
  unfold ckTD ckTf ckTl ckTu ckTe
  rw [rdN_fw (by omega)]
  simp only [rdN_fw (k := 8) (x := f) (by omega), rdN_fw (k := 8) (x := l) (by omega), rdN_fw (k := 8) (x := u) (by omega), rdN_fw (k := 1) (x := e.toNat) (by omega)]
  rw [show ((n.toNat : Nat) : Int) = n by omega, show ((e.toNat : Nat) : Int) = e by omega]
structure CkPF (p : CkP) : Prop where
  page : 0 ≤ p.page ∧ p.page < 256
  since : p.since < 18446744073709551616
theorem ckPD_fw {p : CkP} (h : CkPF p) : FwB ckPD ckPB p := by
  intro rest
  obtain ⟨n, f⟩ := p
  obtain ⟨h1, h2⟩ := h
  dsimp only at h1 h2
  have e0 : ckPB ⟨n, f⟩ ++ rest = be 1 n.toNat ++ (be 8 f ++ rest) := by rw [be_one]; simp [ckPB, tB]
  rw [e0]
  unfold ckPD ckPr
  rw [rdN_fw (by omega)]
  simp only [rdN_fw (k := 8) (x := f) (by omega)]
  rw [show ((n.toNat : Nat) : Int) = n by omega]
end Go.Proofs.E

namespace Go.Proofs.E
open Go
set_option linter.unusedVariables false
set_option linter.unusedSimpArgs false
set_option linter.unusedSectionVars false
set_option maxRecDepth 4000
set_option maxHeartbeats 1000000
attribute [local irreducible] Yl TL TC TE Spec YSpec R1 Hp.le EnvLe TS TR YS Stays
/-! ## a record and its bytes -/
structure RcF (r : Rc) : Prop where
  im : ∀ x ∈ r.ims, IdFit x.b ∧ IdFit x.a
  st : ∀ s ∈ r.steps, StpF s
theorem up_all {α : Type} {right : α → Bool} {by' : α → Int} {l : List α} (h : upB right by' l l.length = true) : ∀ i (hi : i < l.length), right l[i] = true ∧ (i = 0 ∨ by' (l[i - 1]'(by omega)) < by' l[i]) := by
  intro i hi
  obtain ⟨h1, h2⟩ := (risesB_true h (Nat.le_refl _)).2 i hi hi
  refine ⟨h1, ?_⟩
  rcases h2 with h2 | h2
  · exact .inl h2
  · exact .inr (of_decide_eq_true h2)
theorem up_mem {α : Type} {right : α → Bool} {by' : α → Int} {l : List α} (h : upB right by' l l.length = true) : ∀ x ∈ l, right x = true := by
  intro x hx
  obtain ⟨i, hi, rfl⟩ := List.mem_iff_getElem.1 hx
  exact (up_all h i hi).1
theorem ckP_len {lsn : Nat} {l : List CkP} (h : upB (ckPOk lsn) CkP.page l l.length = true) : l.length ≤ 64 := by
  have hp : ∀ i (hi : i < l.length), 0 ≤ l[i].page ∧ l[i].page < 64 := fun i hi => by
    have := (up_all h i hi).1
    unfold ckPOk pageOk at this
    rw [Bool.and_eq_true, decide_eq_true_eq] at this
    exact this.1
  have hi : ∀ i (hi : i < l.length), (i : Int) ≤ l[i].page := by
    intro i
    induction i with
    | zero => intro hi; exact (hp 0 hi).1
    | succ i ih =>
      intro hi
      have h1 := ih (by omega)
      have h2 := (up_all h (i + 1) hi).2
      simp only [Nat.add_sub_cancel] at h2
      omega
  rcases Nat.lt_or_ge 64 l.length with hl | hl
  · have := hi 64 hl
    have := hp 64 hl
    omega
  · exact hl
structure RecOk (r : Rc) : Prop where
  kind : 1 ≤ r.kind ∧ r.kind ≤ 9
  lsn : 1 ≤ r.lsn ∧ r.lsn ≤ 1099511627776 ∧ r.prev < r.lsn
  txn : 0 ≤ r.txn ∧ r.txn ≤ 1073741824
  next : r.next ≤ r.lsn
  n0 : r.next = 0 ∨ r.kind = 3 ∨ r.kind = 4 ∨ r.kind = 5
  i0 : r.ims = [] ∨ r.kind = 2 ∨ r.kind = 5
  s0 : r.steps = [] ∨ r.kind = 4
  c0 : (r.txns = [] ∧ r.dirty = [] ∧ r.nextTxn = 0) ∨ r.kind = 9
  il : r.ims.length ≤ 16
  im : ∀ x ∈ r.ims, (0 ≤ x.page ∧ x.page < 64) ∧ contOk x.a = true ∧ contOk x.b = true
  i5 : r.kind = 5 → ∀ x ∈ r.ims, x.b = ztC
  sl : r.steps.length ≤ 2
  st : ∀ s ∈ r.steps, stepOk s = true
  nt : 0 ≤ r.nextTxn ∧ r.nextTxn ≤ 1073741824
  tl : r.txns.length ≤ 8
  tx : ∀ t ∈ r.txns, ckTOk r.lsn r.nextTxn t = true
  dl : r.dirty.length ≤ 64
  di : ∀ p ∈ r.dirty, ckPOk r.lsn p = true
theorem ims_facts {b : Bool} {l : List Im} (h : imsOk b l = true) : l.length ≤ 16 ∧ (∀ x ∈ l, (0 ≤ x.page ∧ x.page < 64) ∧ contOk x.a = true ∧ contOk x.b = true) ∧ (b = false → ∀ x ∈ l, x.b = ztC) := by
  unfold imsOk at h
  rw [Bool.and_eq_true, decide_eq_true_eq] at h
  obtain ⟨h1, h2⟩ := h
  have h3 := up_mem h2
  have h4 : ∀ x ∈ l, (0 ≤ x.page ∧ x.page < 64) ∧ contOk x.a = true ∧ contOk x.b = true ∧ (b = true ∨ x.b.kind = 0) := fun x hx => by
    have := h3 x hx
    unfold imOk pageOk at this
    rw [Bool.and_eq_true, Bool.and_eq_true, Bool.and_eq_true, Bool.or_eq_true, decide_eq_true_eq, decide_eq_true_eq] at this
    exact this
  refine ⟨h1, fun x hx => ⟨(h4 x hx).1, (h4 x hx).2.1, (h4 x hx).2.2.1⟩, fun hb x hx => ?_⟩
  obtain ⟨_, _, g3, g4⟩ := h4 x hx
  have g5 : x.b.kind = 0 := by
    rcases g4 with g4 | g4
    · rw [hb] at g4; cases g4
    · exact g4
  rcases contB_form g3 with e | e | e
  · exact e.2.1
  · omega
  · omega
theorem recOk_facts {r : Rc} (h : recOk r = true) : RecOk r := by
  unfold recOk headOk bareOk at h
  rw [Bool.and_eq_true, Bool.and_eq_true, Bool.and_eq_true, decide_eq_true_eq, decide_eq_true_eq, decide_eq_true_eq] at h
  obtain ⟨hk, ⟨h1, h2, h3, h4, h5, h6, h7⟩, ha, b1, b2, b3, b4⟩ := h
  unfold askOk at ha
  obtain ⟨k, lsn, txn, prev, next, ims, steps, nt, txns, dirty⟩ := r
  dsimp only at *
  by_cases k2 : k = 2
  · rw [if_pos k2, Bool.and_eq_true] at ha
    obtain ⟨f1, f2, f3⟩ := ims_facts ha.2
    obtain rfl : steps = [] := by rcases b3 with b3 | b3 <;> first | exact b3 | omega
    obtain ⟨rfl, rfl, rfl⟩ : txns = [] ∧ dirty = [] ∧ nt = 0 := by rcases b4 with b4 | b4 <;> first | exact b4 | omega
    exact ⟨hk, ⟨h1, h2, h3⟩, ⟨h4, h5⟩, by dsimp only; omega, b1, b2, b3, b4, f1, f2, fun e => by dsimp only at e; omega, by simp, by simp, by simp, by simp, by simp, by simp, by simp⟩
  · rw [if_neg k2] at ha
    by_cases k3 : k = 3
    · rw [if_pos k3, decide_eq_true_eq] at ha
      obtain rfl : ims = [] := by rcases b2 with b2 | b2 <;> first | exact b2 | omega
      obtain rfl : steps = [] := by rcases b3 with b3 | b3 <;> first | exact b3 | omega
      obtain ⟨rfl, rfl, rfl⟩ : txns = [] ∧ dirty = [] ∧ nt = 0 := by rcases b4 with b4 | b4 <;> first | exact b4 | omega
      exact ⟨hk, ⟨h1, h2, h3⟩, ⟨h4, h5⟩, by dsimp only; omega, b1, b2, b3, b4, by simp, by simp, by simp, by simp, by simp, by simp, by simp, by simp, by simp, by simp⟩
    · rw [if_neg k3] at ha
      by_cases k4 : k = 4
      · rw [if_pos k4, Bool.and_eq_true, Bool.and_eq_true, decide_eq_true_eq, decide_eq_true_eq] at ha
        obtain rfl : ims = [] := by rcases b2 with b2 | b2 <;> first | exact b2 | omega
        obtain ⟨rfl, rfl, rfl⟩ : txns = [] ∧ dirty = [] ∧ nt = 0 := by rcases b4 with b4 | b4 <;> first | exact b4 | omega
        exact ⟨hk, ⟨h1, h2, h3⟩, ⟨h4, h5⟩, by dsimp only; omega, b1, b2, b3, b4, by simp, by simp, by simp, ha.2.1.2, List.all_eq_true.1 ha.2.2, by simp, by simp, by simp, by simp, by simp⟩
      · rw [if_neg k4] at ha
        by_cases k5 : k = 5
        · rw [if_pos k5, Bool.and_eq_true, decide_eq_true_eq] at ha
          obtain ⟨f1, f2, f3⟩ := ims_facts ha.2
          obtain rfl : steps = [] := by rcases b3 with b3 | b3 <;> first | exact b3 | omega
          obtain ⟨rfl, rfl, rfl⟩ : txns = [] ∧ dirty = [] ∧ nt = 0 := by rcases b4 with b4 | b4 <;> first | exact b4 | omega
          exact ⟨hk, ⟨h1, h2, h3⟩, ⟨h4, h5⟩, by dsimp only; omega, b1, b2, b3, b4, f1, f2, fun _ => f3 rfl, by simp, by simp, by simp, by simp, by simp, by simp, by simp⟩
        · rw [if_neg k5] at ha
          obtain rfl : ims = [] := by rcases b2 with b2 | b2 <;> first | exact b2 | omega
          obtain rfl : steps = [] := by rcases b3 with b3 | b3 <;> first | exact b3 | omega
          by_cases k9 : k = 9
          · rw [if_pos k9, Bool.and_eq_true, Bool.and_eq_true, decide_eq_true_eq] at ha
            obtain ⟨⟨a1, a2, a3⟩, a4, a5⟩ := ha
            exact ⟨hk, ⟨h1, h2, h3⟩, ⟨h4, h5⟩, by dsimp only; omega, b1, b2, b3, b4, by simp, by simp, by simp, by simp, by simp, ⟨by dsimp only; omega, a2⟩, a3, up_mem a4, ckP_len a5, up_mem a5⟩
          · obtain ⟨rfl, rfl, rfl⟩ : txns = [] ∧ dirty = [] ∧ nt = 0 := by rcases b4 with b4 | b4 <;> first | exact b4 | omega
            exact ⟨hk, ⟨h1, h2, h3⟩, ⟨h4, h5⟩, by dsimp only; omega, b1, b2, b3, b4, by simp, by simp, by simp, by simp, by simp, by simp, by simp, by simp, by simp, by simp⟩
theorem ckT_facts {lsn : Nat} {next : Int} {t : CkT} (h : ckTOk lsn next t = true) (hl : lsn ≤ 1099511627776) (hn : next ≤ 1073741824) : CkTF t := by
  unfold ckTOk at h
  rw [decide_eq_true_eq] at h
  obtain ⟨a1, a2, a3, a4, a5, a6, a7, a8⟩ := h
  exact ⟨by omega, by omega, by omega, by omega, by omega⟩
theorem ckP_facts {lsn : Nat} {p : CkP} (h : ckPOk lsn p = true) (hl : lsn ≤ 1099511627776) : CkPF p ∧ p.page < 64 := by
  unfold ckPOk pageOk at h
  rw [Bool.and_eq_true, decide_eq_true_eq, decide_eq_true_eq] at h
  obtain ⟨⟨a1, a2⟩, a3, a4⟩ := h
  exact ⟨⟨by omega, by omega⟩, by omega⟩
theorem recOk_lay {r : Rc} (h : recOk r = true) : LayOk r := by
  have f := recOk_facts h
  have l1 := f.lsn
  have l2 := f.next
  have l3 := f.txn
  have l4 := f.nt
  have l5 := f.kind
  exact ⟨by omega, by omega, by omega, by omega, by omega, by omega, f.il, f.im, f.sl, f.st, f.tl, fun t ht => by
      have g := ckT_facts (f.tx t ht) l1.2.1 l4.2
      exact ⟨g.txn, g.first, g.last, g.undo, g.state.1, g.state.2⟩, f.dl, fun p hp => by
      obtain ⟨g, g2⟩ := ckP_facts (f.di p hp) l1.2.1
      exact ⟨⟨g.page.1, g2⟩, g.since⟩⟩
theorem headD_fw {k lsn prev : Nat} {txn : Nat} (h1 : k < 256) (h2 : lsn < 18446744073709551616) (h3 : txn < 4294967296) (h4 : prev < 18446744073709551616) (rest : List UInt8) :
    headD (be 1 k ++ (be 8 lsn ++ (be 4 txn ++ (be 8 prev ++ rest))), 0, false) = (⟨k, lsn, txn, prev, 0, [], [], 0, [], []⟩, rest, 0, false) := by
  unfold headD hdL hdT hdP
  rw [rdN_fw (by omega)]
  simp only [rdN_fw (k := 8) (x := lsn) (by omega), rdN_fw (k := 4) (x := txn) (by omega), rdN_fw (k := 8) (x := prev) (by omega)]
theorem dec_fw {r : Rc} (h : recOk r = true) (hf : RcF r) (rest : List UInt8) : decD (recB r ++ rest) = (r.plain, rest, 0, false) := by
  obtain ⟨f1, f2, f3, f4, n0, i0, s0, c0, f5, f6, f7, f8, f9, f10, f11, f12, f13, f14⟩ := recOk_facts h
  obtain ⟨q1, q2⟩ := hf
  obtain ⟨k, lsn, txn, prev, next, ims, steps, nt, txns, dirty⟩ := r
  dsimp only at *
  have e : recB ⟨k, lsn, txn, prev, next, ims, steps, nt, txns, dirty⟩ ++ rest = be 1 k.toNat ++ (be 8 lsn ++ (be 4 txn.toNat ++ (be 8 prev ++ (recTB ⟨k, lsn, txn, prev, next, ims, steps, nt, txns, dirty⟩ ++ rest)))) := by
    rw [be_one]; simp [recB, recHB, tB]
  unfold decD
  rw [e, headD_fw (by omega) (by omega) (by omega) (by omega)]
  rw [show ((k.toNat : Nat) : Int) = k by omega, show ((txn.toNat : Nat) : Int) = txn by omega]
  unfold tailD recTB imsB
  dsimp only
  have hI : ∀ two : Bool, (two = false → ∀ x ∈ ims, x.b = ztC) → ∀ X, manyD (imD two) (listB (imB two) ims ++ X, 0, false) = (ims.map Im.plain, X, 0, false) := fun two h0 X => by
    have := manyD_fw (f := imD two) (enc := imB two) (xs := ims.map Im.plain) (by simp; omega) (fun x hx => by
      obtain ⟨y, hy, rfl⟩ := List.mem_map.1 hx
      exact imD_fw (f6 y hy).1 (f6 y hy).2.1 (f6 y hy).2.2 (q1 y hy).2 (q1 y hy).1 (fun h => h0 h y hy)) X
    have e : listB (imB two) ims = listB (imB two) (ims.map Im.plain) := by unfold listB; rw [List.length_map, List.flatMap_map]; rfl
    rw [e]
    exact this
  by_cases k2 : k = 2
  · rw [if_pos k2, if_pos k2]
    obtain rfl : steps = [] := by rcases s0 with e | e <;> first | exact e | omega
    obtain ⟨rfl, rfl, rfl⟩ : txns = [] ∧ dirty = [] ∧ nt = 0 := by rcases c0 with e | e <;> first | exact e | omega
    obtain rfl : next = 0 := by omega
    unfold chD
    dsimp only
    rw [hI _ (fun e => by simp [k2] at e)]
  · rw [if_neg k2, if_neg k2]
    by_cases k3 : k = 3
    · rw [if_pos k3, if_pos k3]
      obtain rfl : ims = [] := by rcases i0 with e | e <;> first | exact e | omega
      obtain rfl : steps = [] := by rcases s0 with e | e <;> first | exact e | omega
      obtain ⟨rfl, rfl, rfl⟩ : txns = [] ∧ dirty = [] ∧ nt = 0 := by rcases c0 with e | e <;> first | exact e | omega
      unfold neD
      rw [rdN_fw (k := 8) (x := next) (by omega)]
      rfl
    · rw [if_neg k3, if_neg k3]
      by_cases k4 : k = 4
      · rw [if_pos k4, if_pos k4]
        obtain rfl : ims = [] := by rcases i0 with e | e <;> first | exact e | omega
        obtain ⟨rfl, rfl, rfl⟩ : txns = [] ∧ dirty = [] ∧ nt = 0 := by rcases c0 with e | e <;> first | exact e | omega
        unfold thenD neD doD
        rw [List.append_assoc, rdN_fw (k := 8) (x := next) (by omega)]
        dsimp only
        rw [manyD_fw (by omega) (fun s hs => stpD_fw (f9 s hs) (q2 s hs))]
        rfl
      · rw [if_neg k4, if_neg k4]
        by_cases k5 : k = 5
        · rw [if_pos k5, if_pos k5]
          obtain rfl : steps = [] := by rcases s0 with e | e <;> first | exact e | omega
          obtain ⟨rfl, rfl, rfl⟩ : txns = [] ∧ dirty = [] ∧ nt = 0 := by rcases c0 with e | e <;> first | exact e | omega
          unfold thenD neD chD
          rw [List.append_assoc, rdN_fw (k := 8) (x := next) (by omega)]
          dsimp only
          rw [hI _ (fun _ => f7 k5)]
        · rw [if_neg k5, if_neg k5]
          obtain rfl : ims = [] := by rcases i0 with e | e <;> first | exact e | omega
          obtain rfl : steps = [] := by rcases s0 with e | e <;> first | exact e | omega
          obtain rfl : next = 0 := by omega
          by_cases k9 : k = 9
          · rw [if_pos k9, if_pos k9]
            unfold thenD cxD ctD cdD
            rw [List.append_assoc, rdN_fw (k := 4) (x := nt.toNat) (by omega)]
            dsimp only
            rw [List.append_assoc, manyD_fw (by omega) (fun t ht => ckTD_fw (ckT_facts (f12 t ht) f2.2.1 f10.2))]
            dsimp only
            rw [manyD_fw (by omega) (fun p hp => ckPD_fw (ckP_facts (f14 p hp) f2.2.1).1)]
            dsimp only
            rw [show ((nt.toNat : Nat) : Int) = nt by omega]
            rfl
          · rw [if_neg k9, if_neg k9]
            obtain ⟨rfl, rfl, rfl⟩ : txns = [] ∧ dirty = [] ∧ nt = 0 := by rcases c0 with e | e <;> first | exact e | omega
            rfl
end Go.Proofs.E

namespace Go.Proofs.E
open Go
set_option linter.unusedVariables false
set_option linter.unusedSimpArgs false
set_option linter.unusedSectionVars false
set_option maxRecDepth 4000
set_option maxHeartbeats 1000000
attribute [local irreducible] Yl TL TC TE Spec YSpec R1 Hp.le EnvLe TS TR YS Stays
theorem ContFit.id' {c : Cont} (h : ContFit c) : IdFit c := ⟨h.row, fun k hk => (h.kid k hk).id⟩
theorem up_map {α β : Type} (g : α → β) (right : β → Bool) (by' : β → Int) (l : List α) : ∀ k, upB right by' (l.map g) k = upB (fun x => right (g x)) (fun x => by' (g x)) l k := by
  intro k
  unfold upB
  rw [List.length_map]
  generalize l.length = m
  induction k with
  | zero => simp [risesB]
  | succ k ih =>
    rw [risesB, risesB, ih]
    simp only [List.getElem?_map]
    cases l[k]? with
    | none => rfl
    | some x => cases l[k - 1]? <;> rfl
theorem recOk_plain (r : Rc) : recOk r.plain = recOk r := by
  unfold recOk headOk askOk bareOk imsOk
  dsimp only [Rc.plain]
  simp only [List.length_map, up_map, List.map_eq_nil_iff]
  rfl
theorem dec_enc {r : Rc} (h : recOk r = true) (hf : RcF r) : decOk (recB r) = true ∧ decR (recB r) = r.plain := by
  have := dec_fw h hf []
  rw [List.append_nil] at this
  have e : decOk (recB r) = true := by
    unfold decOk
    rw [this]
    simp only [recOk_plain, h]
    rfl
  refine ⟨e, ?_⟩
  unfold decR
  rw [if_pos e, this]
theorem okS_iff {s : RS3} (h : okS s = true) : s.2 = (0, false) := by
  obtain ⟨l, st, bad⟩ := s
  unfold okS at h
  rw [Bool.and_eq_true, decide_eq_true_eq] at h
  obtain ⟨h1, h2⟩ := h
  cases bad
  · dsimp only at h2; rw [h2]
  · cases h1
end Go.Proofs.E

namespace Go.Proofs.E
open Go
set_option linter.unusedVariables false
set_option linter.unusedSimpArgs false
set_option linter.unusedSectionVars false
set_option maxRecDepth 4000
set_option maxHeartbeats 1000000
attribute [local irreducible] Yl TL TC TE Spec YSpec R1 Hp.le EnvLe TS TR YS Stays
theorem stpB_len {s : Stp} (h : stepOk s = true) : (stpB s).length ≤ 21 := by
  unfold stpB
  by_cases h23 : s.kind = 2 ∨ s.kind = 3
  · rw [if_pos h23]
    have hr : rowOk s.row = true := by
      unfold stepOk at h
      rw [if_neg (by omega), if_neg (by omega), if_pos h23, Bool.and_eq_true] at h
      exact h.2
    have := rowB_le hr
    simp; omega
  · rw [if_neg h23]
    split <;> simp [be_length]
theorem ckTB_len (t : CkT) : (ckTB t).length = 29 := by simp [ckTB, be_length]
theorem ckPB_len (p : CkP) : (ckPB p).length = 9 := by simp [ckPB, be_length]
theorem step_kinds {s : Stp} (h : stepOk s = true) : (s.kind = 1 ∨ s.kind = 2 ∨ s.kind = 3 ∨ s.kind = 4) ∧ ((s.kind = 2 ∨ s.kind = 3) → rowOk s.row = true) ∧ (¬ (s.kind = 2 ∨ s.kind = 3) → 0 ≤ s.row.t ∧ s.row.t < 3) := by
  unfold stepOk at h
  by_cases h1 : s.kind = 1
  · rw [if_pos h1] at h
    unfold onlyOk at h
    rw [Bool.and_eq_true, decide_eq_true_eq, decide_eq_true_eq] at h
    exact ⟨.inl h1, fun e => by omega, fun _ => h.2⟩
  · rw [if_neg h1] at h
    by_cases h4 : s.kind = 4
    · rw [if_pos h4] at h
      unfold onlyOk at h
      rw [Bool.and_eq_true, Bool.and_eq_true, decide_eq_true_eq, decide_eq_true_eq] at h
      exact ⟨by omega, fun e => by omega, fun _ => h.1.2⟩
    · rw [if_neg h4] at h
      by_cases h23 : s.kind = 2 ∨ s.kind = 3
      · rw [if_pos h23, Bool.and_eq_true] at h
        exact ⟨by omega, fun _ => h.2, fun e => absurd h23 e⟩
      · rw [if_neg h23] at h; cases h
theorem wdone_spec (ρ : Hp) (wb : Nat) (v : RV) (r : Rc) (w : Value) (l : List UInt8) (sp : List Value) (hown : OwnB w l sp) (hn : l.length ≤ 70000) (h : RcIn ρ v r) (hL : LayOk r) :
    Spec Tryz.prog 198 [.pointer (some ⟨wb, 0, none⟩)] ρ [bytC w l sp, wrC wb v r w] (WrP ρ wb v r (l ++ (be 8 r.next ++ listB stpB r.steps))) := by
  have hρ := Hp.le_refl ρ
  have hA := h.s.at'
  have hl := hA.len
  have hil := hL.sl
  refine spec_enter Tryz.func198 rfl rfl rfl fun u R => ?_
  simp only [argsE, List.cons_append, List.nil_append]
  repeat' (first | (refine tl_buildSlice_s rfl rfl rfl rfl (by simp) rfl rfl (fun bs => ?_); refine tl_freeze _ (h := Rem.here) (fun ρz hlz hfz => ?_); have hbs := hfz _ (List.mem_singleton.2 rfl); clear hfz; have hρ := Hp.le_trans hρ hlz; clear hlz; (try simp only [List.nil_append])) | (refine tl_is (.func 197) ?_; refine qC rfl rfl (wnested_spec _ wb v r w l sp hown (by omega) hL.next) ?_; rintro v ρ' L' hle ⟨rfl, hl1, w0, sp0, hown, rfl⟩ <;> (try simp only [kM, kN, kO]); have hρ := Hp.le_trans hρ hl1; clear hl1) | (refine tl_is (.func 193) ?_; refine qC rfl rfl (wbyte_spec _ wb v r w0 _ sp0 hown (by (try simp only [List.length_append, List.length_cons, List.length_nil, List.length_map, be_length]) <;> omega) _ (v.s.n : Int) hbs (by omega)) ?_; rintro v ρ' L' hle ⟨rfl, hl1, w1, sp1, hown, rfl⟩ <;> (try simp only [kM, kN, kO]); have hρ := Hp.le_trans hρ hl1; clear hl1) | (refine i_op ?_; first | (refine i_qq ?_; refine qQ ?_) | refine qEf ?_) | refine tl_nil ?_ | (refine i_tc ?_; refine qTc ?_) | (refine i_te ?_; refine qTe ?_) | intro _)
  obtain ⟨B, hB⟩ : ∃ B, l ++ be 8 r.next ++ [tB (v.s.n : Int)] = B := ⟨_, rfl⟩
  rw [hB] at hown ⊢
  have hBl : B.length ≤ 80001 := by rw [← hB]; simp [be_length]; omega
  have hfin : B ++ r.steps.flatMap stpB = l ++ (be 8 r.next ++ listB stpB r.steps) := by rw [← hB]; simp [listB, hl, tB]
  rw [show bytC w1 B sp1 = bytC w1 (B ++ (r.steps.take 0).flatMap stpB) sp1 by simp]
  refine tc_loop_g [(0, _), (21, _), (22, _)] (fun (ζ : (Nat) × (Hp) × (Value) × (List Value)) => [(23, .int .i64 ζ.1)]) (fun (ζ : (Nat) × (Hp) × (Value) × (List Value)) => ζ.2.1) (fun (ζ : (Nat) × (Hp) × (Value) × (List Value)) => [bytC ζ.2.2.1 (B ++ (r.steps.take ζ.1).flatMap stpB) ζ.2.2.2, wrC wb v r ζ.2.2.1]) (fun (ζ : (Nat) × (Hp) × (Value) × (List Value)) => ζ.1 ≤ v.s.n ∧ ρ.le ζ.2.1 ∧ OwnB ζ.2.2.1 (B ++ (r.steps.take ζ.1).flatMap stpB) ζ.2.2.2) (fun (ζ : (Nat) × (Hp) × (Value) × (List Value)) => v.s.n - ζ.1) ((0, ρ', w1, sp1)) (⟨Nat.zero_le _, hρ, by simpa using hown⟩) ev_le ev_le rfl tk ?_
  rintro ⟨k, ρ1, w2, sp2⟩ hI
  try simp only [List.cons_append, List.nil_append, List.append_assoc, List.append_eq] at hI ⊢
  try dsimp only at hI ⊢
  obtain ⟨hk, hle1, hown⟩ := hI
  clear hρ
  by_cases hlt : k < v.s.n
  · obtain ⟨b, off, C, T, fr, e1, hbb, hfit, hcc⟩ := (hA.mono hle1).get (show k < r.steps.length by omega)
    have hts := flatMap_app stpB r.steps k (by omega)
    have hmem := List.getElem_mem (show k < r.steps.length by omega)
    have hsf := h.sf _ hmem
    obtain ⟨hk4, hr23, hkt⟩ := step_kinds (hL.st _ hmem)
    have hfl := flatMap_le stpB 21 (r.steps.take k) (fun x hx => stpB_len (hL.st x (List.mem_of_mem_take hx)))
    have htl : (r.steps.take k).length ≤ 2 := by simp; omega
    generalize r.steps[k]'(by omega) = x at *
    have hxl : (B ++ (r.steps.take k).flatMap stpB).length ≤ 83000 := by simp only [List.length_append]; omega
    have hmm : B ++ (r.steps.take k).flatMap stpB ++ stpB x = B ++ (r.steps.take (k + 1)).flatMap stpB := by rw [hts]; simp
    generalize hX : B ++ (r.steps.take k).flatMap stpB = X at *
    have hρ := Hp.le_refl ρ1
    rw [e1]
    by_cases h23 : x.kind = 2 ∨ x.kind = 3
    · have hst : stpB x = tB x.kind :: rowB x.row := by unfold stpB; rw [if_pos h23]
      have hre := fun ρ => rowE_spec ρ x.row hsf.id
      have hrl := rowB_le (hr23 h23)
      rw [if_pos (hr23 h23), if_pos (hr23 h23)] at hre
      have hmm2 : (X ++ [tB x.kind]).map u8c ++ (rowB x.row).map u8c = (B ++ (r.steps.take (k + 1)).flatMap stpB).map u8c := by rw [← hmm, hst]; simp
      have hll2 : (X ++ [tB x.kind]).length + (rowB x.row).length = (B ++ (r.steps.take (k + 1)).flatMap stpB).length := by rw [← hmm, hst]; simp; omega
      have hx1 : (X ++ [tB x.kind]).length ≤ 84000 := by simp; omega
      rcases h23 with h2 | h2
      all_goals (repeat' (first | (refine tl_buildSlice_s rfl rfl rfl rfl (by simp) rfl rfl (fun bs => ?_); refine tl_freeze _ (h := Rem.here) (fun ρz hlz hfz => ?_); have hbs := hfz _ (List.mem_singleton.2 rfl); clear hfz; have hρ := Hp.le_trans hρ hlz; clear hlz; (try simp only [List.nil_append])) | (refine tl_is (.func 193) ?_; refine qC rfl rfl (wbyte_spec _ wb v r w2 X sp2 hown (by omega) _ x.kind hbs (by omega)) ?_; rintro v ρ' L' hle ⟨rfl, hl1, w3, sp3, hown, rfl⟩ <;> (try simp only [kM, kN, kO]); have hρ := Hp.le_trans hρ hl1; clear hl1; obtain ⟨va, vc, rfl, _⟩ := hown.slice) | (refine tl_is (.func 257) ?_; refine qC rfl rfl (hre _) ?_; rintro v ρ' L' hle ⟨hl1, a1, n1, c1, rfl, hc1, hs1, rfl⟩ <;> (try simp only [kM, kN, kO]); have hρ := Hp.le_trans hρ hl1; clear hl1) | (have hn1 := hs1.len; refine tl_app (ys := (rowB x.row).map u8c) (m := n1) (sz := 1) rfl rfl hown (hR := by infer_instance) (SIn.srcV hs1) (by simpa using hs1.len) (u8c_one _) (by decide) rfl (by omega) (by omega) rfl (fun v' sp' hown' => ?_); rw [hmm2] at hown' ⊢; rw [← hs1.len, hll2] at hown'; obtain ⟨va', vc', rfl, _⟩ := hown'.slice) | (refine i_op ?_; first | (refine i_qq ?_; refine qQ ?_) | refine qEf ?_) | refine tl_nil ?_ | (refine i_tc ?_; refine qTc ?_) | (refine i_te ?_; refine qTe ?_) | intro _))
      all_goals rw [← e1]
      all_goals refine te_round_g (k + 1, _, _, sp') (⟨hlt, Hp.le_trans hle1 hρ, hown'⟩) ev_le ev_le rfl tk inferInstance (by first | omega | (dsimp only; omega))
    · have hkt := hkt h23
      have hst : stpB x = tB x.kind :: (tB x.row.t :: (be 2 x.row.id ++ (if x.kind = 1 then be 8 (vN x.by') else []))) := by unfold stpB; rw [if_neg h23]
      have hll2 : (X ++ [tB x.kind] ++ [tB x.row.t]).length + 2 = (X ++ [tB x.kind] ++ [tB x.row.t] ++ be 2 x.row.id).length := by simp [be_length]
      rcases (show x.kind = 1 ∨ x.kind = 4 by omega) with h1 | h1
      · rw [if_pos h1] at hst
        have hvl := vN_lt x.by'
        repeat' (first | (refine tl_buildSlice_s rfl rfl rfl rfl (by simp) rfl rfl (fun bs => ?_); refine tl_freeze _ (h := Rem.here) (fun ρz hlz hfz => ?_); have hbs := hfz _ (List.mem_singleton.2 rfl); clear hfz; have hρ := Hp.le_trans hρ hlz; clear hlz; (try simp only [List.nil_append])) | (refine tl_is (.func 193) ?_; refine qC rfl rfl (wbyte_spec _ wb v r w2 X sp2 hown (by omega) _ x.kind hbs (by omega)) ?_; rintro v ρ' L' hle ⟨rfl, hl1, w3, sp3, hown, rfl⟩ <;> (try simp only [kM, kN, kO]); have hρ := Hp.le_trans hρ hl1; clear hl1; obtain ⟨va, vc, rfl, _⟩ := hown.slice) | (refine tl_is (.func 193) ?_; refine qC rfl rfl (wbyte_spec _ wb v r _ _ sp3 hown (by (try simp only [List.length_append, List.length_cons, List.length_nil, List.length_map, be_length]) <;> omega) _ x.row.t hbs (by omega)) ?_; rintro v ρ' L' hle ⟨rfl, hl1, w4, sp4, hown, rfl⟩ <;> (try simp only [kM, kN, kO]); have hρ := Hp.le_trans hρ hl1; clear hl1; obtain ⟨va, vc, rfl, _⟩ := hown.slice) | (refine i_op ?_; first | (refine i_qq ?_; refine qQ ?_) | refine qEf ?_) | refine tl_nil ?_ | (refine i_tc ?_; refine qTc ?_) | (refine i_te ?_; refine qTe ?_) | intro _)
        refine tc_any (Stays _ _ ([[(_, .cells ⟨stpV x⟩ 103 (0, 0))]])) (stays_of (hT := tk) (Hp.le_refl _)) ?_
        all_goals refine rMv 0 ?_
        all_goals refine rMv 1 ?_
        all_goals refine rNc 2 ?_
        all_goals refine rFa 3 ?_
        all_goals refine rFa 5 ?_
        all_goals refine rFa 6 ?_
        all_goals refine rFa 7 ?_
        all_goals refine rLd 8 ?_
        all_goals (refine rStep (i := 4) ?_; ((try refine qWant ?_); (first | (refine tl_is (.func 258) ?_; refine tl_freeze (bytC (.slice va (X ++ [tB x.kind] ++ [tB x.row.t]).length vc) (X ++ [tB x.kind] ++ [tB x.row.t]) sp4) (h := by repeat (first | exact rem_here' | apply rem_there')) (fun ρ2 hle2 hfz => ?_); obtain ⟨a1, c1, f1, hc1, hs1⟩ := hown.sIn hfz; cases f1; refine qC rfl rfl (put16_spec _ va _ vc _ hs1 x.row.id hsf.id (by (try simp only [List.length_append, List.length_cons, List.length_nil, List.length_map, be_length]) <;> omega)) ?_; rintro v' ρ3 L3 hle3 ⟨rfl, sp5, hown, rfl⟩; simp only [List.cons_append, List.nil_append]; rw [hll2] at hown; obtain ⟨va, vc, rfl, _⟩ := hown.slice; have hρ := Hp.le_trans hρ hle2) | (refine i_qq ?_; refine qQ ?_) | (refine qEf ?_; try intro _)) <;> ((try simp only [kM, kN, kO]); refine tl_nil ?_; refine rNext ?_)))
        all_goals (refine rStep (i := 9) ?_; ((try refine qWant ?_); (first | (refine tl_is (.func 258) ?_; refine tl_freeze (bytC (.slice va (X ++ [tB x.kind] ++ [tB x.row.t]).length vc) (X ++ [tB x.kind] ++ [tB x.row.t]) sp4) (h := by repeat (first | exact rem_here' | apply rem_there')) (fun ρ2 hle2 hfz => ?_); obtain ⟨a1, c1, f1, hc1, hs1⟩ := hown.sIn hfz; cases f1; refine qC rfl rfl (put16_spec _ va _ vc _ hs1 x.row.id hsf.id (by (try simp only [List.length_append, List.length_cons, List.length_nil, List.length_map, be_length]) <;> omega)) ?_; rintro v' ρ3 L3 hle3 ⟨rfl, sp5, hown, rfl⟩; simp only [List.cons_append, List.nil_append]; rw [hll2] at hown; obtain ⟨va, vc, rfl, _⟩ := hown.slice; have hρ := Hp.le_trans hρ hle2) | (refine i_qq ?_; refine qQ ?_) | (refine qEf ?_; try intro _)) <;> ((try simp only [kM, kN, kO]); refine tl_nil ?_; refine rNext ?_)))
        all_goals refine rNc 10 ?_
        all_goals refine rFa 11 ?_
        all_goals (refine rStep (i := 12) ?_; ((try refine qWant ?_); (first | (refine i_qq ?_; refine qQ ?_) | (refine qEf ?_; try intro _)) <;> ((try simp only [kM, kN, kO]); refine tl_nil ?_; refine rNext ?_)))
        all_goals refine rDone ?_
        all_goals (repeat' (first | (simp only [vN_eq]; refine tl_buildSlice_s rfl rfl rfl rfl (by simp) rfl rfl (fun bs => ?_); refine tl_freeze _ (h := Rem.here) (fun ρz hlz hfz => ?_); have hbs := hfz _ (List.mem_singleton.2 rfl); clear hfz; have hρ := Hp.le_trans hρ hlz; clear hlz; (try simp only [List.nil_append])) | (refine tl_is (.func 194) ?_; refine qC rfl rfl (wlong_spec _ wb v r _ _ sp5 hown (by (try simp only [List.length_append, List.length_cons, List.length_nil, List.length_map, be_length]) <;> omega) _ (vN x.by') hbs hvl) ?_; rintro v ρ' L' hle ⟨rfl, hl1, w6, sp6, hown, rfl⟩ <;> (try simp only [kM, kN, kO]); have hρ := Hp.le_trans hρ hl1; clear hl1; obtain ⟨va, vc, rfl, _⟩ := hown.slice) | (refine i_op ?_; first | (refine i_qq ?_; refine qQ ?_) | refine qEf ?_) | refine tl_nil ?_ | (refine i_tc ?_; refine qTc ?_) | (refine i_te ?_; refine qTe ?_) | intro _))
        all_goals rw [← e1]
        all_goals have e2 : X ++ [tB x.kind] ++ [tB x.row.t] ++ be 2 x.row.id ++ be 8 (vN x.by') = B ++ (r.steps.take (k + 1)).flatMap stpB := by rw [← hmm, hst]; simp
        all_goals rw [e2] at hown ⊢
        all_goals refine te_round_g (k + 1, _, _, sp6) (⟨hlt, Hp.le_trans hle1 hρ, hown⟩) ev_le ev_le rfl tk inferInstance (by first | omega | (dsimp only; omega))
      · rw [if_neg (by omega)] at hst
        repeat' (first | (refine tl_buildSlice_s rfl rfl rfl rfl (by simp) rfl rfl (fun bs => ?_); refine tl_freeze _ (h := Rem.here) (fun ρz hlz hfz => ?_); have hbs := hfz _ (List.mem_singleton.2 rfl); clear hfz; have hρ := Hp.le_trans hρ hlz; clear hlz; (try simp only [List.nil_append])) | (refine tl_is (.func 193) ?_; refine qC rfl rfl (wbyte_spec _ wb v r w2 X sp2 hown (by omega) _ x.kind hbs (by omega)) ?_; rintro v ρ' L' hle ⟨rfl, hl1, w3, sp3, hown, rfl⟩ <;> (try simp only [kM, kN, kO]); have hρ := Hp.le_trans hρ hl1; clear hl1; obtain ⟨va, vc, rfl, _⟩ := hown.slice) | (refine tl_is (.func 193) ?_; refine qC rfl rfl (wbyte_spec _ wb v r _ _ sp3 hown (by (try simp only [List.length_append, List.length_cons, List.length_nil, List.length_map, be_length]) <;> omega) _ x.row.t hbs (by omega)) ?_; rintro v ρ' L' hle ⟨rfl, hl1, w4, sp4, hown, rfl⟩ <;> (try simp only [kM, kN, kO]); have hρ := Hp.le_trans hρ hl1; clear hl1; obtain ⟨va, vc, rfl, _⟩ := hown.slice) | (refine i_op ?_; first | (refine i_qq ?_; refine qQ ?_) | refine qEf ?_) | refine tl_nil ?_ | (refine i_tc ?_; refine qTc ?_) | (refine i_te ?_; refine qTe ?_) | intro _)
        refine tc_any (Stays _ _ ([[(_, .cells ⟨stpV x⟩ 103 (0, 0))]])) (stays_of (hT := tk) (Hp.le_refl _)) ?_
        all_goals refine rMv 0 ?_
        all_goals refine rMv 1 ?_
        all_goals refine rNc 2 ?_
        all_goals refine rFa 3 ?_
        all_goals refine rFa 5 ?_
        all_goals refine rFa 6 ?_
        all_goals refine rFa 7 ?_
        all_goals refine rLd 8 ?_
        all_goals (refine rStep (i := 4) ?_; ((try refine qWant ?_); (first | (refine tl_is (.func 258) ?_; refine tl_freeze (bytC (.slice va (X ++ [tB x.kind] ++ [tB x.row.t]).length vc) (X ++ [tB x.kind] ++ [tB x.row.t]) sp4) (h := by repeat (first | exact rem_here' | apply rem_there')) (fun ρ2 hle2 hfz => ?_); obtain ⟨a1, c1, f1, hc1, hs1⟩ := hown.sIn hfz; cases f1; refine qC rfl rfl (put16_spec _ va _ vc _ hs1 x.row.id hsf.id (by (try simp only [List.length_append, List.length_cons, List.length_nil, List.length_map, be_length]) <;> omega)) ?_; rintro v' ρ3 L3 hle3 ⟨rfl, sp5, hown, rfl⟩; simp only [List.cons_append, List.nil_append]; rw [hll2] at hown; obtain ⟨va, vc, rfl, _⟩ := hown.slice; have hρ := Hp.le_trans hρ hle2) | (refine i_qq ?_; refine qQ ?_) | (refine qEf ?_; try intro _)) <;> ((try simp only [kM, kN, kO]); refine tl_nil ?_; refine rNext ?_)))
        all_goals (refine rStep (i := 9) ?_; ((try refine qWant ?_); (first | (refine tl_is (.func 258) ?_; refine tl_freeze (bytC (.slice va (X ++ [tB x.kind] ++ [tB x.row.t]).length vc) (X ++ [tB x.kind] ++ [tB x.row.t]) sp4) (h := by repeat (first | exact rem_here' | apply rem_there')) (fun ρ2 hle2 hfz => ?_); obtain ⟨a1, c1, f1, hc1, hs1⟩ := hown.sIn hfz; cases f1; refine qC rfl rfl (put16_spec _ va _ vc _ hs1 x.row.id hsf.id (by (try simp only [List.length_append, List.length_cons, List.length_nil, List.length_map, be_length]) <;> omega)) ?_; rintro v' ρ3 L3 hle3 ⟨rfl, sp5, hown, rfl⟩; simp only [List.cons_append, List.nil_append]; rw [hll2] at hown; obtain ⟨va, vc, rfl, _⟩ := hown.slice; have hρ := Hp.le_trans hρ hle2) | (refine i_qq ?_; refine qQ ?_) | (refine qEf ?_; try intro _)) <;> ((try simp only [kM, kN, kO]); refine tl_nil ?_; refine rNext ?_)))
        all_goals refine rNc 10 ?_
        all_goals refine rFa 11 ?_
        all_goals (refine rStep (i := 12) ?_; ((try refine qWant ?_); (first | (refine i_qq ?_; refine qQ ?_) | (refine qEf ?_; try intro _)) <;> ((try simp only [kM, kN, kO]); refine tl_nil ?_; refine rNext ?_)))
        all_goals refine rDone ?_
        all_goals (repeat' (first | (refine i_op ?_; first | (refine i_qq ?_; refine qQ ?_) | refine qEf ?_) | refine tl_nil ?_ | (refine i_tc ?_; refine qTc ?_) | (refine i_te ?_; refine qTe ?_) | intro _))
        all_goals rw [← e1]
        all_goals have e2 : X ++ [tB x.kind] ++ [tB x.row.t] ++ be 2 x.row.id = B ++ (r.steps.take (k + 1)).flatMap stpB := by rw [← hmm, hst]; simp
        all_goals rw [e2] at hown ⊢
        all_goals refine te_round_g (k + 1, _, _, sp5) (⟨hlt, Hp.le_trans hle1 hρ, hown⟩) ev_le ev_le rfl tk inferInstance (by first | omega | (dsimp only; omega))
  · rw [show r.steps.take k = r.steps by rw [show k = r.steps.length by omega, List.take_length], hfin] at hown ⊢
    repeat' (first | (refine i_op ?_; first | (refine i_qq ?_; refine qQ ?_) | refine qEf ?_) | refine tl_nil ?_ | (refine i_tc ?_; refine qTc ?_) | (refine i_te ?_; refine qTe ?_) | intro _)
    exact qE ⟨rfl, hle1, w2, sp2, hown, rfl⟩
end Go.Proofs.E

