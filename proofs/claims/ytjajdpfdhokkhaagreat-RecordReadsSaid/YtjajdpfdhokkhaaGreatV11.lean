/- The law RecordReads. Part 11 of 21. -/
import Derived.Test.YtjajdpfdhokkhaaGreatV10
namespace Go.Proofs.E
open Go
set_option linter.unusedVariables false
set_option linter.unusedSimpArgs false
set_option linter.unusedSectionVars false
set_option maxRecDepth 4000
set_option maxHeartbeats 1000000
attribute [local irreducible] Yl TL TC TE Spec XW R1 Hp.le EnvLe TS TR YS Zv
set_option maxHeartbeats 4000000
theorem Wa (ρ : Hp) (v : RV) (r : Rc) (h : RcIn ρ v r) : Spec Tryz.prog 26 [.agg ⟨Wv v r⟩] ρ [] (fun z ρ' L' => z = .bool (YM r) ∧ ρ' = ρ ∧ L' = []) := by
 have li := h.i.at'.len
 have ls := h.s.at'.len
 have lt := h.t.at'.len
 have ld := h.d.at'.len
 have bi := h.i.big
 have bs := h.s.big
 have bt := h.t.big
 have bd := h.d.big
 have ei : r.ims = [] ↔ v.i.n = 0 := by rw [← li]; exact List.length_eq_zero_iff.symm
 have es : r.steps = [] ↔ v.s.n = 0 := by rw [← ls]; exact List.length_eq_zero_iff.symm
 have et : r.txns = [] ↔ v.t.n = 0 := by rw [← lt]; exact List.length_eq_zero_iff.symm
 have ed : r.dirty = [] ↔ v.d.n = 0 := by rw [← ld]; exact List.length_eq_zero_iff.symm
 have hrec : YM r = true ↔ (1 ≤ r.kind ∧ r.kind ≤ 9) ∧ (1 ≤ r.lsn ∧ r.lsn ≤ 1099511627776 ∧ r.prev < r.lsn ∧ 0 ≤ r.txn ∧ r.txn ≤ 1073741824 ∧ (r.kind = 9 ↔ r.txn = 0) ∧ ((r.kind = 9 ∨ r.kind = 1) ↔ r.prev = 0)) ∧ askOk r = true ∧
   ((r.next = 0 ∨ r.kind = 3 ∨ r.kind = 4 ∨ r.kind = 5) ∧ (v.i.n = 0 ∨ r.kind = 2 ∨ r.kind = 5) ∧ (v.s.n = 0 ∨ r.kind = 4) ∧ ((v.t.n = 0 ∧ v.d.n = 0 ∧ r.nextTxn = 0) ∨ r.kind = 9)) := by
  unfold YM headOk bareOk
  simp only [Bool.and_eq_true, decide_eq_true_eq, ei, es, et, ed]
 generalize YM r = rk at *
 have h1 := images12_spec ρ v.i r.ims h.i true h.im
 have h2 := images12_spec ρ v.i r.ims h.i false h.im
 have h3 := steps12_spec ρ v.s r.steps h.s h.sf
 have h4 := txns12_spec ρ v.t r.txns h.t r.lsn r.nextTxn
 have h5 := dirty12_spec ρ v.d r.dirty h.d r.lsn
 change Spec Tryz.prog 95 [.slice v.i.a v.i.n v.i.c, .bool true] ρ [] (fun z ρ' L' => z = .bool (imsOk true r.ims) ∧ ρ' = ρ ∧ L' = []) at h1
 change Spec Tryz.prog 95 [.slice v.i.a v.i.n v.i.c, .bool false] ρ [] (fun z ρ' L' => z = .bool (imsOk false r.ims) ∧ ρ' = ρ ∧ L' = []) at h2
 have hask : ∀ A : Prop, (askOk r = true ↔ A) → (rk = true ↔ (1 ≤ r.kind ∧ r.kind ≤ 9) ∧ (1 ≤ r.lsn ∧ r.lsn ≤ 1099511627776 ∧ r.prev < r.lsn ∧ 0 ≤ r.txn ∧ r.txn ≤ 1073741824 ∧ (r.kind = 9 ↔ r.txn = 0) ∧ ((r.kind = 9 ∨ r.kind = 1) ↔ r.prev = 0)) ∧ A ∧
   ((r.next = 0 ∨ r.kind = 3 ∨ r.kind = 4 ∨ r.kind = 5) ∧ (v.i.n = 0 ∨ r.kind = 2 ∨ r.kind = 5) ∧ (v.s.n = 0 ∨ r.kind = 4) ∧ ((v.t.n = 0 ∧ v.d.n = 0 ∧ r.nextTxn = 0) ∨ r.kind = 9))) := fun A hA => by rw [hrec, hA]
 unfold askOk at hask
 generalize imsOk true r.ims = q1 at *
 generalize imsOk false r.ims = q2 at *
 generalize r.steps.all YF = q3 at *
 generalize upB (ckTOk r.lsn r.nextTxn) CkT.txn r.txns r.txns.length = q4 at *
 generalize upB (WE r.lsn) CkP.page r.dirty r.dirty.length = q5 at *
 rw [li, ls, lt] at hask
 rw [ls] at h3
 rw [lt] at h4
 clear hrec
 refine Zf Tryz.func26 rfl rfl rfl fun u R => ?_
 simp only [Zx, List.cons_append, List.nil_append]
 by_cases k2 : r.kind = 2
 ·have hk := hask (0 < v.i.n ∧ q1 = true) (by rw [if_pos k2]; simp)
  clear hask
  cases q1
  all_goals simp only [Bool.false_eq_true, and_true, and_false, false_and] at hk
  all_goals (repeat' (first | (refine Zc (.func 95) ?_; refine qC rfl rfl (h1) ?_; rintro v ρ' L' hle ⟨rfl, rfl, rfl⟩ <;> (try simp only [kM, kN, kO])) | (refine Zc (.func 95) ?_; refine qC rfl rfl (h2) ?_; rintro v ρ' L' hle ⟨rfl, rfl, rfl⟩ <;> (try simp only [kM, kN, kO])) | (refine Zc (.func 96) ?_; refine qC rfl rfl (h3) ?_; rintro v ρ' L' hle ⟨rfl, rfl, rfl⟩ <;> (try simp only [kM, kN, kO])) | (refine Zc (.func 97) ?_; refine qC rfl rfl (h4) ?_; rintro v ρ' L' hle ⟨rfl, rfl, rfl⟩ <;> (try simp only [kM, kN, kO])) | (refine Zc (.func 98) ?_; refine qC rfl rfl (h5) ?_; rintro v ρ' L' hle ⟨rfl, rfl, rfl⟩ <;> (try simp only [kM, kN, kO])) | (refine ZG ?_; refine Zn (Ze rfl) rfl rfl ?_) | (refine Zj ?_; first | (refine Zg ?_; refine qQ ?_) | refine Zl ?_) | refine Za ?_ | (refine Zi ?_; refine Zq ?_) | (refine Zh ?_; refine Zp ?_) | (refine XO ?_; refine Yd rfl rfl (fun hb => ?_) (fun hb => ?_) <;> (try simp only [decide_eq_true_eq, decide_eq_false_iff_not, Bool.not_eq_true, Bool.not_eq_false, beq_iff_eq, bne_iff_ne, ne_eq, decide_eq_decide, Bool.not_eq_eq_eq_not, Bool.not_true, Bool.not_false, beq_eq_false_iff_ne, bne_eq_false_iff_eq, Bool.and_eq_true, Bool.or_eq_true, Bool.and_eq_false_imp, Bool.or_eq_false_iff, bq2, bqt, bqf] at hb)) | (refine Yx ?_; refine Yp rfl (fun hb => ?_) (fun hb => ?_) <;> (try simp only [decide_eq_true_eq, decide_eq_false_iff_not, Bool.not_eq_true, Bool.not_eq_false, beq_iff_eq, bne_iff_ne, ne_eq, decide_eq_decide, Bool.not_eq_eq_eq_not, Bool.not_true, Bool.not_false, beq_eq_false_iff_ne, bne_eq_false_iff_eq, Bool.and_eq_true, Bool.or_eq_true, Bool.and_eq_false_imp, Bool.or_eq_false_iff, bq2, bqt, bqf] at hb)) | intro _))
  all_goals (refine qF (L' := []) ?_; refine ⟨YI ?_, rfl, rfl⟩; rw [hk]; first | omega | (simp only [decide_eq_true_eq, Bool.false_eq_true, true_iff, false_iff, true_and, and_true, beq_iff_eq, Bool.and_true, Bool.and_false, Bool.true_and, Bool.false_and, decide_true, decide_false] <;> omega))
 ·skip
  by_cases k3 : r.kind = 3
  ·have hk := hask (r.next < r.prev) (by rw [if_neg k2, if_pos k3]; simp)
   clear hask
   repeat' (first | (refine Zc (.func 95) ?_; refine qC rfl rfl (h1) ?_; rintro v ρ' L' hle ⟨rfl, rfl, rfl⟩ <;> (try simp only [kM, kN, kO])) | (refine Zc (.func 95) ?_; refine qC rfl rfl (h2) ?_; rintro v ρ' L' hle ⟨rfl, rfl, rfl⟩ <;> (try simp only [kM, kN, kO])) | (refine Zc (.func 96) ?_; refine qC rfl rfl (h3) ?_; rintro v ρ' L' hle ⟨rfl, rfl, rfl⟩ <;> (try simp only [kM, kN, kO])) | (refine Zc (.func 97) ?_; refine qC rfl rfl (h4) ?_; rintro v ρ' L' hle ⟨rfl, rfl, rfl⟩ <;> (try simp only [kM, kN, kO])) | (refine Zc (.func 98) ?_; refine qC rfl rfl (h5) ?_; rintro v ρ' L' hle ⟨rfl, rfl, rfl⟩ <;> (try simp only [kM, kN, kO])) | (refine ZG ?_; refine Zn (Ze rfl) rfl rfl ?_) | (refine Zj ?_; first | (refine Zg ?_; refine qQ ?_) | refine Zl ?_) | refine Za ?_ | (refine Zi ?_; refine Zq ?_) | (refine Zh ?_; refine Zp ?_) | (refine XO ?_; refine Yd rfl rfl (fun hb => ?_) (fun hb => ?_) <;> (try simp only [decide_eq_true_eq, decide_eq_false_iff_not, Bool.not_eq_true, Bool.not_eq_false, beq_iff_eq, bne_iff_ne, ne_eq, decide_eq_decide, Bool.not_eq_eq_eq_not, Bool.not_true, Bool.not_false, beq_eq_false_iff_ne, bne_eq_false_iff_eq, Bool.and_eq_true, Bool.or_eq_true, Bool.and_eq_false_imp, Bool.or_eq_false_iff, bq2, bqt, bqf] at hb)) | (refine Yx ?_; refine Yp rfl (fun hb => ?_) (fun hb => ?_) <;> (try simp only [decide_eq_true_eq, decide_eq_false_iff_not, Bool.not_eq_true, Bool.not_eq_false, beq_iff_eq, bne_iff_ne, ne_eq, decide_eq_decide, Bool.not_eq_eq_eq_not, Bool.not_true, Bool.not_false, beq_eq_false_iff_ne, bne_eq_false_iff_eq, Bool.and_eq_true, Bool.or_eq_true, Bool.and_eq_false_imp, Bool.or_eq_false_iff, bq2, bqt, bqf] at hb)) | intro _)
   all_goals (refine qF (L' := []) ?_; refine ⟨YI ?_, rfl, rfl⟩; rw [hk]; first | omega | (simp only [decide_eq_true_eq, Bool.false_eq_true, true_iff, false_iff, true_and, and_true, beq_iff_eq, Bool.and_true, Bool.and_false, Bool.true_and, Bool.false_and, decide_true, decide_false] <;> omega))
  ·skip
   by_cases k4 : r.kind = 4
   ·have hk := hask (r.next < r.prev ∧ (0 < v.s.n ∧ v.s.n ≤ 2) ∧ q3 = true) (by rw [if_neg k2, if_neg k3, if_pos k4]; simp)
    clear hask
    cases q3
    all_goals simp only [Bool.false_eq_true, and_true, and_false, false_and] at hk
    all_goals (repeat' (first | (refine Zc (.func 95) ?_; refine qC rfl rfl (h1) ?_; rintro v ρ' L' hle ⟨rfl, rfl, rfl⟩ <;> (try simp only [kM, kN, kO])) | (refine Zc (.func 95) ?_; refine qC rfl rfl (h2) ?_; rintro v ρ' L' hle ⟨rfl, rfl, rfl⟩ <;> (try simp only [kM, kN, kO])) | (refine Zc (.func 96) ?_; refine qC rfl rfl (h3) ?_; rintro v ρ' L' hle ⟨rfl, rfl, rfl⟩ <;> (try simp only [kM, kN, kO])) | (refine Zc (.func 97) ?_; refine qC rfl rfl (h4) ?_; rintro v ρ' L' hle ⟨rfl, rfl, rfl⟩ <;> (try simp only [kM, kN, kO])) | (refine Zc (.func 98) ?_; refine qC rfl rfl (h5) ?_; rintro v ρ' L' hle ⟨rfl, rfl, rfl⟩ <;> (try simp only [kM, kN, kO])) | (refine ZG ?_; refine Zn (Ze rfl) rfl rfl ?_) | (refine Zj ?_; first | (refine Zg ?_; refine qQ ?_) | refine Zl ?_) | refine Za ?_ | (refine Zi ?_; refine Zq ?_) | (refine Zh ?_; refine Zp ?_) | (refine XO ?_; refine Yd rfl rfl (fun hb => ?_) (fun hb => ?_) <;> (try simp only [decide_eq_true_eq, decide_eq_false_iff_not, Bool.not_eq_true, Bool.not_eq_false, beq_iff_eq, bne_iff_ne, ne_eq, decide_eq_decide, Bool.not_eq_eq_eq_not, Bool.not_true, Bool.not_false, beq_eq_false_iff_ne, bne_eq_false_iff_eq, Bool.and_eq_true, Bool.or_eq_true, Bool.and_eq_false_imp, Bool.or_eq_false_iff, bq2, bqt, bqf] at hb)) | (refine Yx ?_; refine Yp rfl (fun hb => ?_) (fun hb => ?_) <;> (try simp only [decide_eq_true_eq, decide_eq_false_iff_not, Bool.not_eq_true, Bool.not_eq_false, beq_iff_eq, bne_iff_ne, ne_eq, decide_eq_decide, Bool.not_eq_eq_eq_not, Bool.not_true, Bool.not_false, beq_eq_false_iff_ne, bne_eq_false_iff_eq, Bool.and_eq_true, Bool.or_eq_true, Bool.and_eq_false_imp, Bool.or_eq_false_iff, bq2, bqt, bqf] at hb)) | intro _))
    all_goals (refine qF (L' := []) ?_; refine ⟨YI ?_, rfl, rfl⟩; rw [hk]; first | omega | (simp only [decide_eq_true_eq, Bool.false_eq_true, true_iff, false_iff, true_and, and_true, beq_iff_eq, Bool.and_true, Bool.and_false, Bool.true_and, Bool.false_and, decide_true, decide_false] <;> omega))
   ·skip
    by_cases k5 : r.kind = 5
    ·have hk := hask (r.next < r.lsn ∧ q2 = true) (by rw [if_neg k2, if_neg k3, if_neg k4, if_pos k5]; simp)
     clear hask
     cases q2
     all_goals simp only [Bool.false_eq_true, and_true, and_false, false_and] at hk
     all_goals (repeat' (first | (refine Zc (.func 95) ?_; refine qC rfl rfl (h1) ?_; rintro v ρ' L' hle ⟨rfl, rfl, rfl⟩ <;> (try simp only [kM, kN, kO])) | (refine Zc (.func 95) ?_; refine qC rfl rfl (h2) ?_; rintro v ρ' L' hle ⟨rfl, rfl, rfl⟩ <;> (try simp only [kM, kN, kO])) | (refine Zc (.func 96) ?_; refine qC rfl rfl (h3) ?_; rintro v ρ' L' hle ⟨rfl, rfl, rfl⟩ <;> (try simp only [kM, kN, kO])) | (refine Zc (.func 97) ?_; refine qC rfl rfl (h4) ?_; rintro v ρ' L' hle ⟨rfl, rfl, rfl⟩ <;> (try simp only [kM, kN, kO])) | (refine Zc (.func 98) ?_; refine qC rfl rfl (h5) ?_; rintro v ρ' L' hle ⟨rfl, rfl, rfl⟩ <;> (try simp only [kM, kN, kO])) | (refine ZG ?_; refine Zn (Ze rfl) rfl rfl ?_) | (refine Zj ?_; first | (refine Zg ?_; refine qQ ?_) | refine Zl ?_) | refine Za ?_ | (refine Zi ?_; refine Zq ?_) | (refine Zh ?_; refine Zp ?_) | (refine XO ?_; refine Yd rfl rfl (fun hb => ?_) (fun hb => ?_) <;> (try simp only [decide_eq_true_eq, decide_eq_false_iff_not, Bool.not_eq_true, Bool.not_eq_false, beq_iff_eq, bne_iff_ne, ne_eq, decide_eq_decide, Bool.not_eq_eq_eq_not, Bool.not_true, Bool.not_false, beq_eq_false_iff_ne, bne_eq_false_iff_eq, Bool.and_eq_true, Bool.or_eq_true, Bool.and_eq_false_imp, Bool.or_eq_false_iff, bq2, bqt, bqf] at hb)) | (refine Yx ?_; refine Yp rfl (fun hb => ?_) (fun hb => ?_) <;> (try simp only [decide_eq_true_eq, decide_eq_false_iff_not, Bool.not_eq_true, Bool.not_eq_false, beq_iff_eq, bne_iff_ne, ne_eq, decide_eq_decide, Bool.not_eq_eq_eq_not, Bool.not_true, Bool.not_false, beq_eq_false_iff_ne, bne_eq_false_iff_eq, Bool.and_eq_true, Bool.or_eq_true, Bool.and_eq_false_imp, Bool.or_eq_false_iff, bq2, bqt, bqf] at hb)) | intro _))
     all_goals (refine qF (L' := []) ?_; refine ⟨YI ?_, rfl, rfl⟩; rw [hk]; first | omega | (simp only [decide_eq_true_eq, Bool.false_eq_true, true_iff, false_iff, true_and, and_true, beq_iff_eq, Bool.and_true, Bool.and_false, Bool.true_and, Bool.false_and, decide_true, decide_false] <;> omega))
    ·skip
     by_cases k9 : r.kind = 9
     ·have hk := hask ((1 ≤ r.nextTxn ∧ r.nextTxn ≤ 1073741824 ∧ v.t.n ≤ 8) ∧ q4 = true ∧ q5 = true) (by rw [if_neg k2, if_neg k3, if_neg k4, if_neg k5, if_pos k9]; simp)
      clear hask
      cases q4
      all_goals cases q5
      all_goals simp only [Bool.false_eq_true, and_true, and_false, false_and] at hk
      all_goals simp only [Bool.and_true, Bool.and_false] at h4
      all_goals (repeat' (first | (refine Zc (.func 95) ?_; refine qC rfl rfl (h1) ?_; rintro v ρ' L' hle ⟨rfl, rfl, rfl⟩ <;> (try simp only [kM, kN, kO])) | (refine Zc (.func 95) ?_; refine qC rfl rfl (h2) ?_; rintro v ρ' L' hle ⟨rfl, rfl, rfl⟩ <;> (try simp only [kM, kN, kO])) | (refine Zc (.func 96) ?_; refine qC rfl rfl (h3) ?_; rintro v ρ' L' hle ⟨rfl, rfl, rfl⟩ <;> (try simp only [kM, kN, kO])) | (refine Zc (.func 97) ?_; refine qC rfl rfl (h4) ?_; rintro v ρ' L' hle ⟨rfl, rfl, rfl⟩ <;> (try simp only [kM, kN, kO])) | (refine Zc (.func 98) ?_; refine qC rfl rfl (h5) ?_; rintro v ρ' L' hle ⟨rfl, rfl, rfl⟩ <;> (try simp only [kM, kN, kO])) | (refine ZG ?_; refine Zn (Ze rfl) rfl rfl ?_) | (refine Zj ?_; first | (refine Zg ?_; refine qQ ?_) | refine Zl ?_) | refine Za ?_ | (refine Zi ?_; refine Zq ?_) | (refine Zh ?_; refine Zp ?_) | (refine XO ?_; refine Yd rfl rfl (fun hb => ?_) (fun hb => ?_) <;> (try simp only [decide_eq_true_eq, decide_eq_false_iff_not, Bool.not_eq_true, Bool.not_eq_false, beq_iff_eq, bne_iff_ne, ne_eq, decide_eq_decide, Bool.not_eq_eq_eq_not, Bool.not_true, Bool.not_false, beq_eq_false_iff_ne, bne_eq_false_iff_eq, Bool.and_eq_true, Bool.or_eq_true, Bool.and_eq_false_imp, Bool.or_eq_false_iff, bq2, bqt, bqf] at hb)) | (refine Yx ?_; refine Yp rfl (fun hb => ?_) (fun hb => ?_) <;> (try simp only [decide_eq_true_eq, decide_eq_false_iff_not, Bool.not_eq_true, Bool.not_eq_false, beq_iff_eq, bne_iff_ne, ne_eq, decide_eq_decide, Bool.not_eq_eq_eq_not, Bool.not_true, Bool.not_false, beq_eq_false_iff_ne, bne_eq_false_iff_eq, Bool.and_eq_true, Bool.or_eq_true, Bool.and_eq_false_imp, Bool.or_eq_false_iff, bq2, bqt, bqf] at hb)) | intro _))
      all_goals (refine qF (L' := []) ?_; refine ⟨YI ?_, rfl, rfl⟩; rw [hk]; first | omega | (simp only [decide_eq_true_eq, Bool.false_eq_true, true_iff, false_iff, true_and, and_true, beq_iff_eq, Bool.and_true, Bool.and_false, Bool.true_and, Bool.false_and, decide_true, decide_false] <;> omega))
     ·skip
      have hk := hask True (by rw [if_neg k2, if_neg k3, if_neg k4, if_neg k5, if_neg k9]; simp)
      clear hask
      repeat' (first | (refine Zc (.func 95) ?_; refine qC rfl rfl (h1) ?_; rintro v ρ' L' hle ⟨rfl, rfl, rfl⟩ <;> (try simp only [kM, kN, kO])) | (refine Zc (.func 95) ?_; refine qC rfl rfl (h2) ?_; rintro v ρ' L' hle ⟨rfl, rfl, rfl⟩ <;> (try simp only [kM, kN, kO])) | (refine Zc (.func 96) ?_; refine qC rfl rfl (h3) ?_; rintro v ρ' L' hle ⟨rfl, rfl, rfl⟩ <;> (try simp only [kM, kN, kO])) | (refine Zc (.func 97) ?_; refine qC rfl rfl (h4) ?_; rintro v ρ' L' hle ⟨rfl, rfl, rfl⟩ <;> (try simp only [kM, kN, kO])) | (refine Zc (.func 98) ?_; refine qC rfl rfl (h5) ?_; rintro v ρ' L' hle ⟨rfl, rfl, rfl⟩ <;> (try simp only [kM, kN, kO])) | (refine ZG ?_; refine Zn (Ze rfl) rfl rfl ?_) | (refine Zj ?_; first | (refine Zg ?_; refine qQ ?_) | refine Zl ?_) | refine Za ?_ | (refine Zi ?_; refine Zq ?_) | (refine Zh ?_; refine Zp ?_) | (refine XO ?_; refine Yd rfl rfl (fun hb => ?_) (fun hb => ?_) <;> (try simp only [decide_eq_true_eq, decide_eq_false_iff_not, Bool.not_eq_true, Bool.not_eq_false, beq_iff_eq, bne_iff_ne, ne_eq, decide_eq_decide, Bool.not_eq_eq_eq_not, Bool.not_true, Bool.not_false, beq_eq_false_iff_ne, bne_eq_false_iff_eq, Bool.and_eq_true, Bool.or_eq_true, Bool.and_eq_false_imp, Bool.or_eq_false_iff, bq2, bqt, bqf] at hb)) | (refine Yx ?_; refine Yp rfl (fun hb => ?_) (fun hb => ?_) <;> (try simp only [decide_eq_true_eq, decide_eq_false_iff_not, Bool.not_eq_true, Bool.not_eq_false, beq_iff_eq, bne_iff_ne, ne_eq, decide_eq_decide, Bool.not_eq_eq_eq_not, Bool.not_true, Bool.not_false, beq_eq_false_iff_ne, bne_eq_false_iff_eq, Bool.and_eq_true, Bool.or_eq_true, Bool.and_eq_false_imp, Bool.or_eq_false_iff, bq2, bqt, bqf] at hb)) | intro _)
      all_goals (refine qF (L' := []) ?_; refine ⟨YI ?_, rfl, rfl⟩; rw [hk]; first | omega | (simp only [decide_eq_true_eq, Bool.false_eq_true, true_iff, false_iff, true_and, and_true, beq_iff_eq, Bool.and_true, Bool.and_false, Bool.true_and, Bool.false_and, decide_true, decide_false] <;> omega))
end Go.Proofs.E
namespace Go.Proofs.E
open Go
set_option linter.unusedVariables false
set_option linter.unusedSimpArgs false
set_option linter.unusedSectionVars false
set_option maxRecDepth 4000
set_option maxHeartbeats 1000000
attribute [local irreducible] Yl TL TC TE Spec XW R1 Hp.le EnvLe TS TR YS Zv
instance (priority := 1200) eqCkP {x y : CkP} : EqC Tryz.prog 8 125 (.agg ⟨XF x⟩) (.agg ⟨XF y⟩) (decide (x = y)) := by
 have h : EqC Tryz.prog 8 125 (.agg ⟨[.int .i64 x.page, .int .u64 x.since]⟩) (.agg ⟨[.int .i64 y.page, .int .u64 y.since]⟩) _ := inferInstance
 refine ⟨fun d w hd => ?_⟩
 rw [h.out d w hd]
 congr 1
 obtain ⟨t, i⟩ := x
 obtain ⟨t', i'⟩ := y
 simp only [CkP.mk.injEq, Bool.and_true, Bool.decide_and]
 have e : ((i : Int) == (i' : Int)) = decide (i = i') := by
  by_cases h : i = i'
  ·subst h; simp
  ·rw [decide_eq_false h]; simp only [beq_eq_false_iff_ne, ne_eq]; omega
 rw [e]
 by_cases h1 : t = t' <;> by_cases h2 : i = i' <;> simp [h1, h2]
def imB (two : Bool) (x : Im) : List UInt8 := tB x.page :: ((if two then Ys x.b else []) ++ Ys x.a)
def stpB (s : Stp) : List UInt8 := tB s.kind :: (if s.kind = 2 ∨ s.kind = 3 then ZY s.row else tB s.row.t :: (be 2 s.row.id ++ (if s.kind = 1 then be 8 (vN s.by') else [])))
def ckTB (t : CkT) : List UInt8 := be 4 t.txn.toNat ++ (be 8 t.first ++ (be 8 t.last ++ (be 8 t.undo ++ [tB t.state])))
def ckPB (p : CkP) : List UInt8 := tB p.page :: be 8 p.since
def Xr {α : Type} (f : α → List UInt8) (l : List α) : List UInt8 := UInt8.ofNat l.length :: l.flatMap f
def recHB (r : Rc) : List UInt8 := tB r.kind :: (be 8 r.lsn ++ (be 4 r.txn.toNat ++ be 8 r.prev))
def imsB (r : Rc) : List UInt8 := Xr (imB (decide (r.kind = 2))) r.ims
def recTB (r : Rc) : List UInt8 :=
 if r.kind = 2 then imsB r else if r.kind = 3 then be 8 r.next else if r.kind = 4 then be 8 r.next ++ Xr stpB r.steps else if r.kind = 5 then be 8 r.next ++ imsB r
 else if r.kind = 9 then be 4 r.nextTxn.toNat ++ (Xr ckTB r.txns ++ Xr ckPB r.dirty) else []
def recB (r : Rc) : List UInt8 := recHB r ++ recTB r
structure LayOk (r : Rc) : Prop where
 kind : 0 ≤ r.kind ∧ r.kind < 256
 lsn : r.lsn < 18446744073709551616
 prev : r.prev < 18446744073709551616
 next : r.next < 18446744073709551616
 txn : 0 ≤ r.txn ∧ r.txn < 4294967296
 nextTxn : 0 ≤ r.nextTxn ∧ r.nextTxn < 4294967296
 il : r.ims.length ≤ 16
 im : ∀ x ∈ r.ims, (0 ≤ x.page ∧ x.page < 64) ∧ ZQ x.a = true ∧ ZQ x.b = true
 sl : r.steps.length ≤ 2
 st : ∀ s ∈ r.steps, YF s = true
 tl : r.txns.length ≤ 8
 tx : ∀ t ∈ r.txns, (0 ≤ t.txn ∧ t.txn < 4294967296) ∧ t.first < 18446744073709551616 ∧ t.last < 18446744073709551616 ∧ t.undo < 18446744073709551616 ∧ 0 ≤ t.state ∧ t.state < 256
 dl : r.dirty.length ≤ 64
 di : ∀ p ∈ r.dirty, (0 ≤ p.page ∧ p.page < 64) ∧ p.since < 18446744073709551616
abbrev wrC (wb : Nat) (v : RV) (r : Rc) (w : Value) : List (Nat × Obj) := [(wb, .cells ⟨[.int .i64 r.kind, .int .u64 r.lsn, .int .i64 r.txn, .int .u64 r.prev, .int .u64 r.next, .slice v.i.a v.i.n v.i.c, .slice v.s.a v.s.n v.s.c, .int .i64 r.nextTxn, .slice v.t.a v.t.n v.t.c, .slice v.d.a v.d.n v.d.c, w]⟩ 239 (0, 0))]
abbrev OwnB (w : Value) (l : List UInt8) (sp : List Value) : Prop := OwnS w l.length (l.map ZM) sp 1
abbrev XK (w : Value) (l : List UInt8) (sp : List Value) : List (Nat × Obj) := Yu w (l.map ZM) sp 5
abbrev WrP (ρ : Hp) (wb : Nat) (v : RV) (r : Rc) (l : List UInt8) (z : Value) (ρ' : Hp) (L' : List (List (Nat × Obj))) : Prop :=
 z = .tuple ⟨[]⟩ ∧ ρ.le ρ' ∧ ∃ w' sp', OwnB w' l sp' ∧ L' = [XK w' l sp', wrC wb v r w']
theorem put32_spec (ρ : Hp) (a : Option Addr) (n c : Nat) (l : List UInt8) (h : SIn ρ ZM a n l) (x : Nat) (hx : x < 4294967296) (hn : n ≤ 1000000) :
  Spec Tryz.prog 255 [.slice a n c, .int .u32 x] ρ [] (fun v ρ' L' => ρ' = ρ ∧ ∃ sp, OwnS v (n + 4) ((l ++ be 4 x).map ZM) sp 1 ∧ L' = [Yu v ((l ++ be 4 x).map ZM) sp 5]) := by
 have hw : IntKind.u64.wrap (x : Int) = x := wrap_id (by simp only [lo, hi]; omega)
 have hs := stand_spec ρ a n c l h x 4 (by omega) (by omega) (by omega) hn
 refine Zf Tryz.func255 rfl rfl rfl fun u R => ?_
 simp only [Zx, List.cons_append, List.nil_append]
 repeat' (first | (refine iCv ?_; refine Zn (y_conv rfl) rfl rfl ?_; rw [hw]) | (refine Zc (.func 284) ?_; refine qC rfl rfl (hs) ?_; rintro v ρ' L' hle ⟨rfl, sp, hown, rfl⟩ <;> (try simp only [kM, kN, kO])) | (refine Zj ?_; first | (refine Zg ?_; refine qQ ?_) | refine Zl ?_) | refine Za ?_ | (refine Zi ?_; refine Zq ?_) | (refine Zh ?_; refine Zp ?_) | intro _)
 exact qE ⟨rfl, sp, hown, rfl⟩
theorem flatMap_app {α : Type} (f : α → List UInt8) (l : List α) : ∀ k (h : k < l.length), (l.take (k + 1)).flatMap f = (l.take k).flatMap f ++ f (l[k]'h) := fun k h => Xt f l k h
theorem wbytes_spec (ρ : Hp) (wb : Nat) (v : RV) (r : Rc) (w : Value) (l : List UInt8) (sp : List Value) (hown : OwnB w l sp) (hn : l.length ≤ 100000) (a : Option Addr) (m c : Nat) (ns : List Int) (h : SIn ρ (fun x : Int => Value.int .i64 x) a m ns) (hb : ∀ x ∈ ns, 0 ≤ x ∧ x < 256) (hm : m ≤ 10) :
  Spec Tryz.prog 193 [.pointer (some ⟨wb, 0, none⟩), .slice a m c] ρ [XK w l sp, wrC wb v r w] (WrP ρ wb v r (l ++ ns.map tB)) := by
 have hl := h.len
 refine Zf Tryz.func193 rfl rfl rfl fun u R => ?_
 simp only [Zx, List.cons_append, List.nil_append]
 repeat' (first | (refine Zj ?_; first | (refine Zg ?_; refine qQ ?_) | refine Zl ?_) | refine Za ?_ | (refine Zi ?_; refine Zq ?_) | (refine Zh ?_; refine Zp ?_) | intro _)
 rw [show XK w l sp = XK w (l ++ (ns.take 0).map tB) sp by simp]
 refine Zy [(0, _), (6, _), (7, _)] (fun (ζ : (Nat) × (Value) × (List Value)) => [(8, .int .i64 ζ.1)]) (fun (ζ : (Nat) × (Value) × (List Value)) => ρ) (fun (ζ : (Nat) × (Value) × (List Value)) => [XK ζ.2.1 (l ++ (ns.take ζ.1).map tB) ζ.2.2, wrC wb v r ζ.2.1]) (fun (ζ : (Nat) × (Value) × (List Value)) => ζ.1 ≤ m ∧ OwnB ζ.2.1 (l ++ (ns.take ζ.1).map tB) ζ.2.2) (fun (ζ : (Nat) × (Value) × (List Value)) => m - ζ.1) ((0, w, sp)) (⟨Nat.zero_le _, by simpa using hown⟩) Zk Zk rfl tk ?_
 rintro ⟨k, w1, sp1⟩ hI
 try simp only [List.cons_append, List.nil_append, List.append_assoc, List.append_eq] at hI ⊢
 try dsimp only at hI ⊢
 obtain ⟨hk, hown1⟩ := hI
 by_cases hlt : k < m
 ·obtain ⟨b, off, C, T, fr, e1, hbb, hcc⟩ := h.get (show k < ns.length by omega)
  have hts := List.take_succ_eq_append_getElem (show k < ns.length by omega)
  have hx := hb _ (List.getElem_mem (show k < ns.length by omega))
  generalize ns[k]'(by omega) = x at *
  have hxl : (l ++ (ns.take k).map tB).length ≤ 100010 := by simp; omega
  have hmm : (l ++ (ns.take k).map tB).map ZM ++ [ZM (tB x)] = (l ++ (ns.take (k + 1)).map tB).map ZM := by rw [hts]; simp
  have hll : (l ++ (ns.take k).map tB).length + 1 = (l ++ (ns.take (k + 1)).map tB).length := by rw [hts]; simp; omega
  have hxB := tB_eq hx.1 hx.2
  generalize hX : l ++ (ns.take k).map tB = X at *
  obtain ⟨va, vc, rfl, _⟩ := hown1.slice
  rw [e1]
  repeat' (first | (refine ZJ rfl rfl rfl rfl (by simp) rfl rfl (fun _ => ?_); simp only [hxB]) | (refine Yt (ys := [ZM (tB x)]) (m := 1) rfl rfl hown1 (hR := by infer_instance) SrcV.lit rfl rfl (by decide) rfl (by omega) (by omega) rfl (fun v' sp' hown' => ?_); rw [hmm] at hown' ⊢; rw [hll] at hown'; obtain ⟨va', vc', rfl, _⟩ := hown'.slice) | (refine Zj ?_; first | (refine Zg ?_; refine qQ ?_) | refine Zl ?_) | refine Za ?_ | (refine Zi ?_; refine Zq ?_) | (refine Zh ?_; refine Zp ?_) | intro _)
  rw [← e1]
  refine Zo (k + 1, _, sp') (⟨hlt, hown'⟩) Zk Zk rfl tk inferInstance (by first | omega | (dsimp only; omega))
 ·have hk2 : k = m := by omega
  rw [show ns.take k = ns by rw [hk2, ← hl, List.take_length]] at hown1 ⊢
  repeat' (first | (refine Zj ?_; first | (refine Zg ?_; refine qQ ?_) | refine Zl ?_) | refine Za ?_ | (refine Zi ?_; refine Zq ?_) | (refine Zh ?_; refine Zp ?_) | intro _)
  exact qE ⟨rfl, Hp.le_refl _, w1, sp1, hown1, rfl⟩
theorem wlongs_spec (ρ : Hp) (wb : Nat) (v : RV) (r : Rc) (w : Value) (l : List UInt8) (sp : List Value) (hown : OwnB w l sp) (hn : l.length ≤ 100000) (a : Option Addr) (m c : Nat) (ns : List Nat) (h : SIn ρ (fun x : Nat => Value.int .u64 (x : Int)) a m ns) (hb : ∀ x ∈ ns, x < 18446744073709551616) (hm : m ≤ 10) :
  Spec Tryz.prog 194 [.pointer (some ⟨wb, 0, none⟩), .slice a m c] ρ [XK w l sp, wrC wb v r w] (WrP ρ wb v r (l ++ ns.flatMap (be 8))) := by
 have hl := h.len
 refine Zf Tryz.func194 rfl rfl rfl fun u R => ?_
 simp only [Zx, List.cons_append, List.nil_append]
 repeat' (first | (refine Zj ?_; first | (refine Zg ?_; refine qQ ?_) | refine Zl ?_) | refine Za ?_ | (refine Zi ?_; refine Zq ?_) | (refine Zh ?_; refine Zp ?_) | intro _)
 rw [show XK w l sp = XK w (l ++ (ns.take 0).flatMap (be 8)) sp by simp]
 refine Zy [(0, _), (6, _), (7, _)] (fun (ζ : (Nat) × (Hp) × (Value) × (List Value)) => [(8, .int .i64 ζ.1)]) (fun (ζ : (Nat) × (Hp) × (Value) × (List Value)) => ζ.2.1) (fun (ζ : (Nat) × (Hp) × (Value) × (List Value)) => [XK ζ.2.2.1 (l ++ (ns.take ζ.1).flatMap (be 8)) ζ.2.2.2, wrC wb v r ζ.2.2.1]) (fun (ζ : (Nat) × (Hp) × (Value) × (List Value)) => ζ.1 ≤ m ∧ ρ.le ζ.2.1 ∧ OwnB ζ.2.2.1 (l ++ (ns.take ζ.1).flatMap (be 8)) ζ.2.2.2) (fun (ζ : (Nat) × (Hp) × (Value) × (List Value)) => m - ζ.1) ((0, ρ, w, sp)) (⟨Nat.zero_le _, Hp.le_refl _, by simpa using hown⟩) Zk Zk rfl tk ?_
 rintro ⟨k, ρ1, w1, sp1⟩ hI
 try simp only [List.cons_append, List.nil_append, List.append_assoc, List.append_eq] at hI ⊢
 try dsimp only at hI ⊢
 obtain ⟨hk, hle1, hown1⟩ := hI
 by_cases hlt : k < m
 ·obtain ⟨b, off, C, T, fr, e1, hbb, hcc⟩ := (h.mono hle1).get (show k < ns.length by omega)
  have hts := flatMap_app (be 8) ns k (by omega)
  have hx := hb _ (List.getElem_mem (show k < ns.length by omega))
  have hfl := YH (be 8) 8 (ns.take k) (fun x _ => Nat.le_of_eq (ZF 8 x))
  have htl : (ns.take k).length ≤ 10 := by simp; omega
  generalize ns[k]'(by omega) = x at *
  have hxl : (l ++ (ns.take k).flatMap (be 8)).length ≤ 100080 := by simp only [List.length_append]; omega
  have hmm : l ++ (ns.take k).flatMap (be 8) ++ be 8 x = l ++ (ns.take (k + 1)).flatMap (be 8) := by rw [hts]; simp
  have hll : (l ++ (ns.take k).flatMap (be 8)).length + 8 = (l ++ (ns.take (k + 1)).flatMap (be 8)).length := by rw [hts]; simp [ZF]; omega
  generalize hX : l ++ (ns.take k).flatMap (be 8) = X at *
  obtain ⟨va, vc, rfl, _⟩ := hown1.slice
  rw [e1]
  repeat' (first | (refine Zc (.func 254) ?_; refine Yn (Yu (.slice va X.length vc) (X.map ZM) sp1 5) (h := by repeat (first | exact Ya | apply ZS)) (fun ρ2 hle2 hfz => ?_); obtain ⟨a1, c1, f1, hc1, hs1⟩ := hown1.sIn hfz; cases f1; refine qC rfl rfl (put64_spec _ va _ vc _ hs1 x hx (by omega)) ?_; rintro v' ρ3 L3 hle3 ⟨rfl, sp3, hown3, rfl⟩; simp only [List.cons_append, List.nil_append]; rw [hmm, hll] at hown3; rw [hmm]; obtain ⟨va', vc', rfl, _⟩ := hown3.slice) | (refine Zj ?_; first | (refine Zg ?_; refine qQ ?_) | refine Zl ?_) | refine Za ?_ | (refine Zi ?_; refine Zq ?_) | (refine Zh ?_; refine Zp ?_) | intro _)
  rw [← e1]
  refine Zo (k + 1, ρ3, _, sp3) (⟨hlt, Hp.le_trans hle1 hle2, hown3⟩) Zk Zk rfl tk inferInstance (by first | omega | (dsimp only; omega))
 ·have hk2 : k = m := by omega
  rw [show ns.take k = ns by rw [hk2, ← hl, List.take_length]] at hown1 ⊢
  repeat' (first | (refine Zj ?_; first | (refine Zg ?_; refine qQ ?_) | refine Zl ?_) | refine Za ?_ | (refine Zi ?_; refine Zq ?_) | (refine Zh ?_; refine Zp ?_) | intro _)
  exact qE ⟨rfl, hle1, w1, sp1, hown1, rfl⟩
theorem wtxn_spec (ρ : Hp) (wb : Nat) (v : RV) (r : Rc) (w : Value) (l : List UInt8) (sp : List Value) (hown : OwnB w l sp) (hn : l.length ≤ 100000) (x : Int) (h0 : 0 ≤ x ∧ x < 4294967296) :
  Spec Tryz.prog 195 [.pointer (some ⟨wb, 0, none⟩), .int .i64 x] ρ [XK w l sp, wrC wb v r w] (WrP ρ wb v r (l ++ be 4 x.toNat)) := by
 have hll : l.length + 4 = (l ++ be 4 x.toNat).length := by simp [ZF]
 obtain ⟨va, vc, rfl, _⟩ := hown.slice
 obtain ⟨y, rfl⟩ : ∃ y : Nat, x = y := ⟨x.toNat, by omega⟩
 simp only [Int.toNat_natCast] at hll ⊢
 refine Zf Tryz.func195 rfl rfl rfl fun u R => ?_
 simp only [Zx, List.cons_append, List.nil_append]
 repeat' (first | (refine Zc (.func 255) ?_; refine Yn (Yu (.slice va l.length vc) (l.map ZM) sp 5) (h := by repeat (first | exact Ya | apply ZS)) (fun ρ2 hle2 hfz => ?_); obtain ⟨a1, c1, f1, hc1, hs1⟩ := hown.sIn hfz; cases f1; refine qC rfl rfl (put32_spec _ va _ vc _ hs1 y (by omega) (by omega)) ?_; rintro v' ρ3 L3 hle3 ⟨rfl, sp3, hown3, rfl⟩; simp only [List.cons_append, List.nil_append]; rw [hll] at hown3; obtain ⟨va', vc', rfl, _⟩ := hown3.slice) | (refine Zj ?_; first | (refine Zg ?_; refine qQ ?_) | refine Zl ?_) | refine Za ?_ | (refine Zi ?_; refine Zq ?_) | (refine Zh ?_; refine Zp ?_) | intro _)
 exact qE ⟨rfl, hle2, _, sp3, hown3, rfl⟩
theorem wcontent_spec (ρ : Hp) (wb : Nat) (v : RV) (r : Rc) (w : Value) (l : List UInt8) (sp : List Value) (hown : OwnB w l sp) (hn : l.length ≤ 100000) (cv : CV) (c : XQ) (h : CI ρ cv c) (hok : ZQ c = true) :
  Spec Tryz.prog 256 [.pointer (some ⟨wb, 0, none⟩), .agg ⟨XJ c.kind cv⟩] ρ [XK w l sp, wrC wb v r w] (WrP ρ wb v r (l ++ Ys c)) := by
 have hce := contE_spec ρ cv c h.cin (fun r hr => (h.row r hr).id) h.kid
 rw [if_pos hok, if_pos hok] at hce
 have h82 := contB_len hok
 obtain ⟨va, vc, rfl, _⟩ := hown.slice
 refine Zf Tryz.func256 rfl rfl rfl fun u R => ?_
 simp only [Zx, List.cons_append, List.nil_append]
 repeat' (first | (refine Zc (.func 285) ?_; refine qC rfl rfl (hce) ?_; rintro v ρ' L' hle ⟨hle1, a1, n1, c1, rfl, hc1, hs1, rfl⟩ <;> (try simp only [kM, kN, kO])) | (have hn1 := hs1.len; refine Yt (ys := (Ys c).map ZM) (m := n1) (sz := 1) rfl rfl hown (hR := by infer_instance) (SIn.srcV hs1) (by simpa using hs1.len) (u8c_one _) (by decide) rfl (by omega) (by omega) rfl (fun v' sp' hown' => ?_); rw [← List.map_append] at hown' ⊢; rw [← hs1.len, ← List.length_append] at hown'; obtain ⟨va', vc', rfl, _⟩ := hown'.slice) | (refine Zj ?_; first | (refine Zg ?_; refine qQ ?_) | refine Zl ?_) | refine Za ?_ | (refine Zi ?_; refine Zq ?_) | (refine Zh ?_; refine Zp ?_) | intro _)
 exact qE ⟨rfl, hle1, _, sp', hown', rfl⟩
theorem sIn_lit {α : Type} {g : α → Value} {ρ : Hp} {b : Nat} {l : List α} {T : TypeId} {fr : Nat × Nat} (h : ρ b = some (.cells ⟨l.map g⟩ T fr)) : SIn ρ g (some ⟨b, 0, none⟩) l.length l :=
 ⟨rfl, .inr ⟨b, 0, _, T, fr, rfl, h, by rw [List.drop_zero, List.take_of_length_le (by simp)]⟩⟩
abbrev iV (x : Int) : Value := .int .i64 x
abbrev lV (x : Nat) : Value := .int .u64 (x : Int)
theorem YQ (ρ : Hp) (wb : Nat) (v : RV) (r : Rc) (w : Value) (l : List UInt8) (sp : List Value) (hown : OwnB w l sp) (hn : l.length ≤ 100000) (b : Nat) (x : Int) {T : TypeId} {fr : Nat × Nat} (h : ρ b = some (.cells ⟨[.int .i64 x]⟩ T fr)) (hb : 0 ≤ x ∧ x < 256) :
  Spec Tryz.prog 193 [.pointer (some ⟨wb, 0, none⟩), .slice (some ⟨b, 0, none⟩) 1 1] ρ [XK w l sp, wrC wb v r w] (WrP ρ wb v r (l ++ [tB x])) :=
 wbytes_spec ρ wb v r w l sp hown hn _ 1 1 [x] (sIn_lit (l := [x]) (g := iV) h) (fun y hy => by rw [List.mem_singleton.1 hy]; exact hb) (by decide)
theorem wlong_spec (ρ : Hp) (wb : Nat) (v : RV) (r : Rc) (w : Value) (l : List UInt8) (sp : List Value) (hown : OwnB w l sp) (hn : l.length ≤ 100000) (b : Nat) (x : Nat) {T : TypeId} {fr : Nat × Nat} (h : ρ b = some (.cells ⟨[.int .u64 (x : Int)]⟩ T fr)) (hb : x < 18446744073709551616) :
  Spec Tryz.prog 194 [.pointer (some ⟨wb, 0, none⟩), .slice (some ⟨b, 0, none⟩) 1 1] ρ [XK w l sp, wrC wb v r w] (WrP ρ wb v r (l ++ be 8 x)) := by
 have := wlongs_spec ρ wb v r w l sp hown hn _ 1 1 [x] (sIn_lit (l := [x]) (g := lV) h) (fun y hy => by rw [List.mem_singleton.1 hy]; exact hb) (by decide)
 simpa only [List.flatMap_cons, List.flatMap_nil, List.append_nil] using this
theorem wlong3_spec (ρ : Hp) (wb : Nat) (v : RV) (r : Rc) (w : Value) (l : List UInt8) (sp : List Value) (hown : OwnB w l sp) (hn : l.length ≤ 100000) (b : Nat) (x y z : Nat) {T : TypeId} {fr : Nat × Nat} (h : ρ b = some (.cells ⟨[.int .u64 (x : Int), .int .u64 (y : Int), .int .u64 (z : Int)]⟩ T fr)) (hx : x < 18446744073709551616) (hy : y < 18446744073709551616) (hz : z < 18446744073709551616) :
  Spec Tryz.prog 194 [.pointer (some ⟨wb, 0, none⟩), .slice (some ⟨b, 0, none⟩) 3 3] ρ [XK w l sp, wrC wb v r w] (WrP ρ wb v r (l ++ (be 8 x ++ (be 8 y ++ be 8 z)))) := by
 have := wlongs_spec ρ wb v r w l sp hown hn _ 3 3 [x, y, z] (sIn_lit (l := [x, y, z]) (g := lV) h) (fun q hq => by simp at hq; rcases hq with rfl | rfl | rfl <;> assumption) (by decide)
 simpa only [List.flatMap_cons, List.flatMap_nil, List.append_nil] using this
theorem wnested_spec (ρ : Hp) (wb : Nat) (v : RV) (r : Rc) (w : Value) (l : List UInt8) (sp : List Value) (hown : OwnB w l sp) (hn : l.length ≤ 90000) (h0 : r.next < 18446744073709551616) :
  Spec Tryz.prog 197 [.pointer (some ⟨wb, 0, none⟩)] ρ [XK w l sp, wrC wb v r w] (WrP ρ wb v r (l ++ be 8 r.next)) := by
 have hρ := Hp.le_refl ρ
 refine Zf Tryz.func197 rfl rfl rfl fun u R => ?_
 simp only [Zx, List.cons_append, List.nil_append]
 repeat' (first | (refine ZJ rfl rfl rfl rfl (by simp) rfl rfl (fun bs => ?_); refine Yn _ (h := Rem.here) (fun ρz hlz hfz => ?_); have hbs := hfz _ (List.mem_singleton.2 rfl); clear hfz; have hρ := Hp.le_trans hρ hlz; clear hlz; (try simp only [List.nil_append])) | (refine Zc (.func 194) ?_; refine qC rfl rfl (wlong_spec _ wb v r w l sp hown (by omega) _ r.next hbs h0) ?_; rintro v ρ' L' hle ⟨rfl, hl1, w1, sp1, hown, rfl⟩ <;> (try simp only [kM, kN, kO])) | (refine Zj ?_; first | (refine Zg ?_; refine qQ ?_) | refine Zl ?_) | refine Za ?_ | (refine Zi ?_; refine Zq ?_) | (refine Zh ?_; refine Zp ?_) | intro _)
 exact qE ⟨rfl, Hp.le_trans hρ hl1, w1, sp1, hown, rfl⟩
theorem imB_len {two : Bool} {x : Im} (ha : ZQ x.a = true) (hb : ZQ x.b = true) : (imB two x).length ≤ 165 := by
 have h1 := contB_len ha
 have h2 := contB_len hb
 cases two <;> simp [imB] <;> omega
theorem wimages_spec (ρ : Hp) (wb : Nat) (v : RV) (r : Rc) (w : Value) (l : List UInt8) (sp : List Value) (hown : OwnB w l sp) (hn : l.length ≤ 80000) (h : RcIn ρ v r) (hL : LayOk r) :
  Spec Tryz.prog 196 [.pointer (some ⟨wb, 0, none⟩)] ρ [XK w l sp, wrC wb v r w] (WrP ρ wb v r (l ++ imsB r)) := by
 have hρ := Hp.le_refl ρ
 have hA := h.i.at'
 have hl := hA.len
 have hil := hL.il
 refine Zf Tryz.func196 rfl rfl rfl fun u R => ?_
 simp only [Zx, List.cons_append, List.nil_append]
 repeat' (first | (refine ZJ rfl rfl rfl rfl (by simp) rfl rfl (fun bs => ?_); refine Yn _ (h := Rem.here) (fun ρz hlz hfz => ?_); have hbs := hfz _ (List.mem_singleton.2 rfl); clear hfz; have hρ := Hp.le_trans hρ hlz; clear hlz; (try simp only [List.nil_append])) | (refine Zc (.func 193) ?_; refine qC rfl rfl (YQ _ wb v r w l sp hown (by omega) _ (v.i.n : Int) hbs (by omega)) ?_; rintro v ρ' L' hle ⟨rfl, hl1, w1, sp1, hown, rfl⟩ <;> (try simp only [kM, kN, kO]); have hρ := Hp.le_trans hρ hl1; clear hl1) | (refine Zj ?_; first | (refine Zg ?_; refine qQ ?_) | refine Zl ?_) | refine Za ?_ | (refine Zi ?_; refine Zq ?_) | (refine Zh ?_; refine Zp ?_) | intro _)
 obtain ⟨B, hB⟩ : ∃ B, l ++ [tB (v.i.n : Int)] = B := ⟨_, rfl⟩
 rw [hB] at hown ⊢
 have hBl : B.length ≤ 80001 := by rw [← hB]; simp; omega
 have hfin : B ++ r.ims.flatMap (imB (decide (r.kind = 2))) = l ++ imsB r := by rw [← hB]; simp [imsB, Xr, hl, tB]
 generalize hf : imB (decide (r.kind = 2)) = f at *
 rw [show XK w1 B sp1 = XK w1 (B ++ (r.ims.take 0).flatMap f) sp1 by simp]
 refine Zy [(0, _), (17, _), (18, _)] (fun (ζ : (Nat) × (Hp) × (Value) × (List Value)) => [(19, .int .i64 ζ.1)]) (fun (ζ : (Nat) × (Hp) × (Value) × (List Value)) => ζ.2.1) (fun (ζ : (Nat) × (Hp) × (Value) × (List Value)) => [XK ζ.2.2.1 (B ++ (r.ims.take ζ.1).flatMap f) ζ.2.2.2, wrC wb v r ζ.2.2.1]) (fun (ζ : (Nat) × (Hp) × (Value) × (List Value)) => ζ.1 ≤ v.i.n ∧ ρ.le ζ.2.1 ∧ OwnB ζ.2.2.1 (B ++ (r.ims.take ζ.1).flatMap f) ζ.2.2.2) (fun (ζ : (Nat) × (Hp) × (Value) × (List Value)) => v.i.n - ζ.1) ((0, ρ', w1, sp1)) (⟨Nat.zero_le _, hρ, by simpa using hown⟩) Zk Zk rfl tk ?_
 rintro ⟨k, ρ1, w2, sp2⟩ hI
 try simp only [List.cons_append, List.nil_append, List.append_assoc, List.append_eq] at hI ⊢
 try dsimp only at hI ⊢
 obtain ⟨hk, hle1, hown⟩ := hI
 clear hρ
 by_cases hlt : k < v.i.n
 ·obtain ⟨b, off, C, T, fr, e1, hbb, hfit, hcc⟩ := (hA.mono hle1).get (show k < r.ims.length by omega)
  have hts := flatMap_app f r.ims k (by omega)
  have hmem := List.getElem_mem (show k < r.ims.length by omega)
  have hin := (h.im _ hmem).mono hle1
  obtain ⟨hp, ha, hb⟩ := hL.im _ hmem
  have hfl := YH f 165 (r.ims.take k) (fun x hx => by
   rw [← hf]; exact imB_len (hL.im x (List.mem_of_mem_take hx)).2.1 (hL.im x (List.mem_of_mem_take hx)).2.2)
  have htl : (r.ims.take k).length ≤ 16 := by simp; omega
  generalize r.ims[k]'(by omega) = x at *
  have hxl : (B ++ (r.ims.take k).flatMap f).length ≤ 83000 := by simp only [List.length_append]; omega
  have hmm : B ++ (r.ims.take k).flatMap f ++ f x = B ++ (r.ims.take (k + 1)).flatMap f := by rw [hts]; simp
  generalize hX : B ++ (r.ims.take k).flatMap f = X at *
  have hρ := Hp.le_refl ρ1
  have h82 := contB_len hb
  have h83 := contB_len ha
  rw [e1]
  by_cases h2 : r.kind = 2
  ·have hfx : f x = tB x.page :: (Ys x.b ++ Ys x.a) := by rw [← hf, h2]; rfl
   repeat' (first | (refine ZJ rfl rfl rfl rfl (by simp) rfl rfl (fun bs => ?_); refine Yn _ (h := Rem.here) (fun ρz hlz hfz => ?_); have hbs := hfz _ (List.mem_singleton.2 rfl); clear hfz; have hρ := Hp.le_trans hρ hlz; clear hlz; (try simp only [List.nil_append])) | (refine Zc (.func 193) ?_; refine qC rfl rfl (YQ _ wb v r w2 X sp2 hown (by omega) _ x.page hbs (by omega)) ?_; rintro v ρ' L' hle ⟨rfl, hl1, w3, sp3, hown, rfl⟩ <;> (try simp only [kM, kN, kO]); have hρ := Hp.le_trans hρ hl1; clear hl1) | (refine Zc (.func 256) ?_; refine qC rfl rfl ((wcontent_spec _ wb v r w3 _ sp3 hown (by (try simp only [List.length_append, List.length_cons, List.length_nil, List.length_map, ZF]) <;> omega) x.bv x.b (hin.b.mono hρ) hb)) ?_; rintro v ρ' L' hle ⟨rfl, hl1, w4, sp4, hown, rfl⟩ <;> (try simp only [kM, kN, kO]); have hρ := Hp.le_trans hρ hl1; clear hl1) | (refine Zc (.func 256) ?_; refine qC rfl rfl ((wcontent_spec _ wb v r w4 _ sp4 hown (by (try simp only [List.length_append, List.length_cons, List.length_nil, List.length_map, ZF]) <;> omega) x.av x.a (hin.a.mono hρ) ha)) ?_; rintro v ρ' L' hle ⟨rfl, hl1, w5, sp5, hown, rfl⟩ <;> (try simp only [kM, kN, kO]); have hρ := Hp.le_trans hρ hl1; clear hl1) | (refine Zj ?_; first | (refine Zg ?_; refine qQ ?_) | refine Zl ?_) | refine Za ?_ | (refine Zi ?_; refine Zq ?_) | (refine Zh ?_; refine Zp ?_) | intro _)
   rw [← e1]
   have e2 : X ++ [tB x.page] ++ Ys x.b ++ Ys x.a = B ++ (r.ims.take (k + 1)).flatMap f := by rw [← hmm, hfx]; simp
   rw [e2] at hown ⊢
   refine Zo (k + 1, _, w5, sp5) (⟨hlt, Hp.le_trans hle1 hρ, hown⟩) Zk Zk rfl tk inferInstance (by first | omega | (dsimp only; omega))
  ·have hfx : f x = tB x.page :: Ys x.a := by rw [← hf, decide_eq_false h2]; rfl
   repeat' (first | (refine ZJ rfl rfl rfl rfl (by simp) rfl rfl (fun bs => ?_); refine Yn _ (h := Rem.here) (fun ρz hlz hfz => ?_); have hbs := hfz _ (List.mem_singleton.2 rfl); clear hfz; have hρ := Hp.le_trans hρ hlz; clear hlz; (try simp only [List.nil_append])) | (refine Zc (.func 193) ?_; refine qC rfl rfl (YQ _ wb v r w2 X sp2 hown (by omega) _ x.page hbs (by omega)) ?_; rintro v ρ' L' hle ⟨rfl, hl1, w3, sp3, hown, rfl⟩ <;> (try simp only [kM, kN, kO]); have hρ := Hp.le_trans hρ hl1; clear hl1) | (refine Zc (.func 256) ?_; refine qC rfl rfl ((wcontent_spec _ wb v r w3 _ sp3 hown (by (try simp only [List.length_append, List.length_cons, List.length_nil, List.length_map, ZF]) <;> omega) x.av x.a (hin.a.mono hρ) ha)) ?_; rintro v ρ' L' hle ⟨rfl, hl1, w5, sp5, hown, rfl⟩ <;> (try simp only [kM, kN, kO]); have hρ := Hp.le_trans hρ hl1; clear hl1) | (refine Zj ?_; first | (refine Zg ?_; refine qQ ?_) | refine Zl ?_) | refine Za ?_ | (refine Zi ?_; refine Zq ?_) | (refine Zh ?_; refine Zp ?_) | intro _)
   rw [← e1]
   have e2 : X ++ [tB x.page] ++ Ys x.a = B ++ (r.ims.take (k + 1)).flatMap f := by rw [← hmm, hfx]; simp
   rw [e2] at hown ⊢
   refine Zo (k + 1, _, w5, sp5) (⟨hlt, Hp.le_trans hle1 hρ, hown⟩) Zk Zk rfl tk inferInstance (by first | omega | (dsimp only; omega))
 ·rw [show r.ims.take k = r.ims by rw [show k = r.ims.length by omega, List.take_length], hfin] at hown ⊢
  repeat' (first | (refine Zj ?_; first | (refine Zg ?_; refine qQ ?_) | refine Zl ?_) | refine Za ?_ | (refine Zi ?_; refine Zq ?_) | (refine Zh ?_; refine Zp ?_) | intro _)
  exact qE ⟨rfl, hle1, w2, sp2, hown, rfl⟩
theorem wundone_spec (ρ : Hp) (wb : Nat) (v : RV) (r : Rc) (w : Value) (l : List UInt8) (sp : List Value) (hown : OwnB w l sp) (hn : l.length ≤ 70000) (h : RcIn ρ v r) (hL : LayOk r) :
  Spec Tryz.prog 199 [.pointer (some ⟨wb, 0, none⟩)] ρ [XK w l sp, wrC wb v r w] (WrP ρ wb v r (l ++ (be 8 r.next ++ imsB r))) := by
 refine Zf Tryz.func199 rfl rfl rfl fun u R => ?_
 simp only [Zx, List.cons_append, List.nil_append]
 repeat' (first | (refine Zc (.func 197) ?_; refine qC rfl rfl (wnested_spec _ wb v r w l sp hown (by omega) hL.next) ?_; rintro v ρ' L' hle ⟨rfl, hl1, w1, sp1, hown, rfl⟩ <;> (try simp only [kM, kN, kO])) | (refine Zc (.func 196) ?_; refine qC rfl rfl (wimages_spec _ wb v r w1 _ sp1 hown (by (try simp only [List.length_append, List.length_cons, List.length_nil, List.length_map, ZF]) <;> omega) (h.mono hl1) hL) ?_; rintro v ρ' L' hle ⟨rfl, hl2, w2, sp2, hown, rfl⟩ <;> (try simp only [kM, kN, kO])) | (refine Zj ?_; first | (refine Zg ?_; refine qQ ?_) | refine Zl ?_) | refine Za ?_ | (refine Zi ?_; refine Zq ?_) | (refine Zh ?_; refine Zp ?_) | intro _)
 rw [List.append_assoc] at hown ⊢
 exact qE ⟨rfl, Hp.le_trans hl1 hl2, w2, sp2, hown, rfl⟩
def ZN (k : Nat) (s : Yo) : Nat × Yo := ((Yk k s.1 s.2.1).1, (Yk k s.1 s.2.1).2.1, (Yk k s.1 s.2.1).2.2, s.2.2)
def okS (s : Yo) : Bool := !s.2.2 && decide (s.2.1 = 0)
def skipS (n : Int) (s : Yo) : Yo := ((Wo n.toNat s.1 s.2.1).2.1, (Wo n.toNat s.1 s.2.1).2.2, s.2.2)
def tkT {α : Type} (t : List UInt8 → α × Int × Int) (z : α) (s : Yo) : α × Yo := if okS s then (if (t s.1).2.2 = 0 then ((t s.1).1, skipS (t s.1).2.1 s) else (z, s.1, s.2.1, true)) else (z, s)
abbrev ztC : XQ := ⟨0, [], []⟩
abbrev ztR : Row := ⟨0, 0, 0, []⟩
abbrev YX : CV := ⟨none, 0, 0, none, 0, 0⟩
def imDb (two : Bool) (s : Yo) : XQ × Yo := if two then tkT ZA ztC s else (ztC, s)
def imDa (two : Bool) (p : Nat) (s : Yo) : Im × Yo := (⟨p, YX, (imDb two s).1, YX, (tkT ZA ztC (imDb two s).2).1⟩, (tkT ZA ztC (imDb two s).2).2)
def imD (two : Bool) (s : Yo) : Im × Yo := imDa two (ZN 1 s).1 (ZN 1 s).2
def stpDr (k : Nat) (s : Yo) : Stp × Yo := (⟨k, (tkT Ym ztR s).1, 0⟩, (tkT Ym ztR s).2)
def stpDb (k t i : Nat) (s : Yo) : Stp × Yo := if k = 1 then (⟨k, ⟨t, i, 0, []⟩, i64N (ZN 8 s).1⟩, (ZN 8 s).2) else (⟨k, ⟨t, i, 0, []⟩, 0⟩, s)
def stpDi (k t : Nat) (s : Yo) : Stp × Yo := stpDb k t (ZN 2 s).1 (ZN 2 s).2
def stpDt (k : Nat) (s : Yo) : Stp × Yo := if k = 2 ∨ k = 3 then stpDr k s else stpDi k (ZN 1 s).1 (ZN 1 s).2
def XU (s : Yo) : Stp × Yo := stpDt (ZN 1 s).1 (ZN 1 s).2
def ckTe (t f l u : Nat) (s : Yo) : CkT × Yo := (⟨t, f, l, u, (ZN 1 s).1⟩, (ZN 1 s).2)
def ckTu (t f l : Nat) (s : Yo) : CkT × Yo := ckTe t f l (ZN 8 s).1 (ZN 8 s).2
def ckTl (t f : Nat) (s : Yo) : CkT × Yo := ckTu t f (ZN 8 s).1 (ZN 8 s).2
def ckTf (t : Nat) (s : Yo) : CkT × Yo := ckTl t (ZN 8 s).1 (ZN 8 s).2
def ckTD (s : Yo) : CkT × Yo := ckTf (ZN 4 s).1 (ZN 4 s).2
def ckPr (p : Nat) (s : Yo) : CkP × Yo := (⟨p, (ZN 8 s).1⟩, (ZN 8 s).2)
def ckPD (s : Yo) : CkP × Yo := ckPr (ZN 1 s).1 (ZN 1 s).2
def Yc {α : Type} (f : Yo → α × Yo) : Nat → Yo → List α × Yo
 | 0, s => ([], s)
 | n + 1, s => if okS s then ((f s).1 :: (Yc f n (f s).2).1, (Yc f n (f s).2).2) else ([], s)
def YD {α : Type} (f : Yo → α × Yo) (s : Yo) : List α × Yo := Yc f (ZN 1 s).1 (ZN 1 s).2
def hdP (k l t : Nat) (s : Yo) : Rc × Yo := (⟨k, l, t, (ZN 8 s).1, 0, [], [], 0, [], []⟩, (ZN 8 s).2)
def hdT (k l : Nat) (s : Yo) : Rc × Yo := hdP k l (ZN 4 s).1 (ZN 4 s).2
def hdL (k : Nat) (s : Yo) : Rc × Yo := hdT k (ZN 8 s).1 (ZN 8 s).2
def headD (s : Yo) : Rc × Yo := hdL (ZN 1 s).1 (ZN 1 s).2
def chD (r : Rc) (s : Yo) : Rc × Yo := ({ r with ims := (YD (imD (decide (r.kind = 2))) s).1 }, (YD (imD (decide (r.kind = 2))) s).2)
def neD (r : Rc) (s : Yo) : Rc × Yo := ({ r with next := (ZN 8 s).1 }, (ZN 8 s).2)
def doD (r : Rc) (s : Yo) : Rc × Yo := ({ r with steps := (YD XU s).1 }, (YD XU s).2)
def cxD (r : Rc) (s : Yo) : Rc × Yo := ({ r with nextTxn := (ZN 4 s).1 }, (ZN 4 s).2)
def ctD (r : Rc) (s : Yo) : Rc × Yo := ({ r with txns := (YD ckTD s).1 }, (YD ckTD s).2)
def cdD (r : Rc) (s : Yo) : Rc × Yo := ({ r with dirty := (YD ckPD s).1 }, (YD ckPD s).2)
abbrev XR (f g : Rc → Yo → Rc × Yo) (r : Rc) (s : Yo) : Rc × Yo := g (f r s).1 (f r s).2
def XM (r : Rc) (s : Yo) : Rc × Yo :=
 if r.kind = 2 then chD r s else if r.kind = 3 then neD r s else if r.kind = 4 then XR neD doD r s else if r.kind = 5 then XR neD chD r s
 else if r.kind = 9 then XR (XR cxD ctD) cdD r s else (r, s)
def decD (l : List UInt8) : Rc × Yo := XM (headD (l, 0, false)).1 (headD (l, 0, false)).2
def Yq (l : List UInt8) : Bool := okS (decD l).2 && (decide ((decD l).2.1.length = 0) && YM (decD l).1)
def zeroRc : Rc := ⟨0, 0, 0, 0, 0, [], [], 0, [], []⟩
def decR (l : List UInt8) : Rc := if Yq l then (decD l).1 else zeroRc
abbrev FwB {α : Type} (f : Yo → α × Yo) (enc : α → List UInt8) (x : α) : Prop := ∀ rest, f (enc x ++ rest, 0, false) = (x, rest, 0, false)
theorem Xx {k x : Nat} (h : x < 256 ^ k) (rest : List UInt8) : ZN k (be k x ++ rest, 0, false) = (x, rest, 0, false) := by
 unfold ZN
 simp only [XI (ZF k x), unbe_be, Nat.mod_eq_of_lt h]
theorem tkC_fw {c : XQ} (h : ZQ c = true) (hf : IdFit c) (rest : List UInt8) : tkT ZA ztC (Ys c ++ rest, 0, false) = (c, rest, 0, false) := by
 unfold tkT
 rw [if_pos (show okS (Ys c ++ rest, 0, false) = true from rfl)]
 simp only [takeCont_back h hf rest, if_true, skipS, Int.toNat_natCast]
 unfold Wo
 rw [if_neg (by simp), if_neg (by simp), List.drop_left' rfl]
theorem tkR_fw {c : Row} (h : Yy c = true) (hf : YC c) (rest : List UInt8) : tkT Ym ztR (ZY c ++ rest, 0, false) = (c, rest, 0, false) := by
 unfold tkT
 rw [if_pos (show okS (ZY c ++ rest, 0, false) = true from rfl)]
 simp only [takeRow_back h hf rest, if_true, skipS, Int.toNat_natCast]
 unfold Wo
 rw [if_neg (by simp), if_neg (by simp), List.drop_left' rfl]
theorem manyS_fw {α : Type} {f : Yo → α × Yo} {enc : α → List UInt8} : ∀ (xs : List α), (∀ x ∈ xs, FwB f enc x) → ∀ rest, Yc f xs.length (xs.flatMap enc ++ rest, 0, false) = (xs, rest, 0, false)
 | [], _, rest => rfl
 | x :: xs, h, rest => by
  rw [List.length_cons, Yc, if_pos (by rfl), List.flatMap_cons, List.append_assoc, h x (by simp)]
  simp only [manyS_fw xs (fun y hy => h y (by simp [hy])) rest]
theorem manyD_fw {α : Type} {f : Yo → α × Yo} {enc : α → List UInt8} {xs : List α} (hl : xs.length ≤ 255) (h : ∀ x ∈ xs, FwB f enc x) : FwB (YD f) (Xr enc) xs := by
 intro rest
 unfold YD Xr
 have e : (UInt8.ofNat xs.length :: xs.flatMap enc) ++ rest = be 1 xs.length ++ (xs.flatMap enc ++ rest) := by rw [be_one]; simp
 rw [e, Xx (by omega)]
 exact manyS_fw xs h rest
abbrev Im.plain (x : Im) : Im := ⟨x.page, YX, x.b, YX, x.a⟩
abbrev Rc.plain (r : Rc) : Rc := { r with ims := r.ims.map Im.plain }
theorem imD_fw {two : Bool} {x : Im} (hp : 0 ≤ x.page ∧ x.page < 64) (ha : ZQ x.a = true) (hb : ZQ x.b = true) (fa : IdFit x.a) (fb : IdFit x.b) (h0 : two = false → x.b = ztC) : FwB (imD two) (imB two) x.plain := by
 intro rest
 have e : imB two x.plain ++ rest = be 1 x.page.toNat ++ ((if two then Ys x.b else []) ++ (Ys x.a ++ rest)) := by
  rw [be_one]; simp [imB, tB]
 unfold imD
 rw [e, Xx (by omega)]
 unfold imDa
 have e2 : imDb two ((if two then Ys x.b else []) ++ (Ys x.a ++ rest), 0, false) = (x.b, Ys x.a ++ rest, 0, false) := by
  unfold imDb
  cases two
  ·rw [h0 rfl]; rfl
  ·simp only [if_true]; exact tkC_fw hb fb _
 simp only [e2, tkC_fw ha fa rest, Prod.mk.injEq, and_true]
 have : ((x.page.toNat : Nat) : Int) = x.page := by omega
 rw [this]
structure StpF (s : Stp) : Prop where
 row : YC s.row
 by' : i64in s.by'
theorem stpD_fw {s : Stp} (hs : YF s = true) (hf : StpF s) : FwB XU stpB s := by
 intro rest
 obtain ⟨k, ⟨t, id, val, note⟩, b⟩ := s
 obtain ⟨⟨hid, hval⟩, hby⟩ := hf
 dsimp only at hid hval hby
 have hk : k = 1 ∨ k = 2 ∨ k = 3 ∨ k = 4 := by
  unfold YF at hs
  dsimp only at hs
  by_cases h1 : k = 1 <;> by_cases h2 : k = 2 <;> by_cases h3 : k = 3 <;> by_cases h4 : k = 4 <;> simp_all
 have hlead : ∀ X, XU (tB k :: X, 0, false) = stpDt k.toNat (X, 0, false) := fun X => by
  unfold XU
  have e : tB k :: X = be 1 k.toNat ++ X := by rw [be_one]; rfl
  rw [e, Xx (by omega)]
 unfold stpB
 rw [List.cons_append, hlead]
 have hkk : ((k.toNat : Nat) : Int) = k := by omega
 by_cases h23 : k = 2 ∨ k = 3
 ·have hok : b = 0 ∧ Yy ⟨t, id, val, note⟩ = true := by
   unfold YF at hs
   dsimp only at hs
   rw [if_neg (by omega), if_neg (by omega), if_pos h23, Bool.and_eq_true, decide_eq_true_eq] at hs
   exact hs
  rw [if_pos h23]
  unfold stpDt stpDr
  rw [if_pos (by omega), tkR_fw hok.2 ⟨hid, hval⟩]
  simp only [hkk, hok.1]
 ·rw [if_neg h23]
  have hon : onlyOk ⟨k, ⟨t, id, val, note⟩, b⟩ = true ∧ (k ≠ 1 → b = 0) := by
   unfold YF at hs
   dsimp only at hs
   by_cases h1 : k = 1
   ·rw [if_pos h1] at hs; exact ⟨hs, fun h => absurd h1 h⟩
   ·rw [if_neg h1, if_pos (by omega), Bool.and_eq_true, decide_eq_true_eq] at hs
    exact ⟨hs.1, fun _ => hs.2⟩
  obtain ⟨hon, hb0⟩ := hon
  unfold onlyOk at hon
  rw [Bool.and_eq_true, decide_eq_true_eq, decide_eq_true_eq] at hon
  obtain ⟨⟨g1, g2⟩, g3, g4⟩ := hon
  dsimp only at g1 g2 g3 g4
  subst g1 g2
  unfold stpDt
  rw [if_neg (by omega)]
  have e : tB t :: (be 2 id ++ (if k = 1 then be 8 (vN b) else [])) ++ rest = be 1 t.toNat ++ (be 2 id ++ ((if k = 1 then be 8 (vN b) else []) ++ rest)) := by rw [be_one]; simp [tB]
  dsimp only
  rw [e, Xx (by omega)]
  unfold stpDi
  rw [Xx (by omega)]
  unfold stpDb
  have htt : ((t.toNat : Nat) : Int) = t := by omega
  by_cases h1 : k = 1
  ·rw [if_pos h1, if_pos (by omega), Xx (by have := vN_lt b; omega)]
   simp only [hkk, htt, i64N_vN hby]
  ·rw [if_neg h1, if_neg (by omega)]
   simp only [hkk, htt, hb0 h1, List.nil_append]
structure CkTF (t : CkT) : Prop where
 txn : 0 ≤ t.txn ∧ t.txn < 4294967296
 first : t.first < 18446744073709551616
 last : t.last < 18446744073709551616
 undo : t.undo < 18446744073709551616
 state : 0 ≤ t.state ∧ t.state < 256
theorem ckTD_fw {t : CkT} (h : CkTF t) : FwB ckTD ckTB t := by
 intro rest
 obtain ⟨n, f, l, u, e⟩ := t
 obtain ⟨h1, h2, h3, h4, h5⟩ := h
 dsimp only at h1 h2 h3 h4 h5
 have e0 : ckTB ⟨n, f, l, u, e⟩ ++ rest = be 4 n.toNat ++ (be 8 f ++ (be 8 l ++ (be 8 u ++ (be 1 e.toNat ++ rest)))) := by rw [be_one]; simp [ckTB, tB]
 rw [e0]
 unfold ckTD ckTf ckTl ckTu ckTe
 rw [Xx (by omega)]
 simp only [Xx (k := 8) (x := f) (by omega), Xx (k := 8) (x := l) (by omega), Xx (k := 8) (x := u) (by omega), Xx (k := 1) (x := e.toNat) (by omega)]
 rw [show ((n.toNat : Nat) : Int) = n by omega, show ((e.toNat : Nat) : Int) = e by omega]
structure CkPF (p : CkP) : Prop where
 page : 0 ≤ p.page ∧ p.page < 256
 since : p.since < 18446744073709551616
theorem ckPD_fw {p : CkP} (h : CkPF p) : FwB ckPD ckPB p := by
 intro rest
 obtain ⟨n, f⟩ := p
 obtain ⟨h1, h2⟩ := h
 dsimp only at h1 h2
 have e0 : ckPB ⟨n, f⟩ ++ rest = be 1 n.toNat ++ (be 8 f ++ rest) := by rw [be_one]; simp [ckPB, tB]
 rw [e0]
 unfold ckPD ckPr
 rw [Xx (by omega)]
 simp only [Xx (k := 8) (x := f) (by omega)]
 rw [show ((n.toNat : Nat) : Int) = n by omega]
structure RcF (r : Rc) : Prop where
 im : ∀ x ∈ r.ims, IdFit x.b ∧ IdFit x.a
 st : ∀ s ∈ r.steps, StpF s
theorem up_all {α : Type} {right : α → Bool} {by' : α → Int} {l : List α} (h : upB right by' l l.length = true) : ∀ i (hi : i < l.length), right l[i] = true ∧ (i = 0 ∨ by' (l[i - 1]'(by omega)) < by' l[i]) := by
 intro i hi
 obtain ⟨h1, h2⟩ := (Wt h (Nat.le_refl _)).2 i hi hi
 refine ⟨h1, ?_⟩
 rcases h2 with h2 | h2
 ·exact .inl h2
 ·exact .inr (of_decide_eq_true h2)
theorem up_mem {α : Type} {right : α → Bool} {by' : α → Int} {l : List α} (h : upB right by' l l.length = true) : ∀ x ∈ l, right x = true := by
 intro x hx
 obtain ⟨i, hi, rfl⟩ := List.mem_iff_getElem.1 hx
 exact (up_all h i hi).1
theorem ckP_len {lsn : Nat} {l : List CkP} (h : upB (WE lsn) CkP.page l l.length = true) : l.length ≤ 64 := by
 have hp : ∀ i (hi : i < l.length), 0 ≤ l[i].page ∧ l[i].page < 64 := fun i hi => by
  have := (up_all h i hi).1
  unfold WE pageOk at this
  rw [Bool.and_eq_true, decide_eq_true_eq] at this
  exact this.1
 have hi : ∀ i (hi : i < l.length), (i : Int) ≤ l[i].page := by
  intro i
  induction i with
  | zero => intro hi; exact (hp 0 hi).1
  | succ i ih =>
   intro hi
   have h1 := ih (by omega)
   have h2 := (up_all h (i + 1) hi).2
   simp only [Nat.add_sub_cancel] at h2
   omega
 rcases Nat.lt_or_ge 64 l.length with hl | hl
 ·have := hi 64 hl
  have := hp 64 hl
  omega
 ·exact hl
structure RecOk (r : Rc) : Prop where
 kind : 1 ≤ r.kind ∧ r.kind ≤ 9
 lsn : 1 ≤ r.lsn ∧ r.lsn ≤ 1099511627776 ∧ r.prev < r.lsn
 txn : 0 ≤ r.txn ∧ r.txn ≤ 1073741824
 next : r.next ≤ r.lsn
 n0 : r.next = 0 ∨ r.kind = 3 ∨ r.kind = 4 ∨ r.kind = 5
 i0 : r.ims = [] ∨ r.kind = 2 ∨ r.kind = 5
 s0 : r.steps = [] ∨ r.kind = 4
 c0 : (r.txns = [] ∧ r.dirty = [] ∧ r.nextTxn = 0) ∨ r.kind = 9
 il : r.ims.length ≤ 16
 im : ∀ x ∈ r.ims, (0 ≤ x.page ∧ x.page < 64) ∧ ZQ x.a = true ∧ ZQ x.b = true
 i5 : r.kind = 5 → ∀ x ∈ r.ims, x.b = ztC
 sl : r.steps.length ≤ 2
 st : ∀ s ∈ r.steps, YF s = true
 nt : 0 ≤ r.nextTxn ∧ r.nextTxn ≤ 1073741824
 tl : r.txns.length ≤ 8
 tx : ∀ t ∈ r.txns, ckTOk r.lsn r.nextTxn t = true
 dl : r.dirty.length ≤ 64
 di : ∀ p ∈ r.dirty, WE r.lsn p = true
theorem ims_facts {b : Bool} {l : List Im} (h : imsOk b l = true) : l.length ≤ 16 ∧ (∀ x ∈ l, (0 ≤ x.page ∧ x.page < 64) ∧ ZQ x.a = true ∧ ZQ x.b = true) ∧ (b = false → ∀ x ∈ l, x.b = ztC) := by
 unfold imsOk at h
 rw [Bool.and_eq_true, decide_eq_true_eq] at h
 obtain ⟨h1, h2⟩ := h
 have h3 := up_mem h2
 have h4 : ∀ x ∈ l, (0 ≤ x.page ∧ x.page < 64) ∧ ZQ x.a = true ∧ ZQ x.b = true ∧ (b = true ∨ x.b.kind = 0) := fun x hx => by
  have := h3 x hx
  unfold imOk pageOk at this
  rw [Bool.and_eq_true, Bool.and_eq_true, Bool.and_eq_true, Bool.or_eq_true, decide_eq_true_eq, decide_eq_true_eq] at this
  exact this
 refine ⟨h1, fun x hx => ⟨(h4 x hx).1, (h4 x hx).2.1, (h4 x hx).2.2.1⟩, fun hb x hx => ?_⟩
 obtain ⟨_, _, g3, g4⟩ := h4 x hx
 have g5 : x.b.kind = 0 := by
  rcases g4 with g4 | g4
  ·rw [hb] at g4; cases g4
  ·exact g4
 rcases contB_form g3 with e | e | e
 ·exact e.2.1
 ·omega
 ·omega
theorem recOk_facts {r : Rc} (h : YM r = true) : RecOk r := by
 unfold YM headOk bareOk at h
 rw [Bool.and_eq_true, Bool.and_eq_true, Bool.and_eq_true, decide_eq_true_eq, decide_eq_true_eq, decide_eq_true_eq] at h
 obtain ⟨hk, ⟨h1, h2, h3, h4, h5, h6, h7⟩, ha, b1, b2, b3, b4⟩ := h
 unfold askOk at ha
 obtain ⟨k, lsn, txn, prev, next, ims, steps, nt, txns, dirty⟩ := r
 dsimp only at *
 by_cases k2 : k = 2
 ·rw [if_pos k2, Bool.and_eq_true] at ha
  obtain ⟨f1, f2, f3⟩ := ims_facts ha.2
  obtain rfl : steps = [] := by rcases b3 with b3 | b3 <;> first | exact b3 | omega
  obtain ⟨rfl, rfl, rfl⟩ : txns = [] ∧ dirty = [] ∧ nt = 0 := by rcases b4 with b4 | b4 <;> first | exact b4 | omega
  exact ⟨hk, ⟨h1, h2, h3⟩, ⟨h4, h5⟩, by dsimp only; omega, b1, b2, b3, b4, f1, f2, fun e => by dsimp only at e; omega, by simp, by simp, by simp, by simp, by simp, by simp, by simp⟩
 ·rw [if_neg k2] at ha
  by_cases k3 : k = 3
  ·rw [if_pos k3, decide_eq_true_eq] at ha
   obtain rfl : ims = [] := by rcases b2 with b2 | b2 <;> first | exact b2 | omega
   obtain rfl : steps = [] := by rcases b3 with b3 | b3 <;> first | exact b3 | omega
   obtain ⟨rfl, rfl, rfl⟩ : txns = [] ∧ dirty = [] ∧ nt = 0 := by rcases b4 with b4 | b4 <;> first | exact b4 | omega
   exact ⟨hk, ⟨h1, h2, h3⟩, ⟨h4, h5⟩, by dsimp only; omega, b1, b2, b3, b4, by simp, by simp, by simp, by simp, by simp, by simp, by simp, by simp, by simp, by simp⟩
  ·rw [if_neg k3] at ha
   by_cases k4 : k = 4
   ·rw [if_pos k4, Bool.and_eq_true, Bool.and_eq_true, decide_eq_true_eq, decide_eq_true_eq] at ha
    obtain rfl : ims = [] := by rcases b2 with b2 | b2 <;> first | exact b2 | omega
    obtain ⟨rfl, rfl, rfl⟩ : txns = [] ∧ dirty = [] ∧ nt = 0 := by rcases b4 with b4 | b4 <;> first | exact b4 | omega
    exact ⟨hk, ⟨h1, h2, h3⟩, ⟨h4, h5⟩, by dsimp only; omega, b1, b2, b3, b4, by simp, by simp, by simp, ha.2.1.2, List.all_eq_true.1 ha.2.2, by simp, by simp, by simp, by simp, by simp⟩
   ·rw [if_neg k4] at ha
    by_cases k5 : k = 5
    ·rw [if_pos k5, Bool.and_eq_true, decide_eq_true_eq] at ha
     obtain ⟨f1, f2, f3⟩ := ims_facts ha.2
     obtain rfl : steps = [] := by rcases b3 with b3 | b3 <;> first | exact b3 | omega
     obtain ⟨rfl, rfl, rfl⟩ : txns = [] ∧ dirty = [] ∧ nt = 0 := by rcases b4 with b4 | b4 <;> first | exact b4 | omega
     exact ⟨hk, ⟨h1, h2, h3⟩, ⟨h4, h5⟩, by dsimp only; omega, b1, b2, b3, b4, f1, f2, fun _ => f3 rfl, by simp, by simp, by simp, by simp, by simp, by simp, by simp⟩
    ·rw [if_neg k5] at ha
     obtain rfl : ims = [] := by rcases b2 with b2 | b2 <;> first | exact b2 | omega
     obtain rfl : steps = [] := by rcases b3 with b3 | b3 <;> first | exact b3 | omega
     by_cases k9 : k = 9
     ·rw [if_pos k9, Bool.and_eq_true, Bool.and_eq_true, decide_eq_true_eq] at ha
      obtain ⟨⟨a1, a2, a3⟩, a4, a5⟩ := ha
      exact ⟨hk, ⟨h1, h2, h3⟩, ⟨h4, h5⟩, by dsimp only; omega, b1, b2, b3, b4, by simp, by simp, by simp, by simp, by simp, ⟨by dsimp only; omega, a2⟩, a3, up_mem a4, ckP_len a5, up_mem a5⟩
     ·obtain ⟨rfl, rfl, rfl⟩ : txns = [] ∧ dirty = [] ∧ nt = 0 := by rcases b4 with b4 | b4 <;> first | exact b4 | omega
      exact ⟨hk, ⟨h1, h2, h3⟩, ⟨h4, h5⟩, by dsimp only; omega, b1, b2, b3, b4, by simp, by simp, by simp, by simp, by simp, by simp, by simp, by simp, by simp, by simp⟩
theorem ckT_facts {lsn : Nat} {next : Int} {t : CkT} (h : ckTOk lsn next t = true) (hl : lsn ≤ 1099511627776) (hn : next ≤ 1073741824) : CkTF t := by
 unfold ckTOk at h
 rw [decide_eq_true_eq] at h
 obtain ⟨a1, a2, a3, a4, a5, a6, a7, a8⟩ := h
 exact ⟨by omega, by omega, by omega, by omega, by omega⟩
theorem ckP_facts {lsn : Nat} {p : CkP} (h : WE lsn p = true) (hl : lsn ≤ 1099511627776) : CkPF p ∧ p.page < 64 := by
 unfold WE pageOk at h
 rw [Bool.and_eq_true, decide_eq_true_eq, decide_eq_true_eq] at h
 obtain ⟨⟨a1, a2⟩, a3, a4⟩ := h
 exact ⟨⟨by omega, by omega⟩, by omega⟩
theorem recOk_lay {r : Rc} (h : YM r = true) : LayOk r := by
 have f := recOk_facts h
 have l1 := f.lsn
 have l2 := f.next
 have l3 := f.txn
 have l4 := f.nt
 have l5 := f.kind
 exact ⟨by omega, by omega, by omega, by omega, by omega, by omega, f.il, f.im, f.sl, f.st, f.tl, fun t ht => by
   have g := ckT_facts (f.tx t ht) l1.2.1 l4.2
   exact ⟨g.txn, g.first, g.last, g.undo, g.state.1, g.state.2⟩, f.dl, fun p hp => by
   obtain ⟨g, g2⟩ := ckP_facts (f.di p hp) l1.2.1
   exact ⟨⟨g.page.1, g2⟩, g.since⟩⟩
theorem headD_fw {k lsn prev : Nat} {txn : Nat} (h1 : k < 256) (h2 : lsn < 18446744073709551616) (h3 : txn < 4294967296) (h4 : prev < 18446744073709551616) (rest : List UInt8) :
  headD (be 1 k ++ (be 8 lsn ++ (be 4 txn ++ (be 8 prev ++ rest))), 0, false) = (⟨k, lsn, txn, prev, 0, [], [], 0, [], []⟩, rest, 0, false) := by
 unfold headD hdL hdT hdP
 rw [Xx (by omega)]
 simp only [Xx (k := 8) (x := lsn) (by omega), Xx (k := 4) (x := txn) (by omega), Xx (k := 8) (x := prev) (by omega)]
theorem dec_fw {r : Rc} (h : YM r = true) (hf : RcF r) (rest : List UInt8) : decD (recB r ++ rest) = (r.plain, rest, 0, false) := by
 obtain ⟨f1, f2, f3, f4, n0, i0, s0, c0, f5, f6, f7, f8, f9, f10, f11, f12, f13, f14⟩ := recOk_facts h
 obtain ⟨q1, q2⟩ := hf
 obtain ⟨k, lsn, txn, prev, next, ims, steps, nt, txns, dirty⟩ := r
 dsimp only at *
 have e : recB ⟨k, lsn, txn, prev, next, ims, steps, nt, txns, dirty⟩ ++ rest = be 1 k.toNat ++ (be 8 lsn ++ (be 4 txn.toNat ++ (be 8 prev ++ (recTB ⟨k, lsn, txn, prev, next, ims, steps, nt, txns, dirty⟩ ++ rest)))) := by
  rw [be_one]; simp [recB, recHB, tB]
 unfold decD
 rw [e, headD_fw (by omega) (by omega) (by omega) (by omega)]
 rw [show ((k.toNat : Nat) : Int) = k by omega, show ((txn.toNat : Nat) : Int) = txn by omega]
 unfold XM recTB imsB
 dsimp only
 have hI : ∀ two : Bool, (two = false → ∀ x ∈ ims, x.b = ztC) → ∀ X, YD (imD two) (Xr (imB two) ims ++ X, 0, false) = (ims.map Im.plain, X, 0, false) := fun two h0 X => by
  have := manyD_fw (f := imD two) (enc := imB two) (xs := ims.map Im.plain) (by simp; omega) (fun x hx => by
   obtain ⟨y, hy, rfl⟩ := List.mem_map.1 hx
   exact imD_fw (f6 y hy).1 (f6 y hy).2.1 (f6 y hy).2.2 (q1 y hy).2 (q1 y hy).1 (fun h => h0 h y hy)) X
  have e : Xr (imB two) ims = Xr (imB two) (ims.map Im.plain) := by unfold Xr; rw [List.length_map, List.flatMap_map]; rfl
  rw [e]
  exact this
 by_cases k2 : k = 2
 ·rw [if_pos k2, if_pos k2]
  obtain rfl : steps = [] := by rcases s0 with e | e <;> first | exact e | omega
  obtain ⟨rfl, rfl, rfl⟩ : txns = [] ∧ dirty = [] ∧ nt = 0 := by rcases c0 with e | e <;> first | exact e | omega
  obtain rfl : next = 0 := by omega
  unfold chD
  dsimp only
  rw [hI _ (fun e => by simp [k2] at e)]
 ·rw [if_neg k2, if_neg k2]
  by_cases k3 : k = 3
  ·rw [if_pos k3, if_pos k3]
   obtain rfl : ims = [] := by rcases i0 with e | e <;> first | exact e | omega
   obtain rfl : steps = [] := by rcases s0 with e | e <;> first | exact e | omega
   obtain ⟨rfl, rfl, rfl⟩ : txns = [] ∧ dirty = [] ∧ nt = 0 := by rcases c0 with e | e <;> first | exact e | omega
   unfold neD
   rw [Xx (k := 8) (x := next) (by omega)]
   rfl
  ·rw [if_neg k3, if_neg k3]
   by_cases k4 : k = 4
   ·rw [if_pos k4, if_pos k4]
    obtain rfl : ims = [] := by rcases i0 with e | e <;> first | exact e | omega
    obtain ⟨rfl, rfl, rfl⟩ : txns = [] ∧ dirty = [] ∧ nt = 0 := by rcases c0 with e | e <;> first | exact e | omega
    unfold XR neD doD
    rw [List.append_assoc, Xx (k := 8) (x := next) (by omega)]
    dsimp only
    rw [manyD_fw (by omega) (fun s hs => stpD_fw (f9 s hs) (q2 s hs))]
    rfl
   ·rw [if_neg k4, if_neg k4]
    by_cases k5 : k = 5
    ·rw [if_pos k5, if_pos k5]
     obtain rfl : steps = [] := by rcases s0 with e | e <;> first | exact e | omega
     obtain ⟨rfl, rfl, rfl⟩ : txns = [] ∧ dirty = [] ∧ nt = 0 := by rcases c0 with e | e <;> first | exact e | omega
     unfold XR neD chD
     rw [List.append_assoc, Xx (k := 8) (x := next) (by omega)]
     dsimp only
     rw [hI _ (fun _ => f7 k5)]
    ·rw [if_neg k5, if_neg k5]
     obtain rfl : ims = [] := by rcases i0 with e | e <;> first | exact e | omega
     obtain rfl : steps = [] := by rcases s0 with e | e <;> first | exact e | omega
     obtain rfl : next = 0 := by omega
     by_cases k9 : k = 9
     ·rw [if_pos k9, if_pos k9]
      unfold XR cxD ctD cdD
      rw [List.append_assoc, Xx (k := 4) (x := nt.toNat) (by omega)]
      dsimp only
      rw [List.append_assoc, manyD_fw (by omega) (fun t ht => ckTD_fw (ckT_facts (f12 t ht) f2.2.1 f10.2))]
      dsimp only
      rw [manyD_fw (by omega) (fun p hp => ckPD_fw (ckP_facts (f14 p hp) f2.2.1).1)]
      dsimp only
      rw [show ((nt.toNat : Nat) : Int) = nt by omega]
      rfl
     ·rw [if_neg k9, if_neg k9]
      obtain ⟨rfl, rfl, rfl⟩ : txns = [] ∧ dirty = [] ∧ nt = 0 := by rcases c0 with e | e <;> first | exact e | omega
      rfl
theorem ContFit.id' {c : XQ} (h : ContFit c) : IdFit c := ⟨h.row, fun k hk => (h.kid k hk).id⟩
theorem up_map {α β : Type} (g : α → β) (right : β → Bool) (by' : β → Int) (l : List α) : ∀ k, upB right by' (l.map g) k = upB (fun x => right (g x)) (fun x => by' (g x)) l k := by
 intro k
 unfold upB
 rw [List.length_map]
 generalize l.length = m
 induction k with
 | zero => simp [ZH]
 | succ k ih =>
  rw [ZH, ZH, ih]
  simp only [List.getElem?_map]
  cases l[k]? with
  | none => rfl
  | some x => cases l[k - 1]? <;> rfl
theorem recOk_plain (r : Rc) : YM r.plain = YM r := by
 unfold YM headOk askOk bareOk imsOk
 dsimp only [Rc.plain]
 simp only [List.length_map, up_map, List.map_eq_nil_iff]
 rfl
theorem dec_enc {r : Rc} (h : YM r = true) (hf : RcF r) : Yq (recB r) = true ∧ decR (recB r) = r.plain := by
 have := dec_fw h hf []
 rw [List.append_nil] at this
 have e : Yq (recB r) = true := by
  unfold Yq
  rw [this]
  simp only [recOk_plain, h]
  rfl
 refine ⟨e, ?_⟩
 unfold decR
 rw [if_pos e, this]
theorem okS_iff {s : Yo} (h : okS s = true) : s.2 = (0, false) := by
 obtain ⟨l, st, bad⟩ := s
 unfold okS at h
 rw [Bool.and_eq_true, decide_eq_true_eq] at h
 obtain ⟨h1, h2⟩ := h
 cases bad
 ·dsimp only at h2; rw [h2]
 ·cases h1
theorem stpB_len {s : Stp} (h : YF s = true) : (stpB s).length ≤ 21 := by
 unfold stpB
 by_cases h23 : s.kind = 2 ∨ s.kind = 3
 ·rw [if_pos h23]
  have hr : Yy s.row = true := by
   unfold YF at h
   rw [if_neg (by omega), if_neg (by omega), if_pos h23, Bool.and_eq_true] at h
   exact h.2
  have := rowB_le hr
  simp; omega
 ·rw [if_neg h23]
  split <;> simp [ZF]
theorem ckTB_len (t : CkT) : (ckTB t).length = 29 := by simp [ckTB, ZF]
theorem ckPB_len (p : CkP) : (ckPB p).length = 9 := by simp [ckPB, ZF]
theorem step_kinds {s : Stp} (h : YF s = true) : (s.kind = 1 ∨ s.kind = 2 ∨ s.kind = 3 ∨ s.kind = 4) ∧ ((s.kind = 2 ∨ s.kind = 3) → Yy s.row = true) ∧ (¬ (s.kind = 2 ∨ s.kind = 3) → 0 ≤ s.row.t ∧ s.row.t < 3) := by
 unfold YF at h
 by_cases h1 : s.kind = 1
 ·rw [if_pos h1] at h
  unfold onlyOk at h
  rw [Bool.and_eq_true, decide_eq_true_eq, decide_eq_true_eq] at h
  exact ⟨.inl h1, fun e => by omega, fun _ => h.2⟩
 ·rw [if_neg h1] at h
  by_cases h4 : s.kind = 4
  ·rw [if_pos h4] at h
   unfold onlyOk at h
   rw [Bool.and_eq_true, Bool.and_eq_true, decide_eq_true_eq, decide_eq_true_eq] at h
   exact ⟨by omega, fun e => by omega, fun _ => h.1.2⟩
  ·rw [if_neg h4] at h
   by_cases h23 : s.kind = 2 ∨ s.kind = 3
   ·rw [if_pos h23, Bool.and_eq_true] at h
    exact ⟨by omega, fun _ => h.2, fun e => absurd h23 e⟩
   ·rw [if_neg h23] at h; cases h
theorem wdone_spec (ρ : Hp) (wb : Nat) (v : RV) (r : Rc) (w : Value) (l : List UInt8) (sp : List Value) (hown : OwnB w l sp) (hn : l.length ≤ 70000) (h : RcIn ρ v r) (hL : LayOk r) :
  Spec Tryz.prog 198 [.pointer (some ⟨wb, 0, none⟩)] ρ [XK w l sp, wrC wb v r w] (WrP ρ wb v r (l ++ (be 8 r.next ++ Xr stpB r.steps))) := by
 have hρ := Hp.le_refl ρ
 have hA := h.s.at'
 have hl := hA.len
 have hil := hL.sl
 refine Zf Tryz.func198 rfl rfl rfl fun u R => ?_
 simp only [Zx, List.cons_append, List.nil_append]
 repeat' (first | (refine ZJ rfl rfl rfl rfl (by simp) rfl rfl (fun bs => ?_); refine Yn _ (h := Rem.here) (fun ρz hlz hfz => ?_); have hbs := hfz _ (List.mem_singleton.2 rfl); clear hfz; have hρ := Hp.le_trans hρ hlz; clear hlz; (try simp only [List.nil_append])) | (refine Zc (.func 197) ?_; refine qC rfl rfl (wnested_spec _ wb v r w l sp hown (by omega) hL.next) ?_; rintro v ρ' L' hle ⟨rfl, hl1, w0, sp0, hown, rfl⟩ <;> (try simp only [kM, kN, kO]); have hρ := Hp.le_trans hρ hl1; clear hl1) | (refine Zc (.func 193) ?_; refine qC rfl rfl (YQ _ wb v r w0 _ sp0 hown (by (try simp only [List.length_append, List.length_cons, List.length_nil, List.length_map, ZF]) <;> omega) _ (v.s.n : Int) hbs (by omega)) ?_; rintro v ρ' L' hle ⟨rfl, hl1, w1, sp1, hown, rfl⟩ <;> (try simp only [kM, kN, kO]); have hρ := Hp.le_trans hρ hl1; clear hl1) | (refine Zj ?_; first | (refine Zg ?_; refine qQ ?_) | refine Zl ?_) | refine Za ?_ | (refine Zi ?_; refine Zq ?_) | (refine Zh ?_; refine Zp ?_) | intro _)
 obtain ⟨B, hB⟩ : ∃ B, l ++ be 8 r.next ++ [tB (v.s.n : Int)] = B := ⟨_, rfl⟩
 rw [hB] at hown ⊢
 have hBl : B.length ≤ 80001 := by rw [← hB]; simp [ZF]; omega
 have hfin : B ++ r.steps.flatMap stpB = l ++ (be 8 r.next ++ Xr stpB r.steps) := by rw [← hB]; simp [Xr, hl, tB]
 rw [show XK w1 B sp1 = XK w1 (B ++ (r.steps.take 0).flatMap stpB) sp1 by simp]
 refine Zy [(0, _), (21, _), (22, _)] (fun (ζ : (Nat) × (Hp) × (Value) × (List Value)) => [(23, .int .i64 ζ.1)]) (fun (ζ : (Nat) × (Hp) × (Value) × (List Value)) => ζ.2.1) (fun (ζ : (Nat) × (Hp) × (Value) × (List Value)) => [XK ζ.2.2.1 (B ++ (r.steps.take ζ.1).flatMap stpB) ζ.2.2.2, wrC wb v r ζ.2.2.1]) (fun (ζ : (Nat) × (Hp) × (Value) × (List Value)) => ζ.1 ≤ v.s.n ∧ ρ.le ζ.2.1 ∧ OwnB ζ.2.2.1 (B ++ (r.steps.take ζ.1).flatMap stpB) ζ.2.2.2) (fun (ζ : (Nat) × (Hp) × (Value) × (List Value)) => v.s.n - ζ.1) ((0, ρ', w1, sp1)) (⟨Nat.zero_le _, hρ, by simpa using hown⟩) Zk Zk rfl tk ?_
 rintro ⟨k, ρ1, w2, sp2⟩ hI
 try simp only [List.cons_append, List.nil_append, List.append_assoc, List.append_eq] at hI ⊢
 try dsimp only at hI ⊢
 obtain ⟨hk, hle1, hown⟩ := hI
 clear hρ
 by_cases hlt : k < v.s.n
 ·obtain ⟨b, off, C, T, fr, e1, hbb, hfit, hcc⟩ := (hA.mono hle1).get (show k < r.steps.length by omega)
  have hts := flatMap_app stpB r.steps k (by omega)
  have hmem := List.getElem_mem (show k < r.steps.length by omega)
  have hsf := h.sf _ hmem
  obtain ⟨hk4, hr23, hkt⟩ := step_kinds (hL.st _ hmem)
  have hfl := YH stpB 21 (r.steps.take k) (fun x hx => stpB_len (hL.st x (List.mem_of_mem_take hx)))
  have htl : (r.steps.take k).length ≤ 2 := by simp; omega
  generalize r.steps[k]'(by omega) = x at *
  have hxl : (B ++ (r.steps.take k).flatMap stpB).length ≤ 83000 := by simp only [List.length_append]; omega
  have hmm : B ++ (r.steps.take k).flatMap stpB ++ stpB x = B ++ (r.steps.take (k + 1)).flatMap stpB := by rw [hts]; simp
  generalize hX : B ++ (r.steps.take k).flatMap stpB = X at *
  have hρ := Hp.le_refl ρ1
  rw [e1]
  by_cases h23 : x.kind = 2 ∨ x.kind = 3
  ·have hst : stpB x = tB x.kind :: ZY x.row := by unfold stpB; rw [if_pos h23]
   have hre := fun ρ => rowE_spec ρ x.row hsf.id
   have hrl := rowB_le (hr23 h23)
   rw [if_pos (hr23 h23), if_pos (hr23 h23)] at hre
   have hmm2 : (X ++ [tB x.kind]).map ZM ++ (ZY x.row).map ZM = (B ++ (r.steps.take (k + 1)).flatMap stpB).map ZM := by rw [← hmm, hst]; simp
   have hll2 : (X ++ [tB x.kind]).length + (ZY x.row).length = (B ++ (r.steps.take (k + 1)).flatMap stpB).length := by rw [← hmm, hst]; simp; omega
   have hx1 : (X ++ [tB x.kind]).length ≤ 84000 := by simp; omega
   rcases h23 with h2 | h2
   all_goals (repeat' (first | (refine ZJ rfl rfl rfl rfl (by simp) rfl rfl (fun bs => ?_); refine Yn _ (h := Rem.here) (fun ρz hlz hfz => ?_); have hbs := hfz _ (List.mem_singleton.2 rfl); clear hfz; have hρ := Hp.le_trans hρ hlz; clear hlz; (try simp only [List.nil_append])) | (refine Zc (.func 193) ?_; refine qC rfl rfl (YQ _ wb v r w2 X sp2 hown (by omega) _ x.kind hbs (by omega)) ?_; rintro v ρ' L' hle ⟨rfl, hl1, w3, sp3, hown, rfl⟩ <;> (try simp only [kM, kN, kO]); have hρ := Hp.le_trans hρ hl1; clear hl1; obtain ⟨va, vc, rfl, _⟩ := hown.slice) | (refine Zc (.func 257) ?_; refine qC rfl rfl (hre _) ?_; rintro v ρ' L' hle ⟨hl1, a1, n1, c1, rfl, hc1, hs1, rfl⟩ <;> (try simp only [kM, kN, kO]); have hρ := Hp.le_trans hρ hl1; clear hl1) | (have hn1 := hs1.len; refine Yt (ys := (ZY x.row).map ZM) (m := n1) (sz := 1) rfl rfl hown (hR := by infer_instance) (SIn.srcV hs1) (by simpa using hs1.len) (u8c_one _) (by decide) rfl (by omega) (by omega) rfl (fun v' sp' hown' => ?_); rw [hmm2] at hown' ⊢; rw [← hs1.len, hll2] at hown'; obtain ⟨va', vc', rfl, _⟩ := hown'.slice) | (refine Zj ?_; first | (refine Zg ?_; refine qQ ?_) | refine Zl ?_) | refine Za ?_ | (refine Zi ?_; refine Zq ?_) | (refine Zh ?_; refine Zp ?_) | intro _))
   all_goals rw [← e1]
   all_goals refine Zo (k + 1, _, _, sp') (⟨hlt, Hp.le_trans hle1 hρ, hown'⟩) Zk Zk rfl tk inferInstance (by first | omega | (dsimp only; omega))
  ·have hkt := hkt h23
   have hst : stpB x = tB x.kind :: (tB x.row.t :: (be 2 x.row.id ++ (if x.kind = 1 then be 8 (vN x.by') else []))) := by unfold stpB; rw [if_neg h23]
   have hll2 : (X ++ [tB x.kind] ++ [tB x.row.t]).length + 2 = (X ++ [tB x.kind] ++ [tB x.row.t] ++ be 2 x.row.id).length := by simp [ZF]
   rcases (show x.kind = 1 ∨ x.kind = 4 by omega) with h1 | h1
   ·rw [if_pos h1] at hst
    have hvl := vN_lt x.by'
    repeat' (first | (refine ZJ rfl rfl rfl rfl (by simp) rfl rfl (fun bs => ?_); refine Yn _ (h := Rem.here) (fun ρz hlz hfz => ?_); have hbs := hfz _ (List.mem_singleton.2 rfl); clear hfz; have hρ := Hp.le_trans hρ hlz; clear hlz; (try simp only [List.nil_append])) | (refine Zc (.func 193) ?_; refine qC rfl rfl (YQ _ wb v r w2 X sp2 hown (by omega) _ x.kind hbs (by omega)) ?_; rintro v ρ' L' hle ⟨rfl, hl1, w3, sp3, hown, rfl⟩ <;> (try simp only [kM, kN, kO]); have hρ := Hp.le_trans hρ hl1; clear hl1; obtain ⟨va, vc, rfl, _⟩ := hown.slice) | (refine Zc (.func 193) ?_; refine qC rfl rfl (YQ _ wb v r _ _ sp3 hown (by (try simp only [List.length_append, List.length_cons, List.length_nil, List.length_map, ZF]) <;> omega) _ x.row.t hbs (by omega)) ?_; rintro v ρ' L' hle ⟨rfl, hl1, w4, sp4, hown, rfl⟩ <;> (try simp only [kM, kN, kO]); have hρ := Hp.le_trans hρ hl1; clear hl1; obtain ⟨va, vc, rfl, _⟩ := hown.slice) | (refine Zj ?_; first | (refine Zg ?_; refine qQ ?_) | refine Zl ?_) | refine Za ?_ | (refine Zi ?_; refine Zq ?_) | (refine Zh ?_; refine Zp ?_) | intro _)
    refine ZI (Zv _ _ ([[(_, .cells ⟨XT x⟩ 103 (0, 0))]])) (ZU (hT := tk) (Hp.le_refl _)) ?_
    all_goals (refine Ye 0 ?_; refine Ye 1 ?_; refine rNc 2 ?_; refine rFa 3 ?_; refine rFa 5 ?_; refine rFa 6 ?_; refine rFa 7 ?_; refine Yr 8 ?_)
    all_goals (refine Zt (i := 4) ?_; ((try refine Zr ?_); (first | (refine Zc (.func 258) ?_; refine Yn (XK (.slice va (X ++ [tB x.kind] ++ [tB x.row.t]).length vc) (X ++ [tB x.kind] ++ [tB x.row.t]) sp4) (h := by repeat (first | exact Ya | apply ZS)) (fun ρ2 hle2 hfz => ?_); obtain ⟨a1, c1, f1, hc1, hs1⟩ := hown.sIn hfz; cases f1; refine qC rfl rfl (put16_spec _ va _ vc _ hs1 x.row.id hsf.id (by (try simp only [List.length_append, List.length_cons, List.length_nil, List.length_map, ZF]) <;> omega)) ?_; rintro v' ρ3 L3 hle3 ⟨rfl, sp5, hown, rfl⟩; simp only [List.cons_append, List.nil_append]; rw [hll2] at hown; obtain ⟨va, vc, rfl, _⟩ := hown.slice; have hρ := Hp.le_trans hρ hle2) | (refine Zg ?_; refine qQ ?_) | (refine Zl ?_; try intro _)) <;> ((try simp only [kM, kN, kO]); refine Za ?_; refine Zs ?_)))
    all_goals (refine Zt (i := 9) ?_; ((try refine Zr ?_); (first | (refine Zc (.func 258) ?_; refine Yn (XK (.slice va (X ++ [tB x.kind] ++ [tB x.row.t]).length vc) (X ++ [tB x.kind] ++ [tB x.row.t]) sp4) (h := by repeat (first | exact Ya | apply ZS)) (fun ρ2 hle2 hfz => ?_); obtain ⟨a1, c1, f1, hc1, hs1⟩ := hown.sIn hfz; cases f1; refine qC rfl rfl (put16_spec _ va _ vc _ hs1 x.row.id hsf.id (by (try simp only [List.length_append, List.length_cons, List.length_nil, List.length_map, ZF]) <;> omega)) ?_; rintro v' ρ3 L3 hle3 ⟨rfl, sp5, hown, rfl⟩; simp only [List.cons_append, List.nil_append]; rw [hll2] at hown; obtain ⟨va, vc, rfl, _⟩ := hown.slice; have hρ := Hp.le_trans hρ hle2) | (refine Zg ?_; refine qQ ?_) | (refine Zl ?_; try intro _)) <;> ((try simp only [kM, kN, kO]); refine Za ?_; refine Zs ?_)))
    all_goals (refine rNc 10 ?_; refine rFa 11 ?_)
    all_goals (refine Zt (i := 12) ?_; ((try refine Zr ?_); (first | (refine Zg ?_; refine qQ ?_) | (refine Zl ?_; try intro _)) <;> ((try simp only [kM, kN, kO]); refine Za ?_; refine Zs ?_)))
    all_goals refine ZP ?_
    all_goals (repeat' (first | (simp only [vN_eq]; refine ZJ rfl rfl rfl rfl (by simp) rfl rfl (fun bs => ?_); refine Yn _ (h := Rem.here) (fun ρz hlz hfz => ?_); have hbs := hfz _ (List.mem_singleton.2 rfl); clear hfz; have hρ := Hp.le_trans hρ hlz; clear hlz; (try simp only [List.nil_append])) | (refine Zc (.func 194) ?_; refine qC rfl rfl (wlong_spec _ wb v r _ _ sp5 hown (by (try simp only [List.length_append, List.length_cons, List.length_nil, List.length_map, ZF]) <;> omega) _ (vN x.by') hbs hvl) ?_; rintro v ρ' L' hle ⟨rfl, hl1, w6, sp6, hown, rfl⟩ <;> (try simp only [kM, kN, kO]); have hρ := Hp.le_trans hρ hl1; clear hl1; obtain ⟨va, vc, rfl, _⟩ := hown.slice) | (refine Zj ?_; first | (refine Zg ?_; refine qQ ?_) | refine Zl ?_) | refine Za ?_ | (refine Zi ?_; refine Zq ?_) | (refine Zh ?_; refine Zp ?_) | intro _))
    all_goals rw [← e1]
    all_goals have e2 : X ++ [tB x.kind] ++ [tB x.row.t] ++ be 2 x.row.id ++ be 8 (vN x.by') = B ++ (r.steps.take (k + 1)).flatMap stpB := by rw [← hmm, hst]; simp
    all_goals rw [e2] at hown ⊢
    all_goals refine Zo (k + 1, _, _, sp6) (⟨hlt, Hp.le_trans hle1 hρ, hown⟩) Zk Zk rfl tk inferInstance (by first | omega | (dsimp only; omega))
   ·rw [if_neg (by omega)] at hst
    repeat' (first | (refine ZJ rfl rfl rfl rfl (by simp) rfl rfl (fun bs => ?_); refine Yn _ (h := Rem.here) (fun ρz hlz hfz => ?_); have hbs := hfz _ (List.mem_singleton.2 rfl); clear hfz; have hρ := Hp.le_trans hρ hlz; clear hlz; (try simp only [List.nil_append])) | (refine Zc (.func 193) ?_; refine qC rfl rfl (YQ _ wb v r w2 X sp2 hown (by omega) _ x.kind hbs (by omega)) ?_; rintro v ρ' L' hle ⟨rfl, hl1, w3, sp3, hown, rfl⟩ <;> (try simp only [kM, kN, kO]); have hρ := Hp.le_trans hρ hl1; clear hl1; obtain ⟨va, vc, rfl, _⟩ := hown.slice) | (refine Zc (.func 193) ?_; refine qC rfl rfl (YQ _ wb v r _ _ sp3 hown (by (try simp only [List.length_append, List.length_cons, List.length_nil, List.length_map, ZF]) <;> omega) _ x.row.t hbs (by omega)) ?_; rintro v ρ' L' hle ⟨rfl, hl1, w4, sp4, hown, rfl⟩ <;> (try simp only [kM, kN, kO]); have hρ := Hp.le_trans hρ hl1; clear hl1; obtain ⟨va, vc, rfl, _⟩ := hown.slice) | (refine Zj ?_; first | (refine Zg ?_; refine qQ ?_) | refine Zl ?_) | refine Za ?_ | (refine Zi ?_; refine Zq ?_) | (refine Zh ?_; refine Zp ?_) | intro _)
    refine ZI (Zv _ _ ([[(_, .cells ⟨XT x⟩ 103 (0, 0))]])) (ZU (hT := tk) (Hp.le_refl _)) ?_
    all_goals (refine Ye 0 ?_; refine Ye 1 ?_; refine rNc 2 ?_; refine rFa 3 ?_; refine rFa 5 ?_; refine rFa 6 ?_; refine rFa 7 ?_; refine Yr 8 ?_)
    all_goals (refine Zt (i := 4) ?_; ((try refine Zr ?_); (first | (refine Zc (.func 258) ?_; refine Yn (XK (.slice va (X ++ [tB x.kind] ++ [tB x.row.t]).length vc) (X ++ [tB x.kind] ++ [tB x.row.t]) sp4) (h := by repeat (first | exact Ya | apply ZS)) (fun ρ2 hle2 hfz => ?_); obtain ⟨a1, c1, f1, hc1, hs1⟩ := hown.sIn hfz; cases f1; refine qC rfl rfl (put16_spec _ va _ vc _ hs1 x.row.id hsf.id (by (try simp only [List.length_append, List.length_cons, List.length_nil, List.length_map, ZF]) <;> omega)) ?_; rintro v' ρ3 L3 hle3 ⟨rfl, sp5, hown, rfl⟩; simp only [List.cons_append, List.nil_append]; rw [hll2] at hown; obtain ⟨va, vc, rfl, _⟩ := hown.slice; have hρ := Hp.le_trans hρ hle2) | (refine Zg ?_; refine qQ ?_) | (refine Zl ?_; try intro _)) <;> ((try simp only [kM, kN, kO]); refine Za ?_; refine Zs ?_)))
    all_goals (refine Zt (i := 9) ?_; ((try refine Zr ?_); (first | (refine Zc (.func 258) ?_; refine Yn (XK (.slice va (X ++ [tB x.kind] ++ [tB x.row.t]).length vc) (X ++ [tB x.kind] ++ [tB x.row.t]) sp4) (h := by repeat (first | exact Ya | apply ZS)) (fun ρ2 hle2 hfz => ?_); obtain ⟨a1, c1, f1, hc1, hs1⟩ := hown.sIn hfz; cases f1; refine qC rfl rfl (put16_spec _ va _ vc _ hs1 x.row.id hsf.id (by (try simp only [List.length_append, List.length_cons, List.length_nil, List.length_map, ZF]) <;> omega)) ?_; rintro v' ρ3 L3 hle3 ⟨rfl, sp5, hown, rfl⟩; simp only [List.cons_append, List.nil_append]; rw [hll2] at hown; obtain ⟨va, vc, rfl, _⟩ := hown.slice; have hρ := Hp.le_trans hρ hle2) | (refine Zg ?_; refine qQ ?_) | (refine Zl ?_; try intro _)) <;> ((try simp only [kM, kN, kO]); refine Za ?_; refine Zs ?_)))
    all_goals (refine rNc 10 ?_; refine rFa 11 ?_)
    all_goals (refine Zt (i := 12) ?_; ((try refine Zr ?_); (first | (refine Zg ?_; refine qQ ?_) | (refine Zl ?_; try intro _)) <;> ((try simp only [kM, kN, kO]); refine Za ?_; refine Zs ?_)))
    all_goals refine ZP ?_
    all_goals (repeat' (first | (refine Zj ?_; first | (refine Zg ?_; refine qQ ?_) | refine Zl ?_) | refine Za ?_ | (refine Zi ?_; refine Zq ?_) | (refine Zh ?_; refine Zp ?_) | intro _))
    all_goals rw [← e1]
    all_goals have e2 : X ++ [tB x.kind] ++ [tB x.row.t] ++ be 2 x.row.id = B ++ (r.steps.take (k + 1)).flatMap stpB := by rw [← hmm, hst]; simp
    all_goals rw [e2] at hown ⊢
    all_goals refine Zo (k + 1, _, _, sp5) (⟨hlt, Hp.le_trans hle1 hρ, hown⟩) Zk Zk rfl tk inferInstance (by first | omega | (dsimp only; omega))
 ·rw [show r.steps.take k = r.steps by rw [show k = r.steps.length by omega, List.take_length], hfin] at hown ⊢
  repeat' (first | (refine Zj ?_; first | (refine Zg ?_; refine qQ ?_) | refine Zl ?_) | refine Za ?_ | (refine Zi ?_; refine Zq ?_) | (refine Zh ?_; refine Zp ?_) | intro _)
  exact qE ⟨rfl, hle1, w2, sp2, hown, rfl⟩
theorem wckpt_spec (ρ : Hp) (wb : Nat) (v : RV) (r : Rc) (w : Value) (l : List UInt8) (sp : List Value) (hown : OwnB w l sp) (hn : l.length ≤ 70000) (h : RcIn ρ v r) (hL : LayOk r) :
  Spec Tryz.prog 200 [.pointer (some ⟨wb, 0, none⟩)] ρ [XK w l sp, wrC wb v r w] (WrP ρ wb v r (l ++ (be 4 r.nextTxn.toNat ++ (Xr ckTB r.txns ++ Xr ckPB r.dirty)))) := by
 have hρ := Hp.le_refl ρ
 have hA := h.t.at'
 have hl := hA.len
 have hA2 := h.d.at'
 have hl2 := hA2.len
 have hil := hL.tl
 have hil2 := hL.dl
 refine Zf Tryz.func200 rfl rfl rfl fun u R => ?_
 simp only [Zx, List.cons_append, List.nil_append]
 repeat' (first | (refine ZJ rfl rfl rfl rfl (by simp) rfl rfl (fun bs => ?_); refine Yn _ (h := Rem.here) (fun ρz hlz hfz => ?_); have hbs := hfz _ (List.mem_singleton.2 rfl); clear hfz; have hρ := Hp.le_trans hρ hlz; clear hlz; (try simp only [List.nil_append])) | (refine Zc (.func 195) ?_; refine qC rfl rfl (wtxn_spec _ wb v r w l sp hown (by omega) r.nextTxn hL.nextTxn) ?_; rintro v ρ' L' hle ⟨rfl, hl1, w0, sp0, hown, rfl⟩ <;> (try simp only [kM, kN, kO]); have hρ := Hp.le_trans hρ hl1; clear hl1) | (refine Zc (.func 193) ?_; refine qC rfl rfl (YQ _ wb v r w0 _ sp0 hown (by (try simp only [List.length_append, List.length_cons, List.length_nil, List.length_map, ZF]) <;> omega) _ (v.t.n : Int) hbs (by omega)) ?_; rintro v ρ' L' hle ⟨rfl, hl1, w1, sp1, hown, rfl⟩ <;> (try simp only [kM, kN, kO]); have hρ := Hp.le_trans hρ hl1; clear hl1) | (refine ZG ?_; refine Zn (Ze rfl) rfl rfl ?_) | (refine Zj ?_; first | (refine Zg ?_; refine qQ ?_) | refine Zl ?_) | refine Za ?_ | (refine Zi ?_; refine Zq ?_) | (refine Zh ?_; refine Zp ?_) | intro _)
 obtain ⟨B, hB⟩ : ∃ B, l ++ be 4 r.nextTxn.toNat ++ [tB (v.t.n : Int)] = B := ⟨_, rfl⟩
 rw [hB] at hown ⊢
 have hBl : B.length ≤ 80001 := by rw [← hB]; simp [ZF]; omega
 have hfin : B ++ r.txns.flatMap ckTB = l ++ (be 4 r.nextTxn.toNat ++ Xr ckTB r.txns) := by rw [← hB]; simp [Xr, hl, tB]
 rw [show XK w1 B sp1 = XK w1 (B ++ (r.txns.take 0).flatMap ckTB) sp1 by simp]
 refine Zy [(0, _), (26, _), (27, _)] (fun (ζ : (Nat) × (Hp) × (Value) × (List Value)) => [(28, .int .i64 ζ.1)]) (fun (ζ : (Nat) × (Hp) × (Value) × (List Value)) => ζ.2.1) (fun (ζ : (Nat) × (Hp) × (Value) × (List Value)) => [XK ζ.2.2.1 (B ++ (r.txns.take ζ.1).flatMap ckTB) ζ.2.2.2, wrC wb v r ζ.2.2.1]) (fun (ζ : (Nat) × (Hp) × (Value) × (List Value)) => ζ.1 ≤ v.t.n ∧ ρ.le ζ.2.1 ∧ OwnB ζ.2.2.1 (B ++ (r.txns.take ζ.1).flatMap ckTB) ζ.2.2.2) (fun (ζ : (Nat) × (Hp) × (Value) × (List Value)) => v.t.n - ζ.1) ((0, ρ', w1, sp1)) (⟨Nat.zero_le _, hρ, by simpa using hown⟩) Zk Zk rfl tk ?_
 rintro ⟨k, ρ1, w2, sp2⟩ hI
 try simp only [List.cons_append, List.nil_append, List.append_assoc, List.append_eq] at hI ⊢
 try dsimp only at hI ⊢
 obtain ⟨hk, hle1, hown⟩ := hI
 clear hρ
 by_cases hlt : k < v.t.n
 ·obtain ⟨b, off, C, T, fr, e1, hbb, hfit, hcc⟩ := (hA.mono hle1).get (show k < r.txns.length by omega)
  have hts := flatMap_app ckTB r.txns k (by omega)
  have hmem := List.getElem_mem (show k < r.txns.length by omega)
  obtain ⟨g1, g2, g3, g4, g5⟩ := hL.tx _ hmem
  have hfl := YH ckTB 29 (r.txns.take k) (fun x _ => Nat.le_of_eq (ckTB_len x))
  have htl : (r.txns.take k).length ≤ 8 := by simp; omega
  generalize r.txns[k]'(by omega) = x at *
  have hxl : (B ++ (r.txns.take k).flatMap ckTB).length ≤ 83000 := by simp only [List.length_append]; omega
  have hmm : B ++ (r.txns.take k).flatMap ckTB ++ ckTB x = B ++ (r.txns.take (k + 1)).flatMap ckTB := by rw [hts]; simp
  generalize hX : B ++ (r.txns.take k).flatMap ckTB = X at *
  have hρ := Hp.le_refl ρ1
  rw [e1]
  repeat' (first | (refine ZJ rfl rfl rfl rfl (by simp) rfl rfl (fun bs => ?_); refine Yn _ (h := Rem.here) (fun ρz hlz hfz => ?_); have hbs := hfz _ (List.mem_singleton.2 rfl); clear hfz; have hρ := Hp.le_trans hρ hlz; clear hlz; (try simp only [List.nil_append])) | (refine Zc (.func 195) ?_; refine qC rfl rfl (wtxn_spec _ wb v r w2 X sp2 hown (by omega) x.txn g1) ?_; rintro v ρ' L' hle ⟨rfl, hl1, w3, sp3, hown, rfl⟩ <;> (try simp only [kM, kN, kO]); have hρ := Hp.le_trans hρ hl1; clear hl1) | (refine Zc (.func 194) ?_; refine qC rfl rfl (wlong3_spec _ wb v r w3 _ sp3 hown (by (try simp only [List.length_append, List.length_cons, List.length_nil, List.length_map, ZF]) <;> omega) _ x.first x.last x.undo hbs g2 g3 g4) ?_; rintro v ρ' L' hle ⟨rfl, hl1, w4, sp4, hown, rfl⟩ <;> (try simp only [kM, kN, kO]); have hρ := Hp.le_trans hρ hl1; clear hl1) | (refine Zc (.func 193) ?_; refine qC rfl rfl (YQ _ wb v r w4 _ sp4 hown (by (try simp only [List.length_append, List.length_cons, List.length_nil, List.length_map, ZF]) <;> omega) _ x.state hbs g5) ?_; rintro v ρ' L' hle ⟨rfl, hl1, w5, sp5, hown, rfl⟩ <;> (try simp only [kM, kN, kO]); have hρ := Hp.le_trans hρ hl1; clear hl1) | (refine ZG ?_; refine Zn (Ze rfl) rfl rfl ?_) | (refine Zj ?_; first | (refine Zg ?_; refine qQ ?_) | refine Zl ?_) | refine Za ?_ | (refine Zi ?_; refine Zq ?_) | (refine Zh ?_; refine Zp ?_) | intro _)
  rw [← e1]
  have e2 : X ++ be 4 x.txn.toNat ++ (be 8 x.first ++ (be 8 x.last ++ be 8 x.undo)) ++ [tB x.state] = B ++ (r.txns.take (k + 1)).flatMap ckTB := by rw [← hmm]; simp [ckTB]
  rw [e2] at hown ⊢
  refine Zo (k + 1, _, w5, sp5) (⟨hlt, Hp.le_trans hle1 hρ, hown⟩) Zk Zk rfl tk inferInstance (by first | omega | (dsimp only; omega))
 ·rw [show r.txns.take k = r.txns by rw [show k = r.txns.length by omega, List.take_length], hfin] at hown ⊢
  have hρ := hle1
  obtain ⟨B2, hB2⟩ : ∃ B2, l ++ (be 4 r.nextTxn.toNat ++ Xr ckTB r.txns) = B2 := ⟨_, rfl⟩
  have hlT : (Xr ckTB r.txns).length ≤ 300 := by
   have := YH ckTB 29 r.txns (fun x _ => Nat.le_of_eq (ckTB_len x))
   unfold Xr; rw [List.length_cons]; omega
  have hB2l : B2.length ≤ 71000 := by rw [← hB2]; simp [ZF]; omega
  rw [hB2] at hown ⊢
  repeat' (first | (refine ZJ rfl rfl rfl rfl (by simp) rfl rfl (fun bs => ?_); refine Yn _ (h := Rem.here) (fun ρz hlz hfz => ?_); have hbs := hfz _ (List.mem_singleton.2 rfl); clear hfz; have hρ := Hp.le_trans hρ hlz; clear hlz; (try simp only [List.nil_append])) | (refine Zc (.func 193) ?_; refine qC rfl rfl (YQ _ wb v r w2 B2 sp2 hown (by omega) _ (v.d.n : Int) hbs (by omega)) ?_; rintro v ρ' L' hle ⟨rfl, hl1, w1, sp1, hown, rfl⟩ <;> (try simp only [kM, kN, kO]); have hρ := Hp.le_trans hρ hl1; clear hl1) | (refine ZG ?_; refine Zn (Ze rfl) rfl rfl ?_) | (refine Zj ?_; first | (refine Zg ?_; refine qQ ?_) | refine Zl ?_) | refine Za ?_ | (refine Zi ?_; refine Zq ?_) | (refine Zh ?_; refine Zp ?_) | intro _)
  obtain ⟨B3, hB3⟩ : ∃ B3, B2 ++ [tB (v.d.n : Int)] = B3 := ⟨_, rfl⟩
  rw [hB3] at hown ⊢
  have hBl3 : B3.length ≤ 80001 := by rw [← hB3]; simp; omega
  have hfin3 : B3 ++ r.dirty.flatMap ckPB = l ++ (be 4 r.nextTxn.toNat ++ (Xr ckTB r.txns ++ Xr ckPB r.dirty)) := by rw [← hB3, ← hB2]; simp [Xr, hl2, tB]
  rw [show XK w1 B3 sp1 = XK w1 (B3 ++ (r.dirty.take 0).flatMap ckPB) sp1 by simp]
  refine Zy [(0, _), (64, _), (65, _)] (fun (ζ : (Nat) × (Hp) × (Value) × (List Value)) => [(66, .int .i64 ζ.1)]) (fun (ζ : (Nat) × (Hp) × (Value) × (List Value)) => ζ.2.1) (fun (ζ : (Nat) × (Hp) × (Value) × (List Value)) => [XK ζ.2.2.1 (B3 ++ (r.dirty.take ζ.1).flatMap ckPB) ζ.2.2.2, wrC wb v r ζ.2.2.1]) (fun (ζ : (Nat) × (Hp) × (Value) × (List Value)) => ζ.1 ≤ v.d.n ∧ ρ.le ζ.2.1 ∧ OwnB ζ.2.2.1 (B3 ++ (r.dirty.take ζ.1).flatMap ckPB) ζ.2.2.2) (fun (ζ : (Nat) × (Hp) × (Value) × (List Value)) => v.d.n - ζ.1) ((0, ρ', w1, sp1)) (⟨Nat.zero_le _, hρ, by simpa using hown⟩) Zk Zk rfl tk ?_
  rintro ⟨j, ρ2, w3, sp3⟩ hI
  try simp only [List.cons_append, List.nil_append, List.append_assoc, List.append_eq] at hI ⊢
  try dsimp only at hI ⊢
  obtain ⟨hj, hle2, hown⟩ := hI
  clear hρ
  by_cases hlj : j < v.d.n
  ·obtain ⟨b, off, C, T, fr, e1, hbb, hfit, hcc⟩ := (hA2.mono hle2).get (show j < r.dirty.length by omega)
   have hts := flatMap_app ckPB r.dirty j (by omega)
   have hmem := List.getElem_mem (show j < r.dirty.length by omega)
   obtain ⟨g1, g2⟩ := hL.di _ hmem
   have hfl := YH ckPB 9 (r.dirty.take j) (fun x _ => Nat.le_of_eq (ckPB_len x))
   have htl : (r.dirty.take j).length ≤ 64 := by simp; omega
   generalize r.dirty[j]'(by omega) = x at *
   have hxl : (B3 ++ (r.dirty.take j).flatMap ckPB).length ≤ 83000 := by simp only [List.length_append]; omega
   have hmm : B3 ++ (r.dirty.take j).flatMap ckPB ++ ckPB x = B3 ++ (r.dirty.take (j + 1)).flatMap ckPB := by rw [hts]; simp
   generalize hX : B3 ++ (r.dirty.take j).flatMap ckPB = X at *
   have hρ := Hp.le_refl ρ2
   rw [e1]
   repeat' (first | (refine ZJ rfl rfl rfl rfl (by simp) rfl rfl (fun bs => ?_); refine Yn _ (h := Rem.here) (fun ρz hlz hfz => ?_); have hbs := hfz _ (List.mem_singleton.2 rfl); clear hfz; have hρ := Hp.le_trans hρ hlz; clear hlz; (try simp only [List.nil_append])) | (refine Zc (.func 193) ?_; refine qC rfl rfl (YQ _ wb v r w3 X sp3 hown (by omega) _ x.page hbs (by omega)) ?_; rintro v ρ' L' hle ⟨rfl, hl1, w4, sp4, hown, rfl⟩ <;> (try simp only [kM, kN, kO]); have hρ := Hp.le_trans hρ hl1; clear hl1) | (refine Zc (.func 194) ?_; refine qC rfl rfl (wlong_spec _ wb v r w4 _ sp4 hown (by (try simp only [List.length_append, List.length_cons, List.length_nil, List.length_map, ZF]) <;> omega) _ x.since hbs g2) ?_; rintro v ρ' L' hle ⟨rfl, hl1, w5, sp5, hown, rfl⟩ <;> (try simp only [kM, kN, kO]); have hρ := Hp.le_trans hρ hl1; clear hl1) | (refine ZG ?_; refine Zn (Ze rfl) rfl rfl ?_) | (refine Zj ?_; first | (refine Zg ?_; refine qQ ?_) | refine Zl ?_) | refine Za ?_ | (refine Zi ?_; refine Zq ?_) | (refine Zh ?_; refine Zp ?_) | intro _)
   rw [← e1]
   have e2 : X ++ [tB x.page] ++ be 8 x.since = B3 ++ (r.dirty.take (j + 1)).flatMap ckPB := by rw [← hmm]; simp [ckPB]
   rw [e2] at hown ⊢
   refine Zo (j + 1, _, w5, sp5) (⟨hlj, Hp.le_trans hle2 hρ, hown⟩) Zk Zk rfl tk inferInstance (by first | omega | (dsimp only; omega))
  ·rw [show r.dirty.take j = r.dirty by rw [show j = r.dirty.length by omega, List.take_length], hfin3] at hown ⊢
   repeat' (first | (refine ZG ?_; refine Zn (Ze rfl) rfl rfl ?_) | (refine Zj ?_; first | (refine Zg ?_; refine qQ ?_) | refine Zl ?_) | refine Za ?_ | (refine Zi ?_; refine Zq ?_) | (refine Zh ?_; refine Zp ?_) | intro _)
   exact qE ⟨rfl, hle2, w3, sp3, hown, rfl⟩
def layF (k : Int) : Nat := if k = 2 then 196 else if k = 3 then 197 else if k = 4 then 198 else if k = 5 then 199 else 200
theorem lay_spec (wb : Nat) (v : RV) (r : Rc) (hL : LayOk r) (hk : r.kind = 2 ∨ r.kind = 3 ∨ r.kind = 4 ∨ r.kind = 5 ∨ r.kind = 9) : Yv Tryz.prog (layF r.kind) ∧ ∀ (ρ : Hp) (w : Value) (l : List UInt8) (sp : List Value), OwnB w l sp → l.length ≤ 60000 → RcIn ρ v r →
  Spec Tryz.prog (layF r.kind) [.pointer (some ⟨wb, 0, none⟩)] ρ [XK w l sp, wrC wb v r w] (WrP ρ wb v r (l ++ recTB r)) := by
 unfold layF recTB
 rcases hk with e | e | e | e | e
 ·rw [if_pos e, if_pos e]
  exact ⟨inferInstance, fun ρ w l sp hown hn h => wimages_spec ρ wb v r w l sp hown (by omega) h hL⟩
 ·rw [if_neg (by omega), if_pos e, if_neg (by omega), if_pos e]
  exact ⟨inferInstance, fun ρ w l sp hown hn h => wnested_spec ρ wb v r w l sp hown (by omega) hL.next⟩
 ·rw [if_neg (by omega), if_neg (by omega), if_pos e, if_neg (by omega), if_neg (by omega), if_pos e]
  exact ⟨inferInstance, fun ρ w l sp hown hn h => wdone_spec ρ wb v r w l sp hown (by omega) h hL⟩
 ·rw [if_neg (by omega), if_neg (by omega), if_neg (by omega), if_pos e, if_neg (by omega), if_neg (by omega), if_neg (by omega), if_pos e]
  exact ⟨inferInstance, fun ρ w l sp hown hn h => wundone_spec ρ wb v r w l sp hown (by omega) h hL⟩
 ·rw [if_neg (by omega), if_neg (by omega), if_neg (by omega), if_neg (by omega), if_neg (by omega), if_neg (by omega), if_neg (by omega), if_neg (by omega), if_pos e]
  exact ⟨inferInstance, fun ρ w l sp hown hn h => wckpt_spec ρ wb v r w l sp hown (by omega) h hL⟩
theorem layF_chain {f : Nat → Option Value} {k : Int} (hk : k = 2 ∨ k = 3 ∨ k = 4 ∨ k = 5 ∨ k = 9) : (if k = 9 then f 200 else if k = 5 then f 199 else if k = 4 then f 198 else if k = 3 then f 197 else if k = 2 then f 196 else none) = f (layF k) := by
 unfold layF
 rcases hk with e | e | e | e | e <;> subst e <;> rfl
theorem recTB_none {r : Rc} (hk : ¬ (r.kind = 2 ∨ r.kind = 3 ∨ r.kind = 4 ∨ r.kind = 5 ∨ r.kind = 9)) : recTB r = [] := by
 unfold recTB
 rw [if_neg (by omega), if_neg (by omega), if_neg (by omega), if_neg (by omega), if_neg (by omega)]
theorem rlaid_spec (ρ : Hp) (v : RV) (r : Rc) (h : RcIn ρ v r) (hL : LayOk r) : Spec Tryz.prog 112 [.agg ⟨Wv v r⟩] ρ []
  (fun z ρ' L' => ρ.le ρ' ∧ ∃ a c, z = .slice a (recB r).length c ∧ (recB r).length ≤ c ∧ SIn ρ' ZM a (recB r).length (recB r) ∧ L' = []) := by
 have hρ := Hp.le_refl ρ
 have hnil : Xe .i64 [] := by intro e he; simp at he
 have hg0 : ∀ k : Int, Xo [] k = none := fun _ => rfl
 have k1 := hL.kind
 have k2 := hL.lsn
 have k3 := hL.txn
 have k4 := hL.prev
 refine Zf Tryz.func112 rfl rfl rfl fun u R => ?_
 simp only [Zx, List.cons_append, List.nil_append]
 repeat' (first | (refine ZJ rfl rfl rfl rfl (by simp) rfl rfl (fun bs => ?_); refine Yn _ (h := Rem.here) (fun ρz hlz hfz => ?_); have hbs := hfz _ (List.mem_singleton.2 rfl); clear hfz; have hρ := Hp.le_trans hρ hlz; clear hlz; (try simp only [List.nil_append])) | (rename_i rb wb; refine Zc (.func 193) ?_; refine tl_call rfl rfl (YQ _ _ v r (.slice none 0 0) [] [] (OwnS.nil 1) (by decide) _ r.kind hbs k1) (take_cons' rem_nil' (take_cons' Ya take_nil')) rfl ?_; rintro z1 ρ1 L1 hle0 ⟨rfl, hl1, w1, sp1, hown, rfl⟩; simp only [List.cons_append, List.nil_append] at hown ⊢; have hρ := Hp.le_trans hρ hl1; clear hl1) | (refine Zc (.func 194) ?_; refine qC rfl rfl ((wlong_spec _ _ v r w1 _ sp1 hown (by (try simp only [List.length_append, List.length_cons, List.length_nil, List.length_map, ZF]) <;> omega) _ r.lsn hbs k2)) ?_; rintro v ρ' L' hle ⟨rfl, hl1, w2, sp2, hown, rfl⟩ <;> (try simp only [kM, kN, kO]); have hρ := Hp.le_trans hρ hl1; clear hl1) | (refine Zc (.func 195) ?_; refine qC rfl rfl ((wtxn_spec _ _ v r w2 _ sp2 hown (by (try simp only [List.length_append, List.length_cons, List.length_nil, List.length_map, ZF]) <;> omega) r.txn k3)) ?_; rintro v ρ' L' hle ⟨rfl, hl1, w3, sp3, hown, rfl⟩ <;> (try simp only [kM, kN, kO]); have hρ := Hp.le_trans hρ hl1; clear hl1) | (refine Zc (.func 194) ?_; refine qC rfl rfl ((wlong_spec _ _ v r w3 _ sp3 hown (by (try simp only [List.length_append, List.length_cons, List.length_nil, List.length_map, ZF]) <;> omega) _ r.prev hbs k4)) ?_; rintro v ρ' L' hle ⟨rfl, hl1, w4, sp4, hown, rfl⟩ <;> (try simp only [kM, kN, kO]); have hρ := Hp.le_trans hρ hl1; clear hl1) | (refine Yh rfl rfl rfl hnil (fun es1 ck1 i1 j1 => ?_)) | (refine Yh rfl rfl rfl i1 (fun es2 ck2 i2 j2 => ?_)) | (refine Yh rfl rfl rfl i2 (fun es3 ck3 i3 j3 => ?_)) | (refine Yh rfl rfl rfl i3 (fun es4 ck4 i4 j4 => ?_)) | (refine ZG ?_; refine Zn (Ze rfl) rfl rfl ?_) | (refine Zj ?_; first | (refine Zg ?_; refine qQ ?_) | refine Zl ?_) | refine Za ?_ | (refine Zi ?_; refine Zq ?_) | (refine Zh ?_; refine Zp ?_) | intro _)
 rename_i mb
 refine Yh rfl rfl rfl i4 (fun es5 ck5 i5 j5 => ?_)
 have hg := j5 r.kind
 rw [j4, j3, j2, j1, hg0] at hg
 clear j1 j2 j3 j4 j5 i1 i2 i3 i4
 have hH : tB r.kind :: (be 8 r.lsn ++ be 4 r.txn.toNat ++ be 8 r.prev) = recHB r := by simp [recHB]
 have hHl : (recHB r).length ≤ 100 := by simp [recHB, ZF]
 simp only [List.cons_append, List.nil_append, hH] at hown ⊢
 by_cases hk : r.kind = 2 ∨ r.kind = 3 ∨ r.kind = 4 ∨ r.kind = 5 ∨ r.kind = 9
 ·obtain ⟨hF, hS⟩ := lay_spec wb v r hL hk
  have hS := fun ρ (hle : Hp.le _ ρ) => hS ρ w4 _ sp4 hown (by omega) (h.mono hle)
  have hgF : Xo es5 r.kind = some (Value.func (.func (layF r.kind)) ⟨[.pointer (some ⟨wb, 0, none⟩)]⟩ ⟨[]⟩) := by
   rw [hg]
   exact layF_chain (f := fun F => some (Value.func (.func F) ⟨[.pointer (some ⟨wb, 0, none⟩)]⟩ ⟨[]⟩)) hk
  clear hg
  generalize layF r.kind = F at *
  repeat' (first | (refine Zc (.tmp 46) ?_; refine qC rfl rfl (hS _ hρ) ?_; rintro v ρ' L' hle ⟨rfl, hl1, w5, sp5, hown, rfl⟩ <;> (try simp only [kM, kN, kO]); have hρ := Hp.le_trans hρ hl1; clear hl1) | (refine ZG ?_; refine Zn (Ze rfl) rfl rfl ?_) | (refine Zj ?_; first | (refine Zg ?_; refine qQ ?_) | refine Zl ?_) | refine Za ?_ | (refine Zi ?_; refine Zq ?_) | (refine Zh ?_; refine Zp ?_) | intro _)
  have hB : recHB r ++ recTB r = recB r := rfl
  rw [hB] at hown ⊢
  obtain ⟨va, vc, rfl, _⟩ := hown.slice
  repeat' (first | (refine ZG ?_; refine Zn (Ze rfl) rfl rfl ?_) | (refine Zj ?_; first | (refine Zg ?_; refine qQ ?_) | refine Zl ?_) | refine Za ?_ | (refine Zi ?_; refine Zq ?_) | (refine Zh ?_; refine Zp ?_) | intro _)
  refine YB (XK (.slice va (recB r).length vc) (recB r) sp5) (h := by repeat (first | exact Ya | apply ZS)) (fun ρ6 hle6 hfz => ?_)
  obtain ⟨a6, c6, e6, hc6, hs6⟩ := hown.sIn hfz
  cases e6
  exact qE ⟨Hp.le_trans hρ hle6, va, vc, rfl, hc6, hs6, rfl⟩
 ·have hgN : Xo es5 r.kind = none := by
   rw [hg]
   simp only [show ¬ r.kind = 9 by omega, show ¬ r.kind = 5 by omega, show ¬ r.kind = 4 by omega, show ¬ r.kind = 3 by omega, show ¬ r.kind = 2 by omega, if_false]
  clear hg
  have hB : recHB r = recB r := by unfold recB; rw [recTB_none hk, List.append_nil]
  rw [hB] at hown ⊢
  obtain ⟨va, vc, rfl, _⟩ := hown.slice
  repeat' (first | (refine ZG ?_; refine Zn (Ze rfl) rfl rfl ?_) | (refine Zj ?_; first | (refine Zg ?_; refine qQ ?_) | refine Zl ?_) | refine Za ?_ | (refine Zi ?_; refine Zq ?_) | (refine Zh ?_; refine Zp ?_) | intro _)
  refine YB (XK (.slice va (recB r).length vc) (recB r) sp4) (h := by repeat (first | exact Ya | apply ZS)) (fun ρ6 hle6 hfz => ?_)
  obtain ⟨a6, c6, e6, hc6, hs6⟩ := hown.sIn hfz
  cases e6
  exact qE ⟨Hp.le_trans hρ hle6, va, vc, rfl, hc6, hs6, rfl⟩
end Go.Proofs.E
