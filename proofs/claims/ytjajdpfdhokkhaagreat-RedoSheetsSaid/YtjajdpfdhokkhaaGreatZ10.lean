/- The law RedoSheets. Part 10 of 12. -/
import Derived.Test.YtjajdpfdhokkhaaGreatZ9
namespace Go.Proofs.E
open Go
set_option linter.unusedVariables false
set_option linter.unusedSimpArgs false
set_option linter.unusedSectionVars false
set_option maxRecDepth 4000
set_option maxHeartbeats 1000000
attribute [local irreducible] Yl TL TC TE Spec Xn R1 Hp.le EnvLe TS TR YS Zq
set_option maxHeartbeats 4000000
theorem right12_spec (ρ : Hp) (v : RV) (r : Rc) (h : RcIn ρ v r) : Spec Tryz.prog 26 [.agg ⟨Xo v r⟩] ρ [] (fun z ρ' L' => z = .bool (Yo r) ∧ ρ' = ρ ∧ L' = []) := by
 have li := h.i.at'.len
 have ls := h.s.at'.len
 have lt := h.t.at'.len
 have ld := h.d.at'.len
 have bi := h.i.big
 have bs := h.s.big
 have bt := h.t.big
 have bd := h.d.big
 have ei : r.ims = [] ↔ v.i.n = 0 := by rw [← li]; exact List.length_eq_zero_iff.symm
 have es : r.steps = [] ↔ v.s.n = 0 := by rw [← ls]; exact List.length_eq_zero_iff.symm
 have et : r.txns = [] ↔ v.t.n = 0 := by rw [← lt]; exact List.length_eq_zero_iff.symm
 have ed : r.dirty = [] ↔ v.d.n = 0 := by rw [← ld]; exact List.length_eq_zero_iff.symm
 have hrec : Yo r = true ↔ (1 ≤ r.kind ∧ r.kind ≤ 9) ∧ (1 ≤ r.lsn ∧ r.lsn ≤ 1099511627776 ∧ r.prev < r.lsn ∧ 0 ≤ r.txn ∧ r.txn ≤ 1073741824 ∧ (r.kind = 9 ↔ r.txn = 0) ∧ ((r.kind = 9 ∨ r.kind = 1) ↔ r.prev = 0)) ∧ askOk r = true ∧
   ((r.next = 0 ∨ r.kind = 3 ∨ r.kind = 4 ∨ r.kind = 5) ∧ (v.i.n = 0 ∨ r.kind = 2 ∨ r.kind = 5) ∧ (v.s.n = 0 ∨ r.kind = 4) ∧ ((v.t.n = 0 ∧ v.d.n = 0 ∧ r.nextTxn = 0) ∨ r.kind = 9)) := by
  unfold Yo headOk bareOk
  simp only [Bool.and_eq_true, decide_eq_true_eq, ei, es, et, ed]
 generalize Yo r = rk at *
 have h1 := images12_spec ρ v.i r.ims h.i true h.im
 have h2 := images12_spec ρ v.i r.ims h.i false h.im
 have h3 := steps12_spec ρ v.s r.steps h.s h.sf
 have h4 := txns12_spec ρ v.t r.txns h.t r.lsn r.nextTxn
 have h5 := dirty12_spec ρ v.d r.dirty h.d r.lsn
 change Spec Tryz.prog 95 [.slice v.i.a v.i.n v.i.c, .bool true] ρ [] (fun z ρ' L' => z = .bool (imsOk true r.ims) ∧ ρ' = ρ ∧ L' = []) at h1
 change Spec Tryz.prog 95 [.slice v.i.a v.i.n v.i.c, .bool false] ρ [] (fun z ρ' L' => z = .bool (imsOk false r.ims) ∧ ρ' = ρ ∧ L' = []) at h2
 have hask : ∀ A : Prop, (askOk r = true ↔ A) → (rk = true ↔ (1 ≤ r.kind ∧ r.kind ≤ 9) ∧ (1 ≤ r.lsn ∧ r.lsn ≤ 1099511627776 ∧ r.prev < r.lsn ∧ 0 ≤ r.txn ∧ r.txn ≤ 1073741824 ∧ (r.kind = 9 ↔ r.txn = 0) ∧ ((r.kind = 9 ∨ r.kind = 1) ↔ r.prev = 0)) ∧ A ∧
   ((r.next = 0 ∨ r.kind = 3 ∨ r.kind = 4 ∨ r.kind = 5) ∧ (v.i.n = 0 ∨ r.kind = 2 ∨ r.kind = 5) ∧ (v.s.n = 0 ∨ r.kind = 4) ∧ ((v.t.n = 0 ∧ v.d.n = 0 ∧ r.nextTxn = 0) ∨ r.kind = 9))) := fun A hA => by rw [hrec, hA]
 unfold askOk at hask
 generalize imsOk true r.ims = q1 at *
 generalize imsOk false r.ims = q2 at *
 generalize r.steps.all Yn = q3 at *
 generalize upB (ckTOk r.lsn r.nextTxn) CkT.txn r.txns r.txns.length = q4 at *
 generalize upB (ckPOk r.lsn) CkP.page r.dirty r.dirty.length = q5 at *
 rw [li, ls, lt] at hask
 rw [ls] at h3
 rw [lt] at h4
 clear hrec
 refine Zf Tryz.func26 rfl rfl rfl fun u R => ?_
 simp only [ZG, List.cons_append, List.nil_append]
 by_cases k2 : r.kind = 2
 ·have hk := hask (0 < v.i.n ∧ q1 = true) (by rw [if_pos k2]; simp)
  clear hask
  cases q1
  all_goals simp only [Bool.false_eq_true, and_true, and_false, false_and] at hk
  all_goals (repeat' (first | (refine Zd (.func 95) ?_; refine qC rfl rfl (h1) ?_; rintro v ρ' L' hle ⟨rfl, rfl, rfl⟩ <;> (try simp only [kM, kN, kO])) | (refine Zd (.func 95) ?_; refine qC rfl rfl (h2) ?_; rintro v ρ' L' hle ⟨rfl, rfl, rfl⟩ <;> (try simp only [kM, kN, kO])) | (refine Zd (.func 96) ?_; refine qC rfl rfl (h3) ?_; rintro v ρ' L' hle ⟨rfl, rfl, rfl⟩ <;> (try simp only [kM, kN, kO])) | (refine Zd (.func 97) ?_; refine qC rfl rfl (h4) ?_; rintro v ρ' L' hle ⟨rfl, rfl, rfl⟩ <;> (try simp only [kM, kN, kO])) | (refine Zd (.func 98) ?_; refine qC rfl rfl (h5) ?_; rintro v ρ' L' hle ⟨rfl, rfl, rfl⟩ <;> (try simp only [kM, kN, kO])) | (refine iBu ?_; refine ZC (Ze rfl) rfl rfl ?_) | (refine Zj ?_; first | (refine Zi ?_; refine qQ ?_) | refine Zo ?_) | refine Zc ?_ | (refine Zh ?_; refine Zz ?_) | (refine Zg ?_; refine Zy ?_) | (refine YO ?_; refine ZI rfl rfl (fun hb => ?_) (fun hb => ?_) <;> (try simp only [decide_eq_true_eq, decide_eq_false_iff_not, Bool.not_eq_true, Bool.not_eq_false, beq_iff_eq, bne_iff_ne, ne_eq, decide_eq_decide, Bool.not_eq_eq_eq_not, Bool.not_true, Bool.not_false, beq_eq_false_iff_ne, bne_eq_false_iff_eq, Bool.and_eq_true, Bool.or_eq_true, Bool.and_eq_false_imp, Bool.or_eq_false_iff, bq2, bqt, bqf] at hb)) | (refine Ya ?_; refine ZO rfl (fun hb => ?_) (fun hb => ?_) <;> (try simp only [decide_eq_true_eq, decide_eq_false_iff_not, Bool.not_eq_true, Bool.not_eq_false, beq_iff_eq, bne_iff_ne, ne_eq, decide_eq_decide, Bool.not_eq_eq_eq_not, Bool.not_true, Bool.not_false, beq_eq_false_iff_ne, bne_eq_false_iff_eq, Bool.and_eq_true, Bool.or_eq_true, Bool.and_eq_false_imp, Bool.or_eq_false_iff, bq2, bqt, bqf] at hb)) | intro _))
  all_goals (refine qF (L' := []) ?_; refine ⟨Yi ?_, rfl, rfl⟩; rw [hk]; first | omega | (simp only [decide_eq_true_eq, Bool.false_eq_true, true_iff, false_iff, true_and, and_true, beq_iff_eq, Bool.and_true, Bool.and_false, Bool.true_and, Bool.false_and, decide_true, decide_false] <;> omega))
 ·skip
  by_cases k3 : r.kind = 3
  ·have hk := hask (r.next < r.prev) (by rw [if_neg k2, if_pos k3]; simp)
   clear hask
   repeat' (first | (refine Zd (.func 95) ?_; refine qC rfl rfl (h1) ?_; rintro v ρ' L' hle ⟨rfl, rfl, rfl⟩ <;> (try simp only [kM, kN, kO])) | (refine Zd (.func 95) ?_; refine qC rfl rfl (h2) ?_; rintro v ρ' L' hle ⟨rfl, rfl, rfl⟩ <;> (try simp only [kM, kN, kO])) | (refine Zd (.func 96) ?_; refine qC rfl rfl (h3) ?_; rintro v ρ' L' hle ⟨rfl, rfl, rfl⟩ <;> (try simp only [kM, kN, kO])) | (refine Zd (.func 97) ?_; refine qC rfl rfl (h4) ?_; rintro v ρ' L' hle ⟨rfl, rfl, rfl⟩ <;> (try simp only [kM, kN, kO])) | (refine Zd (.func 98) ?_; refine qC rfl rfl (h5) ?_; rintro v ρ' L' hle ⟨rfl, rfl, rfl⟩ <;> (try simp only [kM, kN, kO])) | (refine iBu ?_; refine ZC (Ze rfl) rfl rfl ?_) | (refine Zj ?_; first | (refine Zi ?_; refine qQ ?_) | refine Zo ?_) | refine Zc ?_ | (refine Zh ?_; refine Zz ?_) | (refine Zg ?_; refine Zy ?_) | (refine YO ?_; refine ZI rfl rfl (fun hb => ?_) (fun hb => ?_) <;> (try simp only [decide_eq_true_eq, decide_eq_false_iff_not, Bool.not_eq_true, Bool.not_eq_false, beq_iff_eq, bne_iff_ne, ne_eq, decide_eq_decide, Bool.not_eq_eq_eq_not, Bool.not_true, Bool.not_false, beq_eq_false_iff_ne, bne_eq_false_iff_eq, Bool.and_eq_true, Bool.or_eq_true, Bool.and_eq_false_imp, Bool.or_eq_false_iff, bq2, bqt, bqf] at hb)) | (refine Ya ?_; refine ZO rfl (fun hb => ?_) (fun hb => ?_) <;> (try simp only [decide_eq_true_eq, decide_eq_false_iff_not, Bool.not_eq_true, Bool.not_eq_false, beq_iff_eq, bne_iff_ne, ne_eq, decide_eq_decide, Bool.not_eq_eq_eq_not, Bool.not_true, Bool.not_false, beq_eq_false_iff_ne, bne_eq_false_iff_eq, Bool.and_eq_true, Bool.or_eq_true, Bool.and_eq_false_imp, Bool.or_eq_false_iff, bq2, bqt, bqf] at hb)) | intro _)
   all_goals (refine qF (L' := []) ?_; refine ⟨Yi ?_, rfl, rfl⟩; rw [hk]; first | omega | (simp only [decide_eq_true_eq, Bool.false_eq_true, true_iff, false_iff, true_and, and_true, beq_iff_eq, Bool.and_true, Bool.and_false, Bool.true_and, Bool.false_and, decide_true, decide_false] <;> omega))
  ·skip
   by_cases k4 : r.kind = 4
   ·have hk := hask (r.next < r.prev ∧ (0 < v.s.n ∧ v.s.n ≤ 2) ∧ q3 = true) (by rw [if_neg k2, if_neg k3, if_pos k4]; simp)
    clear hask
    cases q3
    all_goals simp only [Bool.false_eq_true, and_true, and_false, false_and] at hk
    all_goals (repeat' (first | (refine Zd (.func 95) ?_; refine qC rfl rfl (h1) ?_; rintro v ρ' L' hle ⟨rfl, rfl, rfl⟩ <;> (try simp only [kM, kN, kO])) | (refine Zd (.func 95) ?_; refine qC rfl rfl (h2) ?_; rintro v ρ' L' hle ⟨rfl, rfl, rfl⟩ <;> (try simp only [kM, kN, kO])) | (refine Zd (.func 96) ?_; refine qC rfl rfl (h3) ?_; rintro v ρ' L' hle ⟨rfl, rfl, rfl⟩ <;> (try simp only [kM, kN, kO])) | (refine Zd (.func 97) ?_; refine qC rfl rfl (h4) ?_; rintro v ρ' L' hle ⟨rfl, rfl, rfl⟩ <;> (try simp only [kM, kN, kO])) | (refine Zd (.func 98) ?_; refine qC rfl rfl (h5) ?_; rintro v ρ' L' hle ⟨rfl, rfl, rfl⟩ <;> (try simp only [kM, kN, kO])) | (refine iBu ?_; refine ZC (Ze rfl) rfl rfl ?_) | (refine Zj ?_; first | (refine Zi ?_; refine qQ ?_) | refine Zo ?_) | refine Zc ?_ | (refine Zh ?_; refine Zz ?_) | (refine Zg ?_; refine Zy ?_) | (refine YO ?_; refine ZI rfl rfl (fun hb => ?_) (fun hb => ?_) <;> (try simp only [decide_eq_true_eq, decide_eq_false_iff_not, Bool.not_eq_true, Bool.not_eq_false, beq_iff_eq, bne_iff_ne, ne_eq, decide_eq_decide, Bool.not_eq_eq_eq_not, Bool.not_true, Bool.not_false, beq_eq_false_iff_ne, bne_eq_false_iff_eq, Bool.and_eq_true, Bool.or_eq_true, Bool.and_eq_false_imp, Bool.or_eq_false_iff, bq2, bqt, bqf] at hb)) | (refine Ya ?_; refine ZO rfl (fun hb => ?_) (fun hb => ?_) <;> (try simp only [decide_eq_true_eq, decide_eq_false_iff_not, Bool.not_eq_true, Bool.not_eq_false, beq_iff_eq, bne_iff_ne, ne_eq, decide_eq_decide, Bool.not_eq_eq_eq_not, Bool.not_true, Bool.not_false, beq_eq_false_iff_ne, bne_eq_false_iff_eq, Bool.and_eq_true, Bool.or_eq_true, Bool.and_eq_false_imp, Bool.or_eq_false_iff, bq2, bqt, bqf] at hb)) | intro _))
    all_goals (refine qF (L' := []) ?_; refine ⟨Yi ?_, rfl, rfl⟩; rw [hk]; first | omega | (simp only [decide_eq_true_eq, Bool.false_eq_true, true_iff, false_iff, true_and, and_true, beq_iff_eq, Bool.and_true, Bool.and_false, Bool.true_and, Bool.false_and, decide_true, decide_false] <;> omega))
   ·skip
    by_cases k5 : r.kind = 5
    ·have hk := hask (r.next < r.lsn ∧ q2 = true) (by rw [if_neg k2, if_neg k3, if_neg k4, if_pos k5]; simp)
     clear hask
     cases q2
     all_goals simp only [Bool.false_eq_true, and_true, and_false, false_and] at hk
     all_goals (repeat' (first | (refine Zd (.func 95) ?_; refine qC rfl rfl (h1) ?_; rintro v ρ' L' hle ⟨rfl, rfl, rfl⟩ <;> (try simp only [kM, kN, kO])) | (refine Zd (.func 95) ?_; refine qC rfl rfl (h2) ?_; rintro v ρ' L' hle ⟨rfl, rfl, rfl⟩ <;> (try simp only [kM, kN, kO])) | (refine Zd (.func 96) ?_; refine qC rfl rfl (h3) ?_; rintro v ρ' L' hle ⟨rfl, rfl, rfl⟩ <;> (try simp only [kM, kN, kO])) | (refine Zd (.func 97) ?_; refine qC rfl rfl (h4) ?_; rintro v ρ' L' hle ⟨rfl, rfl, rfl⟩ <;> (try simp only [kM, kN, kO])) | (refine Zd (.func 98) ?_; refine qC rfl rfl (h5) ?_; rintro v ρ' L' hle ⟨rfl, rfl, rfl⟩ <;> (try simp only [kM, kN, kO])) | (refine iBu ?_; refine ZC (Ze rfl) rfl rfl ?_) | (refine Zj ?_; first | (refine Zi ?_; refine qQ ?_) | refine Zo ?_) | refine Zc ?_ | (refine Zh ?_; refine Zz ?_) | (refine Zg ?_; refine Zy ?_) | (refine YO ?_; refine ZI rfl rfl (fun hb => ?_) (fun hb => ?_) <;> (try simp only [decide_eq_true_eq, decide_eq_false_iff_not, Bool.not_eq_true, Bool.not_eq_false, beq_iff_eq, bne_iff_ne, ne_eq, decide_eq_decide, Bool.not_eq_eq_eq_not, Bool.not_true, Bool.not_false, beq_eq_false_iff_ne, bne_eq_false_iff_eq, Bool.and_eq_true, Bool.or_eq_true, Bool.and_eq_false_imp, Bool.or_eq_false_iff, bq2, bqt, bqf] at hb)) | (refine Ya ?_; refine ZO rfl (fun hb => ?_) (fun hb => ?_) <;> (try simp only [decide_eq_true_eq, decide_eq_false_iff_not, Bool.not_eq_true, Bool.not_eq_false, beq_iff_eq, bne_iff_ne, ne_eq, decide_eq_decide, Bool.not_eq_eq_eq_not, Bool.not_true, Bool.not_false, beq_eq_false_iff_ne, bne_eq_false_iff_eq, Bool.and_eq_true, Bool.or_eq_true, Bool.and_eq_false_imp, Bool.or_eq_false_iff, bq2, bqt, bqf] at hb)) | intro _))
     all_goals (refine qF (L' := []) ?_; refine ⟨Yi ?_, rfl, rfl⟩; rw [hk]; first | omega | (simp only [decide_eq_true_eq, Bool.false_eq_true, true_iff, false_iff, true_and, and_true, beq_iff_eq, Bool.and_true, Bool.and_false, Bool.true_and, Bool.false_and, decide_true, decide_false] <;> omega))
    ·skip
     by_cases k9 : r.kind = 9
     ·have hk := hask ((1 ≤ r.nextTxn ∧ r.nextTxn ≤ 1073741824 ∧ v.t.n ≤ 8) ∧ q4 = true ∧ q5 = true) (by rw [if_neg k2, if_neg k3, if_neg k4, if_neg k5, if_pos k9]; simp)
      clear hask
      cases q4
      all_goals cases q5
      all_goals simp only [Bool.false_eq_true, and_true, and_false, false_and] at hk
      all_goals simp only [Bool.and_true, Bool.and_false] at h4
      all_goals (repeat' (first | (refine Zd (.func 95) ?_; refine qC rfl rfl (h1) ?_; rintro v ρ' L' hle ⟨rfl, rfl, rfl⟩ <;> (try simp only [kM, kN, kO])) | (refine Zd (.func 95) ?_; refine qC rfl rfl (h2) ?_; rintro v ρ' L' hle ⟨rfl, rfl, rfl⟩ <;> (try simp only [kM, kN, kO])) | (refine Zd (.func 96) ?_; refine qC rfl rfl (h3) ?_; rintro v ρ' L' hle ⟨rfl, rfl, rfl⟩ <;> (try simp only [kM, kN, kO])) | (refine Zd (.func 97) ?_; refine qC rfl rfl (h4) ?_; rintro v ρ' L' hle ⟨rfl, rfl, rfl⟩ <;> (try simp only [kM, kN, kO])) | (refine Zd (.func 98) ?_; refine qC rfl rfl (h5) ?_; rintro v ρ' L' hle ⟨rfl, rfl, rfl⟩ <;> (try simp only [kM, kN, kO])) | (refine iBu ?_; refine ZC (Ze rfl) rfl rfl ?_) | (refine Zj ?_; first | (refine Zi ?_; refine qQ ?_) | refine Zo ?_) | refine Zc ?_ | (refine Zh ?_; refine Zz ?_) | (refine Zg ?_; refine Zy ?_) | (refine YO ?_; refine ZI rfl rfl (fun hb => ?_) (fun hb => ?_) <;> (try simp only [decide_eq_true_eq, decide_eq_false_iff_not, Bool.not_eq_true, Bool.not_eq_false, beq_iff_eq, bne_iff_ne, ne_eq, decide_eq_decide, Bool.not_eq_eq_eq_not, Bool.not_true, Bool.not_false, beq_eq_false_iff_ne, bne_eq_false_iff_eq, Bool.and_eq_true, Bool.or_eq_true, Bool.and_eq_false_imp, Bool.or_eq_false_iff, bq2, bqt, bqf] at hb)) | (refine Ya ?_; refine ZO rfl (fun hb => ?_) (fun hb => ?_) <;> (try simp only [decide_eq_true_eq, decide_eq_false_iff_not, Bool.not_eq_true, Bool.not_eq_false, beq_iff_eq, bne_iff_ne, ne_eq, decide_eq_decide, Bool.not_eq_eq_eq_not, Bool.not_true, Bool.not_false, beq_eq_false_iff_ne, bne_eq_false_iff_eq, Bool.and_eq_true, Bool.or_eq_true, Bool.and_eq_false_imp, Bool.or_eq_false_iff, bq2, bqt, bqf] at hb)) | intro _))
      all_goals (refine qF (L' := []) ?_; refine ⟨Yi ?_, rfl, rfl⟩; rw [hk]; first | omega | (simp only [decide_eq_true_eq, Bool.false_eq_true, true_iff, false_iff, true_and, and_true, beq_iff_eq, Bool.and_true, Bool.and_false, Bool.true_and, Bool.false_and, decide_true, decide_false] <;> omega))
     ·skip
      have hk := hask True (by rw [if_neg k2, if_neg k3, if_neg k4, if_neg k5, if_neg k9]; simp)
      clear hask
      repeat' (first | (refine Zd (.func 95) ?_; refine qC rfl rfl (h1) ?_; rintro v ρ' L' hle ⟨rfl, rfl, rfl⟩ <;> (try simp only [kM, kN, kO])) | (refine Zd (.func 95) ?_; refine qC rfl rfl (h2) ?_; rintro v ρ' L' hle ⟨rfl, rfl, rfl⟩ <;> (try simp only [kM, kN, kO])) | (refine Zd (.func 96) ?_; refine qC rfl rfl (h3) ?_; rintro v ρ' L' hle ⟨rfl, rfl, rfl⟩ <;> (try simp only [kM, kN, kO])) | (refine Zd (.func 97) ?_; refine qC rfl rfl (h4) ?_; rintro v ρ' L' hle ⟨rfl, rfl, rfl⟩ <;> (try simp only [kM, kN, kO])) | (refine Zd (.func 98) ?_; refine qC rfl rfl (h5) ?_; rintro v ρ' L' hle ⟨rfl, rfl, rfl⟩ <;> (try simp only [kM, kN, kO])) | (refine iBu ?_; refine ZC (Ze rfl) rfl rfl ?_) | (refine Zj ?_; first | (refine Zi ?_; refine qQ ?_) | refine Zo ?_) | refine Zc ?_ | (refine Zh ?_; refine Zz ?_) | (refine Zg ?_; refine Zy ?_) | (refine YO ?_; refine ZI rfl rfl (fun hb => ?_) (fun hb => ?_) <;> (try simp only [decide_eq_true_eq, decide_eq_false_iff_not, Bool.not_eq_true, Bool.not_eq_false, beq_iff_eq, bne_iff_ne, ne_eq, decide_eq_decide, Bool.not_eq_eq_eq_not, Bool.not_true, Bool.not_false, beq_eq_false_iff_ne, bne_eq_false_iff_eq, Bool.and_eq_true, Bool.or_eq_true, Bool.and_eq_false_imp, Bool.or_eq_false_iff, bq2, bqt, bqf] at hb)) | (refine Ya ?_; refine ZO rfl (fun hb => ?_) (fun hb => ?_) <;> (try simp only [decide_eq_true_eq, decide_eq_false_iff_not, Bool.not_eq_true, Bool.not_eq_false, beq_iff_eq, bne_iff_ne, ne_eq, decide_eq_decide, Bool.not_eq_eq_eq_not, Bool.not_true, Bool.not_false, beq_eq_false_iff_ne, bne_eq_false_iff_eq, Bool.and_eq_true, Bool.or_eq_true, Bool.and_eq_false_imp, Bool.or_eq_false_iff, bq2, bqt, bqf] at hb)) | intro _)
      all_goals (refine qF (L' := []) ?_; refine ⟨Yi ?_, rfl, rfl⟩; rw [hk]; first | omega | (simp only [decide_eq_true_eq, Bool.false_eq_true, true_iff, false_iff, true_and, and_true, beq_iff_eq, Bool.and_true, Bool.and_false, Bool.true_and, Bool.false_and, decide_true, decide_false] <;> omega))
end Go.Proofs.E
namespace Go.Proofs.E
open Go
set_option linter.unusedVariables false
set_option linter.unusedSimpArgs false
set_option linter.unusedSectionVars false
set_option maxRecDepth 4000
set_option maxHeartbeats 1000000
attribute [local irreducible] Yl TL TC TE Spec Xn R1 Hp.le EnvLe TS TR YS Zq
theorem redoes12_spec (ρ : Hp) (v : RV) (r : Rc) (h : RcIn ρ v r) (page : Int) : Spec Tryz.prog 148 [.agg ⟨Xo v r⟩, .int .i64 page] ρ []
  (fun z ρ' L' => z = .tuple ⟨[.agg ⟨contO (r.ims.find? (fun x => decide (x.page = page)))⟩, .bool (r.ims.find? (fun x => decide (x.page = page))).isSome]⟩ ∧ ρ' = ρ ∧ L' = []) := by
 have hl := h.i.at'.len
 have hn := h.i.big
 have hA := h.i.at'
 generalize hq : r.ims.find? (fun x => decide (x.page = page)) = q
 refine Zf Tryz.func148 rfl rfl rfl fun u R => ?_
 simp only [ZG, List.cons_append, List.nil_append]
 repeat' (first | (refine iBu ?_; refine ZC (Ze rfl) rfl rfl ?_) | (refine Zj ?_; first | (refine Zi ?_; refine qQ ?_) | refine Zo ?_) | refine Zc ?_ | (refine Zh ?_; refine Zz ?_) | (refine Zg ?_; refine Zy ?_) | intro _)
 rename_i b2 b4
 refine ZL [(1, _), (4, _), (9, _), (10, _)] (fun (ζ : (Nat)) => [(11, .int .i64 ζ), (5, .bool false)]) (fun (ζ : (Nat)) => ρ) (fun (ζ : (Nat)) => [[(b4, .cells ⟨[.int .i64 0, .slice none 0 0, .slice none 0 0]⟩ 110 (0, 0))]]) (fun (ζ : (Nat)) => ζ ≤ v.i.n ∧ (r.ims.drop ζ).find? (fun x => decide (x.page = page)) = q) (fun (ζ : (Nat)) => v.i.n - ζ) (0) (⟨Nat.zero_le _, hq⟩) Zn Zn rfl tk ?_
 rintro k hI
 try simp only [List.cons_append, List.nil_append, List.append_assoc, List.append_eq] at hI ⊢
 try dsimp only at hI ⊢
 obtain ⟨hk, hok⟩ := hI
 by_cases hlt : k < v.i.n
 ·obtain ⟨b, off, C, T, fr, e1, hb, hfit, hc⟩ := hA.get (show k < r.ims.length by omega)
  rw [List.drop_eq_getElem_cons (show k < r.ims.length by omega), List.find?_cons] at hok
  generalize r.ims[k]'(by omega) = x at *
  rw [e1]
  by_cases hx : x.page = page
  ·rw [decide_eq_true hx] at hok
   subst hok
   repeat' (first | (refine iBu ?_; refine ZC (Ze rfl) rfl rfl ?_) | (refine Zj ?_; first | (refine Zi ?_; refine qQ ?_) | refine Zo ?_) | refine Zc ?_ | (refine Zh ?_; refine Zz ?_) | (refine Zg ?_; refine Zy ?_) | intro _)
   exact qE (L' := []) ⟨rfl, rfl, rfl⟩
  ·rw [decide_eq_false hx] at hok
   repeat' (first | (refine iBu ?_; refine ZC (Ze rfl) rfl rfl ?_) | (refine Zj ?_; first | (refine Zi ?_; refine qQ ?_) | refine Zo ?_) | refine Zc ?_ | (refine Zh ?_; refine Zz ?_) | (refine Zg ?_; refine Zy ?_) | intro _)
   rw [← e1]
   refine Zu (k + 1) (⟨hlt, hok⟩) Zn Zn rfl tk inferInstance (by first | omega | (dsimp only; omega))
 ·have hk2 : k = r.ims.length := by omega
  rw [hk2, List.drop_length, List.find?_nil] at hok
  subst hok
  repeat' (first | (refine iBu ?_; refine ZC (Ze rfl) rfl rfl ?_) | (refine Zj ?_; first | (refine Zi ?_; refine qQ ?_) | refine Zo ?_) | refine Zc ?_ | (refine Zh ?_; refine Zz ?_) | (refine Zg ?_; refine Zy ?_) | intro _)
  exact qE (L' := []) ⟨rfl, rfl, rfl⟩
def recN (page : Int) (l : List CkP) : Nat := match recP page l with | some p => p.since | none => 0
theorem rec22_spec (ρ : Hp) (s : SV) (l : List CkP) (h : AS ρ 2 YG s l) (page : Int) : Spec Tryz.prog 227 [.slice s.a s.n s.c, .int .i64 page] ρ [] (fun z ρ' L' => z = .int .u64 (recN page l) ∧ ρ' = ρ ∧ L' = []) := by
 have hl := h.at'.len
 have hn := h.big
 have hA := h.at'
 unfold recN recP
 generalize hq : l.find? (fun p => decide (p.page = page)) = q
 refine Zf Tryz.func227 rfl rfl rfl fun u R => ?_
 simp only [ZG, List.cons_append, List.nil_append]
 repeat' (first | (refine iBu ?_; refine ZC (Ze rfl) rfl rfl ?_) | (refine Zj ?_; first | (refine Zi ?_; refine qQ ?_) | refine Zo ?_) | refine Zc ?_ | (refine Zh ?_; refine Zz ?_) | (refine Zg ?_; refine Zy ?_) | intro _)
 refine ZL [(1, _), (7, _), (8, _)] (fun (ζ : (Nat)) => [(9, .int .i64 ζ), (4, .int .u64 0)]) (fun (ζ : (Nat)) => ρ) (fun (ζ : (Nat)) => []) (fun (ζ : (Nat)) => ζ ≤ s.n ∧ (l.drop ζ).find? (fun p => decide (p.page = page)) = q) (fun (ζ : (Nat)) => s.n - ζ) (0) (⟨Nat.zero_le _, hq⟩) Zn Zn rfl tk ?_
 rintro k hI
 try simp only [List.cons_append, List.nil_append, List.append_assoc, List.append_eq] at hI ⊢
 try dsimp only at hI ⊢
 obtain ⟨hk, hok⟩ := hI
 by_cases hlt : k < s.n
 ·obtain ⟨b, off, C, T, fr, e1, hb, hfit, hc⟩ := hA.get (show k < l.length by omega)
  rw [List.drop_eq_getElem_cons (show k < l.length by omega), List.find?_cons] at hok
  generalize l[k]'(by omega) = x at *
  rw [e1]
  by_cases hx : x.page = page
  ·rw [decide_eq_true hx] at hok
   subst hok
   repeat' (first | (refine iBu ?_; refine ZC (Ze rfl) rfl rfl ?_) | (refine Zj ?_; first | (refine Zi ?_; refine qQ ?_) | refine Zo ?_) | refine Zc ?_ | (refine Zh ?_; refine Zz ?_) | (refine Zg ?_; refine Zy ?_) | intro _)
   exact qE (L' := []) ⟨rfl, rfl, rfl⟩
  ·rw [decide_eq_false hx] at hok
   repeat' (first | (refine iBu ?_; refine ZC (Ze rfl) rfl rfl ?_) | (refine Zj ?_; first | (refine Zi ?_; refine qQ ?_) | refine Zo ?_) | refine Zc ?_ | (refine Zh ?_; refine Zz ?_) | (refine Zg ?_; refine Zy ?_) | intro _)
   rw [← e1]
   refine Zu (k + 1) (⟨hlt, hok⟩) Zn Zn rfl tk inferInstance (by first | omega | (dsimp only; omega))
 ·have hk2 : k = l.length := by omega
  rw [hk2, List.drop_length, List.find?_nil] at hok
  subst hok
  repeat' (first | (refine iBu ?_; refine ZC (Ze rfl) rfl rfl ?_) | (refine Zj ?_; first | (refine Zi ?_; refine qQ ?_) | refine Zo ?_) | refine Zc ?_ | (refine Zh ?_; refine Zz ?_) | (refine Zg ?_; refine Zy ?_) | intro _)
  exact qE (L' := []) ⟨rfl, rfl, rfl⟩
def pRight (p : CkP) : Bool := decide (0 ≤ p.page ∧ p.page < 64 ∧ 1 ≤ p.since ∧ p.since ≤ 1099511627776)
theorem tblOk_up {l : List CkP} : YF l = upB pRight CkP.page l l.length := by
 have key : ∀ (l : List CkP) (last : Int), tblB last l = true ↔ (∀ i (h : i < l.length), last < l[i].page ∧ l[i].page < 64 ∧ 1 ≤ l[i].since ∧ l[i].since ≤ 1099511627776) ∧ ∀ i (h : i < l.length), 0 < i → (l[i - 1]'(by omega)).page < l[i].page := by
  intro l
  induction l with
  | nil => intro last; simp [tblB]
  | cons p r ih =>
   intro last
   rw [tblB, Bool.and_eq_true, decide_eq_true_eq, ih p.page]
   constructor
   ·rintro ⟨h0, h1, h2⟩
    refine ⟨fun i hi => ?_, fun i hi h0i => ?_⟩
    ·cases i with
     | zero => exact h0
     | succ i => have := h1 i (by simpa using hi); simp only [List.getElem_cons_succ]; omega
    ·cases i with
     | zero => omega
     | succ i =>
      cases i with
      | zero => have := h1 0 (by simpa using hi); simpa using this.1
      | succ i => have := h2 (i + 1) (by simpa using hi) (by omega); simpa using this
   ·rintro ⟨h1, h2⟩
    have h0 := h1 0 (by simp)
    have hup : ∀ i (hi : i < r.length), p.page < r[i].page := by
     intro i hi
     induction i with
     | zero => have := h2 1 (by simp only [List.length_cons]; omega) (by omega); simpa using this
     | succ i ihi =>
      have e1 := ihi (by omega)
      have := h2 (i + 2) (by simp only [List.length_cons]; omega) (by omega)
      simp only [List.getElem_cons_succ, show i + 2 - 1 = i + 1 by omega] at this
      omega
    refine ⟨by simpa using h0, fun i hi => ?_, fun i hi h0i => ?_⟩
    ·have := h1 (i + 1) (by simp only [List.length_cons]; omega)
     simp only [List.getElem_cons_succ] at this
     exact ⟨hup i hi, this.2⟩
    ·have := h2 (i + 1) (by simp only [List.length_cons]; omega) (by omega)
     obtain ⟨j, rfl⟩ : ∃ j, i = j + 1 := ⟨i - 1, by omega⟩
     simpa using this
 have key2 : ∀ (k : Nat), k ≤ l.length → (Zv l.length (fun _ x => pRight x) (fun y x => decide (y.page < x.page)) l k = true ↔ (∀ i (h : i < l.length), i < k → pRight l[i] = true) ∧ ∀ i (h : i < l.length), i < k → 0 < i → (l[i - 1]'(by omega)).page < l[i].page) := by
  intro k
  induction k with
  | zero => intro _; rw [Zv]; simp
  | succ k ih =>
   intro hk
   rw [Yg (show k < l.length by omega), Bool.and_eq_true, ih (by omega), Bool.and_eq_true]
   constructor
   ·rintro ⟨⟨h1, h2⟩, h3, h4⟩
    refine ⟨fun i hi hik => ?_, fun i hi hik h0 => ?_⟩
    ·by_cases e : i = k
     ·subst e; exact h3
     ·exact h1 i hi (by omega)
    ·by_cases e : i = k
     ·subst e
      rw [decide_eq_false (by omega), Bool.false_or, decide_eq_true_eq] at h4
      exact h4
     ·exact h2 i hi (by omega) h0
   ·rintro ⟨h1, h2⟩
    refine ⟨⟨fun i hi hik => h1 i hi (by omega), fun i hi hik h0 => h2 i hi (by omega) h0⟩, h1 k (by omega) (by omega), ?_⟩
    by_cases e : k = 0
    ·rw [decide_eq_true e, Bool.true_or]
    ·rw [decide_eq_false e, Bool.false_or, decide_eq_true_eq]
     exact h2 k (by omega) (by omega) (by omega)
 rw [Bool.eq_iff_iff]
 unfold YF upB
 rw [key, key2 _ (Nat.le_refl _)]
 unfold pRight
 constructor
 ·rintro ⟨h1, h2⟩
  exact ⟨fun i hi _ => by have := h1 i hi; rw [decide_eq_true_eq]; omega, fun i hi _ h0 => h2 i hi h0⟩
 ·rintro ⟨h1, h2⟩
  refine ⟨fun i hi => ?_, fun i hi h0 => h2 i hi hi h0⟩
  have := h1 i hi hi
  rw [decide_eq_true_eq] at this
  omega
theorem right22_spec (ρ : Hp) (s : SV) (l : List CkP) (h : AS ρ 2 YG s l)   :
  Spec Tryz.prog 146 [.slice s.a s.n s.c] ρ [] (fun z ρ' L' => z = .bool (upB pRight CkP.page l l.length) ∧ ρ' = ρ ∧ L' = []) := by
 have hl := h.at'.len
 have hn := h.big
 have hA := h.at'
 generalize hR : pRight = rt
 unfold upB
 generalize hm : l.length = mo
 have hrt : ∀ x, rt x = pRight x := fun x => by rw [hR]
 refine Zf Tryz.func146 rfl rfl rfl fun u R => ?_
 simp only [ZG, List.cons_append, List.nil_append]
 repeat' (first | (refine iBu ?_; refine ZC (Ze rfl) rfl rfl ?_) | (refine Zj ?_; first | (refine Zi ?_; refine qQ ?_) | refine Zo ?_) | refine Zc ?_ | (refine Zh ?_; refine Zz ?_) | (refine Zg ?_; refine Zy ?_) | intro _)
 refine ZL [(0, _), (5, _), (6, _)] (fun (ζ : (Nat)) => [(7, .int .i64 ζ), (2, .bool false)]) (fun (ζ : (Nat)) => ρ) (fun (ζ : (Nat)) => []) (fun (ζ : (Nat)) => ζ ≤ s.n ∧ Zv mo (fun _ x => rt x) (fun y x => decide (CkP.page y < CkP.page x)) l ζ = true) (fun (ζ : (Nat)) => s.n - ζ) (0) (⟨Nat.zero_le _, by rw [Zv]; simp [hm]⟩) Zn Zn rfl tk ?_
 rintro k hI
 try simp only [List.cons_append, List.nil_append, List.append_assoc, List.append_eq] at hI ⊢
 try dsimp only at hI ⊢
 obtain ⟨hk, hok⟩ := hI
 by_cases hlt : k < s.n
 ·obtain ⟨b, off, C, T, fr, e1, hb0, hfit, hc⟩ := hA.get (show k < l.length by omega)
  have hs := Yg (most := mo) (right := fun _ x => rt x) (lt := fun y x => decide (CkP.page y < CkP.page x)) (show k < l.length by omega)
  have hfin0 := fun (e : Zv mo (fun _ x => rt x) (fun y x => decide (CkP.page y < CkP.page x)) l (k + 1) = false) => Yd e (show k + 1 ≤ mo by omega)
  rw [hok, Bool.true_and] at hs
  have hw := hrt l[k]
  skip
  rw [e1]
  by_cases hk0 : k = 0
  ·have hfin : (rt l[k] && (decide (k = 0) || decide (CkP.page (l[k - 1]'(by omega)) < CkP.page l[k]))) = false → Zv mo (fun _ x => rt x) (fun y x => decide (CkP.page y < CkP.page x)) l mo = false := fun e => hfin0 (by rw [hs]; exact e)
   rw [decide_eq_true hk0, Bool.true_or, Bool.and_true] at hs hfin
   generalize l[k] = x at *
   unfold pRight at hw
   generalize hQQ : Zv mo (fun _ x => rt x) (fun y x => decide (CkP.page y < CkP.page x)) l mo = q at *
   clear hfin0 hrt hR
   repeat' (first | (refine iBu ?_; refine ZC (Ze rfl) rfl rfl ?_) | (refine Zj ?_; first | (refine Zi ?_; refine qQ ?_) | refine Zo ?_) | refine Zc ?_ | (refine Zh ?_; refine Zz ?_) | (refine Zg ?_; refine Zy ?_) | intro _)
   refine ZJ (Zq _ _ _) Zx ?_
   all_goals (refine rFa 0 ?_; refine ZY ?_; refine rLd 1 ?_; refine rCm 2 ?_; refine ZW 3 ?_)
   all_goals (first | refine Zb 4 ?_ | refine Za 4 ?_ | refine ZV 4 ?_ | (refine Zp (t := 15) rfl (fun hb => ?_) (fun hb => ?_) <;> (try simp only [kk] at hb) <;> first | refine Zb 4 ?_ | refine Za 4 ?_ | refine ZV 4 ?_))
   all_goals ((first | refine Zb 5 ?_ | refine Za 5 ?_ | refine ZX 5 ?_); (first | refine Zb 6 ?_ | refine Za 6 ?_ | refine wCm 6 ?_); refine rPk 7 ?_; refine ZW 8 ?_)
   all_goals (first | refine Zb 9 ?_ | refine Za 9 ?_ | refine ZV 9 ?_ | (refine Zp (t := 20) rfl (fun hb => ?_) (fun hb => ?_) <;> (try simp only [kk] at hb) <;> first | refine Zb 9 ?_ | refine Za 9 ?_ | refine ZV 9 ?_))
   all_goals ((first | refine Zb 10 ?_ | refine Za 10 ?_ | refine ZX 10 ?_); (first | refine Zb 11 ?_ | refine Za 11 ?_ | refine wCm 11 ?_); refine rPk 12 ?_; refine ZW 13 ?_)
   all_goals (first | refine Zb 14 ?_ | refine Za 14 ?_ | refine ZV 14 ?_ | (refine Zp (t := 25) rfl (fun hb => ?_) (fun hb => ?_) <;> (try simp only [kk] at hb) <;> first | refine Zb 14 ?_ | refine Za 14 ?_ | refine ZV 14 ?_))
   all_goals ((first | refine Zb 15 ?_ | refine Za 15 ?_ | refine ZX 15 ?_); (first | refine Zb 16 ?_ | refine Za 16 ?_ | refine wCm 16 ?_); refine rPk 17 ?_; refine ZW 18 ?_)
   all_goals (first | refine Zb 19 ?_ | refine Za 19 ?_ | refine ZD 19 ?_ | (refine Zp (t := 30) rfl (fun hb => ?_) (fun hb => ?_) <;> (try simp only [kk] at hb) <;> first | refine Zb 19 ?_ | refine Za 19 ?_ | refine ZD 19 ?_))
   all_goals ((first | refine Zb 20 ?_ | refine Za 20 ?_ | refine wCm 20 ?_); (first | refine Zb 21 ?_ | refine Za 21 ?_ | refine ZD 21 ?_))
   all_goals (first | refine Zb 22 ?_ | refine Za 22 ?_ | refine ZD 22 ?_ | (refine Zp (t := 33) rfl (fun hb => ?_) (fun hb => ?_) <;> (try simp only [kk] at hb) <;> first | refine Zb 22 ?_ | refine Za 22 ?_ | refine ZD 22 ?_))
   all_goals ((first | refine Zb 23 ?_ | refine Za 23 ?_ | refine ZD 23 ?_); (first | refine Zb 24 ?_ | refine Za 24 ?_ | refine wSb 24 ?_); (first | refine Zb 25 ?_ | refine Za 25 ?_ | refine wIa 25 ?_); (first | refine Zb 26 ?_ | refine Za 26 ?_ | refine ZV 26 ?_); (first | refine Zb 27 ?_ | refine Za 27 ?_ | refine ZX 27 ?_); (first | refine Zb 28 ?_ | refine Za 28 ?_ | refine ZV 28 ?_); (first | refine Zb 29 ?_ | refine Za 29 ?_ | refine ZX 29 ?_); (first | refine Zb 30 ?_ | refine Za 30 ?_ | refine wCm 30 ?_); (first | refine Zb 31 ?_ | refine Za 31 ?_ | refine wPk 31 ?_); refine rPk 32 ?_; refine ZT ?_)
   all_goals (repeat' (first | (refine iBu ?_; refine ZC (Ze rfl) rfl rfl ?_) | (refine Zj ?_; first | (refine Zi ?_; refine qQ ?_) | refine Zo ?_) | refine Zc ?_ | (refine Zh ?_; refine Zz ?_) | (refine Zg ?_; refine Zy ?_) | (refine YO ?_; refine ZI rfl rfl (fun hb => ?_) (fun hb => ?_) <;> (try simp only [decide_eq_true_eq, decide_eq_false_iff_not, Bool.not_eq_true, Bool.not_eq_false, beq_iff_eq, bne_iff_ne, ne_eq, decide_eq_decide, Bool.not_eq_eq_eq_not, Bool.not_true, Bool.not_false, beq_eq_false_iff_ne, bne_eq_false_iff_eq, Bool.and_eq_true, Bool.or_eq_true, Bool.and_eq_false_imp, Bool.or_eq_false_iff, bq2, bqt, bqf] at hb)) | (refine Ya ?_; refine ZO rfl (fun hb => ?_) (fun hb => ?_) <;> (try simp only [decide_eq_true_eq, decide_eq_false_iff_not, Bool.not_eq_true, Bool.not_eq_false, beq_iff_eq, bne_iff_ne, ne_eq, decide_eq_decide, Bool.not_eq_eq_eq_not, Bool.not_true, Bool.not_false, beq_eq_false_iff_ne, bne_eq_false_iff_eq, Bool.and_eq_true, Bool.or_eq_true, Bool.and_eq_false_imp, Bool.or_eq_false_iff, bq2, bqt, bqf] at hb)) | intro _))
   all_goals (try (rw [hfin (by rw [hw]; (first | (simp [*]; done) | (simp [*]; omega) | (simp_all; done) | (simp_all; omega)))]; refine qF (L' := []) ?_; exact ⟨by first | rfl | rw [Bool.and_false], rfl, rfl⟩))
   all_goals rw [← e1]
   all_goals refine Zu (k + 1) (⟨hlt, by rw [hs, hw]; (first | (simp [*]; done) | (simp [*]; omega) | (simp_all; done) | (simp_all; omega))⟩) Zn Zn rfl tk inferInstance (by first | omega | (dsimp only; omega))
  ·have hd : decide (k = 0) = false := decide_eq_false hk0
   obtain ⟨b2, off2, C2, T2, fr2, f1, hb2, hfit2, hc2⟩ := hA.get (show k - 1 < l.length by omega)
   rw [e1] at f1
   cases f1
   rw [hb0] at hb2
   cases hb2
   have ek : ((k : Int) - 1).toNat = k - 1 := by omega
   have hfin : (rt l[k] && (decide (k = 0) || decide (CkP.page (l[k - 1]'(by omega)) < CkP.page l[k]))) = false → Zv mo (fun _ x => rt x) (fun y x => decide (CkP.page y < CkP.page x)) l mo = false := fun e => hfin0 (by rw [hs]; exact e)
   rw [hd, Bool.false_or] at hs hfin
   have hcy : C[off + ((k : Int) - 1).toNat * 2]? = some (.int .i64 (CkP.page (l[k - 1]'(by omega)))) := by
    have := congrArg (fun l => l[0]?) hc2
    rw [ek]
    simp only [List.getElem?_take, List.getElem?_drop] at this
    simpa using this
   clear hc2 hfit2
   generalize l[k] = x at *
   generalize l[k - 1]'(by omega) = y at *
   unfold pRight at hw
   generalize hQQ : Zv mo (fun _ x => rt x) (fun y x => decide (CkP.page y < CkP.page x)) l mo = q at *
   clear hfin0 hrt hR
   repeat' (first | (refine iBu ?_; refine ZC (Ze rfl) rfl rfl ?_) | (refine Zj ?_; first | (refine Zi ?_; refine qQ ?_) | refine Zo ?_) | refine Zc ?_ | (refine Zh ?_; refine Zz ?_) | (refine Zg ?_; refine Zy ?_) | intro _)
   refine ZJ (Zq _ _ _) Zx ?_
   all_goals (refine rFa 0 ?_; refine ZY ?_; refine rLd 1 ?_; refine rCm 2 ?_; refine ZW 3 ?_)
   all_goals (first | refine Zb 4 ?_ | refine Za 4 ?_ | refine ZV 4 ?_ | (refine Zp (t := 15) rfl (fun hb => ?_) (fun hb => ?_) <;> (try simp only [kk] at hb) <;> first | refine Zb 4 ?_ | refine Za 4 ?_ | refine ZV 4 ?_))
   all_goals ((first | refine Zb 5 ?_ | refine Za 5 ?_ | refine ZX 5 ?_); (first | refine Zb 6 ?_ | refine Za 6 ?_ | refine wCm 6 ?_); refine rPk 7 ?_; refine ZW 8 ?_)
   all_goals (first | refine Zb 9 ?_ | refine Za 9 ?_ | refine ZV 9 ?_ | (refine Zp (t := 20) rfl (fun hb => ?_) (fun hb => ?_) <;> (try simp only [kk] at hb) <;> first | refine Zb 9 ?_ | refine Za 9 ?_ | refine ZV 9 ?_))
   all_goals ((first | refine Zb 10 ?_ | refine Za 10 ?_ | refine ZX 10 ?_); (first | refine Zb 11 ?_ | refine Za 11 ?_ | refine wCm 11 ?_); refine rPk 12 ?_; refine ZW 13 ?_)
   all_goals (first | refine Zb 14 ?_ | refine Za 14 ?_ | refine ZV 14 ?_ | (refine Zp (t := 25) rfl (fun hb => ?_) (fun hb => ?_) <;> (try simp only [kk] at hb) <;> first | refine Zb 14 ?_ | refine Za 14 ?_ | refine ZV 14 ?_))
   all_goals ((first | refine Zb 15 ?_ | refine Za 15 ?_ | refine ZX 15 ?_); (first | refine Zb 16 ?_ | refine Za 16 ?_ | refine wCm 16 ?_); refine rPk 17 ?_; refine ZW 18 ?_)
   all_goals (first | refine Zb 19 ?_ | refine Za 19 ?_ | refine ZD 19 ?_ | (refine Zp (t := 30) rfl (fun hb => ?_) (fun hb => ?_) <;> (try simp only [kk] at hb) <;> first | refine Zb 19 ?_ | refine Za 19 ?_ | refine ZD 19 ?_))
   all_goals ((first | refine Zb 20 ?_ | refine Za 20 ?_ | refine wCm 20 ?_); (first | refine Zb 21 ?_ | refine Za 21 ?_ | refine ZD 21 ?_))
   all_goals (first | refine Zb 22 ?_ | refine Za 22 ?_ | refine ZD 22 ?_ | (refine Zp (t := 33) rfl (fun hb => ?_) (fun hb => ?_) <;> (try simp only [kk] at hb) <;> first | refine Zb 22 ?_ | refine Za 22 ?_ | refine ZD 22 ?_))
   all_goals ((first | refine Zb 23 ?_ | refine Za 23 ?_ | refine ZD 23 ?_); (first | refine Zb 24 ?_ | refine Za 24 ?_ | refine wSb 24 ?_); (first | refine Zb 25 ?_ | refine Za 25 ?_ | refine wIa 25 ?_); (first | refine Zb 26 ?_ | refine Za 26 ?_ | refine ZV 26 ?_); (first | refine Zb 27 ?_ | refine Za 27 ?_ | refine ZX 27 ?_); (first | refine Zb 28 ?_ | refine Za 28 ?_ | refine ZV 28 ?_); (first | refine Zb 29 ?_ | refine Za 29 ?_ | refine ZX 29 ?_); (first | refine Zb 30 ?_ | refine Za 30 ?_ | refine wCm 30 ?_); (first | refine Zb 31 ?_ | refine Za 31 ?_ | refine wPk 31 ?_); refine rPk 32 ?_; refine ZT ?_)
   all_goals (repeat' (first | (refine iBu ?_; refine ZC (Ze rfl) rfl rfl ?_) | (refine Zj ?_; first | (refine Zi ?_; refine qQ ?_) | refine Zo ?_) | refine Zc ?_ | (refine Zh ?_; refine Zz ?_) | (refine Zg ?_; refine Zy ?_) | (refine YO ?_; refine ZI rfl rfl (fun hb => ?_) (fun hb => ?_) <;> (try simp only [decide_eq_true_eq, decide_eq_false_iff_not, Bool.not_eq_true, Bool.not_eq_false, beq_iff_eq, bne_iff_ne, ne_eq, decide_eq_decide, Bool.not_eq_eq_eq_not, Bool.not_true, Bool.not_false, beq_eq_false_iff_ne, bne_eq_false_iff_eq, Bool.and_eq_true, Bool.or_eq_true, Bool.and_eq_false_imp, Bool.or_eq_false_iff, bq2, bqt, bqf] at hb)) | (refine Ya ?_; refine ZO rfl (fun hb => ?_) (fun hb => ?_) <;> (try simp only [decide_eq_true_eq, decide_eq_false_iff_not, Bool.not_eq_true, Bool.not_eq_false, beq_iff_eq, bne_iff_ne, ne_eq, decide_eq_decide, Bool.not_eq_eq_eq_not, Bool.not_true, Bool.not_false, beq_eq_false_iff_ne, bne_eq_false_iff_eq, Bool.and_eq_true, Bool.or_eq_true, Bool.and_eq_false_imp, Bool.or_eq_false_iff, bq2, bqt, bqf] at hb)) | intro _))
   all_goals (try (rw [hfin (by rw [hw]; (first | (simp [*]; done) | (simp [*]; omega) | (simp_all; done) | (simp_all; omega)))]; refine qF (L' := []) ?_; exact ⟨by first | rfl | rw [Bool.and_false], rfl, rfl⟩))
   all_goals rw [← e1]
   all_goals refine Zu (k + 1) (⟨hlt, by rw [hs, hw]; (first | (simp [*]; done) | (simp [*]; omega) | (simp_all; done) | (simp_all; omega))⟩) Zn Zn rfl tk inferInstance (by first | omega | (dsimp only; omega))
 ·have hk2 : k = mo := by omega
  rw [hk2] at hok
  rw [hok]
  repeat' (first | (refine iBu ?_; refine ZC (Ze rfl) rfl rfl ?_) | (refine Zj ?_; first | (refine Zi ?_; refine qQ ?_) | refine Zo ?_) | refine Zc ?_ | (refine Zh ?_; refine Zz ?_) | (refine Zg ?_; refine Zy ?_) | (refine YO ?_; refine ZI rfl rfl (fun hb => ?_) (fun hb => ?_) <;> (try simp only [decide_eq_true_eq, decide_eq_false_iff_not, Bool.not_eq_true, Bool.not_eq_false, beq_iff_eq, bne_iff_ne, ne_eq, decide_eq_decide, Bool.not_eq_eq_eq_not, Bool.not_true, Bool.not_false, beq_eq_false_iff_ne, bne_eq_false_iff_eq, Bool.and_eq_true, Bool.or_eq_true, Bool.and_eq_false_imp, Bool.or_eq_false_iff, bq2, bqt, bqf] at hb)) | (refine Ya ?_; refine ZO rfl (fun hb => ?_) (fun hb => ?_) <;> (try simp only [decide_eq_true_eq, decide_eq_false_iff_not, Bool.not_eq_true, Bool.not_eq_false, beq_iff_eq, bne_iff_ne, ne_eq, decide_eq_decide, Bool.not_eq_eq_eq_not, Bool.not_true, Bool.not_false, beq_eq_false_iff_ne, bne_eq_false_iff_eq, Bool.and_eq_true, Bool.or_eq_true, Bool.and_eq_false_imp, Bool.or_eq_false_iff, bq2, bqt, bqf] at hb)) | intro _)
  all_goals (refine qF (L' := []) ?_; exact ⟨rfl, rfl, rfl⟩)
theorem recP_since {l : List CkP} (ht : YF l = true) {page : Int} {p : CkP} (h : recP page l = some p) : 1 ≤ p.since := by
 obtain ⟨i, hi, rfl⟩ := List.mem_iff_getElem.1 (List.mem_of_find?_eq_some h)
 exact ((tblB_lt ht).1 i hi).2.2.1
theorem needs22_spec (ρ : Hp) (s : SV) (l : List CkP) (h : AS ρ 2 YG s l) (v : RV) (r : Rc) (hr : RcIn ρ v r) (page : Int) :
  Spec Tryz.prog 147 [.slice s.a s.n s.c, .agg ⟨Xo v r⟩, .int .i64 page] ρ [] (fun z ρ' L' => z = .bool (YA l r page) ∧ ρ' = ρ ∧ L' = []) := by
 have hd := right22_spec ρ s l h
 rw [← tblOk_up] at hd
 have hrr := right12_spec ρ v r hr
 have hre := redoes12_spec ρ v r hr page
 have hrc := rec22_spec ρ s l h page
 refine Zf Tryz.func147 rfl rfl rfl fun u R => ?_
 simp only [ZG, List.cons_append, List.nil_append]
 cases ht : YF l
 ·rw [ht] at hd
  have hz : YA l r page = false := by unfold YA; rw [ht]; simp
  rw [hz]
  repeat' (first | (refine Zd (.func 146) ?_; refine qC rfl rfl (hd) ?_; rintro v ρ' L' hle ⟨rfl, rfl, rfl⟩ <;> (try simp only [kM, kN, kO])) | (refine iBu ?_; refine ZC (Ze rfl) rfl rfl ?_) | (refine Zj ?_; first | (refine Zi ?_; refine qQ ?_) | refine Zo ?_) | refine Zc ?_ | (refine Zh ?_; refine Zz ?_) | (refine Zg ?_; refine Zy ?_) | intro _)
  exact qE ⟨rfl, rfl, rfl⟩
 ·rw [ht] at hd
  cases hk : Yo r
  ·rw [hk] at hrr
   have hz : YA l r page = false := by unfold YA redoI; rw [hk]; simp
   rw [hz]
   repeat' (first | (refine Zd (.func 146) ?_; refine qC rfl rfl (hd) ?_; rintro v ρ' L' hle ⟨rfl, rfl, rfl⟩ <;> (try simp only [kM, kN, kO])) | (refine Zd (.func 26) ?_; refine qC rfl rfl (hrr) ?_; rintro v ρ' L' hle ⟨rfl, rfl, rfl⟩ <;> (try simp only [kM, kN, kO])) | (refine iBu ?_; refine ZC (Ze rfl) rfl rfl ?_) | (refine Zj ?_; first | (refine Zi ?_; refine qQ ?_) | refine Zo ?_) | refine Zc ?_ | (refine Zh ?_; refine Zz ?_) | (refine Zg ?_; refine Zy ?_) | intro _)
   exact qE ⟨rfl, rfl, rfl⟩
  ·rw [hk] at hrr
   have hpost : YA l r page = ((r.ims.find? (fun x => decide (x.page = page))).isSome && decide (0 < recN page l ∧ recN page l ≤ r.lsn)) := by
    unfold YA redoI recN
    rw [hk, ht, if_pos rfl, Bool.true_and]
    congr 1
    cases hp : recP page l with
    | none => simp
    | some p =>
     have := recP_since ht hp
     simp only
     exact decide_eq_decide.2 (by omega)
   rw [hpost]
   have hone : (contO (r.ims.find? (fun x => decide (x.page = page)))).all (·.oneCell') = true := by unfold contO; split <;> rfl
   have hlen3 : (contO (r.ims.find? (fun x => decide (x.page = page)))).length = 3 := by unfold contO; split <;> rfl
   generalize contO (r.ims.find? (fun x => decide (x.page = page))) = co at *
   generalize (r.ims.find? (fun x => decide (x.page = page))).isSome = b1 at *
   obtain ⟨c0, c1, c2, rfl⟩ : ∃ c0 c1 c2, co = [c0, c1, c2] := by
    match co, hlen3 with
    | [c0, c1, c2], _ => exact ⟨c0, c1, c2, rfl⟩
   generalize recN page l = n at *
   cases b1
   ·rw [Bool.false_and]
    repeat' (first | (refine Zd (.func 146) ?_; refine qC rfl rfl (hd) ?_; rintro v ρ' L' hle ⟨rfl, rfl, rfl⟩ <;> (try simp only [kM, kN, kO])) | (refine Zd (.func 26) ?_; refine qC rfl rfl (hrr) ?_; rintro v ρ' L' hle ⟨rfl, rfl, rfl⟩ <;> (try simp only [kM, kN, kO])) | (refine Zd (.func 148) ?_; refine qC rfl rfl (hre) ?_; rintro v ρ' L' hle ⟨rfl, rfl, rfl⟩ <;> (try simp only [kM, kN, kO])) | (refine Zd (.func 227) ?_; refine qC rfl rfl (hrc) ?_; rintro v ρ' L' hle ⟨rfl, rfl, rfl⟩ <;> (try simp only [kM, kN, kO])) | (refine iBu ?_; refine ZC (Ze rfl) rfl rfl ?_) | (refine Zj ?_; first | (refine Zi ?_; refine qQ ?_) | refine Zo ?_) | refine Zc ?_ | (refine Zh ?_; refine Zz ?_) | (refine Zg ?_; refine Zy ?_) | intro _)
    exact qE ⟨rfl, rfl, rfl⟩
   ·rw [Bool.true_and]
    repeat' (first | (refine Zd (.func 146) ?_; refine qC rfl rfl (hd) ?_; rintro v ρ' L' hle ⟨rfl, rfl, rfl⟩ <;> (try simp only [kM, kN, kO])) | (refine Zd (.func 26) ?_; refine qC rfl rfl (hrr) ?_; rintro v ρ' L' hle ⟨rfl, rfl, rfl⟩ <;> (try simp only [kM, kN, kO])) | (refine Zd (.func 148) ?_; refine qC rfl rfl (hre) ?_; rintro v ρ' L' hle ⟨rfl, rfl, rfl⟩ <;> (try simp only [kM, kN, kO])) | (refine Zd (.func 227) ?_; refine qC rfl rfl (hrc) ?_; rintro v ρ' L' hle ⟨rfl, rfl, rfl⟩ <;> (try simp only [kM, kN, kO])) | (refine iBu ?_; refine ZC (Ze rfl) rfl rfl ?_) | (refine Zj ?_; first | (refine Zi ?_; refine qQ ?_) | refine Zo ?_) | refine Zc ?_ | (refine Zh ?_; refine Zz ?_) | (refine Zg ?_; refine Zy ?_) | (refine YO ?_; refine ZI rfl rfl (fun hb => ?_) (fun hb => ?_) <;> (try simp only [decide_eq_true_eq, decide_eq_false_iff_not, Bool.not_eq_true, Bool.not_eq_false, beq_iff_eq, bne_iff_ne, ne_eq, decide_eq_decide, Bool.not_eq_eq_eq_not, Bool.not_true, Bool.not_false, beq_eq_false_iff_ne, bne_eq_false_iff_eq, Bool.and_eq_true, Bool.or_eq_true, Bool.and_eq_false_imp, Bool.or_eq_false_iff, bq2, bqt, bqf] at hb)) | (refine Ya ?_; refine ZO rfl (fun hb => ?_) (fun hb => ?_) <;> (try simp only [decide_eq_true_eq, decide_eq_false_iff_not, Bool.not_eq_true, Bool.not_eq_false, beq_iff_eq, bne_iff_ne, ne_eq, decide_eq_decide, Bool.not_eq_eq_eq_not, Bool.not_true, Bool.not_false, beq_eq_false_iff_ne, bne_eq_false_iff_eq, Bool.and_eq_true, Bool.or_eq_true, Bool.and_eq_false_imp, Bool.or_eq_false_iff, bq2, bqt, bqf] at hb)) | intro _)
    all_goals (refine qF (L' := []) ?_; exact ⟨Yi (by (try simp [*]); first | done | omega | (intros; omega) | (constructor <;> intros <;> (try simp_all) <;> omega)), rfl, rfl⟩)
abbrev rcV (x : RV × Rc) : List Value := Xo x.1 x.2
instance (priority := 1200) eqCkP {x y : CkP} : EqC Tryz.prog 8 125 (.agg ⟨YG x⟩) (.agg ⟨YG y⟩) (decide (x = y)) := by
 have h : EqC Tryz.prog 8 125 (.agg ⟨[.int .i64 x.page, .int .u64 x.since]⟩) (.agg ⟨[.int .i64 y.page, .int .u64 y.since]⟩) _ := inferInstance
 refine ⟨fun d w hd => ?_⟩
 rw [h.out d w hd]
 congr 1
 obtain ⟨t, i⟩ := x
 obtain ⟨t', i'⟩ := y
 simp only [CkP.mk.injEq, Bool.and_true, Bool.decide_and]
 have e : ((i : Int) == (i' : Int)) = decide (i = i') := by
  by_cases h : i = i'
  ·subst h; simp
  ·rw [decide_eq_false h]; simp only [beq_eq_false_iff_ne, ne_eq]; omega
 rw [e]
 by_cases h1 : t = t' <;> by_cases h2 : i = i' <;> simp [h1, h2]
end Go.Proofs.E
namespace Go.Proofs.E
open Go Go.RowKit
set_option linter.unusedVariables false
set_option linter.unusedSimpArgs false
set_option linter.unusedSectionVars false
set_option maxRecDepth 8000
structure RosW (ρ : Hp) (v : SV) (r : Ros) : Prop where
 at' : AW ρ 7 txV v r.txns
 tx : ∀ x ∈ r.txns, Tx.In ρ x
theorem RosW.mono {ρ ρ' v r} (h : RosW ρ v r) (hle : ρ.le ρ') : RosW ρ' v r := ⟨h.at'.mono hle, fun x hx => (h.tx x hx).mono hle⟩
section
variable {H : Type} {enc : TypeId × Value → H} {w : World}
end
end Go.Proofs.E
namespace Go.Proofs.E
open Go
set_option linter.unusedVariables false
set_option linter.unusedSimpArgs false
set_option linter.unusedSectionVars false
set_option maxRecDepth 4000
set_option maxHeartbeats 1000000
attribute [local irreducible] Yl TL TC TE Spec Xn R1 Hp.le EnvLe TS TR YS Zq
instance (priority := 1200) eqCkT {x y : CkT} : EqC Tryz.prog 8 81 (.agg ⟨ckTV x⟩) (.agg ⟨ckTV y⟩) (decide (x = y)) := by
 have h : EqC Tryz.prog 8 81 (.agg ⟨[.int .i64 x.txn, .int .u64 x.first, .int .u64 x.last, .int .u64 x.undo, .int .i64 x.state]⟩) (.agg ⟨[.int .i64 y.txn, .int .u64 y.first, .int .u64 y.last, .int .u64 y.undo, .int .i64 y.state]⟩) _ := inferInstance
 refine ⟨fun d w hd => ?_⟩
 rw [h.out d w hd]
 congr 1
 obtain ⟨t, a, b, c, s⟩ := x
 obtain ⟨t', a', b', c', s'⟩ := y
 simp only [CkT.mk.injEq, Bool.and_true, Bool.decide_and]
 have e : ∀ i i' : Nat, ((i : Int) == (i' : Int)) = decide (i = i') := fun i i' => by
  by_cases h : i = i'
  ·subst h; simp
  ·rw [decide_eq_false h]; simp only [beq_eq_false_iff_ne, ne_eq]; omega
 rw [e, e, e]
 have e2 : ∀ i i' : Int, (i == i') = decide (i = i') := fun i i' => by
  by_cases h : i = i' <;> simp [h]
 rw [e2, e2]
instance (priority := 1200) eqStp {x y : Stp} : EqC Tryz.prog 8 103 (.agg ⟨stpV x⟩) (.agg ⟨stpV y⟩) (decide (x = y)) := by
 have h : EqC Tryz.prog 8 103 (.agg ⟨[.int .i64 x.kind, .int .i64 x.row.t, .int .u16 x.row.id, .int .i64 x.row.val, strV x.row.note, .int .i64 x.by']⟩) (.agg ⟨[.int .i64 y.kind, .int .i64 y.row.t, .int .u16 y.row.id, .int .i64 y.row.val, strV y.row.note, .int .i64 y.by']⟩) _ := inferInstance
 refine ⟨fun d w hd => ?_⟩
 rw [h.out d w hd]
 congr 1
 obtain ⟨k, ⟨t, i, v, n⟩, b⟩ := x
 obtain ⟨k', ⟨t', i', v', n'⟩, b'⟩ := y
 simp only [Stp.mk.injEq, Row.mk.injEq, Bool.and_true, Bool.decide_and]
 have e : ∀ i i' : Nat, ((i : Int) == (i' : Int)) = decide (i = i') := fun i i' => by
  by_cases h : i = i'
  ·subst h; simp
  ·rw [decide_eq_false h]; simp only [beq_eq_false_iff_ne, ne_eq]; omega
 rw [e]
 have e2 : ∀ i i' : Int, (i == i') = decide (i = i') := fun i i' => by
  by_cases h : i = i' <;> simp [h]
 rw [e2, e2, e2, e2]
 simp only [Bool.and_assoc]
def imB (two : Bool) (x : Im) : List UInt8 := tB x.page :: ((if two then contB x.b else []) ++ contB x.a)
def stpB (s : Stp) : List UInt8 := tB s.kind :: (if s.kind = 2 ∨ s.kind = 3 then rowB s.row else tB s.row.t :: (be 2 s.row.id ++ (if s.kind = 1 then be 8 (vN s.by') else [])))
def ckTB (t : CkT) : List UInt8 := be 4 t.txn.toNat ++ (be 8 t.first ++ (be 8 t.last ++ (be 8 t.undo ++ [tB t.state])))
def ckPB (p : CkP) : List UInt8 := tB p.page :: be 8 p.since
def listB {α : Type} (f : α → List UInt8) (l : List α) : List UInt8 := UInt8.ofNat l.length :: l.flatMap f
def recHB (r : Rc) : List UInt8 := tB r.kind :: (be 8 r.lsn ++ (be 4 r.txn.toNat ++ be 8 r.prev))
def imsB (r : Rc) : List UInt8 := listB (imB (decide (r.kind = 2))) r.ims
def recTB (r : Rc) : List UInt8 :=
 if r.kind = 2 then imsB r else if r.kind = 3 then be 8 r.next else if r.kind = 4 then be 8 r.next ++ listB stpB r.steps else if r.kind = 5 then be 8 r.next ++ imsB r
 else if r.kind = 9 then be 4 r.nextTxn.toNat ++ (listB ckTB r.txns ++ listB ckPB r.dirty) else []
def recB (r : Rc) : List UInt8 := recHB r ++ recTB r
structure LayOk (r : Rc) : Prop where
 kind : 0 ≤ r.kind ∧ r.kind < 256
 lsn : r.lsn < 18446744073709551616
 prev : r.prev < 18446744073709551616
 next : r.next < 18446744073709551616
 txn : 0 ≤ r.txn ∧ r.txn < 4294967296
 nextTxn : 0 ≤ r.nextTxn ∧ r.nextTxn < 4294967296
 il : r.ims.length ≤ 16
 im : ∀ x ∈ r.ims, (0 ≤ x.page ∧ x.page < 64) ∧ Yq x.a = true ∧ Yq x.b = true
 sl : r.steps.length ≤ 2
 st : ∀ s ∈ r.steps, Yn s = true
 tl : r.txns.length ≤ 8
 tx : ∀ t ∈ r.txns, (0 ≤ t.txn ∧ t.txn < 4294967296) ∧ t.first < 18446744073709551616 ∧ t.last < 18446744073709551616 ∧ t.undo < 18446744073709551616 ∧ 0 ≤ t.state ∧ t.state < 256
 dl : r.dirty.length ≤ 64
 di : ∀ p ∈ r.dirty, (0 ≤ p.page ∧ p.page < 64) ∧ p.since < 18446744073709551616
theorem imB_len {two : Bool} {x : Im} (ha : Yq x.a = true) (hb : Yq x.b = true) : (imB two x).length ≤ 165 := by
 have h1 := contB_len ha
 have h2 := contB_len hb
 cases two <;> simp [imB] <;> omega
abbrev ztC : Cont := ⟨0, [], []⟩
abbrev nilCV : CV := ⟨none, 0, 0, none, 0, 0⟩
abbrev Im.plain (x : Im) : Im := ⟨x.page, nilCV, x.b, nilCV, x.a⟩
abbrev Rc.plain (r : Rc) : Rc := { r with ims := r.ims.map Im.plain }
theorem up_all {α : Type} {right : α → Bool} {by' : α → Int} {l : List α} (h : upB right by' l l.length = true) : ∀ i (hi : i < l.length), right l[i] = true ∧ (i = 0 ∨ by' (l[i - 1]'(by omega)) < by' l[i]) := by
 intro i hi
 obtain ⟨h1, h2⟩ := (Xl h (Nat.le_refl _)).2 i hi hi
 refine ⟨h1, ?_⟩
 rcases h2 with h2 | h2
 ·exact .inl h2
 ·exact .inr (of_decide_eq_true h2)
theorem up_mem {α : Type} {right : α → Bool} {by' : α → Int} {l : List α} (h : upB right by' l l.length = true) : ∀ x ∈ l, right x = true := by
 intro x hx
 obtain ⟨i, hi, rfl⟩ := List.mem_iff_getElem.1 hx
 exact (up_all h i hi).1
theorem ckP_len {lsn : Nat} {l : List CkP} (h : upB (ckPOk lsn) CkP.page l l.length = true) : l.length ≤ 64 := by
 have hp : ∀ i (hi : i < l.length), 0 ≤ l[i].page ∧ l[i].page < 64 := fun i hi => by
  have := (up_all h i hi).1
  unfold ckPOk pageOk at this
  rw [Bool.and_eq_true, decide_eq_true_eq] at this
  exact this.1
 have hi : ∀ i (hi : i < l.length), (i : Int) ≤ l[i].page := by
  intro i
  induction i with
  | zero => intro hi; exact (hp 0 hi).1
  | succ i ih =>
   intro hi
   have h1 := ih (by omega)
   have h2 := (up_all h (i + 1) hi).2
   simp only [Nat.add_sub_cancel] at h2
   omega
 rcases Nat.lt_or_ge 64 l.length with hl | hl
 ·have := hi 64 hl
  have := hp 64 hl
  omega
 ·exact hl
structure RecOk (r : Rc) : Prop where
 kind : 1 ≤ r.kind ∧ r.kind ≤ 9
 lsn : 1 ≤ r.lsn ∧ r.lsn ≤ 1099511627776 ∧ r.prev < r.lsn
 txn : 0 ≤ r.txn ∧ r.txn ≤ 1073741824
 next : r.next ≤ r.lsn
 n0 : r.next = 0 ∨ r.kind = 3 ∨ r.kind = 4 ∨ r.kind = 5
 i0 : r.ims = [] ∨ r.kind = 2 ∨ r.kind = 5
 s0 : r.steps = [] ∨ r.kind = 4
 c0 : (r.txns = [] ∧ r.dirty = [] ∧ r.nextTxn = 0) ∨ r.kind = 9
 il : r.ims.length ≤ 16
 im : ∀ x ∈ r.ims, (0 ≤ x.page ∧ x.page < 64) ∧ Yq x.a = true ∧ Yq x.b = true
 i5 : r.kind = 5 → ∀ x ∈ r.ims, x.b = ztC
 sl : r.steps.length ≤ 2
 st : ∀ s ∈ r.steps, Yn s = true
 nt : 0 ≤ r.nextTxn ∧ r.nextTxn ≤ 1073741824
 tl : r.txns.length ≤ 8
 tx : ∀ t ∈ r.txns, ckTOk r.lsn r.nextTxn t = true
 dl : r.dirty.length ≤ 64
 di : ∀ p ∈ r.dirty, ckPOk r.lsn p = true
theorem ims_facts {b : Bool} {l : List Im} (h : imsOk b l = true) : l.length ≤ 16 ∧ (∀ x ∈ l, (0 ≤ x.page ∧ x.page < 64) ∧ Yq x.a = true ∧ Yq x.b = true) ∧ (b = false → ∀ x ∈ l, x.b = ztC) := by
 unfold imsOk at h
 rw [Bool.and_eq_true, decide_eq_true_eq] at h
 obtain ⟨h1, h2⟩ := h
 have h3 := up_mem h2
 have h4 : ∀ x ∈ l, (0 ≤ x.page ∧ x.page < 64) ∧ Yq x.a = true ∧ Yq x.b = true ∧ (b = true ∨ x.b.kind = 0) := fun x hx => by
  have := h3 x hx
  unfold imOk pageOk at this
  rw [Bool.and_eq_true, Bool.and_eq_true, Bool.and_eq_true, Bool.or_eq_true, decide_eq_true_eq, decide_eq_true_eq] at this
  exact this
 refine ⟨h1, fun x hx => ⟨(h4 x hx).1, (h4 x hx).2.1, (h4 x hx).2.2.1⟩, fun hb x hx => ?_⟩
 obtain ⟨_, _, g3, g4⟩ := h4 x hx
 have g5 : x.b.kind = 0 := by
  rcases g4 with g4 | g4
  ·rw [hb] at g4; cases g4
  ·exact g4
 rcases contB_form g3 with e | e | e
 ·exact e.2.1
 ·omega
 ·omega
theorem recOk_facts {r : Rc} (h : Yo r = true) : RecOk r := by
 unfold Yo headOk bareOk at h
 rw [Bool.and_eq_true, Bool.and_eq_true, Bool.and_eq_true, decide_eq_true_eq, decide_eq_true_eq, decide_eq_true_eq] at h
 obtain ⟨hk, ⟨h1, h2, h3, h4, h5, h6, h7⟩, ha, b1, b2, b3, b4⟩ := h
 unfold askOk at ha
 obtain ⟨k, lsn, txn, prev, next, ims, steps, nt, txns, dirty⟩ := r
 dsimp only at *
 by_cases k2 : k = 2
 ·rw [if_pos k2, Bool.and_eq_true] at ha
  obtain ⟨f1, f2, f3⟩ := ims_facts ha.2
  obtain rfl : steps = [] := by rcases b3 with b3 | b3 <;> first | exact b3 | omega
  obtain ⟨rfl, rfl, rfl⟩ : txns = [] ∧ dirty = [] ∧ nt = 0 := by rcases b4 with b4 | b4 <;> first | exact b4 | omega
  exact ⟨hk, ⟨h1, h2, h3⟩, ⟨h4, h5⟩, by dsimp only; omega, b1, b2, b3, b4, f1, f2, fun e => by dsimp only at e; omega, by simp, by simp, by simp, by simp, by simp, by simp, by simp⟩
 ·rw [if_neg k2] at ha
  by_cases k3 : k = 3
  ·rw [if_pos k3, decide_eq_true_eq] at ha
   obtain rfl : ims = [] := by rcases b2 with b2 | b2 <;> first | exact b2 | omega
   obtain rfl : steps = [] := by rcases b3 with b3 | b3 <;> first | exact b3 | omega
   obtain ⟨rfl, rfl, rfl⟩ : txns = [] ∧ dirty = [] ∧ nt = 0 := by rcases b4 with b4 | b4 <;> first | exact b4 | omega
   exact ⟨hk, ⟨h1, h2, h3⟩, ⟨h4, h5⟩, by dsimp only; omega, b1, b2, b3, b4, by simp, by simp, by simp, by simp, by simp, by simp, by simp, by simp, by simp, by simp⟩
  ·rw [if_neg k3] at ha
   by_cases k4 : k = 4
   ·rw [if_pos k4, Bool.and_eq_true, Bool.and_eq_true, decide_eq_true_eq, decide_eq_true_eq] at ha
    obtain rfl : ims = [] := by rcases b2 with b2 | b2 <;> first | exact b2 | omega
    obtain ⟨rfl, rfl, rfl⟩ : txns = [] ∧ dirty = [] ∧ nt = 0 := by rcases b4 with b4 | b4 <;> first | exact b4 | omega
    exact ⟨hk, ⟨h1, h2, h3⟩, ⟨h4, h5⟩, by dsimp only; omega, b1, b2, b3, b4, by simp, by simp, by simp, ha.2.1.2, List.all_eq_true.1 ha.2.2, by simp, by simp, by simp, by simp, by simp⟩
   ·rw [if_neg k4] at ha
    by_cases k5 : k = 5
    ·rw [if_pos k5, Bool.and_eq_true, decide_eq_true_eq] at ha
     obtain ⟨f1, f2, f3⟩ := ims_facts ha.2
     obtain rfl : steps = [] := by rcases b3 with b3 | b3 <;> first | exact b3 | omega
     obtain ⟨rfl, rfl, rfl⟩ : txns = [] ∧ dirty = [] ∧ nt = 0 := by rcases b4 with b4 | b4 <;> first | exact b4 | omega
     exact ⟨hk, ⟨h1, h2, h3⟩, ⟨h4, h5⟩, by dsimp only; omega, b1, b2, b3, b4, f1, f2, fun _ => f3 rfl, by simp, by simp, by simp, by simp, by simp, by simp, by simp⟩
    ·rw [if_neg k5] at ha
     obtain rfl : ims = [] := by rcases b2 with b2 | b2 <;> first | exact b2 | omega
     obtain rfl : steps = [] := by rcases b3 with b3 | b3 <;> first | exact b3 | omega
     by_cases k9 : k = 9
     ·rw [if_pos k9, Bool.and_eq_true, Bool.and_eq_true, decide_eq_true_eq] at ha
      obtain ⟨⟨a1, a2, a3⟩, a4, a5⟩ := ha
      exact ⟨hk, ⟨h1, h2, h3⟩, ⟨h4, h5⟩, by dsimp only; omega, b1, b2, b3, b4, by simp, by simp, by simp, by simp, by simp, ⟨by dsimp only; omega, a2⟩, a3, up_mem a4, ckP_len a5, up_mem a5⟩
     ·obtain ⟨rfl, rfl, rfl⟩ : txns = [] ∧ dirty = [] ∧ nt = 0 := by rcases b4 with b4 | b4 <;> first | exact b4 | omega
      exact ⟨hk, ⟨h1, h2, h3⟩, ⟨h4, h5⟩, by dsimp only; omega, b1, b2, b3, b4, by simp, by simp, by simp, by simp, by simp, by simp, by simp, by simp, by simp, by simp⟩
theorem ContFit.id' {c : Cont} (h : ContFit c) : IdFit c := ⟨h.row, fun k hk => (h.kid k hk).id⟩
theorem up_map {α β : Type} (g : α → β) (right : β → Bool) (by' : β → Int) (l : List α) : ∀ k, upB right by' (l.map g) k = upB (fun x => right (g x)) (fun x => by' (g x)) l k := by
 intro k
 unfold upB
 rw [List.length_map]
 generalize l.length = m
 induction k with
 | zero => simp [Zv]
 | succ k ih =>
  rw [Zv, Zv, ih]
  simp only [List.getElem?_map]
  cases l[k]? with
  | none => rfl
  | some x => cases l[k - 1]? <;> rfl
theorem recOk_plain (r : Rc) : Yo r.plain = Yo r := by
 unfold Yo headOk askOk bareOk imsOk
 dsimp only [Rc.plain]
 simp only [List.length_map, up_map, List.map_eq_nil_iff]
 rfl
theorem stpB_len {s : Stp} (h : Yn s = true) : (stpB s).length ≤ 21 := by
 unfold stpB
 by_cases h23 : s.kind = 2 ∨ s.kind = 3
 ·rw [if_pos h23]
  have hr : YJ s.row = true := by
   unfold Yn at h
   rw [if_neg (by omega), if_neg (by omega), if_pos h23, Bool.and_eq_true] at h
   exact h.2
  have := rowB_le hr
  simp; omega
 ·rw [if_neg h23]
  split <;> simp [YQ]
theorem ckTB_len (t : CkT) : (ckTB t).length = 29 := by simp [ckTB, YQ]
theorem ckPB_len (p : CkP) : (ckPB p).length = 9 := by simp [ckPB, YQ]
def sectsB (n : Nat) : Nat := max 1 ((n + 51) / 52)
theorem listB_le {α : Type} (f : α → List UInt8) (m : Nat) (l : List α) (h : ∀ x ∈ l, (f x).length ≤ m) : (listB f l).length ≤ 1 + l.length * m := by
 have := flatMap_le f m l h
 unfold listB
 rw [List.length_cons]; omega
theorem recB_le {r : Rc} (h : LayOk r) : (recB r).length ≤ 4000 := by
 have h1 : (recHB r).length = 21 := by simp [recHB, YQ]
 have h2 : (imsB r).length ≤ 1 + r.ims.length * 165 := listB_le _ 165 r.ims (fun x hx => imB_len (h.im x hx).2.1 (h.im x hx).2.2)
 have h3 : (listB stpB r.steps).length ≤ 1 + r.steps.length * 21 := listB_le _ 21 r.steps (fun x hx => stpB_len (h.st x hx))
 have h4 : (listB ckTB r.txns).length ≤ 1 + r.txns.length * 29 := listB_le _ 29 r.txns (fun x hx => Nat.le_of_eq (ckTB_len x))
 have h5 : (listB ckPB r.dirty).length ≤ 1 + r.dirty.length * 9 := listB_le _ 9 r.dirty (fun x hx => Nat.le_of_eq (ckPB_len x))
 have a1 := h.il
 have a2 := h.sl
 have a3 := h.tl
 have a4 := h.dl
 have h6 : (recTB r).length ≤ 3900 := by
  unfold recTB
  split
  ·omega
  ·split
   ·rw [YQ]; omega
   ·split
    ·rw [List.length_append, YQ]; omega
    ·split
     ·rw [List.length_append, YQ]; omega
     ·split
      ·rw [List.length_append, List.length_append, YQ]; omega
      ·simp
 unfold recB
 rw [List.length_append]; omega
def undI (x : Im) : Im := ⟨0, nilCV, ztC, x.bv, x.b⟩
def undR (l : List Im) : Rc := ⟨5, 0, 0, 0, 0, l.map undI, [], 0, [], []⟩
def stepN (s : Stp) : Nat := if s.kind = 3 ∨ s.kind = 4 then 12 else 1
def pagesN (l : List Stp) : Nat := (l.map stepN).sum
def reserveN (r : Rc) : Nat :=
 if Yo r then (if r.kind = 1 then 2 else if r.kind = 2 then sectsB (recB (undR r.ims)).length else if r.kind = 4 then sectsB (30 + min (pagesN r.steps) 16 * 83) else 0) else 0
theorem contOk_z : Yq ztC = true := by decide
theorem undR_lay {l : List Im} (h1 : l.length ≤ 16) (h2 : ∀ x ∈ l, Yq x.b = true) : LayOk (undR l) := by
 refine ⟨by simp [undR], by simp [undR], by simp [undR], by simp [undR], by simp [undR], by simp [undR], by simp [undR]; omega, ?_, by simp [undR], by simp [undR], by simp [undR], by simp [undR], by simp [undR], by simp [undR]⟩
 intro x hx
 obtain ⟨y, hy, rfl⟩ := List.mem_map.1 hx
 exact ⟨by simp [undI], h2 y hy, contOk_z⟩
theorem OwnS.pos {v n xs sp sz} (h : OwnS v n xs sp sz) (h0 : 0 < n) : ∃ b cap, v = .slice (some ⟨b, 0, none⟩) n cap := by
 rcases h.out with ⟨_, h2, _⟩ | ⟨b, cap, h1, _⟩
 ·omega
 ·exact ⟨b, cap, h1⟩
def shortR (r : Row) : Row := ⟨r.t, r.id, r.val, r.note.take 9⟩
def fewC (c : Cont) : Cont := ⟨c.kind, (c.rows.take 5).map shortR, c.kids.take 5⟩
theorem take_min9 (l : List UInt8) : l.take (min (l.length : Int) 9).toNat = l.take 9 := by
 by_cases h : l.length ≤ 9
 ·rw [show (min (l.length : Int) 9).toNat = l.length by omega, List.take_of_length_le (Nat.le_refl _), List.take_of_length_le h]
 ·rw [show (min (l.length : Int) 9).toNat = 9 by omega]
structure CInW (ρ : Hp) (v : CV) (rows : List Row) (kids : List Kid) : Prop where
 r : AIn ρ 4 Yx v.ra v.rn rows
 k : AIn ρ 3 Xp v.ka v.kn kids
 rb : v.rn ≤ 9223372036854775807
 kb : v.kn ≤ 9223372036854775807
 rc : v.rn ≤ v.rc
 kc : v.kn ≤ v.kc
theorem CInW.mono {ρ ρ' v rows kids} (h : CInW ρ v rows kids) (hle : ρ.le ρ') : CInW ρ' v rows kids := ⟨h.r.mono hle, h.k.mono hle, h.rb, h.kb, h.rc, h.kc⟩
theorem flatK_one (l : List Kid) : ((l.map Xp).flatten).all (·.oneCell') = true := by
 induction l with
 | nil => rfl
 | cons k r ih => simp only [List.map_cons, List.flatten_cons, List.all_append, ih, Bool.and_true]; rfl
theorem flatR_one (l : List Row) : ((l.map Yx).flatten).all (·.oneCell') = true := by
 induction l with
 | nil => rfl
 | cons k r ih => simp only [List.map_cons, List.flatten_cons, List.all_append, ih, Bool.and_true]; rfl
theorem take_five {α : Type} (l : List α) (n m : Nat) (h : l.length = n) (hm : m = min n 5) : l.take m = l.take 5 := by
 by_cases h5 : n ≤ 5
 ·rw [show m = n by omega, List.take_of_length_le (by omega), List.take_of_length_le (by omega)]
 ·rw [show m = 5 by omega]
theorem row_get {sp : List Value} : ∀ (acc : List Row) (k : Nat) (r : Row), acc[k]? = some r → ((acc.map Yx).flatten ++ sp)[0 + k * 4 + 3]? = some (strV r.note)
 | [], k, r, h => by cases h
 | a :: t, 0, r, h => by cases h; rfl
 | a :: t, k + 1, r, h => by
  have ih := row_get (sp := sp) t k r (by simpa using h)
  rw [show 0 + (k + 1) * 4 + 3 = (0 + k * 4 + 3) + 4 by omega]
  simpa only [List.map_cons, List.flatten_cons, Yx, List.cons_append, List.nil_append, List.getElem?_cons_succ] using ih
theorem row_set {sp : List Value} (s : List UInt8) : ∀ (acc : List Row) (k : Nat) (r : Row), acc[k]? = some r → ((acc.map Yx).flatten ++ sp).set (0 + k * 4 + 3) (strV s) = ((acc.set k ⟨r.t, r.id, r.val, s⟩).map Yx).flatten ++ sp
 | [], k, r, h => by cases h
 | a :: t, 0, r, h => by cases h; rfl
 | a :: t, k + 1, r, h => by
  have ih := row_set (sp := sp) s t k r (by simpa using h)
  rw [show 0 + (k + 1) * 4 + 3 = (0 + k * 4 + 3) + 4 by omega]
  simp only [List.map_cons, List.flatten_cons, Yx, List.cons_append, List.nil_append, List.set_cons_succ]
  rw [ih]
theorem row_setL {sp : List Value} (s : List UInt8) {acc : List Row} {k : Nat} {r : Row} (h : acc[k]? = some r) : SetL ((acc.map Yx).flatten ++ sp) (0 + k * 4 + 3) (strV s) (((acc.set k ⟨r.t, r.id, r.val, s⟩).map Yx).flatten ++ sp) := by
 have h1 := row_get (sp := sp) acc k r h
 have hlt : 0 + k * 4 + 3 < ((acc.map Yx).flatten ++ sp).length := by
  rcases Nat.lt_or_ge (0 + k * 4 + 3) ((acc.map Yx).flatten ++ sp).length with hh | hh
  ·exact hh
  ·rw [List.getElem?_eq_none hh] at h1; cases h1
 refine ⟨hlt, ?_⟩
 rw [← row_set s acc k r h, List.set_eq_take_append_cons_drop, if_pos hlt]
 simp [stc]
theorem set_step (RS : List Row) (k : Nat) (h : k < RS.length) : ((RS.take k).map shortR ++ RS.drop k).set k (shortR RS[k]) = (RS.take (k + 1)).map shortR ++ RS.drop (k + 1) := by
 rw [List.set_append_right _ _ (by simp; omega), List.drop_eq_getElem_cons h, List.take_succ_eq_append_getElem h]
 rw [show k - ((RS.take k).map shortR).length = 0 by simp; omega]
 simp only [List.set_cons_zero, List.map_append, List.map_cons, List.map_nil, List.append_assoc, List.cons_append, List.nil_append]
theorem get_step (RS : List Row) (k : Nat) (h : k < RS.length) : ((RS.take k).map shortR ++ RS.drop k)[k]? = some RS[k] := by
 rw [List.getElem?_append_right (by simp; omega), List.drop_eq_getElem_cons h]
 simp [show k - min k RS.length = 0 by omega]
def fewIm (x : Im) : Im := ⟨x.page, nilCV, fewC x.b, nilCV, fewC x.a⟩
theorem CW.few {ρ v c} (h : CW ρ v c) : CInW ρ v c.rows c.kids := ⟨h.r, h.k, by have := h.rb; omega, by have := h.kb; omega, h.rc, h.kc⟩
theorem fewC_fit {ρ v c} (h : CW ρ v c) {ρ' v'} (h' : CIn ρ' v' (fewC c).rows (fewC c).kids) : CI ρ' v' (fewC c) := ⟨h', fun r hr => by
  obtain ⟨y, hy, rfl⟩ := List.mem_map.1 hr
  have := h.row y (List.mem_of_mem_take hy)
  exact ⟨this.id, this.val⟩, fun k hk => h.kid k (List.mem_of_mem_take hk)⟩
theorem flat_one {α : Type} (g : α → List Value) (hg : ∀ x, (g x).all (·.oneCell') = true) (l : List α) : ((l.map g).flatten).all (·.oneCell') = true := by
 induction l with
 | nil => rfl
 | cons k r ih => simp only [List.map_cons, List.flatten_cons, List.all_append, ih, Bool.and_true]; exact hg k
theorem take_some {α : Type} (c : Nat) (l : List α) (n m : Nat) (h : l.length = n) (hm : m = min n c) : l.take m = l.take c := by
 by_cases h5 : n ≤ c
 ·rw [show m = n by omega, List.take_of_length_le (by omega), List.take_of_length_le (by omega)]
 ·rw [show m = c by omega]
theorem up_lt {α : Type} {right : α → Bool} {by' : α → Int} {l : List α} (h : upB right by' l l.length = true) : ∀ k (hk : k < l.length) j (hj : j < k), by' (l[j]'(by omega)) < by' l[k] := by
 intro k
 induction k with
 | zero => intro _ j hj; omega
 | succ k ih =>
  intro hk j hj
  have h2 := (up_all h (k + 1) hk).2
  simp only [Nat.add_sub_cancel] at h2
  have h3 : by' (l[k]'(by omega)) < by' l[k + 1] := by
   rcases h2 with h2 | h2
   ·omega
   ·exact h2
  by_cases e : j = k
  ·subst e; exact h3
  ·have := ih (by omega) j (by omega); omega
theorem recOk_up2 {r : Rc} (h : Yo r = true) (k : r.kind = 2) : upB (imOk true) Im.page r.ims r.ims.length = true := by
 unfold Yo askOk at h
 rw [if_pos k, Bool.and_eq_true, Bool.and_eq_true, Bool.and_eq_true, Bool.and_eq_true] at h
 have := h.2.2.1.2
 unfold imsOk at this
 rw [Bool.and_eq_true] at this
 exact this.2
structure TxP where
 num : Int
 state : Int
 first : Nat
 last : Nat
 undo : Nat
 stack : List Lf
 marks : List Nat
deriving DecidableEq
abbrev Tx.p (x : Tx) : TxP := ⟨x.num, x.state, x.first, x.last, x.undo, x.stack, x.marks⟩
structure RosP where
 next : Int
 txns : List TxP
deriving DecidableEq
abbrev Ros.p (r : Ros) : RosP := ⟨r.next, r.txns.map Tx.p⟩
instance (priority := 1200) eqLf {x y : Lf} : EqC Tryz.prog 8 74 (.agg ⟨lfV x⟩) (.agg ⟨lfV y⟩) (decide (x = y)) := by
 have h : EqC Tryz.prog 8 74 (.agg ⟨[.int .u64 x.lsn, .int .i64 x.cost]⟩) (.agg ⟨[.int .u64 y.lsn, .int .i64 y.cost]⟩) _ := inferInstance
 refine ⟨fun d w hd => ?_⟩
 rw [h.out d w hd]
 congr 1
 obtain ⟨i, t⟩ := x
 obtain ⟨i', t'⟩ := y
 simp only [Lf.mk.injEq, Bool.and_true, Bool.decide_and]
 have e : ((i : Int) == (i' : Int)) = decide (i = i') := by
  by_cases h : i = i'
  ·subst h; simp
  ·rw [decide_eq_false h]; simp only [beq_eq_false_iff_ne, ne_eq]; omega
 rw [e]
 by_cases h1 : t = t' <;> by_cases h2 : i = i' <;> simp [h1, h2]
def leftOf (r : Rc) : Lf := ⟨r.lsn, (reserveN r : Nat)⟩
def backT (t : TxP) (to : Nat) : TxP := { t with undo := to, stack := t.stack.filter (fun s => decide (s.lsn ≤ to)), marks := t.marks.filter (fun m => decide (m ≤ to)) }
def pushT (t : TxP) (r : Rc) : TxP := { t with undo := r.lsn, stack := t.stack ++ [leftOf r] }
def withinT (t : TxP) (r : Rc) : Bool := decide (t.first ≤ r.next ∧ r.next ≤ t.undo)
def liveT (t : TxP) : Bool := decide (t.state = 1)
def mayT (t : TxP) (r : Rc) : Bool :=
 if r.kind = 3 ∨ r.kind = 4 then liveT t && withinT t r
 else if r.kind = 5 then decide (t.state ≠ 3) && (withinT t r && decide (r.next < t.undo))
 else liveT t
def nextT (t : TxP) (r : Rc) : TxP :=
 if r.kind = 2 then pushT { t with last := r.lsn } r
 else if r.kind = 3 ∨ r.kind = 5 then backT { t with last := r.lsn } r.next
 else if r.kind = 4 then pushT (backT { t with last := r.lsn } r.next) r
 else if r.kind = 6 then { t with last := r.lsn, state := 3, marks := [], stack := [] }
 else { t with last := r.lsn, state := 2, marks := [] }
def dropT (p : RosP) (num : Int) : RosP := { p with txns := p.txns.filter (fun x => decide (x.num ≠ num)) }
structure TxG (t : TxP) : Prop where
 s1 : 1 ≤ t.state
 s3 : t.state ≤ 3
 f1 : 1 ≤ t.first
 fu : t.first ≤ t.undo
 ul : t.undo ≤ t.last
 lm : t.last ≤ 1099511627776
 st : ∀ s ∈ t.stack, t.first < s.lsn ∧ s.lsn ≤ t.undo ∧ 1 ≤ s.cost ∧ s.cost ≤ 400
 so : t.stack.Pairwise (fun a b => a.lsn < b.lsn)
 ml : t.marks.length ≤ 8
 ms : t.marks ≠ [] → t.state = 1
 mb : ∀ m ∈ t.marks, t.first ≤ m ∧ m ≤ t.undo
 mo : t.marks.Pairwise (· ≤ ·)
structure RosG (p : RosP) : Prop where
 n1 : 1 ≤ p.next
 n2 : p.next ≤ 1073741824
 len : p.txns.length ≤ 8
 tx : ∀ t ∈ p.txns, 0 < t.num ∧ t.num < p.next ∧ TxG t
 up : p.txns.Pairwise (fun a b => a.num < b.num)
theorem reserve_ok {r : Rc} (h : Yo r = true) (k : r.kind = 2 ∨ r.kind = 4) : 1 ≤ reserveN r ∧ reserveN r ≤ 400 := by
 have hF := recOk_facts h
 unfold reserveN
 rw [h, if_pos rfl]
 rcases k with k | k
 ·rw [k, if_neg (by decide), if_pos rfl]
  have := recB_le (undR_lay hF.il (fun x hx => (hF.im x hx).2.2))
  unfold sectsB; omega
 ·rw [k, if_neg (by decide), if_neg (by decide), if_pos rfl]
  unfold sectsB; omega
theorem TxG.late {t : TxP} (h : TxG t) {n : Nat} (h1 : t.last ≤ n) (h2 : n ≤ 1099511627776) : TxG { t with last := n } :=
 ⟨h.s1, h.s3, h.f1, h.fu, Nat.le_trans h.ul h1, h2, h.st, h.so, h.ml, h.ms, h.mb, h.mo⟩
theorem TxG.back {t : TxP} (h : TxG t) {to : Nat} (h1 : t.first ≤ to) (h2 : to ≤ t.undo) : TxG (backT t to) := by
 refine ⟨h.s1, h.s3, h.f1, h1, Nat.le_trans h2 h.ul, h.lm, fun s hs => ?_, h.so.filter _, ?_, fun hne => h.ms ?_, fun m hm => ?_, h.mo.filter _⟩
 ·obtain ⟨g1, g2⟩ := List.mem_filter.1 hs
  have := h.st s g1
  simp only [decide_eq_true_eq] at g2
  show t.first < s.lsn ∧ s.lsn ≤ to ∧ _
  omega
 ·have := List.length_filter_le (fun m => decide (m ≤ to)) t.marks
  have := h.ml
  show (t.marks.filter _).length ≤ 8
  omega
 ·intro e
  apply hne
  show t.marks.filter _ = []
  rw [e]; rfl
 ·obtain ⟨g1, g2⟩ := List.mem_filter.1 hm
  have := h.mb m g1
  simp only [decide_eq_true_eq] at g2
  show t.first ≤ m ∧ m ≤ to
  omega
theorem TxG.push {t : TxP} (h : TxG t) {r : Rc} (h1 : t.undo < r.lsn) (h2 : t.last = r.lsn) (h3 : 1 ≤ reserveN r ∧ reserveN r ≤ 400) : TxG (pushT t r) := by
 have := h.fu
 refine ⟨h.s1, h.s3, h.f1, ?_, Nat.le_of_eq h2.symm, h.lm, fun s hs => ?_, ?_, h.ml, h.ms, fun m hm => ?_, h.mo⟩
 ·show t.first ≤ r.lsn
  omega
 ·show t.first < s.lsn ∧ s.lsn ≤ r.lsn ∧ _
  rcases List.mem_append.1 hs with hs | hs
  ·have := h.st s hs; omega
  ·rw [List.mem_singleton] at hs
   subst hs
   unfold leftOf; dsimp only; omega
 ·show (t.stack ++ [leftOf r]).Pairwise _
  refine List.pairwise_append.2 ⟨h.so, by simp, fun a ha b hb => ?_⟩
  rw [List.mem_singleton] at hb
  subst hb
  have := h.st a ha
  unfold leftOf; dsimp only; omega
 ·have := h.mb m hm
  show t.first ≤ m ∧ m ≤ r.lsn
  omega
theorem TxG.next {t : TxP} {r : Rc} (h : TxG t) (hr : Yo r = true) (hp : r.prev = t.last) (hm : mayT t r = true) (k : 2 ≤ r.kind ∧ r.kind ≤ 7) : TxG (nextT t r) := by
 have hF := recOk_facts hr
 have hlm := hF.lsn
 have hpl : t.last < r.lsn ∧ r.lsn ≤ 1099511627776 := by
  unfold Yo at hr
  simp only [Bool.and_eq_true, decide_eq_true_eq] at hr
  have hh := hr.2.1
  unfold headOk at hh
  rw [decide_eq_true_eq] at hh
  omega
 have hl := h.late (n := r.lsn) (by omega) hpl.2
 have hul := h.ul
 unfold mayT at hm
 unfold nextT
 by_cases k2 : r.kind = 2
 ·rw [if_pos k2]
  exact hl.push (by dsimp only; omega) rfl (reserve_ok hr (.inl k2))
 ·rw [if_neg k2]
  by_cases k35 : r.kind = 3 ∨ r.kind = 5
  ·rw [if_pos k35]
   have hw : withinT t r = true := by
    rcases k35 with e | e
    ·rw [if_pos (.inl e), Bool.and_eq_true] at hm; exact hm.2
    ·rw [if_neg (by omega), if_pos e, Bool.and_eq_true, Bool.and_eq_true] at hm; exact hm.2.1
   unfold withinT at hw
   rw [decide_eq_true_eq] at hw
   exact hl.back hw.1 hw.2
  ·rw [if_neg k35]
   by_cases k4 : r.kind = 4
   ·rw [if_pos k4]
    rw [if_pos (.inr k4), Bool.and_eq_true] at hm
    have hw := hm.2
    unfold withinT at hw
    rw [decide_eq_true_eq] at hw
    exact (hl.back hw.1 hw.2).push (by show r.next < r.lsn; omega) rfl (reserve_ok hr (.inr k4))
   ·rw [if_neg k4]
    split
    ·exact ⟨by dsimp only; omega, by dsimp only; omega, hl.f1, hl.fu, hl.ul, hl.lm, by simp, by simp, by simp, by simp, by simp, by simp⟩
    ·exact ⟨by dsimp only; omega, by dsimp only; omega, hl.f1, hl.fu, hl.ul, hl.lm, hl.st, hl.so, by simp, by simp, by simp, by simp⟩
theorem RosG.set {p : RosP} (h : RosG p) {i : Nat} (hi : i < p.txns.length) {t : TxP} (ht : t.num = (p.txns[i]).num) (hg : TxG t) : RosG { p with txns := p.txns.set i t } := by
 refine ⟨h.n1, h.n2, by simpa using h.len, fun x hx => ?_, ?_⟩
 ·rcases List.mem_or_eq_of_mem_set hx with hx | rfl
  ·exact h.tx x hx
  ·have := h.tx _ (List.getElem_mem hi)
   exact ⟨by omega, by show x.num < p.next; omega, hg⟩
 ·rw [List.pairwise_iff_getElem]
  intro a b ha hb hab
  simp only [List.length_set] at ha hb
  have := List.pairwise_iff_getElem.1 h.up a b ha hb hab
  dsimp only
  rw [List.getElem_set, List.getElem_set]
  split <;> split <;> first | omega | (subst_vars; omega)
theorem RosG.drop {p : RosP} (h : RosG p) (n : Int) : RosG (dropT p n) :=
 ⟨h.n1, h.n2, Nat.le_trans (List.length_filter_le _ _) h.len, fun x hx => h.tx x (List.mem_filter.1 hx).1, h.up.filter _⟩
structure OT where
 x : Tx
 ss : List Value
 ms : List Value
abbrev stkC (x : Tx) (ss : List Value) : List (Nat × Obj) := YT (.slice x.sv.a x.sv.n x.sv.c) ((x.stack.map lfV).flatten) ss 74
abbrev mrkC (x : Tx) (ms : List Value) : List (Nat × Obj) := YT (.slice x.mv.a x.mv.n x.mv.c) (x.marks.map u64c) ms 24
structure OwnX (x : Tx) (ss ms : List Value) : Prop where
 s : OwnS (.slice x.sv.a x.sv.n x.sv.c) x.stack.length ((x.stack.map lfV).flatten) ss 2
 m : OwnS (.slice x.mv.a x.mv.n x.mv.c) x.marks.length (x.marks.map u64c) ms 1
def OT.Own (o : OT) : Prop := OwnX o.x o.ss o.ms
def stC (os : List OT) : List (Nat × Obj) := os.flatMap (fun o => stkC o.x o.ss ++ mrkC o.x o.ms)
def txF (os : List OT) : List Value := ((os.map OT.x).map txV).flatten
structure OwnR (vv : Value) (sp : List Value) (os : List OT) (txns : List TxP) : Prop where
 own : OwnS vv os.length (txF os) sp 7
 each : ∀ o ∈ os, o.Own
 says : os.map (fun o => o.x.p) = txns
theorem OwnR.len {vv sp os txns} (h : OwnR vv sp os txns) : os.length = txns.length := by rw [← h.says, List.length_map]
theorem OwnX.tin {ρ : Hp} {x : Tx} {ss ms : List Value} (h : OwnX x ss ms) (h1 : ∀ p ∈ stkC x ss, ρ p.1 = some p.2) (h2 : ∀ p ∈ mrkC x ms, ρ p.1 = some p.2) (hs : x.stack.length ≤ 200000000000000) (hm : x.marks.length ≤ 200000000000000) : Tx.In ρ x := by
 obtain ⟨a, c, e, hc, hA⟩ := h.s.aIn rfl (fun _ _ => rfl) h1
 obtain ⟨a2, c2, e2, hc2, hA2⟩ := h.m.sIn h2
 have f1 := Value.slice.inj e
 have f2 := Value.slice.inj e2
 obtain ⟨num, st, fi, la, un, sk, mk, ⟨sa, sn, sc⟩, ⟨ma, mn, mc⟩⟩ := x
 dsimp only at *
 obtain ⟨rfl, rfl, rfl⟩ := f1
 obtain ⟨rfl, rfl, rfl⟩ := f2
 exact ⟨hA, hA2, hs, hm, hc, hc2⟩
theorem stC_mem {ρ : Hp} {os : List OT} (h : ∀ p ∈ stC os, ρ p.1 = some p.2) {o : OT} (ho : o ∈ os) : (∀ p ∈ stkC o.x o.ss, ρ p.1 = some p.2) ∧ (∀ p ∈ mrkC o.x o.ms, ρ p.1 = some p.2) :=
 ⟨fun p hp => h p (List.mem_flatMap.2 ⟨o, ho, List.mem_append_left _ hp⟩), fun p hp => h p (List.mem_flatMap.2 ⟨o, ho, List.mem_append_right _ hp⟩)⟩
theorem OwnR.frozen {ρ : Hp} {vv sp os txns} (h : OwnR vv sp os txns) (hn : txns.length ≤ 1000000) (hb : ∀ t ∈ txns, t.stack.length ≤ 200000000000000 ∧ t.marks.length ≤ 200000000000000) (h1 : ∀ p ∈ YT vv (txF os) sp 72, ρ p.1 = some p.2) (h2 : ∀ p ∈ stC os, ρ p.1 = some p.2) (next : Int) :
  ∃ (v : SV) (r : Ros), vv = .slice v.a v.n v.c ∧ RosIn ρ v r ∧ r.p = ⟨next, txns⟩ ∧ r.next = next := by
 have hl := h.len
 have ho : OwnS vv os.length (((os.map OT.x).map txV).flatten) sp 7 := h.own
 obtain ⟨a, c, e, hc, hA⟩ := ho.aIn (by simp) (fun x _ => txV_len x) h1
 refine ⟨⟨a, os.length, c⟩, ⟨next, os.map OT.x⟩, e, ⟨⟨hA, by show os.length ≤ 1000000; omega, hc⟩, fun x hx => ?_⟩, ?_, rfl⟩
 ·obtain ⟨o, hm, rfl⟩ := List.mem_map.1 hx
  obtain ⟨g1, g2⟩ := stC_mem h2 hm
  have := hb o.x.p (by rw [← h.says]; exact List.mem_map.2 ⟨o, hm, rfl⟩)
  exact (h.each o hm).tin g1 g2 this.1 this.2
 ·show (⟨next, (os.map OT.x).map Tx.p⟩ : RosP) = _
  rw [List.map_map, ← h.says]; rfl
theorem pair_bound {l : List Nat} : ∀ {lo hi : Nat}, l.Pairwise (· < ·) → (∀ x ∈ l, lo < x ∧ x ≤ hi) → l.length ≤ hi - lo := by
 induction l with
 | nil => intro _ _ _ _; simp
 | cons a r ih =>
  intro lo hi h hb
  rw [List.pairwise_cons] at h
  have ha := hb a (by simp)
  have := ih (lo := a) (hi := hi) h.2 (fun x hx => ⟨h.1 x hx, (hb x (by simp [hx])).2⟩)
  rw [List.length_cons]; omega
theorem TxG.sl {t : TxP} (h : TxG t) : t.stack.length ≤ 1099511627776 := by
 have h1 : (t.stack.map Lf.lsn).Pairwise (· < ·) := List.pairwise_map.2 h.so
 have h2 := pair_bound (lo := t.first) (hi := t.undo) h1 (fun x hx => by
  obtain ⟨s, hs, rfl⟩ := List.mem_map.1 hx
  exact ⟨(h.st s hs).1, (h.st s hs).2.1⟩)
 rw [List.length_map] at h2
 have := h.ul
 have := h.lm
 omega
theorem OwnS.turn {b cap n : Nat} {xs xs' sp : List Value} (h : OwnS (.slice (some ⟨b, 0, none⟩) n cap) n xs sp 7) (hl : xs'.length = xs.length) : OwnS (.slice (some ⟨b, 0, none⟩) n cap) n xs' sp 7 := by
 rcases h.out with ⟨e, _⟩ | ⟨b2, c2, e, h1, h2, h3⟩
 ·cases e
 ·cases e
  exact ⟨.inr ⟨b, cap, rfl, by omega, by omega, h3⟩⟩
theorem RosIn.z {ρ : Hp} : RosIn ρ nilS ⟨0, []⟩ := ⟨AS.nil, by simp⟩
structure ShD where
 page : Int
 w : CV
 c : Cont
abbrev shV (s : ShD) : List Value := [.int .i64 s.page, .int .i64 s.c.kind, .slice s.w.ra s.w.rn s.w.rc, .slice s.w.ka s.w.kn s.w.kc]
def Xi (x : Im) : ShD := ⟨x.page, x.av, x.a⟩
def Xu (d : List CkP) (r : Rc) : List Im := r.ims.filter (fun x => YA d r x.page)
def Xs (f : Int → Nat) (d : List CkP) (r : Rc) : List Im := (Xu d r).filter (fun x => decide (f x.page < r.lsn))
abbrev dC (b : Nat) (s : SV) : List (Nat × Obj) := [(b, .cells ⟨[.slice s.a s.n s.c]⟩ 28 (0, 0))]
theorem filt_pre {α : Type} (q : α → Bool) (l : List α) {k : Nat} (hk : k < l.length) (hq : q l[k] = true) : ((l.take k).filter q ++ [l[k]]) <+: l.filter q ∧ (l.take (k + 1)).filter q = (l.take k).filter q ++ [l[k]] := by
 have e : (l.take (k + 1)).filter q = (l.take k).filter q ++ [l[k]] := by
  rw [List.take_succ_eq_append_getElem hk, List.filter_append]
  congr 1
  simp [hq]
 refine ⟨?_, e⟩
 rw [← e]
 exact ⟨(l.drop (k + 1)).filter q, by rw [← List.filter_append, List.take_append_drop]⟩
theorem filt_no {α : Type} (q : α → Bool) (l : List α) {k : Nat} (hk : k < l.length) (hq : q l[k] = false) : (l.take (k + 1)).filter q = (l.take k).filter q := by
 rw [List.take_succ_eq_append_getElem hk, List.filter_append]
 simp [hq]
theorem needed24_iter (ρ0 : Hp) (xb db : Nat) (s : SV) (d : List CkP) (hd : AS ρ0 2 YG s d) (v : RV) (r : Rc) (h : RcIn ρ0 v r) : Iter Tryz.prog 273 [] [.pointer (some ⟨xb, 0, none⟩), .pointer (some ⟨db, 0, none⟩)] (fun x : Im => [.agg ⟨shV (Xi x)⟩]) ρ0 [recC xb v r, dC db s] (Xu d r) := by
 intro l J Jx hY ρ Lj hl0 hJ
 have li := h.i.at'.len
 have bi := h.i.big
 refine Zf Tryz.func273 rfl rfl rfl fun u R => ?_
 simp only [ZG, List.cons_append, List.nil_append, List.append_assoc]
 repeat' (first | (refine iBu ?_; refine ZC (Ze rfl) rfl rfl ?_) | (refine Zj ?_; first | (refine Zi ?_; refine qQ ?_) | refine Zo ?_) | refine Zc ?_ | (refine Zh ?_; refine Zz ?_) | (refine Zg ?_; refine Zy ?_) | intro _)
 refine ZL [(0, _), (1, _), (2, _), (7, _), (8, _)] (fun (ζ : (Nat) × (Hp) × (SH)) => [(9, .int .i64 ζ.1)]) (fun (ζ : (Nat) × (Hp) × (SH)) => ζ.2.1) (fun (ζ : (Nat) × (Hp) × (SH)) => recC xb v r :: dC db s :: ζ.2.2) (fun (ζ : (Nat) × (Hp) × (SH)) => ζ.1 ≤ v.i.n ∧ ρ.le ζ.2.1 ∧ J ((r.ims.take ζ.1).filter (fun x => YA d r x.page)) ζ.2.1 ζ.2.2) (fun (ζ : (Nat) × (Hp) × (SH)) => v.i.n - ζ.1) ((0, ρ, Lj)) (⟨Nat.zero_le _, Hp.le_refl _, hJ⟩) Zn Zn rfl tk ?_
 rintro ⟨k, ρ1, L1⟩ hI
 try simp only [List.cons_append, List.nil_append, List.append_assoc, List.append_eq] at hI ⊢
 try dsimp only at hI ⊢
 obtain ⟨hk, hle1, hj⟩ := hI
 by_cases hlt : k < v.i.n
 ·have hl1 := Hp.le_trans hl0 hle1
  obtain ⟨b, off, C, T, fr, e1, hb, hfit, hc⟩ := (h.i.at'.mono hl1).get (show k < r.ims.length by omega)
  have hyes := filt_pre (fun x : Im => YA d r x.page) r.ims (show k < r.ims.length by omega)
  have hno := filt_no (fun x : Im => YA d r x.page) r.ims (show k < r.ims.length by omega)
  generalize r.ims[k]'(by omega) = x at *
  have hne := needs_spec ρ1 s d (hd.mono hl1) v r (h.mono hl1) x.page
  rw [e1]
  cases hq : YA d r x.page
  ·rw [hq] at hne
   have hts := hno hq
   clear hyes hno
   repeat' (first | (refine Zd (.func 71) ?_; refine qC rfl rfl (hne) ?_; rintro v ρ' L' hle ⟨rfl, rfl, rfl⟩ <;> (try simp only [kM, kN, kO])) | (refine iBu ?_; refine ZC (Ze rfl) rfl rfl ?_) | (refine Zj ?_; first | (refine Zi ?_; refine qQ ?_) | refine Zo ?_) | refine Zc ?_ | (refine Zh ?_; refine Zz ?_) | (refine Zg ?_; refine Zy ?_) | intro _)
   rw [← e1]
   refine Zu (k + 1, ρ', L1) (⟨hlt, hle1, by dsimp only; rw [hts]; exact hj⟩) Zn Zn rfl tk inferInstance (by first | omega | (dsimp only; omega))
  ·rw [hq] at hne
   obtain ⟨hpre, hts⟩ := hyes hq
   clear hyes hno
   have hy := hY _ _ ρ1 L1 hpre hl1 hj
   repeat' (first | (refine Zd (.func 71) ?_; refine qC rfl rfl (hne) ?_; rintro v ρ' L' hle ⟨rfl, rfl, rfl⟩ <;> (try simp only [kM, kN, kO])) | (refine Zd (.tmp 19) ?_; refine qY rfl rfl (hy) ?_; rintro v ρ' L' hle ⟨Lj', rfl, ⟨rfl, hj'⟩ | ⟨rfl, hj'⟩⟩ <;> (try simp only [kM, kN, kO])) | (refine iBu ?_; refine ZC (Ze rfl) rfl rfl ?_) | (refine Zj ?_; first | (refine Zi ?_; refine qQ ?_) | refine Zo ?_) | refine Zc ?_ | (refine Zh ?_; refine Zz ?_) | (refine Zg ?_; refine Zy ?_) | intro _)
   ·repeat' (first | (refine iBu ?_; refine ZC (Ze rfl) rfl rfl ?_) | (refine Zj ?_; first | (refine Zi ?_; refine qQ ?_) | refine Zo ?_) | refine Zc ?_ | (refine Zh ?_; refine Zz ?_) | (refine Zg ?_; refine Zy ?_) | intro _)
    rw [← e1]
    refine Zu (k + 1, ρ', Lj') (⟨hlt, Hp.le_trans hle1 hle, by dsimp only; rw [hts]; exact hj'⟩) Zn Zn rfl tk inferInstance (by first | omega | (dsimp only; omega))
   ·repeat' (first | (refine iBu ?_; refine ZC (Ze rfl) rfl rfl ?_) | (refine Zj ?_; first | (refine Zi ?_; refine qQ ?_) | refine Zo ?_) | refine Zc ?_ | (refine Zh ?_; refine Zz ?_) | (refine Zg ?_; refine Zy ?_) | intro _)
    exact qE (L' := recC xb v r :: dC db s :: Lj') ⟨Lj', rfl, .inr hj'⟩
 ·have hk2 : k = r.ims.length := by omega
  rw [hk2, List.take_length] at hj
  repeat' (first | (refine iBu ?_; refine ZC (Ze rfl) rfl rfl ?_) | (refine Zj ?_; first | (refine Zi ?_; refine qQ ?_) | refine Zo ?_) | refine Zc ?_ | (refine Zh ?_; refine Zz ?_) | (refine Zg ?_; refine Zy ?_) | intro _)
  exact qE (L' := recC xb v r :: dC db s :: L1) ⟨L1, rfl, .inl hj⟩
theorem needed24_spec (ρ : Hp) (s : SV) (v : RV) (r : Rc) : Spec Tryz.prog 226 [.slice s.a s.n s.c, .agg ⟨Xo v r⟩] ρ [] (fun z ρ' L' => ρ' = ρ ∧ ∃ xb db, z = .func (.func 273) ⟨[]⟩ ⟨[.pointer (some ⟨xb, 0, none⟩), .pointer (some ⟨db, 0, none⟩)]⟩ ∧ L' = [recC xb v r, dC db s]) := by
 refine Zf Tryz.func226 rfl rfl rfl fun u R => ?_
 simp only [ZG, List.cons_append, List.nil_append]
 repeat' (first | (refine iBu ?_; refine ZC (Ze rfl) rfl rfl ?_) | (refine Zj ?_; first | (refine Zi ?_; refine qQ ?_) | refine Zo ?_) | refine Zc ?_ | (refine Zh ?_; refine Zz ?_) | (refine Zg ?_; refine Zy ?_) | intro _)
 rename_i db xb
 exact qE (L' := [recC xb v r, dC db s]) ⟨rfl, xb, db, rfl, rfl⟩
theorem shV_len (s : ShD) : (shV s).length = 4 := rfl
theorem sheets_spec (ρ : Hp) (s : SV) (d : List CkP) (hd : AS ρ 2 YG s d) (v : RV) (r : Rc) (h : RcIn ρ v r) (F : Nat) [hFun : Fun Tryz.prog F] (cs : List Value) (X : SH) (f : Int → Nat)
  (hf : ∀ ρ2, ρ.le ρ2 → ∀ x ∈ r.ims, Spec Tryz.prog F (.int .i64 x.page :: cs) ρ2 X (fun z ρ' L' => z = .tuple ⟨[.int .u64 (f x.page : Nat), .int .i64 0]⟩ ∧ ρ' = ρ2 ∧ L' = X)) :
  Spec Tryz.prog 144 [.slice s.a s.n s.c, .agg ⟨Xo v r⟩, .func (.func F) ⟨[]⟩ ⟨cs⟩] ρ X
   (fun z ρ' L' => ρ.le ρ' ∧ ∃ s2 : SV, z = .tuple ⟨[.slice s2.a s2.n s2.c, .int .i64 0]⟩ ∧ AS ρ' 4 shV s2 ((Xs f d r).map Xi) ∧ L' = X) := by
 have li := h.i.at'.len
 have bi := h.i.big
 refine Zf Tryz.func144 rfl rfl rfl fun u R => ?_
 simp only [ZG, List.cons_append, List.nil_append]
 repeat' (first | (refine Zd (.func 226) ?_; refine qC rfl rfl (needed24_spec _ s v r) ?_; rintro v ρ' L' hle ⟨rfl, xb, db, rfl, rfl⟩ <;> (try simp only [kM, kN, kO])) | (refine iBu ?_; refine ZC (Ze rfl) rfl rfl ?_) | (refine Zj ?_; first | (refine Zi ?_; refine qQ ?_) | refine Zo ?_) | refine Zc ?_ | (refine Zh ?_; refine Zz ?_) | (refine Zg ?_; refine Zy ?_) | intro _)
 rename_i rb fb ob eb
 have hI := needed24_iter ρ' xb db s d hd v r h
 generalize hq : (fun x : Im => decide (f x.page < r.lsn)) = q
 refine tc_rangeFunc (S := [recC xb v r, dC db s]) (L0 := [[(eb, .cells ⟨[.int .i64 0]⟩ 35 (0, 0))], [(ob, .cells ⟨[.slice none 0 0]⟩ 114 (0, 0))], [(fb, .cells ⟨[.func (.func F) ⟨[]⟩ ⟨cs⟩]⟩ 192 (0, 0))], recC rb v r, YT (.slice none 0 0) [] [] 189] ++ X) (R := R) (R0 := [(eb, .cells ⟨[.int .i64 0]⟩ 35 (0, 0))] :: [(ob, .cells ⟨[.slice none 0 0]⟩ 114 (0, 0))] :: [(fb, .cells ⟨[.func (.func F) ⟨[]⟩ ⟨cs⟩]⟩ 192 (0, 0))] :: recC rb v r :: (X ++ R)) rfl rfl hI (Hp.le_refl _) (fun _ => rfl) rfl
  (fun pre ρ2 Lu => ρ'.le ρ2 ∧ ∃ v' sp, OwnS v' (pre.filter q).length ((((pre.filter q).map Xi).map shV).flatten) sp 4 ∧ Lu = [[(eb, .cells ⟨[.int .i64 0]⟩ 35 (0, 0))], [(ob, .cells ⟨[v']⟩ 114 (0, 0))], [(fb, .cells ⟨[.func (.func F) ⟨[]⟩ ⟨cs⟩]⟩ 192 (0, 0))], recC rb v r, YT v' ((((pre.filter q).map Xi).map shV).flatten) sp 189] ++ X) (fun _ _ _ => False) ?k1 ?k2 ⟨Hp.le_refl _, _, [], OwnS.nil 4, rfl⟩ ?round ?done ?stop
 case k1 => exact tk
 case k2 => exact tk
 case stop => rintro D0 c ρ' Lu _ hf; exact hf.elim
 case round =>
  rintro l tm r' pre y ρ2 Lu u R' hpre hle' ⟨hle2, v', sp, hown, rfl⟩ hr hrec
  simp only [envP, List.cons_append, List.nil_append]
  have hlen := hpre.length_le
  have hlen2 : (Xu d r).length ≤ r.ims.length := List.length_filter_le _ _
  have hlen3 : (pre.filter q).length ≤ pre.length := List.length_filter_le _ _
  simp only [List.length_append, List.length_singleton] at hlen
  have hym : y ∈ r.ims := (List.mem_filter.1 (hpre.subset (by simp : y ∈ pre ++ [y]))).1
  have hfy : Spec Tryz.prog F (.int .i64 y.page :: cs) ρ2 X (fun z ρ' L' => z = .tuple ⟨[.int .u64 (f y.page : Nat), .int .i64 0]⟩ ∧ ρ2 = ρ' ∧ X = L') := (hf ρ2 hle2 y hym).mono (fun z ρ' L' _ ⟨q1, q2, q3⟩ => ⟨q1, q2.symm, q3.symm⟩)
  obtain ⟨va, vc, rfl, _⟩ := hown.slice
  repeat' (first | (refine iBu ?_; refine ZC (Ze rfl) rfl rfl ?_) | (refine Zj ?_; first | (refine Zi ?_; refine qQ ?_) | refine Zo ?_) | refine Zc ?_ | (refine Zh ?_; refine Zz ?_) | (refine Zg ?_; refine Zy ?_) | intro _)
  refine te_front [(l, .loop r')] ?_
  refine te_begin rfl hr (fun r2 hbz hrec' => ?_)
  by_cases hlt : f y.page < r.lsn
  ·have hfl : (pre ++ [y]).filter q = pre.filter q ++ [y] := by rw [List.filter_append]; congr 1; simp [← hq, hlt]
   repeat' (first | (refine Zd (.tmp 18) ?_; refine qC rfl rfl (hfy) ?_; rintro v ρ' L' hle ⟨rfl, rfl, rfl⟩ <;> (try simp only [kM, kN, kO])) | (refine Yp (css := [shV (Xi y)]) (sz := 4) rfl rfl rfl rfl (by simp) (by simp) rfl (fun bs => ?_); simp only [List.flatten_cons, List.flatten_nil, List.append_nil]) | (refine Xq (ys := shV (Xi y)) (m := 1) rfl rfl hown (hR := by repeat (first | exact ZQ | apply ZS | apply rem_app')) SrcV.lit rfl rfl (by decide) rfl (by omega) (by omega) rfl (fun v3 sp3 hown3 => ?_); obtain ⟨va3, vc3, rfl, _⟩ := hown3.slice) | (refine iBu ?_; refine ZC (Ze rfl) rfl rfl ?_) | (refine Zj ?_; first | (refine Zi ?_; refine qQ ?_) | refine Zo ?_) | refine Zc ?_ | (refine Zh ?_; refine Zz ?_) | (refine Zg ?_; refine Zy ?_) | intro _)
   have hm : ((((pre.filter q).map Xi).map shV).flatten) ++ shV (Xi y) = (((((pre ++ [y]).filter q).map Xi).map shV).flatten) := by rw [hfl]; simp
   have hln : (pre.filter q).length + 1 = ((pre ++ [y]).filter q).length := by rw [hfl]; simp
   rw [hm, hln] at hown3 ⊢
   refine te_front [(l, .loop r2)] ?_
   refine te_next (Lu := [[(eb, .cells ⟨[.int .i64 0]⟩ 35 (0, 0))], [(ob, .cells ⟨[.slice va3 ((pre ++ [y]).filter q).length vc3]⟩ 114 (0, 0))], [(fb, .cells ⟨[.func (.func F) ⟨[]⟩ ⟨cs⟩]⟩ 192 (0, 0))], recC rb v r, YT (.slice va3 ((pre ++ [y]).filter q).length vc3) (((((pre ++ [y]).filter q).map Xi).map shV).flatten) sp3 189] ++ X) rfl (Hp.le_refl _) ⟨hrec'.tmps.trans hrec.tmps, hrec'.params.trans hrec.params, hrec'.assign.trans hrec.assign, hrec'.body.trans hrec.body⟩ tk tk inferInstance ?_
   exact ⟨hle2, _, sp3, hown3, rfl⟩
  ·have hfl : (pre ++ [y]).filter q = pre.filter q := by rw [List.filter_append]; simp [← hq, hlt]
   repeat' (first | (refine Zd (.tmp 18) ?_; refine qC rfl rfl (hfy) ?_; rintro v ρ' L' hle ⟨rfl, rfl, rfl⟩ <;> (try simp only [kM, kN, kO])) | (refine iBu ?_; refine ZC (Ze rfl) rfl rfl ?_) | (refine Zj ?_; first | (refine Zi ?_; refine qQ ?_) | refine Zo ?_) | refine Zc ?_ | (refine Zh ?_; refine Zz ?_) | (refine Zg ?_; refine Zy ?_) | intro _)
   refine te_front [(l, .loop r2)] ?_
   refine te_next (Lu := [[(eb, .cells ⟨[.int .i64 0]⟩ 35 (0, 0))], [(ob, .cells ⟨[.slice va (pre.filter q).length vc]⟩ 114 (0, 0))], [(fb, .cells ⟨[.func (.func F) ⟨[]⟩ ⟨cs⟩]⟩ 192 (0, 0))], recC rb v r, YT (.slice va (pre.filter q).length vc) ((((pre.filter q).map Xi).map shV).flatten) sp 189] ++ X) rfl (Hp.le_refl _) ⟨hrec'.tmps.trans hrec.tmps, hrec'.params.trans hrec.params, hrec'.assign.trans hrec.assign, hrec'.body.trans hrec.body⟩ tk tk inferInstance ?_
   exact ⟨hle2, _, sp, by rw [hfl]; exact hown, by rw [hfl]; rfl⟩
 case done =>
  rintro D0 ρ2 Lu hle' ⟨hle2, v', sp, hown, rfl⟩
  simp only [List.cons_append, List.nil_append]
  have hlen2 : (Xu d r).length ≤ r.ims.length := List.length_filter_le _ _
  have hlen3 : ((Xu d r).filter q).length ≤ (Xu d r).length := List.length_filter_le _ _
  have hL : (Xs f d r).map Xi = ((Xu d r).filter q).map Xi := by rw [← hq]; rfl
  rw [hL]
  obtain ⟨a', cap', rfl, hvl⟩ := hown.slice
  refine te_freeze (YT (.slice a' ((Xu d r).filter q).length cap') (((((Xu d r).filter q).map Xi).map shV).flatten) sp 189) (fun ρ3 hle3 hfz => ?_)
  obtain ⟨sa, sc, f1, hsc, hS⟩ := hown.aIn (by simp) (fun x _ => shV_len x) hfz
  cases f1
  repeat' (first | (refine iBu ?_; refine ZC (Ze rfl) rfl rfl ?_) | (refine Zj ?_; first | (refine Zi ?_; refine qQ ?_) | refine Zo ?_) | refine Zc ?_ | (refine Zh ?_; refine Zz ?_) | (refine Zg ?_; refine Zy ?_) | intro _)
  exact te_end_d rfl rfl rfl inferInstance (res2 rfl (ZZ rfl) (ZZ rfl)) (Hp.le_trans hle2 hle3) tk (by infer_instance) (L' := X) ⟨Hp.le_trans hle2 hle3, ⟨a', _, cap'⟩, rfl, ⟨hS, by dsimp only; omega, hsc⟩, rfl⟩
end Go.Proofs.E
