/- The law RosterDoes. Part 12 of 20. -/
import Derived.Test.YtjajdpfdhokkhaaGreatY11
namespace Go.Proofs.E
open Go
set_option linter.unusedVariables false
set_option linter.unusedSimpArgs false
set_option linter.unusedSectionVars false
set_option maxRecDepth 4000
set_option maxHeartbeats 1000000
attribute [local irreducible] Yl TL TC TE Spec Wq R1 Hp.le EnvLe TS TR YS Zs
set_option maxHeartbeats 4000000
theorem Xx (ρ : Hp) (v : RV) (r : Rc) (h : RcIn ρ v r) : Spec Tryz.prog 26 [.agg ⟨Xh v r⟩] ρ [] (fun z ρ' L' => z = .bool (YF r) ∧ ρ' = ρ ∧ L' = []) := by
 have li := h.i.at'.len
 have ls := h.s.at'.len
 have lt := h.t.at'.len
 have ld := h.d.at'.len
 have bi := h.i.big
 have bs := h.s.big
 have bt := h.t.big
 have bd := h.d.big
 have ei : r.ims = [] ↔ v.i.n = 0 := by rw [← li]; exact List.length_eq_zero_iff.symm
 have es : r.steps = [] ↔ v.s.n = 0 := by rw [← ls]; exact List.length_eq_zero_iff.symm
 have et : r.txns = [] ↔ v.t.n = 0 := by rw [← lt]; exact List.length_eq_zero_iff.symm
 have ed : r.dirty = [] ↔ v.d.n = 0 := by rw [← ld]; exact List.length_eq_zero_iff.symm
 have hrec : YF r = true ↔ (1 ≤ r.kind ∧ r.kind ≤ 9) ∧ (1 ≤ r.lsn ∧ r.lsn ≤ 1099511627776 ∧ r.prev < r.lsn ∧ 0 ≤ r.txn ∧ r.txn ≤ 1073741824 ∧ (r.kind = 9 ↔ r.txn = 0) ∧ ((r.kind = 9 ∨ r.kind = 1) ↔ r.prev = 0)) ∧ askOk r = true ∧
   ((r.next = 0 ∨ r.kind = 3 ∨ r.kind = 4 ∨ r.kind = 5) ∧ (v.i.n = 0 ∨ r.kind = 2 ∨ r.kind = 5) ∧ (v.s.n = 0 ∨ r.kind = 4) ∧ ((v.t.n = 0 ∧ v.d.n = 0 ∧ r.nextTxn = 0) ∨ r.kind = 9)) := by
  unfold YF headOk bareOk
  simp only [Bool.and_eq_true, decide_eq_true_eq, ei, es, et, ed]
 generalize YF r = rk at *
 have h1 := images12_spec ρ v.i r.ims h.i true h.im
 have h2 := images12_spec ρ v.i r.ims h.i false h.im
 have h3 := steps12_spec ρ v.s r.steps h.s h.sf
 have h4 := txns12_spec ρ v.t r.txns h.t r.lsn r.nextTxn
 have h5 := dirty12_spec ρ v.d r.dirty h.d r.lsn
 change Spec Tryz.prog 95 [.slice v.i.a v.i.n v.i.c, .bool true] ρ [] (fun z ρ' L' => z = .bool (imsOk true r.ims) ∧ ρ' = ρ ∧ L' = []) at h1
 change Spec Tryz.prog 95 [.slice v.i.a v.i.n v.i.c, .bool false] ρ [] (fun z ρ' L' => z = .bool (imsOk false r.ims) ∧ ρ' = ρ ∧ L' = []) at h2
 have hask : ∀ A : Prop, (askOk r = true ↔ A) → (rk = true ↔ (1 ≤ r.kind ∧ r.kind ≤ 9) ∧ (1 ≤ r.lsn ∧ r.lsn ≤ 1099511627776 ∧ r.prev < r.lsn ∧ 0 ≤ r.txn ∧ r.txn ≤ 1073741824 ∧ (r.kind = 9 ↔ r.txn = 0) ∧ ((r.kind = 9 ∨ r.kind = 1) ↔ r.prev = 0)) ∧ A ∧
   ((r.next = 0 ∨ r.kind = 3 ∨ r.kind = 4 ∨ r.kind = 5) ∧ (v.i.n = 0 ∨ r.kind = 2 ∨ r.kind = 5) ∧ (v.s.n = 0 ∨ r.kind = 4) ∧ ((v.t.n = 0 ∧ v.d.n = 0 ∧ r.nextTxn = 0) ∨ r.kind = 9))) := fun A hA => by rw [hrec, hA]
 unfold askOk at hask
 generalize imsOk true r.ims = q1 at *
 generalize imsOk false r.ims = q2 at *
 generalize r.steps.all YL = q3 at *
 generalize upB (ckTOk r.lsn r.nextTxn) CkT.txn r.txns r.txns.length = q4 at *
 generalize upB (ckPOk r.lsn) CkP.page r.dirty r.dirty.length = q5 at *
 rw [li, ls, lt] at hask
 rw [ls] at h3
 rw [lt] at h4
 clear hrec
 refine Zg Tryz.func26 rfl rfl rfl fun u R => ?_
 simp only [Zx, List.cons_append, List.nil_append]
 by_cases k2 : r.kind = 2
 ·have hk := hask (0 < v.i.n ∧ q1 = true) (by rw [if_pos k2]; simp)
  clear hask
  cases q1
  all_goals simp only [Bool.false_eq_true, and_true, and_false, false_and] at hk
  all_goals (repeat' (first | (refine Ze (.func 95) ?_; refine qC rfl rfl (h1) ?_; rintro v ρ' L' hle ⟨rfl, rfl, rfl⟩ <;> (try simp only [kM, kN, kO])) | (refine Ze (.func 95) ?_; refine qC rfl rfl (h2) ?_; rintro v ρ' L' hle ⟨rfl, rfl, rfl⟩ <;> (try simp only [kM, kN, kO])) | (refine Ze (.func 96) ?_; refine qC rfl rfl (h3) ?_; rintro v ρ' L' hle ⟨rfl, rfl, rfl⟩ <;> (try simp only [kM, kN, kO])) | (refine Ze (.func 97) ?_; refine qC rfl rfl (h4) ?_; rintro v ρ' L' hle ⟨rfl, rfl, rfl⟩ <;> (try simp only [kM, kN, kO])) | (refine Ze (.func 98) ?_; refine qC rfl rfl (h5) ?_; rintro v ρ' L' hle ⟨rfl, rfl, rfl⟩ <;> (try simp only [kM, kN, kO])) | (refine ZE ?_; refine Zo (Zd rfl) rfl rfl ?_) | (refine Zj ?_; first | (refine Zf ?_; refine qQ ?_) | refine Zn ?_) | refine Zb ?_ | (refine Zi ?_; refine Zv ?_) | (refine Zh ?_; refine Zu ?_) | (refine Xd ?_; refine ZN rfl rfl (fun hb => ?_) (fun hb => ?_) <;> (try simp only [decide_eq_true_eq, decide_eq_false_iff_not, Bool.not_eq_true, Bool.not_eq_false, beq_iff_eq, bne_iff_ne, ne_eq, decide_eq_decide, Bool.not_eq_eq_eq_not, Bool.not_true, Bool.not_false, beq_eq_false_iff_ne, bne_eq_false_iff_eq, Bool.and_eq_true, Bool.or_eq_true, Bool.and_eq_false_imp, Bool.or_eq_false_iff, bq2, bqt, bqf] at hb)) | (refine Yn ?_; refine Ya rfl (fun hb => ?_) (fun hb => ?_) <;> (try simp only [decide_eq_true_eq, decide_eq_false_iff_not, Bool.not_eq_true, Bool.not_eq_false, beq_iff_eq, bne_iff_ne, ne_eq, decide_eq_decide, Bool.not_eq_eq_eq_not, Bool.not_true, Bool.not_false, beq_eq_false_iff_ne, bne_eq_false_iff_eq, Bool.and_eq_true, Bool.or_eq_true, Bool.and_eq_false_imp, Bool.or_eq_false_iff, bq2, bqt, bqf] at hb)) | intro _))
  all_goals (refine qF (L' := []) ?_; refine ⟨YD ?_, rfl, rfl⟩; rw [hk]; first | omega | (simp only [decide_eq_true_eq, Bool.false_eq_true, true_iff, false_iff, true_and, and_true, beq_iff_eq, Bool.and_true, Bool.and_false, Bool.true_and, Bool.false_and, decide_true, decide_false] <;> omega))
 ·skip
  by_cases k3 : r.kind = 3
  ·have hk := hask (r.next < r.prev) (by rw [if_neg k2, if_pos k3]; simp)
   clear hask
   repeat' (first | (refine Ze (.func 95) ?_; refine qC rfl rfl (h1) ?_; rintro v ρ' L' hle ⟨rfl, rfl, rfl⟩ <;> (try simp only [kM, kN, kO])) | (refine Ze (.func 95) ?_; refine qC rfl rfl (h2) ?_; rintro v ρ' L' hle ⟨rfl, rfl, rfl⟩ <;> (try simp only [kM, kN, kO])) | (refine Ze (.func 96) ?_; refine qC rfl rfl (h3) ?_; rintro v ρ' L' hle ⟨rfl, rfl, rfl⟩ <;> (try simp only [kM, kN, kO])) | (refine Ze (.func 97) ?_; refine qC rfl rfl (h4) ?_; rintro v ρ' L' hle ⟨rfl, rfl, rfl⟩ <;> (try simp only [kM, kN, kO])) | (refine Ze (.func 98) ?_; refine qC rfl rfl (h5) ?_; rintro v ρ' L' hle ⟨rfl, rfl, rfl⟩ <;> (try simp only [kM, kN, kO])) | (refine ZE ?_; refine Zo (Zd rfl) rfl rfl ?_) | (refine Zj ?_; first | (refine Zf ?_; refine qQ ?_) | refine Zn ?_) | refine Zb ?_ | (refine Zi ?_; refine Zv ?_) | (refine Zh ?_; refine Zu ?_) | (refine Xd ?_; refine ZN rfl rfl (fun hb => ?_) (fun hb => ?_) <;> (try simp only [decide_eq_true_eq, decide_eq_false_iff_not, Bool.not_eq_true, Bool.not_eq_false, beq_iff_eq, bne_iff_ne, ne_eq, decide_eq_decide, Bool.not_eq_eq_eq_not, Bool.not_true, Bool.not_false, beq_eq_false_iff_ne, bne_eq_false_iff_eq, Bool.and_eq_true, Bool.or_eq_true, Bool.and_eq_false_imp, Bool.or_eq_false_iff, bq2, bqt, bqf] at hb)) | (refine Yn ?_; refine Ya rfl (fun hb => ?_) (fun hb => ?_) <;> (try simp only [decide_eq_true_eq, decide_eq_false_iff_not, Bool.not_eq_true, Bool.not_eq_false, beq_iff_eq, bne_iff_ne, ne_eq, decide_eq_decide, Bool.not_eq_eq_eq_not, Bool.not_true, Bool.not_false, beq_eq_false_iff_ne, bne_eq_false_iff_eq, Bool.and_eq_true, Bool.or_eq_true, Bool.and_eq_false_imp, Bool.or_eq_false_iff, bq2, bqt, bqf] at hb)) | intro _)
   all_goals (refine qF (L' := []) ?_; refine ⟨YD ?_, rfl, rfl⟩; rw [hk]; first | omega | (simp only [decide_eq_true_eq, Bool.false_eq_true, true_iff, false_iff, true_and, and_true, beq_iff_eq, Bool.and_true, Bool.and_false, Bool.true_and, Bool.false_and, decide_true, decide_false] <;> omega))
  ·skip
   by_cases k4 : r.kind = 4
   ·have hk := hask (r.next < r.prev ∧ (0 < v.s.n ∧ v.s.n ≤ 2) ∧ q3 = true) (by rw [if_neg k2, if_neg k3, if_pos k4]; simp)
    clear hask
    cases q3
    all_goals simp only [Bool.false_eq_true, and_true, and_false, false_and] at hk
    all_goals (repeat' (first | (refine Ze (.func 95) ?_; refine qC rfl rfl (h1) ?_; rintro v ρ' L' hle ⟨rfl, rfl, rfl⟩ <;> (try simp only [kM, kN, kO])) | (refine Ze (.func 95) ?_; refine qC rfl rfl (h2) ?_; rintro v ρ' L' hle ⟨rfl, rfl, rfl⟩ <;> (try simp only [kM, kN, kO])) | (refine Ze (.func 96) ?_; refine qC rfl rfl (h3) ?_; rintro v ρ' L' hle ⟨rfl, rfl, rfl⟩ <;> (try simp only [kM, kN, kO])) | (refine Ze (.func 97) ?_; refine qC rfl rfl (h4) ?_; rintro v ρ' L' hle ⟨rfl, rfl, rfl⟩ <;> (try simp only [kM, kN, kO])) | (refine Ze (.func 98) ?_; refine qC rfl rfl (h5) ?_; rintro v ρ' L' hle ⟨rfl, rfl, rfl⟩ <;> (try simp only [kM, kN, kO])) | (refine ZE ?_; refine Zo (Zd rfl) rfl rfl ?_) | (refine Zj ?_; first | (refine Zf ?_; refine qQ ?_) | refine Zn ?_) | refine Zb ?_ | (refine Zi ?_; refine Zv ?_) | (refine Zh ?_; refine Zu ?_) | (refine Xd ?_; refine ZN rfl rfl (fun hb => ?_) (fun hb => ?_) <;> (try simp only [decide_eq_true_eq, decide_eq_false_iff_not, Bool.not_eq_true, Bool.not_eq_false, beq_iff_eq, bne_iff_ne, ne_eq, decide_eq_decide, Bool.not_eq_eq_eq_not, Bool.not_true, Bool.not_false, beq_eq_false_iff_ne, bne_eq_false_iff_eq, Bool.and_eq_true, Bool.or_eq_true, Bool.and_eq_false_imp, Bool.or_eq_false_iff, bq2, bqt, bqf] at hb)) | (refine Yn ?_; refine Ya rfl (fun hb => ?_) (fun hb => ?_) <;> (try simp only [decide_eq_true_eq, decide_eq_false_iff_not, Bool.not_eq_true, Bool.not_eq_false, beq_iff_eq, bne_iff_ne, ne_eq, decide_eq_decide, Bool.not_eq_eq_eq_not, Bool.not_true, Bool.not_false, beq_eq_false_iff_ne, bne_eq_false_iff_eq, Bool.and_eq_true, Bool.or_eq_true, Bool.and_eq_false_imp, Bool.or_eq_false_iff, bq2, bqt, bqf] at hb)) | intro _))
    all_goals (refine qF (L' := []) ?_; refine ⟨YD ?_, rfl, rfl⟩; rw [hk]; first | omega | (simp only [decide_eq_true_eq, Bool.false_eq_true, true_iff, false_iff, true_and, and_true, beq_iff_eq, Bool.and_true, Bool.and_false, Bool.true_and, Bool.false_and, decide_true, decide_false] <;> omega))
   ·skip
    by_cases k5 : r.kind = 5
    ·have hk := hask (r.next < r.lsn ∧ q2 = true) (by rw [if_neg k2, if_neg k3, if_neg k4, if_pos k5]; simp)
     clear hask
     cases q2
     all_goals simp only [Bool.false_eq_true, and_true, and_false, false_and] at hk
     all_goals (repeat' (first | (refine Ze (.func 95) ?_; refine qC rfl rfl (h1) ?_; rintro v ρ' L' hle ⟨rfl, rfl, rfl⟩ <;> (try simp only [kM, kN, kO])) | (refine Ze (.func 95) ?_; refine qC rfl rfl (h2) ?_; rintro v ρ' L' hle ⟨rfl, rfl, rfl⟩ <;> (try simp only [kM, kN, kO])) | (refine Ze (.func 96) ?_; refine qC rfl rfl (h3) ?_; rintro v ρ' L' hle ⟨rfl, rfl, rfl⟩ <;> (try simp only [kM, kN, kO])) | (refine Ze (.func 97) ?_; refine qC rfl rfl (h4) ?_; rintro v ρ' L' hle ⟨rfl, rfl, rfl⟩ <;> (try simp only [kM, kN, kO])) | (refine Ze (.func 98) ?_; refine qC rfl rfl (h5) ?_; rintro v ρ' L' hle ⟨rfl, rfl, rfl⟩ <;> (try simp only [kM, kN, kO])) | (refine ZE ?_; refine Zo (Zd rfl) rfl rfl ?_) | (refine Zj ?_; first | (refine Zf ?_; refine qQ ?_) | refine Zn ?_) | refine Zb ?_ | (refine Zi ?_; refine Zv ?_) | (refine Zh ?_; refine Zu ?_) | (refine Xd ?_; refine ZN rfl rfl (fun hb => ?_) (fun hb => ?_) <;> (try simp only [decide_eq_true_eq, decide_eq_false_iff_not, Bool.not_eq_true, Bool.not_eq_false, beq_iff_eq, bne_iff_ne, ne_eq, decide_eq_decide, Bool.not_eq_eq_eq_not, Bool.not_true, Bool.not_false, beq_eq_false_iff_ne, bne_eq_false_iff_eq, Bool.and_eq_true, Bool.or_eq_true, Bool.and_eq_false_imp, Bool.or_eq_false_iff, bq2, bqt, bqf] at hb)) | (refine Yn ?_; refine Ya rfl (fun hb => ?_) (fun hb => ?_) <;> (try simp only [decide_eq_true_eq, decide_eq_false_iff_not, Bool.not_eq_true, Bool.not_eq_false, beq_iff_eq, bne_iff_ne, ne_eq, decide_eq_decide, Bool.not_eq_eq_eq_not, Bool.not_true, Bool.not_false, beq_eq_false_iff_ne, bne_eq_false_iff_eq, Bool.and_eq_true, Bool.or_eq_true, Bool.and_eq_false_imp, Bool.or_eq_false_iff, bq2, bqt, bqf] at hb)) | intro _))
     all_goals (refine qF (L' := []) ?_; refine ⟨YD ?_, rfl, rfl⟩; rw [hk]; first | omega | (simp only [decide_eq_true_eq, Bool.false_eq_true, true_iff, false_iff, true_and, and_true, beq_iff_eq, Bool.and_true, Bool.and_false, Bool.true_and, Bool.false_and, decide_true, decide_false] <;> omega))
    ·skip
     by_cases k9 : r.kind = 9
     ·have hk := hask ((1 ≤ r.nextTxn ∧ r.nextTxn ≤ 1073741824 ∧ v.t.n ≤ 8) ∧ q4 = true ∧ q5 = true) (by rw [if_neg k2, if_neg k3, if_neg k4, if_neg k5, if_pos k9]; simp)
      clear hask
      cases q4
      all_goals cases q5
      all_goals simp only [Bool.false_eq_true, and_true, and_false, false_and] at hk
      all_goals simp only [Bool.and_true, Bool.and_false] at h4
      all_goals (repeat' (first | (refine Ze (.func 95) ?_; refine qC rfl rfl (h1) ?_; rintro v ρ' L' hle ⟨rfl, rfl, rfl⟩ <;> (try simp only [kM, kN, kO])) | (refine Ze (.func 95) ?_; refine qC rfl rfl (h2) ?_; rintro v ρ' L' hle ⟨rfl, rfl, rfl⟩ <;> (try simp only [kM, kN, kO])) | (refine Ze (.func 96) ?_; refine qC rfl rfl (h3) ?_; rintro v ρ' L' hle ⟨rfl, rfl, rfl⟩ <;> (try simp only [kM, kN, kO])) | (refine Ze (.func 97) ?_; refine qC rfl rfl (h4) ?_; rintro v ρ' L' hle ⟨rfl, rfl, rfl⟩ <;> (try simp only [kM, kN, kO])) | (refine Ze (.func 98) ?_; refine qC rfl rfl (h5) ?_; rintro v ρ' L' hle ⟨rfl, rfl, rfl⟩ <;> (try simp only [kM, kN, kO])) | (refine ZE ?_; refine Zo (Zd rfl) rfl rfl ?_) | (refine Zj ?_; first | (refine Zf ?_; refine qQ ?_) | refine Zn ?_) | refine Zb ?_ | (refine Zi ?_; refine Zv ?_) | (refine Zh ?_; refine Zu ?_) | (refine Xd ?_; refine ZN rfl rfl (fun hb => ?_) (fun hb => ?_) <;> (try simp only [decide_eq_true_eq, decide_eq_false_iff_not, Bool.not_eq_true, Bool.not_eq_false, beq_iff_eq, bne_iff_ne, ne_eq, decide_eq_decide, Bool.not_eq_eq_eq_not, Bool.not_true, Bool.not_false, beq_eq_false_iff_ne, bne_eq_false_iff_eq, Bool.and_eq_true, Bool.or_eq_true, Bool.and_eq_false_imp, Bool.or_eq_false_iff, bq2, bqt, bqf] at hb)) | (refine Yn ?_; refine Ya rfl (fun hb => ?_) (fun hb => ?_) <;> (try simp only [decide_eq_true_eq, decide_eq_false_iff_not, Bool.not_eq_true, Bool.not_eq_false, beq_iff_eq, bne_iff_ne, ne_eq, decide_eq_decide, Bool.not_eq_eq_eq_not, Bool.not_true, Bool.not_false, beq_eq_false_iff_ne, bne_eq_false_iff_eq, Bool.and_eq_true, Bool.or_eq_true, Bool.and_eq_false_imp, Bool.or_eq_false_iff, bq2, bqt, bqf] at hb)) | intro _))
      all_goals (refine qF (L' := []) ?_; refine ⟨YD ?_, rfl, rfl⟩; rw [hk]; first | omega | (simp only [decide_eq_true_eq, Bool.false_eq_true, true_iff, false_iff, true_and, and_true, beq_iff_eq, Bool.and_true, Bool.and_false, Bool.true_and, Bool.false_and, decide_true, decide_false] <;> omega))
     ·skip
      have hk := hask True (by rw [if_neg k2, if_neg k3, if_neg k4, if_neg k5, if_neg k9]; simp)
      clear hask
      repeat' (first | (refine Ze (.func 95) ?_; refine qC rfl rfl (h1) ?_; rintro v ρ' L' hle ⟨rfl, rfl, rfl⟩ <;> (try simp only [kM, kN, kO])) | (refine Ze (.func 95) ?_; refine qC rfl rfl (h2) ?_; rintro v ρ' L' hle ⟨rfl, rfl, rfl⟩ <;> (try simp only [kM, kN, kO])) | (refine Ze (.func 96) ?_; refine qC rfl rfl (h3) ?_; rintro v ρ' L' hle ⟨rfl, rfl, rfl⟩ <;> (try simp only [kM, kN, kO])) | (refine Ze (.func 97) ?_; refine qC rfl rfl (h4) ?_; rintro v ρ' L' hle ⟨rfl, rfl, rfl⟩ <;> (try simp only [kM, kN, kO])) | (refine Ze (.func 98) ?_; refine qC rfl rfl (h5) ?_; rintro v ρ' L' hle ⟨rfl, rfl, rfl⟩ <;> (try simp only [kM, kN, kO])) | (refine ZE ?_; refine Zo (Zd rfl) rfl rfl ?_) | (refine Zj ?_; first | (refine Zf ?_; refine qQ ?_) | refine Zn ?_) | refine Zb ?_ | (refine Zi ?_; refine Zv ?_) | (refine Zh ?_; refine Zu ?_) | (refine Xd ?_; refine ZN rfl rfl (fun hb => ?_) (fun hb => ?_) <;> (try simp only [decide_eq_true_eq, decide_eq_false_iff_not, Bool.not_eq_true, Bool.not_eq_false, beq_iff_eq, bne_iff_ne, ne_eq, decide_eq_decide, Bool.not_eq_eq_eq_not, Bool.not_true, Bool.not_false, beq_eq_false_iff_ne, bne_eq_false_iff_eq, Bool.and_eq_true, Bool.or_eq_true, Bool.and_eq_false_imp, Bool.or_eq_false_iff, bq2, bqt, bqf] at hb)) | (refine Yn ?_; refine Ya rfl (fun hb => ?_) (fun hb => ?_) <;> (try simp only [decide_eq_true_eq, decide_eq_false_iff_not, Bool.not_eq_true, Bool.not_eq_false, beq_iff_eq, bne_iff_ne, ne_eq, decide_eq_decide, Bool.not_eq_eq_eq_not, Bool.not_true, Bool.not_false, beq_eq_false_iff_ne, bne_eq_false_iff_eq, Bool.and_eq_true, Bool.or_eq_true, Bool.and_eq_false_imp, Bool.or_eq_false_iff, bq2, bqt, bqf] at hb)) | intro _)
      all_goals (refine qF (L' := []) ?_; refine ⟨YD ?_, rfl, rfl⟩; rw [hk]; first | omega | (simp only [decide_eq_true_eq, Bool.false_eq_true, true_iff, false_iff, true_and, and_true, beq_iff_eq, Bool.and_true, Bool.and_false, Bool.true_and, Bool.false_and, decide_true, decide_false] <;> omega))
end Go.Proofs.E
namespace Go.Proofs.E
open Go
set_option linter.unusedVariables false
set_option linter.unusedSimpArgs false
set_option linter.unusedSectionVars false
set_option maxRecDepth 4000
set_option maxHeartbeats 1000000
attribute [local irreducible] Yl TL TC TE Spec Wq R1 Hp.le EnvLe TS TR YS Zs
instance (priority := 1200) eqCkP {x y : CkP} : EqC Tryz.prog 8 125 (.agg ⟨ckPV x⟩) (.agg ⟨ckPV y⟩) (decide (x = y)) := by
 have h : EqC Tryz.prog 8 125 (.agg ⟨[.int .i64 x.page, .int .u64 x.since]⟩) (.agg ⟨[.int .i64 y.page, .int .u64 y.since]⟩) _ := inferInstance
 refine ⟨fun d w hd => ?_⟩
 rw [h.out d w hd]
 congr 1
 obtain ⟨t, i⟩ := x
 obtain ⟨t', i'⟩ := y
 simp only [CkP.mk.injEq, Bool.and_true, Bool.decide_and]
 have e : ((i : Int) == (i' : Int)) = decide (i = i') := by
  by_cases h : i = i'
  ·subst h; simp
  ·rw [decide_eq_false h]; simp only [beq_eq_false_iff_ne, ne_eq]; omega
 rw [e]
 by_cases h1 : t = t' <;> by_cases h2 : i = i' <;> simp [h1, h2]
end Go.Proofs.E
namespace Go.Proofs.E
open Go Go.RowKit
set_option linter.unusedVariables false
set_option linter.unusedSimpArgs false
set_option linter.unusedSectionVars false
set_option maxRecDepth 8000
structure RosW (ρ : Hp) (v : SV) (r : Ros) : Prop where
 at' : AW ρ 7 Ym v r.txns
 tx : ∀ x ∈ r.txns, Tx.In ρ x
theorem RosW.in' {ρ v r} (h : RosW ρ v r) (hn : v.n ≤ 1000000) : RosIn ρ v r := ⟨⟨h.at'.at', hn, h.at'.cap⟩, h.tx⟩
theorem RosW.mono {ρ ρ' v r} (h : RosW ρ v r) (hle : ρ.le ρ') : RosW ρ' v r := ⟨h.at'.mono hle, fun x hx => (h.tx x hx).mono hle⟩
theorem sIn_ofA {ρ : Hp} {α : Type} {g : α → Value} {a : Option Addr} {n : Nat} {l : List α} (h : AIn ρ 1 (fun x => [g x]) a n l) : SIn ρ g a n l := by
 refine ⟨h.len, ?_⟩
 rcases h.out with h0 | ⟨b, off, C, T, fr, e1, e2, e3, e4⟩
 ·exact .inl h0
 ·right
  refine ⟨b, off, C, T, fr, e1, e2, ?_⟩
  have key : ∀ l : List α, (l.map (fun x => [g x])).flatten = l.map g := fun l => by
   induction l with
   | nil => rfl
   | cons a r ih => simp only [List.map_cons, List.flatten_cons, ih, List.singleton_append]
  have := key l
  rw [← this, ← e4]; simp
section
variable {H : Type} {enc : TypeId × Value → H} {w : World}
theorem opnS_left : OpnS enc Tryz.prog w 74 (fun cs (x : Lf) => cs = lfV x ∧ True) := fun fuel cs x h hw => by
 obtain ⟨hl, hf⟩ := YK Tryz.underlying74 h hw
 have hl : cs.length = 2 := by rw [hl]; kernel_rfl
 obtain ⟨c0, c1, rfl⟩ : ∃ c0 c1, cs = [c0, c1] := by
  match cs, hl with
  | [c0, c1], _ => exact ⟨c0, c1, rfl⟩
 obtain ⟨k, h0, k0, _⟩ := ZJ h hw Tryz.underlying74 0 0 1 rfl rfl rfl (by kernel_rfl) (Yx Tryz.underlying24).sized
 obtain ⟨f, h1, f0, f1⟩ := ZJ h hw Tryz.underlying74 1 1 1 rfl rfl rfl (by kernel_rfl) (Yx Tryz.underlying3).sized
 simp only [List.drop_zero, List.drop_succ_cons, List.take_succ_cons, List.take_zero, List.cons.injEq, and_true] at h0 h1
 subst h0; subst h1
 refine ⟨⟨k.toNat, f⟩, ?_, trivial⟩
 simp only [lfV, XP k0]
theorem opnS_u64 : OpnS enc Tryz.prog w 24 (fun cs (x : Nat) => cs = [ZU x] ∧ x < 18446744073709551616) := fun fuel cs x h hw => by
 obtain ⟨k, h0, k0, k1⟩ := (Yx Tryz.underlying24).sized fuel cs x h hw
 refine ⟨k.toNat, by rw [h0]; simp only [ZU, XP k0], ?_⟩
 simp only [lo, hi] at k0 k1; omega
theorem opnS_txn : OpnS enc Tryz.prog w 72 (fun cs (x : Tx) => cs = Ym x ∧ Tx.In (hpOf w) x) := fun fuel cs x h hw => by
 obtain ⟨hl, hf⟩ := YK Tryz.underlying72 h hw
 have hl : cs.length = 7 := by rw [hl]; kernel_rfl
 obtain ⟨c0, c1, c2, c3, c4, c5, c6, rfl⟩ : ∃ c0 c1 c2 c3 c4 c5 c6, cs = [c0, c1, c2, c3, c4, c5, c6] := by
  match cs, hl with
  | [c0, c1, c2, c3, c4, c5, c6], _ => exact ⟨c0, c1, c2, c3, c4, c5, c6, rfl⟩
 obtain ⟨k, h0, _⟩ := ZJ h hw Tryz.underlying72 0 0 1 rfl rfl rfl (by kernel_rfl) (Yx Tryz.underlying3).sized
 obtain ⟨s, h1, _⟩ := ZJ h hw Tryz.underlying72 1 1 1 rfl rfl rfl (by kernel_rfl) (Yx Tryz.underlying3).sized
 obtain ⟨f, h2, f0, _⟩ := ZJ h hw Tryz.underlying72 2 2 1 rfl rfl rfl (by kernel_rfl) (Yx Tryz.underlying24).sized
 obtain ⟨l, h3, l0, _⟩ := ZJ h hw Tryz.underlying72 3 3 1 rfl rfl rfl (by kernel_rfl) (Yx Tryz.underlying24).sized
 obtain ⟨u, h4, u0, _⟩ := ZJ h hw Tryz.underlying72 4 4 1 rfl rfl rfl (by kernel_rfl) (Yx Tryz.underlying24).sized
 obtain ⟨⟨sa, sn, sc, st⟩, h5, w5⟩ := ZJ h hw Tryz.underlying72 5 5 1 rfl rfl rfl (by kernel_rfl) (XB (sz := 2) (by' := 16) Tryz.underlying69 (by kernel_rfl) (by decide) (by kernel_rfl) opnS_left)
 obtain ⟨⟨ma, mn, mc, ms⟩, h6, w6⟩ := ZJ h hw Tryz.underlying72 6 6 1 rfl rfl rfl (by kernel_rfl) (XB (sz := 1) (by' := 8) Tryz.underlying70 (by kernel_rfl) (by decide) (by kernel_rfl) opnS_u64)
 obtain ⟨s1, s2, s3, _⟩ := aIn_ofW WA h5
 obtain ⟨m1, m2, m3, _⟩ := aIn_ofW (g := fun x : Nat => [ZU x]) (fun _ => rfl) h6
 simp only [reachBytes] at w5 w6
 replace h5 := h5.cells
 replace h6 := h6.cells
 simp only [List.drop_zero, List.drop_succ_cons, List.take_succ_cons, List.take_zero, List.cons.injEq, and_true] at h0 h1 h2 h3 h4 h5 h6
 subst h0; subst h1; subst h2; subst h3; subst h4; subst h5; subst h6
 refine ⟨⟨k, s, f.toNat, l.toNat, u.toNat, st, ms, ⟨sa, sn, sc⟩, ⟨ma, mn, mc⟩⟩, ?_, ⟨s1, sIn_ofA m1, by dsimp only; omega, by dsimp only; omega, s3, m3⟩⟩
 simp only [Ym, XP f0, XP l0, XP u0]
theorem opnS_roster : OpnS enc Tryz.prog w 34 (fun cs (x : SV × Ros) => cs = Yh x.1 x.2 ∧ RosW (hpOf w) x.1 x.2) := fun fuel cs x h hw => by
 obtain ⟨hl, hf⟩ := YK Tryz.underlying34 h hw
 have hl : cs.length = 2 := by rw [hl]; kernel_rfl
 obtain ⟨c0, c1, rfl⟩ : ∃ c0 c1, cs = [c0, c1] := by
  match cs, hl with
  | [c0, c1], _ => exact ⟨c0, c1, rfl⟩
 obtain ⟨k, h0, _⟩ := ZJ h hw Tryz.underlying34 0 0 1 rfl rfl rfl (by kernel_rfl) (Yx Tryz.underlying3).sized
 obtain ⟨⟨ta, tn, tc, ts⟩, h1, w1⟩ := ZJ h hw Tryz.underlying34 1 1 1 rfl rfl rfl (by kernel_rfl) (XB (sz := 7) (by' := 88) Tryz.underlying32 (by kernel_rfl) (by decide) (by kernel_rfl) opnS_txn)
 obtain ⟨t1, t2, t3, _⟩ := aIn_ofW Wy h1
 simp only [reachBytes] at w1
 replace h1 := h1.cells
 simp only [List.drop_zero, List.drop_succ_cons, List.take_succ_cons, List.take_zero, List.cons.injEq, and_true] at h0 h1
 subst h0; subst h1
 exact ⟨(⟨ta, tn, tc⟩, ⟨k, ts⟩), rfl, ⟨⟨t1, by dsimp only; omega, t3⟩, t2⟩⟩
end
end Go.Proofs.E
namespace Go.Proofs.E
open Go
set_option linter.unusedVariables false
set_option linter.unusedSimpArgs false
set_option linter.unusedSectionVars false
set_option maxRecDepth 4000
set_option maxHeartbeats 1000000
attribute [local irreducible] Yl TL TC TE Spec Wq R1 Hp.le EnvLe TS TR YS Zs
instance (priority := 1200) eqCkT {x y : CkT} : EqC Tryz.prog 8 81 (.agg ⟨ckTV x⟩) (.agg ⟨ckTV y⟩) (decide (x = y)) := by
 have h : EqC Tryz.prog 8 81 (.agg ⟨[.int .i64 x.txn, .int .u64 x.first, .int .u64 x.last, .int .u64 x.undo, .int .i64 x.state]⟩) (.agg ⟨[.int .i64 y.txn, .int .u64 y.first, .int .u64 y.last, .int .u64 y.undo, .int .i64 y.state]⟩) _ := inferInstance
 refine ⟨fun d w hd => ?_⟩
 rw [h.out d w hd]
 congr 1
 obtain ⟨t, a, b, c, s⟩ := x
 obtain ⟨t', a', b', c', s'⟩ := y
 simp only [CkT.mk.injEq, Bool.and_true, Bool.decide_and]
 have e : ∀ i i' : Nat, ((i : Int) == (i' : Int)) = decide (i = i') := fun i i' => by
  by_cases h : i = i'
  ·subst h; simp
  ·rw [decide_eq_false h]; simp only [beq_eq_false_iff_ne, ne_eq]; omega
 rw [e, e, e]
 have e2 : ∀ i i' : Int, (i == i') = decide (i = i') := fun i i' => by
  by_cases h : i = i' <;> simp [h]
 rw [e2, e2]
instance (priority := 1200) eqStp {x y : Stp} : EqC Tryz.prog 8 103 (.agg ⟨stpV x⟩) (.agg ⟨stpV y⟩) (decide (x = y)) := by
 have h : EqC Tryz.prog 8 103 (.agg ⟨[.int .i64 x.kind, .int .i64 x.row.t, .int .u16 x.row.id, .int .i64 x.row.val, strV x.row.note, .int .i64 x.by']⟩) (.agg ⟨[.int .i64 y.kind, .int .i64 y.row.t, .int .u16 y.row.id, .int .i64 y.row.val, strV y.row.note, .int .i64 y.by']⟩) _ := inferInstance
 refine ⟨fun d w hd => ?_⟩
 rw [h.out d w hd]
 congr 1
 obtain ⟨k, ⟨t, i, v, n⟩, b⟩ := x
 obtain ⟨k', ⟨t', i', v', n'⟩, b'⟩ := y
 simp only [Stp.mk.injEq, Row.mk.injEq, Bool.and_true, Bool.decide_and]
 have e : ∀ i i' : Nat, ((i : Int) == (i' : Int)) = decide (i = i') := fun i i' => by
  by_cases h : i = i'
  ·subst h; simp
  ·rw [decide_eq_false h]; simp only [beq_eq_false_iff_ne, ne_eq]; omega
 rw [e]
 have e2 : ∀ i i' : Int, (i == i') = decide (i = i') := fun i i' => by
  by_cases h : i = i' <;> simp [h]
 rw [e2, e2, e2, e2]
 simp only [Bool.and_assoc]
theorem cmpU64_spec (ρ : Hp) (x y : Nat) : Spec Tryz.prog 125 [.int .u64 x, .int .u64 y] ρ [] (fun v ρ' L' => v = .int .i64 (cmpI x y) ∧ ρ' = ρ ∧ L' = []) := by
 refine Zg Tryz.func125 rfl rfl rfl fun u R => ?_
 simp only [Zx, List.cons_append, List.nil_append]
 unfold cmpI
 split
 ·repeat' (first | (refine Ze (.func 206) ?_; refine qC rfl rfl (nanU64_spec _ _) ?_; rintro v ρ' L' hle ⟨rfl, rfl, rfl⟩ <;> (try simp only [kM, kN, kO])) | (refine ZE ?_; refine Zo (Zd rfl) rfl rfl ?_) | (refine Zj ?_; first | (refine Zf ?_; refine qQ ?_) | refine Zn ?_) | refine Zb ?_ | (refine Zi ?_; refine Zv ?_) | (refine Zh ?_; refine Zu ?_) | intro _)
  exact qE ⟨rfl, rfl, rfl⟩
 ·split
  ·repeat' (first | (refine Ze (.func 206) ?_; refine qC rfl rfl (nanU64_spec _ _) ?_; rintro v ρ' L' hle ⟨rfl, rfl, rfl⟩ <;> (try simp only [kM, kN, kO])) | (refine ZE ?_; refine Zo (Zd rfl) rfl rfl ?_) | (refine Zj ?_; first | (refine Zf ?_; refine qQ ?_) | refine Zn ?_) | refine Zb ?_ | (refine Zi ?_; refine Zv ?_) | (refine Zh ?_; refine Zu ?_) | intro _)
   exact qE ⟨rfl, rfl, rfl⟩
  ·repeat' (first | (refine Ze (.func 206) ?_; refine qC rfl rfl (nanU64_spec _ _) ?_; rintro v ρ' L' hle ⟨rfl, rfl, rfl⟩ <;> (try simp only [kM, kN, kO])) | (refine ZE ?_; refine Zo (Zd rfl) rfl rfl ?_) | (refine Zj ?_; first | (refine Zf ?_; refine qQ ?_) | refine Zn ?_) | refine Zb ?_ | (refine Zi ?_; refine Zv ?_) | (refine Zh ?_; refine Zu ?_) | intro _)
   exact qE ⟨rfl, rfl, rfl⟩
theorem least1_spec (ρ : Hp) (x y : Tx) : Spec Tryz.prog 124 [.agg ⟨Ym x⟩, .agg ⟨Ym y⟩] ρ [] (fun v ρ' L' => v = .int .i64 (cmpI x.first y.first) ∧ ρ' = ρ ∧ L' = []) := by
 refine Zg Tryz.func124 rfl rfl rfl fun u R => ?_
 simp only [Zx, List.cons_append, List.nil_append]
 repeat' (first | (refine Ze (.func 125) ?_; refine qC rfl rfl (cmpU64_spec _ _ _) ?_; rintro v ρ' L' hle ⟨rfl, rfl, rfl⟩ <;> (try simp only [kM, kN, kO])) | (refine ZE ?_; refine Zo (Zd rfl) rfl rfl ?_) | (refine Zj ?_; first | (refine Zf ?_; refine qQ ?_) | refine Zn ?_) | refine Zb ?_ | (refine Zi ?_; refine Zv ?_) | (refine Zh ?_; refine Zu ?_) | intro _)
 exact qE ⟨rfl, rfl, rfl⟩
theorem minTx_spec (ρ : Hp) (s : SV) (l : List Tx) (h : AS ρ 7 Ym s l) (h0 : 0 < l.length) :
  Spec Tryz.prog 123 [.slice s.a s.n s.c, .func (.func 124) ⟨[]⟩ ⟨[]⟩] ρ [] (fun z ρ' L' => ρ' = ρ ∧ ∃ y, z = .agg ⟨Ym y⟩ ∧ y ∈ l ∧ (∀ x ∈ l, y.first ≤ x.first) ∧ L' = []) := by
 have hl := h.at'.len
 have hn := h.big
 have hA := h.at'
 obtain ⟨b, off, C, T, fr, f1, hb, hfit, hc⟩ := hA.get h0
 have hm0 := List.getElem_mem h0
 have hle0 : ∀ x ∈ l.take 1, (l[0]'h0).first ≤ x.first := fun x hx => by
  rw [List.take_succ_eq_append_getElem h0] at hx
  simp at hx; rw [hx]; exact Nat.le_refl _
 generalize l[0]'h0 = y0 at *
 refine Zg Tryz.func123 rfl rfl rfl fun u R => ?_
 simp only [Zx, List.cons_append, List.nil_append]
 rw [f1]
 repeat' (first | (refine ZE ?_; refine Zo (Zd rfl) rfl rfl ?_) | (refine Zj ?_; first | (refine Zf ?_; refine qQ ?_) | refine Zn ?_) | refine Zb ?_ | (refine Zi ?_; refine Zv ?_) | (refine Zh ?_; refine Zu ?_) | intro _)
 refine ZB [(0, _), (1, _), (4, _), (5, _)] (fun (ζ : (Nat) × (Tx)) => [(6, .int .i64 ζ.1)]) (fun (ζ : (Nat) × (Tx)) => ρ) (fun (ζ : (Nat) × (Tx)) => [[(_, .cells ⟨Ym ζ.2⟩ 72 (0, 0))]]) (fun (ζ : (Nat) × (Tx)) => ζ.1 ≤ s.n ∧ 1 ≤ ζ.1 ∧ ζ.2 ∈ l ∧ ∀ x ∈ l.take ζ.1, ζ.2.first ≤ x.first) (fun (ζ : (Nat) × (Tx)) => s.n - ζ.1) ((1, y0)) (⟨by dsimp only; omega, Nat.le_refl _, hm0, hle0⟩) Zm Zm rfl tk ?_
 rintro ⟨k, y⟩ hI
 try simp only [List.cons_append, List.nil_append, List.append_assoc, List.append_eq] at hI ⊢
 try dsimp only at hI ⊢
 obtain ⟨hk, hk1, hy, hmin⟩ := hI
 by_cases hlt : k < s.n
 ·obtain ⟨b2, off2, C2, T2, fr2, f2, hb2, hfit2, hc2⟩ := hA.get (show k < l.length by omega)
  have ht := List.take_succ_eq_append_getElem (show k < l.length by omega)
  have hmx := List.getElem_mem (show k < l.length by omega)
  generalize l[k]'(by omega) = x at *
  rw [f1] at f2
  cases f2
  rw [hb] at hb2
  cases hb2
  by_cases hxy : x.first < y.first
  ·have hcm : cmpI (x.first : Int) y.first < 0 := by unfold cmpI; rw [if_pos (by omega)]; omega
   have hmin2 : ∀ z ∈ l.take (k + 1), x.first ≤ z.first := fun z hz => by
    rw [ht] at hz
    rcases List.mem_append.1 hz with hz | hz
    ·have := hmin z hz; omega
    ·rw [List.mem_singleton.1 hz]; exact Nat.le_refl _
   repeat' (first | (refine ZE ?_; refine Zo (Zd rfl) rfl rfl ?_) | (refine Zj ?_; first | (refine Zf ?_; refine qQ ?_) | refine Zn ?_) | refine Zb ?_ | (refine Zi ?_; refine Zv ?_) | (refine Zh ?_; refine Zu ?_) | intro _)
   refine ZD (Zs _ _ _) ZF ?_
   all_goals (refine ZT 0 ?_; refine ZT 1 ?_; refine ZT 2 ?_; refine rIa 3 ?_; refine ZX 4 ?_; refine ZX 5 ?_)
   all_goals (refine Zp (i := 6) ?_; ((try refine Zk ?_); (first | (refine Ze (.tmp 20) ?_; refine qC rfl rfl (least1_spec _ _ _) ?_; rintro v ρ' L' hle ⟨rfl, rfl, rfl⟩ <;> (try simp only [kM, kN, kO])) | (refine Zn ?_; try intro _)) <;> ((try simp only [kM, kN, kO]); refine Zb ?_; refine Zl ?_)))
   all_goals (refine ZO ?_; refine rCm 7 ?_; refine ZI ?_)
   all_goals (repeat' (first | (refine ZE ?_; refine Zo (Zd rfl) rfl rfl ?_) | (refine Zj ?_; first | (refine Zf ?_; refine qQ ?_) | refine Zn ?_) | refine Zb ?_ | (refine Zi ?_; refine Zv ?_) | (refine Zh ?_; refine Zu ?_) | intro _))
   all_goals refine Zq (k + 1, x) (⟨hlt, by dsimp only; omega, hmx, hmin2⟩) Zm Zm rfl tk inferInstance (by first | omega | (dsimp only; omega))
  ·have hcm : ¬ cmpI (x.first : Int) y.first < 0 := by unfold cmpI; rw [if_neg (by omega)]; split <;> omega
   have hmin2 : ∀ z ∈ l.take (k + 1), y.first ≤ z.first := fun z hz => by
    rw [ht] at hz
    rcases List.mem_append.1 hz with hz | hz
    ·exact hmin z hz
    ·rw [List.mem_singleton.1 hz]; omega
   repeat' (first | (refine ZE ?_; refine Zo (Zd rfl) rfl rfl ?_) | (refine Zj ?_; first | (refine Zf ?_; refine qQ ?_) | refine Zn ?_) | refine Zb ?_ | (refine Zi ?_; refine Zv ?_) | (refine Zh ?_; refine Zu ?_) | intro _)
   refine ZD (Zs _ _ _) ZF ?_
   all_goals (refine ZT 0 ?_; refine ZT 1 ?_; refine ZT 2 ?_; refine rIa 3 ?_; refine ZX 4 ?_; refine ZX 5 ?_)
   all_goals (refine Zp (i := 6) ?_; ((try refine Zk ?_); (first | (refine Ze (.tmp 20) ?_; refine qC rfl rfl (least1_spec _ _ _) ?_; rintro v ρ' L' hle ⟨rfl, rfl, rfl⟩ <;> (try simp only [kM, kN, kO])) | (refine Zn ?_; try intro _)) <;> ((try simp only [kM, kN, kO]); refine Zb ?_; refine Zl ?_)))
   all_goals (refine ZO ?_; refine rCm 7 ?_; refine ZI ?_)
   all_goals (repeat' (first | (refine ZE ?_; refine Zo (Zd rfl) rfl rfl ?_) | (refine Zj ?_; first | (refine Zf ?_; refine qQ ?_) | refine Zn ?_) | refine Zb ?_ | (refine Zi ?_; refine Zv ?_) | (refine Zh ?_; refine Zu ?_) | intro _))
   all_goals refine Zq (k + 1, y) (⟨hlt, by dsimp only; omega, hy, hmin2⟩) Zm Zm rfl tk inferInstance (by first | omega | (dsimp only; omega))
 ·have hk2 : k = l.length := by omega
  rw [hk2, List.take_length] at hmin
  repeat' (first | (refine ZE ?_; refine Zo (Zd rfl) rfl rfl ?_) | (refine Zj ?_; first | (refine Zf ?_; refine qQ ?_) | refine Zn ?_) | refine Zb ?_ | (refine Zi ?_; refine Zv ?_) | (refine Zh ?_; refine Zu ?_) | intro _)
  exact qE (L' := []) ⟨rfl, y, rfl, hy, hmin, rfl⟩
theorem sort_le {m : List Nat} (h : sortB m = true) : ∀ {i j : Nat}, i ≤ j → j < m.length → m.getD i 0 ≤ m.getD j 0 := by
 intro i j
 induction j with
 | zero => intro hij _; rw [show i = 0 by omega]; exact Nat.le_refl _
 | succ j ih =>
  intro hij hj
  by_cases e : i = j + 1
  ·rw [e]; exact Nat.le_refl _
  ·have h1 := ih (by omega) (by omega)
   have h2 := List.all_eq_true.1 h (j + 1) (List.mem_range.2 hj)
   rw [decide_eq_true_eq] at h2
   rcases h2 with h2 | h2
   ·omega
   ·simp only [Nat.add_sub_cancel] at h2; omega
def markP (x : Tx) (i : Nat) : Prop := x.first ≤ x.marks.getD i 0 ∧ x.marks.getD i 0 ≤ x.undo ∧ (i = 0 ∨ x.marks.getD (i - 1) 0 ≤ x.marks.getD i 0)
theorem marks_all {x : Tx} (h : ∀ i, i < x.marks.length → markP x i) (h8 : x.marks.length ≤ 8) : WR x = decide (x.marks.length = 0 ∨ x.state = 1) := by
 unfold WR
 by_cases h0 : x.marks.length = 0
 ·simp [h0]
 ·have hs : sortB x.marks = true := List.all_eq_true.2 (fun i hi => decide_eq_true (h i (List.mem_range.1 hi)).2.2)
  have e1 := (h 0 (by omega)).1
  have e2 := (h (x.marks.length - 1) (by omega)).2.1
  rw [hs, decide_eq_false h0, Bool.false_or, Bool.true_and, decide_eq_true (⟨e1, e2⟩ : _ ∧ _), Bool.and_true]
  exact decide_eq_decide.2 (by omega)
theorem marks_bad {x : Tx} {k : Nat} (hk : k < x.marks.length) (h : ¬ markP x k) : WR x = false := by
 cases hb : WR x with
 | false => rfl
 | true =>
  exfalso
  unfold WR at hb
  rw [decide_eq_false (by omega), Bool.false_or, Bool.and_eq_true, Bool.and_eq_true, decide_eq_true_eq, decide_eq_true_eq] at hb
  obtain ⟨_, hs, h1, h2⟩ := hb
  refine h ⟨?_, ?_, ?_⟩
  ·have := sort_le hs (Nat.zero_le k) hk; omega
  ·have := sort_le hs (show k ≤ x.marks.length - 1 by omega) (by omega); omega
  ·by_cases e : k = 0
   ·exact .inl e
   ·exact .inr (sort_le hs (by omega) hk)
def tx18B (x : Tx) : Bool := decide (1 ≤ x.state ∧ x.state ≤ 3 ∧ 1 ≤ x.first ∧ x.first ≤ x.undo ∧ x.undo ≤ x.last ∧ x.last ≤ 1099511627776) && (Wr x.undo x.first x.stack && WR x)
theorem txn18_spec (ρ : Hp) (x : Tx) (h : Tx.In ρ x) : Spec Tryz.prog 129 [.agg ⟨Ym x⟩] ρ [] (fun v ρ' L' => v = .bool (tx18B x) ∧ ρ' = ρ ∧ L' = []) := by
 have hsl := h.s.len
 have hml := h.m.len
 have hsb := h.sb
 have hmb := h.mb
 unfold tx18B
 refine Zg Tryz.func129 rfl rfl rfl fun u R => ?_
 simp only [Zx, List.cons_append, List.nil_append]
 by_cases hH : (1 ≤ x.state ∧ x.state ≤ 3 ∧ 1 ≤ x.first ∧ x.first ≤ x.undo ∧ x.undo ≤ x.last ∧ x.last ≤ 1099511627776)
 ·rw [decide_eq_true hH, Bool.true_and]
  obtain ⟨g1, g2, g3, g4, g5, g6⟩ := hH
  by_cases h8 : x.mv.n ≤ 8
  ·repeat' (first | (refine ZE ?_; refine Zo (Zd rfl) rfl rfl ?_) | (refine Zj ?_; first | (refine Zf ?_; refine qQ ?_) | refine Zn ?_) | refine Zb ?_ | (refine Zi ?_; refine Zv ?_) | (refine Zh ?_; refine Zu ?_) | intro _)
   generalize hq : Wr x.undo x.first x.stack = q
   rename_i bx
   refine ZB [(1, _), (46, _), (47, _)] (fun (ζ : (Nat) × (Nat)) => [(48, .int .i64 ζ.1), (2, .bool false)]) (fun (ζ : (Nat) × (Nat)) => ρ) (fun (ζ : (Nat) × (Nat)) => [[(bx, .cells ⟨Ym x⟩ 72 (0, 0))]]) (fun (ζ : (Nat) × (Nat)) => ζ.1 ≤ x.sv.n ∧ Wr x.undo ζ.2 (x.stack.drop ζ.1) = q ∧ x.first ≤ ζ.2 ∧ (ζ.1 = 0 → ζ.2 = x.first) ∧ (∀ y, 0 < ζ.1 → x.stack[ζ.1 - 1]? = some y → y.lsn = ζ.2)) (fun (ζ : (Nat) × (Nat)) => x.sv.n - ζ.1) ((0, x.first)) (⟨Nat.zero_le _, hq, Nat.le_refl _, fun _ => rfl, fun _ h => absurd h (Nat.lt_irrefl _)⟩) Zm Zm rfl tk ?_
   rintro ⟨k, last⟩ hI
   try simp only [List.cons_append, List.nil_append, List.append_assoc, List.append_eq] at hI ⊢
   try dsimp only at hI ⊢
   obtain ⟨hk, hok, hfl, hk0, hky⟩ := hI
   by_cases hlt : k < x.sv.n
   ·obtain ⟨b, off, C, T, fr, e1, hb, hfit, hc⟩ := h.s.get (show k < x.stack.length by omega)
    have hnext : ∀ y, 0 < k + 1 → x.stack[k + 1 - 1]? = some y → y.lsn = (x.stack[k]'(by omega)).lsn := fun y _ hy => by
     rw [Nat.add_sub_cancel, List.getElem?_eq_getElem (by omega)] at hy
     rw [Option.some.inj hy]
    rw [List.drop_eq_getElem_cons (show k < x.stack.length by omega), Wr] at hok
    generalize x.stack[k]'(by omega) = y at *
    (try dsimp only [Ym]); rw [e1]
    by_cases hz : k = 0
    ·have hl0 := hk0 hz
     by_cases hy : last < y.lsn ∧ y.lsn ≤ x.undo ∧ 1 ≤ y.cost ∧ y.cost ≤ 400
     ·rw [decide_eq_true hy, Bool.true_and] at hok
      repeat' (first | (refine ZE ?_; refine Zo (Zd rfl) rfl rfl ?_) | (refine Zj ?_; first | (refine Zf ?_; refine qQ ?_) | refine Zn ?_) | refine Zb ?_ | (refine Zi ?_; refine Zv ?_) | (refine Zh ?_; refine Zu ?_) | intro _)
      refine ZD (Zs _ _ _) ZF ?_
      all_goals (refine ZS 0 ?_; refine ZO ?_; refine ZX 1 ?_; refine ZS 2 ?_; refine ZX 3 ?_; refine rCm 4 ?_; refine ZT 5 ?_)
      all_goals (first | refine Zc 6 ?_ | refine Za 6 ?_ | refine ZW 6 ?_ | (refine Zw (t := 58) rfl (fun hb => ?_) (fun hb => ?_) <;> (try simp only [kk] at hb) <;> first | refine Zc 6 ?_ | refine Za 6 ?_ | refine ZW 6 ?_))
      all_goals ((first | refine Zc 7 ?_ | refine Za 7 ?_ | refine Yb 7 ?_); (first | refine Zc 8 ?_ | refine Za 8 ?_ | refine ZW 8 ?_); (first | refine Zc 9 ?_ | refine Za 9 ?_ | refine Yb 9 ?_); (first | refine Zc 10 ?_ | refine Za 10 ?_ | refine Yw 10 ?_); refine YA 11 ?_; refine ZT 12 ?_)
      all_goals (first | refine Zc 13 ?_ | refine Za 13 ?_ | refine ZP 13 ?_ | (refine Zw (t := 65) rfl (fun hb => ?_) (fun hb => ?_) <;> (try simp only [kk] at hb) <;> first | refine Zc 13 ?_ | refine Za 13 ?_ | refine ZP 13 ?_))
      all_goals ((first | refine Zc 14 ?_ | refine Za 14 ?_ | refine Yw 14 ?_); (first | refine Zc 15 ?_ | refine Za 15 ?_ | refine ZP 15 ?_))
      all_goals (first | refine Zc 16 ?_ | refine Za 16 ?_ | refine ZW 16 ?_ | (refine Zw (t := 68) rfl (fun hb => ?_) (fun hb => ?_) <;> (try simp only [kk] at hb) <;> first | refine Zc 16 ?_ | refine Za 16 ?_ | refine ZW 16 ?_))
      all_goals ((first | refine Zc 17 ?_ | refine Za 17 ?_ | refine Yb 17 ?_); (first | refine Zc 18 ?_ | refine Za 18 ?_ | refine ZP 18 ?_); (first | refine Zc 19 ?_ | refine Za 19 ?_ | refine wSb 19 ?_); (first | refine Zc 20 ?_ | refine Za 20 ?_ | refine wIa 20 ?_); (first | refine Zc 21 ?_ | refine Za 21 ?_ | refine ZW 21 ?_); (first | refine Zc 22 ?_ | refine Za 22 ?_ | refine Yb 22 ?_); (first | refine Zc 23 ?_ | refine Za 23 ?_ | refine ZW 23 ?_); (first | refine Zc 24 ?_ | refine Za 24 ?_ | refine Yb 24 ?_); (first | refine Zc 25 ?_ | refine Za 25 ?_ | refine Yw 25 ?_); (first | refine Zc 26 ?_ | refine Za 26 ?_ | refine wPk 26 ?_); refine YA 27 ?_; refine ZT 28 ?_)
      all_goals (first | refine Zc 29 ?_ | refine Za 29 ?_ | refine ZW 29 ?_ | (refine Zw (t := 81) rfl (fun hb => ?_) (fun hb => ?_) <;> (try simp only [kk] at hb) <;> first | refine Zc 29 ?_ | refine Za 29 ?_ | refine ZW 29 ?_))
      all_goals ((first | refine Zc 30 ?_ | refine Za 30 ?_ | refine Yb 30 ?_); (first | refine Zc 31 ?_ | refine Za 31 ?_ | refine Yw 31 ?_); refine YA 32 ?_; refine ZT 33 ?_)
      all_goals (first | refine Zc 34 ?_ | refine Za 34 ?_ | refine ZW 34 ?_ | (refine Zw (t := 86) rfl (fun hb => ?_) (fun hb => ?_) <;> (try simp only [kk] at hb) <;> first | refine Zc 34 ?_ | refine Za 34 ?_ | refine ZW 34 ?_))
      all_goals ((first | refine Zc 35 ?_ | refine Za 35 ?_ | refine Yb 35 ?_); (first | refine Zc 36 ?_ | refine Za 36 ?_ | refine Yw 36 ?_); refine YA 37 ?_; refine ZI ?_)
      all_goals (repeat' (first | (refine ZE ?_; refine Zo (Zd rfl) rfl rfl ?_) | (refine Zj ?_; first | (refine Zf ?_; refine qQ ?_) | refine Zn ?_) | refine Zb ?_ | (refine Zi ?_; refine Zv ?_) | (refine Zh ?_; refine Zu ?_) | intro _))
      all_goals rw [← e1]
      all_goals refine Zq (k + 1, y.lsn) (⟨hlt, hok, by dsimp only; omega, fun h => by omega, hnext⟩) Zm Zm rfl tk inferInstance (by first | omega | (dsimp only; omega))
     ·rw [decide_eq_false hy, Bool.false_and] at hok
      subst hok
      rw [Bool.false_and]
      repeat' (first | (refine ZE ?_; refine Zo (Zd rfl) rfl rfl ?_) | (refine Zj ?_; first | (refine Zf ?_; refine qQ ?_) | refine Zn ?_) | refine Zb ?_ | (refine Zi ?_; refine Zv ?_) | (refine Zh ?_; refine Zu ?_) | intro _)
      refine ZD (Zs _ _ _) ZF ?_
      all_goals (refine ZS 0 ?_; refine ZO ?_; refine ZX 1 ?_; refine ZS 2 ?_; refine ZX 3 ?_; refine rCm 4 ?_; refine ZT 5 ?_)
      all_goals (first | refine Zc 6 ?_ | refine Za 6 ?_ | refine ZW 6 ?_ | (refine Zw (t := 58) rfl (fun hb => ?_) (fun hb => ?_) <;> (try simp only [kk] at hb) <;> first | refine Zc 6 ?_ | refine Za 6 ?_ | refine ZW 6 ?_))
      all_goals ((first | refine Zc 7 ?_ | refine Za 7 ?_ | refine Yb 7 ?_); (first | refine Zc 8 ?_ | refine Za 8 ?_ | refine ZW 8 ?_); (first | refine Zc 9 ?_ | refine Za 9 ?_ | refine Yb 9 ?_); (first | refine Zc 10 ?_ | refine Za 10 ?_ | refine Yw 10 ?_); refine YA 11 ?_; refine ZT 12 ?_)
      all_goals (first | refine Zc 13 ?_ | refine Za 13 ?_ | refine ZP 13 ?_ | (refine Zw (t := 65) rfl (fun hb => ?_) (fun hb => ?_) <;> (try simp only [kk] at hb) <;> first | refine Zc 13 ?_ | refine Za 13 ?_ | refine ZP 13 ?_))
      all_goals ((first | refine Zc 14 ?_ | refine Za 14 ?_ | refine Yw 14 ?_); (first | refine Zc 15 ?_ | refine Za 15 ?_ | refine ZP 15 ?_))
      all_goals (first | refine Zc 16 ?_ | refine Za 16 ?_ | refine ZW 16 ?_ | (refine Zw (t := 68) rfl (fun hb => ?_) (fun hb => ?_) <;> (try simp only [kk] at hb) <;> first | refine Zc 16 ?_ | refine Za 16 ?_ | refine ZW 16 ?_))
      all_goals ((first | refine Zc 17 ?_ | refine Za 17 ?_ | refine Yb 17 ?_); (first | refine Zc 18 ?_ | refine Za 18 ?_ | refine ZP 18 ?_); (first | refine Zc 19 ?_ | refine Za 19 ?_ | refine wSb 19 ?_); (first | refine Zc 20 ?_ | refine Za 20 ?_ | refine wIa 20 ?_); (first | refine Zc 21 ?_ | refine Za 21 ?_ | refine ZW 21 ?_); (first | refine Zc 22 ?_ | refine Za 22 ?_ | refine Yb 22 ?_); (first | refine Zc 23 ?_ | refine Za 23 ?_ | refine ZW 23 ?_); (first | refine Zc 24 ?_ | refine Za 24 ?_ | refine Yb 24 ?_); (first | refine Zc 25 ?_ | refine Za 25 ?_ | refine Yw 25 ?_); (first | refine Zc 26 ?_ | refine Za 26 ?_ | refine wPk 26 ?_); refine YA 27 ?_; refine ZT 28 ?_)
      all_goals (first | refine Zc 29 ?_ | refine Za 29 ?_ | refine ZW 29 ?_ | (refine Zw (t := 81) rfl (fun hb => ?_) (fun hb => ?_) <;> (try simp only [kk] at hb) <;> first | refine Zc 29 ?_ | refine Za 29 ?_ | refine ZW 29 ?_))
      all_goals ((first | refine Zc 30 ?_ | refine Za 30 ?_ | refine Yb 30 ?_); (first | refine Zc 31 ?_ | refine Za 31 ?_ | refine Yw 31 ?_); refine YA 32 ?_; refine ZT 33 ?_)
      all_goals (first | refine Zc 34 ?_ | refine Za 34 ?_ | refine ZW 34 ?_ | (refine Zw (t := 86) rfl (fun hb => ?_) (fun hb => ?_) <;> (try simp only [kk] at hb) <;> first | refine Zc 34 ?_ | refine Za 34 ?_ | refine ZW 34 ?_))
      all_goals ((first | refine Zc 35 ?_ | refine Za 35 ?_ | refine Yb 35 ?_); (first | refine Zc 36 ?_ | refine Za 36 ?_ | refine Yw 36 ?_); refine YA 37 ?_; refine ZI ?_)
      all_goals (repeat' (first | (refine ZE ?_; refine Zo (Zd rfl) rfl rfl ?_) | (refine Zj ?_; first | (refine Zf ?_; refine qQ ?_) | refine Zn ?_) | refine Zb ?_ | (refine Zi ?_; refine Zv ?_) | (refine Zh ?_; refine Zu ?_) | (refine Xd ?_; refine ZN rfl rfl (fun hb => ?_) (fun hb => ?_) <;> (try simp only [decide_eq_true_eq, decide_eq_false_iff_not, Bool.not_eq_true, Bool.not_eq_false, beq_iff_eq, bne_iff_ne, ne_eq, decide_eq_decide, Bool.not_eq_eq_eq_not, Bool.not_true, Bool.not_false, beq_eq_false_iff_ne, bne_eq_false_iff_eq, Bool.and_eq_true, Bool.or_eq_true, Bool.and_eq_false_imp, Bool.or_eq_false_iff, bq2, bqt, bqf] at hb)) | (refine Yn ?_; refine Ya rfl (fun hb => ?_) (fun hb => ?_) <;> (try simp only [decide_eq_true_eq, decide_eq_false_iff_not, Bool.not_eq_true, Bool.not_eq_false, beq_iff_eq, bne_iff_ne, ne_eq, decide_eq_decide, Bool.not_eq_eq_eq_not, Bool.not_true, Bool.not_false, beq_eq_false_iff_ne, bne_eq_false_iff_eq, Bool.and_eq_true, Bool.or_eq_true, Bool.and_eq_false_imp, Bool.or_eq_false_iff, bq2, bqt, bqf] at hb)) | intro _))
      all_goals first | exact qE (L' := []) ⟨rfl, rfl, rfl⟩ | (exfalso; omega)
    ·obtain ⟨b2, off2, C2, T2, fr2, f1, hb2, hfit2, hc2⟩ := h.s.get (show k - 1 < x.stack.length by omega)
     have hlp := hky _ (by omega) (List.getElem?_eq_getElem (show k - 1 < x.stack.length by omega))
     generalize x.stack[k - 1]'(by omega) = p at *
     rw [e1] at f1
     cases f1
     rw [hb] at hb2
     cases hb2
     have ek : ((k : Int) - 1).toNat = k - 1 := by omega
     have hcy : C[off + ((k : Int) - 1).toNat * 2]? = some (.int .u64 p.lsn) := by
      have := congrArg (fun l => l[0]?) hc2
      rw [ek]
      simp only [List.getElem?_take, List.getElem?_drop] at this
      simpa using this
     by_cases hy : last < y.lsn ∧ y.lsn ≤ x.undo ∧ 1 ≤ y.cost ∧ y.cost ≤ 400
     ·rw [decide_eq_true hy, Bool.true_and] at hok
      repeat' (first | (refine ZE ?_; refine Zo (Zd rfl) rfl rfl ?_) | (refine Zj ?_; first | (refine Zf ?_; refine qQ ?_) | refine Zn ?_) | refine Zb ?_ | (refine Zi ?_; refine Zv ?_) | (refine Zh ?_; refine Zu ?_) | intro _)
      refine ZD (Zs _ _ _) ZF ?_
      all_goals (refine ZS 0 ?_; refine ZO ?_; refine ZX 1 ?_; refine ZS 2 ?_; refine ZX 3 ?_; refine rCm 4 ?_; refine ZT 5 ?_)
      all_goals (first | refine Zc 6 ?_ | refine Za 6 ?_ | refine ZW 6 ?_ | (refine Zw (t := 58) rfl (fun hb => ?_) (fun hb => ?_) <;> (try simp only [kk] at hb) <;> first | refine Zc 6 ?_ | refine Za 6 ?_ | refine ZW 6 ?_))
      all_goals ((first | refine Zc 7 ?_ | refine Za 7 ?_ | refine Yb 7 ?_); (first | refine Zc 8 ?_ | refine Za 8 ?_ | refine ZW 8 ?_); (first | refine Zc 9 ?_ | refine Za 9 ?_ | refine Yb 9 ?_); (first | refine Zc 10 ?_ | refine Za 10 ?_ | refine Yw 10 ?_); refine YA 11 ?_; refine ZT 12 ?_)
      all_goals (first | refine Zc 13 ?_ | refine Za 13 ?_ | refine ZP 13 ?_ | (refine Zw (t := 65) rfl (fun hb => ?_) (fun hb => ?_) <;> (try simp only [kk] at hb) <;> first | refine Zc 13 ?_ | refine Za 13 ?_ | refine ZP 13 ?_))
      all_goals ((first | refine Zc 14 ?_ | refine Za 14 ?_ | refine Yw 14 ?_); (first | refine Zc 15 ?_ | refine Za 15 ?_ | refine ZP 15 ?_))
      all_goals (first | refine Zc 16 ?_ | refine Za 16 ?_ | refine ZW 16 ?_ | (refine Zw (t := 68) rfl (fun hb => ?_) (fun hb => ?_) <;> (try simp only [kk] at hb) <;> first | refine Zc 16 ?_ | refine Za 16 ?_ | refine ZW 16 ?_))
      all_goals ((first | refine Zc 17 ?_ | refine Za 17 ?_ | refine Yb 17 ?_); (first | refine Zc 18 ?_ | refine Za 18 ?_ | refine ZP 18 ?_); (first | refine Zc 19 ?_ | refine Za 19 ?_ | refine wSb 19 ?_); (first | refine Zc 20 ?_ | refine Za 20 ?_ | refine wIa 20 ?_); (first | refine Zc 21 ?_ | refine Za 21 ?_ | refine ZW 21 ?_); (first | refine Zc 22 ?_ | refine Za 22 ?_ | refine Yb 22 ?_); (first | refine Zc 23 ?_ | refine Za 23 ?_ | refine ZW 23 ?_); (first | refine Zc 24 ?_ | refine Za 24 ?_ | refine Yb 24 ?_); (first | refine Zc 25 ?_ | refine Za 25 ?_ | refine Yw 25 ?_); (first | refine Zc 26 ?_ | refine Za 26 ?_ | refine wPk 26 ?_); refine YA 27 ?_; refine ZT 28 ?_)
      all_goals (first | refine Zc 29 ?_ | refine Za 29 ?_ | refine ZW 29 ?_ | (refine Zw (t := 81) rfl (fun hb => ?_) (fun hb => ?_) <;> (try simp only [kk] at hb) <;> first | refine Zc 29 ?_ | refine Za 29 ?_ | refine ZW 29 ?_))
      all_goals ((first | refine Zc 30 ?_ | refine Za 30 ?_ | refine Yb 30 ?_); (first | refine Zc 31 ?_ | refine Za 31 ?_ | refine Yw 31 ?_); refine YA 32 ?_; refine ZT 33 ?_)
      all_goals (first | refine Zc 34 ?_ | refine Za 34 ?_ | refine ZW 34 ?_ | (refine Zw (t := 86) rfl (fun hb => ?_) (fun hb => ?_) <;> (try simp only [kk] at hb) <;> first | refine Zc 34 ?_ | refine Za 34 ?_ | refine ZW 34 ?_))
      all_goals ((first | refine Zc 35 ?_ | refine Za 35 ?_ | refine Yb 35 ?_); (first | refine Zc 36 ?_ | refine Za 36 ?_ | refine Yw 36 ?_); refine YA 37 ?_; refine ZI ?_)
      all_goals (repeat' (first | (refine ZE ?_; refine Zo (Zd rfl) rfl rfl ?_) | (refine Zj ?_; first | (refine Zf ?_; refine qQ ?_) | refine Zn ?_) | refine Zb ?_ | (refine Zi ?_; refine Zv ?_) | (refine Zh ?_; refine Zu ?_) | intro _))
      all_goals rw [← e1]
      all_goals refine Zq (k + 1, y.lsn) (⟨hlt, hok, by dsimp only; omega, fun h => by omega, hnext⟩) Zm Zm rfl tk inferInstance (by first | omega | (dsimp only; omega))
     ·rw [decide_eq_false hy, Bool.false_and] at hok
      subst hok
      rw [Bool.false_and]
      repeat' (first | (refine ZE ?_; refine Zo (Zd rfl) rfl rfl ?_) | (refine Zj ?_; first | (refine Zf ?_; refine qQ ?_) | refine Zn ?_) | refine Zb ?_ | (refine Zi ?_; refine Zv ?_) | (refine Zh ?_; refine Zu ?_) | intro _)
      refine ZD (Zs _ _ _) ZF ?_
      all_goals (refine ZS 0 ?_; refine ZO ?_; refine ZX 1 ?_; refine ZS 2 ?_; refine ZX 3 ?_; refine rCm 4 ?_; refine ZT 5 ?_)
      all_goals (first | refine Zc 6 ?_ | refine Za 6 ?_ | refine ZW 6 ?_ | (refine Zw (t := 58) rfl (fun hb => ?_) (fun hb => ?_) <;> (try simp only [kk] at hb) <;> first | refine Zc 6 ?_ | refine Za 6 ?_ | refine ZW 6 ?_))
      all_goals ((first | refine Zc 7 ?_ | refine Za 7 ?_ | refine Yb 7 ?_); (first | refine Zc 8 ?_ | refine Za 8 ?_ | refine ZW 8 ?_); (first | refine Zc 9 ?_ | refine Za 9 ?_ | refine Yb 9 ?_); (first | refine Zc 10 ?_ | refine Za 10 ?_ | refine Yw 10 ?_); refine YA 11 ?_; refine ZT 12 ?_)
      all_goals (first | refine Zc 13 ?_ | refine Za 13 ?_ | refine ZP 13 ?_ | (refine Zw (t := 65) rfl (fun hb => ?_) (fun hb => ?_) <;> (try simp only [kk] at hb) <;> first | refine Zc 13 ?_ | refine Za 13 ?_ | refine ZP 13 ?_))
      all_goals ((first | refine Zc 14 ?_ | refine Za 14 ?_ | refine Yw 14 ?_); (first | refine Zc 15 ?_ | refine Za 15 ?_ | refine ZP 15 ?_))
      all_goals (first | refine Zc 16 ?_ | refine Za 16 ?_ | refine ZW 16 ?_ | (refine Zw (t := 68) rfl (fun hb => ?_) (fun hb => ?_) <;> (try simp only [kk] at hb) <;> first | refine Zc 16 ?_ | refine Za 16 ?_ | refine ZW 16 ?_))
      all_goals ((first | refine Zc 17 ?_ | refine Za 17 ?_ | refine Yb 17 ?_); (first | refine Zc 18 ?_ | refine Za 18 ?_ | refine ZP 18 ?_); (first | refine Zc 19 ?_ | refine Za 19 ?_ | refine wSb 19 ?_); (first | refine Zc 20 ?_ | refine Za 20 ?_ | refine wIa 20 ?_); (first | refine Zc 21 ?_ | refine Za 21 ?_ | refine ZW 21 ?_); (first | refine Zc 22 ?_ | refine Za 22 ?_ | refine Yb 22 ?_); (first | refine Zc 23 ?_ | refine Za 23 ?_ | refine ZW 23 ?_); (first | refine Zc 24 ?_ | refine Za 24 ?_ | refine Yb 24 ?_); (first | refine Zc 25 ?_ | refine Za 25 ?_ | refine Yw 25 ?_); (first | refine Zc 26 ?_ | refine Za 26 ?_ | refine wPk 26 ?_); refine YA 27 ?_; refine ZT 28 ?_)
      all_goals (first | refine Zc 29 ?_ | refine Za 29 ?_ | refine ZW 29 ?_ | (refine Zw (t := 81) rfl (fun hb => ?_) (fun hb => ?_) <;> (try simp only [kk] at hb) <;> first | refine Zc 29 ?_ | refine Za 29 ?_ | refine ZW 29 ?_))
      all_goals ((first | refine Zc 30 ?_ | refine Za 30 ?_ | refine Yb 30 ?_); (first | refine Zc 31 ?_ | refine Za 31 ?_ | refine Yw 31 ?_); refine YA 32 ?_; refine ZT 33 ?_)
      all_goals (first | refine Zc 34 ?_ | refine Za 34 ?_ | refine ZW 34 ?_ | (refine Zw (t := 86) rfl (fun hb => ?_) (fun hb => ?_) <;> (try simp only [kk] at hb) <;> first | refine Zc 34 ?_ | refine Za 34 ?_ | refine ZW 34 ?_))
      all_goals ((first | refine Zc 35 ?_ | refine Za 35 ?_ | refine Yb 35 ?_); (first | refine Zc 36 ?_ | refine Za 36 ?_ | refine Yw 36 ?_); refine YA 37 ?_; refine ZI ?_)
      all_goals (repeat' (first | (refine ZE ?_; refine Zo (Zd rfl) rfl rfl ?_) | (refine Zj ?_; first | (refine Zf ?_; refine qQ ?_) | refine Zn ?_) | refine Zb ?_ | (refine Zi ?_; refine Zv ?_) | (refine Zh ?_; refine Zu ?_) | (refine Xd ?_; refine ZN rfl rfl (fun hb => ?_) (fun hb => ?_) <;> (try simp only [decide_eq_true_eq, decide_eq_false_iff_not, Bool.not_eq_true, Bool.not_eq_false, beq_iff_eq, bne_iff_ne, ne_eq, decide_eq_decide, Bool.not_eq_eq_eq_not, Bool.not_true, Bool.not_false, beq_eq_false_iff_ne, bne_eq_false_iff_eq, Bool.and_eq_true, Bool.or_eq_true, Bool.and_eq_false_imp, Bool.or_eq_false_iff, bq2, bqt, bqf] at hb)) | (refine Yn ?_; refine Ya rfl (fun hb => ?_) (fun hb => ?_) <;> (try simp only [decide_eq_true_eq, decide_eq_false_iff_not, Bool.not_eq_true, Bool.not_eq_false, beq_iff_eq, bne_iff_ne, ne_eq, decide_eq_decide, Bool.not_eq_eq_eq_not, Bool.not_true, Bool.not_false, beq_eq_false_iff_ne, bne_eq_false_iff_eq, Bool.and_eq_true, Bool.or_eq_true, Bool.and_eq_false_imp, Bool.or_eq_false_iff, bq2, bqt, bqf] at hb)) | intro _))
      all_goals first | exact qE (L' := []) ⟨rfl, rfl, rfl⟩ | (exfalso; omega)
   ·have hk2 : k = x.stack.length := by omega
    rw [hk2, List.drop_length, Wr] at hok
    subst hok
    rw [Bool.true_and]
    repeat' (first | (refine ZE ?_; refine Zo (Zd rfl) rfl rfl ?_) | (refine Zj ?_; first | (refine Zf ?_; refine qQ ?_) | refine Zn ?_) | refine Zb ?_ | (refine Zi ?_; refine Zv ?_) | (refine Zh ?_; refine Zu ?_) | intro _)
    refine ZB [(1, _), (93, _), (94, _)] (fun (ζ : (Nat)) => [(95, .int .i64 ζ), (2, .bool false)]) (fun (ζ : (Nat)) => ρ) (fun (ζ : (Nat)) => [[(bx, .cells ⟨Ym x⟩ 72 (0, 0))]]) (fun (ζ : (Nat)) => ζ ≤ x.mv.n ∧ ∀ i, i < ζ → markP x i) (fun (ζ : (Nat)) => x.mv.n - ζ) (0) (⟨Nat.zero_le _, fun i hi => absurd hi (Nat.not_lt_zero i)⟩) Zm Zm rfl tk ?_
    rintro j hI
    try simp only [List.cons_append, List.nil_append, List.append_assoc, List.append_eq] at hI ⊢
    try dsimp only at hI ⊢
    obtain ⟨hj, hall⟩ := hI
    by_cases hlt2 : j < x.mv.n
    ·obtain ⟨b, off, C, T, fr, e1, hb, hc⟩ := h.m.get (show j < x.marks.length by omega)
     have hall2 : markP x j → ∀ i, i < j + 1 → markP x i := fun hm i hi => by
      by_cases e : i = j
      ·rw [e]; exact hm
      ·exact hall i (by omega)
     have hbad := fun (e : ¬ markP x j) => marks_bad (show j < x.marks.length by omega) e
     have gj : x.marks.getD j 0 = x.marks[j]'(by omega) := YW (by omega)
     unfold markP at hall2 hbad
     rw [gj] at hall2 hbad
     generalize x.marks[j]'(by omega) = y at *
     (try dsimp only [Ym]); rw [e1]
     by_cases hz : j = 0
     ·by_cases hy : x.first ≤ y ∧ y ≤ x.undo
      ·repeat' (first | (refine ZE ?_; refine Zo (Zd rfl) rfl rfl ?_) | (refine Zj ?_; first | (refine Zf ?_; refine qQ ?_) | refine Zn ?_) | refine Zb ?_ | (refine Zi ?_; refine Zv ?_) | (refine Zh ?_; refine Zu ?_) | intro _)
       rw [← e1]
       refine Zq (j + 1) (⟨hlt2, fun i hi => by have := hall2 ⟨hy.1, hy.2, .inl hz⟩ i hi; exact this⟩) Zm Zm rfl tk inferInstance (by first | omega | (dsimp only; omega))
      ·rw [hbad (by omega)]
       repeat' (first | (refine ZE ?_; refine Zo (Zd rfl) rfl rfl ?_) | (refine Zj ?_; first | (refine Zf ?_; refine qQ ?_) | refine Zn ?_) | refine Zb ?_ | (refine Zi ?_; refine Zv ?_) | (refine Zh ?_; refine Zu ?_) | (refine Xd ?_; refine ZN rfl rfl (fun hb => ?_) (fun hb => ?_) <;> (try simp only [decide_eq_true_eq, decide_eq_false_iff_not, Bool.not_eq_true, Bool.not_eq_false, beq_iff_eq, bne_iff_ne, ne_eq, decide_eq_decide, Bool.not_eq_eq_eq_not, Bool.not_true, Bool.not_false, beq_eq_false_iff_ne, bne_eq_false_iff_eq, Bool.and_eq_true, Bool.or_eq_true, Bool.and_eq_false_imp, Bool.or_eq_false_iff, bq2, bqt, bqf] at hb)) | (refine Yn ?_; refine Ya rfl (fun hb => ?_) (fun hb => ?_) <;> (try simp only [decide_eq_true_eq, decide_eq_false_iff_not, Bool.not_eq_true, Bool.not_eq_false, beq_iff_eq, bne_iff_ne, ne_eq, decide_eq_decide, Bool.not_eq_eq_eq_not, Bool.not_true, Bool.not_false, beq_eq_false_iff_ne, bne_eq_false_iff_eq, Bool.and_eq_true, Bool.or_eq_true, Bool.and_eq_false_imp, Bool.or_eq_false_iff, bq2, bqt, bqf] at hb)) | intro _)
       all_goals first | exact qE (L' := []) ⟨rfl, rfl, rfl⟩ | (exfalso; omega)
     ·obtain ⟨b2, off2, C2, T2, fr2, f1, hb2, hc2⟩ := h.m.get (show j - 1 < x.marks.length by omega)
      have gp : x.marks.getD (j - 1) 0 = x.marks[j - 1]'(by omega) := YW (by omega)
      rw [gp] at hall2 hbad
      generalize x.marks[j - 1]'(by omega) = p at *
      rw [e1] at f1
      cases f1
      rw [hb] at hb2
      cases hb2
      have ek : ((j : Int) - 1).toNat = j - 1 := by omega
      rw [← ek] at hc2
      by_cases hy : x.first ≤ y ∧ y ≤ x.undo ∧ p ≤ y
      ·repeat' (first | (refine ZE ?_; refine Zo (Zd rfl) rfl rfl ?_) | (refine Zj ?_; first | (refine Zf ?_; refine qQ ?_) | refine Zn ?_) | refine Zb ?_ | (refine Zi ?_; refine Zv ?_) | (refine Zh ?_; refine Zu ?_) | intro _)
       rw [← e1]
       refine Zq (j + 1) (⟨hlt2, fun i hi => by have := hall2 ⟨hy.1, hy.2.1, .inr hy.2.2⟩ i hi; exact this⟩) Zm Zm rfl tk inferInstance (by first | omega | (dsimp only; omega))
      ·rw [hbad (by omega)]
       repeat' (first | (refine ZE ?_; refine Zo (Zd rfl) rfl rfl ?_) | (refine Zj ?_; first | (refine Zf ?_; refine qQ ?_) | refine Zn ?_) | refine Zb ?_ | (refine Zi ?_; refine Zv ?_) | (refine Zh ?_; refine Zu ?_) | (refine Xd ?_; refine ZN rfl rfl (fun hb => ?_) (fun hb => ?_) <;> (try simp only [decide_eq_true_eq, decide_eq_false_iff_not, Bool.not_eq_true, Bool.not_eq_false, beq_iff_eq, bne_iff_ne, ne_eq, decide_eq_decide, Bool.not_eq_eq_eq_not, Bool.not_true, Bool.not_false, beq_eq_false_iff_ne, bne_eq_false_iff_eq, Bool.and_eq_true, Bool.or_eq_true, Bool.and_eq_false_imp, Bool.or_eq_false_iff, bq2, bqt, bqf] at hb)) | (refine Yn ?_; refine Ya rfl (fun hb => ?_) (fun hb => ?_) <;> (try simp only [decide_eq_true_eq, decide_eq_false_iff_not, Bool.not_eq_true, Bool.not_eq_false, beq_iff_eq, bne_iff_ne, ne_eq, decide_eq_decide, Bool.not_eq_eq_eq_not, Bool.not_true, Bool.not_false, beq_eq_false_iff_ne, bne_eq_false_iff_eq, Bool.and_eq_true, Bool.or_eq_true, Bool.and_eq_false_imp, Bool.or_eq_false_iff, bq2, bqt, bqf] at hb)) | intro _)
       all_goals first | exact qE (L' := []) ⟨rfl, rfl, rfl⟩ | (exfalso; omega)
    ·have hj2 : j = x.mv.n := by omega
     subst hj2
     rw [marks_all (by rw [hml]; exact hall) (by omega), hml]
     repeat' (first | (refine ZE ?_; refine Zo (Zd rfl) rfl rfl ?_) | (refine Zj ?_; first | (refine Zf ?_; refine qQ ?_) | refine Zn ?_) | refine Zb ?_ | (refine Zi ?_; refine Zv ?_) | (refine Zh ?_; refine Zu ?_) | (refine Xd ?_; refine ZN rfl rfl (fun hb => ?_) (fun hb => ?_) <;> (try simp only [decide_eq_true_eq, decide_eq_false_iff_not, Bool.not_eq_true, Bool.not_eq_false, beq_iff_eq, bne_iff_ne, ne_eq, decide_eq_decide, Bool.not_eq_eq_eq_not, Bool.not_true, Bool.not_false, beq_eq_false_iff_ne, bne_eq_false_iff_eq, Bool.and_eq_true, Bool.or_eq_true, Bool.and_eq_false_imp, Bool.or_eq_false_iff, bq2, bqt, bqf] at hb)) | (refine Yn ?_; refine Ya rfl (fun hb => ?_) (fun hb => ?_) <;> (try simp only [decide_eq_true_eq, decide_eq_false_iff_not, Bool.not_eq_true, Bool.not_eq_false, beq_iff_eq, bne_iff_ne, ne_eq, decide_eq_decide, Bool.not_eq_eq_eq_not, Bool.not_true, Bool.not_false, beq_eq_false_iff_ne, bne_eq_false_iff_eq, Bool.and_eq_true, Bool.or_eq_true, Bool.and_eq_false_imp, Bool.or_eq_false_iff, bq2, bqt, bqf] at hb)) | intro _)
     all_goals (refine qF (L' := []) ?_; exact ⟨YD (by first | (simp only [decide_eq_true_eq, Bool.false_eq_true, true_iff, false_iff, beq_iff_eq]; omega) | (simp; omega)), rfl, rfl⟩)
  ·have hmk : WR x = false := by
    unfold WR
    rw [hml, decide_eq_false (show ¬ x.mv.n = 0 by omega), decide_eq_false (show ¬ (x.state = 1 ∧ x.mv.n ≤ 8) by omega)]; rfl
   rw [hmk, Bool.and_false]
   repeat' (first | (refine ZE ?_; refine Zo (Zd rfl) rfl rfl ?_) | (refine Zj ?_; first | (refine Zf ?_; refine qQ ?_) | refine Zn ?_) | refine Zb ?_ | (refine Zi ?_; refine Zv ?_) | (refine Zh ?_; refine Zu ?_) | intro _)
   exact qE (L' := []) ⟨rfl, rfl, rfl⟩
 ·rw [decide_eq_false hH, Bool.false_and]
  repeat' (first | (refine ZE ?_; refine Zo (Zd rfl) rfl rfl ?_) | (refine Zj ?_; first | (refine Zf ?_; refine qQ ?_) | refine Zn ?_) | refine Zb ?_ | (refine Zi ?_; refine Zv ?_) | (refine Zh ?_; refine Zu ?_) | (refine Xd ?_; refine ZN rfl rfl (fun hb => ?_) (fun hb => ?_) <;> (try simp only [decide_eq_true_eq, decide_eq_false_iff_not, Bool.not_eq_true, Bool.not_eq_false, beq_iff_eq, bne_iff_ne, ne_eq, decide_eq_decide, Bool.not_eq_eq_eq_not, Bool.not_true, Bool.not_false, beq_eq_false_iff_ne, bne_eq_false_iff_eq, Bool.and_eq_true, Bool.or_eq_true, Bool.and_eq_false_imp, Bool.or_eq_false_iff, bq2, bqt, bqf] at hb)) | (refine Yn ?_; refine Ya rfl (fun hb => ?_) (fun hb => ?_) <;> (try simp only [decide_eq_true_eq, decide_eq_false_iff_not, Bool.not_eq_true, Bool.not_eq_false, beq_iff_eq, bne_iff_ne, ne_eq, decide_eq_decide, Bool.not_eq_eq_eq_not, Bool.not_true, Bool.not_false, beq_eq_false_iff_ne, bne_eq_false_iff_eq, Bool.and_eq_true, Bool.or_eq_true, Bool.and_eq_false_imp, Bool.or_eq_false_iff, bq2, bqt, bqf] at hb)) | intro _)
  all_goals first | exact qE (L' := []) ⟨rfl, rfl, rfl⟩ | (exfalso; omega)
theorem txOk_18 {next last : Int} {x : Tx} : txOk next last x = (decide (last < x.num ∧ x.num < next) && tx18B x) := by
 unfold txOk txHead tx18B
 rw [Bool.eq_iff_iff]
 simp only [Bool.and_eq_true, decide_eq_true_eq]
 constructor
 ·rintro ⟨⟨h1, h2, h3⟩, h4⟩; exact ⟨⟨h1, h2⟩, h3, h4⟩
 ·rintro ⟨⟨h1, h2⟩, h3, h4⟩; exact ⟨⟨h1, h2, h3⟩, h4⟩
theorem right18_spec (ρ : Hp) (v : SV) (r : Ros) (h : RosIn ρ v r) : Spec Tryz.prog 48 [.agg ⟨Yh v r⟩] ρ [] (fun z ρ' L' => z = .bool (rosOk r) ∧ ρ' = ρ ∧ L' = []) := by
 have hl := h.at'.at'.len
 have hn := h.at'.big
 have hA := h.at'.at'
 unfold rosOk
 rw [hl]
 refine Zg Tryz.func48 rfl rfl rfl fun u R => ?_
 simp only [Zx, List.cons_append, List.nil_append]
 by_cases hH : 1 ≤ r.next ∧ r.next ≤ 1073741824 ∧ v.n ≤ 8
 ·rw [decide_eq_true hH, Bool.true_and]
  generalize hq : txsB r.next 0 r.txns = q
  repeat' (first | (refine ZE ?_; refine Zo (Zd rfl) rfl rfl ?_) | (refine Zj ?_; first | (refine Zf ?_; refine qQ ?_) | refine Zn ?_) | refine Zb ?_ | (refine Zi ?_; refine Zv ?_) | (refine Zh ?_; refine Zu ?_) | intro _)
  rename_i bx
  refine ZB [(1, _), (20, _), (21, _)] (fun (ζ : (Nat) × (Int)) => [(22, .int .i64 ζ.1), (2, .bool false)]) (fun (ζ : (Nat) × (Int)) => ρ) (fun (ζ : (Nat) × (Int)) => [[(bx, .cells ⟨Yh v r⟩ 34 (0, 0))]]) (fun (ζ : (Nat) × (Int)) => ζ.1 ≤ v.n ∧ txsB r.next ζ.2 (r.txns.drop ζ.1) = q ∧ 0 ≤ ζ.2 ∧ (ζ.1 = 0 → ζ.2 = 0) ∧ (∀ y, 0 < ζ.1 → r.txns[ζ.1 - 1]? = some y → y.num = ζ.2)) (fun (ζ : (Nat) × (Int)) => v.n - ζ.1) ((0, 0)) (⟨Nat.zero_le _, hq, Int.le_refl _, fun _ => rfl, fun _ h => absurd h (Nat.lt_irrefl _)⟩) Zm Zm rfl tk ?_
  rintro ⟨k, last⟩ hI
  try simp only [List.cons_append, List.nil_append, List.append_assoc, List.append_eq] at hI ⊢
  try dsimp only at hI ⊢
  obtain ⟨hk, hok, hl0, hk0, hky⟩ := hI
  by_cases hlt : k < v.n
  ·obtain ⟨b, off, C, T, fr, e1, hb, hfit, hc⟩ := hA.get (show k < r.txns.length by omega)
   have hmem := List.getElem_mem (show k < r.txns.length by omega)
   have hnext : ∀ y, 0 < k + 1 → r.txns[k + 1 - 1]? = some y → y.num = (r.txns[k]'(by omega)).num := fun y _ hy => by
    rw [Nat.add_sub_cancel, List.getElem?_eq_getElem (by omega)] at hy
    rw [Option.some.inj hy]
   rw [List.drop_eq_getElem_cons (show k < r.txns.length by omega), txsB, txOk_18] at hok
   generalize r.txns[k]'(by omega) = y at *
   have ht := txn18_spec ρ y (h.tx y hmem)
   generalize tx18B y = ty at *
   by_cases hz : k = 0
   ·have hl00 := hk0 hz
    (try dsimp only [Yh]); rw [e1]
    by_cases hy : last < y.num ∧ y.num < r.next
    ·rw [decide_eq_true hy, Bool.true_and] at hok
     cases ty
     ·rw [Bool.false_and] at hok
      subst hok
      repeat' (first | (refine ZE ?_; refine Zo (Zd rfl) rfl rfl ?_) | (refine Zj ?_; first | (refine Zf ?_; refine qQ ?_) | refine Zn ?_) | refine Zb ?_ | (refine Zi ?_; refine Zv ?_) | (refine Zh ?_; refine Zu ?_) | intro _)
      refine ZD (Zs _ _ _) ZF ?_
      all_goals (refine ZS 0 ?_; refine ZX 1 ?_; refine rCm 2 ?_; refine ZT 3 ?_)
      all_goals (first | refine Zc 4 ?_ | refine Za 4 ?_ | refine ZW 4 ?_ | (refine Zw (t := 30) rfl (fun hb => ?_) (fun hb => ?_) <;> (try simp only [kk] at hb) <;> first | refine Zc 4 ?_ | refine Za 4 ?_ | refine ZW 4 ?_))
      all_goals ((first | refine Zc 5 ?_ | refine Za 5 ?_ | refine Yb 5 ?_); (first | refine Zc 6 ?_ | refine Za 6 ?_ | refine ZW 6 ?_); (first | refine Zc 7 ?_ | refine Za 7 ?_ | refine Yb 7 ?_); (first | refine Zc 8 ?_ | refine Za 8 ?_ | refine Yw 8 ?_); refine YA 9 ?_; refine ZT 10 ?_)
      all_goals (first | refine Zc 11 ?_ | refine Za 11 ?_ | refine ZP 11 ?_ | (refine Zw (t := 37) rfl (fun hb => ?_) (fun hb => ?_) <;> (try simp only [kk] at hb) <;> first | refine Zc 11 ?_ | refine Za 11 ?_ | refine ZP 11 ?_))
      all_goals ((first | refine Zc 12 ?_ | refine Za 12 ?_ | refine Yw 12 ?_); (first | refine Zc 13 ?_ | refine Za 13 ?_ | refine ZP 13 ?_))
      all_goals (first | refine Zc 14 ?_ | refine Za 14 ?_ | refine ZW 14 ?_ | (refine Zw (t := 40) rfl (fun hb => ?_) (fun hb => ?_) <;> (try simp only [kk] at hb) <;> first | refine Zc 14 ?_ | refine Za 14 ?_ | refine ZW 14 ?_))
      all_goals ((first | refine Zc 15 ?_ | refine Za 15 ?_ | refine Yb 15 ?_); (first | refine Zc 16 ?_ | refine Za 16 ?_ | refine ZP 16 ?_); (first | refine Zc 17 ?_ | refine Za 17 ?_ | refine wSb 17 ?_); (first | refine Zc 18 ?_ | refine Za 18 ?_ | refine wIa 18 ?_); (first | refine Zc 19 ?_ | refine Za 19 ?_ | refine ZW 19 ?_); (first | refine Zc 20 ?_ | refine Za 20 ?_ | refine Yb 20 ?_); (first | refine Zc 21 ?_ | refine Za 21 ?_ | refine ZW 21 ?_); (first | refine Zc 22 ?_ | refine Za 22 ?_ | refine Yb 22 ?_); (first | refine Zc 23 ?_ | refine Za 23 ?_ | refine Yw 23 ?_); (first | refine Zc 24 ?_ | refine Za 24 ?_ | refine wPk 24 ?_); refine YA 25 ?_; refine ZT 26 ?_)
      all_goals (first | refine Zc 27 ?_ | refine Za 27 ?_ | refine Yb 27 ?_ | (refine Zw (t := 53) rfl (fun hb => ?_) (fun hb => ?_) <;> (try simp only [kk] at hb) <;> first | refine Zc 27 ?_ | refine Za 27 ?_ | refine Yb 27 ?_))
      all_goals (first | refine Zc 28 ?_ | refine Za 28 ?_ | (refine Zp (i := 28) ?_; ((try refine Zk ?_); (first | (refine Ze (.func 129) ?_; refine qC rfl rfl (ht) ?_; rintro v ρ' L' hle ⟨rfl, rfl, rfl⟩ <;> (try simp only [kM, kN, kO])) | (refine Zn ?_; try intro _)) <;> ((try simp only [kM, kN, kO]); refine Zb ?_; refine Zl ?_))))
      all_goals (refine ZO ?_; (first | refine Zc 29 ?_ | refine Za 29 ?_ | refine wUn 29 ?_); refine YA 30 ?_; refine ZI ?_)
      all_goals (repeat' (first | (refine ZE ?_; refine Zo (Zd rfl) rfl rfl ?_) | (refine Zj ?_; first | (refine Zf ?_; refine qQ ?_) | refine Zn ?_) | refine Zb ?_ | (refine Zi ?_; refine Zv ?_) | (refine Zh ?_; refine Zu ?_) | intro _))
      all_goals exact qE (L' := []) ⟨rfl, rfl, rfl⟩
     ·rw [Bool.true_and] at hok
      repeat' (first | (refine ZE ?_; refine Zo (Zd rfl) rfl rfl ?_) | (refine Zj ?_; first | (refine Zf ?_; refine qQ ?_) | refine Zn ?_) | refine Zb ?_ | (refine Zi ?_; refine Zv ?_) | (refine Zh ?_; refine Zu ?_) | intro _)
      refine ZD (Zs _ _ _) ZF ?_
      all_goals (refine ZS 0 ?_; refine ZX 1 ?_; refine rCm 2 ?_; refine ZT 3 ?_)
      all_goals (first | refine Zc 4 ?_ | refine Za 4 ?_ | refine ZW 4 ?_ | (refine Zw (t := 30) rfl (fun hb => ?_) (fun hb => ?_) <;> (try simp only [kk] at hb) <;> first | refine Zc 4 ?_ | refine Za 4 ?_ | refine ZW 4 ?_))
      all_goals ((first | refine Zc 5 ?_ | refine Za 5 ?_ | refine Yb 5 ?_); (first | refine Zc 6 ?_ | refine Za 6 ?_ | refine ZW 6 ?_); (first | refine Zc 7 ?_ | refine Za 7 ?_ | refine Yb 7 ?_); (first | refine Zc 8 ?_ | refine Za 8 ?_ | refine Yw 8 ?_); refine YA 9 ?_; refine ZT 10 ?_)
      all_goals (first | refine Zc 11 ?_ | refine Za 11 ?_ | refine ZP 11 ?_ | (refine Zw (t := 37) rfl (fun hb => ?_) (fun hb => ?_) <;> (try simp only [kk] at hb) <;> first | refine Zc 11 ?_ | refine Za 11 ?_ | refine ZP 11 ?_))
      all_goals ((first | refine Zc 12 ?_ | refine Za 12 ?_ | refine Yw 12 ?_); (first | refine Zc 13 ?_ | refine Za 13 ?_ | refine ZP 13 ?_))
      all_goals (first | refine Zc 14 ?_ | refine Za 14 ?_ | refine ZW 14 ?_ | (refine Zw (t := 40) rfl (fun hb => ?_) (fun hb => ?_) <;> (try simp only [kk] at hb) <;> first | refine Zc 14 ?_ | refine Za 14 ?_ | refine ZW 14 ?_))
      all_goals ((first | refine Zc 15 ?_ | refine Za 15 ?_ | refine Yb 15 ?_); (first | refine Zc 16 ?_ | refine Za 16 ?_ | refine ZP 16 ?_); (first | refine Zc 17 ?_ | refine Za 17 ?_ | refine wSb 17 ?_); (first | refine Zc 18 ?_ | refine Za 18 ?_ | refine wIa 18 ?_); (first | refine Zc 19 ?_ | refine Za 19 ?_ | refine ZW 19 ?_); (first | refine Zc 20 ?_ | refine Za 20 ?_ | refine Yb 20 ?_); (first | refine Zc 21 ?_ | refine Za 21 ?_ | refine ZW 21 ?_); (first | refine Zc 22 ?_ | refine Za 22 ?_ | refine Yb 22 ?_); (first | refine Zc 23 ?_ | refine Za 23 ?_ | refine Yw 23 ?_); (first | refine Zc 24 ?_ | refine Za 24 ?_ | refine wPk 24 ?_); refine YA 25 ?_; refine ZT 26 ?_)
      all_goals (first | refine Zc 27 ?_ | refine Za 27 ?_ | refine Yb 27 ?_ | (refine Zw (t := 53) rfl (fun hb => ?_) (fun hb => ?_) <;> (try simp only [kk] at hb) <;> first | refine Zc 27 ?_ | refine Za 27 ?_ | refine Yb 27 ?_))
      all_goals (first | refine Zc 28 ?_ | refine Za 28 ?_ | (refine Zp (i := 28) ?_; ((try refine Zk ?_); (first | (refine Ze (.func 129) ?_; refine qC rfl rfl (ht) ?_; rintro v ρ' L' hle ⟨rfl, rfl, rfl⟩ <;> (try simp only [kM, kN, kO])) | (refine Zn ?_; try intro _)) <;> ((try simp only [kM, kN, kO]); refine Zb ?_; refine Zl ?_))))
      all_goals (refine ZO ?_; (first | refine Zc 29 ?_ | refine Za 29 ?_ | refine wUn 29 ?_); refine YA 30 ?_; refine ZI ?_)
      all_goals (repeat' (first | (refine ZE ?_; refine Zo (Zd rfl) rfl rfl ?_) | (refine Zj ?_; first | (refine Zf ?_; refine qQ ?_) | refine Zn ?_) | refine Zb ?_ | (refine Zi ?_; refine Zv ?_) | (refine Zh ?_; refine Zu ?_) | intro _))
      all_goals rw [← e1]
      all_goals refine Zq (k + 1, y.num) (⟨hlt, hok, by dsimp only; omega, fun h => by omega, hnext⟩) Zm Zm rfl tk inferInstance (by first | omega | (dsimp only; omega))
    ·rw [decide_eq_false hy, Bool.false_and, Bool.false_and] at hok
     subst hok
     repeat' (first | (refine ZE ?_; refine Zo (Zd rfl) rfl rfl ?_) | (refine Zj ?_; first | (refine Zf ?_; refine qQ ?_) | refine Zn ?_) | refine Zb ?_ | (refine Zi ?_; refine Zv ?_) | (refine Zh ?_; refine Zu ?_) | intro _)
     refine ZD (Zs _ _ _) ZF ?_
     all_goals (refine ZS 0 ?_; refine ZX 1 ?_; refine rCm 2 ?_; refine ZT 3 ?_)
     all_goals (first | refine Zc 4 ?_ | refine Za 4 ?_ | refine ZW 4 ?_ | (refine Zw (t := 30) rfl (fun hb => ?_) (fun hb => ?_) <;> (try simp only [kk] at hb) <;> first | refine Zc 4 ?_ | refine Za 4 ?_ | refine ZW 4 ?_))
     all_goals ((first | refine Zc 5 ?_ | refine Za 5 ?_ | refine Yb 5 ?_); (first | refine Zc 6 ?_ | refine Za 6 ?_ | refine ZW 6 ?_); (first | refine Zc 7 ?_ | refine Za 7 ?_ | refine Yb 7 ?_); (first | refine Zc 8 ?_ | refine Za 8 ?_ | refine Yw 8 ?_); refine YA 9 ?_; refine ZT 10 ?_)
     all_goals (first | refine Zc 11 ?_ | refine Za 11 ?_ | refine ZP 11 ?_ | (refine Zw (t := 37) rfl (fun hb => ?_) (fun hb => ?_) <;> (try simp only [kk] at hb) <;> first | refine Zc 11 ?_ | refine Za 11 ?_ | refine ZP 11 ?_))
     all_goals ((first | refine Zc 12 ?_ | refine Za 12 ?_ | refine Yw 12 ?_); (first | refine Zc 13 ?_ | refine Za 13 ?_ | refine ZP 13 ?_))
     all_goals (first | refine Zc 14 ?_ | refine Za 14 ?_ | refine ZW 14 ?_ | (refine Zw (t := 40) rfl (fun hb => ?_) (fun hb => ?_) <;> (try simp only [kk] at hb) <;> first | refine Zc 14 ?_ | refine Za 14 ?_ | refine ZW 14 ?_))
     all_goals ((first | refine Zc 15 ?_ | refine Za 15 ?_ | refine Yb 15 ?_); (first | refine Zc 16 ?_ | refine Za 16 ?_ | refine ZP 16 ?_); (first | refine Zc 17 ?_ | refine Za 17 ?_ | refine wSb 17 ?_); (first | refine Zc 18 ?_ | refine Za 18 ?_ | refine wIa 18 ?_); (first | refine Zc 19 ?_ | refine Za 19 ?_ | refine ZW 19 ?_); (first | refine Zc 20 ?_ | refine Za 20 ?_ | refine Yb 20 ?_); (first | refine Zc 21 ?_ | refine Za 21 ?_ | refine ZW 21 ?_); (first | refine Zc 22 ?_ | refine Za 22 ?_ | refine Yb 22 ?_); (first | refine Zc 23 ?_ | refine Za 23 ?_ | refine Yw 23 ?_); (first | refine Zc 24 ?_ | refine Za 24 ?_ | refine wPk 24 ?_); refine YA 25 ?_; refine ZT 26 ?_)
     all_goals (first | refine Zc 27 ?_ | refine Za 27 ?_ | refine Yb 27 ?_ | (refine Zw (t := 53) rfl (fun hb => ?_) (fun hb => ?_) <;> (try simp only [kk] at hb) <;> first | refine Zc 27 ?_ | refine Za 27 ?_ | refine Yb 27 ?_))
     all_goals (first | refine Zc 28 ?_ | refine Za 28 ?_ | (refine Zp (i := 28) ?_; ((try refine Zk ?_); (first | (refine Ze (.func 129) ?_; refine qC rfl rfl (ht) ?_; rintro v ρ' L' hle ⟨rfl, rfl, rfl⟩ <;> (try simp only [kM, kN, kO])) | (refine Zn ?_; try intro _)) <;> ((try simp only [kM, kN, kO]); refine Zb ?_; refine Zl ?_))))
     all_goals (refine ZO ?_; (first | refine Zc 29 ?_ | refine Za 29 ?_ | refine wUn 29 ?_); refine YA 30 ?_; refine ZI ?_)
     all_goals (repeat' (first | (refine ZE ?_; refine Zo (Zd rfl) rfl rfl ?_) | (refine Zj ?_; first | (refine Zf ?_; refine qQ ?_) | refine Zn ?_) | refine Zb ?_ | (refine Zi ?_; refine Zv ?_) | (refine Zh ?_; refine Zu ?_) | (refine Xd ?_; refine ZN rfl rfl (fun hb => ?_) (fun hb => ?_) <;> (try simp only [decide_eq_true_eq, decide_eq_false_iff_not, Bool.not_eq_true, Bool.not_eq_false, beq_iff_eq, bne_iff_ne, ne_eq, decide_eq_decide, Bool.not_eq_eq_eq_not, Bool.not_true, Bool.not_false, beq_eq_false_iff_ne, bne_eq_false_iff_eq, Bool.and_eq_true, Bool.or_eq_true, Bool.and_eq_false_imp, Bool.or_eq_false_iff, bq2, bqt, bqf] at hb)) | (refine Yn ?_; refine Ya rfl (fun hb => ?_) (fun hb => ?_) <;> (try simp only [decide_eq_true_eq, decide_eq_false_iff_not, Bool.not_eq_true, Bool.not_eq_false, beq_iff_eq, bne_iff_ne, ne_eq, decide_eq_decide, Bool.not_eq_eq_eq_not, Bool.not_true, Bool.not_false, beq_eq_false_iff_ne, bne_eq_false_iff_eq, Bool.and_eq_true, Bool.or_eq_true, Bool.and_eq_false_imp, Bool.or_eq_false_iff, bq2, bqt, bqf] at hb)) | intro _))
     all_goals first | exact qE (L' := []) ⟨rfl, rfl, rfl⟩ | (exfalso; omega)
   ·obtain ⟨b2, off2, C2, T2, fr2, f1, hb2, hfit2, hc2⟩ := hA.get (show k - 1 < r.txns.length by omega)
    have hlp := hky _ (by omega) (List.getElem?_eq_getElem (show k - 1 < r.txns.length by omega))
    generalize r.txns[k - 1]'(by omega) = p at *
    rw [e1] at f1
    cases f1
    rw [hb] at hb2
    cases hb2
    have ek : ((k : Int) - 1).toNat = k - 1 := by omega
    have hcy : C[off + ((k : Int) - 1).toNat * 7]? = some (.int .i64 p.num) := by
     have := congrArg (fun l => l[0]?) hc2
     rw [ek]
     simp only [List.getElem?_take, List.getElem?_drop] at this
     simpa using this
    (try dsimp only [Yh]); rw [e1]
    by_cases hy : last < y.num ∧ y.num < r.next
    ·rw [decide_eq_true hy, Bool.true_and] at hok
     cases ty
     ·rw [Bool.false_and] at hok
      subst hok
      repeat' (first | (refine ZE ?_; refine Zo (Zd rfl) rfl rfl ?_) | (refine Zj ?_; first | (refine Zf ?_; refine qQ ?_) | refine Zn ?_) | refine Zb ?_ | (refine Zi ?_; refine Zv ?_) | (refine Zh ?_; refine Zu ?_) | intro _)
      refine ZD (Zs _ _ _) ZF ?_
      all_goals (refine ZS 0 ?_; refine ZX 1 ?_; refine rCm 2 ?_; refine ZT 3 ?_)
      all_goals (first | refine Zc 4 ?_ | refine Za 4 ?_ | refine ZW 4 ?_ | (refine Zw (t := 30) rfl (fun hb => ?_) (fun hb => ?_) <;> (try simp only [kk] at hb) <;> first | refine Zc 4 ?_ | refine Za 4 ?_ | refine ZW 4 ?_))
      all_goals ((first | refine Zc 5 ?_ | refine Za 5 ?_ | refine Yb 5 ?_); (first | refine Zc 6 ?_ | refine Za 6 ?_ | refine ZW 6 ?_); (first | refine Zc 7 ?_ | refine Za 7 ?_ | refine Yb 7 ?_); (first | refine Zc 8 ?_ | refine Za 8 ?_ | refine Yw 8 ?_); refine YA 9 ?_; refine ZT 10 ?_)
      all_goals (first | refine Zc 11 ?_ | refine Za 11 ?_ | refine ZP 11 ?_ | (refine Zw (t := 37) rfl (fun hb => ?_) (fun hb => ?_) <;> (try simp only [kk] at hb) <;> first | refine Zc 11 ?_ | refine Za 11 ?_ | refine ZP 11 ?_))
      all_goals ((first | refine Zc 12 ?_ | refine Za 12 ?_ | refine Yw 12 ?_); (first | refine Zc 13 ?_ | refine Za 13 ?_ | refine ZP 13 ?_))
      all_goals (first | refine Zc 14 ?_ | refine Za 14 ?_ | refine ZW 14 ?_ | (refine Zw (t := 40) rfl (fun hb => ?_) (fun hb => ?_) <;> (try simp only [kk] at hb) <;> first | refine Zc 14 ?_ | refine Za 14 ?_ | refine ZW 14 ?_))
      all_goals ((first | refine Zc 15 ?_ | refine Za 15 ?_ | refine Yb 15 ?_); (first | refine Zc 16 ?_ | refine Za 16 ?_ | refine ZP 16 ?_); (first | refine Zc 17 ?_ | refine Za 17 ?_ | refine wSb 17 ?_); (first | refine Zc 18 ?_ | refine Za 18 ?_ | refine wIa 18 ?_); (first | refine Zc 19 ?_ | refine Za 19 ?_ | refine ZW 19 ?_); (first | refine Zc 20 ?_ | refine Za 20 ?_ | refine Yb 20 ?_); (first | refine Zc 21 ?_ | refine Za 21 ?_ | refine ZW 21 ?_); (first | refine Zc 22 ?_ | refine Za 22 ?_ | refine Yb 22 ?_); (first | refine Zc 23 ?_ | refine Za 23 ?_ | refine Yw 23 ?_); (first | refine Zc 24 ?_ | refine Za 24 ?_ | refine wPk 24 ?_); refine YA 25 ?_; refine ZT 26 ?_)
      all_goals (first | refine Zc 27 ?_ | refine Za 27 ?_ | refine Yb 27 ?_ | (refine Zw (t := 53) rfl (fun hb => ?_) (fun hb => ?_) <;> (try simp only [kk] at hb) <;> first | refine Zc 27 ?_ | refine Za 27 ?_ | refine Yb 27 ?_))
      all_goals (first | refine Zc 28 ?_ | refine Za 28 ?_ | (refine Zp (i := 28) ?_; ((try refine Zk ?_); (first | (refine Ze (.func 129) ?_; refine qC rfl rfl (ht) ?_; rintro v ρ' L' hle ⟨rfl, rfl, rfl⟩ <;> (try simp only [kM, kN, kO])) | (refine Zn ?_; try intro _)) <;> ((try simp only [kM, kN, kO]); refine Zb ?_; refine Zl ?_))))
      all_goals (refine ZO ?_; (first | refine Zc 29 ?_ | refine Za 29 ?_ | refine wUn 29 ?_); refine YA 30 ?_; refine ZI ?_)
      all_goals (repeat' (first | (refine ZE ?_; refine Zo (Zd rfl) rfl rfl ?_) | (refine Zj ?_; first | (refine Zf ?_; refine qQ ?_) | refine Zn ?_) | refine Zb ?_ | (refine Zi ?_; refine Zv ?_) | (refine Zh ?_; refine Zu ?_) | intro _))
      all_goals exact qE (L' := []) ⟨rfl, rfl, rfl⟩
     ·rw [Bool.true_and] at hok
      repeat' (first | (refine ZE ?_; refine Zo (Zd rfl) rfl rfl ?_) | (refine Zj ?_; first | (refine Zf ?_; refine qQ ?_) | refine Zn ?_) | refine Zb ?_ | (refine Zi ?_; refine Zv ?_) | (refine Zh ?_; refine Zu ?_) | intro _)
      refine ZD (Zs _ _ _) ZF ?_
      all_goals (refine ZS 0 ?_; refine ZX 1 ?_; refine rCm 2 ?_; refine ZT 3 ?_)
      all_goals (first | refine Zc 4 ?_ | refine Za 4 ?_ | refine ZW 4 ?_ | (refine Zw (t := 30) rfl (fun hb => ?_) (fun hb => ?_) <;> (try simp only [kk] at hb) <;> first | refine Zc 4 ?_ | refine Za 4 ?_ | refine ZW 4 ?_))
      all_goals ((first | refine Zc 5 ?_ | refine Za 5 ?_ | refine Yb 5 ?_); (first | refine Zc 6 ?_ | refine Za 6 ?_ | refine ZW 6 ?_); (first | refine Zc 7 ?_ | refine Za 7 ?_ | refine Yb 7 ?_); (first | refine Zc 8 ?_ | refine Za 8 ?_ | refine Yw 8 ?_); refine YA 9 ?_; refine ZT 10 ?_)
      all_goals (first | refine Zc 11 ?_ | refine Za 11 ?_ | refine ZP 11 ?_ | (refine Zw (t := 37) rfl (fun hb => ?_) (fun hb => ?_) <;> (try simp only [kk] at hb) <;> first | refine Zc 11 ?_ | refine Za 11 ?_ | refine ZP 11 ?_))
      all_goals ((first | refine Zc 12 ?_ | refine Za 12 ?_ | refine Yw 12 ?_); (first | refine Zc 13 ?_ | refine Za 13 ?_ | refine ZP 13 ?_))
      all_goals (first | refine Zc 14 ?_ | refine Za 14 ?_ | refine ZW 14 ?_ | (refine Zw (t := 40) rfl (fun hb => ?_) (fun hb => ?_) <;> (try simp only [kk] at hb) <;> first | refine Zc 14 ?_ | refine Za 14 ?_ | refine ZW 14 ?_))
      all_goals ((first | refine Zc 15 ?_ | refine Za 15 ?_ | refine Yb 15 ?_); (first | refine Zc 16 ?_ | refine Za 16 ?_ | refine ZP 16 ?_); (first | refine Zc 17 ?_ | refine Za 17 ?_ | refine wSb 17 ?_); (first | refine Zc 18 ?_ | refine Za 18 ?_ | refine wIa 18 ?_); (first | refine Zc 19 ?_ | refine Za 19 ?_ | refine ZW 19 ?_); (first | refine Zc 20 ?_ | refine Za 20 ?_ | refine Yb 20 ?_); (first | refine Zc 21 ?_ | refine Za 21 ?_ | refine ZW 21 ?_); (first | refine Zc 22 ?_ | refine Za 22 ?_ | refine Yb 22 ?_); (first | refine Zc 23 ?_ | refine Za 23 ?_ | refine Yw 23 ?_); (first | refine Zc 24 ?_ | refine Za 24 ?_ | refine wPk 24 ?_); refine YA 25 ?_; refine ZT 26 ?_)
      all_goals (first | refine Zc 27 ?_ | refine Za 27 ?_ | refine Yb 27 ?_ | (refine Zw (t := 53) rfl (fun hb => ?_) (fun hb => ?_) <;> (try simp only [kk] at hb) <;> first | refine Zc 27 ?_ | refine Za 27 ?_ | refine Yb 27 ?_))
      all_goals (first | refine Zc 28 ?_ | refine Za 28 ?_ | (refine Zp (i := 28) ?_; ((try refine Zk ?_); (first | (refine Ze (.func 129) ?_; refine qC rfl rfl (ht) ?_; rintro v ρ' L' hle ⟨rfl, rfl, rfl⟩ <;> (try simp only [kM, kN, kO])) | (refine Zn ?_; try intro _)) <;> ((try simp only [kM, kN, kO]); refine Zb ?_; refine Zl ?_))))
      all_goals (refine ZO ?_; (first | refine Zc 29 ?_ | refine Za 29 ?_ | refine wUn 29 ?_); refine YA 30 ?_; refine ZI ?_)
      all_goals (repeat' (first | (refine ZE ?_; refine Zo (Zd rfl) rfl rfl ?_) | (refine Zj ?_; first | (refine Zf ?_; refine qQ ?_) | refine Zn ?_) | refine Zb ?_ | (refine Zi ?_; refine Zv ?_) | (refine Zh ?_; refine Zu ?_) | intro _))
      all_goals rw [← e1]
      all_goals refine Zq (k + 1, y.num) (⟨hlt, hok, by dsimp only; omega, fun h => by omega, hnext⟩) Zm Zm rfl tk inferInstance (by first | omega | (dsimp only; omega))
    ·rw [decide_eq_false hy, Bool.false_and, Bool.false_and] at hok
     subst hok
     repeat' (first | (refine ZE ?_; refine Zo (Zd rfl) rfl rfl ?_) | (refine Zj ?_; first | (refine Zf ?_; refine qQ ?_) | refine Zn ?_) | refine Zb ?_ | (refine Zi ?_; refine Zv ?_) | (refine Zh ?_; refine Zu ?_) | intro _)
     refine ZD (Zs _ _ _) ZF ?_
     all_goals (refine ZS 0 ?_; refine ZX 1 ?_; refine rCm 2 ?_; refine ZT 3 ?_)
     all_goals (first | refine Zc 4 ?_ | refine Za 4 ?_ | refine ZW 4 ?_ | (refine Zw (t := 30) rfl (fun hb => ?_) (fun hb => ?_) <;> (try simp only [kk] at hb) <;> first | refine Zc 4 ?_ | refine Za 4 ?_ | refine ZW 4 ?_))
     all_goals ((first | refine Zc 5 ?_ | refine Za 5 ?_ | refine Yb 5 ?_); (first | refine Zc 6 ?_ | refine Za 6 ?_ | refine ZW 6 ?_); (first | refine Zc 7 ?_ | refine Za 7 ?_ | refine Yb 7 ?_); (first | refine Zc 8 ?_ | refine Za 8 ?_ | refine Yw 8 ?_); refine YA 9 ?_; refine ZT 10 ?_)
     all_goals (first | refine Zc 11 ?_ | refine Za 11 ?_ | refine ZP 11 ?_ | (refine Zw (t := 37) rfl (fun hb => ?_) (fun hb => ?_) <;> (try simp only [kk] at hb) <;> first | refine Zc 11 ?_ | refine Za 11 ?_ | refine ZP 11 ?_))
     all_goals ((first | refine Zc 12 ?_ | refine Za 12 ?_ | refine Yw 12 ?_); (first | refine Zc 13 ?_ | refine Za 13 ?_ | refine ZP 13 ?_))
     all_goals (first | refine Zc 14 ?_ | refine Za 14 ?_ | refine ZW 14 ?_ | (refine Zw (t := 40) rfl (fun hb => ?_) (fun hb => ?_) <;> (try simp only [kk] at hb) <;> first | refine Zc 14 ?_ | refine Za 14 ?_ | refine ZW 14 ?_))
     all_goals ((first | refine Zc 15 ?_ | refine Za 15 ?_ | refine Yb 15 ?_); (first | refine Zc 16 ?_ | refine Za 16 ?_ | refine ZP 16 ?_); (first | refine Zc 17 ?_ | refine Za 17 ?_ | refine wSb 17 ?_); (first | refine Zc 18 ?_ | refine Za 18 ?_ | refine wIa 18 ?_); (first | refine Zc 19 ?_ | refine Za 19 ?_ | refine ZW 19 ?_); (first | refine Zc 20 ?_ | refine Za 20 ?_ | refine Yb 20 ?_); (first | refine Zc 21 ?_ | refine Za 21 ?_ | refine ZW 21 ?_); (first | refine Zc 22 ?_ | refine Za 22 ?_ | refine Yb 22 ?_); (first | refine Zc 23 ?_ | refine Za 23 ?_ | refine Yw 23 ?_); (first | refine Zc 24 ?_ | refine Za 24 ?_ | refine wPk 24 ?_); refine YA 25 ?_; refine ZT 26 ?_)
     all_goals (first | refine Zc 27 ?_ | refine Za 27 ?_ | refine Yb 27 ?_ | (refine Zw (t := 53) rfl (fun hb => ?_) (fun hb => ?_) <;> (try simp only [kk] at hb) <;> first | refine Zc 27 ?_ | refine Za 27 ?_ | refine Yb 27 ?_))
     all_goals (first | refine Zc 28 ?_ | refine Za 28 ?_ | (refine Zp (i := 28) ?_; ((try refine Zk ?_); (first | (refine Ze (.func 129) ?_; refine qC rfl rfl (ht) ?_; rintro v ρ' L' hle ⟨rfl, rfl, rfl⟩ <;> (try simp only [kM, kN, kO])) | (refine Zn ?_; try intro _)) <;> ((try simp only [kM, kN, kO]); refine Zb ?_; refine Zl ?_))))
     all_goals (refine ZO ?_; (first | refine Zc 29 ?_ | refine Za 29 ?_ | refine wUn 29 ?_); refine YA 30 ?_; refine ZI ?_)
     all_goals (repeat' (first | (refine ZE ?_; refine Zo (Zd rfl) rfl rfl ?_) | (refine Zj ?_; first | (refine Zf ?_; refine qQ ?_) | refine Zn ?_) | refine Zb ?_ | (refine Zi ?_; refine Zv ?_) | (refine Zh ?_; refine Zu ?_) | (refine Xd ?_; refine ZN rfl rfl (fun hb => ?_) (fun hb => ?_) <;> (try simp only [decide_eq_true_eq, decide_eq_false_iff_not, Bool.not_eq_true, Bool.not_eq_false, beq_iff_eq, bne_iff_ne, ne_eq, decide_eq_decide, Bool.not_eq_eq_eq_not, Bool.not_true, Bool.not_false, beq_eq_false_iff_ne, bne_eq_false_iff_eq, Bool.and_eq_true, Bool.or_eq_true, Bool.and_eq_false_imp, Bool.or_eq_false_iff, bq2, bqt, bqf] at hb)) | (refine Yn ?_; refine Ya rfl (fun hb => ?_) (fun hb => ?_) <;> (try simp only [decide_eq_true_eq, decide_eq_false_iff_not, Bool.not_eq_true, Bool.not_eq_false, beq_iff_eq, bne_iff_ne, ne_eq, decide_eq_decide, Bool.not_eq_eq_eq_not, Bool.not_true, Bool.not_false, beq_eq_false_iff_ne, bne_eq_false_iff_eq, Bool.and_eq_true, Bool.or_eq_true, Bool.and_eq_false_imp, Bool.or_eq_false_iff, bq2, bqt, bqf] at hb)) | intro _))
     all_goals first | exact qE (L' := []) ⟨rfl, rfl, rfl⟩ | (exfalso; omega)
  ·have hk2 : k = r.txns.length := by omega
   rw [hk2, List.drop_length, txsB] at hok
   subst hok
   repeat' (first | (refine ZE ?_; refine Zo (Zd rfl) rfl rfl ?_) | (refine Zj ?_; first | (refine Zf ?_; refine qQ ?_) | refine Zn ?_) | refine Zb ?_ | (refine Zi ?_; refine Zv ?_) | (refine Zh ?_; refine Zu ?_) | intro _)
   exact qE (L' := []) ⟨rfl, rfl, rfl⟩
 ·rw [decide_eq_false hH, Bool.false_and]
  repeat' (first | (refine ZE ?_; refine Zo (Zd rfl) rfl rfl ?_) | (refine Zj ?_; first | (refine Zf ?_; refine qQ ?_) | refine Zn ?_) | refine Zb ?_ | (refine Zi ?_; refine Zv ?_) | (refine Zh ?_; refine Zu ?_) | (refine Xd ?_; refine ZN rfl rfl (fun hb => ?_) (fun hb => ?_) <;> (try simp only [decide_eq_true_eq, decide_eq_false_iff_not, Bool.not_eq_true, Bool.not_eq_false, beq_iff_eq, bne_iff_ne, ne_eq, decide_eq_decide, Bool.not_eq_eq_eq_not, Bool.not_true, Bool.not_false, beq_eq_false_iff_ne, bne_eq_false_iff_eq, Bool.and_eq_true, Bool.or_eq_true, Bool.and_eq_false_imp, Bool.or_eq_false_iff, bq2, bqt, bqf] at hb)) | (refine Yn ?_; refine Ya rfl (fun hb => ?_) (fun hb => ?_) <;> (try simp only [decide_eq_true_eq, decide_eq_false_iff_not, Bool.not_eq_true, Bool.not_eq_false, beq_iff_eq, bne_iff_ne, ne_eq, decide_eq_decide, Bool.not_eq_eq_eq_not, Bool.not_true, Bool.not_false, beq_eq_false_iff_ne, bne_eq_false_iff_eq, Bool.and_eq_true, Bool.or_eq_true, Bool.and_eq_false_imp, Bool.or_eq_false_iff, bq2, bqt, bqf] at hb)) | intro _)
  all_goals first | exact qE (L' := []) ⟨rfl, rfl, rfl⟩ | (exfalso; omega)
end Go.Proofs.E
