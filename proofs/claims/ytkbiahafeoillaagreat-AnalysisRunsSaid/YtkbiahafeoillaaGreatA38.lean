/- Laws of analysis. Part 38 of 41. -/
import Derived.Test.YtkbiahafeoillaaGreatA37
namespace Go.Proofs.E
open Go
set_option linter.unusedVariables false
set_option linter.unusedSimpArgs false
set_option linter.unusedSectionVars false
set_option maxRecDepth 4000
set_option maxHeartbeats 1000000
attribute [local irreducible] Yl TL TC TE Spec Xb R1 Hp.le EnvLe TS TR YS Zk
theorem new23_spec (ρ : Hp) (base master fin : Nat) : Spec Tryz.prog 23 [.int .u64 base, .int .u64 master, .int .u64 fin] ρ [] (fun z ρ' L' => z = .agg ⟨anV (newD base master fin)⟩ ∧ ρ' = ρ ∧ L' = []) := by
 refine Zd Tryz.func23 rfl rfl rfl fun u R => ?_
 simp only [Zo, List.cons_append, List.nil_append]
 repeat' (first | refine zV ?_ | intro _)
 exact qE (L' := []) ⟨rfl, rfl, rfl⟩
theorem same23_spec (ρ : Hp) (d e : AnD) (h : AnIn ρ d) (h' : AnIn ρ e) : Spec Tryz.prog 25 [.agg ⟨anV d⟩, .agg ⟨anV e⟩] ρ [] (fun z ρ' L' => z = .bool (decide (d.p = e.p)) ∧ ρ' = ρ ∧ L' = []) := by
 have h1 := same18_spec ρ d.rv e.rv d.ro e.ro h.r h'.r
 have h2 := same22_spec ρ d.dv e.dv d.dirty e.dirty h.d h'.d
 refine Zd Tryz.func25 rfl rfl rfl fun u R => ?_
 simp only [Zo, List.cons_append, List.nil_append]
 by_cases c : d.base = e.base ∧ d.master = e.master ∧ d.fin = e.fin ∧ d.next = e.next
 ·have hp : decide (d.p = e.p) = (decide (d.ro.p = e.ro.p) && decide (d.dirty = e.dirty)) := by
   rw [Bool.eq_iff_iff]
   simp only [Bool.and_eq_true, decide_eq_true_eq]
   rw [an_eq]
   exact ⟨fun g => g.2, fun g => ⟨c, g⟩⟩
  rw [hp]
  generalize decide (d.ro.p = e.ro.p) = q1 at *
  generalize decide (d.dirty = e.dirty) = q2 at *
  obtain ⟨c1, c2, c3, c4⟩ := c
  cases q1
  ·repeat' (first | (refine Zc (.func 61) ?_; refine qC rfl rfl (h1) ?_; rintro v ρ' L' hle ⟨rfl, rfl, rfl⟩ <;> (try simp only [kM, kN, kO])) | refine zV ?_ | intro _)
   exact qE (L' := []) ⟨rfl, rfl, rfl⟩
  ·repeat' (first | (refine Zc (.func 61) ?_; refine qC rfl rfl (h1) ?_; rintro v ρ' L' hle ⟨rfl, rfl, rfl⟩ <;> (try simp only [kM, kN, kO])) | (refine Zc (.func 62) ?_; refine qC rfl rfl (h2) ?_; rintro v ρ' L' hle ⟨rfl, rfl, rfl⟩ <;> (try simp only [kM, kN, kO])) | refine zV ?_ | intro _)
   exact qE (L' := []) ⟨rfl, rfl, rfl⟩
 ·rw [decide_eq_false (fun g => c (an_eq.1 g).1)]
  repeat' (first | refine zV ?_ | (refine YL ?_; refine ZB rfl rfl (fun hb => ?_) (fun hb => ?_) <;> (try simp only [decide_eq_true_eq, decide_eq_false_iff_not, Bool.not_eq_true, Bool.not_eq_false, beq_iff_eq, bne_iff_ne, ne_eq, decide_eq_decide, Bool.not_eq_eq_eq_not, Bool.not_true, Bool.not_false, beq_eq_false_iff_ne, bne_eq_false_iff_eq, Bool.and_eq_true, Bool.or_eq_true, Bool.and_eq_false_imp, Bool.or_eq_false_iff, bq2, bqt, bqf] at hb)) | (refine ZS ?_; refine ZM rfl (fun hb => ?_) (fun hb => ?_) <;> (try simp only [decide_eq_true_eq, decide_eq_false_iff_not, Bool.not_eq_true, Bool.not_eq_false, beq_iff_eq, bne_iff_ne, ne_eq, decide_eq_decide, Bool.not_eq_eq_eq_not, Bool.not_true, Bool.not_false, beq_eq_false_iff_ne, bne_eq_false_iff_eq, Bool.and_eq_true, Bool.or_eq_true, Bool.and_eq_false_imp, Bool.or_eq_false_iff, bq2, bqt, bqf] at hb)) | intro _)
  all_goals first | exact qE (L' := []) ⟨rfl, rfl, rfl⟩ | (exfalso; omega)
theorem WK (ρ : Hp) (d : AnD) (h : AnIn ρ d) : Spec Tryz.prog 24 [.agg ⟨anV d⟩] ρ [] (fun z ρ' L' => z = .bool (Yc d.p) ∧ ρ' = ρ ∧ L' = []) := by
 have hR := right18_spec ρ d.rv d.ro h.r
 have hT := right22_spec ρ d.dv d.dirty h.d
 rw [← tblOk_up] at hT
 have hA := h.r.at'.at'
 have hl := hA.len
 have hn := h.r.at'.big
 have hD := h.d.at'
 have hdl := hD.len
 have hdn := h.d.big
 have htx := h.r.tx
 unfold Yc
 dsimp only
 rw [any_tx, rosOk_p, hdl]
 generalize hq0 : spansB d.p = q0
 generalize WB d.ro = q1 at *
 generalize Xs d.dirty = q2 at *
 unfold spansB at hq0
 refine Zd Tryz.func24 rfl rfl rfl fun u R => ?_
 simp only [Zo, List.cons_append, List.nil_append]
 cases q0
 case' false =>
  rw [decide_eq_false_iff_not] at hq0
  dsimp only at hq0
  by_cases hm : d.master = 0
  all_goals (repeat' (first | refine zV ?_ | (refine YL ?_; refine ZB rfl rfl (fun hb => ?_) (fun hb => ?_) <;> (try simp only [decide_eq_true_eq, decide_eq_false_iff_not, Bool.not_eq_true, Bool.not_eq_false, beq_iff_eq, bne_iff_ne, ne_eq, decide_eq_decide, Bool.not_eq_eq_eq_not, Bool.not_true, Bool.not_false, beq_eq_false_iff_ne, bne_eq_false_iff_eq, Bool.and_eq_true, Bool.or_eq_true, Bool.and_eq_false_imp, Bool.or_eq_false_iff, bq2, bqt, bqf] at hb)) | (refine ZS ?_; refine ZM rfl (fun hb => ?_) (fun hb => ?_) <;> (try simp only [decide_eq_true_eq, decide_eq_false_iff_not, Bool.not_eq_true, Bool.not_eq_false, beq_iff_eq, bne_iff_ne, ne_eq, decide_eq_decide, Bool.not_eq_eq_eq_not, Bool.not_true, Bool.not_false, beq_eq_false_iff_ne, bne_eq_false_iff_eq, Bool.and_eq_true, Bool.or_eq_true, Bool.and_eq_false_imp, Bool.or_eq_false_iff, bq2, bqt, bqf] at hb)) | intro _))
  all_goals first | exact qE (L' := []) ⟨rfl, rfl, rfl⟩ | (exfalso; omega)
 rw [decide_eq_true_eq] at hq0
 dsimp only at hq0
 obtain ⟨s1, s2, s3, s4, s5, s6, s7⟩ := hq0
 generalize hQ3 : (d.ro.txns.any fun x => lateB d.next x.p) = q3
 generalize hQ4 : d.dirty.any (behindB d.next) = q4
 have hc : d.master = 0 ∧ d.base = 1 ∨ d.master ≠ 0 ∧ d.base ≤ d.master ∧ d.master < d.fin := by
  by_cases hm : d.master = 0
  ·exact .inl ⟨hm, s6 hm⟩
  ·exact .inr ⟨hm, s7 hm⟩
 clear s6 s7
 cases q1
 case' false =>
  rcases hc with ⟨m1, m2⟩ | ⟨m1, m2, m3⟩
  all_goals (repeat' (first | (refine Zc (.func 59) ?_; refine qC rfl rfl (hR) ?_; rintro v ρ' L' hle ⟨rfl, rfl, rfl⟩ <;> (try simp only [kM, kN, kO])) | refine zV ?_ | intro _))
  all_goals exact qE (L' := []) ⟨rfl, rfl, rfl⟩
 cases q2
 case' false =>
  rcases hc with ⟨m1, m2⟩ | ⟨m1, m2, m3⟩
  all_goals (repeat' (first | (refine Zc (.func 59) ?_; refine qC rfl rfl (hR) ?_; rintro v ρ' L' hle ⟨rfl, rfl, rfl⟩ <;> (try simp only [kM, kN, kO])) | (refine Zc (.func 60) ?_; refine qC rfl rfl (hT) ?_; rintro v ρ' L' hle ⟨rfl, rfl, rfl⟩ <;> (try simp only [kM, kN, kO])) | refine zV ?_ | intro _))
  all_goals exact qE (L' := []) ⟨rfl, rfl, rfl⟩
 simp only [Bool.true_and]
 rcases hc with ⟨m1, m2⟩ | ⟨m1, m2, m3⟩
 all_goals (
  repeat' (first | (refine Zc (.func 59) ?_; refine qC rfl rfl (hR) ?_; rintro v ρ' L' hle ⟨rfl, rfl, rfl⟩ <;> (try simp only [kM, kN, kO])) | (refine Zc (.func 60) ?_; refine qC rfl rfl (hT) ?_; rintro v ρ' L' hle ⟨rfl, rfl, rfl⟩ <;> (try simp only [kM, kN, kO])) | refine zV ?_ | intro _)
  refine Zq [(1, _)] (fun (ζ : (Nat)) => [(3, .int .i64 ζ), (2, .bool false)]) (fun (ζ : (Nat)) => ρ') (fun (ζ : (Nat)) => [[(_, .cells ⟨anV d⟩ 67 (0, 0))]]) (fun (ζ : (Nat)) => ζ ≤ d.rv.n ∧ (d.ro.txns.drop ζ).any (fun x => lateB d.next x.p) = q3) (fun (ζ : (Nat)) => d.rv.n - ζ) (0) (⟨Nat.zero_le _, hQ3⟩) Ze Ze rfl tk ?_
  rintro k hI
  try simp only [List.cons_append, List.nil_append, List.append_assoc, List.append_eq] at hI ⊢
  try dsimp only at hI ⊢
  obtain ⟨hk, hI⟩ := hI
  by_cases hlt : k < d.rv.n
  ·obtain ⟨b, off, C, T, fr, e1, hb, hfit, hcc⟩ := hA.get (show k < d.ro.txns.length by omega)
   have hx := htx _ (List.getElem_mem (show k < d.ro.txns.length by omega))
   rw [List.drop_eq_getElem_cons (show k < d.ro.txns.length by omega), List.any_cons] at hI
   generalize d.ro.txns[k]'(by omega) = x at *
   have hxm := hx.m.len
   have hxb := hx.mb
   have hx3 : C[off + k * 7 + 3]? = some (.int .u64 x.last) := cell_atQ hcc rfl
   have hx6 : C[off + k * 7 + 6]? = some (.slice x.mv.a x.mv.n x.mv.c) := cell_atQ hcc rfl
   by_cases c1 : d.next ≤ x.last
   ·have hL : lateB d.next x.p = true := decide_eq_true (.inl c1)
    rw [hL, Bool.true_or] at hI
    subst hI
    (simp only [anV]; rw [e1])
    repeat' (first | refine zV ?_ | intro _)
    refine Zu (Zk _ _ _) Zp ?_
    all_goals (refine ZN 0 ?_; refine Zz ?_; refine ZN 1 ?_; refine ZQ 2 ?_; refine Zx 3 ?_; refine rIa 4 ?_; refine ZN 5 ?_; refine ZQ 6 ?_; refine ZN 7 ?_; refine ZQ 8 ?_; refine rCm 9 ?_; refine Zx 10 ?_; (first | refine Zb 11 ?_ | refine Za 11 ?_ | refine ZE 11 ?_); (first | refine Zb 12 ?_ | refine Za 12 ?_ | refine ZE 12 ?_); (first | refine Zb 13 ?_ | refine Za 13 ?_ | refine ZL 13 ?_); (first | refine Zb 14 ?_ | refine Za 14 ?_ | refine ZI 14 ?_); (first | refine Zb 15 ?_ | refine Za 15 ?_ | refine wIa 15 ?_); (first | refine Zb 16 ?_ | refine Za 16 ?_ | refine ZE 16 ?_); (first | refine Zb 17 ?_ | refine Za 17 ?_ | refine ZL 17 ?_); (first | refine Zb 18 ?_ | refine Za 18 ?_ | refine wBi 18 ?_); (first | refine Zb 19 ?_ | refine Za 19 ?_ | refine Yg 19 ?_); refine Yj 20 ?_; refine Zv ?_)
    all_goals (repeat' (first | refine zV ?_ | intro _))
    all_goals exact qE (L' := []) ⟨rfl, rfl, rfl⟩
   by_cases c2 : 0 < x.mv.n
   ·have hL : lateB d.next x.p = true := decide_eq_true (.inr (by show 0 < x.marks.length; omega))
    rw [hL, Bool.true_or] at hI
    subst hI
    (simp only [anV]; rw [e1])
    repeat' (first | refine zV ?_ | intro _)
    refine Zu (Zk _ _ _) Zp ?_
    all_goals (refine ZN 0 ?_; refine Zz ?_; refine ZN 1 ?_; refine ZQ 2 ?_; refine Zx 3 ?_; refine rIa 4 ?_; refine ZN 5 ?_; refine ZQ 6 ?_; refine ZN 7 ?_; refine ZQ 8 ?_; refine rCm 9 ?_; refine Zx 10 ?_; (first | refine Zb 11 ?_ | refine Za 11 ?_ | refine ZE 11 ?_); (first | refine Zb 12 ?_ | refine Za 12 ?_ | refine ZE 12 ?_); (first | refine Zb 13 ?_ | refine Za 13 ?_ | refine ZL 13 ?_); (first | refine Zb 14 ?_ | refine Za 14 ?_ | refine ZI 14 ?_); (first | refine Zb 15 ?_ | refine Za 15 ?_ | refine wIa 15 ?_); (first | refine Zb 16 ?_ | refine Za 16 ?_ | refine ZE 16 ?_); (first | refine Zb 17 ?_ | refine Za 17 ?_ | refine ZL 17 ?_); (first | refine Zb 18 ?_ | refine Za 18 ?_ | refine wBi 18 ?_); (first | refine Zb 19 ?_ | refine Za 19 ?_ | refine Yg 19 ?_); refine Yj 20 ?_; refine Zv ?_)
    all_goals (repeat' (first | refine zV ?_ | intro _))
    all_goals exact qE (L' := []) ⟨rfl, rfl, rfl⟩
   have hL : lateB d.next x.p = false := decide_eq_false (by
    rintro (g | g)
    ·exact c1 g
    ·exact c2 (by rw [← hxm]; exact g))
   rw [hL, Bool.false_or] at hI
   (simp only [anV]; rw [e1])
   repeat' (first | refine zV ?_ | intro _)
   refine Zu (Zk _ _ _) Zp ?_
   all_goals (refine ZN 0 ?_; refine Zz ?_; refine ZN 1 ?_; refine ZQ 2 ?_; refine Zx 3 ?_; refine rIa 4 ?_; refine ZN 5 ?_; refine ZQ 6 ?_; refine ZN 7 ?_; refine ZQ 8 ?_; refine rCm 9 ?_; refine Zx 10 ?_; (first | refine Zb 11 ?_ | refine Za 11 ?_ | refine ZE 11 ?_); (first | refine Zb 12 ?_ | refine Za 12 ?_ | refine ZE 12 ?_); (first | refine Zb 13 ?_ | refine Za 13 ?_ | refine ZL 13 ?_); (first | refine Zb 14 ?_ | refine Za 14 ?_ | refine ZI 14 ?_); (first | refine Zb 15 ?_ | refine Za 15 ?_ | refine wIa 15 ?_); (first | refine Zb 16 ?_ | refine Za 16 ?_ | refine ZE 16 ?_); (first | refine Zb 17 ?_ | refine Za 17 ?_ | refine ZL 17 ?_); (first | refine Zb 18 ?_ | refine Za 18 ?_ | refine wBi 18 ?_); (first | refine Zb 19 ?_ | refine Za 19 ?_ | refine Yg 19 ?_); refine Yj 20 ?_; refine Zv ?_)
   all_goals (repeat' (first | refine zV ?_ | intro _))
   all_goals rw [← e1]
   all_goals refine Zg (k + 1) (⟨hlt, hI⟩) Ze Ze rfl tk inferInstance (by first | omega | (dsimp only; omega))
  ·rw [List.drop_of_length_le (by omega), List.any_nil] at hI
   subst hI
   simp only [Bool.not_false, Bool.true_and]
   repeat' (first | refine zV ?_ | intro _)
   refine Zq [(1, _)] (fun (ζ : (Nat)) => [(4, .int .i64 ζ), (2, .bool false)]) (fun (ζ : (Nat)) => ρ') (fun (ζ : (Nat)) => [[(_, .cells ⟨anV d⟩ 67 (0, 0))]]) (fun (ζ : (Nat)) => ζ ≤ d.dv.n ∧ (d.dirty.drop ζ).any (behindB d.next) = q4) (fun (ζ : (Nat)) => d.dv.n - ζ) (0) (⟨Nat.zero_le _, hQ4⟩) Ze Ze rfl tk ?_
   rintro j hI
   try simp only [List.cons_append, List.nil_append, List.append_assoc, List.append_eq] at hI ⊢
   try dsimp only at hI ⊢
   obtain ⟨hj, hI⟩ := hI
   by_cases hlt2 : j < d.dv.n
   ·obtain ⟨b, off, C, T, fr, e1, hb, hfit, hcc⟩ := hD.get (show j < d.dirty.length by omega)
    rw [List.drop_eq_getElem_cons (show j < d.dirty.length by omega), List.any_cons] at hI
    generalize d.dirty[j]'(by omega) = x at *
    have hx1 : C[off + j * 2 + 1]? = some (.int .u64 x.since) := cell_atQ hcc rfl
    by_cases c1 : d.next ≤ x.since
    ·have hL : behindB d.next x = true := decide_eq_true c1
     rw [hL, Bool.true_or] at hI
     subst hI
     (simp only [anV]; rw [e1])
     repeat' (first | refine zV ?_ | intro _)
     refine Zu (Zk _ _ _) Zp ?_
     all_goals (refine ZN 0 ?_; refine Zz ?_; refine ZQ 1 ?_; refine Zx 2 ?_; refine rIa 3 ?_; refine ZN 4 ?_; refine ZQ 5 ?_; refine ZN 6 ?_; refine ZQ 7 ?_; refine rCm 8 ?_; refine Zv ?_)
     all_goals (repeat' (first | refine zV ?_ | intro _))
     all_goals exact qE (L' := []) ⟨rfl, rfl, rfl⟩
    ·have hL : behindB d.next x = false := decide_eq_false c1
     rw [hL, Bool.false_or] at hI
     (simp only [anV]; rw [e1])
     repeat' (first | refine zV ?_ | intro _)
     refine Zu (Zk _ _ _) Zp ?_
     all_goals (refine ZN 0 ?_; refine Zz ?_; refine ZQ 1 ?_; refine Zx 2 ?_; refine rIa 3 ?_; refine ZN 4 ?_; refine ZQ 5 ?_; refine ZN 6 ?_; refine ZQ 7 ?_; refine rCm 8 ?_; refine Zv ?_)
     all_goals (repeat' (first | refine zV ?_ | intro _))
     all_goals rw [← e1]
     all_goals refine Zg (j + 1) (⟨hlt2, hI⟩) Ze Ze rfl tk inferInstance (by first | omega | (dsimp only; omega))
   ·rw [List.drop_of_length_le (by omega), List.any_nil] at hI
    subst hI
    simp only [Bool.not_false, Bool.true_and]
    generalize hdd : decide (d.master < d.next ∨ d.dv.n = 0) = dd
    rcases (show d.master < d.next ∨ (¬ d.master < d.next ∧ d.dv.n = 0) ∨ (¬ d.master < d.next ∧ ¬ d.dv.n = 0) by omega) with c1 | ⟨c1, c2⟩ | ⟨c1, c2⟩
    all_goals try (exfalso; omega)
    all_goals (repeat' (first | refine zV ?_ | intro _))
    all_goals (refine qF (L' := []) ?_; exact ⟨Ym (by rw [← hdd]; simp [c1]; try omega), rfl, rfl⟩))
end Go.Proofs.E
