/- Laws of analysis. Part 18 of 41. -/
import Derived.Test.YtkbiahafeoillaaGreatA17
namespace Go.Proofs.E
open Go
set_option linter.unusedVariables false
set_option linter.unusedSimpArgs false
set_option linter.unusedSectionVars false
set_option maxRecDepth 4000
set_option maxHeartbeats 1000000
attribute [local irreducible] Yl TL TC TE Spec Xb R1 Hp.le EnvLe TS TR YS Zk
theorem txOk_18 {next last : Int} {x : Tx} : txOk next last x = (decide (last < x.num ∧ x.num < next) && tx18B x) := by
 unfold txOk txHead tx18B
 rw [Bool.eq_iff_iff]
 simp only [Bool.and_eq_true, decide_eq_true_eq]
 constructor
 ·rintro ⟨⟨h1, h2, h3⟩, h4⟩; exact ⟨⟨h1, h2⟩, h3, h4⟩
 ·rintro ⟨⟨h1, h2⟩, h3, h4⟩; exact ⟨⟨h1, h2, h3⟩, h4⟩
theorem right18_spec (ρ : Hp) (v : SV) (r : Ros) (h : RosIn ρ v r) : Spec Tryz.prog 59 [.agg ⟨XI v r⟩] ρ [] (fun z ρ' L' => z = .bool (WB r) ∧ ρ' = ρ ∧ L' = []) := by
 have hl := h.at'.at'.len
 have hn := h.at'.big
 have hA := h.at'.at'
 unfold WB
 rw [hl]
 refine Zd Tryz.func59 rfl rfl rfl fun u R => ?_
 simp only [Zo, List.cons_append, List.nil_append]
 by_cases hH : 1 ≤ r.next ∧ r.next ≤ 1073741824 ∧ v.n ≤ 8
 ·rw [decide_eq_true hH, Bool.true_and]
  generalize hq : txsB r.next 0 r.txns = q
  repeat' (first | refine zV ?_ | intro _)
  rename_i bx
  refine Zq [(1, _), (20, _), (21, _)] (fun (ζ : (Nat) × (Int)) => [(22, .int .i64 ζ.1), (2, .bool false)]) (fun (ζ : (Nat) × (Int)) => ρ) (fun (ζ : (Nat) × (Int)) => [[(bx, .cells ⟨XI v r⟩ 26 (0, 0))]]) (fun (ζ : (Nat) × (Int)) => ζ.1 ≤ v.n ∧ txsB r.next ζ.2 (r.txns.drop ζ.1) = q ∧ 0 ≤ ζ.2 ∧ (ζ.1 = 0 → ζ.2 = 0) ∧ (∀ y, 0 < ζ.1 → r.txns[ζ.1 - 1]? = some y → y.num = ζ.2)) (fun (ζ : (Nat) × (Int)) => v.n - ζ.1) ((0, 0)) (⟨Nat.zero_le _, hq, Int.le_refl _, fun _ => rfl, fun _ h => absurd h (Nat.lt_irrefl _)⟩) Ze Ze rfl tk ?_
  rintro ⟨k, last⟩ hI
  try simp only [List.cons_append, List.nil_append, List.append_assoc, List.append_eq] at hI ⊢
  try dsimp only at hI ⊢
  obtain ⟨hk, hok, hl0, hk0, hky⟩ := hI
  by_cases hlt : k < v.n
  ·obtain ⟨b, off, C, T, fr, e1, hb, hfit, hc⟩ := hA.get (show k < r.txns.length by omega)
   have hmem := List.getElem_mem (show k < r.txns.length by omega)
   have hnext : ∀ y, 0 < k + 1 → r.txns[k + 1 - 1]? = some y → y.num = (r.txns[k]'(by omega)).num := fun y _ hy => by
    rw [Nat.add_sub_cancel, List.getElem?_eq_getElem (by omega)] at hy
    rw [Option.some.inj hy]
   rw [List.drop_eq_getElem_cons (show k < r.txns.length by omega), txsB, txOk_18] at hok
   generalize r.txns[k]'(by omega) = y at *
   have ht := txn18_spec ρ y (h.tx y hmem)
   generalize tx18B y = ty at *
   by_cases hz : k = 0
   ·have hl00 := hk0 hz
    (try dsimp only [XI]); rw [e1]
    by_cases hy : last < y.num ∧ y.num < r.next
    ·rw [decide_eq_true hy, Bool.true_and] at hok
     cases ty
     ·rw [Bool.false_and] at hok
      subst hok
      repeat' (first | refine zV ?_ | intro _)
      refine Zu (Zk _ _ _) Zp ?_
      all_goals (refine ZN 0 ?_; refine ZQ 1 ?_; refine rCm 2 ?_; refine Zx 3 ?_)
      all_goals (first | refine Zb 4 ?_ | refine Za 4 ?_ | refine ZE 4 ?_ | (refine Zn (t := 30) rfl (fun hb => ?_) (fun hb => ?_) <;> (try simp only [kk] at hb) <;> first | refine Zb 4 ?_ | refine Za 4 ?_ | refine ZE 4 ?_))
      all_goals ((first | refine Zb 5 ?_ | refine Za 5 ?_ | refine ZL 5 ?_); (first | refine Zb 6 ?_ | refine Za 6 ?_ | refine ZE 6 ?_); (first | refine Zb 7 ?_ | refine Za 7 ?_ | refine ZL 7 ?_); (first | refine Zb 8 ?_ | refine Za 8 ?_ | refine Yg 8 ?_); refine Yj 9 ?_; refine Zx 10 ?_)
      all_goals (first | refine Zb 11 ?_ | refine Za 11 ?_ | refine ZI 11 ?_ | (refine Zn (t := 37) rfl (fun hb => ?_) (fun hb => ?_) <;> (try simp only [kk] at hb) <;> first | refine Zb 11 ?_ | refine Za 11 ?_ | refine ZI 11 ?_))
      all_goals ((first | refine Zb 12 ?_ | refine Za 12 ?_ | refine Yg 12 ?_); (first | refine Zb 13 ?_ | refine Za 13 ?_ | refine ZI 13 ?_))
      all_goals (first | refine Zb 14 ?_ | refine Za 14 ?_ | refine ZE 14 ?_ | (refine Zn (t := 40) rfl (fun hb => ?_) (fun hb => ?_) <;> (try simp only [kk] at hb) <;> first | refine Zb 14 ?_ | refine Za 14 ?_ | refine ZE 14 ?_))
      all_goals ((first | refine Zb 15 ?_ | refine Za 15 ?_ | refine ZL 15 ?_); (first | refine Zb 16 ?_ | refine Za 16 ?_ | refine ZI 16 ?_); (first | refine Zb 17 ?_ | refine Za 17 ?_ | refine wSb 17 ?_); (first | refine Zb 18 ?_ | refine Za 18 ?_ | refine wIa 18 ?_); (first | refine Zb 19 ?_ | refine Za 19 ?_ | refine ZE 19 ?_); (first | refine Zb 20 ?_ | refine Za 20 ?_ | refine ZL 20 ?_); (first | refine Zb 21 ?_ | refine Za 21 ?_ | refine ZE 21 ?_); (first | refine Zb 22 ?_ | refine Za 22 ?_ | refine ZL 22 ?_); (first | refine Zb 23 ?_ | refine Za 23 ?_ | refine Yg 23 ?_); (first | refine Zb 24 ?_ | refine Za 24 ?_ | refine wPk 24 ?_); refine Yj 25 ?_; refine Zx 26 ?_)
      all_goals (first | refine Zb 27 ?_ | refine Za 27 ?_ | refine ZL 27 ?_ | (refine Zn (t := 53) rfl (fun hb => ?_) (fun hb => ?_) <;> (try simp only [kk] at hb) <;> first | refine Zb 27 ?_ | refine Za 27 ?_ | refine ZL 27 ?_))
      all_goals (first | refine Zb 28 ?_ | refine Za 28 ?_ | (refine Zj (i := 28) ?_; ((try refine Zh ?_); (first | (refine Zc (.func 112) ?_; refine qC rfl rfl (ht) ?_; rintro v ρ' L' hle ⟨rfl, rfl, rfl⟩ <;> (try simp only [kM, kN, kO])) | (refine ZF ?_; try intro _)) <;> ((try simp only [kM, kN, kO]); refine Zf ?_; refine Zi ?_))))
      all_goals (refine Zz ?_; (first | refine Zb 29 ?_ | refine Za 29 ?_ | refine wUn 29 ?_); refine Yj 30 ?_; refine Zv ?_)
      all_goals (repeat' (first | refine zV ?_ | intro _))
      all_goals exact qE (L' := []) ⟨rfl, rfl, rfl⟩
     ·rw [Bool.true_and] at hok
      repeat' (first | refine zV ?_ | intro _)
      refine Zu (Zk _ _ _) Zp ?_
      all_goals (refine ZN 0 ?_; refine ZQ 1 ?_; refine rCm 2 ?_; refine Zx 3 ?_)
      all_goals (first | refine Zb 4 ?_ | refine Za 4 ?_ | refine ZE 4 ?_ | (refine Zn (t := 30) rfl (fun hb => ?_) (fun hb => ?_) <;> (try simp only [kk] at hb) <;> first | refine Zb 4 ?_ | refine Za 4 ?_ | refine ZE 4 ?_))
      all_goals ((first | refine Zb 5 ?_ | refine Za 5 ?_ | refine ZL 5 ?_); (first | refine Zb 6 ?_ | refine Za 6 ?_ | refine ZE 6 ?_); (first | refine Zb 7 ?_ | refine Za 7 ?_ | refine ZL 7 ?_); (first | refine Zb 8 ?_ | refine Za 8 ?_ | refine Yg 8 ?_); refine Yj 9 ?_; refine Zx 10 ?_)
      all_goals (first | refine Zb 11 ?_ | refine Za 11 ?_ | refine ZI 11 ?_ | (refine Zn (t := 37) rfl (fun hb => ?_) (fun hb => ?_) <;> (try simp only [kk] at hb) <;> first | refine Zb 11 ?_ | refine Za 11 ?_ | refine ZI 11 ?_))
      all_goals ((first | refine Zb 12 ?_ | refine Za 12 ?_ | refine Yg 12 ?_); (first | refine Zb 13 ?_ | refine Za 13 ?_ | refine ZI 13 ?_))
      all_goals (first | refine Zb 14 ?_ | refine Za 14 ?_ | refine ZE 14 ?_ | (refine Zn (t := 40) rfl (fun hb => ?_) (fun hb => ?_) <;> (try simp only [kk] at hb) <;> first | refine Zb 14 ?_ | refine Za 14 ?_ | refine ZE 14 ?_))
      all_goals ((first | refine Zb 15 ?_ | refine Za 15 ?_ | refine ZL 15 ?_); (first | refine Zb 16 ?_ | refine Za 16 ?_ | refine ZI 16 ?_); (first | refine Zb 17 ?_ | refine Za 17 ?_ | refine wSb 17 ?_); (first | refine Zb 18 ?_ | refine Za 18 ?_ | refine wIa 18 ?_); (first | refine Zb 19 ?_ | refine Za 19 ?_ | refine ZE 19 ?_); (first | refine Zb 20 ?_ | refine Za 20 ?_ | refine ZL 20 ?_); (first | refine Zb 21 ?_ | refine Za 21 ?_ | refine ZE 21 ?_); (first | refine Zb 22 ?_ | refine Za 22 ?_ | refine ZL 22 ?_); (first | refine Zb 23 ?_ | refine Za 23 ?_ | refine Yg 23 ?_); (first | refine Zb 24 ?_ | refine Za 24 ?_ | refine wPk 24 ?_); refine Yj 25 ?_; refine Zx 26 ?_)
      all_goals (first | refine Zb 27 ?_ | refine Za 27 ?_ | refine ZL 27 ?_ | (refine Zn (t := 53) rfl (fun hb => ?_) (fun hb => ?_) <;> (try simp only [kk] at hb) <;> first | refine Zb 27 ?_ | refine Za 27 ?_ | refine ZL 27 ?_))
      all_goals (first | refine Zb 28 ?_ | refine Za 28 ?_ | (refine Zj (i := 28) ?_; ((try refine Zh ?_); (first | (refine Zc (.func 112) ?_; refine qC rfl rfl (ht) ?_; rintro v ρ' L' hle ⟨rfl, rfl, rfl⟩ <;> (try simp only [kM, kN, kO])) | (refine ZF ?_; try intro _)) <;> ((try simp only [kM, kN, kO]); refine Zf ?_; refine Zi ?_))))
      all_goals (refine Zz ?_; (first | refine Zb 29 ?_ | refine Za 29 ?_ | refine wUn 29 ?_); refine Yj 30 ?_; refine Zv ?_)
      all_goals (repeat' (first | refine zV ?_ | intro _))
      all_goals rw [← e1]
      all_goals refine Zg (k + 1, y.num) (⟨hlt, hok, by dsimp only; omega, fun h => by omega, hnext⟩) Ze Ze rfl tk inferInstance (by first | omega | (dsimp only; omega))
    ·rw [decide_eq_false hy, Bool.false_and, Bool.false_and] at hok
     subst hok
     repeat' (first | refine zV ?_ | intro _)
     refine Zu (Zk _ _ _) Zp ?_
     all_goals (refine ZN 0 ?_; refine ZQ 1 ?_; refine rCm 2 ?_; refine Zx 3 ?_)
     all_goals (first | refine Zb 4 ?_ | refine Za 4 ?_ | refine ZE 4 ?_ | (refine Zn (t := 30) rfl (fun hb => ?_) (fun hb => ?_) <;> (try simp only [kk] at hb) <;> first | refine Zb 4 ?_ | refine Za 4 ?_ | refine ZE 4 ?_))
     all_goals ((first | refine Zb 5 ?_ | refine Za 5 ?_ | refine ZL 5 ?_); (first | refine Zb 6 ?_ | refine Za 6 ?_ | refine ZE 6 ?_); (first | refine Zb 7 ?_ | refine Za 7 ?_ | refine ZL 7 ?_); (first | refine Zb 8 ?_ | refine Za 8 ?_ | refine Yg 8 ?_); refine Yj 9 ?_; refine Zx 10 ?_)
     all_goals (first | refine Zb 11 ?_ | refine Za 11 ?_ | refine ZI 11 ?_ | (refine Zn (t := 37) rfl (fun hb => ?_) (fun hb => ?_) <;> (try simp only [kk] at hb) <;> first | refine Zb 11 ?_ | refine Za 11 ?_ | refine ZI 11 ?_))
     all_goals ((first | refine Zb 12 ?_ | refine Za 12 ?_ | refine Yg 12 ?_); (first | refine Zb 13 ?_ | refine Za 13 ?_ | refine ZI 13 ?_))
     all_goals (first | refine Zb 14 ?_ | refine Za 14 ?_ | refine ZE 14 ?_ | (refine Zn (t := 40) rfl (fun hb => ?_) (fun hb => ?_) <;> (try simp only [kk] at hb) <;> first | refine Zb 14 ?_ | refine Za 14 ?_ | refine ZE 14 ?_))
     all_goals ((first | refine Zb 15 ?_ | refine Za 15 ?_ | refine ZL 15 ?_); (first | refine Zb 16 ?_ | refine Za 16 ?_ | refine ZI 16 ?_); (first | refine Zb 17 ?_ | refine Za 17 ?_ | refine wSb 17 ?_); (first | refine Zb 18 ?_ | refine Za 18 ?_ | refine wIa 18 ?_); (first | refine Zb 19 ?_ | refine Za 19 ?_ | refine ZE 19 ?_); (first | refine Zb 20 ?_ | refine Za 20 ?_ | refine ZL 20 ?_); (first | refine Zb 21 ?_ | refine Za 21 ?_ | refine ZE 21 ?_); (first | refine Zb 22 ?_ | refine Za 22 ?_ | refine ZL 22 ?_); (first | refine Zb 23 ?_ | refine Za 23 ?_ | refine Yg 23 ?_); (first | refine Zb 24 ?_ | refine Za 24 ?_ | refine wPk 24 ?_); refine Yj 25 ?_; refine Zx 26 ?_)
     all_goals (first | refine Zb 27 ?_ | refine Za 27 ?_ | refine ZL 27 ?_ | (refine Zn (t := 53) rfl (fun hb => ?_) (fun hb => ?_) <;> (try simp only [kk] at hb) <;> first | refine Zb 27 ?_ | refine Za 27 ?_ | refine ZL 27 ?_))
     all_goals (first | refine Zb 28 ?_ | refine Za 28 ?_ | (refine Zj (i := 28) ?_; ((try refine Zh ?_); (first | (refine Zc (.func 112) ?_; refine qC rfl rfl (ht) ?_; rintro v ρ' L' hle ⟨rfl, rfl, rfl⟩ <;> (try simp only [kM, kN, kO])) | (refine ZF ?_; try intro _)) <;> ((try simp only [kM, kN, kO]); refine Zf ?_; refine Zi ?_))))
     all_goals (refine Zz ?_; (first | refine Zb 29 ?_ | refine Za 29 ?_ | refine wUn 29 ?_); refine Yj 30 ?_; refine Zv ?_)
     all_goals (repeat' (first | refine zV ?_ | (refine YL ?_; refine ZB rfl rfl (fun hb => ?_) (fun hb => ?_) <;> (try simp only [decide_eq_true_eq, decide_eq_false_iff_not, Bool.not_eq_true, Bool.not_eq_false, beq_iff_eq, bne_iff_ne, ne_eq, decide_eq_decide, Bool.not_eq_eq_eq_not, Bool.not_true, Bool.not_false, beq_eq_false_iff_ne, bne_eq_false_iff_eq, Bool.and_eq_true, Bool.or_eq_true, Bool.and_eq_false_imp, Bool.or_eq_false_iff, bq2, bqt, bqf] at hb)) | (refine ZS ?_; refine ZM rfl (fun hb => ?_) (fun hb => ?_) <;> (try simp only [decide_eq_true_eq, decide_eq_false_iff_not, Bool.not_eq_true, Bool.not_eq_false, beq_iff_eq, bne_iff_ne, ne_eq, decide_eq_decide, Bool.not_eq_eq_eq_not, Bool.not_true, Bool.not_false, beq_eq_false_iff_ne, bne_eq_false_iff_eq, Bool.and_eq_true, Bool.or_eq_true, Bool.and_eq_false_imp, Bool.or_eq_false_iff, bq2, bqt, bqf] at hb)) | intro _))
     all_goals first | exact qE (L' := []) ⟨rfl, rfl, rfl⟩ | (exfalso; omega)
   ·obtain ⟨b2, off2, C2, T2, fr2, f1, hb2, hfit2, hc2⟩ := hA.get (show k - 1 < r.txns.length by omega)
    have hlp := hky _ (by omega) (List.getElem?_eq_getElem (show k - 1 < r.txns.length by omega))
    generalize r.txns[k - 1]'(by omega) = p at *
    rw [e1] at f1
    cases f1
    rw [hb] at hb2
    cases hb2
    have ek : ((k : Int) - 1).toNat = k - 1 := by omega
    have hcy : C[off + ((k : Int) - 1).toNat * 7]? = some (.int .i64 p.num) := by
     have := congrArg (fun l => l[0]?) hc2
     rw [ek]
     simp only [List.getElem?_take, List.getElem?_drop] at this
     simpa using this
    (try dsimp only [XI]); rw [e1]
    by_cases hy : last < y.num ∧ y.num < r.next
    ·rw [decide_eq_true hy, Bool.true_and] at hok
     cases ty
     ·rw [Bool.false_and] at hok
      subst hok
      repeat' (first | refine zV ?_ | intro _)
      refine Zu (Zk _ _ _) Zp ?_
      all_goals (refine ZN 0 ?_; refine ZQ 1 ?_; refine rCm 2 ?_; refine Zx 3 ?_)
      all_goals (first | refine Zb 4 ?_ | refine Za 4 ?_ | refine ZE 4 ?_ | (refine Zn (t := 30) rfl (fun hb => ?_) (fun hb => ?_) <;> (try simp only [kk] at hb) <;> first | refine Zb 4 ?_ | refine Za 4 ?_ | refine ZE 4 ?_))
      all_goals ((first | refine Zb 5 ?_ | refine Za 5 ?_ | refine ZL 5 ?_); (first | refine Zb 6 ?_ | refine Za 6 ?_ | refine ZE 6 ?_); (first | refine Zb 7 ?_ | refine Za 7 ?_ | refine ZL 7 ?_); (first | refine Zb 8 ?_ | refine Za 8 ?_ | refine Yg 8 ?_); refine Yj 9 ?_; refine Zx 10 ?_)
      all_goals (first | refine Zb 11 ?_ | refine Za 11 ?_ | refine ZI 11 ?_ | (refine Zn (t := 37) rfl (fun hb => ?_) (fun hb => ?_) <;> (try simp only [kk] at hb) <;> first | refine Zb 11 ?_ | refine Za 11 ?_ | refine ZI 11 ?_))
      all_goals ((first | refine Zb 12 ?_ | refine Za 12 ?_ | refine Yg 12 ?_); (first | refine Zb 13 ?_ | refine Za 13 ?_ | refine ZI 13 ?_))
      all_goals (first | refine Zb 14 ?_ | refine Za 14 ?_ | refine ZE 14 ?_ | (refine Zn (t := 40) rfl (fun hb => ?_) (fun hb => ?_) <;> (try simp only [kk] at hb) <;> first | refine Zb 14 ?_ | refine Za 14 ?_ | refine ZE 14 ?_))
      all_goals ((first | refine Zb 15 ?_ | refine Za 15 ?_ | refine ZL 15 ?_); (first | refine Zb 16 ?_ | refine Za 16 ?_ | refine ZI 16 ?_); (first | refine Zb 17 ?_ | refine Za 17 ?_ | refine wSb 17 ?_); (first | refine Zb 18 ?_ | refine Za 18 ?_ | refine wIa 18 ?_); (first | refine Zb 19 ?_ | refine Za 19 ?_ | refine ZE 19 ?_); (first | refine Zb 20 ?_ | refine Za 20 ?_ | refine ZL 20 ?_); (first | refine Zb 21 ?_ | refine Za 21 ?_ | refine ZE 21 ?_); (first | refine Zb 22 ?_ | refine Za 22 ?_ | refine ZL 22 ?_); (first | refine Zb 23 ?_ | refine Za 23 ?_ | refine Yg 23 ?_); (first | refine Zb 24 ?_ | refine Za 24 ?_ | refine wPk 24 ?_); refine Yj 25 ?_; refine Zx 26 ?_)
      all_goals (first | refine Zb 27 ?_ | refine Za 27 ?_ | refine ZL 27 ?_ | (refine Zn (t := 53) rfl (fun hb => ?_) (fun hb => ?_) <;> (try simp only [kk] at hb) <;> first | refine Zb 27 ?_ | refine Za 27 ?_ | refine ZL 27 ?_))
      all_goals (first | refine Zb 28 ?_ | refine Za 28 ?_ | (refine Zj (i := 28) ?_; ((try refine Zh ?_); (first | (refine Zc (.func 112) ?_; refine qC rfl rfl (ht) ?_; rintro v ρ' L' hle ⟨rfl, rfl, rfl⟩ <;> (try simp only [kM, kN, kO])) | (refine ZF ?_; try intro _)) <;> ((try simp only [kM, kN, kO]); refine Zf ?_; refine Zi ?_))))
      all_goals (refine Zz ?_; (first | refine Zb 29 ?_ | refine Za 29 ?_ | refine wUn 29 ?_); refine Yj 30 ?_; refine Zv ?_)
      all_goals (repeat' (first | refine zV ?_ | intro _))
      all_goals exact qE (L' := []) ⟨rfl, rfl, rfl⟩
     ·rw [Bool.true_and] at hok
      repeat' (first | refine zV ?_ | intro _)
      refine Zu (Zk _ _ _) Zp ?_
      all_goals (refine ZN 0 ?_; refine ZQ 1 ?_; refine rCm 2 ?_; refine Zx 3 ?_)
      all_goals (first | refine Zb 4 ?_ | refine Za 4 ?_ | refine ZE 4 ?_ | (refine Zn (t := 30) rfl (fun hb => ?_) (fun hb => ?_) <;> (try simp only [kk] at hb) <;> first | refine Zb 4 ?_ | refine Za 4 ?_ | refine ZE 4 ?_))
      all_goals ((first | refine Zb 5 ?_ | refine Za 5 ?_ | refine ZL 5 ?_); (first | refine Zb 6 ?_ | refine Za 6 ?_ | refine ZE 6 ?_); (first | refine Zb 7 ?_ | refine Za 7 ?_ | refine ZL 7 ?_); (first | refine Zb 8 ?_ | refine Za 8 ?_ | refine Yg 8 ?_); refine Yj 9 ?_; refine Zx 10 ?_)
      all_goals (first | refine Zb 11 ?_ | refine Za 11 ?_ | refine ZI 11 ?_ | (refine Zn (t := 37) rfl (fun hb => ?_) (fun hb => ?_) <;> (try simp only [kk] at hb) <;> first | refine Zb 11 ?_ | refine Za 11 ?_ | refine ZI 11 ?_))
      all_goals ((first | refine Zb 12 ?_ | refine Za 12 ?_ | refine Yg 12 ?_); (first | refine Zb 13 ?_ | refine Za 13 ?_ | refine ZI 13 ?_))
      all_goals (first | refine Zb 14 ?_ | refine Za 14 ?_ | refine ZE 14 ?_ | (refine Zn (t := 40) rfl (fun hb => ?_) (fun hb => ?_) <;> (try simp only [kk] at hb) <;> first | refine Zb 14 ?_ | refine Za 14 ?_ | refine ZE 14 ?_))
      all_goals ((first | refine Zb 15 ?_ | refine Za 15 ?_ | refine ZL 15 ?_); (first | refine Zb 16 ?_ | refine Za 16 ?_ | refine ZI 16 ?_); (first | refine Zb 17 ?_ | refine Za 17 ?_ | refine wSb 17 ?_); (first | refine Zb 18 ?_ | refine Za 18 ?_ | refine wIa 18 ?_); (first | refine Zb 19 ?_ | refine Za 19 ?_ | refine ZE 19 ?_); (first | refine Zb 20 ?_ | refine Za 20 ?_ | refine ZL 20 ?_); (first | refine Zb 21 ?_ | refine Za 21 ?_ | refine ZE 21 ?_); (first | refine Zb 22 ?_ | refine Za 22 ?_ | refine ZL 22 ?_); (first | refine Zb 23 ?_ | refine Za 23 ?_ | refine Yg 23 ?_); (first | refine Zb 24 ?_ | refine Za 24 ?_ | refine wPk 24 ?_); refine Yj 25 ?_; refine Zx 26 ?_)
      all_goals (first | refine Zb 27 ?_ | refine Za 27 ?_ | refine ZL 27 ?_ | (refine Zn (t := 53) rfl (fun hb => ?_) (fun hb => ?_) <;> (try simp only [kk] at hb) <;> first | refine Zb 27 ?_ | refine Za 27 ?_ | refine ZL 27 ?_))
      all_goals (first | refine Zb 28 ?_ | refine Za 28 ?_ | (refine Zj (i := 28) ?_; ((try refine Zh ?_); (first | (refine Zc (.func 112) ?_; refine qC rfl rfl (ht) ?_; rintro v ρ' L' hle ⟨rfl, rfl, rfl⟩ <;> (try simp only [kM, kN, kO])) | (refine ZF ?_; try intro _)) <;> ((try simp only [kM, kN, kO]); refine Zf ?_; refine Zi ?_))))
      all_goals (refine Zz ?_; (first | refine Zb 29 ?_ | refine Za 29 ?_ | refine wUn 29 ?_); refine Yj 30 ?_; refine Zv ?_)
      all_goals (repeat' (first | refine zV ?_ | intro _))
      all_goals rw [← e1]
      all_goals refine Zg (k + 1, y.num) (⟨hlt, hok, by dsimp only; omega, fun h => by omega, hnext⟩) Ze Ze rfl tk inferInstance (by first | omega | (dsimp only; omega))
    ·rw [decide_eq_false hy, Bool.false_and, Bool.false_and] at hok
     subst hok
     repeat' (first | refine zV ?_ | intro _)
     refine Zu (Zk _ _ _) Zp ?_
     all_goals (refine ZN 0 ?_; refine ZQ 1 ?_; refine rCm 2 ?_; refine Zx 3 ?_)
     all_goals (first | refine Zb 4 ?_ | refine Za 4 ?_ | refine ZE 4 ?_ | (refine Zn (t := 30) rfl (fun hb => ?_) (fun hb => ?_) <;> (try simp only [kk] at hb) <;> first | refine Zb 4 ?_ | refine Za 4 ?_ | refine ZE 4 ?_))
     all_goals ((first | refine Zb 5 ?_ | refine Za 5 ?_ | refine ZL 5 ?_); (first | refine Zb 6 ?_ | refine Za 6 ?_ | refine ZE 6 ?_); (first | refine Zb 7 ?_ | refine Za 7 ?_ | refine ZL 7 ?_); (first | refine Zb 8 ?_ | refine Za 8 ?_ | refine Yg 8 ?_); refine Yj 9 ?_; refine Zx 10 ?_)
     all_goals (first | refine Zb 11 ?_ | refine Za 11 ?_ | refine ZI 11 ?_ | (refine Zn (t := 37) rfl (fun hb => ?_) (fun hb => ?_) <;> (try simp only [kk] at hb) <;> first | refine Zb 11 ?_ | refine Za 11 ?_ | refine ZI 11 ?_))
     all_goals ((first | refine Zb 12 ?_ | refine Za 12 ?_ | refine Yg 12 ?_); (first | refine Zb 13 ?_ | refine Za 13 ?_ | refine ZI 13 ?_))
     all_goals (first | refine Zb 14 ?_ | refine Za 14 ?_ | refine ZE 14 ?_ | (refine Zn (t := 40) rfl (fun hb => ?_) (fun hb => ?_) <;> (try simp only [kk] at hb) <;> first | refine Zb 14 ?_ | refine Za 14 ?_ | refine ZE 14 ?_))
     all_goals ((first | refine Zb 15 ?_ | refine Za 15 ?_ | refine ZL 15 ?_); (first | refine Zb 16 ?_ | refine Za 16 ?_ | refine ZI 16 ?_); (first | refine Zb 17 ?_ | refine Za 17 ?_ | refine wSb 17 ?_); (first | refine Zb 18 ?_ | refine Za 18 ?_ | refine wIa 18 ?_); (first | refine Zb 19 ?_ | refine Za 19 ?_ | refine ZE 19 ?_); (first | refine Zb 20 ?_ | refine Za 20 ?_ | refine ZL 20 ?_); (first | refine Zb 21 ?_ | refine Za 21 ?_ | refine ZE 21 ?_); (first | refine Zb 22 ?_ | refine Za 22 ?_ | refine ZL 22 ?_); (first | refine Zb 23 ?_ | refine Za 23 ?_ | refine Yg 23 ?_); (first | refine Zb 24 ?_ | refine Za 24 ?_ | refine wPk 24 ?_); refine Yj 25 ?_; refine Zx 26 ?_)
     all_goals (first | refine Zb 27 ?_ | refine Za 27 ?_ | refine ZL 27 ?_ | (refine Zn (t := 53) rfl (fun hb => ?_) (fun hb => ?_) <;> (try simp only [kk] at hb) <;> first | refine Zb 27 ?_ | refine Za 27 ?_ | refine ZL 27 ?_))
     all_goals (first | refine Zb 28 ?_ | refine Za 28 ?_ | (refine Zj (i := 28) ?_; ((try refine Zh ?_); (first | (refine Zc (.func 112) ?_; refine qC rfl rfl (ht) ?_; rintro v ρ' L' hle ⟨rfl, rfl, rfl⟩ <;> (try simp only [kM, kN, kO])) | (refine ZF ?_; try intro _)) <;> ((try simp only [kM, kN, kO]); refine Zf ?_; refine Zi ?_))))
     all_goals (refine Zz ?_; (first | refine Zb 29 ?_ | refine Za 29 ?_ | refine wUn 29 ?_); refine Yj 30 ?_; refine Zv ?_)
     all_goals (repeat' (first | refine zV ?_ | (refine YL ?_; refine ZB rfl rfl (fun hb => ?_) (fun hb => ?_) <;> (try simp only [decide_eq_true_eq, decide_eq_false_iff_not, Bool.not_eq_true, Bool.not_eq_false, beq_iff_eq, bne_iff_ne, ne_eq, decide_eq_decide, Bool.not_eq_eq_eq_not, Bool.not_true, Bool.not_false, beq_eq_false_iff_ne, bne_eq_false_iff_eq, Bool.and_eq_true, Bool.or_eq_true, Bool.and_eq_false_imp, Bool.or_eq_false_iff, bq2, bqt, bqf] at hb)) | (refine ZS ?_; refine ZM rfl (fun hb => ?_) (fun hb => ?_) <;> (try simp only [decide_eq_true_eq, decide_eq_false_iff_not, Bool.not_eq_true, Bool.not_eq_false, beq_iff_eq, bne_iff_ne, ne_eq, decide_eq_decide, Bool.not_eq_eq_eq_not, Bool.not_true, Bool.not_false, beq_eq_false_iff_ne, bne_eq_false_iff_eq, Bool.and_eq_true, Bool.or_eq_true, Bool.and_eq_false_imp, Bool.or_eq_false_iff, bq2, bqt, bqf] at hb)) | intro _))
     all_goals first | exact qE (L' := []) ⟨rfl, rfl, rfl⟩ | (exfalso; omega)
  ·have hk2 : k = r.txns.length := by omega
   rw [hk2, List.drop_length, txsB] at hok
   subst hok
   repeat' (first | refine zV ?_ | intro _)
   exact qE (L' := []) ⟨rfl, rfl, rfl⟩
 ·rw [decide_eq_false hH, Bool.false_and]
  repeat' (first | refine zV ?_ | (refine YL ?_; refine ZB rfl rfl (fun hb => ?_) (fun hb => ?_) <;> (try simp only [decide_eq_true_eq, decide_eq_false_iff_not, Bool.not_eq_true, Bool.not_eq_false, beq_iff_eq, bne_iff_ne, ne_eq, decide_eq_decide, Bool.not_eq_eq_eq_not, Bool.not_true, Bool.not_false, beq_eq_false_iff_ne, bne_eq_false_iff_eq, Bool.and_eq_true, Bool.or_eq_true, Bool.and_eq_false_imp, Bool.or_eq_false_iff, bq2, bqt, bqf] at hb)) | (refine ZS ?_; refine ZM rfl (fun hb => ?_) (fun hb => ?_) <;> (try simp only [decide_eq_true_eq, decide_eq_false_iff_not, Bool.not_eq_true, Bool.not_eq_false, beq_iff_eq, bne_iff_ne, ne_eq, decide_eq_decide, Bool.not_eq_eq_eq_not, Bool.not_true, Bool.not_false, beq_eq_false_iff_ne, bne_eq_false_iff_eq, Bool.and_eq_true, Bool.or_eq_true, Bool.and_eq_false_imp, Bool.or_eq_false_iff, bq2, bqt, bqf] at hb)) | intro _)
  all_goals first | exact qE (L' := []) ⟨rfl, rfl, rfl⟩ | (exfalso; omega)
theorem ckpt18_spec (ρ : Hp) (v : SV) (r : Ros) (h : RosIn ρ v r) : Spec Tryz.prog 119 [.agg ⟨XI v r⟩] ρ []
  (fun z ρ' L' => ρ.le ρ' ∧ ∃ s : SV, z = .slice s.a s.n s.c ∧ AS ρ' 5 XU s (r.txns.map ckOf) ∧ L' = []) := by
 have hl := h.at'.at'.len
 have hn := h.at'.big
 have hA := h.at'.at'
 refine Zd Tryz.func119 rfl rfl rfl fun u R => ?_
 simp only [Zo, List.cons_append, List.nil_append]
 repeat' (first | refine zV ?_ | intro _)
 refine Zq [(2, _), (7, _), (8, _)] (fun (ζ : (Nat) × (Value) × (List Value)) => [(9, .int .i64 ζ.1), (3, ζ.2.1)]) (fun (ζ : (Nat) × (Value) × (List Value)) => ρ) (fun (ζ : (Nat) × (Value) × (List Value)) => [ZG ζ.2.1 ((((r.txns.take ζ.1).map ckOf).map XU).flatten) ζ.2.2 169]) (fun (ζ : (Nat) × (Value) × (List Value)) => ζ.1 ≤ v.n ∧ OwnS ζ.2.1 ζ.1 ((((r.txns.take ζ.1).map ckOf).map XU).flatten) ζ.2.2 5) (fun (ζ : (Nat) × (Value) × (List Value)) => v.n - ζ.1) ((0, .slice none 0 0, [])) (⟨Nat.zero_le _, OwnS.nil 5⟩) Ze Ze rfl tk ?_
 rintro ⟨k, vv, sp⟩ hI
 try simp only [List.cons_append, List.nil_append, List.append_assoc, List.append_eq] at hI ⊢
 try dsimp only at hI ⊢
 obtain ⟨hk, hown⟩ := hI
 by_cases hlt : k < v.n
 ·obtain ⟨b, off, C, T, fr, e1, hb, hfit, hc⟩ := hA.get (show k < r.txns.length by omega)
  have hx := List.take_succ_eq_append_getElem (show k < r.txns.length by omega)
  generalize r.txns[k]'(by omega) = x at *
  rw [e1]
  repeat' (first | refine zV ?_ | intro _)
  refine ZH (css := [XU (ckOf x)]) (sz := 5) rfl rfl rfl rfl (by simp) (by simp) rfl (fun bs => ?_)
  simp only [List.flatten_cons, List.flatten_nil, List.append_nil]
  refine ZZ (ys := XU (ckOf x)) (m := 1) rfl rfl hown (hR := by infer_instance) (SrcV.lit) rfl rfl (by decide) rfl (by omega) (by omega) rfl (fun v' sp' hown' => ?_)
  have hm : (((r.txns.take k).map ckOf).map XU).flatten ++ XU (ckOf x) = (((r.txns.take (k + 1)).map ckOf).map XU).flatten := by rw [hx]; simp
  rw [hm] at hown' ⊢
  repeat' (first | refine zV ?_ | intro _)
  rw [← e1]
  refine Zg (k + 1, v', sp') (⟨hlt, hown'⟩) Ze Ze rfl tk inferInstance (by first | omega | (dsimp only; omega))
 ·have hk2 : k = r.txns.length := by omega
  rw [show r.txns.take k = r.txns by rw [hk2, List.take_length]] at hown ⊢
  repeat' (first | refine zV ?_ | intro _)
  refine ZY (ZG vv (((r.txns.map ckOf).map XU).flatten) sp 169) (fun ρ3 hle3 hfz => ?_)
  obtain ⟨sa, sc, e1, hsc, hA2⟩ := hown.aIn (by simp; omega) (fun x _ => ckTV_len x) hfz
  subst e1
  exact qE ⟨hle3, ⟨sa, k, sc⟩, rfl, ⟨hA2, by dsimp only; omega, hsc⟩, rfl⟩
end Go.Proofs.E
