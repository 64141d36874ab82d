/- Laws of analysis. Part 18 of 37. -/
import Derived.Test.YtkbiahafeoillaaGreatB17
namespace Go.Proofs.E
open Go
set_option linter.unusedVariables false
set_option linter.unusedSimpArgs false
set_option linter.unusedSectionVars false
set_option maxRecDepth 4000
set_option maxHeartbeats 1000000
attribute [local irreducible] Yl TL TC TE Spec YY R1 Hp.le EnvLe TS TR YS Zq
theorem txOk_18 {next last : Int} {x : Tx} : txOk next last x = (decide (last < x.num ∧ x.num < next) && tx18B x) := by
 unfold txOk txHead tx18B
 rw [Bool.eq_iff_iff]
 simp only [Bool.and_eq_true, decide_eq_true_eq]
 constructor
 ·rintro ⟨⟨h1, h2, h3⟩, h4⟩; exact ⟨⟨h1, h2⟩, h3, h4⟩
 ·rintro ⟨⟨h1, h2⟩, h3, h4⟩; exact ⟨⟨h1, h2, h3⟩, h4⟩
theorem right18_spec (ρ : Hp) (v : SV) (r : Ros) (h : RosIn ρ v r) : Spec Tryz.prog 59 [.agg ⟨XI v r⟩] ρ [] (fun z ρ' L' => z = .bool (XD r) ∧ ρ' = ρ ∧ L' = []) := by
 have hl := h.at'.at'.len
 have hn := h.at'.big
 have hA := h.at'.at'
 unfold XD
 rw [hl]
 refine Zg Tryz.func59 rfl rfl rfl fun u R => ?_
 simp only [Zx, List.cons_append, List.nil_append]
 by_cases hH : 1 ≤ r.next ∧ r.next ≤ 1073741824 ∧ v.n ≤ 8
 ·rw [decide_eq_true hH, Bool.true_and]
  generalize hq : txsB r.next 0 r.txns = q
  repeat' (first | (refine Zz ?_; refine Zk (Zc rfl) rfl rfl ?_) | (refine Zh ?_; first | (refine Zf ?_; refine qQ ?_) | refine Zm ?_) | refine Zb ?_ | (refine Zi ?_; refine Zr ?_) | (refine Zj ?_; refine Zs ?_) | intro _)
  rename_i bx
  refine ZC [(1, _), (20, _), (21, _)] (fun (ζ : (Nat) × (Int)) => [(22, .int .i64 ζ.1), (2, .bool false)]) (fun (ζ : (Nat) × (Int)) => ρ) (fun (ζ : (Nat) × (Int)) => [[(bx, .cells ⟨XI v r⟩ 26 (0, 0))]]) (fun (ζ : (Nat) × (Int)) => ζ.1 ≤ v.n ∧ txsB r.next ζ.2 (r.txns.drop ζ.1) = q ∧ 0 ≤ ζ.2 ∧ (ζ.1 = 0 → ζ.2 = 0) ∧ (∀ y, 0 < ζ.1 → r.txns[ζ.1 - 1]? = some y → y.num = ζ.2)) (fun (ζ : (Nat) × (Int)) => v.n - ζ.1) ((0, 0)) (⟨Nat.zero_le _, hq, Int.le_refl _, fun _ => rfl, fun _ h => absurd h (Nat.lt_irrefl _)⟩) Zl Zl rfl tk ?_
  rintro ⟨k, last⟩ hI
  try simp only [List.cons_append, List.nil_append, List.append_assoc, List.append_eq] at hI ⊢
  try dsimp only at hI ⊢
  obtain ⟨hk, hok, hl0, hk0, hky⟩ := hI
  by_cases hlt : k < v.n
  ·obtain ⟨b, off, C, T, fr, e1, hb, hfit, hc⟩ := hA.get (show k < r.txns.length by omega)
   have hmem := List.getElem_mem (show k < r.txns.length by omega)
   have hnext : ∀ y, 0 < k + 1 → r.txns[k + 1 - 1]? = some y → y.num = (r.txns[k]'(by omega)).num := fun y _ hy => by
    rw [Nat.add_sub_cancel, List.getElem?_eq_getElem (by omega)] at hy
    rw [Option.some.inj hy]
   rw [List.drop_eq_getElem_cons (show k < r.txns.length by omega), txsB, txOk_18] at hok
   generalize r.txns[k]'(by omega) = y at *
   have ht := txn18_spec ρ y (h.tx y hmem)
   generalize tx18B y = ty at *
   by_cases hz : k = 0
   ·have hl00 := hk0 hz
    (try dsimp only [XI]); rw [e1]
    by_cases hy : last < y.num ∧ y.num < r.next
    ·rw [decide_eq_true hy, Bool.true_and] at hok
     cases ty
     ·rw [Bool.false_and] at hok
      subst hok
      repeat' (first | (refine Zz ?_; refine Zk (Zc rfl) rfl rfl ?_) | (refine Zh ?_; first | (refine Zf ?_; refine qQ ?_) | refine Zm ?_) | refine Zb ?_ | (refine Zi ?_; refine Zr ?_) | (refine Zj ?_; refine Zs ?_) | intro _)
      refine ZB (Zq _ _ _) Zy ?_
      all_goals (refine ZO 0 ?_; refine ZU 1 ?_; refine rCm 2 ?_; refine ZI 3 ?_)
      all_goals (first | refine Zd 4 ?_ | refine Za 4 ?_ | refine Yc 4 ?_ | (refine ZA (t := 30) rfl (fun hb => ?_) (fun hb => ?_) <;> (try simp only [kk] at hb) <;> first | refine Zd 4 ?_ | refine Za 4 ?_ | refine Yc 4 ?_))
      all_goals ((first | refine Zd 5 ?_ | refine Za 5 ?_ | refine Yf 5 ?_); (first | refine Zd 6 ?_ | refine Za 6 ?_ | refine Yc 6 ?_); (first | refine Zd 7 ?_ | refine Za 7 ?_ | refine Yf 7 ?_); (first | refine Zd 8 ?_ | refine Za 8 ?_ | refine wCm 8 ?_); refine rPk 9 ?_; refine ZI 10 ?_)
      all_goals (first | refine Zd 11 ?_ | refine Za 11 ?_ | refine ZY 11 ?_ | (refine ZA (t := 37) rfl (fun hb => ?_) (fun hb => ?_) <;> (try simp only [kk] at hb) <;> first | refine Zd 11 ?_ | refine Za 11 ?_ | refine ZY 11 ?_))
      all_goals ((first | refine Zd 12 ?_ | refine Za 12 ?_ | refine wCm 12 ?_); (first | refine Zd 13 ?_ | refine Za 13 ?_ | refine ZY 13 ?_))
      all_goals (first | refine Zd 14 ?_ | refine Za 14 ?_ | refine Yc 14 ?_ | (refine ZA (t := 40) rfl (fun hb => ?_) (fun hb => ?_) <;> (try simp only [kk] at hb) <;> first | refine Zd 14 ?_ | refine Za 14 ?_ | refine Yc 14 ?_))
      all_goals ((first | refine Zd 15 ?_ | refine Za 15 ?_ | refine Yf 15 ?_); (first | refine Zd 16 ?_ | refine Za 16 ?_ | refine ZY 16 ?_); (first | refine Zd 17 ?_ | refine Za 17 ?_ | refine wSb 17 ?_); (first | refine Zd 18 ?_ | refine Za 18 ?_ | refine wIa 18 ?_); (first | refine Zd 19 ?_ | refine Za 19 ?_ | refine Yc 19 ?_); (first | refine Zd 20 ?_ | refine Za 20 ?_ | refine Yf 20 ?_); (first | refine Zd 21 ?_ | refine Za 21 ?_ | refine Yc 21 ?_); (first | refine Zd 22 ?_ | refine Za 22 ?_ | refine Yf 22 ?_); (first | refine Zd 23 ?_ | refine Za 23 ?_ | refine wCm 23 ?_); (first | refine Zd 24 ?_ | refine Za 24 ?_ | refine wPk 24 ?_); refine rPk 25 ?_; refine ZI 26 ?_)
      all_goals (first | refine Zd 27 ?_ | refine Za 27 ?_ | refine Yf 27 ?_ | (refine ZA (t := 53) rfl (fun hb => ?_) (fun hb => ?_) <;> (try simp only [kk] at hb) <;> first | refine Zd 27 ?_ | refine Za 27 ?_ | refine Yf 27 ?_))
      all_goals (first | refine Zd 28 ?_ | refine Za 28 ?_ | (refine Zt (i := 28) ?_; ((try refine Zn ?_); (first | (refine Ze (.func 112) ?_; refine qC rfl rfl (ht) ?_; rintro v ρ' L' hle ⟨rfl, rfl, rfl⟩ <;> (try simp only [kM, kN, kO])) | (refine Zm ?_; try intro _)) <;> ((try simp only [kM, kN, kO]); refine Zb ?_; refine Zo ?_))))
      all_goals (refine ZK ?_; (first | refine Zd 29 ?_ | refine Za 29 ?_ | refine wUn 29 ?_); refine rPk 30 ?_; refine ZE ?_)
      all_goals (repeat' (first | (refine Zz ?_; refine Zk (Zc rfl) rfl rfl ?_) | (refine Zh ?_; first | (refine Zf ?_; refine qQ ?_) | refine Zm ?_) | refine Zb ?_ | (refine Zi ?_; refine Zr ?_) | (refine Zj ?_; refine Zs ?_) | intro _))
      all_goals exact qE (L' := []) ⟨rfl, rfl, rfl⟩
     ·rw [Bool.true_and] at hok
      repeat' (first | (refine Zz ?_; refine Zk (Zc rfl) rfl rfl ?_) | (refine Zh ?_; first | (refine Zf ?_; refine qQ ?_) | refine Zm ?_) | refine Zb ?_ | (refine Zi ?_; refine Zr ?_) | (refine Zj ?_; refine Zs ?_) | intro _)
      refine ZB (Zq _ _ _) Zy ?_
      all_goals (refine ZO 0 ?_; refine ZU 1 ?_; refine rCm 2 ?_; refine ZI 3 ?_)
      all_goals (first | refine Zd 4 ?_ | refine Za 4 ?_ | refine Yc 4 ?_ | (refine ZA (t := 30) rfl (fun hb => ?_) (fun hb => ?_) <;> (try simp only [kk] at hb) <;> first | refine Zd 4 ?_ | refine Za 4 ?_ | refine Yc 4 ?_))
      all_goals ((first | refine Zd 5 ?_ | refine Za 5 ?_ | refine Yf 5 ?_); (first | refine Zd 6 ?_ | refine Za 6 ?_ | refine Yc 6 ?_); (first | refine Zd 7 ?_ | refine Za 7 ?_ | refine Yf 7 ?_); (first | refine Zd 8 ?_ | refine Za 8 ?_ | refine wCm 8 ?_); refine rPk 9 ?_; refine ZI 10 ?_)
      all_goals (first | refine Zd 11 ?_ | refine Za 11 ?_ | refine ZY 11 ?_ | (refine ZA (t := 37) rfl (fun hb => ?_) (fun hb => ?_) <;> (try simp only [kk] at hb) <;> first | refine Zd 11 ?_ | refine Za 11 ?_ | refine ZY 11 ?_))
      all_goals ((first | refine Zd 12 ?_ | refine Za 12 ?_ | refine wCm 12 ?_); (first | refine Zd 13 ?_ | refine Za 13 ?_ | refine ZY 13 ?_))
      all_goals (first | refine Zd 14 ?_ | refine Za 14 ?_ | refine Yc 14 ?_ | (refine ZA (t := 40) rfl (fun hb => ?_) (fun hb => ?_) <;> (try simp only [kk] at hb) <;> first | refine Zd 14 ?_ | refine Za 14 ?_ | refine Yc 14 ?_))
      all_goals ((first | refine Zd 15 ?_ | refine Za 15 ?_ | refine Yf 15 ?_); (first | refine Zd 16 ?_ | refine Za 16 ?_ | refine ZY 16 ?_); (first | refine Zd 17 ?_ | refine Za 17 ?_ | refine wSb 17 ?_); (first | refine Zd 18 ?_ | refine Za 18 ?_ | refine wIa 18 ?_); (first | refine Zd 19 ?_ | refine Za 19 ?_ | refine Yc 19 ?_); (first | refine Zd 20 ?_ | refine Za 20 ?_ | refine Yf 20 ?_); (first | refine Zd 21 ?_ | refine Za 21 ?_ | refine Yc 21 ?_); (first | refine Zd 22 ?_ | refine Za 22 ?_ | refine Yf 22 ?_); (first | refine Zd 23 ?_ | refine Za 23 ?_ | refine wCm 23 ?_); (first | refine Zd 24 ?_ | refine Za 24 ?_ | refine wPk 24 ?_); refine rPk 25 ?_; refine ZI 26 ?_)
      all_goals (first | refine Zd 27 ?_ | refine Za 27 ?_ | refine Yf 27 ?_ | (refine ZA (t := 53) rfl (fun hb => ?_) (fun hb => ?_) <;> (try simp only [kk] at hb) <;> first | refine Zd 27 ?_ | refine Za 27 ?_ | refine Yf 27 ?_))
      all_goals (first | refine Zd 28 ?_ | refine Za 28 ?_ | (refine Zt (i := 28) ?_; ((try refine Zn ?_); (first | (refine Ze (.func 112) ?_; refine qC rfl rfl (ht) ?_; rintro v ρ' L' hle ⟨rfl, rfl, rfl⟩ <;> (try simp only [kM, kN, kO])) | (refine Zm ?_; try intro _)) <;> ((try simp only [kM, kN, kO]); refine Zb ?_; refine Zo ?_))))
      all_goals (refine ZK ?_; (first | refine Zd 29 ?_ | refine Za 29 ?_ | refine wUn 29 ?_); refine rPk 30 ?_; refine ZE ?_)
      all_goals (repeat' (first | (refine Zz ?_; refine Zk (Zc rfl) rfl rfl ?_) | (refine Zh ?_; first | (refine Zf ?_; refine qQ ?_) | refine Zm ?_) | refine Zb ?_ | (refine Zi ?_; refine Zr ?_) | (refine Zj ?_; refine Zs ?_) | intro _))
      all_goals rw [← e1]
      all_goals refine Zp (k + 1, y.num) (⟨hlt, hok, by dsimp only; omega, fun h => by omega, hnext⟩) Zl Zl rfl tk inferInstance (by first | omega | (dsimp only; omega))
    ·rw [decide_eq_false hy, Bool.false_and, Bool.false_and] at hok
     subst hok
     repeat' (first | (refine Zz ?_; refine Zk (Zc rfl) rfl rfl ?_) | (refine Zh ?_; first | (refine Zf ?_; refine qQ ?_) | refine Zm ?_) | refine Zb ?_ | (refine Zi ?_; refine Zr ?_) | (refine Zj ?_; refine Zs ?_) | intro _)
     refine ZB (Zq _ _ _) Zy ?_
     all_goals (refine ZO 0 ?_; refine ZU 1 ?_; refine rCm 2 ?_; refine ZI 3 ?_)
     all_goals (first | refine Zd 4 ?_ | refine Za 4 ?_ | refine Yc 4 ?_ | (refine ZA (t := 30) rfl (fun hb => ?_) (fun hb => ?_) <;> (try simp only [kk] at hb) <;> first | refine Zd 4 ?_ | refine Za 4 ?_ | refine Yc 4 ?_))
     all_goals ((first | refine Zd 5 ?_ | refine Za 5 ?_ | refine Yf 5 ?_); (first | refine Zd 6 ?_ | refine Za 6 ?_ | refine Yc 6 ?_); (first | refine Zd 7 ?_ | refine Za 7 ?_ | refine Yf 7 ?_); (first | refine Zd 8 ?_ | refine Za 8 ?_ | refine wCm 8 ?_); refine rPk 9 ?_; refine ZI 10 ?_)
     all_goals (first | refine Zd 11 ?_ | refine Za 11 ?_ | refine ZY 11 ?_ | (refine ZA (t := 37) rfl (fun hb => ?_) (fun hb => ?_) <;> (try simp only [kk] at hb) <;> first | refine Zd 11 ?_ | refine Za 11 ?_ | refine ZY 11 ?_))
     all_goals ((first | refine Zd 12 ?_ | refine Za 12 ?_ | refine wCm 12 ?_); (first | refine Zd 13 ?_ | refine Za 13 ?_ | refine ZY 13 ?_))
     all_goals (first | refine Zd 14 ?_ | refine Za 14 ?_ | refine Yc 14 ?_ | (refine ZA (t := 40) rfl (fun hb => ?_) (fun hb => ?_) <;> (try simp only [kk] at hb) <;> first | refine Zd 14 ?_ | refine Za 14 ?_ | refine Yc 14 ?_))
     all_goals ((first | refine Zd 15 ?_ | refine Za 15 ?_ | refine Yf 15 ?_); (first | refine Zd 16 ?_ | refine Za 16 ?_ | refine ZY 16 ?_); (first | refine Zd 17 ?_ | refine Za 17 ?_ | refine wSb 17 ?_); (first | refine Zd 18 ?_ | refine Za 18 ?_ | refine wIa 18 ?_); (first | refine Zd 19 ?_ | refine Za 19 ?_ | refine Yc 19 ?_); (first | refine Zd 20 ?_ | refine Za 20 ?_ | refine Yf 20 ?_); (first | refine Zd 21 ?_ | refine Za 21 ?_ | refine Yc 21 ?_); (first | refine Zd 22 ?_ | refine Za 22 ?_ | refine Yf 22 ?_); (first | refine Zd 23 ?_ | refine Za 23 ?_ | refine wCm 23 ?_); (first | refine Zd 24 ?_ | refine Za 24 ?_ | refine wPk 24 ?_); refine rPk 25 ?_; refine ZI 26 ?_)
     all_goals (first | refine Zd 27 ?_ | refine Za 27 ?_ | refine Yf 27 ?_ | (refine ZA (t := 53) rfl (fun hb => ?_) (fun hb => ?_) <;> (try simp only [kk] at hb) <;> first | refine Zd 27 ?_ | refine Za 27 ?_ | refine Yf 27 ?_))
     all_goals (first | refine Zd 28 ?_ | refine Za 28 ?_ | (refine Zt (i := 28) ?_; ((try refine Zn ?_); (first | (refine Ze (.func 112) ?_; refine qC rfl rfl (ht) ?_; rintro v ρ' L' hle ⟨rfl, rfl, rfl⟩ <;> (try simp only [kM, kN, kO])) | (refine Zm ?_; try intro _)) <;> ((try simp only [kM, kN, kO]); refine Zb ?_; refine Zo ?_))))
     all_goals (refine ZK ?_; (first | refine Zd 29 ?_ | refine Za 29 ?_ | refine wUn 29 ?_); refine rPk 30 ?_; refine ZE ?_)
     all_goals (repeat' (first | (refine Zz ?_; refine Zk (Zc rfl) rfl rfl ?_) | (refine Zh ?_; first | (refine Zf ?_; refine qQ ?_) | refine Zm ?_) | refine Zb ?_ | (refine Zi ?_; refine Zr ?_) | (refine Zj ?_; refine Zs ?_) | (refine Xw ?_; refine ZR rfl rfl (fun hb => ?_) (fun hb => ?_) <;> (try simp only [decide_eq_true_eq, decide_eq_false_iff_not, Bool.not_eq_true, Bool.not_eq_false, beq_iff_eq, bne_iff_ne, ne_eq, decide_eq_decide, Bool.not_eq_eq_eq_not, Bool.not_true, Bool.not_false, beq_eq_false_iff_ne, bne_eq_false_iff_eq, Bool.and_eq_true, Bool.or_eq_true, Bool.and_eq_false_imp, Bool.or_eq_false_iff, bq2, bqt, bqf] at hb)) | (refine Ym ?_; refine Yb rfl (fun hb => ?_) (fun hb => ?_) <;> (try simp only [decide_eq_true_eq, decide_eq_false_iff_not, Bool.not_eq_true, Bool.not_eq_false, beq_iff_eq, bne_iff_ne, ne_eq, decide_eq_decide, Bool.not_eq_eq_eq_not, Bool.not_true, Bool.not_false, beq_eq_false_iff_ne, bne_eq_false_iff_eq, Bool.and_eq_true, Bool.or_eq_true, Bool.and_eq_false_imp, Bool.or_eq_false_iff, bq2, bqt, bqf] at hb)) | intro _))
     all_goals first | exact qE (L' := []) ⟨rfl, rfl, rfl⟩ | (exfalso; omega)
   ·obtain ⟨b2, off2, C2, T2, fr2, f1, hb2, hfit2, hc2⟩ := hA.get (show k - 1 < r.txns.length by omega)
    have hlp := hky _ (by omega) (List.getElem?_eq_getElem (show k - 1 < r.txns.length by omega))
    generalize r.txns[k - 1]'(by omega) = p at *
    rw [e1] at f1
    cases f1
    rw [hb] at hb2
    cases hb2
    have ek : ((k : Int) - 1).toNat = k - 1 := by omega
    have hcy : C[off + ((k : Int) - 1).toNat * 7]? = some (.int .i64 p.num) := by
     have := congrArg (fun l => l[0]?) hc2
     rw [ek]
     simp only [List.getElem?_take, List.getElem?_drop] at this
     simpa using this
    (try dsimp only [XI]); rw [e1]
    by_cases hy : last < y.num ∧ y.num < r.next
    ·rw [decide_eq_true hy, Bool.true_and] at hok
     cases ty
     ·rw [Bool.false_and] at hok
      subst hok
      repeat' (first | (refine Zz ?_; refine Zk (Zc rfl) rfl rfl ?_) | (refine Zh ?_; first | (refine Zf ?_; refine qQ ?_) | refine Zm ?_) | refine Zb ?_ | (refine Zi ?_; refine Zr ?_) | (refine Zj ?_; refine Zs ?_) | intro _)
      refine ZB (Zq _ _ _) Zy ?_
      all_goals (refine ZO 0 ?_; refine ZU 1 ?_; refine rCm 2 ?_; refine ZI 3 ?_)
      all_goals (first | refine Zd 4 ?_ | refine Za 4 ?_ | refine Yc 4 ?_ | (refine ZA (t := 30) rfl (fun hb => ?_) (fun hb => ?_) <;> (try simp only [kk] at hb) <;> first | refine Zd 4 ?_ | refine Za 4 ?_ | refine Yc 4 ?_))
      all_goals ((first | refine Zd 5 ?_ | refine Za 5 ?_ | refine Yf 5 ?_); (first | refine Zd 6 ?_ | refine Za 6 ?_ | refine Yc 6 ?_); (first | refine Zd 7 ?_ | refine Za 7 ?_ | refine Yf 7 ?_); (first | refine Zd 8 ?_ | refine Za 8 ?_ | refine wCm 8 ?_); refine rPk 9 ?_; refine ZI 10 ?_)
      all_goals (first | refine Zd 11 ?_ | refine Za 11 ?_ | refine ZY 11 ?_ | (refine ZA (t := 37) rfl (fun hb => ?_) (fun hb => ?_) <;> (try simp only [kk] at hb) <;> first | refine Zd 11 ?_ | refine Za 11 ?_ | refine ZY 11 ?_))
      all_goals ((first | refine Zd 12 ?_ | refine Za 12 ?_ | refine wCm 12 ?_); (first | refine Zd 13 ?_ | refine Za 13 ?_ | refine ZY 13 ?_))
      all_goals (first | refine Zd 14 ?_ | refine Za 14 ?_ | refine Yc 14 ?_ | (refine ZA (t := 40) rfl (fun hb => ?_) (fun hb => ?_) <;> (try simp only [kk] at hb) <;> first | refine Zd 14 ?_ | refine Za 14 ?_ | refine Yc 14 ?_))
      all_goals ((first | refine Zd 15 ?_ | refine Za 15 ?_ | refine Yf 15 ?_); (first | refine Zd 16 ?_ | refine Za 16 ?_ | refine ZY 16 ?_); (first | refine Zd 17 ?_ | refine Za 17 ?_ | refine wSb 17 ?_); (first | refine Zd 18 ?_ | refine Za 18 ?_ | refine wIa 18 ?_); (first | refine Zd 19 ?_ | refine Za 19 ?_ | refine Yc 19 ?_); (first | refine Zd 20 ?_ | refine Za 20 ?_ | refine Yf 20 ?_); (first | refine Zd 21 ?_ | refine Za 21 ?_ | refine Yc 21 ?_); (first | refine Zd 22 ?_ | refine Za 22 ?_ | refine Yf 22 ?_); (first | refine Zd 23 ?_ | refine Za 23 ?_ | refine wCm 23 ?_); (first | refine Zd 24 ?_ | refine Za 24 ?_ | refine wPk 24 ?_); refine rPk 25 ?_; refine ZI 26 ?_)
      all_goals (first | refine Zd 27 ?_ | refine Za 27 ?_ | refine Yf 27 ?_ | (refine ZA (t := 53) rfl (fun hb => ?_) (fun hb => ?_) <;> (try simp only [kk] at hb) <;> first | refine Zd 27 ?_ | refine Za 27 ?_ | refine Yf 27 ?_))
      all_goals (first | refine Zd 28 ?_ | refine Za 28 ?_ | (refine Zt (i := 28) ?_; ((try refine Zn ?_); (first | (refine Ze (.func 112) ?_; refine qC rfl rfl (ht) ?_; rintro v ρ' L' hle ⟨rfl, rfl, rfl⟩ <;> (try simp only [kM, kN, kO])) | (refine Zm ?_; try intro _)) <;> ((try simp only [kM, kN, kO]); refine Zb ?_; refine Zo ?_))))
      all_goals (refine ZK ?_; (first | refine Zd 29 ?_ | refine Za 29 ?_ | refine wUn 29 ?_); refine rPk 30 ?_; refine ZE ?_)
      all_goals (repeat' (first | (refine Zz ?_; refine Zk (Zc rfl) rfl rfl ?_) | (refine Zh ?_; first | (refine Zf ?_; refine qQ ?_) | refine Zm ?_) | refine Zb ?_ | (refine Zi ?_; refine Zr ?_) | (refine Zj ?_; refine Zs ?_) | intro _))
      all_goals exact qE (L' := []) ⟨rfl, rfl, rfl⟩
     ·rw [Bool.true_and] at hok
      repeat' (first | (refine Zz ?_; refine Zk (Zc rfl) rfl rfl ?_) | (refine Zh ?_; first | (refine Zf ?_; refine qQ ?_) | refine Zm ?_) | refine Zb ?_ | (refine Zi ?_; refine Zr ?_) | (refine Zj ?_; refine Zs ?_) | intro _)
      refine ZB (Zq _ _ _) Zy ?_
      all_goals (refine ZO 0 ?_; refine ZU 1 ?_; refine rCm 2 ?_; refine ZI 3 ?_)
      all_goals (first | refine Zd 4 ?_ | refine Za 4 ?_ | refine Yc 4 ?_ | (refine ZA (t := 30) rfl (fun hb => ?_) (fun hb => ?_) <;> (try simp only [kk] at hb) <;> first | refine Zd 4 ?_ | refine Za 4 ?_ | refine Yc 4 ?_))
      all_goals ((first | refine Zd 5 ?_ | refine Za 5 ?_ | refine Yf 5 ?_); (first | refine Zd 6 ?_ | refine Za 6 ?_ | refine Yc 6 ?_); (first | refine Zd 7 ?_ | refine Za 7 ?_ | refine Yf 7 ?_); (first | refine Zd 8 ?_ | refine Za 8 ?_ | refine wCm 8 ?_); refine rPk 9 ?_; refine ZI 10 ?_)
      all_goals (first | refine Zd 11 ?_ | refine Za 11 ?_ | refine ZY 11 ?_ | (refine ZA (t := 37) rfl (fun hb => ?_) (fun hb => ?_) <;> (try simp only [kk] at hb) <;> first | refine Zd 11 ?_ | refine Za 11 ?_ | refine ZY 11 ?_))
      all_goals ((first | refine Zd 12 ?_ | refine Za 12 ?_ | refine wCm 12 ?_); (first | refine Zd 13 ?_ | refine Za 13 ?_ | refine ZY 13 ?_))
      all_goals (first | refine Zd 14 ?_ | refine Za 14 ?_ | refine Yc 14 ?_ | (refine ZA (t := 40) rfl (fun hb => ?_) (fun hb => ?_) <;> (try simp only [kk] at hb) <;> first | refine Zd 14 ?_ | refine Za 14 ?_ | refine Yc 14 ?_))
      all_goals ((first | refine Zd 15 ?_ | refine Za 15 ?_ | refine Yf 15 ?_); (first | refine Zd 16 ?_ | refine Za 16 ?_ | refine ZY 16 ?_); (first | refine Zd 17 ?_ | refine Za 17 ?_ | refine wSb 17 ?_); (first | refine Zd 18 ?_ | refine Za 18 ?_ | refine wIa 18 ?_); (first | refine Zd 19 ?_ | refine Za 19 ?_ | refine Yc 19 ?_); (first | refine Zd 20 ?_ | refine Za 20 ?_ | refine Yf 20 ?_); (first | refine Zd 21 ?_ | refine Za 21 ?_ | refine Yc 21 ?_); (first | refine Zd 22 ?_ | refine Za 22 ?_ | refine Yf 22 ?_); (first | refine Zd 23 ?_ | refine Za 23 ?_ | refine wCm 23 ?_); (first | refine Zd 24 ?_ | refine Za 24 ?_ | refine wPk 24 ?_); refine rPk 25 ?_; refine ZI 26 ?_)
      all_goals (first | refine Zd 27 ?_ | refine Za 27 ?_ | refine Yf 27 ?_ | (refine ZA (t := 53) rfl (fun hb => ?_) (fun hb => ?_) <;> (try simp only [kk] at hb) <;> first | refine Zd 27 ?_ | refine Za 27 ?_ | refine Yf 27 ?_))
      all_goals (first | refine Zd 28 ?_ | refine Za 28 ?_ | (refine Zt (i := 28) ?_; ((try refine Zn ?_); (first | (refine Ze (.func 112) ?_; refine qC rfl rfl (ht) ?_; rintro v ρ' L' hle ⟨rfl, rfl, rfl⟩ <;> (try simp only [kM, kN, kO])) | (refine Zm ?_; try intro _)) <;> ((try simp only [kM, kN, kO]); refine Zb ?_; refine Zo ?_))))
      all_goals (refine ZK ?_; (first | refine Zd 29 ?_ | refine Za 29 ?_ | refine wUn 29 ?_); refine rPk 30 ?_; refine ZE ?_)
      all_goals (repeat' (first | (refine Zz ?_; refine Zk (Zc rfl) rfl rfl ?_) | (refine Zh ?_; first | (refine Zf ?_; refine qQ ?_) | refine Zm ?_) | refine Zb ?_ | (refine Zi ?_; refine Zr ?_) | (refine Zj ?_; refine Zs ?_) | intro _))
      all_goals rw [← e1]
      all_goals refine Zp (k + 1, y.num) (⟨hlt, hok, by dsimp only; omega, fun h => by omega, hnext⟩) Zl Zl rfl tk inferInstance (by first | omega | (dsimp only; omega))
    ·rw [decide_eq_false hy, Bool.false_and, Bool.false_and] at hok
     subst hok
     repeat' (first | (refine Zz ?_; refine Zk (Zc rfl) rfl rfl ?_) | (refine Zh ?_; first | (refine Zf ?_; refine qQ ?_) | refine Zm ?_) | refine Zb ?_ | (refine Zi ?_; refine Zr ?_) | (refine Zj ?_; refine Zs ?_) | intro _)
     refine ZB (Zq _ _ _) Zy ?_
     all_goals (refine ZO 0 ?_; refine ZU 1 ?_; refine rCm 2 ?_; refine ZI 3 ?_)
     all_goals (first | refine Zd 4 ?_ | refine Za 4 ?_ | refine Yc 4 ?_ | (refine ZA (t := 30) rfl (fun hb => ?_) (fun hb => ?_) <;> (try simp only [kk] at hb) <;> first | refine Zd 4 ?_ | refine Za 4 ?_ | refine Yc 4 ?_))
     all_goals ((first | refine Zd 5 ?_ | refine Za 5 ?_ | refine Yf 5 ?_); (first | refine Zd 6 ?_ | refine Za 6 ?_ | refine Yc 6 ?_); (first | refine Zd 7 ?_ | refine Za 7 ?_ | refine Yf 7 ?_); (first | refine Zd 8 ?_ | refine Za 8 ?_ | refine wCm 8 ?_); refine rPk 9 ?_; refine ZI 10 ?_)
     all_goals (first | refine Zd 11 ?_ | refine Za 11 ?_ | refine ZY 11 ?_ | (refine ZA (t := 37) rfl (fun hb => ?_) (fun hb => ?_) <;> (try simp only [kk] at hb) <;> first | refine Zd 11 ?_ | refine Za 11 ?_ | refine ZY 11 ?_))
     all_goals ((first | refine Zd 12 ?_ | refine Za 12 ?_ | refine wCm 12 ?_); (first | refine Zd 13 ?_ | refine Za 13 ?_ | refine ZY 13 ?_))
     all_goals (first | refine Zd 14 ?_ | refine Za 14 ?_ | refine Yc 14 ?_ | (refine ZA (t := 40) rfl (fun hb => ?_) (fun hb => ?_) <;> (try simp only [kk] at hb) <;> first | refine Zd 14 ?_ | refine Za 14 ?_ | refine Yc 14 ?_))
     all_goals ((first | refine Zd 15 ?_ | refine Za 15 ?_ | refine Yf 15 ?_); (first | refine Zd 16 ?_ | refine Za 16 ?_ | refine ZY 16 ?_); (first | refine Zd 17 ?_ | refine Za 17 ?_ | refine wSb 17 ?_); (first | refine Zd 18 ?_ | refine Za 18 ?_ | refine wIa 18 ?_); (first | refine Zd 19 ?_ | refine Za 19 ?_ | refine Yc 19 ?_); (first | refine Zd 20 ?_ | refine Za 20 ?_ | refine Yf 20 ?_); (first | refine Zd 21 ?_ | refine Za 21 ?_ | refine Yc 21 ?_); (first | refine Zd 22 ?_ | refine Za 22 ?_ | refine Yf 22 ?_); (first | refine Zd 23 ?_ | refine Za 23 ?_ | refine wCm 23 ?_); (first | refine Zd 24 ?_ | refine Za 24 ?_ | refine wPk 24 ?_); refine rPk 25 ?_; refine ZI 26 ?_)
     all_goals (first | refine Zd 27 ?_ | refine Za 27 ?_ | refine Yf 27 ?_ | (refine ZA (t := 53) rfl (fun hb => ?_) (fun hb => ?_) <;> (try simp only [kk] at hb) <;> first | refine Zd 27 ?_ | refine Za 27 ?_ | refine Yf 27 ?_))
     all_goals (first | refine Zd 28 ?_ | refine Za 28 ?_ | (refine Zt (i := 28) ?_; ((try refine Zn ?_); (first | (refine Ze (.func 112) ?_; refine qC rfl rfl (ht) ?_; rintro v ρ' L' hle ⟨rfl, rfl, rfl⟩ <;> (try simp only [kM, kN, kO])) | (refine Zm ?_; try intro _)) <;> ((try simp only [kM, kN, kO]); refine Zb ?_; refine Zo ?_))))
     all_goals (refine ZK ?_; (first | refine Zd 29 ?_ | refine Za 29 ?_ | refine wUn 29 ?_); refine rPk 30 ?_; refine ZE ?_)
     all_goals (repeat' (first | (refine Zz ?_; refine Zk (Zc rfl) rfl rfl ?_) | (refine Zh ?_; first | (refine Zf ?_; refine qQ ?_) | refine Zm ?_) | refine Zb ?_ | (refine Zi ?_; refine Zr ?_) | (refine Zj ?_; refine Zs ?_) | (refine Xw ?_; refine ZR rfl rfl (fun hb => ?_) (fun hb => ?_) <;> (try simp only [decide_eq_true_eq, decide_eq_false_iff_not, Bool.not_eq_true, Bool.not_eq_false, beq_iff_eq, bne_iff_ne, ne_eq, decide_eq_decide, Bool.not_eq_eq_eq_not, Bool.not_true, Bool.not_false, beq_eq_false_iff_ne, bne_eq_false_iff_eq, Bool.and_eq_true, Bool.or_eq_true, Bool.and_eq_false_imp, Bool.or_eq_false_iff, bq2, bqt, bqf] at hb)) | (refine Ym ?_; refine Yb rfl (fun hb => ?_) (fun hb => ?_) <;> (try simp only [decide_eq_true_eq, decide_eq_false_iff_not, Bool.not_eq_true, Bool.not_eq_false, beq_iff_eq, bne_iff_ne, ne_eq, decide_eq_decide, Bool.not_eq_eq_eq_not, Bool.not_true, Bool.not_false, beq_eq_false_iff_ne, bne_eq_false_iff_eq, Bool.and_eq_true, Bool.or_eq_true, Bool.and_eq_false_imp, Bool.or_eq_false_iff, bq2, bqt, bqf] at hb)) | intro _))
     all_goals first | exact qE (L' := []) ⟨rfl, rfl, rfl⟩ | (exfalso; omega)
  ·have hk2 : k = r.txns.length := by omega
   rw [hk2, List.drop_length, txsB] at hok
   subst hok
   repeat' (first | (refine Zz ?_; refine Zk (Zc rfl) rfl rfl ?_) | (refine Zh ?_; first | (refine Zf ?_; refine qQ ?_) | refine Zm ?_) | refine Zb ?_ | (refine Zi ?_; refine Zr ?_) | (refine Zj ?_; refine Zs ?_) | intro _)
   exact qE (L' := []) ⟨rfl, rfl, rfl⟩
 ·rw [decide_eq_false hH, Bool.false_and]
  repeat' (first | (refine Zz ?_; refine Zk (Zc rfl) rfl rfl ?_) | (refine Zh ?_; first | (refine Zf ?_; refine qQ ?_) | refine Zm ?_) | refine Zb ?_ | (refine Zi ?_; refine Zr ?_) | (refine Zj ?_; refine Zs ?_) | (refine Xw ?_; refine ZR rfl rfl (fun hb => ?_) (fun hb => ?_) <;> (try simp only [decide_eq_true_eq, decide_eq_false_iff_not, Bool.not_eq_true, Bool.not_eq_false, beq_iff_eq, bne_iff_ne, ne_eq, decide_eq_decide, Bool.not_eq_eq_eq_not, Bool.not_true, Bool.not_false, beq_eq_false_iff_ne, bne_eq_false_iff_eq, Bool.and_eq_true, Bool.or_eq_true, Bool.and_eq_false_imp, Bool.or_eq_false_iff, bq2, bqt, bqf] at hb)) | (refine Ym ?_; refine Yb rfl (fun hb => ?_) (fun hb => ?_) <;> (try simp only [decide_eq_true_eq, decide_eq_false_iff_not, Bool.not_eq_true, Bool.not_eq_false, beq_iff_eq, bne_iff_ne, ne_eq, decide_eq_decide, Bool.not_eq_eq_eq_not, Bool.not_true, Bool.not_false, beq_eq_false_iff_ne, bne_eq_false_iff_eq, Bool.and_eq_true, Bool.or_eq_true, Bool.and_eq_false_imp, Bool.or_eq_false_iff, bq2, bqt, bqf] at hb)) | intro _)
  all_goals first | exact qE (L' := []) ⟨rfl, rfl, rfl⟩ | (exfalso; omega)
structure TxP where
 num : Int
 state : Int
 first : Nat
 last : Nat
 undo : Nat
 stack : List Lf
 marks : List Nat
deriving DecidableEq
abbrev Tx.p (x : Tx) : TxP := ⟨x.num, x.state, x.first, x.last, x.undo, x.stack, x.marks⟩
structure Xm where
 next : Int
 txns : List TxP
deriving DecidableEq
abbrev Ros.p (r : Ros) : Xm := ⟨r.next, r.txns.map Tx.p⟩
instance (priority := 1200) eqLf {x y : Lf} : EqC Tryz.prog 8 108 (.agg ⟨lfV x⟩) (.agg ⟨lfV y⟩) (decide (x = y)) := by
 have h : EqC Tryz.prog 8 108 (.agg ⟨[.int .u64 x.lsn, .int .i64 x.cost]⟩) (.agg ⟨[.int .u64 y.lsn, .int .i64 y.cost]⟩) _ := inferInstance
 refine ⟨fun d w hd => ?_⟩
 rw [h.out d w hd]
 congr 1
 obtain ⟨i, t⟩ := x
 obtain ⟨i', t'⟩ := y
 simp only [Lf.mk.injEq, Bool.and_true, Bool.decide_and]
 have e : ((i : Int) == (i' : Int)) = decide (i = i') := by
  by_cases h : i = i'
  ·subst h; simp
  ·rw [decide_eq_false h]; simp only [beq_eq_false_iff_ne, ne_eq]; omega
 rw [e]
 by_cases h1 : t = t' <;> by_cases h2 : i = i' <;> simp [h1, h2]
theorem sameTx18_spec (ρ : Hp) (x y : Tx) (hx : Tx.In ρ x) (hy : Tx.In ρ y) : Spec Tryz.prog 113 [.agg ⟨txV x⟩, .agg ⟨txV y⟩] ρ [] (fun z ρ' L' => z = .bool (decide (x.p = y.p)) ∧ ρ' = ρ ∧ L' = []) := by
 obtain ⟨xn, xst, xf, xl, xu, xs, xm, ⟨sa, sn, sc⟩, ⟨ma, mn, mc⟩⟩ := x
 obtain ⟨yn, yst, yf, yl, yu, ys, ym, ⟨ra, rn, rc⟩, ⟨ka, kn, kc⟩⟩ := y
 obtain ⟨xS, xM, b1, b2, -, -⟩ := hx
 obtain ⟨yS, yM, b3, b4, -, -⟩ := hy
 dsimp only at xS xM yS yM b1 b2 b3 b4
 have n1 := xS.len
 have n2 := xM.len
 have n3 := yS.len
 have n4 := yM.len
 simp only [txV, Tx.p, TxP.mk.injEq]
 refine Zg Tryz.func113 rfl rfl rfl fun u R => ?_
 simp only [Zx, List.cons_append, List.nil_append]
 by_cases e : xn = yn ∧ xst = yst ∧ xf = yf ∧ xl = yl ∧ xu = yu
 ·obtain ⟨rfl, rfl, rfl, rfl, rfl⟩ := e
  by_cases hn : sn = rn ∧ mn = kn
  ·obtain ⟨rfl, rfl⟩ := hn
   repeat' (first | (refine Zz ?_; refine Zk (Zc rfl) rfl rfl ?_) | (refine Zh ?_; first | (refine Zf ?_; refine qQ ?_) | refine Zm ?_) | refine Zb ?_ | (refine Zi ?_; refine Zr ?_) | (refine Zj ?_; refine Zs ?_) | intro _)
   rename_i c2 c3
   refine ZC [(2, _), (3, _), (60, _)] (fun (ζ : (Nat)) => [(61, .int .i64 ζ), (4, .bool false)]) (fun (ζ : (Nat)) => ρ) (fun (ζ : (Nat)) => [[(c3, .cells ⟨[.int .i64 xn, .int .i64 xst, .int .u64 xf, .int .u64 xl, .int .u64 xu, .slice ra sn rc, .slice ka mn kc]⟩ 45 (0, 0))], [(c2, .cells ⟨[.int .i64 xn, .int .i64 xst, .int .u64 xf, .int .u64 xl, .int .u64 xu, .slice sa sn sc, .slice ma mn mc]⟩ 45 (0, 0))]]) (fun (ζ : (Nat)) => ζ ≤ sn ∧ xs.take ζ = ys.take ζ) (fun (ζ : (Nat)) => sn - ζ) (0) (⟨Nat.zero_le _, rfl⟩) Zl Zl rfl tk ?_
   rintro k hI
   try simp only [List.cons_append, List.nil_append, List.append_assoc, List.append_eq] at hI ⊢
   try dsimp only at hI ⊢
   obtain ⟨hk, hpre⟩ := hI
   by_cases hlt : k < sn
   ·obtain ⟨b, off, C, T, fr, rfl, hb, hfit, hc⟩ := xS.get (show k < xs.length by omega)
    obtain ⟨bb, off2, C2, T2, fr2, rfl, hb2, hfit2, hc2⟩ := yS.get (show k < ys.length by omega)
    have ht1 := List.take_succ_eq_append_getElem (show k < xs.length by omega)
    have ht2 := List.take_succ_eq_append_getElem (show k < ys.length by omega)
    have hf : xs = ys → xs[k]'(by omega) = ys[k]'(by omega) := fun e => by subst e; rfl
    generalize xs[k]'(by omega) = xi at *
    generalize ys[k]'(by omega) = yi at *
    by_cases c : xi = yi
    ·have hd : decide (xi = yi) = true := decide_eq_true c
     repeat' (first | (refine Zz ?_; refine Zk (Zc rfl) rfl rfl ?_) | (refine Zh ?_; first | (refine Zf ?_; refine qQ ?_) | refine Zm ?_) | refine Zb ?_ | (refine Zi ?_; refine Zr ?_) | (refine Zj ?_; refine Zs ?_) | intro _)
     refine ZB (Zq _ _ _) Zy ?_
     all_goals (refine ZO 0 ?_; refine ZK ?_; refine ZU 1 ?_; refine ZI 2 ?_; refine rIa 3 ?_; refine ZU 4 ?_; refine ZO 5 ?_; refine ZU 6 ?_; refine ZI 7 ?_; refine rIa 8 ?_; refine ZU 9 ?_; refine rCm 10 ?_; refine ZE ?_)
     all_goals (repeat' (first | (refine Zz ?_; refine Zk (Zc rfl) rfl rfl ?_) | (refine Zh ?_; first | (refine Zf ?_; refine qQ ?_) | refine Zm ?_) | refine Zb ?_ | (refine Zi ?_; refine Zr ?_) | (refine Zj ?_; refine Zs ?_) | intro _))
     all_goals refine Zp (k + 1) (⟨hlt, by rw [ht1, ht2, hpre, c]⟩) Zl Zl rfl tk inferInstance (by first | omega | (dsimp only; omega))
    ·have hd : decide (xi = yi) = false := decide_eq_false c
     rw [decide_eq_false (fun e => c (hf e.2.2.2.2.2.1))]
     repeat' (first | (refine Zz ?_; refine Zk (Zc rfl) rfl rfl ?_) | (refine Zh ?_; first | (refine Zf ?_; refine qQ ?_) | refine Zm ?_) | refine Zb ?_ | (refine Zi ?_; refine Zr ?_) | (refine Zj ?_; refine Zs ?_) | intro _)
     refine ZB (Zq _ _ _) Zy ?_
     all_goals (refine ZO 0 ?_; refine ZK ?_; refine ZU 1 ?_; refine ZI 2 ?_; refine rIa 3 ?_; refine ZU 4 ?_; refine ZO 5 ?_; refine ZU 6 ?_; refine ZI 7 ?_; refine rIa 8 ?_; refine ZU 9 ?_; refine rCm 10 ?_; refine ZE ?_)
     all_goals (repeat' (first | (refine Zz ?_; refine Zk (Zc rfl) rfl rfl ?_) | (refine Zh ?_; first | (refine Zf ?_; refine qQ ?_) | refine Zm ?_) | refine Zb ?_ | (refine Zi ?_; refine Zr ?_) | (refine Zj ?_; refine Zs ?_) | intro _))
     all_goals exact qE (L' := []) ⟨rfl, rfl, rfl⟩
   ·have hS : xs = ys := by
     rwa [List.take_of_length_le (by omega), List.take_of_length_le (by omega)] at hpre
    repeat' (first | (refine Zz ?_; refine Zk (Zc rfl) rfl rfl ?_) | (refine Zh ?_; first | (refine Zf ?_; refine qQ ?_) | refine Zm ?_) | refine Zb ?_ | (refine Zi ?_; refine Zr ?_) | (refine Zj ?_; refine Zs ?_) | intro _)
    refine ZC [(2, _), (3, _), (78, _)] (fun (ζ : (Nat)) => [(79, .int .i64 ζ), (4, .bool false)]) (fun (ζ : (Nat)) => ρ) (fun (ζ : (Nat)) => [[(c3, .cells ⟨[.int .i64 xn, .int .i64 xst, .int .u64 xf, .int .u64 xl, .int .u64 xu, .slice ra sn rc, .slice ka mn kc]⟩ 45 (0, 0))], [(c2, .cells ⟨[.int .i64 xn, .int .i64 xst, .int .u64 xf, .int .u64 xl, .int .u64 xu, .slice sa sn sc, .slice ma mn mc]⟩ 45 (0, 0))]]) (fun (ζ : (Nat)) => ζ ≤ mn ∧ xm.take ζ = ym.take ζ) (fun (ζ : (Nat)) => mn - ζ) (0) (⟨Nat.zero_le _, rfl⟩) Zl Zl rfl tk ?_
    rintro j hI
    try simp only [List.cons_append, List.nil_append, List.append_assoc, List.append_eq] at hI ⊢
    try dsimp only at hI ⊢
    obtain ⟨hj, hpre2⟩ := hI
    by_cases hlt2 : j < mn
    ·obtain ⟨b, off, C, T, fr, rfl, hb, hc⟩ := xM.get (show j < xm.length by omega)
     obtain ⟨bb, off2, C2, T2, fr2, rfl, hb2, hc2⟩ := yM.get (show j < ym.length by omega)
     have ht1 := List.take_succ_eq_append_getElem (show j < xm.length by omega)
     have ht2 := List.take_succ_eq_append_getElem (show j < ym.length by omega)
     have hf : xm = ym → xm[j]'(by omega) = ym[j]'(by omega) := fun e => by subst e; rfl
     generalize xm[j]'(by omega) = xi at *
     generalize ym[j]'(by omega) = yi at *
     by_cases c : xi = yi
     ·repeat' (first | (refine Zz ?_; refine Zk (Zc rfl) rfl rfl ?_) | (refine Zh ?_; first | (refine Zf ?_; refine qQ ?_) | refine Zm ?_) | refine Zb ?_ | (refine Zi ?_; refine Zr ?_) | (refine Zj ?_; refine Zs ?_) | intro _)
      refine ZB (Zq _ _ _) Zy ?_
      all_goals (refine ZO 0 ?_; refine ZK ?_; refine ZU 1 ?_; refine ZI 2 ?_; refine rIa 3 ?_; refine ZU 4 ?_; refine ZO 5 ?_; refine ZU 6 ?_; refine ZI 7 ?_; refine rIa 8 ?_; refine ZU 9 ?_; refine rCm 10 ?_; refine ZE ?_)
      all_goals (repeat' (first | (refine Zz ?_; refine Zk (Zc rfl) rfl rfl ?_) | (refine Zh ?_; first | (refine Zf ?_; refine qQ ?_) | refine Zm ?_) | refine Zb ?_ | (refine Zi ?_; refine Zr ?_) | (refine Zj ?_; refine Zs ?_) | intro _))
      all_goals refine Zp (j + 1) (⟨hlt2, by rw [ht1, ht2, hpre2, c]⟩) Zl Zl rfl tk inferInstance (by first | omega | (dsimp only; omega))
     ·rw [decide_eq_false (fun e => c (hf e.2.2.2.2.2.2))]
      repeat' (first | (refine Zz ?_; refine Zk (Zc rfl) rfl rfl ?_) | (refine Zh ?_; first | (refine Zf ?_; refine qQ ?_) | refine Zm ?_) | refine Zb ?_ | (refine Zi ?_; refine Zr ?_) | (refine Zj ?_; refine Zs ?_) | intro _)
      refine ZB (Zq _ _ _) Zy ?_
      all_goals (refine ZO 0 ?_; refine ZK ?_; refine ZU 1 ?_; refine ZI 2 ?_; refine rIa 3 ?_; refine ZU 4 ?_; refine ZO 5 ?_; refine ZU 6 ?_; refine ZI 7 ?_; refine rIa 8 ?_; refine ZU 9 ?_; refine rCm 10 ?_; refine ZE ?_)
      all_goals (repeat' (first | (refine Zz ?_; refine Zk (Zc rfl) rfl rfl ?_) | (refine Zh ?_; first | (refine Zf ?_; refine qQ ?_) | refine Zm ?_) | refine Zb ?_ | (refine Zi ?_; refine Zr ?_) | (refine Zj ?_; refine Zs ?_) | intro _))
      all_goals exact qE (L' := []) ⟨rfl, rfl, rfl⟩
    ·have hM : xm = ym := by
      rwa [List.take_of_length_le (by omega), List.take_of_length_le (by omega)] at hpre2
     simp only [hS, hM, and_self, decide_true, eq_self]
     repeat' (first | (refine Zz ?_; refine Zk (Zc rfl) rfl rfl ?_) | (refine Zh ?_; first | (refine Zf ?_; refine qQ ?_) | refine Zm ?_) | refine Zb ?_ | (refine Zi ?_; refine Zr ?_) | (refine Zj ?_; refine Zs ?_) | intro _)
     exact qE (L' := []) ⟨rfl, rfl, rfl⟩
  ·rw [decide_eq_false (fun e => hn ⟨by rw [← n1, ← n3, e.2.2.2.2.2.1], by rw [← n2, ← n4, e.2.2.2.2.2.2]⟩)]
   repeat' (first | (refine Zz ?_; refine Zk (Zc rfl) rfl rfl ?_) | (refine Zh ?_; first | (refine Zf ?_; refine qQ ?_) | refine Zm ?_) | refine Zb ?_ | (refine Zi ?_; refine Zr ?_) | (refine Zj ?_; refine Zs ?_) | (refine Xw ?_; refine ZR rfl rfl (fun hb => ?_) (fun hb => ?_) <;> (try simp only [decide_eq_true_eq, decide_eq_false_iff_not, Bool.not_eq_true, Bool.not_eq_false, beq_iff_eq, bne_iff_ne, ne_eq, decide_eq_decide, Bool.not_eq_eq_eq_not, Bool.not_true, Bool.not_false, beq_eq_false_iff_ne, bne_eq_false_iff_eq, Bool.and_eq_true, Bool.or_eq_true, Bool.and_eq_false_imp, Bool.or_eq_false_iff, bq2, bqt, bqf] at hb)) | (refine Ym ?_; refine Yb rfl (fun hb => ?_) (fun hb => ?_) <;> (try simp only [decide_eq_true_eq, decide_eq_false_iff_not, Bool.not_eq_true, Bool.not_eq_false, beq_iff_eq, bne_iff_ne, ne_eq, decide_eq_decide, Bool.not_eq_eq_eq_not, Bool.not_true, Bool.not_false, beq_eq_false_iff_ne, bne_eq_false_iff_eq, Bool.and_eq_true, Bool.or_eq_true, Bool.and_eq_false_imp, Bool.or_eq_false_iff, bq2, bqt, bqf] at hb)) | intro _)
   all_goals first | (exfalso; omega) | skip
   all_goals (refine qF (L' := []) ?_; exact ⟨YI (by (try simp [*]); first | done | omega | (intros; omega) | (constructor <;> intros <;> (try simp_all) <;> omega)), rfl, rfl⟩)
 ·rw [decide_eq_false (fun h => e ⟨h.1, h.2.1, h.2.2.1, h.2.2.2.1, h.2.2.2.2.1⟩)]
  repeat' (first | (refine Zz ?_; refine Zk (Zc rfl) rfl rfl ?_) | (refine Zh ?_; first | (refine Zf ?_; refine qQ ?_) | refine Zm ?_) | refine Zb ?_ | (refine Zi ?_; refine Zr ?_) | (refine Zj ?_; refine Zs ?_) | (refine Xw ?_; refine ZR rfl rfl (fun hb => ?_) (fun hb => ?_) <;> (try simp only [decide_eq_true_eq, decide_eq_false_iff_not, Bool.not_eq_true, Bool.not_eq_false, beq_iff_eq, bne_iff_ne, ne_eq, decide_eq_decide, Bool.not_eq_eq_eq_not, Bool.not_true, Bool.not_false, beq_eq_false_iff_ne, bne_eq_false_iff_eq, Bool.and_eq_true, Bool.or_eq_true, Bool.and_eq_false_imp, Bool.or_eq_false_iff, bq2, bqt, bqf] at hb)) | (refine Ym ?_; refine Yb rfl (fun hb => ?_) (fun hb => ?_) <;> (try simp only [decide_eq_true_eq, decide_eq_false_iff_not, Bool.not_eq_true, Bool.not_eq_false, beq_iff_eq, bne_iff_ne, ne_eq, decide_eq_decide, Bool.not_eq_eq_eq_not, Bool.not_true, Bool.not_false, beq_eq_false_iff_ne, bne_eq_false_iff_eq, Bool.and_eq_true, Bool.or_eq_true, Bool.and_eq_false_imp, Bool.or_eq_false_iff, bq2, bqt, bqf] at hb)) | intro _)
  all_goals first | (exfalso; omega) | skip
  all_goals (refine qF (L' := []) ?_; exact ⟨YI (by (try simp [*]); first | done | omega | (intros; omega) | (constructor <;> intros <;> (try simp_all) <;> omega)), rfl, rfl⟩)
theorem map_take_suc {α β : Type} (g : α → β) (l : List α) (k : Nat) (h : k < l.length) : (l.map g).take (k + 1) = (l.map g).take k ++ [g l[k]] := by
 rw [List.take_succ_eq_append_getElem (by simpa using h), List.getElem_map]
theorem same18_spec (ρ : Hp) (v v' : SV) (x y : Ros) (hx : RosIn ρ v x) (hy : RosIn ρ v' y) : Spec Tryz.prog 61 [.agg ⟨XI v x⟩, .agg ⟨XI v' y⟩] ρ [] (fun z ρ' L' => z = .bool (decide (x.p = y.p)) ∧ ρ' = ρ ∧ L' = []) := by
 obtain ⟨⟨hA, hbig, -⟩, hT⟩ := hx
 obtain ⟨⟨hB, -, -⟩, hU⟩ := hy
 obtain ⟨sa, sn, sc⟩ := v
 obtain ⟨ra, rn, rc⟩ := v'
 dsimp only at hA hB hbig
 have n1 := hA.len
 have n2 := hB.len
 simp only [XI, Ros.p, Xm.mk.injEq]
 refine Zg Tryz.func61 rfl rfl rfl fun u R => ?_
 simp only [Zx, List.cons_append, List.nil_append]
 by_cases e : x.next = y.next
 ·by_cases hn : sn = rn
  ·subst hn
   repeat' (first | (refine Zz ?_; refine Zk (Zc rfl) rfl rfl ?_) | (refine Zh ?_; first | (refine Zf ?_; refine qQ ?_) | refine Zm ?_) | refine Zb ?_ | (refine Zi ?_; refine Zr ?_) | (refine Zj ?_; refine Zs ?_) | intro _)
   rename_i c2 c3
   refine ZC [(2, _), (3, _), (22, _)] (fun (ζ : (Nat)) => [(23, .int .i64 ζ), (4, .bool false)]) (fun (ζ : (Nat)) => ρ) (fun (ζ : (Nat)) => [[(c3, .cells ⟨[.int .i64 y.next, .slice ra sn rc]⟩ 26 (0, 0))], [(c2, .cells ⟨[.int .i64 x.next, .slice sa sn sc]⟩ 26 (0, 0))]]) (fun (ζ : (Nat)) => ζ ≤ sn ∧ (x.txns.map Tx.p).take ζ = (y.txns.map Tx.p).take ζ) (fun (ζ : (Nat)) => sn - ζ) (0) (⟨Nat.zero_le _, rfl⟩) Zl Zl rfl tk ?_
   rintro k hI
   try simp only [List.cons_append, List.nil_append, List.append_assoc, List.append_eq] at hI ⊢
   try dsimp only at hI ⊢
   obtain ⟨hk, hpre⟩ := hI
   by_cases hlt : k < sn
   ·obtain ⟨b, off, C, T, fr, rfl, hb, hfit, hc⟩ := hA.get (show k < x.txns.length by omega)
    obtain ⟨bb, off2, C2, T2, fr2, rfl, hb2, hfit2, hc2⟩ := hB.get (show k < y.txns.length by omega)
    have ht1 := map_take_suc Tx.p x.txns k (by omega)
    have ht2 := map_take_suc Tx.p y.txns k (by omega)
    have hf : x.txns.map Tx.p = y.txns.map Tx.p → (x.txns[k]'(by omega)).p = (y.txns[k]'(by omega)).p := fun e => by
     have g1 : (x.txns.map Tx.p)[k]? = some (x.txns[k]'(by omega)).p := by simp [show k < x.txns.length by omega]
     have g2 : (y.txns.map Tx.p)[k]? = some (y.txns[k]'(by omega)).p := by simp [show k < y.txns.length by omega]
     rw [e, g2] at g1
     exact (Option.some.inj g1).symm
    have i1 := hT _ (List.getElem_mem (show k < x.txns.length by omega))
    have i2 := hU _ (List.getElem_mem (show k < y.txns.length by omega))
    generalize x.txns[k]'(by omega) = xi at *
    generalize y.txns[k]'(by omega) = yi at *
    have q := sameTx18_spec ρ xi yi i1 i2
    by_cases c : xi.p = yi.p
    ·rw [decide_eq_true c] at q
     repeat' (first | (refine Zz ?_; refine Zk (Zc rfl) rfl rfl ?_) | (refine Zh ?_; first | (refine Zf ?_; refine qQ ?_) | refine Zm ?_) | refine Zb ?_ | (refine Zi ?_; refine Zr ?_) | (refine Zj ?_; refine Zs ?_) | intro _)
     refine ZB (Zq _ _ _) Zy ?_
     all_goals (refine ZO 0 ?_; refine ZU 1 ?_; refine ZI 2 ?_; refine rIa 3 ?_; refine ZU 4 ?_; refine ZO 5 ?_; refine ZU 6 ?_; refine ZI 7 ?_; refine rIa 8 ?_; refine ZU 9 ?_)
     all_goals (refine Zt (i := 10) ?_; ((try refine Zn ?_); (first | (refine Ze (.func 113) ?_; refine qC rfl rfl (q) ?_; rintro v ρ' L' hle ⟨rfl, rfl, rfl⟩ <;> (try simp only [kM, kN, kO])) | (refine Zm ?_; try intro _)) <;> ((try simp only [kM, kN, kO]); refine Zb ?_; refine Zo ?_)))
     all_goals (refine ZK ?_; refine rUn 11 ?_; refine ZE ?_)
     all_goals (repeat' (first | (refine Zz ?_; refine Zk (Zc rfl) rfl rfl ?_) | (refine Zh ?_; first | (refine Zf ?_; refine qQ ?_) | refine Zm ?_) | refine Zb ?_ | (refine Zi ?_; refine Zr ?_) | (refine Zj ?_; refine Zs ?_) | intro _))
     all_goals refine Zp (k + 1) (⟨hlt, by rw [ht1, ht2, hpre, c]⟩) Zl Zl rfl tk inferInstance (by first | omega | (dsimp only; omega))
    ·rw [decide_eq_false c] at q
     rw [decide_eq_false (fun e => c (hf e.2))]
     repeat' (first | (refine Zz ?_; refine Zk (Zc rfl) rfl rfl ?_) | (refine Zh ?_; first | (refine Zf ?_; refine qQ ?_) | refine Zm ?_) | refine Zb ?_ | (refine Zi ?_; refine Zr ?_) | (refine Zj ?_; refine Zs ?_) | intro _)
     refine ZB (Zq _ _ _) Zy ?_
     all_goals (refine ZO 0 ?_; refine ZU 1 ?_; refine ZI 2 ?_; refine rIa 3 ?_; refine ZU 4 ?_; refine ZO 5 ?_; refine ZU 6 ?_; refine ZI 7 ?_; refine rIa 8 ?_; refine ZU 9 ?_)
     all_goals (refine Zt (i := 10) ?_; ((try refine Zn ?_); (first | (refine Ze (.func 113) ?_; refine qC rfl rfl (q) ?_; rintro v ρ' L' hle ⟨rfl, rfl, rfl⟩ <;> (try simp only [kM, kN, kO])) | (refine Zm ?_; try intro _)) <;> ((try simp only [kM, kN, kO]); refine Zb ?_; refine Zo ?_)))
     all_goals (refine ZK ?_; refine rUn 11 ?_; refine ZE ?_)
     all_goals (repeat' (first | (refine Zz ?_; refine Zk (Zc rfl) rfl rfl ?_) | (refine Zh ?_; first | (refine Zf ?_; refine qQ ?_) | refine Zm ?_) | refine Zb ?_ | (refine Zi ?_; refine Zr ?_) | (refine Zj ?_; refine Zs ?_) | intro _))
     all_goals exact qE (L' := []) ⟨rfl, rfl, rfl⟩
   ·have hS : x.txns.map Tx.p = y.txns.map Tx.p := by
     rwa [List.take_of_length_le (by simp; omega), List.take_of_length_le (by simp; omega)] at hpre
    rw [decide_eq_true ⟨e, hS⟩]
    repeat' (first | (refine Zz ?_; refine Zk (Zc rfl) rfl rfl ?_) | (refine Zh ?_; first | (refine Zf ?_; refine qQ ?_) | refine Zm ?_) | refine Zb ?_ | (refine Zi ?_; refine Zr ?_) | (refine Zj ?_; refine Zs ?_) | intro _)
    exact qE (L' := []) ⟨rfl, rfl, rfl⟩
  ·rw [decide_eq_false (fun e => hn (by have := congrArg List.length e.2; simp only [List.length_map] at this; omega))]
   repeat' (first | (refine Zz ?_; refine Zk (Zc rfl) rfl rfl ?_) | (refine Zh ?_; first | (refine Zf ?_; refine qQ ?_) | refine Zm ?_) | refine Zb ?_ | (refine Zi ?_; refine Zr ?_) | (refine Zj ?_; refine Zs ?_) | (refine Xw ?_; refine ZR rfl rfl (fun hb => ?_) (fun hb => ?_) <;> (try simp only [decide_eq_true_eq, decide_eq_false_iff_not, Bool.not_eq_true, Bool.not_eq_false, beq_iff_eq, bne_iff_ne, ne_eq, decide_eq_decide, Bool.not_eq_eq_eq_not, Bool.not_true, Bool.not_false, beq_eq_false_iff_ne, bne_eq_false_iff_eq, Bool.and_eq_true, Bool.or_eq_true, Bool.and_eq_false_imp, Bool.or_eq_false_iff, bq2, bqt, bqf] at hb)) | (refine Ym ?_; refine Yb rfl (fun hb => ?_) (fun hb => ?_) <;> (try simp only [decide_eq_true_eq, decide_eq_false_iff_not, Bool.not_eq_true, Bool.not_eq_false, beq_iff_eq, bne_iff_ne, ne_eq, decide_eq_decide, Bool.not_eq_eq_eq_not, Bool.not_true, Bool.not_false, beq_eq_false_iff_ne, bne_eq_false_iff_eq, Bool.and_eq_true, Bool.or_eq_true, Bool.and_eq_false_imp, Bool.or_eq_false_iff, bq2, bqt, bqf] at hb)) | intro _)
   all_goals first | (exfalso; omega) | skip
   all_goals (refine qF (L' := []) ?_; exact ⟨YI (by (try simp [*]); first | done | omega | (intros; omega) | (constructor <;> intros <;> (try simp_all) <;> omega)), rfl, rfl⟩)
 ·rw [decide_eq_false (fun h => e h.1)]
  repeat' (first | (refine Zz ?_; refine Zk (Zc rfl) rfl rfl ?_) | (refine Zh ?_; first | (refine Zf ?_; refine qQ ?_) | refine Zm ?_) | refine Zb ?_ | (refine Zi ?_; refine Zr ?_) | (refine Zj ?_; refine Zs ?_) | (refine Xw ?_; refine ZR rfl rfl (fun hb => ?_) (fun hb => ?_) <;> (try simp only [decide_eq_true_eq, decide_eq_false_iff_not, Bool.not_eq_true, Bool.not_eq_false, beq_iff_eq, bne_iff_ne, ne_eq, decide_eq_decide, Bool.not_eq_eq_eq_not, Bool.not_true, Bool.not_false, beq_eq_false_iff_ne, bne_eq_false_iff_eq, Bool.and_eq_true, Bool.or_eq_true, Bool.and_eq_false_imp, Bool.or_eq_false_iff, bq2, bqt, bqf] at hb)) | (refine Ym ?_; refine Yb rfl (fun hb => ?_) (fun hb => ?_) <;> (try simp only [decide_eq_true_eq, decide_eq_false_iff_not, Bool.not_eq_true, Bool.not_eq_false, beq_iff_eq, bne_iff_ne, ne_eq, decide_eq_decide, Bool.not_eq_eq_eq_not, Bool.not_true, Bool.not_false, beq_eq_false_iff_ne, bne_eq_false_iff_eq, Bool.and_eq_true, Bool.or_eq_true, Bool.and_eq_false_imp, Bool.or_eq_false_iff, bq2, bqt, bqf] at hb)) | intro _)
  all_goals first | (exfalso; omega) | skip
  all_goals (refine qF (L' := []) ?_; exact ⟨YI (by (try simp [*]); first | done | omega | (intros; omega) | (constructor <;> intros <;> (try simp_all) <;> omega)), rfl, rfl⟩)
end Go.Proofs.E
