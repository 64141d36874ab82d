/- Laws of analysis. Part 10 of 41. -/
import Derived.Test.YtkbiahafeoillaaGreatA9
namespace Go.Proofs.E
open Go
set_option linter.unusedVariables false
set_option linter.unusedSimpArgs false
set_option linter.unusedSectionVars false
set_option maxRecDepth 4000
set_option maxHeartbeats 1000000
attribute [local irreducible] Yl TL TC TE Spec Xb R1 Hp.le EnvLe TS TR YS Zk
theorem dirty12_spec (ρ : Hp) (s : SV) (l : List Yq) (h : AS ρ 2 YG s l) (lsn : Nat)  :
  Spec Tryz.prog 71 [.slice s.a s.n s.c, .int .u64 lsn] ρ [] (fun z ρ' L' => z = .bool (upB (ckPOk lsn) Yq.page l l.length) ∧ ρ' = ρ ∧ L' = []) := by
 have hl := h.at'.len
 have hn := h.big
 have hA := h.at'
 generalize hR : (ckPOk lsn) = rt
 unfold upB
 generalize hm : l.length = mo
 have hrt : ∀ x, rt x = (ckPOk lsn) x := fun x => by rw [hR]
 refine Zd Tryz.func71 rfl rfl rfl fun u R => ?_
 simp only [Zo, List.cons_append, List.nil_append]
 repeat' (first | refine zV ?_ | intro _)
 refine Zq [(0, _), (1, _), (7, _), (8, _)] (fun (ζ : (Nat)) => [(9, .int .i64 ζ), (4, .bool false)]) (fun (ζ : (Nat)) => ρ) (fun (ζ : (Nat)) => []) (fun (ζ : (Nat)) => ζ ≤ s.n ∧ ZC mo (fun _ x => rt x) (fun y x => decide (Yq.page y < Yq.page x)) l ζ = true) (fun (ζ : (Nat)) => s.n - ζ) (0) (⟨Nat.zero_le _, by rw [ZC]; simp [hm]⟩) Ze Ze rfl tk ?_
 rintro k hI
 try simp only [List.cons_append, List.nil_append, List.append_assoc, List.append_eq] at hI ⊢
 try dsimp only at hI ⊢
 obtain ⟨hk, hok⟩ := hI
 by_cases hlt : k < s.n
 ·obtain ⟨b, off, C, T, fr, e1, hb0, hfit, hc⟩ := hA.get (show k < l.length by omega)
  have hs := YK (most := mo) (right := fun _ x => rt x) (lt := fun y x => decide (Yq.page y < Yq.page x)) (show k < l.length by omega)
  have hfin0 := fun (e : ZC mo (fun _ x => rt x) (fun y x => decide (Yq.page y < Yq.page x)) l (k + 1) = false) => YF e (show k + 1 ≤ mo by omega)
  rw [hok, Bool.true_and] at hs
  have hw := hrt l[k]
  skip
  rw [e1]
  by_cases hk0 : k = 0
  ·have hfin : (rt l[k] && (decide (k = 0) || decide (Yq.page (l[k - 1]'(by omega)) < Yq.page l[k]))) = false → ZC mo (fun _ x => rt x) (fun y x => decide (Yq.page y < Yq.page x)) l mo = false := fun e => hfin0 (by rw [hs]; exact e)
   rw [decide_eq_true hk0, Bool.true_or, Bool.and_true] at hs hfin
   generalize l[k] = x at *
   unfold ckPOk at hw
   generalize hQQ : ZC mo (fun _ x => rt x) (fun y x => decide (Yq.page y < Yq.page x)) l mo = q at *
   clear hfin0 hrt hR
   repeat' (first | refine zV ?_ | intro _)
   refine Zu (Zk _ _ _) Zp ?_
   all_goals (refine ZN 0 ?_; refine ZQ 1 ?_)
   all_goals (refine Zj (i := 2) ?_; ((try refine Zh ?_); (first | (refine Zc (.func 123) ?_; refine qC rfl rfl (rpage12_spec _ _) ?_; rintro v ρ' L' hle ⟨rfl, rfl, rfl⟩ <;> (try simp only [kM, kN, kO])) | (refine ZF ?_; try intro _)) <;> ((try simp only [kM, kN, kO]); refine Zf ?_; refine Zi ?_)))
   all_goals (refine Zz ?_; refine rUn 3 ?_; refine Zx 4 ?_)
   all_goals (first | refine Zb 5 ?_ | refine Za 5 ?_ | refine ZI 5 ?_ | (refine Zn (t := 18) rfl (fun hb => ?_) (fun hb => ?_) <;> (try simp only [kk] at hb) <;> first | refine Zb 5 ?_ | refine Za 5 ?_ | refine ZI 5 ?_))
   all_goals ((first | refine Zb 6 ?_ | refine Za 6 ?_ | refine Yg 6 ?_); (first | refine Zb 7 ?_ | refine Za 7 ?_ | refine ZI 7 ?_))
   all_goals (first | refine Zb 8 ?_ | refine Za 8 ?_ | refine ZI 8 ?_ | (refine Zn (t := 21) rfl (fun hb => ?_) (fun hb => ?_) <;> (try simp only [kk] at hb) <;> first | refine Zb 8 ?_ | refine Za 8 ?_ | refine ZI 8 ?_))
   all_goals ((first | refine Zb 9 ?_ | refine Za 9 ?_ | refine ZI 9 ?_); (first | refine Zb 10 ?_ | refine Za 10 ?_ | refine wSb 10 ?_); (first | refine Zb 11 ?_ | refine Za 11 ?_ | refine wIa 11 ?_); (first | refine Zb 12 ?_ | refine Za 12 ?_ | refine ZE 12 ?_); (first | refine Zb 13 ?_ | refine Za 13 ?_ | refine ZL 13 ?_); (first | refine Zb 14 ?_ | refine Za 14 ?_ | refine ZE 14 ?_); (first | refine Zb 15 ?_ | refine Za 15 ?_ | refine ZL 15 ?_); (first | refine Zb 16 ?_ | refine Za 16 ?_ | refine Yg 16 ?_); (first | refine Zb 17 ?_ | refine Za 17 ?_ | refine wPk 17 ?_); refine Yj 18 ?_; refine Zx 19 ?_)
   all_goals (first | refine Zb 20 ?_ | refine Za 20 ?_ | refine ZE 20 ?_ | (refine Zn (t := 33) rfl (fun hb => ?_) (fun hb => ?_) <;> (try simp only [kk] at hb) <;> first | refine Zb 20 ?_ | refine Za 20 ?_ | refine ZE 20 ?_))
   all_goals ((first | refine Zb 21 ?_ | refine Za 21 ?_ | refine ZL 21 ?_); (first | refine Zb 22 ?_ | refine Za 22 ?_ | refine Yg 22 ?_); refine Yj 23 ?_; refine Zx 24 ?_)
   all_goals (first | refine Zb 25 ?_ | refine Za 25 ?_ | refine ZE 25 ?_ | (refine Zn (t := 38) rfl (fun hb => ?_) (fun hb => ?_) <;> (try simp only [kk] at hb) <;> first | refine Zb 25 ?_ | refine Za 25 ?_ | refine ZE 25 ?_))
   all_goals ((first | refine Zb 26 ?_ | refine Za 26 ?_ | refine ZL 26 ?_); (first | refine Zb 27 ?_ | refine Za 27 ?_ | refine ZI 27 ?_); (first | refine Zb 28 ?_ | refine Za 28 ?_ | refine Yg 28 ?_); refine Yj 29 ?_; refine Zv ?_)
   all_goals (repeat' (first | refine zV ?_ | (refine YL ?_; refine ZB rfl rfl (fun hb => ?_) (fun hb => ?_) <;> (try simp only [decide_eq_true_eq, decide_eq_false_iff_not, Bool.not_eq_true, Bool.not_eq_false, beq_iff_eq, bne_iff_ne, ne_eq, decide_eq_decide, Bool.not_eq_eq_eq_not, Bool.not_true, Bool.not_false, beq_eq_false_iff_ne, bne_eq_false_iff_eq, Bool.and_eq_true, Bool.or_eq_true, Bool.and_eq_false_imp, Bool.or_eq_false_iff, bq2, bqt, bqf] at hb)) | (refine ZS ?_; refine ZM rfl (fun hb => ?_) (fun hb => ?_) <;> (try simp only [decide_eq_true_eq, decide_eq_false_iff_not, Bool.not_eq_true, Bool.not_eq_false, beq_iff_eq, bne_iff_ne, ne_eq, decide_eq_decide, Bool.not_eq_eq_eq_not, Bool.not_true, Bool.not_false, beq_eq_false_iff_ne, bne_eq_false_iff_eq, Bool.and_eq_true, Bool.or_eq_true, Bool.and_eq_false_imp, Bool.or_eq_false_iff, bq2, bqt, bqf] at hb)) | intro _))
   all_goals (try (rw [hfin (by rw [hw]; (first | (simp [*]; done) | (simp [*]; omega) | (simp_all; done) | (simp_all; omega)))]; refine qF (L' := []) ?_; exact ⟨by first | rfl | rw [Bool.and_false], rfl, rfl⟩))
   all_goals rw [← e1]
   all_goals refine Zg (k + 1) (⟨hlt, by rw [hs, hw]; (first | (simp [*]; done) | (simp [*]; omega) | (simp_all; done) | (simp_all; omega))⟩) Ze Ze rfl tk inferInstance (by first | omega | (dsimp only; omega))
  ·have hd : decide (k = 0) = false := decide_eq_false hk0
   obtain ⟨b2, off2, C2, T2, fr2, f1, hb2, hfit2, hc2⟩ := hA.get (show k - 1 < l.length by omega)
   rw [e1] at f1
   cases f1
   rw [hb0] at hb2
   cases hb2
   have ek : ((k : Int) - 1).toNat = k - 1 := by omega
   have hfin : (rt l[k] && (decide (k = 0) || decide (Yq.page (l[k - 1]'(by omega)) < Yq.page l[k]))) = false → ZC mo (fun _ x => rt x) (fun y x => decide (Yq.page y < Yq.page x)) l mo = false := fun e => hfin0 (by rw [hs]; exact e)
   rw [hd, Bool.false_or] at hs hfin
   have hcy : C[off + ((k : Int) - 1).toNat * 2]? = some (.int .i64 (Yq.page (l[k - 1]'(by omega)))) := by
    have := congrArg (fun l => l[0]?) hc2
    rw [ek]
    simp only [List.getElem?_take, List.getElem?_drop] at this
    simpa using this
   clear hc2 hfit2
   generalize l[k] = x at *
   generalize l[k - 1]'(by omega) = y at *
   unfold ckPOk at hw
   generalize hQQ : ZC mo (fun _ x => rt x) (fun y x => decide (Yq.page y < Yq.page x)) l mo = q at *
   clear hfin0 hrt hR
   repeat' (first | refine zV ?_ | intro _)
   refine Zu (Zk _ _ _) Zp ?_
   all_goals (refine ZN 0 ?_; refine ZQ 1 ?_)
   all_goals (refine Zj (i := 2) ?_; ((try refine Zh ?_); (first | (refine Zc (.func 123) ?_; refine qC rfl rfl (rpage12_spec _ _) ?_; rintro v ρ' L' hle ⟨rfl, rfl, rfl⟩ <;> (try simp only [kM, kN, kO])) | (refine ZF ?_; try intro _)) <;> ((try simp only [kM, kN, kO]); refine Zf ?_; refine Zi ?_)))
   all_goals (refine Zz ?_; refine rUn 3 ?_; refine Zx 4 ?_)
   all_goals (first | refine Zb 5 ?_ | refine Za 5 ?_ | refine ZI 5 ?_ | (refine Zn (t := 18) rfl (fun hb => ?_) (fun hb => ?_) <;> (try simp only [kk] at hb) <;> first | refine Zb 5 ?_ | refine Za 5 ?_ | refine ZI 5 ?_))
   all_goals ((first | refine Zb 6 ?_ | refine Za 6 ?_ | refine Yg 6 ?_); (first | refine Zb 7 ?_ | refine Za 7 ?_ | refine ZI 7 ?_))
   all_goals (first | refine Zb 8 ?_ | refine Za 8 ?_ | refine ZI 8 ?_ | (refine Zn (t := 21) rfl (fun hb => ?_) (fun hb => ?_) <;> (try simp only [kk] at hb) <;> first | refine Zb 8 ?_ | refine Za 8 ?_ | refine ZI 8 ?_))
   all_goals ((first | refine Zb 9 ?_ | refine Za 9 ?_ | refine ZI 9 ?_); (first | refine Zb 10 ?_ | refine Za 10 ?_ | refine wSb 10 ?_); (first | refine Zb 11 ?_ | refine Za 11 ?_ | refine wIa 11 ?_); (first | refine Zb 12 ?_ | refine Za 12 ?_ | refine ZE 12 ?_); (first | refine Zb 13 ?_ | refine Za 13 ?_ | refine ZL 13 ?_); (first | refine Zb 14 ?_ | refine Za 14 ?_ | refine ZE 14 ?_); (first | refine Zb 15 ?_ | refine Za 15 ?_ | refine ZL 15 ?_); (first | refine Zb 16 ?_ | refine Za 16 ?_ | refine Yg 16 ?_); (first | refine Zb 17 ?_ | refine Za 17 ?_ | refine wPk 17 ?_); refine Yj 18 ?_; refine Zx 19 ?_)
   all_goals (first | refine Zb 20 ?_ | refine Za 20 ?_ | refine ZE 20 ?_ | (refine Zn (t := 33) rfl (fun hb => ?_) (fun hb => ?_) <;> (try simp only [kk] at hb) <;> first | refine Zb 20 ?_ | refine Za 20 ?_ | refine ZE 20 ?_))
   all_goals ((first | refine Zb 21 ?_ | refine Za 21 ?_ | refine ZL 21 ?_); (first | refine Zb 22 ?_ | refine Za 22 ?_ | refine Yg 22 ?_); refine Yj 23 ?_; refine Zx 24 ?_)
   all_goals (first | refine Zb 25 ?_ | refine Za 25 ?_ | refine ZE 25 ?_ | (refine Zn (t := 38) rfl (fun hb => ?_) (fun hb => ?_) <;> (try simp only [kk] at hb) <;> first | refine Zb 25 ?_ | refine Za 25 ?_ | refine ZE 25 ?_))
   all_goals ((first | refine Zb 26 ?_ | refine Za 26 ?_ | refine ZL 26 ?_); (first | refine Zb 27 ?_ | refine Za 27 ?_ | refine ZI 27 ?_); (first | refine Zb 28 ?_ | refine Za 28 ?_ | refine Yg 28 ?_); refine Yj 29 ?_; refine Zv ?_)
   all_goals (repeat' (first | refine zV ?_ | (refine YL ?_; refine ZB rfl rfl (fun hb => ?_) (fun hb => ?_) <;> (try simp only [decide_eq_true_eq, decide_eq_false_iff_not, Bool.not_eq_true, Bool.not_eq_false, beq_iff_eq, bne_iff_ne, ne_eq, decide_eq_decide, Bool.not_eq_eq_eq_not, Bool.not_true, Bool.not_false, beq_eq_false_iff_ne, bne_eq_false_iff_eq, Bool.and_eq_true, Bool.or_eq_true, Bool.and_eq_false_imp, Bool.or_eq_false_iff, bq2, bqt, bqf] at hb)) | (refine ZS ?_; refine ZM rfl (fun hb => ?_) (fun hb => ?_) <;> (try simp only [decide_eq_true_eq, decide_eq_false_iff_not, Bool.not_eq_true, Bool.not_eq_false, beq_iff_eq, bne_iff_ne, ne_eq, decide_eq_decide, Bool.not_eq_eq_eq_not, Bool.not_true, Bool.not_false, beq_eq_false_iff_ne, bne_eq_false_iff_eq, Bool.and_eq_true, Bool.or_eq_true, Bool.and_eq_false_imp, Bool.or_eq_false_iff, bq2, bqt, bqf] at hb)) | intro _))
   all_goals (try (rw [hfin (by rw [hw]; (first | (simp [*]; done) | (simp [*]; omega) | (simp_all; done) | (simp_all; omega)))]; refine qF (L' := []) ?_; exact ⟨by first | rfl | rw [Bool.and_false], rfl, rfl⟩))
   all_goals rw [← e1]
   all_goals refine Zg (k + 1) (⟨hlt, by rw [hs, hw]; (first | (simp [*]; done) | (simp [*]; omega) | (simp_all; done) | (simp_all; omega))⟩) Ze Ze rfl tk inferInstance (by first | omega | (dsimp only; omega))
 ·have hk2 : k = mo := by omega
  rw [hk2] at hok
  rw [hok]
  repeat' (first | refine zV ?_ | (refine YL ?_; refine ZB rfl rfl (fun hb => ?_) (fun hb => ?_) <;> (try simp only [decide_eq_true_eq, decide_eq_false_iff_not, Bool.not_eq_true, Bool.not_eq_false, beq_iff_eq, bne_iff_ne, ne_eq, decide_eq_decide, Bool.not_eq_eq_eq_not, Bool.not_true, Bool.not_false, beq_eq_false_iff_ne, bne_eq_false_iff_eq, Bool.and_eq_true, Bool.or_eq_true, Bool.and_eq_false_imp, Bool.or_eq_false_iff, bq2, bqt, bqf] at hb)) | (refine ZS ?_; refine ZM rfl (fun hb => ?_) (fun hb => ?_) <;> (try simp only [decide_eq_true_eq, decide_eq_false_iff_not, Bool.not_eq_true, Bool.not_eq_false, beq_iff_eq, bne_iff_ne, ne_eq, decide_eq_decide, Bool.not_eq_eq_eq_not, Bool.not_true, Bool.not_false, beq_eq_false_iff_ne, bne_eq_false_iff_eq, Bool.and_eq_true, Bool.or_eq_true, Bool.and_eq_false_imp, Bool.or_eq_false_iff, bq2, bqt, bqf] at hb)) | intro _)
  all_goals (refine qF (L' := []) ?_; exact ⟨rfl, rfl, rfl⟩)
theorem txns12_spec (ρ : Hp) (s : SV) (l : List CkT) (h : AS ρ 5 XU s l) (lsn : Nat) (next : Int)  :
  Spec Tryz.prog 70 [.slice s.a s.n s.c, .int .u64 lsn, .int .i64 next] ρ [] (fun z ρ' L' => z = .bool (decide (l.length ≤ 8) && upB (ckTOk lsn next) CkT.txn l l.length) ∧ ρ' = ρ ∧ L' = []) := by
 have hl := h.at'.len
 have hn := h.big
 have hA := h.at'
 generalize hR : (ckTOk lsn next) = rt
 unfold upB
 generalize hm : l.length = mo
 have hrt : ∀ x, rt x = (ckTOk lsn next) x := fun x => by rw [hR]
 refine Zd Tryz.func70 rfl rfl rfl fun u R => ?_
 simp only [Zo, List.cons_append, List.nil_append]
 repeat' (first | refine zV ?_ | intro _)
 refine Zq [(0, _), (1, _), (2, _), (9, _), (10, _)] (fun (ζ : (Nat)) => [(11, .int .i64 ζ), (6, .bool false)]) (fun (ζ : (Nat)) => ρ) (fun (ζ : (Nat)) => []) (fun (ζ : (Nat)) => ζ ≤ s.n ∧ ZC mo (fun _ x => rt x) (fun y x => decide (CkT.txn y < CkT.txn x)) l ζ = true) (fun (ζ : (Nat)) => s.n - ζ) (0) (⟨Nat.zero_le _, by rw [ZC]; simp [hm]⟩) Ze Ze rfl tk ?_
 rintro k hI
 try simp only [List.cons_append, List.nil_append, List.append_assoc, List.append_eq] at hI ⊢
 try dsimp only at hI ⊢
 obtain ⟨hk, hok⟩ := hI
 by_cases hlt : k < s.n
 ·obtain ⟨b, off, C, T, fr, e1, hb0, hfit, hc⟩ := hA.get (show k < l.length by omega)
  have hs := YK (most := mo) (right := fun _ x => rt x) (lt := fun y x => decide (CkT.txn y < CkT.txn x)) (show k < l.length by omega)
  have hfin0 := fun (e : ZC mo (fun _ x => rt x) (fun y x => decide (CkT.txn y < CkT.txn x)) l (k + 1) = false) => YF e (show k + 1 ≤ mo by omega)
  rw [hok, Bool.true_and] at hs
  have hw := hrt l[k]
  skip
  rw [e1]
  by_cases hk0 : k = 0
  ·have hfin : (rt l[k] && (decide (k = 0) || decide (CkT.txn (l[k - 1]'(by omega)) < CkT.txn l[k]))) = false → ZC mo (fun _ x => rt x) (fun y x => decide (CkT.txn y < CkT.txn x)) l mo = false := fun e => hfin0 (by rw [hs]; exact e)
   rw [decide_eq_true hk0, Bool.true_or, Bool.and_true] at hs hfin
   generalize l[k] = x at *
   unfold ckTOk at hw
   generalize hQQ : ZC mo (fun _ x => rt x) (fun y x => decide (CkT.txn y < CkT.txn x)) l mo = q at *
   clear hfin0 hrt hR
   repeat' (first | refine zV ?_ | intro _)
   refine Zu (Zk _ _ _) Zp ?_
   all_goals (refine ZN 0 ?_; refine Zz ?_; refine ZQ 1 ?_; refine rCm 2 ?_; refine Zx 3 ?_)
   all_goals (first | refine Zb 4 ?_ | refine Za 4 ?_ | refine ZE 4 ?_ | (refine Zn (t := 19) rfl (fun hb => ?_) (fun hb => ?_) <;> (try simp only [kk] at hb) <;> first | refine Zb 4 ?_ | refine Za 4 ?_ | refine ZE 4 ?_))
   all_goals ((first | refine Zb 5 ?_ | refine Za 5 ?_ | refine ZL 5 ?_); (first | refine Zb 6 ?_ | refine Za 6 ?_ | refine ZI 6 ?_); (first | refine Zb 7 ?_ | refine Za 7 ?_ | refine Yg 7 ?_); refine Yj 8 ?_; refine Zx 9 ?_)
   all_goals (first | refine Zb 10 ?_ | refine Za 10 ?_ | refine ZI 10 ?_ | (refine Zn (t := 25) rfl (fun hb => ?_) (fun hb => ?_) <;> (try simp only [kk] at hb) <;> first | refine Zb 10 ?_ | refine Za 10 ?_ | refine ZI 10 ?_))
   all_goals ((first | refine Zb 11 ?_ | refine Za 11 ?_ | refine Yg 11 ?_); (first | refine Zb 12 ?_ | refine Za 12 ?_ | refine ZI 12 ?_))
   all_goals (first | refine Zb 13 ?_ | refine Za 13 ?_ | refine ZI 13 ?_ | (refine Zn (t := 28) rfl (fun hb => ?_) (fun hb => ?_) <;> (try simp only [kk] at hb) <;> first | refine Zb 13 ?_ | refine Za 13 ?_ | refine ZI 13 ?_))
   all_goals ((first | refine Zb 14 ?_ | refine Za 14 ?_ | refine ZI 14 ?_); (first | refine Zb 15 ?_ | refine Za 15 ?_ | refine wSb 15 ?_); (first | refine Zb 16 ?_ | refine Za 16 ?_ | refine wIa 16 ?_); (first | refine Zb 17 ?_ | refine Za 17 ?_ | refine ZE 17 ?_); (first | refine Zb 18 ?_ | refine Za 18 ?_ | refine ZL 18 ?_); (first | refine Zb 19 ?_ | refine Za 19 ?_ | refine ZE 19 ?_); (first | refine Zb 20 ?_ | refine Za 20 ?_ | refine ZL 20 ?_); (first | refine Zb 21 ?_ | refine Za 21 ?_ | refine Yg 21 ?_); (first | refine Zb 22 ?_ | refine Za 22 ?_ | refine wPk 22 ?_); refine Yj 23 ?_; refine Zx 24 ?_)
   all_goals (first | refine Zb 25 ?_ | refine Za 25 ?_ | refine ZE 25 ?_ | (refine Zn (t := 40) rfl (fun hb => ?_) (fun hb => ?_) <;> (try simp only [kk] at hb) <;> first | refine Zb 25 ?_ | refine Za 25 ?_ | refine ZE 25 ?_))
   all_goals ((first | refine Zb 26 ?_ | refine Za 26 ?_ | refine ZL 26 ?_); (first | refine Zb 27 ?_ | refine Za 27 ?_ | refine Yg 27 ?_); refine Yj 28 ?_; refine Zx 29 ?_)
   all_goals (first | refine Zb 30 ?_ | refine Za 30 ?_ | refine ZE 30 ?_ | (refine Zn (t := 45) rfl (fun hb => ?_) (fun hb => ?_) <;> (try simp only [kk] at hb) <;> first | refine Zb 30 ?_ | refine Za 30 ?_ | refine ZE 30 ?_))
   all_goals ((first | refine Zb 31 ?_ | refine Za 31 ?_ | refine ZL 31 ?_); (first | refine Zb 32 ?_ | refine Za 32 ?_ | refine ZE 32 ?_); (first | refine Zb 33 ?_ | refine Za 33 ?_ | refine ZL 33 ?_); (first | refine Zb 34 ?_ | refine Za 34 ?_ | refine Yg 34 ?_); refine Yj 35 ?_; refine Zx 36 ?_)
   all_goals (first | refine Zb 37 ?_ | refine Za 37 ?_ | refine ZE 37 ?_ | (refine Zn (t := 52) rfl (fun hb => ?_) (fun hb => ?_) <;> (try simp only [kk] at hb) <;> first | refine Zb 37 ?_ | refine Za 37 ?_ | refine ZE 37 ?_))
   all_goals ((first | refine Zb 38 ?_ | refine Za 38 ?_ | refine ZL 38 ?_); (first | refine Zb 39 ?_ | refine Za 39 ?_ | refine ZI 39 ?_); (first | refine Zb 40 ?_ | refine Za 40 ?_ | refine Yg 40 ?_); refine Yj 41 ?_; refine Zx 42 ?_)
   all_goals (first | refine Zb 43 ?_ | refine Za 43 ?_ | refine ZE 43 ?_ | (refine Zn (t := 58) rfl (fun hb => ?_) (fun hb => ?_) <;> (try simp only [kk] at hb) <;> first | refine Zb 43 ?_ | refine Za 43 ?_ | refine ZE 43 ?_))
   all_goals ((first | refine Zb 44 ?_ | refine Za 44 ?_ | refine ZL 44 ?_); (first | refine Zb 45 ?_ | refine Za 45 ?_ | refine ZE 45 ?_); (first | refine Zb 46 ?_ | refine Za 46 ?_ | refine ZL 46 ?_); (first | refine Zb 47 ?_ | refine Za 47 ?_ | refine Yg 47 ?_); refine Yj 48 ?_; refine Zx 49 ?_)
   all_goals (first | refine Zb 50 ?_ | refine Za 50 ?_ | refine ZE 50 ?_ | (refine Zn (t := 65) rfl (fun hb => ?_) (fun hb => ?_) <;> (try simp only [kk] at hb) <;> first | refine Zb 50 ?_ | refine Za 50 ?_ | refine ZE 50 ?_))
   all_goals ((first | refine Zb 51 ?_ | refine Za 51 ?_ | refine ZL 51 ?_); (first | refine Zb 52 ?_ | refine Za 52 ?_ | refine Yg 52 ?_); refine Yj 53 ?_; refine Zx 54 ?_)
   all_goals (first | refine Zb 55 ?_ | refine Za 55 ?_ | refine ZE 55 ?_ | (refine Zn (t := 70) rfl (fun hb => ?_) (fun hb => ?_) <;> (try simp only [kk] at hb) <;> first | refine Zb 55 ?_ | refine Za 55 ?_ | refine ZE 55 ?_))
   all_goals ((first | refine Zb 56 ?_ | refine Za 56 ?_ | refine ZL 56 ?_); (first | refine Zb 57 ?_ | refine Za 57 ?_ | refine Yg 57 ?_); refine Yj 58 ?_; refine Zv ?_)
   all_goals (repeat' (first | refine zV ?_ | (refine YL ?_; refine ZB rfl rfl (fun hb => ?_) (fun hb => ?_) <;> (try simp only [decide_eq_true_eq, decide_eq_false_iff_not, Bool.not_eq_true, Bool.not_eq_false, beq_iff_eq, bne_iff_ne, ne_eq, decide_eq_decide, Bool.not_eq_eq_eq_not, Bool.not_true, Bool.not_false, beq_eq_false_iff_ne, bne_eq_false_iff_eq, Bool.and_eq_true, Bool.or_eq_true, Bool.and_eq_false_imp, Bool.or_eq_false_iff, bq2, bqt, bqf] at hb)) | (refine ZS ?_; refine ZM rfl (fun hb => ?_) (fun hb => ?_) <;> (try simp only [decide_eq_true_eq, decide_eq_false_iff_not, Bool.not_eq_true, Bool.not_eq_false, beq_iff_eq, bne_iff_ne, ne_eq, decide_eq_decide, Bool.not_eq_eq_eq_not, Bool.not_true, Bool.not_false, beq_eq_false_iff_ne, bne_eq_false_iff_eq, Bool.and_eq_true, Bool.or_eq_true, Bool.and_eq_false_imp, Bool.or_eq_false_iff, bq2, bqt, bqf] at hb)) | intro _))
   all_goals (try (rw [hfin (by rw [hw]; (first | (simp [*]; done) | (simp [*]; omega) | (simp_all; done) | (simp_all; omega)))]; refine qF (L' := []) ?_; exact ⟨by first | rfl | rw [Bool.and_false], rfl, rfl⟩))
   all_goals rw [← e1]
   all_goals refine Zg (k + 1) (⟨hlt, by rw [hs, hw]; (first | (simp [*]; done) | (simp [*]; omega) | (simp_all; done) | (simp_all; omega))⟩) Ze Ze rfl tk inferInstance (by first | omega | (dsimp only; omega))
  ·have hd : decide (k = 0) = false := decide_eq_false hk0
   obtain ⟨b2, off2, C2, T2, fr2, f1, hb2, hfit2, hc2⟩ := hA.get (show k - 1 < l.length by omega)
   rw [e1] at f1
   cases f1
   rw [hb0] at hb2
   cases hb2
   have ek : ((k : Int) - 1).toNat = k - 1 := by omega
   have hfin : (rt l[k] && (decide (k = 0) || decide (CkT.txn (l[k - 1]'(by omega)) < CkT.txn l[k]))) = false → ZC mo (fun _ x => rt x) (fun y x => decide (CkT.txn y < CkT.txn x)) l mo = false := fun e => hfin0 (by rw [hs]; exact e)
   rw [hd, Bool.false_or] at hs hfin
   have hcy : C[off + ((k : Int) - 1).toNat * 5]? = some (.int .i64 (CkT.txn (l[k - 1]'(by omega)))) := by
    have := congrArg (fun l => l[0]?) hc2
    rw [ek]
    simp only [List.getElem?_take, List.getElem?_drop] at this
    simpa using this
   clear hc2 hfit2
   generalize l[k] = x at *
   generalize l[k - 1]'(by omega) = y at *
   unfold ckTOk at hw
   generalize hQQ : ZC mo (fun _ x => rt x) (fun y x => decide (CkT.txn y < CkT.txn x)) l mo = q at *
   clear hfin0 hrt hR
   repeat' (first | refine zV ?_ | intro _)
   refine Zu (Zk _ _ _) Zp ?_
   all_goals (refine ZN 0 ?_; refine Zz ?_; refine ZQ 1 ?_; refine rCm 2 ?_; refine Zx 3 ?_)
   all_goals (first | refine Zb 4 ?_ | refine Za 4 ?_ | refine ZE 4 ?_ | (refine Zn (t := 19) rfl (fun hb => ?_) (fun hb => ?_) <;> (try simp only [kk] at hb) <;> first | refine Zb 4 ?_ | refine Za 4 ?_ | refine ZE 4 ?_))
   all_goals ((first | refine Zb 5 ?_ | refine Za 5 ?_ | refine ZL 5 ?_); (first | refine Zb 6 ?_ | refine Za 6 ?_ | refine ZI 6 ?_); (first | refine Zb 7 ?_ | refine Za 7 ?_ | refine Yg 7 ?_); refine Yj 8 ?_; refine Zx 9 ?_)
   all_goals (first | refine Zb 10 ?_ | refine Za 10 ?_ | refine ZI 10 ?_ | (refine Zn (t := 25) rfl (fun hb => ?_) (fun hb => ?_) <;> (try simp only [kk] at hb) <;> first | refine Zb 10 ?_ | refine Za 10 ?_ | refine ZI 10 ?_))
   all_goals ((first | refine Zb 11 ?_ | refine Za 11 ?_ | refine Yg 11 ?_); (first | refine Zb 12 ?_ | refine Za 12 ?_ | refine ZI 12 ?_))
   all_goals (first | refine Zb 13 ?_ | refine Za 13 ?_ | refine ZI 13 ?_ | (refine Zn (t := 28) rfl (fun hb => ?_) (fun hb => ?_) <;> (try simp only [kk] at hb) <;> first | refine Zb 13 ?_ | refine Za 13 ?_ | refine ZI 13 ?_))
   all_goals ((first | refine Zb 14 ?_ | refine Za 14 ?_ | refine ZI 14 ?_); (first | refine Zb 15 ?_ | refine Za 15 ?_ | refine wSb 15 ?_); (first | refine Zb 16 ?_ | refine Za 16 ?_ | refine wIa 16 ?_); (first | refine Zb 17 ?_ | refine Za 17 ?_ | refine ZE 17 ?_); (first | refine Zb 18 ?_ | refine Za 18 ?_ | refine ZL 18 ?_); (first | refine Zb 19 ?_ | refine Za 19 ?_ | refine ZE 19 ?_); (first | refine Zb 20 ?_ | refine Za 20 ?_ | refine ZL 20 ?_); (first | refine Zb 21 ?_ | refine Za 21 ?_ | refine Yg 21 ?_); (first | refine Zb 22 ?_ | refine Za 22 ?_ | refine wPk 22 ?_); refine Yj 23 ?_; refine Zx 24 ?_)
   all_goals (first | refine Zb 25 ?_ | refine Za 25 ?_ | refine ZE 25 ?_ | (refine Zn (t := 40) rfl (fun hb => ?_) (fun hb => ?_) <;> (try simp only [kk] at hb) <;> first | refine Zb 25 ?_ | refine Za 25 ?_ | refine ZE 25 ?_))
   all_goals ((first | refine Zb 26 ?_ | refine Za 26 ?_ | refine ZL 26 ?_); (first | refine Zb 27 ?_ | refine Za 27 ?_ | refine Yg 27 ?_); refine Yj 28 ?_; refine Zx 29 ?_)
   all_goals (first | refine Zb 30 ?_ | refine Za 30 ?_ | refine ZE 30 ?_ | (refine Zn (t := 45) rfl (fun hb => ?_) (fun hb => ?_) <;> (try simp only [kk] at hb) <;> first | refine Zb 30 ?_ | refine Za 30 ?_ | refine ZE 30 ?_))
   all_goals ((first | refine Zb 31 ?_ | refine Za 31 ?_ | refine ZL 31 ?_); (first | refine Zb 32 ?_ | refine Za 32 ?_ | refine ZE 32 ?_); (first | refine Zb 33 ?_ | refine Za 33 ?_ | refine ZL 33 ?_); (first | refine Zb 34 ?_ | refine Za 34 ?_ | refine Yg 34 ?_); refine Yj 35 ?_; refine Zx 36 ?_)
   all_goals (first | refine Zb 37 ?_ | refine Za 37 ?_ | refine ZE 37 ?_ | (refine Zn (t := 52) rfl (fun hb => ?_) (fun hb => ?_) <;> (try simp only [kk] at hb) <;> first | refine Zb 37 ?_ | refine Za 37 ?_ | refine ZE 37 ?_))
   all_goals ((first | refine Zb 38 ?_ | refine Za 38 ?_ | refine ZL 38 ?_); (first | refine Zb 39 ?_ | refine Za 39 ?_ | refine ZI 39 ?_); (first | refine Zb 40 ?_ | refine Za 40 ?_ | refine Yg 40 ?_); refine Yj 41 ?_; refine Zx 42 ?_)
   all_goals (first | refine Zb 43 ?_ | refine Za 43 ?_ | refine ZE 43 ?_ | (refine Zn (t := 58) rfl (fun hb => ?_) (fun hb => ?_) <;> (try simp only [kk] at hb) <;> first | refine Zb 43 ?_ | refine Za 43 ?_ | refine ZE 43 ?_))
   all_goals ((first | refine Zb 44 ?_ | refine Za 44 ?_ | refine ZL 44 ?_); (first | refine Zb 45 ?_ | refine Za 45 ?_ | refine ZE 45 ?_); (first | refine Zb 46 ?_ | refine Za 46 ?_ | refine ZL 46 ?_); (first | refine Zb 47 ?_ | refine Za 47 ?_ | refine Yg 47 ?_); refine Yj 48 ?_; refine Zx 49 ?_)
   all_goals (first | refine Zb 50 ?_ | refine Za 50 ?_ | refine ZE 50 ?_ | (refine Zn (t := 65) rfl (fun hb => ?_) (fun hb => ?_) <;> (try simp only [kk] at hb) <;> first | refine Zb 50 ?_ | refine Za 50 ?_ | refine ZE 50 ?_))
   all_goals ((first | refine Zb 51 ?_ | refine Za 51 ?_ | refine ZL 51 ?_); (first | refine Zb 52 ?_ | refine Za 52 ?_ | refine Yg 52 ?_); refine Yj 53 ?_; refine Zx 54 ?_)
   all_goals (first | refine Zb 55 ?_ | refine Za 55 ?_ | refine ZE 55 ?_ | (refine Zn (t := 70) rfl (fun hb => ?_) (fun hb => ?_) <;> (try simp only [kk] at hb) <;> first | refine Zb 55 ?_ | refine Za 55 ?_ | refine ZE 55 ?_))
   all_goals ((first | refine Zb 56 ?_ | refine Za 56 ?_ | refine ZL 56 ?_); (first | refine Zb 57 ?_ | refine Za 57 ?_ | refine Yg 57 ?_); refine Yj 58 ?_; refine Zv ?_)
   all_goals (repeat' (first | refine zV ?_ | (refine YL ?_; refine ZB rfl rfl (fun hb => ?_) (fun hb => ?_) <;> (try simp only [decide_eq_true_eq, decide_eq_false_iff_not, Bool.not_eq_true, Bool.not_eq_false, beq_iff_eq, bne_iff_ne, ne_eq, decide_eq_decide, Bool.not_eq_eq_eq_not, Bool.not_true, Bool.not_false, beq_eq_false_iff_ne, bne_eq_false_iff_eq, Bool.and_eq_true, Bool.or_eq_true, Bool.and_eq_false_imp, Bool.or_eq_false_iff, bq2, bqt, bqf] at hb)) | (refine ZS ?_; refine ZM rfl (fun hb => ?_) (fun hb => ?_) <;> (try simp only [decide_eq_true_eq, decide_eq_false_iff_not, Bool.not_eq_true, Bool.not_eq_false, beq_iff_eq, bne_iff_ne, ne_eq, decide_eq_decide, Bool.not_eq_eq_eq_not, Bool.not_true, Bool.not_false, beq_eq_false_iff_ne, bne_eq_false_iff_eq, Bool.and_eq_true, Bool.or_eq_true, Bool.and_eq_false_imp, Bool.or_eq_false_iff, bq2, bqt, bqf] at hb)) | intro _))
   all_goals (try (rw [hfin (by rw [hw]; (first | (simp [*]; done) | (simp [*]; omega) | (simp_all; done) | (simp_all; omega)))]; refine qF (L' := []) ?_; exact ⟨by first | rfl | rw [Bool.and_false], rfl, rfl⟩))
   all_goals rw [← e1]
   all_goals refine Zg (k + 1) (⟨hlt, by rw [hs, hw]; (first | (simp [*]; done) | (simp [*]; omega) | (simp_all; done) | (simp_all; omega))⟩) Ze Ze rfl tk inferInstance (by first | omega | (dsimp only; omega))
 ·have hk2 : k = mo := by omega
  rw [hk2] at hok
  rw [hok]
  repeat' (first | refine zV ?_ | (refine YL ?_; refine ZB rfl rfl (fun hb => ?_) (fun hb => ?_) <;> (try simp only [decide_eq_true_eq, decide_eq_false_iff_not, Bool.not_eq_true, Bool.not_eq_false, beq_iff_eq, bne_iff_ne, ne_eq, decide_eq_decide, Bool.not_eq_eq_eq_not, Bool.not_true, Bool.not_false, beq_eq_false_iff_ne, bne_eq_false_iff_eq, Bool.and_eq_true, Bool.or_eq_true, Bool.and_eq_false_imp, Bool.or_eq_false_iff, bq2, bqt, bqf] at hb)) | (refine ZS ?_; refine ZM rfl (fun hb => ?_) (fun hb => ?_) <;> (try simp only [decide_eq_true_eq, decide_eq_false_iff_not, Bool.not_eq_true, Bool.not_eq_false, beq_iff_eq, bne_iff_ne, ne_eq, decide_eq_decide, Bool.not_eq_eq_eq_not, Bool.not_true, Bool.not_false, beq_eq_false_iff_ne, bne_eq_false_iff_eq, Bool.and_eq_true, Bool.or_eq_true, Bool.and_eq_false_imp, Bool.or_eq_false_iff, bq2, bqt, bqf] at hb)) | intro _)
  all_goals (refine qF (L' := []) ?_; exact ⟨Ym (by (try simp [*]); first | done | omega | (intros; omega) | (constructor <;> intros <;> (try simp_all) <;> omega)), rfl, rfl⟩)
theorem images12_spec (ρ : Hp) (s : SV) (l : List Im) (h : AS ρ 7 imV s l) (before : Bool) (him : ∀ x ∈ l, Im.In ρ x) :
  Spec Tryz.prog 68 [.slice s.a s.n s.c, .bool before] ρ [] (fun z ρ' L' => z = .bool (decide (l.length ≤ 16) && upB (imOk before) Im.page l l.length) ∧ ρ' = ρ ∧ L' = []) := by
 have hl := h.at'.len
 have hn := h.big
 have hA := h.at'
 generalize hR : (imOk before) = rt
 unfold upB
 generalize hm : l.length = mo
 have hrt : ∀ x, rt x = (imOk before) x := fun x => by rw [hR]
 refine Zd Tryz.func68 rfl rfl rfl fun u R => ?_
 simp only [Zo, List.cons_append, List.nil_append]
 repeat' (first | refine zV ?_ | intro _)
 refine Zq [(0, _), (1, _), (7, _), (8, _)] (fun (ζ : (Nat)) => [(9, .int .i64 ζ), (4, .bool false)]) (fun (ζ : (Nat)) => ρ) (fun (ζ : (Nat)) => []) (fun (ζ : (Nat)) => ζ ≤ s.n ∧ ZC mo (fun _ x => rt x) (fun y x => decide (Im.page y < Im.page x)) l ζ = true) (fun (ζ : (Nat)) => s.n - ζ) (0) (⟨Nat.zero_le _, by rw [ZC]; simp [hm]⟩) Ze Ze rfl tk ?_
 rintro k hI
 try simp only [List.cons_append, List.nil_append, List.append_assoc, List.append_eq] at hI ⊢
 try dsimp only at hI ⊢
 obtain ⟨hk, hok⟩ := hI
 by_cases hlt : k < s.n
 ·obtain ⟨b, off, C, T, fr, e1, hb0, hfit, hc⟩ := hA.get (show k < l.length by omega)
  have hs := YK (most := mo) (right := fun _ x => rt x) (lt := fun y x => decide (Im.page y < Im.page x)) (show k < l.length by omega)
  have hfin0 := fun (e : ZC mo (fun _ x => rt x) (fun y x => decide (Im.page y < Im.page x)) l (k + 1) = false) => YF e (show k + 1 ≤ mo by omega)
  rw [hok, Bool.true_and] at hs
  have hw := hrt l[k]
  have him1 := him _ (List.getElem_mem (show k < l.length by omega))
  rw [e1]
  by_cases hk0 : k = 0
  ·have hfin : (rt l[k] && (decide (k = 0) || decide (Im.page (l[k - 1]'(by omega)) < Im.page l[k]))) = false → ZC mo (fun _ x => rt x) (fun y x => decide (Im.page y < Im.page x)) l mo = false := fun e => hfin0 (by rw [hs]; exact e)
   rw [decide_eq_true hk0, Bool.true_or, Bool.and_true] at hs hfin
   generalize l[k] = x at *
   (unfold imOk at hw); have hra := right_spec ρ x.av x.a him1.a.cin (fun r hr => (him1.a.row r hr).id) him1.a.kid; have hrb := right_spec ρ x.bv x.b him1.b.cin (fun r hr => (him1.b.row r hr).id) him1.b.kid
   generalize hQQ : ZC mo (fun _ x => rt x) (fun y x => decide (Im.page y < Im.page x)) l mo = q at *
   clear hfin0 hrt hR
   repeat' (first | refine zV ?_ | intro _)
   refine Zu (Zk _ _ _) Zp ?_
   all_goals (refine ZN 0 ?_; refine ZQ 1 ?_)
   all_goals (refine Zj (i := 2) ?_; ((try refine Zh ?_); (first | (refine Zc (.func 123) ?_; refine qC rfl rfl (rpage12_spec _ _) ?_; rintro v ρ' L' hle ⟨rfl, rfl, rfl⟩ <;> (try simp only [kM, kN, kO])) | (refine ZF ?_; try intro _)) <;> ((try simp only [kM, kN, kO]); refine Zf ?_; refine Zi ?_)))
   all_goals (refine rUn 3 ?_; refine Zx 4 ?_)
   all_goals (first | refine Zb 5 ?_ | refine Za 5 ?_ | refine ZI 5 ?_ | (refine Zn (t := 18) rfl (fun hb => ?_) (fun hb => ?_) <;> (try simp only [kk] at hb) <;> first | refine Zb 5 ?_ | refine Za 5 ?_ | refine ZI 5 ?_))
   all_goals ((first | refine Zb 6 ?_ | refine Za 6 ?_ | refine Yg 6 ?_); (first | refine Zb 7 ?_ | refine Za 7 ?_ | refine ZI 7 ?_))
   all_goals (first | refine Zb 8 ?_ | refine Za 8 ?_ | refine ZI 8 ?_ | (refine Zn (t := 21) rfl (fun hb => ?_) (fun hb => ?_) <;> (try simp only [kk] at hb) <;> first | refine Zb 8 ?_ | refine Za 8 ?_ | refine ZI 8 ?_))
   all_goals ((first | refine Zb 9 ?_ | refine Za 9 ?_ | refine ZI 9 ?_); (first | refine Zb 10 ?_ | refine Za 10 ?_ | refine wSb 10 ?_); (first | refine Zb 11 ?_ | refine Za 11 ?_ | refine wIa 11 ?_); (first | refine Zb 12 ?_ | refine Za 12 ?_ | refine ZE 12 ?_); (first | refine Zb 13 ?_ | refine Za 13 ?_ | refine ZL 13 ?_); (first | refine Zb 14 ?_ | refine Za 14 ?_ | refine ZE 14 ?_); (first | refine Zb 15 ?_ | refine Za 15 ?_ | refine ZL 15 ?_); (first | refine Zb 16 ?_ | refine Za 16 ?_ | refine Yg 16 ?_); (first | refine Zb 17 ?_ | refine Za 17 ?_ | refine wPk 17 ?_); refine Yj 18 ?_; refine Zx 19 ?_)
   all_goals (first | refine Zb 20 ?_ | refine Za 20 ?_ | refine ZE 20 ?_ | (refine Zn (t := 33) rfl (fun hb => ?_) (fun hb => ?_) <;> (try simp only [kk] at hb) <;> first | refine Zb 20 ?_ | refine Za 20 ?_ | refine ZE 20 ?_))
   all_goals (first | refine Zb 21 ?_ | refine Za 21 ?_ | refine ZL 21 ?_)
   all_goals (first | refine Zb 22 ?_ | refine Za 22 ?_ | (refine Zj (i := 22) ?_; ((try refine Zh ?_); (first | (refine Zc (.func 124) ?_; refine qC rfl rfl (hra) ?_; rintro v ρ' L' hle ⟨rfl, rfl, rfl⟩ <;> (try simp only [kM, kN, kO])) | (refine Zc (.func 124) ?_; refine qC rfl rfl (hrb) ?_; rintro v ρ' L' hle ⟨rfl, rfl, rfl⟩ <;> (try simp only [kM, kN, kO])) | (refine ZF ?_; try intro _)) <;> ((try simp only [kM, kN, kO]); refine Zf ?_; refine Zi ?_))))
   all_goals ((first | refine Zb 23 ?_ | refine Za 23 ?_ | refine wUn 23 ?_); refine Yj 24 ?_; refine Zx 25 ?_)
   all_goals (first | refine Zb 26 ?_ | refine Za 26 ?_ | refine ZE 26 ?_ | (refine Zn (t := 39) rfl (fun hb => ?_) (fun hb => ?_) <;> (try simp only [kk] at hb) <;> first | refine Zb 26 ?_ | refine Za 26 ?_ | refine ZE 26 ?_))
   all_goals (first | refine Zb 27 ?_ | refine Za 27 ?_ | refine ZL 27 ?_)
   all_goals (first | refine Zb 28 ?_ | refine Za 28 ?_ | (refine Zj (i := 28) ?_; ((try refine Zh ?_); (first | (refine Zc (.func 124) ?_; refine qC rfl rfl (hra) ?_; rintro v ρ' L' hle ⟨rfl, rfl, rfl⟩ <;> (try simp only [kM, kN, kO])) | (refine Zc (.func 124) ?_; refine qC rfl rfl (hrb) ?_; rintro v ρ' L' hle ⟨rfl, rfl, rfl⟩ <;> (try simp only [kM, kN, kO])) | (refine ZF ?_; try intro _)) <;> ((try simp only [kM, kN, kO]); refine Zf ?_; refine Zi ?_))))
   all_goals (refine Zz ?_; (first | refine Zb 29 ?_ | refine Za 29 ?_ | refine wUn 29 ?_); refine Yj 30 ?_; refine Zx 31 ?_)
   all_goals (first | refine Zb 32 ?_ | refine Za 32 ?_ | refine ZI 32 ?_ | (refine Zn (t := 45) rfl (fun hb => ?_) (fun hb => ?_) <;> (try simp only [kk] at hb) <;> first | refine Zb 32 ?_ | refine Za 32 ?_ | refine ZI 32 ?_))
   all_goals ((first | refine Zb 33 ?_ | refine Za 33 ?_ | refine wUn 33 ?_); (first | refine Zb 34 ?_ | refine Za 34 ?_ | refine ZI 34 ?_))
   all_goals (first | refine Zb 35 ?_ | refine Za 35 ?_ | refine ZE 35 ?_ | (refine Zn (t := 48) rfl (fun hb => ?_) (fun hb => ?_) <;> (try simp only [kk] at hb) <;> first | refine Zb 35 ?_ | refine Za 35 ?_ | refine ZE 35 ?_))
   all_goals ((first | refine Zb 36 ?_ | refine Za 36 ?_ | refine ZE 36 ?_); (first | refine Zb 37 ?_ | refine Za 37 ?_ | refine ZL 37 ?_); (first | refine Zb 38 ?_ | refine Za 38 ?_ | refine Yg 38 ?_); (first | refine Zb 39 ?_ | refine Za 39 ?_ | refine wPk 39 ?_); refine Yj 40 ?_; refine Zv ?_)
   all_goals (repeat' (first | refine zV ?_ | (refine YL ?_; refine ZB rfl rfl (fun hb => ?_) (fun hb => ?_) <;> (try simp only [decide_eq_true_eq, decide_eq_false_iff_not, Bool.not_eq_true, Bool.not_eq_false, beq_iff_eq, bne_iff_ne, ne_eq, decide_eq_decide, Bool.not_eq_eq_eq_not, Bool.not_true, Bool.not_false, beq_eq_false_iff_ne, bne_eq_false_iff_eq, Bool.and_eq_true, Bool.or_eq_true, Bool.and_eq_false_imp, Bool.or_eq_false_iff, bq2, bqt, bqf] at hb)) | (refine ZS ?_; refine ZM rfl (fun hb => ?_) (fun hb => ?_) <;> (try simp only [decide_eq_true_eq, decide_eq_false_iff_not, Bool.not_eq_true, Bool.not_eq_false, beq_iff_eq, bne_iff_ne, ne_eq, decide_eq_decide, Bool.not_eq_eq_eq_not, Bool.not_true, Bool.not_false, beq_eq_false_iff_ne, bne_eq_false_iff_eq, Bool.and_eq_true, Bool.or_eq_true, Bool.and_eq_false_imp, Bool.or_eq_false_iff, bq2, bqt, bqf] at hb)) | intro _))
   all_goals (try (rw [hfin (by rw [hw]; (first | (simp [*]; done) | (simp [*]; omega) | (simp_all; done) | (simp_all; omega)))]; refine qF (L' := []) ?_; exact ⟨by first | rfl | rw [Bool.and_false], rfl, rfl⟩))
   all_goals rw [← e1]
   all_goals refine Zg (k + 1) (⟨hlt, by rw [hs, hw]; (first | (simp [*]; done) | (simp [*]; omega) | (simp_all; done) | (simp_all; omega))⟩) Ze Ze rfl tk inferInstance (by first | omega | (dsimp only; omega))
  ·have hd : decide (k = 0) = false := decide_eq_false hk0
   obtain ⟨b2, off2, C2, T2, fr2, f1, hb2, hfit2, hc2⟩ := hA.get (show k - 1 < l.length by omega)
   rw [e1] at f1
   cases f1
   rw [hb0] at hb2
   cases hb2
   have ek : ((k : Int) - 1).toNat = k - 1 := by omega
   have hfin : (rt l[k] && (decide (k = 0) || decide (Im.page (l[k - 1]'(by omega)) < Im.page l[k]))) = false → ZC mo (fun _ x => rt x) (fun y x => decide (Im.page y < Im.page x)) l mo = false := fun e => hfin0 (by rw [hs]; exact e)
   rw [hd, Bool.false_or] at hs hfin
   have hcy : C[off + ((k : Int) - 1).toNat * 7]? = some (.int .i64 (Im.page (l[k - 1]'(by omega)))) := by
    have := congrArg (fun l => l[0]?) hc2
    rw [ek]
    simp only [List.getElem?_take, List.getElem?_drop] at this
    simpa using this
   clear hc2 hfit2
   generalize l[k] = x at *
   generalize l[k - 1]'(by omega) = y at *
   (unfold imOk at hw); have hra := right_spec ρ x.av x.a him1.a.cin (fun r hr => (him1.a.row r hr).id) him1.a.kid; have hrb := right_spec ρ x.bv x.b him1.b.cin (fun r hr => (him1.b.row r hr).id) him1.b.kid
   generalize hQQ : ZC mo (fun _ x => rt x) (fun y x => decide (Im.page y < Im.page x)) l mo = q at *
   clear hfin0 hrt hR
   repeat' (first | refine zV ?_ | intro _)
   refine Zu (Zk _ _ _) Zp ?_
   all_goals (refine ZN 0 ?_; refine ZQ 1 ?_)
   all_goals (refine Zj (i := 2) ?_; ((try refine Zh ?_); (first | (refine Zc (.func 123) ?_; refine qC rfl rfl (rpage12_spec _ _) ?_; rintro v ρ' L' hle ⟨rfl, rfl, rfl⟩ <;> (try simp only [kM, kN, kO])) | (refine ZF ?_; try intro _)) <;> ((try simp only [kM, kN, kO]); refine Zf ?_; refine Zi ?_)))
   all_goals (refine rUn 3 ?_; refine Zx 4 ?_)
   all_goals (first | refine Zb 5 ?_ | refine Za 5 ?_ | refine ZI 5 ?_ | (refine Zn (t := 18) rfl (fun hb => ?_) (fun hb => ?_) <;> (try simp only [kk] at hb) <;> first | refine Zb 5 ?_ | refine Za 5 ?_ | refine ZI 5 ?_))
   all_goals ((first | refine Zb 6 ?_ | refine Za 6 ?_ | refine Yg 6 ?_); (first | refine Zb 7 ?_ | refine Za 7 ?_ | refine ZI 7 ?_))
   all_goals (first | refine Zb 8 ?_ | refine Za 8 ?_ | refine ZI 8 ?_ | (refine Zn (t := 21) rfl (fun hb => ?_) (fun hb => ?_) <;> (try simp only [kk] at hb) <;> first | refine Zb 8 ?_ | refine Za 8 ?_ | refine ZI 8 ?_))
   all_goals ((first | refine Zb 9 ?_ | refine Za 9 ?_ | refine ZI 9 ?_); (first | refine Zb 10 ?_ | refine Za 10 ?_ | refine wSb 10 ?_); (first | refine Zb 11 ?_ | refine Za 11 ?_ | refine wIa 11 ?_); (first | refine Zb 12 ?_ | refine Za 12 ?_ | refine ZE 12 ?_); (first | refine Zb 13 ?_ | refine Za 13 ?_ | refine ZL 13 ?_); (first | refine Zb 14 ?_ | refine Za 14 ?_ | refine ZE 14 ?_); (first | refine Zb 15 ?_ | refine Za 15 ?_ | refine ZL 15 ?_); (first | refine Zb 16 ?_ | refine Za 16 ?_ | refine Yg 16 ?_); (first | refine Zb 17 ?_ | refine Za 17 ?_ | refine wPk 17 ?_); refine Yj 18 ?_; refine Zx 19 ?_)
   all_goals (first | refine Zb 20 ?_ | refine Za 20 ?_ | refine ZE 20 ?_ | (refine Zn (t := 33) rfl (fun hb => ?_) (fun hb => ?_) <;> (try simp only [kk] at hb) <;> first | refine Zb 20 ?_ | refine Za 20 ?_ | refine ZE 20 ?_))
   all_goals (first | refine Zb 21 ?_ | refine Za 21 ?_ | refine ZL 21 ?_)
   all_goals (first | refine Zb 22 ?_ | refine Za 22 ?_ | (refine Zj (i := 22) ?_; ((try refine Zh ?_); (first | (refine Zc (.func 124) ?_; refine qC rfl rfl (hra) ?_; rintro v ρ' L' hle ⟨rfl, rfl, rfl⟩ <;> (try simp only [kM, kN, kO])) | (refine Zc (.func 124) ?_; refine qC rfl rfl (hrb) ?_; rintro v ρ' L' hle ⟨rfl, rfl, rfl⟩ <;> (try simp only [kM, kN, kO])) | (refine ZF ?_; try intro _)) <;> ((try simp only [kM, kN, kO]); refine Zf ?_; refine Zi ?_))))
   all_goals ((first | refine Zb 23 ?_ | refine Za 23 ?_ | refine wUn 23 ?_); refine Yj 24 ?_; refine Zx 25 ?_)
   all_goals (first | refine Zb 26 ?_ | refine Za 26 ?_ | refine ZE 26 ?_ | (refine Zn (t := 39) rfl (fun hb => ?_) (fun hb => ?_) <;> (try simp only [kk] at hb) <;> first | refine Zb 26 ?_ | refine Za 26 ?_ | refine ZE 26 ?_))
   all_goals (first | refine Zb 27 ?_ | refine Za 27 ?_ | refine ZL 27 ?_)
   all_goals (first | refine Zb 28 ?_ | refine Za 28 ?_ | (refine Zj (i := 28) ?_; ((try refine Zh ?_); (first | (refine Zc (.func 124) ?_; refine qC rfl rfl (hra) ?_; rintro v ρ' L' hle ⟨rfl, rfl, rfl⟩ <;> (try simp only [kM, kN, kO])) | (refine Zc (.func 124) ?_; refine qC rfl rfl (hrb) ?_; rintro v ρ' L' hle ⟨rfl, rfl, rfl⟩ <;> (try simp only [kM, kN, kO])) | (refine ZF ?_; try intro _)) <;> ((try simp only [kM, kN, kO]); refine Zf ?_; refine Zi ?_))))
   all_goals (refine Zz ?_; (first | refine Zb 29 ?_ | refine Za 29 ?_ | refine wUn 29 ?_); refine Yj 30 ?_; refine Zx 31 ?_)
   all_goals (first | refine Zb 32 ?_ | refine Za 32 ?_ | refine ZI 32 ?_ | (refine Zn (t := 45) rfl (fun hb => ?_) (fun hb => ?_) <;> (try simp only [kk] at hb) <;> first | refine Zb 32 ?_ | refine Za 32 ?_ | refine ZI 32 ?_))
   all_goals ((first | refine Zb 33 ?_ | refine Za 33 ?_ | refine wUn 33 ?_); (first | refine Zb 34 ?_ | refine Za 34 ?_ | refine ZI 34 ?_))
   all_goals (first | refine Zb 35 ?_ | refine Za 35 ?_ | refine ZE 35 ?_ | (refine Zn (t := 48) rfl (fun hb => ?_) (fun hb => ?_) <;> (try simp only [kk] at hb) <;> first | refine Zb 35 ?_ | refine Za 35 ?_ | refine ZE 35 ?_))
   all_goals ((first | refine Zb 36 ?_ | refine Za 36 ?_ | refine ZE 36 ?_); (first | refine Zb 37 ?_ | refine Za 37 ?_ | refine ZL 37 ?_); (first | refine Zb 38 ?_ | refine Za 38 ?_ | refine Yg 38 ?_); (first | refine Zb 39 ?_ | refine Za 39 ?_ | refine wPk 39 ?_); refine Yj 40 ?_; refine Zv ?_)
   all_goals (repeat' (first | refine zV ?_ | (refine YL ?_; refine ZB rfl rfl (fun hb => ?_) (fun hb => ?_) <;> (try simp only [decide_eq_true_eq, decide_eq_false_iff_not, Bool.not_eq_true, Bool.not_eq_false, beq_iff_eq, bne_iff_ne, ne_eq, decide_eq_decide, Bool.not_eq_eq_eq_not, Bool.not_true, Bool.not_false, beq_eq_false_iff_ne, bne_eq_false_iff_eq, Bool.and_eq_true, Bool.or_eq_true, Bool.and_eq_false_imp, Bool.or_eq_false_iff, bq2, bqt, bqf] at hb)) | (refine ZS ?_; refine ZM rfl (fun hb => ?_) (fun hb => ?_) <;> (try simp only [decide_eq_true_eq, decide_eq_false_iff_not, Bool.not_eq_true, Bool.not_eq_false, beq_iff_eq, bne_iff_ne, ne_eq, decide_eq_decide, Bool.not_eq_eq_eq_not, Bool.not_true, Bool.not_false, beq_eq_false_iff_ne, bne_eq_false_iff_eq, Bool.and_eq_true, Bool.or_eq_true, Bool.and_eq_false_imp, Bool.or_eq_false_iff, bq2, bqt, bqf] at hb)) | intro _))
   all_goals (try (rw [hfin (by rw [hw]; (first | (simp [*]; done) | (simp [*]; omega) | (simp_all; done) | (simp_all; omega)))]; refine qF (L' := []) ?_; exact ⟨by first | rfl | rw [Bool.and_false], rfl, rfl⟩))
   all_goals rw [← e1]
   all_goals refine Zg (k + 1) (⟨hlt, by rw [hs, hw]; (first | (simp [*]; done) | (simp [*]; omega) | (simp_all; done) | (simp_all; omega))⟩) Ze Ze rfl tk inferInstance (by first | omega | (dsimp only; omega))
 ·have hk2 : k = mo := by omega
  rw [hk2] at hok
  rw [hok]
  repeat' (first | refine zV ?_ | (refine YL ?_; refine ZB rfl rfl (fun hb => ?_) (fun hb => ?_) <;> (try simp only [decide_eq_true_eq, decide_eq_false_iff_not, Bool.not_eq_true, Bool.not_eq_false, beq_iff_eq, bne_iff_ne, ne_eq, decide_eq_decide, Bool.not_eq_eq_eq_not, Bool.not_true, Bool.not_false, beq_eq_false_iff_ne, bne_eq_false_iff_eq, Bool.and_eq_true, Bool.or_eq_true, Bool.and_eq_false_imp, Bool.or_eq_false_iff, bq2, bqt, bqf] at hb)) | (refine ZS ?_; refine ZM rfl (fun hb => ?_) (fun hb => ?_) <;> (try simp only [decide_eq_true_eq, decide_eq_false_iff_not, Bool.not_eq_true, Bool.not_eq_false, beq_iff_eq, bne_iff_ne, ne_eq, decide_eq_decide, Bool.not_eq_eq_eq_not, Bool.not_true, Bool.not_false, beq_eq_false_iff_ne, bne_eq_false_iff_eq, Bool.and_eq_true, Bool.or_eq_true, Bool.and_eq_false_imp, Bool.or_eq_false_iff, bq2, bqt, bqf] at hb)) | intro _)
  all_goals (refine qF (L' := []) ?_; exact ⟨Ym (by (try simp [*]); first | done | omega | (intros; omega) | (constructor <;> intros <;> (try simp_all) <;> omega)), rfl, rfl⟩)
end Go.Proofs.E
