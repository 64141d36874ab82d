/- The law RedoSheets. Part 9 of 12. -/
import Derived.Test.YtjajdpfdhokkhaaGreatZ8
namespace Go.Proofs.E
open Go
set_option linter.unusedVariables false
set_option linter.unusedSimpArgs false
set_option linter.unusedSectionVars false
set_option maxRecDepth 4000
set_option maxHeartbeats 1000000
attribute [local irreducible] Yl TL TC TE Spec Xn R1 Hp.le EnvLe TS TR YS Zq
theorem dirty12_spec (ρ : Hp) (s : SV) (l : List CkP) (h : AS ρ 2 YG s l) (lsn : Nat)  :
  Spec Tryz.prog 98 [.slice s.a s.n s.c, .int .u64 lsn] ρ [] (fun z ρ' L' => z = .bool (upB (ckPOk lsn) CkP.page l l.length) ∧ ρ' = ρ ∧ L' = []) := by
 have hl := h.at'.len
 have hn := h.big
 have hA := h.at'
 generalize hR : (ckPOk lsn) = rt
 unfold upB
 generalize hm : l.length = mo
 have hrt : ∀ x, rt x = (ckPOk lsn) x := fun x => by rw [hR]
 refine Zf Tryz.func98 rfl rfl rfl fun u R => ?_
 simp only [ZG, List.cons_append, List.nil_append]
 repeat' (first | (refine iBu ?_; refine ZC (Ze rfl) rfl rfl ?_) | (refine Zj ?_; first | (refine Zi ?_; refine qQ ?_) | refine Zo ?_) | refine Zc ?_ | (refine Zh ?_; refine Zz ?_) | (refine Zg ?_; refine Zy ?_) | intro _)
 refine ZL [(0, _), (1, _), (7, _), (8, _)] (fun (ζ : (Nat)) => [(9, .int .i64 ζ), (4, .bool false)]) (fun (ζ : (Nat)) => ρ) (fun (ζ : (Nat)) => []) (fun (ζ : (Nat)) => ζ ≤ s.n ∧ Zv mo (fun _ x => rt x) (fun y x => decide (CkP.page y < CkP.page x)) l ζ = true) (fun (ζ : (Nat)) => s.n - ζ) (0) (⟨Nat.zero_le _, by rw [Zv]; simp [hm]⟩) Zn Zn rfl tk ?_
 rintro k hI
 try simp only [List.cons_append, List.nil_append, List.append_assoc, List.append_eq] at hI ⊢
 try dsimp only at hI ⊢
 obtain ⟨hk, hok⟩ := hI
 by_cases hlt : k < s.n
 ·obtain ⟨b, off, C, T, fr, e1, hb0, hfit, hc⟩ := hA.get (show k < l.length by omega)
  have hs := Yg (most := mo) (right := fun _ x => rt x) (lt := fun y x => decide (CkP.page y < CkP.page x)) (show k < l.length by omega)
  have hfin0 := fun (e : Zv mo (fun _ x => rt x) (fun y x => decide (CkP.page y < CkP.page x)) l (k + 1) = false) => Yd e (show k + 1 ≤ mo by omega)
  rw [hok, Bool.true_and] at hs
  have hw := hrt l[k]
  skip
  rw [e1]
  by_cases hk0 : k = 0
  ·have hfin : (rt l[k] && (decide (k = 0) || decide (CkP.page (l[k - 1]'(by omega)) < CkP.page l[k]))) = false → Zv mo (fun _ x => rt x) (fun y x => decide (CkP.page y < CkP.page x)) l mo = false := fun e => hfin0 (by rw [hs]; exact e)
   rw [decide_eq_true hk0, Bool.true_or, Bool.and_true] at hs hfin
   generalize l[k] = x at *
   unfold ckPOk at hw
   generalize hQQ : Zv mo (fun _ x => rt x) (fun y x => decide (CkP.page y < CkP.page x)) l mo = q at *
   clear hfin0 hrt hR
   repeat' (first | (refine iBu ?_; refine ZC (Ze rfl) rfl rfl ?_) | (refine Zj ?_; first | (refine Zi ?_; refine qQ ?_) | refine Zo ?_) | refine Zc ?_ | (refine Zh ?_; refine Zz ?_) | (refine Zg ?_; refine Zy ?_) | intro _)
   refine ZJ (Zq _ _ _) Zx ?_
   all_goals (refine rFa 0 ?_; refine rLd 1 ?_)
   all_goals (refine Zt (i := 2) ?_; ((try refine Zr ?_); (first | (refine Zd (.func 177) ?_; refine qC rfl rfl (rpage12_spec _ _) ?_; rintro v ρ' L' hle ⟨rfl, rfl, rfl⟩ <;> (try simp only [kM, kN, kO])) | (refine Zo ?_; try intro _)) <;> ((try simp only [kM, kN, kO]); refine Zc ?_; refine Zs ?_)))
   all_goals (refine ZY ?_; refine rUn 3 ?_; refine ZW 4 ?_)
   all_goals (first | refine Zb 5 ?_ | refine Za 5 ?_ | refine ZD 5 ?_ | (refine Zp (t := 18) rfl (fun hb => ?_) (fun hb => ?_) <;> (try simp only [kk] at hb) <;> first | refine Zb 5 ?_ | refine Za 5 ?_ | refine ZD 5 ?_))
   all_goals ((first | refine Zb 6 ?_ | refine Za 6 ?_ | refine wCm 6 ?_); (first | refine Zb 7 ?_ | refine Za 7 ?_ | refine ZD 7 ?_))
   all_goals (first | refine Zb 8 ?_ | refine Za 8 ?_ | refine ZD 8 ?_ | (refine Zp (t := 21) rfl (fun hb => ?_) (fun hb => ?_) <;> (try simp only [kk] at hb) <;> first | refine Zb 8 ?_ | refine Za 8 ?_ | refine ZD 8 ?_))
   all_goals ((first | refine Zb 9 ?_ | refine Za 9 ?_ | refine ZD 9 ?_); (first | refine Zb 10 ?_ | refine Za 10 ?_ | refine wSb 10 ?_); (first | refine Zb 11 ?_ | refine Za 11 ?_ | refine wIa 11 ?_); (first | refine Zb 12 ?_ | refine Za 12 ?_ | refine ZV 12 ?_); (first | refine Zb 13 ?_ | refine Za 13 ?_ | refine ZX 13 ?_); (first | refine Zb 14 ?_ | refine Za 14 ?_ | refine ZV 14 ?_); (first | refine Zb 15 ?_ | refine Za 15 ?_ | refine ZX 15 ?_); (first | refine Zb 16 ?_ | refine Za 16 ?_ | refine wCm 16 ?_); (first | refine Zb 17 ?_ | refine Za 17 ?_ | refine wPk 17 ?_); refine rPk 18 ?_; refine ZW 19 ?_)
   all_goals (first | refine Zb 20 ?_ | refine Za 20 ?_ | refine ZV 20 ?_ | (refine Zp (t := 33) rfl (fun hb => ?_) (fun hb => ?_) <;> (try simp only [kk] at hb) <;> first | refine Zb 20 ?_ | refine Za 20 ?_ | refine ZV 20 ?_))
   all_goals ((first | refine Zb 21 ?_ | refine Za 21 ?_ | refine ZX 21 ?_); (first | refine Zb 22 ?_ | refine Za 22 ?_ | refine wCm 22 ?_); refine rPk 23 ?_; refine ZW 24 ?_)
   all_goals (first | refine Zb 25 ?_ | refine Za 25 ?_ | refine ZV 25 ?_ | (refine Zp (t := 38) rfl (fun hb => ?_) (fun hb => ?_) <;> (try simp only [kk] at hb) <;> first | refine Zb 25 ?_ | refine Za 25 ?_ | refine ZV 25 ?_))
   all_goals ((first | refine Zb 26 ?_ | refine Za 26 ?_ | refine ZX 26 ?_); (first | refine Zb 27 ?_ | refine Za 27 ?_ | refine ZD 27 ?_); (first | refine Zb 28 ?_ | refine Za 28 ?_ | refine wCm 28 ?_); refine rPk 29 ?_; refine ZT ?_)
   all_goals (repeat' (first | (refine iBu ?_; refine ZC (Ze rfl) rfl rfl ?_) | (refine Zj ?_; first | (refine Zi ?_; refine qQ ?_) | refine Zo ?_) | refine Zc ?_ | (refine Zh ?_; refine Zz ?_) | (refine Zg ?_; refine Zy ?_) | (refine YO ?_; refine ZI rfl rfl (fun hb => ?_) (fun hb => ?_) <;> (try simp only [decide_eq_true_eq, decide_eq_false_iff_not, Bool.not_eq_true, Bool.not_eq_false, beq_iff_eq, bne_iff_ne, ne_eq, decide_eq_decide, Bool.not_eq_eq_eq_not, Bool.not_true, Bool.not_false, beq_eq_false_iff_ne, bne_eq_false_iff_eq, Bool.and_eq_true, Bool.or_eq_true, Bool.and_eq_false_imp, Bool.or_eq_false_iff, bq2, bqt, bqf] at hb)) | (refine Ya ?_; refine ZO rfl (fun hb => ?_) (fun hb => ?_) <;> (try simp only [decide_eq_true_eq, decide_eq_false_iff_not, Bool.not_eq_true, Bool.not_eq_false, beq_iff_eq, bne_iff_ne, ne_eq, decide_eq_decide, Bool.not_eq_eq_eq_not, Bool.not_true, Bool.not_false, beq_eq_false_iff_ne, bne_eq_false_iff_eq, Bool.and_eq_true, Bool.or_eq_true, Bool.and_eq_false_imp, Bool.or_eq_false_iff, bq2, bqt, bqf] at hb)) | intro _))
   all_goals (try (rw [hfin (by rw [hw]; (first | (simp [*]; done) | (simp [*]; omega) | (simp_all; done) | (simp_all; omega)))]; refine qF (L' := []) ?_; exact ⟨by first | rfl | rw [Bool.and_false], rfl, rfl⟩))
   all_goals rw [← e1]
   all_goals refine Zu (k + 1) (⟨hlt, by rw [hs, hw]; (first | (simp [*]; done) | (simp [*]; omega) | (simp_all; done) | (simp_all; omega))⟩) Zn Zn rfl tk inferInstance (by first | omega | (dsimp only; omega))
  ·have hd : decide (k = 0) = false := decide_eq_false hk0
   obtain ⟨b2, off2, C2, T2, fr2, f1, hb2, hfit2, hc2⟩ := hA.get (show k - 1 < l.length by omega)
   rw [e1] at f1
   cases f1
   rw [hb0] at hb2
   cases hb2
   have ek : ((k : Int) - 1).toNat = k - 1 := by omega
   have hfin : (rt l[k] && (decide (k = 0) || decide (CkP.page (l[k - 1]'(by omega)) < CkP.page l[k]))) = false → Zv mo (fun _ x => rt x) (fun y x => decide (CkP.page y < CkP.page x)) l mo = false := fun e => hfin0 (by rw [hs]; exact e)
   rw [hd, Bool.false_or] at hs hfin
   have hcy : C[off + ((k : Int) - 1).toNat * 2]? = some (.int .i64 (CkP.page (l[k - 1]'(by omega)))) := by
    have := congrArg (fun l => l[0]?) hc2
    rw [ek]
    simp only [List.getElem?_take, List.getElem?_drop] at this
    simpa using this
   clear hc2 hfit2
   generalize l[k] = x at *
   generalize l[k - 1]'(by omega) = y at *
   unfold ckPOk at hw
   generalize hQQ : Zv mo (fun _ x => rt x) (fun y x => decide (CkP.page y < CkP.page x)) l mo = q at *
   clear hfin0 hrt hR
   repeat' (first | (refine iBu ?_; refine ZC (Ze rfl) rfl rfl ?_) | (refine Zj ?_; first | (refine Zi ?_; refine qQ ?_) | refine Zo ?_) | refine Zc ?_ | (refine Zh ?_; refine Zz ?_) | (refine Zg ?_; refine Zy ?_) | intro _)
   refine ZJ (Zq _ _ _) Zx ?_
   all_goals (refine rFa 0 ?_; refine rLd 1 ?_)
   all_goals (refine Zt (i := 2) ?_; ((try refine Zr ?_); (first | (refine Zd (.func 177) ?_; refine qC rfl rfl (rpage12_spec _ _) ?_; rintro v ρ' L' hle ⟨rfl, rfl, rfl⟩ <;> (try simp only [kM, kN, kO])) | (refine Zo ?_; try intro _)) <;> ((try simp only [kM, kN, kO]); refine Zc ?_; refine Zs ?_)))
   all_goals (refine ZY ?_; refine rUn 3 ?_; refine ZW 4 ?_)
   all_goals (first | refine Zb 5 ?_ | refine Za 5 ?_ | refine ZD 5 ?_ | (refine Zp (t := 18) rfl (fun hb => ?_) (fun hb => ?_) <;> (try simp only [kk] at hb) <;> first | refine Zb 5 ?_ | refine Za 5 ?_ | refine ZD 5 ?_))
   all_goals ((first | refine Zb 6 ?_ | refine Za 6 ?_ | refine wCm 6 ?_); (first | refine Zb 7 ?_ | refine Za 7 ?_ | refine ZD 7 ?_))
   all_goals (first | refine Zb 8 ?_ | refine Za 8 ?_ | refine ZD 8 ?_ | (refine Zp (t := 21) rfl (fun hb => ?_) (fun hb => ?_) <;> (try simp only [kk] at hb) <;> first | refine Zb 8 ?_ | refine Za 8 ?_ | refine ZD 8 ?_))
   all_goals ((first | refine Zb 9 ?_ | refine Za 9 ?_ | refine ZD 9 ?_); (first | refine Zb 10 ?_ | refine Za 10 ?_ | refine wSb 10 ?_); (first | refine Zb 11 ?_ | refine Za 11 ?_ | refine wIa 11 ?_); (first | refine Zb 12 ?_ | refine Za 12 ?_ | refine ZV 12 ?_); (first | refine Zb 13 ?_ | refine Za 13 ?_ | refine ZX 13 ?_); (first | refine Zb 14 ?_ | refine Za 14 ?_ | refine ZV 14 ?_); (first | refine Zb 15 ?_ | refine Za 15 ?_ | refine ZX 15 ?_); (first | refine Zb 16 ?_ | refine Za 16 ?_ | refine wCm 16 ?_); (first | refine Zb 17 ?_ | refine Za 17 ?_ | refine wPk 17 ?_); refine rPk 18 ?_; refine ZW 19 ?_)
   all_goals (first | refine Zb 20 ?_ | refine Za 20 ?_ | refine ZV 20 ?_ | (refine Zp (t := 33) rfl (fun hb => ?_) (fun hb => ?_) <;> (try simp only [kk] at hb) <;> first | refine Zb 20 ?_ | refine Za 20 ?_ | refine ZV 20 ?_))
   all_goals ((first | refine Zb 21 ?_ | refine Za 21 ?_ | refine ZX 21 ?_); (first | refine Zb 22 ?_ | refine Za 22 ?_ | refine wCm 22 ?_); refine rPk 23 ?_; refine ZW 24 ?_)
   all_goals (first | refine Zb 25 ?_ | refine Za 25 ?_ | refine ZV 25 ?_ | (refine Zp (t := 38) rfl (fun hb => ?_) (fun hb => ?_) <;> (try simp only [kk] at hb) <;> first | refine Zb 25 ?_ | refine Za 25 ?_ | refine ZV 25 ?_))
   all_goals ((first | refine Zb 26 ?_ | refine Za 26 ?_ | refine ZX 26 ?_); (first | refine Zb 27 ?_ | refine Za 27 ?_ | refine ZD 27 ?_); (first | refine Zb 28 ?_ | refine Za 28 ?_ | refine wCm 28 ?_); refine rPk 29 ?_; refine ZT ?_)
   all_goals (repeat' (first | (refine iBu ?_; refine ZC (Ze rfl) rfl rfl ?_) | (refine Zj ?_; first | (refine Zi ?_; refine qQ ?_) | refine Zo ?_) | refine Zc ?_ | (refine Zh ?_; refine Zz ?_) | (refine Zg ?_; refine Zy ?_) | (refine YO ?_; refine ZI rfl rfl (fun hb => ?_) (fun hb => ?_) <;> (try simp only [decide_eq_true_eq, decide_eq_false_iff_not, Bool.not_eq_true, Bool.not_eq_false, beq_iff_eq, bne_iff_ne, ne_eq, decide_eq_decide, Bool.not_eq_eq_eq_not, Bool.not_true, Bool.not_false, beq_eq_false_iff_ne, bne_eq_false_iff_eq, Bool.and_eq_true, Bool.or_eq_true, Bool.and_eq_false_imp, Bool.or_eq_false_iff, bq2, bqt, bqf] at hb)) | (refine Ya ?_; refine ZO rfl (fun hb => ?_) (fun hb => ?_) <;> (try simp only [decide_eq_true_eq, decide_eq_false_iff_not, Bool.not_eq_true, Bool.not_eq_false, beq_iff_eq, bne_iff_ne, ne_eq, decide_eq_decide, Bool.not_eq_eq_eq_not, Bool.not_true, Bool.not_false, beq_eq_false_iff_ne, bne_eq_false_iff_eq, Bool.and_eq_true, Bool.or_eq_true, Bool.and_eq_false_imp, Bool.or_eq_false_iff, bq2, bqt, bqf] at hb)) | intro _))
   all_goals (try (rw [hfin (by rw [hw]; (first | (simp [*]; done) | (simp [*]; omega) | (simp_all; done) | (simp_all; omega)))]; refine qF (L' := []) ?_; exact ⟨by first | rfl | rw [Bool.and_false], rfl, rfl⟩))
   all_goals rw [← e1]
   all_goals refine Zu (k + 1) (⟨hlt, by rw [hs, hw]; (first | (simp [*]; done) | (simp [*]; omega) | (simp_all; done) | (simp_all; omega))⟩) Zn Zn rfl tk inferInstance (by first | omega | (dsimp only; omega))
 ·have hk2 : k = mo := by omega
  rw [hk2] at hok
  rw [hok]
  repeat' (first | (refine iBu ?_; refine ZC (Ze rfl) rfl rfl ?_) | (refine Zj ?_; first | (refine Zi ?_; refine qQ ?_) | refine Zo ?_) | refine Zc ?_ | (refine Zh ?_; refine Zz ?_) | (refine Zg ?_; refine Zy ?_) | (refine YO ?_; refine ZI rfl rfl (fun hb => ?_) (fun hb => ?_) <;> (try simp only [decide_eq_true_eq, decide_eq_false_iff_not, Bool.not_eq_true, Bool.not_eq_false, beq_iff_eq, bne_iff_ne, ne_eq, decide_eq_decide, Bool.not_eq_eq_eq_not, Bool.not_true, Bool.not_false, beq_eq_false_iff_ne, bne_eq_false_iff_eq, Bool.and_eq_true, Bool.or_eq_true, Bool.and_eq_false_imp, Bool.or_eq_false_iff, bq2, bqt, bqf] at hb)) | (refine Ya ?_; refine ZO rfl (fun hb => ?_) (fun hb => ?_) <;> (try simp only [decide_eq_true_eq, decide_eq_false_iff_not, Bool.not_eq_true, Bool.not_eq_false, beq_iff_eq, bne_iff_ne, ne_eq, decide_eq_decide, Bool.not_eq_eq_eq_not, Bool.not_true, Bool.not_false, beq_eq_false_iff_ne, bne_eq_false_iff_eq, Bool.and_eq_true, Bool.or_eq_true, Bool.and_eq_false_imp, Bool.or_eq_false_iff, bq2, bqt, bqf] at hb)) | intro _)
  all_goals (refine qF (L' := []) ?_; exact ⟨rfl, rfl, rfl⟩)
theorem txns12_spec (ρ : Hp) (s : SV) (l : List CkT) (h : AS ρ 5 ckTV s l) (lsn : Nat) (next : Int)  :
  Spec Tryz.prog 97 [.slice s.a s.n s.c, .int .u64 lsn, .int .i64 next] ρ [] (fun z ρ' L' => z = .bool (decide (l.length ≤ 8) && upB (ckTOk lsn next) CkT.txn l l.length) ∧ ρ' = ρ ∧ L' = []) := by
 have hl := h.at'.len
 have hn := h.big
 have hA := h.at'
 generalize hR : (ckTOk lsn next) = rt
 unfold upB
 generalize hm : l.length = mo
 have hrt : ∀ x, rt x = (ckTOk lsn next) x := fun x => by rw [hR]
 refine Zf Tryz.func97 rfl rfl rfl fun u R => ?_
 simp only [ZG, List.cons_append, List.nil_append]
 repeat' (first | (refine iBu ?_; refine ZC (Ze rfl) rfl rfl ?_) | (refine Zj ?_; first | (refine Zi ?_; refine qQ ?_) | refine Zo ?_) | refine Zc ?_ | (refine Zh ?_; refine Zz ?_) | (refine Zg ?_; refine Zy ?_) | intro _)
 refine ZL [(0, _), (1, _), (2, _), (9, _), (10, _)] (fun (ζ : (Nat)) => [(11, .int .i64 ζ), (6, .bool false)]) (fun (ζ : (Nat)) => ρ) (fun (ζ : (Nat)) => []) (fun (ζ : (Nat)) => ζ ≤ s.n ∧ Zv mo (fun _ x => rt x) (fun y x => decide (CkT.txn y < CkT.txn x)) l ζ = true) (fun (ζ : (Nat)) => s.n - ζ) (0) (⟨Nat.zero_le _, by rw [Zv]; simp [hm]⟩) Zn Zn rfl tk ?_
 rintro k hI
 try simp only [List.cons_append, List.nil_append, List.append_assoc, List.append_eq] at hI ⊢
 try dsimp only at hI ⊢
 obtain ⟨hk, hok⟩ := hI
 by_cases hlt : k < s.n
 ·obtain ⟨b, off, C, T, fr, e1, hb0, hfit, hc⟩ := hA.get (show k < l.length by omega)
  have hs := Yg (most := mo) (right := fun _ x => rt x) (lt := fun y x => decide (CkT.txn y < CkT.txn x)) (show k < l.length by omega)
  have hfin0 := fun (e : Zv mo (fun _ x => rt x) (fun y x => decide (CkT.txn y < CkT.txn x)) l (k + 1) = false) => Yd e (show k + 1 ≤ mo by omega)
  rw [hok, Bool.true_and] at hs
  have hw := hrt l[k]
  skip
  rw [e1]
  by_cases hk0 : k = 0
  ·have hfin : (rt l[k] && (decide (k = 0) || decide (CkT.txn (l[k - 1]'(by omega)) < CkT.txn l[k]))) = false → Zv mo (fun _ x => rt x) (fun y x => decide (CkT.txn y < CkT.txn x)) l mo = false := fun e => hfin0 (by rw [hs]; exact e)
   rw [decide_eq_true hk0, Bool.true_or, Bool.and_true] at hs hfin
   generalize l[k] = x at *
   unfold ckTOk at hw
   generalize hQQ : Zv mo (fun _ x => rt x) (fun y x => decide (CkT.txn y < CkT.txn x)) l mo = q at *
   clear hfin0 hrt hR
   repeat' (first | (refine iBu ?_; refine ZC (Ze rfl) rfl rfl ?_) | (refine Zj ?_; first | (refine Zi ?_; refine qQ ?_) | refine Zo ?_) | refine Zc ?_ | (refine Zh ?_; refine Zz ?_) | (refine Zg ?_; refine Zy ?_) | intro _)
   refine ZJ (Zq _ _ _) Zx ?_
   all_goals (refine rFa 0 ?_; refine ZY ?_; refine rLd 1 ?_; refine rCm 2 ?_; refine ZW 3 ?_)
   all_goals (first | refine Zb 4 ?_ | refine Za 4 ?_ | refine ZV 4 ?_ | (refine Zp (t := 19) rfl (fun hb => ?_) (fun hb => ?_) <;> (try simp only [kk] at hb) <;> first | refine Zb 4 ?_ | refine Za 4 ?_ | refine ZV 4 ?_))
   all_goals ((first | refine Zb 5 ?_ | refine Za 5 ?_ | refine ZX 5 ?_); (first | refine Zb 6 ?_ | refine Za 6 ?_ | refine ZD 6 ?_); (first | refine Zb 7 ?_ | refine Za 7 ?_ | refine wCm 7 ?_); refine rPk 8 ?_; refine ZW 9 ?_)
   all_goals (first | refine Zb 10 ?_ | refine Za 10 ?_ | refine ZD 10 ?_ | (refine Zp (t := 25) rfl (fun hb => ?_) (fun hb => ?_) <;> (try simp only [kk] at hb) <;> first | refine Zb 10 ?_ | refine Za 10 ?_ | refine ZD 10 ?_))
   all_goals ((first | refine Zb 11 ?_ | refine Za 11 ?_ | refine wCm 11 ?_); (first | refine Zb 12 ?_ | refine Za 12 ?_ | refine ZD 12 ?_))
   all_goals (first | refine Zb 13 ?_ | refine Za 13 ?_ | refine ZD 13 ?_ | (refine Zp (t := 28) rfl (fun hb => ?_) (fun hb => ?_) <;> (try simp only [kk] at hb) <;> first | refine Zb 13 ?_ | refine Za 13 ?_ | refine ZD 13 ?_))
   all_goals ((first | refine Zb 14 ?_ | refine Za 14 ?_ | refine ZD 14 ?_); (first | refine Zb 15 ?_ | refine Za 15 ?_ | refine wSb 15 ?_); (first | refine Zb 16 ?_ | refine Za 16 ?_ | refine wIa 16 ?_); (first | refine Zb 17 ?_ | refine Za 17 ?_ | refine ZV 17 ?_); (first | refine Zb 18 ?_ | refine Za 18 ?_ | refine ZX 18 ?_); (first | refine Zb 19 ?_ | refine Za 19 ?_ | refine ZV 19 ?_); (first | refine Zb 20 ?_ | refine Za 20 ?_ | refine ZX 20 ?_); (first | refine Zb 21 ?_ | refine Za 21 ?_ | refine wCm 21 ?_); (first | refine Zb 22 ?_ | refine Za 22 ?_ | refine wPk 22 ?_); refine rPk 23 ?_; refine ZW 24 ?_)
   all_goals (first | refine Zb 25 ?_ | refine Za 25 ?_ | refine ZV 25 ?_ | (refine Zp (t := 40) rfl (fun hb => ?_) (fun hb => ?_) <;> (try simp only [kk] at hb) <;> first | refine Zb 25 ?_ | refine Za 25 ?_ | refine ZV 25 ?_))
   all_goals ((first | refine Zb 26 ?_ | refine Za 26 ?_ | refine ZX 26 ?_); (first | refine Zb 27 ?_ | refine Za 27 ?_ | refine wCm 27 ?_); refine rPk 28 ?_; refine ZW 29 ?_)
   all_goals (first | refine Zb 30 ?_ | refine Za 30 ?_ | refine ZV 30 ?_ | (refine Zp (t := 45) rfl (fun hb => ?_) (fun hb => ?_) <;> (try simp only [kk] at hb) <;> first | refine Zb 30 ?_ | refine Za 30 ?_ | refine ZV 30 ?_))
   all_goals ((first | refine Zb 31 ?_ | refine Za 31 ?_ | refine ZX 31 ?_); (first | refine Zb 32 ?_ | refine Za 32 ?_ | refine ZV 32 ?_); (first | refine Zb 33 ?_ | refine Za 33 ?_ | refine ZX 33 ?_); (first | refine Zb 34 ?_ | refine Za 34 ?_ | refine wCm 34 ?_); refine rPk 35 ?_; refine ZW 36 ?_)
   all_goals (first | refine Zb 37 ?_ | refine Za 37 ?_ | refine ZV 37 ?_ | (refine Zp (t := 52) rfl (fun hb => ?_) (fun hb => ?_) <;> (try simp only [kk] at hb) <;> first | refine Zb 37 ?_ | refine Za 37 ?_ | refine ZV 37 ?_))
   all_goals ((first | refine Zb 38 ?_ | refine Za 38 ?_ | refine ZX 38 ?_); (first | refine Zb 39 ?_ | refine Za 39 ?_ | refine ZD 39 ?_); (first | refine Zb 40 ?_ | refine Za 40 ?_ | refine wCm 40 ?_); refine rPk 41 ?_; refine ZW 42 ?_)
   all_goals (first | refine Zb 43 ?_ | refine Za 43 ?_ | refine ZV 43 ?_ | (refine Zp (t := 58) rfl (fun hb => ?_) (fun hb => ?_) <;> (try simp only [kk] at hb) <;> first | refine Zb 43 ?_ | refine Za 43 ?_ | refine ZV 43 ?_))
   all_goals ((first | refine Zb 44 ?_ | refine Za 44 ?_ | refine ZX 44 ?_); (first | refine Zb 45 ?_ | refine Za 45 ?_ | refine ZV 45 ?_); (first | refine Zb 46 ?_ | refine Za 46 ?_ | refine ZX 46 ?_); (first | refine Zb 47 ?_ | refine Za 47 ?_ | refine wCm 47 ?_); refine rPk 48 ?_; refine ZW 49 ?_)
   all_goals (first | refine Zb 50 ?_ | refine Za 50 ?_ | refine ZV 50 ?_ | (refine Zp (t := 65) rfl (fun hb => ?_) (fun hb => ?_) <;> (try simp only [kk] at hb) <;> first | refine Zb 50 ?_ | refine Za 50 ?_ | refine ZV 50 ?_))
   all_goals ((first | refine Zb 51 ?_ | refine Za 51 ?_ | refine ZX 51 ?_); (first | refine Zb 52 ?_ | refine Za 52 ?_ | refine wCm 52 ?_); refine rPk 53 ?_; refine ZW 54 ?_)
   all_goals (first | refine Zb 55 ?_ | refine Za 55 ?_ | refine ZV 55 ?_ | (refine Zp (t := 70) rfl (fun hb => ?_) (fun hb => ?_) <;> (try simp only [kk] at hb) <;> first | refine Zb 55 ?_ | refine Za 55 ?_ | refine ZV 55 ?_))
   all_goals ((first | refine Zb 56 ?_ | refine Za 56 ?_ | refine ZX 56 ?_); (first | refine Zb 57 ?_ | refine Za 57 ?_ | refine wCm 57 ?_); refine rPk 58 ?_; refine ZT ?_)
   all_goals (repeat' (first | (refine iBu ?_; refine ZC (Ze rfl) rfl rfl ?_) | (refine Zj ?_; first | (refine Zi ?_; refine qQ ?_) | refine Zo ?_) | refine Zc ?_ | (refine Zh ?_; refine Zz ?_) | (refine Zg ?_; refine Zy ?_) | (refine YO ?_; refine ZI rfl rfl (fun hb => ?_) (fun hb => ?_) <;> (try simp only [decide_eq_true_eq, decide_eq_false_iff_not, Bool.not_eq_true, Bool.not_eq_false, beq_iff_eq, bne_iff_ne, ne_eq, decide_eq_decide, Bool.not_eq_eq_eq_not, Bool.not_true, Bool.not_false, beq_eq_false_iff_ne, bne_eq_false_iff_eq, Bool.and_eq_true, Bool.or_eq_true, Bool.and_eq_false_imp, Bool.or_eq_false_iff, bq2, bqt, bqf] at hb)) | (refine Ya ?_; refine ZO rfl (fun hb => ?_) (fun hb => ?_) <;> (try simp only [decide_eq_true_eq, decide_eq_false_iff_not, Bool.not_eq_true, Bool.not_eq_false, beq_iff_eq, bne_iff_ne, ne_eq, decide_eq_decide, Bool.not_eq_eq_eq_not, Bool.not_true, Bool.not_false, beq_eq_false_iff_ne, bne_eq_false_iff_eq, Bool.and_eq_true, Bool.or_eq_true, Bool.and_eq_false_imp, Bool.or_eq_false_iff, bq2, bqt, bqf] at hb)) | intro _))
   all_goals (try (rw [hfin (by rw [hw]; (first | (simp [*]; done) | (simp [*]; omega) | (simp_all; done) | (simp_all; omega)))]; refine qF (L' := []) ?_; exact ⟨by first | rfl | rw [Bool.and_false], rfl, rfl⟩))
   all_goals rw [← e1]
   all_goals refine Zu (k + 1) (⟨hlt, by rw [hs, hw]; (first | (simp [*]; done) | (simp [*]; omega) | (simp_all; done) | (simp_all; omega))⟩) Zn Zn rfl tk inferInstance (by first | omega | (dsimp only; omega))
  ·have hd : decide (k = 0) = false := decide_eq_false hk0
   obtain ⟨b2, off2, C2, T2, fr2, f1, hb2, hfit2, hc2⟩ := hA.get (show k - 1 < l.length by omega)
   rw [e1] at f1
   cases f1
   rw [hb0] at hb2
   cases hb2
   have ek : ((k : Int) - 1).toNat = k - 1 := by omega
   have hfin : (rt l[k] && (decide (k = 0) || decide (CkT.txn (l[k - 1]'(by omega)) < CkT.txn l[k]))) = false → Zv mo (fun _ x => rt x) (fun y x => decide (CkT.txn y < CkT.txn x)) l mo = false := fun e => hfin0 (by rw [hs]; exact e)
   rw [hd, Bool.false_or] at hs hfin
   have hcy : C[off + ((k : Int) - 1).toNat * 5]? = some (.int .i64 (CkT.txn (l[k - 1]'(by omega)))) := by
    have := congrArg (fun l => l[0]?) hc2
    rw [ek]
    simp only [List.getElem?_take, List.getElem?_drop] at this
    simpa using this
   clear hc2 hfit2
   generalize l[k] = x at *
   generalize l[k - 1]'(by omega) = y at *
   unfold ckTOk at hw
   generalize hQQ : Zv mo (fun _ x => rt x) (fun y x => decide (CkT.txn y < CkT.txn x)) l mo = q at *
   clear hfin0 hrt hR
   repeat' (first | (refine iBu ?_; refine ZC (Ze rfl) rfl rfl ?_) | (refine Zj ?_; first | (refine Zi ?_; refine qQ ?_) | refine Zo ?_) | refine Zc ?_ | (refine Zh ?_; refine Zz ?_) | (refine Zg ?_; refine Zy ?_) | intro _)
   refine ZJ (Zq _ _ _) Zx ?_
   all_goals (refine rFa 0 ?_; refine ZY ?_; refine rLd 1 ?_; refine rCm 2 ?_; refine ZW 3 ?_)
   all_goals (first | refine Zb 4 ?_ | refine Za 4 ?_ | refine ZV 4 ?_ | (refine Zp (t := 19) rfl (fun hb => ?_) (fun hb => ?_) <;> (try simp only [kk] at hb) <;> first | refine Zb 4 ?_ | refine Za 4 ?_ | refine ZV 4 ?_))
   all_goals ((first | refine Zb 5 ?_ | refine Za 5 ?_ | refine ZX 5 ?_); (first | refine Zb 6 ?_ | refine Za 6 ?_ | refine ZD 6 ?_); (first | refine Zb 7 ?_ | refine Za 7 ?_ | refine wCm 7 ?_); refine rPk 8 ?_; refine ZW 9 ?_)
   all_goals (first | refine Zb 10 ?_ | refine Za 10 ?_ | refine ZD 10 ?_ | (refine Zp (t := 25) rfl (fun hb => ?_) (fun hb => ?_) <;> (try simp only [kk] at hb) <;> first | refine Zb 10 ?_ | refine Za 10 ?_ | refine ZD 10 ?_))
   all_goals ((first | refine Zb 11 ?_ | refine Za 11 ?_ | refine wCm 11 ?_); (first | refine Zb 12 ?_ | refine Za 12 ?_ | refine ZD 12 ?_))
   all_goals (first | refine Zb 13 ?_ | refine Za 13 ?_ | refine ZD 13 ?_ | (refine Zp (t := 28) rfl (fun hb => ?_) (fun hb => ?_) <;> (try simp only [kk] at hb) <;> first | refine Zb 13 ?_ | refine Za 13 ?_ | refine ZD 13 ?_))
   all_goals ((first | refine Zb 14 ?_ | refine Za 14 ?_ | refine ZD 14 ?_); (first | refine Zb 15 ?_ | refine Za 15 ?_ | refine wSb 15 ?_); (first | refine Zb 16 ?_ | refine Za 16 ?_ | refine wIa 16 ?_); (first | refine Zb 17 ?_ | refine Za 17 ?_ | refine ZV 17 ?_); (first | refine Zb 18 ?_ | refine Za 18 ?_ | refine ZX 18 ?_); (first | refine Zb 19 ?_ | refine Za 19 ?_ | refine ZV 19 ?_); (first | refine Zb 20 ?_ | refine Za 20 ?_ | refine ZX 20 ?_); (first | refine Zb 21 ?_ | refine Za 21 ?_ | refine wCm 21 ?_); (first | refine Zb 22 ?_ | refine Za 22 ?_ | refine wPk 22 ?_); refine rPk 23 ?_; refine ZW 24 ?_)
   all_goals (first | refine Zb 25 ?_ | refine Za 25 ?_ | refine ZV 25 ?_ | (refine Zp (t := 40) rfl (fun hb => ?_) (fun hb => ?_) <;> (try simp only [kk] at hb) <;> first | refine Zb 25 ?_ | refine Za 25 ?_ | refine ZV 25 ?_))
   all_goals ((first | refine Zb 26 ?_ | refine Za 26 ?_ | refine ZX 26 ?_); (first | refine Zb 27 ?_ | refine Za 27 ?_ | refine wCm 27 ?_); refine rPk 28 ?_; refine ZW 29 ?_)
   all_goals (first | refine Zb 30 ?_ | refine Za 30 ?_ | refine ZV 30 ?_ | (refine Zp (t := 45) rfl (fun hb => ?_) (fun hb => ?_) <;> (try simp only [kk] at hb) <;> first | refine Zb 30 ?_ | refine Za 30 ?_ | refine ZV 30 ?_))
   all_goals ((first | refine Zb 31 ?_ | refine Za 31 ?_ | refine ZX 31 ?_); (first | refine Zb 32 ?_ | refine Za 32 ?_ | refine ZV 32 ?_); (first | refine Zb 33 ?_ | refine Za 33 ?_ | refine ZX 33 ?_); (first | refine Zb 34 ?_ | refine Za 34 ?_ | refine wCm 34 ?_); refine rPk 35 ?_; refine ZW 36 ?_)
   all_goals (first | refine Zb 37 ?_ | refine Za 37 ?_ | refine ZV 37 ?_ | (refine Zp (t := 52) rfl (fun hb => ?_) (fun hb => ?_) <;> (try simp only [kk] at hb) <;> first | refine Zb 37 ?_ | refine Za 37 ?_ | refine ZV 37 ?_))
   all_goals ((first | refine Zb 38 ?_ | refine Za 38 ?_ | refine ZX 38 ?_); (first | refine Zb 39 ?_ | refine Za 39 ?_ | refine ZD 39 ?_); (first | refine Zb 40 ?_ | refine Za 40 ?_ | refine wCm 40 ?_); refine rPk 41 ?_; refine ZW 42 ?_)
   all_goals (first | refine Zb 43 ?_ | refine Za 43 ?_ | refine ZV 43 ?_ | (refine Zp (t := 58) rfl (fun hb => ?_) (fun hb => ?_) <;> (try simp only [kk] at hb) <;> first | refine Zb 43 ?_ | refine Za 43 ?_ | refine ZV 43 ?_))
   all_goals ((first | refine Zb 44 ?_ | refine Za 44 ?_ | refine ZX 44 ?_); (first | refine Zb 45 ?_ | refine Za 45 ?_ | refine ZV 45 ?_); (first | refine Zb 46 ?_ | refine Za 46 ?_ | refine ZX 46 ?_); (first | refine Zb 47 ?_ | refine Za 47 ?_ | refine wCm 47 ?_); refine rPk 48 ?_; refine ZW 49 ?_)
   all_goals (first | refine Zb 50 ?_ | refine Za 50 ?_ | refine ZV 50 ?_ | (refine Zp (t := 65) rfl (fun hb => ?_) (fun hb => ?_) <;> (try simp only [kk] at hb) <;> first | refine Zb 50 ?_ | refine Za 50 ?_ | refine ZV 50 ?_))
   all_goals ((first | refine Zb 51 ?_ | refine Za 51 ?_ | refine ZX 51 ?_); (first | refine Zb 52 ?_ | refine Za 52 ?_ | refine wCm 52 ?_); refine rPk 53 ?_; refine ZW 54 ?_)
   all_goals (first | refine Zb 55 ?_ | refine Za 55 ?_ | refine ZV 55 ?_ | (refine Zp (t := 70) rfl (fun hb => ?_) (fun hb => ?_) <;> (try simp only [kk] at hb) <;> first | refine Zb 55 ?_ | refine Za 55 ?_ | refine ZV 55 ?_))
   all_goals ((first | refine Zb 56 ?_ | refine Za 56 ?_ | refine ZX 56 ?_); (first | refine Zb 57 ?_ | refine Za 57 ?_ | refine wCm 57 ?_); refine rPk 58 ?_; refine ZT ?_)
   all_goals (repeat' (first | (refine iBu ?_; refine ZC (Ze rfl) rfl rfl ?_) | (refine Zj ?_; first | (refine Zi ?_; refine qQ ?_) | refine Zo ?_) | refine Zc ?_ | (refine Zh ?_; refine Zz ?_) | (refine Zg ?_; refine Zy ?_) | (refine YO ?_; refine ZI rfl rfl (fun hb => ?_) (fun hb => ?_) <;> (try simp only [decide_eq_true_eq, decide_eq_false_iff_not, Bool.not_eq_true, Bool.not_eq_false, beq_iff_eq, bne_iff_ne, ne_eq, decide_eq_decide, Bool.not_eq_eq_eq_not, Bool.not_true, Bool.not_false, beq_eq_false_iff_ne, bne_eq_false_iff_eq, Bool.and_eq_true, Bool.or_eq_true, Bool.and_eq_false_imp, Bool.or_eq_false_iff, bq2, bqt, bqf] at hb)) | (refine Ya ?_; refine ZO rfl (fun hb => ?_) (fun hb => ?_) <;> (try simp only [decide_eq_true_eq, decide_eq_false_iff_not, Bool.not_eq_true, Bool.not_eq_false, beq_iff_eq, bne_iff_ne, ne_eq, decide_eq_decide, Bool.not_eq_eq_eq_not, Bool.not_true, Bool.not_false, beq_eq_false_iff_ne, bne_eq_false_iff_eq, Bool.and_eq_true, Bool.or_eq_true, Bool.and_eq_false_imp, Bool.or_eq_false_iff, bq2, bqt, bqf] at hb)) | intro _))
   all_goals (try (rw [hfin (by rw [hw]; (first | (simp [*]; done) | (simp [*]; omega) | (simp_all; done) | (simp_all; omega)))]; refine qF (L' := []) ?_; exact ⟨by first | rfl | rw [Bool.and_false], rfl, rfl⟩))
   all_goals rw [← e1]
   all_goals refine Zu (k + 1) (⟨hlt, by rw [hs, hw]; (first | (simp [*]; done) | (simp [*]; omega) | (simp_all; done) | (simp_all; omega))⟩) Zn Zn rfl tk inferInstance (by first | omega | (dsimp only; omega))
 ·have hk2 : k = mo := by omega
  rw [hk2] at hok
  rw [hok]
  repeat' (first | (refine iBu ?_; refine ZC (Ze rfl) rfl rfl ?_) | (refine Zj ?_; first | (refine Zi ?_; refine qQ ?_) | refine Zo ?_) | refine Zc ?_ | (refine Zh ?_; refine Zz ?_) | (refine Zg ?_; refine Zy ?_) | (refine YO ?_; refine ZI rfl rfl (fun hb => ?_) (fun hb => ?_) <;> (try simp only [decide_eq_true_eq, decide_eq_false_iff_not, Bool.not_eq_true, Bool.not_eq_false, beq_iff_eq, bne_iff_ne, ne_eq, decide_eq_decide, Bool.not_eq_eq_eq_not, Bool.not_true, Bool.not_false, beq_eq_false_iff_ne, bne_eq_false_iff_eq, Bool.and_eq_true, Bool.or_eq_true, Bool.and_eq_false_imp, Bool.or_eq_false_iff, bq2, bqt, bqf] at hb)) | (refine Ya ?_; refine ZO rfl (fun hb => ?_) (fun hb => ?_) <;> (try simp only [decide_eq_true_eq, decide_eq_false_iff_not, Bool.not_eq_true, Bool.not_eq_false, beq_iff_eq, bne_iff_ne, ne_eq, decide_eq_decide, Bool.not_eq_eq_eq_not, Bool.not_true, Bool.not_false, beq_eq_false_iff_ne, bne_eq_false_iff_eq, Bool.and_eq_true, Bool.or_eq_true, Bool.and_eq_false_imp, Bool.or_eq_false_iff, bq2, bqt, bqf] at hb)) | intro _)
  all_goals (refine qF (L' := []) ?_; exact ⟨Yi (by (try simp [*]); first | done | omega | (intros; omega) | (constructor <;> intros <;> (try simp_all) <;> omega)), rfl, rfl⟩)
theorem images12_spec (ρ : Hp) (s : SV) (l : List Im) (h : AS ρ 7 imV s l) (before : Bool) (him : ∀ x ∈ l, Im.In ρ x) :
  Spec Tryz.prog 95 [.slice s.a s.n s.c, .bool before] ρ [] (fun z ρ' L' => z = .bool (decide (l.length ≤ 16) && upB (imOk before) Im.page l l.length) ∧ ρ' = ρ ∧ L' = []) := by
 have hl := h.at'.len
 have hn := h.big
 have hA := h.at'
 generalize hR : (imOk before) = rt
 unfold upB
 generalize hm : l.length = mo
 have hrt : ∀ x, rt x = (imOk before) x := fun x => by rw [hR]
 refine Zf Tryz.func95 rfl rfl rfl fun u R => ?_
 simp only [ZG, List.cons_append, List.nil_append]
 repeat' (first | (refine iBu ?_; refine ZC (Ze rfl) rfl rfl ?_) | (refine Zj ?_; first | (refine Zi ?_; refine qQ ?_) | refine Zo ?_) | refine Zc ?_ | (refine Zh ?_; refine Zz ?_) | (refine Zg ?_; refine Zy ?_) | intro _)
 refine ZL [(0, _), (1, _), (7, _), (8, _)] (fun (ζ : (Nat)) => [(9, .int .i64 ζ), (4, .bool false)]) (fun (ζ : (Nat)) => ρ) (fun (ζ : (Nat)) => []) (fun (ζ : (Nat)) => ζ ≤ s.n ∧ Zv mo (fun _ x => rt x) (fun y x => decide (Im.page y < Im.page x)) l ζ = true) (fun (ζ : (Nat)) => s.n - ζ) (0) (⟨Nat.zero_le _, by rw [Zv]; simp [hm]⟩) Zn Zn rfl tk ?_
 rintro k hI
 try simp only [List.cons_append, List.nil_append, List.append_assoc, List.append_eq] at hI ⊢
 try dsimp only at hI ⊢
 obtain ⟨hk, hok⟩ := hI
 by_cases hlt : k < s.n
 ·obtain ⟨b, off, C, T, fr, e1, hb0, hfit, hc⟩ := hA.get (show k < l.length by omega)
  have hs := Yg (most := mo) (right := fun _ x => rt x) (lt := fun y x => decide (Im.page y < Im.page x)) (show k < l.length by omega)
  have hfin0 := fun (e : Zv mo (fun _ x => rt x) (fun y x => decide (Im.page y < Im.page x)) l (k + 1) = false) => Yd e (show k + 1 ≤ mo by omega)
  rw [hok, Bool.true_and] at hs
  have hw := hrt l[k]
  have him1 := him _ (List.getElem_mem (show k < l.length by omega))
  rw [e1]
  by_cases hk0 : k = 0
  ·have hfin : (rt l[k] && (decide (k = 0) || decide (Im.page (l[k - 1]'(by omega)) < Im.page l[k]))) = false → Zv mo (fun _ x => rt x) (fun y x => decide (Im.page y < Im.page x)) l mo = false := fun e => hfin0 (by rw [hs]; exact e)
   rw [decide_eq_true hk0, Bool.true_or, Bool.and_true] at hs hfin
   generalize l[k] = x at *
   (unfold imOk at hw); have hra := right_spec ρ x.av x.a him1.a.cin (fun r hr => (him1.a.row r hr).id) him1.a.kid; have hrb := right_spec ρ x.bv x.b him1.b.cin (fun r hr => (him1.b.row r hr).id) him1.b.kid
   generalize hQQ : Zv mo (fun _ x => rt x) (fun y x => decide (Im.page y < Im.page x)) l mo = q at *
   clear hfin0 hrt hR
   repeat' (first | (refine iBu ?_; refine ZC (Ze rfl) rfl rfl ?_) | (refine Zj ?_; first | (refine Zi ?_; refine qQ ?_) | refine Zo ?_) | refine Zc ?_ | (refine Zh ?_; refine Zz ?_) | (refine Zg ?_; refine Zy ?_) | intro _)
   refine ZJ (Zq _ _ _) Zx ?_
   all_goals (refine rFa 0 ?_; refine rLd 1 ?_)
   all_goals (refine Zt (i := 2) ?_; ((try refine Zr ?_); (first | (refine Zd (.func 177) ?_; refine qC rfl rfl (rpage12_spec _ _) ?_; rintro v ρ' L' hle ⟨rfl, rfl, rfl⟩ <;> (try simp only [kM, kN, kO])) | (refine Zo ?_; try intro _)) <;> ((try simp only [kM, kN, kO]); refine Zc ?_; refine Zs ?_)))
   all_goals (refine rUn 3 ?_; refine ZW 4 ?_)
   all_goals (first | refine Zb 5 ?_ | refine Za 5 ?_ | refine ZD 5 ?_ | (refine Zp (t := 18) rfl (fun hb => ?_) (fun hb => ?_) <;> (try simp only [kk] at hb) <;> first | refine Zb 5 ?_ | refine Za 5 ?_ | refine ZD 5 ?_))
   all_goals ((first | refine Zb 6 ?_ | refine Za 6 ?_ | refine wCm 6 ?_); (first | refine Zb 7 ?_ | refine Za 7 ?_ | refine ZD 7 ?_))
   all_goals (first | refine Zb 8 ?_ | refine Za 8 ?_ | refine ZD 8 ?_ | (refine Zp (t := 21) rfl (fun hb => ?_) (fun hb => ?_) <;> (try simp only [kk] at hb) <;> first | refine Zb 8 ?_ | refine Za 8 ?_ | refine ZD 8 ?_))
   all_goals ((first | refine Zb 9 ?_ | refine Za 9 ?_ | refine ZD 9 ?_); (first | refine Zb 10 ?_ | refine Za 10 ?_ | refine wSb 10 ?_); (first | refine Zb 11 ?_ | refine Za 11 ?_ | refine wIa 11 ?_); (first | refine Zb 12 ?_ | refine Za 12 ?_ | refine ZV 12 ?_); (first | refine Zb 13 ?_ | refine Za 13 ?_ | refine ZX 13 ?_); (first | refine Zb 14 ?_ | refine Za 14 ?_ | refine ZV 14 ?_); (first | refine Zb 15 ?_ | refine Za 15 ?_ | refine ZX 15 ?_); (first | refine Zb 16 ?_ | refine Za 16 ?_ | refine wCm 16 ?_); (first | refine Zb 17 ?_ | refine Za 17 ?_ | refine wPk 17 ?_); refine rPk 18 ?_; refine ZW 19 ?_)
   all_goals (first | refine Zb 20 ?_ | refine Za 20 ?_ | refine ZV 20 ?_ | (refine Zp (t := 33) rfl (fun hb => ?_) (fun hb => ?_) <;> (try simp only [kk] at hb) <;> first | refine Zb 20 ?_ | refine Za 20 ?_ | refine ZV 20 ?_))
   all_goals (first | refine Zb 21 ?_ | refine Za 21 ?_ | refine ZX 21 ?_)
   all_goals (first | refine Zb 22 ?_ | refine Za 22 ?_ | (refine Zt (i := 22) ?_; ((try refine Zr ?_); (first | (refine Zd (.func 178) ?_; refine qC rfl rfl (hra) ?_; rintro v ρ' L' hle ⟨rfl, rfl, rfl⟩ <;> (try simp only [kM, kN, kO])) | (refine Zd (.func 178) ?_; refine qC rfl rfl (hrb) ?_; rintro v ρ' L' hle ⟨rfl, rfl, rfl⟩ <;> (try simp only [kM, kN, kO])) | (refine Zo ?_; try intro _)) <;> ((try simp only [kM, kN, kO]); refine Zc ?_; refine Zs ?_))))
   all_goals ((first | refine Zb 23 ?_ | refine Za 23 ?_ | refine wUn 23 ?_); refine rPk 24 ?_; refine ZW 25 ?_)
   all_goals (first | refine Zb 26 ?_ | refine Za 26 ?_ | refine ZV 26 ?_ | (refine Zp (t := 39) rfl (fun hb => ?_) (fun hb => ?_) <;> (try simp only [kk] at hb) <;> first | refine Zb 26 ?_ | refine Za 26 ?_ | refine ZV 26 ?_))
   all_goals (first | refine Zb 27 ?_ | refine Za 27 ?_ | refine ZX 27 ?_)
   all_goals (first | refine Zb 28 ?_ | refine Za 28 ?_ | (refine Zt (i := 28) ?_; ((try refine Zr ?_); (first | (refine Zd (.func 178) ?_; refine qC rfl rfl (hra) ?_; rintro v ρ' L' hle ⟨rfl, rfl, rfl⟩ <;> (try simp only [kM, kN, kO])) | (refine Zd (.func 178) ?_; refine qC rfl rfl (hrb) ?_; rintro v ρ' L' hle ⟨rfl, rfl, rfl⟩ <;> (try simp only [kM, kN, kO])) | (refine Zo ?_; try intro _)) <;> ((try simp only [kM, kN, kO]); refine Zc ?_; refine Zs ?_))))
   all_goals (refine ZY ?_; (first | refine Zb 29 ?_ | refine Za 29 ?_ | refine wUn 29 ?_); refine rPk 30 ?_; refine ZW 31 ?_)
   all_goals (first | refine Zb 32 ?_ | refine Za 32 ?_ | refine ZD 32 ?_ | (refine Zp (t := 45) rfl (fun hb => ?_) (fun hb => ?_) <;> (try simp only [kk] at hb) <;> first | refine Zb 32 ?_ | refine Za 32 ?_ | refine ZD 32 ?_))
   all_goals ((first | refine Zb 33 ?_ | refine Za 33 ?_ | refine wUn 33 ?_); (first | refine Zb 34 ?_ | refine Za 34 ?_ | refine ZD 34 ?_))
   all_goals (first | refine Zb 35 ?_ | refine Za 35 ?_ | refine ZV 35 ?_ | (refine Zp (t := 48) rfl (fun hb => ?_) (fun hb => ?_) <;> (try simp only [kk] at hb) <;> first | refine Zb 35 ?_ | refine Za 35 ?_ | refine ZV 35 ?_))
   all_goals ((first | refine Zb 36 ?_ | refine Za 36 ?_ | refine ZV 36 ?_); (first | refine Zb 37 ?_ | refine Za 37 ?_ | refine ZX 37 ?_); (first | refine Zb 38 ?_ | refine Za 38 ?_ | refine wCm 38 ?_); (first | refine Zb 39 ?_ | refine Za 39 ?_ | refine wPk 39 ?_); refine rPk 40 ?_; refine ZT ?_)
   all_goals (repeat' (first | (refine iBu ?_; refine ZC (Ze rfl) rfl rfl ?_) | (refine Zj ?_; first | (refine Zi ?_; refine qQ ?_) | refine Zo ?_) | refine Zc ?_ | (refine Zh ?_; refine Zz ?_) | (refine Zg ?_; refine Zy ?_) | (refine YO ?_; refine ZI rfl rfl (fun hb => ?_) (fun hb => ?_) <;> (try simp only [decide_eq_true_eq, decide_eq_false_iff_not, Bool.not_eq_true, Bool.not_eq_false, beq_iff_eq, bne_iff_ne, ne_eq, decide_eq_decide, Bool.not_eq_eq_eq_not, Bool.not_true, Bool.not_false, beq_eq_false_iff_ne, bne_eq_false_iff_eq, Bool.and_eq_true, Bool.or_eq_true, Bool.and_eq_false_imp, Bool.or_eq_false_iff, bq2, bqt, bqf] at hb)) | (refine Ya ?_; refine ZO rfl (fun hb => ?_) (fun hb => ?_) <;> (try simp only [decide_eq_true_eq, decide_eq_false_iff_not, Bool.not_eq_true, Bool.not_eq_false, beq_iff_eq, bne_iff_ne, ne_eq, decide_eq_decide, Bool.not_eq_eq_eq_not, Bool.not_true, Bool.not_false, beq_eq_false_iff_ne, bne_eq_false_iff_eq, Bool.and_eq_true, Bool.or_eq_true, Bool.and_eq_false_imp, Bool.or_eq_false_iff, bq2, bqt, bqf] at hb)) | intro _))
   all_goals (try (rw [hfin (by rw [hw]; (first | (simp [*]; done) | (simp [*]; omega) | (simp_all; done) | (simp_all; omega)))]; refine qF (L' := []) ?_; exact ⟨by first | rfl | rw [Bool.and_false], rfl, rfl⟩))
   all_goals rw [← e1]
   all_goals refine Zu (k + 1) (⟨hlt, by rw [hs, hw]; (first | (simp [*]; done) | (simp [*]; omega) | (simp_all; done) | (simp_all; omega))⟩) Zn Zn rfl tk inferInstance (by first | omega | (dsimp only; omega))
  ·have hd : decide (k = 0) = false := decide_eq_false hk0
   obtain ⟨b2, off2, C2, T2, fr2, f1, hb2, hfit2, hc2⟩ := hA.get (show k - 1 < l.length by omega)
   rw [e1] at f1
   cases f1
   rw [hb0] at hb2
   cases hb2
   have ek : ((k : Int) - 1).toNat = k - 1 := by omega
   have hfin : (rt l[k] && (decide (k = 0) || decide (Im.page (l[k - 1]'(by omega)) < Im.page l[k]))) = false → Zv mo (fun _ x => rt x) (fun y x => decide (Im.page y < Im.page x)) l mo = false := fun e => hfin0 (by rw [hs]; exact e)
   rw [hd, Bool.false_or] at hs hfin
   have hcy : C[off + ((k : Int) - 1).toNat * 7]? = some (.int .i64 (Im.page (l[k - 1]'(by omega)))) := by
    have := congrArg (fun l => l[0]?) hc2
    rw [ek]
    simp only [List.getElem?_take, List.getElem?_drop] at this
    simpa using this
   clear hc2 hfit2
   generalize l[k] = x at *
   generalize l[k - 1]'(by omega) = y at *
   (unfold imOk at hw); have hra := right_spec ρ x.av x.a him1.a.cin (fun r hr => (him1.a.row r hr).id) him1.a.kid; have hrb := right_spec ρ x.bv x.b him1.b.cin (fun r hr => (him1.b.row r hr).id) him1.b.kid
   generalize hQQ : Zv mo (fun _ x => rt x) (fun y x => decide (Im.page y < Im.page x)) l mo = q at *
   clear hfin0 hrt hR
   repeat' (first | (refine iBu ?_; refine ZC (Ze rfl) rfl rfl ?_) | (refine Zj ?_; first | (refine Zi ?_; refine qQ ?_) | refine Zo ?_) | refine Zc ?_ | (refine Zh ?_; refine Zz ?_) | (refine Zg ?_; refine Zy ?_) | intro _)
   refine ZJ (Zq _ _ _) Zx ?_
   all_goals (refine rFa 0 ?_; refine rLd 1 ?_)
   all_goals (refine Zt (i := 2) ?_; ((try refine Zr ?_); (first | (refine Zd (.func 177) ?_; refine qC rfl rfl (rpage12_spec _ _) ?_; rintro v ρ' L' hle ⟨rfl, rfl, rfl⟩ <;> (try simp only [kM, kN, kO])) | (refine Zo ?_; try intro _)) <;> ((try simp only [kM, kN, kO]); refine Zc ?_; refine Zs ?_)))
   all_goals (refine rUn 3 ?_; refine ZW 4 ?_)
   all_goals (first | refine Zb 5 ?_ | refine Za 5 ?_ | refine ZD 5 ?_ | (refine Zp (t := 18) rfl (fun hb => ?_) (fun hb => ?_) <;> (try simp only [kk] at hb) <;> first | refine Zb 5 ?_ | refine Za 5 ?_ | refine ZD 5 ?_))
   all_goals ((first | refine Zb 6 ?_ | refine Za 6 ?_ | refine wCm 6 ?_); (first | refine Zb 7 ?_ | refine Za 7 ?_ | refine ZD 7 ?_))
   all_goals (first | refine Zb 8 ?_ | refine Za 8 ?_ | refine ZD 8 ?_ | (refine Zp (t := 21) rfl (fun hb => ?_) (fun hb => ?_) <;> (try simp only [kk] at hb) <;> first | refine Zb 8 ?_ | refine Za 8 ?_ | refine ZD 8 ?_))
   all_goals ((first | refine Zb 9 ?_ | refine Za 9 ?_ | refine ZD 9 ?_); (first | refine Zb 10 ?_ | refine Za 10 ?_ | refine wSb 10 ?_); (first | refine Zb 11 ?_ | refine Za 11 ?_ | refine wIa 11 ?_); (first | refine Zb 12 ?_ | refine Za 12 ?_ | refine ZV 12 ?_); (first | refine Zb 13 ?_ | refine Za 13 ?_ | refine ZX 13 ?_); (first | refine Zb 14 ?_ | refine Za 14 ?_ | refine ZV 14 ?_); (first | refine Zb 15 ?_ | refine Za 15 ?_ | refine ZX 15 ?_); (first | refine Zb 16 ?_ | refine Za 16 ?_ | refine wCm 16 ?_); (first | refine Zb 17 ?_ | refine Za 17 ?_ | refine wPk 17 ?_); refine rPk 18 ?_; refine ZW 19 ?_)
   all_goals (first | refine Zb 20 ?_ | refine Za 20 ?_ | refine ZV 20 ?_ | (refine Zp (t := 33) rfl (fun hb => ?_) (fun hb => ?_) <;> (try simp only [kk] at hb) <;> first | refine Zb 20 ?_ | refine Za 20 ?_ | refine ZV 20 ?_))
   all_goals (first | refine Zb 21 ?_ | refine Za 21 ?_ | refine ZX 21 ?_)
   all_goals (first | refine Zb 22 ?_ | refine Za 22 ?_ | (refine Zt (i := 22) ?_; ((try refine Zr ?_); (first | (refine Zd (.func 178) ?_; refine qC rfl rfl (hra) ?_; rintro v ρ' L' hle ⟨rfl, rfl, rfl⟩ <;> (try simp only [kM, kN, kO])) | (refine Zd (.func 178) ?_; refine qC rfl rfl (hrb) ?_; rintro v ρ' L' hle ⟨rfl, rfl, rfl⟩ <;> (try simp only [kM, kN, kO])) | (refine Zo ?_; try intro _)) <;> ((try simp only [kM, kN, kO]); refine Zc ?_; refine Zs ?_))))
   all_goals ((first | refine Zb 23 ?_ | refine Za 23 ?_ | refine wUn 23 ?_); refine rPk 24 ?_; refine ZW 25 ?_)
   all_goals (first | refine Zb 26 ?_ | refine Za 26 ?_ | refine ZV 26 ?_ | (refine Zp (t := 39) rfl (fun hb => ?_) (fun hb => ?_) <;> (try simp only [kk] at hb) <;> first | refine Zb 26 ?_ | refine Za 26 ?_ | refine ZV 26 ?_))
   all_goals (first | refine Zb 27 ?_ | refine Za 27 ?_ | refine ZX 27 ?_)
   all_goals (first | refine Zb 28 ?_ | refine Za 28 ?_ | (refine Zt (i := 28) ?_; ((try refine Zr ?_); (first | (refine Zd (.func 178) ?_; refine qC rfl rfl (hra) ?_; rintro v ρ' L' hle ⟨rfl, rfl, rfl⟩ <;> (try simp only [kM, kN, kO])) | (refine Zd (.func 178) ?_; refine qC rfl rfl (hrb) ?_; rintro v ρ' L' hle ⟨rfl, rfl, rfl⟩ <;> (try simp only [kM, kN, kO])) | (refine Zo ?_; try intro _)) <;> ((try simp only [kM, kN, kO]); refine Zc ?_; refine Zs ?_))))
   all_goals (refine ZY ?_; (first | refine Zb 29 ?_ | refine Za 29 ?_ | refine wUn 29 ?_); refine rPk 30 ?_; refine ZW 31 ?_)
   all_goals (first | refine Zb 32 ?_ | refine Za 32 ?_ | refine ZD 32 ?_ | (refine Zp (t := 45) rfl (fun hb => ?_) (fun hb => ?_) <;> (try simp only [kk] at hb) <;> first | refine Zb 32 ?_ | refine Za 32 ?_ | refine ZD 32 ?_))
   all_goals ((first | refine Zb 33 ?_ | refine Za 33 ?_ | refine wUn 33 ?_); (first | refine Zb 34 ?_ | refine Za 34 ?_ | refine ZD 34 ?_))
   all_goals (first | refine Zb 35 ?_ | refine Za 35 ?_ | refine ZV 35 ?_ | (refine Zp (t := 48) rfl (fun hb => ?_) (fun hb => ?_) <;> (try simp only [kk] at hb) <;> first | refine Zb 35 ?_ | refine Za 35 ?_ | refine ZV 35 ?_))
   all_goals ((first | refine Zb 36 ?_ | refine Za 36 ?_ | refine ZV 36 ?_); (first | refine Zb 37 ?_ | refine Za 37 ?_ | refine ZX 37 ?_); (first | refine Zb 38 ?_ | refine Za 38 ?_ | refine wCm 38 ?_); (first | refine Zb 39 ?_ | refine Za 39 ?_ | refine wPk 39 ?_); refine rPk 40 ?_; refine ZT ?_)
   all_goals (repeat' (first | (refine iBu ?_; refine ZC (Ze rfl) rfl rfl ?_) | (refine Zj ?_; first | (refine Zi ?_; refine qQ ?_) | refine Zo ?_) | refine Zc ?_ | (refine Zh ?_; refine Zz ?_) | (refine Zg ?_; refine Zy ?_) | (refine YO ?_; refine ZI rfl rfl (fun hb => ?_) (fun hb => ?_) <;> (try simp only [decide_eq_true_eq, decide_eq_false_iff_not, Bool.not_eq_true, Bool.not_eq_false, beq_iff_eq, bne_iff_ne, ne_eq, decide_eq_decide, Bool.not_eq_eq_eq_not, Bool.not_true, Bool.not_false, beq_eq_false_iff_ne, bne_eq_false_iff_eq, Bool.and_eq_true, Bool.or_eq_true, Bool.and_eq_false_imp, Bool.or_eq_false_iff, bq2, bqt, bqf] at hb)) | (refine Ya ?_; refine ZO rfl (fun hb => ?_) (fun hb => ?_) <;> (try simp only [decide_eq_true_eq, decide_eq_false_iff_not, Bool.not_eq_true, Bool.not_eq_false, beq_iff_eq, bne_iff_ne, ne_eq, decide_eq_decide, Bool.not_eq_eq_eq_not, Bool.not_true, Bool.not_false, beq_eq_false_iff_ne, bne_eq_false_iff_eq, Bool.and_eq_true, Bool.or_eq_true, Bool.and_eq_false_imp, Bool.or_eq_false_iff, bq2, bqt, bqf] at hb)) | intro _))
   all_goals (try (rw [hfin (by rw [hw]; (first | (simp [*]; done) | (simp [*]; omega) | (simp_all; done) | (simp_all; omega)))]; refine qF (L' := []) ?_; exact ⟨by first | rfl | rw [Bool.and_false], rfl, rfl⟩))
   all_goals rw [← e1]
   all_goals refine Zu (k + 1) (⟨hlt, by rw [hs, hw]; (first | (simp [*]; done) | (simp [*]; omega) | (simp_all; done) | (simp_all; omega))⟩) Zn Zn rfl tk inferInstance (by first | omega | (dsimp only; omega))
 ·have hk2 : k = mo := by omega
  rw [hk2] at hok
  rw [hok]
  repeat' (first | (refine iBu ?_; refine ZC (Ze rfl) rfl rfl ?_) | (refine Zj ?_; first | (refine Zi ?_; refine qQ ?_) | refine Zo ?_) | refine Zc ?_ | (refine Zh ?_; refine Zz ?_) | (refine Zg ?_; refine Zy ?_) | (refine YO ?_; refine ZI rfl rfl (fun hb => ?_) (fun hb => ?_) <;> (try simp only [decide_eq_true_eq, decide_eq_false_iff_not, Bool.not_eq_true, Bool.not_eq_false, beq_iff_eq, bne_iff_ne, ne_eq, decide_eq_decide, Bool.not_eq_eq_eq_not, Bool.not_true, Bool.not_false, beq_eq_false_iff_ne, bne_eq_false_iff_eq, Bool.and_eq_true, Bool.or_eq_true, Bool.and_eq_false_imp, Bool.or_eq_false_iff, bq2, bqt, bqf] at hb)) | (refine Ya ?_; refine ZO rfl (fun hb => ?_) (fun hb => ?_) <;> (try simp only [decide_eq_true_eq, decide_eq_false_iff_not, Bool.not_eq_true, Bool.not_eq_false, beq_iff_eq, bne_iff_ne, ne_eq, decide_eq_decide, Bool.not_eq_eq_eq_not, Bool.not_true, Bool.not_false, beq_eq_false_iff_ne, bne_eq_false_iff_eq, Bool.and_eq_true, Bool.or_eq_true, Bool.and_eq_false_imp, Bool.or_eq_false_iff, bq2, bqt, bqf] at hb)) | intro _)
  all_goals (refine qF (L' := []) ?_; exact ⟨Yi (by (try simp [*]); first | done | omega | (intros; omega) | (constructor <;> intros <;> (try simp_all) <;> omega)), rfl, rfl⟩)
end Go.Proofs.E
