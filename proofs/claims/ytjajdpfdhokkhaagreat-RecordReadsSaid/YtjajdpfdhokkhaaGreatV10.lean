/- The law RecordReads. Part 10 of 21. -/
import Derived.Test.YtjajdpfdhokkhaaGreatV9
namespace Go.Proofs.E
open Go
set_option linter.unusedVariables false
set_option linter.unusedSimpArgs false
set_option linter.unusedSectionVars false
set_option maxRecDepth 4000
set_option maxHeartbeats 1000000
attribute [local irreducible] Yl TL TC TE Spec XW R1 Hp.le EnvLe TS TR YS Zv
theorem dirty12_spec (ρ : Hp) (s : SV) (l : List CkP) (h : AS ρ 2 XF s l) (lsn : Nat)  :
  Spec Tryz.prog 98 [.slice s.a s.n s.c, .int .u64 lsn] ρ [] (fun z ρ' L' => z = .bool (upB (WE lsn) CkP.page l l.length) ∧ ρ' = ρ ∧ L' = []) := by
 have hl := h.at'.len
 have hn := h.big
 have hA := h.at'
 generalize hR : (WE lsn) = rt
 unfold upB
 generalize hm : l.length = mo
 have hrt : ∀ x, rt x = (WE lsn) x := fun x => by rw [hR]
 refine Zf Tryz.func98 rfl rfl rfl fun u R => ?_
 simp only [Zx, List.cons_append, List.nil_append]
 repeat' (first | (refine ZG ?_; refine Zn (Ze rfl) rfl rfl ?_) | (refine Zj ?_; first | (refine Zg ?_; refine qQ ?_) | refine Zl ?_) | refine Za ?_ | (refine Zi ?_; refine Zq ?_) | (refine Zh ?_; refine Zp ?_) | intro _)
 refine Zy [(0, _), (1, _), (7, _), (8, _)] (fun (ζ : (Nat)) => [(9, .int .i64 ζ), (4, .bool false)]) (fun (ζ : (Nat)) => ρ) (fun (ζ : (Nat)) => []) (fun (ζ : (Nat)) => ζ ≤ s.n ∧ ZH mo (fun _ x => rt x) (fun y x => decide (CkP.page y < CkP.page x)) l ζ = true) (fun (ζ : (Nat)) => s.n - ζ) (0) (⟨Nat.zero_le _, by rw [ZH]; simp [hm]⟩) Zk Zk rfl tk ?_
 rintro k hI
 try simp only [List.cons_append, List.nil_append, List.append_assoc, List.append_eq] at hI ⊢
 try dsimp only at hI ⊢
 obtain ⟨hk, hok⟩ := hI
 by_cases hlt : k < s.n
 ·obtain ⟨b, off, C, T, fr, e1, hb0, hfit, hc⟩ := hA.get (show k < l.length by omega)
  have hs := YZ (most := mo) (right := fun _ x => rt x) (lt := fun y x => decide (CkP.page y < CkP.page x)) (show k < l.length by omega)
  have hfin0 := fun (e : ZH mo (fun _ x => rt x) (fun y x => decide (CkP.page y < CkP.page x)) l (k + 1) = false) => YO e (show k + 1 ≤ mo by omega)
  rw [hok, Bool.true_and] at hs
  have hw := hrt l[k]
  skip
  rw [e1]
  by_cases hk0 : k = 0
  ·have hfin : (rt l[k] && (decide (k = 0) || decide (CkP.page (l[k - 1]'(by omega)) < CkP.page l[k]))) = false → ZH mo (fun _ x => rt x) (fun y x => decide (CkP.page y < CkP.page x)) l mo = false := fun e => hfin0 (by rw [hs]; exact e)
   rw [decide_eq_true hk0, Bool.true_or, Bool.and_true] at hs hfin
   generalize l[k] = x at *
   unfold WE at hw
   generalize hQQ : ZH mo (fun _ x => rt x) (fun y x => decide (CkP.page y < CkP.page x)) l mo = q at *
   clear hfin0 hrt hR
   repeat' (first | (refine ZG ?_; refine Zn (Ze rfl) rfl rfl ?_) | (refine Zj ?_; first | (refine Zg ?_; refine qQ ?_) | refine Zl ?_) | refine Za ?_ | (refine Zi ?_; refine Zq ?_) | (refine Zh ?_; refine Zp ?_) | intro _)
   refine ZI (Zv _ _ _) ZC ?_
   all_goals (refine rFa 0 ?_; refine Yr 1 ?_)
   all_goals (refine Zt (i := 2) ?_; ((try refine Zr ?_); (first | (refine Zc (.func 177) ?_; refine qC rfl rfl (rpage12_spec _ _) ?_; rintro v ρ' L' hle ⟨rfl, rfl, rfl⟩ <;> (try simp only [kM, kN, kO])) | (refine Zl ?_; try intro _)) <;> ((try simp only [kM, kN, kO]); refine Za ?_; refine Zs ?_)))
   all_goals (refine Yi ?_; refine rUn 3 ?_; refine Ye 4 ?_)
   all_goals (first | refine Zd 5 ?_ | refine Zb 5 ?_ | refine ZT 5 ?_ | (refine ZD (t := 18) rfl (fun hb => ?_) (fun hb => ?_) <;> (try simp only [kk] at hb) <;> first | refine Zd 5 ?_ | refine Zb 5 ?_ | refine ZT 5 ?_))
   all_goals ((first | refine Zd 6 ?_ | refine Zb 6 ?_ | refine wCm 6 ?_); (first | refine Zd 7 ?_ | refine Zb 7 ?_ | refine ZT 7 ?_))
   all_goals (first | refine Zd 8 ?_ | refine Zb 8 ?_ | refine ZT 8 ?_ | (refine ZD (t := 21) rfl (fun hb => ?_) (fun hb => ?_) <;> (try simp only [kk] at hb) <;> first | refine Zd 8 ?_ | refine Zb 8 ?_ | refine ZT 8 ?_))
   all_goals ((first | refine Zd 9 ?_ | refine Zb 9 ?_ | refine ZT 9 ?_); (first | refine Zd 10 ?_ | refine Zb 10 ?_ | refine wSb 10 ?_); (first | refine Zd 11 ?_ | refine Zb 11 ?_ | refine wIa 11 ?_); (first | refine Zd 12 ?_ | refine Zb 12 ?_ | refine wFa 12 ?_); (first | refine Zd 13 ?_ | refine Zb 13 ?_ | refine wLd 13 ?_); (first | refine Zd 14 ?_ | refine Zb 14 ?_ | refine wFa 14 ?_); (first | refine Zd 15 ?_ | refine Zb 15 ?_ | refine wLd 15 ?_); (first | refine Zd 16 ?_ | refine Zb 16 ?_ | refine wCm 16 ?_); (first | refine Zd 17 ?_ | refine Zb 17 ?_ | refine wPk 17 ?_); refine rPk 18 ?_; refine Ye 19 ?_)
   all_goals (first | refine Zd 20 ?_ | refine Zb 20 ?_ | refine wFa 20 ?_ | (refine ZD (t := 33) rfl (fun hb => ?_) (fun hb => ?_) <;> (try simp only [kk] at hb) <;> first | refine Zd 20 ?_ | refine Zb 20 ?_ | refine wFa 20 ?_))
   all_goals ((first | refine Zd 21 ?_ | refine Zb 21 ?_ | refine wLd 21 ?_); (first | refine Zd 22 ?_ | refine Zb 22 ?_ | refine wCm 22 ?_); refine rPk 23 ?_; refine Ye 24 ?_)
   all_goals (first | refine Zd 25 ?_ | refine Zb 25 ?_ | refine wFa 25 ?_ | (refine ZD (t := 38) rfl (fun hb => ?_) (fun hb => ?_) <;> (try simp only [kk] at hb) <;> first | refine Zd 25 ?_ | refine Zb 25 ?_ | refine wFa 25 ?_))
   all_goals ((first | refine Zd 26 ?_ | refine Zb 26 ?_ | refine wLd 26 ?_); (first | refine Zd 27 ?_ | refine Zb 27 ?_ | refine ZT 27 ?_); (first | refine Zd 28 ?_ | refine Zb 28 ?_ | refine wCm 28 ?_); refine rPk 29 ?_; refine ZP ?_)
   all_goals (repeat' (first | (refine ZG ?_; refine Zn (Ze rfl) rfl rfl ?_) | (refine Zj ?_; first | (refine Zg ?_; refine qQ ?_) | refine Zl ?_) | refine Za ?_ | (refine Zi ?_; refine Zq ?_) | (refine Zh ?_; refine Zp ?_) | (refine XO ?_; refine Yd rfl rfl (fun hb => ?_) (fun hb => ?_) <;> (try simp only [decide_eq_true_eq, decide_eq_false_iff_not, Bool.not_eq_true, Bool.not_eq_false, beq_iff_eq, bne_iff_ne, ne_eq, decide_eq_decide, Bool.not_eq_eq_eq_not, Bool.not_true, Bool.not_false, beq_eq_false_iff_ne, bne_eq_false_iff_eq, Bool.and_eq_true, Bool.or_eq_true, Bool.and_eq_false_imp, Bool.or_eq_false_iff, bq2, bqt, bqf] at hb)) | (refine Yx ?_; refine Yp rfl (fun hb => ?_) (fun hb => ?_) <;> (try simp only [decide_eq_true_eq, decide_eq_false_iff_not, Bool.not_eq_true, Bool.not_eq_false, beq_iff_eq, bne_iff_ne, ne_eq, decide_eq_decide, Bool.not_eq_eq_eq_not, Bool.not_true, Bool.not_false, beq_eq_false_iff_ne, bne_eq_false_iff_eq, Bool.and_eq_true, Bool.or_eq_true, Bool.and_eq_false_imp, Bool.or_eq_false_iff, bq2, bqt, bqf] at hb)) | intro _))
   all_goals (try (rw [hfin (by rw [hw]; (first | (simp [*]; done) | (simp [*]; omega) | (simp_all; done) | (simp_all; omega)))]; refine qF (L' := []) ?_; exact ⟨by first | rfl | rw [Bool.and_false], rfl, rfl⟩))
   all_goals rw [← e1]
   all_goals refine Zo (k + 1) (⟨hlt, by rw [hs, hw]; (first | (simp [*]; done) | (simp [*]; omega) | (simp_all; done) | (simp_all; omega))⟩) Zk Zk rfl tk inferInstance (by first | omega | (dsimp only; omega))
  ·have hd : decide (k = 0) = false := decide_eq_false hk0
   obtain ⟨b2, off2, C2, T2, fr2, f1, hb2, hfit2, hc2⟩ := hA.get (show k - 1 < l.length by omega)
   rw [e1] at f1
   cases f1
   rw [hb0] at hb2
   cases hb2
   have ek : ((k : Int) - 1).toNat = k - 1 := by omega
   have hfin : (rt l[k] && (decide (k = 0) || decide (CkP.page (l[k - 1]'(by omega)) < CkP.page l[k]))) = false → ZH mo (fun _ x => rt x) (fun y x => decide (CkP.page y < CkP.page x)) l mo = false := fun e => hfin0 (by rw [hs]; exact e)
   rw [hd, Bool.false_or] at hs hfin
   have hcy : C[off + ((k : Int) - 1).toNat * 2]? = some (.int .i64 (CkP.page (l[k - 1]'(by omega)))) := by
    have := congrArg (fun l => l[0]?) hc2
    rw [ek]
    simp only [List.getElem?_take, List.getElem?_drop] at this
    simpa using this
   clear hc2 hfit2
   generalize l[k] = x at *
   generalize l[k - 1]'(by omega) = y at *
   unfold WE at hw
   generalize hQQ : ZH mo (fun _ x => rt x) (fun y x => decide (CkP.page y < CkP.page x)) l mo = q at *
   clear hfin0 hrt hR
   repeat' (first | (refine ZG ?_; refine Zn (Ze rfl) rfl rfl ?_) | (refine Zj ?_; first | (refine Zg ?_; refine qQ ?_) | refine Zl ?_) | refine Za ?_ | (refine Zi ?_; refine Zq ?_) | (refine Zh ?_; refine Zp ?_) | intro _)
   refine ZI (Zv _ _ _) ZC ?_
   all_goals (refine rFa 0 ?_; refine Yr 1 ?_)
   all_goals (refine Zt (i := 2) ?_; ((try refine Zr ?_); (first | (refine Zc (.func 177) ?_; refine qC rfl rfl (rpage12_spec _ _) ?_; rintro v ρ' L' hle ⟨rfl, rfl, rfl⟩ <;> (try simp only [kM, kN, kO])) | (refine Zl ?_; try intro _)) <;> ((try simp only [kM, kN, kO]); refine Za ?_; refine Zs ?_)))
   all_goals (refine Yi ?_; refine rUn 3 ?_; refine Ye 4 ?_)
   all_goals (first | refine Zd 5 ?_ | refine Zb 5 ?_ | refine ZT 5 ?_ | (refine ZD (t := 18) rfl (fun hb => ?_) (fun hb => ?_) <;> (try simp only [kk] at hb) <;> first | refine Zd 5 ?_ | refine Zb 5 ?_ | refine ZT 5 ?_))
   all_goals ((first | refine Zd 6 ?_ | refine Zb 6 ?_ | refine wCm 6 ?_); (first | refine Zd 7 ?_ | refine Zb 7 ?_ | refine ZT 7 ?_))
   all_goals (first | refine Zd 8 ?_ | refine Zb 8 ?_ | refine ZT 8 ?_ | (refine ZD (t := 21) rfl (fun hb => ?_) (fun hb => ?_) <;> (try simp only [kk] at hb) <;> first | refine Zd 8 ?_ | refine Zb 8 ?_ | refine ZT 8 ?_))
   all_goals ((first | refine Zd 9 ?_ | refine Zb 9 ?_ | refine ZT 9 ?_); (first | refine Zd 10 ?_ | refine Zb 10 ?_ | refine wSb 10 ?_); (first | refine Zd 11 ?_ | refine Zb 11 ?_ | refine wIa 11 ?_); (first | refine Zd 12 ?_ | refine Zb 12 ?_ | refine wFa 12 ?_); (first | refine Zd 13 ?_ | refine Zb 13 ?_ | refine wLd 13 ?_); (first | refine Zd 14 ?_ | refine Zb 14 ?_ | refine wFa 14 ?_); (first | refine Zd 15 ?_ | refine Zb 15 ?_ | refine wLd 15 ?_); (first | refine Zd 16 ?_ | refine Zb 16 ?_ | refine wCm 16 ?_); (first | refine Zd 17 ?_ | refine Zb 17 ?_ | refine wPk 17 ?_); refine rPk 18 ?_; refine Ye 19 ?_)
   all_goals (first | refine Zd 20 ?_ | refine Zb 20 ?_ | refine wFa 20 ?_ | (refine ZD (t := 33) rfl (fun hb => ?_) (fun hb => ?_) <;> (try simp only [kk] at hb) <;> first | refine Zd 20 ?_ | refine Zb 20 ?_ | refine wFa 20 ?_))
   all_goals ((first | refine Zd 21 ?_ | refine Zb 21 ?_ | refine wLd 21 ?_); (first | refine Zd 22 ?_ | refine Zb 22 ?_ | refine wCm 22 ?_); refine rPk 23 ?_; refine Ye 24 ?_)
   all_goals (first | refine Zd 25 ?_ | refine Zb 25 ?_ | refine wFa 25 ?_ | (refine ZD (t := 38) rfl (fun hb => ?_) (fun hb => ?_) <;> (try simp only [kk] at hb) <;> first | refine Zd 25 ?_ | refine Zb 25 ?_ | refine wFa 25 ?_))
   all_goals ((first | refine Zd 26 ?_ | refine Zb 26 ?_ | refine wLd 26 ?_); (first | refine Zd 27 ?_ | refine Zb 27 ?_ | refine ZT 27 ?_); (first | refine Zd 28 ?_ | refine Zb 28 ?_ | refine wCm 28 ?_); refine rPk 29 ?_; refine ZP ?_)
   all_goals (repeat' (first | (refine ZG ?_; refine Zn (Ze rfl) rfl rfl ?_) | (refine Zj ?_; first | (refine Zg ?_; refine qQ ?_) | refine Zl ?_) | refine Za ?_ | (refine Zi ?_; refine Zq ?_) | (refine Zh ?_; refine Zp ?_) | (refine XO ?_; refine Yd rfl rfl (fun hb => ?_) (fun hb => ?_) <;> (try simp only [decide_eq_true_eq, decide_eq_false_iff_not, Bool.not_eq_true, Bool.not_eq_false, beq_iff_eq, bne_iff_ne, ne_eq, decide_eq_decide, Bool.not_eq_eq_eq_not, Bool.not_true, Bool.not_false, beq_eq_false_iff_ne, bne_eq_false_iff_eq, Bool.and_eq_true, Bool.or_eq_true, Bool.and_eq_false_imp, Bool.or_eq_false_iff, bq2, bqt, bqf] at hb)) | (refine Yx ?_; refine Yp rfl (fun hb => ?_) (fun hb => ?_) <;> (try simp only [decide_eq_true_eq, decide_eq_false_iff_not, Bool.not_eq_true, Bool.not_eq_false, beq_iff_eq, bne_iff_ne, ne_eq, decide_eq_decide, Bool.not_eq_eq_eq_not, Bool.not_true, Bool.not_false, beq_eq_false_iff_ne, bne_eq_false_iff_eq, Bool.and_eq_true, Bool.or_eq_true, Bool.and_eq_false_imp, Bool.or_eq_false_iff, bq2, bqt, bqf] at hb)) | intro _))
   all_goals (try (rw [hfin (by rw [hw]; (first | (simp [*]; done) | (simp [*]; omega) | (simp_all; done) | (simp_all; omega)))]; refine qF (L' := []) ?_; exact ⟨by first | rfl | rw [Bool.and_false], rfl, rfl⟩))
   all_goals rw [← e1]
   all_goals refine Zo (k + 1) (⟨hlt, by rw [hs, hw]; (first | (simp [*]; done) | (simp [*]; omega) | (simp_all; done) | (simp_all; omega))⟩) Zk Zk rfl tk inferInstance (by first | omega | (dsimp only; omega))
 ·have hk2 : k = mo := by omega
  rw [hk2] at hok
  rw [hok]
  repeat' (first | (refine ZG ?_; refine Zn (Ze rfl) rfl rfl ?_) | (refine Zj ?_; first | (refine Zg ?_; refine qQ ?_) | refine Zl ?_) | refine Za ?_ | (refine Zi ?_; refine Zq ?_) | (refine Zh ?_; refine Zp ?_) | (refine XO ?_; refine Yd rfl rfl (fun hb => ?_) (fun hb => ?_) <;> (try simp only [decide_eq_true_eq, decide_eq_false_iff_not, Bool.not_eq_true, Bool.not_eq_false, beq_iff_eq, bne_iff_ne, ne_eq, decide_eq_decide, Bool.not_eq_eq_eq_not, Bool.not_true, Bool.not_false, beq_eq_false_iff_ne, bne_eq_false_iff_eq, Bool.and_eq_true, Bool.or_eq_true, Bool.and_eq_false_imp, Bool.or_eq_false_iff, bq2, bqt, bqf] at hb)) | (refine Yx ?_; refine Yp rfl (fun hb => ?_) (fun hb => ?_) <;> (try simp only [decide_eq_true_eq, decide_eq_false_iff_not, Bool.not_eq_true, Bool.not_eq_false, beq_iff_eq, bne_iff_ne, ne_eq, decide_eq_decide, Bool.not_eq_eq_eq_not, Bool.not_true, Bool.not_false, beq_eq_false_iff_ne, bne_eq_false_iff_eq, Bool.and_eq_true, Bool.or_eq_true, Bool.and_eq_false_imp, Bool.or_eq_false_iff, bq2, bqt, bqf] at hb)) | intro _)
  all_goals (refine qF (L' := []) ?_; exact ⟨rfl, rfl, rfl⟩)
theorem txns12_spec (ρ : Hp) (s : SV) (l : List CkT) (h : AS ρ 5 Xk s l) (lsn : Nat) (next : Int)  :
  Spec Tryz.prog 97 [.slice s.a s.n s.c, .int .u64 lsn, .int .i64 next] ρ [] (fun z ρ' L' => z = .bool (decide (l.length ≤ 8) && upB (ckTOk lsn next) CkT.txn l l.length) ∧ ρ' = ρ ∧ L' = []) := by
 have hl := h.at'.len
 have hn := h.big
 have hA := h.at'
 generalize hR : (ckTOk lsn next) = rt
 unfold upB
 generalize hm : l.length = mo
 have hrt : ∀ x, rt x = (ckTOk lsn next) x := fun x => by rw [hR]
 refine Zf Tryz.func97 rfl rfl rfl fun u R => ?_
 simp only [Zx, List.cons_append, List.nil_append]
 repeat' (first | (refine ZG ?_; refine Zn (Ze rfl) rfl rfl ?_) | (refine Zj ?_; first | (refine Zg ?_; refine qQ ?_) | refine Zl ?_) | refine Za ?_ | (refine Zi ?_; refine Zq ?_) | (refine Zh ?_; refine Zp ?_) | intro _)
 refine Zy [(0, _), (1, _), (2, _), (9, _), (10, _)] (fun (ζ : (Nat)) => [(11, .int .i64 ζ), (6, .bool false)]) (fun (ζ : (Nat)) => ρ) (fun (ζ : (Nat)) => []) (fun (ζ : (Nat)) => ζ ≤ s.n ∧ ZH mo (fun _ x => rt x) (fun y x => decide (CkT.txn y < CkT.txn x)) l ζ = true) (fun (ζ : (Nat)) => s.n - ζ) (0) (⟨Nat.zero_le _, by rw [ZH]; simp [hm]⟩) Zk Zk rfl tk ?_
 rintro k hI
 try simp only [List.cons_append, List.nil_append, List.append_assoc, List.append_eq] at hI ⊢
 try dsimp only at hI ⊢
 obtain ⟨hk, hok⟩ := hI
 by_cases hlt : k < s.n
 ·obtain ⟨b, off, C, T, fr, e1, hb0, hfit, hc⟩ := hA.get (show k < l.length by omega)
  have hs := YZ (most := mo) (right := fun _ x => rt x) (lt := fun y x => decide (CkT.txn y < CkT.txn x)) (show k < l.length by omega)
  have hfin0 := fun (e : ZH mo (fun _ x => rt x) (fun y x => decide (CkT.txn y < CkT.txn x)) l (k + 1) = false) => YO e (show k + 1 ≤ mo by omega)
  rw [hok, Bool.true_and] at hs
  have hw := hrt l[k]
  skip
  rw [e1]
  by_cases hk0 : k = 0
  ·have hfin : (rt l[k] && (decide (k = 0) || decide (CkT.txn (l[k - 1]'(by omega)) < CkT.txn l[k]))) = false → ZH mo (fun _ x => rt x) (fun y x => decide (CkT.txn y < CkT.txn x)) l mo = false := fun e => hfin0 (by rw [hs]; exact e)
   rw [decide_eq_true hk0, Bool.true_or, Bool.and_true] at hs hfin
   generalize l[k] = x at *
   unfold ckTOk at hw
   generalize hQQ : ZH mo (fun _ x => rt x) (fun y x => decide (CkT.txn y < CkT.txn x)) l mo = q at *
   clear hfin0 hrt hR
   repeat' (first | (refine ZG ?_; refine Zn (Ze rfl) rfl rfl ?_) | (refine Zj ?_; first | (refine Zg ?_; refine qQ ?_) | refine Zl ?_) | refine Za ?_ | (refine Zi ?_; refine Zq ?_) | (refine Zh ?_; refine Zp ?_) | intro _)
   refine ZI (Zv _ _ _) ZC ?_
   all_goals (refine rFa 0 ?_; refine Yi ?_; refine Yr 1 ?_; refine rCm 2 ?_; refine Ye 3 ?_)
   all_goals (first | refine Zd 4 ?_ | refine Zb 4 ?_ | refine wFa 4 ?_ | (refine ZD (t := 19) rfl (fun hb => ?_) (fun hb => ?_) <;> (try simp only [kk] at hb) <;> first | refine Zd 4 ?_ | refine Zb 4 ?_ | refine wFa 4 ?_))
   all_goals ((first | refine Zd 5 ?_ | refine Zb 5 ?_ | refine wLd 5 ?_); (first | refine Zd 6 ?_ | refine Zb 6 ?_ | refine ZT 6 ?_); (first | refine Zd 7 ?_ | refine Zb 7 ?_ | refine wCm 7 ?_); refine rPk 8 ?_; refine Ye 9 ?_)
   all_goals (first | refine Zd 10 ?_ | refine Zb 10 ?_ | refine ZT 10 ?_ | (refine ZD (t := 25) rfl (fun hb => ?_) (fun hb => ?_) <;> (try simp only [kk] at hb) <;> first | refine Zd 10 ?_ | refine Zb 10 ?_ | refine ZT 10 ?_))
   all_goals ((first | refine Zd 11 ?_ | refine Zb 11 ?_ | refine wCm 11 ?_); (first | refine Zd 12 ?_ | refine Zb 12 ?_ | refine ZT 12 ?_))
   all_goals (first | refine Zd 13 ?_ | refine Zb 13 ?_ | refine ZT 13 ?_ | (refine ZD (t := 28) rfl (fun hb => ?_) (fun hb => ?_) <;> (try simp only [kk] at hb) <;> first | refine Zd 13 ?_ | refine Zb 13 ?_ | refine ZT 13 ?_))
   all_goals ((first | refine Zd 14 ?_ | refine Zb 14 ?_ | refine ZT 14 ?_); (first | refine Zd 15 ?_ | refine Zb 15 ?_ | refine wSb 15 ?_); (first | refine Zd 16 ?_ | refine Zb 16 ?_ | refine wIa 16 ?_); (first | refine Zd 17 ?_ | refine Zb 17 ?_ | refine wFa 17 ?_); (first | refine Zd 18 ?_ | refine Zb 18 ?_ | refine wLd 18 ?_); (first | refine Zd 19 ?_ | refine Zb 19 ?_ | refine wFa 19 ?_); (first | refine Zd 20 ?_ | refine Zb 20 ?_ | refine wLd 20 ?_); (first | refine Zd 21 ?_ | refine Zb 21 ?_ | refine wCm 21 ?_); (first | refine Zd 22 ?_ | refine Zb 22 ?_ | refine wPk 22 ?_); refine rPk 23 ?_; refine Ye 24 ?_)
   all_goals (first | refine Zd 25 ?_ | refine Zb 25 ?_ | refine wFa 25 ?_ | (refine ZD (t := 40) rfl (fun hb => ?_) (fun hb => ?_) <;> (try simp only [kk] at hb) <;> first | refine Zd 25 ?_ | refine Zb 25 ?_ | refine wFa 25 ?_))
   all_goals ((first | refine Zd 26 ?_ | refine Zb 26 ?_ | refine wLd 26 ?_); (first | refine Zd 27 ?_ | refine Zb 27 ?_ | refine wCm 27 ?_); refine rPk 28 ?_; refine Ye 29 ?_)
   all_goals (first | refine Zd 30 ?_ | refine Zb 30 ?_ | refine wFa 30 ?_ | (refine ZD (t := 45) rfl (fun hb => ?_) (fun hb => ?_) <;> (try simp only [kk] at hb) <;> first | refine Zd 30 ?_ | refine Zb 30 ?_ | refine wFa 30 ?_))
   all_goals ((first | refine Zd 31 ?_ | refine Zb 31 ?_ | refine wLd 31 ?_); (first | refine Zd 32 ?_ | refine Zb 32 ?_ | refine wFa 32 ?_); (first | refine Zd 33 ?_ | refine Zb 33 ?_ | refine wLd 33 ?_); (first | refine Zd 34 ?_ | refine Zb 34 ?_ | refine wCm 34 ?_); refine rPk 35 ?_; refine Ye 36 ?_)
   all_goals (first | refine Zd 37 ?_ | refine Zb 37 ?_ | refine wFa 37 ?_ | (refine ZD (t := 52) rfl (fun hb => ?_) (fun hb => ?_) <;> (try simp only [kk] at hb) <;> first | refine Zd 37 ?_ | refine Zb 37 ?_ | refine wFa 37 ?_))
   all_goals ((first | refine Zd 38 ?_ | refine Zb 38 ?_ | refine wLd 38 ?_); (first | refine Zd 39 ?_ | refine Zb 39 ?_ | refine ZT 39 ?_); (first | refine Zd 40 ?_ | refine Zb 40 ?_ | refine wCm 40 ?_); refine rPk 41 ?_; refine Ye 42 ?_)
   all_goals (first | refine Zd 43 ?_ | refine Zb 43 ?_ | refine wFa 43 ?_ | (refine ZD (t := 58) rfl (fun hb => ?_) (fun hb => ?_) <;> (try simp only [kk] at hb) <;> first | refine Zd 43 ?_ | refine Zb 43 ?_ | refine wFa 43 ?_))
   all_goals ((first | refine Zd 44 ?_ | refine Zb 44 ?_ | refine wLd 44 ?_); (first | refine Zd 45 ?_ | refine Zb 45 ?_ | refine wFa 45 ?_); (first | refine Zd 46 ?_ | refine Zb 46 ?_ | refine wLd 46 ?_); (first | refine Zd 47 ?_ | refine Zb 47 ?_ | refine wCm 47 ?_); refine rPk 48 ?_; refine Ye 49 ?_)
   all_goals (first | refine Zd 50 ?_ | refine Zb 50 ?_ | refine wFa 50 ?_ | (refine ZD (t := 65) rfl (fun hb => ?_) (fun hb => ?_) <;> (try simp only [kk] at hb) <;> first | refine Zd 50 ?_ | refine Zb 50 ?_ | refine wFa 50 ?_))
   all_goals ((first | refine Zd 51 ?_ | refine Zb 51 ?_ | refine wLd 51 ?_); (first | refine Zd 52 ?_ | refine Zb 52 ?_ | refine wCm 52 ?_); refine rPk 53 ?_; refine Ye 54 ?_)
   all_goals (first | refine Zd 55 ?_ | refine Zb 55 ?_ | refine wFa 55 ?_ | (refine ZD (t := 70) rfl (fun hb => ?_) (fun hb => ?_) <;> (try simp only [kk] at hb) <;> first | refine Zd 55 ?_ | refine Zb 55 ?_ | refine wFa 55 ?_))
   all_goals ((first | refine Zd 56 ?_ | refine Zb 56 ?_ | refine wLd 56 ?_); (first | refine Zd 57 ?_ | refine Zb 57 ?_ | refine wCm 57 ?_); refine rPk 58 ?_; refine ZP ?_)
   all_goals (repeat' (first | (refine ZG ?_; refine Zn (Ze rfl) rfl rfl ?_) | (refine Zj ?_; first | (refine Zg ?_; refine qQ ?_) | refine Zl ?_) | refine Za ?_ | (refine Zi ?_; refine Zq ?_) | (refine Zh ?_; refine Zp ?_) | (refine XO ?_; refine Yd rfl rfl (fun hb => ?_) (fun hb => ?_) <;> (try simp only [decide_eq_true_eq, decide_eq_false_iff_not, Bool.not_eq_true, Bool.not_eq_false, beq_iff_eq, bne_iff_ne, ne_eq, decide_eq_decide, Bool.not_eq_eq_eq_not, Bool.not_true, Bool.not_false, beq_eq_false_iff_ne, bne_eq_false_iff_eq, Bool.and_eq_true, Bool.or_eq_true, Bool.and_eq_false_imp, Bool.or_eq_false_iff, bq2, bqt, bqf] at hb)) | (refine Yx ?_; refine Yp rfl (fun hb => ?_) (fun hb => ?_) <;> (try simp only [decide_eq_true_eq, decide_eq_false_iff_not, Bool.not_eq_true, Bool.not_eq_false, beq_iff_eq, bne_iff_ne, ne_eq, decide_eq_decide, Bool.not_eq_eq_eq_not, Bool.not_true, Bool.not_false, beq_eq_false_iff_ne, bne_eq_false_iff_eq, Bool.and_eq_true, Bool.or_eq_true, Bool.and_eq_false_imp, Bool.or_eq_false_iff, bq2, bqt, bqf] at hb)) | intro _))
   all_goals (try (rw [hfin (by rw [hw]; (first | (simp [*]; done) | (simp [*]; omega) | (simp_all; done) | (simp_all; omega)))]; refine qF (L' := []) ?_; exact ⟨by first | rfl | rw [Bool.and_false], rfl, rfl⟩))
   all_goals rw [← e1]
   all_goals refine Zo (k + 1) (⟨hlt, by rw [hs, hw]; (first | (simp [*]; done) | (simp [*]; omega) | (simp_all; done) | (simp_all; omega))⟩) Zk Zk rfl tk inferInstance (by first | omega | (dsimp only; omega))
  ·have hd : decide (k = 0) = false := decide_eq_false hk0
   obtain ⟨b2, off2, C2, T2, fr2, f1, hb2, hfit2, hc2⟩ := hA.get (show k - 1 < l.length by omega)
   rw [e1] at f1
   cases f1
   rw [hb0] at hb2
   cases hb2
   have ek : ((k : Int) - 1).toNat = k - 1 := by omega
   have hfin : (rt l[k] && (decide (k = 0) || decide (CkT.txn (l[k - 1]'(by omega)) < CkT.txn l[k]))) = false → ZH mo (fun _ x => rt x) (fun y x => decide (CkT.txn y < CkT.txn x)) l mo = false := fun e => hfin0 (by rw [hs]; exact e)
   rw [hd, Bool.false_or] at hs hfin
   have hcy : C[off + ((k : Int) - 1).toNat * 5]? = some (.int .i64 (CkT.txn (l[k - 1]'(by omega)))) := by
    have := congrArg (fun l => l[0]?) hc2
    rw [ek]
    simp only [List.getElem?_take, List.getElem?_drop] at this
    simpa using this
   clear hc2 hfit2
   generalize l[k] = x at *
   generalize l[k - 1]'(by omega) = y at *
   unfold ckTOk at hw
   generalize hQQ : ZH mo (fun _ x => rt x) (fun y x => decide (CkT.txn y < CkT.txn x)) l mo = q at *
   clear hfin0 hrt hR
   repeat' (first | (refine ZG ?_; refine Zn (Ze rfl) rfl rfl ?_) | (refine Zj ?_; first | (refine Zg ?_; refine qQ ?_) | refine Zl ?_) | refine Za ?_ | (refine Zi ?_; refine Zq ?_) | (refine Zh ?_; refine Zp ?_) | intro _)
   refine ZI (Zv _ _ _) ZC ?_
   all_goals (refine rFa 0 ?_; refine Yi ?_; refine Yr 1 ?_; refine rCm 2 ?_; refine Ye 3 ?_)
   all_goals (first | refine Zd 4 ?_ | refine Zb 4 ?_ | refine wFa 4 ?_ | (refine ZD (t := 19) rfl (fun hb => ?_) (fun hb => ?_) <;> (try simp only [kk] at hb) <;> first | refine Zd 4 ?_ | refine Zb 4 ?_ | refine wFa 4 ?_))
   all_goals ((first | refine Zd 5 ?_ | refine Zb 5 ?_ | refine wLd 5 ?_); (first | refine Zd 6 ?_ | refine Zb 6 ?_ | refine ZT 6 ?_); (first | refine Zd 7 ?_ | refine Zb 7 ?_ | refine wCm 7 ?_); refine rPk 8 ?_; refine Ye 9 ?_)
   all_goals (first | refine Zd 10 ?_ | refine Zb 10 ?_ | refine ZT 10 ?_ | (refine ZD (t := 25) rfl (fun hb => ?_) (fun hb => ?_) <;> (try simp only [kk] at hb) <;> first | refine Zd 10 ?_ | refine Zb 10 ?_ | refine ZT 10 ?_))
   all_goals ((first | refine Zd 11 ?_ | refine Zb 11 ?_ | refine wCm 11 ?_); (first | refine Zd 12 ?_ | refine Zb 12 ?_ | refine ZT 12 ?_))
   all_goals (first | refine Zd 13 ?_ | refine Zb 13 ?_ | refine ZT 13 ?_ | (refine ZD (t := 28) rfl (fun hb => ?_) (fun hb => ?_) <;> (try simp only [kk] at hb) <;> first | refine Zd 13 ?_ | refine Zb 13 ?_ | refine ZT 13 ?_))
   all_goals ((first | refine Zd 14 ?_ | refine Zb 14 ?_ | refine ZT 14 ?_); (first | refine Zd 15 ?_ | refine Zb 15 ?_ | refine wSb 15 ?_); (first | refine Zd 16 ?_ | refine Zb 16 ?_ | refine wIa 16 ?_); (first | refine Zd 17 ?_ | refine Zb 17 ?_ | refine wFa 17 ?_); (first | refine Zd 18 ?_ | refine Zb 18 ?_ | refine wLd 18 ?_); (first | refine Zd 19 ?_ | refine Zb 19 ?_ | refine wFa 19 ?_); (first | refine Zd 20 ?_ | refine Zb 20 ?_ | refine wLd 20 ?_); (first | refine Zd 21 ?_ | refine Zb 21 ?_ | refine wCm 21 ?_); (first | refine Zd 22 ?_ | refine Zb 22 ?_ | refine wPk 22 ?_); refine rPk 23 ?_; refine Ye 24 ?_)
   all_goals (first | refine Zd 25 ?_ | refine Zb 25 ?_ | refine wFa 25 ?_ | (refine ZD (t := 40) rfl (fun hb => ?_) (fun hb => ?_) <;> (try simp only [kk] at hb) <;> first | refine Zd 25 ?_ | refine Zb 25 ?_ | refine wFa 25 ?_))
   all_goals ((first | refine Zd 26 ?_ | refine Zb 26 ?_ | refine wLd 26 ?_); (first | refine Zd 27 ?_ | refine Zb 27 ?_ | refine wCm 27 ?_); refine rPk 28 ?_; refine Ye 29 ?_)
   all_goals (first | refine Zd 30 ?_ | refine Zb 30 ?_ | refine wFa 30 ?_ | (refine ZD (t := 45) rfl (fun hb => ?_) (fun hb => ?_) <;> (try simp only [kk] at hb) <;> first | refine Zd 30 ?_ | refine Zb 30 ?_ | refine wFa 30 ?_))
   all_goals ((first | refine Zd 31 ?_ | refine Zb 31 ?_ | refine wLd 31 ?_); (first | refine Zd 32 ?_ | refine Zb 32 ?_ | refine wFa 32 ?_); (first | refine Zd 33 ?_ | refine Zb 33 ?_ | refine wLd 33 ?_); (first | refine Zd 34 ?_ | refine Zb 34 ?_ | refine wCm 34 ?_); refine rPk 35 ?_; refine Ye 36 ?_)
   all_goals (first | refine Zd 37 ?_ | refine Zb 37 ?_ | refine wFa 37 ?_ | (refine ZD (t := 52) rfl (fun hb => ?_) (fun hb => ?_) <;> (try simp only [kk] at hb) <;> first | refine Zd 37 ?_ | refine Zb 37 ?_ | refine wFa 37 ?_))
   all_goals ((first | refine Zd 38 ?_ | refine Zb 38 ?_ | refine wLd 38 ?_); (first | refine Zd 39 ?_ | refine Zb 39 ?_ | refine ZT 39 ?_); (first | refine Zd 40 ?_ | refine Zb 40 ?_ | refine wCm 40 ?_); refine rPk 41 ?_; refine Ye 42 ?_)
   all_goals (first | refine Zd 43 ?_ | refine Zb 43 ?_ | refine wFa 43 ?_ | (refine ZD (t := 58) rfl (fun hb => ?_) (fun hb => ?_) <;> (try simp only [kk] at hb) <;> first | refine Zd 43 ?_ | refine Zb 43 ?_ | refine wFa 43 ?_))
   all_goals ((first | refine Zd 44 ?_ | refine Zb 44 ?_ | refine wLd 44 ?_); (first | refine Zd 45 ?_ | refine Zb 45 ?_ | refine wFa 45 ?_); (first | refine Zd 46 ?_ | refine Zb 46 ?_ | refine wLd 46 ?_); (first | refine Zd 47 ?_ | refine Zb 47 ?_ | refine wCm 47 ?_); refine rPk 48 ?_; refine Ye 49 ?_)
   all_goals (first | refine Zd 50 ?_ | refine Zb 50 ?_ | refine wFa 50 ?_ | (refine ZD (t := 65) rfl (fun hb => ?_) (fun hb => ?_) <;> (try simp only [kk] at hb) <;> first | refine Zd 50 ?_ | refine Zb 50 ?_ | refine wFa 50 ?_))
   all_goals ((first | refine Zd 51 ?_ | refine Zb 51 ?_ | refine wLd 51 ?_); (first | refine Zd 52 ?_ | refine Zb 52 ?_ | refine wCm 52 ?_); refine rPk 53 ?_; refine Ye 54 ?_)
   all_goals (first | refine Zd 55 ?_ | refine Zb 55 ?_ | refine wFa 55 ?_ | (refine ZD (t := 70) rfl (fun hb => ?_) (fun hb => ?_) <;> (try simp only [kk] at hb) <;> first | refine Zd 55 ?_ | refine Zb 55 ?_ | refine wFa 55 ?_))
   all_goals ((first | refine Zd 56 ?_ | refine Zb 56 ?_ | refine wLd 56 ?_); (first | refine Zd 57 ?_ | refine Zb 57 ?_ | refine wCm 57 ?_); refine rPk 58 ?_; refine ZP ?_)
   all_goals (repeat' (first | (refine ZG ?_; refine Zn (Ze rfl) rfl rfl ?_) | (refine Zj ?_; first | (refine Zg ?_; refine qQ ?_) | refine Zl ?_) | refine Za ?_ | (refine Zi ?_; refine Zq ?_) | (refine Zh ?_; refine Zp ?_) | (refine XO ?_; refine Yd rfl rfl (fun hb => ?_) (fun hb => ?_) <;> (try simp only [decide_eq_true_eq, decide_eq_false_iff_not, Bool.not_eq_true, Bool.not_eq_false, beq_iff_eq, bne_iff_ne, ne_eq, decide_eq_decide, Bool.not_eq_eq_eq_not, Bool.not_true, Bool.not_false, beq_eq_false_iff_ne, bne_eq_false_iff_eq, Bool.and_eq_true, Bool.or_eq_true, Bool.and_eq_false_imp, Bool.or_eq_false_iff, bq2, bqt, bqf] at hb)) | (refine Yx ?_; refine Yp rfl (fun hb => ?_) (fun hb => ?_) <;> (try simp only [decide_eq_true_eq, decide_eq_false_iff_not, Bool.not_eq_true, Bool.not_eq_false, beq_iff_eq, bne_iff_ne, ne_eq, decide_eq_decide, Bool.not_eq_eq_eq_not, Bool.not_true, Bool.not_false, beq_eq_false_iff_ne, bne_eq_false_iff_eq, Bool.and_eq_true, Bool.or_eq_true, Bool.and_eq_false_imp, Bool.or_eq_false_iff, bq2, bqt, bqf] at hb)) | intro _))
   all_goals (try (rw [hfin (by rw [hw]; (first | (simp [*]; done) | (simp [*]; omega) | (simp_all; done) | (simp_all; omega)))]; refine qF (L' := []) ?_; exact ⟨by first | rfl | rw [Bool.and_false], rfl, rfl⟩))
   all_goals rw [← e1]
   all_goals refine Zo (k + 1) (⟨hlt, by rw [hs, hw]; (first | (simp [*]; done) | (simp [*]; omega) | (simp_all; done) | (simp_all; omega))⟩) Zk Zk rfl tk inferInstance (by first | omega | (dsimp only; omega))
 ·have hk2 : k = mo := by omega
  rw [hk2] at hok
  rw [hok]
  repeat' (first | (refine ZG ?_; refine Zn (Ze rfl) rfl rfl ?_) | (refine Zj ?_; first | (refine Zg ?_; refine qQ ?_) | refine Zl ?_) | refine Za ?_ | (refine Zi ?_; refine Zq ?_) | (refine Zh ?_; refine Zp ?_) | (refine XO ?_; refine Yd rfl rfl (fun hb => ?_) (fun hb => ?_) <;> (try simp only [decide_eq_true_eq, decide_eq_false_iff_not, Bool.not_eq_true, Bool.not_eq_false, beq_iff_eq, bne_iff_ne, ne_eq, decide_eq_decide, Bool.not_eq_eq_eq_not, Bool.not_true, Bool.not_false, beq_eq_false_iff_ne, bne_eq_false_iff_eq, Bool.and_eq_true, Bool.or_eq_true, Bool.and_eq_false_imp, Bool.or_eq_false_iff, bq2, bqt, bqf] at hb)) | (refine Yx ?_; refine Yp rfl (fun hb => ?_) (fun hb => ?_) <;> (try simp only [decide_eq_true_eq, decide_eq_false_iff_not, Bool.not_eq_true, Bool.not_eq_false, beq_iff_eq, bne_iff_ne, ne_eq, decide_eq_decide, Bool.not_eq_eq_eq_not, Bool.not_true, Bool.not_false, beq_eq_false_iff_ne, bne_eq_false_iff_eq, Bool.and_eq_true, Bool.or_eq_true, Bool.and_eq_false_imp, Bool.or_eq_false_iff, bq2, bqt, bqf] at hb)) | intro _)
  all_goals (refine qF (L' := []) ?_; exact ⟨YI (by (try simp [*]); first | done | omega | (intros; omega) | (constructor <;> intros <;> (try simp_all) <;> omega)), rfl, rfl⟩)
theorem images12_spec (ρ : Hp) (s : SV) (l : List Im) (h : AS ρ 7 imV s l) (before : Bool) (him : ∀ x ∈ l, Im.In ρ x) :
  Spec Tryz.prog 95 [.slice s.a s.n s.c, .bool before] ρ [] (fun z ρ' L' => z = .bool (decide (l.length ≤ 16) && upB (imOk before) Im.page l l.length) ∧ ρ' = ρ ∧ L' = []) := by
 have hl := h.at'.len
 have hn := h.big
 have hA := h.at'
 generalize hR : (imOk before) = rt
 unfold upB
 generalize hm : l.length = mo
 have hrt : ∀ x, rt x = (imOk before) x := fun x => by rw [hR]
 refine Zf Tryz.func95 rfl rfl rfl fun u R => ?_
 simp only [Zx, List.cons_append, List.nil_append]
 repeat' (first | (refine ZG ?_; refine Zn (Ze rfl) rfl rfl ?_) | (refine Zj ?_; first | (refine Zg ?_; refine qQ ?_) | refine Zl ?_) | refine Za ?_ | (refine Zi ?_; refine Zq ?_) | (refine Zh ?_; refine Zp ?_) | intro _)
 refine Zy [(0, _), (1, _), (7, _), (8, _)] (fun (ζ : (Nat)) => [(9, .int .i64 ζ), (4, .bool false)]) (fun (ζ : (Nat)) => ρ) (fun (ζ : (Nat)) => []) (fun (ζ : (Nat)) => ζ ≤ s.n ∧ ZH mo (fun _ x => rt x) (fun y x => decide (Im.page y < Im.page x)) l ζ = true) (fun (ζ : (Nat)) => s.n - ζ) (0) (⟨Nat.zero_le _, by rw [ZH]; simp [hm]⟩) Zk Zk rfl tk ?_
 rintro k hI
 try simp only [List.cons_append, List.nil_append, List.append_assoc, List.append_eq] at hI ⊢
 try dsimp only at hI ⊢
 obtain ⟨hk, hok⟩ := hI
 by_cases hlt : k < s.n
 ·obtain ⟨b, off, C, T, fr, e1, hb0, hfit, hc⟩ := hA.get (show k < l.length by omega)
  have hs := YZ (most := mo) (right := fun _ x => rt x) (lt := fun y x => decide (Im.page y < Im.page x)) (show k < l.length by omega)
  have hfin0 := fun (e : ZH mo (fun _ x => rt x) (fun y x => decide (Im.page y < Im.page x)) l (k + 1) = false) => YO e (show k + 1 ≤ mo by omega)
  rw [hok, Bool.true_and] at hs
  have hw := hrt l[k]
  have him1 := him _ (List.getElem_mem (show k < l.length by omega))
  rw [e1]
  by_cases hk0 : k = 0
  ·have hfin : (rt l[k] && (decide (k = 0) || decide (Im.page (l[k - 1]'(by omega)) < Im.page l[k]))) = false → ZH mo (fun _ x => rt x) (fun y x => decide (Im.page y < Im.page x)) l mo = false := fun e => hfin0 (by rw [hs]; exact e)
   rw [decide_eq_true hk0, Bool.true_or, Bool.and_true] at hs hfin
   generalize l[k] = x at *
   (unfold imOk at hw); have hra := Wn ρ x.av x.a him1.a.cin (fun r hr => (him1.a.row r hr).id) him1.a.kid; have hrb := Wn ρ x.bv x.b him1.b.cin (fun r hr => (him1.b.row r hr).id) him1.b.kid
   generalize hQQ : ZH mo (fun _ x => rt x) (fun y x => decide (Im.page y < Im.page x)) l mo = q at *
   clear hfin0 hrt hR
   repeat' (first | (refine ZG ?_; refine Zn (Ze rfl) rfl rfl ?_) | (refine Zj ?_; first | (refine Zg ?_; refine qQ ?_) | refine Zl ?_) | refine Za ?_ | (refine Zi ?_; refine Zq ?_) | (refine Zh ?_; refine Zp ?_) | intro _)
   refine ZI (Zv _ _ _) ZC ?_
   all_goals (refine rFa 0 ?_; refine Yr 1 ?_)
   all_goals (refine Zt (i := 2) ?_; ((try refine Zr ?_); (first | (refine Zc (.func 177) ?_; refine qC rfl rfl (rpage12_spec _ _) ?_; rintro v ρ' L' hle ⟨rfl, rfl, rfl⟩ <;> (try simp only [kM, kN, kO])) | (refine Zl ?_; try intro _)) <;> ((try simp only [kM, kN, kO]); refine Za ?_; refine Zs ?_)))
   all_goals (refine rUn 3 ?_; refine Ye 4 ?_)
   all_goals (first | refine Zd 5 ?_ | refine Zb 5 ?_ | refine ZT 5 ?_ | (refine ZD (t := 18) rfl (fun hb => ?_) (fun hb => ?_) <;> (try simp only [kk] at hb) <;> first | refine Zd 5 ?_ | refine Zb 5 ?_ | refine ZT 5 ?_))
   all_goals ((first | refine Zd 6 ?_ | refine Zb 6 ?_ | refine wCm 6 ?_); (first | refine Zd 7 ?_ | refine Zb 7 ?_ | refine ZT 7 ?_))
   all_goals (first | refine Zd 8 ?_ | refine Zb 8 ?_ | refine ZT 8 ?_ | (refine ZD (t := 21) rfl (fun hb => ?_) (fun hb => ?_) <;> (try simp only [kk] at hb) <;> first | refine Zd 8 ?_ | refine Zb 8 ?_ | refine ZT 8 ?_))
   all_goals ((first | refine Zd 9 ?_ | refine Zb 9 ?_ | refine ZT 9 ?_); (first | refine Zd 10 ?_ | refine Zb 10 ?_ | refine wSb 10 ?_); (first | refine Zd 11 ?_ | refine Zb 11 ?_ | refine wIa 11 ?_); (first | refine Zd 12 ?_ | refine Zb 12 ?_ | refine wFa 12 ?_); (first | refine Zd 13 ?_ | refine Zb 13 ?_ | refine wLd 13 ?_); (first | refine Zd 14 ?_ | refine Zb 14 ?_ | refine wFa 14 ?_); (first | refine Zd 15 ?_ | refine Zb 15 ?_ | refine wLd 15 ?_); (first | refine Zd 16 ?_ | refine Zb 16 ?_ | refine wCm 16 ?_); (first | refine Zd 17 ?_ | refine Zb 17 ?_ | refine wPk 17 ?_); refine rPk 18 ?_; refine Ye 19 ?_)
   all_goals (first | refine Zd 20 ?_ | refine Zb 20 ?_ | refine wFa 20 ?_ | (refine ZD (t := 33) rfl (fun hb => ?_) (fun hb => ?_) <;> (try simp only [kk] at hb) <;> first | refine Zd 20 ?_ | refine Zb 20 ?_ | refine wFa 20 ?_))
   all_goals (first | refine Zd 21 ?_ | refine Zb 21 ?_ | refine wLd 21 ?_)
   all_goals (first | refine Zd 22 ?_ | refine Zb 22 ?_ | (refine Zt (i := 22) ?_; ((try refine Zr ?_); (first | (refine Zc (.func 178) ?_; refine qC rfl rfl (hra) ?_; rintro v ρ' L' hle ⟨rfl, rfl, rfl⟩ <;> (try simp only [kM, kN, kO])) | (refine Zc (.func 178) ?_; refine qC rfl rfl (hrb) ?_; rintro v ρ' L' hle ⟨rfl, rfl, rfl⟩ <;> (try simp only [kM, kN, kO])) | (refine Zl ?_; try intro _)) <;> ((try simp only [kM, kN, kO]); refine Za ?_; refine Zs ?_))))
   all_goals ((first | refine Zd 23 ?_ | refine Zb 23 ?_ | refine wUn 23 ?_); refine rPk 24 ?_; refine Ye 25 ?_)
   all_goals (first | refine Zd 26 ?_ | refine Zb 26 ?_ | refine wFa 26 ?_ | (refine ZD (t := 39) rfl (fun hb => ?_) (fun hb => ?_) <;> (try simp only [kk] at hb) <;> first | refine Zd 26 ?_ | refine Zb 26 ?_ | refine wFa 26 ?_))
   all_goals (first | refine Zd 27 ?_ | refine Zb 27 ?_ | refine wLd 27 ?_)
   all_goals (first | refine Zd 28 ?_ | refine Zb 28 ?_ | (refine Zt (i := 28) ?_; ((try refine Zr ?_); (first | (refine Zc (.func 178) ?_; refine qC rfl rfl (hra) ?_; rintro v ρ' L' hle ⟨rfl, rfl, rfl⟩ <;> (try simp only [kM, kN, kO])) | (refine Zc (.func 178) ?_; refine qC rfl rfl (hrb) ?_; rintro v ρ' L' hle ⟨rfl, rfl, rfl⟩ <;> (try simp only [kM, kN, kO])) | (refine Zl ?_; try intro _)) <;> ((try simp only [kM, kN, kO]); refine Za ?_; refine Zs ?_))))
   all_goals (refine Yi ?_; (first | refine Zd 29 ?_ | refine Zb 29 ?_ | refine wUn 29 ?_); refine rPk 30 ?_; refine Ye 31 ?_)
   all_goals (first | refine Zd 32 ?_ | refine Zb 32 ?_ | refine ZT 32 ?_ | (refine ZD (t := 45) rfl (fun hb => ?_) (fun hb => ?_) <;> (try simp only [kk] at hb) <;> first | refine Zd 32 ?_ | refine Zb 32 ?_ | refine ZT 32 ?_))
   all_goals ((first | refine Zd 33 ?_ | refine Zb 33 ?_ | refine wUn 33 ?_); (first | refine Zd 34 ?_ | refine Zb 34 ?_ | refine ZT 34 ?_))
   all_goals (first | refine Zd 35 ?_ | refine Zb 35 ?_ | refine wFa 35 ?_ | (refine ZD (t := 48) rfl (fun hb => ?_) (fun hb => ?_) <;> (try simp only [kk] at hb) <;> first | refine Zd 35 ?_ | refine Zb 35 ?_ | refine wFa 35 ?_))
   all_goals ((first | refine Zd 36 ?_ | refine Zb 36 ?_ | refine wFa 36 ?_); (first | refine Zd 37 ?_ | refine Zb 37 ?_ | refine wLd 37 ?_); (first | refine Zd 38 ?_ | refine Zb 38 ?_ | refine wCm 38 ?_); (first | refine Zd 39 ?_ | refine Zb 39 ?_ | refine wPk 39 ?_); refine rPk 40 ?_; refine ZP ?_)
   all_goals (repeat' (first | (refine ZG ?_; refine Zn (Ze rfl) rfl rfl ?_) | (refine Zj ?_; first | (refine Zg ?_; refine qQ ?_) | refine Zl ?_) | refine Za ?_ | (refine Zi ?_; refine Zq ?_) | (refine Zh ?_; refine Zp ?_) | (refine XO ?_; refine Yd rfl rfl (fun hb => ?_) (fun hb => ?_) <;> (try simp only [decide_eq_true_eq, decide_eq_false_iff_not, Bool.not_eq_true, Bool.not_eq_false, beq_iff_eq, bne_iff_ne, ne_eq, decide_eq_decide, Bool.not_eq_eq_eq_not, Bool.not_true, Bool.not_false, beq_eq_false_iff_ne, bne_eq_false_iff_eq, Bool.and_eq_true, Bool.or_eq_true, Bool.and_eq_false_imp, Bool.or_eq_false_iff, bq2, bqt, bqf] at hb)) | (refine Yx ?_; refine Yp rfl (fun hb => ?_) (fun hb => ?_) <;> (try simp only [decide_eq_true_eq, decide_eq_false_iff_not, Bool.not_eq_true, Bool.not_eq_false, beq_iff_eq, bne_iff_ne, ne_eq, decide_eq_decide, Bool.not_eq_eq_eq_not, Bool.not_true, Bool.not_false, beq_eq_false_iff_ne, bne_eq_false_iff_eq, Bool.and_eq_true, Bool.or_eq_true, Bool.and_eq_false_imp, Bool.or_eq_false_iff, bq2, bqt, bqf] at hb)) | intro _))
   all_goals (try (rw [hfin (by rw [hw]; (first | (simp [*]; done) | (simp [*]; omega) | (simp_all; done) | (simp_all; omega)))]; refine qF (L' := []) ?_; exact ⟨by first | rfl | rw [Bool.and_false], rfl, rfl⟩))
   all_goals rw [← e1]
   all_goals refine Zo (k + 1) (⟨hlt, by rw [hs, hw]; (first | (simp [*]; done) | (simp [*]; omega) | (simp_all; done) | (simp_all; omega))⟩) Zk Zk rfl tk inferInstance (by first | omega | (dsimp only; omega))
  ·have hd : decide (k = 0) = false := decide_eq_false hk0
   obtain ⟨b2, off2, C2, T2, fr2, f1, hb2, hfit2, hc2⟩ := hA.get (show k - 1 < l.length by omega)
   rw [e1] at f1
   cases f1
   rw [hb0] at hb2
   cases hb2
   have ek : ((k : Int) - 1).toNat = k - 1 := by omega
   have hfin : (rt l[k] && (decide (k = 0) || decide (Im.page (l[k - 1]'(by omega)) < Im.page l[k]))) = false → ZH mo (fun _ x => rt x) (fun y x => decide (Im.page y < Im.page x)) l mo = false := fun e => hfin0 (by rw [hs]; exact e)
   rw [hd, Bool.false_or] at hs hfin
   have hcy : C[off + ((k : Int) - 1).toNat * 7]? = some (.int .i64 (Im.page (l[k - 1]'(by omega)))) := by
    have := congrArg (fun l => l[0]?) hc2
    rw [ek]
    simp only [List.getElem?_take, List.getElem?_drop] at this
    simpa using this
   clear hc2 hfit2
   generalize l[k] = x at *
   generalize l[k - 1]'(by omega) = y at *
   (unfold imOk at hw); have hra := Wn ρ x.av x.a him1.a.cin (fun r hr => (him1.a.row r hr).id) him1.a.kid; have hrb := Wn ρ x.bv x.b him1.b.cin (fun r hr => (him1.b.row r hr).id) him1.b.kid
   generalize hQQ : ZH mo (fun _ x => rt x) (fun y x => decide (Im.page y < Im.page x)) l mo = q at *
   clear hfin0 hrt hR
   repeat' (first | (refine ZG ?_; refine Zn (Ze rfl) rfl rfl ?_) | (refine Zj ?_; first | (refine Zg ?_; refine qQ ?_) | refine Zl ?_) | refine Za ?_ | (refine Zi ?_; refine Zq ?_) | (refine Zh ?_; refine Zp ?_) | intro _)
   refine ZI (Zv _ _ _) ZC ?_
   all_goals (refine rFa 0 ?_; refine Yr 1 ?_)
   all_goals (refine Zt (i := 2) ?_; ((try refine Zr ?_); (first | (refine Zc (.func 177) ?_; refine qC rfl rfl (rpage12_spec _ _) ?_; rintro v ρ' L' hle ⟨rfl, rfl, rfl⟩ <;> (try simp only [kM, kN, kO])) | (refine Zl ?_; try intro _)) <;> ((try simp only [kM, kN, kO]); refine Za ?_; refine Zs ?_)))
   all_goals (refine rUn 3 ?_; refine Ye 4 ?_)
   all_goals (first | refine Zd 5 ?_ | refine Zb 5 ?_ | refine ZT 5 ?_ | (refine ZD (t := 18) rfl (fun hb => ?_) (fun hb => ?_) <;> (try simp only [kk] at hb) <;> first | refine Zd 5 ?_ | refine Zb 5 ?_ | refine ZT 5 ?_))
   all_goals ((first | refine Zd 6 ?_ | refine Zb 6 ?_ | refine wCm 6 ?_); (first | refine Zd 7 ?_ | refine Zb 7 ?_ | refine ZT 7 ?_))
   all_goals (first | refine Zd 8 ?_ | refine Zb 8 ?_ | refine ZT 8 ?_ | (refine ZD (t := 21) rfl (fun hb => ?_) (fun hb => ?_) <;> (try simp only [kk] at hb) <;> first | refine Zd 8 ?_ | refine Zb 8 ?_ | refine ZT 8 ?_))
   all_goals ((first | refine Zd 9 ?_ | refine Zb 9 ?_ | refine ZT 9 ?_); (first | refine Zd 10 ?_ | refine Zb 10 ?_ | refine wSb 10 ?_); (first | refine Zd 11 ?_ | refine Zb 11 ?_ | refine wIa 11 ?_); (first | refine Zd 12 ?_ | refine Zb 12 ?_ | refine wFa 12 ?_); (first | refine Zd 13 ?_ | refine Zb 13 ?_ | refine wLd 13 ?_); (first | refine Zd 14 ?_ | refine Zb 14 ?_ | refine wFa 14 ?_); (first | refine Zd 15 ?_ | refine Zb 15 ?_ | refine wLd 15 ?_); (first | refine Zd 16 ?_ | refine Zb 16 ?_ | refine wCm 16 ?_); (first | refine Zd 17 ?_ | refine Zb 17 ?_ | refine wPk 17 ?_); refine rPk 18 ?_; refine Ye 19 ?_)
   all_goals (first | refine Zd 20 ?_ | refine Zb 20 ?_ | refine wFa 20 ?_ | (refine ZD (t := 33) rfl (fun hb => ?_) (fun hb => ?_) <;> (try simp only [kk] at hb) <;> first | refine Zd 20 ?_ | refine Zb 20 ?_ | refine wFa 20 ?_))
   all_goals (first | refine Zd 21 ?_ | refine Zb 21 ?_ | refine wLd 21 ?_)
   all_goals (first | refine Zd 22 ?_ | refine Zb 22 ?_ | (refine Zt (i := 22) ?_; ((try refine Zr ?_); (first | (refine Zc (.func 178) ?_; refine qC rfl rfl (hra) ?_; rintro v ρ' L' hle ⟨rfl, rfl, rfl⟩ <;> (try simp only [kM, kN, kO])) | (refine Zc (.func 178) ?_; refine qC rfl rfl (hrb) ?_; rintro v ρ' L' hle ⟨rfl, rfl, rfl⟩ <;> (try simp only [kM, kN, kO])) | (refine Zl ?_; try intro _)) <;> ((try simp only [kM, kN, kO]); refine Za ?_; refine Zs ?_))))
   all_goals ((first | refine Zd 23 ?_ | refine Zb 23 ?_ | refine wUn 23 ?_); refine rPk 24 ?_; refine Ye 25 ?_)
   all_goals (first | refine Zd 26 ?_ | refine Zb 26 ?_ | refine wFa 26 ?_ | (refine ZD (t := 39) rfl (fun hb => ?_) (fun hb => ?_) <;> (try simp only [kk] at hb) <;> first | refine Zd 26 ?_ | refine Zb 26 ?_ | refine wFa 26 ?_))
   all_goals (first | refine Zd 27 ?_ | refine Zb 27 ?_ | refine wLd 27 ?_)
   all_goals (first | refine Zd 28 ?_ | refine Zb 28 ?_ | (refine Zt (i := 28) ?_; ((try refine Zr ?_); (first | (refine Zc (.func 178) ?_; refine qC rfl rfl (hra) ?_; rintro v ρ' L' hle ⟨rfl, rfl, rfl⟩ <;> (try simp only [kM, kN, kO])) | (refine Zc (.func 178) ?_; refine qC rfl rfl (hrb) ?_; rintro v ρ' L' hle ⟨rfl, rfl, rfl⟩ <;> (try simp only [kM, kN, kO])) | (refine Zl ?_; try intro _)) <;> ((try simp only [kM, kN, kO]); refine Za ?_; refine Zs ?_))))
   all_goals (refine Yi ?_; (first | refine Zd 29 ?_ | refine Zb 29 ?_ | refine wUn 29 ?_); refine rPk 30 ?_; refine Ye 31 ?_)
   all_goals (first | refine Zd 32 ?_ | refine Zb 32 ?_ | refine ZT 32 ?_ | (refine ZD (t := 45) rfl (fun hb => ?_) (fun hb => ?_) <;> (try simp only [kk] at hb) <;> first | refine Zd 32 ?_ | refine Zb 32 ?_ | refine ZT 32 ?_))
   all_goals ((first | refine Zd 33 ?_ | refine Zb 33 ?_ | refine wUn 33 ?_); (first | refine Zd 34 ?_ | refine Zb 34 ?_ | refine ZT 34 ?_))
   all_goals (first | refine Zd 35 ?_ | refine Zb 35 ?_ | refine wFa 35 ?_ | (refine ZD (t := 48) rfl (fun hb => ?_) (fun hb => ?_) <;> (try simp only [kk] at hb) <;> first | refine Zd 35 ?_ | refine Zb 35 ?_ | refine wFa 35 ?_))
   all_goals ((first | refine Zd 36 ?_ | refine Zb 36 ?_ | refine wFa 36 ?_); (first | refine Zd 37 ?_ | refine Zb 37 ?_ | refine wLd 37 ?_); (first | refine Zd 38 ?_ | refine Zb 38 ?_ | refine wCm 38 ?_); (first | refine Zd 39 ?_ | refine Zb 39 ?_ | refine wPk 39 ?_); refine rPk 40 ?_; refine ZP ?_)
   all_goals (repeat' (first | (refine ZG ?_; refine Zn (Ze rfl) rfl rfl ?_) | (refine Zj ?_; first | (refine Zg ?_; refine qQ ?_) | refine Zl ?_) | refine Za ?_ | (refine Zi ?_; refine Zq ?_) | (refine Zh ?_; refine Zp ?_) | (refine XO ?_; refine Yd rfl rfl (fun hb => ?_) (fun hb => ?_) <;> (try simp only [decide_eq_true_eq, decide_eq_false_iff_not, Bool.not_eq_true, Bool.not_eq_false, beq_iff_eq, bne_iff_ne, ne_eq, decide_eq_decide, Bool.not_eq_eq_eq_not, Bool.not_true, Bool.not_false, beq_eq_false_iff_ne, bne_eq_false_iff_eq, Bool.and_eq_true, Bool.or_eq_true, Bool.and_eq_false_imp, Bool.or_eq_false_iff, bq2, bqt, bqf] at hb)) | (refine Yx ?_; refine Yp rfl (fun hb => ?_) (fun hb => ?_) <;> (try simp only [decide_eq_true_eq, decide_eq_false_iff_not, Bool.not_eq_true, Bool.not_eq_false, beq_iff_eq, bne_iff_ne, ne_eq, decide_eq_decide, Bool.not_eq_eq_eq_not, Bool.not_true, Bool.not_false, beq_eq_false_iff_ne, bne_eq_false_iff_eq, Bool.and_eq_true, Bool.or_eq_true, Bool.and_eq_false_imp, Bool.or_eq_false_iff, bq2, bqt, bqf] at hb)) | intro _))
   all_goals (try (rw [hfin (by rw [hw]; (first | (simp [*]; done) | (simp [*]; omega) | (simp_all; done) | (simp_all; omega)))]; refine qF (L' := []) ?_; exact ⟨by first | rfl | rw [Bool.and_false], rfl, rfl⟩))
   all_goals rw [← e1]
   all_goals refine Zo (k + 1) (⟨hlt, by rw [hs, hw]; (first | (simp [*]; done) | (simp [*]; omega) | (simp_all; done) | (simp_all; omega))⟩) Zk Zk rfl tk inferInstance (by first | omega | (dsimp only; omega))
 ·have hk2 : k = mo := by omega
  rw [hk2] at hok
  rw [hok]
  repeat' (first | (refine ZG ?_; refine Zn (Ze rfl) rfl rfl ?_) | (refine Zj ?_; first | (refine Zg ?_; refine qQ ?_) | refine Zl ?_) | refine Za ?_ | (refine Zi ?_; refine Zq ?_) | (refine Zh ?_; refine Zp ?_) | (refine XO ?_; refine Yd rfl rfl (fun hb => ?_) (fun hb => ?_) <;> (try simp only [decide_eq_true_eq, decide_eq_false_iff_not, Bool.not_eq_true, Bool.not_eq_false, beq_iff_eq, bne_iff_ne, ne_eq, decide_eq_decide, Bool.not_eq_eq_eq_not, Bool.not_true, Bool.not_false, beq_eq_false_iff_ne, bne_eq_false_iff_eq, Bool.and_eq_true, Bool.or_eq_true, Bool.and_eq_false_imp, Bool.or_eq_false_iff, bq2, bqt, bqf] at hb)) | (refine Yx ?_; refine Yp rfl (fun hb => ?_) (fun hb => ?_) <;> (try simp only [decide_eq_true_eq, decide_eq_false_iff_not, Bool.not_eq_true, Bool.not_eq_false, beq_iff_eq, bne_iff_ne, ne_eq, decide_eq_decide, Bool.not_eq_eq_eq_not, Bool.not_true, Bool.not_false, beq_eq_false_iff_ne, bne_eq_false_iff_eq, Bool.and_eq_true, Bool.or_eq_true, Bool.and_eq_false_imp, Bool.or_eq_false_iff, bq2, bqt, bqf] at hb)) | intro _)
  all_goals (refine qF (L' := []) ?_; exact ⟨YI (by (try simp [*]); first | done | omega | (intros; omega) | (constructor <;> intros <;> (try simp_all) <;> omega)), rfl, rfl⟩)
end Go.Proofs.E
