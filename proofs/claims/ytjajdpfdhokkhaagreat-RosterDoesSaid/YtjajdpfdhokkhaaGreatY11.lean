/- The law RosterDoes. Part 11 of 20. -/
import Derived.Test.YtjajdpfdhokkhaaGreatY10
namespace Go.Proofs.E
open Go
set_option linter.unusedVariables false
set_option linter.unusedSimpArgs false
set_option linter.unusedSectionVars false
set_option maxRecDepth 4000
set_option maxHeartbeats 1000000
attribute [local irreducible] Yl TL TC TE Spec Wq R1 Hp.le EnvLe TS TR YS Zs
theorem dirty12_spec (ρ : Hp) (s : SV) (l : List CkP) (h : AS ρ 2 ckPV s l) (lsn : Nat)  :
  Spec Tryz.prog 98 [.slice s.a s.n s.c, .int .u64 lsn] ρ [] (fun z ρ' L' => z = .bool (upB (ckPOk lsn) CkP.page l l.length) ∧ ρ' = ρ ∧ L' = []) := by
 have hl := h.at'.len
 have hn := h.big
 have hA := h.at'
 generalize hR : (ckPOk lsn) = rt
 unfold upB
 generalize hm : l.length = mo
 have hrt : ∀ x, rt x = (ckPOk lsn) x := fun x => by rw [hR]
 refine Zg Tryz.func98 rfl rfl rfl fun u R => ?_
 simp only [Zx, List.cons_append, List.nil_append]
 repeat' (first | (refine ZE ?_; refine Zo (Zd rfl) rfl rfl ?_) | (refine Zj ?_; first | (refine Zf ?_; refine qQ ?_) | refine Zn ?_) | refine Zb ?_ | (refine Zi ?_; refine Zv ?_) | (refine Zh ?_; refine Zu ?_) | intro _)
 refine ZB [(0, _), (1, _), (7, _), (8, _)] (fun (ζ : (Nat)) => [(9, .int .i64 ζ), (4, .bool false)]) (fun (ζ : (Nat)) => ρ) (fun (ζ : (Nat)) => []) (fun (ζ : (Nat)) => ζ ≤ s.n ∧ ZM mo (fun _ x => rt x) (fun y x => decide (CkP.page y < CkP.page x)) l ζ = true) (fun (ζ : (Nat)) => s.n - ζ) (0) (⟨Nat.zero_le _, by rw [ZM]; simp [hm]⟩) Zm Zm rfl tk ?_
 rintro k hI
 try simp only [List.cons_append, List.nil_append, List.append_assoc, List.append_eq] at hI ⊢
 try dsimp only at hI ⊢
 obtain ⟨hk, hok⟩ := hI
 by_cases hlt : k < s.n
 ·obtain ⟨b, off, C, T, fr, e1, hb0, hfit, hc⟩ := hA.get (show k < l.length by omega)
  have hs := YY (most := mo) (right := fun _ x => rt x) (lt := fun y x => decide (CkP.page y < CkP.page x)) (show k < l.length by omega)
  have hfin0 := fun (e : ZM mo (fun _ x => rt x) (fun y x => decide (CkP.page y < CkP.page x)) l (k + 1) = false) => YM e (show k + 1 ≤ mo by omega)
  rw [hok, Bool.true_and] at hs
  have hw := hrt l[k]
  skip
  rw [e1]
  by_cases hk0 : k = 0
  ·have hfin : (rt l[k] && (decide (k = 0) || decide (CkP.page (l[k - 1]'(by omega)) < CkP.page l[k]))) = false → ZM mo (fun _ x => rt x) (fun y x => decide (CkP.page y < CkP.page x)) l mo = false := fun e => hfin0 (by rw [hs]; exact e)
   rw [decide_eq_true hk0, Bool.true_or, Bool.and_true] at hs hfin
   generalize l[k] = x at *
   unfold ckPOk at hw
   generalize hQQ : ZM mo (fun _ x => rt x) (fun y x => decide (CkP.page y < CkP.page x)) l mo = q at *
   clear hfin0 hrt hR
   repeat' (first | (refine ZE ?_; refine Zo (Zd rfl) rfl rfl ?_) | (refine Zj ?_; first | (refine Zf ?_; refine qQ ?_) | refine Zn ?_) | refine Zb ?_ | (refine Zi ?_; refine Zv ?_) | (refine Zh ?_; refine Zu ?_) | intro _)
   refine ZD (Zs _ _ _) ZF ?_
   all_goals (refine ZS 0 ?_; refine ZX 1 ?_)
   all_goals (refine Zp (i := 2) ?_; ((try refine Zk ?_); (first | (refine Ze (.func 177) ?_; refine qC rfl rfl (rpage12_spec _ _) ?_; rintro v ρ' L' hle ⟨rfl, rfl, rfl⟩ <;> (try simp only [kM, kN, kO])) | (refine Zn ?_; try intro _)) <;> ((try simp only [kM, kN, kO]); refine Zb ?_; refine Zl ?_)))
   all_goals (refine ZO ?_; refine rUn 3 ?_; refine ZT 4 ?_)
   all_goals (first | refine Zc 5 ?_ | refine Za 5 ?_ | refine ZP 5 ?_ | (refine Zw (t := 18) rfl (fun hb => ?_) (fun hb => ?_) <;> (try simp only [kk] at hb) <;> first | refine Zc 5 ?_ | refine Za 5 ?_ | refine ZP 5 ?_))
   all_goals ((first | refine Zc 6 ?_ | refine Za 6 ?_ | refine Yw 6 ?_); (first | refine Zc 7 ?_ | refine Za 7 ?_ | refine ZP 7 ?_))
   all_goals (first | refine Zc 8 ?_ | refine Za 8 ?_ | refine ZP 8 ?_ | (refine Zw (t := 21) rfl (fun hb => ?_) (fun hb => ?_) <;> (try simp only [kk] at hb) <;> first | refine Zc 8 ?_ | refine Za 8 ?_ | refine ZP 8 ?_))
   all_goals ((first | refine Zc 9 ?_ | refine Za 9 ?_ | refine ZP 9 ?_); (first | refine Zc 10 ?_ | refine Za 10 ?_ | refine wSb 10 ?_); (first | refine Zc 11 ?_ | refine Za 11 ?_ | refine wIa 11 ?_); (first | refine Zc 12 ?_ | refine Za 12 ?_ | refine ZW 12 ?_); (first | refine Zc 13 ?_ | refine Za 13 ?_ | refine Yb 13 ?_); (first | refine Zc 14 ?_ | refine Za 14 ?_ | refine ZW 14 ?_); (first | refine Zc 15 ?_ | refine Za 15 ?_ | refine Yb 15 ?_); (first | refine Zc 16 ?_ | refine Za 16 ?_ | refine Yw 16 ?_); (first | refine Zc 17 ?_ | refine Za 17 ?_ | refine wPk 17 ?_); refine YA 18 ?_; refine ZT 19 ?_)
   all_goals (first | refine Zc 20 ?_ | refine Za 20 ?_ | refine ZW 20 ?_ | (refine Zw (t := 33) rfl (fun hb => ?_) (fun hb => ?_) <;> (try simp only [kk] at hb) <;> first | refine Zc 20 ?_ | refine Za 20 ?_ | refine ZW 20 ?_))
   all_goals ((first | refine Zc 21 ?_ | refine Za 21 ?_ | refine Yb 21 ?_); (first | refine Zc 22 ?_ | refine Za 22 ?_ | refine Yw 22 ?_); refine YA 23 ?_; refine ZT 24 ?_)
   all_goals (first | refine Zc 25 ?_ | refine Za 25 ?_ | refine ZW 25 ?_ | (refine Zw (t := 38) rfl (fun hb => ?_) (fun hb => ?_) <;> (try simp only [kk] at hb) <;> first | refine Zc 25 ?_ | refine Za 25 ?_ | refine ZW 25 ?_))
   all_goals ((first | refine Zc 26 ?_ | refine Za 26 ?_ | refine Yb 26 ?_); (first | refine Zc 27 ?_ | refine Za 27 ?_ | refine ZP 27 ?_); (first | refine Zc 28 ?_ | refine Za 28 ?_ | refine Yw 28 ?_); refine YA 29 ?_; refine ZI ?_)
   all_goals (repeat' (first | (refine ZE ?_; refine Zo (Zd rfl) rfl rfl ?_) | (refine Zj ?_; first | (refine Zf ?_; refine qQ ?_) | refine Zn ?_) | refine Zb ?_ | (refine Zi ?_; refine Zv ?_) | (refine Zh ?_; refine Zu ?_) | (refine Xd ?_; refine ZN rfl rfl (fun hb => ?_) (fun hb => ?_) <;> (try simp only [decide_eq_true_eq, decide_eq_false_iff_not, Bool.not_eq_true, Bool.not_eq_false, beq_iff_eq, bne_iff_ne, ne_eq, decide_eq_decide, Bool.not_eq_eq_eq_not, Bool.not_true, Bool.not_false, beq_eq_false_iff_ne, bne_eq_false_iff_eq, Bool.and_eq_true, Bool.or_eq_true, Bool.and_eq_false_imp, Bool.or_eq_false_iff, bq2, bqt, bqf] at hb)) | (refine Yn ?_; refine Ya rfl (fun hb => ?_) (fun hb => ?_) <;> (try simp only [decide_eq_true_eq, decide_eq_false_iff_not, Bool.not_eq_true, Bool.not_eq_false, beq_iff_eq, bne_iff_ne, ne_eq, decide_eq_decide, Bool.not_eq_eq_eq_not, Bool.not_true, Bool.not_false, beq_eq_false_iff_ne, bne_eq_false_iff_eq, Bool.and_eq_true, Bool.or_eq_true, Bool.and_eq_false_imp, Bool.or_eq_false_iff, bq2, bqt, bqf] at hb)) | intro _))
   all_goals (try (rw [hfin (by rw [hw]; (first | (simp [*]; done) | (simp [*]; omega) | (simp_all; done) | (simp_all; omega)))]; refine qF (L' := []) ?_; exact ⟨by first | rfl | rw [Bool.and_false], rfl, rfl⟩))
   all_goals rw [← e1]
   all_goals refine Zq (k + 1) (⟨hlt, by rw [hs, hw]; (first | (simp [*]; done) | (simp [*]; omega) | (simp_all; done) | (simp_all; omega))⟩) Zm Zm rfl tk inferInstance (by first | omega | (dsimp only; omega))
  ·have hd : decide (k = 0) = false := decide_eq_false hk0
   obtain ⟨b2, off2, C2, T2, fr2, f1, hb2, hfit2, hc2⟩ := hA.get (show k - 1 < l.length by omega)
   rw [e1] at f1
   cases f1
   rw [hb0] at hb2
   cases hb2
   have ek : ((k : Int) - 1).toNat = k - 1 := by omega
   have hfin : (rt l[k] && (decide (k = 0) || decide (CkP.page (l[k - 1]'(by omega)) < CkP.page l[k]))) = false → ZM mo (fun _ x => rt x) (fun y x => decide (CkP.page y < CkP.page x)) l mo = false := fun e => hfin0 (by rw [hs]; exact e)
   rw [hd, Bool.false_or] at hs hfin
   have hcy : C[off + ((k : Int) - 1).toNat * 2]? = some (.int .i64 (CkP.page (l[k - 1]'(by omega)))) := by
    have := congrArg (fun l => l[0]?) hc2
    rw [ek]
    simp only [List.getElem?_take, List.getElem?_drop] at this
    simpa using this
   clear hc2 hfit2
   generalize l[k] = x at *
   generalize l[k - 1]'(by omega) = y at *
   unfold ckPOk at hw
   generalize hQQ : ZM mo (fun _ x => rt x) (fun y x => decide (CkP.page y < CkP.page x)) l mo = q at *
   clear hfin0 hrt hR
   repeat' (first | (refine ZE ?_; refine Zo (Zd rfl) rfl rfl ?_) | (refine Zj ?_; first | (refine Zf ?_; refine qQ ?_) | refine Zn ?_) | refine Zb ?_ | (refine Zi ?_; refine Zv ?_) | (refine Zh ?_; refine Zu ?_) | intro _)
   refine ZD (Zs _ _ _) ZF ?_
   all_goals (refine ZS 0 ?_; refine ZX 1 ?_)
   all_goals (refine Zp (i := 2) ?_; ((try refine Zk ?_); (first | (refine Ze (.func 177) ?_; refine qC rfl rfl (rpage12_spec _ _) ?_; rintro v ρ' L' hle ⟨rfl, rfl, rfl⟩ <;> (try simp only [kM, kN, kO])) | (refine Zn ?_; try intro _)) <;> ((try simp only [kM, kN, kO]); refine Zb ?_; refine Zl ?_)))
   all_goals (refine ZO ?_; refine rUn 3 ?_; refine ZT 4 ?_)
   all_goals (first | refine Zc 5 ?_ | refine Za 5 ?_ | refine ZP 5 ?_ | (refine Zw (t := 18) rfl (fun hb => ?_) (fun hb => ?_) <;> (try simp only [kk] at hb) <;> first | refine Zc 5 ?_ | refine Za 5 ?_ | refine ZP 5 ?_))
   all_goals ((first | refine Zc 6 ?_ | refine Za 6 ?_ | refine Yw 6 ?_); (first | refine Zc 7 ?_ | refine Za 7 ?_ | refine ZP 7 ?_))
   all_goals (first | refine Zc 8 ?_ | refine Za 8 ?_ | refine ZP 8 ?_ | (refine Zw (t := 21) rfl (fun hb => ?_) (fun hb => ?_) <;> (try simp only [kk] at hb) <;> first | refine Zc 8 ?_ | refine Za 8 ?_ | refine ZP 8 ?_))
   all_goals ((first | refine Zc 9 ?_ | refine Za 9 ?_ | refine ZP 9 ?_); (first | refine Zc 10 ?_ | refine Za 10 ?_ | refine wSb 10 ?_); (first | refine Zc 11 ?_ | refine Za 11 ?_ | refine wIa 11 ?_); (first | refine Zc 12 ?_ | refine Za 12 ?_ | refine ZW 12 ?_); (first | refine Zc 13 ?_ | refine Za 13 ?_ | refine Yb 13 ?_); (first | refine Zc 14 ?_ | refine Za 14 ?_ | refine ZW 14 ?_); (first | refine Zc 15 ?_ | refine Za 15 ?_ | refine Yb 15 ?_); (first | refine Zc 16 ?_ | refine Za 16 ?_ | refine Yw 16 ?_); (first | refine Zc 17 ?_ | refine Za 17 ?_ | refine wPk 17 ?_); refine YA 18 ?_; refine ZT 19 ?_)
   all_goals (first | refine Zc 20 ?_ | refine Za 20 ?_ | refine ZW 20 ?_ | (refine Zw (t := 33) rfl (fun hb => ?_) (fun hb => ?_) <;> (try simp only [kk] at hb) <;> first | refine Zc 20 ?_ | refine Za 20 ?_ | refine ZW 20 ?_))
   all_goals ((first | refine Zc 21 ?_ | refine Za 21 ?_ | refine Yb 21 ?_); (first | refine Zc 22 ?_ | refine Za 22 ?_ | refine Yw 22 ?_); refine YA 23 ?_; refine ZT 24 ?_)
   all_goals (first | refine Zc 25 ?_ | refine Za 25 ?_ | refine ZW 25 ?_ | (refine Zw (t := 38) rfl (fun hb => ?_) (fun hb => ?_) <;> (try simp only [kk] at hb) <;> first | refine Zc 25 ?_ | refine Za 25 ?_ | refine ZW 25 ?_))
   all_goals ((first | refine Zc 26 ?_ | refine Za 26 ?_ | refine Yb 26 ?_); (first | refine Zc 27 ?_ | refine Za 27 ?_ | refine ZP 27 ?_); (first | refine Zc 28 ?_ | refine Za 28 ?_ | refine Yw 28 ?_); refine YA 29 ?_; refine ZI ?_)
   all_goals (repeat' (first | (refine ZE ?_; refine Zo (Zd rfl) rfl rfl ?_) | (refine Zj ?_; first | (refine Zf ?_; refine qQ ?_) | refine Zn ?_) | refine Zb ?_ | (refine Zi ?_; refine Zv ?_) | (refine Zh ?_; refine Zu ?_) | (refine Xd ?_; refine ZN rfl rfl (fun hb => ?_) (fun hb => ?_) <;> (try simp only [decide_eq_true_eq, decide_eq_false_iff_not, Bool.not_eq_true, Bool.not_eq_false, beq_iff_eq, bne_iff_ne, ne_eq, decide_eq_decide, Bool.not_eq_eq_eq_not, Bool.not_true, Bool.not_false, beq_eq_false_iff_ne, bne_eq_false_iff_eq, Bool.and_eq_true, Bool.or_eq_true, Bool.and_eq_false_imp, Bool.or_eq_false_iff, bq2, bqt, bqf] at hb)) | (refine Yn ?_; refine Ya rfl (fun hb => ?_) (fun hb => ?_) <;> (try simp only [decide_eq_true_eq, decide_eq_false_iff_not, Bool.not_eq_true, Bool.not_eq_false, beq_iff_eq, bne_iff_ne, ne_eq, decide_eq_decide, Bool.not_eq_eq_eq_not, Bool.not_true, Bool.not_false, beq_eq_false_iff_ne, bne_eq_false_iff_eq, Bool.and_eq_true, Bool.or_eq_true, Bool.and_eq_false_imp, Bool.or_eq_false_iff, bq2, bqt, bqf] at hb)) | intro _))
   all_goals (try (rw [hfin (by rw [hw]; (first | (simp [*]; done) | (simp [*]; omega) | (simp_all; done) | (simp_all; omega)))]; refine qF (L' := []) ?_; exact ⟨by first | rfl | rw [Bool.and_false], rfl, rfl⟩))
   all_goals rw [← e1]
   all_goals refine Zq (k + 1) (⟨hlt, by rw [hs, hw]; (first | (simp [*]; done) | (simp [*]; omega) | (simp_all; done) | (simp_all; omega))⟩) Zm Zm rfl tk inferInstance (by first | omega | (dsimp only; omega))
 ·have hk2 : k = mo := by omega
  rw [hk2] at hok
  rw [hok]
  repeat' (first | (refine ZE ?_; refine Zo (Zd rfl) rfl rfl ?_) | (refine Zj ?_; first | (refine Zf ?_; refine qQ ?_) | refine Zn ?_) | refine Zb ?_ | (refine Zi ?_; refine Zv ?_) | (refine Zh ?_; refine Zu ?_) | (refine Xd ?_; refine ZN rfl rfl (fun hb => ?_) (fun hb => ?_) <;> (try simp only [decide_eq_true_eq, decide_eq_false_iff_not, Bool.not_eq_true, Bool.not_eq_false, beq_iff_eq, bne_iff_ne, ne_eq, decide_eq_decide, Bool.not_eq_eq_eq_not, Bool.not_true, Bool.not_false, beq_eq_false_iff_ne, bne_eq_false_iff_eq, Bool.and_eq_true, Bool.or_eq_true, Bool.and_eq_false_imp, Bool.or_eq_false_iff, bq2, bqt, bqf] at hb)) | (refine Yn ?_; refine Ya rfl (fun hb => ?_) (fun hb => ?_) <;> (try simp only [decide_eq_true_eq, decide_eq_false_iff_not, Bool.not_eq_true, Bool.not_eq_false, beq_iff_eq, bne_iff_ne, ne_eq, decide_eq_decide, Bool.not_eq_eq_eq_not, Bool.not_true, Bool.not_false, beq_eq_false_iff_ne, bne_eq_false_iff_eq, Bool.and_eq_true, Bool.or_eq_true, Bool.and_eq_false_imp, Bool.or_eq_false_iff, bq2, bqt, bqf] at hb)) | intro _)
  all_goals (refine qF (L' := []) ?_; exact ⟨rfl, rfl, rfl⟩)
theorem txns12_spec (ρ : Hp) (s : SV) (l : List CkT) (h : AS ρ 5 ckTV s l) (lsn : Nat) (next : Int)  :
  Spec Tryz.prog 97 [.slice s.a s.n s.c, .int .u64 lsn, .int .i64 next] ρ [] (fun z ρ' L' => z = .bool (decide (l.length ≤ 8) && upB (ckTOk lsn next) CkT.txn l l.length) ∧ ρ' = ρ ∧ L' = []) := by
 have hl := h.at'.len
 have hn := h.big
 have hA := h.at'
 generalize hR : (ckTOk lsn next) = rt
 unfold upB
 generalize hm : l.length = mo
 have hrt : ∀ x, rt x = (ckTOk lsn next) x := fun x => by rw [hR]
 refine Zg Tryz.func97 rfl rfl rfl fun u R => ?_
 simp only [Zx, List.cons_append, List.nil_append]
 repeat' (first | (refine ZE ?_; refine Zo (Zd rfl) rfl rfl ?_) | (refine Zj ?_; first | (refine Zf ?_; refine qQ ?_) | refine Zn ?_) | refine Zb ?_ | (refine Zi ?_; refine Zv ?_) | (refine Zh ?_; refine Zu ?_) | intro _)
 refine ZB [(0, _), (1, _), (2, _), (9, _), (10, _)] (fun (ζ : (Nat)) => [(11, .int .i64 ζ), (6, .bool false)]) (fun (ζ : (Nat)) => ρ) (fun (ζ : (Nat)) => []) (fun (ζ : (Nat)) => ζ ≤ s.n ∧ ZM mo (fun _ x => rt x) (fun y x => decide (CkT.txn y < CkT.txn x)) l ζ = true) (fun (ζ : (Nat)) => s.n - ζ) (0) (⟨Nat.zero_le _, by rw [ZM]; simp [hm]⟩) Zm Zm rfl tk ?_
 rintro k hI
 try simp only [List.cons_append, List.nil_append, List.append_assoc, List.append_eq] at hI ⊢
 try dsimp only at hI ⊢
 obtain ⟨hk, hok⟩ := hI
 by_cases hlt : k < s.n
 ·obtain ⟨b, off, C, T, fr, e1, hb0, hfit, hc⟩ := hA.get (show k < l.length by omega)
  have hs := YY (most := mo) (right := fun _ x => rt x) (lt := fun y x => decide (CkT.txn y < CkT.txn x)) (show k < l.length by omega)
  have hfin0 := fun (e : ZM mo (fun _ x => rt x) (fun y x => decide (CkT.txn y < CkT.txn x)) l (k + 1) = false) => YM e (show k + 1 ≤ mo by omega)
  rw [hok, Bool.true_and] at hs
  have hw := hrt l[k]
  skip
  rw [e1]
  by_cases hk0 : k = 0
  ·have hfin : (rt l[k] && (decide (k = 0) || decide (CkT.txn (l[k - 1]'(by omega)) < CkT.txn l[k]))) = false → ZM mo (fun _ x => rt x) (fun y x => decide (CkT.txn y < CkT.txn x)) l mo = false := fun e => hfin0 (by rw [hs]; exact e)
   rw [decide_eq_true hk0, Bool.true_or, Bool.and_true] at hs hfin
   generalize l[k] = x at *
   unfold ckTOk at hw
   generalize hQQ : ZM mo (fun _ x => rt x) (fun y x => decide (CkT.txn y < CkT.txn x)) l mo = q at *
   clear hfin0 hrt hR
   repeat' (first | (refine ZE ?_; refine Zo (Zd rfl) rfl rfl ?_) | (refine Zj ?_; first | (refine Zf ?_; refine qQ ?_) | refine Zn ?_) | refine Zb ?_ | (refine Zi ?_; refine Zv ?_) | (refine Zh ?_; refine Zu ?_) | intro _)
   refine ZD (Zs _ _ _) ZF ?_
   all_goals (refine ZS 0 ?_; refine ZO ?_; refine ZX 1 ?_; refine rCm 2 ?_; refine ZT 3 ?_)
   all_goals (first | refine Zc 4 ?_ | refine Za 4 ?_ | refine ZW 4 ?_ | (refine Zw (t := 19) rfl (fun hb => ?_) (fun hb => ?_) <;> (try simp only [kk] at hb) <;> first | refine Zc 4 ?_ | refine Za 4 ?_ | refine ZW 4 ?_))
   all_goals ((first | refine Zc 5 ?_ | refine Za 5 ?_ | refine Yb 5 ?_); (first | refine Zc 6 ?_ | refine Za 6 ?_ | refine ZP 6 ?_); (first | refine Zc 7 ?_ | refine Za 7 ?_ | refine Yw 7 ?_); refine YA 8 ?_; refine ZT 9 ?_)
   all_goals (first | refine Zc 10 ?_ | refine Za 10 ?_ | refine ZP 10 ?_ | (refine Zw (t := 25) rfl (fun hb => ?_) (fun hb => ?_) <;> (try simp only [kk] at hb) <;> first | refine Zc 10 ?_ | refine Za 10 ?_ | refine ZP 10 ?_))
   all_goals ((first | refine Zc 11 ?_ | refine Za 11 ?_ | refine Yw 11 ?_); (first | refine Zc 12 ?_ | refine Za 12 ?_ | refine ZP 12 ?_))
   all_goals (first | refine Zc 13 ?_ | refine Za 13 ?_ | refine ZP 13 ?_ | (refine Zw (t := 28) rfl (fun hb => ?_) (fun hb => ?_) <;> (try simp only [kk] at hb) <;> first | refine Zc 13 ?_ | refine Za 13 ?_ | refine ZP 13 ?_))
   all_goals ((first | refine Zc 14 ?_ | refine Za 14 ?_ | refine ZP 14 ?_); (first | refine Zc 15 ?_ | refine Za 15 ?_ | refine wSb 15 ?_); (first | refine Zc 16 ?_ | refine Za 16 ?_ | refine wIa 16 ?_); (first | refine Zc 17 ?_ | refine Za 17 ?_ | refine ZW 17 ?_); (first | refine Zc 18 ?_ | refine Za 18 ?_ | refine Yb 18 ?_); (first | refine Zc 19 ?_ | refine Za 19 ?_ | refine ZW 19 ?_); (first | refine Zc 20 ?_ | refine Za 20 ?_ | refine Yb 20 ?_); (first | refine Zc 21 ?_ | refine Za 21 ?_ | refine Yw 21 ?_); (first | refine Zc 22 ?_ | refine Za 22 ?_ | refine wPk 22 ?_); refine YA 23 ?_; refine ZT 24 ?_)
   all_goals (first | refine Zc 25 ?_ | refine Za 25 ?_ | refine ZW 25 ?_ | (refine Zw (t := 40) rfl (fun hb => ?_) (fun hb => ?_) <;> (try simp only [kk] at hb) <;> first | refine Zc 25 ?_ | refine Za 25 ?_ | refine ZW 25 ?_))
   all_goals ((first | refine Zc 26 ?_ | refine Za 26 ?_ | refine Yb 26 ?_); (first | refine Zc 27 ?_ | refine Za 27 ?_ | refine Yw 27 ?_); refine YA 28 ?_; refine ZT 29 ?_)
   all_goals (first | refine Zc 30 ?_ | refine Za 30 ?_ | refine ZW 30 ?_ | (refine Zw (t := 45) rfl (fun hb => ?_) (fun hb => ?_) <;> (try simp only [kk] at hb) <;> first | refine Zc 30 ?_ | refine Za 30 ?_ | refine ZW 30 ?_))
   all_goals ((first | refine Zc 31 ?_ | refine Za 31 ?_ | refine Yb 31 ?_); (first | refine Zc 32 ?_ | refine Za 32 ?_ | refine ZW 32 ?_); (first | refine Zc 33 ?_ | refine Za 33 ?_ | refine Yb 33 ?_); (first | refine Zc 34 ?_ | refine Za 34 ?_ | refine Yw 34 ?_); refine YA 35 ?_; refine ZT 36 ?_)
   all_goals (first | refine Zc 37 ?_ | refine Za 37 ?_ | refine ZW 37 ?_ | (refine Zw (t := 52) rfl (fun hb => ?_) (fun hb => ?_) <;> (try simp only [kk] at hb) <;> first | refine Zc 37 ?_ | refine Za 37 ?_ | refine ZW 37 ?_))
   all_goals ((first | refine Zc 38 ?_ | refine Za 38 ?_ | refine Yb 38 ?_); (first | refine Zc 39 ?_ | refine Za 39 ?_ | refine ZP 39 ?_); (first | refine Zc 40 ?_ | refine Za 40 ?_ | refine Yw 40 ?_); refine YA 41 ?_; refine ZT 42 ?_)
   all_goals (first | refine Zc 43 ?_ | refine Za 43 ?_ | refine ZW 43 ?_ | (refine Zw (t := 58) rfl (fun hb => ?_) (fun hb => ?_) <;> (try simp only [kk] at hb) <;> first | refine Zc 43 ?_ | refine Za 43 ?_ | refine ZW 43 ?_))
   all_goals ((first | refine Zc 44 ?_ | refine Za 44 ?_ | refine Yb 44 ?_); (first | refine Zc 45 ?_ | refine Za 45 ?_ | refine ZW 45 ?_); (first | refine Zc 46 ?_ | refine Za 46 ?_ | refine Yb 46 ?_); (first | refine Zc 47 ?_ | refine Za 47 ?_ | refine Yw 47 ?_); refine YA 48 ?_; refine ZT 49 ?_)
   all_goals (first | refine Zc 50 ?_ | refine Za 50 ?_ | refine ZW 50 ?_ | (refine Zw (t := 65) rfl (fun hb => ?_) (fun hb => ?_) <;> (try simp only [kk] at hb) <;> first | refine Zc 50 ?_ | refine Za 50 ?_ | refine ZW 50 ?_))
   all_goals ((first | refine Zc 51 ?_ | refine Za 51 ?_ | refine Yb 51 ?_); (first | refine Zc 52 ?_ | refine Za 52 ?_ | refine Yw 52 ?_); refine YA 53 ?_; refine ZT 54 ?_)
   all_goals (first | refine Zc 55 ?_ | refine Za 55 ?_ | refine ZW 55 ?_ | (refine Zw (t := 70) rfl (fun hb => ?_) (fun hb => ?_) <;> (try simp only [kk] at hb) <;> first | refine Zc 55 ?_ | refine Za 55 ?_ | refine ZW 55 ?_))
   all_goals ((first | refine Zc 56 ?_ | refine Za 56 ?_ | refine Yb 56 ?_); (first | refine Zc 57 ?_ | refine Za 57 ?_ | refine Yw 57 ?_); refine YA 58 ?_; refine ZI ?_)
   all_goals (repeat' (first | (refine ZE ?_; refine Zo (Zd rfl) rfl rfl ?_) | (refine Zj ?_; first | (refine Zf ?_; refine qQ ?_) | refine Zn ?_) | refine Zb ?_ | (refine Zi ?_; refine Zv ?_) | (refine Zh ?_; refine Zu ?_) | (refine Xd ?_; refine ZN rfl rfl (fun hb => ?_) (fun hb => ?_) <;> (try simp only [decide_eq_true_eq, decide_eq_false_iff_not, Bool.not_eq_true, Bool.not_eq_false, beq_iff_eq, bne_iff_ne, ne_eq, decide_eq_decide, Bool.not_eq_eq_eq_not, Bool.not_true, Bool.not_false, beq_eq_false_iff_ne, bne_eq_false_iff_eq, Bool.and_eq_true, Bool.or_eq_true, Bool.and_eq_false_imp, Bool.or_eq_false_iff, bq2, bqt, bqf] at hb)) | (refine Yn ?_; refine Ya rfl (fun hb => ?_) (fun hb => ?_) <;> (try simp only [decide_eq_true_eq, decide_eq_false_iff_not, Bool.not_eq_true, Bool.not_eq_false, beq_iff_eq, bne_iff_ne, ne_eq, decide_eq_decide, Bool.not_eq_eq_eq_not, Bool.not_true, Bool.not_false, beq_eq_false_iff_ne, bne_eq_false_iff_eq, Bool.and_eq_true, Bool.or_eq_true, Bool.and_eq_false_imp, Bool.or_eq_false_iff, bq2, bqt, bqf] at hb)) | intro _))
   all_goals (try (rw [hfin (by rw [hw]; (first | (simp [*]; done) | (simp [*]; omega) | (simp_all; done) | (simp_all; omega)))]; refine qF (L' := []) ?_; exact ⟨by first | rfl | rw [Bool.and_false], rfl, rfl⟩))
   all_goals rw [← e1]
   all_goals refine Zq (k + 1) (⟨hlt, by rw [hs, hw]; (first | (simp [*]; done) | (simp [*]; omega) | (simp_all; done) | (simp_all; omega))⟩) Zm Zm rfl tk inferInstance (by first | omega | (dsimp only; omega))
  ·have hd : decide (k = 0) = false := decide_eq_false hk0
   obtain ⟨b2, off2, C2, T2, fr2, f1, hb2, hfit2, hc2⟩ := hA.get (show k - 1 < l.length by omega)
   rw [e1] at f1
   cases f1
   rw [hb0] at hb2
   cases hb2
   have ek : ((k : Int) - 1).toNat = k - 1 := by omega
   have hfin : (rt l[k] && (decide (k = 0) || decide (CkT.txn (l[k - 1]'(by omega)) < CkT.txn l[k]))) = false → ZM mo (fun _ x => rt x) (fun y x => decide (CkT.txn y < CkT.txn x)) l mo = false := fun e => hfin0 (by rw [hs]; exact e)
   rw [hd, Bool.false_or] at hs hfin
   have hcy : C[off + ((k : Int) - 1).toNat * 5]? = some (.int .i64 (CkT.txn (l[k - 1]'(by omega)))) := by
    have := congrArg (fun l => l[0]?) hc2
    rw [ek]
    simp only [List.getElem?_take, List.getElem?_drop] at this
    simpa using this
   clear hc2 hfit2
   generalize l[k] = x at *
   generalize l[k - 1]'(by omega) = y at *
   unfold ckTOk at hw
   generalize hQQ : ZM mo (fun _ x => rt x) (fun y x => decide (CkT.txn y < CkT.txn x)) l mo = q at *
   clear hfin0 hrt hR
   repeat' (first | (refine ZE ?_; refine Zo (Zd rfl) rfl rfl ?_) | (refine Zj ?_; first | (refine Zf ?_; refine qQ ?_) | refine Zn ?_) | refine Zb ?_ | (refine Zi ?_; refine Zv ?_) | (refine Zh ?_; refine Zu ?_) | intro _)
   refine ZD (Zs _ _ _) ZF ?_
   all_goals (refine ZS 0 ?_; refine ZO ?_; refine ZX 1 ?_; refine rCm 2 ?_; refine ZT 3 ?_)
   all_goals (first | refine Zc 4 ?_ | refine Za 4 ?_ | refine ZW 4 ?_ | (refine Zw (t := 19) rfl (fun hb => ?_) (fun hb => ?_) <;> (try simp only [kk] at hb) <;> first | refine Zc 4 ?_ | refine Za 4 ?_ | refine ZW 4 ?_))
   all_goals ((first | refine Zc 5 ?_ | refine Za 5 ?_ | refine Yb 5 ?_); (first | refine Zc 6 ?_ | refine Za 6 ?_ | refine ZP 6 ?_); (first | refine Zc 7 ?_ | refine Za 7 ?_ | refine Yw 7 ?_); refine YA 8 ?_; refine ZT 9 ?_)
   all_goals (first | refine Zc 10 ?_ | refine Za 10 ?_ | refine ZP 10 ?_ | (refine Zw (t := 25) rfl (fun hb => ?_) (fun hb => ?_) <;> (try simp only [kk] at hb) <;> first | refine Zc 10 ?_ | refine Za 10 ?_ | refine ZP 10 ?_))
   all_goals ((first | refine Zc 11 ?_ | refine Za 11 ?_ | refine Yw 11 ?_); (first | refine Zc 12 ?_ | refine Za 12 ?_ | refine ZP 12 ?_))
   all_goals (first | refine Zc 13 ?_ | refine Za 13 ?_ | refine ZP 13 ?_ | (refine Zw (t := 28) rfl (fun hb => ?_) (fun hb => ?_) <;> (try simp only [kk] at hb) <;> first | refine Zc 13 ?_ | refine Za 13 ?_ | refine ZP 13 ?_))
   all_goals ((first | refine Zc 14 ?_ | refine Za 14 ?_ | refine ZP 14 ?_); (first | refine Zc 15 ?_ | refine Za 15 ?_ | refine wSb 15 ?_); (first | refine Zc 16 ?_ | refine Za 16 ?_ | refine wIa 16 ?_); (first | refine Zc 17 ?_ | refine Za 17 ?_ | refine ZW 17 ?_); (first | refine Zc 18 ?_ | refine Za 18 ?_ | refine Yb 18 ?_); (first | refine Zc 19 ?_ | refine Za 19 ?_ | refine ZW 19 ?_); (first | refine Zc 20 ?_ | refine Za 20 ?_ | refine Yb 20 ?_); (first | refine Zc 21 ?_ | refine Za 21 ?_ | refine Yw 21 ?_); (first | refine Zc 22 ?_ | refine Za 22 ?_ | refine wPk 22 ?_); refine YA 23 ?_; refine ZT 24 ?_)
   all_goals (first | refine Zc 25 ?_ | refine Za 25 ?_ | refine ZW 25 ?_ | (refine Zw (t := 40) rfl (fun hb => ?_) (fun hb => ?_) <;> (try simp only [kk] at hb) <;> first | refine Zc 25 ?_ | refine Za 25 ?_ | refine ZW 25 ?_))
   all_goals ((first | refine Zc 26 ?_ | refine Za 26 ?_ | refine Yb 26 ?_); (first | refine Zc 27 ?_ | refine Za 27 ?_ | refine Yw 27 ?_); refine YA 28 ?_; refine ZT 29 ?_)
   all_goals (first | refine Zc 30 ?_ | refine Za 30 ?_ | refine ZW 30 ?_ | (refine Zw (t := 45) rfl (fun hb => ?_) (fun hb => ?_) <;> (try simp only [kk] at hb) <;> first | refine Zc 30 ?_ | refine Za 30 ?_ | refine ZW 30 ?_))
   all_goals ((first | refine Zc 31 ?_ | refine Za 31 ?_ | refine Yb 31 ?_); (first | refine Zc 32 ?_ | refine Za 32 ?_ | refine ZW 32 ?_); (first | refine Zc 33 ?_ | refine Za 33 ?_ | refine Yb 33 ?_); (first | refine Zc 34 ?_ | refine Za 34 ?_ | refine Yw 34 ?_); refine YA 35 ?_; refine ZT 36 ?_)
   all_goals (first | refine Zc 37 ?_ | refine Za 37 ?_ | refine ZW 37 ?_ | (refine Zw (t := 52) rfl (fun hb => ?_) (fun hb => ?_) <;> (try simp only [kk] at hb) <;> first | refine Zc 37 ?_ | refine Za 37 ?_ | refine ZW 37 ?_))
   all_goals ((first | refine Zc 38 ?_ | refine Za 38 ?_ | refine Yb 38 ?_); (first | refine Zc 39 ?_ | refine Za 39 ?_ | refine ZP 39 ?_); (first | refine Zc 40 ?_ | refine Za 40 ?_ | refine Yw 40 ?_); refine YA 41 ?_; refine ZT 42 ?_)
   all_goals (first | refine Zc 43 ?_ | refine Za 43 ?_ | refine ZW 43 ?_ | (refine Zw (t := 58) rfl (fun hb => ?_) (fun hb => ?_) <;> (try simp only [kk] at hb) <;> first | refine Zc 43 ?_ | refine Za 43 ?_ | refine ZW 43 ?_))
   all_goals ((first | refine Zc 44 ?_ | refine Za 44 ?_ | refine Yb 44 ?_); (first | refine Zc 45 ?_ | refine Za 45 ?_ | refine ZW 45 ?_); (first | refine Zc 46 ?_ | refine Za 46 ?_ | refine Yb 46 ?_); (first | refine Zc 47 ?_ | refine Za 47 ?_ | refine Yw 47 ?_); refine YA 48 ?_; refine ZT 49 ?_)
   all_goals (first | refine Zc 50 ?_ | refine Za 50 ?_ | refine ZW 50 ?_ | (refine Zw (t := 65) rfl (fun hb => ?_) (fun hb => ?_) <;> (try simp only [kk] at hb) <;> first | refine Zc 50 ?_ | refine Za 50 ?_ | refine ZW 50 ?_))
   all_goals ((first | refine Zc 51 ?_ | refine Za 51 ?_ | refine Yb 51 ?_); (first | refine Zc 52 ?_ | refine Za 52 ?_ | refine Yw 52 ?_); refine YA 53 ?_; refine ZT 54 ?_)
   all_goals (first | refine Zc 55 ?_ | refine Za 55 ?_ | refine ZW 55 ?_ | (refine Zw (t := 70) rfl (fun hb => ?_) (fun hb => ?_) <;> (try simp only [kk] at hb) <;> first | refine Zc 55 ?_ | refine Za 55 ?_ | refine ZW 55 ?_))
   all_goals ((first | refine Zc 56 ?_ | refine Za 56 ?_ | refine Yb 56 ?_); (first | refine Zc 57 ?_ | refine Za 57 ?_ | refine Yw 57 ?_); refine YA 58 ?_; refine ZI ?_)
   all_goals (repeat' (first | (refine ZE ?_; refine Zo (Zd rfl) rfl rfl ?_) | (refine Zj ?_; first | (refine Zf ?_; refine qQ ?_) | refine Zn ?_) | refine Zb ?_ | (refine Zi ?_; refine Zv ?_) | (refine Zh ?_; refine Zu ?_) | (refine Xd ?_; refine ZN rfl rfl (fun hb => ?_) (fun hb => ?_) <;> (try simp only [decide_eq_true_eq, decide_eq_false_iff_not, Bool.not_eq_true, Bool.not_eq_false, beq_iff_eq, bne_iff_ne, ne_eq, decide_eq_decide, Bool.not_eq_eq_eq_not, Bool.not_true, Bool.not_false, beq_eq_false_iff_ne, bne_eq_false_iff_eq, Bool.and_eq_true, Bool.or_eq_true, Bool.and_eq_false_imp, Bool.or_eq_false_iff, bq2, bqt, bqf] at hb)) | (refine Yn ?_; refine Ya rfl (fun hb => ?_) (fun hb => ?_) <;> (try simp only [decide_eq_true_eq, decide_eq_false_iff_not, Bool.not_eq_true, Bool.not_eq_false, beq_iff_eq, bne_iff_ne, ne_eq, decide_eq_decide, Bool.not_eq_eq_eq_not, Bool.not_true, Bool.not_false, beq_eq_false_iff_ne, bne_eq_false_iff_eq, Bool.and_eq_true, Bool.or_eq_true, Bool.and_eq_false_imp, Bool.or_eq_false_iff, bq2, bqt, bqf] at hb)) | intro _))
   all_goals (try (rw [hfin (by rw [hw]; (first | (simp [*]; done) | (simp [*]; omega) | (simp_all; done) | (simp_all; omega)))]; refine qF (L' := []) ?_; exact ⟨by first | rfl | rw [Bool.and_false], rfl, rfl⟩))
   all_goals rw [← e1]
   all_goals refine Zq (k + 1) (⟨hlt, by rw [hs, hw]; (first | (simp [*]; done) | (simp [*]; omega) | (simp_all; done) | (simp_all; omega))⟩) Zm Zm rfl tk inferInstance (by first | omega | (dsimp only; omega))
 ·have hk2 : k = mo := by omega
  rw [hk2] at hok
  rw [hok]
  repeat' (first | (refine ZE ?_; refine Zo (Zd rfl) rfl rfl ?_) | (refine Zj ?_; first | (refine Zf ?_; refine qQ ?_) | refine Zn ?_) | refine Zb ?_ | (refine Zi ?_; refine Zv ?_) | (refine Zh ?_; refine Zu ?_) | (refine Xd ?_; refine ZN rfl rfl (fun hb => ?_) (fun hb => ?_) <;> (try simp only [decide_eq_true_eq, decide_eq_false_iff_not, Bool.not_eq_true, Bool.not_eq_false, beq_iff_eq, bne_iff_ne, ne_eq, decide_eq_decide, Bool.not_eq_eq_eq_not, Bool.not_true, Bool.not_false, beq_eq_false_iff_ne, bne_eq_false_iff_eq, Bool.and_eq_true, Bool.or_eq_true, Bool.and_eq_false_imp, Bool.or_eq_false_iff, bq2, bqt, bqf] at hb)) | (refine Yn ?_; refine Ya rfl (fun hb => ?_) (fun hb => ?_) <;> (try simp only [decide_eq_true_eq, decide_eq_false_iff_not, Bool.not_eq_true, Bool.not_eq_false, beq_iff_eq, bne_iff_ne, ne_eq, decide_eq_decide, Bool.not_eq_eq_eq_not, Bool.not_true, Bool.not_false, beq_eq_false_iff_ne, bne_eq_false_iff_eq, Bool.and_eq_true, Bool.or_eq_true, Bool.and_eq_false_imp, Bool.or_eq_false_iff, bq2, bqt, bqf] at hb)) | intro _)
  all_goals (refine qF (L' := []) ?_; exact ⟨YD (by (try simp [*]); first | done | omega | (intros; omega) | (constructor <;> intros <;> (try simp_all) <;> omega)), rfl, rfl⟩)
theorem images12_spec (ρ : Hp) (s : SV) (l : List Im) (h : AS ρ 7 imV s l) (before : Bool) (him : ∀ x ∈ l, Im.In ρ x) :
  Spec Tryz.prog 95 [.slice s.a s.n s.c, .bool before] ρ [] (fun z ρ' L' => z = .bool (decide (l.length ≤ 16) && upB (imOk before) Im.page l l.length) ∧ ρ' = ρ ∧ L' = []) := by
 have hl := h.at'.len
 have hn := h.big
 have hA := h.at'
 generalize hR : (imOk before) = rt
 unfold upB
 generalize hm : l.length = mo
 have hrt : ∀ x, rt x = (imOk before) x := fun x => by rw [hR]
 refine Zg Tryz.func95 rfl rfl rfl fun u R => ?_
 simp only [Zx, List.cons_append, List.nil_append]
 repeat' (first | (refine ZE ?_; refine Zo (Zd rfl) rfl rfl ?_) | (refine Zj ?_; first | (refine Zf ?_; refine qQ ?_) | refine Zn ?_) | refine Zb ?_ | (refine Zi ?_; refine Zv ?_) | (refine Zh ?_; refine Zu ?_) | intro _)
 refine ZB [(0, _), (1, _), (7, _), (8, _)] (fun (ζ : (Nat)) => [(9, .int .i64 ζ), (4, .bool false)]) (fun (ζ : (Nat)) => ρ) (fun (ζ : (Nat)) => []) (fun (ζ : (Nat)) => ζ ≤ s.n ∧ ZM mo (fun _ x => rt x) (fun y x => decide (Im.page y < Im.page x)) l ζ = true) (fun (ζ : (Nat)) => s.n - ζ) (0) (⟨Nat.zero_le _, by rw [ZM]; simp [hm]⟩) Zm Zm rfl tk ?_
 rintro k hI
 try simp only [List.cons_append, List.nil_append, List.append_assoc, List.append_eq] at hI ⊢
 try dsimp only at hI ⊢
 obtain ⟨hk, hok⟩ := hI
 by_cases hlt : k < s.n
 ·obtain ⟨b, off, C, T, fr, e1, hb0, hfit, hc⟩ := hA.get (show k < l.length by omega)
  have hs := YY (most := mo) (right := fun _ x => rt x) (lt := fun y x => decide (Im.page y < Im.page x)) (show k < l.length by omega)
  have hfin0 := fun (e : ZM mo (fun _ x => rt x) (fun y x => decide (Im.page y < Im.page x)) l (k + 1) = false) => YM e (show k + 1 ≤ mo by omega)
  rw [hok, Bool.true_and] at hs
  have hw := hrt l[k]
  have him1 := him _ (List.getElem_mem (show k < l.length by omega))
  rw [e1]
  by_cases hk0 : k = 0
  ·have hfin : (rt l[k] && (decide (k = 0) || decide (Im.page (l[k - 1]'(by omega)) < Im.page l[k]))) = false → ZM mo (fun _ x => rt x) (fun y x => decide (Im.page y < Im.page x)) l mo = false := fun e => hfin0 (by rw [hs]; exact e)
   rw [decide_eq_true hk0, Bool.true_or, Bool.and_true] at hs hfin
   generalize l[k] = x at *
   (unfold imOk at hw); have hra := right_spec ρ x.av x.a him1.a.cin (fun r hr => (him1.a.row r hr).id) him1.a.kid; have hrb := right_spec ρ x.bv x.b him1.b.cin (fun r hr => (him1.b.row r hr).id) him1.b.kid
   generalize hQQ : ZM mo (fun _ x => rt x) (fun y x => decide (Im.page y < Im.page x)) l mo = q at *
   clear hfin0 hrt hR
   repeat' (first | (refine ZE ?_; refine Zo (Zd rfl) rfl rfl ?_) | (refine Zj ?_; first | (refine Zf ?_; refine qQ ?_) | refine Zn ?_) | refine Zb ?_ | (refine Zi ?_; refine Zv ?_) | (refine Zh ?_; refine Zu ?_) | intro _)
   refine ZD (Zs _ _ _) ZF ?_
   all_goals (refine ZS 0 ?_; refine ZX 1 ?_)
   all_goals (refine Zp (i := 2) ?_; ((try refine Zk ?_); (first | (refine Ze (.func 177) ?_; refine qC rfl rfl (rpage12_spec _ _) ?_; rintro v ρ' L' hle ⟨rfl, rfl, rfl⟩ <;> (try simp only [kM, kN, kO])) | (refine Zn ?_; try intro _)) <;> ((try simp only [kM, kN, kO]); refine Zb ?_; refine Zl ?_)))
   all_goals (refine rUn 3 ?_; refine ZT 4 ?_)
   all_goals (first | refine Zc 5 ?_ | refine Za 5 ?_ | refine ZP 5 ?_ | (refine Zw (t := 18) rfl (fun hb => ?_) (fun hb => ?_) <;> (try simp only [kk] at hb) <;> first | refine Zc 5 ?_ | refine Za 5 ?_ | refine ZP 5 ?_))
   all_goals ((first | refine Zc 6 ?_ | refine Za 6 ?_ | refine Yw 6 ?_); (first | refine Zc 7 ?_ | refine Za 7 ?_ | refine ZP 7 ?_))
   all_goals (first | refine Zc 8 ?_ | refine Za 8 ?_ | refine ZP 8 ?_ | (refine Zw (t := 21) rfl (fun hb => ?_) (fun hb => ?_) <;> (try simp only [kk] at hb) <;> first | refine Zc 8 ?_ | refine Za 8 ?_ | refine ZP 8 ?_))
   all_goals ((first | refine Zc 9 ?_ | refine Za 9 ?_ | refine ZP 9 ?_); (first | refine Zc 10 ?_ | refine Za 10 ?_ | refine wSb 10 ?_); (first | refine Zc 11 ?_ | refine Za 11 ?_ | refine wIa 11 ?_); (first | refine Zc 12 ?_ | refine Za 12 ?_ | refine ZW 12 ?_); (first | refine Zc 13 ?_ | refine Za 13 ?_ | refine Yb 13 ?_); (first | refine Zc 14 ?_ | refine Za 14 ?_ | refine ZW 14 ?_); (first | refine Zc 15 ?_ | refine Za 15 ?_ | refine Yb 15 ?_); (first | refine Zc 16 ?_ | refine Za 16 ?_ | refine Yw 16 ?_); (first | refine Zc 17 ?_ | refine Za 17 ?_ | refine wPk 17 ?_); refine YA 18 ?_; refine ZT 19 ?_)
   all_goals (first | refine Zc 20 ?_ | refine Za 20 ?_ | refine ZW 20 ?_ | (refine Zw (t := 33) rfl (fun hb => ?_) (fun hb => ?_) <;> (try simp only [kk] at hb) <;> first | refine Zc 20 ?_ | refine Za 20 ?_ | refine ZW 20 ?_))
   all_goals (first | refine Zc 21 ?_ | refine Za 21 ?_ | refine Yb 21 ?_)
   all_goals (first | refine Zc 22 ?_ | refine Za 22 ?_ | (refine Zp (i := 22) ?_; ((try refine Zk ?_); (first | (refine Ze (.func 178) ?_; refine qC rfl rfl (hra) ?_; rintro v ρ' L' hle ⟨rfl, rfl, rfl⟩ <;> (try simp only [kM, kN, kO])) | (refine Ze (.func 178) ?_; refine qC rfl rfl (hrb) ?_; rintro v ρ' L' hle ⟨rfl, rfl, rfl⟩ <;> (try simp only [kM, kN, kO])) | (refine Zn ?_; try intro _)) <;> ((try simp only [kM, kN, kO]); refine Zb ?_; refine Zl ?_))))
   all_goals ((first | refine Zc 23 ?_ | refine Za 23 ?_ | refine wUn 23 ?_); refine YA 24 ?_; refine ZT 25 ?_)
   all_goals (first | refine Zc 26 ?_ | refine Za 26 ?_ | refine ZW 26 ?_ | (refine Zw (t := 39) rfl (fun hb => ?_) (fun hb => ?_) <;> (try simp only [kk] at hb) <;> first | refine Zc 26 ?_ | refine Za 26 ?_ | refine ZW 26 ?_))
   all_goals (first | refine Zc 27 ?_ | refine Za 27 ?_ | refine Yb 27 ?_)
   all_goals (first | refine Zc 28 ?_ | refine Za 28 ?_ | (refine Zp (i := 28) ?_; ((try refine Zk ?_); (first | (refine Ze (.func 178) ?_; refine qC rfl rfl (hra) ?_; rintro v ρ' L' hle ⟨rfl, rfl, rfl⟩ <;> (try simp only [kM, kN, kO])) | (refine Ze (.func 178) ?_; refine qC rfl rfl (hrb) ?_; rintro v ρ' L' hle ⟨rfl, rfl, rfl⟩ <;> (try simp only [kM, kN, kO])) | (refine Zn ?_; try intro _)) <;> ((try simp only [kM, kN, kO]); refine Zb ?_; refine Zl ?_))))
   all_goals (refine ZO ?_; (first | refine Zc 29 ?_ | refine Za 29 ?_ | refine wUn 29 ?_); refine YA 30 ?_; refine ZT 31 ?_)
   all_goals (first | refine Zc 32 ?_ | refine Za 32 ?_ | refine ZP 32 ?_ | (refine Zw (t := 45) rfl (fun hb => ?_) (fun hb => ?_) <;> (try simp only [kk] at hb) <;> first | refine Zc 32 ?_ | refine Za 32 ?_ | refine ZP 32 ?_))
   all_goals ((first | refine Zc 33 ?_ | refine Za 33 ?_ | refine wUn 33 ?_); (first | refine Zc 34 ?_ | refine Za 34 ?_ | refine ZP 34 ?_))
   all_goals (first | refine Zc 35 ?_ | refine Za 35 ?_ | refine ZW 35 ?_ | (refine Zw (t := 48) rfl (fun hb => ?_) (fun hb => ?_) <;> (try simp only [kk] at hb) <;> first | refine Zc 35 ?_ | refine Za 35 ?_ | refine ZW 35 ?_))
   all_goals ((first | refine Zc 36 ?_ | refine Za 36 ?_ | refine ZW 36 ?_); (first | refine Zc 37 ?_ | refine Za 37 ?_ | refine Yb 37 ?_); (first | refine Zc 38 ?_ | refine Za 38 ?_ | refine Yw 38 ?_); (first | refine Zc 39 ?_ | refine Za 39 ?_ | refine wPk 39 ?_); refine YA 40 ?_; refine ZI ?_)
   all_goals (repeat' (first | (refine ZE ?_; refine Zo (Zd rfl) rfl rfl ?_) | (refine Zj ?_; first | (refine Zf ?_; refine qQ ?_) | refine Zn ?_) | refine Zb ?_ | (refine Zi ?_; refine Zv ?_) | (refine Zh ?_; refine Zu ?_) | (refine Xd ?_; refine ZN rfl rfl (fun hb => ?_) (fun hb => ?_) <;> (try simp only [decide_eq_true_eq, decide_eq_false_iff_not, Bool.not_eq_true, Bool.not_eq_false, beq_iff_eq, bne_iff_ne, ne_eq, decide_eq_decide, Bool.not_eq_eq_eq_not, Bool.not_true, Bool.not_false, beq_eq_false_iff_ne, bne_eq_false_iff_eq, Bool.and_eq_true, Bool.or_eq_true, Bool.and_eq_false_imp, Bool.or_eq_false_iff, bq2, bqt, bqf] at hb)) | (refine Yn ?_; refine Ya rfl (fun hb => ?_) (fun hb => ?_) <;> (try simp only [decide_eq_true_eq, decide_eq_false_iff_not, Bool.not_eq_true, Bool.not_eq_false, beq_iff_eq, bne_iff_ne, ne_eq, decide_eq_decide, Bool.not_eq_eq_eq_not, Bool.not_true, Bool.not_false, beq_eq_false_iff_ne, bne_eq_false_iff_eq, Bool.and_eq_true, Bool.or_eq_true, Bool.and_eq_false_imp, Bool.or_eq_false_iff, bq2, bqt, bqf] at hb)) | intro _))
   all_goals (try (rw [hfin (by rw [hw]; (first | (simp [*]; done) | (simp [*]; omega) | (simp_all; done) | (simp_all; omega)))]; refine qF (L' := []) ?_; exact ⟨by first | rfl | rw [Bool.and_false], rfl, rfl⟩))
   all_goals rw [← e1]
   all_goals refine Zq (k + 1) (⟨hlt, by rw [hs, hw]; (first | (simp [*]; done) | (simp [*]; omega) | (simp_all; done) | (simp_all; omega))⟩) Zm Zm rfl tk inferInstance (by first | omega | (dsimp only; omega))
  ·have hd : decide (k = 0) = false := decide_eq_false hk0
   obtain ⟨b2, off2, C2, T2, fr2, f1, hb2, hfit2, hc2⟩ := hA.get (show k - 1 < l.length by omega)
   rw [e1] at f1
   cases f1
   rw [hb0] at hb2
   cases hb2
   have ek : ((k : Int) - 1).toNat = k - 1 := by omega
   have hfin : (rt l[k] && (decide (k = 0) || decide (Im.page (l[k - 1]'(by omega)) < Im.page l[k]))) = false → ZM mo (fun _ x => rt x) (fun y x => decide (Im.page y < Im.page x)) l mo = false := fun e => hfin0 (by rw [hs]; exact e)
   rw [hd, Bool.false_or] at hs hfin
   have hcy : C[off + ((k : Int) - 1).toNat * 7]? = some (.int .i64 (Im.page (l[k - 1]'(by omega)))) := by
    have := congrArg (fun l => l[0]?) hc2
    rw [ek]
    simp only [List.getElem?_take, List.getElem?_drop] at this
    simpa using this
   clear hc2 hfit2
   generalize l[k] = x at *
   generalize l[k - 1]'(by omega) = y at *
   (unfold imOk at hw); have hra := right_spec ρ x.av x.a him1.a.cin (fun r hr => (him1.a.row r hr).id) him1.a.kid; have hrb := right_spec ρ x.bv x.b him1.b.cin (fun r hr => (him1.b.row r hr).id) him1.b.kid
   generalize hQQ : ZM mo (fun _ x => rt x) (fun y x => decide (Im.page y < Im.page x)) l mo = q at *
   clear hfin0 hrt hR
   repeat' (first | (refine ZE ?_; refine Zo (Zd rfl) rfl rfl ?_) | (refine Zj ?_; first | (refine Zf ?_; refine qQ ?_) | refine Zn ?_) | refine Zb ?_ | (refine Zi ?_; refine Zv ?_) | (refine Zh ?_; refine Zu ?_) | intro _)
   refine ZD (Zs _ _ _) ZF ?_
   all_goals (refine ZS 0 ?_; refine ZX 1 ?_)
   all_goals (refine Zp (i := 2) ?_; ((try refine Zk ?_); (first | (refine Ze (.func 177) ?_; refine qC rfl rfl (rpage12_spec _ _) ?_; rintro v ρ' L' hle ⟨rfl, rfl, rfl⟩ <;> (try simp only [kM, kN, kO])) | (refine Zn ?_; try intro _)) <;> ((try simp only [kM, kN, kO]); refine Zb ?_; refine Zl ?_)))
   all_goals (refine rUn 3 ?_; refine ZT 4 ?_)
   all_goals (first | refine Zc 5 ?_ | refine Za 5 ?_ | refine ZP 5 ?_ | (refine Zw (t := 18) rfl (fun hb => ?_) (fun hb => ?_) <;> (try simp only [kk] at hb) <;> first | refine Zc 5 ?_ | refine Za 5 ?_ | refine ZP 5 ?_))
   all_goals ((first | refine Zc 6 ?_ | refine Za 6 ?_ | refine Yw 6 ?_); (first | refine Zc 7 ?_ | refine Za 7 ?_ | refine ZP 7 ?_))
   all_goals (first | refine Zc 8 ?_ | refine Za 8 ?_ | refine ZP 8 ?_ | (refine Zw (t := 21) rfl (fun hb => ?_) (fun hb => ?_) <;> (try simp only [kk] at hb) <;> first | refine Zc 8 ?_ | refine Za 8 ?_ | refine ZP 8 ?_))
   all_goals ((first | refine Zc 9 ?_ | refine Za 9 ?_ | refine ZP 9 ?_); (first | refine Zc 10 ?_ | refine Za 10 ?_ | refine wSb 10 ?_); (first | refine Zc 11 ?_ | refine Za 11 ?_ | refine wIa 11 ?_); (first | refine Zc 12 ?_ | refine Za 12 ?_ | refine ZW 12 ?_); (first | refine Zc 13 ?_ | refine Za 13 ?_ | refine Yb 13 ?_); (first | refine Zc 14 ?_ | refine Za 14 ?_ | refine ZW 14 ?_); (first | refine Zc 15 ?_ | refine Za 15 ?_ | refine Yb 15 ?_); (first | refine Zc 16 ?_ | refine Za 16 ?_ | refine Yw 16 ?_); (first | refine Zc 17 ?_ | refine Za 17 ?_ | refine wPk 17 ?_); refine YA 18 ?_; refine ZT 19 ?_)
   all_goals (first | refine Zc 20 ?_ | refine Za 20 ?_ | refine ZW 20 ?_ | (refine Zw (t := 33) rfl (fun hb => ?_) (fun hb => ?_) <;> (try simp only [kk] at hb) <;> first | refine Zc 20 ?_ | refine Za 20 ?_ | refine ZW 20 ?_))
   all_goals (first | refine Zc 21 ?_ | refine Za 21 ?_ | refine Yb 21 ?_)
   all_goals (first | refine Zc 22 ?_ | refine Za 22 ?_ | (refine Zp (i := 22) ?_; ((try refine Zk ?_); (first | (refine Ze (.func 178) ?_; refine qC rfl rfl (hra) ?_; rintro v ρ' L' hle ⟨rfl, rfl, rfl⟩ <;> (try simp only [kM, kN, kO])) | (refine Ze (.func 178) ?_; refine qC rfl rfl (hrb) ?_; rintro v ρ' L' hle ⟨rfl, rfl, rfl⟩ <;> (try simp only [kM, kN, kO])) | (refine Zn ?_; try intro _)) <;> ((try simp only [kM, kN, kO]); refine Zb ?_; refine Zl ?_))))
   all_goals ((first | refine Zc 23 ?_ | refine Za 23 ?_ | refine wUn 23 ?_); refine YA 24 ?_; refine ZT 25 ?_)
   all_goals (first | refine Zc 26 ?_ | refine Za 26 ?_ | refine ZW 26 ?_ | (refine Zw (t := 39) rfl (fun hb => ?_) (fun hb => ?_) <;> (try simp only [kk] at hb) <;> first | refine Zc 26 ?_ | refine Za 26 ?_ | refine ZW 26 ?_))
   all_goals (first | refine Zc 27 ?_ | refine Za 27 ?_ | refine Yb 27 ?_)
   all_goals (first | refine Zc 28 ?_ | refine Za 28 ?_ | (refine Zp (i := 28) ?_; ((try refine Zk ?_); (first | (refine Ze (.func 178) ?_; refine qC rfl rfl (hra) ?_; rintro v ρ' L' hle ⟨rfl, rfl, rfl⟩ <;> (try simp only [kM, kN, kO])) | (refine Ze (.func 178) ?_; refine qC rfl rfl (hrb) ?_; rintro v ρ' L' hle ⟨rfl, rfl, rfl⟩ <;> (try simp only [kM, kN, kO])) | (refine Zn ?_; try intro _)) <;> ((try simp only [kM, kN, kO]); refine Zb ?_; refine Zl ?_))))
   all_goals (refine ZO ?_; (first | refine Zc 29 ?_ | refine Za 29 ?_ | refine wUn 29 ?_); refine YA 30 ?_; refine ZT 31 ?_)
   all_goals (first | refine Zc 32 ?_ | refine Za 32 ?_ | refine ZP 32 ?_ | (refine Zw (t := 45) rfl (fun hb => ?_) (fun hb => ?_) <;> (try simp only [kk] at hb) <;> first | refine Zc 32 ?_ | refine Za 32 ?_ | refine ZP 32 ?_))
   all_goals ((first | refine Zc 33 ?_ | refine Za 33 ?_ | refine wUn 33 ?_); (first | refine Zc 34 ?_ | refine Za 34 ?_ | refine ZP 34 ?_))
   all_goals (first | refine Zc 35 ?_ | refine Za 35 ?_ | refine ZW 35 ?_ | (refine Zw (t := 48) rfl (fun hb => ?_) (fun hb => ?_) <;> (try simp only [kk] at hb) <;> first | refine Zc 35 ?_ | refine Za 35 ?_ | refine ZW 35 ?_))
   all_goals ((first | refine Zc 36 ?_ | refine Za 36 ?_ | refine ZW 36 ?_); (first | refine Zc 37 ?_ | refine Za 37 ?_ | refine Yb 37 ?_); (first | refine Zc 38 ?_ | refine Za 38 ?_ | refine Yw 38 ?_); (first | refine Zc 39 ?_ | refine Za 39 ?_ | refine wPk 39 ?_); refine YA 40 ?_; refine ZI ?_)
   all_goals (repeat' (first | (refine ZE ?_; refine Zo (Zd rfl) rfl rfl ?_) | (refine Zj ?_; first | (refine Zf ?_; refine qQ ?_) | refine Zn ?_) | refine Zb ?_ | (refine Zi ?_; refine Zv ?_) | (refine Zh ?_; refine Zu ?_) | (refine Xd ?_; refine ZN rfl rfl (fun hb => ?_) (fun hb => ?_) <;> (try simp only [decide_eq_true_eq, decide_eq_false_iff_not, Bool.not_eq_true, Bool.not_eq_false, beq_iff_eq, bne_iff_ne, ne_eq, decide_eq_decide, Bool.not_eq_eq_eq_not, Bool.not_true, Bool.not_false, beq_eq_false_iff_ne, bne_eq_false_iff_eq, Bool.and_eq_true, Bool.or_eq_true, Bool.and_eq_false_imp, Bool.or_eq_false_iff, bq2, bqt, bqf] at hb)) | (refine Yn ?_; refine Ya rfl (fun hb => ?_) (fun hb => ?_) <;> (try simp only [decide_eq_true_eq, decide_eq_false_iff_not, Bool.not_eq_true, Bool.not_eq_false, beq_iff_eq, bne_iff_ne, ne_eq, decide_eq_decide, Bool.not_eq_eq_eq_not, Bool.not_true, Bool.not_false, beq_eq_false_iff_ne, bne_eq_false_iff_eq, Bool.and_eq_true, Bool.or_eq_true, Bool.and_eq_false_imp, Bool.or_eq_false_iff, bq2, bqt, bqf] at hb)) | intro _))
   all_goals (try (rw [hfin (by rw [hw]; (first | (simp [*]; done) | (simp [*]; omega) | (simp_all; done) | (simp_all; omega)))]; refine qF (L' := []) ?_; exact ⟨by first | rfl | rw [Bool.and_false], rfl, rfl⟩))
   all_goals rw [← e1]
   all_goals refine Zq (k + 1) (⟨hlt, by rw [hs, hw]; (first | (simp [*]; done) | (simp [*]; omega) | (simp_all; done) | (simp_all; omega))⟩) Zm Zm rfl tk inferInstance (by first | omega | (dsimp only; omega))
 ·have hk2 : k = mo := by omega
  rw [hk2] at hok
  rw [hok]
  repeat' (first | (refine ZE ?_; refine Zo (Zd rfl) rfl rfl ?_) | (refine Zj ?_; first | (refine Zf ?_; refine qQ ?_) | refine Zn ?_) | refine Zb ?_ | (refine Zi ?_; refine Zv ?_) | (refine Zh ?_; refine Zu ?_) | (refine Xd ?_; refine ZN rfl rfl (fun hb => ?_) (fun hb => ?_) <;> (try simp only [decide_eq_true_eq, decide_eq_false_iff_not, Bool.not_eq_true, Bool.not_eq_false, beq_iff_eq, bne_iff_ne, ne_eq, decide_eq_decide, Bool.not_eq_eq_eq_not, Bool.not_true, Bool.not_false, beq_eq_false_iff_ne, bne_eq_false_iff_eq, Bool.and_eq_true, Bool.or_eq_true, Bool.and_eq_false_imp, Bool.or_eq_false_iff, bq2, bqt, bqf] at hb)) | (refine Yn ?_; refine Ya rfl (fun hb => ?_) (fun hb => ?_) <;> (try simp only [decide_eq_true_eq, decide_eq_false_iff_not, Bool.not_eq_true, Bool.not_eq_false, beq_iff_eq, bne_iff_ne, ne_eq, decide_eq_decide, Bool.not_eq_eq_eq_not, Bool.not_true, Bool.not_false, beq_eq_false_iff_ne, bne_eq_false_iff_eq, Bool.and_eq_true, Bool.or_eq_true, Bool.and_eq_false_imp, Bool.or_eq_false_iff, bq2, bqt, bqf] at hb)) | intro _)
  all_goals (refine qF (L' := []) ?_; exact ⟨YD (by (try simp [*]); first | done | omega | (intros; omega) | (constructor <;> intros <;> (try simp_all) <;> omega)), rfl, rfl⟩)
end Go.Proofs.E
