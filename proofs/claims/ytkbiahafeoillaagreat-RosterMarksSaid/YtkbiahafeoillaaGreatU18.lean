/- The law RosterMarks. Part 18 of 20. -/
import Derived.Test.YtkbiahafeoillaaGreatU17
namespace Go.Proofs.E
open Go
set_option linter.unusedVariables false
set_option linter.unusedSimpArgs false
set_option linter.unusedSectionVars false
set_option maxRecDepth 4000
set_option maxHeartbeats 1000000
attribute [local irreducible] Yl TL TC TE Spec Wh R1 Hp.le EnvLe TS TR YS Zq
structure Im.InL (ρ : Hp) (x : Im) : Prop where
 b : CInL ρ x.bv x.b.rows x.b.kids
 a : CInL ρ x.av x.a.rows x.a.kids
structure ASL (ρ : Hp) (sz : Nat) {α : Type} (g : α → List Value) (s : SV) (l : List α) : Prop where
 at' : AIn ρ sz g s.a s.n l
 big : s.n ≤ 281474976710656
 cap : s.n ≤ s.c
structure RcInL (ρ : Hp) (v : RV) (r : Rc) : Prop where
 i : ASL ρ 7 imV v.i r.ims
 im : ∀ x ∈ r.ims, Im.InL ρ x
 s : ASL ρ 6 stpV v.s r.steps
 t : ASL ρ 5 ckTV v.t r.txns
 d : ASL ρ 2 ckPV v.d r.dirty
theorem Xz (ρ : Hp) (bx : Nat) (before : Bool) (x : Im) (h : Im.InL ρ x) : Spec Tryz.prog 171 [.agg ⟨imV x⟩, .pointer (some ⟨bx, 0, none⟩)] ρ (Ys bx before) (fun v ρ' L' => v = .bool (imOk before x) ∧ ρ' = ρ ∧ L' = Ys bx before) := by
 have ha := checkL_spec ρ x.av x.a h.a
 have hb := checkL_spec ρ x.bv x.b h.b
 refine Zg Tryz.func171 rfl rfl rfl fun u R => ?_
 simp only [Zx, List.cons_append, List.nil_append]
 unfold imOk
 cases h1 : pageOk x.page
 ·repeat' (first | (refine Ze (.func 145) ?_; refine qC rfl rfl (YP _ _) ?_; rintro v ρ' L' hle ⟨rfl, rfl, rfl⟩ <;> (try simp only [kM, kN, kO, h1])) | (refine ZE ?_; refine Zn (Zd rfl) rfl rfl ?_) | (refine Zj ?_; first | (refine Zf ?_; refine qQ ?_) | refine Zm ?_) | refine Za ?_ | (refine Zi ?_; refine Zt ?_) | (refine Zh ?_; refine Zs ?_) | intro _)
  exact qE (L' := Ys bx before) ⟨rfl, rfl, rfl⟩
 ·cases h2 : YE x.a
  ·rw [h2] at ha
   repeat' (first | (refine Ze (.func 145) ?_; refine qC rfl rfl (YP _ _) ?_; rintro v ρ' L' hle ⟨rfl, rfl, rfl⟩ <;> (try simp only [kM, kN, kO, h1])) | (refine Ze (.func 172) ?_; refine qC rfl rfl (ha) ?_; rintro v ρ' L' hle ⟨rfl, rfl, rfl⟩ <;> (try simp only [kM, kN, kO, if_false, Bool.false_eq_true])) | (refine ZE ?_; refine Zn (Zd rfl) rfl rfl ?_) | (refine Zj ?_; first | (refine Zf ?_; refine qQ ?_) | refine Zm ?_) | refine Za ?_ | (refine Zi ?_; refine Zt ?_) | (refine Zh ?_; refine Zs ?_) | intro _)
   exact qE (L' := Ys bx before) ⟨rfl, rfl, rfl⟩
  ·rw [h2] at ha
   cases h3 : YE x.b
   ·rw [h3] at hb
    repeat' (first | (refine Ze (.func 145) ?_; refine qC rfl rfl (YP _ _) ?_; rintro v ρ' L' hle ⟨rfl, rfl, rfl⟩ <;> (try simp only [kM, kN, kO, h1])) | (refine Ze (.func 172) ?_; refine qC rfl rfl (ha) ?_; rintro v ρ' L' hle ⟨rfl, rfl, rfl⟩ <;> (try simp only [kM, kN, kO, if_true])) | (refine Ze (.func 172) ?_; refine qC rfl rfl (hb) ?_; rintro v ρ' L' hle ⟨rfl, rfl, rfl⟩ <;> (try simp only [kM, kN, kO, if_false, Bool.false_eq_true])) | (refine ZE ?_; refine Zn (Zd rfl) rfl rfl ?_) | (refine Zj ?_; first | (refine Zf ?_; refine qQ ?_) | refine Zm ?_) | refine Za ?_ | (refine Zi ?_; refine Zt ?_) | (refine Zh ?_; refine Zs ?_) | intro _)
    exact qE (L' := Ys bx before) ⟨rfl, rfl, rfl⟩
   ·rw [h3] at hb
    cases before
    ·by_cases h4 : x.b.kind = 0
     ·rw [decide_eq_true h4]
      repeat' (first | (refine Ze (.func 145) ?_; refine qC rfl rfl (YP _ _) ?_; rintro v ρ' L' hle ⟨rfl, rfl, rfl⟩ <;> (try simp only [kM, kN, kO, h1])) | (refine Ze (.func 172) ?_; refine qC rfl rfl (ha) ?_; rintro v ρ' L' hle ⟨rfl, rfl, rfl⟩ <;> (try simp only [kM, kN, kO, if_true])) | (refine Ze (.func 172) ?_; refine qC rfl rfl (hb) ?_; rintro v ρ' L' hle ⟨rfl, rfl, rfl⟩ <;> (try simp only [kM, kN, kO, if_true])) | (refine ZE ?_; refine Zn (Zd rfl) rfl rfl ?_) | (refine Zj ?_; first | (refine Zf ?_; refine qQ ?_) | refine Zm ?_) | refine Za ?_ | (refine Zi ?_; refine Zt ?_) | (refine Zh ?_; refine Zs ?_) | intro _)
      exact qE (L' := Ys bx false) ⟨rfl, rfl, rfl⟩
     ·rw [decide_eq_false h4]
      repeat' (first | (refine Ze (.func 145) ?_; refine qC rfl rfl (YP _ _) ?_; rintro v ρ' L' hle ⟨rfl, rfl, rfl⟩ <;> (try simp only [kM, kN, kO, h1])) | (refine Ze (.func 172) ?_; refine qC rfl rfl (ha) ?_; rintro v ρ' L' hle ⟨rfl, rfl, rfl⟩ <;> (try simp only [kM, kN, kO, if_true])) | (refine Ze (.func 172) ?_; refine qC rfl rfl (hb) ?_; rintro v ρ' L' hle ⟨rfl, rfl, rfl⟩ <;> (try simp only [kM, kN, kO, if_true])) | (refine ZE ?_; refine Zn (Zd rfl) rfl rfl ?_) | (refine Zj ?_; first | (refine Zf ?_; refine qQ ?_) | refine Zm ?_) | refine Za ?_ | (refine Zi ?_; refine Zt ?_) | (refine Zh ?_; refine Zs ?_) | intro _)
      exact qE (L' := Ys bx false) ⟨rfl, rfl, rfl⟩
    ·repeat' (first | (refine Ze (.func 145) ?_; refine qC rfl rfl (YP _ _) ?_; rintro v ρ' L' hle ⟨rfl, rfl, rfl⟩ <;> (try simp only [kM, kN, kO, h1])) | (refine Ze (.func 172) ?_; refine qC rfl rfl (ha) ?_; rintro v ρ' L' hle ⟨rfl, rfl, rfl⟩ <;> (try simp only [kM, kN, kO, if_true])) | (refine Ze (.func 172) ?_; refine qC rfl rfl (hb) ?_; rintro v ρ' L' hle ⟨rfl, rfl, rfl⟩ <;> (try simp only [kM, kN, kO, if_true])) | (refine ZE ?_; refine Zn (Zd rfl) rfl rfl ?_) | (refine Zj ?_; first | (refine Zf ?_; refine qQ ?_) | refine Zm ?_) | refine Za ?_ | (refine Zi ?_; refine Zt ?_) | (refine Zh ?_; refine Zs ?_) | intro _)
     exact qE (L' := Ys bx true) ⟨rfl, rfl, rfl⟩
theorem risesImL_spec (ρ : Hp) (a : Option Addr) (n c : Nat) (l : List Im) (h : AIn ρ 7 imV a n l) (hn : n ≤ 281474976710656) (bx : Nat) (before : Bool) (him : ∀ x ∈ l, Im.InL ρ x) :
  Spec Tryz.prog 169 [.slice a n c, .func (.func 170) ⟨[]⟩ ⟨[]⟩, .func (.func 171) ⟨[]⟩ ⟨[.pointer (some ⟨bx, 0, none⟩)]⟩] ρ (Ys bx before) (fun z ρ' L' => z = .bool (upB (imOk before) Im.page l l.length) ∧ ρ' = ρ ∧ L' = (Ys bx before)) := by
 have hl := h.len
 generalize hR : (imOk before) = rt
 unfold upB
 generalize hm : l.length = mo
 have hrt : ∀ x, rt x = (imOk before) x := fun x => by rw [hR]
 refine Zg Tryz.func169 rfl rfl rfl fun u R => ?_
 simp only [Zx, List.cons_append, List.nil_append]
 repeat' (first | (refine ZE ?_; refine Zn (Zd rfl) rfl rfl ?_) | (refine Zj ?_; first | (refine Zf ?_; refine qQ ?_) | refine Zm ?_) | refine Za ?_ | (refine Zi ?_; refine Zt ?_) | (refine Zh ?_; refine Zs ?_) | intro _)
 refine ZG [(0, _), (1, _), (2, _), (9, _), (10, _)] (fun (ζ : (Nat)) => [(11, .int .i64 ζ), (6, .bool false)]) (fun (ζ : (Nat)) => ρ) (fun (ζ : (Nat)) => (Ys bx before)) (fun (ζ : (Nat)) => ζ ≤ n ∧ ZK mo (fun _ x => rt x) (fun y x => decide (Im.page y < Im.page x)) l ζ = true) (fun (ζ : (Nat)) => n - ζ) (0) (⟨Nat.zero_le _, by rw [ZK]; simp [hm]⟩) Zo Zo rfl tk ?_
 rintro k hI
 try simp only [List.cons_append, List.nil_append, List.append_assoc, List.append_eq] at hI ⊢
 try dsimp only at hI ⊢
 obtain ⟨hk, hok⟩ := hI
 by_cases hlt : k < n
 ·obtain ⟨b, off, C, T, fr, e1, hb0, hfit, hc⟩ := h.get (show k < l.length by omega)
  have hs := YR (most := mo) (right := fun _ x => rt x) (lt := fun y x => decide (Im.page y < Im.page x)) (show k < l.length by omega)
  have hfin0 := fun (e : ZK mo (fun _ x => rt x) (fun y x => decide (Im.page y < Im.page x)) l (k + 1) = false) => YK e (show k + 1 ≤ mo by omega)
  rw [hok, Bool.true_and] at hs
  have him1 := him _ (List.getElem_mem (show k < l.length by omega))
  have hw := hrt l[k]
  have hfin : (rt l[k] && (decide (k = 0) || decide (Im.page (l[k - 1]'(by omega)) < Im.page l[k]))) = false → ZK mo (fun _ x => rt x) (fun y x => decide (Im.page y < Im.page x)) l mo = false := fun e => hfin0 (by rw [hs]; exact e)
  rw [e1]
  by_cases hk0 : k = 0
  ·rw [decide_eq_true hk0, Bool.true_or, Bool.and_true] at hs hfin
   generalize l[k] = x at *
   generalize hQQ : ZK mo (fun _ x => rt x) (fun y x => decide (Im.page y < Im.page x)) l mo = q at *
   clear hfin0 hrt hR
   repeat' (first | (refine ZE ?_; refine Zn (Zd rfl) rfl rfl ?_) | (refine Zj ?_; first | (refine Zf ?_; refine qQ ?_) | refine Zm ?_) | refine Za ?_ | (refine Zi ?_; refine Zt ?_) | (refine Zh ?_; refine Zs ?_) | intro _)
   refine ZC (Zq _ _ _) ZF ?_
   all_goals (refine ZU 0 ?_; refine Yf 1 ?_)
   all_goals (refine Zp (i := 2) ?_; ((try refine Zk ?_); (first | (refine Ze (.tmp 16) ?_; refine qC rfl rfl (Xz _ bx before _ him1) ?_; rintro v ρ' L' hle ⟨rfl, rfl, rfl⟩ <;> (try simp only [kM, kN, kO])) | (refine Ze (.tmp 24) ?_; refine qC rfl rfl (ZQ _ _) ?_; rintro v ρ' L' hle ⟨rfl, rfl, rfl⟩ <;> (try simp only [kM, kN, kO])) | (refine Ze (.tmp 31) ?_; refine qC rfl rfl (ZQ _ _) ?_; rintro v ρ' L' hle ⟨rfl, rfl, rfl⟩ <;> (try simp only [kM, kN, kO])) | (refine Zm ?_; try intro _)) <;> ((try simp only [kM, kN, kO]); refine Za ?_; refine Zl ?_)))
   all_goals (refine rUn 3 ?_; refine ZU 4 ?_)
   all_goals (first | refine Zc 5 ?_ | refine Zb 5 ?_ | refine ZI 5 ?_ | (refine ZB (t := 20) rfl (fun hb => ?_) (fun hb => ?_) <;> (try simp only [kk] at hb) <;> first | refine Zc 5 ?_ | refine Zb 5 ?_ | refine ZI 5 ?_))
   all_goals ((first | refine Zc 6 ?_ | refine Zb 6 ?_ | refine wCm 6 ?_); (first | refine Zc 7 ?_ | refine Zb 7 ?_ | refine ZI 7 ?_))
   all_goals (first | refine Zc 8 ?_ | refine Zb 8 ?_ | refine ZI 8 ?_ | (refine ZB (t := 23) rfl (fun hb => ?_) (fun hb => ?_) <;> (try simp only [kk] at hb) <;> first | refine Zc 8 ?_ | refine Zb 8 ?_ | refine ZI 8 ?_))
   all_goals ((first | refine Zc 9 ?_ | refine Zb 9 ?_ | refine ZI 9 ?_); (first | refine Zc 10 ?_ | refine Zb 10 ?_ | refine ZI 10 ?_); (first | refine Zc 11 ?_ | refine Zb 11 ?_ | refine wSb 11 ?_); (first | refine Zc 12 ?_ | refine Zb 12 ?_ | refine wIa 12 ?_); (first | refine Zc 13 ?_ | refine Zb 13 ?_ | refine wLd 13 ?_); (first | refine Zc 15 ?_ | refine Zb 15 ?_ | refine ZI 15 ?_); (first | refine Zc 16 ?_ | refine Zb 16 ?_ | refine wLd 16 ?_))
   all_goals (first | refine Zc 14 ?_ | refine Zb 14 ?_ | (refine Zp (i := 14) ?_; ((try refine Zk ?_); (first | (refine Ze (.tmp 16) ?_; refine qC rfl rfl (Xz _ bx before _ him1) ?_; rintro v ρ' L' hle ⟨rfl, rfl, rfl⟩ <;> (try simp only [kM, kN, kO])) | (refine Ze (.tmp 24) ?_; refine qC rfl rfl (ZQ _ _) ?_; rintro v ρ' L' hle ⟨rfl, rfl, rfl⟩ <;> (try simp only [kM, kN, kO])) | (refine Ze (.tmp 31) ?_; refine qC rfl rfl (ZQ _ _) ?_; rintro v ρ' L' hle ⟨rfl, rfl, rfl⟩ <;> (try simp only [kM, kN, kO])) | (refine Zm ?_; try intro _)) <;> ((try simp only [kM, kN, kO]); refine Za ?_; refine Zl ?_))))
   all_goals (first | refine Zc 17 ?_ | refine Zb 17 ?_ | (refine Zp (i := 17) ?_; ((try refine Zk ?_); (first | (refine Ze (.tmp 16) ?_; refine qC rfl rfl (Xz _ bx before _ him1) ?_; rintro v ρ' L' hle ⟨rfl, rfl, rfl⟩ <;> (try simp only [kM, kN, kO])) | (refine Ze (.tmp 24) ?_; refine qC rfl rfl (ZQ _ _) ?_; rintro v ρ' L' hle ⟨rfl, rfl, rfl⟩ <;> (try simp only [kM, kN, kO])) | (refine Ze (.tmp 31) ?_; refine qC rfl rfl (ZQ _ _) ?_; rintro v ρ' L' hle ⟨rfl, rfl, rfl⟩ <;> (try simp only [kM, kN, kO])) | (refine Zm ?_; try intro _)) <;> ((try simp only [kM, kN, kO]); refine Za ?_; refine Zl ?_))))
   all_goals (refine ZS ?_; (first | refine Zc 18 ?_ | refine Zb 18 ?_ | refine wCm 18 ?_); (first | refine Zc 19 ?_ | refine Zb 19 ?_ | refine wPk 19 ?_); refine rPk 20 ?_; refine ZH ?_)
   all_goals (repeat' (first | (refine ZE ?_; refine Zn (Zd rfl) rfl rfl ?_) | (refine Zj ?_; first | (refine Zf ?_; refine qQ ?_) | refine Zm ?_) | refine Za ?_ | (refine Zi ?_; refine Zt ?_) | (refine Zh ?_; refine Zs ?_) | (refine XM ?_; refine Ye rfl rfl (fun hb => ?_) (fun hb => ?_) <;> (try simp only [decide_eq_true_eq, decide_eq_false_iff_not, Bool.not_eq_true, Bool.not_eq_false, beq_iff_eq, bne_iff_ne, ne_eq, decide_eq_decide, Bool.not_eq_eq_eq_not, Bool.not_true, Bool.not_false, beq_eq_false_iff_ne, bne_eq_false_iff_eq, Bool.and_eq_true, Bool.or_eq_true, Bool.and_eq_false_imp, Bool.or_eq_false_iff, bq2, bqt, bqf] at hb)) | (refine YA ?_; refine Ym rfl (fun hb => ?_) (fun hb => ?_) <;> (try simp only [decide_eq_true_eq, decide_eq_false_iff_not, Bool.not_eq_true, Bool.not_eq_false, beq_iff_eq, bne_iff_ne, ne_eq, decide_eq_decide, Bool.not_eq_eq_eq_not, Bool.not_true, Bool.not_false, beq_eq_false_iff_ne, bne_eq_false_iff_eq, Bool.and_eq_true, Bool.or_eq_true, Bool.and_eq_false_imp, Bool.or_eq_false_iff, bq2, bqt, bqf] at hb)) | intro _))
   all_goals (try (rw [hfin (by rw [hw]; (first | (simp [*]; done) | (simp [*]; omega) | (simp_all; done) | (simp_all; omega)))]; refine qF (L' := (Ys bx before)) ?_; exact ⟨rfl, rfl, rfl⟩))
   all_goals rw [← e1]
   all_goals refine Zr (k + 1) (⟨hlt, by rw [hs, hw]; (first | (simp [*]; done) | (simp [*]; omega) | (simp_all; done) | (simp_all; omega))⟩) Zo Zo rfl tk inferInstance (by first | omega | (dsimp only; omega))
  ·obtain ⟨b2, off2, C2, T2, fr2, f1, hb2, hfit2, hc2⟩ := h.get (show k - 1 < l.length by omega)
   rw [e1] at f1
   cases f1
   rw [hb0] at hb2
   cases hb2
   have ek : ((k : Int) - 1).toNat = k - 1 := by omega
   rw [← ek] at hfit2
   have hc3 : List.take 7 (List.drop (off + ((k : Int) - 1).toNat * 7) C) = imV (l[k - 1]'(by omega)) := by rw [ek]; exact hc2
   clear hc2
   rw [decide_eq_false hk0, Bool.false_or] at hs hfin
   generalize l[k] = x at *
   generalize l[k - 1]'(by omega) = y at *
   generalize hQQ : ZK mo (fun _ x => rt x) (fun y x => decide (Im.page y < Im.page x)) l mo = q at *
   clear hfin0 hrt hR
   repeat' (first | (refine ZE ?_; refine Zn (Zd rfl) rfl rfl ?_) | (refine Zj ?_; first | (refine Zf ?_; refine qQ ?_) | refine Zm ?_) | refine Za ?_ | (refine Zi ?_; refine Zt ?_) | (refine Zh ?_; refine Zs ?_) | intro _)
   refine ZC (Zq _ _ _) ZF ?_
   all_goals (refine ZU 0 ?_; refine Yf 1 ?_)
   all_goals (refine Zp (i := 2) ?_; ((try refine Zk ?_); (first | (refine Ze (.tmp 16) ?_; refine qC rfl rfl (Xz _ bx before _ him1) ?_; rintro v ρ' L' hle ⟨rfl, rfl, rfl⟩ <;> (try simp only [kM, kN, kO])) | (refine Ze (.tmp 24) ?_; refine qC rfl rfl (ZQ _ _) ?_; rintro v ρ' L' hle ⟨rfl, rfl, rfl⟩ <;> (try simp only [kM, kN, kO])) | (refine Ze (.tmp 31) ?_; refine qC rfl rfl (ZQ _ _) ?_; rintro v ρ' L' hle ⟨rfl, rfl, rfl⟩ <;> (try simp only [kM, kN, kO])) | (refine Zm ?_; try intro _)) <;> ((try simp only [kM, kN, kO]); refine Za ?_; refine Zl ?_)))
   all_goals (refine rUn 3 ?_; refine ZU 4 ?_)
   all_goals (first | refine Zc 5 ?_ | refine Zb 5 ?_ | refine ZI 5 ?_ | (refine ZB (t := 20) rfl (fun hb => ?_) (fun hb => ?_) <;> (try simp only [kk] at hb) <;> first | refine Zc 5 ?_ | refine Zb 5 ?_ | refine ZI 5 ?_))
   all_goals ((first | refine Zc 6 ?_ | refine Zb 6 ?_ | refine wCm 6 ?_); (first | refine Zc 7 ?_ | refine Zb 7 ?_ | refine ZI 7 ?_))
   all_goals (first | refine Zc 8 ?_ | refine Zb 8 ?_ | refine ZI 8 ?_ | (refine ZB (t := 23) rfl (fun hb => ?_) (fun hb => ?_) <;> (try simp only [kk] at hb) <;> first | refine Zc 8 ?_ | refine Zb 8 ?_ | refine ZI 8 ?_))
   all_goals ((first | refine Zc 9 ?_ | refine Zb 9 ?_ | refine ZI 9 ?_); (first | refine Zc 10 ?_ | refine Zb 10 ?_ | refine ZI 10 ?_); (first | refine Zc 11 ?_ | refine Zb 11 ?_ | refine wSb 11 ?_); (first | refine Zc 12 ?_ | refine Zb 12 ?_ | refine wIa 12 ?_); (first | refine Zc 13 ?_ | refine Zb 13 ?_ | refine wLd 13 ?_); (first | refine Zc 15 ?_ | refine Zb 15 ?_ | refine ZI 15 ?_); (first | refine Zc 16 ?_ | refine Zb 16 ?_ | refine wLd 16 ?_))
   all_goals (first | refine Zc 14 ?_ | refine Zb 14 ?_ | (refine Zp (i := 14) ?_; ((try refine Zk ?_); (first | (refine Ze (.tmp 16) ?_; refine qC rfl rfl (Xz _ bx before _ him1) ?_; rintro v ρ' L' hle ⟨rfl, rfl, rfl⟩ <;> (try simp only [kM, kN, kO])) | (refine Ze (.tmp 24) ?_; refine qC rfl rfl (ZQ _ _) ?_; rintro v ρ' L' hle ⟨rfl, rfl, rfl⟩ <;> (try simp only [kM, kN, kO])) | (refine Ze (.tmp 31) ?_; refine qC rfl rfl (ZQ _ _) ?_; rintro v ρ' L' hle ⟨rfl, rfl, rfl⟩ <;> (try simp only [kM, kN, kO])) | (refine Zm ?_; try intro _)) <;> ((try simp only [kM, kN, kO]); refine Za ?_; refine Zl ?_))))
   all_goals (first | refine Zc 17 ?_ | refine Zb 17 ?_ | (refine Zp (i := 17) ?_; ((try refine Zk ?_); (first | (refine Ze (.tmp 16) ?_; refine qC rfl rfl (Xz _ bx before _ him1) ?_; rintro v ρ' L' hle ⟨rfl, rfl, rfl⟩ <;> (try simp only [kM, kN, kO])) | (refine Ze (.tmp 24) ?_; refine qC rfl rfl (ZQ _ _) ?_; rintro v ρ' L' hle ⟨rfl, rfl, rfl⟩ <;> (try simp only [kM, kN, kO])) | (refine Ze (.tmp 31) ?_; refine qC rfl rfl (ZQ _ _) ?_; rintro v ρ' L' hle ⟨rfl, rfl, rfl⟩ <;> (try simp only [kM, kN, kO])) | (refine Zm ?_; try intro _)) <;> ((try simp only [kM, kN, kO]); refine Za ?_; refine Zl ?_))))
   all_goals (refine ZS ?_; (first | refine Zc 18 ?_ | refine Zb 18 ?_ | refine wCm 18 ?_); (first | refine Zc 19 ?_ | refine Zb 19 ?_ | refine wPk 19 ?_); refine rPk 20 ?_; refine ZH ?_)
   all_goals (repeat' (first | (refine ZE ?_; refine Zn (Zd rfl) rfl rfl ?_) | (refine Zj ?_; first | (refine Zf ?_; refine qQ ?_) | refine Zm ?_) | refine Za ?_ | (refine Zi ?_; refine Zt ?_) | (refine Zh ?_; refine Zs ?_) | (refine XM ?_; refine Ye rfl rfl (fun hb => ?_) (fun hb => ?_) <;> (try simp only [decide_eq_true_eq, decide_eq_false_iff_not, Bool.not_eq_true, Bool.not_eq_false, beq_iff_eq, bne_iff_ne, ne_eq, decide_eq_decide, Bool.not_eq_eq_eq_not, Bool.not_true, Bool.not_false, beq_eq_false_iff_ne, bne_eq_false_iff_eq, Bool.and_eq_true, Bool.or_eq_true, Bool.and_eq_false_imp, Bool.or_eq_false_iff, bq2, bqt, bqf] at hb)) | (refine YA ?_; refine Ym rfl (fun hb => ?_) (fun hb => ?_) <;> (try simp only [decide_eq_true_eq, decide_eq_false_iff_not, Bool.not_eq_true, Bool.not_eq_false, beq_iff_eq, bne_iff_ne, ne_eq, decide_eq_decide, Bool.not_eq_eq_eq_not, Bool.not_true, Bool.not_false, beq_eq_false_iff_ne, bne_eq_false_iff_eq, Bool.and_eq_true, Bool.or_eq_true, Bool.and_eq_false_imp, Bool.or_eq_false_iff, bq2, bqt, bqf] at hb)) | intro _))
   all_goals (try (rw [hfin (by rw [hw]; (first | (simp [*]; done) | (simp [*]; omega) | (simp_all; done) | (simp_all; omega)))]; refine qF (L' := (Ys bx before)) ?_; exact ⟨rfl, rfl, rfl⟩))
   all_goals rw [← e1]
   all_goals refine Zr (k + 1) (⟨hlt, by rw [hs, hw]; (first | (simp [*]; done) | (simp [*]; omega) | (simp_all; done) | (simp_all; omega))⟩) Zo Zo rfl tk inferInstance (by first | omega | (dsimp only; omega))
 ·have hk2 : k = n := by omega
  subst hk2
  have hkm : k = mo := by omega
  rw [hkm] at hok
  rw [hok]
  repeat' (first | (refine ZE ?_; refine Zn (Zd rfl) rfl rfl ?_) | (refine Zj ?_; first | (refine Zf ?_; refine qQ ?_) | refine Zm ?_) | refine Za ?_ | (refine Zi ?_; refine Zt ?_) | (refine Zh ?_; refine Zs ?_) | intro _)
  exact qE (L' := (Ys bx before)) ⟨rfl, rfl, rfl⟩
theorem risesCkTL_spec (ρ : Hp) (a : Option Addr) (n c : Nat) (l : List CkT) (h : AIn ρ 5 ckTV a n l) (hn : n ≤ 281474976710656) (nb pb ab : Nat) (next : Int) (v : RV) (r : Rc)  :
  Spec Tryz.prog 139 [.slice a n c, .func (.func 140) ⟨[]⟩ ⟨[]⟩, .func (.func 141) ⟨[]⟩ ⟨[.pointer (some ⟨nb, 0, none⟩), .pointer (some ⟨pb, 0, none⟩)]⟩] ρ [nextC nb next, XG pb ab, Yz ab v r] (fun z ρ' L' => z = .bool (upB (ckTOk r.lsn next) CkT.txn l l.length) ∧ ρ' = ρ ∧ L' = [nextC nb next, XG pb ab, Yz ab v r]) := by
 have hl := h.len
 generalize hR : (ckTOk r.lsn next) = rt
 unfold upB
 generalize hm : l.length = mo
 have hrt : ∀ x, rt x = (ckTOk r.lsn next) x := fun x => by rw [hR]
 refine Zg Tryz.func139 rfl rfl rfl fun u R => ?_
 simp only [Zx, List.cons_append, List.nil_append]
 repeat' (first | (refine ZE ?_; refine Zn (Zd rfl) rfl rfl ?_) | (refine Zj ?_; first | (refine Zf ?_; refine qQ ?_) | refine Zm ?_) | refine Za ?_ | (refine Zi ?_; refine Zt ?_) | (refine Zh ?_; refine Zs ?_) | intro _)
 refine ZG [(0, _), (1, _), (2, _), (9, _), (10, _)] (fun (ζ : (Nat)) => [(11, .int .i64 ζ), (6, .bool false)]) (fun (ζ : (Nat)) => ρ) (fun (ζ : (Nat)) => [nextC nb next, XG pb ab, Yz ab v r]) (fun (ζ : (Nat)) => ζ ≤ n ∧ ZK mo (fun _ x => rt x) (fun y x => decide (CkT.txn y < CkT.txn x)) l ζ = true) (fun (ζ : (Nat)) => n - ζ) (0) (⟨Nat.zero_le _, by rw [ZK]; simp [hm]⟩) Zo Zo rfl tk ?_
 rintro k hI
 try simp only [List.cons_append, List.nil_append, List.append_assoc, List.append_eq] at hI ⊢
 try dsimp only at hI ⊢
 obtain ⟨hk, hok⟩ := hI
 by_cases hlt : k < n
 ·obtain ⟨b, off, C, T, fr, e1, hb0, hfit, hc⟩ := h.get (show k < l.length by omega)
  have hs := YR (most := mo) (right := fun _ x => rt x) (lt := fun y x => decide (CkT.txn y < CkT.txn x)) (show k < l.length by omega)
  have hfin0 := fun (e : ZK mo (fun _ x => rt x) (fun y x => decide (CkT.txn y < CkT.txn x)) l (k + 1) = false) => YK e (show k + 1 ≤ mo by omega)
  rw [hok, Bool.true_and] at hs
  skip
  have hw := hrt l[k]
  have hfin : (rt l[k] && (decide (k = 0) || decide (CkT.txn (l[k - 1]'(by omega)) < CkT.txn l[k]))) = false → ZK mo (fun _ x => rt x) (fun y x => decide (CkT.txn y < CkT.txn x)) l mo = false := fun e => hfin0 (by rw [hs]; exact e)
  rw [e1]
  by_cases hk0 : k = 0
  ·rw [decide_eq_true hk0, Bool.true_or, Bool.and_true] at hs hfin
   generalize l[k] = x at *
   generalize hQQ : ZK mo (fun _ x => rt x) (fun y x => decide (CkT.txn y < CkT.txn x)) l mo = q at *
   clear hfin0 hrt hR
   repeat' (first | (refine ZE ?_; refine Zn (Zd rfl) rfl rfl ?_) | (refine Zj ?_; first | (refine Zf ?_; refine qQ ?_) | refine Zm ?_) | refine Za ?_ | (refine Zi ?_; refine Zt ?_) | (refine Zh ?_; refine Zs ?_) | intro _)
   refine ZC (Zq _ _ _) ZF ?_
   all_goals (refine ZU 0 ?_; refine Yf 1 ?_)
   all_goals (refine Zp (i := 2) ?_; ((try refine Zk ?_); (first | (refine Ze (.tmp 16) ?_; refine qC rfl rfl (YY _ nb pb ab next v r _) ?_; rintro v ρ' L' hle ⟨rfl, rfl, rfl⟩ <;> (try simp only [kM, kN, kO])) | (refine Ze (.tmp 24) ?_; refine qC rfl rfl (Yd _ _) ?_; rintro v ρ' L' hle ⟨rfl, rfl, rfl⟩ <;> (try simp only [kM, kN, kO])) | (refine Ze (.tmp 31) ?_; refine qC rfl rfl (Yd _ _) ?_; rintro v ρ' L' hle ⟨rfl, rfl, rfl⟩ <;> (try simp only [kM, kN, kO])) | (refine Zm ?_; try intro _)) <;> ((try simp only [kM, kN, kO]); refine Za ?_; refine Zl ?_)))
   all_goals (refine rUn 3 ?_; refine ZU 4 ?_)
   all_goals (first | refine Zc 5 ?_ | refine Zb 5 ?_ | refine ZI 5 ?_ | (refine ZB (t := 20) rfl (fun hb => ?_) (fun hb => ?_) <;> (try simp only [kk] at hb) <;> first | refine Zc 5 ?_ | refine Zb 5 ?_ | refine ZI 5 ?_))
   all_goals ((first | refine Zc 6 ?_ | refine Zb 6 ?_ | refine wCm 6 ?_); (first | refine Zc 7 ?_ | refine Zb 7 ?_ | refine ZI 7 ?_))
   all_goals (first | refine Zc 8 ?_ | refine Zb 8 ?_ | refine ZI 8 ?_ | (refine ZB (t := 23) rfl (fun hb => ?_) (fun hb => ?_) <;> (try simp only [kk] at hb) <;> first | refine Zc 8 ?_ | refine Zb 8 ?_ | refine ZI 8 ?_))
   all_goals ((first | refine Zc 9 ?_ | refine Zb 9 ?_ | refine ZI 9 ?_); (first | refine Zc 10 ?_ | refine Zb 10 ?_ | refine ZI 10 ?_); (first | refine Zc 11 ?_ | refine Zb 11 ?_ | refine wSb 11 ?_); (first | refine Zc 12 ?_ | refine Zb 12 ?_ | refine wIa 12 ?_); (first | refine Zc 13 ?_ | refine Zb 13 ?_ | refine wLd 13 ?_); (first | refine Zc 15 ?_ | refine Zb 15 ?_ | refine ZI 15 ?_); (first | refine Zc 16 ?_ | refine Zb 16 ?_ | refine wLd 16 ?_))
   all_goals (first | refine Zc 14 ?_ | refine Zb 14 ?_ | (refine Zp (i := 14) ?_; ((try refine Zk ?_); (first | (refine Ze (.tmp 16) ?_; refine qC rfl rfl (YY _ nb pb ab next v r _) ?_; rintro v ρ' L' hle ⟨rfl, rfl, rfl⟩ <;> (try simp only [kM, kN, kO])) | (refine Ze (.tmp 24) ?_; refine qC rfl rfl (Yd _ _) ?_; rintro v ρ' L' hle ⟨rfl, rfl, rfl⟩ <;> (try simp only [kM, kN, kO])) | (refine Ze (.tmp 31) ?_; refine qC rfl rfl (Yd _ _) ?_; rintro v ρ' L' hle ⟨rfl, rfl, rfl⟩ <;> (try simp only [kM, kN, kO])) | (refine Zm ?_; try intro _)) <;> ((try simp only [kM, kN, kO]); refine Za ?_; refine Zl ?_))))
   all_goals (first | refine Zc 17 ?_ | refine Zb 17 ?_ | (refine Zp (i := 17) ?_; ((try refine Zk ?_); (first | (refine Ze (.tmp 16) ?_; refine qC rfl rfl (YY _ nb pb ab next v r _) ?_; rintro v ρ' L' hle ⟨rfl, rfl, rfl⟩ <;> (try simp only [kM, kN, kO])) | (refine Ze (.tmp 24) ?_; refine qC rfl rfl (Yd _ _) ?_; rintro v ρ' L' hle ⟨rfl, rfl, rfl⟩ <;> (try simp only [kM, kN, kO])) | (refine Ze (.tmp 31) ?_; refine qC rfl rfl (Yd _ _) ?_; rintro v ρ' L' hle ⟨rfl, rfl, rfl⟩ <;> (try simp only [kM, kN, kO])) | (refine Zm ?_; try intro _)) <;> ((try simp only [kM, kN, kO]); refine Za ?_; refine Zl ?_))))
   all_goals (refine ZS ?_; (first | refine Zc 18 ?_ | refine Zb 18 ?_ | refine wCm 18 ?_); (first | refine Zc 19 ?_ | refine Zb 19 ?_ | refine wPk 19 ?_); refine rPk 20 ?_; refine ZH ?_)
   all_goals (repeat' (first | (refine ZE ?_; refine Zn (Zd rfl) rfl rfl ?_) | (refine Zj ?_; first | (refine Zf ?_; refine qQ ?_) | refine Zm ?_) | refine Za ?_ | (refine Zi ?_; refine Zt ?_) | (refine Zh ?_; refine Zs ?_) | (refine XM ?_; refine Ye rfl rfl (fun hb => ?_) (fun hb => ?_) <;> (try simp only [decide_eq_true_eq, decide_eq_false_iff_not, Bool.not_eq_true, Bool.not_eq_false, beq_iff_eq, bne_iff_ne, ne_eq, decide_eq_decide, Bool.not_eq_eq_eq_not, Bool.not_true, Bool.not_false, beq_eq_false_iff_ne, bne_eq_false_iff_eq, Bool.and_eq_true, Bool.or_eq_true, Bool.and_eq_false_imp, Bool.or_eq_false_iff, bq2, bqt, bqf] at hb)) | (refine YA ?_; refine Ym rfl (fun hb => ?_) (fun hb => ?_) <;> (try simp only [decide_eq_true_eq, decide_eq_false_iff_not, Bool.not_eq_true, Bool.not_eq_false, beq_iff_eq, bne_iff_ne, ne_eq, decide_eq_decide, Bool.not_eq_eq_eq_not, Bool.not_true, Bool.not_false, beq_eq_false_iff_ne, bne_eq_false_iff_eq, Bool.and_eq_true, Bool.or_eq_true, Bool.and_eq_false_imp, Bool.or_eq_false_iff, bq2, bqt, bqf] at hb)) | intro _))
   all_goals (try (rw [hfin (by rw [hw]; (first | (simp [*]; done) | (simp [*]; omega) | (simp_all; done) | (simp_all; omega)))]; refine qF (L' := [nextC nb next, XG pb ab, Yz ab v r]) ?_; exact ⟨rfl, rfl, rfl⟩))
   all_goals rw [← e1]
   all_goals refine Zr (k + 1) (⟨hlt, by rw [hs, hw]; (first | (simp [*]; done) | (simp [*]; omega) | (simp_all; done) | (simp_all; omega))⟩) Zo Zo rfl tk inferInstance (by first | omega | (dsimp only; omega))
  ·obtain ⟨b2, off2, C2, T2, fr2, f1, hb2, hfit2, hc2⟩ := h.get (show k - 1 < l.length by omega)
   rw [e1] at f1
   cases f1
   rw [hb0] at hb2
   cases hb2
   have ek : ((k : Int) - 1).toNat = k - 1 := by omega
   rw [← ek] at hfit2
   have hc3 : List.take 5 (List.drop (off + ((k : Int) - 1).toNat * 5) C) = ckTV (l[k - 1]'(by omega)) := by rw [ek]; exact hc2
   clear hc2
   rw [decide_eq_false hk0, Bool.false_or] at hs hfin
   generalize l[k] = x at *
   generalize l[k - 1]'(by omega) = y at *
   generalize hQQ : ZK mo (fun _ x => rt x) (fun y x => decide (CkT.txn y < CkT.txn x)) l mo = q at *
   clear hfin0 hrt hR
   repeat' (first | (refine ZE ?_; refine Zn (Zd rfl) rfl rfl ?_) | (refine Zj ?_; first | (refine Zf ?_; refine qQ ?_) | refine Zm ?_) | refine Za ?_ | (refine Zi ?_; refine Zt ?_) | (refine Zh ?_; refine Zs ?_) | intro _)
   refine ZC (Zq _ _ _) ZF ?_
   all_goals (refine ZU 0 ?_; refine Yf 1 ?_)
   all_goals (refine Zp (i := 2) ?_; ((try refine Zk ?_); (first | (refine Ze (.tmp 16) ?_; refine qC rfl rfl (YY _ nb pb ab next v r _) ?_; rintro v ρ' L' hle ⟨rfl, rfl, rfl⟩ <;> (try simp only [kM, kN, kO])) | (refine Ze (.tmp 24) ?_; refine qC rfl rfl (Yd _ _) ?_; rintro v ρ' L' hle ⟨rfl, rfl, rfl⟩ <;> (try simp only [kM, kN, kO])) | (refine Ze (.tmp 31) ?_; refine qC rfl rfl (Yd _ _) ?_; rintro v ρ' L' hle ⟨rfl, rfl, rfl⟩ <;> (try simp only [kM, kN, kO])) | (refine Zm ?_; try intro _)) <;> ((try simp only [kM, kN, kO]); refine Za ?_; refine Zl ?_)))
   all_goals (refine rUn 3 ?_; refine ZU 4 ?_)
   all_goals (first | refine Zc 5 ?_ | refine Zb 5 ?_ | refine ZI 5 ?_ | (refine ZB (t := 20) rfl (fun hb => ?_) (fun hb => ?_) <;> (try simp only [kk] at hb) <;> first | refine Zc 5 ?_ | refine Zb 5 ?_ | refine ZI 5 ?_))
   all_goals ((first | refine Zc 6 ?_ | refine Zb 6 ?_ | refine wCm 6 ?_); (first | refine Zc 7 ?_ | refine Zb 7 ?_ | refine ZI 7 ?_))
   all_goals (first | refine Zc 8 ?_ | refine Zb 8 ?_ | refine ZI 8 ?_ | (refine ZB (t := 23) rfl (fun hb => ?_) (fun hb => ?_) <;> (try simp only [kk] at hb) <;> first | refine Zc 8 ?_ | refine Zb 8 ?_ | refine ZI 8 ?_))
   all_goals ((first | refine Zc 9 ?_ | refine Zb 9 ?_ | refine ZI 9 ?_); (first | refine Zc 10 ?_ | refine Zb 10 ?_ | refine ZI 10 ?_); (first | refine Zc 11 ?_ | refine Zb 11 ?_ | refine wSb 11 ?_); (first | refine Zc 12 ?_ | refine Zb 12 ?_ | refine wIa 12 ?_); (first | refine Zc 13 ?_ | refine Zb 13 ?_ | refine wLd 13 ?_); (first | refine Zc 15 ?_ | refine Zb 15 ?_ | refine ZI 15 ?_); (first | refine Zc 16 ?_ | refine Zb 16 ?_ | refine wLd 16 ?_))
   all_goals (first | refine Zc 14 ?_ | refine Zb 14 ?_ | (refine Zp (i := 14) ?_; ((try refine Zk ?_); (first | (refine Ze (.tmp 16) ?_; refine qC rfl rfl (YY _ nb pb ab next v r _) ?_; rintro v ρ' L' hle ⟨rfl, rfl, rfl⟩ <;> (try simp only [kM, kN, kO])) | (refine Ze (.tmp 24) ?_; refine qC rfl rfl (Yd _ _) ?_; rintro v ρ' L' hle ⟨rfl, rfl, rfl⟩ <;> (try simp only [kM, kN, kO])) | (refine Ze (.tmp 31) ?_; refine qC rfl rfl (Yd _ _) ?_; rintro v ρ' L' hle ⟨rfl, rfl, rfl⟩ <;> (try simp only [kM, kN, kO])) | (refine Zm ?_; try intro _)) <;> ((try simp only [kM, kN, kO]); refine Za ?_; refine Zl ?_))))
   all_goals (first | refine Zc 17 ?_ | refine Zb 17 ?_ | (refine Zp (i := 17) ?_; ((try refine Zk ?_); (first | (refine Ze (.tmp 16) ?_; refine qC rfl rfl (YY _ nb pb ab next v r _) ?_; rintro v ρ' L' hle ⟨rfl, rfl, rfl⟩ <;> (try simp only [kM, kN, kO])) | (refine Ze (.tmp 24) ?_; refine qC rfl rfl (Yd _ _) ?_; rintro v ρ' L' hle ⟨rfl, rfl, rfl⟩ <;> (try simp only [kM, kN, kO])) | (refine Ze (.tmp 31) ?_; refine qC rfl rfl (Yd _ _) ?_; rintro v ρ' L' hle ⟨rfl, rfl, rfl⟩ <;> (try simp only [kM, kN, kO])) | (refine Zm ?_; try intro _)) <;> ((try simp only [kM, kN, kO]); refine Za ?_; refine Zl ?_))))
   all_goals (refine ZS ?_; (first | refine Zc 18 ?_ | refine Zb 18 ?_ | refine wCm 18 ?_); (first | refine Zc 19 ?_ | refine Zb 19 ?_ | refine wPk 19 ?_); refine rPk 20 ?_; refine ZH ?_)
   all_goals (repeat' (first | (refine ZE ?_; refine Zn (Zd rfl) rfl rfl ?_) | (refine Zj ?_; first | (refine Zf ?_; refine qQ ?_) | refine Zm ?_) | refine Za ?_ | (refine Zi ?_; refine Zt ?_) | (refine Zh ?_; refine Zs ?_) | (refine XM ?_; refine Ye rfl rfl (fun hb => ?_) (fun hb => ?_) <;> (try simp only [decide_eq_true_eq, decide_eq_false_iff_not, Bool.not_eq_true, Bool.not_eq_false, beq_iff_eq, bne_iff_ne, ne_eq, decide_eq_decide, Bool.not_eq_eq_eq_not, Bool.not_true, Bool.not_false, beq_eq_false_iff_ne, bne_eq_false_iff_eq, Bool.and_eq_true, Bool.or_eq_true, Bool.and_eq_false_imp, Bool.or_eq_false_iff, bq2, bqt, bqf] at hb)) | (refine YA ?_; refine Ym rfl (fun hb => ?_) (fun hb => ?_) <;> (try simp only [decide_eq_true_eq, decide_eq_false_iff_not, Bool.not_eq_true, Bool.not_eq_false, beq_iff_eq, bne_iff_ne, ne_eq, decide_eq_decide, Bool.not_eq_eq_eq_not, Bool.not_true, Bool.not_false, beq_eq_false_iff_ne, bne_eq_false_iff_eq, Bool.and_eq_true, Bool.or_eq_true, Bool.and_eq_false_imp, Bool.or_eq_false_iff, bq2, bqt, bqf] at hb)) | intro _))
   all_goals (try (rw [hfin (by rw [hw]; (first | (simp [*]; done) | (simp [*]; omega) | (simp_all; done) | (simp_all; omega)))]; refine qF (L' := [nextC nb next, XG pb ab, Yz ab v r]) ?_; exact ⟨rfl, rfl, rfl⟩))
   all_goals rw [← e1]
   all_goals refine Zr (k + 1) (⟨hlt, by rw [hs, hw]; (first | (simp [*]; done) | (simp [*]; omega) | (simp_all; done) | (simp_all; omega))⟩) Zo Zo rfl tk inferInstance (by first | omega | (dsimp only; omega))
 ·have hk2 : k = n := by omega
  subst hk2
  have hkm : k = mo := by omega
  rw [hkm] at hok
  rw [hok]
  repeat' (first | (refine ZE ?_; refine Zn (Zd rfl) rfl rfl ?_) | (refine Zj ?_; first | (refine Zf ?_; refine qQ ?_) | refine Zm ?_) | refine Za ?_ | (refine Zi ?_; refine Zt ?_) | (refine Zh ?_; refine Zs ?_) | intro _)
  exact qE (L' := [nextC nb next, XG pb ab, Yz ab v r]) ⟨rfl, rfl, rfl⟩
theorem risesCkPL_spec (ρ : Hp) (a : Option Addr) (n c : Nat) (l : List CkP) (h : AIn ρ 2 ckPV a n l) (hn : n ≤ 281474976710656) (pb ab : Nat) (v : RV) (r : Rc)  :
  Spec Tryz.prog 142 [.slice a n c, .func (.func 143) ⟨[]⟩ ⟨[]⟩, .func (.func 144) ⟨[]⟩ ⟨[.pointer (some ⟨pb, 0, none⟩)]⟩] ρ [XG pb ab, Yz ab v r] (fun z ρ' L' => z = .bool (upB (ckPOk r.lsn) CkP.page l l.length) ∧ ρ' = ρ ∧ L' = [XG pb ab, Yz ab v r]) := by
 have hl := h.len
 generalize hR : (ckPOk r.lsn) = rt
 unfold upB
 generalize hm : l.length = mo
 have hrt : ∀ x, rt x = (ckPOk r.lsn) x := fun x => by rw [hR]
 refine Zg Tryz.func142 rfl rfl rfl fun u R => ?_
 simp only [Zx, List.cons_append, List.nil_append]
 repeat' (first | (refine ZE ?_; refine Zn (Zd rfl) rfl rfl ?_) | (refine Zj ?_; first | (refine Zf ?_; refine qQ ?_) | refine Zm ?_) | refine Za ?_ | (refine Zi ?_; refine Zt ?_) | (refine Zh ?_; refine Zs ?_) | intro _)
 refine ZG [(0, _), (1, _), (2, _), (9, _), (10, _)] (fun (ζ : (Nat)) => [(11, .int .i64 ζ), (6, .bool false)]) (fun (ζ : (Nat)) => ρ) (fun (ζ : (Nat)) => [XG pb ab, Yz ab v r]) (fun (ζ : (Nat)) => ζ ≤ n ∧ ZK mo (fun _ x => rt x) (fun y x => decide (CkP.page y < CkP.page x)) l ζ = true) (fun (ζ : (Nat)) => n - ζ) (0) (⟨Nat.zero_le _, by rw [ZK]; simp [hm]⟩) Zo Zo rfl tk ?_
 rintro k hI
 try simp only [List.cons_append, List.nil_append, List.append_assoc, List.append_eq] at hI ⊢
 try dsimp only at hI ⊢
 obtain ⟨hk, hok⟩ := hI
 by_cases hlt : k < n
 ·obtain ⟨b, off, C, T, fr, e1, hb0, hfit, hc⟩ := h.get (show k < l.length by omega)
  have hs := YR (most := mo) (right := fun _ x => rt x) (lt := fun y x => decide (CkP.page y < CkP.page x)) (show k < l.length by omega)
  have hfin0 := fun (e : ZK mo (fun _ x => rt x) (fun y x => decide (CkP.page y < CkP.page x)) l (k + 1) = false) => YK e (show k + 1 ≤ mo by omega)
  rw [hok, Bool.true_and] at hs
  skip
  have hw := hrt l[k]
  have hfin : (rt l[k] && (decide (k = 0) || decide (CkP.page (l[k - 1]'(by omega)) < CkP.page l[k]))) = false → ZK mo (fun _ x => rt x) (fun y x => decide (CkP.page y < CkP.page x)) l mo = false := fun e => hfin0 (by rw [hs]; exact e)
  rw [e1]
  by_cases hk0 : k = 0
  ·rw [decide_eq_true hk0, Bool.true_or, Bool.and_true] at hs hfin
   generalize l[k] = x at *
   generalize hQQ : ZK mo (fun _ x => rt x) (fun y x => decide (CkP.page y < CkP.page x)) l mo = q at *
   clear hfin0 hrt hR
   repeat' (first | (refine ZE ?_; refine Zn (Zd rfl) rfl rfl ?_) | (refine Zj ?_; first | (refine Zf ?_; refine qQ ?_) | refine Zm ?_) | refine Za ?_ | (refine Zi ?_; refine Zt ?_) | (refine Zh ?_; refine Zs ?_) | intro _)
   refine ZC (Zq _ _ _) ZF ?_
   all_goals (refine ZU 0 ?_; refine Yf 1 ?_)
   all_goals (refine Zp (i := 2) ?_; ((try refine Zk ?_); (first | (refine Ze (.tmp 16) ?_; refine qC rfl rfl (YX _ pb ab v r _) ?_; rintro v ρ' L' hle ⟨rfl, rfl, rfl⟩ <;> (try simp only [kM, kN, kO])) | (refine Ze (.tmp 24) ?_; refine qC rfl rfl (Yc _ _) ?_; rintro v ρ' L' hle ⟨rfl, rfl, rfl⟩ <;> (try simp only [kM, kN, kO])) | (refine Ze (.tmp 31) ?_; refine qC rfl rfl (Yc _ _) ?_; rintro v ρ' L' hle ⟨rfl, rfl, rfl⟩ <;> (try simp only [kM, kN, kO])) | (refine Zm ?_; try intro _)) <;> ((try simp only [kM, kN, kO]); refine Za ?_; refine Zl ?_)))
   all_goals (refine rUn 3 ?_; refine ZU 4 ?_)
   all_goals (first | refine Zc 5 ?_ | refine Zb 5 ?_ | refine ZI 5 ?_ | (refine ZB (t := 20) rfl (fun hb => ?_) (fun hb => ?_) <;> (try simp only [kk] at hb) <;> first | refine Zc 5 ?_ | refine Zb 5 ?_ | refine ZI 5 ?_))
   all_goals ((first | refine Zc 6 ?_ | refine Zb 6 ?_ | refine wCm 6 ?_); (first | refine Zc 7 ?_ | refine Zb 7 ?_ | refine ZI 7 ?_))
   all_goals (first | refine Zc 8 ?_ | refine Zb 8 ?_ | refine ZI 8 ?_ | (refine ZB (t := 23) rfl (fun hb => ?_) (fun hb => ?_) <;> (try simp only [kk] at hb) <;> first | refine Zc 8 ?_ | refine Zb 8 ?_ | refine ZI 8 ?_))
   all_goals ((first | refine Zc 9 ?_ | refine Zb 9 ?_ | refine ZI 9 ?_); (first | refine Zc 10 ?_ | refine Zb 10 ?_ | refine ZI 10 ?_); (first | refine Zc 11 ?_ | refine Zb 11 ?_ | refine wSb 11 ?_); (first | refine Zc 12 ?_ | refine Zb 12 ?_ | refine wIa 12 ?_); (first | refine Zc 13 ?_ | refine Zb 13 ?_ | refine wLd 13 ?_); (first | refine Zc 15 ?_ | refine Zb 15 ?_ | refine ZI 15 ?_); (first | refine Zc 16 ?_ | refine Zb 16 ?_ | refine wLd 16 ?_))
   all_goals (first | refine Zc 14 ?_ | refine Zb 14 ?_ | (refine Zp (i := 14) ?_; ((try refine Zk ?_); (first | (refine Ze (.tmp 16) ?_; refine qC rfl rfl (YX _ pb ab v r _) ?_; rintro v ρ' L' hle ⟨rfl, rfl, rfl⟩ <;> (try simp only [kM, kN, kO])) | (refine Ze (.tmp 24) ?_; refine qC rfl rfl (Yc _ _) ?_; rintro v ρ' L' hle ⟨rfl, rfl, rfl⟩ <;> (try simp only [kM, kN, kO])) | (refine Ze (.tmp 31) ?_; refine qC rfl rfl (Yc _ _) ?_; rintro v ρ' L' hle ⟨rfl, rfl, rfl⟩ <;> (try simp only [kM, kN, kO])) | (refine Zm ?_; try intro _)) <;> ((try simp only [kM, kN, kO]); refine Za ?_; refine Zl ?_))))
   all_goals (first | refine Zc 17 ?_ | refine Zb 17 ?_ | (refine Zp (i := 17) ?_; ((try refine Zk ?_); (first | (refine Ze (.tmp 16) ?_; refine qC rfl rfl (YX _ pb ab v r _) ?_; rintro v ρ' L' hle ⟨rfl, rfl, rfl⟩ <;> (try simp only [kM, kN, kO])) | (refine Ze (.tmp 24) ?_; refine qC rfl rfl (Yc _ _) ?_; rintro v ρ' L' hle ⟨rfl, rfl, rfl⟩ <;> (try simp only [kM, kN, kO])) | (refine Ze (.tmp 31) ?_; refine qC rfl rfl (Yc _ _) ?_; rintro v ρ' L' hle ⟨rfl, rfl, rfl⟩ <;> (try simp only [kM, kN, kO])) | (refine Zm ?_; try intro _)) <;> ((try simp only [kM, kN, kO]); refine Za ?_; refine Zl ?_))))
   all_goals (refine ZS ?_; (first | refine Zc 18 ?_ | refine Zb 18 ?_ | refine wCm 18 ?_); (first | refine Zc 19 ?_ | refine Zb 19 ?_ | refine wPk 19 ?_); refine rPk 20 ?_; refine ZH ?_)
   all_goals (repeat' (first | (refine ZE ?_; refine Zn (Zd rfl) rfl rfl ?_) | (refine Zj ?_; first | (refine Zf ?_; refine qQ ?_) | refine Zm ?_) | refine Za ?_ | (refine Zi ?_; refine Zt ?_) | (refine Zh ?_; refine Zs ?_) | (refine XM ?_; refine Ye rfl rfl (fun hb => ?_) (fun hb => ?_) <;> (try simp only [decide_eq_true_eq, decide_eq_false_iff_not, Bool.not_eq_true, Bool.not_eq_false, beq_iff_eq, bne_iff_ne, ne_eq, decide_eq_decide, Bool.not_eq_eq_eq_not, Bool.not_true, Bool.not_false, beq_eq_false_iff_ne, bne_eq_false_iff_eq, Bool.and_eq_true, Bool.or_eq_true, Bool.and_eq_false_imp, Bool.or_eq_false_iff, bq2, bqt, bqf] at hb)) | (refine YA ?_; refine Ym rfl (fun hb => ?_) (fun hb => ?_) <;> (try simp only [decide_eq_true_eq, decide_eq_false_iff_not, Bool.not_eq_true, Bool.not_eq_false, beq_iff_eq, bne_iff_ne, ne_eq, decide_eq_decide, Bool.not_eq_eq_eq_not, Bool.not_true, Bool.not_false, beq_eq_false_iff_ne, bne_eq_false_iff_eq, Bool.and_eq_true, Bool.or_eq_true, Bool.and_eq_false_imp, Bool.or_eq_false_iff, bq2, bqt, bqf] at hb)) | intro _))
   all_goals (try (rw [hfin (by rw [hw]; (first | (simp [*]; done) | (simp [*]; omega) | (simp_all; done) | (simp_all; omega)))]; refine qF (L' := [XG pb ab, Yz ab v r]) ?_; exact ⟨rfl, rfl, rfl⟩))
   all_goals rw [← e1]
   all_goals refine Zr (k + 1) (⟨hlt, by rw [hs, hw]; (first | (simp [*]; done) | (simp [*]; omega) | (simp_all; done) | (simp_all; omega))⟩) Zo Zo rfl tk inferInstance (by first | omega | (dsimp only; omega))
  ·obtain ⟨b2, off2, C2, T2, fr2, f1, hb2, hfit2, hc2⟩ := h.get (show k - 1 < l.length by omega)
   rw [e1] at f1
   cases f1
   rw [hb0] at hb2
   cases hb2
   have ek : ((k : Int) - 1).toNat = k - 1 := by omega
   rw [← ek] at hfit2
   have hc3 : List.take 2 (List.drop (off + ((k : Int) - 1).toNat * 2) C) = ckPV (l[k - 1]'(by omega)) := by rw [ek]; exact hc2
   clear hc2
   rw [decide_eq_false hk0, Bool.false_or] at hs hfin
   generalize l[k] = x at *
   generalize l[k - 1]'(by omega) = y at *
   generalize hQQ : ZK mo (fun _ x => rt x) (fun y x => decide (CkP.page y < CkP.page x)) l mo = q at *
   clear hfin0 hrt hR
   repeat' (first | (refine ZE ?_; refine Zn (Zd rfl) rfl rfl ?_) | (refine Zj ?_; first | (refine Zf ?_; refine qQ ?_) | refine Zm ?_) | refine Za ?_ | (refine Zi ?_; refine Zt ?_) | (refine Zh ?_; refine Zs ?_) | intro _)
   refine ZC (Zq _ _ _) ZF ?_
   all_goals (refine ZU 0 ?_; refine Yf 1 ?_)
   all_goals (refine Zp (i := 2) ?_; ((try refine Zk ?_); (first | (refine Ze (.tmp 16) ?_; refine qC rfl rfl (YX _ pb ab v r _) ?_; rintro v ρ' L' hle ⟨rfl, rfl, rfl⟩ <;> (try simp only [kM, kN, kO])) | (refine Ze (.tmp 24) ?_; refine qC rfl rfl (Yc _ _) ?_; rintro v ρ' L' hle ⟨rfl, rfl, rfl⟩ <;> (try simp only [kM, kN, kO])) | (refine Ze (.tmp 31) ?_; refine qC rfl rfl (Yc _ _) ?_; rintro v ρ' L' hle ⟨rfl, rfl, rfl⟩ <;> (try simp only [kM, kN, kO])) | (refine Zm ?_; try intro _)) <;> ((try simp only [kM, kN, kO]); refine Za ?_; refine Zl ?_)))
   all_goals (refine rUn 3 ?_; refine ZU 4 ?_)
   all_goals (first | refine Zc 5 ?_ | refine Zb 5 ?_ | refine ZI 5 ?_ | (refine ZB (t := 20) rfl (fun hb => ?_) (fun hb => ?_) <;> (try simp only [kk] at hb) <;> first | refine Zc 5 ?_ | refine Zb 5 ?_ | refine ZI 5 ?_))
   all_goals ((first | refine Zc 6 ?_ | refine Zb 6 ?_ | refine wCm 6 ?_); (first | refine Zc 7 ?_ | refine Zb 7 ?_ | refine ZI 7 ?_))
   all_goals (first | refine Zc 8 ?_ | refine Zb 8 ?_ | refine ZI 8 ?_ | (refine ZB (t := 23) rfl (fun hb => ?_) (fun hb => ?_) <;> (try simp only [kk] at hb) <;> first | refine Zc 8 ?_ | refine Zb 8 ?_ | refine ZI 8 ?_))
   all_goals ((first | refine Zc 9 ?_ | refine Zb 9 ?_ | refine ZI 9 ?_); (first | refine Zc 10 ?_ | refine Zb 10 ?_ | refine ZI 10 ?_); (first | refine Zc 11 ?_ | refine Zb 11 ?_ | refine wSb 11 ?_); (first | refine Zc 12 ?_ | refine Zb 12 ?_ | refine wIa 12 ?_); (first | refine Zc 13 ?_ | refine Zb 13 ?_ | refine wLd 13 ?_); (first | refine Zc 15 ?_ | refine Zb 15 ?_ | refine ZI 15 ?_); (first | refine Zc 16 ?_ | refine Zb 16 ?_ | refine wLd 16 ?_))
   all_goals (first | refine Zc 14 ?_ | refine Zb 14 ?_ | (refine Zp (i := 14) ?_; ((try refine Zk ?_); (first | (refine Ze (.tmp 16) ?_; refine qC rfl rfl (YX _ pb ab v r _) ?_; rintro v ρ' L' hle ⟨rfl, rfl, rfl⟩ <;> (try simp only [kM, kN, kO])) | (refine Ze (.tmp 24) ?_; refine qC rfl rfl (Yc _ _) ?_; rintro v ρ' L' hle ⟨rfl, rfl, rfl⟩ <;> (try simp only [kM, kN, kO])) | (refine Ze (.tmp 31) ?_; refine qC rfl rfl (Yc _ _) ?_; rintro v ρ' L' hle ⟨rfl, rfl, rfl⟩ <;> (try simp only [kM, kN, kO])) | (refine Zm ?_; try intro _)) <;> ((try simp only [kM, kN, kO]); refine Za ?_; refine Zl ?_))))
   all_goals (first | refine Zc 17 ?_ | refine Zb 17 ?_ | (refine Zp (i := 17) ?_; ((try refine Zk ?_); (first | (refine Ze (.tmp 16) ?_; refine qC rfl rfl (YX _ pb ab v r _) ?_; rintro v ρ' L' hle ⟨rfl, rfl, rfl⟩ <;> (try simp only [kM, kN, kO])) | (refine Ze (.tmp 24) ?_; refine qC rfl rfl (Yc _ _) ?_; rintro v ρ' L' hle ⟨rfl, rfl, rfl⟩ <;> (try simp only [kM, kN, kO])) | (refine Ze (.tmp 31) ?_; refine qC rfl rfl (Yc _ _) ?_; rintro v ρ' L' hle ⟨rfl, rfl, rfl⟩ <;> (try simp only [kM, kN, kO])) | (refine Zm ?_; try intro _)) <;> ((try simp only [kM, kN, kO]); refine Za ?_; refine Zl ?_))))
   all_goals (refine ZS ?_; (first | refine Zc 18 ?_ | refine Zb 18 ?_ | refine wCm 18 ?_); (first | refine Zc 19 ?_ | refine Zb 19 ?_ | refine wPk 19 ?_); refine rPk 20 ?_; refine ZH ?_)
   all_goals (repeat' (first | (refine ZE ?_; refine Zn (Zd rfl) rfl rfl ?_) | (refine Zj ?_; first | (refine Zf ?_; refine qQ ?_) | refine Zm ?_) | refine Za ?_ | (refine Zi ?_; refine Zt ?_) | (refine Zh ?_; refine Zs ?_) | (refine XM ?_; refine Ye rfl rfl (fun hb => ?_) (fun hb => ?_) <;> (try simp only [decide_eq_true_eq, decide_eq_false_iff_not, Bool.not_eq_true, Bool.not_eq_false, beq_iff_eq, bne_iff_ne, ne_eq, decide_eq_decide, Bool.not_eq_eq_eq_not, Bool.not_true, Bool.not_false, beq_eq_false_iff_ne, bne_eq_false_iff_eq, Bool.and_eq_true, Bool.or_eq_true, Bool.and_eq_false_imp, Bool.or_eq_false_iff, bq2, bqt, bqf] at hb)) | (refine YA ?_; refine Ym rfl (fun hb => ?_) (fun hb => ?_) <;> (try simp only [decide_eq_true_eq, decide_eq_false_iff_not, Bool.not_eq_true, Bool.not_eq_false, beq_iff_eq, bne_iff_ne, ne_eq, decide_eq_decide, Bool.not_eq_eq_eq_not, Bool.not_true, Bool.not_false, beq_eq_false_iff_ne, bne_eq_false_iff_eq, Bool.and_eq_true, Bool.or_eq_true, Bool.and_eq_false_imp, Bool.or_eq_false_iff, bq2, bqt, bqf] at hb)) | intro _))
   all_goals (try (rw [hfin (by rw [hw]; (first | (simp [*]; done) | (simp [*]; omega) | (simp_all; done) | (simp_all; omega)))]; refine qF (L' := [XG pb ab, Yz ab v r]) ?_; exact ⟨rfl, rfl, rfl⟩))
   all_goals rw [← e1]
   all_goals refine Zr (k + 1) (⟨hlt, by rw [hs, hw]; (first | (simp [*]; done) | (simp [*]; omega) | (simp_all; done) | (simp_all; omega))⟩) Zo Zo rfl tk inferInstance (by first | omega | (dsimp only; omega))
 ·have hk2 : k = n := by omega
  subst hk2
  have hkm : k = mo := by omega
  rw [hkm] at hok
  rw [hok]
  repeat' (first | (refine ZE ?_; refine Zn (Zd rfl) rfl rfl ?_) | (refine Zj ?_; first | (refine Zf ?_; refine qQ ?_) | refine Zm ?_) | refine Za ?_ | (refine Zi ?_; refine Zt ?_) | (refine Zh ?_; refine Zs ?_) | intro _)
  exact qE (L' := [XG pb ab, Yz ab v r]) ⟨rfl, rfl, rfl⟩
theorem imagesL_spec (ρ : Hp) (s : SV) (l : List Im) (h : ASL ρ 7 imV s l) (him : ∀ x ∈ l, Im.InL ρ x) (before : Bool) :
  Spec Tryz.prog 135 [.slice s.a s.n s.c, .bool before] ρ [] (fun v ρ' L' => v = .bool (imsOk before l) ∧ ρ' = ρ ∧ L' = []) := by
 have hl := h.at'.len
 have hr := fun bx => risesImL_spec ρ s.a s.n s.c l h.at' h.big bx before him
 refine Zg Tryz.func135 rfl rfl rfl fun u R => ?_
 simp only [Zx, List.cons_append, List.nil_append]
 unfold imsOk
 by_cases h16 : s.n ≤ 16
 ·rw [decide_eq_true (show l.length ≤ 16 by omega), Bool.true_and]
  repeat' (first | (refine Ze (.func 169) ?_; refine qC rfl rfl (hr _) ?_; rintro v ρ' L' hle ⟨rfl, rfl, rfl⟩ <;> (try simp only [kM, kN, kO])) | (refine ZE ?_; refine Zn (Zd rfl) rfl rfl ?_) | (refine Zj ?_; first | (refine Zf ?_; refine qQ ?_) | refine Zm ?_) | refine Za ?_ | (refine Zi ?_; refine Zt ?_) | (refine Zh ?_; refine Zs ?_) | intro _)
  exact qE (L' := []) ⟨rfl, rfl, rfl⟩
 ·rw [decide_eq_false (show ¬ l.length ≤ 16 by omega), Bool.false_and]
  repeat' (first | (refine ZE ?_; refine Zn (Zd rfl) rfl rfl ?_) | (refine Zj ?_; first | (refine Zf ?_; refine qQ ?_) | refine Zm ?_) | refine Za ?_ | (refine Zi ?_; refine Zt ?_) | (refine Zh ?_; refine Zs ?_) | intro _)
  exact qE (L' := []) ⟨rfl, rfl, rfl⟩
theorem idxStpL_spec (ρ : Hp) (a : Option Addr) (n c : Nat) (l : List Stp) (h : AIn ρ 6 stpV a n l) (hn : n ≤ 281474976710656)  :
  Spec Tryz.prog 173 [.slice a n c, .func (.func 137) ⟨[]⟩ ⟨[]⟩] ρ [] (fun z ρ' L' => z = .int .i64 (YV (fun s : Stp => !Yy s) l) ∧ ρ' = ρ ∧ L' = []) := by
 have hl := h.len
 generalize hP : (fun s : Stp => !Yy s) = pp
 refine Zg Tryz.func173 rfl rfl rfl fun u R => ?_
 simp only [Zx, List.cons_append, List.nil_append]
 repeat' (first | (refine ZE ?_; refine Zn (Zd rfl) rfl rfl ?_) | (refine Zj ?_; first | (refine Zf ?_; refine qQ ?_) | refine Zm ?_) | refine Za ?_ | (refine Zi ?_; refine Zt ?_) | (refine Zh ?_; refine Zs ?_) | intro _)
 refine ZG [(0, _), (1, _), (7, _)] (fun (ζ : (Nat)) => [(8, .int .i64 ζ), (4, .int .i64 0)]) (fun (ζ : (Nat)) => ρ) (fun (ζ : (Nat)) => []) (fun (ζ : (Nat)) => ζ ≤ n ∧ ∀ x ∈ l.take ζ, pp x = false) (fun (ζ : (Nat)) => n - ζ) (0) (⟨Nat.zero_le _, by simp⟩) Zo Zo rfl tk ?_
 rintro k hI
 try simp only [List.cons_append, List.nil_append, List.append_assoc, List.append_eq] at hI ⊢
 try dsimp only at hI ⊢
 obtain ⟨hk, hok⟩ := hI
 by_cases hlt : k < n
 ·obtain ⟨b, off, C, T, fr, rfl, hb, hfit, hc⟩ := h.get (show k < l.length by omega)
  have hf := fun (e : pp l[k] = true) => Wb (p := pp) (show k < l.length by omega) e hok
  have ht := fun (e : pp l[k] = false) => take_more (p := fun x => pp x = false) (show k < l.length by omega) e hok
  have hp : pp l[k] = (fun s : Stp => !Yy s) l[k] := by rw [hP]
  cases hx : pp l[k]
  ·have hok2 := ht hx
   rw [hx] at hp
   generalize l[k] = x at *
   repeat' (first | (refine Ze (.tmp 11) ?_; refine qC rfl rfl (done1_spec _ _) ?_; rintro v ρ' L' hle ⟨rfl, rfl, rfl⟩ <;> (try simp only [kM, kN, kO, ← hp, Bool.not_true, Bool.not_false])) | (refine ZE ?_; refine Zn (Zd rfl) rfl rfl ?_) | (refine Zj ?_; first | (refine Zf ?_; refine qQ ?_) | refine Zm ?_) | refine Za ?_ | (refine Zi ?_; refine Zt ?_) | (refine Zh ?_; refine Zs ?_) | intro _)
   refine Zr (k + 1) (⟨hlt, hok2⟩) Zo Zo rfl tk inferInstance (by first | omega | (dsimp only; omega))
  ·have e := hf hx
   rw [hx] at hp
   have e2 : YV pp l = (k : Int) := by unfold YV; rw [e]
   rw [e2]
   generalize l[k] = x at *
   repeat' (first | (refine Ze (.tmp 11) ?_; refine qC rfl rfl (done1_spec _ _) ?_; rintro v ρ' L' hle ⟨rfl, rfl, rfl⟩ <;> (try simp only [kM, kN, kO, ← hp, Bool.not_true, Bool.not_false])) | (refine ZE ?_; refine Zn (Zd rfl) rfl rfl ?_) | (refine Zj ?_; first | (refine Zf ?_; refine qQ ?_) | refine Zm ?_) | refine Za ?_ | (refine Zi ?_; refine Zt ?_) | (refine Zh ?_; refine Zs ?_) | intro _)
   exact qE (L' := []) ⟨rfl, rfl, rfl⟩
 ·have hk2 : k = l.length := by omega
  rw [hk2, List.take_length] at hok
  have e2 : YV pp l = -1 := by unfold YV; rw [idx_none hok]
  rw [e2]
  repeat' (first | (refine ZE ?_; refine Zn (Zd rfl) rfl rfl ?_) | (refine Zj ?_; first | (refine Zf ?_; refine qQ ?_) | refine Zm ?_) | refine Za ?_ | (refine Zi ?_; refine Zt ?_) | (refine Zh ?_; refine Zs ?_) | intro _)
  exact qE (L' := []) ⟨rfl, rfl, rfl⟩
theorem containsL_spec (ρ : Hp) (a : Option Addr) (n c : Nat) (l : List Stp) (h : AIn ρ 6 stpV a n l) (hn : n ≤ 281474976710656) :
  Spec Tryz.prog 136 [.slice a n c, .func (.func 137) ⟨[]⟩ ⟨[]⟩] ρ [] (fun z ρ' L' => z = .bool (!(l.all Yy)) ∧ ρ' = ρ ∧ L' = []) := by
 have hi := idxStpL_spec ρ a n c l h hn
 have e : decide (0 ≤ YV (fun s => !Yy s) l) = !(l.all Yy) := by
  unfold YV
  cases hf : l.findIdx? (fun s => !Yy s) with
  | none =>
   rw [List.findIdx?_eq_none_iff] at hf
   have : l.all Yy = true := List.all_eq_true.2 (fun x hx => by have := hf x hx; simpa using this)
   rw [this]; rfl
  | some i =>
   obtain ⟨h1, h2, _⟩ := List.findIdx?_eq_some_iff_getElem.1 hf
   have : l.all Yy = false := by
    rw [List.all_eq_false]
    exact ⟨_, List.getElem_mem h1, by simpa using h2⟩
   rw [this]; simp
 rw [← e]
 generalize YV (fun s => !Yy s) l = q at *
 refine Zg Tryz.func136 rfl rfl rfl fun u R => ?_
 simp only [Zx, List.cons_append, List.nil_append]
 repeat' (first | (refine Ze (.func 173) ?_; refine qC rfl rfl (hi) ?_; rintro v ρ' L' hle ⟨rfl, rfl, rfl⟩ <;> (try simp only [kM, kN, kO])) | (refine ZE ?_; refine Zn (Zd rfl) rfl rfl ?_) | (refine Zj ?_; first | (refine Zf ?_; refine qQ ?_) | refine Zm ?_) | refine Za ?_ | (refine Zi ?_; refine Zt ?_) | (refine Zh ?_; refine Zs ?_) | intro _)
 refine qF (L' := []) ?_
 exact ⟨Xn (by simp), rfl, rfl⟩
theorem bareL_spec (ρ : Hp) (v : RV) (r : Rc) (hi : v.i.n ≤ 281474976710656) (hs : v.s.n ≤ 281474976710656) (ht : v.t.n ≤ 281474976710656) (hd : v.d.n ≤ 281474976710656) : Spec Tryz.prog 92 [.agg ⟨recV v r⟩] ρ []
  (fun z ρ' L' => z = .bool (decide (r.next = 0 ∧ v.i.n = 0 ∧ v.s.n = 0 ∧ v.t.n = 0 ∧ v.d.n = 0 ∧ r.nextTxn = 0)) ∧ ρ' = ρ ∧ L' = []) := by
 refine Zg Tryz.func92 rfl rfl rfl fun u R => ?_
 simp only [Zx, List.cons_append, List.nil_append]
 repeat' (first | (refine ZE ?_; refine Zn (Zd rfl) rfl rfl ?_) | (refine Zj ?_; first | (refine Zf ?_; refine qQ ?_) | refine Zm ?_) | refine Za ?_ | (refine Zi ?_; refine Zt ?_) | (refine Zh ?_; refine Zs ?_) | (refine XM ?_; refine Ye rfl rfl (fun hb => ?_) (fun hb => ?_) <;> (try simp only [decide_eq_true_eq, decide_eq_false_iff_not, Bool.not_eq_true, Bool.not_eq_false, beq_iff_eq, bne_iff_ne, ne_eq, decide_eq_decide, Bool.not_eq_eq_eq_not, Bool.not_true, Bool.not_false, beq_eq_false_iff_ne, bne_eq_false_iff_eq, Bool.and_eq_true, Bool.or_eq_true, Bool.and_eq_false_imp, Bool.or_eq_false_iff, bq2, bqt, bqf] at hb)) | (refine YA ?_; refine Ym rfl (fun hb => ?_) (fun hb => ?_) <;> (try simp only [decide_eq_true_eq, decide_eq_false_iff_not, Bool.not_eq_true, Bool.not_eq_false, beq_iff_eq, bne_iff_ne, ne_eq, decide_eq_decide, Bool.not_eq_eq_eq_not, Bool.not_true, Bool.not_false, beq_eq_false_iff_ne, bne_eq_false_iff_eq, Bool.and_eq_true, Bool.or_eq_true, Bool.and_eq_false_imp, Bool.or_eq_false_iff, bq2, bqt, bqf] at hb)) | intro _)
 all_goals (refine qF (L' := []) ?_; exact ⟨Xn (by (try simp [*]); first | done | omega | (intros; omega) | (constructor <;> intros <;> (try simp_all) <;> omega)), rfl, rfl⟩)
theorem achangeL_spec (ρ : Hp) (ab : Nat) (v : RV) (r : Rc) (h : RcInL ρ v r) : Spec Tryz.prog 87 [.pointer (some ⟨ab, 0, none⟩)] ρ [Yz ab v r]
  (fun z ρ' L' => z = .bool (decide (0 < r.ims.length) && imsOk true r.ims) ∧ ρ' = ρ ∧ L' = [Yz ab { v with i := YI } r]) := by
 have hl := h.i.at'.len
 have him := imagesL_spec ρ v.i r.ims h.i h.im true
 refine Zg Tryz.func87 rfl rfl rfl fun u R => ?_
 simp only [Zx, List.cons_append, List.nil_append]
 by_cases h0 : 0 < v.i.n
 ·rw [decide_eq_true (show 0 < r.ims.length by omega), Bool.true_and]
  repeat' (first | (refine Ze (.func 135) ?_; refine qC rfl rfl (him) ?_; rintro v ρ' L' hle ⟨rfl, rfl, rfl⟩ <;> (try simp only [kM, kN, kO])) | (refine ZE ?_; refine Zn (Zd rfl) rfl rfl ?_) | (refine Zj ?_; first | (refine Zf ?_; refine qQ ?_) | refine Zm ?_) | refine Za ?_ | (refine Zi ?_; refine Zt ?_) | (refine Zh ?_; refine Zs ?_) | intro _)
  exact qE (L' := [Yz ab { v with i := YI } r]) ⟨rfl, rfl, rfl⟩
 ·rw [decide_eq_false (show ¬ 0 < r.ims.length by omega), Bool.false_and]
  repeat' (first | (refine ZE ?_; refine Zn (Zd rfl) rfl rfl ?_) | (refine Zj ?_; first | (refine Zf ?_; refine qQ ?_) | refine Zm ?_) | refine Za ?_ | (refine Zi ?_; refine Zt ?_) | (refine Zh ?_; refine Zs ?_) | intro _)
  exact qE (L' := [Yz ab { v with i := YI } r]) ⟨rfl, rfl, rfl⟩
theorem adoneL_spec (ρ : Hp) (ab : Nat) (v : RV) (r : Rc) (h : RcInL ρ v r) : Spec Tryz.prog 89 [.pointer (some ⟨ab, 0, none⟩)] ρ [Yz ab v r]
  (fun z ρ' L' => z = .bool (decide (r.next < r.prev) && (decide (0 < r.steps.length ∧ r.steps.length ≤ 2) && r.steps.all Yy)) ∧ ρ' = ρ ∧ L' = [Yz ab { v with s := YI } { r with next := 0 }]) := by
 have hl := h.s.at'.len
 have hco := containsL_spec ρ v.s.a v.s.n v.s.c r.steps h.s.at' h.s.big
 have hne := anested_spec ρ ab { v with s := YI } r
 rw [hl]
 generalize r.steps.all Yy = q at *
 refine Zg Tryz.func89 rfl rfl rfl fun u R => ?_
 simp only [Zx, List.cons_append, List.nil_append]
 repeat' (first | (refine Ze (.func 88) ?_; refine qC rfl rfl (hne) ?_; rintro v ρ' L' hle ⟨rfl, rfl, rfl⟩ <;> (try simp only [kM, kN, kO])) | (refine Ze (.func 136) ?_; refine qC rfl rfl (hco) ?_; rintro v ρ' L' hle ⟨rfl, rfl, rfl⟩ <;> (try simp only [kM, kN, kO])) | (refine ZE ?_; refine Zn (Zd rfl) rfl rfl ?_) | (refine Zj ?_; first | (refine Zf ?_; refine qQ ?_) | refine Zm ?_) | refine Za ?_ | (refine Zi ?_; refine Zt ?_) | (refine Zh ?_; refine Zs ?_) | (refine XM ?_; refine Ye rfl rfl (fun hb => ?_) (fun hb => ?_) <;> (try simp only [decide_eq_true_eq, decide_eq_false_iff_not, Bool.not_eq_true, Bool.not_eq_false, beq_iff_eq, bne_iff_ne, ne_eq, decide_eq_decide, Bool.not_eq_eq_eq_not, Bool.not_true, Bool.not_false, beq_eq_false_iff_ne, bne_eq_false_iff_eq, Bool.and_eq_true, Bool.or_eq_true, Bool.and_eq_false_imp, Bool.or_eq_false_iff, bq2, bqt, bqf] at hb)) | (refine YA ?_; refine Ym rfl (fun hb => ?_) (fun hb => ?_) <;> (try simp only [decide_eq_true_eq, decide_eq_false_iff_not, Bool.not_eq_true, Bool.not_eq_false, beq_iff_eq, bne_iff_ne, ne_eq, decide_eq_decide, Bool.not_eq_eq_eq_not, Bool.not_true, Bool.not_false, beq_eq_false_iff_ne, bne_eq_false_iff_eq, Bool.and_eq_true, Bool.or_eq_true, Bool.and_eq_false_imp, Bool.or_eq_false_iff, bq2, bqt, bqf] at hb)) | intro _)
 all_goals (refine qF (L' := [Yz ab { v with s := YI } { r with next := 0 }]) ?_; exact ⟨Xn (by (try simp [*]); first | done | omega | (intros; omega) | (constructor <;> intros <;> (try simp_all) <;> omega)), rfl, rfl⟩)
theorem aundoneL_spec (ρ : Hp) (ab : Nat) (v : RV) (r : Rc) (h : RcInL ρ v r) : Spec Tryz.prog 90 [.pointer (some ⟨ab, 0, none⟩)] ρ [Yz ab v r]
  (fun z ρ' L' => z = .bool (decide (r.next < r.lsn) && imsOk false r.ims) ∧ ρ' = ρ ∧ L' = [Yz ab { v with i := YI } { r with next := 0 }]) := by
 have him := imagesL_spec ρ v.i r.ims h.i h.im false
 generalize imsOk false r.ims = q at *
 refine Zg Tryz.func90 rfl rfl rfl fun u R => ?_
 simp only [Zx, List.cons_append, List.nil_append]
 repeat' (first | (refine ZE ?_; refine Zn (Zd rfl) rfl rfl ?_) | (refine Zj ?_; first | (refine Zf ?_; refine qQ ?_) | refine Zm ?_) | refine Za ?_ | (refine Zi ?_; refine Zt ?_) | (refine Zh ?_; refine Zs ?_) | intro _)
 refine ZC (Zq _ _ _) ZF ?_
 all_goals (refine ZU 0 ?_; refine ZS ?_; refine rNc 1 ?_; refine ZY 2 ?_; refine ZY 3 ?_; refine Yf 4 ?_; refine ZU 5 ?_; refine rNc 6 ?_; refine ZY 7 ?_; refine ZY 8 ?_; refine Yf 9 ?_; refine rAs 10 ?_; refine rAs 11 ?_; refine ZH ?_)
 all_goals (repeat' (first | (refine Ze (.func 135) ?_; refine qC rfl rfl (him) ?_; rintro v ρ' L' hle ⟨rfl, rfl, rfl⟩ <;> (try simp only [kM, kN, kO])) | (refine ZE ?_; refine Zn (Zd rfl) rfl rfl ?_) | (refine Zj ?_; first | (refine Zf ?_; refine qQ ?_) | refine Zm ?_) | refine Za ?_ | (refine Zi ?_; refine Zt ?_) | (refine Zh ?_; refine Zs ?_) | (refine XM ?_; refine Ye rfl rfl (fun hb => ?_) (fun hb => ?_) <;> (try simp only [decide_eq_true_eq, decide_eq_false_iff_not, Bool.not_eq_true, Bool.not_eq_false, beq_iff_eq, bne_iff_ne, ne_eq, decide_eq_decide, Bool.not_eq_eq_eq_not, Bool.not_true, Bool.not_false, beq_eq_false_iff_ne, bne_eq_false_iff_eq, Bool.and_eq_true, Bool.or_eq_true, Bool.and_eq_false_imp, Bool.or_eq_false_iff, bq2, bqt, bqf] at hb)) | (refine YA ?_; refine Ym rfl (fun hb => ?_) (fun hb => ?_) <;> (try simp only [decide_eq_true_eq, decide_eq_false_iff_not, Bool.not_eq_true, Bool.not_eq_false, beq_iff_eq, bne_iff_ne, ne_eq, decide_eq_decide, Bool.not_eq_eq_eq_not, Bool.not_true, Bool.not_false, beq_eq_false_iff_ne, bne_eq_false_iff_eq, Bool.and_eq_true, Bool.or_eq_true, Bool.and_eq_false_imp, Bool.or_eq_false_iff, bq2, bqt, bqf] at hb)) | intro _))
 all_goals (refine qF (L' := [Yz ab { v with i := YI } { r with next := 0 }]) ?_; exact ⟨Xn (by (try simp [*]); first | done | omega | (intros; omega) | (constructor <;> intros <;> (try simp_all) <;> omega)), rfl, rfl⟩)
theorem ackptL_spec (ρ : Hp) (ab : Nat) (v : RV) (r : Rc) (h : RcInL ρ v r) : Spec Tryz.prog 91 [.pointer (some ⟨ab, 0, none⟩)] ρ [Yz ab v r]
  (fun z ρ' L' => z = .bool (decide (1 ≤ r.nextTxn ∧ r.nextTxn ≤ 1073741824 ∧ r.txns.length ≤ 8) && (upB (ckTOk r.lsn r.nextTxn) CkT.txn r.txns r.txns.length && upB (ckPOk r.lsn) CkP.page r.dirty r.dirty.length)) ∧ ρ' = ρ ∧
   L' = [Yz ab { v with t := YI, d := YI } { r with nextTxn := 0 }]) := by
 have hl := h.t.at'.len
 have ht := fun nb pb => risesCkTL_spec ρ v.t.a v.t.n v.t.c r.txns h.t.at' h.t.big nb pb ab r.nextTxn { v with t := YI, d := YI } { r with nextTxn := 0 }
 have hd := fun pb => risesCkPL_spec ρ v.d.a v.d.n v.d.c r.dirty h.d.at' h.d.big pb ab { v with t := YI, d := YI } { r with nextTxn := 0 }
 dsimp only at ht hd
 generalize upB (ckTOk r.lsn r.nextTxn) CkT.txn r.txns r.txns.length = q1 at *
 generalize upB (ckPOk r.lsn) CkP.page r.dirty r.dirty.length = q2 at *
 rw [hl]
 refine Zg Tryz.func91 rfl rfl rfl fun u R => ?_
 simp only [Zx, List.cons_append, List.nil_append]
 repeat' (first | (refine ZE ?_; refine Zn (Zd rfl) rfl rfl ?_) | (refine Zj ?_; first | (refine Zf ?_; refine qQ ?_) | refine Zm ?_) | refine Za ?_ | (refine Zi ?_; refine Zt ?_) | (refine Zh ?_; refine Zs ?_) | intro _)
 rename_i pb
 refine ZC (Zq _ _ ([XG pb ab, Yz ab v r])) (Zy (hT := tk) (Hp.le_refl _)) ?_
 all_goals (refine Yf 0 ?_; refine rNc 1 ?_; refine ZY 2 ?_; refine ZY 3 ?_; refine Yf 4 ?_; refine Yf 5 ?_; refine rNc 6 ?_; refine ZY 7 ?_; refine ZY 8 ?_; refine Yf 9 ?_; refine Yf 10 ?_; refine rNc 11 ?_; refine ZY 12 ?_; refine ZY 13 ?_; refine Yf 14 ?_)
 all_goals (refine Zp (i := 15) ?_; ((try refine Zk ?_); (first | (refine Zm ?_; try intro _)) <;> ((try simp only [kM, kN, kO]); refine Za ?_; refine Zl ?_)))
 all_goals (refine rAs 16 ?_; refine rAs 17 ?_)
 all_goals (refine Zp (i := 18) ?_; ((try refine Zk ?_); (first | (refine Zm ?_; try intro _)) <;> ((try simp only [kM, kN, kO]); refine Za ?_; refine Zl ?_)))
 all_goals refine ZH ?_
 all_goals (repeat' (first | (refine ZE ?_; refine Zn (Zd rfl) rfl rfl ?_) | (refine Zj ?_; first | (refine Zf ?_; refine qQ ?_) | refine Zm ?_) | refine Za ?_ | (refine Zi ?_; refine Zt ?_) | (refine Zh ?_; refine Zs ?_) | intro _))
 refine ZC (Zq _ _ ([XG pb ab])) (Zy (hT := tk) (Hp.le_refl _)) ?_
 all_goals (refine Yf 0 ?_; refine Yf 1 ?_; refine Yf 2 ?_; refine rNc 3 ?_; refine ZY 4 ?_; refine ZY 5 ?_)
 all_goals (refine Zp (i := 6) ?_; ((try refine Zk ?_); (first | (refine Zm ?_; try intro _)) <;> ((try simp only [kM, kN, kO]); refine Za ?_; refine Zl ?_)))
 all_goals (refine rNc 7 ?_; refine ZY 8 ?_; refine ZY 9 ?_)
 all_goals (refine Zp (i := 10) ?_; ((try refine Zk ?_); (first | (refine Zm ?_; try intro _)) <;> ((try simp only [kM, kN, kO]); refine Za ?_; refine Zl ?_)))
 all_goals (refine rNc 11 ?_; refine ZY 12 ?_; refine ZY 13 ?_)
 all_goals (refine Zp (i := 14) ?_; ((try refine Zk ?_); (first | (refine Zm ?_; try intro _)) <;> ((try simp only [kM, kN, kO]); refine Za ?_; refine Zl ?_)))
 all_goals refine ZH ?_
 all_goals (repeat' (first | (refine Ze (.func 139) ?_; refine qC rfl rfl (ht _ _) ?_; rintro v ρ' L' hle ⟨rfl, rfl, rfl⟩ <;> (try simp only [kM, kN, kO])) | (refine Ze (.func 142) ?_; refine qC rfl rfl (hd _) ?_; rintro v ρ' L' hle ⟨rfl, rfl, rfl⟩ <;> (try simp only [kM, kN, kO])) | (refine ZE ?_; refine Zn (Zd rfl) rfl rfl ?_) | (refine Zj ?_; first | (refine Zf ?_; refine qQ ?_) | refine Zm ?_) | refine Za ?_ | (refine Zi ?_; refine Zt ?_) | (refine Zh ?_; refine Zs ?_) | (refine XM ?_; refine Ye rfl rfl (fun hb => ?_) (fun hb => ?_) <;> (try simp only [decide_eq_true_eq, decide_eq_false_iff_not, Bool.not_eq_true, Bool.not_eq_false, beq_iff_eq, bne_iff_ne, ne_eq, decide_eq_decide, Bool.not_eq_eq_eq_not, Bool.not_true, Bool.not_false, beq_eq_false_iff_ne, bne_eq_false_iff_eq, Bool.and_eq_true, Bool.or_eq_true, Bool.and_eq_false_imp, Bool.or_eq_false_iff, bq2, bqt, bqf] at hb)) | (refine YA ?_; refine Ym rfl (fun hb => ?_) (fun hb => ?_) <;> (try simp only [decide_eq_true_eq, decide_eq_false_iff_not, Bool.not_eq_true, Bool.not_eq_false, beq_iff_eq, bne_iff_ne, ne_eq, decide_eq_decide, Bool.not_eq_eq_eq_not, Bool.not_true, Bool.not_false, beq_eq_false_iff_ne, bne_eq_false_iff_eq, Bool.and_eq_true, Bool.or_eq_true, Bool.and_eq_false_imp, Bool.or_eq_false_iff, bq2, bqt, bqf] at hb)) | intro _))
 all_goals (refine qF (L' := [Yz ab { v with t := YI, d := YI } { r with nextTxn := 0 }]) ?_; exact ⟨Xn (by (try simp [*]); first | done | omega | (intros; omega) | (constructor <;> intros <;> (try simp_all) <;> omega)), rfl, rfl⟩)
structure BareRL (v' : RV) (r' r : Rc) : Prop where
 i : v'.i.n ≤ 281474976710656
 s : v'.s.n ≤ 281474976710656
 t : v'.t.n ≤ 281474976710656
 d : v'.d.n ≤ 281474976710656
 eq : decide (r'.next = 0 ∧ v'.i.n = 0 ∧ v'.s.n = 0 ∧ v'.t.n = 0 ∧ v'.d.n = 0 ∧ r'.nextTxn = 0) = bareOk r
theorem askL_spec (ρ : Hp) (ab : Nat) (v : RV) (r : Rc) (h : RcInL ρ v r) (hk : 1 ≤ r.kind ∧ r.kind ≤ 9) : Fun Tryz.prog (askF r.kind) ∧ Spec Tryz.prog (askF r.kind) [.pointer (some ⟨ab, 0, none⟩)] ρ [Yz ab v r]
  (fun z ρ' L' => z = .bool (askOk r) ∧ ρ' = ρ ∧ ∃ v' r', BareRL v' r' r ∧ L' = [Yz ab v' r']) := by
 have li := h.i.at'.len
 have ls := h.s.at'.len
 have lt := h.t.at'.len
 have ld := h.d.at'.len
 have bi := h.i.big
 have bs := h.s.big
 have bt := h.t.big
 have bd := h.d.big
 have z0 : YI.n = 0 := rfl
 have ei : r.ims = [] ↔ v.i.n = 0 := by rw [← li]; exact List.length_eq_zero_iff.symm
 have es : r.steps = [] ↔ v.s.n = 0 := by rw [← ls]; exact List.length_eq_zero_iff.symm
 have et : r.txns = [] ↔ v.t.n = 0 := by rw [← lt]; exact List.length_eq_zero_iff.symm
 have ed : r.dirty = [] ↔ v.d.n = 0 := by rw [← ld]; exact List.length_eq_zero_iff.symm
 unfold askF askOk
 have hb : ∀ (v' : RV) (r' : Rc), (v'.i.n ≤ 281474976710656 ∧ v'.s.n ≤ 281474976710656 ∧ v'.t.n ≤ 281474976710656 ∧ v'.d.n ≤ 281474976710656) → ((r'.next = 0 ∧ v'.i.n = 0 ∧ v'.s.n = 0 ∧ v'.t.n = 0 ∧ v'.d.n = 0 ∧ r'.nextTxn = 0) ↔
   ((r.next = 0 ∨ r.kind = 3 ∨ r.kind = 4 ∨ r.kind = 5) ∧ (v.i.n = 0 ∨ r.kind = 2 ∨ r.kind = 5) ∧ (v.s.n = 0 ∨ r.kind = 4) ∧ ((v.t.n = 0 ∧ v.d.n = 0 ∧ r.nextTxn = 0) ∨ r.kind = 9))) → BareRL v' r' r := fun v' r' h1 h2 =>
  ⟨h1.1, h1.2.1, h1.2.2.1, h1.2.2.2, by unfold bareOk; apply decide_eq_decide.2; rw [ei, es, et, ed]; exact h2⟩
 by_cases k2 : r.kind = 2
 ·rw [if_pos k2, if_pos k2]
  refine ⟨inferInstance, (achangeL_spec ρ ab v r h).mono ?_⟩
  rintro z ρ' L' _ ⟨rfl, rfl, rfl⟩
  exact ⟨rfl, rfl, _, _, hb { v with i := YI } r (by dsimp only; omega) (by dsimp only; omega), rfl⟩
 ·rw [if_neg k2, if_neg k2]
  by_cases k3 : r.kind = 3
  ·rw [if_pos k3, if_pos k3]
   refine ⟨inferInstance, (anested_spec ρ ab v r).mono ?_⟩
   rintro z ρ' L' _ ⟨rfl, rfl, rfl⟩
   exact ⟨rfl, rfl, _, _, hb v { r with next := 0 } (by omega) (by dsimp only; omega), rfl⟩
  ·rw [if_neg k3, if_neg k3]
   by_cases k4 : r.kind = 4
   ·rw [if_pos k4, if_pos k4]
    refine ⟨inferInstance, (adoneL_spec ρ ab v r h).mono ?_⟩
    rintro z ρ' L' _ ⟨rfl, rfl, rfl⟩
    exact ⟨rfl, rfl, _, _, hb { v with s := YI } { r with next := 0 } (by dsimp only; omega) (by dsimp only; omega), rfl⟩
   ·rw [if_neg k4, if_neg k4]
    by_cases k5 : r.kind = 5
    ·rw [if_pos k5, if_pos k5]
     refine ⟨inferInstance, (aundoneL_spec ρ ab v r h).mono ?_⟩
     rintro z ρ' L' _ ⟨rfl, rfl, rfl⟩
     exact ⟨rfl, rfl, _, _, hb { v with i := YI } { r with next := 0 } (by dsimp only; omega) (by dsimp only; omega), rfl⟩
    ·rw [if_neg k5, if_neg k5]
     by_cases k9 : r.kind = 9
     ·rw [if_pos k9, if_pos k9]
      refine ⟨inferInstance, (ackptL_spec ρ ab v r h).mono ?_⟩
      rintro z ρ' L' _ ⟨rfl, rfl, rfl⟩
      exact ⟨rfl, rfl, _, _, hb { v with t := YI, d := YI } { r with nextTxn := 0 } (by dsimp only; omega) (by dsimp only; omega), rfl⟩
     ·rw [if_neg k9, if_neg k9]
      refine ⟨inferInstance, (aplain_spec ρ ab v r).mono ?_⟩
      rintro z ρ' L' _ ⟨rfl, rfl, rfl⟩
      exact ⟨rfl, rfl, _, _, hb v r (by omega) (by omega), rfl⟩
theorem rcheckL_spec (ρ : Hp) (v : RV) (r : Rc) (h : RcInL ρ v r) : Spec Tryz.prog 52 [.agg ⟨recV v r⟩] ρ [] (fun z ρ' L' => z = .int .i64 (if Yp r then 0 else 220) ∧ ρ' = ρ ∧ L' = []) := by
 have hnil : YW .i64 [] := by intro e he; simp at he
 have hg0 : ∀ k : Int, Xh [] k = none := fun _ => rfl
 refine Zg Tryz.func52 rfl rfl rfl fun u R => ?_
 simp only [Zx, List.cons_append, List.nil_append]
 repeat' (first | (refine ZX rfl rfl rfl hnil (fun es1 ck1 i1 j1 => ?_)) | (refine ZX rfl rfl rfl i1 (fun es2 ck2 i2 j2 => ?_)) | (refine ZX rfl rfl rfl i2 (fun es3 ck3 i3 j3 => ?_)) | (refine ZX rfl rfl rfl i3 (fun es4 ck4 i4 j4 => ?_)) | (refine ZX rfl rfl rfl i4 (fun es5 ck5 i5 j5 => ?_)) | (refine ZX rfl rfl rfl i5 (fun es6 ck6 i6 j6 => ?_)) | (refine ZX rfl rfl rfl i6 (fun es7 ck7 i7 j7 => ?_)) | (refine ZX rfl rfl rfl i7 (fun es8 ck8 i8 j8 => ?_)) | (refine ZE ?_; refine Zn (Zd rfl) rfl rfl ?_) | (refine Zj ?_; first | (refine Zf ?_; refine qQ ?_) | refine Zm ?_) | refine Za ?_ | (refine Zi ?_; refine Zt ?_) | (refine Zh ?_; refine Zs ?_) | intro _)
 rename_i rb ab mb
 refine ZX rfl rfl rfl i8 (fun es9 ck9 i9 j9 => ?_)
 have hg := j9 r.kind
 rw [j8, j7, j6, j5, j4, j3, j2, j1, hg0] at hg
 clear j1 j2 j3 j4 j5 j6 j7 j8 j9 i1 i2 i3 i4 i5 i6 i7 i8
 by_cases hk : 1 ≤ r.kind ∧ r.kind ≤ 9
 ·obtain ⟨hF, hS⟩ := askL_spec ρ ab v r h hk
  have hgF : Xh es9 r.kind = some (Value.func (.func (askF r.kind)) ⟨[.pointer (some ⟨ab, 0, none⟩)]⟩ ⟨[]⟩) := by
   rw [hg]
   exact askF_chain (f := fun F => some (Value.func (.func F) ⟨[.pointer (some ⟨ab, 0, none⟩)]⟩ ⟨[]⟩)) hk
  clear hg
  generalize askF r.kind = F at *
  repeat' (first | (refine Ze (.tmp 90) ?_; refine qC rfl rfl (hS) ?_; rintro v ρ' L' hle ⟨rfl, rfl, v', r', hB, rfl⟩ <;> (try simp only [kM, kN, kO])) | (refine Ze (.func 92) ?_; refine qC rfl rfl (bareL_spec _ v' r' hB.i hB.s hB.t hB.d) ?_; rintro v ρ' L' hle ⟨rfl, rfl, rfl⟩ <;> (try simp only [kM, kN, kO, hB.eq])) | (refine ZE ?_; refine Zn (Zd rfl) rfl rfl ?_) | (refine Zj ?_; first | (refine Zf ?_; refine qQ ?_) | refine Zm ?_) | refine Za ?_ | (refine Zi ?_; refine Zt ?_) | (refine Zh ?_; refine Zs ?_) | (refine XM ?_; refine Ye rfl rfl (fun hb => ?_) (fun hb => ?_) <;> (try simp only [decide_eq_true_eq, decide_eq_false_iff_not, Bool.not_eq_true, Bool.not_eq_false, beq_iff_eq, bne_iff_ne, ne_eq, decide_eq_decide, Bool.not_eq_eq_eq_not, Bool.not_true, Bool.not_false, beq_eq_false_iff_ne, bne_eq_false_iff_eq, Bool.and_eq_true, Bool.or_eq_true, Bool.and_eq_false_imp, Bool.or_eq_false_iff, bq2, bqt, bqf] at hb)) | (refine YA ?_; refine Ym rfl (fun hb => ?_) (fun hb => ?_) <;> (try simp only [decide_eq_true_eq, decide_eq_false_iff_not, Bool.not_eq_true, Bool.not_eq_false, beq_iff_eq, bne_iff_ne, ne_eq, decide_eq_decide, Bool.not_eq_eq_eq_not, Bool.not_true, Bool.not_false, beq_eq_false_iff_ne, bne_eq_false_iff_eq, Bool.and_eq_true, Bool.or_eq_true, Bool.and_eq_false_imp, Bool.or_eq_false_iff, bq2, bqt, bqf] at hb)) | intro _)
  all_goals (refine qF (L' := []) ?_; refine ⟨?_, rfl, rfl⟩)
  all_goals first | (have hh : headOk r = false := decide_eq_false (by omega); simp only [Yp, hh, Bool.false_and, Bool.and_false, Bool.false_eq_true, if_false]) | (have hh : headOk r = true := decide_eq_true (by omega); have h9 : decide (1 ≤ r.kind ∧ r.kind ≤ 9) = true := decide_eq_true hk; simp [Yp, hh, h9, *])
 ·have hgN : Xh es9 r.kind = none := by
   rw [hg]
   simp only [show ¬ r.kind = 9 by omega, show ¬ r.kind = 8 by omega, show ¬ r.kind = 7 by omega, show ¬ r.kind = 6 by omega, show ¬ r.kind = 5 by omega, show ¬ r.kind = 4 by omega, show ¬ r.kind = 3 by omega, show ¬ r.kind = 2 by omega, show ¬ r.kind = 1 by omega, if_false]
  clear hg
  have e0 : Yp r = false := by simp [Yp, hk]
  rw [e0]
  repeat' (first | (refine ZE ?_; refine Zn (Zd rfl) rfl rfl ?_) | (refine Zj ?_; first | (refine Zf ?_; refine qQ ?_) | refine Zm ?_) | refine Za ?_ | (refine Zi ?_; refine Zt ?_) | (refine Zh ?_; refine Zs ?_) | (refine XM ?_; refine Ye rfl rfl (fun hb => ?_) (fun hb => ?_) <;> (try simp only [decide_eq_true_eq, decide_eq_false_iff_not, Bool.not_eq_true, Bool.not_eq_false, beq_iff_eq, bne_iff_ne, ne_eq, decide_eq_decide, Bool.not_eq_eq_eq_not, Bool.not_true, Bool.not_false, beq_eq_false_iff_ne, bne_eq_false_iff_eq, Bool.and_eq_true, Bool.or_eq_true, Bool.and_eq_false_imp, Bool.or_eq_false_iff, bq2, bqt, bqf] at hb)) | (refine YA ?_; refine Ym rfl (fun hb => ?_) (fun hb => ?_) <;> (try simp only [decide_eq_true_eq, decide_eq_false_iff_not, Bool.not_eq_true, Bool.not_eq_false, beq_iff_eq, bne_iff_ne, ne_eq, decide_eq_decide, Bool.not_eq_eq_eq_not, Bool.not_true, Bool.not_false, beq_eq_false_iff_ne, bne_eq_false_iff_eq, Bool.and_eq_true, Bool.or_eq_true, Bool.and_eq_false_imp, Bool.or_eq_false_iff, bq2, bqt, bqf] at hb)) | intro _)
  all_goals (refine qF (L' := []) ?_; exact ⟨rfl, rfl, rfl⟩)
theorem CW.inL {ρ v} {c : Cont} (h : CW ρ v c) : CInL ρ v c.rows c.kids := ⟨h.r, h.k, by have := h.rb; omega, by have := h.kb; omega, h.rc, h.kc⟩
theorem AW.inL {ρ : Hp} {sz : Nat} {α : Type} {g : α → List Value} {s : SV} {l : List α} (h : AW ρ sz g s l) : ASL ρ sz g s l := ⟨h.at', by have := h.big; omega, h.cap⟩
theorem RcW.inL {ρ v r} (h : RcW ρ v r) : RcInL ρ v r := ⟨h.i.inL, fun x hx => ⟨(h.im x hx).1.inL, (h.im x hx).2.inL⟩, h.s.inL, h.t.inL, h.d.inL⟩
theorem recOk_over {r : Rc} (h : Yp r = true) : overB r = false := by
 have hl := recOk_lay h
 have h1 := hl.il
 have h2 := hl.sl
 have h3 := hl.tl
 have h4 := hl.dl
 unfold overB
 rw [Bool.or_eq_false_iff]
 refine ⟨decide_eq_false (by omega), ?_⟩
 rw [List.any_eq_false]
 intro x hx
 obtain ⟨_, ha, hb⟩ := hl.im x hx
 have a1 := (Xu ha).rl
 have a2 := (Xu ha).kl
 have b1 := (Xu hb).rl
 have b2 := (Xu hb).kl
 rw [decide_eq_true_eq]
 unfold imN
 omega
theorem RcW.ofOk {ρ v r} (h : RcW ρ v r) (hok : Yp r = true) : RcIn ρ v r := (h.in' (recOk_over hok)).1
theorem recOf_inW {ρ : Hp} {o : OpD} {p : Yh} (h : RcW ρ o.rv o.rc) : RcW ρ o.rv (XO o p) := by
 unfold XO
 repeat' split
 all_goals exact ⟨h.i, h.im, h.s, h.t, h.d, h.sf⟩
theorem take1L_spec (ρ : Hp) (cb xb : Nat) (p : Yh) (vv : Value) (sp : List Value) (os : List OT) (hR : OwnR vv sp os p.txns) (hG : RosG p) (rv : RV) (r : Rc) (h : RcW ρ rv r) :
  Spec Tryz.prog 51 [.pointer (some ⟨cb, 0, none⟩), .pointer (some ⟨xb, 0, none⟩)] ρ (YJ cb p.next vv noRV zeroRc none :: (Xs vv sp os ++ [recC xb rv r]))
   (DoR (if Yp r then XB p r else 220) (Yv p r).next (Yv p r).txns [recC xb rv r] cb ρ) := by
 have hck := rcheckL_spec ρ rv r h.inL
 unfold DoR
 refine Zg Tryz.func51 rfl rfl rfl fun u R => ?_
 simp only [Zx, List.cons_append, List.nil_append]
 cases hok : Yp r
 ·rw [hok] at hck
  simp only [Bool.false_eq_true, if_false] at hck ⊢
  repeat' (first | (refine Ze (.func 52) ?_; refine qC rfl rfl (hck) ?_; rintro v ρ' L' hle ⟨rfl, rfl, rfl⟩ <;> (try simp only [kM, kN, kO])) | (refine ZE ?_; refine Zn (Zd rfl) rfl rfl ?_) | (refine Zj ?_; first | (refine Zf ?_; refine qQ ?_) | refine Zm ?_) | refine Za ?_ | (refine Zi ?_; refine Zt ?_) | (refine Zh ?_; refine Zs ?_) | intro _)
  exact qE (L' := [] ++ [recC xb rv r]) ⟨Hp.le_refl _, rfl, .inl ⟨by decide, [], rfl⟩⟩
 ·rw [hok] at hck
  simp only [if_true] at hck ⊢
  have ht := takes_spec ρ cb p.next vv sp os p.txns hR noRV zeroRc none rv r (h.ofOk hok) hok hG
  unfold DoR at ht
  have hp : (⟨p.next, p.txns⟩ : Yh) = p := rfl
  rw [hp] at ht
  repeat' (first | (refine Ze (.func 52) ?_; refine qC rfl rfl (hck) ?_; rintro v ρ' L' hle ⟨rfl, rfl, rfl⟩ <;> (try simp only [kM, kN, kO])) | (refine Ze (.func 53) ?_; refine qC rfl rfl (ht) ?_; rintro v ρ' L' hle ⟨hl1, rfl, ⟨he, G, rfl⟩ | ⟨he, vv', sp', os', rv', x', tp', hR', rfl⟩⟩ <;> (try simp only [kM, kN, kO])) | (refine ZE ?_; refine Zn (Zd rfl) rfl rfl ?_) | (refine Zj ?_; first | (refine Zf ?_; refine qQ ?_) | refine Zm ?_) | refine Za ?_ | (refine Zi ?_; refine Zt ?_) | (refine Zh ?_; refine Zs ?_) | intro _)
  ·simp only [List.append_nil, List.append_assoc]
   repeat' (first | (refine ZE ?_; refine Zn (Zd rfl) rfl rfl ?_) | (refine Zj ?_; first | (refine Zf ?_; refine qQ ?_) | refine Zm ?_) | refine Za ?_ | (refine Zi ?_; refine Zt ?_) | (refine Zh ?_; refine Zs ?_) | intro _)
   exact qE (L' := G ++ [recC xb rv r]) ⟨hl1, rfl, .inl ⟨he, G, rfl⟩⟩
  ·repeat' (first | (refine ZE ?_; refine Zn (Zd rfl) rfl rfl ?_) | (refine Zj ?_; first | (refine Zf ?_; refine qQ ?_) | refine Zm ?_) | refine Za ?_ | (refine Zi ?_; refine Zt ?_) | (refine Zh ?_; refine Zs ?_) | intro _)
   exact qE (L' := YJ cb (Yv p r).next vv' rv' x' tp' :: (Xs vv' sp' os' ++ [recC xb rv r])) ⟨hl1, rfl, .inr ⟨he, vv', sp', os', rv', x', tp', hR', rfl⟩⟩
theorem takeL_spec (ρ : Hp) (v : SV) (ro : Ros) (h : RosIn ρ v ro) (rv : RV) (r : Rc) (hr : RcW ρ rv r) : Spec Tryz.prog 18 [.agg ⟨Yx v ro⟩, .agg ⟨recV rv r⟩] ρ []
  (fun z ρ' L' => ρ.le ρ' ∧ ((Xa ro.p r ≠ 0 ∧ z = .tuple ⟨[.agg ⟨[.int .i64 0, .slice none 0 0]⟩, .int .i64 (Xa ro.p r)]⟩ ∧ L' = []) ∨
   (Xa ro.p r = 0 ∧ ∃ vv sp os, OwnR vv sp os (YD ro.p r).txns ∧ z = .tuple ⟨[.agg ⟨[.int .i64 (YD ro.p r).next, vv]⟩, .int .i64 0]⟩ ∧ L' = Xs vv sp os))) := by
 refine Zg Tryz.func18 rfl rfl rfl fun u R => ?_
 simp only [Zx, List.cons_append, List.nil_append]
 unfold YD Xa
 rw [XA]
 cases hok : XY ro
 ·have hw := fun cs X => rwith_bad ρ v ro h hok 51 cs X
  simp only [Bool.false_eq_true, if_false]
  repeat' (first | (refine Ze (.func 50) ?_; refine qC rfl rfl ((hw _ [])) ?_; rintro v ρ' L' hle ⟨rfl, rfl, rfl⟩ <;> (try simp only [kM, kN, kO])) | (refine ZE ?_; refine Zn (Zd rfl) rfl rfl ?_) | (refine Zj ?_; first | (refine Zf ?_; refine qQ ?_) | refine Zm ?_) | refine Za ?_ | (refine Zi ?_; refine Zt ?_) | (refine Zh ?_; refine Zs ?_) | intro _)
  exact qE (L' := []) ⟨Hp.le_refl _, .inl ⟨by decide, rfl, rfl⟩⟩
 ·have hG : RosG ro.p := Yw.1 (by rw [XA]; exact hok)
  simp only [if_true]
  have hw := fun xb => rwith_spec ρ v ro h hok 51 [.pointer (some ⟨xb, 0, none⟩)] [recC xb rv r] [recC xb rv r] (if Yp r then XB ro.p r else 220) (Yv ro.p r).next (Yv ro.p r).txns (fun ρ1 hle cb vv sp os hR => take1L_spec ρ1 cb xb ro.p vv sp os hR hG rv r (hr.mono hle))
  generalize (if Yp r = true then XB ro.p r else 220) = e at *
  repeat' (first | (refine Ze (.func 50) ?_; refine qC rfl rfl (hw _) ?_; rintro v ρ' L' hle ⟨hl1, ⟨he, rfl, rfl⟩ | ⟨he, vv, sp, os, hR, rfl, rfl⟩⟩ <;> (try simp only [kM, kN, kO])) | (refine ZE ?_; refine Zn (Zd rfl) rfl rfl ?_) | (refine Zj ?_; first | (refine Zf ?_; refine qQ ?_) | refine Zm ?_) | refine Za ?_ | (refine Zi ?_; refine Zt ?_) | (refine Zh ?_; refine Zs ?_) | intro _)
  ·repeat' (first | (refine ZE ?_; refine Zn (Zd rfl) rfl rfl ?_) | (refine Zj ?_; first | (refine Zf ?_; refine qQ ?_) | refine Zm ?_) | refine Za ?_ | (refine Zi ?_; refine Zt ?_) | (refine Zh ?_; refine Zs ?_) | intro _)
   exact qE (L' := []) ⟨hl1, .inl ⟨he, rfl, rfl⟩⟩
  ·subst he
   obtain ⟨va, vc, rfl, _⟩ := hR.own.slice
   repeat' (first | (refine ZE ?_; refine Zn (Zd rfl) rfl rfl ?_) | (refine Zj ?_; first | (refine Zf ?_; refine qQ ?_) | refine Zm ?_) | refine Za ?_ | (refine Zi ?_; refine Zt ?_) | (refine Zh ?_; refine Zs ?_) | intro _)
   exact qE (L' := Xs _ sp os) ⟨hl1, .inr ⟨by trivial, _, sp, os, hR, rfl, rfl⟩⟩
theorem takeFL_spec (ρ : Hp) (v : SV) (ro : Ros) (h : RosIn ρ v ro) (rv : RV) (r : Rc) (hr : RcW ρ rv r) : Spec Tryz.prog 18 [.agg ⟨Yx v ro⟩, .agg ⟨recV rv r⟩] ρ []
  (fun z ρ' L' => (ρ.le ρ' ∧ ∃ (v' : SV) (ro' : Ros), z = .tuple ⟨[.agg ⟨Yx v' ro'⟩, .int .i64 (Xa ro.p r)]⟩ ∧ RosIn ρ' v' ro' ∧ ro'.p = YD ro.p r) ∧ L' = []) := by
 refine Spec.freeze (Post2 := fun z ρ' => ρ.le ρ' ∧ ∃ (v' : SV) (ro' : Ros), z = .tuple ⟨[.agg ⟨Yx v' ro'⟩, .int .i64 (Xa ro.p r)]⟩ ∧ RosIn ρ' v' ro' ∧ ro'.p = YD ro.p r) (takeL_spec ρ v ro h rv r hr) ?_
 rintro z ρ' L' _ ⟨hl1, ⟨he, rfl, rfl⟩ | ⟨he, vv, sp, os, hR, rfl, rfl⟩⟩ ρ2 hl2 hf
 ·refine ⟨Hp.le_trans hl1 hl2, YI, ⟨0, []⟩, rfl, RosIn.z, ?_⟩
  unfold YD; rw [if_neg he]; rfl
 ·obtain ⟨v', ro', e1, e2, e3⟩ := own_frozen (next := (YD ro.p r).next) hR (takeP_ok he) rfl hf
  exact ⟨Hp.le_trans hl1 hl2, v', ro', by rw [e1, he], e2, e3⟩
theorem run18L_spec (ρ : Hp) (o : OpD) (v : SV) (ro : Ros) (h : RosIn ρ v ro) (hL : YH ro.p ≤ 1099511627776) (hn : i64in o.n) (hr : RcW ρ o.rv o.rc) : Spec Tryz.prog 11 [.agg ⟨opV o⟩, .agg ⟨Yx v ro⟩] ρ [] (fun z ρ' L' => ρ.le ρ' ∧ ∃ (v' : SV) (ro' : Ros), z = .agg ⟨toldV v' ro' (runN o ro.p) (runE o ro.p)⟩ ∧ RosIn ρ' v' ro' ∧ ro'.p = runP o ro.p ∧ L' = []) := by
 have hnum := onum_spec ρ o v ro h
 have hrec := orec_spec ρ o v ro h hL
 have hri := recOf_inW (p := ro.p) hr
 have hM := markZ_spec ρ v ro h (opN o ro.p)
 have hC := cutZ_spec ρ v ro h (opN o ro.p) o.n hn
 have hT := takeFL_spec ρ v ro h o.rv (XO o ro.p) hri
 unfold runN runE runP
 generalize hk : opK o = k
 unfold opK at hk
 generalize XO o ro.p = rr at *
 generalize opN o ro.p = nn at *
 refine Zg Tryz.func11 rfl rfl rfl fun u R => ?_
 simp only [Zx, List.cons_append, List.nil_append]
 by_cases k5 : k = 5
 ·simp only [if_pos k5]
  repeat' (first | (refine ZE ?_; refine Zn (Zd rfl) rfl rfl ?_) | (refine Zj ?_; first | (refine Zf ?_; refine qQ ?_) | refine Zm ?_) | refine Za ?_ | (refine Zi ?_; refine Zt ?_) | (refine Zh ?_; refine Zs ?_) | intro _)
  refine ZC (Zq _ _ ([[(_, .cells ⟨Yx v ro⟩ 26 (0, 0))], [(_, .cells ⟨opV o⟩ 36 (0, 0))]])) (Zy (hT := tk) (Hp.le_refl _)) ?_
  all_goals (refine Yf 0 ?_; refine Yf 1 ?_; refine Yf 2 ?_)
  all_goals (refine Zp (i := 3) ?_; ((try refine Zk ?_); (first | (refine Ze (.func 40) ?_; refine qC rfl rfl (hnum) ?_; rintro v ρ' L' hle ⟨rfl, rfl, rfl⟩ <;> (try simp only [kM, kN, kO])) | (refine Zf ?_; refine qQ ?_) | (refine Zm ?_; try intro _)) <;> ((try simp only [kM, kN, kO]); refine Za ?_; refine Zl ?_)))
  all_goals (refine Zp (i := 4) ?_; ((try refine Zk ?_); (first | (refine Ze (.func 13) ?_; refine qC rfl rfl (hM) ?_; rintro v ρ' L' hle ⟨⟨hz1, v1, r1, rfl, hR1, hp1⟩, rfl⟩ <;> (try simp only [kM, kN, kO])) | (refine Zf ?_; refine qQ ?_) | (refine Zm ?_; try intro _)) <;> ((try simp only [kM, kN, kO]); refine Za ?_; refine Zl ?_)))
  all_goals (refine ZU 5 ?_; refine rEx 6 ?_; refine ZY 9 ?_)
  all_goals (refine rStep3 (i := 7) (j := 8) (k := 10) ?_ ?_ ?_ <;> ((try refine Zk ?_); (first | (refine Ze (.func 40) ?_; refine qC rfl rfl (hnum) ?_; rintro v ρ' L' hle ⟨rfl, rfl, rfl⟩ <;> (try simp only [kM, kN, kO])) | (refine Ze (.func 13) ?_; refine qC rfl rfl (hM) ?_; rintro v ρ' L' hle ⟨⟨hz1, v1, r1, rfl, hR1, hp1⟩, rfl⟩ <;> (try simp only [kM, kN, kO])) | (refine Zf ?_; refine qQ ?_) | (refine Zm ?_; try intro _)) <;> ((try simp only [kM, kN, kO]); refine Za ?_; refine Zl ?_)))
  all_goals (first | (refine Yo (i := 8) (j := 10) ?_ ?_ <;> ((try refine Zk ?_); (first | (refine Ze (.func 40) ?_; refine qC rfl rfl (hnum) ?_; rintro v ρ' L' hle ⟨rfl, rfl, rfl⟩ <;> (try simp only [kM, kN, kO])) | (refine Ze (.func 13) ?_; refine qC rfl rfl (hM) ?_; rintro v ρ' L' hle ⟨⟨hz1, v1, r1, rfl, hR1, hp1⟩, rfl⟩ <;> (try simp only [kM, kN, kO])) | (refine Zf ?_; refine qQ ?_) | (refine Zm ?_; try intro _)) <;> ((try simp only [kM, kN, kO]); refine Za ?_; refine Zl ?_))) | (refine Yo (i := 7) (j := 10) ?_ ?_ <;> ((try refine Zk ?_); (first | (refine Ze (.func 40) ?_; refine qC rfl rfl (hnum) ?_; rintro v ρ' L' hle ⟨rfl, rfl, rfl⟩ <;> (try simp only [kM, kN, kO])) | (refine Ze (.func 13) ?_; refine qC rfl rfl (hM) ?_; rintro v ρ' L' hle ⟨⟨hz1, v1, r1, rfl, hR1, hp1⟩, rfl⟩ <;> (try simp only [kM, kN, kO])) | (refine Zf ?_; refine qQ ?_) | (refine Zm ?_; try intro _)) <;> ((try simp only [kM, kN, kO]); refine Za ?_; refine Zl ?_))) | (refine Yo (i := 7) (j := 8) ?_ ?_ <;> ((try refine Zk ?_); (first | (refine Ze (.func 40) ?_; refine qC rfl rfl (hnum) ?_; rintro v ρ' L' hle ⟨rfl, rfl, rfl⟩ <;> (try simp only [kM, kN, kO])) | (refine Ze (.func 13) ?_; refine qC rfl rfl (hM) ?_; rintro v ρ' L' hle ⟨⟨hz1, v1, r1, rfl, hR1, hp1⟩, rfl⟩ <;> (try simp only [kM, kN, kO])) | (refine Zf ?_; refine qQ ?_) | (refine Zm ?_; try intro _)) <;> ((try simp only [kM, kN, kO]); refine Za ?_; refine Zl ?_))))
  all_goals (first | refine ZY 11 ?_ | (refine Zp (i := 10) ?_; ((try refine Zk ?_); (first | (refine Zf ?_; refine qQ ?_) | (refine Zm ?_; try intro _)) <;> ((try simp only [kM, kN, kO]); refine Za ?_; refine Zl ?_))) | (refine Zp (i := 7) ?_; ((try refine Zk ?_); (first | (refine Ze (.func 40) ?_; refine qC rfl rfl (hnum) ?_; rintro v ρ' L' hle ⟨rfl, rfl, rfl⟩ <;> (try simp only [kM, kN, kO])) | (refine Ze (.func 13) ?_; refine qC rfl rfl (hM) ?_; rintro v ρ' L' hle ⟨⟨hz1, v1, r1, rfl, hR1, hp1⟩, rfl⟩ <;> (try simp only [kM, kN, kO])) | (refine Zf ?_; refine qQ ?_) | (refine Zm ?_; try intro _)) <;> ((try simp only [kM, kN, kO]); refine Za ?_; refine Zl ?_))))
  all_goals (first | refine ZY 11 ?_ | (refine Yo (i := 8) (j := 12) ?_ ?_ <;> ((try refine Zk ?_); (first | (refine Ze (.func 40) ?_; refine qC rfl rfl (hnum) ?_; rintro v ρ' L' hle ⟨rfl, rfl, rfl⟩ <;> (try simp only [kM, kN, kO])) | (refine Ze (.func 13) ?_; refine qC rfl rfl (hM) ?_; rintro v ρ' L' hle ⟨⟨hz1, v1, r1, rfl, hR1, hp1⟩, rfl⟩ <;> (try simp only [kM, kN, kO])) | (refine Zf ?_; refine qQ ?_) | (refine Zm ?_; try intro _)) <;> ((try simp only [kM, kN, kO]); refine Za ?_; refine Zl ?_))))
  all_goals (first | (refine Zp (i := 12) ?_; ((try refine Zk ?_); (first | (refine Zf ?_; refine qQ ?_) | (refine Zm ?_; try intro _)) <;> ((try simp only [kM, kN, kO]); refine Za ?_; refine Zl ?_))) | (refine Zp (i := 8) ?_; ((try refine Zk ?_); (first | (refine Ze (.func 40) ?_; refine qC rfl rfl (hnum) ?_; rintro v ρ' L' hle ⟨rfl, rfl, rfl⟩ <;> (try simp only [kM, kN, kO])) | (refine Ze (.func 13) ?_; refine qC rfl rfl (hM) ?_; rintro v ρ' L' hle ⟨⟨hz1, v1, r1, rfl, hR1, hp1⟩, rfl⟩ <;> (try simp only [kM, kN, kO])) | (refine Zf ?_; refine qQ ?_) | (refine Zm ?_; try intro _)) <;> ((try simp only [kM, kN, kO]); refine Za ?_; refine Zl ?_))))
  all_goals refine ZY 13 ?_
  all_goals (refine Zp (i := 14) ?_; ((try refine Zk ?_); (first | (refine Zf ?_; refine qQ ?_) | (refine Zm ?_; try intro _)) <;> ((try simp only [kM, kN, kO]); refine Za ?_; refine Zl ?_)))
  all_goals refine ZH ?_
  all_goals (repeat' (first | (refine ZE ?_; refine Zn (Zd rfl) rfl rfl ?_) | (refine Zj ?_; first | (refine Zf ?_; refine qQ ?_) | refine Zm ?_) | refine Za ?_ | (refine Zi ?_; refine Zt ?_) | (refine Zh ?_; refine Zs ?_) | intro _))
  all_goals exact qE (L' := []) ⟨hz1, v1, r1, rfl, hR1, hp1, rfl⟩
 ·by_cases k6 : k = 6
  ·simp only [if_neg k5, if_pos k6]
   repeat' (first | (refine ZE ?_; refine Zn (Zd rfl) rfl rfl ?_) | (refine Zj ?_; first | (refine Zf ?_; refine qQ ?_) | refine Zm ?_) | refine Za ?_ | (refine Zi ?_; refine Zt ?_) | (refine Zh ?_; refine Zs ?_) | intro _)
   refine ZC (Zq _ _ ([[(_, .cells ⟨Yx v ro⟩ 26 (0, 0))], [(_, .cells ⟨opV o⟩ 36 (0, 0))]])) (Zy (hT := tk) (Hp.le_refl _)) ?_
   all_goals (refine Yf 0 ?_; refine Yf 1 ?_; refine Yf 2 ?_; refine ZY 4 ?_; refine Yf 5 ?_)
   all_goals (refine Zp (i := 3) ?_; ((try refine Zk ?_); (first | (refine Ze (.func 40) ?_; refine qC rfl rfl (hnum) ?_; rintro v ρ' L' hle ⟨rfl, rfl, rfl⟩ <;> (try simp only [kM, kN, kO])) | (refine Zf ?_; refine qQ ?_) | (refine Zm ?_; try intro _)) <;> ((try simp only [kM, kN, kO]); refine Za ?_; refine Zl ?_)))
   all_goals (refine Zp (i := 6) ?_; ((try refine Zk ?_); (first | (refine Ze (.func 15) ?_; refine qC rfl rfl (hC) ?_; rintro v ρ' L' hle ⟨⟨hz1, v1, r1, rfl, hR1, hp1⟩, rfl⟩ <;> (try simp only [kM, kN, kO])) | (refine Zf ?_; refine qQ ?_) | (refine Zm ?_; try intro _)) <;> ((try simp only [kM, kN, kO]); refine Za ?_; refine Zl ?_)))
   all_goals (refine ZU 7 ?_; refine rEx 8 ?_; refine ZY 10 ?_)
   all_goals (refine Yo (i := 9) (j := 11) ?_ ?_ <;> ((try refine Zk ?_); (first | (refine Ze (.func 40) ?_; refine qC rfl rfl (hnum) ?_; rintro v ρ' L' hle ⟨rfl, rfl, rfl⟩ <;> (try simp only [kM, kN, kO])) | (refine Ze (.func 15) ?_; refine qC rfl rfl (hC) ?_; rintro v ρ' L' hle ⟨⟨hz1, v1, r1, rfl, hR1, hp1⟩, rfl⟩ <;> (try simp only [kM, kN, kO])) | (refine Zf ?_; refine qQ ?_) | (refine Zm ?_; try intro _)) <;> ((try simp only [kM, kN, kO]); refine Za ?_; refine Zl ?_)))
   all_goals (first | (refine Zp (i := 11) ?_; ((try refine Zk ?_); (first | (refine Zf ?_; refine qQ ?_) | (refine Zm ?_; try intro _)) <;> ((try simp only [kM, kN, kO]); refine Za ?_; refine Zl ?_))) | (refine Zp (i := 9) ?_; ((try refine Zk ?_); (first | (refine Ze (.func 40) ?_; refine qC rfl rfl (hnum) ?_; rintro v ρ' L' hle ⟨rfl, rfl, rfl⟩ <;> (try simp only [kM, kN, kO])) | (refine Ze (.func 15) ?_; refine qC rfl rfl (hC) ?_; rintro v ρ' L' hle ⟨⟨hz1, v1, r1, rfl, hR1, hp1⟩, rfl⟩ <;> (try simp only [kM, kN, kO])) | (refine Zf ?_; refine qQ ?_) | (refine Zm ?_; try intro _)) <;> ((try simp only [kM, kN, kO]); refine Za ?_; refine Zl ?_))))
   all_goals refine ZY 12 ?_
   all_goals (refine Zp (i := 13) ?_; ((try refine Zk ?_); (first | (refine Zf ?_; refine qQ ?_) | (refine Zm ?_; try intro _)) <;> ((try simp only [kM, kN, kO]); refine Za ?_; refine Zl ?_)))
   all_goals refine ZH ?_
   all_goals (repeat' (first | (refine ZE ?_; refine Zn (Zd rfl) rfl rfl ?_) | (refine Zj ?_; first | (refine Zf ?_; refine qQ ?_) | refine Zm ?_) | refine Za ?_ | (refine Zi ?_; refine Zt ?_) | (refine Zh ?_; refine Zs ?_) | intro _))
   all_goals exact qE (L' := []) ⟨hz1, v1, r1, rfl, hR1, hp1, rfl⟩
  ·simp only [if_neg k5, if_neg k6]
   repeat' (first | (refine ZE ?_; refine Zn (Zd rfl) rfl rfl ?_) | (refine Zj ?_; first | (refine Zf ?_; refine qQ ?_) | refine Zm ?_) | refine Za ?_ | (refine Zi ?_; refine Zt ?_) | (refine Zh ?_; refine Zs ?_) | intro _)
   refine ZC (Zq _ _ ([[(_, .cells ⟨Yx v ro⟩ 26 (0, 0))], [(_, .cells ⟨opV o⟩ 36 (0, 0))]])) (Zy (hT := tk) (Hp.le_refl _)) ?_
   all_goals (refine Yf 0 ?_; refine Yf 1 ?_; refine Yf 2 ?_)
   all_goals (refine Zp (i := 3) ?_; ((try refine Zk ?_); (first | (refine Ze (.func 41) ?_; refine qC rfl rfl (hrec) ?_; rintro v ρ' L' hle ⟨rfl, rfl, rfl⟩ <;> (try simp only [kM, kN, kO])) | (refine Zf ?_; refine qQ ?_) | (refine Zm ?_; try intro _)) <;> ((try simp only [kM, kN, kO]); refine Za ?_; refine Zl ?_)))
   all_goals (refine Zp (i := 4) ?_; ((try refine Zk ?_); (first | (refine Ze (.func 18) ?_; refine qC rfl rfl (hT) ?_; rintro v ρ' L' hle ⟨⟨hz1, v1, r1, rfl, hR1, hp1⟩, rfl⟩ <;> (try simp only [kM, kN, kO])) | (refine Zf ?_; refine qQ ?_) | (refine Zm ?_; try intro _)) <;> ((try simp only [kM, kN, kO]); refine Za ?_; refine Zl ?_)))
   all_goals (refine ZU 5 ?_; refine rEx 6 ?_; refine ZY 8 ?_)
   all_goals (refine Yo (i := 7) (j := 9) ?_ ?_ <;> ((try refine Zk ?_); (first | (refine Ze (.func 41) ?_; refine qC rfl rfl (hrec) ?_; rintro v ρ' L' hle ⟨rfl, rfl, rfl⟩ <;> (try simp only [kM, kN, kO])) | (refine Ze (.func 18) ?_; refine qC rfl rfl (hT) ?_; rintro v ρ' L' hle ⟨⟨hz1, v1, r1, rfl, hR1, hp1⟩, rfl⟩ <;> (try simp only [kM, kN, kO])) | (refine Zf ?_; refine qQ ?_) | (refine Zm ?_; try intro _)) <;> ((try simp only [kM, kN, kO]); refine Za ?_; refine Zl ?_)))
   all_goals (first | (refine Zp (i := 9) ?_; ((try refine Zk ?_); (first | (refine Zf ?_; refine qQ ?_) | (refine Zm ?_; try intro _)) <;> ((try simp only [kM, kN, kO]); refine Za ?_; refine Zl ?_))) | (refine Zp (i := 7) ?_; ((try refine Zk ?_); (first | (refine Ze (.func 41) ?_; refine qC rfl rfl (hrec) ?_; rintro v ρ' L' hle ⟨rfl, rfl, rfl⟩ <;> (try simp only [kM, kN, kO])) | (refine Ze (.func 18) ?_; refine qC rfl rfl (hT) ?_; rintro v ρ' L' hle ⟨⟨hz1, v1, r1, rfl, hR1, hp1⟩, rfl⟩ <;> (try simp only [kM, kN, kO])) | (refine Zf ?_; refine qQ ?_) | (refine Zm ?_; try intro _)) <;> ((try simp only [kM, kN, kO]); refine Za ?_; refine Zl ?_))))
   all_goals refine ZY 10 ?_
   all_goals (refine Zp (i := 11) ?_; ((try refine Zk ?_); (first | (refine Zf ?_; refine qQ ?_) | (refine Zm ?_; try intro _)) <;> ((try simp only [kM, kN, kO]); refine Za ?_; refine Zl ?_)))
   all_goals refine ZH ?_
   all_goals (repeat' (first | (refine ZE ?_; refine Zn (Zd rfl) rfl rfl ?_) | (refine Zj ?_; first | (refine Zf ?_; refine qQ ?_) | refine Zm ?_) | refine Za ?_ | (refine Zi ?_; refine Zt ?_) | (refine Zh ?_; refine Zs ?_) | intro _))
   all_goals exact qE (L' := []) ⟨hz1, v1, r1, rfl, hR1, hp1, rfl⟩
theorem mark_no {p : Yh} (h : RosG p) {t : TxP} (ht : t ∈ p.txns) (he : markE p t.num ≠ 0) : ¬ (t.state = 1 ∧ t.marks.length < 8) := by
 obtain ⟨i, hi, rfl⟩ := List.mem_iff_getElem.1 ht
 have hf := findT_idx h hi
 generalize p.txns[i] = t at *
 rintro ⟨h1, h2⟩
 refine he ?_
 unfold markE Xo
 rw [Yw.2 h, hf, if_pos rfl]
 show (if t.state = 1 then markF t else 2) = 0
 rw [if_pos h1]
 exact if_neg (by omega)
abbrev doneV (lp : Nat) (x : Tx) (bs : Nat) : List Value := [.int .i64 4, .int .u64 ((lp : Int) + 1), .int .i64 x.num, .int .u64 (x.last : Nat), .int .u64 (x.undo : Nat), .slice none 0 0, .slice (some ⟨bs, 0, none⟩) 1 1, .int .i64 0, .slice none 0 0, .slice none 0 0]
abbrev undoneV (lp : Nat) (x : Tx) : List Value := [.int .i64 5, .int .u64 ((lp : Int) + 1 + 1), .int .i64 x.num, .int .u64 ((lp : Int) + 1), .int .u64 (x.undo : Nat), .slice none 0 0, .slice none 0 0, .int .i64 0, .slice none 0 0, .slice none 0 0]
structure MarkC (v : SV) (ro : Ros) (x : Tx) (pa : Yh) : Prop where
 mrk : ∀ ρ2, RosIn ρ2 v ro → Spec Tryz.prog 13 [.agg ⟨Yx v ro⟩, .int .i64 x.num] ρ2 [] (fun z ρ' L' => ρ2.le ρ' ∧ ∃ (v' : SV) (ro' : Ros), z = .tuple ⟨[.agg ⟨Yx v' ro'⟩, .int .i64 ((x.mv.n : Int) + 1), .int .i64 0]⟩ ∧ RosIn ρ' v' ro' ∧ ro'.p = pa ∧ L' = [])
 wh : ∀ ρ3 v2 r2, RosIn ρ3 v2 r2 → r2.p = pa → Spec Tryz.prog 14 [.agg ⟨Yx v2 r2⟩, .int .i64 x.num, .int .i64 ((x.mv.n : Int) + 1)] ρ3 [] (fun z ρ' L' => ρ3.le ρ' ∧ z = .tuple ⟨[.int .u64 (x.undo : Nat), .int .i64 0]⟩ ∧ L' = [])
 ct : ∀ ρ3 v2 r2, RosIn ρ3 v2 r2 → r2.p = pa → Spec Tryz.prog 15 [.agg ⟨Yx v2 r2⟩, .int .i64 x.num, .int .i64 ((x.mv.n : Int) + 1)] ρ3 [] (fun z ρ' L' => ρ3.le ρ' ∧ ∃ (v' : SV) (ro' : Ros), z = .tuple ⟨[.agg ⟨Yx v' ro'⟩, .int .i64 0]⟩ ∧ RosIn ρ' v' ro' ∧ ro'.p = pa ∧ L' = [])
theorem mark_c {ρ : Hp} {v : SV} {ro : Ros} {x : Tx} (hG : RosG ro.p) (hX : Tx.In ρ x) (hxm : x.p ∈ ro.p.txns) (he : markE ro.p x.num = 0) : MarkC v ro x (ZT ro.p x.num) := by
 have hml := hX.m.len
 have hmb := hX.mb
 have hM := mark_law hG hxm he
 have hK : markK ro.p x.num = (x.mv.n : Int) + 1 := by
  have e : markK ro.p x.num = ((x.marks.length + 1 : Nat) : Int) := hM.k
  rw [e]; omega
 have hKK : (((x.p).marks.length + 1 : Nat) : Int) = (x.mv.n : Int) + 1 := by
  show ((x.marks.length + 1 : Nat) : Int) = _
  omega
 have hwe := hM.we
 have hwv := hM.wv
 have hce := hM.ce
 have hcp := hM.cp
 rw [hKK] at hwe hwv hce hcp
 refine ⟨fun ρ2 hR2 => markW ρ2 v ro hR2 x.num rfl he hK rfl, fun ρ3 v2 r2 h2 hp => ?_, fun ρ3 v2 r2 h2 hp => ?_⟩
 ·have := where_spec ρ3 v2 r2 h2 x.num ((x.mv.n : Int) + 1) ⟨by omega, by omega⟩
  rw [hp] at this
  rw [show whereE (ZT ro.p x.num) x.num ((x.mv.n : Int) + 1) = 0 from hwe, show whereV (ZT ro.p x.num) x.num ((x.mv.n : Int) + 1) = x.undo from hwv, if_pos rfl] at this
  exact this
 ·refine (cutZ_spec ρ3 v2 r2 h2 x.num ((x.mv.n : Int) + 1) ⟨by omega, by omega⟩).mono ?_
  rintro z ρ' L' _ ⟨⟨h1, v', ro', q2, q3, q4⟩, q5⟩
  rw [hp, show cutE (ZT ro.p x.num) x.num ((x.mv.n : Int) + 1) = 0 from hce] at q2
  rw [hp, show cutP (ZT ro.p x.num) x.num ((x.mv.n : Int) + 1) = ZT ro.p x.num from hcp] at q4
  exact ⟨h1, v', ro', q2, q3, q4, q5⟩
structure LedC (lp : Nat) (x : Tx) (pa pc pd : Yh) (rs : Int) : Prop where
 t1 : ∀ ρ3 v2 r2 bs, RosIn ρ3 v2 r2 → r2.p = pa → ρ3 bs = some (.cells ⟨stpV ⟨4, ⟨0, 0, 0, []⟩, 0⟩⟩ 60 (0, 0)) →
  Spec Tryz.prog 18 [.agg ⟨Yx v2 r2⟩, .agg ⟨doneV lp x bs⟩] ρ3 [] (fun z ρ' L' => ρ3.le ρ' ∧ ∃ (v' : SV) (ro' : Ros), z = .tuple ⟨[.agg ⟨Yx v' ro'⟩, .int .i64 0]⟩ ∧ RosIn ρ' v' ro' ∧ ro'.p = pc ∧ L' = [])
 t2 : ∀ ρ3 v2 r2, RosIn ρ3 v2 r2 → r2.p = pc →
  Spec Tryz.prog 18 [.agg ⟨Yx v2 r2⟩, .agg ⟨undoneV lp x⟩] ρ3 [] (fun z ρ' L' => ρ3.le ρ' ∧ ∃ (v' : SV) (ro' : Ros), z = .tuple ⟨[.agg ⟨Yx v' ro'⟩, .int .i64 0]⟩ ∧ RosIn ρ' v' ro' ∧ ro'.p = pd ∧ L' = [])
 fd : ∀ ρ3 v2 r2, RosIn ρ3 v2 r2 → r2.p = pd →
  Spec Tryz.prog 19 [.agg ⟨Yx v2 r2⟩, .int .i64 x.num] ρ3 [] (fun z ρ' L' => ρ' = ρ3 ∧ ∃ y, z = .tuple ⟨[.agg ⟨txV y⟩, .bool true]⟩ ∧ (y.undo = x.undo ∧ y.mv.n = x.mv.n + 1 ∧ y.sv.n = x.sv.n) ∧ L' = [])
 rd : ∀ ρ3 v2 r2, RosIn ρ3 v2 r2 → r2.p = pd → Spec Tryz.prog 20 [.agg ⟨Yx v2 r2⟩] ρ3 [] (fun z ρ' L' => ρ3.le ρ' ∧ z = .int .i64 rs ∧ L' = [])
 ra : ∀ ρ3 v2 r2, RosIn ρ3 v2 r2 → r2.p = pa → Spec Tryz.prog 20 [.agg ⟨Yx v2 r2⟩] ρ3 [] (fun z ρ' L' => ρ3.le ρ' ∧ z = .int .i64 rs ∧ L' = [])
theorem led_c {ρ : Hp} {ro : Ros} {x : Tx} (hG : RosG ro.p) (hX : Tx.In ρ x) (hxm : x.p ∈ ro.p.txns) (he : markE ro.p x.num = 0) (hul : x.undo < x.last) (hl9 : YH ro.p ≤ 1099511627774) :
  ∃ pc pd rs, LedC (YH ro.p) x (ZT ro.p x.num) pc pd rs := by
 have hsl := hX.s.len
 have hml := hX.m.len
 have hL := led_law hG hxm he hul hl9
 have hga := Yw.2 (mark_law hG hxm he).g
 refine ⟨YD (ZT ro.p x.num) (xM ro.p x.p), YD (YD (ZT ro.p x.num) (xM ro.p x.p)) (uM ro.p x.p), resN (ZT ro.p x.num), fun ρ3 v2 r2 bs h2 hp hb9 => ?_, fun ρ3 v2 r2 h2 hp => ?_, fun ρ3 v2 r2 h2 hp => ?_, fun ρ3 v2 r2 h2 hp => ?_, fun ρ3 v2 r2 h2 hp => ?_⟩
 ·exact takeW ρ3 v2 r2 h2 ⟨YI, ⟨some ⟨bs, 0, none⟩, 1, 1⟩, YI, YI⟩ (xM ro.p x.p) ⟨AS.nil, by simp [xM], ⟨⟨rfl, .inr ⟨bs, 0, _, _, _, rfl, hb9, Nat.le_refl _, rfl⟩, by simp⟩, by dsimp only; omega, by dsimp only; omega⟩, AS.nil, AS.nil, fun s hs => by (rw [List.mem_singleton.1 hs]; exact ⟨by decide, by decide⟩)⟩ hp hL.xe rfl
 ·exact takeW ρ3 v2 r2 h2 noRV (uM ro.p x.p) ⟨AS.nil, by simp [uM], AS.nil, AS.nil, AS.nil, by simp [uM]⟩ hp hL.ue rfl
 ·obtain ⟨o, q1, q2, q3, q4⟩ := hL.own
  refine (rfind_some ρ3 v2 r2 h2 x.num (by rw [← XA, hp]; exact hL.ok) (by rw [hp]; exact q1)).mono ?_
  rintro z ρ' L' _ ⟨g1, y, g2, g3, g4, g5⟩
  have hys := g3.s.len
  have hym := g3.m.len
  rw [← g4] at q2 q3 q4
  have q3' : y.marks.length = x.marks.length + 1 := q3
  have q4' : y.stack.length = x.stack.length := q4
  exact ⟨g1, y, g2, ⟨q2, by omega, by omega⟩, g5⟩
 ·have := reserved_spec ρ3 v2 r2 h2
  rw [if_pos (by rw [← XA, hp]; exact hL.ok), hp, show resN (YD (YD (ZT ro.p x.num) (xM ro.p x.p)) (uM ro.p x.p)) = resN (ZT ro.p x.num) from hL.res] at this
  exact this
 ·have := reserved_spec ρ3 v2 r2 h2
  rw [if_pos (by rw [← XA, hp]; exact hga), hp] at this
  exact this
end Go.Proofs.E
