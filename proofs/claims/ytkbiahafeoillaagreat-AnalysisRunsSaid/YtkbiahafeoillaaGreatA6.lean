/- Laws of analysis. Part 6 of 41. -/
import Derived.Test.YtkbiahafeoillaaGreatA5
namespace Go.Proofs.E
open Go
set_option linter.unusedVariables false
set_option linter.unusedSimpArgs false
set_option linter.unusedSectionVars false
set_option maxRecDepth 4000
set_option maxHeartbeats 1000000
attribute [local irreducible] Yl TL TC TE Spec Xb R1 Hp.le EnvLe TS TR YS Zk
theorem Ww (ρ : Hp) (n : Int) : Spec Tryz.prog 145 [.int .i64 n] ρ [] (fun v ρ' L' => v = .bool (Wv n) ∧ ρ' = ρ ∧ L' = []) := by
 refine Zd Tryz.func145 rfl rfl rfl fun u R => ?_
 simp only [Zo, List.cons_append, List.nil_append]
 repeat' (first | refine zW ?_ | (refine YL ?_; refine ZB rfl rfl (fun hb => ?_) (fun hb => ?_) <;> (try simp only [decide_eq_true_eq, decide_eq_false_iff_not, Bool.not_eq_true, Bool.not_eq_false, beq_iff_eq, bne_iff_ne, ne_eq, decide_eq_decide, Bool.not_eq_eq_eq_not, Bool.not_true, Bool.not_false, beq_eq_false_iff_ne, bne_eq_false_iff_eq, Bool.and_eq_true, Bool.or_eq_true, Bool.and_eq_false_imp, Bool.or_eq_false_iff] at hb)) | (refine ZS ?_; refine ZM rfl (fun hb => ?_) (fun hb => ?_) <;> (try simp only [decide_eq_true_eq, decide_eq_false_iff_not, Bool.not_eq_true, Bool.not_eq_false, beq_iff_eq, bne_iff_ne, ne_eq, decide_eq_decide, Bool.not_eq_eq_eq_not, Bool.not_true, Bool.not_false, beq_eq_false_iff_ne, bne_eq_false_iff_eq, Bool.and_eq_true, Bool.or_eq_true, Bool.and_eq_false_imp, Bool.or_eq_false_iff] at hb)) | intro _)
 all_goals (refine qF (L' := []) ?_; exact ⟨Ym (by simp [Wv]; (try omega)), rfl, rfl⟩)
theorem YH (ρ : Hp) (x : Im) : Spec Tryz.prog 170 [.agg ⟨imV x⟩] ρ [] (fun v ρ' L' => v = .int .i64 x.page ∧ ρ' = ρ ∧ L' = []) := by
 refine Zd Tryz.func170 rfl rfl rfl fun u R => ?_
 simp only [Zo, List.cons_append, List.nil_append]
 repeat' (first | refine zW ?_ | intro _)
 exact qE ⟨rfl, rfl, rfl⟩
abbrev XX (bx : Nat) (before : Bool) : SH := [[(bx, .cells ⟨[.bool before]⟩ 4 (0, 0))]]
theorem Wi (ρ : Hp) (bx : Nat) (before : Bool) (x : Im) (h : Im.In ρ x) : Spec Tryz.prog 171 [.agg ⟨imV x⟩, .pointer (some ⟨bx, 0, none⟩)] ρ (XX bx before) (fun v ρ' L' => v = .bool (imOk before x) ∧ ρ' = ρ ∧ L' = XX bx before) := by
 have ha := check_spec ρ x.av x.a h.a.cin
 have hb := check_spec ρ x.bv x.b h.b.cin
 refine Zd Tryz.func171 rfl rfl rfl fun u R => ?_
 simp only [Zo, List.cons_append, List.nil_append]
 unfold imOk
 cases h1 : Wv x.page
 ·repeat' (first | (refine Zc (.func 145) ?_; refine qC rfl rfl (Ww _ _) ?_; rintro v ρ' L' hle ⟨rfl, rfl, rfl⟩ <;> (try simp only [kM, kN, kO, h1])) | refine zW ?_ | intro _)
  exact qE (L' := XX bx before) ⟨rfl, rfl, rfl⟩
 ·cases h2 : YE x.a
  ·rw [h2] at ha
   repeat' (first | (refine Zc (.func 145) ?_; refine qC rfl rfl (Ww _ _) ?_; rintro v ρ' L' hle ⟨rfl, rfl, rfl⟩ <;> (try simp only [kM, kN, kO, h1])) | (refine Zc (.func 172) ?_; refine qC rfl rfl (ha) ?_; rintro v ρ' L' hle ⟨rfl, rfl, rfl⟩ <;> (try simp only [kM, kN, kO, if_false, Bool.false_eq_true])) | refine zW ?_ | intro _)
   exact qE (L' := XX bx before) ⟨rfl, rfl, rfl⟩
  ·rw [h2] at ha
   cases h3 : YE x.b
   ·rw [h3] at hb
    repeat' (first | (refine Zc (.func 145) ?_; refine qC rfl rfl (Ww _ _) ?_; rintro v ρ' L' hle ⟨rfl, rfl, rfl⟩ <;> (try simp only [kM, kN, kO, h1])) | (refine Zc (.func 172) ?_; refine qC rfl rfl (ha) ?_; rintro v ρ' L' hle ⟨rfl, rfl, rfl⟩ <;> (try simp only [kM, kN, kO, if_true])) | (refine Zc (.func 172) ?_; refine qC rfl rfl (hb) ?_; rintro v ρ' L' hle ⟨rfl, rfl, rfl⟩ <;> (try simp only [kM, kN, kO, if_false, Bool.false_eq_true])) | refine zW ?_ | intro _)
    exact qE (L' := XX bx before) ⟨rfl, rfl, rfl⟩
   ·rw [h3] at hb
    cases before
    ·by_cases h4 : x.b.kind = 0
     ·rw [decide_eq_true h4]
      repeat' (first | (refine Zc (.func 145) ?_; refine qC rfl rfl (Ww _ _) ?_; rintro v ρ' L' hle ⟨rfl, rfl, rfl⟩ <;> (try simp only [kM, kN, kO, h1])) | (refine Zc (.func 172) ?_; refine qC rfl rfl (ha) ?_; rintro v ρ' L' hle ⟨rfl, rfl, rfl⟩ <;> (try simp only [kM, kN, kO, if_true])) | (refine Zc (.func 172) ?_; refine qC rfl rfl (hb) ?_; rintro v ρ' L' hle ⟨rfl, rfl, rfl⟩ <;> (try simp only [kM, kN, kO, if_true])) | refine zW ?_ | intro _)
      exact qE (L' := XX bx false) ⟨rfl, rfl, rfl⟩
     ·rw [decide_eq_false h4]
      repeat' (first | (refine Zc (.func 145) ?_; refine qC rfl rfl (Ww _ _) ?_; rintro v ρ' L' hle ⟨rfl, rfl, rfl⟩ <;> (try simp only [kM, kN, kO, h1])) | (refine Zc (.func 172) ?_; refine qC rfl rfl (ha) ?_; rintro v ρ' L' hle ⟨rfl, rfl, rfl⟩ <;> (try simp only [kM, kN, kO, if_true])) | (refine Zc (.func 172) ?_; refine qC rfl rfl (hb) ?_; rintro v ρ' L' hle ⟨rfl, rfl, rfl⟩ <;> (try simp only [kM, kN, kO, if_true])) | refine zW ?_ | intro _)
      exact qE (L' := XX bx false) ⟨rfl, rfl, rfl⟩
    ·repeat' (first | (refine Zc (.func 145) ?_; refine qC rfl rfl (Ww _ _) ?_; rintro v ρ' L' hle ⟨rfl, rfl, rfl⟩ <;> (try simp only [kM, kN, kO, h1])) | (refine Zc (.func 172) ?_; refine qC rfl rfl (ha) ?_; rintro v ρ' L' hle ⟨rfl, rfl, rfl⟩ <;> (try simp only [kM, kN, kO, if_true])) | (refine Zc (.func 172) ?_; refine qC rfl rfl (hb) ?_; rintro v ρ' L' hle ⟨rfl, rfl, rfl⟩ <;> (try simp only [kM, kN, kO, if_true])) | refine zW ?_ | intro _)
     exact qE (L' := XX bx true) ⟨rfl, rfl, rfl⟩
theorem Xi (ρ : Hp) (x : CkT) : Spec Tryz.prog 140 [.agg ⟨XU x⟩] ρ [] (fun v ρ' L' => v = .int .i64 x.txn ∧ ρ' = ρ ∧ L' = []) := by
 refine Zd Tryz.func140 rfl rfl rfl fun u R => ?_
 simp only [Zo, List.cons_append, List.nil_append]
 repeat' (first | refine zW ?_ | intro _)
 exact qE ⟨rfl, rfl, rfl⟩
theorem Xj (ρ : Hp) (x : Yq) : Spec Tryz.prog 143 [.agg ⟨YG x⟩] ρ [] (fun v ρ' L' => v = .int .i64 x.page ∧ ρ' = ρ ∧ L' = []) := by
 refine Zd Tryz.func143 rfl rfl rfl fun u R => ?_
 simp only [Zo, List.cons_append, List.nil_append]
 repeat' (first | refine zW ?_ | intro _)
 exact qE ⟨rfl, rfl, rfl⟩
abbrev XO (ab : Nat) (v : RV) (r : Rc) : List (Nat × Obj) := [(ab, .cells ⟨Yx v r⟩ 155 (0, 0))]
abbrev nextC (nb : Nat) (next : Int) : List (Nat × Obj) := [(nb, .cells ⟨[.int .i64 next]⟩ 3 (0, 0))]
abbrev ptrC (pb ab : Nat) : List (Nat × Obj) := [(pb, .cells ⟨[.pointer (some ⟨ab, 0, none⟩)]⟩ 153 (0, 0))]
theorem ckpt2_spec (ρ : Hp) (nb pb ab : Nat) (next : Int) (v : RV) (r : Rc) (x : CkT) : Spec Tryz.prog 141 [.agg ⟨XU x⟩, .pointer (some ⟨nb, 0, none⟩), .pointer (some ⟨pb, 0, none⟩)] ρ [nextC nb next, ptrC pb ab, XO ab v r]
  (fun z ρ' L' => z = .bool (ckTOk r.lsn next x) ∧ ρ' = ρ ∧ L' = [nextC nb next, ptrC pb ab, XO ab v r]) := by
 refine Zd Tryz.func141 rfl rfl rfl fun u R => ?_
 simp only [Zo, List.cons_append, List.nil_append]
 repeat' (first | refine zW ?_ | intro _)
 refine Zu (Zk _ _ _) Zp ?_
 all_goals (refine ZN 0 ?_; refine Zz ?_; refine ZQ 1 ?_; refine rCm 2 ?_; refine Zx 3 ?_)
 all_goals (first | refine Zb 4 ?_ | refine Za 4 ?_ | refine ZE 4 ?_ | (refine Zn (t := 8) rfl (fun hb => ?_) (fun hb => ?_) <;> (try simp only [kk] at hb) <;> first | refine Zb 4 ?_ | refine Za 4 ?_ | refine ZE 4 ?_))
 all_goals ((first | refine Zb 5 ?_ | refine Za 5 ?_ | refine ZL 5 ?_); (first | refine Zb 6 ?_ | refine Za 6 ?_ | refine ZL 6 ?_); (first | refine Zb 7 ?_ | refine Za 7 ?_ | refine Yg 7 ?_); refine Yj 8 ?_; refine Zx 9 ?_)
 all_goals (first | refine Zb 10 ?_ | refine Za 10 ?_ | refine ZE 10 ?_ | (refine Zn (t := 14) rfl (fun hb => ?_) (fun hb => ?_) <;> (try simp only [kk] at hb) <;> first | refine Zb 10 ?_ | refine Za 10 ?_ | refine ZE 10 ?_))
 all_goals ((first | refine Zb 11 ?_ | refine Za 11 ?_ | refine ZL 11 ?_); (first | refine Zb 12 ?_ | refine Za 12 ?_ | refine Yg 12 ?_); refine Yj 13 ?_; refine Zx 14 ?_)
 all_goals (first | refine Zb 15 ?_ | refine Za 15 ?_ | refine ZE 15 ?_ | (refine Zn (t := 19) rfl (fun hb => ?_) (fun hb => ?_) <;> (try simp only [kk] at hb) <;> first | refine Zb 15 ?_ | refine Za 15 ?_ | refine ZE 15 ?_))
 all_goals ((first | refine Zb 16 ?_ | refine Za 16 ?_ | refine ZL 16 ?_); (first | refine Zb 17 ?_ | refine Za 17 ?_ | refine ZE 17 ?_); (first | refine Zb 18 ?_ | refine Za 18 ?_ | refine ZL 18 ?_); (first | refine Zb 19 ?_ | refine Za 19 ?_ | refine Yg 19 ?_); refine Yj 20 ?_; refine Zx 21 ?_)
 all_goals (first | refine Zb 22 ?_ | refine Za 22 ?_ | refine ZE 22 ?_ | (refine Zn (t := 26) rfl (fun hb => ?_) (fun hb => ?_) <;> (try simp only [kk] at hb) <;> first | refine Zb 22 ?_ | refine Za 22 ?_ | refine ZE 22 ?_))
 all_goals ((first | refine Zb 23 ?_ | refine Za 23 ?_ | refine ZL 23 ?_); (first | refine Zb 24 ?_ | refine Za 24 ?_ | refine ZL 24 ?_); (first | refine Zb 25 ?_ | refine Za 25 ?_ | refine wNc 25 ?_); (first | refine Zb 26 ?_ | refine Za 26 ?_ | refine ZE 26 ?_); (first | refine Zb 27 ?_ | refine Za 27 ?_ | refine ZE 27 ?_); (first | refine Zb 28 ?_ | refine Za 28 ?_ | refine ZL 28 ?_); (first | refine Zb 29 ?_ | refine Za 29 ?_ | refine Yg 29 ?_); refine Yj 30 ?_; refine Zx 31 ?_)
 all_goals (first | refine Zb 32 ?_ | refine Za 32 ?_ | refine ZE 32 ?_ | (refine Zn (t := 36) rfl (fun hb => ?_) (fun hb => ?_) <;> (try simp only [kk] at hb) <;> first | refine Zb 32 ?_ | refine Za 32 ?_ | refine ZE 32 ?_))
 all_goals ((first | refine Zb 33 ?_ | refine Za 33 ?_ | refine ZL 33 ?_); (first | refine Zb 34 ?_ | refine Za 34 ?_ | refine ZE 34 ?_); (first | refine Zb 35 ?_ | refine Za 35 ?_ | refine ZL 35 ?_); (first | refine Zb 36 ?_ | refine Za 36 ?_ | refine Yg 36 ?_); refine Yj 37 ?_; refine Zx 38 ?_)
 all_goals (first | refine Zb 39 ?_ | refine Za 39 ?_ | refine ZE 39 ?_ | (refine Zn (t := 43) rfl (fun hb => ?_) (fun hb => ?_) <;> (try simp only [kk] at hb) <;> first | refine Zb 39 ?_ | refine Za 39 ?_ | refine ZE 39 ?_))
 all_goals ((first | refine Zb 40 ?_ | refine Za 40 ?_ | refine ZL 40 ?_); (first | refine Zb 41 ?_ | refine Za 41 ?_ | refine Yg 41 ?_); refine Yj 42 ?_; refine Zx 43 ?_)
 all_goals (first | refine Zb 44 ?_ | refine Za 44 ?_ | refine ZE 44 ?_ | (refine Zn (t := 48) rfl (fun hb => ?_) (fun hb => ?_) <;> (try simp only [kk] at hb) <;> first | refine Zb 44 ?_ | refine Za 44 ?_ | refine ZE 44 ?_))
 all_goals ((first | refine Zb 45 ?_ | refine Za 45 ?_ | refine ZL 45 ?_); (first | refine Zb 46 ?_ | refine Za 46 ?_ | refine Yg 46 ?_); refine Yj 47 ?_; refine rAs 48 ?_; refine Zv ?_)
 all_goals (repeat' (first | refine zW ?_ | intro _))
 all_goals (refine qF (L' := [nextC nb next, ptrC pb ab, XO ab v r]) ?_; exact ⟨Ym (by simp [ckTOk]; (try omega)), rfl, rfl⟩)
theorem ckpt4_spec (ρ : Hp) (pb ab : Nat) (v : RV) (r : Rc) (x : Yq) : Spec Tryz.prog 144 [.agg ⟨YG x⟩, .pointer (some ⟨pb, 0, none⟩)] ρ [ptrC pb ab, XO ab v r]
  (fun z ρ' L' => z = .bool (ckPOk r.lsn x) ∧ ρ' = ρ ∧ L' = [ptrC pb ab, XO ab v r]) := by
 refine Zd Tryz.func144 rfl rfl rfl fun u R => ?_
 simp only [Zo, List.cons_append, List.nil_append]
 repeat' (first | refine zW ?_ | intro _)
 refine Zu (Zk _ _ _) Zp ?_
 all_goals (refine ZN 0 ?_; refine ZQ 1 ?_)
 all_goals (refine Zj (i := 2) ?_; ((try refine Zh ?_); (first | (refine Zc (.func 145) ?_; refine qC rfl rfl (Ww _ _) ?_; rintro v ρ' L' hle ⟨rfl, rfl, rfl⟩ <;> (try simp only [kM, kN, kO])) | (refine ZF ?_; try intro _)) <;> ((try simp only [kM, kN, kO]); refine Zf ?_; refine Zi ?_)))
 all_goals (refine Zz ?_; refine Zx 3 ?_)
 all_goals (first | refine Zb 4 ?_ | refine Za 4 ?_ | refine ZE 4 ?_ | (refine Zn (t := 7) rfl (fun hb => ?_) (fun hb => ?_) <;> (try simp only [kk] at hb) <;> first | refine Zb 4 ?_ | refine Za 4 ?_ | refine ZE 4 ?_))
 all_goals ((first | refine Zb 5 ?_ | refine Za 5 ?_ | refine ZL 5 ?_); (first | refine Zb 6 ?_ | refine Za 6 ?_ | refine Yg 6 ?_); refine Yj 7 ?_; refine Zx 8 ?_)
 all_goals (first | refine Zb 9 ?_ | refine Za 9 ?_ | refine ZE 9 ?_ | (refine Zn (t := 12) rfl (fun hb => ?_) (fun hb => ?_) <;> (try simp only [kk] at hb) <;> first | refine Zb 9 ?_ | refine Za 9 ?_ | refine ZE 9 ?_))
 all_goals ((first | refine Zb 10 ?_ | refine Za 10 ?_ | refine ZL 10 ?_); (first | refine Zb 11 ?_ | refine Za 11 ?_ | refine ZL 11 ?_); (first | refine Zb 12 ?_ | refine Za 12 ?_ | refine wNc 12 ?_); (first | refine Zb 13 ?_ | refine Za 13 ?_ | refine ZE 13 ?_); (first | refine Zb 14 ?_ | refine Za 14 ?_ | refine ZE 14 ?_); (first | refine Zb 15 ?_ | refine Za 15 ?_ | refine ZL 15 ?_); (first | refine Zb 16 ?_ | refine Za 16 ?_ | refine Yg 16 ?_); refine Yj 17 ?_; refine rAs 18 ?_; refine Zv ?_)
 all_goals (repeat' (first | refine zW ?_ | intro _))
 all_goals (refine qF (L' := [ptrC pb ab, XO ab v r]) ?_; exact ⟨Ym (by simp [ckPOk, *]; (try omega)), rfl, rfl⟩)
theorem risesIm_spec (ρ : Hp) (a : Option Addr) (n c : Nat) (l : List Im) (h : AIn ρ 7 imV a n l) (hn : n ≤ 1000000) (bx : Nat) (before : Bool) (him : ∀ x ∈ l, Im.In ρ x) :
  Spec Tryz.prog 169 [.slice a n c, .func (.func 170) ⟨[]⟩ ⟨[]⟩, .func (.func 171) ⟨[]⟩ ⟨[.pointer (some ⟨bx, 0, none⟩)]⟩] ρ (XX bx before) (fun z ρ' L' => z = .bool (upB (imOk before) Im.page l l.length) ∧ ρ' = ρ ∧ L' = (XX bx before)) := by
 have hl := h.len
 generalize hR : (imOk before) = rt
 unfold upB
 generalize hm : l.length = mo
 have hrt : ∀ x, rt x = (imOk before) x := fun x => by rw [hR]
 refine Zd Tryz.func169 rfl rfl rfl fun u R => ?_
 simp only [Zo, List.cons_append, List.nil_append]
 repeat' (first | refine zW ?_ | intro _)
 refine Zq [(0, _), (1, _), (2, _), (9, _), (10, _)] (fun (ζ : (Nat)) => [(11, .int .i64 ζ), (6, .bool false)]) (fun (ζ : (Nat)) => ρ) (fun (ζ : (Nat)) => (XX bx before)) (fun (ζ : (Nat)) => ζ ≤ n ∧ ZC mo (fun _ x => rt x) (fun y x => decide (Im.page y < Im.page x)) l ζ = true) (fun (ζ : (Nat)) => n - ζ) (0) (⟨Nat.zero_le _, by rw [ZC]; simp [hm]⟩) Ze Ze rfl tk ?_
 rintro k hI
 try simp only [List.cons_append, List.nil_append, List.append_assoc, List.append_eq] at hI ⊢
 try dsimp only at hI ⊢
 obtain ⟨hk, hok⟩ := hI
 by_cases hlt : k < n
 ·obtain ⟨b, off, C, T, fr, e1, hb0, hfit, hc⟩ := h.get (show k < l.length by omega)
  have hs := YK (most := mo) (right := fun _ x => rt x) (lt := fun y x => decide (Im.page y < Im.page x)) (show k < l.length by omega)
  have hfin0 := fun (e : ZC mo (fun _ x => rt x) (fun y x => decide (Im.page y < Im.page x)) l (k + 1) = false) => YF e (show k + 1 ≤ mo by omega)
  rw [hok, Bool.true_and] at hs
  have him1 := him _ (List.getElem_mem (show k < l.length by omega))
  have hw := hrt l[k]
  have hfin : (rt l[k] && (decide (k = 0) || decide (Im.page (l[k - 1]'(by omega)) < Im.page l[k]))) = false → ZC mo (fun _ x => rt x) (fun y x => decide (Im.page y < Im.page x)) l mo = false := fun e => hfin0 (by rw [hs]; exact e)
  rw [e1]
  by_cases hk0 : k = 0
  ·rw [decide_eq_true hk0, Bool.true_or, Bool.and_true] at hs hfin
   generalize l[k] = x at *
   generalize hQQ : ZC mo (fun _ x => rt x) (fun y x => decide (Im.page y < Im.page x)) l mo = q at *
   clear hfin0 hrt hR
   repeat' (first | refine zW ?_ | intro _)
   refine Zu (Zk _ _ _) Zp ?_
   all_goals (refine Zx 0 ?_; refine ZQ 1 ?_)
   all_goals (refine Zj (i := 2) ?_; ((try refine Zh ?_); (first | (refine Zc (.tmp 16) ?_; refine qC rfl rfl (Wi _ bx before _ him1) ?_; rintro v ρ' L' hle ⟨rfl, rfl, rfl⟩ <;> (try simp only [kM, kN, kO])) | (refine Zc (.tmp 24) ?_; refine qC rfl rfl (YH _ _) ?_; rintro v ρ' L' hle ⟨rfl, rfl, rfl⟩ <;> (try simp only [kM, kN, kO])) | (refine Zc (.tmp 31) ?_; refine qC rfl rfl (YH _ _) ?_; rintro v ρ' L' hle ⟨rfl, rfl, rfl⟩ <;> (try simp only [kM, kN, kO])) | (refine ZF ?_; try intro _)) <;> ((try simp only [kM, kN, kO]); refine Zf ?_; refine Zi ?_)))
   all_goals (refine rUn 3 ?_; refine Zx 4 ?_)
   all_goals (first | refine Zb 5 ?_ | refine Za 5 ?_ | refine ZI 5 ?_ | (refine Zn (t := 20) rfl (fun hb => ?_) (fun hb => ?_) <;> (try simp only [kk] at hb) <;> first | refine Zb 5 ?_ | refine Za 5 ?_ | refine ZI 5 ?_))
   all_goals ((first | refine Zb 6 ?_ | refine Za 6 ?_ | refine Yg 6 ?_); (first | refine Zb 7 ?_ | refine Za 7 ?_ | refine ZI 7 ?_))
   all_goals (first | refine Zb 8 ?_ | refine Za 8 ?_ | refine ZI 8 ?_ | (refine Zn (t := 23) rfl (fun hb => ?_) (fun hb => ?_) <;> (try simp only [kk] at hb) <;> first | refine Zb 8 ?_ | refine Za 8 ?_ | refine ZI 8 ?_))
   all_goals ((first | refine Zb 9 ?_ | refine Za 9 ?_ | refine ZI 9 ?_); (first | refine Zb 10 ?_ | refine Za 10 ?_ | refine ZI 10 ?_); (first | refine Zb 11 ?_ | refine Za 11 ?_ | refine wSb 11 ?_); (first | refine Zb 12 ?_ | refine Za 12 ?_ | refine wIa 12 ?_); (first | refine Zb 13 ?_ | refine Za 13 ?_ | refine ZL 13 ?_); (first | refine Zb 15 ?_ | refine Za 15 ?_ | refine ZI 15 ?_); (first | refine Zb 16 ?_ | refine Za 16 ?_ | refine ZL 16 ?_))
   all_goals (first | refine Zb 14 ?_ | refine Za 14 ?_ | (refine Zj (i := 14) ?_; ((try refine Zh ?_); (first | (refine Zc (.tmp 16) ?_; refine qC rfl rfl (Wi _ bx before _ him1) ?_; rintro v ρ' L' hle ⟨rfl, rfl, rfl⟩ <;> (try simp only [kM, kN, kO])) | (refine Zc (.tmp 24) ?_; refine qC rfl rfl (YH _ _) ?_; rintro v ρ' L' hle ⟨rfl, rfl, rfl⟩ <;> (try simp only [kM, kN, kO])) | (refine Zc (.tmp 31) ?_; refine qC rfl rfl (YH _ _) ?_; rintro v ρ' L' hle ⟨rfl, rfl, rfl⟩ <;> (try simp only [kM, kN, kO])) | (refine ZF ?_; try intro _)) <;> ((try simp only [kM, kN, kO]); refine Zf ?_; refine Zi ?_))))
   all_goals (first | refine Zb 17 ?_ | refine Za 17 ?_ | (refine Zj (i := 17) ?_; ((try refine Zh ?_); (first | (refine Zc (.tmp 16) ?_; refine qC rfl rfl (Wi _ bx before _ him1) ?_; rintro v ρ' L' hle ⟨rfl, rfl, rfl⟩ <;> (try simp only [kM, kN, kO])) | (refine Zc (.tmp 24) ?_; refine qC rfl rfl (YH _ _) ?_; rintro v ρ' L' hle ⟨rfl, rfl, rfl⟩ <;> (try simp only [kM, kN, kO])) | (refine Zc (.tmp 31) ?_; refine qC rfl rfl (YH _ _) ?_; rintro v ρ' L' hle ⟨rfl, rfl, rfl⟩ <;> (try simp only [kM, kN, kO])) | (refine ZF ?_; try intro _)) <;> ((try simp only [kM, kN, kO]); refine Zf ?_; refine Zi ?_))))
   all_goals (refine Zz ?_; (first | refine Zb 18 ?_ | refine Za 18 ?_ | refine Yg 18 ?_); (first | refine Zb 19 ?_ | refine Za 19 ?_ | refine wPk 19 ?_); refine Yj 20 ?_; refine Zv ?_)
   all_goals (repeat' (first | refine zW ?_ | (refine YL ?_; refine ZB rfl rfl (fun hb => ?_) (fun hb => ?_) <;> (try simp only [decide_eq_true_eq, decide_eq_false_iff_not, Bool.not_eq_true, Bool.not_eq_false, beq_iff_eq, bne_iff_ne, ne_eq, decide_eq_decide, Bool.not_eq_eq_eq_not, Bool.not_true, Bool.not_false, beq_eq_false_iff_ne, bne_eq_false_iff_eq, Bool.and_eq_true, Bool.or_eq_true, Bool.and_eq_false_imp, Bool.or_eq_false_iff] at hb)) | (refine ZS ?_; refine ZM rfl (fun hb => ?_) (fun hb => ?_) <;> (try simp only [decide_eq_true_eq, decide_eq_false_iff_not, Bool.not_eq_true, Bool.not_eq_false, beq_iff_eq, bne_iff_ne, ne_eq, decide_eq_decide, Bool.not_eq_eq_eq_not, Bool.not_true, Bool.not_false, beq_eq_false_iff_ne, bne_eq_false_iff_eq, Bool.and_eq_true, Bool.or_eq_true, Bool.and_eq_false_imp, Bool.or_eq_false_iff] at hb)) | intro _))
   all_goals (try (rw [hfin (by rw [hw]; (first | (simp [*]; done) | (simp [*]; omega) | (simp_all; done) | (simp_all; omega)))]; refine qF (L' := (XX bx before)) ?_; exact ⟨rfl, rfl, rfl⟩))
   all_goals rw [← e1]
   all_goals refine Zg (k + 1) (⟨hlt, by rw [hs, hw]; (first | (simp [*]; done) | (simp [*]; omega) | (simp_all; done) | (simp_all; omega))⟩) Ze Ze rfl tk inferInstance (by first | omega | (dsimp only; omega))
  ·obtain ⟨b2, off2, C2, T2, fr2, f1, hb2, hfit2, hc2⟩ := h.get (show k - 1 < l.length by omega)
   rw [e1] at f1
   cases f1
   rw [hb0] at hb2
   cases hb2
   have ek : ((k : Int) - 1).toNat = k - 1 := by omega
   rw [← ek] at hfit2
   have hc3 : List.take 7 (List.drop (off + ((k : Int) - 1).toNat * 7) C) = imV (l[k - 1]'(by omega)) := by rw [ek]; exact hc2
   clear hc2
   rw [decide_eq_false hk0, Bool.false_or] at hs hfin
   generalize l[k] = x at *
   generalize l[k - 1]'(by omega) = y at *
   generalize hQQ : ZC mo (fun _ x => rt x) (fun y x => decide (Im.page y < Im.page x)) l mo = q at *
   clear hfin0 hrt hR
   repeat' (first | refine zW ?_ | intro _)
   refine Zu (Zk _ _ _) Zp ?_
   all_goals (refine Zx 0 ?_; refine ZQ 1 ?_)
   all_goals (refine Zj (i := 2) ?_; ((try refine Zh ?_); (first | (refine Zc (.tmp 16) ?_; refine qC rfl rfl (Wi _ bx before _ him1) ?_; rintro v ρ' L' hle ⟨rfl, rfl, rfl⟩ <;> (try simp only [kM, kN, kO])) | (refine Zc (.tmp 24) ?_; refine qC rfl rfl (YH _ _) ?_; rintro v ρ' L' hle ⟨rfl, rfl, rfl⟩ <;> (try simp only [kM, kN, kO])) | (refine Zc (.tmp 31) ?_; refine qC rfl rfl (YH _ _) ?_; rintro v ρ' L' hle ⟨rfl, rfl, rfl⟩ <;> (try simp only [kM, kN, kO])) | (refine ZF ?_; try intro _)) <;> ((try simp only [kM, kN, kO]); refine Zf ?_; refine Zi ?_)))
   all_goals (refine rUn 3 ?_; refine Zx 4 ?_)
   all_goals (first | refine Zb 5 ?_ | refine Za 5 ?_ | refine ZI 5 ?_ | (refine Zn (t := 20) rfl (fun hb => ?_) (fun hb => ?_) <;> (try simp only [kk] at hb) <;> first | refine Zb 5 ?_ | refine Za 5 ?_ | refine ZI 5 ?_))
   all_goals ((first | refine Zb 6 ?_ | refine Za 6 ?_ | refine Yg 6 ?_); (first | refine Zb 7 ?_ | refine Za 7 ?_ | refine ZI 7 ?_))
   all_goals (first | refine Zb 8 ?_ | refine Za 8 ?_ | refine ZI 8 ?_ | (refine Zn (t := 23) rfl (fun hb => ?_) (fun hb => ?_) <;> (try simp only [kk] at hb) <;> first | refine Zb 8 ?_ | refine Za 8 ?_ | refine ZI 8 ?_))
   all_goals ((first | refine Zb 9 ?_ | refine Za 9 ?_ | refine ZI 9 ?_); (first | refine Zb 10 ?_ | refine Za 10 ?_ | refine ZI 10 ?_); (first | refine Zb 11 ?_ | refine Za 11 ?_ | refine wSb 11 ?_); (first | refine Zb 12 ?_ | refine Za 12 ?_ | refine wIa 12 ?_); (first | refine Zb 13 ?_ | refine Za 13 ?_ | refine ZL 13 ?_); (first | refine Zb 15 ?_ | refine Za 15 ?_ | refine ZI 15 ?_); (first | refine Zb 16 ?_ | refine Za 16 ?_ | refine ZL 16 ?_))
   all_goals (first | refine Zb 14 ?_ | refine Za 14 ?_ | (refine Zj (i := 14) ?_; ((try refine Zh ?_); (first | (refine Zc (.tmp 16) ?_; refine qC rfl rfl (Wi _ bx before _ him1) ?_; rintro v ρ' L' hle ⟨rfl, rfl, rfl⟩ <;> (try simp only [kM, kN, kO])) | (refine Zc (.tmp 24) ?_; refine qC rfl rfl (YH _ _) ?_; rintro v ρ' L' hle ⟨rfl, rfl, rfl⟩ <;> (try simp only [kM, kN, kO])) | (refine Zc (.tmp 31) ?_; refine qC rfl rfl (YH _ _) ?_; rintro v ρ' L' hle ⟨rfl, rfl, rfl⟩ <;> (try simp only [kM, kN, kO])) | (refine ZF ?_; try intro _)) <;> ((try simp only [kM, kN, kO]); refine Zf ?_; refine Zi ?_))))
   all_goals (first | refine Zb 17 ?_ | refine Za 17 ?_ | (refine Zj (i := 17) ?_; ((try refine Zh ?_); (first | (refine Zc (.tmp 16) ?_; refine qC rfl rfl (Wi _ bx before _ him1) ?_; rintro v ρ' L' hle ⟨rfl, rfl, rfl⟩ <;> (try simp only [kM, kN, kO])) | (refine Zc (.tmp 24) ?_; refine qC rfl rfl (YH _ _) ?_; rintro v ρ' L' hle ⟨rfl, rfl, rfl⟩ <;> (try simp only [kM, kN, kO])) | (refine Zc (.tmp 31) ?_; refine qC rfl rfl (YH _ _) ?_; rintro v ρ' L' hle ⟨rfl, rfl, rfl⟩ <;> (try simp only [kM, kN, kO])) | (refine ZF ?_; try intro _)) <;> ((try simp only [kM, kN, kO]); refine Zf ?_; refine Zi ?_))))
   all_goals (refine Zz ?_; (first | refine Zb 18 ?_ | refine Za 18 ?_ | refine Yg 18 ?_); (first | refine Zb 19 ?_ | refine Za 19 ?_ | refine wPk 19 ?_); refine Yj 20 ?_; refine Zv ?_)
   all_goals (repeat' (first | refine zW ?_ | (refine YL ?_; refine ZB rfl rfl (fun hb => ?_) (fun hb => ?_) <;> (try simp only [decide_eq_true_eq, decide_eq_false_iff_not, Bool.not_eq_true, Bool.not_eq_false, beq_iff_eq, bne_iff_ne, ne_eq, decide_eq_decide, Bool.not_eq_eq_eq_not, Bool.not_true, Bool.not_false, beq_eq_false_iff_ne, bne_eq_false_iff_eq, Bool.and_eq_true, Bool.or_eq_true, Bool.and_eq_false_imp, Bool.or_eq_false_iff] at hb)) | (refine ZS ?_; refine ZM rfl (fun hb => ?_) (fun hb => ?_) <;> (try simp only [decide_eq_true_eq, decide_eq_false_iff_not, Bool.not_eq_true, Bool.not_eq_false, beq_iff_eq, bne_iff_ne, ne_eq, decide_eq_decide, Bool.not_eq_eq_eq_not, Bool.not_true, Bool.not_false, beq_eq_false_iff_ne, bne_eq_false_iff_eq, Bool.and_eq_true, Bool.or_eq_true, Bool.and_eq_false_imp, Bool.or_eq_false_iff] at hb)) | intro _))
   all_goals (try (rw [hfin (by rw [hw]; (first | (simp [*]; done) | (simp [*]; omega) | (simp_all; done) | (simp_all; omega)))]; refine qF (L' := (XX bx before)) ?_; exact ⟨rfl, rfl, rfl⟩))
   all_goals rw [← e1]
   all_goals refine Zg (k + 1) (⟨hlt, by rw [hs, hw]; (first | (simp [*]; done) | (simp [*]; omega) | (simp_all; done) | (simp_all; omega))⟩) Ze Ze rfl tk inferInstance (by first | omega | (dsimp only; omega))
 ·have hk2 : k = n := by omega
  subst hk2
  have hkm : k = mo := by omega
  rw [hkm] at hok
  rw [hok]
  repeat' (first | refine zW ?_ | intro _)
  exact qE (L' := (XX bx before)) ⟨rfl, rfl, rfl⟩
theorem risesCkT_spec (ρ : Hp) (a : Option Addr) (n c : Nat) (l : List CkT) (h : AIn ρ 5 XU a n l) (hn : n ≤ 1000000) (nb pb ab : Nat) (next : Int) (v : RV) (r : Rc)  :
  Spec Tryz.prog 139 [.slice a n c, .func (.func 140) ⟨[]⟩ ⟨[]⟩, .func (.func 141) ⟨[]⟩ ⟨[.pointer (some ⟨nb, 0, none⟩), .pointer (some ⟨pb, 0, none⟩)]⟩] ρ [nextC nb next, ptrC pb ab, XO ab v r] (fun z ρ' L' => z = .bool (upB (ckTOk r.lsn next) CkT.txn l l.length) ∧ ρ' = ρ ∧ L' = [nextC nb next, ptrC pb ab, XO ab v r]) := by
 have hl := h.len
 generalize hR : (ckTOk r.lsn next) = rt
 unfold upB
 generalize hm : l.length = mo
 have hrt : ∀ x, rt x = (ckTOk r.lsn next) x := fun x => by rw [hR]
 refine Zd Tryz.func139 rfl rfl rfl fun u R => ?_
 simp only [Zo, List.cons_append, List.nil_append]
 repeat' (first | refine zW ?_ | intro _)
 refine Zq [(0, _), (1, _), (2, _), (9, _), (10, _)] (fun (ζ : (Nat)) => [(11, .int .i64 ζ), (6, .bool false)]) (fun (ζ : (Nat)) => ρ) (fun (ζ : (Nat)) => [nextC nb next, ptrC pb ab, XO ab v r]) (fun (ζ : (Nat)) => ζ ≤ n ∧ ZC mo (fun _ x => rt x) (fun y x => decide (CkT.txn y < CkT.txn x)) l ζ = true) (fun (ζ : (Nat)) => n - ζ) (0) (⟨Nat.zero_le _, by rw [ZC]; simp [hm]⟩) Ze Ze rfl tk ?_
 rintro k hI
 try simp only [List.cons_append, List.nil_append, List.append_assoc, List.append_eq] at hI ⊢
 try dsimp only at hI ⊢
 obtain ⟨hk, hok⟩ := hI
 by_cases hlt : k < n
 ·obtain ⟨b, off, C, T, fr, e1, hb0, hfit, hc⟩ := h.get (show k < l.length by omega)
  have hs := YK (most := mo) (right := fun _ x => rt x) (lt := fun y x => decide (CkT.txn y < CkT.txn x)) (show k < l.length by omega)
  have hfin0 := fun (e : ZC mo (fun _ x => rt x) (fun y x => decide (CkT.txn y < CkT.txn x)) l (k + 1) = false) => YF e (show k + 1 ≤ mo by omega)
  rw [hok, Bool.true_and] at hs
  skip
  have hw := hrt l[k]
  have hfin : (rt l[k] && (decide (k = 0) || decide (CkT.txn (l[k - 1]'(by omega)) < CkT.txn l[k]))) = false → ZC mo (fun _ x => rt x) (fun y x => decide (CkT.txn y < CkT.txn x)) l mo = false := fun e => hfin0 (by rw [hs]; exact e)
  rw [e1]
  by_cases hk0 : k = 0
  ·rw [decide_eq_true hk0, Bool.true_or, Bool.and_true] at hs hfin
   generalize l[k] = x at *
   generalize hQQ : ZC mo (fun _ x => rt x) (fun y x => decide (CkT.txn y < CkT.txn x)) l mo = q at *
   clear hfin0 hrt hR
   repeat' (first | refine zW ?_ | intro _)
   refine Zu (Zk _ _ _) Zp ?_
   all_goals (refine Zx 0 ?_; refine ZQ 1 ?_)
   all_goals (refine Zj (i := 2) ?_; ((try refine Zh ?_); (first | (refine Zc (.tmp 16) ?_; refine qC rfl rfl (ckpt2_spec _ nb pb ab next v r _) ?_; rintro v ρ' L' hle ⟨rfl, rfl, rfl⟩ <;> (try simp only [kM, kN, kO])) | (refine Zc (.tmp 24) ?_; refine qC rfl rfl (Xi _ _) ?_; rintro v ρ' L' hle ⟨rfl, rfl, rfl⟩ <;> (try simp only [kM, kN, kO])) | (refine Zc (.tmp 31) ?_; refine qC rfl rfl (Xi _ _) ?_; rintro v ρ' L' hle ⟨rfl, rfl, rfl⟩ <;> (try simp only [kM, kN, kO])) | (refine ZF ?_; try intro _)) <;> ((try simp only [kM, kN, kO]); refine Zf ?_; refine Zi ?_)))
   all_goals (refine rUn 3 ?_; refine Zx 4 ?_)
   all_goals (first | refine Zb 5 ?_ | refine Za 5 ?_ | refine ZI 5 ?_ | (refine Zn (t := 20) rfl (fun hb => ?_) (fun hb => ?_) <;> (try simp only [kk] at hb) <;> first | refine Zb 5 ?_ | refine Za 5 ?_ | refine ZI 5 ?_))
   all_goals ((first | refine Zb 6 ?_ | refine Za 6 ?_ | refine Yg 6 ?_); (first | refine Zb 7 ?_ | refine Za 7 ?_ | refine ZI 7 ?_))
   all_goals (first | refine Zb 8 ?_ | refine Za 8 ?_ | refine ZI 8 ?_ | (refine Zn (t := 23) rfl (fun hb => ?_) (fun hb => ?_) <;> (try simp only [kk] at hb) <;> first | refine Zb 8 ?_ | refine Za 8 ?_ | refine ZI 8 ?_))
   all_goals ((first | refine Zb 9 ?_ | refine Za 9 ?_ | refine ZI 9 ?_); (first | refine Zb 10 ?_ | refine Za 10 ?_ | refine ZI 10 ?_); (first | refine Zb 11 ?_ | refine Za 11 ?_ | refine wSb 11 ?_); (first | refine Zb 12 ?_ | refine Za 12 ?_ | refine wIa 12 ?_); (first | refine Zb 13 ?_ | refine Za 13 ?_ | refine ZL 13 ?_); (first | refine Zb 15 ?_ | refine Za 15 ?_ | refine ZI 15 ?_); (first | refine Zb 16 ?_ | refine Za 16 ?_ | refine ZL 16 ?_))
   all_goals (first | refine Zb 14 ?_ | refine Za 14 ?_ | (refine Zj (i := 14) ?_; ((try refine Zh ?_); (first | (refine Zc (.tmp 16) ?_; refine qC rfl rfl (ckpt2_spec _ nb pb ab next v r _) ?_; rintro v ρ' L' hle ⟨rfl, rfl, rfl⟩ <;> (try simp only [kM, kN, kO])) | (refine Zc (.tmp 24) ?_; refine qC rfl rfl (Xi _ _) ?_; rintro v ρ' L' hle ⟨rfl, rfl, rfl⟩ <;> (try simp only [kM, kN, kO])) | (refine Zc (.tmp 31) ?_; refine qC rfl rfl (Xi _ _) ?_; rintro v ρ' L' hle ⟨rfl, rfl, rfl⟩ <;> (try simp only [kM, kN, kO])) | (refine ZF ?_; try intro _)) <;> ((try simp only [kM, kN, kO]); refine Zf ?_; refine Zi ?_))))
   all_goals (first | refine Zb 17 ?_ | refine Za 17 ?_ | (refine Zj (i := 17) ?_; ((try refine Zh ?_); (first | (refine Zc (.tmp 16) ?_; refine qC rfl rfl (ckpt2_spec _ nb pb ab next v r _) ?_; rintro v ρ' L' hle ⟨rfl, rfl, rfl⟩ <;> (try simp only [kM, kN, kO])) | (refine Zc (.tmp 24) ?_; refine qC rfl rfl (Xi _ _) ?_; rintro v ρ' L' hle ⟨rfl, rfl, rfl⟩ <;> (try simp only [kM, kN, kO])) | (refine Zc (.tmp 31) ?_; refine qC rfl rfl (Xi _ _) ?_; rintro v ρ' L' hle ⟨rfl, rfl, rfl⟩ <;> (try simp only [kM, kN, kO])) | (refine ZF ?_; try intro _)) <;> ((try simp only [kM, kN, kO]); refine Zf ?_; refine Zi ?_))))
   all_goals (refine Zz ?_; (first | refine Zb 18 ?_ | refine Za 18 ?_ | refine Yg 18 ?_); (first | refine Zb 19 ?_ | refine Za 19 ?_ | refine wPk 19 ?_); refine Yj 20 ?_; refine Zv ?_)
   all_goals (repeat' (first | refine zW ?_ | (refine YL ?_; refine ZB rfl rfl (fun hb => ?_) (fun hb => ?_) <;> (try simp only [decide_eq_true_eq, decide_eq_false_iff_not, Bool.not_eq_true, Bool.not_eq_false, beq_iff_eq, bne_iff_ne, ne_eq, decide_eq_decide, Bool.not_eq_eq_eq_not, Bool.not_true, Bool.not_false, beq_eq_false_iff_ne, bne_eq_false_iff_eq, Bool.and_eq_true, Bool.or_eq_true, Bool.and_eq_false_imp, Bool.or_eq_false_iff] at hb)) | (refine ZS ?_; refine ZM rfl (fun hb => ?_) (fun hb => ?_) <;> (try simp only [decide_eq_true_eq, decide_eq_false_iff_not, Bool.not_eq_true, Bool.not_eq_false, beq_iff_eq, bne_iff_ne, ne_eq, decide_eq_decide, Bool.not_eq_eq_eq_not, Bool.not_true, Bool.not_false, beq_eq_false_iff_ne, bne_eq_false_iff_eq, Bool.and_eq_true, Bool.or_eq_true, Bool.and_eq_false_imp, Bool.or_eq_false_iff] at hb)) | intro _))
   all_goals (try (rw [hfin (by rw [hw]; (first | (simp [*]; done) | (simp [*]; omega) | (simp_all; done) | (simp_all; omega)))]; refine qF (L' := [nextC nb next, ptrC pb ab, XO ab v r]) ?_; exact ⟨rfl, rfl, rfl⟩))
   all_goals rw [← e1]
   all_goals refine Zg (k + 1) (⟨hlt, by rw [hs, hw]; (first | (simp [*]; done) | (simp [*]; omega) | (simp_all; done) | (simp_all; omega))⟩) Ze Ze rfl tk inferInstance (by first | omega | (dsimp only; omega))
  ·obtain ⟨b2, off2, C2, T2, fr2, f1, hb2, hfit2, hc2⟩ := h.get (show k - 1 < l.length by omega)
   rw [e1] at f1
   cases f1
   rw [hb0] at hb2
   cases hb2
   have ek : ((k : Int) - 1).toNat = k - 1 := by omega
   rw [← ek] at hfit2
   have hc3 : List.take 5 (List.drop (off + ((k : Int) - 1).toNat * 5) C) = XU (l[k - 1]'(by omega)) := by rw [ek]; exact hc2
   clear hc2
   rw [decide_eq_false hk0, Bool.false_or] at hs hfin
   generalize l[k] = x at *
   generalize l[k - 1]'(by omega) = y at *
   generalize hQQ : ZC mo (fun _ x => rt x) (fun y x => decide (CkT.txn y < CkT.txn x)) l mo = q at *
   clear hfin0 hrt hR
   repeat' (first | refine zW ?_ | intro _)
   refine Zu (Zk _ _ _) Zp ?_
   all_goals (refine Zx 0 ?_; refine ZQ 1 ?_)
   all_goals (refine Zj (i := 2) ?_; ((try refine Zh ?_); (first | (refine Zc (.tmp 16) ?_; refine qC rfl rfl (ckpt2_spec _ nb pb ab next v r _) ?_; rintro v ρ' L' hle ⟨rfl, rfl, rfl⟩ <;> (try simp only [kM, kN, kO])) | (refine Zc (.tmp 24) ?_; refine qC rfl rfl (Xi _ _) ?_; rintro v ρ' L' hle ⟨rfl, rfl, rfl⟩ <;> (try simp only [kM, kN, kO])) | (refine Zc (.tmp 31) ?_; refine qC rfl rfl (Xi _ _) ?_; rintro v ρ' L' hle ⟨rfl, rfl, rfl⟩ <;> (try simp only [kM, kN, kO])) | (refine ZF ?_; try intro _)) <;> ((try simp only [kM, kN, kO]); refine Zf ?_; refine Zi ?_)))
   all_goals (refine rUn 3 ?_; refine Zx 4 ?_)
   all_goals (first | refine Zb 5 ?_ | refine Za 5 ?_ | refine ZI 5 ?_ | (refine Zn (t := 20) rfl (fun hb => ?_) (fun hb => ?_) <;> (try simp only [kk] at hb) <;> first | refine Zb 5 ?_ | refine Za 5 ?_ | refine ZI 5 ?_))
   all_goals ((first | refine Zb 6 ?_ | refine Za 6 ?_ | refine Yg 6 ?_); (first | refine Zb 7 ?_ | refine Za 7 ?_ | refine ZI 7 ?_))
   all_goals (first | refine Zb 8 ?_ | refine Za 8 ?_ | refine ZI 8 ?_ | (refine Zn (t := 23) rfl (fun hb => ?_) (fun hb => ?_) <;> (try simp only [kk] at hb) <;> first | refine Zb 8 ?_ | refine Za 8 ?_ | refine ZI 8 ?_))
   all_goals ((first | refine Zb 9 ?_ | refine Za 9 ?_ | refine ZI 9 ?_); (first | refine Zb 10 ?_ | refine Za 10 ?_ | refine ZI 10 ?_); (first | refine Zb 11 ?_ | refine Za 11 ?_ | refine wSb 11 ?_); (first | refine Zb 12 ?_ | refine Za 12 ?_ | refine wIa 12 ?_); (first | refine Zb 13 ?_ | refine Za 13 ?_ | refine ZL 13 ?_); (first | refine Zb 15 ?_ | refine Za 15 ?_ | refine ZI 15 ?_); (first | refine Zb 16 ?_ | refine Za 16 ?_ | refine ZL 16 ?_))
   all_goals (first | refine Zb 14 ?_ | refine Za 14 ?_ | (refine Zj (i := 14) ?_; ((try refine Zh ?_); (first | (refine Zc (.tmp 16) ?_; refine qC rfl rfl (ckpt2_spec _ nb pb ab next v r _) ?_; rintro v ρ' L' hle ⟨rfl, rfl, rfl⟩ <;> (try simp only [kM, kN, kO])) | (refine Zc (.tmp 24) ?_; refine qC rfl rfl (Xi _ _) ?_; rintro v ρ' L' hle ⟨rfl, rfl, rfl⟩ <;> (try simp only [kM, kN, kO])) | (refine Zc (.tmp 31) ?_; refine qC rfl rfl (Xi _ _) ?_; rintro v ρ' L' hle ⟨rfl, rfl, rfl⟩ <;> (try simp only [kM, kN, kO])) | (refine ZF ?_; try intro _)) <;> ((try simp only [kM, kN, kO]); refine Zf ?_; refine Zi ?_))))
   all_goals (first | refine Zb 17 ?_ | refine Za 17 ?_ | (refine Zj (i := 17) ?_; ((try refine Zh ?_); (first | (refine Zc (.tmp 16) ?_; refine qC rfl rfl (ckpt2_spec _ nb pb ab next v r _) ?_; rintro v ρ' L' hle ⟨rfl, rfl, rfl⟩ <;> (try simp only [kM, kN, kO])) | (refine Zc (.tmp 24) ?_; refine qC rfl rfl (Xi _ _) ?_; rintro v ρ' L' hle ⟨rfl, rfl, rfl⟩ <;> (try simp only [kM, kN, kO])) | (refine Zc (.tmp 31) ?_; refine qC rfl rfl (Xi _ _) ?_; rintro v ρ' L' hle ⟨rfl, rfl, rfl⟩ <;> (try simp only [kM, kN, kO])) | (refine ZF ?_; try intro _)) <;> ((try simp only [kM, kN, kO]); refine Zf ?_; refine Zi ?_))))
   all_goals (refine Zz ?_; (first | refine Zb 18 ?_ | refine Za 18 ?_ | refine Yg 18 ?_); (first | refine Zb 19 ?_ | refine Za 19 ?_ | refine wPk 19 ?_); refine Yj 20 ?_; refine Zv ?_)
   all_goals (repeat' (first | refine zW ?_ | (refine YL ?_; refine ZB rfl rfl (fun hb => ?_) (fun hb => ?_) <;> (try simp only [decide_eq_true_eq, decide_eq_false_iff_not, Bool.not_eq_true, Bool.not_eq_false, beq_iff_eq, bne_iff_ne, ne_eq, decide_eq_decide, Bool.not_eq_eq_eq_not, Bool.not_true, Bool.not_false, beq_eq_false_iff_ne, bne_eq_false_iff_eq, Bool.and_eq_true, Bool.or_eq_true, Bool.and_eq_false_imp, Bool.or_eq_false_iff] at hb)) | (refine ZS ?_; refine ZM rfl (fun hb => ?_) (fun hb => ?_) <;> (try simp only [decide_eq_true_eq, decide_eq_false_iff_not, Bool.not_eq_true, Bool.not_eq_false, beq_iff_eq, bne_iff_ne, ne_eq, decide_eq_decide, Bool.not_eq_eq_eq_not, Bool.not_true, Bool.not_false, beq_eq_false_iff_ne, bne_eq_false_iff_eq, Bool.and_eq_true, Bool.or_eq_true, Bool.and_eq_false_imp, Bool.or_eq_false_iff] at hb)) | intro _))
   all_goals (try (rw [hfin (by rw [hw]; (first | (simp [*]; done) | (simp [*]; omega) | (simp_all; done) | (simp_all; omega)))]; refine qF (L' := [nextC nb next, ptrC pb ab, XO ab v r]) ?_; exact ⟨rfl, rfl, rfl⟩))
   all_goals rw [← e1]
   all_goals refine Zg (k + 1) (⟨hlt, by rw [hs, hw]; (first | (simp [*]; done) | (simp [*]; omega) | (simp_all; done) | (simp_all; omega))⟩) Ze Ze rfl tk inferInstance (by first | omega | (dsimp only; omega))
 ·have hk2 : k = n := by omega
  subst hk2
  have hkm : k = mo := by omega
  rw [hkm] at hok
  rw [hok]
  repeat' (first | refine zW ?_ | intro _)
  exact qE (L' := [nextC nb next, ptrC pb ab, XO ab v r]) ⟨rfl, rfl, rfl⟩
theorem risesCkP_spec (ρ : Hp) (a : Option Addr) (n c : Nat) (l : List Yq) (h : AIn ρ 2 YG a n l) (hn : n ≤ 1000000) (pb ab : Nat) (v : RV) (r : Rc)  :
  Spec Tryz.prog 142 [.slice a n c, .func (.func 143) ⟨[]⟩ ⟨[]⟩, .func (.func 144) ⟨[]⟩ ⟨[.pointer (some ⟨pb, 0, none⟩)]⟩] ρ [ptrC pb ab, XO ab v r] (fun z ρ' L' => z = .bool (upB (ckPOk r.lsn) Yq.page l l.length) ∧ ρ' = ρ ∧ L' = [ptrC pb ab, XO ab v r]) := by
 have hl := h.len
 generalize hR : (ckPOk r.lsn) = rt
 unfold upB
 generalize hm : l.length = mo
 have hrt : ∀ x, rt x = (ckPOk r.lsn) x := fun x => by rw [hR]
 refine Zd Tryz.func142 rfl rfl rfl fun u R => ?_
 simp only [Zo, List.cons_append, List.nil_append]
 repeat' (first | refine zW ?_ | intro _)
 refine Zq [(0, _), (1, _), (2, _), (9, _), (10, _)] (fun (ζ : (Nat)) => [(11, .int .i64 ζ), (6, .bool false)]) (fun (ζ : (Nat)) => ρ) (fun (ζ : (Nat)) => [ptrC pb ab, XO ab v r]) (fun (ζ : (Nat)) => ζ ≤ n ∧ ZC mo (fun _ x => rt x) (fun y x => decide (Yq.page y < Yq.page x)) l ζ = true) (fun (ζ : (Nat)) => n - ζ) (0) (⟨Nat.zero_le _, by rw [ZC]; simp [hm]⟩) Ze Ze rfl tk ?_
 rintro k hI
 try simp only [List.cons_append, List.nil_append, List.append_assoc, List.append_eq] at hI ⊢
 try dsimp only at hI ⊢
 obtain ⟨hk, hok⟩ := hI
 by_cases hlt : k < n
 ·obtain ⟨b, off, C, T, fr, e1, hb0, hfit, hc⟩ := h.get (show k < l.length by omega)
  have hs := YK (most := mo) (right := fun _ x => rt x) (lt := fun y x => decide (Yq.page y < Yq.page x)) (show k < l.length by omega)
  have hfin0 := fun (e : ZC mo (fun _ x => rt x) (fun y x => decide (Yq.page y < Yq.page x)) l (k + 1) = false) => YF e (show k + 1 ≤ mo by omega)
  rw [hok, Bool.true_and] at hs
  skip
  have hw := hrt l[k]
  have hfin : (rt l[k] && (decide (k = 0) || decide (Yq.page (l[k - 1]'(by omega)) < Yq.page l[k]))) = false → ZC mo (fun _ x => rt x) (fun y x => decide (Yq.page y < Yq.page x)) l mo = false := fun e => hfin0 (by rw [hs]; exact e)
  rw [e1]
  by_cases hk0 : k = 0
  ·rw [decide_eq_true hk0, Bool.true_or, Bool.and_true] at hs hfin
   generalize l[k] = x at *
   generalize hQQ : ZC mo (fun _ x => rt x) (fun y x => decide (Yq.page y < Yq.page x)) l mo = q at *
   clear hfin0 hrt hR
   repeat' (first | refine zW ?_ | intro _)
   refine Zu (Zk _ _ _) Zp ?_
   all_goals (refine Zx 0 ?_; refine ZQ 1 ?_)
   all_goals (refine Zj (i := 2) ?_; ((try refine Zh ?_); (first | (refine Zc (.tmp 16) ?_; refine qC rfl rfl (ckpt4_spec _ pb ab v r _) ?_; rintro v ρ' L' hle ⟨rfl, rfl, rfl⟩ <;> (try simp only [kM, kN, kO])) | (refine Zc (.tmp 24) ?_; refine qC rfl rfl (Xj _ _) ?_; rintro v ρ' L' hle ⟨rfl, rfl, rfl⟩ <;> (try simp only [kM, kN, kO])) | (refine Zc (.tmp 31) ?_; refine qC rfl rfl (Xj _ _) ?_; rintro v ρ' L' hle ⟨rfl, rfl, rfl⟩ <;> (try simp only [kM, kN, kO])) | (refine ZF ?_; try intro _)) <;> ((try simp only [kM, kN, kO]); refine Zf ?_; refine Zi ?_)))
   all_goals (refine rUn 3 ?_; refine Zx 4 ?_)
   all_goals (first | refine Zb 5 ?_ | refine Za 5 ?_ | refine ZI 5 ?_ | (refine Zn (t := 20) rfl (fun hb => ?_) (fun hb => ?_) <;> (try simp only [kk] at hb) <;> first | refine Zb 5 ?_ | refine Za 5 ?_ | refine ZI 5 ?_))
   all_goals ((first | refine Zb 6 ?_ | refine Za 6 ?_ | refine Yg 6 ?_); (first | refine Zb 7 ?_ | refine Za 7 ?_ | refine ZI 7 ?_))
   all_goals (first | refine Zb 8 ?_ | refine Za 8 ?_ | refine ZI 8 ?_ | (refine Zn (t := 23) rfl (fun hb => ?_) (fun hb => ?_) <;> (try simp only [kk] at hb) <;> first | refine Zb 8 ?_ | refine Za 8 ?_ | refine ZI 8 ?_))
   all_goals ((first | refine Zb 9 ?_ | refine Za 9 ?_ | refine ZI 9 ?_); (first | refine Zb 10 ?_ | refine Za 10 ?_ | refine ZI 10 ?_); (first | refine Zb 11 ?_ | refine Za 11 ?_ | refine wSb 11 ?_); (first | refine Zb 12 ?_ | refine Za 12 ?_ | refine wIa 12 ?_); (first | refine Zb 13 ?_ | refine Za 13 ?_ | refine ZL 13 ?_); (first | refine Zb 15 ?_ | refine Za 15 ?_ | refine ZI 15 ?_); (first | refine Zb 16 ?_ | refine Za 16 ?_ | refine ZL 16 ?_))
   all_goals (first | refine Zb 14 ?_ | refine Za 14 ?_ | (refine Zj (i := 14) ?_; ((try refine Zh ?_); (first | (refine Zc (.tmp 16) ?_; refine qC rfl rfl (ckpt4_spec _ pb ab v r _) ?_; rintro v ρ' L' hle ⟨rfl, rfl, rfl⟩ <;> (try simp only [kM, kN, kO])) | (refine Zc (.tmp 24) ?_; refine qC rfl rfl (Xj _ _) ?_; rintro v ρ' L' hle ⟨rfl, rfl, rfl⟩ <;> (try simp only [kM, kN, kO])) | (refine Zc (.tmp 31) ?_; refine qC rfl rfl (Xj _ _) ?_; rintro v ρ' L' hle ⟨rfl, rfl, rfl⟩ <;> (try simp only [kM, kN, kO])) | (refine ZF ?_; try intro _)) <;> ((try simp only [kM, kN, kO]); refine Zf ?_; refine Zi ?_))))
   all_goals (first | refine Zb 17 ?_ | refine Za 17 ?_ | (refine Zj (i := 17) ?_; ((try refine Zh ?_); (first | (refine Zc (.tmp 16) ?_; refine qC rfl rfl (ckpt4_spec _ pb ab v r _) ?_; rintro v ρ' L' hle ⟨rfl, rfl, rfl⟩ <;> (try simp only [kM, kN, kO])) | (refine Zc (.tmp 24) ?_; refine qC rfl rfl (Xj _ _) ?_; rintro v ρ' L' hle ⟨rfl, rfl, rfl⟩ <;> (try simp only [kM, kN, kO])) | (refine Zc (.tmp 31) ?_; refine qC rfl rfl (Xj _ _) ?_; rintro v ρ' L' hle ⟨rfl, rfl, rfl⟩ <;> (try simp only [kM, kN, kO])) | (refine ZF ?_; try intro _)) <;> ((try simp only [kM, kN, kO]); refine Zf ?_; refine Zi ?_))))
   all_goals (refine Zz ?_; (first | refine Zb 18 ?_ | refine Za 18 ?_ | refine Yg 18 ?_); (first | refine Zb 19 ?_ | refine Za 19 ?_ | refine wPk 19 ?_); refine Yj 20 ?_; refine Zv ?_)
   all_goals (repeat' (first | refine zW ?_ | (refine YL ?_; refine ZB rfl rfl (fun hb => ?_) (fun hb => ?_) <;> (try simp only [decide_eq_true_eq, decide_eq_false_iff_not, Bool.not_eq_true, Bool.not_eq_false, beq_iff_eq, bne_iff_ne, ne_eq, decide_eq_decide, Bool.not_eq_eq_eq_not, Bool.not_true, Bool.not_false, beq_eq_false_iff_ne, bne_eq_false_iff_eq, Bool.and_eq_true, Bool.or_eq_true, Bool.and_eq_false_imp, Bool.or_eq_false_iff] at hb)) | (refine ZS ?_; refine ZM rfl (fun hb => ?_) (fun hb => ?_) <;> (try simp only [decide_eq_true_eq, decide_eq_false_iff_not, Bool.not_eq_true, Bool.not_eq_false, beq_iff_eq, bne_iff_ne, ne_eq, decide_eq_decide, Bool.not_eq_eq_eq_not, Bool.not_true, Bool.not_false, beq_eq_false_iff_ne, bne_eq_false_iff_eq, Bool.and_eq_true, Bool.or_eq_true, Bool.and_eq_false_imp, Bool.or_eq_false_iff] at hb)) | intro _))
   all_goals (try (rw [hfin (by rw [hw]; (first | (simp [*]; done) | (simp [*]; omega) | (simp_all; done) | (simp_all; omega)))]; refine qF (L' := [ptrC pb ab, XO ab v r]) ?_; exact ⟨rfl, rfl, rfl⟩))
   all_goals rw [← e1]
   all_goals refine Zg (k + 1) (⟨hlt, by rw [hs, hw]; (first | (simp [*]; done) | (simp [*]; omega) | (simp_all; done) | (simp_all; omega))⟩) Ze Ze rfl tk inferInstance (by first | omega | (dsimp only; omega))
  ·obtain ⟨b2, off2, C2, T2, fr2, f1, hb2, hfit2, hc2⟩ := h.get (show k - 1 < l.length by omega)
   rw [e1] at f1
   cases f1
   rw [hb0] at hb2
   cases hb2
   have ek : ((k : Int) - 1).toNat = k - 1 := by omega
   rw [← ek] at hfit2
   have hc3 : List.take 2 (List.drop (off + ((k : Int) - 1).toNat * 2) C) = YG (l[k - 1]'(by omega)) := by rw [ek]; exact hc2
   clear hc2
   rw [decide_eq_false hk0, Bool.false_or] at hs hfin
   generalize l[k] = x at *
   generalize l[k - 1]'(by omega) = y at *
   generalize hQQ : ZC mo (fun _ x => rt x) (fun y x => decide (Yq.page y < Yq.page x)) l mo = q at *
   clear hfin0 hrt hR
   repeat' (first | refine zW ?_ | intro _)
   refine Zu (Zk _ _ _) Zp ?_
   all_goals (refine Zx 0 ?_; refine ZQ 1 ?_)
   all_goals (refine Zj (i := 2) ?_; ((try refine Zh ?_); (first | (refine Zc (.tmp 16) ?_; refine qC rfl rfl (ckpt4_spec _ pb ab v r _) ?_; rintro v ρ' L' hle ⟨rfl, rfl, rfl⟩ <;> (try simp only [kM, kN, kO])) | (refine Zc (.tmp 24) ?_; refine qC rfl rfl (Xj _ _) ?_; rintro v ρ' L' hle ⟨rfl, rfl, rfl⟩ <;> (try simp only [kM, kN, kO])) | (refine Zc (.tmp 31) ?_; refine qC rfl rfl (Xj _ _) ?_; rintro v ρ' L' hle ⟨rfl, rfl, rfl⟩ <;> (try simp only [kM, kN, kO])) | (refine ZF ?_; try intro _)) <;> ((try simp only [kM, kN, kO]); refine Zf ?_; refine Zi ?_)))
   all_goals (refine rUn 3 ?_; refine Zx 4 ?_)
   all_goals (first | refine Zb 5 ?_ | refine Za 5 ?_ | refine ZI 5 ?_ | (refine Zn (t := 20) rfl (fun hb => ?_) (fun hb => ?_) <;> (try simp only [kk] at hb) <;> first | refine Zb 5 ?_ | refine Za 5 ?_ | refine ZI 5 ?_))
   all_goals ((first | refine Zb 6 ?_ | refine Za 6 ?_ | refine Yg 6 ?_); (first | refine Zb 7 ?_ | refine Za 7 ?_ | refine ZI 7 ?_))
   all_goals (first | refine Zb 8 ?_ | refine Za 8 ?_ | refine ZI 8 ?_ | (refine Zn (t := 23) rfl (fun hb => ?_) (fun hb => ?_) <;> (try simp only [kk] at hb) <;> first | refine Zb 8 ?_ | refine Za 8 ?_ | refine ZI 8 ?_))
   all_goals ((first | refine Zb 9 ?_ | refine Za 9 ?_ | refine ZI 9 ?_); (first | refine Zb 10 ?_ | refine Za 10 ?_ | refine ZI 10 ?_); (first | refine Zb 11 ?_ | refine Za 11 ?_ | refine wSb 11 ?_); (first | refine Zb 12 ?_ | refine Za 12 ?_ | refine wIa 12 ?_); (first | refine Zb 13 ?_ | refine Za 13 ?_ | refine ZL 13 ?_); (first | refine Zb 15 ?_ | refine Za 15 ?_ | refine ZI 15 ?_); (first | refine Zb 16 ?_ | refine Za 16 ?_ | refine ZL 16 ?_))
   all_goals (first | refine Zb 14 ?_ | refine Za 14 ?_ | (refine Zj (i := 14) ?_; ((try refine Zh ?_); (first | (refine Zc (.tmp 16) ?_; refine qC rfl rfl (ckpt4_spec _ pb ab v r _) ?_; rintro v ρ' L' hle ⟨rfl, rfl, rfl⟩ <;> (try simp only [kM, kN, kO])) | (refine Zc (.tmp 24) ?_; refine qC rfl rfl (Xj _ _) ?_; rintro v ρ' L' hle ⟨rfl, rfl, rfl⟩ <;> (try simp only [kM, kN, kO])) | (refine Zc (.tmp 31) ?_; refine qC rfl rfl (Xj _ _) ?_; rintro v ρ' L' hle ⟨rfl, rfl, rfl⟩ <;> (try simp only [kM, kN, kO])) | (refine ZF ?_; try intro _)) <;> ((try simp only [kM, kN, kO]); refine Zf ?_; refine Zi ?_))))
   all_goals (first | refine Zb 17 ?_ | refine Za 17 ?_ | (refine Zj (i := 17) ?_; ((try refine Zh ?_); (first | (refine Zc (.tmp 16) ?_; refine qC rfl rfl (ckpt4_spec _ pb ab v r _) ?_; rintro v ρ' L' hle ⟨rfl, rfl, rfl⟩ <;> (try simp only [kM, kN, kO])) | (refine Zc (.tmp 24) ?_; refine qC rfl rfl (Xj _ _) ?_; rintro v ρ' L' hle ⟨rfl, rfl, rfl⟩ <;> (try simp only [kM, kN, kO])) | (refine Zc (.tmp 31) ?_; refine qC rfl rfl (Xj _ _) ?_; rintro v ρ' L' hle ⟨rfl, rfl, rfl⟩ <;> (try simp only [kM, kN, kO])) | (refine ZF ?_; try intro _)) <;> ((try simp only [kM, kN, kO]); refine Zf ?_; refine Zi ?_))))
   all_goals (refine Zz ?_; (first | refine Zb 18 ?_ | refine Za 18 ?_ | refine Yg 18 ?_); (first | refine Zb 19 ?_ | refine Za 19 ?_ | refine wPk 19 ?_); refine Yj 20 ?_; refine Zv ?_)
   all_goals (repeat' (first | refine zW ?_ | (refine YL ?_; refine ZB rfl rfl (fun hb => ?_) (fun hb => ?_) <;> (try simp only [decide_eq_true_eq, decide_eq_false_iff_not, Bool.not_eq_true, Bool.not_eq_false, beq_iff_eq, bne_iff_ne, ne_eq, decide_eq_decide, Bool.not_eq_eq_eq_not, Bool.not_true, Bool.not_false, beq_eq_false_iff_ne, bne_eq_false_iff_eq, Bool.and_eq_true, Bool.or_eq_true, Bool.and_eq_false_imp, Bool.or_eq_false_iff] at hb)) | (refine ZS ?_; refine ZM rfl (fun hb => ?_) (fun hb => ?_) <;> (try simp only [decide_eq_true_eq, decide_eq_false_iff_not, Bool.not_eq_true, Bool.not_eq_false, beq_iff_eq, bne_iff_ne, ne_eq, decide_eq_decide, Bool.not_eq_eq_eq_not, Bool.not_true, Bool.not_false, beq_eq_false_iff_ne, bne_eq_false_iff_eq, Bool.and_eq_true, Bool.or_eq_true, Bool.and_eq_false_imp, Bool.or_eq_false_iff] at hb)) | intro _))
   all_goals (try (rw [hfin (by rw [hw]; (first | (simp [*]; done) | (simp [*]; omega) | (simp_all; done) | (simp_all; omega)))]; refine qF (L' := [ptrC pb ab, XO ab v r]) ?_; exact ⟨rfl, rfl, rfl⟩))
   all_goals rw [← e1]
   all_goals refine Zg (k + 1) (⟨hlt, by rw [hs, hw]; (first | (simp [*]; done) | (simp [*]; omega) | (simp_all; done) | (simp_all; omega))⟩) Ze Ze rfl tk inferInstance (by first | omega | (dsimp only; omega))
 ·have hk2 : k = n := by omega
  subst hk2
  have hkm : k = mo := by omega
  rw [hkm] at hok
  rw [hok]
  repeat' (first | refine zW ?_ | intro _)
  exact qE (L' := [ptrC pb ab, XO ab v r]) ⟨rfl, rfl, rfl⟩
end Go.Proofs.E
