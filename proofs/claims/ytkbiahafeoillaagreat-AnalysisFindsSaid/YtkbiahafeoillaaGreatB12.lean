/- Laws of analysis. Part 12 of 37. -/
import Derived.Test.YtkbiahafeoillaaGreatB11
namespace Go.Proofs.E
open Go
set_option linter.unusedVariables false
set_option linter.unusedSimpArgs false
set_option linter.unusedSectionVars false
set_option maxRecDepth 4000
set_option maxHeartbeats 1000000
attribute [local irreducible] Yl TL TC TE Spec YY R1 Hp.le EnvLe TS TR YS Zq
theorem Wh (ρ : Hp) (n : Int) : Spec Tryz.prog 145 [.int .i64 n] ρ [] (fun v ρ' L' => v = .bool (pageOk n) ∧ ρ' = ρ ∧ L' = []) := by
 refine Zg Tryz.func145 rfl rfl rfl fun u R => ?_
 simp only [Zx, List.cons_append, List.nil_append]
 repeat' (first | (refine Zh ?_; first | (refine Zf ?_; refine qQ ?_) | refine Zm ?_) | refine Zb ?_ | (refine Zi ?_; refine Zr ?_) | (refine Zj ?_; refine Zs ?_) | (refine Xw ?_; refine ZR rfl rfl (fun hb => ?_) (fun hb => ?_) <;> (try simp only [decide_eq_true_eq, decide_eq_false_iff_not, Bool.not_eq_true, Bool.not_eq_false, beq_iff_eq, bne_iff_ne, ne_eq, decide_eq_decide, Bool.not_eq_eq_eq_not, Bool.not_true, Bool.not_false, beq_eq_false_iff_ne, bne_eq_false_iff_eq, Bool.and_eq_true, Bool.or_eq_true, Bool.and_eq_false_imp, Bool.or_eq_false_iff] at hb)) | (refine Ym ?_; refine Yb rfl (fun hb => ?_) (fun hb => ?_) <;> (try simp only [decide_eq_true_eq, decide_eq_false_iff_not, Bool.not_eq_true, Bool.not_eq_false, beq_iff_eq, bne_iff_ne, ne_eq, decide_eq_decide, Bool.not_eq_eq_eq_not, Bool.not_true, Bool.not_false, beq_eq_false_iff_ne, bne_eq_false_iff_eq, Bool.and_eq_true, Bool.or_eq_true, Bool.and_eq_false_imp, Bool.or_eq_false_iff] at hb)) | intro _)
 all_goals (refine qF (L' := []) ?_; exact ⟨YI (by simp [pageOk]; (try omega)), rfl, rfl⟩)
theorem YF (ρ : Hp) (x : Im) : Spec Tryz.prog 170 [.agg ⟨imV x⟩] ρ [] (fun v ρ' L' => v = .int .i64 x.page ∧ ρ' = ρ ∧ L' = []) := by
 refine Zg Tryz.func170 rfl rfl rfl fun u R => ?_
 simp only [Zx, List.cons_append, List.nil_append]
 repeat' (first | (refine Zh ?_; first | (refine Zf ?_; refine qQ ?_) | refine Zm ?_) | refine Zb ?_ | (refine Zi ?_; refine Zr ?_) | (refine Zj ?_; refine Zs ?_) | intro _)
 exact qE ⟨rfl, rfl, rfl⟩
abbrev XM (bx : Nat) (before : Bool) : SH := [[(bx, .cells ⟨[.bool before]⟩ 4 (0, 0))]]
theorem XU (ρ : Hp) (bx : Nat) (before : Bool) (x : Im) (h : Im.In ρ x) : Spec Tryz.prog 171 [.agg ⟨imV x⟩, .pointer (some ⟨bx, 0, none⟩)] ρ (XM bx before) (fun v ρ' L' => v = .bool (imOk before x) ∧ ρ' = ρ ∧ L' = XM bx before) := by
 have ha := check_spec ρ x.av x.a h.a.cin
 have hb := check_spec ρ x.bv x.b h.b.cin
 refine Zg Tryz.func171 rfl rfl rfl fun u R => ?_
 simp only [Zx, List.cons_append, List.nil_append]
 unfold imOk
 cases h1 : pageOk x.page
 ·repeat' (first | (refine Ze (.func 145) ?_; refine qC rfl rfl (Wh _ _) ?_; rintro v ρ' L' hle ⟨rfl, rfl, rfl⟩ <;> (try simp only [kM, kN, kO, h1])) | (refine Zh ?_; first | (refine Zf ?_; refine qQ ?_) | refine Zm ?_) | refine Zb ?_ | (refine Zi ?_; refine Zr ?_) | (refine Zj ?_; refine Zs ?_) | intro _)
  exact qE (L' := XM bx before) ⟨rfl, rfl, rfl⟩
 ·cases h2 : YW x.a
  ·rw [h2] at ha
   repeat' (first | (refine Ze (.func 145) ?_; refine qC rfl rfl (Wh _ _) ?_; rintro v ρ' L' hle ⟨rfl, rfl, rfl⟩ <;> (try simp only [kM, kN, kO, h1])) | (refine Ze (.func 172) ?_; refine qC rfl rfl (ha) ?_; rintro v ρ' L' hle ⟨rfl, rfl, rfl⟩ <;> (try simp only [kM, kN, kO, if_false, Bool.false_eq_true])) | (refine Zh ?_; first | (refine Zf ?_; refine qQ ?_) | refine Zm ?_) | refine Zb ?_ | (refine Zi ?_; refine Zr ?_) | (refine Zj ?_; refine Zs ?_) | intro _)
   exact qE (L' := XM bx before) ⟨rfl, rfl, rfl⟩
  ·rw [h2] at ha
   cases h3 : YW x.b
   ·rw [h3] at hb
    repeat' (first | (refine Ze (.func 145) ?_; refine qC rfl rfl (Wh _ _) ?_; rintro v ρ' L' hle ⟨rfl, rfl, rfl⟩ <;> (try simp only [kM, kN, kO, h1])) | (refine Ze (.func 172) ?_; refine qC rfl rfl (ha) ?_; rintro v ρ' L' hle ⟨rfl, rfl, rfl⟩ <;> (try simp only [kM, kN, kO, if_true])) | (refine Ze (.func 172) ?_; refine qC rfl rfl (hb) ?_; rintro v ρ' L' hle ⟨rfl, rfl, rfl⟩ <;> (try simp only [kM, kN, kO, if_false, Bool.false_eq_true])) | (refine Zh ?_; first | (refine Zf ?_; refine qQ ?_) | refine Zm ?_) | refine Zb ?_ | (refine Zi ?_; refine Zr ?_) | (refine Zj ?_; refine Zs ?_) | intro _)
    exact qE (L' := XM bx before) ⟨rfl, rfl, rfl⟩
   ·rw [h3] at hb
    cases before
    ·by_cases h4 : x.b.kind = 0
     ·rw [decide_eq_true h4]
      repeat' (first | (refine Ze (.func 145) ?_; refine qC rfl rfl (Wh _ _) ?_; rintro v ρ' L' hle ⟨rfl, rfl, rfl⟩ <;> (try simp only [kM, kN, kO, h1])) | (refine Ze (.func 172) ?_; refine qC rfl rfl (ha) ?_; rintro v ρ' L' hle ⟨rfl, rfl, rfl⟩ <;> (try simp only [kM, kN, kO, if_true])) | (refine Ze (.func 172) ?_; refine qC rfl rfl (hb) ?_; rintro v ρ' L' hle ⟨rfl, rfl, rfl⟩ <;> (try simp only [kM, kN, kO, if_true])) | (refine Zh ?_; first | (refine Zf ?_; refine qQ ?_) | refine Zm ?_) | refine Zb ?_ | (refine Zi ?_; refine Zr ?_) | (refine Zj ?_; refine Zs ?_) | intro _)
      exact qE (L' := XM bx false) ⟨rfl, rfl, rfl⟩
     ·rw [decide_eq_false h4]
      repeat' (first | (refine Ze (.func 145) ?_; refine qC rfl rfl (Wh _ _) ?_; rintro v ρ' L' hle ⟨rfl, rfl, rfl⟩ <;> (try simp only [kM, kN, kO, h1])) | (refine Ze (.func 172) ?_; refine qC rfl rfl (ha) ?_; rintro v ρ' L' hle ⟨rfl, rfl, rfl⟩ <;> (try simp only [kM, kN, kO, if_true])) | (refine Ze (.func 172) ?_; refine qC rfl rfl (hb) ?_; rintro v ρ' L' hle ⟨rfl, rfl, rfl⟩ <;> (try simp only [kM, kN, kO, if_true])) | (refine Zh ?_; first | (refine Zf ?_; refine qQ ?_) | refine Zm ?_) | refine Zb ?_ | (refine Zi ?_; refine Zr ?_) | (refine Zj ?_; refine Zs ?_) | intro _)
      exact qE (L' := XM bx false) ⟨rfl, rfl, rfl⟩
    ·repeat' (first | (refine Ze (.func 145) ?_; refine qC rfl rfl (Wh _ _) ?_; rintro v ρ' L' hle ⟨rfl, rfl, rfl⟩ <;> (try simp only [kM, kN, kO, h1])) | (refine Ze (.func 172) ?_; refine qC rfl rfl (ha) ?_; rintro v ρ' L' hle ⟨rfl, rfl, rfl⟩ <;> (try simp only [kM, kN, kO, if_true])) | (refine Ze (.func 172) ?_; refine qC rfl rfl (hb) ?_; rintro v ρ' L' hle ⟨rfl, rfl, rfl⟩ <;> (try simp only [kM, kN, kO, if_true])) | (refine Zh ?_; first | (refine Zf ?_; refine qQ ?_) | refine Zm ?_) | refine Zb ?_ | (refine Zi ?_; refine Zr ?_) | (refine Zj ?_; refine Zs ?_) | intro _)
     exact qE (L' := XM bx true) ⟨rfl, rfl, rfl⟩
theorem YZ (ρ : Hp) (x : CkT) : Spec Tryz.prog 140 [.agg ⟨ckTV x⟩] ρ [] (fun v ρ' L' => v = .int .i64 x.txn ∧ ρ' = ρ ∧ L' = []) := by
 refine Zg Tryz.func140 rfl rfl rfl fun u R => ?_
 simp only [Zx, List.cons_append, List.nil_append]
 repeat' (first | (refine Zh ?_; first | (refine Zf ?_; refine qQ ?_) | refine Zm ?_) | refine Zb ?_ | (refine Zi ?_; refine Zr ?_) | (refine Zj ?_; refine Zs ?_) | intro _)
 exact qE ⟨rfl, rfl, rfl⟩
theorem Xa (ρ : Hp) (x : Yp) : Spec Tryz.prog 143 [.agg ⟨YM x⟩] ρ [] (fun v ρ' L' => v = .int .i64 x.page ∧ ρ' = ρ ∧ L' = []) := by
 refine Zg Tryz.func143 rfl rfl rfl fun u R => ?_
 simp only [Zx, List.cons_append, List.nil_append]
 repeat' (first | (refine Zh ?_; first | (refine Zf ?_; refine qQ ?_) | refine Zm ?_) | refine Zb ?_ | (refine Zi ?_; refine Zr ?_) | (refine Zj ?_; refine Zs ?_) | intro _)
 exact qE ⟨rfl, rfl, rfl⟩
abbrev XA (ab : Nat) (v : RV) (r : Rc) : List (Nat × Obj) := [(ab, .cells ⟨YR v r⟩ 155 (0, 0))]
abbrev nextC (nb : Nat) (next : Int) : List (Nat × Obj) := [(nb, .cells ⟨[.int .i64 next]⟩ 3 (0, 0))]
abbrev ptrC (pb ab : Nat) : List (Nat × Obj) := [(pb, .cells ⟨[.pointer (some ⟨ab, 0, none⟩)]⟩ 153 (0, 0))]
theorem ckpt2_spec (ρ : Hp) (nb pb ab : Nat) (next : Int) (v : RV) (r : Rc) (x : CkT) : Spec Tryz.prog 141 [.agg ⟨ckTV x⟩, .pointer (some ⟨nb, 0, none⟩), .pointer (some ⟨pb, 0, none⟩)] ρ [nextC nb next, ptrC pb ab, XA ab v r]
  (fun z ρ' L' => z = .bool (ckTOk r.lsn next x) ∧ ρ' = ρ ∧ L' = [nextC nb next, ptrC pb ab, XA ab v r]) := by
 refine Zg Tryz.func141 rfl rfl rfl fun u R => ?_
 simp only [Zx, List.cons_append, List.nil_append]
 repeat' (first | (refine Zh ?_; first | (refine Zf ?_; refine qQ ?_) | refine Zm ?_) | refine Zb ?_ | (refine Zi ?_; refine Zr ?_) | (refine Zj ?_; refine Zs ?_) | intro _)
 refine ZB (Zq _ _ _) Zy ?_
 all_goals (refine ZO 0 ?_; refine ZK ?_; refine ZU 1 ?_; refine rCm 2 ?_; refine ZI 3 ?_)
 all_goals (first | refine Zd 4 ?_ | refine Za 4 ?_ | refine Yc 4 ?_ | (refine ZA (t := 8) rfl (fun hb => ?_) (fun hb => ?_) <;> (try simp only [kk] at hb) <;> first | refine Zd 4 ?_ | refine Za 4 ?_ | refine Yc 4 ?_))
 all_goals ((first | refine Zd 5 ?_ | refine Za 5 ?_ | refine Yf 5 ?_); (first | refine Zd 6 ?_ | refine Za 6 ?_ | refine Yf 6 ?_); (first | refine Zd 7 ?_ | refine Za 7 ?_ | refine wCm 7 ?_); refine rPk 8 ?_; refine ZI 9 ?_)
 all_goals (first | refine Zd 10 ?_ | refine Za 10 ?_ | refine Yc 10 ?_ | (refine ZA (t := 14) rfl (fun hb => ?_) (fun hb => ?_) <;> (try simp only [kk] at hb) <;> first | refine Zd 10 ?_ | refine Za 10 ?_ | refine Yc 10 ?_))
 all_goals ((first | refine Zd 11 ?_ | refine Za 11 ?_ | refine Yf 11 ?_); (first | refine Zd 12 ?_ | refine Za 12 ?_ | refine wCm 12 ?_); refine rPk 13 ?_; refine ZI 14 ?_)
 all_goals (first | refine Zd 15 ?_ | refine Za 15 ?_ | refine Yc 15 ?_ | (refine ZA (t := 19) rfl (fun hb => ?_) (fun hb => ?_) <;> (try simp only [kk] at hb) <;> first | refine Zd 15 ?_ | refine Za 15 ?_ | refine Yc 15 ?_))
 all_goals ((first | refine Zd 16 ?_ | refine Za 16 ?_ | refine Yf 16 ?_); (first | refine Zd 17 ?_ | refine Za 17 ?_ | refine Yc 17 ?_); (first | refine Zd 18 ?_ | refine Za 18 ?_ | refine Yf 18 ?_); (first | refine Zd 19 ?_ | refine Za 19 ?_ | refine wCm 19 ?_); refine rPk 20 ?_; refine ZI 21 ?_)
 all_goals (first | refine Zd 22 ?_ | refine Za 22 ?_ | refine Yc 22 ?_ | (refine ZA (t := 26) rfl (fun hb => ?_) (fun hb => ?_) <;> (try simp only [kk] at hb) <;> first | refine Zd 22 ?_ | refine Za 22 ?_ | refine Yc 22 ?_))
 all_goals ((first | refine Zd 23 ?_ | refine Za 23 ?_ | refine Yf 23 ?_); (first | refine Zd 24 ?_ | refine Za 24 ?_ | refine Yf 24 ?_); (first | refine Zd 25 ?_ | refine Za 25 ?_ | refine wNc 25 ?_); (first | refine Zd 26 ?_ | refine Za 26 ?_ | refine Yc 26 ?_); (first | refine Zd 27 ?_ | refine Za 27 ?_ | refine Yc 27 ?_); (first | refine Zd 28 ?_ | refine Za 28 ?_ | refine Yf 28 ?_); (first | refine Zd 29 ?_ | refine Za 29 ?_ | refine wCm 29 ?_); refine rPk 30 ?_; refine ZI 31 ?_)
 all_goals (first | refine Zd 32 ?_ | refine Za 32 ?_ | refine Yc 32 ?_ | (refine ZA (t := 36) rfl (fun hb => ?_) (fun hb => ?_) <;> (try simp only [kk] at hb) <;> first | refine Zd 32 ?_ | refine Za 32 ?_ | refine Yc 32 ?_))
 all_goals ((first | refine Zd 33 ?_ | refine Za 33 ?_ | refine Yf 33 ?_); (first | refine Zd 34 ?_ | refine Za 34 ?_ | refine Yc 34 ?_); (first | refine Zd 35 ?_ | refine Za 35 ?_ | refine Yf 35 ?_); (first | refine Zd 36 ?_ | refine Za 36 ?_ | refine wCm 36 ?_); refine rPk 37 ?_; refine ZI 38 ?_)
 all_goals (first | refine Zd 39 ?_ | refine Za 39 ?_ | refine Yc 39 ?_ | (refine ZA (t := 43) rfl (fun hb => ?_) (fun hb => ?_) <;> (try simp only [kk] at hb) <;> first | refine Zd 39 ?_ | refine Za 39 ?_ | refine Yc 39 ?_))
 all_goals ((first | refine Zd 40 ?_ | refine Za 40 ?_ | refine Yf 40 ?_); (first | refine Zd 41 ?_ | refine Za 41 ?_ | refine wCm 41 ?_); refine rPk 42 ?_; refine ZI 43 ?_)
 all_goals (first | refine Zd 44 ?_ | refine Za 44 ?_ | refine Yc 44 ?_ | (refine ZA (t := 48) rfl (fun hb => ?_) (fun hb => ?_) <;> (try simp only [kk] at hb) <;> first | refine Zd 44 ?_ | refine Za 44 ?_ | refine Yc 44 ?_))
 all_goals ((first | refine Zd 45 ?_ | refine Za 45 ?_ | refine Yf 45 ?_); (first | refine Zd 46 ?_ | refine Za 46 ?_ | refine wCm 46 ?_); refine rPk 47 ?_; refine rAs 48 ?_; refine ZE ?_)
 all_goals (repeat' (first | (refine Zh ?_; first | (refine Zf ?_; refine qQ ?_) | refine Zm ?_) | refine Zb ?_ | (refine Zi ?_; refine Zr ?_) | (refine Zj ?_; refine Zs ?_) | intro _))
 all_goals (refine qF (L' := [nextC nb next, ptrC pb ab, XA ab v r]) ?_; exact ⟨YI (by simp [ckTOk]; (try omega)), rfl, rfl⟩)
theorem ckpt4_spec (ρ : Hp) (pb ab : Nat) (v : RV) (r : Rc) (x : Yp) : Spec Tryz.prog 144 [.agg ⟨YM x⟩, .pointer (some ⟨pb, 0, none⟩)] ρ [ptrC pb ab, XA ab v r]
  (fun z ρ' L' => z = .bool (ckPOk r.lsn x) ∧ ρ' = ρ ∧ L' = [ptrC pb ab, XA ab v r]) := by
 refine Zg Tryz.func144 rfl rfl rfl fun u R => ?_
 simp only [Zx, List.cons_append, List.nil_append]
 repeat' (first | (refine Zh ?_; first | (refine Zf ?_; refine qQ ?_) | refine Zm ?_) | refine Zb ?_ | (refine Zi ?_; refine Zr ?_) | (refine Zj ?_; refine Zs ?_) | intro _)
 refine ZB (Zq _ _ _) Zy ?_
 all_goals (refine ZO 0 ?_; refine ZU 1 ?_)
 all_goals (refine Zt (i := 2) ?_; ((try refine Zn ?_); (first | (refine Ze (.func 145) ?_; refine qC rfl rfl (Wh _ _) ?_; rintro v ρ' L' hle ⟨rfl, rfl, rfl⟩ <;> (try simp only [kM, kN, kO])) | (refine Zm ?_; try intro _)) <;> ((try simp only [kM, kN, kO]); refine Zb ?_; refine Zo ?_)))
 all_goals (refine ZK ?_; refine ZI 3 ?_)
 all_goals (first | refine Zd 4 ?_ | refine Za 4 ?_ | refine Yc 4 ?_ | (refine ZA (t := 7) rfl (fun hb => ?_) (fun hb => ?_) <;> (try simp only [kk] at hb) <;> first | refine Zd 4 ?_ | refine Za 4 ?_ | refine Yc 4 ?_))
 all_goals ((first | refine Zd 5 ?_ | refine Za 5 ?_ | refine Yf 5 ?_); (first | refine Zd 6 ?_ | refine Za 6 ?_ | refine wCm 6 ?_); refine rPk 7 ?_; refine ZI 8 ?_)
 all_goals (first | refine Zd 9 ?_ | refine Za 9 ?_ | refine Yc 9 ?_ | (refine ZA (t := 12) rfl (fun hb => ?_) (fun hb => ?_) <;> (try simp only [kk] at hb) <;> first | refine Zd 9 ?_ | refine Za 9 ?_ | refine Yc 9 ?_))
 all_goals ((first | refine Zd 10 ?_ | refine Za 10 ?_ | refine Yf 10 ?_); (first | refine Zd 11 ?_ | refine Za 11 ?_ | refine Yf 11 ?_); (first | refine Zd 12 ?_ | refine Za 12 ?_ | refine wNc 12 ?_); (first | refine Zd 13 ?_ | refine Za 13 ?_ | refine Yc 13 ?_); (first | refine Zd 14 ?_ | refine Za 14 ?_ | refine Yc 14 ?_); (first | refine Zd 15 ?_ | refine Za 15 ?_ | refine Yf 15 ?_); (first | refine Zd 16 ?_ | refine Za 16 ?_ | refine wCm 16 ?_); refine rPk 17 ?_; refine rAs 18 ?_; refine ZE ?_)
 all_goals (repeat' (first | (refine Zh ?_; first | (refine Zf ?_; refine qQ ?_) | refine Zm ?_) | refine Zb ?_ | (refine Zi ?_; refine Zr ?_) | (refine Zj ?_; refine Zs ?_) | intro _))
 all_goals (refine qF (L' := [ptrC pb ab, XA ab v r]) ?_; exact ⟨YI (by simp [ckPOk, *]; (try omega)), rfl, rfl⟩)
theorem risesIm_spec (ρ : Hp) (a : Option Addr) (n c : Nat) (l : List Im) (h : AIn ρ 7 imV a n l) (hn : n ≤ 1000000) (bx : Nat) (before : Bool) (him : ∀ x ∈ l, Im.In ρ x) :
  Spec Tryz.prog 169 [.slice a n c, .func (.func 170) ⟨[]⟩ ⟨[]⟩, .func (.func 171) ⟨[]⟩ ⟨[.pointer (some ⟨bx, 0, none⟩)]⟩] ρ (XM bx before) (fun z ρ' L' => z = .bool (upB (imOk before) Im.page l l.length) ∧ ρ' = ρ ∧ L' = (XM bx before)) := by
 have hl := h.len
 generalize hR : (imOk before) = rt
 unfold upB
 generalize hm : l.length = mo
 have hrt : ∀ x, rt x = (imOk before) x := fun x => by rw [hR]
 refine Zg Tryz.func169 rfl rfl rfl fun u R => ?_
 simp only [Zx, List.cons_append, List.nil_append]
 repeat' (first | (refine Zh ?_; first | (refine Zf ?_; refine qQ ?_) | refine Zm ?_) | refine Zb ?_ | (refine Zi ?_; refine Zr ?_) | (refine Zj ?_; refine Zs ?_) | intro _)
 refine ZC [(0, _), (1, _), (2, _), (9, _), (10, _)] (fun (ζ : (Nat)) => [(11, .int .i64 ζ), (6, .bool false)]) (fun (ζ : (Nat)) => ρ) (fun (ζ : (Nat)) => (XM bx before)) (fun (ζ : (Nat)) => ζ ≤ n ∧ ZW mo (fun _ x => rt x) (fun y x => decide (Im.page y < Im.page x)) l ζ = true) (fun (ζ : (Nat)) => n - ζ) (0) (⟨Nat.zero_le _, by rw [ZW]; simp [hm]⟩) Zl Zl rfl tk ?_
 rintro k hI
 try simp only [List.cons_append, List.nil_append, List.append_assoc, List.append_eq] at hI ⊢
 try dsimp only at hI ⊢
 obtain ⟨hk, hok⟩ := hI
 by_cases hlt : k < n
 ·obtain ⟨b, off, C, T, fr, e1, hb0, hfit, hc⟩ := h.get (show k < l.length by omega)
  have hs := Xt (most := mo) (right := fun _ x => rt x) (lt := fun y x => decide (Im.page y < Im.page x)) (show k < l.length by omega)
  have hfin0 := fun (e : ZW mo (fun _ x => rt x) (fun y x => decide (Im.page y < Im.page x)) l (k + 1) = false) => XK e (show k + 1 ≤ mo by omega)
  rw [hok, Bool.true_and] at hs
  have him1 := him _ (List.getElem_mem (show k < l.length by omega))
  have hw := hrt l[k]
  have hfin : (rt l[k] && (decide (k = 0) || decide (Im.page (l[k - 1]'(by omega)) < Im.page l[k]))) = false → ZW mo (fun _ x => rt x) (fun y x => decide (Im.page y < Im.page x)) l mo = false := fun e => hfin0 (by rw [hs]; exact e)
  rw [e1]
  by_cases hk0 : k = 0
  ·rw [decide_eq_true hk0, Bool.true_or, Bool.and_true] at hs hfin
   generalize l[k] = x at *
   generalize hQQ : ZW mo (fun _ x => rt x) (fun y x => decide (Im.page y < Im.page x)) l mo = q at *
   clear hfin0 hrt hR
   repeat' (first | (refine Zh ?_; first | (refine Zf ?_; refine qQ ?_) | refine Zm ?_) | refine Zb ?_ | (refine Zi ?_; refine Zr ?_) | (refine Zj ?_; refine Zs ?_) | intro _)
   refine ZB (Zq _ _ _) Zy ?_
   all_goals (refine ZI 0 ?_; refine ZU 1 ?_)
   all_goals (refine Zt (i := 2) ?_; ((try refine Zn ?_); (first | (refine Ze (.tmp 16) ?_; refine qC rfl rfl (XU _ bx before _ him1) ?_; rintro v ρ' L' hle ⟨rfl, rfl, rfl⟩ <;> (try simp only [kM, kN, kO])) | (refine Ze (.tmp 24) ?_; refine qC rfl rfl (YF _ _) ?_; rintro v ρ' L' hle ⟨rfl, rfl, rfl⟩ <;> (try simp only [kM, kN, kO])) | (refine Ze (.tmp 31) ?_; refine qC rfl rfl (YF _ _) ?_; rintro v ρ' L' hle ⟨rfl, rfl, rfl⟩ <;> (try simp only [kM, kN, kO])) | (refine Zm ?_; try intro _)) <;> ((try simp only [kM, kN, kO]); refine Zb ?_; refine Zo ?_)))
   all_goals (refine rUn 3 ?_; refine ZI 4 ?_)
   all_goals (first | refine Zd 5 ?_ | refine Za 5 ?_ | refine ZY 5 ?_ | (refine ZA (t := 20) rfl (fun hb => ?_) (fun hb => ?_) <;> (try simp only [kk] at hb) <;> first | refine Zd 5 ?_ | refine Za 5 ?_ | refine ZY 5 ?_))
   all_goals ((first | refine Zd 6 ?_ | refine Za 6 ?_ | refine wCm 6 ?_); (first | refine Zd 7 ?_ | refine Za 7 ?_ | refine ZY 7 ?_))
   all_goals (first | refine Zd 8 ?_ | refine Za 8 ?_ | refine ZY 8 ?_ | (refine ZA (t := 23) rfl (fun hb => ?_) (fun hb => ?_) <;> (try simp only [kk] at hb) <;> first | refine Zd 8 ?_ | refine Za 8 ?_ | refine ZY 8 ?_))
   all_goals ((first | refine Zd 9 ?_ | refine Za 9 ?_ | refine ZY 9 ?_); (first | refine Zd 10 ?_ | refine Za 10 ?_ | refine ZY 10 ?_); (first | refine Zd 11 ?_ | refine Za 11 ?_ | refine wSb 11 ?_); (first | refine Zd 12 ?_ | refine Za 12 ?_ | refine wIa 12 ?_); (first | refine Zd 13 ?_ | refine Za 13 ?_ | refine Yf 13 ?_); (first | refine Zd 15 ?_ | refine Za 15 ?_ | refine ZY 15 ?_); (first | refine Zd 16 ?_ | refine Za 16 ?_ | refine Yf 16 ?_))
   all_goals (first | refine Zd 14 ?_ | refine Za 14 ?_ | (refine Zt (i := 14) ?_; ((try refine Zn ?_); (first | (refine Ze (.tmp 16) ?_; refine qC rfl rfl (XU _ bx before _ him1) ?_; rintro v ρ' L' hle ⟨rfl, rfl, rfl⟩ <;> (try simp only [kM, kN, kO])) | (refine Ze (.tmp 24) ?_; refine qC rfl rfl (YF _ _) ?_; rintro v ρ' L' hle ⟨rfl, rfl, rfl⟩ <;> (try simp only [kM, kN, kO])) | (refine Ze (.tmp 31) ?_; refine qC rfl rfl (YF _ _) ?_; rintro v ρ' L' hle ⟨rfl, rfl, rfl⟩ <;> (try simp only [kM, kN, kO])) | (refine Zm ?_; try intro _)) <;> ((try simp only [kM, kN, kO]); refine Zb ?_; refine Zo ?_))))
   all_goals (first | refine Zd 17 ?_ | refine Za 17 ?_ | (refine Zt (i := 17) ?_; ((try refine Zn ?_); (first | (refine Ze (.tmp 16) ?_; refine qC rfl rfl (XU _ bx before _ him1) ?_; rintro v ρ' L' hle ⟨rfl, rfl, rfl⟩ <;> (try simp only [kM, kN, kO])) | (refine Ze (.tmp 24) ?_; refine qC rfl rfl (YF _ _) ?_; rintro v ρ' L' hle ⟨rfl, rfl, rfl⟩ <;> (try simp only [kM, kN, kO])) | (refine Ze (.tmp 31) ?_; refine qC rfl rfl (YF _ _) ?_; rintro v ρ' L' hle ⟨rfl, rfl, rfl⟩ <;> (try simp only [kM, kN, kO])) | (refine Zm ?_; try intro _)) <;> ((try simp only [kM, kN, kO]); refine Zb ?_; refine Zo ?_))))
   all_goals (refine ZK ?_; (first | refine Zd 18 ?_ | refine Za 18 ?_ | refine wCm 18 ?_); (first | refine Zd 19 ?_ | refine Za 19 ?_ | refine wPk 19 ?_); refine rPk 20 ?_; refine ZE ?_)
   all_goals (repeat' (first | (refine Zh ?_; first | (refine Zf ?_; refine qQ ?_) | refine Zm ?_) | refine Zb ?_ | (refine Zi ?_; refine Zr ?_) | (refine Zj ?_; refine Zs ?_) | (refine Xw ?_; refine ZR rfl rfl (fun hb => ?_) (fun hb => ?_) <;> (try simp only [decide_eq_true_eq, decide_eq_false_iff_not, Bool.not_eq_true, Bool.not_eq_false, beq_iff_eq, bne_iff_ne, ne_eq, decide_eq_decide, Bool.not_eq_eq_eq_not, Bool.not_true, Bool.not_false, beq_eq_false_iff_ne, bne_eq_false_iff_eq, Bool.and_eq_true, Bool.or_eq_true, Bool.and_eq_false_imp, Bool.or_eq_false_iff] at hb)) | (refine Ym ?_; refine Yb rfl (fun hb => ?_) (fun hb => ?_) <;> (try simp only [decide_eq_true_eq, decide_eq_false_iff_not, Bool.not_eq_true, Bool.not_eq_false, beq_iff_eq, bne_iff_ne, ne_eq, decide_eq_decide, Bool.not_eq_eq_eq_not, Bool.not_true, Bool.not_false, beq_eq_false_iff_ne, bne_eq_false_iff_eq, Bool.and_eq_true, Bool.or_eq_true, Bool.and_eq_false_imp, Bool.or_eq_false_iff] at hb)) | intro _))
   all_goals (try (rw [hfin (by rw [hw]; (first | (simp [*]; done) | (simp [*]; omega) | (simp_all; done) | (simp_all; omega)))]; refine qF (L' := (XM bx before)) ?_; exact ⟨rfl, rfl, rfl⟩))
   all_goals rw [← e1]
   all_goals refine Zp (k + 1) (⟨hlt, by rw [hs, hw]; (first | (simp [*]; done) | (simp [*]; omega) | (simp_all; done) | (simp_all; omega))⟩) Zl Zl rfl tk inferInstance (by first | omega | (dsimp only; omega))
  ·obtain ⟨b2, off2, C2, T2, fr2, f1, hb2, hfit2, hc2⟩ := h.get (show k - 1 < l.length by omega)
   rw [e1] at f1
   cases f1
   rw [hb0] at hb2
   cases hb2
   have ek : ((k : Int) - 1).toNat = k - 1 := by omega
   rw [← ek] at hfit2
   have hc3 : List.take 7 (List.drop (off + ((k : Int) - 1).toNat * 7) C) = imV (l[k - 1]'(by omega)) := by rw [ek]; exact hc2
   clear hc2
   rw [decide_eq_false hk0, Bool.false_or] at hs hfin
   generalize l[k] = x at *
   generalize l[k - 1]'(by omega) = y at *
   generalize hQQ : ZW mo (fun _ x => rt x) (fun y x => decide (Im.page y < Im.page x)) l mo = q at *
   clear hfin0 hrt hR
   repeat' (first | (refine Zh ?_; first | (refine Zf ?_; refine qQ ?_) | refine Zm ?_) | refine Zb ?_ | (refine Zi ?_; refine Zr ?_) | (refine Zj ?_; refine Zs ?_) | intro _)
   refine ZB (Zq _ _ _) Zy ?_
   all_goals (refine ZI 0 ?_; refine ZU 1 ?_)
   all_goals (refine Zt (i := 2) ?_; ((try refine Zn ?_); (first | (refine Ze (.tmp 16) ?_; refine qC rfl rfl (XU _ bx before _ him1) ?_; rintro v ρ' L' hle ⟨rfl, rfl, rfl⟩ <;> (try simp only [kM, kN, kO])) | (refine Ze (.tmp 24) ?_; refine qC rfl rfl (YF _ _) ?_; rintro v ρ' L' hle ⟨rfl, rfl, rfl⟩ <;> (try simp only [kM, kN, kO])) | (refine Ze (.tmp 31) ?_; refine qC rfl rfl (YF _ _) ?_; rintro v ρ' L' hle ⟨rfl, rfl, rfl⟩ <;> (try simp only [kM, kN, kO])) | (refine Zm ?_; try intro _)) <;> ((try simp only [kM, kN, kO]); refine Zb ?_; refine Zo ?_)))
   all_goals (refine rUn 3 ?_; refine ZI 4 ?_)
   all_goals (first | refine Zd 5 ?_ | refine Za 5 ?_ | refine ZY 5 ?_ | (refine ZA (t := 20) rfl (fun hb => ?_) (fun hb => ?_) <;> (try simp only [kk] at hb) <;> first | refine Zd 5 ?_ | refine Za 5 ?_ | refine ZY 5 ?_))
   all_goals ((first | refine Zd 6 ?_ | refine Za 6 ?_ | refine wCm 6 ?_); (first | refine Zd 7 ?_ | refine Za 7 ?_ | refine ZY 7 ?_))
   all_goals (first | refine Zd 8 ?_ | refine Za 8 ?_ | refine ZY 8 ?_ | (refine ZA (t := 23) rfl (fun hb => ?_) (fun hb => ?_) <;> (try simp only [kk] at hb) <;> first | refine Zd 8 ?_ | refine Za 8 ?_ | refine ZY 8 ?_))
   all_goals ((first | refine Zd 9 ?_ | refine Za 9 ?_ | refine ZY 9 ?_); (first | refine Zd 10 ?_ | refine Za 10 ?_ | refine ZY 10 ?_); (first | refine Zd 11 ?_ | refine Za 11 ?_ | refine wSb 11 ?_); (first | refine Zd 12 ?_ | refine Za 12 ?_ | refine wIa 12 ?_); (first | refine Zd 13 ?_ | refine Za 13 ?_ | refine Yf 13 ?_); (first | refine Zd 15 ?_ | refine Za 15 ?_ | refine ZY 15 ?_); (first | refine Zd 16 ?_ | refine Za 16 ?_ | refine Yf 16 ?_))
   all_goals (first | refine Zd 14 ?_ | refine Za 14 ?_ | (refine Zt (i := 14) ?_; ((try refine Zn ?_); (first | (refine Ze (.tmp 16) ?_; refine qC rfl rfl (XU _ bx before _ him1) ?_; rintro v ρ' L' hle ⟨rfl, rfl, rfl⟩ <;> (try simp only [kM, kN, kO])) | (refine Ze (.tmp 24) ?_; refine qC rfl rfl (YF _ _) ?_; rintro v ρ' L' hle ⟨rfl, rfl, rfl⟩ <;> (try simp only [kM, kN, kO])) | (refine Ze (.tmp 31) ?_; refine qC rfl rfl (YF _ _) ?_; rintro v ρ' L' hle ⟨rfl, rfl, rfl⟩ <;> (try simp only [kM, kN, kO])) | (refine Zm ?_; try intro _)) <;> ((try simp only [kM, kN, kO]); refine Zb ?_; refine Zo ?_))))
   all_goals (first | refine Zd 17 ?_ | refine Za 17 ?_ | (refine Zt (i := 17) ?_; ((try refine Zn ?_); (first | (refine Ze (.tmp 16) ?_; refine qC rfl rfl (XU _ bx before _ him1) ?_; rintro v ρ' L' hle ⟨rfl, rfl, rfl⟩ <;> (try simp only [kM, kN, kO])) | (refine Ze (.tmp 24) ?_; refine qC rfl rfl (YF _ _) ?_; rintro v ρ' L' hle ⟨rfl, rfl, rfl⟩ <;> (try simp only [kM, kN, kO])) | (refine Ze (.tmp 31) ?_; refine qC rfl rfl (YF _ _) ?_; rintro v ρ' L' hle ⟨rfl, rfl, rfl⟩ <;> (try simp only [kM, kN, kO])) | (refine Zm ?_; try intro _)) <;> ((try simp only [kM, kN, kO]); refine Zb ?_; refine Zo ?_))))
   all_goals (refine ZK ?_; (first | refine Zd 18 ?_ | refine Za 18 ?_ | refine wCm 18 ?_); (first | refine Zd 19 ?_ | refine Za 19 ?_ | refine wPk 19 ?_); refine rPk 20 ?_; refine ZE ?_)
   all_goals (repeat' (first | (refine Zh ?_; first | (refine Zf ?_; refine qQ ?_) | refine Zm ?_) | refine Zb ?_ | (refine Zi ?_; refine Zr ?_) | (refine Zj ?_; refine Zs ?_) | (refine Xw ?_; refine ZR rfl rfl (fun hb => ?_) (fun hb => ?_) <;> (try simp only [decide_eq_true_eq, decide_eq_false_iff_not, Bool.not_eq_true, Bool.not_eq_false, beq_iff_eq, bne_iff_ne, ne_eq, decide_eq_decide, Bool.not_eq_eq_eq_not, Bool.not_true, Bool.not_false, beq_eq_false_iff_ne, bne_eq_false_iff_eq, Bool.and_eq_true, Bool.or_eq_true, Bool.and_eq_false_imp, Bool.or_eq_false_iff] at hb)) | (refine Ym ?_; refine Yb rfl (fun hb => ?_) (fun hb => ?_) <;> (try simp only [decide_eq_true_eq, decide_eq_false_iff_not, Bool.not_eq_true, Bool.not_eq_false, beq_iff_eq, bne_iff_ne, ne_eq, decide_eq_decide, Bool.not_eq_eq_eq_not, Bool.not_true, Bool.not_false, beq_eq_false_iff_ne, bne_eq_false_iff_eq, Bool.and_eq_true, Bool.or_eq_true, Bool.and_eq_false_imp, Bool.or_eq_false_iff] at hb)) | intro _))
   all_goals (try (rw [hfin (by rw [hw]; (first | (simp [*]; done) | (simp [*]; omega) | (simp_all; done) | (simp_all; omega)))]; refine qF (L' := (XM bx before)) ?_; exact ⟨rfl, rfl, rfl⟩))
   all_goals rw [← e1]
   all_goals refine Zp (k + 1) (⟨hlt, by rw [hs, hw]; (first | (simp [*]; done) | (simp [*]; omega) | (simp_all; done) | (simp_all; omega))⟩) Zl Zl rfl tk inferInstance (by first | omega | (dsimp only; omega))
 ·have hk2 : k = n := by omega
  subst hk2
  have hkm : k = mo := by omega
  rw [hkm] at hok
  rw [hok]
  repeat' (first | (refine Zh ?_; first | (refine Zf ?_; refine qQ ?_) | refine Zm ?_) | refine Zb ?_ | (refine Zi ?_; refine Zr ?_) | (refine Zj ?_; refine Zs ?_) | intro _)
  exact qE (L' := (XM bx before)) ⟨rfl, rfl, rfl⟩
theorem risesCkT_spec (ρ : Hp) (a : Option Addr) (n c : Nat) (l : List CkT) (h : AIn ρ 5 ckTV a n l) (hn : n ≤ 1000000) (nb pb ab : Nat) (next : Int) (v : RV) (r : Rc)  :
  Spec Tryz.prog 139 [.slice a n c, .func (.func 140) ⟨[]⟩ ⟨[]⟩, .func (.func 141) ⟨[]⟩ ⟨[.pointer (some ⟨nb, 0, none⟩), .pointer (some ⟨pb, 0, none⟩)]⟩] ρ [nextC nb next, ptrC pb ab, XA ab v r] (fun z ρ' L' => z = .bool (upB (ckTOk r.lsn next) CkT.txn l l.length) ∧ ρ' = ρ ∧ L' = [nextC nb next, ptrC pb ab, XA ab v r]) := by
 have hl := h.len
 generalize hR : (ckTOk r.lsn next) = rt
 unfold upB
 generalize hm : l.length = mo
 have hrt : ∀ x, rt x = (ckTOk r.lsn next) x := fun x => by rw [hR]
 refine Zg Tryz.func139 rfl rfl rfl fun u R => ?_
 simp only [Zx, List.cons_append, List.nil_append]
 repeat' (first | (refine Zh ?_; first | (refine Zf ?_; refine qQ ?_) | refine Zm ?_) | refine Zb ?_ | (refine Zi ?_; refine Zr ?_) | (refine Zj ?_; refine Zs ?_) | intro _)
 refine ZC [(0, _), (1, _), (2, _), (9, _), (10, _)] (fun (ζ : (Nat)) => [(11, .int .i64 ζ), (6, .bool false)]) (fun (ζ : (Nat)) => ρ) (fun (ζ : (Nat)) => [nextC nb next, ptrC pb ab, XA ab v r]) (fun (ζ : (Nat)) => ζ ≤ n ∧ ZW mo (fun _ x => rt x) (fun y x => decide (CkT.txn y < CkT.txn x)) l ζ = true) (fun (ζ : (Nat)) => n - ζ) (0) (⟨Nat.zero_le _, by rw [ZW]; simp [hm]⟩) Zl Zl rfl tk ?_
 rintro k hI
 try simp only [List.cons_append, List.nil_append, List.append_assoc, List.append_eq] at hI ⊢
 try dsimp only at hI ⊢
 obtain ⟨hk, hok⟩ := hI
 by_cases hlt : k < n
 ·obtain ⟨b, off, C, T, fr, e1, hb0, hfit, hc⟩ := h.get (show k < l.length by omega)
  have hs := Xt (most := mo) (right := fun _ x => rt x) (lt := fun y x => decide (CkT.txn y < CkT.txn x)) (show k < l.length by omega)
  have hfin0 := fun (e : ZW mo (fun _ x => rt x) (fun y x => decide (CkT.txn y < CkT.txn x)) l (k + 1) = false) => XK e (show k + 1 ≤ mo by omega)
  rw [hok, Bool.true_and] at hs
  skip
  have hw := hrt l[k]
  have hfin : (rt l[k] && (decide (k = 0) || decide (CkT.txn (l[k - 1]'(by omega)) < CkT.txn l[k]))) = false → ZW mo (fun _ x => rt x) (fun y x => decide (CkT.txn y < CkT.txn x)) l mo = false := fun e => hfin0 (by rw [hs]; exact e)
  rw [e1]
  by_cases hk0 : k = 0
  ·rw [decide_eq_true hk0, Bool.true_or, Bool.and_true] at hs hfin
   generalize l[k] = x at *
   generalize hQQ : ZW mo (fun _ x => rt x) (fun y x => decide (CkT.txn y < CkT.txn x)) l mo = q at *
   clear hfin0 hrt hR
   repeat' (first | (refine Zh ?_; first | (refine Zf ?_; refine qQ ?_) | refine Zm ?_) | refine Zb ?_ | (refine Zi ?_; refine Zr ?_) | (refine Zj ?_; refine Zs ?_) | intro _)
   refine ZB (Zq _ _ _) Zy ?_
   all_goals (refine ZI 0 ?_; refine ZU 1 ?_)
   all_goals (refine Zt (i := 2) ?_; ((try refine Zn ?_); (first | (refine Ze (.tmp 16) ?_; refine qC rfl rfl (ckpt2_spec _ nb pb ab next v r _) ?_; rintro v ρ' L' hle ⟨rfl, rfl, rfl⟩ <;> (try simp only [kM, kN, kO])) | (refine Ze (.tmp 24) ?_; refine qC rfl rfl (YZ _ _) ?_; rintro v ρ' L' hle ⟨rfl, rfl, rfl⟩ <;> (try simp only [kM, kN, kO])) | (refine Ze (.tmp 31) ?_; refine qC rfl rfl (YZ _ _) ?_; rintro v ρ' L' hle ⟨rfl, rfl, rfl⟩ <;> (try simp only [kM, kN, kO])) | (refine Zm ?_; try intro _)) <;> ((try simp only [kM, kN, kO]); refine Zb ?_; refine Zo ?_)))
   all_goals (refine rUn 3 ?_; refine ZI 4 ?_)
   all_goals (first | refine Zd 5 ?_ | refine Za 5 ?_ | refine ZY 5 ?_ | (refine ZA (t := 20) rfl (fun hb => ?_) (fun hb => ?_) <;> (try simp only [kk] at hb) <;> first | refine Zd 5 ?_ | refine Za 5 ?_ | refine ZY 5 ?_))
   all_goals ((first | refine Zd 6 ?_ | refine Za 6 ?_ | refine wCm 6 ?_); (first | refine Zd 7 ?_ | refine Za 7 ?_ | refine ZY 7 ?_))
   all_goals (first | refine Zd 8 ?_ | refine Za 8 ?_ | refine ZY 8 ?_ | (refine ZA (t := 23) rfl (fun hb => ?_) (fun hb => ?_) <;> (try simp only [kk] at hb) <;> first | refine Zd 8 ?_ | refine Za 8 ?_ | refine ZY 8 ?_))
   all_goals ((first | refine Zd 9 ?_ | refine Za 9 ?_ | refine ZY 9 ?_); (first | refine Zd 10 ?_ | refine Za 10 ?_ | refine ZY 10 ?_); (first | refine Zd 11 ?_ | refine Za 11 ?_ | refine wSb 11 ?_); (first | refine Zd 12 ?_ | refine Za 12 ?_ | refine wIa 12 ?_); (first | refine Zd 13 ?_ | refine Za 13 ?_ | refine Yf 13 ?_); (first | refine Zd 15 ?_ | refine Za 15 ?_ | refine ZY 15 ?_); (first | refine Zd 16 ?_ | refine Za 16 ?_ | refine Yf 16 ?_))
   all_goals (first | refine Zd 14 ?_ | refine Za 14 ?_ | (refine Zt (i := 14) ?_; ((try refine Zn ?_); (first | (refine Ze (.tmp 16) ?_; refine qC rfl rfl (ckpt2_spec _ nb pb ab next v r _) ?_; rintro v ρ' L' hle ⟨rfl, rfl, rfl⟩ <;> (try simp only [kM, kN, kO])) | (refine Ze (.tmp 24) ?_; refine qC rfl rfl (YZ _ _) ?_; rintro v ρ' L' hle ⟨rfl, rfl, rfl⟩ <;> (try simp only [kM, kN, kO])) | (refine Ze (.tmp 31) ?_; refine qC rfl rfl (YZ _ _) ?_; rintro v ρ' L' hle ⟨rfl, rfl, rfl⟩ <;> (try simp only [kM, kN, kO])) | (refine Zm ?_; try intro _)) <;> ((try simp only [kM, kN, kO]); refine Zb ?_; refine Zo ?_))))
   all_goals (first | refine Zd 17 ?_ | refine Za 17 ?_ | (refine Zt (i := 17) ?_; ((try refine Zn ?_); (first | (refine Ze (.tmp 16) ?_; refine qC rfl rfl (ckpt2_spec _ nb pb ab next v r _) ?_; rintro v ρ' L' hle ⟨rfl, rfl, rfl⟩ <;> (try simp only [kM, kN, kO])) | (refine Ze (.tmp 24) ?_; refine qC rfl rfl (YZ _ _) ?_; rintro v ρ' L' hle ⟨rfl, rfl, rfl⟩ <;> (try simp only [kM, kN, kO])) | (refine Ze (.tmp 31) ?_; refine qC rfl rfl (YZ _ _) ?_; rintro v ρ' L' hle ⟨rfl, rfl, rfl⟩ <;> (try simp only [kM, kN, kO])) | (refine Zm ?_; try intro _)) <;> ((try simp only [kM, kN, kO]); refine Zb ?_; refine Zo ?_))))
   all_goals (refine ZK ?_; (first | refine Zd 18 ?_ | refine Za 18 ?_ | refine wCm 18 ?_); (first | refine Zd 19 ?_ | refine Za 19 ?_ | refine wPk 19 ?_); refine rPk 20 ?_; refine ZE ?_)
   all_goals (repeat' (first | (refine Zh ?_; first | (refine Zf ?_; refine qQ ?_) | refine Zm ?_) | refine Zb ?_ | (refine Zi ?_; refine Zr ?_) | (refine Zj ?_; refine Zs ?_) | (refine Xw ?_; refine ZR rfl rfl (fun hb => ?_) (fun hb => ?_) <;> (try simp only [decide_eq_true_eq, decide_eq_false_iff_not, Bool.not_eq_true, Bool.not_eq_false, beq_iff_eq, bne_iff_ne, ne_eq, decide_eq_decide, Bool.not_eq_eq_eq_not, Bool.not_true, Bool.not_false, beq_eq_false_iff_ne, bne_eq_false_iff_eq, Bool.and_eq_true, Bool.or_eq_true, Bool.and_eq_false_imp, Bool.or_eq_false_iff] at hb)) | (refine Ym ?_; refine Yb rfl (fun hb => ?_) (fun hb => ?_) <;> (try simp only [decide_eq_true_eq, decide_eq_false_iff_not, Bool.not_eq_true, Bool.not_eq_false, beq_iff_eq, bne_iff_ne, ne_eq, decide_eq_decide, Bool.not_eq_eq_eq_not, Bool.not_true, Bool.not_false, beq_eq_false_iff_ne, bne_eq_false_iff_eq, Bool.and_eq_true, Bool.or_eq_true, Bool.and_eq_false_imp, Bool.or_eq_false_iff] at hb)) | intro _))
   all_goals (try (rw [hfin (by rw [hw]; (first | (simp [*]; done) | (simp [*]; omega) | (simp_all; done) | (simp_all; omega)))]; refine qF (L' := [nextC nb next, ptrC pb ab, XA ab v r]) ?_; exact ⟨rfl, rfl, rfl⟩))
   all_goals rw [← e1]
   all_goals refine Zp (k + 1) (⟨hlt, by rw [hs, hw]; (first | (simp [*]; done) | (simp [*]; omega) | (simp_all; done) | (simp_all; omega))⟩) Zl Zl rfl tk inferInstance (by first | omega | (dsimp only; omega))
  ·obtain ⟨b2, off2, C2, T2, fr2, f1, hb2, hfit2, hc2⟩ := h.get (show k - 1 < l.length by omega)
   rw [e1] at f1
   cases f1
   rw [hb0] at hb2
   cases hb2
   have ek : ((k : Int) - 1).toNat = k - 1 := by omega
   rw [← ek] at hfit2
   have hc3 : List.take 5 (List.drop (off + ((k : Int) - 1).toNat * 5) C) = ckTV (l[k - 1]'(by omega)) := by rw [ek]; exact hc2
   clear hc2
   rw [decide_eq_false hk0, Bool.false_or] at hs hfin
   generalize l[k] = x at *
   generalize l[k - 1]'(by omega) = y at *
   generalize hQQ : ZW mo (fun _ x => rt x) (fun y x => decide (CkT.txn y < CkT.txn x)) l mo = q at *
   clear hfin0 hrt hR
   repeat' (first | (refine Zh ?_; first | (refine Zf ?_; refine qQ ?_) | refine Zm ?_) | refine Zb ?_ | (refine Zi ?_; refine Zr ?_) | (refine Zj ?_; refine Zs ?_) | intro _)
   refine ZB (Zq _ _ _) Zy ?_
   all_goals (refine ZI 0 ?_; refine ZU 1 ?_)
   all_goals (refine Zt (i := 2) ?_; ((try refine Zn ?_); (first | (refine Ze (.tmp 16) ?_; refine qC rfl rfl (ckpt2_spec _ nb pb ab next v r _) ?_; rintro v ρ' L' hle ⟨rfl, rfl, rfl⟩ <;> (try simp only [kM, kN, kO])) | (refine Ze (.tmp 24) ?_; refine qC rfl rfl (YZ _ _) ?_; rintro v ρ' L' hle ⟨rfl, rfl, rfl⟩ <;> (try simp only [kM, kN, kO])) | (refine Ze (.tmp 31) ?_; refine qC rfl rfl (YZ _ _) ?_; rintro v ρ' L' hle ⟨rfl, rfl, rfl⟩ <;> (try simp only [kM, kN, kO])) | (refine Zm ?_; try intro _)) <;> ((try simp only [kM, kN, kO]); refine Zb ?_; refine Zo ?_)))
   all_goals (refine rUn 3 ?_; refine ZI 4 ?_)
   all_goals (first | refine Zd 5 ?_ | refine Za 5 ?_ | refine ZY 5 ?_ | (refine ZA (t := 20) rfl (fun hb => ?_) (fun hb => ?_) <;> (try simp only [kk] at hb) <;> first | refine Zd 5 ?_ | refine Za 5 ?_ | refine ZY 5 ?_))
   all_goals ((first | refine Zd 6 ?_ | refine Za 6 ?_ | refine wCm 6 ?_); (first | refine Zd 7 ?_ | refine Za 7 ?_ | refine ZY 7 ?_))
   all_goals (first | refine Zd 8 ?_ | refine Za 8 ?_ | refine ZY 8 ?_ | (refine ZA (t := 23) rfl (fun hb => ?_) (fun hb => ?_) <;> (try simp only [kk] at hb) <;> first | refine Zd 8 ?_ | refine Za 8 ?_ | refine ZY 8 ?_))
   all_goals ((first | refine Zd 9 ?_ | refine Za 9 ?_ | refine ZY 9 ?_); (first | refine Zd 10 ?_ | refine Za 10 ?_ | refine ZY 10 ?_); (first | refine Zd 11 ?_ | refine Za 11 ?_ | refine wSb 11 ?_); (first | refine Zd 12 ?_ | refine Za 12 ?_ | refine wIa 12 ?_); (first | refine Zd 13 ?_ | refine Za 13 ?_ | refine Yf 13 ?_); (first | refine Zd 15 ?_ | refine Za 15 ?_ | refine ZY 15 ?_); (first | refine Zd 16 ?_ | refine Za 16 ?_ | refine Yf 16 ?_))
   all_goals (first | refine Zd 14 ?_ | refine Za 14 ?_ | (refine Zt (i := 14) ?_; ((try refine Zn ?_); (first | (refine Ze (.tmp 16) ?_; refine qC rfl rfl (ckpt2_spec _ nb pb ab next v r _) ?_; rintro v ρ' L' hle ⟨rfl, rfl, rfl⟩ <;> (try simp only [kM, kN, kO])) | (refine Ze (.tmp 24) ?_; refine qC rfl rfl (YZ _ _) ?_; rintro v ρ' L' hle ⟨rfl, rfl, rfl⟩ <;> (try simp only [kM, kN, kO])) | (refine Ze (.tmp 31) ?_; refine qC rfl rfl (YZ _ _) ?_; rintro v ρ' L' hle ⟨rfl, rfl, rfl⟩ <;> (try simp only [kM, kN, kO])) | (refine Zm ?_; try intro _)) <;> ((try simp only [kM, kN, kO]); refine Zb ?_; refine Zo ?_))))
   all_goals (first | refine Zd 17 ?_ | refine Za 17 ?_ | (refine Zt (i := 17) ?_; ((try refine Zn ?_); (first | (refine Ze (.tmp 16) ?_; refine qC rfl rfl (ckpt2_spec _ nb pb ab next v r _) ?_; rintro v ρ' L' hle ⟨rfl, rfl, rfl⟩ <;> (try simp only [kM, kN, kO])) | (refine Ze (.tmp 24) ?_; refine qC rfl rfl (YZ _ _) ?_; rintro v ρ' L' hle ⟨rfl, rfl, rfl⟩ <;> (try simp only [kM, kN, kO])) | (refine Ze (.tmp 31) ?_; refine qC rfl rfl (YZ _ _) ?_; rintro v ρ' L' hle ⟨rfl, rfl, rfl⟩ <;> (try simp only [kM, kN, kO])) | (refine Zm ?_; try intro _)) <;> ((try simp only [kM, kN, kO]); refine Zb ?_; refine Zo ?_))))
   all_goals (refine ZK ?_; (first | refine Zd 18 ?_ | refine Za 18 ?_ | refine wCm 18 ?_); (first | refine Zd 19 ?_ | refine Za 19 ?_ | refine wPk 19 ?_); refine rPk 20 ?_; refine ZE ?_)
   all_goals (repeat' (first | (refine Zh ?_; first | (refine Zf ?_; refine qQ ?_) | refine Zm ?_) | refine Zb ?_ | (refine Zi ?_; refine Zr ?_) | (refine Zj ?_; refine Zs ?_) | (refine Xw ?_; refine ZR rfl rfl (fun hb => ?_) (fun hb => ?_) <;> (try simp only [decide_eq_true_eq, decide_eq_false_iff_not, Bool.not_eq_true, Bool.not_eq_false, beq_iff_eq, bne_iff_ne, ne_eq, decide_eq_decide, Bool.not_eq_eq_eq_not, Bool.not_true, Bool.not_false, beq_eq_false_iff_ne, bne_eq_false_iff_eq, Bool.and_eq_true, Bool.or_eq_true, Bool.and_eq_false_imp, Bool.or_eq_false_iff] at hb)) | (refine Ym ?_; refine Yb rfl (fun hb => ?_) (fun hb => ?_) <;> (try simp only [decide_eq_true_eq, decide_eq_false_iff_not, Bool.not_eq_true, Bool.not_eq_false, beq_iff_eq, bne_iff_ne, ne_eq, decide_eq_decide, Bool.not_eq_eq_eq_not, Bool.not_true, Bool.not_false, beq_eq_false_iff_ne, bne_eq_false_iff_eq, Bool.and_eq_true, Bool.or_eq_true, Bool.and_eq_false_imp, Bool.or_eq_false_iff] at hb)) | intro _))
   all_goals (try (rw [hfin (by rw [hw]; (first | (simp [*]; done) | (simp [*]; omega) | (simp_all; done) | (simp_all; omega)))]; refine qF (L' := [nextC nb next, ptrC pb ab, XA ab v r]) ?_; exact ⟨rfl, rfl, rfl⟩))
   all_goals rw [← e1]
   all_goals refine Zp (k + 1) (⟨hlt, by rw [hs, hw]; (first | (simp [*]; done) | (simp [*]; omega) | (simp_all; done) | (simp_all; omega))⟩) Zl Zl rfl tk inferInstance (by first | omega | (dsimp only; omega))
 ·have hk2 : k = n := by omega
  subst hk2
  have hkm : k = mo := by omega
  rw [hkm] at hok
  rw [hok]
  repeat' (first | (refine Zh ?_; first | (refine Zf ?_; refine qQ ?_) | refine Zm ?_) | refine Zb ?_ | (refine Zi ?_; refine Zr ?_) | (refine Zj ?_; refine Zs ?_) | intro _)
  exact qE (L' := [nextC nb next, ptrC pb ab, XA ab v r]) ⟨rfl, rfl, rfl⟩
theorem risesCkP_spec (ρ : Hp) (a : Option Addr) (n c : Nat) (l : List Yp) (h : AIn ρ 2 YM a n l) (hn : n ≤ 1000000) (pb ab : Nat) (v : RV) (r : Rc)  :
  Spec Tryz.prog 142 [.slice a n c, .func (.func 143) ⟨[]⟩ ⟨[]⟩, .func (.func 144) ⟨[]⟩ ⟨[.pointer (some ⟨pb, 0, none⟩)]⟩] ρ [ptrC pb ab, XA ab v r] (fun z ρ' L' => z = .bool (upB (ckPOk r.lsn) Yp.page l l.length) ∧ ρ' = ρ ∧ L' = [ptrC pb ab, XA ab v r]) := by
 have hl := h.len
 generalize hR : (ckPOk r.lsn) = rt
 unfold upB
 generalize hm : l.length = mo
 have hrt : ∀ x, rt x = (ckPOk r.lsn) x := fun x => by rw [hR]
 refine Zg Tryz.func142 rfl rfl rfl fun u R => ?_
 simp only [Zx, List.cons_append, List.nil_append]
 repeat' (first | (refine Zh ?_; first | (refine Zf ?_; refine qQ ?_) | refine Zm ?_) | refine Zb ?_ | (refine Zi ?_; refine Zr ?_) | (refine Zj ?_; refine Zs ?_) | intro _)
 refine ZC [(0, _), (1, _), (2, _), (9, _), (10, _)] (fun (ζ : (Nat)) => [(11, .int .i64 ζ), (6, .bool false)]) (fun (ζ : (Nat)) => ρ) (fun (ζ : (Nat)) => [ptrC pb ab, XA ab v r]) (fun (ζ : (Nat)) => ζ ≤ n ∧ ZW mo (fun _ x => rt x) (fun y x => decide (Yp.page y < Yp.page x)) l ζ = true) (fun (ζ : (Nat)) => n - ζ) (0) (⟨Nat.zero_le _, by rw [ZW]; simp [hm]⟩) Zl Zl rfl tk ?_
 rintro k hI
 try simp only [List.cons_append, List.nil_append, List.append_assoc, List.append_eq] at hI ⊢
 try dsimp only at hI ⊢
 obtain ⟨hk, hok⟩ := hI
 by_cases hlt : k < n
 ·obtain ⟨b, off, C, T, fr, e1, hb0, hfit, hc⟩ := h.get (show k < l.length by omega)
  have hs := Xt (most := mo) (right := fun _ x => rt x) (lt := fun y x => decide (Yp.page y < Yp.page x)) (show k < l.length by omega)
  have hfin0 := fun (e : ZW mo (fun _ x => rt x) (fun y x => decide (Yp.page y < Yp.page x)) l (k + 1) = false) => XK e (show k + 1 ≤ mo by omega)
  rw [hok, Bool.true_and] at hs
  skip
  have hw := hrt l[k]
  have hfin : (rt l[k] && (decide (k = 0) || decide (Yp.page (l[k - 1]'(by omega)) < Yp.page l[k]))) = false → ZW mo (fun _ x => rt x) (fun y x => decide (Yp.page y < Yp.page x)) l mo = false := fun e => hfin0 (by rw [hs]; exact e)
  rw [e1]
  by_cases hk0 : k = 0
  ·rw [decide_eq_true hk0, Bool.true_or, Bool.and_true] at hs hfin
   generalize l[k] = x at *
   generalize hQQ : ZW mo (fun _ x => rt x) (fun y x => decide (Yp.page y < Yp.page x)) l mo = q at *
   clear hfin0 hrt hR
   repeat' (first | (refine Zh ?_; first | (refine Zf ?_; refine qQ ?_) | refine Zm ?_) | refine Zb ?_ | (refine Zi ?_; refine Zr ?_) | (refine Zj ?_; refine Zs ?_) | intro _)
   refine ZB (Zq _ _ _) Zy ?_
   all_goals (refine ZI 0 ?_; refine ZU 1 ?_)
   all_goals (refine Zt (i := 2) ?_; ((try refine Zn ?_); (first | (refine Ze (.tmp 16) ?_; refine qC rfl rfl (ckpt4_spec _ pb ab v r _) ?_; rintro v ρ' L' hle ⟨rfl, rfl, rfl⟩ <;> (try simp only [kM, kN, kO])) | (refine Ze (.tmp 24) ?_; refine qC rfl rfl (Xa _ _) ?_; rintro v ρ' L' hle ⟨rfl, rfl, rfl⟩ <;> (try simp only [kM, kN, kO])) | (refine Ze (.tmp 31) ?_; refine qC rfl rfl (Xa _ _) ?_; rintro v ρ' L' hle ⟨rfl, rfl, rfl⟩ <;> (try simp only [kM, kN, kO])) | (refine Zm ?_; try intro _)) <;> ((try simp only [kM, kN, kO]); refine Zb ?_; refine Zo ?_)))
   all_goals (refine rUn 3 ?_; refine ZI 4 ?_)
   all_goals (first | refine Zd 5 ?_ | refine Za 5 ?_ | refine ZY 5 ?_ | (refine ZA (t := 20) rfl (fun hb => ?_) (fun hb => ?_) <;> (try simp only [kk] at hb) <;> first | refine Zd 5 ?_ | refine Za 5 ?_ | refine ZY 5 ?_))
   all_goals ((first | refine Zd 6 ?_ | refine Za 6 ?_ | refine wCm 6 ?_); (first | refine Zd 7 ?_ | refine Za 7 ?_ | refine ZY 7 ?_))
   all_goals (first | refine Zd 8 ?_ | refine Za 8 ?_ | refine ZY 8 ?_ | (refine ZA (t := 23) rfl (fun hb => ?_) (fun hb => ?_) <;> (try simp only [kk] at hb) <;> first | refine Zd 8 ?_ | refine Za 8 ?_ | refine ZY 8 ?_))
   all_goals ((first | refine Zd 9 ?_ | refine Za 9 ?_ | refine ZY 9 ?_); (first | refine Zd 10 ?_ | refine Za 10 ?_ | refine ZY 10 ?_); (first | refine Zd 11 ?_ | refine Za 11 ?_ | refine wSb 11 ?_); (first | refine Zd 12 ?_ | refine Za 12 ?_ | refine wIa 12 ?_); (first | refine Zd 13 ?_ | refine Za 13 ?_ | refine Yf 13 ?_); (first | refine Zd 15 ?_ | refine Za 15 ?_ | refine ZY 15 ?_); (first | refine Zd 16 ?_ | refine Za 16 ?_ | refine Yf 16 ?_))
   all_goals (first | refine Zd 14 ?_ | refine Za 14 ?_ | (refine Zt (i := 14) ?_; ((try refine Zn ?_); (first | (refine Ze (.tmp 16) ?_; refine qC rfl rfl (ckpt4_spec _ pb ab v r _) ?_; rintro v ρ' L' hle ⟨rfl, rfl, rfl⟩ <;> (try simp only [kM, kN, kO])) | (refine Ze (.tmp 24) ?_; refine qC rfl rfl (Xa _ _) ?_; rintro v ρ' L' hle ⟨rfl, rfl, rfl⟩ <;> (try simp only [kM, kN, kO])) | (refine Ze (.tmp 31) ?_; refine qC rfl rfl (Xa _ _) ?_; rintro v ρ' L' hle ⟨rfl, rfl, rfl⟩ <;> (try simp only [kM, kN, kO])) | (refine Zm ?_; try intro _)) <;> ((try simp only [kM, kN, kO]); refine Zb ?_; refine Zo ?_))))
   all_goals (first | refine Zd 17 ?_ | refine Za 17 ?_ | (refine Zt (i := 17) ?_; ((try refine Zn ?_); (first | (refine Ze (.tmp 16) ?_; refine qC rfl rfl (ckpt4_spec _ pb ab v r _) ?_; rintro v ρ' L' hle ⟨rfl, rfl, rfl⟩ <;> (try simp only [kM, kN, kO])) | (refine Ze (.tmp 24) ?_; refine qC rfl rfl (Xa _ _) ?_; rintro v ρ' L' hle ⟨rfl, rfl, rfl⟩ <;> (try simp only [kM, kN, kO])) | (refine Ze (.tmp 31) ?_; refine qC rfl rfl (Xa _ _) ?_; rintro v ρ' L' hle ⟨rfl, rfl, rfl⟩ <;> (try simp only [kM, kN, kO])) | (refine Zm ?_; try intro _)) <;> ((try simp only [kM, kN, kO]); refine Zb ?_; refine Zo ?_))))
   all_goals (refine ZK ?_; (first | refine Zd 18 ?_ | refine Za 18 ?_ | refine wCm 18 ?_); (first | refine Zd 19 ?_ | refine Za 19 ?_ | refine wPk 19 ?_); refine rPk 20 ?_; refine ZE ?_)
   all_goals (repeat' (first | (refine Zh ?_; first | (refine Zf ?_; refine qQ ?_) | refine Zm ?_) | refine Zb ?_ | (refine Zi ?_; refine Zr ?_) | (refine Zj ?_; refine Zs ?_) | (refine Xw ?_; refine ZR rfl rfl (fun hb => ?_) (fun hb => ?_) <;> (try simp only [decide_eq_true_eq, decide_eq_false_iff_not, Bool.not_eq_true, Bool.not_eq_false, beq_iff_eq, bne_iff_ne, ne_eq, decide_eq_decide, Bool.not_eq_eq_eq_not, Bool.not_true, Bool.not_false, beq_eq_false_iff_ne, bne_eq_false_iff_eq, Bool.and_eq_true, Bool.or_eq_true, Bool.and_eq_false_imp, Bool.or_eq_false_iff] at hb)) | (refine Ym ?_; refine Yb rfl (fun hb => ?_) (fun hb => ?_) <;> (try simp only [decide_eq_true_eq, decide_eq_false_iff_not, Bool.not_eq_true, Bool.not_eq_false, beq_iff_eq, bne_iff_ne, ne_eq, decide_eq_decide, Bool.not_eq_eq_eq_not, Bool.not_true, Bool.not_false, beq_eq_false_iff_ne, bne_eq_false_iff_eq, Bool.and_eq_true, Bool.or_eq_true, Bool.and_eq_false_imp, Bool.or_eq_false_iff] at hb)) | intro _))
   all_goals (try (rw [hfin (by rw [hw]; (first | (simp [*]; done) | (simp [*]; omega) | (simp_all; done) | (simp_all; omega)))]; refine qF (L' := [ptrC pb ab, XA ab v r]) ?_; exact ⟨rfl, rfl, rfl⟩))
   all_goals rw [← e1]
   all_goals refine Zp (k + 1) (⟨hlt, by rw [hs, hw]; (first | (simp [*]; done) | (simp [*]; omega) | (simp_all; done) | (simp_all; omega))⟩) Zl Zl rfl tk inferInstance (by first | omega | (dsimp only; omega))
  ·obtain ⟨b2, off2, C2, T2, fr2, f1, hb2, hfit2, hc2⟩ := h.get (show k - 1 < l.length by omega)
   rw [e1] at f1
   cases f1
   rw [hb0] at hb2
   cases hb2
   have ek : ((k : Int) - 1).toNat = k - 1 := by omega
   rw [← ek] at hfit2
   have hc3 : List.take 2 (List.drop (off + ((k : Int) - 1).toNat * 2) C) = YM (l[k - 1]'(by omega)) := by rw [ek]; exact hc2
   clear hc2
   rw [decide_eq_false hk0, Bool.false_or] at hs hfin
   generalize l[k] = x at *
   generalize l[k - 1]'(by omega) = y at *
   generalize hQQ : ZW mo (fun _ x => rt x) (fun y x => decide (Yp.page y < Yp.page x)) l mo = q at *
   clear hfin0 hrt hR
   repeat' (first | (refine Zh ?_; first | (refine Zf ?_; refine qQ ?_) | refine Zm ?_) | refine Zb ?_ | (refine Zi ?_; refine Zr ?_) | (refine Zj ?_; refine Zs ?_) | intro _)
   refine ZB (Zq _ _ _) Zy ?_
   all_goals (refine ZI 0 ?_; refine ZU 1 ?_)
   all_goals (refine Zt (i := 2) ?_; ((try refine Zn ?_); (first | (refine Ze (.tmp 16) ?_; refine qC rfl rfl (ckpt4_spec _ pb ab v r _) ?_; rintro v ρ' L' hle ⟨rfl, rfl, rfl⟩ <;> (try simp only [kM, kN, kO])) | (refine Ze (.tmp 24) ?_; refine qC rfl rfl (Xa _ _) ?_; rintro v ρ' L' hle ⟨rfl, rfl, rfl⟩ <;> (try simp only [kM, kN, kO])) | (refine Ze (.tmp 31) ?_; refine qC rfl rfl (Xa _ _) ?_; rintro v ρ' L' hle ⟨rfl, rfl, rfl⟩ <;> (try simp only [kM, kN, kO])) | (refine Zm ?_; try intro _)) <;> ((try simp only [kM, kN, kO]); refine Zb ?_; refine Zo ?_)))
   all_goals (refine rUn 3 ?_; refine ZI 4 ?_)
   all_goals (first | refine Zd 5 ?_ | refine Za 5 ?_ | refine ZY 5 ?_ | (refine ZA (t := 20) rfl (fun hb => ?_) (fun hb => ?_) <;> (try simp only [kk] at hb) <;> first | refine Zd 5 ?_ | refine Za 5 ?_ | refine ZY 5 ?_))
   all_goals ((first | refine Zd 6 ?_ | refine Za 6 ?_ | refine wCm 6 ?_); (first | refine Zd 7 ?_ | refine Za 7 ?_ | refine ZY 7 ?_))
   all_goals (first | refine Zd 8 ?_ | refine Za 8 ?_ | refine ZY 8 ?_ | (refine ZA (t := 23) rfl (fun hb => ?_) (fun hb => ?_) <;> (try simp only [kk] at hb) <;> first | refine Zd 8 ?_ | refine Za 8 ?_ | refine ZY 8 ?_))
   all_goals ((first | refine Zd 9 ?_ | refine Za 9 ?_ | refine ZY 9 ?_); (first | refine Zd 10 ?_ | refine Za 10 ?_ | refine ZY 10 ?_); (first | refine Zd 11 ?_ | refine Za 11 ?_ | refine wSb 11 ?_); (first | refine Zd 12 ?_ | refine Za 12 ?_ | refine wIa 12 ?_); (first | refine Zd 13 ?_ | refine Za 13 ?_ | refine Yf 13 ?_); (first | refine Zd 15 ?_ | refine Za 15 ?_ | refine ZY 15 ?_); (first | refine Zd 16 ?_ | refine Za 16 ?_ | refine Yf 16 ?_))
   all_goals (first | refine Zd 14 ?_ | refine Za 14 ?_ | (refine Zt (i := 14) ?_; ((try refine Zn ?_); (first | (refine Ze (.tmp 16) ?_; refine qC rfl rfl (ckpt4_spec _ pb ab v r _) ?_; rintro v ρ' L' hle ⟨rfl, rfl, rfl⟩ <;> (try simp only [kM, kN, kO])) | (refine Ze (.tmp 24) ?_; refine qC rfl rfl (Xa _ _) ?_; rintro v ρ' L' hle ⟨rfl, rfl, rfl⟩ <;> (try simp only [kM, kN, kO])) | (refine Ze (.tmp 31) ?_; refine qC rfl rfl (Xa _ _) ?_; rintro v ρ' L' hle ⟨rfl, rfl, rfl⟩ <;> (try simp only [kM, kN, kO])) | (refine Zm ?_; try intro _)) <;> ((try simp only [kM, kN, kO]); refine Zb ?_; refine Zo ?_))))
   all_goals (first | refine Zd 17 ?_ | refine Za 17 ?_ | (refine Zt (i := 17) ?_; ((try refine Zn ?_); (first | (refine Ze (.tmp 16) ?_; refine qC rfl rfl (ckpt4_spec _ pb ab v r _) ?_; rintro v ρ' L' hle ⟨rfl, rfl, rfl⟩ <;> (try simp only [kM, kN, kO])) | (refine Ze (.tmp 24) ?_; refine qC rfl rfl (Xa _ _) ?_; rintro v ρ' L' hle ⟨rfl, rfl, rfl⟩ <;> (try simp only [kM, kN, kO])) | (refine Ze (.tmp 31) ?_; refine qC rfl rfl (Xa _ _) ?_; rintro v ρ' L' hle ⟨rfl, rfl, rfl⟩ <;> (try simp only [kM, kN, kO])) | (refine Zm ?_; try intro _)) <;> ((try simp only [kM, kN, kO]); refine Zb ?_; refine Zo ?_))))
   all_goals (refine ZK ?_; (first | refine Zd 18 ?_ | refine Za 18 ?_ | refine wCm 18 ?_); (first | refine Zd 19 ?_ | refine Za 19 ?_ | refine wPk 19 ?_); refine rPk 20 ?_; refine ZE ?_)
   all_goals (repeat' (first | (refine Zh ?_; first | (refine Zf ?_; refine qQ ?_) | refine Zm ?_) | refine Zb ?_ | (refine Zi ?_; refine Zr ?_) | (refine Zj ?_; refine Zs ?_) | (refine Xw ?_; refine ZR rfl rfl (fun hb => ?_) (fun hb => ?_) <;> (try simp only [decide_eq_true_eq, decide_eq_false_iff_not, Bool.not_eq_true, Bool.not_eq_false, beq_iff_eq, bne_iff_ne, ne_eq, decide_eq_decide, Bool.not_eq_eq_eq_not, Bool.not_true, Bool.not_false, beq_eq_false_iff_ne, bne_eq_false_iff_eq, Bool.and_eq_true, Bool.or_eq_true, Bool.and_eq_false_imp, Bool.or_eq_false_iff] at hb)) | (refine Ym ?_; refine Yb rfl (fun hb => ?_) (fun hb => ?_) <;> (try simp only [decide_eq_true_eq, decide_eq_false_iff_not, Bool.not_eq_true, Bool.not_eq_false, beq_iff_eq, bne_iff_ne, ne_eq, decide_eq_decide, Bool.not_eq_eq_eq_not, Bool.not_true, Bool.not_false, beq_eq_false_iff_ne, bne_eq_false_iff_eq, Bool.and_eq_true, Bool.or_eq_true, Bool.and_eq_false_imp, Bool.or_eq_false_iff] at hb)) | intro _))
   all_goals (try (rw [hfin (by rw [hw]; (first | (simp [*]; done) | (simp [*]; omega) | (simp_all; done) | (simp_all; omega)))]; refine qF (L' := [ptrC pb ab, XA ab v r]) ?_; exact ⟨rfl, rfl, rfl⟩))
   all_goals rw [← e1]
   all_goals refine Zp (k + 1) (⟨hlt, by rw [hs, hw]; (first | (simp [*]; done) | (simp [*]; omega) | (simp_all; done) | (simp_all; omega))⟩) Zl Zl rfl tk inferInstance (by first | omega | (dsimp only; omega))
 ·have hk2 : k = n := by omega
  subst hk2
  have hkm : k = mo := by omega
  rw [hkm] at hok
  rw [hok]
  repeat' (first | (refine Zh ?_; first | (refine Zf ?_; refine qQ ?_) | refine Zm ?_) | refine Zb ?_ | (refine Zi ?_; refine Zr ?_) | (refine Zj ?_; refine Zs ?_) | intro _)
  exact qE (L' := [ptrC pb ab, XA ab v r]) ⟨rfl, rfl, rfl⟩
end Go.Proofs.E
