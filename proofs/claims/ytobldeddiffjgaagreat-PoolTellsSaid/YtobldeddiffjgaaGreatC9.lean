/- The law PoolTells. Part 9 of 20. -/
import Derived.Test.YtobldeddiffjgaaGreatC8
namespace Go.Proofs.E
open Go
set_option linter.unusedVariables false
set_option linter.unusedSimpArgs false
set_option linter.unusedSectionVars false
set_option maxRecDepth 4000
set_option maxHeartbeats 1000000
attribute [local irreducible] Yl TL TC TE Spec XU R1 Hp.le EnvLe TS TR YS Zr
theorem Vc (ρ : Hp) (n : Int) : Spec Tryz.prog 218 [.int .i64 n] ρ [] (fun v ρ' L' => v = .bool (pageOk n) ∧ ρ' = ρ ∧ L' = []) := by
 refine Ze Tryz.func218 rfl rfl rfl fun u R => ?_
 simp only [Zt, List.cons_append, List.nil_append]
 repeat' (first | (refine Zg ?_; first | (refine Zf ?_; refine qQ ?_) | refine Zj ?_) | refine Za ?_ | (refine Zh ?_; refine Zu ?_) | (refine Zi ?_; refine Zv ?_) | (refine i_gd ?_; refine Wb rfl rfl (fun hb => ?_) (fun hb => ?_) <;> (try simp only [decide_eq_true_eq, decide_eq_false_iff_not, Bool.not_eq_true, Bool.not_eq_false, beq_iff_eq, bne_iff_ne, ne_eq, decide_eq_decide, Bool.not_eq_eq_eq_not, Bool.not_true, Bool.not_false, beq_eq_false_iff_ne, bne_eq_false_iff_eq, Bool.and_eq_true, Bool.or_eq_true, Bool.and_eq_false_imp, Bool.or_eq_false_iff] at hb)) | (refine WX ?_; refine Ww rfl (fun hb => ?_) (fun hb => ?_) <;> (try simp only [decide_eq_true_eq, decide_eq_false_iff_not, Bool.not_eq_true, Bool.not_eq_false, beq_iff_eq, bne_iff_ne, ne_eq, decide_eq_decide, Bool.not_eq_eq_eq_not, Bool.not_true, Bool.not_false, beq_eq_false_iff_ne, bne_eq_false_iff_eq, Bool.and_eq_true, Bool.or_eq_true, Bool.and_eq_false_imp, Bool.or_eq_false_iff] at hb)) | intro _)
 all_goals (refine qF (L' := []) ?_; exact ⟨bool_eq (by simp [pageOk]; (try omega)), rfl, rfl⟩)
theorem YV (ρ : Hp) (x : Im) : Spec Tryz.prog 249 [.agg ⟨imV x⟩] ρ [] (fun v ρ' L' => v = .int .i64 x.page ∧ ρ' = ρ ∧ L' = []) := by
 refine Ze Tryz.func249 rfl rfl rfl fun u R => ?_
 simp only [Zt, List.cons_append, List.nil_append]
 repeat' (first | (refine Zg ?_; first | (refine Zf ?_; refine qQ ?_) | refine Zj ?_) | refine Za ?_ | (refine Zh ?_; refine Zu ?_) | (refine Zi ?_; refine Zv ?_) | intro _)
 exact qE ⟨rfl, rfl, rfl⟩
abbrev Wu (bx : Nat) (before : Bool) : SH := [[(bx, .cells ⟨[.bool before]⟩ 4 (0, 0))]]
theorem WF (ρ : Hp) (bx : Nat) (before : Bool) (x : Im) (h : Im.In ρ x) : Spec Tryz.prog 250 [.agg ⟨imV x⟩, .pointer (some ⟨bx, 0, none⟩)] ρ (Wu bx before) (fun v ρ' L' => v = .bool (imOk before x) ∧ ρ' = ρ ∧ L' = Wu bx before) := by
 have ha := XN ρ x.av x.a h.a.cin
 have hb := XN ρ x.bv x.b h.b.cin
 refine Ze Tryz.func250 rfl rfl rfl fun u R => ?_
 simp only [Zt, List.cons_append, List.nil_append]
 unfold imOk
 cases h1 : pageOk x.page
 ·repeat' (first | (refine Zc (.func 218) ?_; refine qC rfl rfl (Vc _ _) ?_; rintro v ρ' L' hle ⟨rfl, rfl, rfl⟩ <;> (try simp only [kM, kN, kO, h1])) | (refine Zg ?_; first | (refine Zf ?_; refine qQ ?_) | refine Zj ?_) | refine Za ?_ | (refine Zh ?_; refine Zu ?_) | (refine Zi ?_; refine Zv ?_) | intro _)
  exact qE (L' := Wu bx before) ⟨rfl, rfl, rfl⟩
 ·cases h2 : ZT x.a
  ·rw [h2] at ha
   repeat' (first | (refine Zc (.func 218) ?_; refine qC rfl rfl (Vc _ _) ?_; rintro v ρ' L' hle ⟨rfl, rfl, rfl⟩ <;> (try simp only [kM, kN, kO, h1])) | (refine Zc (.func 118) ?_; refine qC rfl rfl (ha) ?_; rintro v ρ' L' hle ⟨rfl, rfl, rfl⟩ <;> (try simp only [kM, kN, kO, if_false, Bool.false_eq_true])) | (refine Zg ?_; first | (refine Zf ?_; refine qQ ?_) | refine Zj ?_) | refine Za ?_ | (refine Zh ?_; refine Zu ?_) | (refine Zi ?_; refine Zv ?_) | intro _)
   exact qE (L' := Wu bx before) ⟨rfl, rfl, rfl⟩
  ·rw [h2] at ha
   cases h3 : ZT x.b
   ·rw [h3] at hb
    repeat' (first | (refine Zc (.func 218) ?_; refine qC rfl rfl (Vc _ _) ?_; rintro v ρ' L' hle ⟨rfl, rfl, rfl⟩ <;> (try simp only [kM, kN, kO, h1])) | (refine Zc (.func 118) ?_; refine qC rfl rfl (ha) ?_; rintro v ρ' L' hle ⟨rfl, rfl, rfl⟩ <;> (try simp only [kM, kN, kO, if_true])) | (refine Zc (.func 118) ?_; refine qC rfl rfl (hb) ?_; rintro v ρ' L' hle ⟨rfl, rfl, rfl⟩ <;> (try simp only [kM, kN, kO, if_false, Bool.false_eq_true])) | (refine Zg ?_; first | (refine Zf ?_; refine qQ ?_) | refine Zj ?_) | refine Za ?_ | (refine Zh ?_; refine Zu ?_) | (refine Zi ?_; refine Zv ?_) | intro _)
    exact qE (L' := Wu bx before) ⟨rfl, rfl, rfl⟩
   ·rw [h3] at hb
    cases before
    ·by_cases h4 : x.b.kind = 0
     ·rw [decide_eq_true h4]
      repeat' (first | (refine Zc (.func 218) ?_; refine qC rfl rfl (Vc _ _) ?_; rintro v ρ' L' hle ⟨rfl, rfl, rfl⟩ <;> (try simp only [kM, kN, kO, h1])) | (refine Zc (.func 118) ?_; refine qC rfl rfl (ha) ?_; rintro v ρ' L' hle ⟨rfl, rfl, rfl⟩ <;> (try simp only [kM, kN, kO, if_true])) | (refine Zc (.func 118) ?_; refine qC rfl rfl (hb) ?_; rintro v ρ' L' hle ⟨rfl, rfl, rfl⟩ <;> (try simp only [kM, kN, kO, if_true])) | (refine Zg ?_; first | (refine Zf ?_; refine qQ ?_) | refine Zj ?_) | refine Za ?_ | (refine Zh ?_; refine Zu ?_) | (refine Zi ?_; refine Zv ?_) | intro _)
      exact qE (L' := Wu bx false) ⟨rfl, rfl, rfl⟩
     ·rw [decide_eq_false h4]
      repeat' (first | (refine Zc (.func 218) ?_; refine qC rfl rfl (Vc _ _) ?_; rintro v ρ' L' hle ⟨rfl, rfl, rfl⟩ <;> (try simp only [kM, kN, kO, h1])) | (refine Zc (.func 118) ?_; refine qC rfl rfl (ha) ?_; rintro v ρ' L' hle ⟨rfl, rfl, rfl⟩ <;> (try simp only [kM, kN, kO, if_true])) | (refine Zc (.func 118) ?_; refine qC rfl rfl (hb) ?_; rintro v ρ' L' hle ⟨rfl, rfl, rfl⟩ <;> (try simp only [kM, kN, kO, if_true])) | (refine Zg ?_; first | (refine Zf ?_; refine qQ ?_) | refine Zj ?_) | refine Za ?_ | (refine Zh ?_; refine Zu ?_) | (refine Zi ?_; refine Zv ?_) | intro _)
      exact qE (L' := Wu bx false) ⟨rfl, rfl, rfl⟩
    ·repeat' (first | (refine Zc (.func 218) ?_; refine qC rfl rfl (Vc _ _) ?_; rintro v ρ' L' hle ⟨rfl, rfl, rfl⟩ <;> (try simp only [kM, kN, kO, h1])) | (refine Zc (.func 118) ?_; refine qC rfl rfl (ha) ?_; rintro v ρ' L' hle ⟨rfl, rfl, rfl⟩ <;> (try simp only [kM, kN, kO, if_true])) | (refine Zc (.func 118) ?_; refine qC rfl rfl (hb) ?_; rintro v ρ' L' hle ⟨rfl, rfl, rfl⟩ <;> (try simp only [kM, kN, kO, if_true])) | (refine Zg ?_; first | (refine Zf ?_; refine qQ ?_) | refine Zj ?_) | refine Za ?_ | (refine Zh ?_; refine Zu ?_) | (refine Zi ?_; refine Zv ?_) | intro _)
     exact qE (L' := Wu bx true) ⟨rfl, rfl, rfl⟩
theorem XC (ρ : Hp) (x : CkT) : Spec Tryz.prog 213 [.agg ⟨ckTV x⟩] ρ [] (fun v ρ' L' => v = .int .i64 x.txn ∧ ρ' = ρ ∧ L' = []) := by
 refine Ze Tryz.func213 rfl rfl rfl fun u R => ?_
 simp only [Zt, List.cons_append, List.nil_append]
 repeat' (first | (refine Zg ?_; first | (refine Zf ?_; refine qQ ?_) | refine Zj ?_) | refine Za ?_ | (refine Zh ?_; refine Zu ?_) | (refine Zi ?_; refine Zv ?_) | intro _)
 exact qE ⟨rfl, rfl, rfl⟩
theorem XD (ρ : Hp) (x : CkP) : Spec Tryz.prog 216 [.agg ⟨ckPV x⟩] ρ [] (fun v ρ' L' => v = .int .i64 x.page ∧ ρ' = ρ ∧ L' = []) := by
 refine Ze Tryz.func216 rfl rfl rfl fun u R => ?_
 simp only [Zt, List.cons_append, List.nil_append]
 repeat' (first | (refine Zg ?_; first | (refine Zf ?_; refine qQ ?_) | refine Zj ?_) | refine Za ?_ | (refine Zh ?_; refine Zu ?_) | (refine Zi ?_; refine Zv ?_) | intro _)
 exact qE ⟨rfl, rfl, rfl⟩
abbrev Wj (ab : Nat) (v : RV) (r : Rc) : List (Nat × Obj) := [(ab, .cells ⟨Vb v r⟩ 259 (0, 0))]
abbrev nextC (nb : Nat) (next : Int) : List (Nat × Obj) := [(nb, .cells ⟨[.int .i64 next]⟩ 3 (0, 0))]
abbrev ptrC (pb ab : Nat) : List (Nat × Obj) := [(pb, .cells ⟨[.pointer (some ⟨ab, 0, none⟩)]⟩ 257 (0, 0))]
theorem ckpt2_spec (ρ : Hp) (nb pb ab : Nat) (next : Int) (v : RV) (r : Rc) (x : CkT) : Spec Tryz.prog 214 [.agg ⟨ckTV x⟩, .pointer (some ⟨nb, 0, none⟩), .pointer (some ⟨pb, 0, none⟩)] ρ [nextC nb next, ptrC pb ab, Wj ab v r]
  (fun z ρ' L' => z = .bool (ckTOk r.lsn next x) ∧ ρ' = ρ ∧ L' = [nextC nb next, ptrC pb ab, Wj ab v r]) := by
 refine Ze Tryz.func214 rfl rfl rfl fun u R => ?_
 simp only [Zt, List.cons_append, List.nil_append]
 repeat' (first | (refine Zg ?_; first | (refine Zf ?_; refine qQ ?_) | refine Zj ?_) | refine Za ?_ | (refine Zh ?_; refine Zu ?_) | (refine Zi ?_; refine Zv ?_) | intro _)
 refine Zz (Zr _ _ _) Ye ?_
 all_goals (refine Yv 0 ?_; refine ZN ?_; refine ZX 1 ?_; refine rCm 2 ?_; refine ZO 3 ?_)
 all_goals (first | refine Zd 4 ?_ | refine Zb 4 ?_ | refine wFa 4 ?_ | (refine YU (t := 8) rfl (fun hb => ?_) (fun hb => ?_) <;> (try simp only [kk] at hb) <;> first | refine Zd 4 ?_ | refine Zb 4 ?_ | refine wFa 4 ?_))
 all_goals ((first | refine Zd 5 ?_ | refine Zb 5 ?_ | refine wLd 5 ?_); (first | refine Zd 6 ?_ | refine Zb 6 ?_ | refine wLd 6 ?_); (first | refine Zd 7 ?_ | refine Zb 7 ?_ | refine wCm 7 ?_); refine rPk 8 ?_; refine ZO 9 ?_)
 all_goals (first | refine Zd 10 ?_ | refine Zb 10 ?_ | refine wFa 10 ?_ | (refine YU (t := 14) rfl (fun hb => ?_) (fun hb => ?_) <;> (try simp only [kk] at hb) <;> first | refine Zd 10 ?_ | refine Zb 10 ?_ | refine wFa 10 ?_))
 all_goals ((first | refine Zd 11 ?_ | refine Zb 11 ?_ | refine wLd 11 ?_); (first | refine Zd 12 ?_ | refine Zb 12 ?_ | refine wCm 12 ?_); refine rPk 13 ?_; refine ZO 14 ?_)
 all_goals (first | refine Zd 15 ?_ | refine Zb 15 ?_ | refine wFa 15 ?_ | (refine YU (t := 19) rfl (fun hb => ?_) (fun hb => ?_) <;> (try simp only [kk] at hb) <;> first | refine Zd 15 ?_ | refine Zb 15 ?_ | refine wFa 15 ?_))
 all_goals ((first | refine Zd 16 ?_ | refine Zb 16 ?_ | refine wLd 16 ?_); (first | refine Zd 17 ?_ | refine Zb 17 ?_ | refine wFa 17 ?_); (first | refine Zd 18 ?_ | refine Zb 18 ?_ | refine wLd 18 ?_); (first | refine Zd 19 ?_ | refine Zb 19 ?_ | refine wCm 19 ?_); refine rPk 20 ?_; refine ZO 21 ?_)
 all_goals (first | refine Zd 22 ?_ | refine Zb 22 ?_ | refine wFa 22 ?_ | (refine YU (t := 26) rfl (fun hb => ?_) (fun hb => ?_) <;> (try simp only [kk] at hb) <;> first | refine Zd 22 ?_ | refine Zb 22 ?_ | refine wFa 22 ?_))
 all_goals ((first | refine Zd 23 ?_ | refine Zb 23 ?_ | refine wLd 23 ?_); (first | refine Zd 24 ?_ | refine Zb 24 ?_ | refine wLd 24 ?_); (first | refine Zd 25 ?_ | refine Zb 25 ?_ | refine wNc 25 ?_); (first | refine Zd 26 ?_ | refine Zb 26 ?_ | refine wFa 26 ?_); (first | refine Zd 27 ?_ | refine Zb 27 ?_ | refine wFa 27 ?_); (first | refine Zd 28 ?_ | refine Zb 28 ?_ | refine wLd 28 ?_); (first | refine Zd 29 ?_ | refine Zb 29 ?_ | refine wCm 29 ?_); refine rPk 30 ?_; refine ZO 31 ?_)
 all_goals (first | refine Zd 32 ?_ | refine Zb 32 ?_ | refine wFa 32 ?_ | (refine YU (t := 36) rfl (fun hb => ?_) (fun hb => ?_) <;> (try simp only [kk] at hb) <;> first | refine Zd 32 ?_ | refine Zb 32 ?_ | refine wFa 32 ?_))
 all_goals ((first | refine Zd 33 ?_ | refine Zb 33 ?_ | refine wLd 33 ?_); (first | refine Zd 34 ?_ | refine Zb 34 ?_ | refine wFa 34 ?_); (first | refine Zd 35 ?_ | refine Zb 35 ?_ | refine wLd 35 ?_); (first | refine Zd 36 ?_ | refine Zb 36 ?_ | refine wCm 36 ?_); refine rPk 37 ?_; refine ZO 38 ?_)
 all_goals (first | refine Zd 39 ?_ | refine Zb 39 ?_ | refine wFa 39 ?_ | (refine YU (t := 43) rfl (fun hb => ?_) (fun hb => ?_) <;> (try simp only [kk] at hb) <;> first | refine Zd 39 ?_ | refine Zb 39 ?_ | refine wFa 39 ?_))
 all_goals ((first | refine Zd 40 ?_ | refine Zb 40 ?_ | refine wLd 40 ?_); (first | refine Zd 41 ?_ | refine Zb 41 ?_ | refine wCm 41 ?_); refine rPk 42 ?_; refine ZO 43 ?_)
 all_goals (first | refine Zd 44 ?_ | refine Zb 44 ?_ | refine wFa 44 ?_ | (refine YU (t := 48) rfl (fun hb => ?_) (fun hb => ?_) <;> (try simp only [kk] at hb) <;> first | refine Zd 44 ?_ | refine Zb 44 ?_ | refine wFa 44 ?_))
 all_goals ((first | refine Zd 45 ?_ | refine Zb 45 ?_ | refine wLd 45 ?_); (first | refine Zd 46 ?_ | refine Zb 46 ?_ | refine wCm 46 ?_); refine rPk 47 ?_; refine rAs 48 ?_; refine ZI ?_)
 all_goals (repeat' (first | (refine Zg ?_; first | (refine Zf ?_; refine qQ ?_) | refine Zj ?_) | refine Za ?_ | (refine Zh ?_; refine Zu ?_) | (refine Zi ?_; refine Zv ?_) | intro _))
 all_goals (refine qF (L' := [nextC nb next, ptrC pb ab, Wj ab v r]) ?_; exact ⟨bool_eq (by simp [ckTOk]; (try omega)), rfl, rfl⟩)
theorem ckpt4_spec (ρ : Hp) (pb ab : Nat) (v : RV) (r : Rc) (x : CkP) : Spec Tryz.prog 217 [.agg ⟨ckPV x⟩, .pointer (some ⟨pb, 0, none⟩)] ρ [ptrC pb ab, Wj ab v r]
  (fun z ρ' L' => z = .bool (ckPOk r.lsn x) ∧ ρ' = ρ ∧ L' = [ptrC pb ab, Wj ab v r]) := by
 refine Ze Tryz.func217 rfl rfl rfl fun u R => ?_
 simp only [Zt, List.cons_append, List.nil_append]
 repeat' (first | (refine Zg ?_; first | (refine Zf ?_; refine qQ ?_) | refine Zj ?_) | refine Za ?_ | (refine Zh ?_; refine Zu ?_) | (refine Zi ?_; refine Zv ?_) | intro _)
 refine Zz (Zr _ _ _) Ye ?_
 all_goals (refine Yv 0 ?_; refine ZX 1 ?_)
 all_goals (refine Zm (i := 2) ?_; ((try refine Zk ?_); (first | (refine Zc (.func 218) ?_; refine qC rfl rfl (Vc _ _) ?_; rintro v ρ' L' hle ⟨rfl, rfl, rfl⟩ <;> (try simp only [kM, kN, kO])) | (refine Zj ?_; try intro _)) <;> ((try simp only [kM, kN, kO]); refine Za ?_; refine Zl ?_)))
 all_goals (refine ZN ?_; refine ZO 3 ?_)
 all_goals (first | refine Zd 4 ?_ | refine Zb 4 ?_ | refine wFa 4 ?_ | (refine YU (t := 7) rfl (fun hb => ?_) (fun hb => ?_) <;> (try simp only [kk] at hb) <;> first | refine Zd 4 ?_ | refine Zb 4 ?_ | refine wFa 4 ?_))
 all_goals ((first | refine Zd 5 ?_ | refine Zb 5 ?_ | refine wLd 5 ?_); (first | refine Zd 6 ?_ | refine Zb 6 ?_ | refine wCm 6 ?_); refine rPk 7 ?_; refine ZO 8 ?_)
 all_goals (first | refine Zd 9 ?_ | refine Zb 9 ?_ | refine wFa 9 ?_ | (refine YU (t := 12) rfl (fun hb => ?_) (fun hb => ?_) <;> (try simp only [kk] at hb) <;> first | refine Zd 9 ?_ | refine Zb 9 ?_ | refine wFa 9 ?_))
 all_goals ((first | refine Zd 10 ?_ | refine Zb 10 ?_ | refine wLd 10 ?_); (first | refine Zd 11 ?_ | refine Zb 11 ?_ | refine wLd 11 ?_); (first | refine Zd 12 ?_ | refine Zb 12 ?_ | refine wNc 12 ?_); (first | refine Zd 13 ?_ | refine Zb 13 ?_ | refine wFa 13 ?_); (first | refine Zd 14 ?_ | refine Zb 14 ?_ | refine wFa 14 ?_); (first | refine Zd 15 ?_ | refine Zb 15 ?_ | refine wLd 15 ?_); (first | refine Zd 16 ?_ | refine Zb 16 ?_ | refine wCm 16 ?_); refine rPk 17 ?_; refine rAs 18 ?_; refine ZI ?_)
 all_goals (repeat' (first | (refine Zg ?_; first | (refine Zf ?_; refine qQ ?_) | refine Zj ?_) | refine Za ?_ | (refine Zh ?_; refine Zu ?_) | (refine Zi ?_; refine Zv ?_) | intro _))
 all_goals (refine qF (L' := [ptrC pb ab, Wj ab v r]) ?_; exact ⟨bool_eq (by simp [ckPOk, *]; (try omega)), rfl, rfl⟩)
theorem risesIm_spec (ρ : Hp) (a : Option Addr) (n c : Nat) (l : List Im) (h : AIn ρ 7 imV a n l) (hn : n ≤ 1000000) (bx : Nat) (before : Bool) (him : ∀ x ∈ l, Im.In ρ x) :
  Spec Tryz.prog 248 [.slice a n c, .func (.func 249) ⟨[]⟩ ⟨[]⟩, .func (.func 250) ⟨[]⟩ ⟨[.pointer (some ⟨bx, 0, none⟩)]⟩] ρ (Wu bx before) (fun z ρ' L' => z = .bool (upB (imOk before) Im.page l l.length) ∧ ρ' = ρ ∧ L' = (Wu bx before)) := by
 have hl := h.len
 generalize hR : (imOk before) = rt
 unfold upB
 generalize hm : l.length = mo
 have hrt : ∀ x, rt x = (imOk before) x := fun x => by rw [hR]
 refine Ze Tryz.func248 rfl rfl rfl fun u R => ?_
 simp only [Zt, List.cons_append, List.nil_append]
 repeat' (first | (refine Zg ?_; first | (refine Zf ?_; refine qQ ?_) | refine Zj ?_) | refine Za ?_ | (refine Zh ?_; refine Zu ?_) | (refine Zi ?_; refine Zv ?_) | intro _)
 refine ZH [(0, _), (1, _), (2, _), (9, _), (10, _)] (fun (ζ : (Nat)) => [(11, .int .i64 ζ), (6, .bool false)]) (fun (ζ : (Nat)) => ρ) (fun (ζ : (Nat)) => (Wu bx before)) (fun (ζ : (Nat)) => ζ ≤ n ∧ Yp mo (fun _ x => rt x) (fun y x => decide (Im.page y < Im.page x)) l ζ = true) (fun (ζ : (Nat)) => n - ζ) (0) (⟨Nat.zero_le _, by rw [Yp]; simp [hm]⟩) Zo Zo rfl tk ?_
 rintro k hI
 try simp only [List.cons_append, List.nil_append, List.append_assoc, List.append_eq] at hI ⊢
 try dsimp only at hI ⊢
 obtain ⟨hk, hok⟩ := hI
 by_cases hlt : k < n
 ·obtain ⟨b, off, C, T, fr, e1, hb0, hfit, hc⟩ := h.get (show k < l.length by omega)
  have hs := Vi (most := mo) (right := fun _ x => rt x) (lt := fun y x => decide (Im.page y < Im.page x)) (show k < l.length by omega)
  have hfin0 := fun (e : Yp mo (fun _ x => rt x) (fun y x => decide (Im.page y < Im.page x)) l (k + 1) = false) => WP e (show k + 1 ≤ mo by omega)
  rw [hok, Bool.true_and] at hs
  have him1 := him _ (List.getElem_mem (show k < l.length by omega))
  have hw := hrt l[k]
  have hfin : (rt l[k] && (decide (k = 0) || decide (Im.page (l[k - 1]'(by omega)) < Im.page l[k]))) = false → Yp mo (fun _ x => rt x) (fun y x => decide (Im.page y < Im.page x)) l mo = false := fun e => hfin0 (by rw [hs]; exact e)
  rw [e1]
  by_cases hk0 : k = 0
  ·rw [decide_eq_true hk0, Bool.true_or, Bool.and_true] at hs hfin
   generalize l[k] = x at *
   generalize hQQ : Yp mo (fun _ x => rt x) (fun y x => decide (Im.page y < Im.page x)) l mo = q at *
   clear hfin0 hrt hR
   repeat' (first | (refine Zg ?_; first | (refine Zf ?_; refine qQ ?_) | refine Zj ?_) | refine Za ?_ | (refine Zh ?_; refine Zu ?_) | (refine Zi ?_; refine Zv ?_) | intro _)
   refine Zz (Zr _ _ _) Ye ?_
   all_goals (refine ZO 0 ?_; refine ZX 1 ?_)
   all_goals (refine Zm (i := 2) ?_; ((try refine Zk ?_); (first | (refine Zc (.tmp 16) ?_; refine qC rfl rfl (WF _ bx before _ him1) ?_; rintro v ρ' L' hle ⟨rfl, rfl, rfl⟩ <;> (try simp only [kM, kN, kO])) | (refine Zc (.tmp 24) ?_; refine qC rfl rfl (YV _ _) ?_; rintro v ρ' L' hle ⟨rfl, rfl, rfl⟩ <;> (try simp only [kM, kN, kO])) | (refine Zc (.tmp 31) ?_; refine qC rfl rfl (YV _ _) ?_; rintro v ρ' L' hle ⟨rfl, rfl, rfl⟩ <;> (try simp only [kM, kN, kO])) | (refine Zj ?_; try intro _)) <;> ((try simp only [kM, kN, kO]); refine Za ?_; refine Zl ?_)))
   all_goals (refine rUn 3 ?_; refine ZO 4 ?_)
   all_goals (first | refine Zd 5 ?_ | refine Zb 5 ?_ | refine Yk 5 ?_ | (refine YU (t := 20) rfl (fun hb => ?_) (fun hb => ?_) <;> (try simp only [kk] at hb) <;> first | refine Zd 5 ?_ | refine Zb 5 ?_ | refine Yk 5 ?_))
   all_goals ((first | refine Zd 6 ?_ | refine Zb 6 ?_ | refine wCm 6 ?_); (first | refine Zd 7 ?_ | refine Zb 7 ?_ | refine Yk 7 ?_))
   all_goals (first | refine Zd 8 ?_ | refine Zb 8 ?_ | refine Yk 8 ?_ | (refine YU (t := 23) rfl (fun hb => ?_) (fun hb => ?_) <;> (try simp only [kk] at hb) <;> first | refine Zd 8 ?_ | refine Zb 8 ?_ | refine Yk 8 ?_))
   all_goals ((first | refine Zd 9 ?_ | refine Zb 9 ?_ | refine Yk 9 ?_); (first | refine Zd 10 ?_ | refine Zb 10 ?_ | refine Yk 10 ?_); (first | refine Zd 11 ?_ | refine Zb 11 ?_ | refine wSb 11 ?_); (first | refine Zd 12 ?_ | refine Zb 12 ?_ | refine wIa 12 ?_); (first | refine Zd 13 ?_ | refine Zb 13 ?_ | refine wLd 13 ?_); (first | refine Zd 15 ?_ | refine Zb 15 ?_ | refine Yk 15 ?_); (first | refine Zd 16 ?_ | refine Zb 16 ?_ | refine wLd 16 ?_))
   all_goals (first | refine Zd 14 ?_ | refine Zb 14 ?_ | (refine Zm (i := 14) ?_; ((try refine Zk ?_); (first | (refine Zc (.tmp 16) ?_; refine qC rfl rfl (WF _ bx before _ him1) ?_; rintro v ρ' L' hle ⟨rfl, rfl, rfl⟩ <;> (try simp only [kM, kN, kO])) | (refine Zc (.tmp 24) ?_; refine qC rfl rfl (YV _ _) ?_; rintro v ρ' L' hle ⟨rfl, rfl, rfl⟩ <;> (try simp only [kM, kN, kO])) | (refine Zc (.tmp 31) ?_; refine qC rfl rfl (YV _ _) ?_; rintro v ρ' L' hle ⟨rfl, rfl, rfl⟩ <;> (try simp only [kM, kN, kO])) | (refine Zj ?_; try intro _)) <;> ((try simp only [kM, kN, kO]); refine Za ?_; refine Zl ?_))))
   all_goals (first | refine Zd 17 ?_ | refine Zb 17 ?_ | (refine Zm (i := 17) ?_; ((try refine Zk ?_); (first | (refine Zc (.tmp 16) ?_; refine qC rfl rfl (WF _ bx before _ him1) ?_; rintro v ρ' L' hle ⟨rfl, rfl, rfl⟩ <;> (try simp only [kM, kN, kO])) | (refine Zc (.tmp 24) ?_; refine qC rfl rfl (YV _ _) ?_; rintro v ρ' L' hle ⟨rfl, rfl, rfl⟩ <;> (try simp only [kM, kN, kO])) | (refine Zc (.tmp 31) ?_; refine qC rfl rfl (YV _ _) ?_; rintro v ρ' L' hle ⟨rfl, rfl, rfl⟩ <;> (try simp only [kM, kN, kO])) | (refine Zj ?_; try intro _)) <;> ((try simp only [kM, kN, kO]); refine Za ?_; refine Zl ?_))))
   all_goals (refine ZN ?_; (first | refine Zd 18 ?_ | refine Zb 18 ?_ | refine wCm 18 ?_); (first | refine Zd 19 ?_ | refine Zb 19 ?_ | refine wPk 19 ?_); refine rPk 20 ?_; refine ZI ?_)
   all_goals (repeat' (first | (refine Zg ?_; first | (refine Zf ?_; refine qQ ?_) | refine Zj ?_) | refine Za ?_ | (refine Zh ?_; refine Zu ?_) | (refine Zi ?_; refine Zv ?_) | (refine i_gd ?_; refine Wb rfl rfl (fun hb => ?_) (fun hb => ?_) <;> (try simp only [decide_eq_true_eq, decide_eq_false_iff_not, Bool.not_eq_true, Bool.not_eq_false, beq_iff_eq, bne_iff_ne, ne_eq, decide_eq_decide, Bool.not_eq_eq_eq_not, Bool.not_true, Bool.not_false, beq_eq_false_iff_ne, bne_eq_false_iff_eq, Bool.and_eq_true, Bool.or_eq_true, Bool.and_eq_false_imp, Bool.or_eq_false_iff] at hb)) | (refine WX ?_; refine Ww rfl (fun hb => ?_) (fun hb => ?_) <;> (try simp only [decide_eq_true_eq, decide_eq_false_iff_not, Bool.not_eq_true, Bool.not_eq_false, beq_iff_eq, bne_iff_ne, ne_eq, decide_eq_decide, Bool.not_eq_eq_eq_not, Bool.not_true, Bool.not_false, beq_eq_false_iff_ne, bne_eq_false_iff_eq, Bool.and_eq_true, Bool.or_eq_true, Bool.and_eq_false_imp, Bool.or_eq_false_iff] at hb)) | intro _))
   all_goals (try (rw [hfin (by rw [hw]; (first | (simp [*]; done) | (simp [*]; omega) | (simp_all; done) | (simp_all; omega)))]; refine qF (L' := (Wu bx before)) ?_; exact ⟨rfl, rfl, rfl⟩))
   all_goals rw [← e1]
   all_goals refine Zx (k + 1) (⟨hlt, by rw [hs, hw]; (first | (simp [*]; done) | (simp [*]; omega) | (simp_all; done) | (simp_all; omega))⟩) Zo Zo rfl tk inferInstance (by first | omega | (dsimp only; omega))
  ·obtain ⟨b2, off2, C2, T2, fr2, f1, hb2, hfit2, hc2⟩ := h.get (show k - 1 < l.length by omega)
   rw [e1] at f1
   cases f1
   rw [hb0] at hb2
   cases hb2
   have ek : ((k : Int) - 1).toNat = k - 1 := by omega
   rw [← ek] at hfit2
   have hc3 : List.take 7 (List.drop (off + ((k : Int) - 1).toNat * 7) C) = imV (l[k - 1]'(by omega)) := by rw [ek]; exact hc2
   clear hc2
   rw [decide_eq_false hk0, Bool.false_or] at hs hfin
   generalize l[k] = x at *
   generalize l[k - 1]'(by omega) = y at *
   generalize hQQ : Yp mo (fun _ x => rt x) (fun y x => decide (Im.page y < Im.page x)) l mo = q at *
   clear hfin0 hrt hR
   repeat' (first | (refine Zg ?_; first | (refine Zf ?_; refine qQ ?_) | refine Zj ?_) | refine Za ?_ | (refine Zh ?_; refine Zu ?_) | (refine Zi ?_; refine Zv ?_) | intro _)
   refine Zz (Zr _ _ _) Ye ?_
   all_goals (refine ZO 0 ?_; refine ZX 1 ?_)
   all_goals (refine Zm (i := 2) ?_; ((try refine Zk ?_); (first | (refine Zc (.tmp 16) ?_; refine qC rfl rfl (WF _ bx before _ him1) ?_; rintro v ρ' L' hle ⟨rfl, rfl, rfl⟩ <;> (try simp only [kM, kN, kO])) | (refine Zc (.tmp 24) ?_; refine qC rfl rfl (YV _ _) ?_; rintro v ρ' L' hle ⟨rfl, rfl, rfl⟩ <;> (try simp only [kM, kN, kO])) | (refine Zc (.tmp 31) ?_; refine qC rfl rfl (YV _ _) ?_; rintro v ρ' L' hle ⟨rfl, rfl, rfl⟩ <;> (try simp only [kM, kN, kO])) | (refine Zj ?_; try intro _)) <;> ((try simp only [kM, kN, kO]); refine Za ?_; refine Zl ?_)))
   all_goals (refine rUn 3 ?_; refine ZO 4 ?_)
   all_goals (first | refine Zd 5 ?_ | refine Zb 5 ?_ | refine Yk 5 ?_ | (refine YU (t := 20) rfl (fun hb => ?_) (fun hb => ?_) <;> (try simp only [kk] at hb) <;> first | refine Zd 5 ?_ | refine Zb 5 ?_ | refine Yk 5 ?_))
   all_goals ((first | refine Zd 6 ?_ | refine Zb 6 ?_ | refine wCm 6 ?_); (first | refine Zd 7 ?_ | refine Zb 7 ?_ | refine Yk 7 ?_))
   all_goals (first | refine Zd 8 ?_ | refine Zb 8 ?_ | refine Yk 8 ?_ | (refine YU (t := 23) rfl (fun hb => ?_) (fun hb => ?_) <;> (try simp only [kk] at hb) <;> first | refine Zd 8 ?_ | refine Zb 8 ?_ | refine Yk 8 ?_))
   all_goals ((first | refine Zd 9 ?_ | refine Zb 9 ?_ | refine Yk 9 ?_); (first | refine Zd 10 ?_ | refine Zb 10 ?_ | refine Yk 10 ?_); (first | refine Zd 11 ?_ | refine Zb 11 ?_ | refine wSb 11 ?_); (first | refine Zd 12 ?_ | refine Zb 12 ?_ | refine wIa 12 ?_); (first | refine Zd 13 ?_ | refine Zb 13 ?_ | refine wLd 13 ?_); (first | refine Zd 15 ?_ | refine Zb 15 ?_ | refine Yk 15 ?_); (first | refine Zd 16 ?_ | refine Zb 16 ?_ | refine wLd 16 ?_))
   all_goals (first | refine Zd 14 ?_ | refine Zb 14 ?_ | (refine Zm (i := 14) ?_; ((try refine Zk ?_); (first | (refine Zc (.tmp 16) ?_; refine qC rfl rfl (WF _ bx before _ him1) ?_; rintro v ρ' L' hle ⟨rfl, rfl, rfl⟩ <;> (try simp only [kM, kN, kO])) | (refine Zc (.tmp 24) ?_; refine qC rfl rfl (YV _ _) ?_; rintro v ρ' L' hle ⟨rfl, rfl, rfl⟩ <;> (try simp only [kM, kN, kO])) | (refine Zc (.tmp 31) ?_; refine qC rfl rfl (YV _ _) ?_; rintro v ρ' L' hle ⟨rfl, rfl, rfl⟩ <;> (try simp only [kM, kN, kO])) | (refine Zj ?_; try intro _)) <;> ((try simp only [kM, kN, kO]); refine Za ?_; refine Zl ?_))))
   all_goals (first | refine Zd 17 ?_ | refine Zb 17 ?_ | (refine Zm (i := 17) ?_; ((try refine Zk ?_); (first | (refine Zc (.tmp 16) ?_; refine qC rfl rfl (WF _ bx before _ him1) ?_; rintro v ρ' L' hle ⟨rfl, rfl, rfl⟩ <;> (try simp only [kM, kN, kO])) | (refine Zc (.tmp 24) ?_; refine qC rfl rfl (YV _ _) ?_; rintro v ρ' L' hle ⟨rfl, rfl, rfl⟩ <;> (try simp only [kM, kN, kO])) | (refine Zc (.tmp 31) ?_; refine qC rfl rfl (YV _ _) ?_; rintro v ρ' L' hle ⟨rfl, rfl, rfl⟩ <;> (try simp only [kM, kN, kO])) | (refine Zj ?_; try intro _)) <;> ((try simp only [kM, kN, kO]); refine Za ?_; refine Zl ?_))))
   all_goals (refine ZN ?_; (first | refine Zd 18 ?_ | refine Zb 18 ?_ | refine wCm 18 ?_); (first | refine Zd 19 ?_ | refine Zb 19 ?_ | refine wPk 19 ?_); refine rPk 20 ?_; refine ZI ?_)
   all_goals (repeat' (first | (refine Zg ?_; first | (refine Zf ?_; refine qQ ?_) | refine Zj ?_) | refine Za ?_ | (refine Zh ?_; refine Zu ?_) | (refine Zi ?_; refine Zv ?_) | (refine i_gd ?_; refine Wb rfl rfl (fun hb => ?_) (fun hb => ?_) <;> (try simp only [decide_eq_true_eq, decide_eq_false_iff_not, Bool.not_eq_true, Bool.not_eq_false, beq_iff_eq, bne_iff_ne, ne_eq, decide_eq_decide, Bool.not_eq_eq_eq_not, Bool.not_true, Bool.not_false, beq_eq_false_iff_ne, bne_eq_false_iff_eq, Bool.and_eq_true, Bool.or_eq_true, Bool.and_eq_false_imp, Bool.or_eq_false_iff] at hb)) | (refine WX ?_; refine Ww rfl (fun hb => ?_) (fun hb => ?_) <;> (try simp only [decide_eq_true_eq, decide_eq_false_iff_not, Bool.not_eq_true, Bool.not_eq_false, beq_iff_eq, bne_iff_ne, ne_eq, decide_eq_decide, Bool.not_eq_eq_eq_not, Bool.not_true, Bool.not_false, beq_eq_false_iff_ne, bne_eq_false_iff_eq, Bool.and_eq_true, Bool.or_eq_true, Bool.and_eq_false_imp, Bool.or_eq_false_iff] at hb)) | intro _))
   all_goals (try (rw [hfin (by rw [hw]; (first | (simp [*]; done) | (simp [*]; omega) | (simp_all; done) | (simp_all; omega)))]; refine qF (L' := (Wu bx before)) ?_; exact ⟨rfl, rfl, rfl⟩))
   all_goals rw [← e1]
   all_goals refine Zx (k + 1) (⟨hlt, by rw [hs, hw]; (first | (simp [*]; done) | (simp [*]; omega) | (simp_all; done) | (simp_all; omega))⟩) Zo Zo rfl tk inferInstance (by first | omega | (dsimp only; omega))
 ·have hk2 : k = n := by omega
  subst hk2
  have hkm : k = mo := by omega
  rw [hkm] at hok
  rw [hok]
  repeat' (first | (refine Zg ?_; first | (refine Zf ?_; refine qQ ?_) | refine Zj ?_) | refine Za ?_ | (refine Zh ?_; refine Zu ?_) | (refine Zi ?_; refine Zv ?_) | intro _)
  exact qE (L' := (Wu bx before)) ⟨rfl, rfl, rfl⟩
theorem risesCkT_spec (ρ : Hp) (a : Option Addr) (n c : Nat) (l : List CkT) (h : AIn ρ 5 ckTV a n l) (hn : n ≤ 1000000) (nb pb ab : Nat) (next : Int) (v : RV) (r : Rc)  :
  Spec Tryz.prog 212 [.slice a n c, .func (.func 213) ⟨[]⟩ ⟨[]⟩, .func (.func 214) ⟨[]⟩ ⟨[.pointer (some ⟨nb, 0, none⟩), .pointer (some ⟨pb, 0, none⟩)]⟩] ρ [nextC nb next, ptrC pb ab, Wj ab v r] (fun z ρ' L' => z = .bool (upB (ckTOk r.lsn next) CkT.txn l l.length) ∧ ρ' = ρ ∧ L' = [nextC nb next, ptrC pb ab, Wj ab v r]) := by
 have hl := h.len
 generalize hR : (ckTOk r.lsn next) = rt
 unfold upB
 generalize hm : l.length = mo
 have hrt : ∀ x, rt x = (ckTOk r.lsn next) x := fun x => by rw [hR]
 refine Ze Tryz.func212 rfl rfl rfl fun u R => ?_
 simp only [Zt, List.cons_append, List.nil_append]
 repeat' (first | (refine Zg ?_; first | (refine Zf ?_; refine qQ ?_) | refine Zj ?_) | refine Za ?_ | (refine Zh ?_; refine Zu ?_) | (refine Zi ?_; refine Zv ?_) | intro _)
 refine ZH [(0, _), (1, _), (2, _), (9, _), (10, _)] (fun (ζ : (Nat)) => [(11, .int .i64 ζ), (6, .bool false)]) (fun (ζ : (Nat)) => ρ) (fun (ζ : (Nat)) => [nextC nb next, ptrC pb ab, Wj ab v r]) (fun (ζ : (Nat)) => ζ ≤ n ∧ Yp mo (fun _ x => rt x) (fun y x => decide (CkT.txn y < CkT.txn x)) l ζ = true) (fun (ζ : (Nat)) => n - ζ) (0) (⟨Nat.zero_le _, by rw [Yp]; simp [hm]⟩) Zo Zo rfl tk ?_
 rintro k hI
 try simp only [List.cons_append, List.nil_append, List.append_assoc, List.append_eq] at hI ⊢
 try dsimp only at hI ⊢
 obtain ⟨hk, hok⟩ := hI
 by_cases hlt : k < n
 ·obtain ⟨b, off, C, T, fr, e1, hb0, hfit, hc⟩ := h.get (show k < l.length by omega)
  have hs := Vi (most := mo) (right := fun _ x => rt x) (lt := fun y x => decide (CkT.txn y < CkT.txn x)) (show k < l.length by omega)
  have hfin0 := fun (e : Yp mo (fun _ x => rt x) (fun y x => decide (CkT.txn y < CkT.txn x)) l (k + 1) = false) => WP e (show k + 1 ≤ mo by omega)
  rw [hok, Bool.true_and] at hs
  skip
  have hw := hrt l[k]
  have hfin : (rt l[k] && (decide (k = 0) || decide (CkT.txn (l[k - 1]'(by omega)) < CkT.txn l[k]))) = false → Yp mo (fun _ x => rt x) (fun y x => decide (CkT.txn y < CkT.txn x)) l mo = false := fun e => hfin0 (by rw [hs]; exact e)
  rw [e1]
  by_cases hk0 : k = 0
  ·rw [decide_eq_true hk0, Bool.true_or, Bool.and_true] at hs hfin
   generalize l[k] = x at *
   generalize hQQ : Yp mo (fun _ x => rt x) (fun y x => decide (CkT.txn y < CkT.txn x)) l mo = q at *
   clear hfin0 hrt hR
   repeat' (first | (refine Zg ?_; first | (refine Zf ?_; refine qQ ?_) | refine Zj ?_) | refine Za ?_ | (refine Zh ?_; refine Zu ?_) | (refine Zi ?_; refine Zv ?_) | intro _)
   refine Zz (Zr _ _ _) Ye ?_
   all_goals (refine ZO 0 ?_; refine ZX 1 ?_)
   all_goals (refine Zm (i := 2) ?_; ((try refine Zk ?_); (first | (refine Zc (.tmp 16) ?_; refine qC rfl rfl (ckpt2_spec _ nb pb ab next v r _) ?_; rintro v ρ' L' hle ⟨rfl, rfl, rfl⟩ <;> (try simp only [kM, kN, kO])) | (refine Zc (.tmp 24) ?_; refine qC rfl rfl (XC _ _) ?_; rintro v ρ' L' hle ⟨rfl, rfl, rfl⟩ <;> (try simp only [kM, kN, kO])) | (refine Zc (.tmp 31) ?_; refine qC rfl rfl (XC _ _) ?_; rintro v ρ' L' hle ⟨rfl, rfl, rfl⟩ <;> (try simp only [kM, kN, kO])) | (refine Zj ?_; try intro _)) <;> ((try simp only [kM, kN, kO]); refine Za ?_; refine Zl ?_)))
   all_goals (refine rUn 3 ?_; refine ZO 4 ?_)
   all_goals (first | refine Zd 5 ?_ | refine Zb 5 ?_ | refine Yk 5 ?_ | (refine YU (t := 20) rfl (fun hb => ?_) (fun hb => ?_) <;> (try simp only [kk] at hb) <;> first | refine Zd 5 ?_ | refine Zb 5 ?_ | refine Yk 5 ?_))
   all_goals ((first | refine Zd 6 ?_ | refine Zb 6 ?_ | refine wCm 6 ?_); (first | refine Zd 7 ?_ | refine Zb 7 ?_ | refine Yk 7 ?_))
   all_goals (first | refine Zd 8 ?_ | refine Zb 8 ?_ | refine Yk 8 ?_ | (refine YU (t := 23) rfl (fun hb => ?_) (fun hb => ?_) <;> (try simp only [kk] at hb) <;> first | refine Zd 8 ?_ | refine Zb 8 ?_ | refine Yk 8 ?_))
   all_goals ((first | refine Zd 9 ?_ | refine Zb 9 ?_ | refine Yk 9 ?_); (first | refine Zd 10 ?_ | refine Zb 10 ?_ | refine Yk 10 ?_); (first | refine Zd 11 ?_ | refine Zb 11 ?_ | refine wSb 11 ?_); (first | refine Zd 12 ?_ | refine Zb 12 ?_ | refine wIa 12 ?_); (first | refine Zd 13 ?_ | refine Zb 13 ?_ | refine wLd 13 ?_); (first | refine Zd 15 ?_ | refine Zb 15 ?_ | refine Yk 15 ?_); (first | refine Zd 16 ?_ | refine Zb 16 ?_ | refine wLd 16 ?_))
   all_goals (first | refine Zd 14 ?_ | refine Zb 14 ?_ | (refine Zm (i := 14) ?_; ((try refine Zk ?_); (first | (refine Zc (.tmp 16) ?_; refine qC rfl rfl (ckpt2_spec _ nb pb ab next v r _) ?_; rintro v ρ' L' hle ⟨rfl, rfl, rfl⟩ <;> (try simp only [kM, kN, kO])) | (refine Zc (.tmp 24) ?_; refine qC rfl rfl (XC _ _) ?_; rintro v ρ' L' hle ⟨rfl, rfl, rfl⟩ <;> (try simp only [kM, kN, kO])) | (refine Zc (.tmp 31) ?_; refine qC rfl rfl (XC _ _) ?_; rintro v ρ' L' hle ⟨rfl, rfl, rfl⟩ <;> (try simp only [kM, kN, kO])) | (refine Zj ?_; try intro _)) <;> ((try simp only [kM, kN, kO]); refine Za ?_; refine Zl ?_))))
   all_goals (first | refine Zd 17 ?_ | refine Zb 17 ?_ | (refine Zm (i := 17) ?_; ((try refine Zk ?_); (first | (refine Zc (.tmp 16) ?_; refine qC rfl rfl (ckpt2_spec _ nb pb ab next v r _) ?_; rintro v ρ' L' hle ⟨rfl, rfl, rfl⟩ <;> (try simp only [kM, kN, kO])) | (refine Zc (.tmp 24) ?_; refine qC rfl rfl (XC _ _) ?_; rintro v ρ' L' hle ⟨rfl, rfl, rfl⟩ <;> (try simp only [kM, kN, kO])) | (refine Zc (.tmp 31) ?_; refine qC rfl rfl (XC _ _) ?_; rintro v ρ' L' hle ⟨rfl, rfl, rfl⟩ <;> (try simp only [kM, kN, kO])) | (refine Zj ?_; try intro _)) <;> ((try simp only [kM, kN, kO]); refine Za ?_; refine Zl ?_))))
   all_goals (refine ZN ?_; (first | refine Zd 18 ?_ | refine Zb 18 ?_ | refine wCm 18 ?_); (first | refine Zd 19 ?_ | refine Zb 19 ?_ | refine wPk 19 ?_); refine rPk 20 ?_; refine ZI ?_)
   all_goals (repeat' (first | (refine Zg ?_; first | (refine Zf ?_; refine qQ ?_) | refine Zj ?_) | refine Za ?_ | (refine Zh ?_; refine Zu ?_) | (refine Zi ?_; refine Zv ?_) | (refine i_gd ?_; refine Wb rfl rfl (fun hb => ?_) (fun hb => ?_) <;> (try simp only [decide_eq_true_eq, decide_eq_false_iff_not, Bool.not_eq_true, Bool.not_eq_false, beq_iff_eq, bne_iff_ne, ne_eq, decide_eq_decide, Bool.not_eq_eq_eq_not, Bool.not_true, Bool.not_false, beq_eq_false_iff_ne, bne_eq_false_iff_eq, Bool.and_eq_true, Bool.or_eq_true, Bool.and_eq_false_imp, Bool.or_eq_false_iff] at hb)) | (refine WX ?_; refine Ww rfl (fun hb => ?_) (fun hb => ?_) <;> (try simp only [decide_eq_true_eq, decide_eq_false_iff_not, Bool.not_eq_true, Bool.not_eq_false, beq_iff_eq, bne_iff_ne, ne_eq, decide_eq_decide, Bool.not_eq_eq_eq_not, Bool.not_true, Bool.not_false, beq_eq_false_iff_ne, bne_eq_false_iff_eq, Bool.and_eq_true, Bool.or_eq_true, Bool.and_eq_false_imp, Bool.or_eq_false_iff] at hb)) | intro _))
   all_goals (try (rw [hfin (by rw [hw]; (first | (simp [*]; done) | (simp [*]; omega) | (simp_all; done) | (simp_all; omega)))]; refine qF (L' := [nextC nb next, ptrC pb ab, Wj ab v r]) ?_; exact ⟨rfl, rfl, rfl⟩))
   all_goals rw [← e1]
   all_goals refine Zx (k + 1) (⟨hlt, by rw [hs, hw]; (first | (simp [*]; done) | (simp [*]; omega) | (simp_all; done) | (simp_all; omega))⟩) Zo Zo rfl tk inferInstance (by first | omega | (dsimp only; omega))
  ·obtain ⟨b2, off2, C2, T2, fr2, f1, hb2, hfit2, hc2⟩ := h.get (show k - 1 < l.length by omega)
   rw [e1] at f1
   cases f1
   rw [hb0] at hb2
   cases hb2
   have ek : ((k : Int) - 1).toNat = k - 1 := by omega
   rw [← ek] at hfit2
   have hc3 : List.take 5 (List.drop (off + ((k : Int) - 1).toNat * 5) C) = ckTV (l[k - 1]'(by omega)) := by rw [ek]; exact hc2
   clear hc2
   rw [decide_eq_false hk0, Bool.false_or] at hs hfin
   generalize l[k] = x at *
   generalize l[k - 1]'(by omega) = y at *
   generalize hQQ : Yp mo (fun _ x => rt x) (fun y x => decide (CkT.txn y < CkT.txn x)) l mo = q at *
   clear hfin0 hrt hR
   repeat' (first | (refine Zg ?_; first | (refine Zf ?_; refine qQ ?_) | refine Zj ?_) | refine Za ?_ | (refine Zh ?_; refine Zu ?_) | (refine Zi ?_; refine Zv ?_) | intro _)
   refine Zz (Zr _ _ _) Ye ?_
   all_goals (refine ZO 0 ?_; refine ZX 1 ?_)
   all_goals (refine Zm (i := 2) ?_; ((try refine Zk ?_); (first | (refine Zc (.tmp 16) ?_; refine qC rfl rfl (ckpt2_spec _ nb pb ab next v r _) ?_; rintro v ρ' L' hle ⟨rfl, rfl, rfl⟩ <;> (try simp only [kM, kN, kO])) | (refine Zc (.tmp 24) ?_; refine qC rfl rfl (XC _ _) ?_; rintro v ρ' L' hle ⟨rfl, rfl, rfl⟩ <;> (try simp only [kM, kN, kO])) | (refine Zc (.tmp 31) ?_; refine qC rfl rfl (XC _ _) ?_; rintro v ρ' L' hle ⟨rfl, rfl, rfl⟩ <;> (try simp only [kM, kN, kO])) | (refine Zj ?_; try intro _)) <;> ((try simp only [kM, kN, kO]); refine Za ?_; refine Zl ?_)))
   all_goals (refine rUn 3 ?_; refine ZO 4 ?_)
   all_goals (first | refine Zd 5 ?_ | refine Zb 5 ?_ | refine Yk 5 ?_ | (refine YU (t := 20) rfl (fun hb => ?_) (fun hb => ?_) <;> (try simp only [kk] at hb) <;> first | refine Zd 5 ?_ | refine Zb 5 ?_ | refine Yk 5 ?_))
   all_goals ((first | refine Zd 6 ?_ | refine Zb 6 ?_ | refine wCm 6 ?_); (first | refine Zd 7 ?_ | refine Zb 7 ?_ | refine Yk 7 ?_))
   all_goals (first | refine Zd 8 ?_ | refine Zb 8 ?_ | refine Yk 8 ?_ | (refine YU (t := 23) rfl (fun hb => ?_) (fun hb => ?_) <;> (try simp only [kk] at hb) <;> first | refine Zd 8 ?_ | refine Zb 8 ?_ | refine Yk 8 ?_))
   all_goals ((first | refine Zd 9 ?_ | refine Zb 9 ?_ | refine Yk 9 ?_); (first | refine Zd 10 ?_ | refine Zb 10 ?_ | refine Yk 10 ?_); (first | refine Zd 11 ?_ | refine Zb 11 ?_ | refine wSb 11 ?_); (first | refine Zd 12 ?_ | refine Zb 12 ?_ | refine wIa 12 ?_); (first | refine Zd 13 ?_ | refine Zb 13 ?_ | refine wLd 13 ?_); (first | refine Zd 15 ?_ | refine Zb 15 ?_ | refine Yk 15 ?_); (first | refine Zd 16 ?_ | refine Zb 16 ?_ | refine wLd 16 ?_))
   all_goals (first | refine Zd 14 ?_ | refine Zb 14 ?_ | (refine Zm (i := 14) ?_; ((try refine Zk ?_); (first | (refine Zc (.tmp 16) ?_; refine qC rfl rfl (ckpt2_spec _ nb pb ab next v r _) ?_; rintro v ρ' L' hle ⟨rfl, rfl, rfl⟩ <;> (try simp only [kM, kN, kO])) | (refine Zc (.tmp 24) ?_; refine qC rfl rfl (XC _ _) ?_; rintro v ρ' L' hle ⟨rfl, rfl, rfl⟩ <;> (try simp only [kM, kN, kO])) | (refine Zc (.tmp 31) ?_; refine qC rfl rfl (XC _ _) ?_; rintro v ρ' L' hle ⟨rfl, rfl, rfl⟩ <;> (try simp only [kM, kN, kO])) | (refine Zj ?_; try intro _)) <;> ((try simp only [kM, kN, kO]); refine Za ?_; refine Zl ?_))))
   all_goals (first | refine Zd 17 ?_ | refine Zb 17 ?_ | (refine Zm (i := 17) ?_; ((try refine Zk ?_); (first | (refine Zc (.tmp 16) ?_; refine qC rfl rfl (ckpt2_spec _ nb pb ab next v r _) ?_; rintro v ρ' L' hle ⟨rfl, rfl, rfl⟩ <;> (try simp only [kM, kN, kO])) | (refine Zc (.tmp 24) ?_; refine qC rfl rfl (XC _ _) ?_; rintro v ρ' L' hle ⟨rfl, rfl, rfl⟩ <;> (try simp only [kM, kN, kO])) | (refine Zc (.tmp 31) ?_; refine qC rfl rfl (XC _ _) ?_; rintro v ρ' L' hle ⟨rfl, rfl, rfl⟩ <;> (try simp only [kM, kN, kO])) | (refine Zj ?_; try intro _)) <;> ((try simp only [kM, kN, kO]); refine Za ?_; refine Zl ?_))))
   all_goals (refine ZN ?_; (first | refine Zd 18 ?_ | refine Zb 18 ?_ | refine wCm 18 ?_); (first | refine Zd 19 ?_ | refine Zb 19 ?_ | refine wPk 19 ?_); refine rPk 20 ?_; refine ZI ?_)
   all_goals (repeat' (first | (refine Zg ?_; first | (refine Zf ?_; refine qQ ?_) | refine Zj ?_) | refine Za ?_ | (refine Zh ?_; refine Zu ?_) | (refine Zi ?_; refine Zv ?_) | (refine i_gd ?_; refine Wb rfl rfl (fun hb => ?_) (fun hb => ?_) <;> (try simp only [decide_eq_true_eq, decide_eq_false_iff_not, Bool.not_eq_true, Bool.not_eq_false, beq_iff_eq, bne_iff_ne, ne_eq, decide_eq_decide, Bool.not_eq_eq_eq_not, Bool.not_true, Bool.not_false, beq_eq_false_iff_ne, bne_eq_false_iff_eq, Bool.and_eq_true, Bool.or_eq_true, Bool.and_eq_false_imp, Bool.or_eq_false_iff] at hb)) | (refine WX ?_; refine Ww rfl (fun hb => ?_) (fun hb => ?_) <;> (try simp only [decide_eq_true_eq, decide_eq_false_iff_not, Bool.not_eq_true, Bool.not_eq_false, beq_iff_eq, bne_iff_ne, ne_eq, decide_eq_decide, Bool.not_eq_eq_eq_not, Bool.not_true, Bool.not_false, beq_eq_false_iff_ne, bne_eq_false_iff_eq, Bool.and_eq_true, Bool.or_eq_true, Bool.and_eq_false_imp, Bool.or_eq_false_iff] at hb)) | intro _))
   all_goals (try (rw [hfin (by rw [hw]; (first | (simp [*]; done) | (simp [*]; omega) | (simp_all; done) | (simp_all; omega)))]; refine qF (L' := [nextC nb next, ptrC pb ab, Wj ab v r]) ?_; exact ⟨rfl, rfl, rfl⟩))
   all_goals rw [← e1]
   all_goals refine Zx (k + 1) (⟨hlt, by rw [hs, hw]; (first | (simp [*]; done) | (simp [*]; omega) | (simp_all; done) | (simp_all; omega))⟩) Zo Zo rfl tk inferInstance (by first | omega | (dsimp only; omega))
 ·have hk2 : k = n := by omega
  subst hk2
  have hkm : k = mo := by omega
  rw [hkm] at hok
  rw [hok]
  repeat' (first | (refine Zg ?_; first | (refine Zf ?_; refine qQ ?_) | refine Zj ?_) | refine Za ?_ | (refine Zh ?_; refine Zu ?_) | (refine Zi ?_; refine Zv ?_) | intro _)
  exact qE (L' := [nextC nb next, ptrC pb ab, Wj ab v r]) ⟨rfl, rfl, rfl⟩
theorem risesCkP_spec (ρ : Hp) (a : Option Addr) (n c : Nat) (l : List CkP) (h : AIn ρ 2 ckPV a n l) (hn : n ≤ 1000000) (pb ab : Nat) (v : RV) (r : Rc)  :
  Spec Tryz.prog 215 [.slice a n c, .func (.func 216) ⟨[]⟩ ⟨[]⟩, .func (.func 217) ⟨[]⟩ ⟨[.pointer (some ⟨pb, 0, none⟩)]⟩] ρ [ptrC pb ab, Wj ab v r] (fun z ρ' L' => z = .bool (upB (ckPOk r.lsn) CkP.page l l.length) ∧ ρ' = ρ ∧ L' = [ptrC pb ab, Wj ab v r]) := by
 have hl := h.len
 generalize hR : (ckPOk r.lsn) = rt
 unfold upB
 generalize hm : l.length = mo
 have hrt : ∀ x, rt x = (ckPOk r.lsn) x := fun x => by rw [hR]
 refine Ze Tryz.func215 rfl rfl rfl fun u R => ?_
 simp only [Zt, List.cons_append, List.nil_append]
 repeat' (first | (refine Zg ?_; first | (refine Zf ?_; refine qQ ?_) | refine Zj ?_) | refine Za ?_ | (refine Zh ?_; refine Zu ?_) | (refine Zi ?_; refine Zv ?_) | intro _)
 refine ZH [(0, _), (1, _), (2, _), (9, _), (10, _)] (fun (ζ : (Nat)) => [(11, .int .i64 ζ), (6, .bool false)]) (fun (ζ : (Nat)) => ρ) (fun (ζ : (Nat)) => [ptrC pb ab, Wj ab v r]) (fun (ζ : (Nat)) => ζ ≤ n ∧ Yp mo (fun _ x => rt x) (fun y x => decide (CkP.page y < CkP.page x)) l ζ = true) (fun (ζ : (Nat)) => n - ζ) (0) (⟨Nat.zero_le _, by rw [Yp]; simp [hm]⟩) Zo Zo rfl tk ?_
 rintro k hI
 try simp only [List.cons_append, List.nil_append, List.append_assoc, List.append_eq] at hI ⊢
 try dsimp only at hI ⊢
 obtain ⟨hk, hok⟩ := hI
 by_cases hlt : k < n
 ·obtain ⟨b, off, C, T, fr, e1, hb0, hfit, hc⟩ := h.get (show k < l.length by omega)
  have hs := Vi (most := mo) (right := fun _ x => rt x) (lt := fun y x => decide (CkP.page y < CkP.page x)) (show k < l.length by omega)
  have hfin0 := fun (e : Yp mo (fun _ x => rt x) (fun y x => decide (CkP.page y < CkP.page x)) l (k + 1) = false) => WP e (show k + 1 ≤ mo by omega)
  rw [hok, Bool.true_and] at hs
  skip
  have hw := hrt l[k]
  have hfin : (rt l[k] && (decide (k = 0) || decide (CkP.page (l[k - 1]'(by omega)) < CkP.page l[k]))) = false → Yp mo (fun _ x => rt x) (fun y x => decide (CkP.page y < CkP.page x)) l mo = false := fun e => hfin0 (by rw [hs]; exact e)
  rw [e1]
  by_cases hk0 : k = 0
  ·rw [decide_eq_true hk0, Bool.true_or, Bool.and_true] at hs hfin
   generalize l[k] = x at *
   generalize hQQ : Yp mo (fun _ x => rt x) (fun y x => decide (CkP.page y < CkP.page x)) l mo = q at *
   clear hfin0 hrt hR
   repeat' (first | (refine Zg ?_; first | (refine Zf ?_; refine qQ ?_) | refine Zj ?_) | refine Za ?_ | (refine Zh ?_; refine Zu ?_) | (refine Zi ?_; refine Zv ?_) | intro _)
   refine Zz (Zr _ _ _) Ye ?_
   all_goals (refine ZO 0 ?_; refine ZX 1 ?_)
   all_goals (refine Zm (i := 2) ?_; ((try refine Zk ?_); (first | (refine Zc (.tmp 16) ?_; refine qC rfl rfl (ckpt4_spec _ pb ab v r _) ?_; rintro v ρ' L' hle ⟨rfl, rfl, rfl⟩ <;> (try simp only [kM, kN, kO])) | (refine Zc (.tmp 24) ?_; refine qC rfl rfl (XD _ _) ?_; rintro v ρ' L' hle ⟨rfl, rfl, rfl⟩ <;> (try simp only [kM, kN, kO])) | (refine Zc (.tmp 31) ?_; refine qC rfl rfl (XD _ _) ?_; rintro v ρ' L' hle ⟨rfl, rfl, rfl⟩ <;> (try simp only [kM, kN, kO])) | (refine Zj ?_; try intro _)) <;> ((try simp only [kM, kN, kO]); refine Za ?_; refine Zl ?_)))
   all_goals (refine rUn 3 ?_; refine ZO 4 ?_)
   all_goals (first | refine Zd 5 ?_ | refine Zb 5 ?_ | refine Yk 5 ?_ | (refine YU (t := 20) rfl (fun hb => ?_) (fun hb => ?_) <;> (try simp only [kk] at hb) <;> first | refine Zd 5 ?_ | refine Zb 5 ?_ | refine Yk 5 ?_))
   all_goals ((first | refine Zd 6 ?_ | refine Zb 6 ?_ | refine wCm 6 ?_); (first | refine Zd 7 ?_ | refine Zb 7 ?_ | refine Yk 7 ?_))
   all_goals (first | refine Zd 8 ?_ | refine Zb 8 ?_ | refine Yk 8 ?_ | (refine YU (t := 23) rfl (fun hb => ?_) (fun hb => ?_) <;> (try simp only [kk] at hb) <;> first | refine Zd 8 ?_ | refine Zb 8 ?_ | refine Yk 8 ?_))
   all_goals ((first | refine Zd 9 ?_ | refine Zb 9 ?_ | refine Yk 9 ?_); (first | refine Zd 10 ?_ | refine Zb 10 ?_ | refine Yk 10 ?_); (first | refine Zd 11 ?_ | refine Zb 11 ?_ | refine wSb 11 ?_); (first | refine Zd 12 ?_ | refine Zb 12 ?_ | refine wIa 12 ?_); (first | refine Zd 13 ?_ | refine Zb 13 ?_ | refine wLd 13 ?_); (first | refine Zd 15 ?_ | refine Zb 15 ?_ | refine Yk 15 ?_); (first | refine Zd 16 ?_ | refine Zb 16 ?_ | refine wLd 16 ?_))
   all_goals (first | refine Zd 14 ?_ | refine Zb 14 ?_ | (refine Zm (i := 14) ?_; ((try refine Zk ?_); (first | (refine Zc (.tmp 16) ?_; refine qC rfl rfl (ckpt4_spec _ pb ab v r _) ?_; rintro v ρ' L' hle ⟨rfl, rfl, rfl⟩ <;> (try simp only [kM, kN, kO])) | (refine Zc (.tmp 24) ?_; refine qC rfl rfl (XD _ _) ?_; rintro v ρ' L' hle ⟨rfl, rfl, rfl⟩ <;> (try simp only [kM, kN, kO])) | (refine Zc (.tmp 31) ?_; refine qC rfl rfl (XD _ _) ?_; rintro v ρ' L' hle ⟨rfl, rfl, rfl⟩ <;> (try simp only [kM, kN, kO])) | (refine Zj ?_; try intro _)) <;> ((try simp only [kM, kN, kO]); refine Za ?_; refine Zl ?_))))
   all_goals (first | refine Zd 17 ?_ | refine Zb 17 ?_ | (refine Zm (i := 17) ?_; ((try refine Zk ?_); (first | (refine Zc (.tmp 16) ?_; refine qC rfl rfl (ckpt4_spec _ pb ab v r _) ?_; rintro v ρ' L' hle ⟨rfl, rfl, rfl⟩ <;> (try simp only [kM, kN, kO])) | (refine Zc (.tmp 24) ?_; refine qC rfl rfl (XD _ _) ?_; rintro v ρ' L' hle ⟨rfl, rfl, rfl⟩ <;> (try simp only [kM, kN, kO])) | (refine Zc (.tmp 31) ?_; refine qC rfl rfl (XD _ _) ?_; rintro v ρ' L' hle ⟨rfl, rfl, rfl⟩ <;> (try simp only [kM, kN, kO])) | (refine Zj ?_; try intro _)) <;> ((try simp only [kM, kN, kO]); refine Za ?_; refine Zl ?_))))
   all_goals (refine ZN ?_; (first | refine Zd 18 ?_ | refine Zb 18 ?_ | refine wCm 18 ?_); (first | refine Zd 19 ?_ | refine Zb 19 ?_ | refine wPk 19 ?_); refine rPk 20 ?_; refine ZI ?_)
   all_goals (repeat' (first | (refine Zg ?_; first | (refine Zf ?_; refine qQ ?_) | refine Zj ?_) | refine Za ?_ | (refine Zh ?_; refine Zu ?_) | (refine Zi ?_; refine Zv ?_) | (refine i_gd ?_; refine Wb rfl rfl (fun hb => ?_) (fun hb => ?_) <;> (try simp only [decide_eq_true_eq, decide_eq_false_iff_not, Bool.not_eq_true, Bool.not_eq_false, beq_iff_eq, bne_iff_ne, ne_eq, decide_eq_decide, Bool.not_eq_eq_eq_not, Bool.not_true, Bool.not_false, beq_eq_false_iff_ne, bne_eq_false_iff_eq, Bool.and_eq_true, Bool.or_eq_true, Bool.and_eq_false_imp, Bool.or_eq_false_iff] at hb)) | (refine WX ?_; refine Ww rfl (fun hb => ?_) (fun hb => ?_) <;> (try simp only [decide_eq_true_eq, decide_eq_false_iff_not, Bool.not_eq_true, Bool.not_eq_false, beq_iff_eq, bne_iff_ne, ne_eq, decide_eq_decide, Bool.not_eq_eq_eq_not, Bool.not_true, Bool.not_false, beq_eq_false_iff_ne, bne_eq_false_iff_eq, Bool.and_eq_true, Bool.or_eq_true, Bool.and_eq_false_imp, Bool.or_eq_false_iff] at hb)) | intro _))
   all_goals (try (rw [hfin (by rw [hw]; (first | (simp [*]; done) | (simp [*]; omega) | (simp_all; done) | (simp_all; omega)))]; refine qF (L' := [ptrC pb ab, Wj ab v r]) ?_; exact ⟨rfl, rfl, rfl⟩))
   all_goals rw [← e1]
   all_goals refine Zx (k + 1) (⟨hlt, by rw [hs, hw]; (first | (simp [*]; done) | (simp [*]; omega) | (simp_all; done) | (simp_all; omega))⟩) Zo Zo rfl tk inferInstance (by first | omega | (dsimp only; omega))
  ·obtain ⟨b2, off2, C2, T2, fr2, f1, hb2, hfit2, hc2⟩ := h.get (show k - 1 < l.length by omega)
   rw [e1] at f1
   cases f1
   rw [hb0] at hb2
   cases hb2
   have ek : ((k : Int) - 1).toNat = k - 1 := by omega
   rw [← ek] at hfit2
   have hc3 : List.take 2 (List.drop (off + ((k : Int) - 1).toNat * 2) C) = ckPV (l[k - 1]'(by omega)) := by rw [ek]; exact hc2
   clear hc2
   rw [decide_eq_false hk0, Bool.false_or] at hs hfin
   generalize l[k] = x at *
   generalize l[k - 1]'(by omega) = y at *
   generalize hQQ : Yp mo (fun _ x => rt x) (fun y x => decide (CkP.page y < CkP.page x)) l mo = q at *
   clear hfin0 hrt hR
   repeat' (first | (refine Zg ?_; first | (refine Zf ?_; refine qQ ?_) | refine Zj ?_) | refine Za ?_ | (refine Zh ?_; refine Zu ?_) | (refine Zi ?_; refine Zv ?_) | intro _)
   refine Zz (Zr _ _ _) Ye ?_
   all_goals (refine ZO 0 ?_; refine ZX 1 ?_)
   all_goals (refine Zm (i := 2) ?_; ((try refine Zk ?_); (first | (refine Zc (.tmp 16) ?_; refine qC rfl rfl (ckpt4_spec _ pb ab v r _) ?_; rintro v ρ' L' hle ⟨rfl, rfl, rfl⟩ <;> (try simp only [kM, kN, kO])) | (refine Zc (.tmp 24) ?_; refine qC rfl rfl (XD _ _) ?_; rintro v ρ' L' hle ⟨rfl, rfl, rfl⟩ <;> (try simp only [kM, kN, kO])) | (refine Zc (.tmp 31) ?_; refine qC rfl rfl (XD _ _) ?_; rintro v ρ' L' hle ⟨rfl, rfl, rfl⟩ <;> (try simp only [kM, kN, kO])) | (refine Zj ?_; try intro _)) <;> ((try simp only [kM, kN, kO]); refine Za ?_; refine Zl ?_)))
   all_goals (refine rUn 3 ?_; refine ZO 4 ?_)
   all_goals (first | refine Zd 5 ?_ | refine Zb 5 ?_ | refine Yk 5 ?_ | (refine YU (t := 20) rfl (fun hb => ?_) (fun hb => ?_) <;> (try simp only [kk] at hb) <;> first | refine Zd 5 ?_ | refine Zb 5 ?_ | refine Yk 5 ?_))
   all_goals ((first | refine Zd 6 ?_ | refine Zb 6 ?_ | refine wCm 6 ?_); (first | refine Zd 7 ?_ | refine Zb 7 ?_ | refine Yk 7 ?_))
   all_goals (first | refine Zd 8 ?_ | refine Zb 8 ?_ | refine Yk 8 ?_ | (refine YU (t := 23) rfl (fun hb => ?_) (fun hb => ?_) <;> (try simp only [kk] at hb) <;> first | refine Zd 8 ?_ | refine Zb 8 ?_ | refine Yk 8 ?_))
   all_goals ((first | refine Zd 9 ?_ | refine Zb 9 ?_ | refine Yk 9 ?_); (first | refine Zd 10 ?_ | refine Zb 10 ?_ | refine Yk 10 ?_); (first | refine Zd 11 ?_ | refine Zb 11 ?_ | refine wSb 11 ?_); (first | refine Zd 12 ?_ | refine Zb 12 ?_ | refine wIa 12 ?_); (first | refine Zd 13 ?_ | refine Zb 13 ?_ | refine wLd 13 ?_); (first | refine Zd 15 ?_ | refine Zb 15 ?_ | refine Yk 15 ?_); (first | refine Zd 16 ?_ | refine Zb 16 ?_ | refine wLd 16 ?_))
   all_goals (first | refine Zd 14 ?_ | refine Zb 14 ?_ | (refine Zm (i := 14) ?_; ((try refine Zk ?_); (first | (refine Zc (.tmp 16) ?_; refine qC rfl rfl (ckpt4_spec _ pb ab v r _) ?_; rintro v ρ' L' hle ⟨rfl, rfl, rfl⟩ <;> (try simp only [kM, kN, kO])) | (refine Zc (.tmp 24) ?_; refine qC rfl rfl (XD _ _) ?_; rintro v ρ' L' hle ⟨rfl, rfl, rfl⟩ <;> (try simp only [kM, kN, kO])) | (refine Zc (.tmp 31) ?_; refine qC rfl rfl (XD _ _) ?_; rintro v ρ' L' hle ⟨rfl, rfl, rfl⟩ <;> (try simp only [kM, kN, kO])) | (refine Zj ?_; try intro _)) <;> ((try simp only [kM, kN, kO]); refine Za ?_; refine Zl ?_))))
   all_goals (first | refine Zd 17 ?_ | refine Zb 17 ?_ | (refine Zm (i := 17) ?_; ((try refine Zk ?_); (first | (refine Zc (.tmp 16) ?_; refine qC rfl rfl (ckpt4_spec _ pb ab v r _) ?_; rintro v ρ' L' hle ⟨rfl, rfl, rfl⟩ <;> (try simp only [kM, kN, kO])) | (refine Zc (.tmp 24) ?_; refine qC rfl rfl (XD _ _) ?_; rintro v ρ' L' hle ⟨rfl, rfl, rfl⟩ <;> (try simp only [kM, kN, kO])) | (refine Zc (.tmp 31) ?_; refine qC rfl rfl (XD _ _) ?_; rintro v ρ' L' hle ⟨rfl, rfl, rfl⟩ <;> (try simp only [kM, kN, kO])) | (refine Zj ?_; try intro _)) <;> ((try simp only [kM, kN, kO]); refine Za ?_; refine Zl ?_))))
   all_goals (refine ZN ?_; (first | refine Zd 18 ?_ | refine Zb 18 ?_ | refine wCm 18 ?_); (first | refine Zd 19 ?_ | refine Zb 19 ?_ | refine wPk 19 ?_); refine rPk 20 ?_; refine ZI ?_)
   all_goals (repeat' (first | (refine Zg ?_; first | (refine Zf ?_; refine qQ ?_) | refine Zj ?_) | refine Za ?_ | (refine Zh ?_; refine Zu ?_) | (refine Zi ?_; refine Zv ?_) | (refine i_gd ?_; refine Wb rfl rfl (fun hb => ?_) (fun hb => ?_) <;> (try simp only [decide_eq_true_eq, decide_eq_false_iff_not, Bool.not_eq_true, Bool.not_eq_false, beq_iff_eq, bne_iff_ne, ne_eq, decide_eq_decide, Bool.not_eq_eq_eq_not, Bool.not_true, Bool.not_false, beq_eq_false_iff_ne, bne_eq_false_iff_eq, Bool.and_eq_true, Bool.or_eq_true, Bool.and_eq_false_imp, Bool.or_eq_false_iff] at hb)) | (refine WX ?_; refine Ww rfl (fun hb => ?_) (fun hb => ?_) <;> (try simp only [decide_eq_true_eq, decide_eq_false_iff_not, Bool.not_eq_true, Bool.not_eq_false, beq_iff_eq, bne_iff_ne, ne_eq, decide_eq_decide, Bool.not_eq_eq_eq_not, Bool.not_true, Bool.not_false, beq_eq_false_iff_ne, bne_eq_false_iff_eq, Bool.and_eq_true, Bool.or_eq_true, Bool.and_eq_false_imp, Bool.or_eq_false_iff] at hb)) | intro _))
   all_goals (try (rw [hfin (by rw [hw]; (first | (simp [*]; done) | (simp [*]; omega) | (simp_all; done) | (simp_all; omega)))]; refine qF (L' := [ptrC pb ab, Wj ab v r]) ?_; exact ⟨rfl, rfl, rfl⟩))
   all_goals rw [← e1]
   all_goals refine Zx (k + 1) (⟨hlt, by rw [hs, hw]; (first | (simp [*]; done) | (simp [*]; omega) | (simp_all; done) | (simp_all; omega))⟩) Zo Zo rfl tk inferInstance (by first | omega | (dsimp only; omega))
 ·have hk2 : k = n := by omega
  subst hk2
  have hkm : k = mo := by omega
  rw [hkm] at hok
  rw [hok]
  repeat' (first | (refine Zg ?_; first | (refine Zf ?_; refine qQ ?_) | refine Zj ?_) | refine Za ?_ | (refine Zh ?_; refine Zu ?_) | (refine Zi ?_; refine Zv ?_) | intro _)
  exact qE (L' := [ptrC pb ab, Wj ab v r]) ⟨rfl, rfl, rfl⟩
end Go.Proofs.E
