/- The law RecordReads. Part 14 of 21. -/
import Derived.Test.YtjajdpfdhokkhaaGreatV13B
namespace Go.Proofs.E
open Go
set_option linter.unusedVariables false
set_option linter.unusedSimpArgs false
set_option linter.unusedSectionVars false
set_option maxRecDepth 4000
set_option maxHeartbeats 1000000
attribute [local irreducible] Yl TL TC TE Spec XW R1 Hp.le EnvLe TS TR YS Zv
abbrev RdP (ρ : Hp) (tb br : Nat) (ra : Option Addr) (rn rc : Nat) (Rs : List UInt8) (y : Rc × Yo) (z : Value) (ρ' : Hp) (L' : SH) : Prop :=
 z = .tuple ⟨[]⟩ ∧ ρ.le ρ' ∧ ∃ v' r' a' n' c', RcIn ρ' v' r' ∧ r'.plain = y.1 ∧ RdAt ρ' a' n' c' ra rn rc Rs y.2 ∧ L' = rdL tb br a' n' c' ra rn rc v' r' y.2
theorem rchange_spec (ρ : Hp) (tb br : Nat) (v : RV) (r : Rc) (hr : RcIn ρ v r) (s : Yo) {a n c ra rn rc Rs} (h : RdAt ρ a n c ra rn rc Rs s) :
  Spec Tryz.prog 83 [.pointer (some ⟨tb, 0, none⟩)] ρ (rdL tb br a n c ra rn rc v r s) (RdP ρ tb br ra rn rc Rs (chD r.plain s)) := by
 unfold chD
 have hm := fun ρ cb (h : RdAt ρ a n c ra rn rc Rs s) => rmanyIm_spec ρ tb br cb v r s h
 dsimp only [Rc.plain]
 generalize YD (imD (decide (r.kind = 2))) s = q at *
 obtain ⟨xs, s2⟩ := q
 dsimp only at hm ⊢
 refine Zf Tryz.func83 rfl rfl rfl fun u R => ?_
 simp only [Zx, List.cons_append, List.nil_append]
 repeat' (first | (refine ZG ?_; refine Zn (Ze rfl) rfl rfl ?_) | (refine Zj ?_; first | (refine Zg ?_; refine qQ ?_) | refine Zl ?_) | refine Za ?_ | (refine Zi ?_; refine Zq ?_) | (refine Zh ?_; refine Zp ?_) | intro _)
 refine ZI (Zv _ _ ([[(_, .cells ⟨[.pointer (some ⟨tb, 0, none⟩)]⟩ 134 (0, 0))]])) (ZU (hT := tk) (Hp.le_refl _)) ?_
 all_goals (refine Yr 0 ?_; refine Yr 1 ?_; refine rMf 2 ?_)
 all_goals (refine Zt (i := 3) ?_; ((try refine Zr ?_); (first | (refine Zc (.func 161) ?_; refine qC rfl rfl (hm _ _ h) ?_; rintro v ρ' L' hle ⟨hl1, sa, sn, sc, acc, a1, n1, c1, rfl, hsc, hs255, hA, hP, hM, h1, rfl⟩ <;> (try simp only [kM, kN, kO])) | (refine Zl ?_; try intro _)) <;> ((try simp only [kM, kN, kO]); refine Za ?_; refine Zs ?_)))
 all_goals (refine rNc 4 ?_; refine rFa 5 ?_; refine rFa 6 ?_)
 all_goals (refine Zt (i := 7) ?_; ((try refine Zr ?_); (first | (refine Zl ?_; try intro _)) <;> ((try simp only [kM, kN, kO]); refine Za ?_; refine Zs ?_)))
 all_goals refine ZP ?_
 all_goals (repeat' (first | (refine ZG ?_; refine Zn (Ze rfl) rfl rfl ?_) | (refine Zj ?_; first | (refine Zg ?_; refine qQ ?_) | refine Zl ?_) | refine Za ?_ | (refine Zi ?_; refine Zq ?_) | (refine Zh ?_; refine Zp ?_) | intro _))
 all_goals exact qE ⟨rfl, hl1, { v with i := ⟨sa, sn, sc⟩ }, { r with ims := acc }, a1, n1, c1, ⟨⟨hA, by dsimp only; omega, hsc⟩, hP, hr.s.mono hl1, hr.t.mono hl1, hr.d.mono hl1, hr.sf⟩, by rw [← hM], h1, rfl⟩
theorem rnested_spec (ρ : Hp) (tb br : Nat) (v : RV) (r : Rc) (hr : RcIn ρ v r) (s : Yo) {a n c ra rn rc Rs} (h : RdAt ρ a n c ra rn rc Rs s) :
  Spec Tryz.prog 84 [.pointer (some ⟨tb, 0, none⟩)] ρ (rdL tb br a n c ra rn rc v r s) (RdP ρ tb br ra rn rc Rs (neD r.plain s)) := by
 unfold neD
 have h8 := n64_spec ρ br h
 dsimp only [Rc.plain]
 rw [show rdL tb br a n c ra rn rc v r s = [reC tb br ra rn rc v r (ZN 8 s).2.2.2, rdC br a n c s.2.1] from rfl]
 generalize ZN 8 s = p at *
 obtain ⟨x1, s1⟩ := p
 dsimp only at h8 ⊢
 refine Zf Tryz.func84 rfl rfl rfl fun u R => ?_
 simp only [Zx, List.cons_append, List.nil_append]
 repeat' (first | (refine Zc (.func 81) ?_; refine qC rfl rfl (h8) ?_; rintro v ρ' L' hle ⟨rfl, rfl, a1, n1, c1, h1, rfl⟩ <;> (try simp only [kM, kN, kO])) | (refine ZG ?_; refine Zn (Ze rfl) rfl rfl ?_) | (refine Zj ?_; first | (refine Zg ?_; refine qQ ?_) | refine Zl ?_) | refine Za ?_ | (refine Zi ?_; refine Zq ?_) | (refine Zh ?_; refine Zp ?_) | intro _)
 exact qE ⟨rfl, Hp.le_refl _, v, { r with next := x1 }, a1, n1, c1, ⟨hr.i, hr.im, hr.s, hr.t, hr.d, hr.sf⟩, rfl, h1, rfl⟩
theorem rundone_spec (ρ : Hp) (tb br : Nat) (v : RV) (r : Rc) (hr : RcIn ρ v r) (s : Yo) {a n c ra rn rc Rs} (h : RdAt ρ a n c ra rn rc Rs s) :
  Spec Tryz.prog 86 [.pointer (some ⟨tb, 0, none⟩)] ρ (rdL tb br a n c ra rn rc v r s) (RdP ρ tb br ra rn rc Rs (XR neD chD r.plain s)) := by
 have h1 := rnested_spec ρ tb br v r hr s h
 unfold XR
 generalize neD r.plain s = p at *
 obtain ⟨r1, s1⟩ := p
 dsimp only at h1 ⊢
 refine Zf Tryz.func86 rfl rfl rfl fun u R => ?_
 simp only [Zx, List.cons_append, List.nil_append]
 repeat' (first | (refine Zc (.func 84) ?_; refine qC rfl rfl (h1) ?_; rintro v ρ' L' hle ⟨rfl, hl1, v1, q1, a1, n1, c1, hr1, hq1, g1, rfl⟩ <;> (try simp only [kM, kN, kO])) | (refine ZG ?_; refine Zn (Ze rfl) rfl rfl ?_) | (refine Zj ?_; first | (refine Zg ?_; refine qQ ?_) | refine Zl ?_) | refine Za ?_ | (refine Zi ?_; refine Zq ?_) | (refine Zh ?_; refine Zp ?_) | intro _)
 have h2 := rchange_spec _ tb br v1 q1 hr1 s1 g1
 rw [hq1] at h2
 repeat' (first | (refine Zc (.func 83) ?_; refine qC rfl rfl (h2) ?_; rintro v ρ' L' hle ⟨rfl, hl2, v2, q2, a2, n2, c2, hr2, hq2, g2, rfl⟩ <;> (try simp only [kM, kN, kO])) | (refine ZG ?_; refine Zn (Ze rfl) rfl rfl ?_) | (refine Zj ?_; first | (refine Zg ?_; refine qQ ?_) | refine Zl ?_) | refine Za ?_ | (refine Zi ?_; refine Zq ?_) | (refine Zh ?_; refine Zp ?_) | intro _)
 exact qE ⟨rfl, Hp.le_trans hl1 hl2, v2, q2, a2, n2, c2, hr2, hq2, g2, rfl⟩
theorem rdone_spec (ρ : Hp) (tb br : Nat) (v : RV) (r : Rc) (hr : RcIn ρ v r) (s : Yo) {a n c ra rn rc Rs} (h : RdAt ρ a n c ra rn rc Rs s) :
  Spec Tryz.prog 85 [.pointer (some ⟨tb, 0, none⟩)] ρ (rdL tb br a n c ra rn rc v r s) (RdP ρ tb br ra rn rc Rs (XR neD doD r.plain s)) := by
 have h1 := rnested_spec ρ tb br v r hr s h
 unfold XR
 generalize neD r.plain s = p at *
 obtain ⟨r1, s1⟩ := p
 dsimp only at h1 ⊢
 refine Zf Tryz.func85 rfl rfl rfl fun u R => ?_
 simp only [Zx, List.cons_append, List.nil_append]
 repeat' (first | (refine Zc (.func 84) ?_; refine qC rfl rfl (h1) ?_; rintro v ρ' L' hle ⟨rfl, hl1, v1, q1, a1, n1, c1, hr1, hq1, g1, rfl⟩ <;> (try simp only [kM, kN, kO])) | (refine ZG ?_; refine Zn (Ze rfl) rfl rfl ?_) | (refine Zj ?_; first | (refine Zg ?_; refine qQ ?_) | refine Zl ?_) | refine Za ?_ | (refine Zi ?_; refine Zq ?_) | (refine Zh ?_; refine Zp ?_) | intro _)
 have hm := fun ρ cb (h : RdAt ρ a1 n1 c1 ra rn rc Rs s1) => rmanyStp_spec ρ tb br cb v1 q1 s1 h
 unfold doD
 dsimp only at hq1
 rw [← hq1]
 generalize YD XU s1 = q at *
 obtain ⟨xs, s2⟩ := q
 dsimp only at hm ⊢
 refine ZI (Zv _ _ ([[(_, .cells ⟨[.pointer (some ⟨tb, 0, none⟩)]⟩ 134 (0, 0))]])) (ZU (hT := tk) (Hp.le_refl _)) ?_
 all_goals (refine Yr 0 ?_; refine Yr 1 ?_; refine rMf 2 ?_)
 all_goals (refine Zt (i := 3) ?_; ((try refine Zr ?_); (first | (refine Zc (.func 165) ?_; refine qC rfl rfl (hm _ _ g1) ?_; rintro v ρ' L' hle ⟨hl2, sa, sn, sc, acc, a2, n2, c2, rfl, hsc, hs255, hA, hP, hM, g2, rfl⟩ <;> (try simp only [kM, kN, kO])) | (refine Zl ?_; try intro _)) <;> ((try simp only [kM, kN, kO]); refine Za ?_; refine Zs ?_)))
 all_goals (refine rNc 4 ?_; refine rFa 5 ?_; refine rFa 6 ?_)
 all_goals (refine Zt (i := 7) ?_; ((try refine Zr ?_); (first | (refine Zl ?_; try intro _)) <;> ((try simp only [kM, kN, kO]); refine Za ?_; refine Zs ?_)))
 all_goals refine ZP ?_
 all_goals (repeat' (first | (refine ZG ?_; refine Zn (Ze rfl) rfl rfl ?_) | (refine Zj ?_; first | (refine Zg ?_; refine qQ ?_) | refine Zl ?_) | refine Za ?_ | (refine Zi ?_; refine Zq ?_) | (refine Zh ?_; refine Zp ?_) | intro _))
 all_goals exact qE ⟨rfl, Hp.le_trans hl1 hl2, { v1 with s := ⟨sa, sn, sc⟩ }, { q1 with steps := acc }, a2, n2, c2, ⟨hr1.i.mono hl2, fun x hx => (hr1.im x hx).mono hl2, ⟨hA, by dsimp only; omega, hsc⟩, hr1.t.mono hl2, hr1.d.mono hl2, hP⟩, by rw [← hM], g2, rfl⟩
theorem rckpt_spec (ρ : Hp) (tb br : Nat) (v : RV) (r : Rc) (hr : RcIn ρ v r) (s : Yo) {a n c ra rn rc Rs} (h : RdAt ρ a n c ra rn rc Rs s) :
  Spec Tryz.prog 87 [.pointer (some ⟨tb, 0, none⟩)] ρ (rdL tb br a n c ra rn rc v r s) (RdP ρ tb br ra rn rc Rs (XR (XR cxD ctD) cdD r.plain s)) := by
 unfold XR cxD ctD cdD
 have h8 := fun ρ (h : RdAt ρ a n c ra rn rc Rs s) => n32_spec ρ br h
 have hlt := XE 4 s
 dsimp only [Rc.plain]
 rw [show rdL tb br a n c ra rn rc v r s = [reC tb br ra rn rc v r (ZN 4 s).2.2.2, rdC br a n c s.2.1] from rfl]
 generalize ZN 4 s = p at *
 obtain ⟨x1, s1⟩ := p
 dsimp only at h8 hlt ⊢
 have hm := fun ρ a n c cb v q (h : RdAt ρ a n c ra rn rc Rs s1) => rmanyCkT_spec ρ tb br cb v q s1 h
 generalize YD ckTD s1 = p2 at *
 obtain ⟨xs, s2⟩ := p2
 dsimp only at hm ⊢
 have hm2 := fun ρ a n c cb v q (h : RdAt ρ a n c ra rn rc Rs s2) => rmanyCkP_spec ρ tb br cb v q s2 h
 generalize YD ckPD s2 = p3 at *
 obtain ⟨ys, s3⟩ := p3
 dsimp only at hm2 ⊢
 refine Zf Tryz.func87 rfl rfl rfl fun u R => ?_
 simp only [Zx, List.cons_append, List.nil_append]
 repeat' (first | (refine ZG ?_; refine Zn (Ze rfl) rfl rfl ?_) | (refine Zj ?_; first | (refine Zg ?_; refine qQ ?_) | refine Zl ?_) | refine Za ?_ | (refine Zi ?_; refine Zq ?_) | (refine Zh ?_; refine Zp ?_) | intro _)
 refine ZI (Zv _ _ ([[(_, .cells ⟨[.pointer (some ⟨tb, 0, none⟩)]⟩ 134 (0, 0))]])) (ZU (hT := tk) (Hp.le_refl _)) ?_
 all_goals (refine Yr 0 ?_; refine Yr 1 ?_; refine rNc 2 ?_; refine rFa 3 ?_)
 all_goals (refine Zt (i := 4) ?_; ((try refine Zr ?_); (first | (refine Zc (.func 82) ?_; refine qC rfl rfl (h8 _ h) ?_; rintro v ρ' L' hle ⟨rfl, rfl, a1, n1, c1, h1, rfl⟩ <;> (try simp only [kM, kN, kO])) | (refine Zg ?_; refine qQ ?_) | (refine Zl ?_; try intro _)) <;> ((try simp only [kM, kN, kO]); refine Za ?_; refine Zs ?_)))
 all_goals (refine Zt (i := 5) ?_; ((try refine Zr ?_); (first | (refine Zc (.func 82) ?_; refine qC rfl rfl (h8 _ h) ?_; rintro v ρ' L' hle ⟨rfl, rfl, a1, n1, c1, h1, rfl⟩ <;> (try simp only [kM, kN, kO])) | (refine Zg ?_; refine qQ ?_) | (refine Zl ?_; try intro _)) <;> ((try simp only [kM, kN, kO]); refine Za ?_; refine Zs ?_)))
 all_goals (refine rCv 6 ?_; refine rNc 7 ?_; refine rFa 8 ?_; refine rFa 9 ?_)
 all_goals (refine Zt (i := 10) ?_; ((try refine Zr ?_); (first | (refine Zg ?_; refine qQ ?_) | (refine Zl ?_; try intro _)) <;> ((try simp only [kM, kN, kO]); refine Za ?_; refine Zs ?_)))
 all_goals refine ZP ?_
 all_goals (repeat' (first | (refine ZG ?_; refine Zn (Ze rfl) rfl rfl ?_) | (refine Zj ?_; first | (refine Zg ?_; refine qQ ?_) | refine Zl ?_) | refine Za ?_ | (refine Zi ?_; refine Zq ?_) | (refine Zh ?_; refine Zp ?_) | intro _))
 all_goals refine ZI (Zv _ _ ([[(_, .cells ⟨[.pointer (some ⟨tb, 0, none⟩)]⟩ 134 (0, 0))]])) (ZU (hT := tk) (Hp.le_refl _)) ?_
 all_goals (refine Yr 0 ?_; refine Yr 1 ?_; refine rMf 2 ?_)
 all_goals (refine Zt (i := 3) ?_; ((try refine Zr ?_); (first | (refine Zc (.func 170) ?_; refine qC rfl rfl (hm _ _ _ _ _ v { r with nextTxn := x1 } h1) ?_; rintro v ρ' L' hle ⟨hl1, sa, sn, sc, acc, a2, n2, c2, rfl, hsc, hs255, hA, hP, hM, h2, rfl⟩ <;> (try simp only [kM, kN, kO])) | (refine Zl ?_; try intro _)) <;> ((try simp only [kM, kN, kO]); refine Za ?_; refine Zs ?_)))
 all_goals (refine rNc 4 ?_; refine rFa 5 ?_; refine rFa 6 ?_)
 all_goals (refine Zt (i := 7) ?_; ((try refine Zr ?_); (first | (refine Zl ?_; try intro _)) <;> ((try simp only [kM, kN, kO]); refine Za ?_; refine Zs ?_)))
 all_goals refine ZP ?_
 all_goals (repeat' (first | (refine ZG ?_; refine Zn (Ze rfl) rfl rfl ?_) | (refine Zj ?_; first | (refine Zg ?_; refine qQ ?_) | refine Zl ?_) | refine Za ?_ | (refine Zi ?_; refine Zq ?_) | (refine Zh ?_; refine Zp ?_) | intro _))
 all_goals refine ZI (Zv _ _ ([[(_, .cells ⟨[.pointer (some ⟨tb, 0, none⟩)]⟩ 134 (0, 0))]])) (ZU (hT := tk) (Hp.le_refl _)) ?_
 all_goals (refine Yr 0 ?_; refine Yr 1 ?_; refine rMf 2 ?_)
 all_goals (refine Zt (i := 3) ?_; ((try refine Zr ?_); (first | (refine Zc (.func 172) ?_; refine qC rfl rfl (hm2 _ _ _ _ _ { v with t := ⟨sa, sn, sc⟩ } { r with nextTxn := x1, txns := acc } h2) ?_; rintro v ρ' L' hle ⟨hl3, sa3, sn3, sc3, acc3, a3, n3, c3, rfl, hsc3, hs3255, hA3, hP3, hM3, h3, rfl⟩ <;> (try simp only [kM, kN, kO])) | (refine Zl ?_; try intro _)) <;> ((try simp only [kM, kN, kO]); refine Za ?_; refine Zs ?_)))
 all_goals (refine rNc 4 ?_; refine rFa 5 ?_; refine rFa 6 ?_)
 all_goals (refine Zt (i := 7) ?_; ((try refine Zr ?_); (first | (refine Zl ?_; try intro _)) <;> ((try simp only [kM, kN, kO]); refine Za ?_; refine Zs ?_)))
 all_goals refine ZP ?_
 all_goals (repeat' (first | (refine ZG ?_; refine Zn (Ze rfl) rfl rfl ?_) | (refine Zj ?_; first | (refine Zg ?_; refine qQ ?_) | refine Zl ?_) | refine Za ?_ | (refine Zi ?_; refine Zq ?_) | (refine Zh ?_; refine Zp ?_) | intro _))
 all_goals exact qE ⟨rfl, Hp.le_trans hl1 hl3, { v with t := ⟨sa, sn, sc⟩, d := ⟨sa3, sn3, sc3⟩ }, { r with nextTxn := x1, txns := acc, dirty := acc3 }, a3, n3, c3, ⟨hr.i.mono (Hp.le_trans hl1 hl3), fun x hx => (hr.im x hx).mono (Hp.le_trans hl1 hl3), hr.s.mono (Hp.le_trans hl1 hl3), ⟨hA.mono hl3, by dsimp only; omega, hsc⟩, ⟨hA3, by dsimp only; omega, hsc3⟩, hr.sf⟩, by rw [← hM, ← hM3], h3, rfl⟩
def takF (k : Int) : Nat := if k = 2 then 83 else if k = 3 then 84 else if k = 4 then 85 else if k = 5 then 86 else 87
theorem tak_spec (tb br : Nat) (v : RV) (r : Rc) (hk : r.kind = 2 ∨ r.kind = 3 ∨ r.kind = 4 ∨ r.kind = 5 ∨ r.kind = 9) (s : Yo) (ra : Option Addr) (rn rc : Nat) (Rs : List UInt8) : Yv Tryz.prog (takF r.kind) ∧ ∀ (ρ : Hp) a n c, RdAt ρ a n c ra rn rc Rs s → RcIn ρ v r →
  Spec Tryz.prog (takF r.kind) [.pointer (some ⟨tb, 0, none⟩)] ρ (rdL tb br a n c ra rn rc v r s) (RdP ρ tb br ra rn rc Rs (XM r.plain s)) := by
 unfold takF XM
 dsimp only [Rc.plain]
 rcases hk with e | e | e | e | e
 ·rw [if_pos e, if_pos e]
  exact ⟨inferInstance, fun ρ a n c h hr => rchange_spec ρ tb br v r hr s h⟩
 ·rw [if_neg (by omega), if_pos e, if_neg (by omega), if_pos e]
  exact ⟨inferInstance, fun ρ a n c h hr => rnested_spec ρ tb br v r hr s h⟩
 ·rw [if_neg (by omega), if_neg (by omega), if_pos e, if_neg (by omega), if_neg (by omega), if_pos e]
  exact ⟨inferInstance, fun ρ a n c h hr => rdone_spec ρ tb br v r hr s h⟩
 ·rw [if_neg (by omega), if_neg (by omega), if_neg (by omega), if_pos e, if_neg (by omega), if_neg (by omega), if_neg (by omega), if_pos e]
  exact ⟨inferInstance, fun ρ a n c h hr => rundone_spec ρ tb br v r hr s h⟩
 ·rw [if_neg (by omega), if_neg (by omega), if_neg (by omega), if_neg (by omega), if_neg (by omega), if_neg (by omega), if_neg (by omega), if_neg (by omega), if_pos e]
  exact ⟨inferInstance, fun ρ a n c h hr => rckpt_spec ρ tb br v r hr s h⟩
theorem takF_chain {f : Nat → Option Value} {k : Int} (hk : k = 2 ∨ k = 3 ∨ k = 4 ∨ k = 5 ∨ k = 9) : (if k = 9 then f 87 else if k = 5 then f 86 else if k = 4 then f 85 else if k = 3 then f 84 else if k = 2 then f 83 else none) = f (takF k) := by
 unfold takF
 rcases hk with e | e | e | e | e <;> subst e <;> rfl
theorem tailD_none {r : Rc} {s : Yo} (hk : ¬ (r.kind = 2 ∨ r.kind = 3 ∨ r.kind = 4 ∨ r.kind = 5 ∨ r.kind = 9)) : XM r s = (r, s) := by
 unfold XM
 rw [if_neg (by omega), if_neg (by omega), if_neg (by omega), if_neg (by omega), if_neg (by omega)]
def nilRV : RV := ⟨⟨none, 0, 0⟩, ⟨none, 0, 0⟩, ⟨none, 0, 0⟩, ⟨none, 0, 0⟩⟩
theorem WC {ρ : Hp} (k : Int) (l : Nat) (t : Int) (p : Nat) : RcIn ρ nilRV ⟨k, l, t, p, 0, [], [], 0, [], []⟩ := ⟨AS.nil, by simp, AS.nil, AS.nil, AS.nil, by simp⟩
theorem rdecode_spec (ρ : Hp) (a : Option Addr) (n c : Nat) (l : List UInt8) (h : SIn ρ ZM a n l) (hc : n ≤ c) (hn : n ≤ 1000000) : Spec Tryz.prog 22 [.slice a n c] ρ []
  (fun z ρ' L' => ρ.le ρ' ∧ ∃ v r, z = .tuple ⟨[.agg ⟨Wv v r⟩, .int .i64 (if Yq l then 0 else 161)]⟩ ∧ RcIn ρ' v r ∧ r.plain = decR l ∧ L' = []) := by
 have hnil : Xe .i64 [] := by intro e he; simp at he
 have hg0 : ∀ k : Int, Xo [] k = none := fun _ => rfl
 have hrd := read_spec ρ a n c l h hn
 have hDR : decR l = if Yq l then (decD l).1 else zeroRc := rfl
 have hDO : Yq l = (okS (decD l).2 && (decide ((decD l).2.1.length = 0) && YM (decD l).1)) := rfl
 generalize decR l = dr at *
 generalize Yq l = dk at *
 obtain ⟨s0, hs0⟩ : ∃ s0 : Yo, (l, 0, false) = s0 := ⟨_, rfl⟩
 have h00 : (0 : Int) = s0.2.1 := by rw [← hs0]
 have hf0 : false = s0.2.2 := by rw [← hs0]
 have hl0 : l = s0.1 := by rw [← hs0]
 unfold decD at hDR hDO
 rw [hs0] at hDR hDO
 unfold headD hdL hdT hdP at hDR hDO
 have k1 := fun ρ br {a n c ra rn rc Rs} (h : RdAt ρ a n c ra rn rc Rs s0) => n8_spec ρ br h
 have b1 := XE 1 s0
 have f1 := rdN_bad 1 s0
 generalize ZN 1 s0 = p1 at *
 obtain ⟨x1, s1⟩ := p1
 have k2 := fun ρ br {a n c ra rn rc Rs} (h : RdAt ρ a n c ra rn rc Rs s1) => n64_spec ρ br h
 have f2 := rdN_bad 8 s1
 dsimp only at k1 b1 f1 hDR hDO
 generalize ZN 8 s1 = p2 at *
 obtain ⟨x2, s2⟩ := p2
 have k3 := fun ρ br {a n c ra rn rc Rs} (h : RdAt ρ a n c ra rn rc Rs s2) => n32_spec ρ br h
 have b3 := XE 4 s2
 have f3 := rdN_bad 4 s2
 dsimp only at k2 f2 hDR hDO
 generalize ZN 4 s2 = p3 at *
 obtain ⟨x3, s3⟩ := p3
 have k4 := fun ρ br {a n c ra rn rc Rs} (h : RdAt ρ a n c ra rn rc Rs s3) => n64_spec ρ br h
 have f4 := rdN_bad 8 s3
 dsimp only at k3 b3 f3 hDR hDO
 generalize ZN 8 s3 = p4 at *
 obtain ⟨x4, s4⟩ := p4
 dsimp only at k4 f4 hDR hDO
 have hbad : s4.2.2 = false := by rw [f4, f3, f2, f1, ← hf0]
 have hra : ∀ {ρ} {a' : Option Addr} {c' : Nat}, SIn ρ ZM a n l → SIn ρ ZM a' n l → n ≤ c' → RdAt ρ a' n c' a n c l s0 := fun h1 h2 h3 => ⟨by rw [← hl0]; exact h2, h3, h1, hc, hn, [], by rw [← hl0]; rfl⟩
 refine Zf Tryz.func22 rfl rfl rfl fun u R => ?_
 simp only [Zx, List.cons_append, List.nil_append]
 repeat' (first | (refine Zc (.func 79) ?_; refine qC rfl rfl (hrd) ?_; rintro v ρ' L' hle ⟨hl1, br, a0, c0, rfl, hc0, hsq, rfl⟩ <;> (try simp only [kM, kN, kO]); rw [show rdC br a0 n c0 0 = rdC br a0 n c0 s0.2.1 by rw [← h00]]; have h0 := hra (h.mono hl1) hsq hc0) | (refine Zc (.func 80) ?_; refine qC rfl rfl (k1 _ br h0) ?_; rintro v ρ' L' hle ⟨rfl, rfl, a1, n1, c1, g1, rfl⟩ <;> (try simp only [kM, kN, kO]); rename_i tb hlx) | (refine Zc (.func 81) ?_; refine qC rfl rfl (k2 _ br g1) ?_; rintro v ρ' L' hle ⟨rfl, rfl, a2, n2, c2, g2, rfl⟩ <;> (try simp only [kM, kN, kO])) | (refine Zc (.func 82) ?_; refine qC rfl rfl (k3 _ br g2) ?_; rintro v ρ' L' hle ⟨rfl, rfl, a3, n3, c3, g3, rfl⟩ <;> (try simp only [kM, kN, kO])) | (refine Zc (.func 81) ?_; refine qC rfl rfl (k4 _ br g3) ?_; rintro v ρ' L' hle ⟨rfl, rfl, a4, n4, c4, g4, rfl⟩ <;> (try simp only [kM, kN, kO])) | (rename_i mb; refine Yh rfl rfl rfl hnil (fun es1 ck1 i1 j1 => ?_)) | (refine Yh rfl rfl rfl i1 (fun es2 ck2 i2 j2 => ?_)) | (refine Yh rfl rfl rfl i2 (fun es3 ck3 i3 j3 => ?_)) | (refine Yh rfl rfl rfl i3 (fun es4 ck4 i4 j4 => ?_)) | (refine ZG ?_; refine Zn (Ze rfl) rfl rfl ?_) | (refine Zj ?_; first | (refine Zg ?_; refine qQ ?_) | refine Zl ?_) | refine Za ?_ | (refine Zi ?_; refine Zq ?_) | (refine Zh ?_; refine Zp ?_) | intro _)
 refine Yh rfl rfl rfl i4 (fun es5 ck5 i5 j5 => ?_)
 have hg := j5 (x1 : Int)
 rw [j4, j3, j2, j1, hg0] at hg
 clear j1 j2 j3 j4 j5 i1 i2 i3 i4 k1 k2 k3 k4 hra
 obtain ⟨r0, hr0⟩ : ∃ r0 : Rc, (⟨x1, x2, x3, x4, 0, [], [], 0, [], []⟩ : Rc) = r0 := ⟨_, rfl⟩
 obtain ⟨l4, st4, bd4⟩ := s4
 dsimp only at hbad
 subst hbad
 by_cases hk : (x1 : Int) = 2 ∨ (x1 : Int) = 3 ∨ (x1 : Int) = 4 ∨ (x1 : Int) = 5 ∨ (x1 : Int) = 9
 ·obtain ⟨hF, hS⟩ := tak_spec tb br nilRV r0 (by rw [← hr0]; exact hk) (l4, st4, false) a n c l
  have hS := fun ρ (h : RdAt ρ a4 n4 c4 a n c l (l4, st4, false)) => hS ρ a4 n4 c4 h (by rw [← hr0]; exact WC _ _ _ _)
  have hkk : r0.kind = (x1 : Int) := by rw [← hr0]
  have hpl : r0.plain = r0 := by rw [← hr0]; rfl
  rw [hkk] at hF hS
  rw [hpl] at hS
  rw [hr0] at hDR hDO
  have hgF : Xo es5 (x1 : Int) = some (Value.func (.func (takF (x1 : Int))) ⟨[.pointer (some ⟨tb, 0, none⟩)]⟩ ⟨[]⟩) := by
   rw [hg]
   exact takF_chain (f := fun F => some (Value.func (.func F) ⟨[.pointer (some ⟨tb, 0, none⟩)]⟩ ⟨[]⟩)) hk
  clear hg
  generalize takF (x1 : Int) = F at *
  generalize XM r0 (l4, st4, false) = y at *
  subst hr0
  repeat' (first | (refine Zc (.tmp 71) ?_; refine qC rfl rfl (hS _ g4) ?_; rintro v ρ' L' hle ⟨rfl, hl2, v2, q2, a5, n5, c5, hr2, hq2, g5, rfl⟩ <;> (try simp only [kM, kN, kO])) | (refine ZG ?_; refine Zn (Ze rfl) rfl rfl ?_) | (refine Zj ?_; first | (refine Zg ?_; refine qQ ?_) | refine Zl ?_) | refine Za ?_ | (refine Zi ?_; refine Zq ?_) | (refine Zh ?_; refine Zp ?_) | intro _)
  have hro : YM q2 = YM y.1 := by rw [← hq2, recOk_plain]
  have hn5 := g5.at'.len
  have hck := XV ρ' v2 q2 hr2
  have hokS := rok_spec ρ' tb br a5 n5 c5 a n c v2 q2 y.2
  have hlf := Xq ρ' br a5 n5 c5 y.2.2.1
  rw [hn5, ← hro] at hDO
  cases ho : okS y.2
  ·rw [ho] at hokS hDO
   rw [Bool.false_and] at hDO
   subst hDO
   rw [if_neg (by simp)] at hDR
   repeat' (first | (refine Zc (.func 88) ?_; refine qC rfl rfl (hokS) ?_; rintro v ρ' L' hle ⟨rfl, rfl, rfl⟩ <;> (try simp only [kM, kN, kO])) | (refine ZG ?_; refine Zn (Ze rfl) rfl rfl ?_) | (refine Zj ?_; first | (refine Zg ?_; refine qQ ?_) | refine Zl ?_) | refine Za ?_ | (refine Zi ?_; refine Zq ?_) | (refine Zh ?_; refine Zp ?_) | intro _)
   exact qE (L' := []) ⟨Hp.le_trans hl1 hl2, nilRV, zeroRc, rfl, WC _ _ _ _, hDR.symm, rfl⟩
  ·rw [ho] at hokS hDO
   rw [Bool.true_and] at hDO
   by_cases hz : n5 = 0
   ·rw [decide_eq_true hz, Bool.true_and] at hDO
    cases hrk : YM q2
    ·rw [hrk] at hDO hck
     subst hDO
     rw [if_neg (by simp)] at hDR
     repeat' (first | (refine Zc (.func 88) ?_; refine qC rfl rfl (hokS) ?_; rintro v ρ' L' hle ⟨rfl, rfl, rfl⟩ <;> (try simp only [kM, kN, kO])) | (refine Zc (.func 89) ?_; refine qC rfl rfl (hlf) ?_; rintro v ρ' L' hle ⟨rfl, rfl, rfl⟩ <;> (try simp only [kM, kN, kO])) | (refine Zc (.func 27) ?_; refine qC rfl rfl (hck) ?_; rintro v ρ' L' hle ⟨rfl, rfl, rfl⟩ <;> (try simp only [kM, kN, kO, if_false, Bool.false_eq_true])) | (refine ZG ?_; refine Zn (Ze rfl) rfl rfl ?_) | (refine Zj ?_; first | (refine Zg ?_; refine qQ ?_) | refine Zl ?_) | refine Za ?_ | (refine Zi ?_; refine Zq ?_) | (refine Zh ?_; refine Zp ?_) | intro _)
     exact qE (L' := []) ⟨Hp.le_trans hl1 hl2, nilRV, zeroRc, rfl, WC _ _ _ _, hDR.symm, rfl⟩
    ·rw [hrk] at hDO hck
     subst hDO
     rw [if_pos rfl] at hDR
     repeat' (first | (refine Zc (.func 88) ?_; refine qC rfl rfl (hokS) ?_; rintro v ρ' L' hle ⟨rfl, rfl, rfl⟩ <;> (try simp only [kM, kN, kO])) | (refine Zc (.func 89) ?_; refine qC rfl rfl (hlf) ?_; rintro v ρ' L' hle ⟨rfl, rfl, rfl⟩ <;> (try simp only [kM, kN, kO])) | (refine Zc (.func 27) ?_; refine qC rfl rfl (hck) ?_; rintro v ρ' L' hle ⟨rfl, rfl, rfl⟩ <;> (try simp only [kM, kN, kO, if_true])) | (refine ZG ?_; refine Zn (Ze rfl) rfl rfl ?_) | (refine Zj ?_; first | (refine Zg ?_; refine qQ ?_) | refine Zl ?_) | refine Za ?_ | (refine Zi ?_; refine Zq ?_) | (refine Zh ?_; refine Zp ?_) | intro _)
     exact qE (L' := []) ⟨Hp.le_trans hl1 hl2, v2, q2, rfl, hr2, hq2.trans hDR.symm, rfl⟩
   ·rw [decide_eq_false hz, Bool.false_and] at hDO
    subst hDO
    rw [if_neg (by simp)] at hDR
    repeat' (first | (refine Zc (.func 88) ?_; refine qC rfl rfl (hokS) ?_; rintro v ρ' L' hle ⟨rfl, rfl, rfl⟩ <;> (try simp only [kM, kN, kO])) | (refine Zc (.func 89) ?_; refine qC rfl rfl (hlf) ?_; rintro v ρ' L' hle ⟨rfl, rfl, rfl⟩ <;> (try simp only [kM, kN, kO])) | (refine ZG ?_; refine Zn (Ze rfl) rfl rfl ?_) | (refine Zj ?_; first | (refine Zg ?_; refine qQ ?_) | refine Zl ?_) | refine Za ?_ | (refine Zi ?_; refine Zq ?_) | (refine Zh ?_; refine Zp ?_) | intro _)
    exact qE (L' := []) ⟨Hp.le_trans hl1 hl2, nilRV, zeroRc, rfl, WC _ _ _ _, hDR.symm, rfl⟩
 ·have hgN : Xo es5 (x1 : Int) = none := by
   rw [hg]
   simp only [show ¬ (x1 : Int) = 9 by omega, show ¬ (x1 : Int) = 5 by omega, show ¬ (x1 : Int) = 4 by omega, show ¬ (x1 : Int) = 3 by omega, show ¬ (x1 : Int) = 2 by omega, if_false]
  clear hg
  rw [tailD_none hk] at hDR hDO
  dsimp only at hDR hDO
  obtain ⟨v2, hv2⟩ : ∃ v, v = nilRV := ⟨_, rfl⟩
  have hr2 : RcIn ρ' v2 ⟨x1, x2, x3, x4, 0, [], [], 0, [], []⟩ := by rw [hv2]; exact WC _ _ _ _
  have hpl : r0.plain = r0 := by rw [← hr0]; rfl
  rw [hr0] at hDR hDO hr2
  have hn5 := g4.at'.len
  dsimp only at hn5
  have hck := XV ρ' v2 r0 hr2
  have hokS : Spec Tryz.prog 88 [.pointer (some ⟨tb, 0, none⟩)] ρ' [reC tb br a n c v2 r0 false, rdC br a4 n4 c4 st4] (fun z ρ2 L' => z = .bool (okS (l4, st4, false)) ∧ ρ2 = ρ' ∧ L' = [reC tb br a n c v2 r0 false, rdC br a4 n4 c4 st4]) := rok_spec ρ' tb br a4 n4 c4 a n c v2 r0 (l4, st4, false)
  have hlf := Xq ρ' br a4 n4 c4 st4
  rw [hn5] at hDO
  have hre : [(tb, Obj.cells ⟨[Value.pointer (some ⟨br, 0, none⟩), .slice a n c, .int .i64 (x1 : Int), .int .u64 (x2 : Int), .int .i64 (x3 : Int), .int .u64 (x4 : Int), .int .u64 0, .slice none 0 0, .slice none 0 0, .int .i64 0, .slice none 0 0, .slice none 0 0, .bool false]⟩ 138 (0, 0))] = reC tb br a n c v2 r0 false := by rw [hv2, ← hr0]; rfl
  repeat' (first | (refine ZG ?_; refine Zn (Ze rfl) rfl rfl ?_) | (refine Zj ?_; first | (refine Zg ?_; refine qQ ?_) | refine Zl ?_) | refine Za ?_ | (refine Zi ?_; refine Zq ?_) | (refine Zh ?_; refine Zp ?_) | intro _)
  rw [hre]
  cases ho : okS (l4, st4, false)
  ·rw [ho] at hokS hDO
   rw [Bool.false_and] at hDO
   subst hDO
   rw [if_neg (by simp)] at hDR
   repeat' (first | (refine Zc (.func 88) ?_; refine qC rfl rfl (hokS) ?_; rintro v ρ' L' hle ⟨rfl, rfl, rfl⟩ <;> (try simp only [kM, kN, kO])) | (refine ZG ?_; refine Zn (Ze rfl) rfl rfl ?_) | (refine Zj ?_; first | (refine Zg ?_; refine qQ ?_) | refine Zl ?_) | refine Za ?_ | (refine Zi ?_; refine Zq ?_) | (refine Zh ?_; refine Zp ?_) | intro _)
   exact qE (L' := []) ⟨hl1, nilRV, zeroRc, rfl, WC _ _ _ _, hDR.symm, rfl⟩
  ·rw [ho] at hokS hDO
   rw [Bool.true_and] at hDO
   by_cases hz : n4 = 0
   ·rw [decide_eq_true hz, Bool.true_and] at hDO
    cases hrk : YM r0
    ·rw [hrk] at hDO hck
     subst hDO
     rw [if_neg (by simp)] at hDR
     repeat' (first | (refine Zc (.func 88) ?_; refine qC rfl rfl (hokS) ?_; rintro v ρ' L' hle ⟨rfl, rfl, rfl⟩ <;> (try simp only [kM, kN, kO])) | (refine Zc (.func 89) ?_; refine qC rfl rfl (hlf) ?_; rintro v ρ' L' hle ⟨rfl, rfl, rfl⟩ <;> (try simp only [kM, kN, kO])) | (refine Zc (.func 27) ?_; refine qC rfl rfl (hck) ?_; rintro v ρ' L' hle ⟨rfl, rfl, rfl⟩ <;> (try simp only [kM, kN, kO, if_false, Bool.false_eq_true])) | (refine ZG ?_; refine Zn (Ze rfl) rfl rfl ?_) | (refine Zj ?_; first | (refine Zg ?_; refine qQ ?_) | refine Zl ?_) | refine Za ?_ | (refine Zi ?_; refine Zq ?_) | (refine Zh ?_; refine Zp ?_) | intro _)
     exact qE (L' := []) ⟨hl1, nilRV, zeroRc, rfl, WC _ _ _ _, hDR.symm, rfl⟩
    ·rw [hrk] at hDO hck
     subst hDO
     rw [if_pos rfl] at hDR
     repeat' (first | (refine Zc (.func 88) ?_; refine qC rfl rfl (hokS) ?_; rintro v ρ' L' hle ⟨rfl, rfl, rfl⟩ <;> (try simp only [kM, kN, kO])) | (refine Zc (.func 89) ?_; refine qC rfl rfl (hlf) ?_; rintro v ρ' L' hle ⟨rfl, rfl, rfl⟩ <;> (try simp only [kM, kN, kO])) | (refine Zc (.func 27) ?_; refine qC rfl rfl (hck) ?_; rintro v ρ' L' hle ⟨rfl, rfl, rfl⟩ <;> (try simp only [kM, kN, kO, if_true])) | (refine ZG ?_; refine Zn (Ze rfl) rfl rfl ?_) | (refine Zj ?_; first | (refine Zg ?_; refine qQ ?_) | refine Zl ?_) | refine Za ?_ | (refine Zi ?_; refine Zq ?_) | (refine Zh ?_; refine Zp ?_) | intro _)
     exact qE (L' := []) ⟨hl1, v2, r0, rfl, hr2, hpl.trans hDR.symm, rfl⟩
   ·rw [decide_eq_false hz, Bool.false_and] at hDO
    subst hDO
    rw [if_neg (by simp)] at hDR
    repeat' (first | (refine Zc (.func 88) ?_; refine qC rfl rfl (hokS) ?_; rintro v ρ' L' hle ⟨rfl, rfl, rfl⟩ <;> (try simp only [kM, kN, kO])) | (refine Zc (.func 89) ?_; refine qC rfl rfl (hlf) ?_; rintro v ρ' L' hle ⟨rfl, rfl, rfl⟩ <;> (try simp only [kM, kN, kO])) | (refine ZG ?_; refine Zn (Ze rfl) rfl rfl ?_) | (refine Zj ?_; first | (refine Zg ?_; refine qQ ?_) | refine Zl ?_) | refine Za ?_ | (refine Zi ?_; refine Zq ?_) | (refine Zh ?_; refine Zp ?_) | intro _)
    exact qE (L' := []) ⟨hl1, nilRV, zeroRc, rfl, WC _ _ _ _, hDR.symm, rfl⟩
def imEq (x y : Im) : Bool := decide (x.page = y.page) && (decide (x.b = y.b) && decide (x.a = y.a))
theorem imEq_iff {x y : Im} : imEq x y = true ↔ x.plain = y.plain := by
 obtain ⟨p, bv, b, av, a⟩ := x
 obtain ⟨p', bv', b', av', a'⟩ := y
 unfold imEq
 simp [Im.plain, Bool.and_eq_true]
theorem same1_im_spec (ρ : Hp) (x y : Im) (hx : Im.In ρ x) (hy : Im.In ρ y) : Spec Tryz.prog 110 [.agg ⟨imV x⟩, .agg ⟨imV y⟩] ρ [] (fun z ρ' L' => z = .bool (imEq x y) ∧ ρ' = ρ ∧ L' = []) := by
 have h1 := same_spec ρ x.bv y.bv x.b y.b hx.b.cin hy.b.cin
 have h2 := same_spec ρ x.av y.av x.a y.a hx.a.cin hy.a.cin
 unfold imEq
 refine Zf Tryz.func110 rfl rfl rfl fun u R => ?_
 simp only [Zx, List.cons_append, List.nil_append]
 by_cases hp : x.page = y.page
 ·rw [decide_eq_true hp, Bool.true_and]
  generalize decide (x.b = y.b) = b1 at *
  generalize decide (x.a = y.a) = b2 at *
  cases b1
  ·repeat' (first | (refine Zc (.func 111) ?_; refine qC rfl rfl (h1) ?_; rintro v ρ' L' hle ⟨rfl, rfl, rfl⟩ <;> (try simp only [kM, kN, kO])) | (refine ZG ?_; refine Zn (Ze rfl) rfl rfl ?_) | (refine Zj ?_; first | (refine Zg ?_; refine qQ ?_) | refine Zl ?_) | refine Za ?_ | (refine Zi ?_; refine Zq ?_) | (refine Zh ?_; refine Zp ?_) | intro _)
   exact qE (L' := []) ⟨rfl, rfl, rfl⟩
  ·repeat' (first | (refine Zc (.func 111) ?_; refine qC rfl rfl (h1) ?_; rintro v ρ' L' hle ⟨rfl, rfl, rfl⟩ <;> (try simp only [kM, kN, kO])) | (refine Zc (.func 111) ?_; refine qC rfl rfl (h2) ?_; rintro v ρ' L' hle ⟨rfl, rfl, rfl⟩ <;> (try simp only [kM, kN, kO])) | (refine ZG ?_; refine Zn (Ze rfl) rfl rfl ?_) | (refine Zj ?_; first | (refine Zg ?_; refine qQ ?_) | refine Zl ?_) | refine Za ?_ | (refine Zi ?_; refine Zq ?_) | (refine Zh ?_; refine Zp ?_) | intro _)
   exact qE (L' := []) ⟨rfl, rfl, rfl⟩
 ·rw [decide_eq_false hp, Bool.false_and]
  repeat' (first | (refine ZG ?_; refine Zn (Ze rfl) rfl rfl ?_) | (refine Zj ?_; first | (refine Zg ?_; refine qQ ?_) | refine Zl ?_) | refine Za ?_ | (refine Zi ?_; refine Zq ?_) | (refine Zh ?_; refine Zp ?_) | intro _)
  exact qE (L' := []) ⟨rfl, rfl, rfl⟩
theorem says_plain (l : List Im) : l.map Im.plain = (l.map Im.says).map (fun t => ⟨t.1, YX, t.2.1, YX, t.2.2⟩) := by rw [List.map_map]; rfl
theorem plain_says (l : List Im) : l.map Im.says = (l.map Im.plain).map Im.says := by rw [List.map_map]; rfl
theorem says_iff {l m : List Im} : l.map Im.says = m.map Im.says ↔ l.map Im.plain = m.map Im.plain := ⟨fun e => by rw [says_plain l, says_plain m, e], fun e => by rw [plain_says l, plain_says m, e]⟩
theorem map_take_succ {α β : Type} (f : α → β) (l : List α) (k : Nat) (h : k < l.length) : (l.map f).take (k + 1) = (l.map f).take k ++ [f l[k]] := by
 rw [List.take_succ_eq_append_getElem (show k < (l.map f).length by simpa using h)]
 simp
theorem eqIM_spec (ρ : Hp) (s s' : SV) (l m : List Im) (h : AS ρ 7 imV s l) (h' : AS ρ 7 imV s' m) (hi : ∀ x ∈ l, Im.In ρ x) (hi' : ∀ x ∈ m, Im.In ρ x) :
  Spec Tryz.prog 109 [.slice s.a s.n s.c, .slice s'.a s'.n s'.c, .func (.func 110) ⟨[]⟩ ⟨[]⟩] ρ [] (fun v ρ' L' => v = .bool (decide (l.map Im.says = m.map Im.says)) ∧ ρ' = ρ ∧ L' = []) := by
 have hl := h.at'.len
 have hm := h'.at'.len
 have hn := h.big
 refine Zf Tryz.func109 rfl rfl rfl fun u R => ?_
 simp only [Zx, List.cons_append, List.nil_append]
 by_cases hne : s.n = s'.n
 ·repeat' (first | (refine ZG ?_; refine Zn (Ze rfl) rfl rfl ?_) | (refine Zj ?_; first | (refine Zg ?_; refine qQ ?_) | refine Zl ?_) | refine Za ?_ | (refine Zi ?_; refine Zq ?_) | (refine Zh ?_; refine Zp ?_) | intro _)
  refine Zy [(1, _), (2, _), (15, _), (16, _)] (fun (ζ : (Nat)) => [(17, .int .i64 ζ), (6, .bool false)]) (fun (ζ : (Nat)) => ρ) (fun (ζ : (Nat)) => []) (fun (ζ : (Nat)) => ζ ≤ s.n ∧ (l.map Im.plain).take ζ = (m.map Im.plain).take ζ) (fun (ζ : (Nat)) => s.n - ζ) (0) (⟨Nat.zero_le _, rfl⟩) Zk Zk rfl tk ?_
  rintro k hI
  try simp only [List.cons_append, List.nil_append, List.append_assoc, List.append_eq] at hI ⊢
  try dsimp only at hI ⊢
  obtain ⟨hk, hpre⟩ := hI
  by_cases hlt : k < s.n
  ·obtain ⟨b, off, C, T, fr, f1, hb, hfit, hc⟩ := h.at'.get (show k < l.length by omega)
   obtain ⟨b2, off2, C2, T2, fr2, f2, hb2, hfit2, hc2⟩ := h'.at'.get (show k < m.length by omega)
   have ht1 := map_take_succ Im.plain l k (by omega)
   have ht2 := map_take_succ Im.plain m k (by omega)
   have hf : l.map Im.plain = m.map Im.plain → (l[k]'(by omega)).plain = (m[k]'(by omega)).plain := fun e => by
    have g1 : (l.map Im.plain)[k]? = some (l[k]'(by omega)).plain := by simp [show k < l.length by omega]
    have g2 : (m.map Im.plain)[k]? = some (m[k]'(by omega)).plain := by simp [show k < m.length by omega]
    rw [e, g2] at g1
    exact (Option.some.inj g1).symm
   have hs1 := same1_im_spec ρ (l[k]'(by omega)) (m[k]'(by omega)) (hi _ (List.getElem_mem _)) (hi' _ (List.getElem_mem _))
   generalize l[k]'(by omega) = x at *
   generalize m[k]'(by omega) = y at *
   rw [f1, f2]
   cases he : imEq x y
   ·have hd : decide (l.map Im.says = m.map Im.says) = false := decide_eq_false (fun e => by
     have := imEq_iff.2 (hf (says_iff.1 e))
     rw [he] at this; cases this)
    rw [hd]
    rw [he] at hs1
    repeat' (first | (refine Zc (.tmp 26) ?_; refine qC rfl rfl (hs1) ?_; rintro v ρ' L' hle ⟨rfl, rfl, rfl⟩ <;> (try simp only [kM, kN, kO])) | (refine ZG ?_; refine Zn (Ze rfl) rfl rfl ?_) | (refine Zj ?_; first | (refine Zg ?_; refine qQ ?_) | refine Zl ?_) | refine Za ?_ | (refine Zi ?_; refine Zq ?_) | (refine Zh ?_; refine Zp ?_) | intro _)
    exact qE (L' := []) ⟨rfl, rfl, rfl⟩
   ·have hpre2 : (l.map Im.plain).take (k + 1) = (m.map Im.plain).take (k + 1) := by rw [ht1, ht2, hpre, imEq_iff.1 he]
    rw [he] at hs1
    repeat' (first | (refine Zc (.tmp 26) ?_; refine qC rfl rfl (hs1) ?_; rintro v ρ' L' hle ⟨rfl, rfl, rfl⟩ <;> (try simp only [kM, kN, kO])) | (refine ZG ?_; refine Zn (Ze rfl) rfl rfl ?_) | (refine Zj ?_; first | (refine Zg ?_; refine qQ ?_) | refine Zl ?_) | refine Za ?_ | (refine Zi ?_; refine Zq ?_) | (refine Zh ?_; refine Zp ?_) | intro _)
    rw [← f1, ← f2]
    refine Zo (k + 1) (⟨hlt, hpre2⟩) Zk Zk rfl tk inferInstance (by first | omega | (dsimp only; omega))
  ·have hk2 : k = s.n := by omega
   subst hk2
   rw [List.take_of_length_le (by simp; omega), List.take_of_length_le (by simp; omega)] at hpre
   rw [decide_eq_true (says_iff.2 hpre)]
   repeat' (first | (refine ZG ?_; refine Zn (Ze rfl) rfl rfl ?_) | (refine Zj ?_; first | (refine Zg ?_; refine qQ ?_) | refine Zl ?_) | refine Za ?_ | (refine Zi ?_; refine Zq ?_) | (refine Zh ?_; refine Zp ?_) | intro _)
   exact qE ⟨rfl, rfl, rfl⟩
 ·rw [decide_eq_false (fun e : l.map Im.says = m.map Im.says => hne (by have := congrArg List.length e; simp at this; omega))]
  repeat' (first | (refine ZG ?_; refine Zn (Ze rfl) rfl rfl ?_) | (refine Zj ?_; first | (refine Zg ?_; refine qQ ?_) | refine Zl ?_) | refine Za ?_ | (refine Zi ?_; refine Zq ?_) | (refine Zh ?_; refine Zp ?_) | intro _)
  exact qE ⟨rfl, rfl, rfl⟩
theorem plain_eq {x y : Rc} (h1 : x.kind = y.kind ∧ x.lsn = y.lsn ∧ x.txn = y.txn ∧ x.prev = y.prev ∧ x.next = y.next ∧ x.nextTxn = y.nextTxn) : x.plain = y.plain ↔ (x.steps = y.steps ∧ x.txns = y.txns ∧ x.dirty = y.dirty ∧ x.ims.map Im.plain = y.ims.map Im.plain) := by
 obtain ⟨k, l, t, p, n, i, s, nt, ts, d⟩ := x
 obtain ⟨k', l', t', p', n', i', s', nt', ts', d'⟩ := y
 dsimp only at h1
 obtain ⟨rfl, rfl, rfl, rfl, rfl, rfl⟩ := h1
 dsimp only [Rc.plain]
 constructor
 ·intro h
  injection h with a1 a2 a3 a4 a5 a6 a7 a8 a9 a10
  exact ⟨a7, a9, a10, a6⟩
 ·rintro ⟨rfl, rfl, rfl, e⟩
  rw [e]
theorem recSameG_spec (ρ : Hp) (v v' : RV) (x y : Rc) (h : RcIn ρ v x) (h' : RcIn ρ v' y) : Spec Tryz.prog 28 [.agg ⟨Wv v x⟩, .agg ⟨Wv v' y⟩] ρ [] (fun z ρ' L' => (∃ b, z = .bool b ∧ (b = true ↔ x.plain = y.plain)) ∧ ρ' = ρ ∧ L' = []) := by
 have h1 := eqSTP_spec ρ v.s v'.s x.steps y.steps h.s h'.s
 have h2 := eqCKT_spec ρ v.t v'.t x.txns y.txns h.t h'.t
 have h3 := eqCKP_spec ρ v.d v'.d x.dirty y.dirty h.d h'.d
 have h4 := eqIM_spec ρ v.i v'.i x.ims y.ims h.i h'.i h.im h'.im
 refine Zf Tryz.func28 rfl rfl rfl fun u R => ?_
 simp only [Zx, List.cons_append, List.nil_append]
 by_cases e : x.kind = y.kind ∧ x.lsn = y.lsn ∧ x.txn = y.txn ∧ x.prev = y.prev ∧ x.next = y.next ∧ x.nextTxn = y.nextTxn
 ·have hp := plain_eq e
  obtain ⟨e1, e2, e3, e4, e5, e6⟩ := e
  by_cases d1 : x.steps = y.steps
  ·rw [decide_eq_true d1] at h1
   by_cases d2 : x.txns = y.txns
   ·rw [decide_eq_true d2] at h2
    by_cases d3 : x.dirty = y.dirty
    ·rw [decide_eq_true d3] at h3
     repeat' (first | (refine Zc (.func 106) ?_; refine qC rfl rfl (h1) ?_; rintro v ρ' L' hle ⟨rfl, rfl, rfl⟩ <;> (try simp only [kM, kN, kO])) | (refine Zc (.func 107) ?_; refine qC rfl rfl (h2) ?_; rintro v ρ' L' hle ⟨rfl, rfl, rfl⟩ <;> (try simp only [kM, kN, kO])) | (refine Zc (.func 108) ?_; refine qC rfl rfl (h3) ?_; rintro v ρ' L' hle ⟨rfl, rfl, rfl⟩ <;> (try simp only [kM, kN, kO])) | (refine Zc (.func 109) ?_; refine qC rfl rfl (h4) ?_; rintro v ρ' L' hle ⟨rfl, rfl, rfl⟩ <;> (try simp only [kM, kN, kO])) | (refine ZG ?_; refine Zn (Ze rfl) rfl rfl ?_) | (refine Zj ?_; first | (refine Zg ?_; refine qQ ?_) | refine Zl ?_) | refine Za ?_ | (refine Zi ?_; refine Zq ?_) | (refine Zh ?_; refine Zp ?_) | intro _)
     refine qE (L' := []) ⟨⟨_, rfl, ?_⟩, rfl, rfl⟩
     rw [hp, decide_eq_true_eq, says_iff]
     exact ⟨fun e => ⟨d1, d2, d3, e⟩, fun e => e.2.2.2⟩
    ·rw [decide_eq_false d3] at h3
     repeat' (first | (refine Zc (.func 106) ?_; refine qC rfl rfl (h1) ?_; rintro v ρ' L' hle ⟨rfl, rfl, rfl⟩ <;> (try simp only [kM, kN, kO])) | (refine Zc (.func 107) ?_; refine qC rfl rfl (h2) ?_; rintro v ρ' L' hle ⟨rfl, rfl, rfl⟩ <;> (try simp only [kM, kN, kO])) | (refine Zc (.func 108) ?_; refine qC rfl rfl (h3) ?_; rintro v ρ' L' hle ⟨rfl, rfl, rfl⟩ <;> (try simp only [kM, kN, kO])) | (refine ZG ?_; refine Zn (Ze rfl) rfl rfl ?_) | (refine Zj ?_; first | (refine Zg ?_; refine qQ ?_) | refine Zl ?_) | refine Za ?_ | (refine Zi ?_; refine Zq ?_) | (refine Zh ?_; refine Zp ?_) | intro _)
     exact qE (L' := []) ⟨⟨false, rfl, by simp, fun e => absurd (hp.1 e).2.2.1 d3⟩, rfl, rfl⟩
   ·rw [decide_eq_false d2] at h2
    repeat' (first | (refine Zc (.func 106) ?_; refine qC rfl rfl (h1) ?_; rintro v ρ' L' hle ⟨rfl, rfl, rfl⟩ <;> (try simp only [kM, kN, kO])) | (refine Zc (.func 107) ?_; refine qC rfl rfl (h2) ?_; rintro v ρ' L' hle ⟨rfl, rfl, rfl⟩ <;> (try simp only [kM, kN, kO])) | (refine ZG ?_; refine Zn (Ze rfl) rfl rfl ?_) | (refine Zj ?_; first | (refine Zg ?_; refine qQ ?_) | refine Zl ?_) | refine Za ?_ | (refine Zi ?_; refine Zq ?_) | (refine Zh ?_; refine Zp ?_) | intro _)
    exact qE (L' := []) ⟨⟨false, rfl, by simp, fun e => absurd (hp.1 e).2.1 d2⟩, rfl, rfl⟩
  ·rw [decide_eq_false d1] at h1
   repeat' (first | (refine Zc (.func 106) ?_; refine qC rfl rfl (h1) ?_; rintro v ρ' L' hle ⟨rfl, rfl, rfl⟩ <;> (try simp only [kM, kN, kO])) | (refine ZG ?_; refine Zn (Ze rfl) rfl rfl ?_) | (refine Zj ?_; first | (refine Zg ?_; refine qQ ?_) | refine Zl ?_) | refine Za ?_ | (refine Zi ?_; refine Zq ?_) | (refine Zh ?_; refine Zp ?_) | intro _)
   exact qE (L' := []) ⟨⟨false, rfl, by simp, fun e => absurd (hp.1 e).1 d1⟩, rfl, rfl⟩
 ·have hp : x.plain ≠ y.plain := fun h => e (by
   injection h with a1 a2 a3 a4 a5 a6 a7 a8 a9 a10
   exact ⟨a1, a2, a3, a4, a5, a8⟩)
  repeat' (first | (refine ZG ?_; refine Zn (Ze rfl) rfl rfl ?_) | (refine Zj ?_; first | (refine Zg ?_; refine qQ ?_) | refine Zl ?_) | refine Za ?_ | (refine Zi ?_; refine Zq ?_) | (refine Zh ?_; refine Zp ?_) | (refine XO ?_; refine Yd rfl rfl (fun hb => ?_) (fun hb => ?_) <;> (try simp only [decide_eq_true_eq, decide_eq_false_iff_not, Bool.not_eq_true, Bool.not_eq_false, beq_iff_eq, bne_iff_ne, ne_eq, decide_eq_decide, Bool.not_eq_eq_eq_not, Bool.not_true, Bool.not_false, beq_eq_false_iff_ne, bne_eq_false_iff_eq, Bool.and_eq_true, Bool.or_eq_true, Bool.and_eq_false_imp, Bool.or_eq_false_iff, bq2, bqt, bqf] at hb)) | (refine Yx ?_; refine Yp rfl (fun hb => ?_) (fun hb => ?_) <;> (try simp only [decide_eq_true_eq, decide_eq_false_iff_not, Bool.not_eq_true, Bool.not_eq_false, beq_iff_eq, bne_iff_ne, ne_eq, decide_eq_decide, Bool.not_eq_eq_eq_not, Bool.not_true, Bool.not_false, beq_eq_false_iff_ne, bne_eq_false_iff_eq, Bool.and_eq_true, Bool.or_eq_true, Bool.and_eq_false_imp, Bool.or_eq_false_iff, bq2, bqt, bqf] at hb)) | intro _)
  all_goals first | (exfalso; omega) | skip
  all_goals (refine qF (L' := []) ?_; exact ⟨⟨false, YI (by (try simp [*]); first | done | omega | (intros; omega) | (constructor <;> intros <;> (try simp_all) <;> omega)), by simp, fun h => absurd h hp⟩, rfl, rfl⟩)
theorem pagesN_succ (l : List Stp) (k : Nat) (h : k < l.length) : pagesN (l.take (k + 1)) = pagesN (l.take k) + stepN l[k] := by
 unfold pagesN
 rw [List.take_succ_eq_append_getElem h, List.map_append, List.sum_append]
 simp
theorem pagesN_le (l : List Stp) : pagesN l ≤ l.length * 12 := by
 unfold pagesN
 induction l with
 | nil => simp
 | cons a r ih =>
  have : stepN a ≤ 12 := by unfold stepN; split <;> omega
  simp only [List.map_cons, List.sum_cons, List.length_cons]; omega
theorem undR_nil : (recB (undR [])).length = 30 := by decide
theorem rreserve_spec (ρ : Hp) (v : RV) (r : Rc) (h : RcIn ρ v r) : Spec Tryz.prog 77 [.agg ⟨Wv v r⟩] ρ []
  (fun z ρ' L' => ρ.le ρ' ∧ z = .tuple ⟨[.int .i64 (reserveN r : Nat), .int .i64 (errN r)]⟩ ∧ L' = []) := by
 have hck := XV ρ v r h
 unfold reserveN errN
 refine Zf Tryz.func77 rfl rfl rfl fun u R => ?_
 simp only [Zx, List.cons_append, List.nil_append]
 cases hok : YM r
 ·rw [hok] at hck
  repeat' (first | (refine Zc (.func 27) ?_; refine qC rfl rfl (hck) ?_; rintro v ρ' L' hle ⟨rfl, rfl, rfl⟩ <;> (try simp only [kM, kN, kO, if_false, Bool.false_eq_true])) | (refine ZG ?_; refine Zn (Ze rfl) rfl rfl ?_) | (refine Zj ?_; first | (refine Zg ?_; refine qQ ?_) | refine Zl ?_) | refine Za ?_ | (refine Zi ?_; refine Zq ?_) | (refine Zh ?_; refine Zp ?_) | intro _)
  exact qE (L' := []) ⟨Hp.le_refl _, rfl, rfl⟩
 ·rw [hok] at hck
  simp only [if_true]
  have hF := recOk_facts hok
  by_cases k1 : r.kind = 1
  ·rw [if_pos k1]
   repeat' (first | (refine Zc (.func 27) ?_; refine qC rfl rfl (hck) ?_; rintro v ρ' L' hle ⟨rfl, rfl, rfl⟩ <;> (try simp only [kM, kN, kO, if_true])) | (refine ZG ?_; refine Zn (Ze rfl) rfl rfl ?_) | (refine Zj ?_; first | (refine Zg ?_; refine qQ ?_) | refine Zl ?_) | refine Za ?_ | (refine Zi ?_; refine Zq ?_) | (refine Zh ?_; refine Zp ?_) | intro _)
   exact qE (L' := []) ⟨Hp.le_refl _, rfl, rfl⟩
  ·rw [if_neg k1]
   by_cases k2 : r.kind = 2
   ·rw [if_pos k2]
    have hA := h.i.at'
    have hl := hA.len
    have hil := hF.il
    have hlay := undR_lay hil (fun x hx => (hF.im x hx).2.2)
    repeat' (first | (refine Zc (.func 27) ?_; refine qC rfl rfl (hck) ?_; rintro v ρ' L' hle ⟨rfl, rfl, rfl⟩ <;> (try simp only [kM, kN, kO, if_true])) | (refine ZG ?_; refine Zn (Ze rfl) rfl rfl ?_) | (refine Zj ?_; first | (refine Zg ?_; refine qQ ?_) | refine Zl ?_) | refine Za ?_ | (refine Zi ?_; refine Zq ?_) | (refine Zh ?_; refine Zp ?_) | intro _)
    rename_i rb ub
    refine Zy [(1, _), (2, _), (3, _), (5, _), (6, _), (19, _), (25, _), (26, _)] (fun (ζ : (Nat) × (Value) × (List Value)) => [(27, .int .i64 ζ.1)]) (fun (ζ : (Nat) × (Value) × (List Value)) => ρ') (fun (ζ : (Nat) × (Value) × (List Value)) => [[(ub, .cells ⟨[.int .i64 5, .int .u64 0, .int .i64 0, .int .u64 0, .int .u64 0, ζ.2.1, .slice none 0 0, .int .i64 0, .slice none 0 0, .slice none 0 0]⟩ 30 (0, 0))], Yu ζ.2.1 ((((r.ims.take ζ.1).map undI).map imV).flatten) ζ.2.2 128, [(rb, .cells ⟨Wv v r⟩ 30 (0, 0))]]) (fun (ζ : (Nat) × (Value) × (List Value)) => ζ.1 ≤ v.i.n ∧ OwnS ζ.2.1 ζ.1 ((((r.ims.take ζ.1).map undI).map imV).flatten) ζ.2.2 7) (fun (ζ : (Nat) × (Value) × (List Value)) => v.i.n - ζ.1) ((0, .slice none 0 0, [])) (⟨Nat.zero_le _, OwnS.nil 7⟩) Zk Zk rfl tk ?_
    rintro ⟨k, vv, sp⟩ hI
    try simp only [List.cons_append, List.nil_append, List.append_assoc, List.append_eq] at hI ⊢
    try dsimp only at hI ⊢
    obtain ⟨hk, hown⟩ := hI
    obtain ⟨va, vc, rfl, _⟩ := hown.slice
    by_cases hlt : k < v.i.n
    ·obtain ⟨b, off, C, T, fr, e1, hb, hfit, hc⟩ := hA.get (show k < r.ims.length by omega)
     have hx := List.take_succ_eq_append_getElem (show k < r.ims.length by omega)
     generalize r.ims[k]'(by omega) = x at *
     rw [e1]
     repeat' (first | (refine ZG ?_; refine Zn (Ze rfl) rfl rfl ?_) | (refine Zj ?_; first | (refine Zg ?_; refine qQ ?_) | refine Zl ?_) | refine Za ?_ | (refine Zi ?_; refine Zq ?_) | (refine Zh ?_; refine Zp ?_) | intro _)
     refine ZE (css := [imV (undI x)]) (sz := 7) rfl rfl rfl rfl (by simp) (by simp) rfl (fun bs => ?_)
     simp only [List.flatten_cons, List.flatten_nil, List.append_nil]
     refine Yt (ys := imV (undI x)) (m := 1) rfl rfl hown (hR := by infer_instance) (SrcV.lit) rfl rfl (by decide) rfl (by omega) (by omega) rfl (fun v' sp' hown' => ?_)
     have hm : (((r.ims.take k).map undI).map imV).flatten ++ imV (undI x) = (((r.ims.take (k + 1)).map undI).map imV).flatten := by rw [hx]; simp
     rw [hm] at hown' ⊢
     obtain ⟨va', vc', rfl, _⟩ := hown'.slice
     repeat' (first | (refine ZG ?_; refine Zn (Ze rfl) rfl rfl ?_) | (refine Zj ?_; first | (refine Zg ?_; refine qQ ?_) | refine Zl ?_) | refine Za ?_ | (refine Zi ?_; refine Zq ?_) | (refine Zh ?_; refine Zp ?_) | intro _)
     rw [← e1]
     refine Zo (k + 1, _, sp') (⟨hlt, hown'⟩) Zk Zk rfl tk inferInstance (by first | omega | (dsimp only; omega))
    ·have hk2 : k = r.ims.length := by omega
     rw [show r.ims.take k = r.ims by rw [hk2, List.take_length]] at hown ⊢
     refine tc_freeze (Yu (.slice va k vc) (((r.ims.map undI).map imV).flatten) sp 128) (fun ρ3 hle3 hfz => ?_)
     obtain ⟨sa, sc, e1, hsc, hA2⟩ := hown.aIn (by simp; omega) (fun x _ => imV_len x) hfz
     cases e1
     have hU : RcIn ρ3 ⟨⟨va, k, vc⟩, ⟨none, 0, 0⟩, ⟨none, 0, 0⟩, ⟨none, 0, 0⟩⟩ (undR r.ims) := ⟨⟨hA2, by dsimp only; omega, hsc⟩, fun x hx => by
      obtain ⟨y, hy, rfl⟩ := List.mem_map.1 hx
      exact ⟨CI.nil, ((h.im y hy).b).mono hle3⟩, AS.nil, AS.nil, AS.nil, by simp [undR]⟩
     have hla := rlaid_spec ρ3 _ _ hU hlay
     have hb4 := recB_le hlay
     repeat' (first | (refine Zc (.func 112) ?_; refine qC rfl rfl (hla) ?_; rintro v ρ' L' hle ⟨hl1, a, c, rfl, hc, hs, rfl⟩ <;> (try simp only [kM, kN, kO])) | (simp only [Int.add_zero]; refine Zc (.func 127) ?_; refine qC rfl rfl (rsects_spec _ _ (by omega)) ?_; rintro z1 ρ1 L1 hle0 ⟨rfl, rfl, rfl⟩; simp only [List.cons_append, List.nil_append]) | (refine ZG ?_; refine Zn (Ze rfl) rfl rfl ?_) | (refine Zj ?_; first | (refine Zg ?_; refine qQ ?_) | refine Zl ?_) | refine Za ?_ | (refine Zi ?_; refine Zq ?_) | (refine Zh ?_; refine Zp ?_) | intro _)
     exact qE (L' := []) ⟨Hp.le_trans hle3 hl1, rfl, rfl⟩
   ·rw [if_neg k2]
    by_cases k4 : r.kind = 4
    ·rw [if_pos k4]
     have hA := h.s.at'
     have hl := hA.len
     have hsl := hF.sl
     have hU : ∀ ρ, RcIn ρ ⟨⟨none, 0, 0⟩, ⟨none, 0, 0⟩, ⟨none, 0, 0⟩, ⟨none, 0, 0⟩⟩ (undR []) := fun ρ => ⟨AS.nil, by simp [undR], AS.nil, AS.nil, AS.nil, by simp [undR]⟩
     have hla := fun ρ => rlaid_spec ρ _ _ (hU ρ) (undR_lay (l := []) (by simp) (by simp))
     rw [undR_nil] at hla
     repeat' (first | (refine Zc (.func 27) ?_; refine qC rfl rfl (hck) ?_; rintro v ρ' L' hle ⟨rfl, rfl, rfl⟩ <;> (try simp only [kM, kN, kO, if_true])) | (refine ZG ?_; refine Zn (Ze rfl) rfl rfl ?_) | (refine Zj ?_; first | (refine Zg ?_; refine qQ ?_) | refine Zl ?_) | refine Za ?_ | (refine Zi ?_; refine Zq ?_) | (refine Zh ?_; refine Zp ?_) | intro _)
     rename_i rb ub
     refine Zy [(2, _), (3, _), (5, _), (6, _), (43, _), (44, _)] (fun (ζ : (Nat) × (Nat)) => [(45, .int .i64 ζ.1), (9, .int .i64 ζ.2)]) (fun (ζ : (Nat) × (Nat)) => ρ') (fun (ζ : (Nat) × (Nat)) => [[(rb, .cells ⟨Wv v r⟩ 30 (0, 0))]]) (fun (ζ : (Nat) × (Nat)) => ζ.1 ≤ v.s.n ∧ ζ.2 = pagesN (r.steps.take ζ.1)) (fun (ζ : (Nat) × (Nat)) => v.s.n - ζ.1) ((0, 0)) (⟨Nat.zero_le _, rfl⟩) Zk Zk rfl tk ?_
     rintro ⟨k, n⟩ hI
     try simp only [List.cons_append, List.nil_append, List.append_assoc, List.append_eq] at hI ⊢
     try dsimp only at hI ⊢
     obtain ⟨hk, hn⟩ := hI
     have hple := pagesN_le (r.steps.take k)
     have htl : (r.steps.take k).length ≤ 2 := by simp; omega
     by_cases hlt : k < v.s.n
     ·obtain ⟨b, off, C, T, fr, e1, hb, hfit, hc⟩ := hA.get (show k < r.steps.length by omega)
      have hx := pagesN_succ r.steps k (by omega)
      generalize r.steps[k]'(by omega) = x at *
      rw [e1]
      unfold stepN at hx
      by_cases h34 : x.kind = 3 ∨ x.kind = 4
      ·rw [if_pos h34] at hx
       rcases h34 with e | e
       all_goals (repeat' (first | (refine ZG ?_; refine Zn (Ze rfl) rfl rfl ?_) | (refine Zj ?_; first | (refine Zg ?_; refine qQ ?_) | refine Zl ?_) | refine Za ?_ | (refine Zi ?_; refine Zq ?_) | (refine Zh ?_; refine Zp ?_) | intro _))
       all_goals rw [← e1]
       all_goals refine Zo (k + 1, n + 12) (⟨hlt, by dsimp only; omega⟩) Zk Zk rfl tk inferInstance (by first | omega | (dsimp only; omega))
      ·rw [if_neg h34] at hx
       repeat' (first | (refine ZG ?_; refine Zn (Ze rfl) rfl rfl ?_) | (refine Zj ?_; first | (refine Zg ?_; refine qQ ?_) | refine Zl ?_) | refine Za ?_ | (refine Zi ?_; refine Zq ?_) | (refine Zh ?_; refine Zp ?_) | intro _)
       rw [← e1]
       refine Zo (k + 1, n + 1) (⟨hlt, by dsimp only; omega⟩) Zk Zk rfl tk inferInstance (by first | omega | (dsimp only; omega))
     ·rw [show r.steps.take k = r.steps by rw [show k = r.steps.length by omega, List.take_length]] at hn hple htl
      subst hn
      repeat' (first | (refine Zc (.func 112) ?_; refine qC rfl rfl (hla _) ?_; rintro v ρ' L' hle ⟨hl1, a, c, rfl, hc, hs, rfl⟩ <;> (try simp only [kM, kN, kO])) | (rw [show ((30 : Nat) : Int) + min ((pagesN r.steps : Nat) : Int) 16 * 83 = ((30 + min (pagesN r.steps) 16 * 83 : Nat) : Int) by omega]; refine Zc (.func 127) ?_; refine qC rfl rfl (rsects_spec _ _ (by omega)) ?_; rintro z1 ρ1 L1 hle0 ⟨rfl, rfl, rfl⟩; simp only [List.cons_append, List.nil_append]) | (refine ZG ?_; refine Zn (Ze rfl) rfl rfl ?_) | (refine Zj ?_; first | (refine Zg ?_; refine qQ ?_) | refine Zl ?_) | refine Za ?_ | (refine Zi ?_; refine Zq ?_) | (refine Zh ?_; refine Zp ?_) | intro _)
      exact qE (L' := []) ⟨hl1, rfl, rfl⟩
    ·rw [if_neg k4]
     repeat' (first | (refine Zc (.func 27) ?_; refine qC rfl rfl (hck) ?_; rintro v ρ' L' hle ⟨rfl, rfl, rfl⟩ <;> (try simp only [kM, kN, kO, if_true])) | (refine ZG ?_; refine Zn (Ze rfl) rfl rfl ?_) | (refine Zj ?_; first | (refine Zg ?_; refine qQ ?_) | refine Zl ?_) | refine Za ?_ | (refine Zi ?_; refine Zq ?_) | (refine Zh ?_; refine Zp ?_) | intro _)
     exact qE (L' := []) ⟨Hp.le_refl _, rfl, rfl⟩
theorem OwnS.pos {v n xs sp sz} (h : OwnS v n xs sp sz) (h0 : 0 < n) : ∃ b cap, v = .slice (some ⟨b, 0, none⟩) n cap := by
 rcases h.out with ⟨_, h2, _⟩ | ⟨b, cap, h1, _⟩
 ·omega
 ·exact ⟨b, cap, h1⟩
structure CInW (ρ : Hp) (v : CV) (rows : List Row) (kids : List Kid) : Prop where
 r : AIn ρ 4 YY v.ra v.rn rows
 k : AIn ρ 3 Xs v.ka v.kn kids
 rb : v.rn ≤ 9223372036854775807
 kb : v.kn ≤ 9223372036854775807
 rc : v.rn ≤ v.rc
 kc : v.kn ≤ v.kc
theorem CInW.mono {ρ ρ' v rows kids} (h : CInW ρ v rows kids) (hle : ρ.le ρ') : CInW ρ' v rows kids := ⟨h.r.mono hle, h.k.mono hle, h.rb, h.kb, h.rc, h.kc⟩
def wkR : Rc := ⟨4, 5, 7, 4, 1, [], [⟨1, ⟨0, 3, 0, []⟩, -2⟩], 0, [], []⟩
theorem wkR_ok : YM wkR = true := by decide +kernel
theorem wkR_len : (recB wkR).length = 42 := by decide +kernel
theorem wkR_cost : costN wkR = 1 := by decide +kernel
theorem wkR_res : reserveN wkR = 3 := by decide +kernel
theorem wkR_f : RcF wkR := ⟨by simp [wkR], by
 intro s hs
 simp only [wkR, List.mem_singleton] at hs
 subst hs
 exact ⟨⟨by decide, by decide⟩, by decide, by decide⟩⟩
theorem wkR_dec : Yq (recB wkR) = true ∧ decR (recB wkR) = wkR.plain := dec_enc wkR_ok wkR_f
theorem wakes12_spec (ρ : Hp) : Spec Tryz.prog 21 [] ρ [] (fun v ρ' L' => v = .bool true ∧ ρ.le ρ' ∧ L' = []) := by
 have hρ := Hp.le_refl ρ
 refine Zf Tryz.func21 rfl rfl rfl fun u R => ?_
 simp only [Zx, List.cons_append, List.nil_append]
 repeat' (first | (refine ZE (css := [XT ⟨1, ⟨0, 3, 0, []⟩, -2⟩]) (sz := 6) rfl rfl rfl rfl (by simp) (by simp) rfl (fun bs => ?_); simp only [List.flatten_cons, List.flatten_nil, List.append_nil]; refine Yn _ (h := Rem.here) (fun ρz hlz hfz => ?_); have hbs := hfz _ (List.mem_singleton.2 rfl); clear hfz; have hρ := Hp.le_trans hρ hlz; clear hlz; (try simp only [List.nil_append])) | (refine ZG ?_; refine Zn (Ze rfl) rfl rfl ?_) | (refine Zj ?_; first | (refine Zg ?_; refine qQ ?_) | refine Zl ?_) | refine Za ?_ | (refine Zi ?_; refine Zq ?_) | (refine Zh ?_; refine Zp ?_) | intro _)
 have hA : AIn ρz 6 XT (some ⟨bs, 0, none⟩) 1 [⟨1, ⟨0, 3, 0, []⟩, -2⟩] := ⟨rfl, .inr ⟨bs, 0, _, _, _, rfl, hbs, Nat.le_refl _, rfl⟩, by simp⟩
 have hR : ∀ {ρ2}, ρz.le ρ2 → RcIn ρ2 ⟨⟨none, 0, 0⟩, ⟨some ⟨bs, 0, none⟩, 1, 1⟩, ⟨none, 0, 0⟩, ⟨none, 0, 0⟩⟩ wkR := fun hle => ⟨AS.nil, by simp [wkR], ⟨hA.mono hle, by dsimp only; omega, by dsimp only; omega⟩, AS.nil, AS.nil, fun s hs => (wkR_f.st s hs).row⟩
 rw [show [Value.int .i64 4, .int .u64 5, .int .i64 7, .int .u64 4, .int .u64 1, .slice none 0 0, .slice (some ⟨bs, 0, none⟩) 1 1, .int .i64 0, .slice none 0 0, .slice none 0 0] = Wv ⟨⟨none, 0, 0⟩, ⟨some ⟨bs, 0, none⟩, 1, 1⟩, ⟨none, 0, 0⟩, ⟨none, 0, 0⟩⟩ wkR from rfl]
 generalize hv : (⟨⟨none, 0, 0⟩, ⟨some ⟨bs, 0, none⟩, 1, 1⟩, ⟨none, 0, 0⟩, ⟨none, 0, 0⟩⟩ : RV) = wv at *
 obtain ⟨w, hw⟩ : ∃ w, wkR = w := ⟨_, rfl⟩
 have q1 := wkR_ok
 have q2 := wkR_len
 have q3 := wkR_cost
 have q4 := wkR_res
 obtain ⟨q5, q6⟩ := wkR_dec
 have q7 : w.kind = 4 := by rw [← hw]; rfl
 rw [hw] at q1 q2 q3 q4 q5 q6 hR ⊢
 have hE := fun ρ h => rencode_spec ρ wv w h
 simp only [q1, if_true] at hE
 have hC := fun ρ h => rcost_spec ρ wv w h
 have hV := fun ρ h => rreserve_spec ρ wv w h
 unfold errN at hC hV
 simp only [q1, if_true, q3, q4] at hC hV
 have hU := fun ρ h => undoable_spec ρ wv w h
 rw [q1, q7] at hU
 have hZ := fun ρ => XV ρ nilRV zeroRc (WC _ _ _ _)
 have hl0 := Hp.le_refl ρz
 repeat' (first | (refine Zc (.func 29) ?_; refine qC rfl rfl (hE _ (hR hl0)) ?_; rintro v ρ' L' hle ⟨hl1, a, n, c, rfl, hc, hs, rfl⟩ <;> (try simp only [kM, kN, kO])) | (refine ZG ?_; refine Zn (Ze rfl) rfl rfl ?_) | (refine Zj ?_; first | (refine Zg ?_; refine qQ ?_) | refine Zl ?_) | refine Za ?_ | (refine Zi ?_; refine Zq ?_) | (refine Zh ?_; refine Zp ?_) | intro _)
 have hn := hs.len
 rw [q2] at hn
 have hD := rdecode_spec _ a n c _ hs hc (by omega)
 rw [q5] at hD
 simp only [if_true] at hD
 rw [q6] at hD
 repeat' (first | (refine Zc (.func 22) ?_; refine qC rfl rfl (hD) ?_; rintro v ρ' L' hle ⟨hl2, v2, r2, rfl, hr2, hp2, rfl⟩ <;> (try simp only [kM, kN, kO])) | (refine Zc (.func 46) ?_; refine qC rfl rfl (hC _ (hR (Hp.le_trans hl1 hl2))) ?_; rintro v ρ' L' hle ⟨hl3, rfl, rfl⟩ <;> (try simp only [kM, kN, kO])) | (refine Zc (.func 77) ?_; refine qC rfl rfl (hV _ (hR (Hp.le_trans hl1 (Hp.le_trans hl2 hl3)))) ?_; rintro v ρ' L' hle ⟨hl4, rfl, rfl⟩ <;> (try simp only [kM, kN, kO])) | (refine ZG ?_; refine Zn (Ze rfl) rfl rfl ?_) | (refine Zj ?_; first | (refine Zg ?_; refine qQ ?_) | refine Zl ?_) | refine Za ?_ | (refine Zi ?_; refine Zq ?_) | (refine Zh ?_; refine Zp ?_) | intro _)
 have hl14 := Hp.le_trans hl1 (Hp.le_trans hl2 (Hp.le_trans hl3 hl4))
 have hS := recSameG_spec _ v2 wv r2 w (hr2.mono (Hp.le_trans hl3 hl4)) (hR hl14)
 have hS1 : ∀ b : Bool, (b = true ↔ r2.plain = w.plain) → b = true := fun b h => h.2 hp2
 subst hn
 repeat' (first | (refine Zc (.func 28) ?_; refine qC rfl rfl (hS) ?_; rintro v ρ' L' hle ⟨⟨b, rfl, hb⟩, rfl, rfl⟩ <;> (try simp only [kM, kN, kO]); (obtain rfl := hS1 b hb)) | (refine Zc (.func 78) ?_; refine qC rfl rfl (hU _ (hR hl14)) ?_; rintro v ρ' L' hle ⟨rfl, rfl, rfl⟩ <;> (try simp only [kM, kN, kO])) | (refine Zc (.func 27) ?_; refine qC rfl rfl (hZ _) ?_; rintro v ρ' L' hle ⟨rfl, rfl, rfl⟩ <;> (try simp only [kM, kN, kO])) | (refine ZG ?_; refine Zn (Ze rfl) rfl rfl ?_) | (refine Zj ?_; first | (refine Zg ?_; refine qQ ?_) | refine Zl ?_) | refine Za ?_ | (refine Zi ?_; refine Zq ?_) | (refine Zh ?_; refine Zp ?_) | intro _)
 exact qE (L' := []) ⟨rfl, Hp.le_trans hρ hl14, rfl⟩
end Go.Proofs.E
namespace Go.Proofs.E
open Go Go.RowKit
set_option linter.unusedVariables false
set_option linter.unusedSimpArgs false
set_option linter.unusedSectionVars false
theorem opn_u8 {H : Type} {enc : TypeId × Value → H} {w : World} : Opn enc Tryz.prog w 5 (fun cs (b : UInt8) => cs = [ZM b]) := fun fuel cs x h => by
 obtain ⟨n, rfl, h1, h2⟩ := opn_int Tryz.underlying5 fuel cs x h
 simp only [lo, hi] at h1 h2
 refine ⟨UInt8.ofNat n.toNat, ?_⟩
 have : ((UInt8.ofNat n.toNat).toNat : Int) = n := by simp [UInt8.toNat_ofNat]; omega
 simp only [ZM, this]
theorem sIn_of {ρ : Hp} {cs : List Value} {s : Option Addr × Nat × Nat × List UInt8} (h : RS ρ 1 (fun cs (b : UInt8) => cs = [ZM b]) cs s) : SIn ρ ZM s.1 s.2.1 s.2.2.2 ∧ s.2.1 ≤ s.2.2.1 ∧ s.2.1 ≤ 9223372036854775807 := by
 obtain ⟨a, n, c, ks⟩ := s
 obtain ⟨h1, h2, h3, h4, h5⟩ := h
 dsimp only at h1 h2 h3 h4 h5 ⊢
 refine ⟨⟨h4, ?_⟩, h2, by omega⟩
 by_cases h0 : n = 0
 ·exact .inl h0
 ·right
  obtain ⟨b, off, C, T, fr, e1, e2, e3, e4⟩ := h5 0 (by omega)
  have same : ∀ i (h : i < ks.length), off + i * 1 + 1 ≤ C.length ∧ (C.drop (off + i * 1)).take 1 = [ZM ks[i]] := fun i hi => by
   obtain ⟨b', off', C', T', fr', f1, f2, f3, f4⟩ := h5 i hi
   rw [e1] at f1
   cases f1
   rw [e2] at f2
   cases f2
   exact ⟨f3, f4⟩
  refine ⟨b, off, C, T, fr, e1, e2, ?_⟩
  apply List.ext_getElem
  ·have := (same (n - 1) (by omega)).1
   simp; omega
  ·intro i h1 h2
   have hi : i < ks.length := by simpa using h2
   have h3 := (same i hi).2
   have h4 := congrArg (fun l : List Value => l[0]?) h3
   simp only [List.getElem?_cons_zero] at h4
   rw [List.getElem?_take_of_lt (by omega), List.getElem?_drop] at h4
   have h5 : C[off + i]? = some (ZM ks[i]) := by simpa using h4
   simp only [List.getElem_take, List.getElem_drop, List.getElem_map]
   exact (List.getElem?_eq_some_iff.1 h5).2
end Go.Proofs.E
namespace Go.Proofs.E
open Go
set_option linter.unusedVariables false
set_option linter.unusedSimpArgs false
set_option linter.unusedSectionVars false
set_option maxRecDepth 4000
set_option maxHeartbeats 1000000
attribute [local irreducible] Yl TL TC TE Spec XW R1 Hp.le EnvLe TS TR YS Zv
theorem take_ext {α : Type} {l m : List α} (hl : l.length = m.length) (k : Nat) (h : l.length ≤ k) (e : l.take k = m.take k) : l = m := by
 rwa [List.take_of_length_le h, List.take_of_length_le (by omega)] at e
theorem get_ext {α : Type} {l m : List α} (k : Nat) (h : k < l.length) (h' : k < m.length) (e : l = m) : l[k] = m[k] := by subst e; rfl
theorem same12G_spec (ρ : Hp) (v v' : RV) (x y : Rc) (h : RcIn ρ v x) (h' : RcIn ρ v' y) : Spec Tryz.prog 24 [.agg ⟨Wv v x⟩, .agg ⟨Wv v' y⟩] ρ [] (fun z ρ' L' => (∃ b, z = .bool b ∧ (b = true ↔ x.plain = y.plain)) ∧ ρ' = ρ ∧ L' = []) := by
 obtain ⟨⟨ia, inn, ic⟩, ⟨sa, sn, sc⟩, ⟨ta, tn, tc⟩, ⟨da, dn, dc⟩⟩ := v
 obtain ⟨⟨ja, jn, jc⟩, ⟨ra, rn, rc⟩, ⟨ua, un, uc⟩, ⟨ea, en, ec⟩⟩ := v'
 have hvi := h.i.at'
 have hvs := h.s.at'
 have hvt := h.t.at'
 have hvd := h.d.at'
 have hwi := h'.i.at'
 have hws := h'.s.at'
 have hwt := h'.t.at'
 have hwd := h'.d.at'
 have n1 := h.i.at'.len
 have n2 := h'.i.at'.len
 have n3 := h.s.at'.len
 have n4 := h'.s.at'.len
 have n5 := h.t.at'.len
 have n6 := h'.t.at'.len
 have n7 := h.d.at'.len
 have n8 := h'.d.at'.len
 have b1 := h.i.big
 have b3 := h.s.big
 have b5 := h.t.big
 have b7 := h.d.big
 dsimp only at n1 n2 n3 n4 n5 n6 n7 n8 b1 b3 b5 b7 hvi hvs hvt hvd hwi hws hwt hwd
 simp only [Wv]
 refine Zf Tryz.func24 rfl rfl rfl fun u R => ?_
 simp only [Zx, List.cons_append, List.nil_append]
 by_cases e : x.kind = y.kind ∧ x.lsn = y.lsn ∧ x.txn = y.txn ∧ x.prev = y.prev ∧ x.next = y.next ∧ x.nextTxn = y.nextTxn
 ·have hp := plain_eq e
  obtain ⟨e1, e2, e3, e4, e5, e6⟩ := e
  by_cases hn : inn = jn ∧ sn = rn ∧ tn = un ∧ dn = en
  ·obtain ⟨m1, m2, m3, m4⟩ := hn
   repeat' (first | (refine ZG ?_; refine Zn (Ze rfl) rfl rfl ?_) | (refine Zj ?_; first | (refine Zg ?_; refine qQ ?_) | refine Zl ?_) | refine Za ?_ | (refine Zi ?_; refine Zq ?_) | (refine Zh ?_; refine Zp ?_) | intro _)
   rename_i b2 b3
   refine Zy [(2, _), (3, _), (87, _)] (fun (ζ : (Nat)) => [(88, .int .i64 ζ), (4, .bool false)]) (fun (ζ : (Nat)) => ρ) (fun (ζ : (Nat)) => [[(b3, .cells ⟨[.int .i64 y.kind, .int .u64 y.lsn, .int .i64 y.txn, .int .u64 y.prev, .int .u64 y.next, .slice ja jn jc, .slice ra rn rc, .int .i64 y.nextTxn, .slice ua un uc, .slice ea en ec]⟩ 30 (0, 0))], [(b2, .cells ⟨[.int .i64 x.kind, .int .u64 x.lsn, .int .i64 x.txn, .int .u64 x.prev, .int .u64 x.next, .slice ia inn ic, .slice sa sn sc, .int .i64 x.nextTxn, .slice ta tn tc, .slice da dn dc]⟩ 30 (0, 0))]]) (fun (ζ : (Nat)) => ζ ≤ inn ∧ (x.ims.map Im.plain).take ζ = (y.ims.map Im.plain).take ζ) (fun (ζ : (Nat)) => inn - ζ) (0) (⟨Nat.zero_le _, rfl⟩) Zk Zk rfl tk ?_
   rintro k hI
   try simp only [List.cons_append, List.nil_append, List.append_assoc, List.append_eq] at hI ⊢
   try dsimp only at hI ⊢
   obtain ⟨hk, hpre⟩ := hI
   by_cases hlt : k < inn
   ·obtain ⟨b, off, C, T, fr, rfl, hb, hfit, hc⟩ := hvi.get (show k < x.ims.length by omega)
    obtain ⟨bb, off2, C2, T2, fr2, rfl, hb2, hfit2, hc2⟩ := hwi.get (show k < y.ims.length by omega)
    have ht1 := map_take_succ Im.plain x.ims k (by omega)
    have ht2 := map_take_succ Im.plain y.ims k (by omega)
    have hf : x.plain = y.plain → (x.ims[k]'(by omega)).plain = (y.ims[k]'(by omega)).plain := fun e => by
     have g0 := (hp.1 e).2.2.2
     have g1 : (x.ims.map Im.plain)[k]? = some (x.ims[k]'(by omega)).plain := by simp [show k < x.ims.length by omega]
     have g2 : (y.ims.map Im.plain)[k]? = some (y.ims[k]'(by omega)).plain := by simp [show k < y.ims.length by omega]
     rw [g0, g2] at g1
     exact (Option.some.inj g1).symm
    have hs := h.im _ (List.getElem_mem (show k < x.ims.length by omega))
    have hs' := h'.im _ (List.getElem_mem (show k < y.ims.length by omega))
    generalize x.ims[k]'(by omega) = xi at *
    generalize y.ims[k]'(by omega) = yi at *
    have q1 := sameR_spec ρ xi.bv yi.bv xi.b yi.b hs.b.cin hs'.b.cin
    have q2 := sameR_spec ρ xi.av yi.av xi.a yi.a hs.a.cin hs'.a.cin
    have hq : imEq xi yi = true ↔ _ := imEq_iff
    unfold imEq at hq
    by_cases c1 : xi.page = yi.page
    ·rw [decide_eq_true c1, Bool.true_and] at hq
     by_cases c2 : xi.b = yi.b
     ·rw [decide_eq_true c2] at q1 hq
      rw [Bool.true_and] at hq
      by_cases c3 : xi.a = yi.a
      ·rw [decide_eq_true c3] at q2 hq
       have hpre2 : (x.ims.map Im.plain).take (k + 1) = (y.ims.map Im.plain).take (k + 1) := by rw [ht1, ht2, hpre, hq.1 rfl]
       repeat' (first | (refine ZG ?_; refine Zn (Ze rfl) rfl rfl ?_) | (refine Zj ?_; first | (refine Zg ?_; refine qQ ?_) | refine Zl ?_) | refine Za ?_ | (refine Zi ?_; refine Zq ?_) | (refine Zh ?_; refine Zp ?_) | intro _)
       refine ZI (Zv _ _ _) ZC ?_
       all_goals (refine rFa 0 ?_; refine Yr 1 ?_; refine Ye 2 ?_; refine rIa 3 ?_; refine Yr 4 ?_; refine rFa 5 ?_; refine Yr 6 ?_; refine Ye 7 ?_; refine rIa 8 ?_; refine Yr 9 ?_)
       all_goals (refine Wp (i := 10) (j := 11) ?_ ?_ <;> ((try refine Zr ?_); (first | (refine Zl ?_; try intro _)) <;> ((try simp only [kM, kN, kO]); refine Za ?_; refine Zs ?_)))
       all_goals (first | (refine Zt (i := 11) ?_; ((try refine Zr ?_); (first | (refine Zl ?_; try intro _)) <;> ((try simp only [kM, kN, kO]); refine Za ?_; refine Zs ?_))) | (refine Zt (i := 10) ?_; ((try refine Zr ?_); (first | (refine Zl ?_; try intro _)) <;> ((try simp only [kM, kN, kO]); refine Za ?_; refine Zs ?_))))
       all_goals (refine Zt (i := 12) ?_; ((try refine Zr ?_); (first | (refine Zl ?_; try intro _)) <;> ((try simp only [kM, kN, kO]); refine Za ?_; refine Zs ?_)))
       all_goals (refine Zt (i := 13) ?_; ((try refine Zr ?_); (first | (refine Zl ?_; try intro _)) <;> ((try simp only [kM, kN, kO]); refine Za ?_; refine Zs ?_)))
       all_goals refine ZP ?_
       all_goals (repeat' (first | (refine Zc (.func 93) ?_; refine qC rfl rfl (q1) ?_; rintro v ρ' L' hle ⟨rfl, rfl, rfl⟩ <;> (try simp only [kM, kN, kO])) | (refine Zc (.func 93) ?_; refine qC rfl rfl (q2) ?_; rintro v ρ' L' hle ⟨rfl, rfl, rfl⟩ <;> (try simp only [kM, kN, kO])) | (refine ZG ?_; refine Zn (Ze rfl) rfl rfl ?_) | (refine Zj ?_; first | (refine Zg ?_; refine qQ ?_) | refine Zl ?_) | refine Za ?_ | (refine Zi ?_; refine Zq ?_) | (refine Zh ?_; refine Zp ?_) | intro _))
       all_goals refine Zo (k + 1) (⟨hlt, hpre2⟩) Zk Zk rfl tk inferInstance (by first | omega | (dsimp only; omega))
      ·rw [decide_eq_false c3] at q2 hq
       have hne : x.plain ≠ y.plain := fun e => by have := hq.2 (hf e); cases this
       repeat' (first | (refine ZG ?_; refine Zn (Ze rfl) rfl rfl ?_) | (refine Zj ?_; first | (refine Zg ?_; refine qQ ?_) | refine Zl ?_) | refine Za ?_ | (refine Zi ?_; refine Zq ?_) | (refine Zh ?_; refine Zp ?_) | intro _)
       refine ZI (Zv _ _ _) ZC ?_
       all_goals (refine rFa 0 ?_; refine Yr 1 ?_; refine Ye 2 ?_; refine rIa 3 ?_; refine Yr 4 ?_; refine rFa 5 ?_; refine Yr 6 ?_; refine Ye 7 ?_; refine rIa 8 ?_; refine Yr 9 ?_)
       all_goals (refine Wp (i := 10) (j := 11) ?_ ?_ <;> ((try refine Zr ?_); (first | (refine Zl ?_; try intro _)) <;> ((try simp only [kM, kN, kO]); refine Za ?_; refine Zs ?_)))
       all_goals (first | (refine Zt (i := 11) ?_; ((try refine Zr ?_); (first | (refine Zl ?_; try intro _)) <;> ((try simp only [kM, kN, kO]); refine Za ?_; refine Zs ?_))) | (refine Zt (i := 10) ?_; ((try refine Zr ?_); (first | (refine Zl ?_; try intro _)) <;> ((try simp only [kM, kN, kO]); refine Za ?_; refine Zs ?_))))
       all_goals (refine Zt (i := 12) ?_; ((try refine Zr ?_); (first | (refine Zl ?_; try intro _)) <;> ((try simp only [kM, kN, kO]); refine Za ?_; refine Zs ?_)))
       all_goals (refine Zt (i := 13) ?_; ((try refine Zr ?_); (first | (refine Zl ?_; try intro _)) <;> ((try simp only [kM, kN, kO]); refine Za ?_; refine Zs ?_)))
       all_goals refine ZP ?_
       all_goals (repeat' (first | (refine Zc (.func 93) ?_; refine qC rfl rfl (q1) ?_; rintro v ρ' L' hle ⟨rfl, rfl, rfl⟩ <;> (try simp only [kM, kN, kO])) | (refine Zc (.func 93) ?_; refine qC rfl rfl (q2) ?_; rintro v ρ' L' hle ⟨rfl, rfl, rfl⟩ <;> (try simp only [kM, kN, kO])) | (refine ZG ?_; refine Zn (Ze rfl) rfl rfl ?_) | (refine Zj ?_; first | (refine Zg ?_; refine qQ ?_) | refine Zl ?_) | refine Za ?_ | (refine Zi ?_; refine Zq ?_) | (refine Zh ?_; refine Zp ?_) | intro _))
       all_goals exact qE (L' := []) ⟨⟨false, rfl, by simp, fun e => absurd e hne⟩, rfl, rfl⟩
     ·rw [decide_eq_false c2] at q1 hq
      have hne : x.plain ≠ y.plain := fun e => by have := hq.2 (hf e); cases this
      repeat' (first | (refine ZG ?_; refine Zn (Ze rfl) rfl rfl ?_) | (refine Zj ?_; first | (refine Zg ?_; refine qQ ?_) | refine Zl ?_) | refine Za ?_ | (refine Zi ?_; refine Zq ?_) | (refine Zh ?_; refine Zp ?_) | intro _)
      refine ZI (Zv _ _ _) ZC ?_
      all_goals (refine rFa 0 ?_; refine Yr 1 ?_; refine Ye 2 ?_; refine rIa 3 ?_; refine Yr 4 ?_; refine rFa 5 ?_; refine Yr 6 ?_; refine Ye 7 ?_; refine rIa 8 ?_; refine Yr 9 ?_)
      all_goals (refine Wp (i := 10) (j := 11) ?_ ?_ <;> ((try refine Zr ?_); (first | (refine Zl ?_; try intro _)) <;> ((try simp only [kM, kN, kO]); refine Za ?_; refine Zs ?_)))
      all_goals (first | (refine Zt (i := 11) ?_; ((try refine Zr ?_); (first | (refine Zl ?_; try intro _)) <;> ((try simp only [kM, kN, kO]); refine Za ?_; refine Zs ?_))) | (refine Zt (i := 10) ?_; ((try refine Zr ?_); (first | (refine Zl ?_; try intro _)) <;> ((try simp only [kM, kN, kO]); refine Za ?_; refine Zs ?_))))
      all_goals (refine Zt (i := 12) ?_; ((try refine Zr ?_); (first | (refine Zl ?_; try intro _)) <;> ((try simp only [kM, kN, kO]); refine Za ?_; refine Zs ?_)))
      all_goals (refine Zt (i := 13) ?_; ((try refine Zr ?_); (first | (refine Zl ?_; try intro _)) <;> ((try simp only [kM, kN, kO]); refine Za ?_; refine Zs ?_)))
      all_goals refine ZP ?_
      all_goals (repeat' (first | (refine Zc (.func 93) ?_; refine qC rfl rfl (q1) ?_; rintro v ρ' L' hle ⟨rfl, rfl, rfl⟩ <;> (try simp only [kM, kN, kO])) | (refine ZG ?_; refine Zn (Ze rfl) rfl rfl ?_) | (refine Zj ?_; first | (refine Zg ?_; refine qQ ?_) | refine Zl ?_) | refine Za ?_ | (refine Zi ?_; refine Zq ?_) | (refine Zh ?_; refine Zp ?_) | intro _))
      all_goals exact qE (L' := []) ⟨⟨false, rfl, by simp, fun e => absurd e hne⟩, rfl, rfl⟩
    ·rw [decide_eq_false c1] at hq
     have hne : x.plain ≠ y.plain := fun e => by have := hq.2 (hf e); cases this
     repeat' (first | (refine ZG ?_; refine Zn (Ze rfl) rfl rfl ?_) | (refine Zj ?_; first | (refine Zg ?_; refine qQ ?_) | refine Zl ?_) | refine Za ?_ | (refine Zi ?_; refine Zq ?_) | (refine Zh ?_; refine Zp ?_) | intro _)
     refine ZI (Zv _ _ _) ZC ?_
     all_goals (refine rFa 0 ?_; refine Yr 1 ?_; refine Ye 2 ?_; refine rIa 3 ?_; refine Yr 4 ?_; refine rFa 5 ?_; refine Yr 6 ?_; refine Ye 7 ?_; refine rIa 8 ?_; refine Yr 9 ?_)
     all_goals (refine Wp (i := 10) (j := 11) ?_ ?_ <;> ((try refine Zr ?_); (first | (refine Zl ?_; try intro _)) <;> ((try simp only [kM, kN, kO]); refine Za ?_; refine Zs ?_)))
     all_goals (first | (refine Zt (i := 11) ?_; ((try refine Zr ?_); (first | (refine Zl ?_; try intro _)) <;> ((try simp only [kM, kN, kO]); refine Za ?_; refine Zs ?_))) | (refine Zt (i := 10) ?_; ((try refine Zr ?_); (first | (refine Zl ?_; try intro _)) <;> ((try simp only [kM, kN, kO]); refine Za ?_; refine Zs ?_))))
     all_goals (refine Zt (i := 12) ?_; ((try refine Zr ?_); (first | (refine Zl ?_; try intro _)) <;> ((try simp only [kM, kN, kO]); refine Za ?_; refine Zs ?_)))
     all_goals (refine Zt (i := 13) ?_; ((try refine Zr ?_); (first | (refine Zl ?_; try intro _)) <;> ((try simp only [kM, kN, kO]); refine Za ?_; refine Zs ?_)))
     all_goals refine ZP ?_
     all_goals (repeat' (first | (refine ZG ?_; refine Zn (Ze rfl) rfl rfl ?_) | (refine Zj ?_; first | (refine Zg ?_; refine qQ ?_) | refine Zl ?_) | refine Za ?_ | (refine Zi ?_; refine Zq ?_) | (refine Zh ?_; refine Zp ?_) | intro _))
     all_goals exact qE (L' := []) ⟨⟨false, rfl, by simp, fun e => absurd e hne⟩, rfl, rfl⟩
   ·have hI := take_ext (by simp; omega) k (by simp; omega) hpre
    repeat' (first | (refine ZG ?_; refine Zn (Ze rfl) rfl rfl ?_) | (refine Zj ?_; first | (refine Zg ?_; refine qQ ?_) | refine Zl ?_) | refine Za ?_ | (refine Zi ?_; refine Zq ?_) | (refine Zh ?_; refine Zp ?_) | intro _)
    refine Zy [(2, _), (3, _), (125, _)] (fun (ζ : (Nat)) => [(126, .int .i64 ζ), (4, .bool false)]) (fun (ζ : (Nat)) => ρ) (fun (ζ : (Nat)) => [[(b3, .cells ⟨[.int .i64 y.kind, .int .u64 y.lsn, .int .i64 y.txn, .int .u64 y.prev, .int .u64 y.next, .slice ja jn jc, .slice ra rn rc, .int .i64 y.nextTxn, .slice ua un uc, .slice ea en ec]⟩ 30 (0, 0))], [(b2, .cells ⟨[.int .i64 x.kind, .int .u64 x.lsn, .int .i64 x.txn, .int .u64 x.prev, .int .u64 x.next, .slice ia inn ic, .slice sa sn sc, .int .i64 x.nextTxn, .slice ta tn tc, .slice da dn dc]⟩ 30 (0, 0))]]) (fun (ζ : (Nat)) => ζ ≤ sn ∧ x.steps.take ζ = y.steps.take ζ) (fun (ζ : (Nat)) => sn - ζ) (0) (⟨Nat.zero_le _, rfl⟩) Zk Zk rfl tk ?_
    rintro k1 hI
    try simp only [List.cons_append, List.nil_append, List.append_assoc, List.append_eq] at hI ⊢
    try dsimp only at hI ⊢
    obtain ⟨hk, hpre⟩ := hI
    by_cases hlt : k1 < sn
    ·obtain ⟨b, off, C, T, fr, rfl, hb, hfit, hc⟩ := hvs.get (show k1 < x.steps.length by omega)
     obtain ⟨bb, off2, C2, T2, fr2, rfl, hb2, hfit2, hc2⟩ := hws.get (show k1 < y.steps.length by omega)
     have ht1 := List.take_succ_eq_append_getElem (show k1 < x.steps.length by omega)
     have ht2 := List.take_succ_eq_append_getElem (show k1 < y.steps.length by omega)
     have hf := get_ext k1 (show k1 < x.steps.length by omega) (show k1 < y.steps.length by omega)
     generalize x.steps[k1]'(by omega) = xi at *
     generalize y.steps[k1]'(by omega) = yi at *
     by_cases c : xi = yi
     ·have hd : decide (xi = yi) = true := decide_eq_true c
      repeat' (first | (refine ZG ?_; refine Zn (Ze rfl) rfl rfl ?_) | (refine Zj ?_; first | (refine Zg ?_; refine qQ ?_) | refine Zl ?_) | refine Za ?_ | (refine Zi ?_; refine Zq ?_) | (refine Zh ?_; refine Zp ?_) | intro _)
      refine ZI (Zv _ _ _) ZC ?_
      all_goals (refine rFa 0 ?_; refine Yi ?_; refine Yr 1 ?_; refine Ye 2 ?_; refine rIa 3 ?_; refine Yr 4 ?_; refine rFa 5 ?_; refine Yr 6 ?_; refine Ye 7 ?_; refine rIa 8 ?_; refine Yr 9 ?_; refine rCm 10 ?_; refine ZP ?_)
      all_goals (repeat' (first | (refine ZG ?_; refine Zn (Ze rfl) rfl rfl ?_) | (refine Zj ?_; first | (refine Zg ?_; refine qQ ?_) | refine Zl ?_) | refine Za ?_ | (refine Zi ?_; refine Zq ?_) | (refine Zh ?_; refine Zp ?_) | intro _))
      all_goals refine Zo (k1 + 1) (⟨hlt, by rw [ht1, ht2, hpre, c]⟩) Zk Zk rfl tk inferInstance (by first | omega | (dsimp only; omega))
     ·have hd : decide (xi = yi) = false := decide_eq_false c
      repeat' (first | (refine ZG ?_; refine Zn (Ze rfl) rfl rfl ?_) | (refine Zj ?_; first | (refine Zg ?_; refine qQ ?_) | refine Zl ?_) | refine Za ?_ | (refine Zi ?_; refine Zq ?_) | (refine Zh ?_; refine Zp ?_) | intro _)
      refine ZI (Zv _ _ _) ZC ?_
      all_goals (refine rFa 0 ?_; refine Yi ?_; refine Yr 1 ?_; refine Ye 2 ?_; refine rIa 3 ?_; refine Yr 4 ?_; refine rFa 5 ?_; refine Yr 6 ?_; refine Ye 7 ?_; refine rIa 8 ?_; refine Yr 9 ?_; refine rCm 10 ?_; refine ZP ?_)
      all_goals (repeat' (first | (refine ZG ?_; refine Zn (Ze rfl) rfl rfl ?_) | (refine Zj ?_; first | (refine Zg ?_; refine qQ ?_) | refine Zl ?_) | refine Za ?_ | (refine Zi ?_; refine Zq ?_) | (refine Zh ?_; refine Zp ?_) | intro _))
      all_goals exact qE (L' := []) ⟨⟨false, rfl, by simp, fun e => absurd (hf (hp.1 e).1) c⟩, rfl, rfl⟩
    ·have hS := take_ext (by omega) k1 (by omega) hpre
     repeat' (first | (refine ZG ?_; refine Zn (Ze rfl) rfl rfl ?_) | (refine Zj ?_; first | (refine Zg ?_; refine qQ ?_) | refine Zl ?_) | refine Za ?_ | (refine Zi ?_; refine Zq ?_) | (refine Zh ?_; refine Zp ?_) | intro _)
     refine Zy [(2, _), (3, _), (143, _)] (fun (ζ : (Nat)) => [(144, .int .i64 ζ), (4, .bool false)]) (fun (ζ : (Nat)) => ρ) (fun (ζ : (Nat)) => [[(b3, .cells ⟨[.int .i64 y.kind, .int .u64 y.lsn, .int .i64 y.txn, .int .u64 y.prev, .int .u64 y.next, .slice ja jn jc, .slice ra rn rc, .int .i64 y.nextTxn, .slice ua un uc, .slice ea en ec]⟩ 30 (0, 0))], [(b2, .cells ⟨[.int .i64 x.kind, .int .u64 x.lsn, .int .i64 x.txn, .int .u64 x.prev, .int .u64 x.next, .slice ia inn ic, .slice sa sn sc, .int .i64 x.nextTxn, .slice ta tn tc, .slice da dn dc]⟩ 30 (0, 0))]]) (fun (ζ : (Nat)) => ζ ≤ tn ∧ x.txns.take ζ = y.txns.take ζ) (fun (ζ : (Nat)) => tn - ζ) (0) (⟨Nat.zero_le _, rfl⟩) Zk Zk rfl tk ?_
     rintro k2 hI
     try simp only [List.cons_append, List.nil_append, List.append_assoc, List.append_eq] at hI ⊢
     try dsimp only at hI ⊢
     obtain ⟨hk, hpre⟩ := hI
     by_cases hlt : k2 < tn
     ·obtain ⟨b, off, C, T, fr, rfl, hb, hfit, hc⟩ := hvt.get (show k2 < x.txns.length by omega)
      obtain ⟨bb, off2, C2, T2, fr2, rfl, hb2, hfit2, hc2⟩ := hwt.get (show k2 < y.txns.length by omega)
      have ht1 := List.take_succ_eq_append_getElem (show k2 < x.txns.length by omega)
      have ht2 := List.take_succ_eq_append_getElem (show k2 < y.txns.length by omega)
      have hf := get_ext k2 (show k2 < x.txns.length by omega) (show k2 < y.txns.length by omega)
      generalize x.txns[k2]'(by omega) = xi at *
      generalize y.txns[k2]'(by omega) = yi at *
      by_cases c : xi = yi
      ·have hd : decide (xi = yi) = true := decide_eq_true c
       repeat' (first | (refine ZG ?_; refine Zn (Ze rfl) rfl rfl ?_) | (refine Zj ?_; first | (refine Zg ?_; refine qQ ?_) | refine Zl ?_) | refine Za ?_ | (refine Zi ?_; refine Zq ?_) | (refine Zh ?_; refine Zp ?_) | intro _)
       refine ZI (Zv _ _ _) ZC ?_
       all_goals (refine rFa 0 ?_; refine Yi ?_; refine Yr 1 ?_; refine Ye 2 ?_; refine rIa 3 ?_; refine Yr 4 ?_; refine rFa 5 ?_; refine Yr 6 ?_; refine Ye 7 ?_; refine rIa 8 ?_; refine Yr 9 ?_; refine rCm 10 ?_; refine ZP ?_)
       all_goals (repeat' (first | (refine ZG ?_; refine Zn (Ze rfl) rfl rfl ?_) | (refine Zj ?_; first | (refine Zg ?_; refine qQ ?_) | refine Zl ?_) | refine Za ?_ | (refine Zi ?_; refine Zq ?_) | (refine Zh ?_; refine Zp ?_) | intro _))
       all_goals refine Zo (k2 + 1) (⟨hlt, by rw [ht1, ht2, hpre, c]⟩) Zk Zk rfl tk inferInstance (by first | omega | (dsimp only; omega))
      ·have hd : decide (xi = yi) = false := decide_eq_false c
       repeat' (first | (refine ZG ?_; refine Zn (Ze rfl) rfl rfl ?_) | (refine Zj ?_; first | (refine Zg ?_; refine qQ ?_) | refine Zl ?_) | refine Za ?_ | (refine Zi ?_; refine Zq ?_) | (refine Zh ?_; refine Zp ?_) | intro _)
       refine ZI (Zv _ _ _) ZC ?_
       all_goals (refine rFa 0 ?_; refine Yi ?_; refine Yr 1 ?_; refine Ye 2 ?_; refine rIa 3 ?_; refine Yr 4 ?_; refine rFa 5 ?_; refine Yr 6 ?_; refine Ye 7 ?_; refine rIa 8 ?_; refine Yr 9 ?_; refine rCm 10 ?_; refine ZP ?_)
       all_goals (repeat' (first | (refine ZG ?_; refine Zn (Ze rfl) rfl rfl ?_) | (refine Zj ?_; first | (refine Zg ?_; refine qQ ?_) | refine Zl ?_) | refine Za ?_ | (refine Zi ?_; refine Zq ?_) | (refine Zh ?_; refine Zp ?_) | intro _))
       all_goals exact qE (L' := []) ⟨⟨false, rfl, by simp, fun e => absurd (hf (hp.1 e).2.1) c⟩, rfl, rfl⟩
     ·have hT := take_ext (by omega) k2 (by omega) hpre
      repeat' (first | (refine ZG ?_; refine Zn (Ze rfl) rfl rfl ?_) | (refine Zj ?_; first | (refine Zg ?_; refine qQ ?_) | refine Zl ?_) | refine Za ?_ | (refine Zi ?_; refine Zq ?_) | (refine Zh ?_; refine Zp ?_) | intro _)
      refine Zy [(2, _), (3, _), (161, _)] (fun (ζ : (Nat)) => [(162, .int .i64 ζ), (4, .bool false)]) (fun (ζ : (Nat)) => ρ) (fun (ζ : (Nat)) => [[(b3, .cells ⟨[.int .i64 y.kind, .int .u64 y.lsn, .int .i64 y.txn, .int .u64 y.prev, .int .u64 y.next, .slice ja jn jc, .slice ra rn rc, .int .i64 y.nextTxn, .slice ua un uc, .slice ea en ec]⟩ 30 (0, 0))], [(b2, .cells ⟨[.int .i64 x.kind, .int .u64 x.lsn, .int .i64 x.txn, .int .u64 x.prev, .int .u64 x.next, .slice ia inn ic, .slice sa sn sc, .int .i64 x.nextTxn, .slice ta tn tc, .slice da dn dc]⟩ 30 (0, 0))]]) (fun (ζ : (Nat)) => ζ ≤ dn ∧ x.dirty.take ζ = y.dirty.take ζ) (fun (ζ : (Nat)) => dn - ζ) (0) (⟨Nat.zero_le _, rfl⟩) Zk Zk rfl tk ?_
      rintro k3 hI
      try simp only [List.cons_append, List.nil_append, List.append_assoc, List.append_eq] at hI ⊢
      try dsimp only at hI ⊢
      obtain ⟨hk, hpre⟩ := hI
      by_cases hlt : k3 < dn
      ·obtain ⟨b, off, C, T, fr, rfl, hb, hfit, hc⟩ := hvd.get (show k3 < x.dirty.length by omega)
       obtain ⟨bb, off2, C2, T2, fr2, rfl, hb2, hfit2, hc2⟩ := hwd.get (show k3 < y.dirty.length by omega)
       have ht1 := List.take_succ_eq_append_getElem (show k3 < x.dirty.length by omega)
       have ht2 := List.take_succ_eq_append_getElem (show k3 < y.dirty.length by omega)
       have hf := get_ext k3 (show k3 < x.dirty.length by omega) (show k3 < y.dirty.length by omega)
       generalize x.dirty[k3]'(by omega) = xi at *
       generalize y.dirty[k3]'(by omega) = yi at *
       by_cases c : xi = yi
       ·have hd : decide (xi = yi) = true := decide_eq_true c
        repeat' (first | (refine ZG ?_; refine Zn (Ze rfl) rfl rfl ?_) | (refine Zj ?_; first | (refine Zg ?_; refine qQ ?_) | refine Zl ?_) | refine Za ?_ | (refine Zi ?_; refine Zq ?_) | (refine Zh ?_; refine Zp ?_) | intro _)
        refine ZI (Zv _ _ _) ZC ?_
        all_goals (refine rFa 0 ?_; refine Yi ?_; refine Yr 1 ?_; refine Ye 2 ?_; refine rIa 3 ?_; refine Yr 4 ?_; refine rFa 5 ?_; refine Yr 6 ?_; refine Ye 7 ?_; refine rIa 8 ?_; refine Yr 9 ?_; refine rCm 10 ?_; refine ZP ?_)
        all_goals (repeat' (first | (refine ZG ?_; refine Zn (Ze rfl) rfl rfl ?_) | (refine Zj ?_; first | (refine Zg ?_; refine qQ ?_) | refine Zl ?_) | refine Za ?_ | (refine Zi ?_; refine Zq ?_) | (refine Zh ?_; refine Zp ?_) | intro _))
        all_goals refine Zo (k3 + 1) (⟨hlt, by rw [ht1, ht2, hpre, c]⟩) Zk Zk rfl tk inferInstance (by first | omega | (dsimp only; omega))
       ·have hd : decide (xi = yi) = false := decide_eq_false c
        repeat' (first | (refine ZG ?_; refine Zn (Ze rfl) rfl rfl ?_) | (refine Zj ?_; first | (refine Zg ?_; refine qQ ?_) | refine Zl ?_) | refine Za ?_ | (refine Zi ?_; refine Zq ?_) | (refine Zh ?_; refine Zp ?_) | intro _)
        refine ZI (Zv _ _ _) ZC ?_
        all_goals (refine rFa 0 ?_; refine Yi ?_; refine Yr 1 ?_; refine Ye 2 ?_; refine rIa 3 ?_; refine Yr 4 ?_; refine rFa 5 ?_; refine Yr 6 ?_; refine Ye 7 ?_; refine rIa 8 ?_; refine Yr 9 ?_; refine rCm 10 ?_; refine ZP ?_)
        all_goals (repeat' (first | (refine ZG ?_; refine Zn (Ze rfl) rfl rfl ?_) | (refine Zj ?_; first | (refine Zg ?_; refine qQ ?_) | refine Zl ?_) | refine Za ?_ | (refine Zi ?_; refine Zq ?_) | (refine Zh ?_; refine Zp ?_) | intro _))
        all_goals exact qE (L' := []) ⟨⟨false, rfl, by simp, fun e => absurd (hf (hp.1 e).2.2.1) c⟩, rfl, rfl⟩
      ·have hD := take_ext (by omega) k3 (by omega) hpre
       repeat' (first | (refine ZG ?_; refine Zn (Ze rfl) rfl rfl ?_) | (refine Zj ?_; first | (refine Zg ?_; refine qQ ?_) | refine Zl ?_) | refine Za ?_ | (refine Zi ?_; refine Zq ?_) | (refine Zh ?_; refine Zp ?_) | intro _)
       exact qE (L' := []) ⟨⟨true, rfl, fun _ => hp.2 ⟨hS, hT, hD, hI⟩, fun _ => rfl⟩, rfl, rfl⟩
  ·have hne : x.plain ≠ y.plain := fun e => by
    obtain ⟨g1, g2, g3, g4⟩ := hp.1 e
    have g4 := congrArg List.length g4
    simp only [List.length_map] at g4
    rw [g1] at n3; rw [g2] at n5; rw [g3] at n7
    exact hn (by omega)
   repeat' (first | (refine ZG ?_; refine Zn (Ze rfl) rfl rfl ?_) | (refine Zj ?_; first | (refine Zg ?_; refine qQ ?_) | refine Zl ?_) | refine Za ?_ | (refine Zi ?_; refine Zq ?_) | (refine Zh ?_; refine Zp ?_) | (refine XO ?_; refine Yd rfl rfl (fun hb => ?_) (fun hb => ?_) <;> (try simp only [decide_eq_true_eq, decide_eq_false_iff_not, Bool.not_eq_true, Bool.not_eq_false, beq_iff_eq, bne_iff_ne, ne_eq, decide_eq_decide, Bool.not_eq_eq_eq_not, Bool.not_true, Bool.not_false, beq_eq_false_iff_ne, bne_eq_false_iff_eq, Bool.and_eq_true, Bool.or_eq_true, Bool.and_eq_false_imp, Bool.or_eq_false_iff, bq2, bqt, bqf] at hb)) | (refine Yx ?_; refine Yp rfl (fun hb => ?_) (fun hb => ?_) <;> (try simp only [decide_eq_true_eq, decide_eq_false_iff_not, Bool.not_eq_true, Bool.not_eq_false, beq_iff_eq, bne_iff_ne, ne_eq, decide_eq_decide, Bool.not_eq_eq_eq_not, Bool.not_true, Bool.not_false, beq_eq_false_iff_ne, bne_eq_false_iff_eq, Bool.and_eq_true, Bool.or_eq_true, Bool.and_eq_false_imp, Bool.or_eq_false_iff, bq2, bqt, bqf] at hb)) | intro _)
   all_goals first | (exfalso; omega) | skip
   all_goals (refine qF (L' := []) ?_; exact ⟨⟨false, YI (by (try simp [*]); first | done | omega | (intros; omega) | (constructor <;> intros <;> (try simp_all) <;> omega)), by simp, fun h => absurd h hne⟩, rfl, rfl⟩)
 ·have hne : x.plain ≠ y.plain := fun h => e (by
   injection h with a1 a2 a3 a4 a5 a6 a7 a8 a9 a10
   exact ⟨a1, a2, a3, a4, a5, a8⟩)
  repeat' (first | (refine ZG ?_; refine Zn (Ze rfl) rfl rfl ?_) | (refine Zj ?_; first | (refine Zg ?_; refine qQ ?_) | refine Zl ?_) | refine Za ?_ | (refine Zi ?_; refine Zq ?_) | (refine Zh ?_; refine Zp ?_) | (refine XO ?_; refine Yd rfl rfl (fun hb => ?_) (fun hb => ?_) <;> (try simp only [decide_eq_true_eq, decide_eq_false_iff_not, Bool.not_eq_true, Bool.not_eq_false, beq_iff_eq, bne_iff_ne, ne_eq, decide_eq_decide, Bool.not_eq_eq_eq_not, Bool.not_true, Bool.not_false, beq_eq_false_iff_ne, bne_eq_false_iff_eq, Bool.and_eq_true, Bool.or_eq_true, Bool.and_eq_false_imp, Bool.or_eq_false_iff, bq2, bqt, bqf] at hb)) | (refine Yx ?_; refine Yp rfl (fun hb => ?_) (fun hb => ?_) <;> (try simp only [decide_eq_true_eq, decide_eq_false_iff_not, Bool.not_eq_true, Bool.not_eq_false, beq_iff_eq, bne_iff_ne, ne_eq, decide_eq_decide, Bool.not_eq_eq_eq_not, Bool.not_true, Bool.not_false, beq_eq_false_iff_ne, bne_eq_false_iff_eq, Bool.and_eq_true, Bool.or_eq_true, Bool.and_eq_false_imp, Bool.or_eq_false_iff, bq2, bqt, bqf] at hb)) | intro _)
  all_goals first | (exfalso; omega) | skip
  all_goals (refine qF (L' := []) ?_; exact ⟨⟨false, YI (by (try simp [*]); first | done | omega | (intros; omega) | (constructor <;> intros <;> (try simp_all) <;> omega)), by simp, fun h => absurd h hne⟩, rfl, rfl⟩)
abbrev bAt (l : List UInt8) (i : Nat) : Nat := (l.getD i 0).toNat
def rowW (l : List UInt8) : Row := ⟨(bAt l 0 : Nat), bAt l 1 * 256 + bAt l 2, i64N (Xc ((l.drop 3).take 8)), (l.drop 12).take (bAt l 11)⟩
def Wh (l : List UInt8) : Prop := 12 ≤ l.length ∧ bAt l 0 < 3 ∧ bAt l 11 ≤ 8 ∧ 12 + bAt l 11 ≤ l.length
theorem numR_go {k : Nat} {l : List UInt8} (h : k ≤ l.length) : Yk k l 0 = (Xc (l.take k), l.drop k, 0) := by
 unfold Yk
 rw [if_neg (by simp), if_neg (by omega)]
theorem numR_no {k : Nat} {l : List UInt8} (h : l.length < k) : Yk k l 0 = (0, l, 7) := by
 unfold Yk
 rw [if_neg (by simp), if_pos h]
theorem numR_st (k : Nat) (l : List UInt8) : Yk k l 7 = (0, l, 7) := by
 unfold Yk
 rw [if_pos (by decide)]
theorem unbe_at1 (l : List UInt8) (k : Nat) (h : k < l.length) : Xc ((l.drop k).take 1) = bAt l k := by
 rw [List.drop_eq_getElem_cons h, List.take_succ_cons, List.take_zero, unbe_one]
 simp [bAt, List.getD_eq_getElem?_getD, h]
theorem unbe_at2 (l : List UInt8) (k : Nat) (h : k + 1 < l.length) : Xc ((l.drop k).take 2) = bAt l k * 256 + bAt l (k + 1) := by
 rw [List.drop_eq_getElem_cons (show k < l.length by omega), List.drop_eq_getElem_cons h, List.take_succ_cons, List.take_succ_cons, List.take_zero]
 simp [Xc, bAt, List.getD_eq_getElem?_getD, h, show k < l.length by omega]
theorem takeRow_W (l : List UInt8) : ((Ym l).2.2 = 0 ↔ Wh l) ∧ (Wh l → Ym l = (rowW l, ((12 + bAt l 11 : Nat) : Int), 0)) := by
 unfold Ym XL Wh
 by_cases h1 : l.length < 1
 ·rw [numR_no h1]
  simp [Xi, XD, show ¬ 12 ≤ l.length by omega]
 ·have e1 := unbe_at1 l 0 (by omega)
  rw [List.drop_zero] at e1
  rw [numR_go (by omega), e1]
  by_cases ht : bAt l 0 < 3
  ·have hti : ((bAt l 0 : Nat) : Int) < 3 := by omega
   simp only [Xi, decide_eq_true hti]
   by_cases h3 : l.length < 3
   ·simp only [numR_no (show (l.drop 1).length < 2 by simp; omega), numR_st]
    simp [XD, show ¬ 12 ≤ l.length by omega]
   ·simp only [numR_go (show 2 ≤ (l.drop 1).length by simp; omega), List.drop_drop]
    by_cases h11 : l.length < 11
    ·simp only [show 1 + 2 = 3 from rfl, show 2 + 1 = 3 from rfl, numR_no (show (l.drop 3).length < 8 by simp; omega), numR_st]
     simp [XD, show ¬ 12 ≤ l.length by omega]
    ·simp only [show 1 + 2 = 3 from rfl, show 2 + 1 = 3 from rfl, numR_go (show 8 ≤ (l.drop 3).length by simp; omega), List.drop_drop]
     by_cases h12 : l.length < 12
     ·simp only [show 3 + 8 = 11 from rfl, show 8 + 3 = 11 from rfl, numR_no (show (l.drop 11).length < 1 by simp; omega)]
      simp [XD, show ¬ 12 ≤ l.length by omega]
     ·simp only [show 3 + 8 = 11 from rfl, show 8 + 3 = 11 from rfl, numR_go (show 1 ≤ (l.drop 11).length by simp; omega), List.drop_drop, unbe_at1 l 11 (by omega), unbe_at2 l 1 (by omega)]
      by_cases hn : bAt l 11 ≤ 8
      ·have hni : ((bAt l 11 : Nat) : Int) ≤ 8 := by omega
       by_cases hl : 12 + bAt l 11 ≤ l.length
       ·have hlen : (l.drop 12).length = l.length - 12 := by simp
        simp [XD, Ww, Wo, hn, hni, hl, ht, rowW, show 12 ≤ l.length by omega, show ¬ l.length - 12 < bAt l 11 by omega]
        omega
       ·simp [XD, Wo, hn, hni, hl, show l.length - 12 < bAt l 11 by omega]
      ·have hni : ¬ ((bAt l 11 : Nat) : Int) ≤ 8 := by omega
       simp [XD, hn, hni]
  ·have hti : ¬ ((bAt l 0 : Nat) : Int) < 3 := by omega
   simp [Xi, XD, hti, ht]
theorem bAt_get (l : List UInt8) (i : Nat) (h : i < l.length) : (l[i]'h).toNat = bAt l i := by simp [bAt, List.getD_eq_getElem?_getD, h]
theorem takenD_spec (ρ : Hp) (a : Option Addr) (n c : Nat) (l : List UInt8) (h : SIn ρ ZM a n l) (h3 : 3 ≤ n) : Spec Tryz.prog 244 [.slice a n c] ρ []
  (fun v ρ' L' => v = .agg ⟨[.int .i64 (bAt l 0 : Nat), .int .u16 (bAt l 1 * 256 + bAt l 2 : Nat)]⟩ ∧ ρ' = ρ ∧ L' = []) := by
 have hl := h.len
 obtain ⟨b, off, C, T, fr, rfl, hb, hc0⟩ := h.get (show 0 < l.length by omega)
 obtain ⟨b', off', C', T', fr', e', hb', hc1⟩ := h.get (show 1 < l.length by omega)
 cases e'
 cases hb.symm.trans hb'
 obtain ⟨b', off', C', T', fr', e', hb'', hc2⟩ := h.get (show 2 < l.length by omega)
 cases e'
 cases hb.symm.trans hb''
 have g0 := bAt_get l 0 (by omega)
 have g1 := bAt_get l 1 (by omega)
 have g2 := bAt_get l 2 (by omega)
 rw [← g0, ← g1, ← g2]
 generalize l[0]'(by omega) = y0 at *
 generalize l[1]'(by omega) = y1 at *
 generalize l[2]'(by omega) = y2 at *
 rw [show (((y1.toNat * 256 + y2.toNat : Nat)) : Int) = (y1.toNat : Int) * 256 + (y2.toNat : Int) by omega]
 have t0 := y0.toNat_lt
 have t1 := y1.toNat_lt
 have t2 := y2.toNat_lt
 refine Zf Tryz.func244 rfl rfl rfl fun u R => ?_
 simp only [Zx, List.cons_append, List.nil_append]
 repeat' (first | (refine ZG ?_; refine Zn (Ze rfl) rfl rfl ?_) | (refine Zj ?_; first | (refine Zg ?_; refine qQ ?_) | refine Zl ?_) | refine Za ?_ | (refine Zi ?_; refine Zq ?_) | (refine Zh ?_; refine Zp ?_) | intro _)
 rename_i b2
 refine ZI (Zv _ _ ([])) (ZU (hT := tk) (Hp.le_refl _)) ?_
 all_goals (refine Ye 0 ?_; refine rIa 1 ?_; refine Yr 2 ?_; refine rCv 3 ?_; refine Ye 4 ?_; refine rIa 5 ?_; refine Yr 6 ?_; refine rCv 7 ?_; refine rSh 8 ?_; refine Ye 9 ?_; refine rIa 10 ?_; refine Yr 11 ?_; refine rCv 12 ?_; refine rAd 13 ?_)
 all_goals refine rBu 14 ?_ (y := fun _ _ => Ze rfl)
 all_goals (refine Zt (i := 15) ?_; ((try refine Zr ?_); (first | (refine Zl ?_; try intro _)) <;> ((try simp only [kM, kN, kO]); refine Za ?_; refine Zs ?_)))
 all_goals refine ZP ?_
 all_goals (repeat' (first | (refine ZG ?_; refine Zn (Ze rfl) rfl rfl ?_) | (refine Zj ?_; first | (refine Zg ?_; refine qQ ?_) | refine Zl ?_) | refine Za ?_ | (refine Zi ?_; refine Zq ?_) | (refine Zh ?_; refine Zp ?_) | intro _))
 all_goals exact qE (L' := []) ⟨rfl, rfl, rfl⟩
theorem wrap_mod (n : Int) : IntKind.i64.wrap n % 18446744073709551616 = n % 18446744073709551616 := by
 simp only [IntKind.wrap, IntKind.signed, IntKind.bits, Bool.true_and]
 split <;> omega
theorem wrap_cg {n m : Int} (h : n % 18446744073709551616 = m % 18446744073709551616) : IntKind.i64.wrap n = IntKind.i64.wrap m := by
 have h' : n % (2 ^ IntKind.i64.bits : Int) = m % (2 ^ IntKind.i64.bits : Int) := h
 unfold IntKind.wrap
 simp only [h']
theorem i64_step (m c : Nat) : IntKind.i64.wrap (IntKind.i64.wrap (i64N m * 2 ^ 8) + (c : Int)) = i64N (m * 256 + c) := by
 have h1 := wrap_mod (i64N m * 2 ^ 8)
 have h2 : i64N m % 18446744073709551616 = _ := wrap_mod (m : Int)
 refine wrap_cg ?_
 generalize IntKind.i64.wrap (i64N m * 2 ^ 8) = x at *
 generalize i64N m = y at *
 omega
theorem takeRowD_spec (ρ : Hp) (a : Option Addr) (n c : Nat) (l : List UInt8) (h : SIn ρ ZM a n l) (hc : n ≤ c) (hb : n ≤ 1000000) : Spec Tryz.prog 176 [.slice a n c] ρ []
  (fun v ρ' L' => (∃ x k e, v = .tuple ⟨[.agg ⟨YY x⟩, .int .i64 k, .int .i64 e]⟩ ∧ (e = 0 ↔ Wh l) ∧ (Wh l → x = rowW l ∧ k = ((12 + bAt l 11 : Nat) : Int))) ∧ ρ' = ρ ∧ L' = []) := by
 have hl := h.len
 refine Zf Tryz.func176 rfl rfl rfl fun u R => ?_
 simp only [Zx, List.cons_append, List.nil_append]
 by_cases h1 : n < 1
 ·have hno : ¬ Wh l := fun e => by have := e.1; omega
  repeat' (first | (refine ZG ?_; refine Zn (Ze rfl) rfl rfl ?_) | (refine Zj ?_; first | (refine Zg ?_; refine qQ ?_) | refine Zl ?_) | refine Za ?_ | (refine Zi ?_; refine Zq ?_) | (refine Zh ?_; refine Zp ?_) | intro _)
  exact qE (L' := []) ⟨⟨⟨0, 0, 0, []⟩, 0, 7, rfl, ⟨fun e => absurd e (by decide), fun e => absurd e hno⟩, fun e => absurd e hno⟩, rfl, rfl⟩
 obtain ⟨b, off, C, T, fr, rfl, hbb, hc0⟩ := h.get (show 0 < l.length by omega)
 have g0 := bAt_get l 0 (by omega)
 generalize l[0]'(by omega) = y0 at *
 have t0 := y0.toNat_lt
 by_cases ht : y0.toNat < 3
 ·have htd : decide (0 ≤ (y0.toNat : Int) ∧ (y0.toNat : Int) < 3) = true := decide_eq_true (by omega)
  by_cases h12 : n < 12
  ·have hno : ¬ Wh l := fun e => by have := e.1; omega
   repeat' (first | (refine Zc (.func 243) ?_; refine qC rfl rfl (YN _ _) ?_; rintro v ρ' L' hle ⟨rfl, rfl, rfl⟩ <;> (try simp only [kM, kN, kO, htd])) | (refine ZG ?_; refine Zn (Ze rfl) rfl rfl ?_) | (refine Zj ?_; first | (refine Zg ?_; refine qQ ?_) | refine Zl ?_) | refine Za ?_ | (refine Zi ?_; refine Zq ?_) | (refine Zh ?_; refine Zp ?_) | intro _)
   exact qE (L' := []) ⟨⟨⟨0, 0, 0, []⟩, 0, 7, rfl, ⟨fun e => absurd e (by decide), fun e => absurd e hno⟩, fun e => absurd e hno⟩, rfl, rfl⟩
  obtain ⟨b', off', C', T', fr', e', hb', hc11⟩ := h.get (show 11 < l.length by omega)
  cases e'
  cases hbb.symm.trans hb'
  have g11 := bAt_get l 11 (by omega)
  generalize l[11]'(by omega) = y11 at *
  have t11 := y11.toNat_lt
  by_cases hn : y11.toNat ≤ 8
  ·by_cases hln : 12 + y11.toNat ≤ n
   ·have hok : Wh l := ⟨by omega, by omega, by omega, by omega⟩
    have hT := takenD_spec ρ (some ⟨b, off, none⟩) n c l h (by omega)
    repeat' (first | (refine Zc (.func 243) ?_; refine qC rfl rfl (YN _ _) ?_; rintro v ρ' L' hle ⟨rfl, rfl, rfl⟩ <;> (try simp only [kM, kN, kO, htd])) | (refine Zc (.func 244) ?_; refine qC rfl rfl (hT) ?_; rintro v ρ' L' hle ⟨rfl, rfl, rfl⟩ <;> (try simp only [kM, kN, kO])) | (refine ZG ?_; refine Zn (Ze rfl) rfl rfl ?_) | (refine Zj ?_; first | (refine Zg ?_; refine qQ ?_) | refine Zl ?_) | refine Za ?_ | (refine Zi ?_; refine Zq ?_) | (refine Zh ?_; refine Zp ?_) | intro _)
    rename_i b2 _ b5
    have hsub := h.sub (lo' := 3) (hi' := 11) (by omega) (by omega) (cap := c) hc
    have hsub2 := h.sub (lo' := 12) (hi' := 12 + y11.toNat) (by omega) hln (cap := c) hc
    simp only [show Int.toNat 3 = 3 from rfl, show Int.toNat 11 = 11 from rfl] at hsub ⊢
    generalize (if c = 3 then some (⟨b, off, none⟩ : Addr) else Option.map (fun x : Addr => x.add (3 * 1)) (some ⟨b, off, none⟩)) = pp at *
    obtain ⟨D, hD⟩ : ∃ D, (l.drop 3).take 8 = D := ⟨_, rfl⟩
    have hDl : D.length = 8 := by rw [← hD]; simp; omega
    have hsub : SIn ρ' ZM pp 8 D := hD ▸ hsub
    refine Zy [(0, _), (2, _), (3, _), (4, _), (5, _), (47, _), (48, _)] (fun (ζ : (Nat)) => [(49, .int .i64 ζ)]) (fun (ζ : (Nat)) => ρ') (fun (ζ : (Nat)) => [[(b5, .cells ⟨[.int .i64 (bAt l 0 : Nat), .int .u16 (bAt l 1 * 256 + bAt l 2 : Nat), .int .i64 (i64N (Xc (D.take ζ))), strV []]⟩ 101 (0, 0))], [(b2, .cells ⟨[.int .i64 0, .int .u16 0, .int .i64 0, strV []]⟩ 101 (0, 0))]]) (fun (ζ : (Nat)) => ζ ≤ 8) (fun (ζ : (Nat)) => 8 - ζ) (0) (Nat.zero_le _) Zk Zk rfl tk ?_
    rintro k hI
    try simp only [List.cons_append, List.nil_append, List.append_assoc, List.append_eq] at hI ⊢
    try dsimp only at hI ⊢
    by_cases hlt : k < 8
    ·obtain ⟨bd, od, Cd, Td, fd, ed, hbd, hcd⟩ := hsub.get (show k < D.length by omega)
     have ht := List.take_succ_eq_append_getElem (show k < D.length by omega)
     have hst := i64_step (Xc (D.take k)) (D[k]'(by omega)).toNat
     rw [← unbe_snoc, ← ht] at hst
     generalize D[k]'(by omega) = z at *
     have hzt := z.toNat_lt
     rw [ed]
     repeat' (first | (refine ZG ?_; refine Zn (Ze rfl) rfl rfl ?_) | (refine Zj ?_; first | (refine Zg ?_; refine qQ ?_) | refine Zl ?_) | refine Za ?_ | (refine Zi ?_; refine Zq ?_) | (refine Zh ?_; refine Zp ?_) | intro _)
     rw [hst, ← ed]
     refine Zo (k + 1) (hlt) Zk Zk rfl tk inferInstance (by first | omega | (dsimp only; omega))
    ·have hk8 : D.take k = D := List.take_of_length_le (by omega)
     rw [hk8]
     repeat' (first | (refine ZG ?_; refine Zn (Ze rfl) rfl rfl ?_) | (refine Zj ?_; first | (refine Zg ?_; refine qQ ?_) | refine Zl ?_) | refine Za ?_ | (refine Zi ?_; refine Zq ?_) | (refine Zh ?_; refine Zp ?_) | intro _)
     exact qE (L' := []) ⟨⟨⟨(bAt l 0 : Nat), bAt l 1 * 256 + bAt l 2, i64N (Xc D), (l.drop 12).take (12 + y11.toNat - 12)⟩, _, 0, rfl, ⟨fun _ => hok, fun _ => rfl⟩, fun _ => ⟨by unfold rowW; rw [hD, ← g11, show 12 + y11.toNat - 12 = y11.toNat by omega], by rw [← g11]⟩⟩, rfl, rfl⟩
   ·have hno : ¬ Wh l := fun e => by have := e.2.2.2; omega
    repeat' (first | (refine Zc (.func 243) ?_; refine qC rfl rfl (YN _ _) ?_; rintro v ρ' L' hle ⟨rfl, rfl, rfl⟩ <;> (try simp only [kM, kN, kO, htd])) | (refine ZG ?_; refine Zn (Ze rfl) rfl rfl ?_) | (refine Zj ?_; first | (refine Zg ?_; refine qQ ?_) | refine Zl ?_) | refine Za ?_ | (refine Zi ?_; refine Zq ?_) | (refine Zh ?_; refine Zp ?_) | intro _)
    exact qE (L' := []) ⟨⟨⟨0, 0, 0, []⟩, 0, 7, rfl, ⟨fun e => absurd e (by decide), fun e => absurd e hno⟩, fun e => absurd e hno⟩, rfl, rfl⟩
  ·have hno : ¬ Wh l := fun e => by have := e.2.2.1; omega
   repeat' (first | (refine Zc (.func 243) ?_; refine qC rfl rfl (YN _ _) ?_; rintro v ρ' L' hle ⟨rfl, rfl, rfl⟩ <;> (try simp only [kM, kN, kO, htd])) | (refine ZG ?_; refine Zn (Ze rfl) rfl rfl ?_) | (refine Zj ?_; first | (refine Zg ?_; refine qQ ?_) | refine Zl ?_) | refine Za ?_ | (refine Zi ?_; refine Zq ?_) | (refine Zh ?_; refine Zp ?_) | intro _)
   exact qE (L' := []) ⟨⟨⟨0, 0, 0, []⟩, 0, 161, rfl, ⟨fun e => absurd e (by decide), fun e => absurd e hno⟩, fun e => absurd e hno⟩, rfl, rfl⟩
 ·have hno : ¬ Wh l := fun e => by have := e.2.1; omega
  have htd : decide (0 ≤ (y0.toNat : Int) ∧ (y0.toNat : Int) < 3) = false := decide_eq_false (by omega)
  repeat' (first | (refine Zc (.func 243) ?_; refine qC rfl rfl (YN _ _) ?_; rintro v ρ' L' hle ⟨rfl, rfl, rfl⟩ <;> (try simp only [kM, kN, kO, htd])) | (refine ZG ?_; refine Zn (Ze rfl) rfl rfl ?_) | (refine Zj ?_; first | (refine Zg ?_; refine qQ ?_) | refine Zl ?_) | refine Za ?_ | (refine Zi ?_; refine Zq ?_) | (refine Zh ?_; refine Zp ?_) | intro _)
  exact qE (L' := []) ⟨⟨⟨0, 0, 0, []⟩, 0, 161, rfl, ⟨fun e => absurd e (by decide), fun e => absurd e hno⟩, fun e => absurd e hno⟩, rfl, rfl⟩
theorem preB_of {α : Type} (f : α → List UInt8) (P : α → Prop) (hu : ∀ a b x y, P a → P b → f a ++ x = f b ++ y → a = b) : ∀ (RS cs : List α) (x y : List UInt8), (∀ r ∈ RS, P r) → (∀ r ∈ cs, P r) → RS.length ≤ cs.length → RS.flatMap f ++ x = cs.flatMap f ++ y → RS = cs.take RS.length ∧ x = (cs.drop RS.length).flatMap f ++ y
 | [], cs, x, y, _, _, _, e => ⟨rfl, by simpa using e⟩
 | r :: RS, [], _, _, _, _, hl, _ => absurd hl (by simp)
 | r :: RS, c :: cs, x, y, h1, h2, hl, e => by
  rw [List.flatMap_cons, List.flatMap_cons, List.append_assoc, List.append_assoc] at e
  have hrc := hu r c _ _ (h1 r (by simp)) (h2 c (by simp)) e
  subst hrc
  obtain ⟨g1, g2⟩ := preB_of f P hu RS cs x y (fun z hz => h1 z (by simp [hz])) (fun z hz => h2 z (by simp [hz])) (by simpa using hl) (List.append_cancel_left e)
  refine ⟨?_, by simpa using g2⟩
  rw [List.length_cons, List.take_succ_cons, ← g1]
theorem row_one (a b : Row) (x y : List UInt8) (ha : Yy a = true ∧ YC a) (hb : Yy b = true ∧ YC b) (e : ZY a ++ x = ZY b ++ y) : a = b := by
 have h1 := takeRow_back ha.1 ha.2 x
 rw [e, takeRow_back hb.1 hb.2 y] at h1
 exact (congrArg Prod.fst h1).symm
theorem rowW_ok {l : List UInt8} (h : Wh l) : Yy (rowW l) = true ∧ YC (rowW l) ∧ l = ZY (rowW l) ++ l.drop (12 + bAt l 11) ∧ (ZY (rowW l)).length = 12 + bAt l 11 := by
 obtain ⟨h1, h2⟩ := takeRow_W l
 obtain ⟨n, e1, e2, e3, e4, e5⟩ := takeRow_ok (h1.2 h)
 rw [h2 h] at e1 e3 e4 e5
 dsimp only at e1 e3 e4 e5
 have hn : n = 12 + bAt l 11 := by omega
 subst hn
 refine ⟨e3, e5, ?_, ?_⟩
 ·rw [e4, List.take_append_drop]
 ·rw [e4, List.length_take]; omega
theorem rowB_W {r : Row} (h : Yy r = true) (hf : YC r) (rest : List UInt8) : Wh (ZY r ++ rest) := (takeRow_W _).1.1 (by rw [takeRow_back h hf rest])
end Go.Proofs.E
