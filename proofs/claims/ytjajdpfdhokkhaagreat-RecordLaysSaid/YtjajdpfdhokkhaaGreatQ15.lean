/- The law RecordLays. Part 15 of 21. -/
import Derived.Test.YtjajdpfdhokkhaaGreatQ14
namespace Go.Proofs.E
open Go
set_option linter.unusedVariables false
set_option linter.unusedSimpArgs false
set_option linter.unusedSectionVars false
set_option maxRecDepth 4000
set_option maxHeartbeats 1000000
attribute [local irreducible] Yl TL TC TE Spec YSpec R1 Hp.le EnvLe TS TR YS Stays
-- BN
abbrev RdP (ρ : Hp) (tb br : Nat) (ra : Option Addr) (rn rc : Nat) (Rs : List UInt8) (y : Rc × RS3) (z : Value) (ρ' : Hp) (L' : SH) : Prop :=
  z = .tuple ⟨[]⟩ ∧ ρ.le ρ' ∧ ∃ v' r' a' n' c', RcIn ρ' v' r' ∧ r'.plain = y.1 ∧ RdAt ρ' a' n' c' ra rn rc Rs y.2 ∧ L' = rdL tb br a' n' c' ra rn rc v' r' y.2
theorem rchange_spec (ρ : Hp) (tb br : Nat) (v : RV) (r : Rc) (hr : RcIn ρ v r) (s : RS3) {a n c ra rn rc Rs} (h : RdAt ρ a n c ra rn rc Rs s) :
    Spec Tryz.prog 83 [.pointer (some ⟨tb, 0, none⟩)] ρ (rdL tb br a n c ra rn rc v r s) (RdP ρ tb br ra rn rc Rs (chD r.plain s)) := by
  unfold chD
  have hm := fun ρ cb (h : RdAt ρ a n c ra rn rc Rs s) => rmanyIm_spec ρ tb br cb v r s h
  dsimp only [Rc.plain]
  generalize manyD (imD (decide (r.kind = 2))) s = q at *
  obtain ⟨xs, s2⟩ := q
  dsimp only at hm ⊢
  refine spec_enter Tryz.func83 rfl rfl rfl fun u R => ?_
  simp only [argsE, List.cons_append, List.nil_append]
  repeat' (first | (refine iBu ?_; refine tl_y (y_buildN rfl) rfl rfl ?_) | (refine i_op ?_; first | (refine i_qq ?_; refine qQ ?_) | refine qEf ?_) | refine tl_nil ?_ | (refine i_tc ?_; refine qTc ?_) | (refine i_te ?_; refine qTe ?_) | intro _)
  refine tc_any (Stays _ _ ([[(_, .cells ⟨[.pointer (some ⟨tb, 0, none⟩)]⟩ 134 (0, 0))]])) (stays_of (hT := tk) (Hp.le_refl _)) ?_
  all_goals refine rLd 0 ?_
  all_goals refine rLd 1 ?_
  all_goals refine rMf 2 ?_
  all_goals (refine rStep (i := 3) ?_; ((try refine qWant ?_); (first | (refine tl_is (.func 161) ?_; refine qC rfl rfl (hm _ _ h) ?_; rintro v ρ' L' hle ⟨hl1, sa, sn, sc, acc, a1, n1, c1, rfl, hsc, hs255, hA, hP, hM, h1, rfl⟩ <;> (try simp only [kM, kN, kO])) | (refine qEf ?_; try intro _)) <;> ((try simp only [kM, kN, kO]); refine tl_nil ?_; refine rNext ?_)))
  all_goals refine rNc 4 ?_
  all_goals refine rFa 5 ?_
  all_goals refine rFa 6 ?_
  all_goals (refine rStep (i := 7) ?_; ((try refine qWant ?_); (first | (refine qEf ?_; try intro _)) <;> ((try simp only [kM, kN, kO]); refine tl_nil ?_; refine rNext ?_)))
  all_goals refine rDone ?_
  all_goals (repeat' (first | (refine iBu ?_; refine tl_y (y_buildN rfl) rfl rfl ?_) | (refine i_op ?_; first | (refine i_qq ?_; refine qQ ?_) | refine qEf ?_) | refine tl_nil ?_ | (refine i_tc ?_; refine qTc ?_) | (refine i_te ?_; refine qTe ?_) | intro _))
  all_goals exact qE ⟨rfl, hl1, { v with i := ⟨sa, sn, sc⟩ }, { r with ims := acc }, a1, n1, c1, ⟨⟨hA, by dsimp only; omega, hsc⟩, hP, hr.s.mono hl1, hr.t.mono hl1, hr.d.mono hl1, hr.sf⟩, by rw [← hM], h1, rfl⟩
theorem rnested_spec (ρ : Hp) (tb br : Nat) (v : RV) (r : Rc) (hr : RcIn ρ v r) (s : RS3) {a n c ra rn rc Rs} (h : RdAt ρ a n c ra rn rc Rs s) :
    Spec Tryz.prog 84 [.pointer (some ⟨tb, 0, none⟩)] ρ (rdL tb br a n c ra rn rc v r s) (RdP ρ tb br ra rn rc Rs (neD r.plain s)) := by
  unfold neD
  have h8 := n64_spec ρ br h
  dsimp only [Rc.plain]
  rw [show rdL tb br a n c ra rn rc v r s = [reC tb br ra rn rc v r (rdN 8 s).2.2.2, rdC br a n c s.2.1] from rfl]
  generalize rdN 8 s = p at *
  obtain ⟨x1, s1⟩ := p
  dsimp only at h8 ⊢
  refine spec_enter Tryz.func84 rfl rfl rfl fun u R => ?_
  simp only [argsE, List.cons_append, List.nil_append]
  repeat' (first | (refine tl_is (.func 81) ?_; refine qC rfl rfl (h8) ?_; rintro v ρ' L' hle ⟨rfl, rfl, a1, n1, c1, h1, rfl⟩ <;> (try simp only [kM, kN, kO])) | (refine iBu ?_; refine tl_y (y_buildN rfl) rfl rfl ?_) | (refine i_op ?_; first | (refine i_qq ?_; refine qQ ?_) | refine qEf ?_) | refine tl_nil ?_ | (refine i_tc ?_; refine qTc ?_) | (refine i_te ?_; refine qTe ?_) | intro _)
  exact qE ⟨rfl, Hp.le_refl _, v, { r with next := x1 }, a1, n1, c1, ⟨hr.i, hr.im, hr.s, hr.t, hr.d, hr.sf⟩, rfl, h1, rfl⟩
theorem rundone_spec (ρ : Hp) (tb br : Nat) (v : RV) (r : Rc) (hr : RcIn ρ v r) (s : RS3) {a n c ra rn rc Rs} (h : RdAt ρ a n c ra rn rc Rs s) :
    Spec Tryz.prog 86 [.pointer (some ⟨tb, 0, none⟩)] ρ (rdL tb br a n c ra rn rc v r s) (RdP ρ tb br ra rn rc Rs (thenD neD chD r.plain s)) := by
  have h1 := rnested_spec ρ tb br v r hr s h
  unfold thenD
  generalize neD r.plain s = p at *
  obtain ⟨r1, s1⟩ := p
  dsimp only at h1 ⊢
  refine spec_enter Tryz.func86 rfl rfl rfl fun u R => ?_
  simp only [argsE, List.cons_append, List.nil_append]
  repeat' (first | (refine tl_is (.func 84) ?_; refine qC rfl rfl (h1) ?_; rintro v ρ' L' hle ⟨rfl, hl1, v1, q1, a1, n1, c1, hr1, hq1, g1, rfl⟩ <;> (try simp only [kM, kN, kO])) | (refine iBu ?_; refine tl_y (y_buildN rfl) rfl rfl ?_) | (refine i_op ?_; first | (refine i_qq ?_; refine qQ ?_) | refine qEf ?_) | refine tl_nil ?_ | (refine i_tc ?_; refine qTc ?_) | (refine i_te ?_; refine qTe ?_) | intro _)
  have h2 := rchange_spec _ tb br v1 q1 hr1 s1 g1
  rw [hq1] at h2
  repeat' (first | (refine tl_is (.func 83) ?_; refine qC rfl rfl (h2) ?_; rintro v ρ' L' hle ⟨rfl, hl2, v2, q2, a2, n2, c2, hr2, hq2, g2, rfl⟩ <;> (try simp only [kM, kN, kO])) | (refine iBu ?_; refine tl_y (y_buildN rfl) rfl rfl ?_) | (refine i_op ?_; first | (refine i_qq ?_; refine qQ ?_) | refine qEf ?_) | refine tl_nil ?_ | (refine i_tc ?_; refine qTc ?_) | (refine i_te ?_; refine qTe ?_) | intro _)
  exact qE ⟨rfl, Hp.le_trans hl1 hl2, v2, q2, a2, n2, c2, hr2, hq2, g2, rfl⟩
theorem rdone_spec (ρ : Hp) (tb br : Nat) (v : RV) (r : Rc) (hr : RcIn ρ v r) (s : RS3) {a n c ra rn rc Rs} (h : RdAt ρ a n c ra rn rc Rs s) :
    Spec Tryz.prog 85 [.pointer (some ⟨tb, 0, none⟩)] ρ (rdL tb br a n c ra rn rc v r s) (RdP ρ tb br ra rn rc Rs (thenD neD doD r.plain s)) := by
  have h1 := rnested_spec ρ tb br v r hr s h
  unfold thenD
  generalize neD r.plain s = p at *
  obtain ⟨r1, s1⟩ := p
  dsimp only at h1 ⊢
  refine spec_enter Tryz.func85 rfl rfl rfl fun u R => ?_
  simp only [argsE, List.cons_append, List.nil_append]
  repeat' (first | (refine tl_is (.func 84) ?_; refine qC rfl rfl (h1) ?_; rintro v ρ' L' hle ⟨rfl, hl1, v1, q1, a1, n1, c1, hr1, hq1, g1, rfl⟩ <;> (try simp only [kM, kN, kO])) | (refine iBu ?_; refine tl_y (y_buildN rfl) rfl rfl ?_) | (refine i_op ?_; first | (refine i_qq ?_; refine qQ ?_) | refine qEf ?_) | refine tl_nil ?_ | (refine i_tc ?_; refine qTc ?_) | (refine i_te ?_; refine qTe ?_) | intro _)
  have hm := fun ρ cb (h : RdAt ρ a1 n1 c1 ra rn rc Rs s1) => rmanyStp_spec ρ tb br cb v1 q1 s1 h
  unfold doD
  dsimp only at hq1
  rw [← hq1]
  generalize manyD stpD s1 = q at *
  obtain ⟨xs, s2⟩ := q
  dsimp only at hm ⊢
  refine tc_any (Stays _ _ ([[(_, .cells ⟨[.pointer (some ⟨tb, 0, none⟩)]⟩ 134 (0, 0))]])) (stays_of (hT := tk) (Hp.le_refl _)) ?_
  all_goals refine rLd 0 ?_
  all_goals refine rLd 1 ?_
  all_goals refine rMf 2 ?_
  all_goals (refine rStep (i := 3) ?_; ((try refine qWant ?_); (first | (refine tl_is (.func 165) ?_; refine qC rfl rfl (hm _ _ g1) ?_; rintro v ρ' L' hle ⟨hl2, sa, sn, sc, acc, a2, n2, c2, rfl, hsc, hs255, hA, hP, hM, g2, rfl⟩ <;> (try simp only [kM, kN, kO])) | (refine qEf ?_; try intro _)) <;> ((try simp only [kM, kN, kO]); refine tl_nil ?_; refine rNext ?_)))
  all_goals refine rNc 4 ?_
  all_goals refine rFa 5 ?_
  all_goals refine rFa 6 ?_
  all_goals (refine rStep (i := 7) ?_; ((try refine qWant ?_); (first | (refine qEf ?_; try intro _)) <;> ((try simp only [kM, kN, kO]); refine tl_nil ?_; refine rNext ?_)))
  all_goals refine rDone ?_
  all_goals (repeat' (first | (refine iBu ?_; refine tl_y (y_buildN rfl) rfl rfl ?_) | (refine i_op ?_; first | (refine i_qq ?_; refine qQ ?_) | refine qEf ?_) | refine tl_nil ?_ | (refine i_tc ?_; refine qTc ?_) | (refine i_te ?_; refine qTe ?_) | intro _))
  all_goals exact qE ⟨rfl, Hp.le_trans hl1 hl2, { v1 with s := ⟨sa, sn, sc⟩ }, { q1 with steps := acc }, a2, n2, c2, ⟨hr1.i.mono hl2, fun x hx => (hr1.im x hx).mono hl2, ⟨hA, by dsimp only; omega, hsc⟩, hr1.t.mono hl2, hr1.d.mono hl2, hP⟩, by rw [← hM], g2, rfl⟩
theorem rckpt_spec (ρ : Hp) (tb br : Nat) (v : RV) (r : Rc) (hr : RcIn ρ v r) (s : RS3) {a n c ra rn rc Rs} (h : RdAt ρ a n c ra rn rc Rs s) :
    Spec Tryz.prog 87 [.pointer (some ⟨tb, 0, none⟩)] ρ (rdL tb br a n c ra rn rc v r s) (RdP ρ tb br ra rn rc Rs (thenD (thenD cxD ctD) cdD r.plain s)) := by
  unfold thenD cxD ctD cdD
  have h8 := fun ρ (h : RdAt ρ a n c ra rn rc Rs s) => n32_spec ρ br h
  have hlt := rdN_lt 4 s
  dsimp only [Rc.plain]
  rw [show rdL tb br a n c ra rn rc v r s = [reC tb br ra rn rc v r (rdN 4 s).2.2.2, rdC br a n c s.2.1] from rfl]
  generalize rdN 4 s = p at *
  obtain ⟨x1, s1⟩ := p
  dsimp only at h8 hlt ⊢
  have hm := fun ρ a n c cb v q (h : RdAt ρ a n c ra rn rc Rs s1) => rmanyCkT_spec ρ tb br cb v q s1 h
  generalize manyD ckTD s1 = p2 at *
  obtain ⟨xs, s2⟩ := p2
  dsimp only at hm ⊢
  have hm2 := fun ρ a n c cb v q (h : RdAt ρ a n c ra rn rc Rs s2) => rmanyCkP_spec ρ tb br cb v q s2 h
  generalize manyD ckPD s2 = p3 at *
  obtain ⟨ys, s3⟩ := p3
  dsimp only at hm2 ⊢
  refine spec_enter Tryz.func87 rfl rfl rfl fun u R => ?_
  simp only [argsE, List.cons_append, List.nil_append]
  repeat' (first | (refine iBu ?_; refine tl_y (y_buildN rfl) rfl rfl ?_) | (refine i_op ?_; first | (refine i_qq ?_; refine qQ ?_) | refine qEf ?_) | refine tl_nil ?_ | (refine i_tc ?_; refine qTc ?_) | (refine i_te ?_; refine qTe ?_) | intro _)
  refine tc_any (Stays _ _ ([[(_, .cells ⟨[.pointer (some ⟨tb, 0, none⟩)]⟩ 134 (0, 0))]])) (stays_of (hT := tk) (Hp.le_refl _)) ?_
  all_goals refine rLd 0 ?_
  all_goals refine rLd 1 ?_
  all_goals refine rNc 2 ?_
  all_goals refine rFa 3 ?_
  all_goals (refine rStep (i := 4) ?_; ((try refine qWant ?_); (first | (refine tl_is (.func 82) ?_; refine qC rfl rfl (h8 _ h) ?_; rintro v ρ' L' hle ⟨rfl, rfl, a1, n1, c1, h1, rfl⟩ <;> (try simp only [kM, kN, kO])) | (refine i_qq ?_; refine qQ ?_) | (refine qEf ?_; try intro _)) <;> ((try simp only [kM, kN, kO]); refine tl_nil ?_; refine rNext ?_)))
  all_goals (refine rStep (i := 5) ?_; ((try refine qWant ?_); (first | (refine tl_is (.func 82) ?_; refine qC rfl rfl (h8 _ h) ?_; rintro v ρ' L' hle ⟨rfl, rfl, a1, n1, c1, h1, rfl⟩ <;> (try simp only [kM, kN, kO])) | (refine i_qq ?_; refine qQ ?_) | (refine qEf ?_; try intro _)) <;> ((try simp only [kM, kN, kO]); refine tl_nil ?_; refine rNext ?_)))
  all_goals refine rCv 6 ?_
  all_goals refine rNc 7 ?_
  all_goals refine rFa 8 ?_
  all_goals refine rFa 9 ?_
  all_goals (refine rStep (i := 10) ?_; ((try refine qWant ?_); (first | (refine i_qq ?_; refine qQ ?_) | (refine qEf ?_; try intro _)) <;> ((try simp only [kM, kN, kO]); refine tl_nil ?_; refine rNext ?_)))
  all_goals refine rDone ?_
  all_goals (repeat' (first | (refine iBu ?_; refine tl_y (y_buildN rfl) rfl rfl ?_) | (refine i_op ?_; first | (refine i_qq ?_; refine qQ ?_) | refine qEf ?_) | refine tl_nil ?_ | (refine i_tc ?_; refine qTc ?_) | (refine i_te ?_; refine qTe ?_) | intro _))
  all_goals refine tc_any (Stays _ _ ([[(_, .cells ⟨[.pointer (some ⟨tb, 0, none⟩)]⟩ 134 (0, 0))]])) (stays_of (hT := tk) (Hp.le_refl _)) ?_
  all_goals refine rLd 0 ?_
  all_goals refine rLd 1 ?_
  all_goals refine rMf 2 ?_
  all_goals (refine rStep (i := 3) ?_; ((try refine qWant ?_); (first | (refine tl_is (.func 170) ?_; refine qC rfl rfl (hm _ _ _ _ _ v { r with nextTxn := x1 } h1) ?_; rintro v ρ' L' hle ⟨hl1, sa, sn, sc, acc, a2, n2, c2, rfl, hsc, hs255, hA, hP, hM, h2, rfl⟩ <;> (try simp only [kM, kN, kO])) | (refine qEf ?_; try intro _)) <;> ((try simp only [kM, kN, kO]); refine tl_nil ?_; refine rNext ?_)))
  all_goals refine rNc 4 ?_
  all_goals refine rFa 5 ?_
  all_goals refine rFa 6 ?_
  all_goals (refine rStep (i := 7) ?_; ((try refine qWant ?_); (first | (refine qEf ?_; try intro _)) <;> ((try simp only [kM, kN, kO]); refine tl_nil ?_; refine rNext ?_)))
  all_goals refine rDone ?_
  all_goals (repeat' (first | (refine iBu ?_; refine tl_y (y_buildN rfl) rfl rfl ?_) | (refine i_op ?_; first | (refine i_qq ?_; refine qQ ?_) | refine qEf ?_) | refine tl_nil ?_ | (refine i_tc ?_; refine qTc ?_) | (refine i_te ?_; refine qTe ?_) | intro _))
  all_goals refine tc_any (Stays _ _ ([[(_, .cells ⟨[.pointer (some ⟨tb, 0, none⟩)]⟩ 134 (0, 0))]])) (stays_of (hT := tk) (Hp.le_refl _)) ?_
  all_goals refine rLd 0 ?_
  all_goals refine rLd 1 ?_
  all_goals refine rMf 2 ?_
  all_goals (refine rStep (i := 3) ?_; ((try refine qWant ?_); (first | (refine tl_is (.func 172) ?_; refine qC rfl rfl (hm2 _ _ _ _ _ { v with t := ⟨sa, sn, sc⟩ } { r with nextTxn := x1, txns := acc } h2) ?_; rintro v ρ' L' hle ⟨hl3, sa3, sn3, sc3, acc3, a3, n3, c3, rfl, hsc3, hs3255, hA3, hP3, hM3, h3, rfl⟩ <;> (try simp only [kM, kN, kO])) | (refine qEf ?_; try intro _)) <;> ((try simp only [kM, kN, kO]); refine tl_nil ?_; refine rNext ?_)))
  all_goals refine rNc 4 ?_
  all_goals refine rFa 5 ?_
  all_goals refine rFa 6 ?_
  all_goals (refine rStep (i := 7) ?_; ((try refine qWant ?_); (first | (refine qEf ?_; try intro _)) <;> ((try simp only [kM, kN, kO]); refine tl_nil ?_; refine rNext ?_)))
  all_goals refine rDone ?_
  all_goals (repeat' (first | (refine iBu ?_; refine tl_y (y_buildN rfl) rfl rfl ?_) | (refine i_op ?_; first | (refine i_qq ?_; refine qQ ?_) | refine qEf ?_) | refine tl_nil ?_ | (refine i_tc ?_; refine qTc ?_) | (refine i_te ?_; refine qTe ?_) | intro _))
  all_goals exact qE ⟨rfl, Hp.le_trans hl1 hl3, { v with t := ⟨sa, sn, sc⟩, d := ⟨sa3, sn3, sc3⟩ }, { r with nextTxn := x1, txns := acc, dirty := acc3 }, a3, n3, c3, ⟨hr.i.mono (Hp.le_trans hl1 hl3), fun x hx => (hr.im x hx).mono (Hp.le_trans hl1 hl3), hr.s.mono (Hp.le_trans hl1 hl3), ⟨hA.mono hl3, by dsimp only; omega, hsc⟩, ⟨hA3, by dsimp only; omega, hsc3⟩, hr.sf⟩, by rw [← hM, ← hM3], h3, rfl⟩
end Go.Proofs.E

namespace Go.Proofs.E
open Go
set_option linter.unusedVariables false
set_option linter.unusedSimpArgs false
set_option linter.unusedSectionVars false
set_option maxRecDepth 4000
set_option maxHeartbeats 1000000
attribute [local irreducible] Yl TL TC TE Spec YSpec R1 Hp.le EnvLe TS TR YS Stays
-- BN
def takF (k : Int) : Nat := if k = 2 then 83 else if k = 3 then 84 else if k = 4 then 85 else if k = 5 then 86 else 87
theorem tak_spec (tb br : Nat) (v : RV) (r : Rc) (hk : r.kind = 2 ∨ r.kind = 3 ∨ r.kind = 4 ∨ r.kind = 5 ∨ r.kind = 9) (s : RS3) (ra : Option Addr) (rn rc : Nat) (Rs : List UInt8) : Fun Tryz.prog (takF r.kind) ∧ ∀ (ρ : Hp) a n c, RdAt ρ a n c ra rn rc Rs s → RcIn ρ v r →
    Spec Tryz.prog (takF r.kind) [.pointer (some ⟨tb, 0, none⟩)] ρ (rdL tb br a n c ra rn rc v r s) (RdP ρ tb br ra rn rc Rs (tailD r.plain s)) := by
  unfold takF tailD
  dsimp only [Rc.plain]
  rcases hk with e | e | e | e | e
  · rw [if_pos e, if_pos e]
    exact ⟨inferInstance, fun ρ a n c h hr => rchange_spec ρ tb br v r hr s h⟩
  · rw [if_neg (by omega), if_pos e, if_neg (by omega), if_pos e]
    exact ⟨inferInstance, fun ρ a n c h hr => rnested_spec ρ tb br v r hr s h⟩
  · rw [if_neg (by omega), if_neg (by omega), if_pos e, if_neg (by omega), if_neg (by omega), if_pos e]
    exact ⟨inferInstance, fun ρ a n c h hr => rdone_spec ρ tb br v r hr s h⟩
  · rw [if_neg (by omega), if_neg (by omega), if_neg (by omega), if_pos e, if_neg (by omega), if_neg (by omega), if_neg (by omega), if_pos e]
    exact ⟨inferInstance, fun ρ a n c h hr => rundone_spec ρ tb br v r hr s h⟩
  · rw [if_neg (by omega), if_neg (by omega), if_neg (by omega), if_neg (by omega), if_neg (by omega), if_neg (by omega), if_neg (by omega), if_neg (by omega), if_pos e]
    exact ⟨inferInstance, fun ρ a n c h hr => rckpt_spec ρ tb br v r hr s h⟩
theorem takF_chain {f : Nat → Option Value} {k : Int} (hk : k = 2 ∨ k = 3 ∨ k = 4 ∨ k = 5 ∨ k = 9) : (if k = 9 then f 87 else if k = 5 then f 86 else if k = 4 then f 85 else if k = 3 then f 84 else if k = 2 then f 83 else none) = f (takF k) := by
  unfold takF
  rcases hk with e | e | e | e | e <;> subst e <;> rfl
theorem tailD_none {r : Rc} {s : RS3} (hk : ¬ (r.kind = 2 ∨ r.kind = 3 ∨ r.kind = 4 ∨ r.kind = 5 ∨ r.kind = 9)) : tailD r s = (r, s) := by
  unfold tailD
  rw [if_neg (by omega), if_neg (by omega), if_neg (by omega), if_neg (by omega), if_neg (by omega)]
def nilRV : RV := ⟨⟨none, 0, 0⟩, ⟨none, 0, 0⟩, ⟨none, 0, 0⟩, ⟨none, 0, 0⟩⟩
theorem nilRV_in {ρ : Hp} (k : Int) (l : Nat) (t : Int) (p : Nat) : RcIn ρ nilRV ⟨k, l, t, p, 0, [], [], 0, [], []⟩ := ⟨AS.nil, by simp, AS.nil, AS.nil, AS.nil, by simp⟩
theorem rdecode_spec (ρ : Hp) (a : Option Addr) (n c : Nat) (l : List UInt8) (h : SIn ρ u8c a n l) (hc : n ≤ c) (hn : n ≤ 1000000) : Spec Tryz.prog 22 [.slice a n c] ρ []
    (fun z ρ' L' => ρ.le ρ' ∧ ∃ v r, z = .tuple ⟨[.agg ⟨recV v r⟩, .int .i64 (if decOk l then 0 else 161)]⟩ ∧ RcIn ρ' v r ∧ r.plain = decR l ∧ L' = []) := by
  have hnil : IntKeys .i64 [] := by intro e he; simp at he
  have hg0 : ∀ k : Int, mget [] k = none := fun _ => rfl
  have hrd := read_spec ρ a n c l h hn
  have hDR : decR l = if decOk l then (decD l).1 else zeroRc := rfl
  have hDO : decOk l = (okS (decD l).2 && (decide ((decD l).2.1.length = 0) && recOk (decD l).1)) := rfl
  generalize decR l = dr at *
  generalize decOk l = dk at *
  obtain ⟨s0, hs0⟩ : ∃ s0 : RS3, (l, 0, false) = s0 := ⟨_, rfl⟩
  have h00 : (0 : Int) = s0.2.1 := by rw [← hs0]
  have hf0 : false = s0.2.2 := by rw [← hs0]
  have hl0 : l = s0.1 := by rw [← hs0]
  unfold decD at hDR hDO
  rw [hs0] at hDR hDO
  unfold headD hdL hdT hdP at hDR hDO
  have k1 := fun ρ br {a n c ra rn rc Rs} (h : RdAt ρ a n c ra rn rc Rs s0) => n8_spec ρ br h
  have b1 := rdN_lt 1 s0
  have f1 := rdN_bad 1 s0
  generalize rdN 1 s0 = p1 at *
  obtain ⟨x1, s1⟩ := p1
  have k2 := fun ρ br {a n c ra rn rc Rs} (h : RdAt ρ a n c ra rn rc Rs s1) => n64_spec ρ br h
  have f2 := rdN_bad 8 s1
  dsimp only at k1 b1 f1 hDR hDO
  generalize rdN 8 s1 = p2 at *
  obtain ⟨x2, s2⟩ := p2
  have k3 := fun ρ br {a n c ra rn rc Rs} (h : RdAt ρ a n c ra rn rc Rs s2) => n32_spec ρ br h
  have b3 := rdN_lt 4 s2
  have f3 := rdN_bad 4 s2
  dsimp only at k2 f2 hDR hDO
  generalize rdN 4 s2 = p3 at *
  obtain ⟨x3, s3⟩ := p3
  have k4 := fun ρ br {a n c ra rn rc Rs} (h : RdAt ρ a n c ra rn rc Rs s3) => n64_spec ρ br h
  have f4 := rdN_bad 8 s3
  dsimp only at k3 b3 f3 hDR hDO
  generalize rdN 8 s3 = p4 at *
  obtain ⟨x4, s4⟩ := p4
  dsimp only at k4 f4 hDR hDO
  have hbad : s4.2.2 = false := by rw [f4, f3, f2, f1, ← hf0]
  have hra : ∀ {ρ} {a' : Option Addr} {c' : Nat}, SIn ρ u8c a n l → SIn ρ u8c a' n l → n ≤ c' → RdAt ρ a' n c' a n c l s0 := fun h1 h2 h3 => ⟨by rw [← hl0]; exact h2, h3, h1, hc, hn, [], by rw [← hl0]; rfl⟩
  refine spec_enter Tryz.func22 rfl rfl rfl fun u R => ?_
  simp only [argsE, List.cons_append, List.nil_append]
  repeat' (first | (refine tl_is (.func 79) ?_; refine qC rfl rfl (hrd) ?_; rintro v ρ' L' hle ⟨hl1, br, a0, c0, rfl, hc0, hsq, rfl⟩ <;> (try simp only [kM, kN, kO]); rw [show rdC br a0 n c0 0 = rdC br a0 n c0 s0.2.1 by rw [← h00]]; have h0 := hra (h.mono hl1) hsq hc0) | (refine tl_is (.func 80) ?_; refine qC rfl rfl (k1 _ br h0) ?_; rintro v ρ' L' hle ⟨rfl, rfl, a1, n1, c1, g1, rfl⟩ <;> (try simp only [kM, kN, kO]); rename_i tb hlx) | (refine tl_is (.func 81) ?_; refine qC rfl rfl (k2 _ br g1) ?_; rintro v ρ' L' hle ⟨rfl, rfl, a2, n2, c2, g2, rfl⟩ <;> (try simp only [kM, kN, kO])) | (refine tl_is (.func 82) ?_; refine qC rfl rfl (k3 _ br g2) ?_; rintro v ρ' L' hle ⟨rfl, rfl, a3, n3, c3, g3, rfl⟩ <;> (try simp only [kM, kN, kO])) | (refine tl_is (.func 81) ?_; refine qC rfl rfl (k4 _ br g3) ?_; rintro v ρ' L' hle ⟨rfl, rfl, a4, n4, c4, g4, rfl⟩ <;> (try simp only [kM, kN, kO])) | (rename_i mb; refine tl_insert rfl rfl rfl hnil (fun es1 ck1 i1 j1 => ?_)) | (refine tl_insert rfl rfl rfl i1 (fun es2 ck2 i2 j2 => ?_)) | (refine tl_insert rfl rfl rfl i2 (fun es3 ck3 i3 j3 => ?_)) | (refine tl_insert rfl rfl rfl i3 (fun es4 ck4 i4 j4 => ?_)) | (refine iBu ?_; refine tl_y (y_buildN rfl) rfl rfl ?_) | (refine i_op ?_; first | (refine i_qq ?_; refine qQ ?_) | refine qEf ?_) | refine tl_nil ?_ | (refine i_tc ?_; refine qTc ?_) | (refine i_te ?_; refine qTe ?_) | intro _)
  refine tl_insert rfl rfl rfl i4 (fun es5 ck5 i5 j5 => ?_)
  have hg := j5 (x1 : Int)
  rw [j4, j3, j2, j1, hg0] at hg
  clear j1 j2 j3 j4 j5 i1 i2 i3 i4 k1 k2 k3 k4 hra
  obtain ⟨r0, hr0⟩ : ∃ r0 : Rc, (⟨x1, x2, x3, x4, 0, [], [], 0, [], []⟩ : Rc) = r0 := ⟨_, rfl⟩
  obtain ⟨l4, st4, bd4⟩ := s4
  dsimp only at hbad
  subst hbad
  by_cases hk : (x1 : Int) = 2 ∨ (x1 : Int) = 3 ∨ (x1 : Int) = 4 ∨ (x1 : Int) = 5 ∨ (x1 : Int) = 9
  · obtain ⟨hF, hS⟩ := tak_spec tb br nilRV r0 (by rw [← hr0]; exact hk) (l4, st4, false) a n c l
    have hS := fun ρ (h : RdAt ρ a4 n4 c4 a n c l (l4, st4, false)) => hS ρ a4 n4 c4 h (by rw [← hr0]; exact nilRV_in _ _ _ _)
    have hkk : r0.kind = (x1 : Int) := by rw [← hr0]
    have hpl : r0.plain = r0 := by rw [← hr0]; rfl
    rw [hkk] at hF hS
    rw [hpl] at hS
    rw [hr0] at hDR hDO
    have hgF : mget es5 (x1 : Int) = some (Value.func (.func (takF (x1 : Int))) ⟨[.pointer (some ⟨tb, 0, none⟩)]⟩ ⟨[]⟩) := by
      rw [hg]
      exact takF_chain (f := fun F => some (Value.func (.func F) ⟨[.pointer (some ⟨tb, 0, none⟩)]⟩ ⟨[]⟩)) hk
    clear hg
    generalize takF (x1 : Int) = F at *
    generalize tailD r0 (l4, st4, false) = y at *
    subst hr0
    repeat' (first | (refine tl_is (.tmp 71) ?_; refine qC rfl rfl (hS _ g4) ?_; rintro v ρ' L' hle ⟨rfl, hl2, v2, q2, a5, n5, c5, hr2, hq2, g5, rfl⟩ <;> (try simp only [kM, kN, kO])) | (refine iBu ?_; refine tl_y (y_buildN rfl) rfl rfl ?_) | (refine i_op ?_; first | (refine i_qq ?_; refine qQ ?_) | refine qEf ?_) | refine tl_nil ?_ | (refine i_tc ?_; refine qTc ?_) | (refine i_te ?_; refine qTe ?_) | intro _)
    have hro : recOk q2 = recOk y.1 := by rw [← hq2, recOk_plain]
    have hn5 := g5.at'.len
    have hck := rcheck_spec ρ' v2 q2 hr2
    have hokS := rok_spec ρ' tb br a5 n5 c5 a n c v2 q2 y.2
    have hlf := left_spec ρ' br a5 n5 c5 y.2.2.1
    rw [hn5, ← hro] at hDO
    cases ho : okS y.2
    · rw [ho] at hokS hDO
      rw [Bool.false_and] at hDO
      subst hDO
      rw [if_neg (by simp)] at hDR
      repeat' (first | (refine tl_is (.func 88) ?_; refine qC rfl rfl (hokS) ?_; rintro v ρ' L' hle ⟨rfl, rfl, rfl⟩ <;> (try simp only [kM, kN, kO])) | (refine iBu ?_; refine tl_y (y_buildN rfl) rfl rfl ?_) | (refine i_op ?_; first | (refine i_qq ?_; refine qQ ?_) | refine qEf ?_) | refine tl_nil ?_ | (refine i_tc ?_; refine qTc ?_) | (refine i_te ?_; refine qTe ?_) | intro _)
      exact qE (L' := []) ⟨Hp.le_trans hl1 hl2, nilRV, zeroRc, rfl, nilRV_in _ _ _ _, hDR.symm, rfl⟩
    · rw [ho] at hokS hDO
      rw [Bool.true_and] at hDO
      by_cases hz : n5 = 0
      · rw [decide_eq_true hz, Bool.true_and] at hDO
        cases hrk : recOk q2
        · rw [hrk] at hDO hck
          subst hDO
          rw [if_neg (by simp)] at hDR
          repeat' (first | (refine tl_is (.func 88) ?_; refine qC rfl rfl (hokS) ?_; rintro v ρ' L' hle ⟨rfl, rfl, rfl⟩ <;> (try simp only [kM, kN, kO])) | (refine tl_is (.func 89) ?_; refine qC rfl rfl (hlf) ?_; rintro v ρ' L' hle ⟨rfl, rfl, rfl⟩ <;> (try simp only [kM, kN, kO])) | (refine tl_is (.func 27) ?_; refine qC rfl rfl (hck) ?_; rintro v ρ' L' hle ⟨rfl, rfl, rfl⟩ <;> (try simp only [kM, kN, kO, if_false, Bool.false_eq_true])) | (refine iBu ?_; refine tl_y (y_buildN rfl) rfl rfl ?_) | (refine i_op ?_; first | (refine i_qq ?_; refine qQ ?_) | refine qEf ?_) | refine tl_nil ?_ | (refine i_tc ?_; refine qTc ?_) | (refine i_te ?_; refine qTe ?_) | intro _)
          exact qE (L' := []) ⟨Hp.le_trans hl1 hl2, nilRV, zeroRc, rfl, nilRV_in _ _ _ _, hDR.symm, rfl⟩
        · rw [hrk] at hDO hck
          subst hDO
          rw [if_pos rfl] at hDR
          repeat' (first | (refine tl_is (.func 88) ?_; refine qC rfl rfl (hokS) ?_; rintro v ρ' L' hle ⟨rfl, rfl, rfl⟩ <;> (try simp only [kM, kN, kO])) | (refine tl_is (.func 89) ?_; refine qC rfl rfl (hlf) ?_; rintro v ρ' L' hle ⟨rfl, rfl, rfl⟩ <;> (try simp only [kM, kN, kO])) | (refine tl_is (.func 27) ?_; refine qC rfl rfl (hck) ?_; rintro v ρ' L' hle ⟨rfl, rfl, rfl⟩ <;> (try simp only [kM, kN, kO, if_true])) | (refine iBu ?_; refine tl_y (y_buildN rfl) rfl rfl ?_) | (refine i_op ?_; first | (refine i_qq ?_; refine qQ ?_) | refine qEf ?_) | refine tl_nil ?_ | (refine i_tc ?_; refine qTc ?_) | (refine i_te ?_; refine qTe ?_) | intro _)
          exact qE (L' := []) ⟨Hp.le_trans hl1 hl2, v2, q2, rfl, hr2, hq2.trans hDR.symm, rfl⟩
      · rw [decide_eq_false hz, Bool.false_and] at hDO
        subst hDO
        rw [if_neg (by simp)] at hDR
        repeat' (first | (refine tl_is (.func 88) ?_; refine qC rfl rfl (hokS) ?_; rintro v ρ' L' hle ⟨rfl, rfl, rfl⟩ <;> (try simp only [kM, kN, kO])) | (refine tl_is (.func 89) ?_; refine qC rfl rfl (hlf) ?_; rintro v ρ' L' hle ⟨rfl, rfl, rfl⟩ <;> (try simp only [kM, kN, kO])) | (refine iBu ?_; refine tl_y (y_buildN rfl) rfl rfl ?_) | (refine i_op ?_; first | (refine i_qq ?_; refine qQ ?_) | refine qEf ?_) | refine tl_nil ?_ | (refine i_tc ?_; refine qTc ?_) | (refine i_te ?_; refine qTe ?_) | intro _)
        exact qE (L' := []) ⟨Hp.le_trans hl1 hl2, nilRV, zeroRc, rfl, nilRV_in _ _ _ _, hDR.symm, rfl⟩
  · have hgN : mget es5 (x1 : Int) = none := by
      rw [hg]
      simp only [show ¬ (x1 : Int) = 9 by omega, show ¬ (x1 : Int) = 5 by omega, show ¬ (x1 : Int) = 4 by omega, show ¬ (x1 : Int) = 3 by omega, show ¬ (x1 : Int) = 2 by omega, if_false]
    clear hg
    rw [tailD_none hk] at hDR hDO
    dsimp only at hDR hDO
    obtain ⟨v2, hv2⟩ : ∃ v, v = nilRV := ⟨_, rfl⟩
    have hr2 : RcIn ρ' v2 ⟨x1, x2, x3, x4, 0, [], [], 0, [], []⟩ := by rw [hv2]; exact nilRV_in _ _ _ _
    have hpl : r0.plain = r0 := by rw [← hr0]; rfl
    rw [hr0] at hDR hDO hr2
    have hn5 := g4.at'.len
    dsimp only at hn5
    have hck := rcheck_spec ρ' v2 r0 hr2
    have hokS : Spec Tryz.prog 88 [.pointer (some ⟨tb, 0, none⟩)] ρ' [reC tb br a n c v2 r0 false, rdC br a4 n4 c4 st4] (fun z ρ2 L' => z = .bool (okS (l4, st4, false)) ∧ ρ2 = ρ' ∧ L' = [reC tb br a n c v2 r0 false, rdC br a4 n4 c4 st4]) := rok_spec ρ' tb br a4 n4 c4 a n c v2 r0 (l4, st4, false)
    have hlf := left_spec ρ' br a4 n4 c4 st4
    rw [hn5] at hDO
    have hre : [(tb, Obj.cells ⟨[Value.pointer (some ⟨br, 0, none⟩), .slice a n c, .int .i64 (x1 : Int), .int .u64 (x2 : Int), .int .i64 (x3 : Int), .int .u64 (x4 : Int), .int .u64 0, .slice none 0 0, .slice none 0 0, .int .i64 0, .slice none 0 0, .slice none 0 0, .bool false]⟩ 138 (0, 0))] = reC tb br a n c v2 r0 false := by rw [hv2, ← hr0]; rfl
    repeat' (first | (refine iBu ?_; refine tl_y (y_buildN rfl) rfl rfl ?_) | (refine i_op ?_; first | (refine i_qq ?_; refine qQ ?_) | refine qEf ?_) | refine tl_nil ?_ | (refine i_tc ?_; refine qTc ?_) | (refine i_te ?_; refine qTe ?_) | intro _)
    rw [hre]
    cases ho : okS (l4, st4, false)
    · rw [ho] at hokS hDO
      rw [Bool.false_and] at hDO
      subst hDO
      rw [if_neg (by simp)] at hDR
      repeat' (first | (refine tl_is (.func 88) ?_; refine qC rfl rfl (hokS) ?_; rintro v ρ' L' hle ⟨rfl, rfl, rfl⟩ <;> (try simp only [kM, kN, kO])) | (refine iBu ?_; refine tl_y (y_buildN rfl) rfl rfl ?_) | (refine i_op ?_; first | (refine i_qq ?_; refine qQ ?_) | refine qEf ?_) | refine tl_nil ?_ | (refine i_tc ?_; refine qTc ?_) | (refine i_te ?_; refine qTe ?_) | intro _)
      exact qE (L' := []) ⟨hl1, nilRV, zeroRc, rfl, nilRV_in _ _ _ _, hDR.symm, rfl⟩
    · rw [ho] at hokS hDO
      rw [Bool.true_and] at hDO
      by_cases hz : n4 = 0
      · rw [decide_eq_true hz, Bool.true_and] at hDO
        cases hrk : recOk r0
        · rw [hrk] at hDO hck
          subst hDO
          rw [if_neg (by simp)] at hDR
          repeat' (first | (refine tl_is (.func 88) ?_; refine qC rfl rfl (hokS) ?_; rintro v ρ' L' hle ⟨rfl, rfl, rfl⟩ <;> (try simp only [kM, kN, kO])) | (refine tl_is (.func 89) ?_; refine qC rfl rfl (hlf) ?_; rintro v ρ' L' hle ⟨rfl, rfl, rfl⟩ <;> (try simp only [kM, kN, kO])) | (refine tl_is (.func 27) ?_; refine qC rfl rfl (hck) ?_; rintro v ρ' L' hle ⟨rfl, rfl, rfl⟩ <;> (try simp only [kM, kN, kO, if_false, Bool.false_eq_true])) | (refine iBu ?_; refine tl_y (y_buildN rfl) rfl rfl ?_) | (refine i_op ?_; first | (refine i_qq ?_; refine qQ ?_) | refine qEf ?_) | refine tl_nil ?_ | (refine i_tc ?_; refine qTc ?_) | (refine i_te ?_; refine qTe ?_) | intro _)
          exact qE (L' := []) ⟨hl1, nilRV, zeroRc, rfl, nilRV_in _ _ _ _, hDR.symm, rfl⟩
        · rw [hrk] at hDO hck
          subst hDO
          rw [if_pos rfl] at hDR
          repeat' (first | (refine tl_is (.func 88) ?_; refine qC rfl rfl (hokS) ?_; rintro v ρ' L' hle ⟨rfl, rfl, rfl⟩ <;> (try simp only [kM, kN, kO])) | (refine tl_is (.func 89) ?_; refine qC rfl rfl (hlf) ?_; rintro v ρ' L' hle ⟨rfl, rfl, rfl⟩ <;> (try simp only [kM, kN, kO])) | (refine tl_is (.func 27) ?_; refine qC rfl rfl (hck) ?_; rintro v ρ' L' hle ⟨rfl, rfl, rfl⟩ <;> (try simp only [kM, kN, kO, if_true])) | (refine iBu ?_; refine tl_y (y_buildN rfl) rfl rfl ?_) | (refine i_op ?_; first | (refine i_qq ?_; refine qQ ?_) | refine qEf ?_) | refine tl_nil ?_ | (refine i_tc ?_; refine qTc ?_) | (refine i_te ?_; refine qTe ?_) | intro _)
          exact qE (L' := []) ⟨hl1, v2, r0, rfl, hr2, hpl.trans hDR.symm, rfl⟩
      · rw [decide_eq_false hz, Bool.false_and] at hDO
        subst hDO
        rw [if_neg (by simp)] at hDR
        repeat' (first | (refine tl_is (.func 88) ?_; refine qC rfl rfl (hokS) ?_; rintro v ρ' L' hle ⟨rfl, rfl, rfl⟩ <;> (try simp only [kM, kN, kO])) | (refine tl_is (.func 89) ?_; refine qC rfl rfl (hlf) ?_; rintro v ρ' L' hle ⟨rfl, rfl, rfl⟩ <;> (try simp only [kM, kN, kO])) | (refine iBu ?_; refine tl_y (y_buildN rfl) rfl rfl ?_) | (refine i_op ?_; first | (refine i_qq ?_; refine qQ ?_) | refine qEf ?_) | refine tl_nil ?_ | (refine i_tc ?_; refine qTc ?_) | (refine i_te ?_; refine qTe ?_) | intro _)
        exact qE (L' := []) ⟨hl1, nilRV, zeroRc, rfl, nilRV_in _ _ _ _, hDR.symm, rfl⟩
end Go.Proofs.E

