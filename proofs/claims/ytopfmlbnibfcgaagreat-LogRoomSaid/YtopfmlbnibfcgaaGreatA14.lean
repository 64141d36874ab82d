/- The law LogRoom. Part 14 of 16. -/
import Derived.Test.YtopfmlbnibfcgaaGreatA13
namespace Go.Proofs.E
open Go
set_option linter.unusedVariables false
set_option linter.unusedSimpArgs false
set_option linter.unusedSectionVars false
set_option maxRecDepth 4000
set_option maxHeartbeats 1000000
attribute [local irreducible] Yl TL TC TE Spec ZN R1 Hp.le EnvLe TS TR YS Zp TP QP
abbrev RdP (ρ : Hp) (tb br : Nat) (ra : Option Addr) (rn rc : Nat) (Rs : List UInt8) (y : Rc × ZX) (z : Value) (ρ' : Hp) (L' : SH) : Prop :=
 z = .tuple ⟨[]⟩ ∧ ρ.le ρ' ∧ ∃ v' r' a' n' c', RcIn ρ' v' r' ∧ r'.plain = y.1 ∧ RdAt ρ' a' n' c' ra rn rc Rs y.2 ∧ L' = rdL tb br a' n' c' ra rn rc v' r' y.2
theorem rchange_spec (ρ : Hp) (tb br : Nat) (v : RV) (r : Rc) (hr : RcIn ρ v r) (s : ZX) {a n c ra rn rc Rs} (h : RdAt ρ a n c ra rn rc Rs s) :
  Spec Tryz.prog 143 [.pointer (some ⟨tb, 0, none⟩)] ρ (rdL tb br a n c ra rn rc v r s) (RdP ρ tb br ra rn rc Rs (chD r.plain s)) := by
 unfold chD
 have hm := fun ρ cb (h : RdAt ρ a n c ra rn rc Rs s) => rmanyIm_spec ρ tb br cb v r s h
 dsimp only [Rc.plain]
 generalize Ys (imD (decide (r.kind = 2))) s = q at *
 obtain ⟨xs, s2⟩ := q
 dsimp only at hm ⊢
 refine Za Tryz.func143 rfl rfl rfl fun u R => ?_
 simp only [Zf, kA]
 repeat' (first | refine zV ?_ | intro _)
 refine tpA [0,1,2] (.e 3 [4,5,6] (.e 7 [] .o)) ([[(_, .cells ⟨[.pointer (some ⟨tb, 0, none⟩)]⟩ 221 (0, 0))]]) ?_
 repeat' (refine iT ?_; first | refine rA ?_ | ((refine iE ?_; refine rE ?_) <;> ((try refine Zr ?_); (first | (refine Zb (.func 191) ?_; refine qC rfl rfl (hm _ _ h) ?_; rintro v ρ' L' hle ⟨hl1, sa, sn, sc, acc, a1, n1, c1, rfl, hsc, hs255, hA, hP, hM, h1, rfl⟩ <;> (try simp only [kA])) | (refine qEf ?_; try intro _)) <;> ((try simp only [kA]); refine Zj ?_; refine rN ?_))))
 all_goals (repeat' (first | refine zV ?_ | intro _))
 all_goals exact qE ⟨rfl, hl1, { v with i := ⟨sa, sn, sc⟩ }, { r with ims := acc }, a1, n1, c1, ⟨⟨hA, by dsimp only; omega, hsc⟩, hP, hr.s.mono hl1, hr.t.mono hl1, hr.d.mono hl1, hr.sf⟩, by rw [← hM], h1, rfl⟩
theorem rnested_spec (ρ : Hp) (tb br : Nat) (v : RV) (r : Rc) (hr : RcIn ρ v r) (s : ZX) {a n c ra rn rc Rs} (h : RdAt ρ a n c ra rn rc Rs s) :
  Spec Tryz.prog 144 [.pointer (some ⟨tb, 0, none⟩)] ρ (rdL tb br a n c ra rn rc v r s) (RdP ρ tb br ra rn rc Rs (neD r.plain s)) := by
 unfold neD
 have h8 := n64_spec ρ br h
 dsimp only [Rc.plain]
 rw [show rdL tb br a n c ra rn rc v r s = [reC tb br ra rn rc v r (rdN 8 s).2.2.2, rdC br a n c s.2.1] from rfl]
 generalize rdN 8 s = p at *
 obtain ⟨x1, s1⟩ := p
 dsimp only at h8 ⊢
 refine Za Tryz.func144 rfl rfl rfl fun u R => ?_
 simp only [Zf, kA]
 repeat' (first | (refine Zb (.func 141) ?_; refine qC rfl rfl (h8) ?_; rintro v ρ' L' hle ⟨rfl, rfl, a1, n1, c1, h1, rfl⟩ <;> (try simp only [kA])) | refine zV ?_ | intro _)
 exact qE ⟨rfl, Hp.le_refl _, v, { r with next := x1 }, a1, n1, c1, ⟨hr.i, hr.im, hr.s, hr.t, hr.d, hr.sf⟩, rfl, h1, rfl⟩
theorem rundone_spec (ρ : Hp) (tb br : Nat) (v : RV) (r : Rc) (hr : RcIn ρ v r) (s : ZX) {a n c ra rn rc Rs} (h : RdAt ρ a n c ra rn rc Rs s) :
  Spec Tryz.prog 146 [.pointer (some ⟨tb, 0, none⟩)] ρ (rdL tb br a n c ra rn rc v r s) (RdP ρ tb br ra rn rc Rs (thenD neD chD r.plain s)) := by
 have h1 := rnested_spec ρ tb br v r hr s h
 unfold thenD
 generalize neD r.plain s = p at *
 obtain ⟨r1, s1⟩ := p
 dsimp only at h1 ⊢
 refine Za Tryz.func146 rfl rfl rfl fun u R => ?_
 simp only [Zf, kA]
 repeat' (first | (refine Zb (.func 144) ?_; refine qC rfl rfl (h1) ?_; rintro v ρ' L' hle ⟨rfl, hl1, v1, q1, a1, n1, c1, hr1, hq1, g1, rfl⟩ <;> (try simp only [kA])) | refine zV ?_ | intro _)
 have h2 := rchange_spec _ tb br v1 q1 hr1 s1 g1
 rw [hq1] at h2
 repeat' (first | (refine Zb (.func 143) ?_; refine qC rfl rfl (h2) ?_; rintro v ρ' L' hle ⟨rfl, hl2, v2, q2, a2, n2, c2, hr2, hq2, g2, rfl⟩ <;> (try simp only [kA])) | refine zV ?_ | intro _)
 exact qE ⟨rfl, Hp.le_trans hl1 hl2, v2, q2, a2, n2, c2, hr2, hq2, g2, rfl⟩
theorem rdone_spec (ρ : Hp) (tb br : Nat) (v : RV) (r : Rc) (hr : RcIn ρ v r) (s : ZX) {a n c ra rn rc Rs} (h : RdAt ρ a n c ra rn rc Rs s) :
  Spec Tryz.prog 145 [.pointer (some ⟨tb, 0, none⟩)] ρ (rdL tb br a n c ra rn rc v r s) (RdP ρ tb br ra rn rc Rs (thenD neD doD r.plain s)) := by
 have h1 := rnested_spec ρ tb br v r hr s h
 unfold thenD
 generalize neD r.plain s = p at *
 obtain ⟨r1, s1⟩ := p
 dsimp only at h1 ⊢
 refine Za Tryz.func145 rfl rfl rfl fun u R => ?_
 simp only [Zf, kA]
 repeat' (first | (refine Zb (.func 144) ?_; refine qC rfl rfl (h1) ?_; rintro v ρ' L' hle ⟨rfl, hl1, v1, q1, a1, n1, c1, hr1, hq1, g1, rfl⟩ <;> (try simp only [kA])) | refine zV ?_ | intro _)
 have hm := fun ρ cb (h : RdAt ρ a1 n1 c1 ra rn rc Rs s1) => rmanyStp_spec ρ tb br cb v1 q1 s1 h
 unfold doD
 dsimp only at hq1
 rw [← hq1]
 generalize Ys stpD s1 = q at *
 obtain ⟨xs, s2⟩ := q
 dsimp only at hm ⊢
 refine tpA [0,1,2] (.e 3 [4,5,6] (.e 7 [] .o)) ([[(_, .cells ⟨[.pointer (some ⟨tb, 0, none⟩)]⟩ 221 (0, 0))]]) ?_
 repeat' (refine iT ?_; first | refine rA ?_ | ((refine iE ?_; refine rE ?_) <;> ((try refine Zr ?_); (first | (refine Zb (.func 195) ?_; refine qC rfl rfl (hm _ _ g1) ?_; rintro v ρ' L' hle ⟨hl2, sa, sn, sc, acc, a2, n2, c2, rfl, hsc, hs255, hA, hP, hM, g2, rfl⟩ <;> (try simp only [kA])) | (refine qEf ?_; try intro _)) <;> ((try simp only [kA]); refine Zj ?_; refine rN ?_))))
 all_goals (repeat' (first | refine zV ?_ | intro _))
 all_goals exact qE ⟨rfl, Hp.le_trans hl1 hl2, { v1 with s := ⟨sa, sn, sc⟩ }, { q1 with steps := acc }, a2, n2, c2, ⟨hr1.i.mono hl2, fun x hx => (hr1.im x hx).mono hl2, ⟨hA, by dsimp only; omega, hsc⟩, hr1.t.mono hl2, hr1.d.mono hl2, hP⟩, by rw [← hM], g2, rfl⟩
theorem rckpt_spec (ρ : Hp) (tb br : Nat) (v : RV) (r : Rc) (hr : RcIn ρ v r) (s : ZX) {a n c ra rn rc Rs} (h : RdAt ρ a n c ra rn rc Rs s) :
  Spec Tryz.prog 147 [.pointer (some ⟨tb, 0, none⟩)] ρ (rdL tb br a n c ra rn rc v r s) (RdP ρ tb br ra rn rc Rs (thenD (thenD cxD ctD) cdD r.plain s)) := by
 unfold thenD cxD ctD cdD
 have h8 := fun ρ (h : RdAt ρ a n c ra rn rc Rs s) => n32_spec ρ br h
 have hlt := XI 4 s
 dsimp only [Rc.plain]
 rw [show rdL tb br a n c ra rn rc v r s = [reC tb br ra rn rc v r (rdN 4 s).2.2.2, rdC br a n c s.2.1] from rfl]
 generalize rdN 4 s = p at *
 obtain ⟨x1, s1⟩ := p
 dsimp only at h8 hlt ⊢
 have hm := fun ρ a n c cb v q (h : RdAt ρ a n c ra rn rc Rs s1) => rmanyCkT_spec ρ tb br cb v q s1 h
 generalize Ys ckTD s1 = p2 at *
 obtain ⟨xs, s2⟩ := p2
 dsimp only at hm ⊢
 have hm2 := fun ρ a n c cb v q (h : RdAt ρ a n c ra rn rc Rs s2) => rmanyCkP_spec ρ tb br cb v q s2 h
 generalize Ys ckPD s2 = p3 at *
 obtain ⟨ys, s3⟩ := p3
 dsimp only at hm2 ⊢
 refine Za Tryz.func147 rfl rfl rfl fun u R => ?_
 simp only [Zf, kA]
 repeat' (first | refine zV ?_ | intro _)
 refine tpA [0,1,2,3] (.e 4 [] (.e 5 [6,7,8,9] (.e 10 [] .o))) ([[(_, .cells ⟨[.pointer (some ⟨tb, 0, none⟩)]⟩ 221 (0, 0))]]) ?_
 repeat' (refine iT ?_; first | refine rA ?_ | ((refine iE ?_; refine rE ?_) <;> ((try refine Zr ?_); (first | (refine Zb (.func 142) ?_; refine qC rfl rfl (h8 _ h) ?_; rintro v ρ' L' hle ⟨rfl, rfl, a1, n1, c1, h1, rfl⟩ <;> (try simp only [kA])) | (refine i_qq ?_; refine qQ ?_) | (refine qEf ?_; try intro _)) <;> ((try simp only [kA]); refine Zj ?_; refine rN ?_))))
 all_goals (repeat' (first | refine zV ?_ | intro _))
 all_goals refine tpA [0,1,2] (.e 3 [4,5,6] (.e 7 [] .o)) ([[(_, .cells ⟨[.pointer (some ⟨tb, 0, none⟩)]⟩ 221 (0, 0))]]) ?_
 all_goals (repeat' (refine iT ?_; first | refine rA ?_ | ((refine iE ?_; refine rE ?_) <;> ((try refine Zr ?_); (first | (refine Zb (.func 200) ?_; refine qC rfl rfl (hm _ _ _ _ _ v { r with nextTxn := x1 } h1) ?_; rintro v ρ' L' hle ⟨hl1, sa, sn, sc, acc, a2, n2, c2, rfl, hsc, hs255, hA, hP, hM, h2, rfl⟩ <;> (try simp only [kA])) | (refine qEf ?_; try intro _)) <;> ((try simp only [kA]); refine Zj ?_; refine rN ?_)))))
 all_goals (repeat' (first | refine zV ?_ | intro _))
 all_goals refine tpA [0,1,2] (.e 3 [4,5,6] (.e 7 [] .o)) ([[(_, .cells ⟨[.pointer (some ⟨tb, 0, none⟩)]⟩ 221 (0, 0))]]) ?_
 all_goals (repeat' (refine iT ?_; first | refine rA ?_ | ((refine iE ?_; refine rE ?_) <;> ((try refine Zr ?_); (first | (refine Zb (.func 202) ?_; refine qC rfl rfl (hm2 _ _ _ _ _ { v with t := ⟨sa, sn, sc⟩ } { r with nextTxn := x1, txns := acc } h2) ?_; rintro v ρ' L' hle ⟨hl3, sa3, sn3, sc3, acc3, a3, n3, c3, rfl, hsc3, hs3255, hA3, hP3, hM3, h3, rfl⟩ <;> (try simp only [kA])) | (refine qEf ?_; try intro _)) <;> ((try simp only [kA]); refine Zj ?_; refine rN ?_)))))
 all_goals (repeat' (first | refine zV ?_ | intro _))
 all_goals exact qE ⟨rfl, Hp.le_trans hl1 hl3, { v with t := ⟨sa, sn, sc⟩, d := ⟨sa3, sn3, sc3⟩ }, { r with nextTxn := x1, txns := acc, dirty := acc3 }, a3, n3, c3, ⟨hr.i.mono (Hp.le_trans hl1 hl3), fun x hx => (hr.im x hx).mono (Hp.le_trans hl1 hl3), hr.s.mono (Hp.le_trans hl1 hl3), ⟨hA.mono hl3, by dsimp only; omega, hsc⟩, ⟨hA3, by dsimp only; omega, hsc3⟩, hr.sf⟩, by rw [← hM, ← hM3], h3, rfl⟩
end Go.Proofs.E
namespace Go.Proofs.E
open Go
set_option linter.unusedVariables false
set_option linter.unusedSimpArgs false
set_option linter.unusedSectionVars false
set_option maxRecDepth 4000
set_option maxHeartbeats 1000000
attribute [local irreducible] Yl TL TC TE Spec ZN R1 Hp.le EnvLe TS TR YS Zp
def takF (k : Int) : Nat := if k = 2 then 143 else if k = 3 then 144 else if k = 4 then 145 else if k = 5 then 146 else 147
theorem tak_spec (tb br : Nat) (v : RV) (r : Rc) (hk : r.kind = 2 ∨ r.kind = 3 ∨ r.kind = 4 ∨ r.kind = 5 ∨ r.kind = 9) (s : ZX) (ra : Option Addr) (rn rc : Nat) (Rs : List UInt8) : ZK Tryz.prog (takF r.kind) ∧ ∀ (ρ : Hp) a n c, RdAt ρ a n c ra rn rc Rs s → RcIn ρ v r →
  Spec Tryz.prog (takF r.kind) [.pointer (some ⟨tb, 0, none⟩)] ρ (rdL tb br a n c ra rn rc v r s) (RdP ρ tb br ra rn rc Rs (tailD r.plain s)) := by
 unfold takF tailD
 dsimp only [Rc.plain]
 rcases hk with e | e | e | e | e
 ·rw [if_pos e, if_pos e]
  exact ⟨inferInstance, fun ρ a n c h hr => rchange_spec ρ tb br v r hr s h⟩
 ·rw [if_neg (by omega), if_pos e, if_neg (by omega), if_pos e]
  exact ⟨inferInstance, fun ρ a n c h hr => rnested_spec ρ tb br v r hr s h⟩
 ·rw [if_neg (by omega), if_neg (by omega), if_pos e, if_neg (by omega), if_neg (by omega), if_pos e]
  exact ⟨inferInstance, fun ρ a n c h hr => rdone_spec ρ tb br v r hr s h⟩
 ·rw [if_neg (by omega), if_neg (by omega), if_neg (by omega), if_pos e, if_neg (by omega), if_neg (by omega), if_neg (by omega), if_pos e]
  exact ⟨inferInstance, fun ρ a n c h hr => rundone_spec ρ tb br v r hr s h⟩
 ·rw [if_neg (by omega), if_neg (by omega), if_neg (by omega), if_neg (by omega), if_neg (by omega), if_neg (by omega), if_neg (by omega), if_neg (by omega), if_pos e]
  exact ⟨inferInstance, fun ρ a n c h hr => rckpt_spec ρ tb br v r hr s h⟩
theorem takF_chain {f : Nat → Option Value} {k : Int} (hk : k = 2 ∨ k = 3 ∨ k = 4 ∨ k = 5 ∨ k = 9) : (if k = 9 then f 147 else if k = 5 then f 146 else if k = 4 then f 145 else if k = 3 then f 144 else if k = 2 then f 143 else none) = f (takF k) := by
 unfold takF
 rcases hk with e | e | e | e | e <;> subst e <;> rfl
theorem tailD_none {r : Rc} {s : ZX} (hk : ¬ (r.kind = 2 ∨ r.kind = 3 ∨ r.kind = 4 ∨ r.kind = 5 ∨ r.kind = 9)) : tailD r s = (r, s) := by
 unfold tailD
 rw [if_neg (by omega), if_neg (by omega), if_neg (by omega), if_neg (by omega), if_neg (by omega)]
def nilRV : RV := ⟨⟨none, 0, 0⟩, ⟨none, 0, 0⟩, ⟨none, 0, 0⟩, ⟨none, 0, 0⟩⟩
theorem nilRV_in {ρ : Hp} (k : Int) (l : Nat) (t : Int) (p : Nat) : RcIn ρ nilRV ⟨k, l, t, p, 0, [], [], 0, [], []⟩ := ⟨AS.nil, by simp, AS.nil, AS.nil, AS.nil, by simp⟩
theorem rdecode_spec (ρ : Hp) (a : Option Addr) (n c : Nat) (l : List UInt8) (h : SIn ρ Zo a n l) (hc : n ≤ c) (hn : n ≤ 1000000) : Spec Tryz.prog 78 [.slice a n c] ρ []
  (fun z ρ' L' => ρ.le ρ' ∧ ∃ v r, z = .tuple ⟨[.agg ⟨Wt v r⟩, .int .i64 (if decOk l then 0 else 161)]⟩ ∧ RcIn ρ' v r ∧ r.plain = decR l ∧ L' = []) := by
 have hnil : Yu .i64 [] := by intro e he; simp at he
 have hg0 : ∀ k : Int, YM [] k = none := fun _ => rfl
 have hrd := read_spec ρ a n c l h hn
 have hDR : decR l = if decOk l then (decD l).1 else zeroRc := rfl
 have hDO : decOk l = (okS (decD l).2 && (decide ((decD l).2.1.length = 0) && Yr (decD l).1)) := rfl
 generalize decR l = dr at *
 generalize decOk l = dk at *
 obtain ⟨s0, hs0⟩ : ∃ s0 : ZX, (l, 0, false) = s0 := ⟨_, rfl⟩
 have h00 : (0 : Int) = s0.2.1 := by rw [← hs0]
 have hf0 : false = s0.2.2 := by rw [← hs0]
 have hl0 : l = s0.1 := by rw [← hs0]
 unfold decD at hDR hDO
 rw [hs0] at hDR hDO
 unfold headD hdL hdT hdP at hDR hDO
 have k1 := fun ρ br {a n c ra rn rc Rs} (h : RdAt ρ a n c ra rn rc Rs s0) => n8_spec ρ br h
 have b1 := XI 1 s0
 have f1 := rdN_bad 1 s0
 generalize rdN 1 s0 = p1 at *
 obtain ⟨x1, s1⟩ := p1
 have k2 := fun ρ br {a n c ra rn rc Rs} (h : RdAt ρ a n c ra rn rc Rs s1) => n64_spec ρ br h
 have f2 := rdN_bad 8 s1
 dsimp only at k1 b1 f1 hDR hDO
 generalize rdN 8 s1 = p2 at *
 obtain ⟨x2, s2⟩ := p2
 have k3 := fun ρ br {a n c ra rn rc Rs} (h : RdAt ρ a n c ra rn rc Rs s2) => n32_spec ρ br h
 have b3 := XI 4 s2
 have f3 := rdN_bad 4 s2
 dsimp only at k2 f2 hDR hDO
 generalize rdN 4 s2 = p3 at *
 obtain ⟨x3, s3⟩ := p3
 have k4 := fun ρ br {a n c ra rn rc Rs} (h : RdAt ρ a n c ra rn rc Rs s3) => n64_spec ρ br h
 have f4 := rdN_bad 8 s3
 dsimp only at k3 b3 f3 hDR hDO
 generalize rdN 8 s3 = p4 at *
 obtain ⟨x4, s4⟩ := p4
 dsimp only at k4 f4 hDR hDO
 have hbad : s4.2.2 = false := by rw [f4, f3, f2, f1, ← hf0]
 have hra : ∀ {ρ} {a' : Option Addr} {c' : Nat}, SIn ρ Zo a n l → SIn ρ Zo a' n l → n ≤ c' → RdAt ρ a' n c' a n c l s0 := fun h1 h2 h3 => ⟨by rw [← hl0]; exact h2, h3, h1, hc, hn, [], by rw [← hl0]; rfl⟩
 refine Za Tryz.func78 rfl rfl rfl fun u R => ?_
 simp only [Zf, kA]
 repeat' (first | (refine Zb (.func 139) ?_; refine qC rfl rfl (hrd) ?_; rintro v ρ' L' hle ⟨hl1, br, a0, c0, rfl, hc0, hsq, rfl⟩ <;> (try simp only [kA]); rw [show rdC br a0 n c0 0 = rdC br a0 n c0 s0.2.1 by rw [← h00]]; have h0 := hra (h.mono hl1) hsq hc0) | (refine Zb (.func 140) ?_; refine qC rfl rfl (k1 _ br h0) ?_; rintro v ρ' L' hle ⟨rfl, rfl, a1, n1, c1, g1, rfl⟩ <;> (try simp only [kA]); rename_i tb hlx) | (refine Zb (.func 141) ?_; refine qC rfl rfl (k2 _ br g1) ?_; rintro v ρ' L' hle ⟨rfl, rfl, a2, n2, c2, g2, rfl⟩ <;> (try simp only [kA])) | (refine Zb (.func 142) ?_; refine qC rfl rfl (k3 _ br g2) ?_; rintro v ρ' L' hle ⟨rfl, rfl, a3, n3, c3, g3, rfl⟩ <;> (try simp only [kA])) | (refine Zb (.func 141) ?_; refine qC rfl rfl (k4 _ br g3) ?_; rintro v ρ' L' hle ⟨rfl, rfl, a4, n4, c4, g4, rfl⟩ <;> (try simp only [kA])) | (rename_i mb; refine ZM rfl rfl rfl hnil (fun es1 ck1 i1 j1 => ?_)) | (refine ZM rfl rfl rfl i1 (fun es2 ck2 i2 j2 => ?_)) | (refine ZM rfl rfl rfl i2 (fun es3 ck3 i3 j3 => ?_)) | (refine ZM rfl rfl rfl i3 (fun es4 ck4 i4 j4 => ?_)) | refine zV ?_ | intro _)
 refine ZM rfl rfl rfl i4 (fun es5 ck5 i5 j5 => ?_)
 have hg := j5 (x1 : Int)
 rw [j4, j3, j2, j1, hg0] at hg
 clear j1 j2 j3 j4 j5 i1 i2 i3 i4 k1 k2 k3 k4 hra
 obtain ⟨r0, hr0⟩ : ∃ r0 : Rc, (⟨x1, x2, x3, x4, 0, [], [], 0, [], []⟩ : Rc) = r0 := ⟨_, rfl⟩
 obtain ⟨l4, st4, bd4⟩ := s4
 dsimp only at hbad
 subst hbad
 by_cases hk : (x1 : Int) = 2 ∨ (x1 : Int) = 3 ∨ (x1 : Int) = 4 ∨ (x1 : Int) = 5 ∨ (x1 : Int) = 9
 ·obtain ⟨hF, hS⟩ := tak_spec tb br nilRV r0 (by rw [← hr0]; exact hk) (l4, st4, false) a n c l
  have hS := fun ρ (h : RdAt ρ a4 n4 c4 a n c l (l4, st4, false)) => hS ρ a4 n4 c4 h (by rw [← hr0]; exact nilRV_in _ _ _ _)
  have hkk : r0.kind = (x1 : Int) := by rw [← hr0]
  have hpl : r0.plain = r0 := by rw [← hr0]; rfl
  rw [hkk] at hF hS
  rw [hpl] at hS
  rw [hr0] at hDR hDO
  have hgF : YM es5 (x1 : Int) = some (Value.func (.func (takF (x1 : Int))) ⟨[.pointer (some ⟨tb, 0, none⟩)]⟩ ⟨[]⟩) := by
   rw [hg]
   exact takF_chain (f := fun F => some (Value.func (.func F) ⟨[.pointer (some ⟨tb, 0, none⟩)]⟩ ⟨[]⟩)) hk
  clear hg
  generalize takF (x1 : Int) = F at *
  generalize tailD r0 (l4, st4, false) = y at *
  subst hr0
  repeat' (first | (refine Zb (.tmp 71) ?_; refine qC rfl rfl (hS _ g4) ?_; rintro v ρ' L' hle ⟨rfl, hl2, v2, q2, a5, n5, c5, hr2, hq2, g5, rfl⟩ <;> (try simp only [kA])) | refine zV ?_ | intro _)
  have hro : Yr q2 = Yr y.1 := by rw [← hq2, recOk_plain]
  have hn5 := g5.at'.len
  have hck := rcheck_spec ρ' v2 q2 hr2
  have hokS := rok_spec ρ' tb br a5 n5 c5 a n c v2 q2 y.2
  have hlf := Wo ρ' br a5 n5 c5 y.2.2.1
  rw [hn5, ← hro] at hDO
  cases ho : okS y.2
  ·rw [ho] at hokS hDO
   rw [Bool.false_and] at hDO
   subst hDO
   rw [if_neg (by simp)] at hDR
   repeat' (first | (refine Zb (.func 148) ?_; refine qC rfl rfl (hokS) ?_; rintro v ρ' L' hle ⟨rfl, rfl, rfl⟩ <;> (try simp only [kA])) | refine zV ?_ | intro _)
   exact qE (L' := []) ⟨Hp.le_trans hl1 hl2, nilRV, zeroRc, rfl, nilRV_in _ _ _ _, hDR.symm, rfl⟩
  ·rw [ho] at hokS hDO
   rw [Bool.true_and] at hDO
   by_cases hz : n5 = 0
   ·rw [decide_eq_true hz, Bool.true_and] at hDO
    cases hrk : Yr q2
    ·rw [hrk] at hDO hck
     subst hDO
     rw [if_neg (by simp)] at hDR
     repeat' (first | (refine Zb (.func 148) ?_; refine qC rfl rfl (hokS) ?_; rintro v ρ' L' hle ⟨rfl, rfl, rfl⟩ <;> (try simp only [kA])) | (refine Zb (.func 149) ?_; refine qC rfl rfl (hlf) ?_; rintro v ρ' L' hle ⟨rfl, rfl, rfl⟩ <;> (try simp only [kA])) | (refine Zb (.func 150) ?_; refine qC rfl rfl (hck) ?_; rintro v ρ' L' hle ⟨rfl, rfl, rfl⟩ <;> (try simp only [kA, if_false, Bool.false_eq_true])) | refine zV ?_ | intro _)
     exact qE (L' := []) ⟨Hp.le_trans hl1 hl2, nilRV, zeroRc, rfl, nilRV_in _ _ _ _, hDR.symm, rfl⟩
    ·rw [hrk] at hDO hck
     subst hDO
     rw [if_pos rfl] at hDR
     repeat' (first | (refine Zb (.func 148) ?_; refine qC rfl rfl (hokS) ?_; rintro v ρ' L' hle ⟨rfl, rfl, rfl⟩ <;> (try simp only [kA])) | (refine Zb (.func 149) ?_; refine qC rfl rfl (hlf) ?_; rintro v ρ' L' hle ⟨rfl, rfl, rfl⟩ <;> (try simp only [kA])) | (refine Zb (.func 150) ?_; refine qC rfl rfl (hck) ?_; rintro v ρ' L' hle ⟨rfl, rfl, rfl⟩ <;> (try simp only [kA, if_true])) | refine zV ?_ | intro _)
     exact qE (L' := []) ⟨Hp.le_trans hl1 hl2, v2, q2, rfl, hr2, hq2.trans hDR.symm, rfl⟩
   ·rw [decide_eq_false hz, Bool.false_and] at hDO
    subst hDO
    rw [if_neg (by simp)] at hDR
    repeat' (first | (refine Zb (.func 148) ?_; refine qC rfl rfl (hokS) ?_; rintro v ρ' L' hle ⟨rfl, rfl, rfl⟩ <;> (try simp only [kA])) | (refine Zb (.func 149) ?_; refine qC rfl rfl (hlf) ?_; rintro v ρ' L' hle ⟨rfl, rfl, rfl⟩ <;> (try simp only [kA])) | refine zV ?_ | intro _)
    exact qE (L' := []) ⟨Hp.le_trans hl1 hl2, nilRV, zeroRc, rfl, nilRV_in _ _ _ _, hDR.symm, rfl⟩
 ·have hgN : YM es5 (x1 : Int) = none := by
   rw [hg]
   simp only [show ¬ (x1 : Int) = 9 by omega, show ¬ (x1 : Int) = 5 by omega, show ¬ (x1 : Int) = 4 by omega, show ¬ (x1 : Int) = 3 by omega, show ¬ (x1 : Int) = 2 by omega, if_false]
  clear hg
  rw [tailD_none hk] at hDR hDO
  dsimp only at hDR hDO
  obtain ⟨v2, hv2⟩ : ∃ v, v = nilRV := ⟨_, rfl⟩
  have hr2 : RcIn ρ' v2 ⟨x1, x2, x3, x4, 0, [], [], 0, [], []⟩ := by rw [hv2]; exact nilRV_in _ _ _ _
  have hpl : r0.plain = r0 := by rw [← hr0]; rfl
  rw [hr0] at hDR hDO hr2
  have hn5 := g4.at'.len
  dsimp only at hn5
  have hck := rcheck_spec ρ' v2 r0 hr2
  have hokS : Spec Tryz.prog 148 [.pointer (some ⟨tb, 0, none⟩)] ρ' [reC tb br a n c v2 r0 false, rdC br a4 n4 c4 st4] (fun z ρ2 L' => z = .bool (okS (l4, st4, false)) ∧ ρ2 = ρ' ∧ L' = [reC tb br a n c v2 r0 false, rdC br a4 n4 c4 st4]) := rok_spec ρ' tb br a4 n4 c4 a n c v2 r0 (l4, st4, false)
  have hlf := Wo ρ' br a4 n4 c4 st4
  rw [hn5] at hDO
  have hre : [(tb, Obj.cells ⟨[Value.pointer (some ⟨br, 0, none⟩), .slice a n c, .int .i64 (x1 : Int), .int .u64 (x2 : Int), .int .i64 (x3 : Int), .int .u64 (x4 : Int), .int .u64 0, .slice none 0 0, .slice none 0 0, .int .i64 0, .slice none 0 0, .slice none 0 0, .bool false]⟩ 225 (0, 0))] = reC tb br a n c v2 r0 false := by rw [hv2, ← hr0]; rfl
  repeat' (first | refine zV ?_ | intro _)
  rw [hre]
  cases ho : okS (l4, st4, false)
  ·rw [ho] at hokS hDO
   rw [Bool.false_and] at hDO
   subst hDO
   rw [if_neg (by simp)] at hDR
   repeat' (first | (refine Zb (.func 148) ?_; refine qC rfl rfl (hokS) ?_; rintro v ρ' L' hle ⟨rfl, rfl, rfl⟩ <;> (try simp only [kA])) | refine zV ?_ | intro _)
   exact qE (L' := []) ⟨hl1, nilRV, zeroRc, rfl, nilRV_in _ _ _ _, hDR.symm, rfl⟩
  ·rw [ho] at hokS hDO
   rw [Bool.true_and] at hDO
   by_cases hz : n4 = 0
   ·rw [decide_eq_true hz, Bool.true_and] at hDO
    cases hrk : Yr r0
    ·rw [hrk] at hDO hck
     subst hDO
     rw [if_neg (by simp)] at hDR
     repeat' (first | (refine Zb (.func 148) ?_; refine qC rfl rfl (hokS) ?_; rintro v ρ' L' hle ⟨rfl, rfl, rfl⟩ <;> (try simp only [kA])) | (refine Zb (.func 149) ?_; refine qC rfl rfl (hlf) ?_; rintro v ρ' L' hle ⟨rfl, rfl, rfl⟩ <;> (try simp only [kA])) | (refine Zb (.func 150) ?_; refine qC rfl rfl (hck) ?_; rintro v ρ' L' hle ⟨rfl, rfl, rfl⟩ <;> (try simp only [kA, if_false, Bool.false_eq_true])) | refine zV ?_ | intro _)
     exact qE (L' := []) ⟨hl1, nilRV, zeroRc, rfl, nilRV_in _ _ _ _, hDR.symm, rfl⟩
    ·rw [hrk] at hDO hck
     subst hDO
     rw [if_pos rfl] at hDR
     repeat' (first | (refine Zb (.func 148) ?_; refine qC rfl rfl (hokS) ?_; rintro v ρ' L' hle ⟨rfl, rfl, rfl⟩ <;> (try simp only [kA])) | (refine Zb (.func 149) ?_; refine qC rfl rfl (hlf) ?_; rintro v ρ' L' hle ⟨rfl, rfl, rfl⟩ <;> (try simp only [kA])) | (refine Zb (.func 150) ?_; refine qC rfl rfl (hck) ?_; rintro v ρ' L' hle ⟨rfl, rfl, rfl⟩ <;> (try simp only [kA, if_true])) | refine zV ?_ | intro _)
     exact qE (L' := []) ⟨hl1, v2, r0, rfl, hr2, hpl.trans hDR.symm, rfl⟩
   ·rw [decide_eq_false hz, Bool.false_and] at hDO
    subst hDO
    rw [if_neg (by simp)] at hDR
    repeat' (first | (refine Zb (.func 148) ?_; refine qC rfl rfl (hokS) ?_; rintro v ρ' L' hle ⟨rfl, rfl, rfl⟩ <;> (try simp only [kA])) | (refine Zb (.func 149) ?_; refine qC rfl rfl (hlf) ?_; rintro v ρ' L' hle ⟨rfl, rfl, rfl⟩ <;> (try simp only [kA])) | refine zV ?_ | intro _)
    exact qE (L' := []) ⟨hl1, nilRV, zeroRc, rfl, nilRV_in _ _ _ _, hDR.symm, rfl⟩
end Go.Proofs.E
namespace Go.Proofs.E
open Go
set_option linter.unusedVariables false
set_option linter.unusedSimpArgs false
set_option linter.unusedSectionVars false
set_option maxRecDepth 4000
set_option maxHeartbeats 1000000
attribute [local irreducible] Yl TL TC TE Spec ZN R1 Hp.le EnvLe TS TR YS Zp TP QP
def takeOk (S : LgS) (b : Bs) : Bool := decOk b && decide ((decR b).lsn = S.next)
theorem take16_spec (ρ : Hp) (lb rb pb : Nat) (S : LgS) (v : Value) (sp : List Value) (h : LgIn ρ S v sp) (a : Option Addr) (n c : Nat) (b : Bs) (hb : SIn ρ Zo a n b) (hc : n ≤ c) (hn : n ≤ 1000000) (hu : ZH S.recs + 100 ≤ 1000000) :
  Spec Tryz.prog 77 [.slice a n c, .pointer (some ⟨pb, 0, none⟩)] ρ [b2C pb lb, Ye lb rb S v, Xp S v sp]
   (fun z ρ' L' => z = .bool (takeOk S b) ∧ ρ.le ρ' ∧ ∃ S' v' sp', LgIn ρ' S' v' sp' ∧ (if takeOk S b = true then ∃ x : RR, x.2.plain = decR b ∧ S' = S.more x else S' = S) ∧ L' = [b2C pb lb, Ye lb rb S' v', Xp S' v' sp']) := by
 have hnb := h.next
 refine Za Tryz.func77 rfl rfl rfl fun u R => ?_
 simp only [Zf, kA]
 repeat' (first | (refine Zb (.func 78) ?_; refine qC rfl rfl (rdecode_spec _ a n c b hb hc hn) ?_; rintro z ρ1 L1 hle1 ⟨hl1, vv, r, rfl, hr, hpl, rfl⟩; simp only [kA]) | refine zW ?_ | intro _)
 rename_i b4
 have hls : (decR b).lsn = r.lsn := by rw [← hpl]
 have hn1 := fun ρ' => XC ρ' lb rb S v sp
 cases hdo : decOk b
 ·have e : takeOk S b = false := by unfold takeOk; rw [hdo, Bool.false_and]
  rw [e, show (if false = true then (0 : Int) else 161) = 161 from rfl]
  refine tpA [0,1,2,3,4,5] (.e 6 [] (.f [7,8] .o)) ([[(b4, .cells ⟨Wt vv r⟩ 39 (0, 0))], b2C pb lb]) ?_
  repeat' (refine iT ?_; first | refine rA ?_ | ((refine iE ?_; refine rE ?_) <;> ((try refine Zr ?_); (first | (refine Zb (.func 22) ?_; refine qC rfl rfl (hn1 _ (h.mono hl1)) ?_; rintro v ρ' L' hle ⟨rfl, rfl, rfl⟩ <;> (try simp only [kA])) | (refine qEf ?_; try intro _)) <;> ((try simp only [kA]); refine Zj ?_; refine rN ?_))))
  repeat' (first | refine zW ?_ | intro _)
  exact qE ⟨rfl, hl1, S, v, sp, h.mono hl1, rfl, rfl⟩
 ·rw [show (if true = true then (0 : Int) else 161) = 0 from rfl]
  by_cases hq : r.lsn = S.next
  ·have e : takeOk S b = true := by unfold takeOk; rw [hdo, hls, hq]; simp
   have hqb : ((r.lsn : Nat) : Int) = (S.next : Nat) := by omega
   rw [e]
   have hok : Yr r = true := by rw [← recOk_plain, hpl]; exact (enc_dec hdo).1
   have hcost := costN_le r
   refine tpA [0,1,2,3,4,5] (.e 6 [] (.f [7,8] .o)) ([[(b4, .cells ⟨Wt vv r⟩ 39 (0, 0))], b2C pb lb]) ?_
   repeat' (refine iT ?_; first | refine rA ?_ | ((refine iE ?_; refine rE ?_) <;> ((try refine Zr ?_); (first | (refine Zb (.func 22) ?_; refine qC rfl rfl (hn1 _ (h.mono hl1)) ?_; rintro v ρ' L' hle ⟨rfl, rfl, rfl⟩ <;> (try simp only [kA])) | (refine qEf ?_; try intro _)) <;> ((try simp only [kA]); refine Zj ?_; refine rN ?_))))
   have hnb2 : (((r.lsn : Nat) : Int) != ((S.next : Nat) : Int)) = false := by simp; omega
   repeat' (first | (refine Zb (.func 79) ?_; refine qC rfl rfl (takes_spec16 _ lb rb S v sp (h.mono hl1) (vv, r) hr hok (by dsimp only; omega)) ?_; rintro v9 ρ9 L9 hle9 ⟨rfl, hl9, v10, sp10, hL9, rfl⟩; simp only [kA]) | refine zW ?_ | intro _)
   exact qE ⟨rfl, Hp.le_trans hl1 hl9, S.more (vv, r), v10, sp10, hL9, ⟨(vv, r), hpl, rfl⟩, rfl⟩
  ·have e : takeOk S b = false := by unfold takeOk; rw [hdo, hls]; simp [hq]
   rw [e]
   have hqb : ¬ ((r.lsn : Nat) : Int) = (S.next : Nat) := by omega
   refine tpA [0,1,2,3,4,5] (.e 6 [] (.f [7,8] .o)) ([[(b4, .cells ⟨Wt vv r⟩ 39 (0, 0))], b2C pb lb]) ?_
   repeat' (refine iT ?_; first | refine rA ?_ | ((refine iE ?_; refine rE ?_) <;> ((try refine Zr ?_); (first | (refine Zb (.func 22) ?_; refine qC rfl rfl (hn1 _ (h.mono hl1)) ?_; rintro v ρ' L' hle ⟨rfl, rfl, rfl⟩ <;> (try simp only [kA])) | (refine qEf ?_; try intro _)) <;> ((try simp only [kA]); refine Zj ?_; refine rN ?_))))
   repeat' (first | refine zW ?_ | intro _)
   exact qE ⟨rfl, hl1, S, v, sp, h.mono hl1, rfl, rfl⟩
theorem usedR_100 (l : List RR) : ZH l ≤ 100 * l.length := by
 induction l with
 | nil => exact Nat.le_refl _
 | cons x r ih =>
  have := costN_le x.2
  simp only [ZH, List.map_cons, List.sum_cons, List.length_cons] at ih ⊢; omega
theorem lopen_spec (ρ : Hp) (db : Nat) (k : DK) (D D' : DS) (R : RgS) (hop : Spec Tryz.prog 73 [.pointer (some ⟨db, 0, none⟩)] ρ (Zs db k D) (fun v ρ' L' => ρ.le ρ' ∧ ∃ rb w k', v = .tuple ⟨[.pointer (some ⟨rb, 0, none⟩), .int .i64 0]⟩ ∧ DOk k' D' ∧ RIn ρ' R w ∧ L' = ZO rb db R w ++ Zs db k' D'))
  (ma : Nat) (nx : Int) (hno : ∀ S : LgS, S.R = R → S.ma = 0 → S.nx = 1 → notedS S R.h.note = ({ S with ma := ma, nx := nx }, true)) (hf : R.h.first ≤ 1099511627776) (hma : ma < R.h.first + R.ents.length)
  (hen : ∀ i (hi : i < R.ents.length), decOk (R.ents[i]) = true ∧ (decR (R.ents[i])).lsn = R.h.first + i) (hn : R.ents.length ≤ 1000) :
  Spec Tryz.prog 17 [.pointer (some ⟨db, 0, none⟩)] ρ (Zs db k D) (fun v ρ' L' => ρ.le ρ' ∧ ∃ lb rb w k' l v' sp', v = .tuple ⟨[.pointer (some ⟨lb, 0, none⟩), .int .i64 0]⟩ ∧ DOk k' D' ∧ RIn ρ' R w ∧
   LgIn ρ' ⟨R, R.h.first, R.h.first + R.ents.length - 1, ma, nx, l⟩ v' sp' ∧ l.map (fun x => x.2.plain) = R.ents.map decR ∧
   L' = Ye lb rb ⟨R, R.h.first, R.h.first + R.ents.length - 1, ma, nx, l⟩ v' :: Xp ⟨R, R.h.first, R.h.first + R.ents.length - 1, ma, nx, l⟩ v' sp' :: (ZO rb db R w ++ Zs db k' D')) := by
 refine Za Tryz.func17 rfl rfl rfl fun u R' => ?_
 simp only [Zf, kA]
 repeat' (first | (refine Zb (.func 73) ?_; refine qC rfl rfl hop ?_; rintro v1 ρ1 L1 hle1 ⟨hl1, rb, w, k1, rfl, hD1, hR1, rfl⟩; simp only [kA, List.append_assoc]) | (refine Zb (.func 74) ?_; refine qC rfl rfl (first_spec _ rb db R w) ?_; rintro v ρ' L' hle ⟨rfl, rfl, rfl⟩ <;> (try simp only [kA])) | refine zW ?_ | intro _)
 rename_i lb pb
 rw [show [Value.pointer (some ⟨rb, 0, none⟩), .int .u64 (R.h.first : Nat), .int .u64 0, .int .u64 0, .int .i64 1, .slice none 0 0, .int .i64 0] = lgV rb ⟨R, R.h.first, 0, 0, 1, []⟩ (.slice none 0 0) from rfl]
 have hno0 := hno ⟨R, R.h.first, 0, 0, 1, []⟩ rfl rfl rfl
 have hfd : decide (((R.h.first : Nat) : Int) ≤ 1099511627776) = true := by simp; omega
 refine tpA [0,1] (.e 2 [] (.e 3 [] (.f [4,5,6,7,8,9,10,11] .o))) ([b2C pb lb]) ?_
 repeat' (refine iT ?_; first | refine rA ?_ | ((refine iE ?_; refine rE ?_) <;> ((try refine Zr ?_); (first | (refine Zb (.func 76) ?_; refine qC rfl rfl (note_spec _ rb db R w (hR1.mono (by first | assumption | exact Hp.le_refl _))) ?_; rintro v2 ρ2 L2 hle2 ⟨hl2, e, rfl, hbe, hel, rfl⟩; simp only [kA]) | (refine Zb (.func 75) ?_; refine qC rfl rfl (noted_spec _ lb rb ⟨R, R.h.first, 0, 0, 1, []⟩ _ _ _ _ e.l hbe.s hbe.le) ?_; rw [hel, hno0]; rintro v3 ρ3 L3 hle3 ⟨rfl, rfl, rfl⟩; simp only [kA]) | (refine qEf ?_; try intro _)) <;> ((try simp only [kA]); refine Zj ?_; refine rN ?_))))
 repeat' (first | (refine Zb (.func 15) ?_; refine qC rfl rfl (all_spec _ rb db R w (hR1.mono (by first | assumption | exact Hp.le_refl _))) ?_; rintro v4 ρ4 L4 hle4 ⟨hl4, els, sp4, hown4, hbi, hels, rfl⟩; simp only [kA, List.append_assoc]; refine ZJ (Zw v4 (els.map slv) sp4 22) (fun ρ5 hl5 hfz5 => ?_); obtain ⟨ea, ec, rfl, hec, hE⟩ := hown4.sIn hfz5) | refine zW ?_ | intro _)
 have hen0 : els.length = R.ents.length := by rw [← hels]; simp
 refine Zm [(2, _), (3, _), (6, _), (8, _), (37, _), (38, _)] (fun (ζ : (Nat) × (Hp) × (List RR) × (Value) × (List Value)) => [(39, .int .i64 ζ.1), (7, .bool true)]) (fun (ζ : (Nat) × (Hp) × (List RR) × (Value) × (List Value)) => ζ.2.1) (fun (ζ : (Nat) × (Hp) × (List RR) × (Value) × (List Value)) => b2C pb lb :: Ye lb rb ⟨R, R.h.first, 0, ma, nx, ζ.2.2.1⟩ ζ.2.2.2.1 :: Xp ⟨R, R.h.first, 0, ma, nx, ζ.2.2.1⟩ ζ.2.2.2.1 ζ.2.2.2.2 :: (ZO rb db R w ++ Zs db k1 D')) (fun (ζ : (Nat) × (Hp) × (List RR) × (Value) × (List Value)) => ζ.1 ≤ els.length ∧ ρ5.le ζ.2.1 ∧ LgIn ζ.2.1 ⟨R, R.h.first, 0, ma, nx, ζ.2.2.1⟩ ζ.2.2.2.1 ζ.2.2.2.2 ∧ ζ.2.2.1.map (fun x => x.2.plain) = (R.ents.take ζ.1).map decR) (fun (ζ : (Nat) × (Hp) × (List RR) × (Value) × (List Value)) => els.length - ζ.1) ((0, ρ5, [], .slice none 0 0, [])) (⟨Nat.zero_le _, Hp.le_refl _, ⟨OwnS.nil 10, fun _ hx => by simp at hx, fun _ hx => by simp at hx, by simp [ZH], by dsimp only; omega⟩, rfl⟩) Zc Zc rfl tk ?_
 rintro ⟨i, ρ8, l8, v8, sp8⟩ hI
 try simp only [kA, List.append_assoc] at hI ⊢
 try dsimp only at hI ⊢
 obtain ⟨hi, hl8, hL8, hmp⟩ := hI
 have hl8len : l8.length = i := by have := congrArg List.length hmp; simpa [Nat.min_eq_left (show i ≤ R.ents.length by omega)] using this
 by_cases hlt : i < els.length
 ·obtain ⟨hd1, hd2⟩ := hen i (by omega)
  have hb8 := ((hbi _ (List.getElem_mem hlt)).mono hl5).mono hl8
  have hEe : (els[i]).l = R.ents[i]'(by omega) := by
   have := List.getElem_of_eq hels (i := i) (by simp; omega)
   rw [← this, List.getElem_map]
  have hts : (R.ents.take (i + 1)).map decR = (R.ents.take i).map decR ++ [decR (R.ents[i]'(by omega))] := by
   rw [List.take_succ_eq_append_getElem (show i < R.ents.length by omega), List.map_append]; rfl
  have hrl := recB_le (recOk_lay (enc_dec hd1).1)
  rw [(enc_dec hd1).2.1] at hrl
  obtain ⟨b, off, C, T, frr, rfl, hbx, hcx⟩ := (hE.mono hl8).get hlt
  rw [← hEe] at hd1 hd2 hts hrl
  have hu := usedR_100 l8
  have hus : ZH (LgS.mk R R.h.first 0 ma nx l8).recs + 100 ≤ 1000000 := by dsimp only; omega
  generalize els[i] = e8 at *
  have hbn := hb8.s.len
  have htk : takeOk ⟨R, R.h.first, 0, ma, nx, l8⟩ e8.l = true := by unfold takeOk; rw [hd1, hd2]; simp [LgS.next, hl8len]
  repeat' (first | (refine Zb (.tmp 45) ?_; refine qC rfl rfl (take16_spec _ lb rb pb _ _ _ hL8 e8.a e8.n e8.c e8.l hb8.s hb8.le (by omega) hus) ?_; rintro v9 ρ9 L9 hle9 ⟨rfl, hl9, S9, v10, sp10, hL9, hcs, rfl⟩; rw [if_pos htk] at hcs; obtain ⟨x9, hx9, rfl⟩ := hcs; rw [htk]; simp only [kA]) | refine zW ?_ | intro _)
  refine Zi (i + 1, ρ9, l8 ++ [x9], v10, sp10) (⟨hlt, Hp.le_trans hl8 hl9, hL9, by dsimp only; rw [hts, List.map_append, hmp, List.map_cons, hx9]; rfl⟩) Zc Zc rfl tk inferInstance (by first | omega | (dsimp only; omega))
 ·have hie : i = R.ents.length := by omega
  rw [hie, List.take_of_length_le (Nat.le_refl _)] at hmp
  have hfi := hR1.ok.first
  have hnxt : (LgS.mk R R.h.first 0 ma nx l8).next = R.h.first + R.ents.length := by simp [LgS.next, hl8len, hie]
  have hn1 := fun ρ' => XC ρ' lb rb ⟨R, R.h.first, 0, ma, nx, l8⟩ v8 sp8
  simp only [hnxt] at hn1
  have hge : decide (((ma : Nat) : Int) ≥ ((R.h.first + R.ents.length : Nat) : Int)) = false := by simp; omega
  have hsb : ((R.h.first + R.ents.length : Nat) : Int) - 1 = ((R.h.first + R.ents.length - 1 : Nat) : Int) := by omega
  repeat' (first | refine zW ?_ | intro _)
  refine tpA [0,1,2,3,4,5,6,7] (.e 8 [] (.f [9,10] .o)) ([b2C pb lb, Ye lb rb ⟨R, R.h.first, 0, ma, nx, l8⟩ v8]) ?_
  repeat' (refine iT ?_; first | refine rA ?_ | ((refine iE ?_; refine rE ?_) <;> ((try refine Zr ?_); (first | (refine Zb (.func 22) ?_; refine qC rfl rfl (hn1 _ hL8) ?_; rintro v ρ' L' hle ⟨rfl, rfl, rfl⟩ <;> (try simp only [kA])) | (refine qEf ?_; try intro _)) <;> ((try simp only [kA]); refine Zj ?_; refine rN ?_))))
  repeat' (first | refine zW ?_ | intro _)
  refine tpA [0,1] (.e 2 [3,4,5] (.e 6 [] .o)) ([b2C pb lb]) ?_
  repeat' (refine iT ?_; first | refine rA ?_ | ((refine iE ?_; refine rE ?_) <;> ((try refine Zr ?_); (first | (refine Zb (.func 22) ?_; refine qC rfl rfl (hn1 _ hL8) ?_; rintro v ρ' L' hle ⟨rfl, rfl, rfl⟩ <;> (try simp only [kA])) | (refine qEf ?_; try intro _)) <;> ((try simp only [kA]); refine Zj ?_; refine rN ?_))))
  repeat' (first | refine zW ?_ | intro _)
  rw [hsb]
  have hla := Hp.le_trans hl2 (Hp.le_trans hl4 (Hp.le_trans hl5 hl8))
  exact qE (L' := Ye lb rb ⟨R, R.h.first, R.h.first + R.ents.length - 1, ma, nx, l8⟩ v8 :: Xp ⟨R, R.h.first, R.h.first + R.ents.length - 1, ma, nx, l8⟩ v8 sp8 :: (ZO rb db R w ++ Zs db k1 D')) ⟨Hp.le_trans hl1 hla, lb, rb, w, k1, l8, v8, sp8, rfl, hD1, hR1.mono hla, ⟨hL8.own, hL8.rin, hL8.ok, hL8.used, hL8.base⟩, hmp, rfl⟩
end Go.Proofs.E
namespace Go.Proofs.E
open Go
set_option linter.unusedVariables false
set_option linter.unusedSimpArgs false
set_option linter.unusedSectionVars false
set_option maxRecDepth 4000
set_option maxHeartbeats 1000000
attribute [local irreducible] Yl TL TC TE Spec ZN R1 Hp.le EnvLe TS TR YS Zp
theorem LgS.trunc_good {S : LgS} {D : DS} {fr ma nx : Nat} (g : Good S.R D) (hm : fr - S.base ≤ S.R.ents.length) (ht : S.R.h.turn < 1073741824) (hnx : S.R.next < 1099511627776) :
  ∃ D', S.trunc fr ma nx D = (S.cutTo (S.R.minus (fr - S.base) (YV [ma, nx] 2)) fr ma nx (Yo S fr), D', 0) ∧ Good (S.R.minus (fr - S.base) (YV [ma, nx] 2)) D' := by
 obtain ⟨D', e, g'⟩ := g.cut (note := YV [ma, nx] 2) hm ht (by simp [YV, Zh]) hnx
 refine ⟨D', ?_, g'⟩
 unfold LgS.trunc
 rw [e]
 exact if_pos rfl
theorem sector_spec (ρ : Hp) (rb rbx db : Nat) (R : RgS) (w : RW) (k : DK) (D : DS) (hD : DOk k D) (place : Int) (h0 : 0 ≤ place) (h1 : place ≤ 1000000) :
  Spec Tryz.prog 187 [.int .i64 place, .pointer (some ⟨rbx, 0, none⟩)] ρ ([[(rbx, .cells ⟨[.pointer (some ⟨rb, 0, none⟩)]⟩ 30 (0, 0))], [(rb, .cells ⟨rgV R db w⟩ 123 (0, 0))]] ++ Zs db k D)
   (fun v ρ' L' => v = .tuple ⟨[bv (D.read (2 + place)).2.1, .int .i64 (D.read (2 + place)).2.2]⟩ ∧ ρ' = ρ ∧ DOk k (D.read (2 + place)).1 ∧ L' = [[(rbx, .cells ⟨[.pointer (some ⟨rb, 0, none⟩)]⟩ 30 (0, 0))], [(rb, .cells ⟨rgV R db w⟩ 123 (0, 0))]] ++ Zs db k (D.read (2 + place)).1) := by
 have h64 := read_len hD.ok (2 + place)
 have hpl : ((D.read (2 + place)).2.1.map Zo).length = 64 := by simpa using h64
 have hp1 := Yf (D.read (2 + place)).2.1
 refine Za Tryz.func187 rfl rfl rfl fun u R0 => ?_
 simp only [Zf, kA]
 repeat' (first | (refine Zb (.func 135) ?_; refine qC rfl rfl (kread _ db k D _ hD) ?_; rintro v ρ' L' hle ⟨rfl, rfl, hD2, rfl⟩ <;> (try simp only [kA])) | refine zW ?_ | intro _)
 exact qE (L' := [[(rbx, .cells ⟨[.pointer (some ⟨rb, 0, none⟩)]⟩ 30 (0, 0))], [(rb, .cells ⟨rgV R db w⟩ 123 (0, 0))]] ++ Zs db k (D.read (2 + place)).1) ⟨rfl, rfl, hD2, rfl⟩
theorem fit_copy {size k : Nat} {acc s : Bs} (hl : acc.length = 52 * k) (hk : 52 * k ≤ size) (hs : s.length = 52) : stc ((YX size acc).map Zo) (52 * k) ((s.map Zo).take (size - 52 * k)) = (YX size (acc ++ s)).map Zo := by
 have e1 : YX size acc = acc ++ z8 (size - 52 * k) := by
  unfold YX z8
  rw [List.take_append, List.take_of_length_le (by omega), List.take_replicate, hl]
  congr 2; omega
 have e2 : YX size (acc ++ s) = acc ++ (s.take (size - 52 * k) ++ z8 (size - 52 * k - 52)) := by
  unfold YX z8
  rw [List.append_assoc, List.take_append, List.take_of_length_le (by omega), hl, List.take_append, List.take_replicate, hs]
  congr 3; omega
 rw [e1, e2]
 unfold stc
 simp only [List.map_append, List.map_take]
 rw [List.take_left' (by simpa using hl), ← List.drop_drop, List.drop_left' (by simpa using hl), List.append_assoc]
 congr 2
 simp only [z8, List.map_replicate, List.drop_replicate, List.length_take, List.length_map, hs]
 congr 1; omega
end Go.Proofs.E
namespace Go.Proofs.E
open Go
set_option linter.unusedVariables false
set_option linter.unusedSimpArgs false
set_option linter.unusedSectionVars false
set_option maxRecDepth 4000
set_option maxHeartbeats 1000000
attribute [local irreducible] Yl TL TC TE Spec ZN R1 Hp.le EnvLe TS TR YS Zp TP QP
abbrev secS (rb rbx db : Nat) (R : RgS) (w : RW) : SH := [[(rbx, .cells ⟨[.pointer (some ⟨rb, 0, none⟩)]⟩ 30 (0, 0))], [(rb, .cells ⟨rgV R db w⟩ 123 (0, 0))]]
def entAns (ρ' : Hp) (r : Option Bs × DS × Int) (v : Value) : Prop := match r.1 with
 | none => v = .tuple ⟨[.slice none 0 0, .bool false, .int .i64 r.2.2]⟩
 | some b => ∃ e : BSl, v = .tuple ⟨[slv e, .bool true, .int .i64 0]⟩ ∧ BIn ρ' e ∧ e.l = b
theorem entry_spec (ρ : Hp) (rb rbx db : Nat) (R : RgS) (w : RW) (k : DK) (D : DS) (hD : DOk k D) (h : Hd) (na : Option Addr) (nn nc n at' left : Nat) (hsz : 0 < h.size) (hsz2 : h.size ≤ 1000) (hat : at' ≤ 1000000) (ht : h.turn ≤ 1073741824) (hn : n ≤ 1099511627776) (hlf : left ≤ 1000) :
  Spec Tryz.prog 188 [.agg ⟨hdV h na nn nc⟩, .int .u64 n, .int .i64 at', .int .i64 left, .func (.func 187) ⟨[]⟩ ⟨[.pointer (some ⟨rbx, 0, none⟩)]⟩] ρ (secS rb rbx db R w ++ Zs db k D)
   (fun v ρ' L' => ρ.le ρ' ∧ entAns ρ' (entryR h n at' left D) v ∧ DOk k (entryR h n at' left D).2.1 ∧ L' = secS rb rbx db R w ++ Zs db k (entryR h n at' left D).2.1) := by
 by_cases hl0 : left = 0
 ·have he : entryR h n at' left D = (none, D, 0) := by unfold entryR; rw [if_pos hl0]
  rw [he]
  refine Za Tryz.func188 rfl rfl rfl fun u R0 => ?_
  simp only [Zf, kA]
  repeat' (first | refine zW ?_ | intro _)
  exact qE (L' := secS rb rbx db R w ++ Zs db k D) ⟨Hp.le_refl _, rfl, hD, rfl⟩
 ·refine Za Tryz.func188 rfl rfl rfl fun u R0 => ?_
  simp only [Zf, kA]
  generalize hRES : entryR h n at' left D = RES at *
  repeat' (first | refine zW ?_ | intro _)
  rename_i hb
  refine Zm [(1, _), (2, _), (3, _), (4, _), (5, _), (10, _), (11, _), (12, _)] (fun (ζ : (Nat) × (Nat) × (Nat) × (Hp) × (Value) × (List (Nat × Obj)) × (Bs) × (DS)) => [(16, .int .i64 ζ.1), (14, .int .i64 ζ.2.2.1), (15, .int .u64 ζ.2.1), (13, ζ.2.2.2.2.1)]) (fun (ζ : (Nat) × (Nat) × (Nat) × (Hp) × (Value) × (List (Nat × Obj)) × (Bs) × (DS)) => ζ.2.2.2.1) (fun (ζ : (Nat) × (Nat) × (Nat) × (Hp) × (Value) × (List (Nat × Obj)) × (Bs) × (DS)) => [ζ.2.2.2.2.2.1, [(hb, .cells ⟨hdV h na nn nc⟩ 120 (0, 0))]] ++ (secS rb rbx db R w ++ Zs db k ζ.2.2.2.2.2.2.2)) (fun (ζ : (Nat) × (Nat) × (Nat) × (Hp) × (Value) × (List (Nat × Obj)) × (Bs) × (DS)) => ρ.le ζ.2.2.2.1 ∧ DOk k ζ.2.2.2.2.2.2.2 ∧ ((ζ.1 = 0 ∧ ζ.2.1 = 0 ∧ ζ.2.2.1 = 0 ∧ ζ.2.2.2.2.1 = .slice none 0 0 ∧ ζ.2.2.2.2.2.1 = [] ∧ ζ.2.2.2.2.2.2.2 = D) ∨ (1 ≤ ζ.1 ∧ ζ.1 ≤ Zv ζ.2.2.1 ∧ ζ.2.2.2.2.2.2.1.length = 52 * ζ.1 ∧ ζ.2.2.1 ≤ 8000 ∧ ζ.2.1 ≤ 1073741824 ∧ entGo h n at' ζ.2.1 ζ.2.2.1 (Zv ζ.2.2.1 - ζ.1) ζ.1 ζ.2.2.2.2.2.2.1 ζ.2.2.2.2.2.2.2 = RES ∧ ∃ bb, ζ.2.2.2.2.1 = .slice (some ⟨bb, 0, none⟩) ζ.2.2.1 ζ.2.2.1 ∧ ζ.2.2.2.2.2.1 = [(bb, .cells ⟨(YX ζ.2.2.1 ζ.2.2.2.2.2.2.1).map Zo⟩ 5 (0, 0))]))) (fun (ζ : (Nat) × (Nat) × (Nat) × (Hp) × (Value) × (List (Nat × Obj)) × (Bs) × (DS)) => 200 - ζ.1) ((0, 0, 0, ρ, .slice none 0 0, [], [], D)) (⟨Hp.le_refl _, hD, .inl ⟨rfl, rfl, rfl, rfl, rfl, rfl⟩⟩) Zc Zc rfl tk ?_
  rintro ⟨k0, turn, size, ρ1, vb, c, acc, D1⟩ hI
  try simp only [kA, List.append_assoc] at hI ⊢
  try dsimp only at hI ⊢
  obtain ⟨hle1, hD1, hor⟩ := hI
  have hrm : ((at' : Int) + (k0 : Int)).tmod (h.size : Int) = (((at' + k0) % h.size : Nat) : Int) := by
   rw [Int.tmod_eq_emod_of_nonneg (by omega), Int.natCast_emod, Int.natCast_add]
  have hml := Nat.mod_lt (at' + k0) hsz
  have hsec := sector_spec ρ1 rb rbx db R w k D1 hD1 (((at' + k0) % h.size : Nat) : Int) (by omega) (by omega)
  have hidx : (2 : Int) + (((at' + k0) % h.size : Nat) : Int) = ((2 + (at' + k0) % h.size : Nat) : Int) := by omega
  rw [hidx] at hsec
  have h64 := read_len hD1.ok ((2 + (at' + k0) % h.size : Nat) : Int)
  rcases hor with ⟨hk0, rfl, rfl, rfl, rfl, rfl⟩ | ⟨hk0, hk1, hacc, hs8, ht8, hgo, bb, rfl, rfl⟩
  ·have hE : RES = if (D1.read ((2 + (at' + k0) % h.size : Nat) : Int)).2.2 ≠ 0 then (none, (D1.read ((2 + (at' + k0) % h.size : Nat) : Int)).1, (D1.read ((2 + (at' + k0) % h.size : Nat) : Int)).2.2) else entGo0 h n at' left (D1.read ((2 + (at' + k0) % h.size : Nat) : Int)).2.1 (D1.read ((2 + (at' + k0) % h.size : Nat) : Int)).1 := by
    rw [← hRES]; unfold entryR; rw [if_neg hl0, hk0, Nat.add_zero]
   generalize D1.read ((2 + (at' + k0) % h.size : Nat) : Int) = r at *
   obtain ⟨D2, s, ec⟩ := r
   dsimp only at hsec h64 hE
   have hpl : (s.map Zo).length = 64 := by simpa using h64
   have hp1 := Yf s
   repeat' (first | (simp only [hrm]; refine Zb (.tmp 32) ?_; refine qC rfl rfl hsec ?_; rintro v2 ρ2 L2 hle2 ⟨rfl, rfl, hD2, rfl⟩; simp only [kA, List.append_assoc]) | refine zW ?_ | intro _)
   by_cases hec : ec = 0
   ·subst hec
    rw [show ((0 : Int) != 0) = false from rfl]
    rename_i bs
    refine tc_freeze [(bs, .cells ⟨s.map Zo⟩ 117 (0, 0))] (h := Rem.here) (fun ρ3 hle3 hfz => ?_)
    rw [if_neg (by simp)] at hE
    have hs4 : SIn ρ3 Zo (some ⟨bs, 0, none⟩) 4 (s.take 4) := by have := We (hfz _ (List.mem_singleton.2 rfl)) 0 4 (by omega); rwa [List.drop_zero] at this
    have hs2 : SIn ρ3 Zo (some ⟨bs, 0 + 9 * 1, none⟩) 2 ((s.drop 9).take 2) := We (hfz _ (List.mem_singleton.2 rfl)) 9 2 (by omega)
    have hn4 := numb_spec ρ3 (some ⟨bs, 0, none⟩) 4 64 _ hs4 (by omega)
    have hn2 := numb_spec ρ3 (some ⟨bs, 0 + 9 * 1, none⟩) 2 55 _ hs2 (by omega)
    have hb4 : Yh s < 4294967296 := by have := XJ (s.take 4); rw [show (s.take 4).length = 4 by simp; omega] at this; exact this
    have hb2 : Zx s < 65536 := by have := XJ ((s.drop 9).take 2); rw [show ((s.drop 9).take 2).length = 2 by simp; omega] at this; exact this
    change Spec _ _ _ _ _ (fun v ρ' L' => v = .int .u64 (Yh s : Nat) ∧ ρ' = ρ3 ∧ L' = []) at hn4
    change Spec _ _ _ _ _ (fun v ρ' L' => v = .int .u64 (Zx s : Nat) ∧ ρ' = ρ3 ∧ L' = []) at hn2
    repeat' (first | refine zW ?_ | intro _)
    refine tpA [0,2] (.e 1 [] (.e 3 [] (.f [4,5,6] .o))) ([]) ?_
    repeat' (refine iT ?_; first | refine rA ?_ | ((refine iE ?_; refine rE ?_) <;> ((try refine Zr ?_); (first | (refine Zb (.func 239) ?_; refine qC rfl rfl (hn4) ?_; rintro v ρ' L' hle ⟨rfl, rfl, rfl⟩ <;> (try simp only [kA])) | (refine Zb (.func 239) ?_; refine qC rfl rfl (hn2) ?_; rintro v ρ' L' hle ⟨rfl, rfl, rfl⟩ <;> (try simp only [kA])) | (refine qEf ?_; try intro _)) <;> ((try simp only [kA]); refine Zj ?_; refine rN ?_))))
    all_goals have hss := sects_spec ρ' (Zx s) (by omega)
    all_goals by_cases hbad : Yh s < 1 ∨ h.turn < Yh s ∨ 8000 < Zx s ∨ left < Zv (Zx s)
    ·have hEb : RES = (none, D2, 0) := by rw [hE]; unfold entGo0; rw [if_pos hbad]
     by_cases h1 : Yh s < 1
     ·repeat' (first | (refine Zb (.func 62) ?_; refine qC rfl rfl (hss) ?_; rintro v ρ' L' hle ⟨rfl, rfl, rfl⟩ <;> (try simp only [kA])) | refine zW ?_ | intro _)
      all_goals rw [hEb]
      all_goals exact qE (L' := secS rb rbx db R w ++ Zs db k D2) ⟨Hp.le_trans hle1 ‹_›, rfl, hD2, rfl⟩
     ·by_cases h2 : h.turn < Yh s
      ·repeat' (first | (refine Zb (.func 62) ?_; refine qC rfl rfl (hss) ?_; rintro v ρ' L' hle ⟨rfl, rfl, rfl⟩ <;> (try simp only [kA])) | refine zW ?_ | intro _)
       all_goals rw [hEb]
       all_goals exact qE (L' := secS rb rbx db R w ++ Zs db k D2) ⟨Hp.le_trans hle1 ‹_›, rfl, hD2, rfl⟩
      ·by_cases h3 : 8000 < Zx s
       ·repeat' (first | (refine Zb (.func 62) ?_; refine qC rfl rfl (hss) ?_; rintro v ρ' L' hle ⟨rfl, rfl, rfl⟩ <;> (try simp only [kA])) | refine zW ?_ | intro _)
        all_goals rw [hEb]
        all_goals exact qE (L' := secS rb rbx db R w ++ Zs db k D2) ⟨Hp.le_trans hle1 ‹_›, rfl, hD2, rfl⟩
       ·have h4 : left < Zv (Zx s) := by omega
        repeat' (first | (refine Zb (.func 62) ?_; refine qC rfl rfl (hss) ?_; rintro v ρ' L' hle ⟨rfl, rfl, rfl⟩ <;> (try simp only [kA])) | refine zW ?_ | intro _)
        all_goals rw [hEb]
        all_goals exact qE (L' := secS rb rbx db R w ++ Zs db k D2) ⟨Hp.le_trans hle1 ‹_›, rfl, hD2, rfl⟩
    ·have hEg : RES = if ZV (Yh s) n (YX (Zx s) (s.drop 12)) 0 = s then entGo h n at' (Yh s) (Zx s) (Zv (Zx s) - 1) 1 (s.drop 12) D2 else (none, D2, 0) := by rw [hE]; unfold entGo0; rw [if_neg hbad]
     have g1 : 1 ≤ Yh s := by omega
     have g2 : Yh s ≤ h.turn := by omega
     have g3 : Zx s ≤ 8000 := by omega
     have g4 : Zv (Zx s) ≤ left := by omega
     clear hbad
     repeat' (first | (refine Zb (.func 62) ?_; refine qC rfl rfl (hss) ?_; rintro v ρ' L' hle ⟨rfl, rfl, rfl⟩ <;> (try simp only [kA])) | (refine tl_makeSlice rfl rfl (by omega) (by omega) (by omega) (by omega) rfl (fun bb => ?_); simp only [Nat.mul_one, made_z8, Int.toNat_natCast]) | refine zW ?_ | intro _)
     rw [show z8 (Zx s) = YX (Zx s) [] by simp [YX, z8]]
     have hacc1 : ([] : Bs).length = 52 * k0 := by simp [hk0]
     have hk52 : 52 * k0 ≤ Zx s := by omega
     have hkk : k0 < Zv (Zx s) := by have := Wa (Zx s); omega
     have hrem : ZV (Yh s) n (YX (Zx s) (([] : Bs) ++ s.drop 12)) k0 ≠ s → RES = (none, D2, 0) := fun hp => by
      rw [hk0, List.nil_append] at hp; rw [hEg, if_neg hp]
     have hgo : ZV (Yh s) n (YX (Zx s) (([] : Bs) ++ s.drop 12)) k0 = s → entGo h n at' (Yh s) (Zx s) (Zv (Zx s) - (k0 + 1)) (k0 + 1) (([] : Bs) ++ s.drop 12) D2 = RES := fun hp => by
      rw [hk0, List.nil_append] at hp ⊢; rw [hEg, if_pos hp]
     have hst := fit_copy (size := (Zx s)) (k := k0) (acc := ([] : Bs)) (s := s.drop 12) (by simpa using hacc1) hk52 (by simp; omega)
     have hsn : SIn _ Zo (some ⟨bs, 0 + 12 * 1, none⟩) 52 ((s.drop 12).take 52) := We (hfz _ (List.mem_singleton.2 rfl)) 12 52 (by omega)
     rw [List.take_of_length_le (by simp; omega)] at hsn
     have hdst : (if (Zx s) = 52 * k0 then some (⟨bb, 0, none⟩ : Addr) else some ⟨bb, 0 + 52 * k0 * 1, none⟩) = some ⟨bb, 52 * k0, none⟩ := by
      by_cases hx : (Zx s) = 52 * k0
      ·rw [if_pos hx]; have : k0 = 0 := by rcases sects_mul hkk with h | h <;> omega
       rw [this]
      ·rw [if_neg hx]; simp
     have hton : (52 * (k0 : Int)).toNat = 52 * k0 := by omega
     refine tpA [0,1,2,3,4] (.e 5 [] .o) ([]) ?_
     repeat' (refine iT ?_; first | refine rA ?_ | ((refine iE ?_; refine rE ?_) <;> ((try refine Zr ?_); (first | (simp only [hton, Option.map_some, Yw, hdst]; refine tl_copy (ys := (s.drop 12).map Zo) rfl rfl (SIn.srcV hsn) (by simp; omega) (Yf _) (by simp [XS]; omega) rfl ?_; simp only [hst]) | (refine qEf ?_; try intro _)) <;> ((try simp only [kA]); refine Zj ?_; refine rN ?_))))
     all_goals (repeat' (first | refine zW ?_ | intro _))
     have hown : OwnS (.slice (some ⟨bb, 0, none⟩) (Zx s) (Zx s)) (Zx s) ((YX (Zx s) (([] : Bs) ++ s.drop 12)).map Zo) [] 1 := ⟨.inr ⟨bb, (Zx s), rfl, by simp [XS], by simp [XS], Nat.le_refl _⟩⟩
     have hrd := hown.rd (ρ := ρ') (T := 5)
     rw [show Zw (.slice (some ⟨bb, 0, none⟩) (Zx s) (Zx s)) ((YX (Zx s) (([] : Bs) ++ s.drop 12)).map Zo) [] 5 = [(bb, .cells ⟨(YX (Zx s) (([] : Bs) ++ s.drop 12)).map Zo⟩ 5 (0, 0))] by simp [Zw]] at hrd
     have hbs := hfz _ (List.mem_singleton.2 rfl)
     dsimp only at hbs
     have hld : List.take 64 (List.drop 0 (s.map Zo)) = s.map Zo := by rw [List.drop_zero, List.take_of_length_le (by omega)]
     have hpt := part_spec ρ' _ (Yh s) n _ (Zx s) (Zx s) _ hrd (Nat.le_refl _) k0 (by omega) hn (by omega) hkk
     have hpl2 : ((ZV (Yh s) n (YX (Zx s) (([] : Bs) ++ s.drop 12)) k0).map Zo).length = 64 := by simp [partB_len]
     by_cases hp : ZV (Yh s) n (YX (Zx s) (([] : Bs) ++ s.drop 12)) k0 = s
     ·rw [hp] at hpt
      refine tpA [0,1,2,3,5] (.e 4 [] (.f [6] .o)) ([]) ?_
      repeat' (refine iT ?_; first | refine rA ?_ | ((refine iE ?_; refine rE ?_) <;> ((try refine Zr ?_); (first | (refine Zb (.func 131) ?_; refine qC rfl rfl hpt ?_; rintro v4 ρ4 L4 hle4 ⟨rfl, rfl, rfl⟩; try simp only [kA]) | (refine qEf ?_; try intro _)) <;> ((try simp only [kA]); refine Zj ?_; refine rN ?_))))
      all_goals (repeat' (first | refine zW ?_ | intro _))
      all_goals refine Zi (k0 + 1, (Yh s), (Zx s), _, _, _, ([] : Bs) ++ s.drop 12, D2) (⟨Hp.le_trans hle1 hle3, hD2, .inr ⟨by dsimp only; omega, hkk, by simp [hacc1]; omega, by dsimp only; omega, by dsimp only; omega, hgo hp, bb, rfl, rfl⟩⟩) Zc Zc rfl tk inferInstance (by first | omega | (dsimp only; omega))
     ·have hlm1 : (ZV (Yh s) n (YX (Zx s) (([] : Bs) ++ s.drop 12)) k0).length = 64 := partB_len _ _ _ _
      refine tpA [0,1,2,3,5] (.e 4 [] (.f [6] .o)) ([]) ?_
      repeat' (refine iT ?_; first | refine rA ?_ | ((refine iE ?_; refine rE ?_) <;> ((try refine Zr ?_); (first | (refine Zb (.func 131) ?_; refine qC rfl rfl hpt ?_; rintro v4 ρ4 L4 hle4 ⟨rfl, rfl, rfl⟩; try simp only [kA]) | (refine qEf ?_; try intro _)) <;> ((try simp only [kA]); refine Zj ?_; refine rN ?_))))
      all_goals (repeat' (first | refine zW ?_ | intro _))
      all_goals rw [hrem hp]
      all_goals exact qE (L' := secS rb rbx db R w ++ Zs db k D2) ⟨Hp.le_trans hle1 hle3, rfl, hD2, rfl⟩
   ·have hcb : (ec != 0) = true := by simpa using hec
    rw [hcb]
    rw [if_pos hec] at hE
    repeat' (first | refine zW ?_ | intro _)
    rw [hE]
    exact qE (L' := secS rb rbx db R w ++ Zs db k D2) ⟨hle1, rfl, hD2, rfl⟩
  ·have hss := sects_spec ρ1 size (by omega)
   have h154 := sects_le hs8
   by_cases hlt : k0 < Zv size
   ·obtain ⟨j, hj⟩ : ∃ j, Zv size - k0 = j + 1 := ⟨Zv size - k0 - 1, by omega⟩
    have hj2 : Zv size - (k0 + 1) = j := by omega
    have hE := hgo
    rw [hj] at hE
    simp only [entGo] at hE
    generalize D1.read ((2 + (at' + k0) % h.size : Nat) : Int) = r at *
    obtain ⟨D2, s, ec⟩ := r
    dsimp only at hsec h64 hE
    have hpl : (s.map Zo).length = 64 := by simpa using h64
    have hp1 := Yf s
    repeat' (first | (refine Zb (.func 62) ?_; refine qC rfl rfl (hss) ?_; rintro v ρ' L' hle ⟨rfl, rfl, rfl⟩ <;> (try simp only [kA])) | (simp only [hrm]; refine Zb (.tmp 32) ?_; refine qC rfl rfl hsec ?_; rintro v2 ρ2 L2 hle2 ⟨rfl, rfl, hD2, rfl⟩; simp only [kA, List.append_assoc]) | refine zW ?_ | intro _)
    by_cases hec : ec = 0
    ·subst hec
     rw [show ((0 : Int) != 0) = false from rfl]
     rename_i bs
     refine tc_freeze [(bs, .cells ⟨s.map Zo⟩ 117 (0, 0))] (h := Rem.here) (fun ρ3 hle3 hfz => ?_)
     rw [if_neg (by simp)] at hE
     repeat' (first | refine zW ?_ | intro _)
     have hacc1 : acc.length = 52 * k0 := hacc
     have hk52 : 52 * k0 ≤ size := by rcases sects_mul hlt with h | h <;> omega
     have hkk : k0 < Zv size := hlt
     have hb4 : turn ≤ 1073741824 := ht8
     have hrem : ZV turn n (YX size (acc ++ s.drop 12)) k0 ≠ s → RES = (none, D2, 0) := fun hp => by
      rw [← hE, if_neg hp]
     have hgo2 : ZV turn n (YX size (acc ++ s.drop 12)) k0 = s → entGo h n at' turn size (Zv size - (k0 + 1)) (k0 + 1) (acc ++ s.drop 12) D2 = RES := fun hp => by
      rw [hj2, ← hE, if_pos hp]
     have hst := fit_copy (size := size) (k := k0) (acc := acc) (s := s.drop 12) (by simpa using hacc1) hk52 (by simp; omega)
     have hsn : SIn _ Zo (some ⟨bs, 0 + 12 * 1, none⟩) 52 ((s.drop 12).take 52) := We (hfz _ (List.mem_singleton.2 rfl)) 12 52 (by omega)
     rw [List.take_of_length_le (by simp; omega)] at hsn
     have hdst : (if size = 52 * k0 then some (⟨bb, 0, none⟩ : Addr) else some ⟨bb, 0 + 52 * k0 * 1, none⟩) = some ⟨bb, 52 * k0, none⟩ := by
      by_cases hx : size = 52 * k0
      ·rw [if_pos hx]; have : k0 = 0 := by rcases sects_mul hkk with h | h <;> omega
       rw [this]
      ·rw [if_neg hx]; simp
     have hton : (52 * (k0 : Int)).toNat = 52 * k0 := by omega
     refine tpA [0,1,2,3,4] (.e 5 [] .o) ([]) ?_
     repeat' (refine iT ?_; first | refine rA ?_ | ((refine iE ?_; refine rE ?_) <;> ((try refine Zr ?_); (first | (simp only [hton, Option.map_some, Yw, hdst]; refine tl_copy (ys := (s.drop 12).map Zo) rfl rfl (SIn.srcV hsn) (by simp; omega) (Yf _) (by simp [XS]; omega) rfl ?_; simp only [hst]) | (refine qEf ?_; try intro _)) <;> ((try simp only [kA]); refine Zj ?_; refine rN ?_))))
     all_goals (repeat' (first | refine zW ?_ | intro _))
     have hown : OwnS (.slice (some ⟨bb, 0, none⟩) size size) size ((YX size (acc ++ s.drop 12)).map Zo) [] 1 := ⟨.inr ⟨bb, size, rfl, by simp [XS], by simp [XS], Nat.le_refl _⟩⟩
     have hrd := hown.rd (ρ := ρ3) (T := 5)
     rw [show Zw (.slice (some ⟨bb, 0, none⟩) size size) ((YX size (acc ++ s.drop 12)).map Zo) [] 5 = [(bb, .cells ⟨(YX size (acc ++ s.drop 12)).map Zo⟩ 5 (0, 0))] by simp [Zw]] at hrd
     have hbs := hfz _ (List.mem_singleton.2 rfl)
     dsimp only at hbs
     have hld : List.take 64 (List.drop 0 (s.map Zo)) = s.map Zo := by rw [List.drop_zero, List.take_of_length_le (by omega)]
     have hpt := part_spec ρ3 _ turn n _ size size _ hrd (Nat.le_refl _) k0 (by omega) hn (by omega) hkk
     have hpl2 : ((ZV turn n (YX size (acc ++ s.drop 12)) k0).map Zo).length = 64 := by simp [partB_len]
     by_cases hp : ZV turn n (YX size (acc ++ s.drop 12)) k0 = s
     ·rw [hp] at hpt
      refine tpA [0,1,2,3,5] (.e 4 [] (.f [6] .o)) ([]) ?_
      repeat' (refine iT ?_; first | refine rA ?_ | ((refine iE ?_; refine rE ?_) <;> ((try refine Zr ?_); (first | (refine Zb (.func 131) ?_; refine qC rfl rfl hpt ?_; rintro v4 ρ4 L4 hle4 ⟨rfl, rfl, rfl⟩; try simp only [kA]) | (refine qEf ?_; try intro _)) <;> ((try simp only [kA]); refine Zj ?_; refine rN ?_))))
      all_goals (repeat' (first | refine zW ?_ | intro _))
      all_goals refine Zi (k0 + 1, turn, size, _, _, _, acc ++ s.drop 12, D2) (⟨Hp.le_trans hle1 hle3, hD2, .inr ⟨by dsimp only; omega, hkk, by simp [hacc1]; omega, by dsimp only; omega, by dsimp only; omega, hgo2 hp, bb, rfl, rfl⟩⟩) Zc Zc rfl tk inferInstance (by first | omega | (dsimp only; omega))
     ·have hlm1 : (ZV turn n (YX size (acc ++ s.drop 12)) k0).length = 64 := partB_len _ _ _ _
      refine tpA [0,1,2,3,5] (.e 4 [] (.f [6] .o)) ([]) ?_
      repeat' (refine iT ?_; first | refine rA ?_ | ((refine iE ?_; refine rE ?_) <;> ((try refine Zr ?_); (first | (refine Zb (.func 131) ?_; refine qC rfl rfl hpt ?_; rintro v4 ρ4 L4 hle4 ⟨rfl, rfl, rfl⟩; try simp only [kA]) | (refine qEf ?_; try intro _)) <;> ((try simp only [kA]); refine Zj ?_; refine rN ?_))))
      all_goals (repeat' (first | refine zW ?_ | intro _))
      all_goals rw [hrem hp]
      all_goals exact qE (L' := secS rb rbx db R w ++ Zs db k D2) ⟨Hp.le_trans hle1 hle3, rfl, hD2, rfl⟩
    ·have hcb : (ec != 0) = true := by simpa using hec
     rw [hcb]
     rw [if_pos hec] at hE
     repeat' (first | refine zW ?_ | intro _)
     rw [← hE]
     exact qE (L' := secS rb rbx db R w ++ Zs db k D2) ⟨hle1, rfl, hD2, rfl⟩
   ·have hks : k0 = Zv size := by omega
    rw [show Zv size - k0 = 0 by omega] at hgo
    simp only [entGo] at hgo
    repeat' (first | (refine Zb (.func 62) ?_; refine qC rfl rfl (hss) ?_; rintro v ρ' L' hle ⟨rfl, rfl, rfl⟩ <;> (try simp only [kA])) | refine zW ?_ | intro _)
    refine Yb [(bb, .cells ⟨(YX size acc).map Zo⟩ 5 (0, 0))] (h := Rem.here) (fun ρ3 hle3 hfz => ?_)
    have hbb := hfz _ (List.mem_singleton.2 rfl)
    dsimp only at hbb
    have hsi : SIn ρ3 Zo (some ⟨bb, 0, none⟩) size (YX size acc) := by have := We hbb 0 size (by simp [XS]); rwa [List.drop_zero, List.take_of_length_le (by simp [XS])] at this
    rw [← hgo]
    exact qE (L' := secS rb rbx db R w ++ Zs db k D1) ⟨Hp.le_trans hle1 hle3, ⟨⟨some ⟨bb, 0, none⟩, size, size, YX size acc⟩, rfl, ⟨hsi, Nat.le_refl _⟩, rfl⟩, hD1, rfl⟩
theorem entGo_some {h : Hd} {n at' turn size : Nat} : ∀ (j k : Nat) (acc : Bs) (D : DS) {b : Bs} {D' : DS} {e : Int}, entGo h n at' turn size j k acc D = (some b, D', e) → b.length = size ∧ e = 0
 | 0, k, acc, D, b, D', e, hh => by
  simp only [entGo, Prod.mk.injEq, Option.some.injEq] at hh
  exact ⟨by rw [← hh.1, XS], hh.2.2.symm⟩
 | j + 1, k, acc, D, b, D', e, hh => by
  simp only [entGo] at hh
  split at hh
  ·cases hh
  ·split at hh
   ·exact entGo_some j _ _ _ hh
   ·cases hh
theorem entryR_some {h : Hd} {n at' left : Nat} {D D' : DS} {b : Bs} {e : Int} (hh : entryR h n at' left D = (some b, D', e)) : b.length ≤ 8000 ∧ Zv b.length ≤ left ∧ e = 0 := by
 unfold entryR at hh
 split at hh
 ·cases hh
 ·split at hh
  ·cases hh
  ·unfold entGo0 at hh
   split at hh
   ·cases hh
   ·rename_i hc
    split at hh
    ·obtain ⟨h1, h2⟩ := entGo_some _ _ _ _ hh
     rw [h1]; exact ⟨by omega, by omega, h2⟩
    ·cases hh
theorem found_spec (ρ : Hp) (rb db : Nat) (R0 : RgS) (w0 : RW) (hR0 : RIn ρ R0 w0) (k : DK) (D : DS) (hD : DOk k D) :
  Spec Tryz.prog 137 [.pointer (some ⟨rb, 0, none⟩)] ρ (ZO rb db R0 w0 ++ Zs db k D)
   (fun v ρ' L' => v = .int .i64 (Yx (R0.h.size + 1) R0 D).2.2 ∧ ρ.le ρ' ∧ DOk k (Yx (R0.h.size + 1) R0 D).2.1 ∧ ∃ w', RIn ρ' (Yx (R0.h.size + 1) R0 D).1 w' ∧ L' = ZO rb db (Yx (R0.h.size + 1) R0 D).1 w' ++ Zs db k (Yx (R0.h.size + 1) R0 D).2.1) := by
 generalize hRES : Yx (R0.h.size + 1) R0 D = RES at *
 refine Za Tryz.func137 rfl rfl rfl fun u RR => ?_
 simp only [Zf, kA]
 repeat' (first | refine zW ?_ | intro _)
 rename_i rbx
 refine Zm [(1, _), (3, _)] (fun (ζ : (Nat) × (RgS) × (RW) × (Hp) × (DS)) => [(2, .int .i64 0)]) (fun (ζ : (Nat) × (RgS) × (RW) × (Hp) × (DS)) => ζ.2.2.2.1) (fun (ζ : (Nat) × (RgS) × (RW) × (Hp) × (DS)) => [[(rbx, .cells ⟨[.pointer (some ⟨rb, 0, none⟩)]⟩ 30 (0, 0))]] ++ (ZO rb db ζ.2.1 ζ.2.2.1 ++ Zs db k ζ.2.2.2.2)) (fun (ζ : (Nat) × (RgS) × (RW) × (Hp) × (DS)) => ρ.le ζ.2.2.2.1 ∧ RIn ζ.2.2.2.1 ζ.2.1 ζ.2.2.1 ∧ DOk k ζ.2.2.2.2 ∧ Yx ζ.1 ζ.2.1 ζ.2.2.2.2 = RES ∧ ζ.2.1.h = R0.h ∧ R0.h.size + 1 ≤ ζ.1 + ζ.2.1.used) (fun (ζ : (Nat) × (RgS) × (RW) × (Hp) × (DS)) => ζ.1) ((R0.h.size + 1, R0, w0, ρ, D)) (⟨Hp.le_refl _, hR0, hD, hRES, rfl, by omega⟩) Zc Zc rfl tk ?_
 rintro ⟨f, R, w, ρ1, D1⟩ hI
 try simp only [kA, List.append_assoc] at hI ⊢
 try dsimp only at hI ⊢
 obtain ⟨hle1, hR, hD1, hgo, hh, hf⟩ := hI
 have hok := hR.ok
 have hfit := hok.fit
 have hsz := hok.size
 have hpl := hok.place
 have htu := hok.turn
 have hsz0 : R.h.size = R0.h.size := by rw [hh]
 obtain ⟨f', rfl⟩ : ∃ f', f = f' + 1 := ⟨f - 1, by omega⟩
 have hnx := next_spec ρ1 rb db R w hR
 by_cases hn : R.next < 1099511627776
 ·simp only [Yx, if_pos hn] at hgo
  have hent := entry_spec ρ1 rb rbx db R w k D1 hD1 R.h w.na w.nn w.nc R.next (R.h.place + R.used) (R.h.size - R.used) (by omega) (by omega) (by omega) (by omega) (by omega) (by omega)
  have hsome := @entryR_some R.h R.next (R.h.place + R.used) (R.h.size - R.used) D1
  generalize entryR R.h R.next (R.h.place + R.used) (R.h.size - R.used) D1 = r at *
  obtain ⟨ob, D2, e⟩ := r
  simp only [secS, kA, Int.natCast_add, Int.natCast_sub hfit] at hent
  have hn' : ((R.next : Nat) : Int) < 1099511627776 := by omega
  generalize hnxe : ((R.next : Nat) : Int) = nx at *
  repeat' (first | (refine Zb (.func 63) ?_; refine qR rfl rfl (hnx) ?_; try simp only [kA]) | refine zW ?_ | intro _)
  cases ob with
  | none =>
   by_cases he : e = 0
   ·subst he
    refine tpA [0,1,2,3,4,6,7,8,9,10,11,12,13,14,15,16,17,18,19,20,21,22,23,24,25,26] (.e 5 [] (.e 27 [] (.f [28,29,30,31,32,33,34] .o))) ([[(rb, .cells ⟨rgV R db w⟩ 123 (0, 0))], [(rbx, .cells ⟨[.pointer (some ⟨rb, 0, none⟩)]⟩ 30 (0, 0))]]) ?_
    repeat' (refine iT ?_; first | refine rA ?_ | ((refine iE ?_; refine rE ?_) <;> ((try refine Zr ?_); (first | (refine Zb (.func 63) ?_; refine qR rfl rfl (hnx) ?_; try simp only [kA]) | (refine Zb (.func 188) ?_; refine qC rfl rfl hent ?_; rintro v4 ρ4 L4 hle4 ⟨hl4, hans, hD2, rfl⟩; obtain rfl := hans; try simp only [kA]) | (refine qEf ?_; try intro _)) <;> ((try simp only [kA]); refine Zj ?_; refine rN ?_))))
    all_goals (repeat' (first | refine zW ?_ | intro _))
    all_goals rw [← hgo]
    all_goals exact qE (L' := ZO rb db R w ++ Zs db k D2) ⟨rfl, Hp.le_trans hle1 hl4, hD2, w, hR.mono hl4, rfl⟩
   ·have hcb : (e != 0) = true := by simpa using he
    refine tpA [0,1,2,3,4,6,7,8,9,10,11,12,13,14,15,16,17,18,19,20,21,22,23,24,25,26] (.e 5 [] (.e 27 [] (.f [28,29,30,31,32,33,34] .o))) ([[(rb, .cells ⟨rgV R db w⟩ 123 (0, 0))], [(rbx, .cells ⟨[.pointer (some ⟨rb, 0, none⟩)]⟩ 30 (0, 0))]]) ?_
    repeat' (refine iT ?_; first | refine rA ?_ | ((refine iE ?_; refine rE ?_) <;> ((try refine Zr ?_); (first | (refine Zb (.func 63) ?_; refine qR rfl rfl (hnx) ?_; try simp only [kA]) | (refine Zb (.func 188) ?_; refine qC rfl rfl hent ?_; rintro v4 ρ4 L4 hle4 ⟨hl4, hans, hD2, rfl⟩; obtain rfl := hans; try simp only [kA]) | (refine qEf ?_; try intro _)) <;> ((try simp only [kA]); refine Zj ?_; refine rN ?_))))
    all_goals (repeat' (first | refine zW ?_ | intro _))
    all_goals rw [← hgo]
    all_goals exact qE (L' := ZO rb db R w ++ Zs db k D2) ⟨rfl, Hp.le_trans hle1 hl4, hD2, w, hR.mono hl4, rfl⟩
  | some b =>
   obtain ⟨hb8, hbs, he0⟩ := hsome rfl
   simp only [he0, if_true] at hgo
   refine tpA [0,1,2,3,4,6,7,8,9,10,11,12,13,14,15,16,17,18,19,20,21,22,23,24,25,26] (.e 5 [] (.e 27 [] (.f [28,29,30,31,32,33,34] .o))) ([[(rb, .cells ⟨rgV R db w⟩ 123 (0, 0))], [(rbx, .cells ⟨[.pointer (some ⟨rb, 0, none⟩)]⟩ 30 (0, 0))]]) ?_
   repeat' (refine iT ?_; first | refine rA ?_ | ((refine iE ?_; refine rE ?_) <;> ((try refine Zr ?_); (first | (refine Zb (.func 63) ?_; refine qR rfl rfl (hnx) ?_; try simp only [kA]) | (refine Zb (.func 188) ?_; refine qC rfl rfl hent ?_; rintro v4 ρ4 L4 hle4 ⟨hl4, hans, hD2, rfl⟩; obtain ⟨e4, rfl, hb4, hbl⟩ := hans; try simp only [kA]) | (refine qEf ?_; try intro _)) <;> ((try simp only [kA]); refine Zj ?_; refine rN ?_))))
   all_goals have hR4 := hR.mono hl4
   all_goals have hbl2 := hb4.s.len
   all_goals have had := adds_spec ρ4 rb db R w hR4 e4 hb4 (by rw [← hbl2, hbl]; omega) (by rw [← hbl2, hbl]; omega) hn
   all_goals simp only [hbl] at had
   all_goals (repeat' (first | (refine Zb (.func 65) ?_; refine qC rfl rfl (had) ?_; rintro v ρ' L' hle ⟨rfl, rfl, ev', sp', hR', rfl⟩ <;> (try simp only [kA])) | refine zW ?_ | intro _))
   all_goals have hu2 : R0.h.size + 1 ≤ f' + (R.adds b).used := by have := Wa b.length; simp only [RgS.adds]; omega
   all_goals refine Zi (f', R.adds b, ⟨w.na, w.nn, w.nc, ev', w.els ++ [e4], sp'⟩, _, D2) (⟨Hp.le_trans hle1 hl4, hR', hD2, hgo, hh, hu2⟩) Zc Zc rfl tk inferInstance (by first | omega | (dsimp only; omega))
 ·simp only [Yx, if_neg hn] at hgo
  have hn' : ¬ ((R.next : Nat) : Int) < 1099511627776 := by omega
  generalize hnxe : ((R.next : Nat) : Int) = nx at *
  repeat' (first | (refine Zb (.func 63) ?_; refine qR rfl rfl (hnx) ?_; try simp only [kA]) | refine zW ?_ | intro _)
  rw [← hgo]
  exact qE (L' := ZO rb db R w ++ Zs db k D1) ⟨rfl, hle1, hD1, w, hR, rfl⟩
theorem hread_spec (ρ : Hp) (s : Blk) (h64 : s.length = 64) :
  Spec Tryz.prog 186 [bv s] ρ [] (fun v ρ' L' => ρ.le ρ' ∧ (∃ na nn nc, v = .tuple ⟨[.agg ⟨hdV (Xh s).1 na nn nc⟩, .bool (Xh s).2]⟩ ∧ SIn ρ' Zo na nn (Xh s).1.note ∧ nn ≤ nc ∧ nn ≤ 32) ∧ L' = []) := by
 have hpl : (s.map Zo).length = 64 := by simpa using h64
 have hp1 := Yf s
 refine Za Tryz.func186 rfl rfl rfl fun u RR => ?_
 simp only [Zf, kA]
 repeat' (first | refine zW ?_ | intro _)
 rename_i b1 b2
 simp only [Int.reduceToNat, Nat.reduceMul, Nat.reduceSub, Nat.zero_add]
 refine tc_freeze [(b1, .cells ⟨s.map Zo⟩ 117 (0, 0))] (fun ρ3 hle3 hfz => ?_)
 have hbs := hfz _ (List.mem_singleton.2 rfl)
 dsimp only at hbs
 have hld : List.take 64 (List.drop 0 (s.map Zo)) = s.map Zo := by rw [List.drop_zero, List.take_of_length_le (by omega)]
 have hx21 : (s.map Zo)[21]? = some (Zo (s.getD 21 0)) := by
  rw [List.getElem?_map, List.getD_eq_getElem?_getD, List.getElem?_eq_getElem (by omega)]; rfl
 have hn1 := numb_spec ρ3 (some ⟨b1, 8, none⟩) 4 56 _ (We hbs 8 4 (by omega)) (by omega)
 have hn2 := numb_spec ρ3 (some ⟨b1, 12, none⟩) 2 52 _ (We hbs 12 2 (by omega)) (by omega)
 have hn3 := numb_spec ρ3 (some ⟨b1, 14, none⟩) 5 50 _ (We hbs 14 5 (by omega)) (by omega)
 have hn4 := numb_spec ρ3 (some ⟨b1, 19, none⟩) 2 45 _ (We hbs 19 2 (by omega)) (by omega)
 have hl1 := XJ ((s.drop 8).take 4)
 have hl2 := XJ ((s.drop 12).take 2)
 have hl3 := XJ ((s.drop 14).take 5)
 have hl4 := XJ ((s.drop 19).take 2)
 rw [show ((s.drop 8).take 4).length = 4 by simp; omega] at hl1
 rw [show ((s.drop 12).take 2).length = 2 by simp; omega] at hl2
 rw [show ((s.drop 14).take 5).length = 5 by simp; omega] at hl3
 rw [show ((s.drop 19).take 2).length = 2 by simp; omega] at hl4
 have hh : headOf s = ⟨Ym ((s.drop 8).take 4), Ym ((s.drop 14).take 5), Ym ((s.drop 12).take 2), Ym ((s.drop 19).take 2), (s.drop 22).take (s.getD 21 0).toNat⟩ := rfl
 have hnb : (s.getD 21 0).toNat < 256 := (s.getD 21 0).toNat_lt
 have hrd : Xh s = if (headOf s).Right (s.getD 21 0).toNat then (headOf s, decide (YY (headOf s) = s)) else (zHd, false) := rfl
 generalize Xh s = RB at *
 simp only [Zo] at hx21
 generalize s.getD 21 0 = nb8 at *
 rw [hh] at hrd
 generalize hT : Ym ((s.drop 8).take 4) = T at *
 generalize hS : Ym ((s.drop 12).take 2) = S at *
 generalize hF : Ym ((s.drop 14).take 5) = F at *
 generalize hP : Ym ((s.drop 19).take 2) = P at *
 generalize hN : nb8.toNat = N at *
 have hrd1 : (1 ≤ T ∧ T ≤ 1073741824 ∧ 4 ≤ S ∧ S ≤ 1000 ∧ 1 ≤ F ∧ F ≤ 1099511627776 ∧ P < S ∧ N ≤ 32) → RB = (⟨T, F, S, P, (s.drop 22).take N⟩, decide (YY ⟨T, F, S, P, (s.drop 22).take N⟩ = s)) := fun h => by rw [hrd]; exact if_pos h
 have hrd2 : ¬ (1 ≤ T ∧ T ≤ 1073741824 ∧ 4 ≤ S ∧ S ≤ 1000 ∧ 1 ≤ F ∧ F ≤ 1099511627776 ∧ P < S ∧ N ≤ 32) → RB = (zHd, false) := fun h => by rw [hrd]; exact if_neg h
 clear hrd hh
 have Tz : ∃ z : Int, z = T := ⟨_, rfl⟩
 obtain ⟨Ti, hTi⟩ := Tz
 obtain ⟨Fi, hFi⟩ : ∃ z : Int, z = F := ⟨_, rfl⟩
 rw [← hTi] at hn1
 rw [← hFi] at hn3
 repeat' (first | refine zW ?_ | intro _)
 refine tpA [0,1,3,4,7,8,10,11] (.b 2 15 [] [] (.b 5 15 [6] [] (.b 9 15 [] [] (.b 12 15 [13,14] [] (.e 15 [] (.e 16 [] .o)) (.e 12 [13,14] (.e 16 [] .o))) (.e 9 [] (.e 12 [13,14] (.e 16 [] .o)))) (.e 5 [6] (.e 9 [] (.e 12 [13,14] (.e 16 [] .o))))) (.e 2 [] (.e 5 [6] (.e 9 [] (.e 12 [13,14] (.e 16 [] .o)))))) ([]) ?_
 repeat' (refine iT ?_; first | refine rA ?_ | ((first | (refine iE ?_; refine rE ?_) | (refine iB ?_; refine rB ?_ ?_)) <;> ((try refine Zr ?_); (first | (refine Zb (.func 239) ?_; refine qC rfl rfl (hn1) ?_; rintro v ρ' L' hle ⟨rfl, rfl, rfl⟩ <;> (try simp only [kA])) | (refine Zb (.func 239) ?_; refine qC rfl rfl (hn2) ?_; rintro v ρ' L' hle ⟨rfl, rfl, rfl⟩ <;> (try simp only [kA])) | (refine Zb (.func 239) ?_; refine qC rfl rfl (hn3) ?_; rintro v ρ' L' hle ⟨rfl, rfl, rfl⟩ <;> (try simp only [kA])) | (refine Zb (.func 239) ?_; refine qC rfl rfl (hn4) ?_; rintro v ρ' L' hle ⟨rfl, rfl, rfl⟩ <;> (try simp only [kA])) | (refine qEf ?_; try intro _)) <;> ((try simp only [kA]); refine Zj ?_; refine rN ?_))))
 all_goals
  by_cases hr : 1 ≤ T ∧ T ≤ 1073741824 ∧ 4 ≤ S ∧ S ≤ 1000 ∧ 1 ≤ F ∧ F ≤ 1099511627776 ∧ P < S ∧ N ≤ 32
  ·replace hrd1 := hrd1 hr
   obtain ⟨r1, r2, r3, r4, r5, r6, r7, r8⟩ := hr
   have q1 : (1 : Int) ≤ Ti := by omega
   have q2 : Ti ≤ 1073741824 := by omega
   have q5 : (1 : Int) ≤ Fi := by omega
   have q6 : Fi ≤ 1099511627776 := by omega
   rename Nat => b5
   have hnn : ((14 : Int) + (N : Int)).toNat - (14 : Int).toNat = N := by omega
   have hcl := Wn ρ' [] (some ⟨b1, 22, none⟩) N 42 _ (We hbs 22 N (by omega)).rd (by omega)
   repeat' (first | (simp only [hnn]; refine Zb (.func 66) ?_; refine qC rfl rfl hcl ?_; rintro v5 ρ5 L5 hle5 ⟨hl5, e5, rfl, hb5, he5, hn5, rfl⟩; try simp only [kA]) | refine zW ?_ | intro _)
   have hfin := Hp.le_trans hle3 hl5
   have hs5 := hb5.s
   rw [he5] at hs5
   have hbs5 := hp_get hl5 hbs
   subst hTi
   subst hFi
   have hbk := hblock_spec ρ5 ⟨T, F, S, P, (s.drop 22).take N⟩ e5.a e5.n e5.c hs5 (by dsimp only; omega) r6 (by dsimp only; omega) (by dsimp only; omega) (by omega)
   have hlh : (YY ⟨T, F, S, P, (s.drop 22).take N⟩).length = 64 := headB_len _
   have hplh : ((YY ⟨T, F, S, P, (s.drop 22).take N⟩).map Zo).length = 64 := by simpa using hlh
   by_cases hbe : YY ⟨T, F, S, P, (s.drop 22).take N⟩ = s
   ·rw [hbe] at hbk
    rw [decide_eq_true hbe] at hrd1
    subst hrd1
    refine tpA [0,1,3] (.e 2 [4] (.e 5 [] (.f [6] .o))) ([[(b5, .cells ⟨[.int .u64 (T : Int), .int .u64 (F : Int), .int .i64 (S : Int), .int .i64 (P : Int), slv e5]⟩ 120 (0, 0))]]) ?_
    repeat' (refine iT ?_; first | refine rA ?_ | ((refine iE ?_; refine rE ?_) <;> ((try refine Zr ?_); (first | (refine Zb (.func 126) ?_; refine qC rfl rfl (hbk) ?_; rintro v ρ' L' hle ⟨rfl, rfl, rfl⟩ <;> (try simp only [kA])) | (refine qEf ?_; try intro _)) <;> ((try simp only [kA]); refine Zj ?_; refine rN ?_))))
    all_goals (repeat' (first | refine zW ?_ | intro _))
    all_goals exact qE (L' := []) (v := .tuple ⟨[.agg ⟨hdV ⟨T, F, S, P, (s.drop 22).take N⟩ e5.a e5.n e5.c⟩, .bool true]⟩) ⟨hfin, ⟨e5.a, e5.n, e5.c, rfl, hs5, hb5.le, by omega⟩, rfl⟩
   ·rw [decide_eq_false hbe] at hrd1
    subst hrd1
    refine tpA [0,1,3] (.e 2 [4] (.e 5 [] (.f [6] .o))) ([[(b5, .cells ⟨[.int .u64 (T : Int), .int .u64 (F : Int), .int .i64 (S : Int), .int .i64 (P : Int), slv e5]⟩ 120 (0, 0))]]) ?_
    repeat' (refine iT ?_; first | refine rA ?_ | ((refine iE ?_; refine rE ?_) <;> ((try refine Zr ?_); (first | (refine Zb (.func 126) ?_; refine qC rfl rfl (hbk) ?_; rintro v ρ' L' hle ⟨rfl, rfl, rfl⟩ <;> (try simp only [kA])) | (refine qEf ?_; try intro _)) <;> ((try simp only [kA]); refine Zj ?_; refine rN ?_))))
    all_goals (repeat' (first | refine zW ?_ | intro _))
    all_goals exact qE (L' := []) (v := .tuple ⟨[.agg ⟨hdV ⟨T, F, S, P, (s.drop 22).take N⟩ e5.a e5.n e5.c⟩, .bool false]⟩) ⟨hfin, ⟨e5.a, e5.n, e5.c, rfl, hs5, hb5.le, by omega⟩, rfl⟩
  ·replace hrd2 := hrd2 hr
   subst hrd2
   by_cases q1 : (1 : Int) ≤ Ti
   ·skip
    by_cases q2 : Ti ≤ 1073741824
    ·skip
     by_cases q3 : 4 ≤ S
     ·skip
      by_cases q4 : S ≤ 1000
      ·skip
       by_cases q5 : (1 : Int) ≤ Fi
       ·skip
        by_cases q6 : Fi ≤ 1099511627776
        ·skip
         by_cases q7 : P < S
         ·skip
          by_cases q8 : N ≤ 32
          ·skip
           exact absurd ⟨by omega, by omega, by omega, by omega, by omega, by omega, by omega, by omega⟩ hr
          ·repeat' (first | refine zW ?_ | intro _)
           exact qE (L' := []) (v := .tuple ⟨[.agg ⟨hdV zHd none 0 0⟩, .bool false]⟩) ⟨hle3, ⟨none, 0, 0, rfl, SIn.nil, Nat.le_refl _, Nat.zero_le _⟩, rfl⟩
         ·repeat' (first | refine zW ?_ | intro _)
          exact qE (L' := []) (v := .tuple ⟨[.agg ⟨hdV zHd none 0 0⟩, .bool false]⟩) ⟨hle3, ⟨none, 0, 0, rfl, SIn.nil, Nat.le_refl _, Nat.zero_le _⟩, rfl⟩
        ·exact absurd (show Fi ≤ 1099511627776 by omega) q6
       ·repeat' (first | refine zW ?_ | intro _)
        exact qE (L' := []) (v := .tuple ⟨[.agg ⟨hdV zHd none 0 0⟩, .bool false]⟩) ⟨hle3, ⟨none, 0, 0, rfl, SIn.nil, Nat.le_refl _, Nat.zero_le _⟩, rfl⟩
      ·repeat' (first | refine zW ?_ | intro _)
       exact qE (L' := []) (v := .tuple ⟨[.agg ⟨hdV zHd none 0 0⟩, .bool false]⟩) ⟨hle3, ⟨none, 0, 0, rfl, SIn.nil, Nat.le_refl _, Nat.zero_le _⟩, rfl⟩
     ·repeat' (first | refine zW ?_ | intro _)
      exact qE (L' := []) (v := .tuple ⟨[.agg ⟨hdV zHd none 0 0⟩, .bool false]⟩) ⟨hle3, ⟨none, 0, 0, rfl, SIn.nil, Nat.le_refl _, Nat.zero_le _⟩, rfl⟩
    ·repeat' (first | refine zW ?_ | intro _)
     exact qE (L' := []) (v := .tuple ⟨[.agg ⟨hdV zHd none 0 0⟩, .bool false]⟩) ⟨hle3, ⟨none, 0, 0, rfl, SIn.nil, Nat.le_refl _, Nat.zero_le _⟩, rfl⟩
   ·repeat' (first | refine zW ?_ | intro _)
    exact qE (L' := []) (v := .tuple ⟨[.agg ⟨hdV zHd none 0 0⟩, .bool false]⟩) ⟨hle3, ⟨none, 0, 0, rfl, SIn.nil, Nat.le_refl _, Nat.zero_le _⟩, rfl⟩
end Go.Proofs.E
namespace Go.Proofs.E
open Go
set_option linter.unusedVariables false
set_option linter.unusedSimpArgs false
set_option linter.unusedSectionVars false
set_option maxRecDepth 4000
set_option maxHeartbeats 1000000
attribute [local irreducible] Yl TL TC TE Spec ZN R1 Hp.le EnvLe TS TR YS Zp
theorem counts_spec (ρ : Hp) (s t : Blk) (hs : s.length = 64) (ht : t.length = 64) :
  Spec Tryz.prog 136 [bv s, bv t] ρ [] (fun v ρ' L' => ρ.le ρ' ∧ (∃ na nn nc, v = .tuple ⟨[.agg ⟨hdV (Xw s t).1 na nn nc⟩, .bool (Xw s t).2]⟩ ∧ SIn ρ' Zo na nn (Xw s t).1.note ∧ nn ≤ nc ∧ nn ≤ 32) ∧ L' = []) := by
 have hpl : (s.map Zo).length = 64 := by simpa using hs
 have hp1 := Yf s
 have hpl2 : (t.map Zo).length = 64 := by simpa using ht
 have hp2 := Yf t
 have hla : List.take 64 (List.drop 0 (s.map Zo)) = s.map Zo := by rw [List.drop_zero, List.take_of_length_le (by omega)]
 have hlb : List.take 64 (List.drop 0 (t.map Zo)) = t.map Zo := by rw [List.drop_zero, List.take_of_length_le (by omega)]
 have hr1 := hread_spec ρ s hs
 have hct : Xw s t = if (Xh s).2 && (!(Xh t).2 || decide ((Xh t).1.turn ≤ (Xh s).1.turn)) then ((Xh s).1, true) else Xh t := rfl
 have hr2 : ∀ ρ1, Spec Tryz.prog 186 [bv t] ρ1 [] _ := fun ρ1 => hread_spec ρ1 t ht
 generalize Xh s = A at *
 generalize Xh t = B at *
 generalize Xw s t = C at *
 obtain ⟨a, ab⟩ := A
 obtain ⟨b, bb⟩ := B
 dsimp only at hct hr1 hr2
 cases ab
 ·cases bb
  ·have hC : C = (b, false) := by simpa using hct
   clear hct
   subst hC
   refine Za Tryz.func136 rfl rfl rfl fun u RR => ?_
   simp only [Zf, kA]
   repeat' (first | (refine Zb (.func 186) ?_; refine qC rfl rfl hr1 ?_; rintro v1 ρ1 L1 hle1 ⟨hl1, ⟨na1, nn1, nc1, rfl, hs1, hc1, hm1⟩, rfl⟩; try simp only [kA]) | (refine Zb (.func 186) ?_; refine qC rfl rfl (hr2 _) ?_; rintro v2 ρ2 L2 hle2 ⟨hl2, ⟨na2, nn2, nc2, rfl, hs2, hc2, hm2⟩, rfl⟩; try simp only [kA]) | refine zW ?_ | intro _)
   have hfin := Hp.le_trans hl1 hl2
   exact qE (L' := []) (v := .tuple ⟨[.agg ⟨hdV b na2 nn2 nc2⟩, .bool false]⟩) ⟨hfin, ⟨na2, nn2, nc2, rfl, hs2, hc2, hm2⟩, rfl⟩
  ·have hC : C = (b, true) := by simpa using hct
   clear hct
   subst hC
   refine Za Tryz.func136 rfl rfl rfl fun u RR => ?_
   simp only [Zf, kA]
   repeat' (first | (refine Zb (.func 186) ?_; refine qC rfl rfl hr1 ?_; rintro v1 ρ1 L1 hle1 ⟨hl1, ⟨na1, nn1, nc1, rfl, hs1, hc1, hm1⟩, rfl⟩; try simp only [kA]) | (refine Zb (.func 186) ?_; refine qC rfl rfl (hr2 _) ?_; rintro v2 ρ2 L2 hle2 ⟨hl2, ⟨na2, nn2, nc2, rfl, hs2, hc2, hm2⟩, rfl⟩; try simp only [kA]) | refine zW ?_ | intro _)
   have hfin := Hp.le_trans hl1 hl2
   exact qE (L' := []) (v := .tuple ⟨[.agg ⟨hdV b na2 nn2 nc2⟩, .bool true]⟩) ⟨hfin, ⟨na2, nn2, nc2, rfl, hs2, hc2, hm2⟩, rfl⟩
 ·cases bb
  ·have hC : C = (a, true) := by simpa using hct
   clear hct
   subst hC
   refine Za Tryz.func136 rfl rfl rfl fun u RR => ?_
   simp only [Zf, kA]
   repeat' (first | (refine Zb (.func 186) ?_; refine qC rfl rfl hr1 ?_; rintro v1 ρ1 L1 hle1 ⟨hl1, ⟨na1, nn1, nc1, rfl, hs1, hc1, hm1⟩, rfl⟩; try simp only [kA]) | (refine Zb (.func 186) ?_; refine qC rfl rfl (hr2 _) ?_; rintro v2 ρ2 L2 hle2 ⟨hl2, ⟨na2, nn2, nc2, rfl, hs2, hc2, hm2⟩, rfl⟩; try simp only [kA]) | refine zW ?_ | intro _)
   have hfin := Hp.le_trans hl1 hl2
   exact qE (L' := []) (v := .tuple ⟨[.agg ⟨hdV a na1 nn1 nc1⟩, .bool true]⟩) ⟨hfin, ⟨na1, nn1, nc1, rfl, hs1.mono hl2, hc1, hm1⟩, rfl⟩
  ·by_cases hg : b.turn ≤ a.turn
   ·have hC : C = (a, true) := by simpa [hg] using hct
    clear hct
    subst hC
    refine Za Tryz.func136 rfl rfl rfl fun u RR => ?_
    simp only [Zf, kA]
    repeat' (first | (refine Zb (.func 186) ?_; refine qC rfl rfl hr1 ?_; rintro v1 ρ1 L1 hle1 ⟨hl1, ⟨na1, nn1, nc1, rfl, hs1, hc1, hm1⟩, rfl⟩; try simp only [kA]) | (refine Zb (.func 186) ?_; refine qC rfl rfl (hr2 _) ?_; rintro v2 ρ2 L2 hle2 ⟨hl2, ⟨na2, nn2, nc2, rfl, hs2, hc2, hm2⟩, rfl⟩; try simp only [kA]) | refine zW ?_ | intro _)
    have hfin := Hp.le_trans hl1 hl2
    exact qE (L' := []) (v := .tuple ⟨[.agg ⟨hdV a na1 nn1 nc1⟩, .bool true]⟩) ⟨hfin, ⟨na1, nn1, nc1, rfl, hs1.mono hl2, hc1, hm1⟩, rfl⟩
   ·have hC : C = (b, true) := by simpa [hg] using hct
    clear hct
    subst hC
    refine Za Tryz.func136 rfl rfl rfl fun u RR => ?_
    simp only [Zf, kA]
    repeat' (first | (refine Zb (.func 186) ?_; refine qC rfl rfl hr1 ?_; rintro v1 ρ1 L1 hle1 ⟨hl1, ⟨na1, nn1, nc1, rfl, hs1, hc1, hm1⟩, rfl⟩; try simp only [kA]) | (refine Zb (.func 186) ?_; refine qC rfl rfl (hr2 _) ?_; rintro v2 ρ2 L2 hle2 ⟨hl2, ⟨na2, nn2, nc2, rfl, hs2, hc2, hm2⟩, rfl⟩; try simp only [kA]) | refine zW ?_ | intro _)
    have hfin := Hp.le_trans hl1 hl2
    exact qE (L' := []) (v := .tuple ⟨[.agg ⟨hdV b na2 nn2 nc2⟩, .bool true]⟩) ⟨hfin, ⟨na2, nn2, nc2, rfl, hs2, hc2, hm2⟩, rfl⟩
end Go.Proofs.E
namespace Go.Proofs.E
open Go
set_option linter.unusedVariables false
set_option linter.unusedSimpArgs false
set_option linter.unusedSectionVars false
set_option maxRecDepth 4000
set_option maxHeartbeats 1000000
attribute [local irreducible] Yl TL TC TE Spec ZN R1 Hp.le EnvLe TS TR YS Zp TP QP
def openAns (ρ' : Hp) (db : Nat) (k : DK) (r : Option RgS × DS × Int) (v : Value) (L' : SH) : Prop := match r.1 with
 | none => v = .tuple ⟨[.pointer none, .int .i64 r.2.2]⟩ ∧ L' = Zs db k r.2.1
 | some R => ∃ rb w, v = .tuple ⟨[.pointer (some ⟨rb, 0, none⟩), .int .i64 0]⟩ ∧ RIn ρ' R w ∧ L' = ZO rb db R w ++ Zs db k r.2.1
theorem readB_right {s : Blk} (h : (Xh s).2 = true) : ∃ n, (Xh s).1.Right n := by
 unfold Xh at h ⊢
 split at h
 ·rename_i hr; rw [if_pos hr]; exact ⟨_, hr⟩
 ·cases h
theorem countsB_right {a b : Blk} (h : (Xw a b).2 = true) : ∃ n, (Xw a b).1.Right n := by
 unfold Xw at h ⊢
 split
 ·rename_i hc; simp only [Bool.and_eq_true] at hc; exact readB_right hc.1
 ·rename_i hc; rw [if_neg hc] at h; exact readB_right h
theorem foundGo_h : ∀ (f : Nat) (R : RgS) (D : DS), (Yx f R D).1.h = R.h
 | 0, R, D => rfl
 | f + 1, R, D => by
  unfold Yx
  split
  ·split
   ·split
    ·rw [foundGo_h]; rfl
    ·rfl
   ·rfl
  ·rfl
theorem open_spec (ρ : Hp) (db : Nat) (k : DK) (D : DS) (hD : DOk k D) :
  Spec Tryz.prog 73 [.pointer (some ⟨db, 0, none⟩)] ρ (Zs db k D) (fun v ρ' L' => ρ.le ρ' ∧ ∃ k', DOk k' (openR D).2.1 ∧ openAns ρ' db k' (openR D) v L') := by
 have hOR : openR D = if (D.read 0).2.2 ≠ 0 then (none, (D.read 0).1, (D.read 0).2.2)
  else if ((D.read 0).1.read 1).2.2 ≠ 0 then (none, ((D.read 0).1.read 1).1, ((D.read 0).1.read 1).2.2)
  else if (Xw (D.read 0).2.1 ((D.read 0).1.read 1).2.1).2 = false then (none, ((D.read 0).1.read 1).1, 140)
  else openH (Xw (D.read 0).2.1 ((D.read 0).1.read 1).2.1).1 ((D.read 0).1.read 1).1 := rfl
 have hk0 : ∀ ρ, Spec Tryz.prog _ _ ρ _ _ := fun ρ => kread ρ db k D 0 hD
 have hDa : DOk k (D.read 0).1 := ⟨hD.ok.read, hD.map.read⟩
 have hs0 := read_len hD.ok 0
 generalize openR D = RES at *
 generalize D.read 0 = r0 at *
 obtain ⟨Da, s0, e0⟩ := r0
 dsimp only at hOR hk0 hDa hs0
 have hk1 : ∀ ρ, Spec Tryz.prog _ _ ρ _ _ := fun ρ => kread ρ db k Da 1 hDa
 have hDb : DOk k (Da.read 1).1 := ⟨hDa.ok.read, hDa.map.read⟩
 have hs1 := read_len hDa.ok 1
 generalize Da.read 1 = r1 at *
 obtain ⟨Db, s1, e1⟩ := r1
 dsimp only at hOR hk1 hDb hs1
 have hpl0 : (s0.map Zo).length = 64 := by simpa using hs0
 have hpo0 := Yf s0
 have hpl1 : (s1.map Zo).length = 64 := by simpa using hs1
 have hpo1 := Yf s1
 have hst0 : stc ((z8 128).map Zo) (0 + Int.toNat 0 * 64) (s0.map Zo) = (s0 ++ z8 64).map Zo := by
  simp [stc, z8, hs0]
 have hst1 : stc ((s0 ++ z8 64).map Zo) (0 + Int.toNat 1 * 64) (s1.map Zo) = (s0 ++ s1).map Zo := by
  simp [stc, z8, hs0, hs1]
 have hl128 : ((s0 ++ z8 64).map Zo).length = 128 := by simp [z8, hs0]
 refine Za Tryz.func73 rfl rfl rfl fun u RR => ?_
 simp only [Zf, kA]
 repeat' (first | refine zW ?_ | intro _)
 rename_i hb
 refine Zm [(0, _), (4, _)] (fun (ζ : (Int) × (List Value) × (DS)) => [(13, .int .i64 ζ.1), (2, .pointer none), (3, .int .i64 0)]) (fun (ζ : (Int) × (List Value) × (DS)) => ρ) (fun (ζ : (Int) × (List Value) × (DS)) => [[(hb, .cells ⟨ζ.2.1⟩ 215 (0, 0))]] ++ Zs db k ζ.2.2) (fun (ζ : (Int) × (List Value) × (DS)) => DOk k ζ.2.2 ∧ ((ζ.1 = 0 ∧ ζ.2.2 = D ∧ ζ.2.1 = (z8 128).map Zo) ∨ (ζ.1 = 1 ∧ ζ.2.2 = Da ∧ e0 = 0 ∧ ζ.2.1 = (s0 ++ z8 64).map Zo) ∨ (ζ.1 = 2 ∧ ζ.2.2 = Db ∧ e0 = 0 ∧ e1 = 0 ∧ ζ.2.1 = (s0 ++ s1).map Zo))) (fun (ζ : (Int) × (List Value) × (DS)) => (2 - ζ.1).toNat) ((0, (z8 128).map Zo, D)) (⟨hD, .inl ⟨rfl, rfl, rfl⟩⟩) Zc Zc rfl tk ?_
 rintro ⟨i, cs, D1⟩ hI
 try simp only [kA, List.append_assoc] at hI ⊢
 try dsimp only at hI ⊢
 obtain ⟨hD1, hor⟩ := hI
 rcases hor with ⟨rfl, rfl, rfl⟩ | ⟨rfl, rfl, rfl, rfl⟩ | ⟨rfl, rfl, rfl, rfl, rfl⟩
 ·by_cases he : e0 = 0
  ·subst he
   repeat' (first | (refine Zb (.func 135) ?_; refine qC rfl rfl (hk0 _) ?_; rintro v ρ' L' hle ⟨rfl, rfl, hD2, rfl⟩ <;> (try simp only [kA])) | refine zW ?_ | intro _)
   rw [hst0]
   refine Zi (1, (s0 ++ z8 64).map Zo, Da) (⟨hD2, .inr (.inl (by simp))⟩) Zc Zc rfl tk inferInstance (by first | omega | (dsimp only; omega))
  ·rw [if_pos he] at hOR
   have hcb : (e0 != 0) = true := by simpa using he
   repeat' (first | (refine Zb (.func 135) ?_; refine qC rfl rfl (hk0 _) ?_; rintro v ρ' L' hle ⟨rfl, rfl, hD2, rfl⟩ <;> (try simp only [kA])) | refine zW ?_ | intro _)
   subst hOR
   exact qE (L' := Zs db k Da) ⟨Hp.le_refl _, k, hDa, rfl, rfl⟩
 ·rw [if_neg (by simp)] at hOR
  by_cases he : e1 = 0
  ·subst he
   repeat' (first | (refine Zb (.func 135) ?_; refine qC rfl rfl (hk1 _) ?_; rintro v ρ' L' hle ⟨rfl, rfl, hD2, rfl⟩ <;> (try simp only [kA])) | refine zW ?_ | intro _)
   rw [hst1]
   refine Zi (2, (s0 ++ s1).map Zo, Db) (⟨hD2, .inr (.inr (by simp))⟩) Zc Zc rfl tk inferInstance (by first | omega | (dsimp only; omega))
  ·rw [if_pos he] at hOR
   have hcb : (e1 != 0) = true := by simpa using he
   repeat' (first | (refine Zb (.func 135) ?_; refine qC rfl rfl (hk1 _) ?_; rintro v ρ' L' hle ⟨rfl, rfl, hD2, rfl⟩ <;> (try simp only [kA])) | refine zW ?_ | intro _)
   subst hOR
   exact qE (L' := Zs db k Db) ⟨Hp.le_refl _, k, hDb, rfl, rfl⟩
 ·rw [if_neg (by simp), if_neg (by simp)] at hOR
  have hct := fun ρ => counts_spec ρ s0 s1 hs0 hs1
  have hrt := @countsB_right s0 s1
  generalize Xw s0 s1 = c at *
  obtain ⟨h, ok⟩ := c
  dsimp only at hOR hct hrt
  have hlc : ((s0 ++ s1).map Zo).length = 128 := by simp [hs0, hs1]
  have hla : List.take 64 (List.drop (0 + Int.toNat 0 * 64) ((s0 ++ s1).map Zo)) = s0.map Zo := by simp [hs0]
  have hlb : List.take 64 (List.drop (0 + Int.toNat 1 * 64) ((s0 ++ s1).map Zo)) = s1.map Zo := by
   simp [hs0]
   exact List.take_of_length_le (by simp [hs1])
  cases ok with
  | false =>
   rw [if_pos rfl] at hOR
   repeat' (first | (refine Zb (.func 136) ?_; refine qC rfl rfl (hct _) ?_; rintro v2 ρ2 L2 hle2 ⟨hl2, ⟨na2, nn2, nc2, rfl, hs2, hc2, hm2⟩, rfl⟩; try simp only [kA]) | refine zW ?_ | intro _)
   rename_i b8
   refine tpA [0,1,2,3,5,6,7] (.e 4 [] (.f [8,9] .o)) ([[(b8, .cells ⟨hdV h na2 nn2 nc2⟩ 120 (0, 0))]]) ?_
   repeat' (refine iT ?_; first | refine rA ?_ | ((refine iE ?_; refine rE ?_) <;> ((try refine Zr ?_); (first | (refine Zb (.func 52) ?_; refine qR rfl rfl (klen _ db k _) ?_; try simp only [kA]) | (refine qEf ?_; try intro _)) <;> ((try simp only [kA]); refine Zj ?_; refine rN ?_))))
   all_goals (repeat' (first | refine zW ?_ | intro _))
   all_goals subst hOR
   all_goals exact qE (L' := Zs db k _) ⟨hl2, k, hDb, rfl, rfl⟩
  | true =>
   obtain ⟨nh, hr⟩ := hrt rfl
   unfold Hd.Right at hr
   rw [if_neg (by simp)] at hOR
   repeat' (first | (refine Zb (.func 136) ?_; refine qC rfl rfl (hct _) ?_; rintro v2 ρ2 L2 hle2 ⟨hl2, ⟨na2, nn2, nc2, rfl, hs2, hc2, hm2⟩, rfl⟩; try simp only [kA]) | refine zW ?_ | intro _)
   rename_i b8
   unfold openH at hOR
   by_cases hln : D1.secs.length < h.size + 2
   ·rw [if_pos hln] at hOR
    refine tpA [0,1,2,3,5,6,7] (.e 4 [] (.f [8,9] .o)) ([[(b8, .cells ⟨hdV h na2 nn2 nc2⟩ 120 (0, 0))]]) ?_
    repeat' (refine iT ?_; first | refine rA ?_ | ((refine iE ?_; refine rE ?_) <;> ((try refine Zr ?_); (first | (refine Zb (.func 52) ?_; refine qR rfl rfl (klen _ db k _) ?_; try simp only [kA]) | (refine qEf ?_; try intro _)) <;> ((try simp only [kA]); refine Zj ?_; refine rN ?_))))
    all_goals (repeat' (first | refine zW ?_ | intro _))
    all_goals subst hOR
    all_goals exact qE (L' := Zs db k _) ⟨hl2, k, hDb, rfl, rfl⟩
   ·rw [if_neg hln] at hOR
    refine tpA [0,1,2,3,5,6,7] (.e 4 [] (.f [8,9] .o)) ([[(b8, .cells ⟨hdV h na2 nn2 nc2⟩ 120 (0, 0))]]) ?_
    repeat' (refine iT ?_; first | refine rA ?_ | ((refine iE ?_; refine rE ?_) <;> ((try refine Zr ?_); (first | (refine Zb (.func 52) ?_; refine qR rfl rfl (klen _ db k _) ?_; try simp only [kA]) | (refine qEf ?_; try intro _)) <;> ((try simp only [kA]); refine Zj ?_; refine rN ?_))))
    all_goals (iterate 8 (first | (refine i_tc ?_; refine qTc ?_) | (refine i_te ?_; refine qTe ?_) | refine Zj ?_ | (refine i_op ?_; refine i_qq ?_; refine qQ ?_)))
    all_goals (refine tl_y (y_build (vs := [.agg ⟨hdV h na2 nn2 nc2⟩, .pointer (some ⟨db, 0, none⟩)]) (cells := ⟨rgV ⟨h, [], 0, false⟩ db ⟨na2, nn2, nc2, .slice none 0 0, [], []⟩⟩) rfl rfl) rfl rfl ?_)
    all_goals have hR0 : RIn _ ⟨h, [], 0, false⟩ ⟨na2, nn2, nc2, .slice none 0 0, [], []⟩ := ⟨⟨⟨hr.1, hr.2.1⟩, ⟨hr.2.2.1, hr.2.2.2.1⟩, hr.2.2.2.2.1, by unfold RgS.next; simp; exact hr.2.2.2.2.2.1, hr.2.2.2.2.2.2.1, by rw [hs2.len]; exact hm2, rfl, Nat.zero_le _, fun b hb => by cases hb⟩, hs2, hc2, OwnS.nil 1, rfl, fun e he => by cases he⟩
    all_goals have hfd := fun rb => found_spec _ rb db ⟨h, [], 0, false⟩ ⟨na2, nn2, nc2, .slice none 0 0, [], []⟩ hR0 k D1 hDb
    all_goals have hfh := foundGo_h (h.size + 1) ⟨h, [], 0, false⟩ D1
    all_goals generalize Yx (h.size + 1) ⟨h, [], 0, false⟩ D1 = r at *
    all_goals (repeat' (first | (refine Zb (.func 137) ?_; refine qC rfl rfl (hfd _) ?_; rintro v5 ρ5 L5 hle5 ⟨rfl, hl5, hD5, w5, hR5, rfl⟩; try simp only [kA]) | refine zW ?_ | intro _))
    all_goals obtain ⟨R1, D5, e5⟩ := r
    all_goals dsimp only at *
    all_goals by_cases hz : e5 = 0
    ·subst hz
     rw [if_neg (by simp)] at hOR
     rw [show ((0 : Int) != 0) = false from rfl]
     subst hfh
     obtain ⟨hd, ents, used, broken⟩ := R1
     dsimp only at *
     have hfin := Hp.le_trans hl2 hl5
     by_cases ht : hd.turn = 1073741824
     ·rw [if_pos ht] at hOR
      have ht' : ((hd.turn : Nat) : Int) = 1073741824 := by omega
      repeat' (first | refine zW ?_ | intro _)
      subst hOR
      exact qE (L' := Zs db k D5) (v := .tuple ⟨[.pointer none, .int .i64 140]⟩) ⟨hfin, k, hD5, rfl, rfl⟩
     ·rw [if_neg ht] at hOR
      have ht' : ¬ ((hd.turn : Nat) : Int) = 1073741824 := by omega
      have hn5 : SIn ρ5 Zo w5.na w5.nn hd.note := hR5.note
      have hnl5 : w5.nn ≤ 32 := by have := hR5.ok.note; have := hn5.len; dsimp only at *; omega
      have hld := laid_spec ρ5 { hd with turn := hd.turn + 1 } w5.na w5.nn w5.nc hn5 (by dsimp only; omega) (by dsimp only; omega) (by dsimp only; omega) (by dsimp only; omega) hnl5 db k D5 hD5
      have hev : ((hd.turn : Nat) : Int) + 1 = ((hd.turn + 1 : Nat) : Int) := by omega
      generalize hLD : DS.lays (ZU { hd with turn := hd.turn + 1 }) D5 = r6 at *
      obtain ⟨D6, e6⟩ := r6
      dsimp only at *
      repeat' (first | (refine Zb (.func 55) ?_; simp only [hev]; refine qC rfl rfl hld ?_; rintro v6 ρ6 L6 hle6 ⟨rfl, hl6, k6, hD6, rfl⟩; try simp only [kA]) | refine zW ?_ | intro _)
      have hfin6 := Hp.le_trans hfin hl6
      have hok := hR5.ok
      by_cases hz6 : e6 = 0
      ·subst hz6
       rw [if_pos rfl] at hOR
       subst hOR
       rw [show ((0 : Int) != 0) = false from rfl]
       repeat' (first | refine zW ?_ | intro _)
       rename_i rb6
       have hR6 : RIn ρ6 ⟨{ hd with turn := hd.turn + 1 }, ents, used, broken⟩ w5 := (RIn.mono ⟨⟨⟨by dsimp only; omega, by dsimp only; omega⟩, hok.size, hok.first, hok.next, hok.place, hok.note, hok.used, hok.fit, hok.long⟩, hR5.note, hR5.nle, hR5.own, hR5.ents, hR5.els⟩ hl6)
       exact qE (L' := ZO _ db ⟨{ hd with turn := hd.turn + 1 }, ents, used, broken⟩ w5 ++ Zs db k6 D6) ⟨hfin6, k6, hD6, _, w5, rfl, hR6, rfl⟩
      ·have hcb : (e6 != 0) = true := by simpa using hz6
       rw [if_neg hz6] at hOR
       rw [hcb]
       repeat' (first | refine zW ?_ | intro _)
       subst hOR
       exact qE (L' := Zs db k6 D6) (v := .tuple ⟨[.pointer none, .int .i64 e6]⟩) ⟨hfin6, k6, hD6, rfl, rfl⟩
    ·have hcb : (e5 != 0) = true := by simpa using hz
     rw [if_pos hz] at hOR
     rw [hcb]
     repeat' (first | refine zW ?_ | intro _)
     have hfin := Hp.le_trans hl2 hl5
     subst hOR
     exact qE (L' := Zs db k D5) (v := .tuple ⟨[.pointer none, .int .i64 e5]⟩) ⟨hfin, k, hD5, rfl, rfl⟩
end Go.Proofs.E
namespace Go.Proofs.E
open Go
set_option linter.unusedVariables false
set_option linter.unusedSimpArgs false
set_option linter.unusedSectionVars false
set_option maxRecDepth 4000
set_option maxHeartbeats 1000000
attribute [local irreducible] Yl TL TC TE Spec ZN R1 Hp.le EnvLe TS TR YS Zp
theorem gopen2 (ρ : Hp) (db : Nat) (k : DK) (D : DS) (hD : DOk k D) (R : RgS) (h : RO R D) (hc : D.Calm) (ht : R.h.turn < 1073741824) :
  ∃ D', Good R.again D' ∧ Spec Tryz.prog 73 [.pointer (some ⟨db, 0, none⟩)] ρ (Zs db k D) (fun v ρ' L' => ρ.le ρ' ∧ ∃ rb w k', v = .tuple ⟨[.pointer (some ⟨rb, 0, none⟩), .int .i64 0]⟩ ∧ DOk k' D' ∧ RIn ρ' R.again w ∧ L' = ZO rb db R.again w ++ Zs db k' D') := by
 obtain ⟨D', e, h1, h2, h3, _⟩ := h.open hc ht
 refine ⟨D', ⟨h1, h2, h3⟩, (open_spec ρ db k D hD).mono ?_⟩
 rintro v ρ' L' _ ⟨hle, k', hk', ha⟩
 unfold openAns at ha
 rw [e] at ha hk'
 obtain ⟨rb, w, hv, hin, hL⟩ := ha
 exact ⟨hle, rb, w, k', hv, hk', hin, hL⟩
theorem base16_spec (ρ : Hp) (lb rb : Nat) (S : LgS) (v : Value) :
  Spec Tryz.prog 26 [.pointer (some ⟨lb, 0, none⟩)] ρ [Ye lb rb S v] (fun z ρ' L' => z = .int .u64 (S.base : Nat) ∧ ρ' = ρ ∧ L' = [Ye lb rb S v]) := by
 refine Za Tryz.func26 rfl rfl rfl fun u R => ?_
 simp only [Zf, kA]
 repeat' (first | refine zW ?_ | intro _)
 exact qE (L' := [Ye lb rb S v]) ⟨rfl, rfl, rfl⟩
theorem ntxn16_spec (ρ : Hp) (lb rb : Nat) (S : LgS) (v : Value) :
  Spec Tryz.prog 29 [.pointer (some ⟨lb, 0, none⟩)] ρ [Ye lb rb S v] (fun z ρ' L' => z = .int .i64 S.nx ∧ ρ' = ρ ∧ L' = [Ye lb rb S v]) := by
 refine Za Tryz.func29 rfl rfl rfl fun u R => ?_
 simp only [Zf, kA]
 repeat' (first | refine zW ?_ | intro _)
 exact qE (L' := [Ye lb rb S v]) ⟨rfl, rfl, rfl⟩
abbrev plL (l : List RR) : List Rc := l.map (fun x => x.2.plain)
theorem costN_plain (r : Rc) : Xz r.plain = Xz r := by unfold Xz; rw [recOk_plain, recB_plain]
theorem usedR_plain {l m : List RR} (h : plL l = plL m) : ZH l = ZH m := by
 have e : ∀ l : List RR, ZH l = ((plL l).map Xz).sum := fun l => by
  unfold ZH plL
  rw [List.map_map]
  congr 1
  exact List.map_congr_left fun x _ => (costN_plain x.2).symm
 rw [e, e, h]
theorem plL_at {l m : List RR} (h : plL l = plL m) {k : Nat} (hl : k < l.length) (hm : k < m.length) : (l[k]).2.plain = (m[k]).2.plain := by
 have g1 : (plL l)[k]? = some (l[k]).2.plain := by simp [plL, hl]
 have g2 : (plL m)[k]? = some (m[k]).2.plain := by simp [plL, hm]
 rw [h, g2] at g1
 exact (Option.some.inj g1).symm
theorem eqRR_spec (ρ : Hp) (a a' : Option Addr) (c c' n n' : Nat) (l m : List RR) (h : AIn ρ 10 rrV a n l) (h' : AIn ρ 10 rrV a' n' m) (hi : ∀ x ∈ l, RcIn ρ x.1 x.2) (hi' : ∀ x ∈ m, RcIn ρ x.1 x.2) (he : plL l = plL m) (hb : n ≤ 1000000) :
  Spec Tryz.prog 31 [.slice a n c, .slice a' n' c', .func (.func 32) ⟨[]⟩ ⟨[]⟩] ρ [] (fun v ρ' L' => v = .bool true ∧ ρ' = ρ ∧ L' = []) := by
 have hl := h.len
 have hm := h'.len
 have hll : l.length = m.length := by have := congrArg List.length he; simpa [plL] using this
 have hn : n' = n := by omega
 subst hn
 refine Za Tryz.func31 rfl rfl rfl fun u R => ?_
 simp only [Zf, kA]
 repeat' (first | refine zW ?_ | intro _)
 refine Zm [(1, _), (2, _), (15, _), (16, _)] (fun (ζ : (Nat)) => [(17, .int .i64 ζ), (6, .bool false)]) (fun (ζ : (Nat)) => ρ) (fun (ζ : (Nat)) => []) (fun (ζ : (Nat)) => ζ ≤ n') (fun (ζ : (Nat)) => n' - ζ) (0) (Nat.zero_le _) Zc Zc rfl tk ?_
 rintro k hI
 try simp only [kA, List.append_assoc] at hI ⊢
 try dsimp only at hI ⊢
 by_cases hlt : k < n'
 ·obtain ⟨b, off, C, T, fr, f1, hb, hfit, hc⟩ := h.get (show k < l.length by omega)
  obtain ⟨b2, off2, C2, T2, fr2, f2, hb2, hfit2, hc2⟩ := h'.get (show k < m.length by omega)
  have hp := plL_at he (show k < l.length by omega) (show k < m.length by omega)
  have hs0 := recSameG_spec ρ (l[k]'(by omega)).1 (m[k]'(by omega)).1 (l[k]'(by omega)).2 (m[k]'(by omega)).2 (hi _ (List.getElem_mem _)) (hi' _ (List.getElem_mem _))
  generalize l[k]'(by omega) = x at *
  generalize m[k]'(by omega) = y at *
  have hs1 := hs0.mono (Post' := fun z ρ' L' => z = .bool true ∧ ρ' = ρ ∧ L' = []) (by
   rintro z ρ' L' _ ⟨⟨b, rfl, e⟩, h1, h2⟩
   rw [e.2 hp]
   exact ⟨rfl, h1, h2⟩)
  clear hs0
  rw [f1, f2]
  repeat' (first | (refine Zb (.tmp 26) ?_; refine qC rfl rfl (hs1) ?_; rintro v ρ' L' hle ⟨rfl, rfl, rfl⟩ <;> (try simp only [kA])) | refine zW ?_ | intro _)
  rw [← f1, ← f2]
  refine Zi (k + 1) (hlt) Zc Zc rfl tk inferInstance (by first | omega | (dsimp only; omega))
 ·repeat' (first | refine zW ?_ | intro _)
  exact qE ⟨rfl, rfl, rfl⟩
structure Rm (S : LgS) (D : DS) (t : Nat) : Prop where
 good : Good S.R D
 ok : ∀ x ∈ S.recs, Yr x.2 = true
 rf : ∀ x ∈ S.recs, RcF x.2
 lsn : ∀ i (h : i < S.recs.length), (S.recs[i]).2.lsn = S.base + i
 first : S.R.h.first = S.base
 base : 1 ≤ S.base
 fl : S.fl + 1 = S.next
 ents : S.R.ents = S.recs.map (fun x => Xa x.2)
 used : ZH S.recs ≤ 400
 size : S.R.h.size = 450
 turn : S.R.h.turn ≤ t + 1
 next : S.next ≤ t + 1
theorem usedL_recs {l : List RR} (h : ∀ x ∈ l, Yr x.2 = true) : Yc (l.map (fun x => Xa x.2)) = ZH l := by
 induction l with
 | nil => rfl
 | cons x r ih =>
  have h1 := costN_ok (h x (by simp))
  have h2 := ih (fun y hy => h y (by simp [hy]))
  simp only [Yc, ZH, List.map_cons, List.sum_cons] at h2 ⊢
  omega
theorem filt_drop : ∀ (l : List RR) (b fr : Nat), (∀ i (h : i < l.length), (l[i]).2.lsn = b + i) → l.filter (fun x => decide (fr ≤ x.2.lsn)) = l.drop (fr - b)
 | [], _, _, _ => by simp
 | x :: l, b, fr, h => by
  have h0 := h 0 (by simp)
  have ih := filt_drop l (b + 1) fr (fun i hi => by have := h (i + 1) (by simpa using hi); simp only [List.getElem_cons_succ] at this; omega)
  simp only [List.getElem_cons_zero] at h0
  rw [List.filter_cons]
  by_cases hb : fr ≤ b
  ·rw [if_pos (by simp; omega), ih, show fr - (b + 1) = 0 by omega, show fr - b = 0 by omega]; rfl
  ·rw [if_neg (by simp; omega), ih, show fr - b = (fr - (b + 1)) + 1 by omega, List.drop_succ_cons]
theorem Rm.from {S : LgS} {D : DS} {t : Nat} (h : Rm S D t) (fr : Nat) : Yo S fr = S.recs.drop (fr - S.base) := filt_drop _ _ _ h.lsn
theorem Rm.len {S : LgS} {D : DS} {t : Nat} (h : Rm S D t) : S.R.ents.length = S.recs.length := by rw [h.ents, List.length_map]
theorem Rm.fresh {D : DS} (g : Good ⟨ZC 450, [], 0, false⟩ D) : Rm (newLg ⟨ZC 450, [], 0, false⟩) D 0 :=
 ⟨g, by simp [newLg], by simp [newLg], by simp [newLg], rfl, Nat.le_refl _, rfl, rfl, by simp [newLg, ZH], rfl, by simp [newLg, ZC], by simp [LgS.next, newLg]⟩
theorem app_facts {S : LgS} {r : Rc} (h : appE S r 0 = 0) : Yr r = true ∧ r.lsn = S.next ∧ ZH S.recs + Xz r ≤ 400 ∧ S.next ≠ 1099511627776 := by
 unfold appE at h
 split at h
 ·omega
 ·rename_i h1
  split at h
  ·omega
  ·split at h
   ·omega
   ·exact ⟨by simpa using h1, by omega, by omega, by omega⟩
theorem Rm.more {S : LgS} {D : DS} {t : Nat} (h : Rm S D t) (ht : t ≤ 1000) {x : RR} (ha : appE S x.2 0 = 0) (hf : RcF x.2) :
  ∃ R' D' fl', (S.more x).flush ((S.more x).next - 1) D = ((S.more x).at R' fl', D', 0) ∧ Rm ((S.more x).at R' fl') D' (t + 1) := by
 obtain ⟨h1, h2, h3, h4⟩ := app_facts ha
 have hl := h.len
 have hn : (S.more x).next = S.next + 1 := by simp [LgS.next, LgS.more]; omega
 have hfl : (S.more x).fl = S.fl := rfl
 have hall : ∀ i (hi : i < (S.more x).recs.length), ((S.more x).recs[i]).2.lsn = S.base + i := by
  intro i hi
  simp only [LgS.more, List.length_append, List.length_cons, List.length_nil] at hi
  by_cases hlt : i < S.recs.length
  ·simp only [LgS.more]
   rw [List.getElem_append_left hlt]; exact h.lsn i hlt
  ·simp only [LgS.more]
   rw [List.getElem_append_right (by omega)]
   simp only [show i - S.recs.length = 0 by omega, List.getElem_cons_zero]
   rw [h2]; unfold LgS.next; omega
 have hfr : Yo (S.more x) (S.fl + 1) = [x] := by
  have e : Yo (S.more x) (S.fl + 1) = (S.more x).recs.drop (S.fl + 1 - S.base) := filt_drop _ _ _ hall
  have e2 : S.fl + 1 - S.base = S.recs.length := by have := h.fl; unfold LgS.next at this; omega
  rw [e, e2]; simp [LgS.more]
 have hus : S.R.used = ZH S.recs := by rw [h.good.ro.ok.used, h.ents, usedL_recs h.ok]
 have hrn : S.R.next = S.next := by unfold RgS.next LgS.next; rw [h.first, hl]
 obtain ⟨R', D', e, g', e1, e2, _, _⟩ := flushL_good S.next [x] S.R D S.fl h.good (fun y hy => by rw [List.mem_singleton.1 hy]; exact h1) (by rw [hus, h.size, show ZH [x] = Xz x.2 by simp [ZH]]; omega) (by rw [hrn]; have := h.next; simp; omega)
 have hup : upTo S.next [x] = [x] := by unfold upTo; rw [List.takeWhile_cons, decide_eq_true (by omega)]; rfl
 rw [hup] at e e2
 refine ⟨R', D', x.2.lsn, ?_, ?_⟩
 ·unfold LgS.flush
  rw [if_neg (by omega), hn, Nat.add_sub_cancel, hfl, hfr, show (S.more x).R = S.R from rfl, e]
  rfl
 ·have hrec : ((S.more x).at R' x.2.lsn).recs = S.recs ++ [x] := rfl
  refine ⟨g', ?_, ?_, hall, ?_, h.base, ?_, ?_, ?_, ?_, ?_, ?_⟩
  ·intro y hy
   rw [hrec] at hy
   rcases List.mem_append.1 hy with hy | hy
   ·exact h.ok y hy
   ·rw [List.mem_singleton.1 hy]; exact h1
  ·intro y hy
   rw [hrec] at hy
   rcases List.mem_append.1 hy with hy | hy
   ·exact h.rf y hy
   ·rw [List.mem_singleton.1 hy]; exact hf
  ·show R'.h.first = S.base
   rw [e1]; exact h.first
  ·show x.2.lsn + 1 = (S.more x).next
   omega
  ·show R'.ents = (S.recs ++ [x]).map _
   rw [e2, h.ents]; simp
  ·show ZH (S.recs ++ [x]) ≤ 400
   rw [usedR_add]; simp [ZH] at h3 ⊢; omega
  ·show R'.h.size = 450
   rw [e1]; exact h.size
  ·show R'.h.turn ≤ t + 1 + 1
   rw [e1]; have := h.turn; omega
  ·show (S.more x).next ≤ t + 1 + 1
   have := h.next; omega
theorem Rm.cut {S : LgS} {D : DS} {t : Nat} (h : Rm S D t) (ht : t ≤ 1000) {fr : Nat} (nx : Nat) (h1 : S.base ≤ fr) (h2 : fr ≤ S.fl + 1) :
  ∃ D', S.trunc fr 0 nx D = (S.cutTo (S.R.minus (fr - S.base) (YV [0, nx] 2)) fr 0 nx (S.recs.drop (fr - S.base)), D', 0) ∧ Rm (S.cutTo (S.R.minus (fr - S.base) (YV [0, nx] 2)) fr 0 nx (S.recs.drop (fr - S.base))) D' (t + 1) := by
 have hl := h.len
 have hfl := h.fl
 have hrn : S.R.next = S.next := by unfold RgS.next LgS.next; rw [h.first, hl]
 have hn := h.next
 have htn := h.turn
 have hm : fr - S.base ≤ S.recs.length := by unfold LgS.next at hfl; omega
 obtain ⟨D', e, g⟩ := LgS.trunc_good (S := S) (fr := fr) (ma := 0) (nx := nx) h.good (by omega) (by omega) (by omega)
 rw [h.from] at e
 have hnx : (S.cutTo (S.R.minus (fr - S.base) (YV [0, nx] 2)) fr 0 nx (S.recs.drop (fr - S.base))).next = S.next := by
  simp only [LgS.next, LgS.cutTo, List.length_drop]; omega
 refine ⟨D', e, g, fun x hx => h.ok x (List.mem_of_mem_drop hx), fun x hx => h.rf x (List.mem_of_mem_drop hx), ?_, ?_, ?_, ?_, ?_, ?_, ?_, ?_, ?_⟩
 ·intro i hi
  simp only [LgS.cutTo, List.length_drop] at hi
  simp only [LgS.cutTo, List.getElem_drop]
  rw [h.lsn]; omega
 ·show S.R.h.first + (fr - S.base) = fr
  rw [h.first]; omega
 ·show 1 ≤ fr
  have := h.base; omega
 ·rw [hnx]; exact hfl
 ·show S.R.ents.drop _ = (S.recs.drop _).map _
  rw [h.ents, List.map_drop]
 ·show ZH (S.recs.drop _) ≤ 400
  have := usedR_add (S.recs.take (fr - S.base)) (S.recs.drop (fr - S.base))
  rw [List.take_append_drop] at this
  have := h.used; omega
 ·exact h.size
 ·show S.R.h.turn + 1 ≤ t + 1 + 1
  omega
 ·rw [hnx]; omega
theorem note_back (S : LgS) : notedS S (YV [0, 5] 2) = ({ S with ma := 0, nx := ((5 : Nat) : Int) }, true) := by
 unfold notedS
 rw [if_neg (by decide), if_pos (by decide)]
 rfl
end Go.Proofs.E
