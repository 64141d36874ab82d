/- The law RosterMarks. Part 17 of 20. -/
import Derived.Test.YtkbiahafeoillaaGreatU16
namespace Go.Proofs.E
open Go
set_option linter.unusedVariables false
set_option linter.unusedSimpArgs false
set_option linter.unusedSectionVars false
set_option maxRecDepth 4000
set_option maxHeartbeats 1000000
attribute [local irreducible] Yl TL TC TE Spec Wh R1 Hp.le EnvLe TS TR YS Zq
theorem risesRowL_spec (ρ : Hp) (a : Option Addr) (n c : Nat) (l : List Row) (h : AIn ρ 4 rowV a n l) (hn : n ≤ 281474976710656) :
  Spec Tryz.prog 205 [.slice a n c, .int .i64 4, .func (.func 206) ⟨[]⟩ ⟨[]⟩, .func (.func 207) ⟨[]⟩ ⟨[]⟩] ρ [] (fun v ρ' L' => v = .bool (rowsOk l) ∧ ρ' = ρ ∧ L' = []) := by
 have hl := h.len
 unfold rowsOk
 rw [hl]
 refine Zg Tryz.func205 rfl rfl rfl fun u R => ?_
 simp only [Zx, List.cons_append, List.nil_append]
 repeat' (first | (refine Zj ?_; first | (refine Zf ?_; refine qQ ?_) | refine Zm ?_) | refine Za ?_ | (refine Zi ?_; refine Zt ?_) | (refine Zh ?_; refine Zs ?_) | intro _)
 have e0 : decide ((n : Int) ≤ 4) = ZK 4 (fun _ r => Xd r) ltR l 0 := by
  rw [ZK]; simp [hl]; omega
 rw [e0]
 refine ZG [(0, _), (2, _), (3, _), (8, _), (16, _), (17, _)] (fun (ζ : (Nat)) => [(18, .int .i64 ζ), (9, .bool (ZK 4 (fun _ r => Xd r) ltR l ζ))]) (fun (ζ : (Nat)) => ρ) (fun (ζ : (Nat)) => []) (fun (ζ : (Nat)) => ζ ≤ n) (fun (ζ : (Nat)) => n - ζ) (0) (Nat.zero_le _) Zo Zo rfl tk ?_
 rintro k hI
 try simp only [List.cons_append, List.nil_append, List.append_assoc, List.append_eq] at hI ⊢
 try dsimp only at hI ⊢
 by_cases hlt : k < n
 ·obtain ⟨b, off, C, T, fr, rfl, hb, hfit, hc⟩ := h.get (show k < l.length by omega)
  have hs := YR (most := 4) (right := fun _ r => Xd r) (lt := ltR) (show k < l.length by omega)
  have hfin := fun (e : ZK 4 (fun _ r => Xd r) ltR l (k + 1) = false) => YK e (show k + 1 ≤ n by omega)
  cases hok : ZK 4 (fun _ r => Xd r) ltR l k
  ·rw [hok, Bool.false_and] at hs
   rw [hfin hs]
   generalize l[k] = x at *
   repeat' (first | (refine Zj ?_; first | (refine Zf ?_; refine qQ ?_) | refine Zm ?_) | refine Za ?_ | (refine Zi ?_; refine Zt ?_) | (refine Zh ?_; refine Zs ?_) | intro _)
   refine ZC (Zq _ _ _) ZF ?_
   all_goals (refine ZU 0 ?_; refine ZU 1 ?_)
   all_goals (first | refine Zc 2 ?_ | refine Zb 2 ?_ | refine ZI 2 ?_ | (refine ZB (t := 24) rfl (fun hb => ?_) (fun hb => ?_) <;> (try simp only [kk] at hb) <;> first | refine Zc 2 ?_ | refine Zb 2 ?_ | refine ZI 2 ?_))
   all_goals ((first | refine Zc 3 ?_ | refine Zb 3 ?_ | refine ZI 3 ?_); (first | refine Zc 4 ?_ | refine Zb 4 ?_ | refine wLd 4 ?_))
   all_goals (first | refine Zc 5 ?_ | refine Zb 5 ?_ | (refine Zp (i := 5) ?_; ((try refine Zk ?_); (first | (refine Zm ?_; try intro _)) <;> ((try simp only [kM, kN, kO]); refine Za ?_; refine Zl ?_))))
   all_goals (refine rPk 6 ?_; refine ZU 7 ?_)
   all_goals (first | refine Zc 8 ?_ | refine Zb 8 ?_ | refine ZI 8 ?_ | (refine ZB (t := 30) rfl (fun hb => ?_) (fun hb => ?_) <;> (try simp only [kk] at hb) <;> first | refine Zc 8 ?_ | refine Zb 8 ?_ | refine ZI 8 ?_))
   all_goals ((first | refine Zc 9 ?_ | refine Zb 9 ?_ | refine wCm 9 ?_); (first | refine Zc 10 ?_ | refine Zb 10 ?_ | refine ZI 10 ?_))
   all_goals (first | refine Zc 11 ?_ | refine Zb 11 ?_ | refine ZI 11 ?_ | (refine ZB (t := 33) rfl (fun hb => ?_) (fun hb => ?_) <;> (try simp only [kk] at hb) <;> first | refine Zc 11 ?_ | refine Zb 11 ?_ | refine ZI 11 ?_))
   all_goals ((first | refine Zc 12 ?_ | refine Zb 12 ?_ | refine ZI 12 ?_); (first | refine Zc 13 ?_ | refine Zb 13 ?_ | refine ZI 13 ?_); (first | refine Zc 14 ?_ | refine Zb 14 ?_ | refine wSb 14 ?_); (first | refine Zc 15 ?_ | refine Zb 15 ?_ | refine wIa 15 ?_); (first | refine Zc 16 ?_ | refine Zb 16 ?_ | refine wLd 16 ?_); (first | refine Zc 18 ?_ | refine Zb 18 ?_ | refine ZI 18 ?_); (first | refine Zc 19 ?_ | refine Zb 19 ?_ | refine wLd 19 ?_))
   all_goals (first | refine Zc 17 ?_ | refine Zb 17 ?_ | (refine Zp (i := 17) ?_; ((try refine Zk ?_); (first | (refine Zm ?_; try intro _)) <;> ((try simp only [kM, kN, kO]); refine Za ?_; refine Zl ?_))))
   all_goals (first | refine Zc 20 ?_ | refine Zb 20 ?_ | (refine Zp (i := 20) ?_; ((try refine Zk ?_); (first | (refine Zm ?_; try intro _)) <;> ((try simp only [kM, kN, kO]); refine Za ?_; refine Zl ?_))))
   all_goals (first | refine Zc 21 ?_ | refine Zb 21 ?_ | (refine Zp (i := 21) ?_; ((try refine Zk ?_); (first | (refine Zm ?_; try intro _)) <;> ((try simp only [kM, kN, kO]); refine Za ?_; refine Zl ?_))))
   all_goals (refine ZS ?_; (first | refine Zc 22 ?_ | refine Zb 22 ?_ | refine wCm 22 ?_); (first | refine Zc 23 ?_ | refine Zb 23 ?_ | refine wPk 23 ?_); refine rPk 24 ?_; refine rAs 25 ?_; refine ZH ?_)
   repeat' (first | (refine Zj ?_; first | (refine Zf ?_; refine qQ ?_) | refine Zm ?_) | refine Za ?_ | (refine Zi ?_; refine Zt ?_) | (refine Zh ?_; refine Zs ?_) | intro _)
   exact qE ⟨rfl, rfl, rfl⟩
  ·rw [hok, Bool.true_and] at hs
   cases hx : Xd l[k]
   ·rw [hx, Bool.false_and] at hs
    rw [hfin hs]
    generalize l[k] = x at *
    repeat' (first | (refine Zj ?_; first | (refine Zf ?_; refine qQ ?_) | refine Zm ?_) | refine Za ?_ | (refine Zi ?_; refine Zt ?_) | (refine Zh ?_; refine Zs ?_) | intro _)
    refine ZC (Zq _ _ _) ZF ?_
    all_goals (refine ZU 0 ?_; refine ZU 1 ?_)
    all_goals (first | refine Zc 2 ?_ | refine Zb 2 ?_ | refine ZI 2 ?_ | (refine ZB (t := 24) rfl (fun hb => ?_) (fun hb => ?_) <;> (try simp only [kk] at hb) <;> first | refine Zc 2 ?_ | refine Zb 2 ?_ | refine ZI 2 ?_))
    all_goals ((first | refine Zc 3 ?_ | refine Zb 3 ?_ | refine ZI 3 ?_); (first | refine Zc 4 ?_ | refine Zb 4 ?_ | refine wLd 4 ?_))
    all_goals (first | refine Zc 5 ?_ | refine Zb 5 ?_ | (refine Zp (i := 5) ?_; ((try refine Zk ?_); (first | (refine Ze (.tmp 25) ?_; refine qC rfl rfl (Yb _ _ _) ?_; rintro v ρ' L' hle ⟨rfl, rfl, rfl⟩ <;> (try simp only [kM, kN, kO, hx])) | (refine Ze (.tmp 34) ?_; refine qC rfl rfl (ZD _ _) ?_; rintro v ρ' L' hle ⟨rfl, rfl, rfl⟩ <;> (try simp only [kM, kN, kO])) | (refine Ze (.tmp 41) ?_; refine qC rfl rfl (ZD _ _) ?_; rintro v ρ' L' hle ⟨rfl, rfl, rfl⟩ <;> (try simp only [kM, kN, kO])) | (refine Zm ?_; try intro _)) <;> ((try simp only [kM, kN, kO]); refine Za ?_; refine Zl ?_))))
    all_goals (refine rPk 6 ?_; refine ZU 7 ?_)
    all_goals (first | refine Zc 8 ?_ | refine Zb 8 ?_ | refine ZI 8 ?_ | (refine ZB (t := 30) rfl (fun hb => ?_) (fun hb => ?_) <;> (try simp only [kk] at hb) <;> first | refine Zc 8 ?_ | refine Zb 8 ?_ | refine ZI 8 ?_))
    all_goals ((first | refine Zc 9 ?_ | refine Zb 9 ?_ | refine wCm 9 ?_); (first | refine Zc 10 ?_ | refine Zb 10 ?_ | refine ZI 10 ?_))
    all_goals (first | refine Zc 11 ?_ | refine Zb 11 ?_ | refine ZI 11 ?_ | (refine ZB (t := 33) rfl (fun hb => ?_) (fun hb => ?_) <;> (try simp only [kk] at hb) <;> first | refine Zc 11 ?_ | refine Zb 11 ?_ | refine ZI 11 ?_))
    all_goals ((first | refine Zc 12 ?_ | refine Zb 12 ?_ | refine ZI 12 ?_); (first | refine Zc 13 ?_ | refine Zb 13 ?_ | refine ZI 13 ?_); (first | refine Zc 14 ?_ | refine Zb 14 ?_ | refine wSb 14 ?_); (first | refine Zc 15 ?_ | refine Zb 15 ?_ | refine wIa 15 ?_); (first | refine Zc 16 ?_ | refine Zb 16 ?_ | refine wLd 16 ?_); (first | refine Zc 18 ?_ | refine Zb 18 ?_ | refine ZI 18 ?_); (first | refine Zc 19 ?_ | refine Zb 19 ?_ | refine wLd 19 ?_))
    all_goals (first | refine Zc 17 ?_ | refine Zb 17 ?_ | (refine Zp (i := 17) ?_; ((try refine Zk ?_); (first | (refine Ze (.tmp 25) ?_; refine qC rfl rfl (Yb _ _ _) ?_; rintro v ρ' L' hle ⟨rfl, rfl, rfl⟩ <;> (try simp only [kM, kN, kO, hx])) | (refine Ze (.tmp 34) ?_; refine qC rfl rfl (ZD _ _) ?_; rintro v ρ' L' hle ⟨rfl, rfl, rfl⟩ <;> (try simp only [kM, kN, kO])) | (refine Ze (.tmp 41) ?_; refine qC rfl rfl (ZD _ _) ?_; rintro v ρ' L' hle ⟨rfl, rfl, rfl⟩ <;> (try simp only [kM, kN, kO])) | (refine Zm ?_; try intro _)) <;> ((try simp only [kM, kN, kO]); refine Za ?_; refine Zl ?_))))
    all_goals (first | refine Zc 20 ?_ | refine Zb 20 ?_ | (refine Zp (i := 20) ?_; ((try refine Zk ?_); (first | (refine Ze (.tmp 25) ?_; refine qC rfl rfl (Yb _ _ _) ?_; rintro v ρ' L' hle ⟨rfl, rfl, rfl⟩ <;> (try simp only [kM, kN, kO, hx])) | (refine Ze (.tmp 34) ?_; refine qC rfl rfl (ZD _ _) ?_; rintro v ρ' L' hle ⟨rfl, rfl, rfl⟩ <;> (try simp only [kM, kN, kO])) | (refine Ze (.tmp 41) ?_; refine qC rfl rfl (ZD _ _) ?_; rintro v ρ' L' hle ⟨rfl, rfl, rfl⟩ <;> (try simp only [kM, kN, kO])) | (refine Zm ?_; try intro _)) <;> ((try simp only [kM, kN, kO]); refine Za ?_; refine Zl ?_))))
    all_goals (first | refine Zc 21 ?_ | refine Zb 21 ?_ | (refine Zp (i := 21) ?_; ((try refine Zk ?_); (first | (refine Ze (.func 219) ?_; refine qC rfl rfl (Yk _ _ _ _ _) ?_; rintro v ρ' L' hle ⟨rfl, rfl, rfl⟩ <;> (try simp only [kM, kN, kO])) | (refine Zm ?_; try intro _)) <;> ((try simp only [kM, kN, kO]); refine Za ?_; refine Zl ?_))))
    all_goals (refine ZS ?_; (first | refine Zc 22 ?_ | refine Zb 22 ?_ | refine wCm 22 ?_); (first | refine Zc 23 ?_ | refine Zb 23 ?_ | refine wPk 23 ?_); refine rPk 24 ?_; refine rAs 25 ?_; refine ZH ?_)
    repeat' (first | (refine Zj ?_; first | (refine Zf ?_; refine qQ ?_) | refine Zm ?_) | refine Za ?_ | (refine Zi ?_; refine Zt ?_) | (refine Zh ?_; refine Zs ?_) | intro _)
    exact qE ⟨rfl, rfl, rfl⟩
   ·rw [hx, Bool.true_and] at hs
    by_cases hk0 : k = 0
    ·have hs' : ZK 4 (fun _ r => Xd r) ltR l (k + 1) = true := by rw [hs]; simp [hk0]
     generalize l[k] = x at *
     repeat' (first | (refine Zj ?_; first | (refine Zf ?_; refine qQ ?_) | refine Zm ?_) | refine Za ?_ | (refine Zi ?_; refine Zt ?_) | (refine Zh ?_; refine Zs ?_) | intro _)
     refine ZC (Zq _ _ _) ZF ?_
     all_goals (refine ZU 0 ?_; refine ZU 1 ?_)
     all_goals (first | refine Zc 2 ?_ | refine Zb 2 ?_ | refine ZI 2 ?_ | (refine ZB (t := 24) rfl (fun hb => ?_) (fun hb => ?_) <;> (try simp only [kk] at hb) <;> first | refine Zc 2 ?_ | refine Zb 2 ?_ | refine ZI 2 ?_))
     all_goals ((first | refine Zc 3 ?_ | refine Zb 3 ?_ | refine ZI 3 ?_); (first | refine Zc 4 ?_ | refine Zb 4 ?_ | refine wLd 4 ?_))
     all_goals (first | refine Zc 5 ?_ | refine Zb 5 ?_ | (refine Zp (i := 5) ?_; ((try refine Zk ?_); (first | (refine Ze (.tmp 25) ?_; refine qC rfl rfl (Yb _ _ _) ?_; rintro v ρ' L' hle ⟨rfl, rfl, rfl⟩ <;> (try simp only [kM, kN, kO, hx])) | (refine Ze (.tmp 34) ?_; refine qC rfl rfl (ZD _ _) ?_; rintro v ρ' L' hle ⟨rfl, rfl, rfl⟩ <;> (try simp only [kM, kN, kO])) | (refine Ze (.tmp 41) ?_; refine qC rfl rfl (ZD _ _) ?_; rintro v ρ' L' hle ⟨rfl, rfl, rfl⟩ <;> (try simp only [kM, kN, kO])) | (refine Zm ?_; try intro _)) <;> ((try simp only [kM, kN, kO]); refine Za ?_; refine Zl ?_))))
     all_goals (refine rPk 6 ?_; refine ZU 7 ?_)
     all_goals (first | refine Zc 8 ?_ | refine Zb 8 ?_ | refine ZI 8 ?_ | (refine ZB (t := 30) rfl (fun hb => ?_) (fun hb => ?_) <;> (try simp only [kk] at hb) <;> first | refine Zc 8 ?_ | refine Zb 8 ?_ | refine ZI 8 ?_))
     all_goals ((first | refine Zc 9 ?_ | refine Zb 9 ?_ | refine wCm 9 ?_); (first | refine Zc 10 ?_ | refine Zb 10 ?_ | refine ZI 10 ?_))
     all_goals (first | refine Zc 11 ?_ | refine Zb 11 ?_ | refine ZI 11 ?_ | (refine ZB (t := 33) rfl (fun hb => ?_) (fun hb => ?_) <;> (try simp only [kk] at hb) <;> first | refine Zc 11 ?_ | refine Zb 11 ?_ | refine ZI 11 ?_))
     all_goals ((first | refine Zc 12 ?_ | refine Zb 12 ?_ | refine ZI 12 ?_); (first | refine Zc 13 ?_ | refine Zb 13 ?_ | refine ZI 13 ?_); (first | refine Zc 14 ?_ | refine Zb 14 ?_ | refine wSb 14 ?_); (first | refine Zc 15 ?_ | refine Zb 15 ?_ | refine wIa 15 ?_); (first | refine Zc 16 ?_ | refine Zb 16 ?_ | refine wLd 16 ?_); (first | refine Zc 18 ?_ | refine Zb 18 ?_ | refine ZI 18 ?_); (first | refine Zc 19 ?_ | refine Zb 19 ?_ | refine wLd 19 ?_))
     all_goals (first | refine Zc 17 ?_ | refine Zb 17 ?_ | (refine Zp (i := 17) ?_; ((try refine Zk ?_); (first | (refine Ze (.tmp 25) ?_; refine qC rfl rfl (Yb _ _ _) ?_; rintro v ρ' L' hle ⟨rfl, rfl, rfl⟩ <;> (try simp only [kM, kN, kO, hx])) | (refine Ze (.tmp 34) ?_; refine qC rfl rfl (ZD _ _) ?_; rintro v ρ' L' hle ⟨rfl, rfl, rfl⟩ <;> (try simp only [kM, kN, kO])) | (refine Ze (.tmp 41) ?_; refine qC rfl rfl (ZD _ _) ?_; rintro v ρ' L' hle ⟨rfl, rfl, rfl⟩ <;> (try simp only [kM, kN, kO])) | (refine Zm ?_; try intro _)) <;> ((try simp only [kM, kN, kO]); refine Za ?_; refine Zl ?_))))
     all_goals (first | refine Zc 20 ?_ | refine Zb 20 ?_ | (refine Zp (i := 20) ?_; ((try refine Zk ?_); (first | (refine Ze (.tmp 25) ?_; refine qC rfl rfl (Yb _ _ _) ?_; rintro v ρ' L' hle ⟨rfl, rfl, rfl⟩ <;> (try simp only [kM, kN, kO, hx])) | (refine Ze (.tmp 34) ?_; refine qC rfl rfl (ZD _ _) ?_; rintro v ρ' L' hle ⟨rfl, rfl, rfl⟩ <;> (try simp only [kM, kN, kO])) | (refine Ze (.tmp 41) ?_; refine qC rfl rfl (ZD _ _) ?_; rintro v ρ' L' hle ⟨rfl, rfl, rfl⟩ <;> (try simp only [kM, kN, kO])) | (refine Zm ?_; try intro _)) <;> ((try simp only [kM, kN, kO]); refine Za ?_; refine Zl ?_))))
     all_goals (first | refine Zc 21 ?_ | refine Zb 21 ?_ | (refine Zp (i := 21) ?_; ((try refine Zk ?_); (first | (refine Ze (.func 219) ?_; refine qC rfl rfl (Yk _ _ _ _ _) ?_; rintro v ρ' L' hle ⟨rfl, rfl, rfl⟩ <;> (try simp only [kM, kN, kO])) | (refine Zm ?_; try intro _)) <;> ((try simp only [kM, kN, kO]); refine Za ?_; refine Zl ?_))))
     all_goals (refine ZS ?_; (first | refine Zc 22 ?_ | refine Zb 22 ?_ | refine wCm 22 ?_); (first | refine Zc 23 ?_ | refine Zb 23 ?_ | refine wPk 23 ?_); refine rPk 24 ?_; refine rAs 25 ?_; refine ZH ?_)
     repeat' (first | (refine Zj ?_; first | (refine Zf ?_; refine qQ ?_) | refine Zm ?_) | refine Za ?_ | (refine Zi ?_; refine Zt ?_) | (refine Zh ?_; refine Zs ?_) | intro _)
     rw [← hs']
     refine Zr (k + 1) (hlt) Zo Zo rfl tk inferInstance (by first | omega | (dsimp only; omega))
    ·have hd : decide (k = 0) = false := decide_eq_false hk0
     obtain ⟨b2, off2, C2, T2, fr2, f1, hb2, hfit2, hc2⟩ := h.get (show k - 1 < l.length by omega)
     cases f1
     rw [hb] at hb2
     cases hb2
     have ek : ((k : Int) - 1).toNat = k - 1 := by omega
     rw [← ek] at hfit2
     have hc3 : List.take 4 (List.drop (off + ((k : Int) - 1).toNat * 4) C) = rowV (l[k - 1]'(by omega)) := by rw [ek]; exact hc2
     clear hc2
     rw [hd, Bool.false_or] at hs
     generalize l[k] = x at *
     generalize l[k - 1]'(by omega) = y at *
     unfold ltR at hs
     by_cases hcm : cmpK y.t y.id x.t x.id < 0
     ·rw [decide_eq_true hcm] at hs
      repeat' (first | (refine Zj ?_; first | (refine Zf ?_; refine qQ ?_) | refine Zm ?_) | refine Za ?_ | (refine Zi ?_; refine Zt ?_) | (refine Zh ?_; refine Zs ?_) | intro _)
      refine ZC (Zq _ _ _) ZF ?_
      all_goals (refine ZU 0 ?_; refine ZU 1 ?_)
      all_goals (first | refine Zc 2 ?_ | refine Zb 2 ?_ | refine ZI 2 ?_ | (refine ZB (t := 24) rfl (fun hb => ?_) (fun hb => ?_) <;> (try simp only [kk] at hb) <;> first | refine Zc 2 ?_ | refine Zb 2 ?_ | refine ZI 2 ?_))
      all_goals ((first | refine Zc 3 ?_ | refine Zb 3 ?_ | refine ZI 3 ?_); (first | refine Zc 4 ?_ | refine Zb 4 ?_ | refine wLd 4 ?_))
      all_goals (first | refine Zc 5 ?_ | refine Zb 5 ?_ | (refine Zp (i := 5) ?_; ((try refine Zk ?_); (first | (refine Ze (.tmp 25) ?_; refine qC rfl rfl (Yb _ _ _) ?_; rintro v ρ' L' hle ⟨rfl, rfl, rfl⟩ <;> (try simp only [kM, kN, kO, hx])) | (refine Ze (.tmp 34) ?_; refine qC rfl rfl (ZD _ _) ?_; rintro v ρ' L' hle ⟨rfl, rfl, rfl⟩ <;> (try simp only [kM, kN, kO])) | (refine Ze (.tmp 41) ?_; refine qC rfl rfl (ZD _ _) ?_; rintro v ρ' L' hle ⟨rfl, rfl, rfl⟩ <;> (try simp only [kM, kN, kO])) | (refine Zm ?_; try intro _)) <;> ((try simp only [kM, kN, kO]); refine Za ?_; refine Zl ?_))))
      all_goals (refine rPk 6 ?_; refine ZU 7 ?_)
      all_goals (first | refine Zc 8 ?_ | refine Zb 8 ?_ | refine ZI 8 ?_ | (refine ZB (t := 30) rfl (fun hb => ?_) (fun hb => ?_) <;> (try simp only [kk] at hb) <;> first | refine Zc 8 ?_ | refine Zb 8 ?_ | refine ZI 8 ?_))
      all_goals ((first | refine Zc 9 ?_ | refine Zb 9 ?_ | refine wCm 9 ?_); (first | refine Zc 10 ?_ | refine Zb 10 ?_ | refine ZI 10 ?_))
      all_goals (first | refine Zc 11 ?_ | refine Zb 11 ?_ | refine ZI 11 ?_ | (refine ZB (t := 33) rfl (fun hb => ?_) (fun hb => ?_) <;> (try simp only [kk] at hb) <;> first | refine Zc 11 ?_ | refine Zb 11 ?_ | refine ZI 11 ?_))
      all_goals ((first | refine Zc 12 ?_ | refine Zb 12 ?_ | refine ZI 12 ?_); (first | refine Zc 13 ?_ | refine Zb 13 ?_ | refine ZI 13 ?_); (first | refine Zc 14 ?_ | refine Zb 14 ?_ | refine wSb 14 ?_); (first | refine Zc 15 ?_ | refine Zb 15 ?_ | refine wIa 15 ?_); (first | refine Zc 16 ?_ | refine Zb 16 ?_ | refine wLd 16 ?_); (first | refine Zc 18 ?_ | refine Zb 18 ?_ | refine ZI 18 ?_); (first | refine Zc 19 ?_ | refine Zb 19 ?_ | refine wLd 19 ?_))
      all_goals (first | refine Zc 17 ?_ | refine Zb 17 ?_ | (refine Zp (i := 17) ?_; ((try refine Zk ?_); (first | (refine Ze (.tmp 25) ?_; refine qC rfl rfl (Yb _ _ _) ?_; rintro v ρ' L' hle ⟨rfl, rfl, rfl⟩ <;> (try simp only [kM, kN, kO, hx])) | (refine Ze (.tmp 34) ?_; refine qC rfl rfl (ZD _ _) ?_; rintro v ρ' L' hle ⟨rfl, rfl, rfl⟩ <;> (try simp only [kM, kN, kO])) | (refine Ze (.tmp 41) ?_; refine qC rfl rfl (ZD _ _) ?_; rintro v ρ' L' hle ⟨rfl, rfl, rfl⟩ <;> (try simp only [kM, kN, kO])) | (refine Zm ?_; try intro _)) <;> ((try simp only [kM, kN, kO]); refine Za ?_; refine Zl ?_))))
      all_goals (first | refine Zc 20 ?_ | refine Zb 20 ?_ | (refine Zp (i := 20) ?_; ((try refine Zk ?_); (first | (refine Ze (.tmp 25) ?_; refine qC rfl rfl (Yb _ _ _) ?_; rintro v ρ' L' hle ⟨rfl, rfl, rfl⟩ <;> (try simp only [kM, kN, kO, hx])) | (refine Ze (.tmp 34) ?_; refine qC rfl rfl (ZD _ _) ?_; rintro v ρ' L' hle ⟨rfl, rfl, rfl⟩ <;> (try simp only [kM, kN, kO])) | (refine Ze (.tmp 41) ?_; refine qC rfl rfl (ZD _ _) ?_; rintro v ρ' L' hle ⟨rfl, rfl, rfl⟩ <;> (try simp only [kM, kN, kO])) | (refine Zm ?_; try intro _)) <;> ((try simp only [kM, kN, kO]); refine Za ?_; refine Zl ?_))))
      all_goals (first | refine Zc 21 ?_ | refine Zb 21 ?_ | (refine Zp (i := 21) ?_; ((try refine Zk ?_); (first | (refine Ze (.func 219) ?_; refine qC rfl rfl (Yk _ _ _ _ _) ?_; rintro v ρ' L' hle ⟨rfl, rfl, rfl⟩ <;> (try simp only [kM, kN, kO])) | (refine Zm ?_; try intro _)) <;> ((try simp only [kM, kN, kO]); refine Za ?_; refine Zl ?_))))
      all_goals (refine ZS ?_; (first | refine Zc 22 ?_ | refine Zb 22 ?_ | refine wCm 22 ?_); (first | refine Zc 23 ?_ | refine Zb 23 ?_ | refine wPk 23 ?_); refine rPk 24 ?_; refine rAs 25 ?_; refine ZH ?_)
      all_goals (repeat' (first | (refine Zj ?_; first | (refine Zf ?_; refine qQ ?_) | refine Zm ?_) | refine Za ?_ | (refine Zi ?_; refine Zt ?_) | (refine Zh ?_; refine Zs ?_) | intro _))
      all_goals rw [← hs]
      all_goals refine Zr (k + 1) (hlt) Zo Zo rfl tk inferInstance (by first | omega | (dsimp only; omega))
     ·rw [decide_eq_false hcm] at hs
      rw [hfin hs]
      repeat' (first | (refine Zj ?_; first | (refine Zf ?_; refine qQ ?_) | refine Zm ?_) | refine Za ?_ | (refine Zi ?_; refine Zt ?_) | (refine Zh ?_; refine Zs ?_) | intro _)
      refine ZC (Zq _ _ _) ZF ?_
      all_goals (refine ZU 0 ?_; refine ZU 1 ?_)
      all_goals (first | refine Zc 2 ?_ | refine Zb 2 ?_ | refine ZI 2 ?_ | (refine ZB (t := 24) rfl (fun hb => ?_) (fun hb => ?_) <;> (try simp only [kk] at hb) <;> first | refine Zc 2 ?_ | refine Zb 2 ?_ | refine ZI 2 ?_))
      all_goals ((first | refine Zc 3 ?_ | refine Zb 3 ?_ | refine ZI 3 ?_); (first | refine Zc 4 ?_ | refine Zb 4 ?_ | refine wLd 4 ?_))
      all_goals (first | refine Zc 5 ?_ | refine Zb 5 ?_ | (refine Zp (i := 5) ?_; ((try refine Zk ?_); (first | (refine Ze (.tmp 25) ?_; refine qC rfl rfl (Yb _ _ _) ?_; rintro v ρ' L' hle ⟨rfl, rfl, rfl⟩ <;> (try simp only [kM, kN, kO, hx])) | (refine Ze (.tmp 34) ?_; refine qC rfl rfl (ZD _ _) ?_; rintro v ρ' L' hle ⟨rfl, rfl, rfl⟩ <;> (try simp only [kM, kN, kO])) | (refine Ze (.tmp 41) ?_; refine qC rfl rfl (ZD _ _) ?_; rintro v ρ' L' hle ⟨rfl, rfl, rfl⟩ <;> (try simp only [kM, kN, kO])) | (refine Zm ?_; try intro _)) <;> ((try simp only [kM, kN, kO]); refine Za ?_; refine Zl ?_))))
      all_goals (refine rPk 6 ?_; refine ZU 7 ?_)
      all_goals (first | refine Zc 8 ?_ | refine Zb 8 ?_ | refine ZI 8 ?_ | (refine ZB (t := 30) rfl (fun hb => ?_) (fun hb => ?_) <;> (try simp only [kk] at hb) <;> first | refine Zc 8 ?_ | refine Zb 8 ?_ | refine ZI 8 ?_))
      all_goals ((first | refine Zc 9 ?_ | refine Zb 9 ?_ | refine wCm 9 ?_); (first | refine Zc 10 ?_ | refine Zb 10 ?_ | refine ZI 10 ?_))
      all_goals (first | refine Zc 11 ?_ | refine Zb 11 ?_ | refine ZI 11 ?_ | (refine ZB (t := 33) rfl (fun hb => ?_) (fun hb => ?_) <;> (try simp only [kk] at hb) <;> first | refine Zc 11 ?_ | refine Zb 11 ?_ | refine ZI 11 ?_))
      all_goals ((first | refine Zc 12 ?_ | refine Zb 12 ?_ | refine ZI 12 ?_); (first | refine Zc 13 ?_ | refine Zb 13 ?_ | refine ZI 13 ?_); (first | refine Zc 14 ?_ | refine Zb 14 ?_ | refine wSb 14 ?_); (first | refine Zc 15 ?_ | refine Zb 15 ?_ | refine wIa 15 ?_); (first | refine Zc 16 ?_ | refine Zb 16 ?_ | refine wLd 16 ?_); (first | refine Zc 18 ?_ | refine Zb 18 ?_ | refine ZI 18 ?_); (first | refine Zc 19 ?_ | refine Zb 19 ?_ | refine wLd 19 ?_))
      all_goals (first | refine Zc 17 ?_ | refine Zb 17 ?_ | (refine Zp (i := 17) ?_; ((try refine Zk ?_); (first | (refine Ze (.tmp 25) ?_; refine qC rfl rfl (Yb _ _ _) ?_; rintro v ρ' L' hle ⟨rfl, rfl, rfl⟩ <;> (try simp only [kM, kN, kO, hx])) | (refine Ze (.tmp 34) ?_; refine qC rfl rfl (ZD _ _) ?_; rintro v ρ' L' hle ⟨rfl, rfl, rfl⟩ <;> (try simp only [kM, kN, kO])) | (refine Ze (.tmp 41) ?_; refine qC rfl rfl (ZD _ _) ?_; rintro v ρ' L' hle ⟨rfl, rfl, rfl⟩ <;> (try simp only [kM, kN, kO])) | (refine Zm ?_; try intro _)) <;> ((try simp only [kM, kN, kO]); refine Za ?_; refine Zl ?_))))
      all_goals (first | refine Zc 20 ?_ | refine Zb 20 ?_ | (refine Zp (i := 20) ?_; ((try refine Zk ?_); (first | (refine Ze (.tmp 25) ?_; refine qC rfl rfl (Yb _ _ _) ?_; rintro v ρ' L' hle ⟨rfl, rfl, rfl⟩ <;> (try simp only [kM, kN, kO, hx])) | (refine Ze (.tmp 34) ?_; refine qC rfl rfl (ZD _ _) ?_; rintro v ρ' L' hle ⟨rfl, rfl, rfl⟩ <;> (try simp only [kM, kN, kO])) | (refine Ze (.tmp 41) ?_; refine qC rfl rfl (ZD _ _) ?_; rintro v ρ' L' hle ⟨rfl, rfl, rfl⟩ <;> (try simp only [kM, kN, kO])) | (refine Zm ?_; try intro _)) <;> ((try simp only [kM, kN, kO]); refine Za ?_; refine Zl ?_))))
      all_goals (first | refine Zc 21 ?_ | refine Zb 21 ?_ | (refine Zp (i := 21) ?_; ((try refine Zk ?_); (first | (refine Ze (.func 219) ?_; refine qC rfl rfl (Yk _ _ _ _ _) ?_; rintro v ρ' L' hle ⟨rfl, rfl, rfl⟩ <;> (try simp only [kM, kN, kO])) | (refine Zm ?_; try intro _)) <;> ((try simp only [kM, kN, kO]); refine Za ?_; refine Zl ?_))))
      all_goals (refine ZS ?_; (first | refine Zc 22 ?_ | refine Zb 22 ?_ | refine wCm 22 ?_); (first | refine Zc 23 ?_ | refine Zb 23 ?_ | refine wPk 23 ?_); refine rPk 24 ?_; refine rAs 25 ?_; refine ZH ?_)
      all_goals (repeat' (first | (refine Zj ?_; first | (refine Zf ?_; refine qQ ?_) | refine Zm ?_) | refine Za ?_ | (refine Zi ?_; refine Zt ?_) | (refine Zh ?_; refine Zs ?_) | intro _))
      all_goals exact qE ⟨rfl, rfl, rfl⟩
 ·have hk2 : k = n := by omega
  subst hk2
  repeat' (first | (refine Zj ?_; first | (refine Zf ?_; refine qQ ?_) | refine Zm ?_) | refine Za ?_ | (refine Zi ?_; refine Zt ?_) | (refine Zh ?_; refine Zs ?_) | intro _)
  exact qE ⟨rfl, rfl, rfl⟩
theorem risesKidL_spec (ρ : Hp) (a : Option Addr) (n c : Nat) (l : List Kid) (h : AIn ρ 3 kidV a n l) (hn : n ≤ 281474976710656) (bx mb ck0 : Nat) :
  Spec Tryz.prog 208 [.slice a n c, .int .i64 4, .func (.func 209) ⟨[]⟩ ⟨[]⟩, .func (.func 210) ⟨[]⟩ ⟨[.pointer (some ⟨bx, 0, none⟩)]⟩] ρ (metL bx mb [] ck0) (fun v ρ' L' => v = .bool (kidsOk l) ∧ ρ' = ρ ∧ L' = []) := by
 have hl := h.len
 unfold kidsOk
 rw [hl]
 refine Zg Tryz.func208 rfl rfl rfl fun u R => ?_
 simp only [Zx, List.cons_append, List.nil_append]
 generalize hr : (fun (i : Nat) (k : Kid) => kidOk i (psTo l i) k) = rt
 repeat' (first | (refine Zj ?_; first | (refine Zf ?_; refine qQ ?_) | refine Zm ?_) | refine Za ?_ | (refine Zi ?_; refine Zt ?_) | (refine Zh ?_; refine Zs ?_) | intro _)
 have e0 : decide ((n : Int) ≤ 4) = ZK 4 rt ltK l 0 := by
  rw [ZK]; simp [hl]; omega
 rw [e0]
 refine ZG [(0, _), (2, _), (3, _), (8, _), (16, _), (17, _)] (fun (ζ : (Nat) × (List MapEntry) × (Nat)) => [(18, .int .i64 ζ.1), (9, .bool (ZK 4 rt ltK l ζ.1))]) (fun (ζ : (Nat) × (List MapEntry) × (Nat)) => ρ) (fun (ζ : (Nat) × (List MapEntry) × (Nat)) => metL bx mb ζ.2.1 ζ.2.2) (fun (ζ : (Nat) × (List MapEntry) × (Nat)) => ζ.1 ≤ n ∧ MetOk ζ.2.1 (psTo l ζ.1)) (fun (ζ : (Nat) × (List MapEntry) × (Nat)) => n - ζ.1) ((0, [], ck0)) (⟨Nat.zero_le _, MetOk.nil⟩) Zo Zo rfl tk ?_
 rintro ⟨k, es, ck⟩ hI
 try simp only [List.cons_append, List.nil_append, List.append_assoc, List.append_eq] at hI ⊢
 try dsimp only at hI ⊢
 obtain ⟨hI, hm⟩ := hI
 by_cases hlt : k < n
 ·obtain ⟨b, off, C, T, fr, rfl, hb, hfit, hc⟩ := h.get (show k < l.length by omega)
  have hs := YR (most := 4) (right := rt) (lt := ltK) (show k < l.length by omega)
  have hfin := fun (e : ZK 4 rt ltK l (k + 1) = false) => YK e (show k + 1 ≤ n by omega)
  have hps := psTo_succ (show k < l.length by omega)
  have hrk : rt k l[k] = kidOk k (psTo l k) l[k] := by rw [← hr]
  cases hok : ZK 4 rt ltK l k
  ·rw [hok, Bool.false_and] at hs
   rw [hfin hs]
   generalize l[k] = x at *
   repeat' (first | (refine Zj ?_; first | (refine Zf ?_; refine qQ ?_) | refine Zm ?_) | refine Za ?_ | (refine Zi ?_; refine Zt ?_) | (refine Zh ?_; refine Zs ?_) | intro _)
   rename_i b11
   refine ZC (Zq _ _ ([[(b11, .cells ⟨kidV x⟩ 230 (0, 0))]])) (Zy (hT := tk) (Hp.le_refl _)) ?_
   all_goals (refine ZU 0 ?_; refine ZU 1 ?_)
   all_goals (first | refine Zc 2 ?_ | refine Zb 2 ?_ | refine ZI 2 ?_ | (refine ZB (t := 24) rfl (fun hb => ?_) (fun hb => ?_) <;> (try simp only [kk] at hb) <;> first | refine Zc 2 ?_ | refine Zb 2 ?_ | refine ZI 2 ?_))
   all_goals ((first | refine Zc 3 ?_ | refine Zb 3 ?_ | refine ZI 3 ?_); (first | refine Zc 4 ?_ | refine Zb 4 ?_ | refine wLd 4 ?_))
   all_goals (first | refine Zc 5 ?_ | refine Zb 5 ?_ | (refine Zp (i := 5) ?_; ((try refine Zk ?_); (first | (refine Zm ?_; try intro _)) <;> ((try simp only [kM, kN, kO]); refine Za ?_; refine Zl ?_))))
   all_goals (refine rPk 6 ?_; refine ZU 7 ?_)
   all_goals (first | refine Zc 8 ?_ | refine Zb 8 ?_ | refine ZI 8 ?_ | (refine ZB (t := 30) rfl (fun hb => ?_) (fun hb => ?_) <;> (try simp only [kk] at hb) <;> first | refine Zc 8 ?_ | refine Zb 8 ?_ | refine ZI 8 ?_))
   all_goals ((first | refine Zc 9 ?_ | refine Zb 9 ?_ | refine wCm 9 ?_); (first | refine Zc 10 ?_ | refine Zb 10 ?_ | refine ZI 10 ?_))
   all_goals (first | refine Zc 11 ?_ | refine Zb 11 ?_ | refine ZI 11 ?_ | (refine ZB (t := 33) rfl (fun hb => ?_) (fun hb => ?_) <;> (try simp only [kk] at hb) <;> first | refine Zc 11 ?_ | refine Zb 11 ?_ | refine ZI 11 ?_))
   all_goals ((first | refine Zc 12 ?_ | refine Zb 12 ?_ | refine ZI 12 ?_); (first | refine Zc 13 ?_ | refine Zb 13 ?_ | refine ZI 13 ?_); (first | refine Zc 14 ?_ | refine Zb 14 ?_ | refine wSb 14 ?_); (first | refine Zc 15 ?_ | refine Zb 15 ?_ | refine wIa 15 ?_); (first | refine Zc 16 ?_ | refine Zb 16 ?_ | refine wLd 16 ?_); (first | refine Zc 18 ?_ | refine Zb 18 ?_ | refine ZI 18 ?_); (first | refine Zc 19 ?_ | refine Zb 19 ?_ | refine wLd 19 ?_))
   all_goals (first | refine Zc 17 ?_ | refine Zb 17 ?_ | (refine Zp (i := 17) ?_; ((try refine Zk ?_); (first | (refine Zm ?_; try intro _)) <;> ((try simp only [kM, kN, kO]); refine Za ?_; refine Zl ?_))))
   all_goals (first | refine Zc 20 ?_ | refine Zb 20 ?_ | (refine Zp (i := 20) ?_; ((try refine Zk ?_); (first | (refine Zm ?_; try intro _)) <;> ((try simp only [kM, kN, kO]); refine Za ?_; refine Zl ?_))))
   all_goals (first | refine Zc 21 ?_ | refine Zb 21 ?_ | (refine Zp (i := 21) ?_; ((try refine Zk ?_); (first | (refine Zm ?_; try intro _)) <;> ((try simp only [kM, kN, kO]); refine Za ?_; refine Zl ?_))))
   all_goals (refine ZS ?_; (first | refine Zc 22 ?_ | refine Zb 22 ?_ | refine wCm 22 ?_); (first | refine Zc 23 ?_ | refine Zb 23 ?_ | refine wPk 23 ?_); refine rPk 24 ?_; refine rAs 25 ?_; refine ZH ?_)
   repeat' (first | (refine Zj ?_; first | (refine Zf ?_; refine qQ ?_) | refine Zm ?_) | refine Za ?_ | (refine Zi ?_; refine Zt ?_) | (refine Zh ?_; refine Zs ?_) | intro _)
   exact qE ⟨rfl, rfl, rfl⟩
  ·rw [hok, Bool.true_and, hrk] at hs
   cases hx : kidOk k (psTo l k) l[k]
   ·rw [hx, Bool.false_and] at hs
    rw [hfin hs]
    generalize l[k] = x at *
    repeat' (first | (refine Zj ?_; first | (refine Zf ?_; refine qQ ?_) | refine Zm ?_) | refine Za ?_ | (refine Zi ?_; refine Zt ?_) | (refine Zh ?_; refine Zs ?_) | intro _)
    rename_i b11
    refine ZC (Zq _ _ ([[(b11, .cells ⟨kidV x⟩ 230 (0, 0))]])) (Zy (hT := tk) (Hp.le_refl _)) ?_
    all_goals (refine ZU 0 ?_; refine ZU 1 ?_)
    all_goals (first | refine Zc 2 ?_ | refine Zb 2 ?_ | refine ZI 2 ?_ | (refine ZB (t := 24) rfl (fun hb => ?_) (fun hb => ?_) <;> (try simp only [kk] at hb) <;> first | refine Zc 2 ?_ | refine Zb 2 ?_ | refine ZI 2 ?_))
    all_goals ((first | refine Zc 3 ?_ | refine Zb 3 ?_ | refine ZI 3 ?_); (first | refine Zc 4 ?_ | refine Zb 4 ?_ | refine wLd 4 ?_))
    all_goals (first | refine Zc 5 ?_ | refine Zb 5 ?_ | (refine Zp (i := 5) ?_; ((try refine Zk ?_); (first | (refine Ze (.tmp 25) ?_; refine qC rfl rfl (ZV _ bx mb es ck _ hm k x) ?_; rintro v ρ' L' hle ⟨rfl, rfl, es', ck', hm', rfl⟩ <;> (try simp only [kM, kN, kO, hx])) | (refine Ze (.tmp 34) ?_; refine qC rfl rfl (ZA _ _) ?_; rintro v ρ' L' hle ⟨rfl, rfl, rfl⟩ <;> (try simp only [kM, kN, kO])) | (refine Ze (.tmp 41) ?_; refine qC rfl rfl (ZA _ _) ?_; rintro v ρ' L' hle ⟨rfl, rfl, rfl⟩ <;> (try simp only [kM, kN, kO])) | (refine Zm ?_; try intro _)) <;> ((try simp only [kM, kN, kO]); refine Za ?_; refine Zl ?_))))
    all_goals (refine rPk 6 ?_; refine ZU 7 ?_)
    all_goals (first | refine Zc 8 ?_ | refine Zb 8 ?_ | refine ZI 8 ?_ | (refine ZB (t := 30) rfl (fun hb => ?_) (fun hb => ?_) <;> (try simp only [kk] at hb) <;> first | refine Zc 8 ?_ | refine Zb 8 ?_ | refine ZI 8 ?_))
    all_goals ((first | refine Zc 9 ?_ | refine Zb 9 ?_ | refine wCm 9 ?_); (first | refine Zc 10 ?_ | refine Zb 10 ?_ | refine ZI 10 ?_))
    all_goals (first | refine Zc 11 ?_ | refine Zb 11 ?_ | refine ZI 11 ?_ | (refine ZB (t := 33) rfl (fun hb => ?_) (fun hb => ?_) <;> (try simp only [kk] at hb) <;> first | refine Zc 11 ?_ | refine Zb 11 ?_ | refine ZI 11 ?_))
    all_goals ((first | refine Zc 12 ?_ | refine Zb 12 ?_ | refine ZI 12 ?_); (first | refine Zc 13 ?_ | refine Zb 13 ?_ | refine ZI 13 ?_); (first | refine Zc 14 ?_ | refine Zb 14 ?_ | refine wSb 14 ?_); (first | refine Zc 15 ?_ | refine Zb 15 ?_ | refine wIa 15 ?_); (first | refine Zc 16 ?_ | refine Zb 16 ?_ | refine wLd 16 ?_); (first | refine Zc 18 ?_ | refine Zb 18 ?_ | refine ZI 18 ?_); (first | refine Zc 19 ?_ | refine Zb 19 ?_ | refine wLd 19 ?_))
    all_goals (first | refine Zc 17 ?_ | refine Zb 17 ?_ | (refine Zp (i := 17) ?_; ((try refine Zk ?_); (first | (refine Ze (.tmp 25) ?_; refine qC rfl rfl (ZV _ bx mb es ck _ hm k x) ?_; rintro v ρ' L' hle ⟨rfl, rfl, es', ck', hm', rfl⟩ <;> (try simp only [kM, kN, kO, hx])) | (refine Ze (.tmp 34) ?_; refine qC rfl rfl (ZA _ _) ?_; rintro v ρ' L' hle ⟨rfl, rfl, rfl⟩ <;> (try simp only [kM, kN, kO])) | (refine Ze (.tmp 41) ?_; refine qC rfl rfl (ZA _ _) ?_; rintro v ρ' L' hle ⟨rfl, rfl, rfl⟩ <;> (try simp only [kM, kN, kO])) | (refine Zm ?_; try intro _)) <;> ((try simp only [kM, kN, kO]); refine Za ?_; refine Zl ?_))))
    all_goals (first | refine Zc 20 ?_ | refine Zb 20 ?_ | (refine Zp (i := 20) ?_; ((try refine Zk ?_); (first | (refine Ze (.tmp 25) ?_; refine qC rfl rfl (ZV _ bx mb es ck _ hm k x) ?_; rintro v ρ' L' hle ⟨rfl, rfl, es', ck', hm', rfl⟩ <;> (try simp only [kM, kN, kO, hx])) | (refine Ze (.tmp 34) ?_; refine qC rfl rfl (ZA _ _) ?_; rintro v ρ' L' hle ⟨rfl, rfl, rfl⟩ <;> (try simp only [kM, kN, kO])) | (refine Ze (.tmp 41) ?_; refine qC rfl rfl (ZA _ _) ?_; rintro v ρ' L' hle ⟨rfl, rfl, rfl⟩ <;> (try simp only [kM, kN, kO])) | (refine Zm ?_; try intro _)) <;> ((try simp only [kM, kN, kO]); refine Za ?_; refine Zl ?_))))
    all_goals (first | refine Zc 21 ?_ | refine Zb 21 ?_ | (refine Zp (i := 21) ?_; ((try refine Zk ?_); (first | (refine Ze (.func 219) ?_; refine qC rfl rfl (Yk _ _ _ _ _) ?_; rintro v ρ' L' hle ⟨rfl, rfl, rfl⟩ <;> (try simp only [kM, kN, kO])) | (refine Zm ?_; try intro _)) <;> ((try simp only [kM, kN, kO]); refine Za ?_; refine Zl ?_))))
    all_goals (refine ZS ?_; (first | refine Zc 22 ?_ | refine Zb 22 ?_ | refine wCm 22 ?_); (first | refine Zc 23 ?_ | refine Zb 23 ?_ | refine wPk 23 ?_); refine rPk 24 ?_; refine rAs 25 ?_; refine ZH ?_)
    repeat' (first | (refine Zj ?_; first | (refine Zf ?_; refine qQ ?_) | refine Zm ?_) | refine Za ?_ | (refine Zi ?_; refine Zt ?_) | (refine Zh ?_; refine Zs ?_) | intro _)
    exact qE ⟨rfl, rfl, rfl⟩
   ·rw [hx, Bool.true_and] at hs
    by_cases hk0 : k = 0
    ·have hs' : ZK 4 rt ltK l (k + 1) = true := by rw [hs]; simp [hk0]
     generalize l[k] = x at *
     repeat' (first | (refine Zj ?_; first | (refine Zf ?_; refine qQ ?_) | refine Zm ?_) | refine Za ?_ | (refine Zi ?_; refine Zt ?_) | (refine Zh ?_; refine Zs ?_) | intro _)
     rename_i b11
     refine ZC (Zq _ _ ([[(b11, .cells ⟨kidV x⟩ 230 (0, 0))]])) (Zy (hT := tk) (Hp.le_refl _)) ?_
     all_goals (refine ZU 0 ?_; refine ZU 1 ?_)
     all_goals (first | refine Zc 2 ?_ | refine Zb 2 ?_ | refine ZI 2 ?_ | (refine ZB (t := 24) rfl (fun hb => ?_) (fun hb => ?_) <;> (try simp only [kk] at hb) <;> first | refine Zc 2 ?_ | refine Zb 2 ?_ | refine ZI 2 ?_))
     all_goals ((first | refine Zc 3 ?_ | refine Zb 3 ?_ | refine ZI 3 ?_); (first | refine Zc 4 ?_ | refine Zb 4 ?_ | refine wLd 4 ?_))
     all_goals (first | refine Zc 5 ?_ | refine Zb 5 ?_ | (refine Zp (i := 5) ?_; ((try refine Zk ?_); (first | (refine Ze (.tmp 25) ?_; refine qC rfl rfl (ZV _ bx mb es ck _ hm k x) ?_; rintro v ρ' L' hle ⟨rfl, rfl, es', ck', hm', rfl⟩ <;> (try simp only [kM, kN, kO, hx])) | (refine Ze (.tmp 34) ?_; refine qC rfl rfl (ZA _ _) ?_; rintro v ρ' L' hle ⟨rfl, rfl, rfl⟩ <;> (try simp only [kM, kN, kO])) | (refine Ze (.tmp 41) ?_; refine qC rfl rfl (ZA _ _) ?_; rintro v ρ' L' hle ⟨rfl, rfl, rfl⟩ <;> (try simp only [kM, kN, kO])) | (refine Zm ?_; try intro _)) <;> ((try simp only [kM, kN, kO]); refine Za ?_; refine Zl ?_))))
     all_goals (refine rPk 6 ?_; refine ZU 7 ?_)
     all_goals (first | refine Zc 8 ?_ | refine Zb 8 ?_ | refine ZI 8 ?_ | (refine ZB (t := 30) rfl (fun hb => ?_) (fun hb => ?_) <;> (try simp only [kk] at hb) <;> first | refine Zc 8 ?_ | refine Zb 8 ?_ | refine ZI 8 ?_))
     all_goals ((first | refine Zc 9 ?_ | refine Zb 9 ?_ | refine wCm 9 ?_); (first | refine Zc 10 ?_ | refine Zb 10 ?_ | refine ZI 10 ?_))
     all_goals (first | refine Zc 11 ?_ | refine Zb 11 ?_ | refine ZI 11 ?_ | (refine ZB (t := 33) rfl (fun hb => ?_) (fun hb => ?_) <;> (try simp only [kk] at hb) <;> first | refine Zc 11 ?_ | refine Zb 11 ?_ | refine ZI 11 ?_))
     all_goals ((first | refine Zc 12 ?_ | refine Zb 12 ?_ | refine ZI 12 ?_); (first | refine Zc 13 ?_ | refine Zb 13 ?_ | refine ZI 13 ?_); (first | refine Zc 14 ?_ | refine Zb 14 ?_ | refine wSb 14 ?_); (first | refine Zc 15 ?_ | refine Zb 15 ?_ | refine wIa 15 ?_); (first | refine Zc 16 ?_ | refine Zb 16 ?_ | refine wLd 16 ?_); (first | refine Zc 18 ?_ | refine Zb 18 ?_ | refine ZI 18 ?_); (first | refine Zc 19 ?_ | refine Zb 19 ?_ | refine wLd 19 ?_))
     all_goals (first | refine Zc 17 ?_ | refine Zb 17 ?_ | (refine Zp (i := 17) ?_; ((try refine Zk ?_); (first | (refine Ze (.tmp 25) ?_; refine qC rfl rfl (ZV _ bx mb es ck _ hm k x) ?_; rintro v ρ' L' hle ⟨rfl, rfl, es', ck', hm', rfl⟩ <;> (try simp only [kM, kN, kO, hx])) | (refine Ze (.tmp 34) ?_; refine qC rfl rfl (ZA _ _) ?_; rintro v ρ' L' hle ⟨rfl, rfl, rfl⟩ <;> (try simp only [kM, kN, kO])) | (refine Ze (.tmp 41) ?_; refine qC rfl rfl (ZA _ _) ?_; rintro v ρ' L' hle ⟨rfl, rfl, rfl⟩ <;> (try simp only [kM, kN, kO])) | (refine Zm ?_; try intro _)) <;> ((try simp only [kM, kN, kO]); refine Za ?_; refine Zl ?_))))
     all_goals (first | refine Zc 20 ?_ | refine Zb 20 ?_ | (refine Zp (i := 20) ?_; ((try refine Zk ?_); (first | (refine Ze (.tmp 25) ?_; refine qC rfl rfl (ZV _ bx mb es ck _ hm k x) ?_; rintro v ρ' L' hle ⟨rfl, rfl, es', ck', hm', rfl⟩ <;> (try simp only [kM, kN, kO, hx])) | (refine Ze (.tmp 34) ?_; refine qC rfl rfl (ZA _ _) ?_; rintro v ρ' L' hle ⟨rfl, rfl, rfl⟩ <;> (try simp only [kM, kN, kO])) | (refine Ze (.tmp 41) ?_; refine qC rfl rfl (ZA _ _) ?_; rintro v ρ' L' hle ⟨rfl, rfl, rfl⟩ <;> (try simp only [kM, kN, kO])) | (refine Zm ?_; try intro _)) <;> ((try simp only [kM, kN, kO]); refine Za ?_; refine Zl ?_))))
     all_goals (first | refine Zc 21 ?_ | refine Zb 21 ?_ | (refine Zp (i := 21) ?_; ((try refine Zk ?_); (first | (refine Ze (.func 219) ?_; refine qC rfl rfl (Yk _ _ _ _ _) ?_; rintro v ρ' L' hle ⟨rfl, rfl, rfl⟩ <;> (try simp only [kM, kN, kO])) | (refine Zm ?_; try intro _)) <;> ((try simp only [kM, kN, kO]); refine Za ?_; refine Zl ?_))))
     all_goals (refine ZS ?_; (first | refine Zc 22 ?_ | refine Zb 22 ?_ | refine wCm 22 ?_); (first | refine Zc 23 ?_ | refine Zb 23 ?_ | refine wPk 23 ?_); refine rPk 24 ?_; refine rAs 25 ?_; refine ZH ?_)
     repeat' (first | (refine Zj ?_; first | (refine Zf ?_; refine qQ ?_) | refine Zm ?_) | refine Za ?_ | (refine Zi ?_; refine Zt ?_) | (refine Zh ?_; refine Zs ?_) | intro _)
     rw [← hs']
     refine Zr (k + 1, es', ck') (⟨hlt, by dsimp only; rw [hps]; exact hm'⟩) Zo Zo rfl tk inferInstance (by first | omega | (dsimp only; omega))
    ·have hd : decide (k = 0) = false := decide_eq_false hk0
     obtain ⟨b2, off2, C2, T2, fr2, f1, hb2, hfit2, hc2⟩ := h.get (show k - 1 < l.length by omega)
     cases f1
     rw [hb] at hb2
     cases hb2
     have ek : ((k : Int) - 1).toNat = k - 1 := by omega
     rw [← ek] at hfit2
     have hc3 : List.take 3 (List.drop (off + ((k : Int) - 1).toNat * 3) C) = kidV (l[k - 1]'(by omega)) := by rw [ek]; exact hc2
     clear hc2
     rw [hd, Bool.false_or] at hs
     generalize l[k] = x at *
     generalize l[k - 1]'(by omega) = y at *
     unfold ltK at hs
     by_cases hcm : cmpK y.t y.id x.t x.id < 0
     ·rw [decide_eq_true hcm] at hs
      repeat' (first | (refine Zj ?_; first | (refine Zf ?_; refine qQ ?_) | refine Zm ?_) | refine Za ?_ | (refine Zi ?_; refine Zt ?_) | (refine Zh ?_; refine Zs ?_) | intro _)
      rename_i b11
      refine ZC (Zq _ _ ([[(b11, .cells ⟨kidV x⟩ 230 (0, 0))]])) (Zy (hT := tk) (Hp.le_refl _)) ?_
      all_goals (refine ZU 0 ?_; refine ZU 1 ?_)
      all_goals (first | refine Zc 2 ?_ | refine Zb 2 ?_ | refine ZI 2 ?_ | (refine ZB (t := 24) rfl (fun hb => ?_) (fun hb => ?_) <;> (try simp only [kk] at hb) <;> first | refine Zc 2 ?_ | refine Zb 2 ?_ | refine ZI 2 ?_))
      all_goals ((first | refine Zc 3 ?_ | refine Zb 3 ?_ | refine ZI 3 ?_); (first | refine Zc 4 ?_ | refine Zb 4 ?_ | refine wLd 4 ?_))
      all_goals (first | refine Zc 5 ?_ | refine Zb 5 ?_ | (refine Zp (i := 5) ?_; ((try refine Zk ?_); (first | (refine Ze (.tmp 25) ?_; refine qC rfl rfl (ZV _ bx mb es ck _ hm k x) ?_; rintro v ρ' L' hle ⟨rfl, rfl, es', ck', hm', rfl⟩ <;> (try simp only [kM, kN, kO, hx])) | (refine Ze (.tmp 34) ?_; refine qC rfl rfl (ZA _ _) ?_; rintro v ρ' L' hle ⟨rfl, rfl, rfl⟩ <;> (try simp only [kM, kN, kO])) | (refine Ze (.tmp 41) ?_; refine qC rfl rfl (ZA _ _) ?_; rintro v ρ' L' hle ⟨rfl, rfl, rfl⟩ <;> (try simp only [kM, kN, kO])) | (refine Zm ?_; try intro _)) <;> ((try simp only [kM, kN, kO]); refine Za ?_; refine Zl ?_))))
      all_goals (refine rPk 6 ?_; refine ZU 7 ?_)
      all_goals (first | refine Zc 8 ?_ | refine Zb 8 ?_ | refine ZI 8 ?_ | (refine ZB (t := 30) rfl (fun hb => ?_) (fun hb => ?_) <;> (try simp only [kk] at hb) <;> first | refine Zc 8 ?_ | refine Zb 8 ?_ | refine ZI 8 ?_))
      all_goals ((first | refine Zc 9 ?_ | refine Zb 9 ?_ | refine wCm 9 ?_); (first | refine Zc 10 ?_ | refine Zb 10 ?_ | refine ZI 10 ?_))
      all_goals (first | refine Zc 11 ?_ | refine Zb 11 ?_ | refine ZI 11 ?_ | (refine ZB (t := 33) rfl (fun hb => ?_) (fun hb => ?_) <;> (try simp only [kk] at hb) <;> first | refine Zc 11 ?_ | refine Zb 11 ?_ | refine ZI 11 ?_))
      all_goals ((first | refine Zc 12 ?_ | refine Zb 12 ?_ | refine ZI 12 ?_); (first | refine Zc 13 ?_ | refine Zb 13 ?_ | refine ZI 13 ?_); (first | refine Zc 14 ?_ | refine Zb 14 ?_ | refine wSb 14 ?_); (first | refine Zc 15 ?_ | refine Zb 15 ?_ | refine wIa 15 ?_); (first | refine Zc 16 ?_ | refine Zb 16 ?_ | refine wLd 16 ?_); (first | refine Zc 18 ?_ | refine Zb 18 ?_ | refine ZI 18 ?_); (first | refine Zc 19 ?_ | refine Zb 19 ?_ | refine wLd 19 ?_))
      all_goals (first | refine Zc 17 ?_ | refine Zb 17 ?_ | (refine Zp (i := 17) ?_; ((try refine Zk ?_); (first | (refine Ze (.tmp 25) ?_; refine qC rfl rfl (ZV _ bx mb es ck _ hm k x) ?_; rintro v ρ' L' hle ⟨rfl, rfl, es', ck', hm', rfl⟩ <;> (try simp only [kM, kN, kO, hx])) | (refine Ze (.tmp 34) ?_; refine qC rfl rfl (ZA _ _) ?_; rintro v ρ' L' hle ⟨rfl, rfl, rfl⟩ <;> (try simp only [kM, kN, kO])) | (refine Ze (.tmp 41) ?_; refine qC rfl rfl (ZA _ _) ?_; rintro v ρ' L' hle ⟨rfl, rfl, rfl⟩ <;> (try simp only [kM, kN, kO])) | (refine Zm ?_; try intro _)) <;> ((try simp only [kM, kN, kO]); refine Za ?_; refine Zl ?_))))
      all_goals (first | refine Zc 20 ?_ | refine Zb 20 ?_ | (refine Zp (i := 20) ?_; ((try refine Zk ?_); (first | (refine Ze (.tmp 25) ?_; refine qC rfl rfl (ZV _ bx mb es ck _ hm k x) ?_; rintro v ρ' L' hle ⟨rfl, rfl, es', ck', hm', rfl⟩ <;> (try simp only [kM, kN, kO, hx])) | (refine Ze (.tmp 34) ?_; refine qC rfl rfl (ZA _ _) ?_; rintro v ρ' L' hle ⟨rfl, rfl, rfl⟩ <;> (try simp only [kM, kN, kO])) | (refine Ze (.tmp 41) ?_; refine qC rfl rfl (ZA _ _) ?_; rintro v ρ' L' hle ⟨rfl, rfl, rfl⟩ <;> (try simp only [kM, kN, kO])) | (refine Zm ?_; try intro _)) <;> ((try simp only [kM, kN, kO]); refine Za ?_; refine Zl ?_))))
      all_goals (first | refine Zc 21 ?_ | refine Zb 21 ?_ | (refine Zp (i := 21) ?_; ((try refine Zk ?_); (first | (refine Ze (.func 219) ?_; refine qC rfl rfl (Yk _ _ _ _ _) ?_; rintro v ρ' L' hle ⟨rfl, rfl, rfl⟩ <;> (try simp only [kM, kN, kO])) | (refine Zm ?_; try intro _)) <;> ((try simp only [kM, kN, kO]); refine Za ?_; refine Zl ?_))))
      all_goals (refine ZS ?_; (first | refine Zc 22 ?_ | refine Zb 22 ?_ | refine wCm 22 ?_); (first | refine Zc 23 ?_ | refine Zb 23 ?_ | refine wPk 23 ?_); refine rPk 24 ?_; refine rAs 25 ?_; refine ZH ?_)
      all_goals (repeat' (first | (refine Zj ?_; first | (refine Zf ?_; refine qQ ?_) | refine Zm ?_) | refine Za ?_ | (refine Zi ?_; refine Zt ?_) | (refine Zh ?_; refine Zs ?_) | intro _))
      all_goals rw [← show ZK 4 rt ltK l (k + 1) = true from hs]
      all_goals refine Zr (k + 1, es', ck') (⟨hlt, by dsimp only; rw [hps]; exact hm'⟩) Zo Zo rfl tk inferInstance (by first | omega | (dsimp only; omega))
     ·rw [decide_eq_false hcm] at hs
      rw [hfin hs]
      repeat' (first | (refine Zj ?_; first | (refine Zf ?_; refine qQ ?_) | refine Zm ?_) | refine Za ?_ | (refine Zi ?_; refine Zt ?_) | (refine Zh ?_; refine Zs ?_) | intro _)
      rename_i b11
      refine ZC (Zq _ _ ([[(b11, .cells ⟨kidV x⟩ 230 (0, 0))]])) (Zy (hT := tk) (Hp.le_refl _)) ?_
      all_goals (refine ZU 0 ?_; refine ZU 1 ?_)
      all_goals (first | refine Zc 2 ?_ | refine Zb 2 ?_ | refine ZI 2 ?_ | (refine ZB (t := 24) rfl (fun hb => ?_) (fun hb => ?_) <;> (try simp only [kk] at hb) <;> first | refine Zc 2 ?_ | refine Zb 2 ?_ | refine ZI 2 ?_))
      all_goals ((first | refine Zc 3 ?_ | refine Zb 3 ?_ | refine ZI 3 ?_); (first | refine Zc 4 ?_ | refine Zb 4 ?_ | refine wLd 4 ?_))
      all_goals (first | refine Zc 5 ?_ | refine Zb 5 ?_ | (refine Zp (i := 5) ?_; ((try refine Zk ?_); (first | (refine Ze (.tmp 25) ?_; refine qC rfl rfl (ZV _ bx mb es ck _ hm k x) ?_; rintro v ρ' L' hle ⟨rfl, rfl, es', ck', hm', rfl⟩ <;> (try simp only [kM, kN, kO, hx])) | (refine Ze (.tmp 34) ?_; refine qC rfl rfl (ZA _ _) ?_; rintro v ρ' L' hle ⟨rfl, rfl, rfl⟩ <;> (try simp only [kM, kN, kO])) | (refine Ze (.tmp 41) ?_; refine qC rfl rfl (ZA _ _) ?_; rintro v ρ' L' hle ⟨rfl, rfl, rfl⟩ <;> (try simp only [kM, kN, kO])) | (refine Zm ?_; try intro _)) <;> ((try simp only [kM, kN, kO]); refine Za ?_; refine Zl ?_))))
      all_goals (refine rPk 6 ?_; refine ZU 7 ?_)
      all_goals (first | refine Zc 8 ?_ | refine Zb 8 ?_ | refine ZI 8 ?_ | (refine ZB (t := 30) rfl (fun hb => ?_) (fun hb => ?_) <;> (try simp only [kk] at hb) <;> first | refine Zc 8 ?_ | refine Zb 8 ?_ | refine ZI 8 ?_))
      all_goals ((first | refine Zc 9 ?_ | refine Zb 9 ?_ | refine wCm 9 ?_); (first | refine Zc 10 ?_ | refine Zb 10 ?_ | refine ZI 10 ?_))
      all_goals (first | refine Zc 11 ?_ | refine Zb 11 ?_ | refine ZI 11 ?_ | (refine ZB (t := 33) rfl (fun hb => ?_) (fun hb => ?_) <;> (try simp only [kk] at hb) <;> first | refine Zc 11 ?_ | refine Zb 11 ?_ | refine ZI 11 ?_))
      all_goals ((first | refine Zc 12 ?_ | refine Zb 12 ?_ | refine ZI 12 ?_); (first | refine Zc 13 ?_ | refine Zb 13 ?_ | refine ZI 13 ?_); (first | refine Zc 14 ?_ | refine Zb 14 ?_ | refine wSb 14 ?_); (first | refine Zc 15 ?_ | refine Zb 15 ?_ | refine wIa 15 ?_); (first | refine Zc 16 ?_ | refine Zb 16 ?_ | refine wLd 16 ?_); (first | refine Zc 18 ?_ | refine Zb 18 ?_ | refine ZI 18 ?_); (first | refine Zc 19 ?_ | refine Zb 19 ?_ | refine wLd 19 ?_))
      all_goals (first | refine Zc 17 ?_ | refine Zb 17 ?_ | (refine Zp (i := 17) ?_; ((try refine Zk ?_); (first | (refine Ze (.tmp 25) ?_; refine qC rfl rfl (ZV _ bx mb es ck _ hm k x) ?_; rintro v ρ' L' hle ⟨rfl, rfl, es', ck', hm', rfl⟩ <;> (try simp only [kM, kN, kO, hx])) | (refine Ze (.tmp 34) ?_; refine qC rfl rfl (ZA _ _) ?_; rintro v ρ' L' hle ⟨rfl, rfl, rfl⟩ <;> (try simp only [kM, kN, kO])) | (refine Ze (.tmp 41) ?_; refine qC rfl rfl (ZA _ _) ?_; rintro v ρ' L' hle ⟨rfl, rfl, rfl⟩ <;> (try simp only [kM, kN, kO])) | (refine Zm ?_; try intro _)) <;> ((try simp only [kM, kN, kO]); refine Za ?_; refine Zl ?_))))
      all_goals (first | refine Zc 20 ?_ | refine Zb 20 ?_ | (refine Zp (i := 20) ?_; ((try refine Zk ?_); (first | (refine Ze (.tmp 25) ?_; refine qC rfl rfl (ZV _ bx mb es ck _ hm k x) ?_; rintro v ρ' L' hle ⟨rfl, rfl, es', ck', hm', rfl⟩ <;> (try simp only [kM, kN, kO, hx])) | (refine Ze (.tmp 34) ?_; refine qC rfl rfl (ZA _ _) ?_; rintro v ρ' L' hle ⟨rfl, rfl, rfl⟩ <;> (try simp only [kM, kN, kO])) | (refine Ze (.tmp 41) ?_; refine qC rfl rfl (ZA _ _) ?_; rintro v ρ' L' hle ⟨rfl, rfl, rfl⟩ <;> (try simp only [kM, kN, kO])) | (refine Zm ?_; try intro _)) <;> ((try simp only [kM, kN, kO]); refine Za ?_; refine Zl ?_))))
      all_goals (first | refine Zc 21 ?_ | refine Zb 21 ?_ | (refine Zp (i := 21) ?_; ((try refine Zk ?_); (first | (refine Ze (.func 219) ?_; refine qC rfl rfl (Yk _ _ _ _ _) ?_; rintro v ρ' L' hle ⟨rfl, rfl, rfl⟩ <;> (try simp only [kM, kN, kO])) | (refine Zm ?_; try intro _)) <;> ((try simp only [kM, kN, kO]); refine Za ?_; refine Zl ?_))))
      all_goals (refine ZS ?_; (first | refine Zc 22 ?_ | refine Zb 22 ?_ | refine wCm 22 ?_); (first | refine Zc 23 ?_ | refine Zb 23 ?_ | refine wPk 23 ?_); refine rPk 24 ?_; refine rAs 25 ?_; refine ZH ?_)
      all_goals (repeat' (first | (refine Zj ?_; first | (refine Zf ?_; refine qQ ?_) | refine Zm ?_) | refine Za ?_ | (refine Zi ?_; refine Zt ?_) | (refine Zh ?_; refine Zs ?_) | intro _))
      all_goals exact qE ⟨rfl, rfl, rfl⟩
 ·have hk2 : k = n := by omega
  subst hk2
  repeat' (first | (refine Zj ?_; first | (refine Zf ?_; refine qQ ?_) | refine Zm ?_) | refine Za ?_ | (refine Zi ?_; refine Zt ?_) | (refine Zh ?_; refine Zs ?_) | intro _)
  exact qE ⟨rfl, rfl, rfl⟩
structure CInL (ρ : Hp) (v : CV) (rows : List Row) (kids : List Kid) : Prop where
 r : AIn ρ 4 rowV v.ra v.rn rows
 k : AIn ρ 3 kidV v.ka v.kn kids
 rb : v.rn ≤ 281474976710656
 kb : v.kn ≤ 281474976710656
 rc : v.rn ≤ v.rc
 kc : v.kn ≤ v.kc
theorem leafcL_spec (ρ : Hp) (a : Option Addr) (n c : Nat) (l : List Row) (h : AIn ρ 4 rowV a n l) (hn : n ≤ 281474976710656) : Spec Tryz.prog 189 [.slice a n c] ρ [] (fun v ρ' L' => v = .bool (rowsOk l) ∧ ρ' = ρ ∧ L' = []) := by
 refine Zg Tryz.func189 rfl rfl rfl fun u R => ?_
 simp only [Zx, List.cons_append, List.nil_append]
 repeat' (first | (refine Ze (.func 205) ?_; refine qC rfl rfl (risesRowL_spec _ a n c l h hn) ?_; rintro v ρ' L' hle ⟨rfl, rfl, rfl⟩ <;> (try simp only [kM, kN, kO])) | (refine Zj ?_; first | (refine Zf ?_; refine qQ ?_) | refine Zm ?_) | refine Za ?_ | (refine Zi ?_; refine Zt ?_) | (refine Zh ?_; refine Zs ?_) | intro _)
 exact qE ⟨rfl, rfl, rfl⟩
theorem innercL_spec (ρ : Hp) (a : Option Addr) (n c : Nat) (l : List Kid) (h : AIn ρ 3 kidV a n l) (hn : n ≤ 281474976710656) : Spec Tryz.prog 190 [.slice a n c] ρ [] (fun v ρ' L' => v = .bool (decide (1 < n) && kidsOk l) ∧ ρ' = ρ ∧ L' = []) := by
 refine Zg Tryz.func190 rfl rfl rfl fun u R => ?_
 simp only [Zx, List.cons_append, List.nil_append]
 by_cases h1 : 1 < n
 ·rw [decide_eq_true h1, Bool.true_and]
  repeat' (first | (refine Ze (.func 208) ?_; refine qC rfl rfl (risesKidL_spec _ a n c l h hn _ _ _) ?_; rintro v ρ' L' hle ⟨rfl, rfl, rfl⟩ <;> (try simp only [kM, kN, kO])) | (refine Zj ?_; first | (refine Zf ?_; refine qQ ?_) | refine Zm ?_) | refine Za ?_ | (refine Zi ?_; refine Zt ?_) | (refine Zh ?_; refine Zs ?_) | intro _)
  exact qE ⟨rfl, rfl, rfl⟩
 ·rw [decide_eq_false h1, Bool.false_and]
  repeat' (first | (refine Zj ?_; first | (refine Zf ?_; refine qQ ?_) | refine Zm ?_) | refine Za ?_ | (refine Zi ?_; refine Zt ?_) | (refine Zh ?_; refine Zs ?_) | intro _)
  exact qE ⟨rfl, rfl, rfl⟩
theorem checkL_spec (ρ : Hp) (v : CV) (c : Cont) (h : CInL ρ v c.rows c.kids) : Spec Tryz.prog 172 [.agg ⟨contV c.kind v⟩] ρ [] (fun r ρ' L' => r = .int .i64 (if YE c then 0 else 160) ∧ ρ' = ρ ∧ L' = []) := by
 obtain ⟨kind, rows, kids⟩ := c
 obtain ⟨ra, rn, rc, ka, kn, kc⟩ := v
 obtain ⟨hr, hk, hrb, hkb, _, _⟩ := h
 dsimp only at hr hk hrb hkb
 have hrl := hr.len
 have hkl := hk.len
 have hrs := leafcL_spec ρ ra rn rc rows hr hrb
 have hks := innercL_spec ρ ka kn kc kids hk hkb
 generalize hq : YE ⟨kind, rows, kids⟩ = q
 unfold YE at hq
 simp only [hrl, hkl] at hq
 refine Zg Tryz.func172 rfl rfl rfl fun u R => ?_
 simp only [Zx, List.cons_append, List.nil_append]
 by_cases k0 : kind = 0
 ·rw [if_pos k0] at hq
  by_cases hz : rn + kn = 0
  ·rw [decide_eq_true hz] at hq
   subst hq
   repeat' (first | (refine Zj ?_; first | (refine Zf ?_; refine qQ ?_) | refine Zm ?_) | refine Za ?_ | (refine Zi ?_; refine Zt ?_) | (refine Zh ?_; refine Zs ?_) | intro _)
   exact qE ⟨rfl, rfl, rfl⟩
  ·rw [decide_eq_false hz] at hq
   subst hq
   repeat' (first | (refine Zj ?_; first | (refine Zf ?_; refine qQ ?_) | refine Zm ?_) | refine Za ?_ | (refine Zi ?_; refine Zt ?_) | (refine Zh ?_; refine Zs ?_) | intro _)
   exact qE ⟨rfl, rfl, rfl⟩
 ·rw [if_neg k0] at hq
  by_cases k1 : kind = 1
  ·rw [if_pos k1] at hq
   by_cases hz : kn = 0
   ·rw [decide_eq_true hz, Bool.true_and] at hq
    rw [hq] at hrs
    cases q
    all_goals (repeat' (first | (refine Ze (.func 189) ?_; refine qC rfl rfl (hrs) ?_; rintro v ρ' L' hle ⟨rfl, rfl, rfl⟩ <;> (try simp only [kM, kN, kO])) | (refine Zj ?_; first | (refine Zf ?_; refine qQ ?_) | refine Zm ?_) | refine Za ?_ | (refine Zi ?_; refine Zt ?_) | (refine Zh ?_; refine Zs ?_) | intro _))
    all_goals exact qE ⟨rfl, rfl, rfl⟩
   ·rw [decide_eq_false hz, Bool.false_and] at hq
    subst hq
    repeat' (first | (refine Zj ?_; first | (refine Zf ?_; refine qQ ?_) | refine Zm ?_) | refine Za ?_ | (refine Zi ?_; refine Zt ?_) | (refine Zh ?_; refine Zs ?_) | intro _)
    exact qE ⟨rfl, rfl, rfl⟩
  ·rw [if_neg k1] at hq
   by_cases k2 : kind = 2
   ·rw [if_pos k2] at hq
    by_cases hz : rn = 0
    ·rw [decide_eq_true hz, Bool.true_and] at hq
     rw [hq] at hks
     cases q
     all_goals (repeat' (first | (refine Ze (.func 190) ?_; refine qC rfl rfl (hks) ?_; rintro v ρ' L' hle ⟨rfl, rfl, rfl⟩ <;> (try simp only [kM, kN, kO])) | (refine Zj ?_; first | (refine Zf ?_; refine qQ ?_) | refine Zm ?_) | refine Za ?_ | (refine Zi ?_; refine Zt ?_) | (refine Zh ?_; refine Zs ?_) | intro _))
     all_goals exact qE ⟨rfl, rfl, rfl⟩
    ·rw [decide_eq_false hz, Bool.false_and] at hq
     subst hq
     repeat' (first | (refine Zj ?_; first | (refine Zf ?_; refine qQ ?_) | refine Zm ?_) | refine Za ?_ | (refine Zi ?_; refine Zt ?_) | (refine Zh ?_; refine Zs ?_) | intro _)
     exact qE ⟨rfl, rfl, rfl⟩
   ·rw [if_neg k2] at hq
    subst hq
    repeat' (first | (refine Zj ?_; first | (refine Zf ?_; refine qQ ?_) | refine Zm ?_) | refine Za ?_ | (refine Zi ?_; refine Zt ?_) | (refine Zh ?_; refine Zs ?_) | intro _)
    exact qE ⟨rfl, rfl, rfl⟩
end Go.Proofs.E
