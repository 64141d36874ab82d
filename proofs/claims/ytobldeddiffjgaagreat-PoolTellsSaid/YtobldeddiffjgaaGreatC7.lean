/- The law PoolTells. Part 7 of 20. -/
import Derived.Test.YtobldeddiffjgaaGreatC6
namespace Go.Proofs.E
open Go
set_option linter.unusedVariables false
set_option linter.unusedSimpArgs false
set_option linter.unusedSectionVars false
set_option maxRecDepth 4000
set_option maxHeartbeats 1000000
attribute [local irreducible] Yl TL TC TE Spec XU R1 Hp.le EnvLe TS TR YS Zr
def Vo (x1 : Nat) (l1 : List UInt8) (st1 : Int) (b1 : Bool) : (List Row × List Kid) × RS3 :=
 if !b1 && decide (st1 = 0) then
  if x1 = 1 then (((Xq WQ l1 st1 b1).1, []), (Xq WQ l1 st1 b1).2)
  else if x1 = 2 then (([], (Xq Wd l1 st1 b1).1), (Xq Wd l1 st1 b1).2)
  else (([], []), l1, st1, b1)
 else (([], []), l1, st1, b1)
def contE (x1 : Nat) (m : (List Row × List Kid) × RS3) : Yb × RS3 := (⟨x1, m.1.1, m.1.2⟩, m.2.1, m.2.2.1, XP m.2.2.2 m.2.2.1 (ZT ⟨x1, m.1.1, m.1.2⟩))
def Xa (l : List UInt8) : Yb × RS3 :=
 contE (YF 1 l 0).1 (Vo (YF 1 l 0).1 (YF 1 l 0).2.1 (YF 1 l 0).2.2 (XP false (YF 1 l 0).2.2 (decide (((YF 1 l 0).1 : Int) ≤ 2))))
theorem CIn.nil {ρ : Hp} : CIn ρ ⟨none, 0, 0, none, 0, 0⟩ [] [] := ⟨AIn.nil, AIn.nil, by decide, by decide, by decide, by decide⟩
theorem content_spec (ρ : Hp) (bt br : Nat) (all : Int) (a : Option Addr) (n c : Nat) (l : List UInt8) (h : SIn ρ ZD a n l) (hc : n ≤ c) :
  Spec Tryz.prog 205 [.pointer (some ⟨bt, 0, none⟩)] ρ [tkC bt br all false (.int .i64 0) (.slice none 0 0) (.slice none 0 0), rdC br a n c 0]
   (fun v ρ' L' => ρ.le ρ' ∧ ∃ w a' n' c', v = .agg ⟨XF (Xa l).1.kind w⟩ ∧ CIn ρ' w (Xa l).1.rows (Xa l).1.kids ∧ SIn ρ' ZD a' n' (Xa l).2.1 ∧ n' ≤ c' ∧
    L' = [tkC bt br all (Xa l).2.2.2 (.int .i64 (Xa l).1.kind) (.slice w.ra w.rn w.rc) (.slice w.ka w.kn w.kc), rdC br a' n' c' (Xa l).2.2.1]) := by
 have hn1 := u8_spec ρ br a n c l h hc 0
 have hb1 := Vu 1 l 0
 generalize hq : Xa l = q
 unfold Xa at hq
 generalize YF 1 l 0 = r1 at *
 obtain ⟨x1, l1, st1⟩ := r1
 dsimp only at hq hn1 hb1
 generalize hB1 : XP false st1 (decide ((x1 : Int) ≤ 2)) = b1 at *
 have hnil : Yg .i64 [] := by intro e he; simp at he
 have hg0 : ∀ k : Int, YE [] k = none := fun _ => rfl
 refine Ze Tryz.func205 rfl rfl rfl fun u R => ?_
 simp only [Zt, List.cons_append, List.nil_append]
 rcases (show (x1 : Int) = 1 ∨ (x1 : Int) = 2 ∨ (x1 : Int) = 0 ∨ (2 : Int) < (x1 : Int) by omega) with hx | hx | hx | hx
 ·rw [decide_eq_true (show (x1 : Int) ≤ 2 by omega)] at hB1
  repeat' (first | (refine Zc (.func 97) ?_; refine qC rfl rfl (hn1) ?_; rintro v ρ' L' hle ⟨rfl, rfl, a1, n1, c1, h1, hc1, rfl⟩ <;> (try simp only [kM, kN, kO])) | (refine Zc (.func 244) ?_; refine qC rfl rfl (Xz _ bt br all false _ _ _ a1 n1 c1 st1 _) ?_; rintro v ρ' L' hle ⟨rfl, rfl, rfl⟩ <;> (try simp only [kM, kN, kO, hB1])) | (refine YC rfl rfl rfl hnil (fun es1 ck1 i1 i2 => ?_)) | (refine YC rfl rfl rfl i1 (fun es2 ck2 j1 j2 => ?_); have hg := j2 (x1 : Int); rw [i2, if_neg (by omega), if_pos hx] at hg) | (refine Zg ?_; first | (refine Zf ?_; refine qQ ?_) | refine Zj ?_) | refine Za ?_ | (refine Zh ?_; refine Zu ?_) | (refine Zi ?_; refine Zv ?_) | intro _)
  cases hok : (!b1 && decide (st1 = 0))
  ·have hm : Vo x1 l1 st1 b1 = (([], []), l1, st1, b1) := by rw [Vo, hok]; rfl
   rw [hm] at hq
   have hck := fun ρ => XN ρ ⟨none, 0, 0, none, 0, 0⟩ ⟨x1, [], []⟩ CIn.nil
   simp only [contE] at hq
   generalize hB2 : XP b1 st1 (ZT ⟨x1, [], []⟩) = b2 at *
   subst hq
   repeat' (first | (refine Zc (.func 247) ?_; refine qC rfl rfl (ok_spec _ bt br all b1 _ _ _ a1 n1 c1 st1) ?_; rintro v ρ' L' hle ⟨rfl, rfl, rfl⟩ <;> (try simp only [kM, kN, kO, hok])) | (refine Zg ?_; first | (refine Zf ?_; refine qQ ?_) | refine Zj ?_) | refine Za ?_ | (refine Zh ?_; refine Zu ?_) | (refine Zi ?_; refine Zv ?_) | intro _)
   cases hco : ZT ⟨x1, [], []⟩
   all_goals rw [hco] at hck hB2
   all_goals (repeat' (first | (refine Zc (.func 118) ?_; refine qC rfl rfl (hck _) ?_; rintro v ρ' L' hle ⟨rfl, rfl, rfl⟩ <;> (try simp only [kM, kN, kO, if_true, if_false, Bool.false_eq_true])) | (refine Zc (.func 244) ?_; refine qC rfl rfl (Xz _ bt br all b1 _ _ _ a1 n1 c1 st1 _) ?_; rintro v ρ' L' hle ⟨rfl, rfl, rfl⟩ <;> (try simp only [kM, kN, kO, hB2])) | (refine Zg ?_; first | (refine Zf ?_; refine qQ ?_) | refine Zj ?_) | refine Za ?_ | (refine Zh ?_; refine Zu ?_) | (refine Zi ?_; refine Zv ?_) | intro _))
   all_goals exact qE ⟨Hp.le_refl _, ⟨none, 0, 0, none, 0, 0⟩, a1, n1, c1, rfl, CIn.nil, h1, hc1, rfl⟩
  ·have hlf := fun ρ (h : SIn ρ ZD a1 n1 l1) => tleaf_spec ρ bt br all b1 (.int .i64 x1) (.slice none 0 0) (.slice none 0 0) rfl rfl rfl a1 n1 c1 l1 h hc1 st1
   have hm : Vo x1 l1 st1 b1 = (((Xq WQ l1 st1 b1).1, []), (Xq WQ l1 st1 b1).2) := by rw [Vo, if_pos hok, if_pos (by omega)]
   rw [hm] at hq
   generalize Xq WQ l1 st1 b1 = m at *
   obtain ⟨xs, l2, st2, b2⟩ := m
   dsimp only at hq hlf
   have hck := fun ρ w h => XN ρ w ⟨x1, xs, []⟩ h
   simp only [contE] at hq
   generalize hB2 : XP b2 st2 (ZT ⟨x1, xs, []⟩) = b3 at *
   subst hq
   repeat' (first | (refine Zc (.func 247) ?_; refine qC rfl rfl (ok_spec _ bt br all b1 _ _ _ a1 n1 c1 st1) ?_; rintro v ρ' L' hle ⟨rfl, rfl, rfl⟩ <;> (try simp only [kM, kN, kO, hok])) | (refine Zc (.tmp 40) ?_; refine qC rfl rfl (hlf _ h1) ?_; rintro v ρ' L' hle ⟨rfl, hle2, sa, sn, sc, a2, n2, c2, hsc, hs255, hA, h2, hc2, rfl⟩ <;> (try simp only [kM, kN, kO])) | (refine Zg ?_; first | (refine Zf ?_; refine qQ ?_) | refine Zj ?_) | refine Za ?_ | (refine Zh ?_; refine Zu ?_) | (refine Zi ?_; refine Zv ?_) | intro _)
   have hC : CIn ρ' ⟨sa, sn, sc, none, 0, 0⟩ xs [] := ⟨hA, AIn.nil, by dsimp only; omega, Nat.zero_le _, hsc, Nat.le_refl _⟩
   cases hco : ZT ⟨x1, xs, []⟩
   all_goals rw [hco] at hck hB2
   all_goals (repeat' (first | (refine Zc (.func 118) ?_; refine qC rfl rfl (hck _ _ hC) ?_; rintro v ρ' L' hle ⟨rfl, rfl, rfl⟩ <;> (try simp only [kM, kN, kO, if_true, if_false, Bool.false_eq_true])) | (refine Zc (.func 244) ?_; refine qC rfl rfl (Xz _ bt br all b2 _ _ _ a2 n2 c2 st2 _) ?_; rintro v ρ' L' hle ⟨rfl, rfl, rfl⟩ <;> (try simp only [kM, kN, kO, hB2])) | (refine Zg ?_; first | (refine Zf ?_; refine qQ ?_) | refine Zj ?_) | refine Za ?_ | (refine Zh ?_; refine Zu ?_) | (refine Zi ?_; refine Zv ?_) | intro _))
   all_goals exact qE ⟨hle2, ⟨sa, sn, sc, none, 0, 0⟩, a2, n2, c2, rfl, hC, h2, hc2, rfl⟩
 ·rw [decide_eq_true (show (x1 : Int) ≤ 2 by omega)] at hB1
  repeat' (first | (refine Zc (.func 97) ?_; refine qC rfl rfl (hn1) ?_; rintro v ρ' L' hle ⟨rfl, rfl, a1, n1, c1, h1, hc1, rfl⟩ <;> (try simp only [kM, kN, kO])) | (refine Zc (.func 244) ?_; refine qC rfl rfl (Xz _ bt br all false _ _ _ a1 n1 c1 st1 _) ?_; rintro v ρ' L' hle ⟨rfl, rfl, rfl⟩ <;> (try simp only [kM, kN, kO, hB1])) | (refine YC rfl rfl rfl hnil (fun es1 ck1 i1 i2 => ?_)) | (refine YC rfl rfl rfl i1 (fun es2 ck2 j1 j2 => ?_); have hg := j2 (x1 : Int); rw [if_pos hx] at hg) | (refine Zg ?_; first | (refine Zf ?_; refine qQ ?_) | refine Zj ?_) | refine Za ?_ | (refine Zh ?_; refine Zu ?_) | (refine Zi ?_; refine Zv ?_) | intro _)
  cases hok : (!b1 && decide (st1 = 0))
  ·have hm : Vo x1 l1 st1 b1 = (([], []), l1, st1, b1) := by rw [Vo, hok]; rfl
   rw [hm] at hq
   have hck := fun ρ => XN ρ ⟨none, 0, 0, none, 0, 0⟩ ⟨x1, [], []⟩ CIn.nil
   simp only [contE] at hq
   generalize hB2 : XP b1 st1 (ZT ⟨x1, [], []⟩) = b2 at *
   subst hq
   repeat' (first | (refine Zc (.func 247) ?_; refine qC rfl rfl (ok_spec _ bt br all b1 _ _ _ a1 n1 c1 st1) ?_; rintro v ρ' L' hle ⟨rfl, rfl, rfl⟩ <;> (try simp only [kM, kN, kO, hok])) | (refine Zg ?_; first | (refine Zf ?_; refine qQ ?_) | refine Zj ?_) | refine Za ?_ | (refine Zh ?_; refine Zu ?_) | (refine Zi ?_; refine Zv ?_) | intro _)
   cases hco : ZT ⟨x1, [], []⟩
   all_goals rw [hco] at hck hB2
   all_goals (repeat' (first | (refine Zc (.func 118) ?_; refine qC rfl rfl (hck _) ?_; rintro v ρ' L' hle ⟨rfl, rfl, rfl⟩ <;> (try simp only [kM, kN, kO, if_true, if_false, Bool.false_eq_true])) | (refine Zc (.func 244) ?_; refine qC rfl rfl (Xz _ bt br all b1 _ _ _ a1 n1 c1 st1 _) ?_; rintro v ρ' L' hle ⟨rfl, rfl, rfl⟩ <;> (try simp only [kM, kN, kO, hB2])) | (refine Zg ?_; first | (refine Zf ?_; refine qQ ?_) | refine Zj ?_) | refine Za ?_ | (refine Zh ?_; refine Zu ?_) | (refine Zi ?_; refine Zv ?_) | intro _))
   all_goals exact qE ⟨Hp.le_refl _, ⟨none, 0, 0, none, 0, 0⟩, a1, n1, c1, rfl, CIn.nil, h1, hc1, rfl⟩
  ·have hlf := fun ρ (h : SIn ρ ZD a1 n1 l1) => tinner_spec ρ bt br all b1 (.int .i64 x1) (.slice none 0 0) (.slice none 0 0) rfl rfl rfl a1 n1 c1 l1 h hc1 st1
   have hm : Vo x1 l1 st1 b1 = (([], (Xq Wd l1 st1 b1).1), (Xq Wd l1 st1 b1).2) := by rw [Vo, if_pos hok, if_neg (by omega), if_pos (by omega)]
   rw [hm] at hq
   generalize Xq Wd l1 st1 b1 = m at *
   obtain ⟨xs, l2, st2, b2⟩ := m
   dsimp only at hq hlf
   have hck := fun ρ w h => XN ρ w ⟨x1, [], xs⟩ h
   simp only [contE] at hq
   generalize hB2 : XP b2 st2 (ZT ⟨x1, [], xs⟩) = b3 at *
   subst hq
   repeat' (first | (refine Zc (.func 247) ?_; refine qC rfl rfl (ok_spec _ bt br all b1 _ _ _ a1 n1 c1 st1) ?_; rintro v ρ' L' hle ⟨rfl, rfl, rfl⟩ <;> (try simp only [kM, kN, kO, hok])) | (refine Zc (.tmp 40) ?_; refine qC rfl rfl (hlf _ h1) ?_; rintro v ρ' L' hle ⟨rfl, hle2, sa, sn, sc, a2, n2, c2, hsc, hs255, hA, h2, hc2, rfl⟩ <;> (try simp only [kM, kN, kO])) | (refine Zg ?_; first | (refine Zf ?_; refine qQ ?_) | refine Zj ?_) | refine Za ?_ | (refine Zh ?_; refine Zu ?_) | (refine Zi ?_; refine Zv ?_) | intro _)
   have hC : CIn ρ' ⟨none, 0, 0, sa, sn, sc⟩ [] xs := ⟨AIn.nil, hA, Nat.zero_le _, by dsimp only; omega, Nat.le_refl _, hsc⟩
   cases hco : ZT ⟨x1, [], xs⟩
   all_goals rw [hco] at hck hB2
   all_goals (repeat' (first | (refine Zc (.func 118) ?_; refine qC rfl rfl (hck _ _ hC) ?_; rintro v ρ' L' hle ⟨rfl, rfl, rfl⟩ <;> (try simp only [kM, kN, kO, if_true, if_false, Bool.false_eq_true])) | (refine Zc (.func 244) ?_; refine qC rfl rfl (Xz _ bt br all b2 _ _ _ a2 n2 c2 st2 _) ?_; rintro v ρ' L' hle ⟨rfl, rfl, rfl⟩ <;> (try simp only [kM, kN, kO, hB2])) | (refine Zg ?_; first | (refine Zf ?_; refine qQ ?_) | refine Zj ?_) | refine Za ?_ | (refine Zh ?_; refine Zu ?_) | (refine Zi ?_; refine Zv ?_) | intro _))
   all_goals exact qE ⟨hle2, ⟨none, 0, 0, sa, sn, sc⟩, a2, n2, c2, rfl, hC, h2, hc2, rfl⟩
 ·rw [decide_eq_true (show (x1 : Int) ≤ 2 by omega)] at hB1
  repeat' (first | (refine Zc (.func 97) ?_; refine qC rfl rfl (hn1) ?_; rintro v ρ' L' hle ⟨rfl, rfl, a1, n1, c1, h1, hc1, rfl⟩ <;> (try simp only [kM, kN, kO])) | (refine Zc (.func 244) ?_; refine qC rfl rfl (Xz _ bt br all false _ _ _ a1 n1 c1 st1 _) ?_; rintro v ρ' L' hle ⟨rfl, rfl, rfl⟩ <;> (try simp only [kM, kN, kO, hB1])) | (refine YC rfl rfl rfl hnil (fun es1 ck1 i1 i2 => ?_)) | (refine YC rfl rfl rfl i1 (fun es2 ck2 j1 j2 => ?_); have hg := j2 (x1 : Int); rw [i2, if_neg (by omega), if_neg (by omega), hg0] at hg) | (refine Zg ?_; first | (refine Zf ?_; refine qQ ?_) | refine Zj ?_) | refine Za ?_ | (refine Zh ?_; refine Zu ?_) | (refine Zi ?_; refine Zv ?_) | intro _)
  have hm : Vo x1 l1 st1 b1 = (([], []), l1, st1, b1) := by
   rw [Vo]
   split
   ·rw [if_neg (by omega), if_neg (by omega)]
   ·rfl
  rw [hm] at hq
  have hck := fun ρ => XN ρ ⟨none, 0, 0, none, 0, 0⟩ ⟨x1, [], []⟩ CIn.nil
  simp only [contE] at hq
  generalize hB2 : XP b1 st1 (ZT ⟨x1, [], []⟩) = b2 at *
  subst hq
  cases hco : ZT ⟨x1, [], []⟩
  all_goals rw [hco] at hck hB2
  all_goals (repeat' (first | (refine Zc (.func 118) ?_; refine qC rfl rfl (hck _) ?_; rintro v ρ' L' hle ⟨rfl, rfl, rfl⟩ <;> (try simp only [kM, kN, kO, if_true, if_false, Bool.false_eq_true])) | (refine Zc (.func 244) ?_; refine qC rfl rfl (Xz _ bt br all b1 _ _ _ a1 n1 c1 st1 _) ?_; rintro v ρ' L' hle ⟨rfl, rfl, rfl⟩ <;> (try simp only [kM, kN, kO, hB2])) | (refine Zg ?_; first | (refine Zf ?_; refine qQ ?_) | refine Zj ?_) | refine Za ?_ | (refine Zh ?_; refine Zu ?_) | (refine Zi ?_; refine Zv ?_) | intro _))
  all_goals exact qE ⟨Hp.le_refl _, ⟨none, 0, 0, none, 0, 0⟩, a1, n1, c1, rfl, CIn.nil, h1, hc1, rfl⟩
 ·rw [decide_eq_false (show ¬ (x1 : Int) ≤ 2 by omega)] at hB1
  repeat' (first | (refine Zc (.func 97) ?_; refine qC rfl rfl (hn1) ?_; rintro v ρ' L' hle ⟨rfl, rfl, a1, n1, c1, h1, hc1, rfl⟩ <;> (try simp only [kM, kN, kO])) | (refine Zc (.func 244) ?_; refine qC rfl rfl (Xz _ bt br all false _ _ _ a1 n1 c1 st1 _) ?_; rintro v ρ' L' hle ⟨rfl, rfl, rfl⟩ <;> (try simp only [kM, kN, kO, hB1])) | (refine YC rfl rfl rfl hnil (fun es1 ck1 i1 i2 => ?_)) | (refine YC rfl rfl rfl i1 (fun es2 ck2 j1 j2 => ?_); have hg := j2 (x1 : Int); rw [i2, if_neg (by omega), if_neg (by omega), hg0] at hg) | (refine Zg ?_; first | (refine Zf ?_; refine qQ ?_) | refine Zj ?_) | refine Za ?_ | (refine Zh ?_; refine Zu ?_) | (refine Zi ?_; refine Zv ?_) | intro _)
  have hm : Vo x1 l1 st1 b1 = (([], []), l1, st1, b1) := by
   rw [Vo]
   split
   ·rw [if_neg (by omega), if_neg (by omega)]
   ·rfl
  rw [hm] at hq
  have hck := fun ρ => XN ρ ⟨none, 0, 0, none, 0, 0⟩ ⟨x1, [], []⟩ CIn.nil
  simp only [contE] at hq
  generalize hB2 : XP b1 st1 (ZT ⟨x1, [], []⟩) = b2 at *
  subst hq
  cases hco : ZT ⟨x1, [], []⟩
  all_goals rw [hco] at hck hB2
  all_goals (repeat' (first | (refine Zc (.func 118) ?_; refine qC rfl rfl (hck _) ?_; rintro v ρ' L' hle ⟨rfl, rfl, rfl⟩ <;> (try simp only [kM, kN, kO, if_true, if_false, Bool.false_eq_true])) | (refine Zc (.func 244) ?_; refine qC rfl rfl (Xz _ bt br all b1 _ _ _ a1 n1 c1 st1 _) ?_; rintro v ρ' L' hle ⟨rfl, rfl, rfl⟩ <;> (try simp only [kM, kN, kO, hB2])) | (refine Zg ?_; first | (refine Zf ?_; refine qQ ?_) | refine Zj ?_) | refine Za ?_ | (refine Zh ?_; refine Zu ?_) | (refine Zi ?_; refine Zv ?_) | intro _))
  all_goals exact qE ⟨Hp.le_refl _, ⟨none, 0, 0, none, 0, 0⟩, a1, n1, c1, rfl, CIn.nil, h1, hc1, rfl⟩
theorem Vt (k : Nat) (l : List UInt8) (st : Int) : (YF k l st).2.1.length ≤ l.length := by
 unfold YF; split
 ·exact Nat.le_refl _
 ·split
  ·exact Nat.le_refl _
  ·simp
theorem rawR_len (k : Nat) (l : List UInt8) (st : Int) : (rawR k l st).2.1.length ≤ l.length := by
 unfold rawR; split
 ·exact Nat.le_refl _
 ·split
  ·exact Nat.le_refl _
  ·simp
theorem rowR_len (l : List UInt8) (st : Int) (bad : Bool) : (WQ l st bad).2.1.length ≤ l.length := by
 unfold WQ
 dsimp only
 have e1 := Vt 1 l st
 generalize YF 1 l st = r1 at *
 have e2 := Vt 2 r1.2.1 r1.2.2
 generalize YF 2 r1.2.1 r1.2.2 = r2 at *
 have e3 := Vt 8 r2.2.1 r2.2.2
 generalize YF 8 r2.2.1 r2.2.2 = r3 at *
 have e4 := Vt 1 r3.2.1 r3.2.2
 generalize YF 1 r3.2.1 r3.2.2 = r4 at *
 have e5 := rawR_len r4.1 r4.2.1 r4.2.2
 split
 ·split <;> dsimp only <;> omega
 ·dsimp only; omega
theorem kidR_len (l : List UInt8) (st : Int) : (kidR l st).2.1.length ≤ l.length := by
 unfold kidR
 dsimp only
 have e1 := Vt 1 l st
 generalize YF 1 l st = r1 at *
 have e2 := Vt 2 r1.2.1 r1.2.2
 generalize YF 2 r1.2.1 r1.2.2 = r2 at *
 have e3 := Vt 1 r2.2.1 r2.2.2
 omega
theorem manyTo_len {α : Type} {f : List UInt8 → Int → Bool → α × RS3} (hf : ∀ l st bad, (f l st bad).2.1.length ≤ l.length) : ∀ (n : Nat) (l : List UInt8) (st : Int) (bad : Bool), (XR f n l st bad).2.1.length ≤ l.length
 | 0, l, st, bad => Nat.le_refl _
 | n + 1, l, st, bad => by
  rw [XR]
  split
  ·exact Nat.le_trans (manyTo_len hf n _ _ _) (hf l st bad)
  ·exact Nat.le_refl _
theorem manyR_len {α : Type} {f : List UInt8 → Int → Bool → α × RS3} (hf : ∀ l st bad, (f l st bad).2.1.length ≤ l.length) (l : List UInt8) (st : Int) (bad : Bool) : (Xq f l st bad).2.1.length ≤ l.length :=
 Nat.le_trans (manyTo_len hf _ _ _ _) (Vt 1 l st)
theorem contentR_len (l : List UInt8) : (Xa l).2.1.length ≤ l.length := by
 unfold Xa contE
 dsimp only
 have e1 := Vt 1 l 0
 generalize YF 1 l 0 = r1 at *
 have h2 : ∀ b, (Vo r1.1 r1.2.1 r1.2.2 b).2.1.length ≤ r1.2.1.length := fun b => by
  unfold Vo
  have a1 := manyR_len (f := WQ) rowR_len r1.2.1 r1.2.2 b
  have a2 := manyR_len (f := Wd) (fun l st bad => kidR_len l st) r1.2.1 r1.2.2 b
  split
  ·split
   ·exact a1
   ·split
    ·exact a2
    ·exact Nat.le_refl _
  ·exact Nat.le_refl _
 exact Nat.le_trans (h2 _) e1
def Yj (l : List UInt8) : Yb × Int × Int :=
 let r := Xa l
 (if r.2.2.2 || decide (r.2.2.1 ≠ 0) then ⟨0, [], []⟩ else r.1, takenN l.length r.2.1.length r.2.2.2 r.2.2.1, takenE r.2.2.2 r.2.2.1)
theorem takeCont_spec (ρ : Hp) (a : Option Addr) (n c : Nat) (l : List UInt8) (h : SIn ρ ZD a n l) (hn : n ≤ 1000000) :
  Spec Tryz.prog 147 [.slice a n c] ρ [] (fun v ρ' L' => ρ.le ρ' ∧ ∃ w, v = .tuple ⟨[.agg ⟨XF (Yj l).1.kind w⟩, .int .i64 (Yj l).2.1, .int .i64 (Yj l).2.2]⟩ ∧ CIn ρ' w (Yj l).1.rows (Yj l).1.kids ∧ L' = []) := by
 have hf := from_spec ρ a n c l h hn
 have hl := h.len
 have hlen := contentR_len l
 unfold Yj
 dsimp only
 rw [hl] at hlen ⊢
 refine Ze Tryz.func147 rfl rfl rfl fun u R => ?_
 simp only [Zt, List.cons_append, List.nil_append]
 repeat' (first | (refine Zc (.func 203) ?_; refine qC rfl rfl (hf) ?_; rintro v ρ' L' hle ⟨hle1, bt, br, a1, c1, rfl, hc1, h1, rfl⟩ <;> (try simp only [kM, kN, kO])) | (refine Zg ?_; first | (refine Zf ?_; refine qQ ?_) | refine Zj ?_) | refine Za ?_ | (refine Zh ?_; refine Zu ?_) | (refine Zi ?_; refine Zv ?_) | intro _)
 have hr := content_spec _ bt br n a1 n c1 l h1 hc1
 generalize Xa l = r at *
 obtain ⟨x, l2, st2, b2⟩ := r
 dsimp only at hr hlen ⊢
 repeat' (first | (refine Zc (.func 205) ?_; refine qC rfl rfl (hr) ?_; rintro v ρ' L' hle ⟨hle2, w, a2, n2, c2, rfl, hC, h2, hc2, rfl⟩ <;> (try simp only [kM, kN, kO])) | (refine Zg ?_; first | (refine Zf ?_; refine qQ ?_) | refine Zj ?_) | refine Za ?_ | (refine Zh ?_; refine Zu ?_) | (refine Zi ?_; refine Zv ?_) | intro _)
 have hl2 := h2.len
 rw [hl2]
 have ht := fun ρ => takenCont_spec ρ bt br n hn b2 (.int .i64 x.kind) (.slice w.ra w.rn w.rc) (.slice w.ka w.kn w.kc) a2 n2 c2 st2 x.kind w (by omega)
 by_cases hb : (b2 || decide (st2 ≠ 0)) = true
 ·rw [if_pos hb] at ht
  rw [if_pos hb]
  repeat' (first | (refine Zc (.func 204) ?_; refine qC rfl rfl (ht _) ?_; rintro v ρ' L' hle ⟨rfl, rfl, rfl⟩ <;> (try simp only [kM, kN, kO])) | (refine Zg ?_; first | (refine Zf ?_; refine qQ ?_) | refine Zj ?_) | refine Za ?_ | (refine Zh ?_; refine Zu ?_) | (refine Zi ?_; refine Zv ?_) | intro _)
  exact qE ⟨Hp.le_trans hle1 hle2, ⟨none, 0, 0, none, 0, 0⟩, rfl, CIn.nil, rfl⟩
 ·rw [if_neg hb] at ht
  rw [if_neg hb]
  repeat' (first | (refine Zc (.func 204) ?_; refine qC rfl rfl (ht _) ?_; rintro v ρ' L' hle ⟨rfl, rfl, rfl⟩ <;> (try simp only [kM, kN, kO])) | (refine Zg ?_; first | (refine Zf ?_; refine qQ ?_) | refine Zj ?_) | refine Za ?_ | (refine Zh ?_; refine Zu ?_) | (refine Zi ?_; refine Zv ?_) | intro _)
  exact qE ⟨Hp.le_trans hle1 hle2, w, rfl, hC, rfl⟩
def tB (t : Int) : UInt8 := UInt8.ofNat t.toNat
def keyB (t : Int) (id : Nat) : List UInt8 := tB t :: be 2 id
def vN (v : Int) : Nat := (IntKind.u64.wrap v).toNat
theorem vN_eq (v : Int) : IntKind.u64.wrap v = (vN v : Nat) := by
 have : 0 ≤ IntKind.u64.wrap v := by simp only [IntKind.wrap, IntKind.bits, IntKind.signed, Bool.false_and, Bool.false_eq_true, if_false]; omega
 simp [vN]; omega
theorem vN_lt (v : Int) : vN v < 18446744073709551616 := by
 have : IntKind.u64.wrap v < 18446744073709551616 := by simp only [IntKind.wrap, IntKind.bits, IntKind.signed, Bool.false_and, Bool.false_eq_true, if_false]; omega
 have h := vN_eq v
 omega
def Yw (r : Row) : List UInt8 := keyB r.t r.id ++ (be 8 (vN r.val) ++ (UInt8.ofNat r.note.length :: r.note))
theorem tB_eq {t : Int} (h0 : 0 ≤ t) (h1 : t < 256) : Value.int .u8 t = ZD (tB t) := by
 obtain ⟨n, rfl⟩ : ∃ n : Nat, t = n := ⟨t.toNat, by omega⟩
 simp only [ZD, tB, Int.toNat_natCast, UInt8.toNat_ofNat']
 congr 1
 have e : (2 : Nat) ^ 8 = 256 := by decide
 rw [e]
 omega
theorem key_spec (ρ : Hp) (v : Value) (n : Nat) (l : List UInt8) (sp : List Value) (hown : OwnS v n (l.map ZD) sp 1) (hn : n ≤ 100000) (t : Int) (id : Nat) (h0 : 0 ≤ t) (h3 : t < 256) (hid : id < 65536) :
  Spec Tryz.prog 231 [v, .agg ⟨keyV t id⟩] ρ [Ym v (l.map ZD) sp 5] (fun r ρ' L' => ρ.le ρ' ∧ ∃ sp', OwnS r (n + 3) ((l ++ keyB t id).map ZD) sp' 1 ∧ L' = [Ym r ((l ++ keyB t id).map ZD) sp' 5]) := by
 have hl : l.length = n := by obtain ⟨_, _, _, h⟩ := hown.len; simpa using h
 refine Ze Tryz.func231 rfl rfl rfl fun u R => ?_
 simp only [Zt, List.cons_append, List.nil_append]
 repeat' (first | (refine Zg ?_; first | (refine Zf ?_; refine qQ ?_) | refine Zj ?_) | refine Za ?_ | (refine Zh ?_; refine Zu ?_) | (refine Zi ?_; refine Zv ?_) | intro _)
 rename_i b3
 refine Zz (Zr _ _ ([[(b3, .cells ⟨keyV t id⟩ 128 (0, 0))]])) (Zy (hT := tk) (Hp.le_refl _)) ?_
 all_goals (refine ZO 0 ?_; refine Yv 1 ?_; refine ZX 2 ?_; refine rCv 3 ?_; refine Yv 6 ?_; refine ZX 7 ?_)
 all_goals (refine Zm (i := 4) ?_; ((try refine Zk ?_); (first | (refine ZC rfl rfl rfl rfl (by simp) rfl rfl (fun _ => ?_); simp only [tB_eq h0 h3]) | (refine Zj ?_; try intro _)) <;> ((try simp only [kM, kN, kO]); refine Za ?_; refine Zl ?_)))
 all_goals (refine Zm (i := 5) ?_; ((try refine Zk ?_); (first | (refine YQ (ys := [ZD (tB t)]) (m := 1) rfl rfl hown (hR := by infer_instance) SrcV.lit rfl rfl (by decide) rfl (by omega) (by omega) rfl (fun v' sp' hown' => ?_); rw [show l.map ZD ++ [ZD (tB t)] = (l ++ [tB t]).map ZD by simp] at hown' ⊢; refine ZM _ (h := Rem.here) (fun ρ2 hle2 hfz => ?_); obtain ⟨a', c', rfl, hc', hs⟩ := hown'.sIn hfz) | (refine Zj ?_; try intro _)) <;> ((try simp only [kM, kN, kO]); refine Za ?_; refine Zl ?_)))
 all_goals (refine Zm (i := 8) ?_; ((try refine Zk ?_); (first | (refine Zc (.func 221) ?_; refine qC rfl rfl (put16_spec _ a' _ c' _ hs id hid (by omega)) ?_; rintro v ρ' L' hle ⟨rfl, sp2, hown2, rfl⟩ <;> (try simp only [kM, kN, kO])) | (refine Zj ?_; try intro _)) <;> ((try simp only [kM, kN, kO]); refine Za ?_; refine Zl ?_)))
 all_goals (refine ZN ?_; refine rAs 9 ?_; refine ZI ?_)
 have e : l ++ [tB t] ++ be 2 id = l ++ keyB t id := by rw [List.append_assoc]; rfl
 rw [e] at hown2 ⊢
 repeat' (first | (refine Zg ?_; first | (refine Zf ?_; refine qQ ?_) | refine Zj ?_) | refine Za ?_ | (refine Zh ?_; refine Zu ?_) | (refine Zi ?_; refine Zv ?_) | intro _)
 exact qE ⟨hle2, sp2, hown2, rfl⟩
theorem rowOk_iff {r : Row} (h : Wi r = true) : 0 ≤ r.t ∧ r.t < 3 ∧ r.note.length ≤ 8 := by
 have := of_decide_eq_true h
 exact ⟨this.1.1, this.1.2, this.2⟩
theorem lenB {n : Nat} (h : n ≤ 200) : Value.int .u8 (n : Int) = ZD (UInt8.ofNat n) := by
 simp only [ZD, UInt8.toNat_ofNat']
 congr 1
 have e : (2 : Nat) ^ 8 = 256 := by decide
 rw [e]
 omega
theorem claid_spec (ρ : Hp) (v : Value) (n : Nat) (l : List UInt8) (sp : List Value) (hown : OwnS v n (l.map ZD) sp 1) (hn : n ≤ 1000) (r : Row) (hr : Wi r = true) (hid : r.id < 65536) :
  Spec Tryz.prog 230 [v, .agg ⟨YT r⟩] ρ [Ym v (l.map ZD) sp 5] (fun q ρ' L' => ρ.le ρ' ∧ ∃ sp', OwnS q (n + (Yw r).length) ((l ++ Yw r).map ZD) sp' 1 ∧ L' = [Ym q ((l ++ Yw r).map ZD) sp' 5]) := by
 obtain ⟨h0, h3, h8⟩ := rowOk_iff hr
 have hl : l.length = n := by obtain ⟨_, _, _, h⟩ := hown.len; simpa using h
 have hvl := vN_lt r.val
 have hkb : (keyB r.t r.id).length = 3 := by simp [keyB, Zw]
 have hlb := lenB (n := r.note.length) (by omega)
 refine Ze Tryz.func230 rfl rfl rfl fun u R => ?_
 simp only [Zt, List.cons_append, List.nil_append]
 repeat' (first | (refine Zg ?_; first | (refine Zf ?_; refine qQ ?_) | refine Zj ?_) | refine Za ?_ | (refine Zh ?_; refine Zu ?_) | (refine Zi ?_; refine Zv ?_) | intro _)
 rename_i b3
 refine Zz (Zr _ _ ([[(b3, .cells ⟨YT r⟩ 130 (0, 0))]])) (Zy (hT := tk) (Hp.le_refl _)) ?_
 all_goals (refine ZO 0 ?_; refine Yv 1 ?_; refine ZX 2 ?_; refine Yv 4 ?_; refine ZX 5 ?_; refine rCv 6 ?_)
 all_goals (refine Zm (i := 3) ?_; ((try refine Zk ?_); (first | (simp only [vN_eq]; refine Zc (.func 231) ?_; refine qC rfl rfl (key_spec _ v n l sp hown (by omega) r.t r.id h0 (by omega) hid) ?_; rintro v1 ρ1 L1 hle0 ⟨hle1, sp1, hown1, rfl⟩; simp only [List.cons_append, List.nil_append]; refine ZM _ (h := Rem.here) (fun ρ2 hle2 hfz => ?_); obtain ⟨a1, c1, rfl, hc1, hs1⟩ := hown1.sIn hfz) | (refine Zj ?_; try intro _)) <;> ((try simp only [kM, kN, kO]); refine Za ?_; refine Zl ?_)))
 all_goals (refine Zm (i := 7) ?_; ((try refine Zk ?_); (first | (refine Zc (.func 178) ?_; refine qC rfl rfl (put64_spec _ a1 _ c1 _ hs1 (vN r.val) hvl (by omega)) ?_; rintro v ρ' L' hle ⟨rfl, sp3, hown3, rfl⟩ <;> (try simp only [kM, kN, kO])) | (refine Zj ?_; try intro _)) <;> ((try simp only [kM, kN, kO]); refine Za ?_; refine Zl ?_)))
 all_goals (refine ZN ?_; refine rAs 8 ?_; refine ZI ?_)
 repeat' (first | (refine Zg ?_; first | (refine Zf ?_; refine qQ ?_) | refine Zj ?_) | refine Za ?_ | (refine Zh ?_; refine Zu ?_) | (refine Zi ?_; refine Zv ?_) | intro _)
 refine Zz (Zr _ _ ([[(b3, .cells ⟨YT r⟩ 130 (0, 0))]])) (Zy (hT := tk) (Hp.le_refl _)) ?_
 all_goals (refine ZO 0 ?_; refine Yv 1 ?_; refine ZX 2 ?_; refine rBi 3 ?_; refine rCv 4 ?_; refine Yv 7 ?_; refine ZX 8 ?_)
 all_goals (refine Zm (i := 5) ?_; ((try refine Zk ?_); (first | (refine ZC rfl rfl rfl rfl (by simp) rfl rfl (fun _ => ?_); simp only [hlb]) | (refine Zj ?_; try intro _)) <;> ((try simp only [kM, kN, kO]); refine Za ?_; refine Zl ?_)))
 all_goals (refine Zm (i := 6) ?_; ((try refine Zk ?_); (first | (refine YQ (ys := [ZD (UInt8.ofNat r.note.length)]) (m := 1) rfl rfl hown3 (hR := by infer_instance) SrcV.lit rfl rfl (by decide) rfl (by omega) (by omega) rfl (fun v4 sp4 hown4 => ?_)) | (refine tl_app_str (l := r.note) rfl rfl hown4 (hR := by infer_instance) (by omega) rfl (fun v5 sp5 hown5 => ?_)) | (refine Zj ?_; try intro _)) <;> ((try simp only [kM, kN, kO]); refine Za ?_; refine Zl ?_)))
 all_goals (refine Zm (i := 9) ?_; ((try refine Zk ?_); (first | (refine YQ (ys := [ZD (UInt8.ofNat r.note.length)]) (m := 1) rfl rfl hown3 (hR := by infer_instance) SrcV.lit rfl rfl (by decide) rfl (by omega) (by omega) rfl (fun v4 sp4 hown4 => ?_)) | (refine tl_app_str (l := r.note) rfl rfl hown4 (hR := by infer_instance) (by omega) rfl (fun v5 sp5 hown5 => ?_)) | (refine Zj ?_; try intro _)) <;> ((try simp only [kM, kN, kO]); refine Za ?_; refine Zl ?_)))
 all_goals (refine ZN ?_; refine rAs 10 ?_; refine ZI ?_)
 have e : (l ++ keyB r.t r.id ++ be 8 (vN r.val)).map ZD ++ [ZD (UInt8.ofNat r.note.length)] ++ r.note.map ZD = (l ++ Yw r).map ZD := by simp [Yw]
 have e2 : n + 3 + 8 + 1 + r.note.length = n + (Yw r).length := by simp [Yw, hkb, Zw]; omega
 rw [e] at hown5 ⊢
 rw [e2] at hown5
 repeat' (first | (refine Zg ?_; first | (refine Zf ?_; refine qQ ?_) | refine Zj ?_) | refine Za ?_ | (refine Zh ?_; refine Zu ?_) | (refine Zi ?_; refine Zv ?_) | intro _)
 exact qE ⟨Hp.le_trans hle1 hle2, sp5, hown5, rfl⟩
theorem rowE_spec (ρ : Hp) (r : Row) (hid : r.id < 65536) :
  Spec Tryz.prog 220 [.agg ⟨YT r⟩] ρ [] (fun v ρ' L' => ρ.le ρ' ∧ ∃ a n c, v = .tuple ⟨[.slice a n c, .int .i64 (if Wi r then 0 else 151)]⟩ ∧ n ≤ c ∧ SIn ρ' ZD a n (if Wi r then Yw r else []) ∧ L' = []) := by
 have hck := fun ρ => checkRow_spec ρ r
 refine Ze Tryz.func220 rfl rfl rfl fun u R => ?_
 simp only [Zt, List.cons_append, List.nil_append]
 cases hok : Wi r
 ·simp only [hok, Bool.false_eq_true, if_false] at hck ⊢
  repeat' (first | (refine Zc (.func 225) ?_; refine qC rfl rfl (hck _) ?_; rintro v ρ' L' hle ⟨rfl, rfl, rfl⟩ <;> (try simp only [kM, kN, kO])) | (refine Zg ?_; first | (refine Zf ?_; refine qQ ?_) | refine Zj ?_) | refine Za ?_ | (refine Zh ?_; refine Zu ?_) | (refine Zi ?_; refine Zv ?_) | intro _)
  exact qE ⟨Hp.le_refl _, none, 0, 0, rfl, Nat.le_refl _, SIn.nil, rfl⟩
 ·simp only [hok, if_true] at hck ⊢
  repeat' (first | (refine Zc (.func 225) ?_; refine qC rfl rfl (hck _) ?_; rintro v ρ' L' hle ⟨rfl, rfl, rfl⟩ <;> (try simp only [kM, kN, kO])) | (refine Zc (.func 230) ?_; refine tl_call rfl rfl (claid_spec _ (.slice none 0 0) 0 [] [] (OwnS.nil 1) (by omega) r hok hid) (take_cons' rem_nil' take_nil') rfl ?_; rintro v1 ρ1 L1 hle0 ⟨hle1, sp1, hown1, rfl⟩; simp only [List.cons_append, List.nil_append, Nat.zero_add] at hown1 ⊢; refine ZM _ (h := Rem.here) (fun ρ2 hle2 hfz => ?_); obtain ⟨a1, c1, rfl, hc1, hs1⟩ := hown1.sIn hfz) | (refine Zg ?_; first | (refine Zf ?_; refine qQ ?_) | refine Zj ?_) | refine Za ?_ | (refine Zh ?_; refine Zu ?_) | (refine Zi ?_; refine Zv ?_) | intro _)
  exact qE ⟨Hp.le_trans hle1 hle2, a1, _, c1, rfl, hc1, hs1, rfl⟩
def XO (k : Kid) : List UInt8 := keyB k.t k.id ++ [tB k.page]
def cntB (c : Yb) : List UInt8 := if c.kind = 0 then [] else [UInt8.ofNat (c.rows.length + c.kids.length)]
def YK (c : Yb) : List UInt8 := tB c.kind :: cntB c ++ (c.rows.flatMap Yw ++ c.kids.flatMap XO)
theorem risesB_true {α : Type} {most : Nat} {right : Nat → α → Bool} {lt : α → α → Bool} {l : List α} : ∀ {k : Nat}, Yp most right lt l k = true → k ≤ l.length → l.length ≤ most ∧ ∀ i (h : i < l.length), i < k → right i l[i] = true ∧ (i = 0 ∨ lt (l[i - 1]'(by omega)) l[i] = true)
 | 0, h, _ => ⟨of_decide_eq_true h, fun i _ hi => by omega⟩
 | k + 1, h, hk => by
  rw [Vi (show k < l.length by omega), Bool.and_eq_true, Bool.and_eq_true] at h
  obtain ⟨h1, h2, h3⟩ := h
  obtain ⟨g1, g2⟩ := risesB_true h1 (by omega)
  refine ⟨g1, fun i hi hik => ?_⟩
  by_cases e : i < k
  ·exact g2 i hi e
  ·have : i = k := by omega
   subst this
   refine ⟨h2, ?_⟩
   simpa using h3
structure ContOk (c : Yb) : Prop where
 kind : c.kind = 0 ∧ c.rows = [] ∧ c.kids = [] ∨ c.kind = 1 ∧ c.kids = [] ∨ c.kind = 2 ∧ c.rows = [] ∧ 1 < c.kids.length
 rl : c.rows.length ≤ 4
 kl : c.kids.length ≤ 4
 row : ∀ r ∈ c.rows, Wi r = true
 kid : ∀ k ∈ c.kids, (0 ≤ k.t ∧ k.t < 3) ∧ 0 < k.page ∧ k.page < 64
theorem Vp {c : Yb} (h : ZT c = true) : ContOk c := by
 obtain ⟨kind, rows, kids⟩ := c
 unfold ZT at h
 dsimp only at h
 split at h
 ·rename_i hk
  have hz := of_decide_eq_true h
  have h1 : rows = [] := List.eq_nil_of_length_eq_zero (by omega)
  have h2 : kids = [] := List.eq_nil_of_length_eq_zero (by omega)
  subst h1; subst h2
  exact ⟨.inl ⟨hk, rfl, rfl⟩, by simp, by simp, by simp, by simp⟩
 ·split at h
  ·rename_i hk
   rw [Bool.and_eq_true] at h
   have h2 : kids = [] := List.eq_nil_of_length_eq_zero (of_decide_eq_true h.1)
   subst h2
   obtain ⟨g1, g2⟩ := risesB_true h.2 (Nat.le_refl _)
   refine ⟨.inr (.inl ⟨hk, rfl⟩), g1, by simp, fun r hr => ?_, by simp⟩
   obtain ⟨i, hi, rfl⟩ := List.mem_iff_getElem.1 hr
   exact (g2 i hi hi).1
  ·split at h
   ·rename_i hk
    rw [Bool.and_eq_true, Bool.and_eq_true] at h
    have h1 : rows = [] := List.eq_nil_of_length_eq_zero (of_decide_eq_true h.1)
    subst h1
    obtain ⟨g1, g2⟩ := risesB_true h.2.2 (Nat.le_refl _)
    refine ⟨.inr (.inr ⟨hk, rfl, of_decide_eq_true h.2.1⟩), by simp, g1, by simp, fun k hk => ?_⟩
    obtain ⟨i, hi, rfl⟩ := List.mem_iff_getElem.1 hk
    have := of_decide_eq_true (g2 i hi hi).1
    exact ⟨this.2.2.2.1, this.2.1, this.2.2.1⟩
   ·cases h
theorem rowB_len {r : Row} (h : Wi r = true) : (Yw r).length = 12 + r.note.length := by simp [Yw, keyB, Zw]; omega
theorem rowB_le {r : Row} (h : Wi r = true) : (Yw r).length ≤ 20 := by rw [rowB_len h]; have := (rowOk_iff h).2.2; omega
theorem kidB_len (k : Kid) : (XO k).length = 4 := by simp [XO, keyB, Zw]
theorem YN {α : Type} (f : α → List UInt8) (m : Nat) : ∀ (l : List α), (∀ x ∈ l, (f x).length ≤ m) → (l.flatMap f).length ≤ l.length * m
 | [], _ => by simp
 | x :: r, h => by
  have h1 := h x (by simp)
  have ih := YN f m r (fun y hy => h y (by simp [hy]))
  simp only [List.flatMap_cons, List.length_append, List.length_cons, Nat.add_mul]; omega
theorem XX {α : Type} (f : α → List UInt8) (l : List α) (k : Nat) (h : k < l.length) : (l.take (k + 1)).flatMap f = (l.take k).flatMap f ++ f l[k] := by
 rw [List.take_succ_eq_append_getElem h, List.flatMap_append]; simp
theorem contE_spec (ρ : Hp) (w : CV) (c : Yb) (h : CIn ρ w c.rows c.kids) (hir : ∀ r ∈ c.rows, r.id < 65536) (hik : ∀ k ∈ c.kids, k.id < 65536) :
  Spec Tryz.prog 177 [.agg ⟨XF c.kind w⟩] ρ [] (fun v ρ' L' => ρ.le ρ' ∧ ∃ a n c', v = .tuple ⟨[.slice a n c', .int .i64 (if ZT c then 0 else 160)]⟩ ∧ n ≤ c' ∧ SIn ρ' ZD a n (if ZT c then YK c else []) ∧ L' = []) := by
 have hck := fun ρ h => XN ρ w c h
 refine Ze Tryz.func177 rfl rfl rfl fun u R => ?_
 simp only [Zt, List.cons_append, List.nil_append]
 cases hok : ZT c
 ·simp only [hok, Bool.false_eq_true, if_false] at hck ⊢
  repeat' (first | (refine Zc (.func 118) ?_; refine qC rfl rfl (hck _ h) ?_; rintro v ρ' L' hle ⟨rfl, rfl, rfl⟩ <;> (try simp only [kM, kN, kO])) | (refine Zg ?_; first | (refine Zf ?_; refine qQ ?_) | refine Zj ?_) | refine Za ?_ | (refine Zh ?_; refine Zu ?_) | (refine Zi ?_; refine Zv ?_) | intro _)
  exact qE ⟨Hp.le_refl _, none, 0, 0, rfl, Nat.le_refl _, SIn.nil, rfl⟩
 ·simp only [hok, if_true] at hck ⊢
  obtain ⟨hkind, hrl, hkl, hrow, hkid⟩ := Vp hok
  have hk03 : 0 ≤ c.kind ∧ c.kind < 3 := by omega
  obtain ⟨kind, rows, kids⟩ := c
  obtain ⟨ra, rn, rc, ka, kn, kc⟩ := w
  obtain ⟨hr, hk, hrb, hkb, hrc, hkc⟩ := h
  dsimp only at hrc hkc hr hk hrb hkb hrow hkid hrl hkl hk03 hir hik ⊢
  have hrn := hr.len
  have hkn := hk.len
  have hcnt := lenB (n := rn + kn) (by omega)
  have hkB := tB_eq (t := kind) (by omega) (by omega)
  dsimp only [XF] at hck ⊢
  by_cases hk0 : kind = 0
  ·obtain ⟨B0, hB0⟩ : ∃ B0, tB kind :: cntB ⟨kind, rows, kids⟩ = B0 := ⟨_, rfl⟩
   have hX : B0 = [tB kind] := by rw [← hB0]; simp [cntB, hk0]
   have hBl : B0.length ≤ 2 := by rw [hX]; simp
   repeat' (first | (refine Zc (.func 118) ?_; refine qC rfl rfl (hck _ ⟨hr, hk, hrb, hkb, hrc, hkc⟩) ?_; rintro v ρ' L' hle ⟨rfl, rfl, rfl⟩ <;> (try simp only [kM, kN, kO])) | (refine ZC rfl rfl rfl rfl (by simp) rfl rfl (fun _ => ?_); simp only [hkB]) | (refine Zg ?_; first | (refine Zf ?_; refine qQ ?_) | refine Zj ?_) | refine Za ?_ | (refine Zh ?_; refine Zu ?_) | (refine Zi ?_; refine Zv ?_) | intro _)
   rename_i b1 b2
   rw [show [ZD (tB kind)] = B0.map ZD by rw [hX]; rfl, own_chunk b2 1 1]
   have hown0 : OwnS (.slice (some ⟨b2, 0, none⟩) 1 1) B0.length (B0.map ZD) [] 1 := ⟨.inr ⟨b2, 1, by rw [hX]; rfl, by simp, by simp [hX], by simp [hX]⟩⟩
   generalize Value.slice (some ⟨b2, 0, none⟩) 1 1 = v0 at *
   rw [show B0.map ZD = (B0 ++ (rows.take 0).flatMap Yw).map ZD by simp]
   refine ZH [(1, _), (2, _), (3, _), (34, _), (35, _)] (fun (ζ : (Nat) × (Hp) × (Value) × (List Value)) => [(36, .int .i64 ζ.1), (5, ζ.2.2.1)]) (fun (ζ : (Nat) × (Hp) × (Value) × (List Value)) => ζ.2.1) (fun (ζ : (Nat) × (Hp) × (Value) × (List Value)) => [Ym ζ.2.2.1 ((B0 ++ (rows.take ζ.1).flatMap Yw).map ZD) ζ.2.2.2 5, [(b1, .cells ⟨[.int .i64 kind, .slice ra rn rc, .slice ka kn kc]⟩ 65 (0, 0))]]) (fun (ζ : (Nat) × (Hp) × (Value) × (List Value)) => ζ.1 ≤ rn ∧ ρ'.le ζ.2.1 ∧ OwnS ζ.2.2.1 (B0 ++ (rows.take ζ.1).flatMap Yw).length ((B0 ++ (rows.take ζ.1).flatMap Yw).map ZD) ζ.2.2.2 1) (fun (ζ : (Nat) × (Hp) × (Value) × (List Value)) => rn - ζ.1) ((0, ρ', v0, [])) (⟨Nat.zero_le _, Hp.le_refl _, by simpa using hown0⟩) Zo Zo rfl tk ?_
   rintro ⟨k, ρ1, v, sp⟩ hI
   try simp only [List.cons_append, List.nil_append, List.append_assoc, List.append_eq] at hI ⊢
   try dsimp only at hI ⊢
   obtain ⟨hkn0, hle1, hown⟩ := hI
   by_cases hlt : k < rn
   ·obtain ⟨b, off, C, T, fr, rfl, hb, hfit, hc⟩ := (hr.mono hle1).get (show k < rows.length by omega)
    have hmem : rows[k]'(by omega) ∈ rows := List.getElem_mem _
    have hro := hrow _ hmem
    have hid := hir _ hmem
    have hts := XX Yw rows k (by omega)
    have hfl := YN Yw 20 (rows.take k) (fun x hx => rowB_le (hrow x (List.mem_of_mem_take hx)))
    have htl : (rows.take k).length ≤ 4 := by simp; omega
    have hXl : (B0 ++ (rows.take k).flatMap Yw).length ≤ 100 := by simp only [List.length_append]; omega
    have hll : (B0 ++ (rows.take k).flatMap Yw).length + (Yw (rows[k]'(by omega))).length = (B0 ++ (rows.take (k + 1)).flatMap Yw).length := by rw [hts]; simp; omega
    have hmm : B0 ++ (rows.take k).flatMap Yw ++ Yw (rows[k]'(by omega)) = B0 ++ (rows.take (k + 1)).flatMap Yw := by rw [hts]; simp
    generalize rows[k]'(by omega) = x at *
    repeat' (first | (refine Zc (.func 230) ?_; refine qC rfl rfl (claid_spec _ v _ _ sp hown (by omega) x hro hid) ?_; rintro v2 ρ2 L2 hle0 ⟨hle2, sp2, hown2, rfl⟩; simp only [List.cons_append, List.nil_append, hmm]; rw [hmm, hll] at hown2) | (refine Zg ?_; first | (refine Zf ?_; refine qQ ?_) | refine Zj ?_) | refine Za ?_ | (refine Zh ?_; refine Zu ?_) | (refine Zi ?_; refine Zv ?_) | intro _)
    refine Zx (k + 1, _, v2, sp2) (⟨hlt, Hp.le_trans hle1 hle2, hown2⟩) Zo Zo rfl tk inferInstance (by first | omega | (dsimp only; omega))
   ·have hk2 : k = rn := by omega
    subst hk2
    rw [List.take_of_length_le (by omega)] at hown ⊢
    repeat' (first | (refine Zg ?_; first | (refine Zf ?_; refine qQ ?_) | refine Zj ?_) | refine Za ?_ | (refine Zh ?_; refine Zu ?_) | (refine Zi ?_; refine Zv ?_) | intro _)
    rw [show (B0 ++ rows.flatMap Yw).map ZD = (B0 ++ (rows.flatMap Yw ++ (kids.take 0).flatMap XO)).map ZD by simp]
    refine ZH [(2, _), (3, _), (45, _), (46, _)] (fun (ζ : (Nat) × (Hp) × (Value) × (List Value)) => [(47, .int .i64 ζ.1), (5, ζ.2.2.1)]) (fun (ζ : (Nat) × (Hp) × (Value) × (List Value)) => ζ.2.1) (fun (ζ : (Nat) × (Hp) × (Value) × (List Value)) => [Ym ζ.2.2.1 ((B0 ++ (rows.flatMap Yw ++ (kids.take ζ.1).flatMap XO)).map ZD) ζ.2.2.2 5]) (fun (ζ : (Nat) × (Hp) × (Value) × (List Value)) => ζ.1 ≤ kn ∧ ρ1.le ζ.2.1 ∧ OwnS ζ.2.2.1 (B0 ++ (rows.flatMap Yw ++ (kids.take ζ.1).flatMap XO)).length ((B0 ++ (rows.flatMap Yw ++ (kids.take ζ.1).flatMap XO)).map ZD) ζ.2.2.2 1) (fun (ζ : (Nat) × (Hp) × (Value) × (List Value)) => kn - ζ.1) ((0, ρ1, v, sp)) (⟨Nat.zero_le _, Hp.le_refl _, by simpa using hown⟩) Zo Zo rfl tk ?_
    rintro ⟨j, ρ2, v, sp⟩ hI
    try simp only [List.cons_append, List.nil_append, List.append_assoc, List.append_eq] at hI ⊢
    try dsimp only at hI ⊢
    have hfl := YN Yw 20 rows (fun x hx => rowB_le (hrow x hx))
    obtain ⟨hj0, hle3, hown3⟩ := hI
    by_cases hlj : j < kn
    ·obtain ⟨b, off, C, T, fr, rfl, hb, hfit, hc⟩ := (hk.mono (Hp.le_trans hle1 hle3)).get (show j < kids.length by omega)
     have hmem : kids[j]'(by omega) ∈ kids := List.getElem_mem _
     have hko := hkid _ hmem
     have hid := hik _ hmem
     have hts := XX XO kids j (by omega)
     have hfk := YN XO 4 (kids.take j) (fun x hx => Nat.le_of_eq (kidB_len x))
     have htl : (kids.take j).length ≤ 4 := by simp; omega
     have hXl : (B0 ++ (rows.flatMap Yw ++ (kids.take j).flatMap XO)).length ≤ 200 := by simp only [List.length_append]; omega
     have hmm : B0 ++ (rows.flatMap Yw ++ (kids.take j).flatMap XO) ++ keyB (kids[j]'(by omega)).t (kids[j]'(by omega)).id ++ [tB (kids[j]'(by omega)).page] = B0 ++ (rows.flatMap Yw ++ (kids.take (j + 1)).flatMap XO) := by rw [hts]; simp [XO]
     have hll : (B0 ++ (rows.flatMap Yw ++ (kids.take j).flatMap XO)).length + 3 + 1 = (B0 ++ (rows.flatMap Yw ++ (kids.take (j + 1)).flatMap XO)).length := by rw [hts]; simp [kidB_len]; omega
     have hpg := tB_eq (t := (kids[j]'(by omega)).page) (by omega) (by omega)
     generalize kids[j]'(by omega) = x at *
     generalize hX : B0 ++ (rows.flatMap Yw ++ (kids.take j).flatMap XO) = X at *
     repeat' (first | (refine Zg ?_; first | (refine Zf ?_; refine qQ ?_) | refine Zj ?_) | refine Za ?_ | (refine Zh ?_; refine Zu ?_) | (refine Zi ?_; refine Zv ?_) | intro _)
     rename_i b9
     refine Zz (Zr _ _ ([[(b9, .cells ⟨XQ x⟩ 149 (0, 0))]])) (Zy (hT := tk) (Hp.le_refl _)) ?_
     all_goals (refine ZO 0 ?_; refine Yv 1 ?_; refine ZX 2 ?_; refine Yv 4 ?_; refine ZX 5 ?_; refine rCv 6 ?_)
     all_goals (refine Xn (i := 3) (j := 7) ?_ ?_ <;> ((try refine Zk ?_); (first | (refine Zc (.func 231) ?_; refine qC rfl rfl (key_spec _ v _ X sp hown3 (by omega) x.t x.id hko.1.1 (by omega) hid) ?_; rintro v2 ρ4 L2 hle0 ⟨hle4, sp4, hown4, rfl⟩; simp only [List.cons_append, List.nil_append]) | (refine ZC rfl rfl rfl rfl (by simp) rfl rfl (fun _ => ?_); simp only [hpg]) | (refine Zj ?_; try intro _)) <;> ((try simp only [kM, kN, kO]); refine Za ?_; refine Zl ?_)))
     all_goals (first | (refine Zm (i := 7) ?_; ((try refine Zk ?_); (first | (refine ZC rfl rfl rfl rfl (by simp) rfl rfl (fun _ => ?_); simp only [hpg]) | (refine Zj ?_; try intro _)) <;> ((try simp only [kM, kN, kO]); refine Za ?_; refine Zl ?_))) | (refine Zm (i := 3) ?_; ((try refine Zk ?_); (first | (refine Zc (.func 231) ?_; refine qC rfl rfl (key_spec _ v _ X sp hown3 (by omega) x.t x.id hko.1.1 (by omega) hid) ?_; rintro v2 ρ4 L2 hle0 ⟨hle4, sp4, hown4, rfl⟩; simp only [List.cons_append, List.nil_append]) | (refine Zj ?_; try intro _)) <;> ((try simp only [kM, kN, kO]); refine Za ?_; refine Zl ?_))))
     all_goals (refine Zm (i := 8) ?_; ((try refine Zk ?_); (first | (refine Zc (.func 231) ?_; refine qC rfl rfl (key_spec _ v _ X sp hown3 (by omega) x.t x.id hko.1.1 (by omega) hid) ?_; rintro v2 ρ4 L2 hle0 ⟨hle4, sp4, hown4, rfl⟩; simp only [List.cons_append, List.nil_append]) | (refine YQ (ys := [ZD (tB x.page)]) (m := 1) rfl rfl hown4 (hR := by infer_instance) SrcV.lit rfl rfl (by decide) rfl (by omega) (by omega) rfl (fun v5 sp5 hown5 => ?_); rw [show (X ++ keyB x.t x.id).map ZD ++ [ZD (tB x.page)] = (X ++ keyB x.t x.id ++ [tB x.page]).map ZD by simp, hmm] at hown5 ⊢; rw [hll] at hown5) | (refine Zj ?_; try intro _)) <;> ((try simp only [kM, kN, kO]); refine Za ?_; refine Zl ?_)))
     all_goals (refine ZN ?_; refine rAs 9 ?_; refine ZI ?_)
     all_goals (repeat' (first | (refine Zg ?_; first | (refine Zf ?_; refine qQ ?_) | refine Zj ?_) | refine Za ?_ | (refine Zh ?_; refine Zu ?_) | (refine Zi ?_; refine Zv ?_) | intro _))
     all_goals refine Zx (j + 1, _, v5, sp5) (⟨hlj, Hp.le_trans hle3 (by assumption), hown5⟩) Zo Zo rfl tk inferInstance (by first | omega | (dsimp only; omega))
    ·have hj2 : j = kn := by omega
     subst hj2
     rw [List.take_of_length_le (by omega)] at hown3 ⊢
     have hfin : B0 ++ (rows.flatMap Yw ++ kids.flatMap XO) = YK ⟨kind, rows, kids⟩ := by rw [← hB0]; simp [YK]
     rw [hfin] at hown3 ⊢
     repeat' (first | (refine Zg ?_; first | (refine Zf ?_; refine qQ ?_) | refine Zj ?_) | refine Za ?_ | (refine Zh ?_; refine Zu ?_) | (refine Zi ?_; refine Zv ?_) | intro _)
     refine Xs _ (h := Rem.here) (fun ρ6 hle6 hfz => ?_)
     obtain ⟨a6, c6, rfl, hc6, hs6⟩ := hown3.sIn hfz
     exact qE ⟨Hp.le_trans hle1 (Hp.le_trans hle3 hle6), a6, _, c6, rfl, hc6, hs6, rfl⟩
  ·obtain ⟨B0, hB0⟩ : ∃ B0, tB kind :: cntB ⟨kind, rows, kids⟩ = B0 := ⟨_, rfl⟩
   have hX : B0 = [tB kind] ++ [UInt8.ofNat (rn + kn)] := by rw [← hB0]; simp [cntB, hk0, hrn, hkn]
   have hBl : B0.length ≤ 2 := by rw [hX]; simp
   have hcnt' : Value.int .u8 ((rn : Int) + (kn : Int)) = ZD (UInt8.ofNat (rn + kn)) := by rw [← hcnt]; simp
   repeat' (first | (refine Zc (.func 118) ?_; refine qC rfl rfl (hck _ ⟨hr, hk, hrb, hkb, hrc, hkc⟩) ?_; rintro v ρ' L' hle ⟨rfl, rfl, rfl⟩ <;> (try simp only [kM, kN, kO])) | (refine ZC rfl rfl rfl rfl (by simp) rfl rfl (fun _ => ?_); first | simp only [hkB] | simp only [hcnt']) | (refine Zg ?_; first | (refine Zf ?_; refine qQ ?_) | refine Zj ?_) | refine Za ?_ | (refine Zh ?_; refine Zu ?_) | (refine Zi ?_; refine Zv ?_) | intro _)
   rename_i b1 b2 b3
   rw [show ([(b2, Obj.cells ⟨[ZD (tB kind)]⟩ 5 (0, 0))] : List (Nat × Obj)) = Ym (.slice (some ⟨b2, 0, none⟩) 1 1) ([tB kind].map ZD) [] 5 from rfl]
   refine YQ (ys := [ZD (UInt8.ofNat (rn + kn))]) (m := 1) (n := 1) (xs := [tB kind].map ZD) (sp := []) rfl rfl ⟨.inr ⟨b2, 1, rfl, rfl, rfl, Nat.le_refl _⟩⟩ (hR := by infer_instance) SrcV.lit rfl rfl (by decide) rfl (by omega) (by omega) rfl (fun v0 sp0 hown0 => ?_)
   rw [show [tB kind].map ZD ++ [ZD (UInt8.ofNat (rn + kn))] = B0.map ZD by rw [hX]; rfl] at hown0 ⊢
   replace hown0 : OwnS v0 B0.length (B0.map ZD) sp0 1 := by
    have e : B0.length = 1 + 1 := by rw [hX]; rfl
    rw [e]; exact hown0
   repeat' (first | (refine Zg ?_; first | (refine Zf ?_; refine qQ ?_) | refine Zj ?_) | refine Za ?_ | (refine Zh ?_; refine Zu ?_) | (refine Zi ?_; refine Zv ?_) | intro _)
   rw [show B0.map ZD = (B0 ++ (rows.take 0).flatMap Yw).map ZD by simp]
   refine ZH [(1, _), (2, _), (3, _), (34, _), (35, _)] (fun (ζ : (Nat) × (Hp) × (Value) × (List Value)) => [(36, .int .i64 ζ.1), (5, ζ.2.2.1)]) (fun (ζ : (Nat) × (Hp) × (Value) × (List Value)) => ζ.2.1) (fun (ζ : (Nat) × (Hp) × (Value) × (List Value)) => [Ym ζ.2.2.1 ((B0 ++ (rows.take ζ.1).flatMap Yw).map ZD) ζ.2.2.2 5, [(b1, .cells ⟨[.int .i64 kind, .slice ra rn rc, .slice ka kn kc]⟩ 65 (0, 0))]]) (fun (ζ : (Nat) × (Hp) × (Value) × (List Value)) => ζ.1 ≤ rn ∧ ρ'.le ζ.2.1 ∧ OwnS ζ.2.2.1 (B0 ++ (rows.take ζ.1).flatMap Yw).length ((B0 ++ (rows.take ζ.1).flatMap Yw).map ZD) ζ.2.2.2 1) (fun (ζ : (Nat) × (Hp) × (Value) × (List Value)) => rn - ζ.1) ((0, ρ', v0, sp0)) (⟨Nat.zero_le _, Hp.le_refl _, by simpa using hown0⟩) Zo Zo rfl tk ?_
   rintro ⟨k, ρ1, v, sp⟩ hI
   try simp only [List.cons_append, List.nil_append, List.append_assoc, List.append_eq] at hI ⊢
   try dsimp only at hI ⊢
   obtain ⟨hkn0, hle1, hown⟩ := hI
   by_cases hlt : k < rn
   ·obtain ⟨b, off, C, T, fr, rfl, hb, hfit, hc⟩ := (hr.mono hle1).get (show k < rows.length by omega)
    have hmem : rows[k]'(by omega) ∈ rows := List.getElem_mem _
    have hro := hrow _ hmem
    have hid := hir _ hmem
    have hts := XX Yw rows k (by omega)
    have hfl := YN Yw 20 (rows.take k) (fun x hx => rowB_le (hrow x (List.mem_of_mem_take hx)))
    have htl : (rows.take k).length ≤ 4 := by simp; omega
    have hXl : (B0 ++ (rows.take k).flatMap Yw).length ≤ 100 := by simp only [List.length_append]; omega
    have hll : (B0 ++ (rows.take k).flatMap Yw).length + (Yw (rows[k]'(by omega))).length = (B0 ++ (rows.take (k + 1)).flatMap Yw).length := by rw [hts]; simp; omega
    have hmm : B0 ++ (rows.take k).flatMap Yw ++ Yw (rows[k]'(by omega)) = B0 ++ (rows.take (k + 1)).flatMap Yw := by rw [hts]; simp
    generalize rows[k]'(by omega) = x at *
    repeat' (first | (refine Zc (.func 230) ?_; refine qC rfl rfl (claid_spec _ v _ _ sp hown (by omega) x hro hid) ?_; rintro v2 ρ2 L2 hle0 ⟨hle2, sp2, hown2, rfl⟩; simp only [List.cons_append, List.nil_append, hmm]; rw [hmm, hll] at hown2) | (refine Zg ?_; first | (refine Zf ?_; refine qQ ?_) | refine Zj ?_) | refine Za ?_ | (refine Zh ?_; refine Zu ?_) | (refine Zi ?_; refine Zv ?_) | intro _)
    refine Zx (k + 1, _, v2, sp2) (⟨hlt, Hp.le_trans hle1 hle2, hown2⟩) Zo Zo rfl tk inferInstance (by first | omega | (dsimp only; omega))
   ·have hk2 : k = rn := by omega
    subst hk2
    rw [List.take_of_length_le (by omega)] at hown ⊢
    repeat' (first | (refine Zg ?_; first | (refine Zf ?_; refine qQ ?_) | refine Zj ?_) | refine Za ?_ | (refine Zh ?_; refine Zu ?_) | (refine Zi ?_; refine Zv ?_) | intro _)
    rw [show (B0 ++ rows.flatMap Yw).map ZD = (B0 ++ (rows.flatMap Yw ++ (kids.take 0).flatMap XO)).map ZD by simp]
    refine ZH [(2, _), (3, _), (45, _), (46, _)] (fun (ζ : (Nat) × (Hp) × (Value) × (List Value)) => [(47, .int .i64 ζ.1), (5, ζ.2.2.1)]) (fun (ζ : (Nat) × (Hp) × (Value) × (List Value)) => ζ.2.1) (fun (ζ : (Nat) × (Hp) × (Value) × (List Value)) => [Ym ζ.2.2.1 ((B0 ++ (rows.flatMap Yw ++ (kids.take ζ.1).flatMap XO)).map ZD) ζ.2.2.2 5]) (fun (ζ : (Nat) × (Hp) × (Value) × (List Value)) => ζ.1 ≤ kn ∧ ρ1.le ζ.2.1 ∧ OwnS ζ.2.2.1 (B0 ++ (rows.flatMap Yw ++ (kids.take ζ.1).flatMap XO)).length ((B0 ++ (rows.flatMap Yw ++ (kids.take ζ.1).flatMap XO)).map ZD) ζ.2.2.2 1) (fun (ζ : (Nat) × (Hp) × (Value) × (List Value)) => kn - ζ.1) ((0, ρ1, v, sp)) (⟨Nat.zero_le _, Hp.le_refl _, by simpa using hown⟩) Zo Zo rfl tk ?_
    rintro ⟨j, ρ2, v, sp⟩ hI
    try simp only [List.cons_append, List.nil_append, List.append_assoc, List.append_eq] at hI ⊢
    try dsimp only at hI ⊢
    have hfl := YN Yw 20 rows (fun x hx => rowB_le (hrow x hx))
    obtain ⟨hj0, hle3, hown3⟩ := hI
    by_cases hlj : j < kn
    ·obtain ⟨b, off, C, T, fr, rfl, hb, hfit, hc⟩ := (hk.mono (Hp.le_trans hle1 hle3)).get (show j < kids.length by omega)
     have hmem : kids[j]'(by omega) ∈ kids := List.getElem_mem _
     have hko := hkid _ hmem
     have hid := hik _ hmem
     have hts := XX XO kids j (by omega)
     have hfk := YN XO 4 (kids.take j) (fun x hx => Nat.le_of_eq (kidB_len x))
     have htl : (kids.take j).length ≤ 4 := by simp; omega
     have hXl : (B0 ++ (rows.flatMap Yw ++ (kids.take j).flatMap XO)).length ≤ 200 := by simp only [List.length_append]; omega
     have hmm : B0 ++ (rows.flatMap Yw ++ (kids.take j).flatMap XO) ++ keyB (kids[j]'(by omega)).t (kids[j]'(by omega)).id ++ [tB (kids[j]'(by omega)).page] = B0 ++ (rows.flatMap Yw ++ (kids.take (j + 1)).flatMap XO) := by rw [hts]; simp [XO]
     have hll : (B0 ++ (rows.flatMap Yw ++ (kids.take j).flatMap XO)).length + 3 + 1 = (B0 ++ (rows.flatMap Yw ++ (kids.take (j + 1)).flatMap XO)).length := by rw [hts]; simp [kidB_len]; omega
     have hpg := tB_eq (t := (kids[j]'(by omega)).page) (by omega) (by omega)
     generalize kids[j]'(by omega) = x at *
     generalize hX : B0 ++ (rows.flatMap Yw ++ (kids.take j).flatMap XO) = X at *
     repeat' (first | (refine Zg ?_; first | (refine Zf ?_; refine qQ ?_) | refine Zj ?_) | refine Za ?_ | (refine Zh ?_; refine Zu ?_) | (refine Zi ?_; refine Zv ?_) | intro _)
     rename_i b9
     refine Zz (Zr _ _ ([[(b9, .cells ⟨XQ x⟩ 149 (0, 0))]])) (Zy (hT := tk) (Hp.le_refl _)) ?_
     all_goals (refine ZO 0 ?_; refine Yv 1 ?_; refine ZX 2 ?_; refine Yv 4 ?_; refine ZX 5 ?_; refine rCv 6 ?_)
     all_goals (refine Xn (i := 3) (j := 7) ?_ ?_ <;> ((try refine Zk ?_); (first | (refine Zc (.func 231) ?_; refine qC rfl rfl (key_spec _ v _ X sp hown3 (by omega) x.t x.id hko.1.1 (by omega) hid) ?_; rintro v2 ρ4 L2 hle0 ⟨hle4, sp4, hown4, rfl⟩; simp only [List.cons_append, List.nil_append]) | (refine ZC rfl rfl rfl rfl (by simp) rfl rfl (fun _ => ?_); simp only [hpg]) | (refine Zj ?_; try intro _)) <;> ((try simp only [kM, kN, kO]); refine Za ?_; refine Zl ?_)))
     all_goals (first | (refine Zm (i := 7) ?_; ((try refine Zk ?_); (first | (refine ZC rfl rfl rfl rfl (by simp) rfl rfl (fun _ => ?_); simp only [hpg]) | (refine Zj ?_; try intro _)) <;> ((try simp only [kM, kN, kO]); refine Za ?_; refine Zl ?_))) | (refine Zm (i := 3) ?_; ((try refine Zk ?_); (first | (refine Zc (.func 231) ?_; refine qC rfl rfl (key_spec _ v _ X sp hown3 (by omega) x.t x.id hko.1.1 (by omega) hid) ?_; rintro v2 ρ4 L2 hle0 ⟨hle4, sp4, hown4, rfl⟩; simp only [List.cons_append, List.nil_append]) | (refine Zj ?_; try intro _)) <;> ((try simp only [kM, kN, kO]); refine Za ?_; refine Zl ?_))))
     all_goals (refine Zm (i := 8) ?_; ((try refine Zk ?_); (first | (refine Zc (.func 231) ?_; refine qC rfl rfl (key_spec _ v _ X sp hown3 (by omega) x.t x.id hko.1.1 (by omega) hid) ?_; rintro v2 ρ4 L2 hle0 ⟨hle4, sp4, hown4, rfl⟩; simp only [List.cons_append, List.nil_append]) | (refine YQ (ys := [ZD (tB x.page)]) (m := 1) rfl rfl hown4 (hR := by infer_instance) SrcV.lit rfl rfl (by decide) rfl (by omega) (by omega) rfl (fun v5 sp5 hown5 => ?_); rw [show (X ++ keyB x.t x.id).map ZD ++ [ZD (tB x.page)] = (X ++ keyB x.t x.id ++ [tB x.page]).map ZD by simp, hmm] at hown5 ⊢; rw [hll] at hown5) | (refine Zj ?_; try intro _)) <;> ((try simp only [kM, kN, kO]); refine Za ?_; refine Zl ?_)))
     all_goals (refine ZN ?_; refine rAs 9 ?_; refine ZI ?_)
     all_goals (repeat' (first | (refine Zg ?_; first | (refine Zf ?_; refine qQ ?_) | refine Zj ?_) | refine Za ?_ | (refine Zh ?_; refine Zu ?_) | (refine Zi ?_; refine Zv ?_) | intro _))
     all_goals refine Zx (j + 1, _, v5, sp5) (⟨hlj, Hp.le_trans hle3 (by assumption), hown5⟩) Zo Zo rfl tk inferInstance (by first | omega | (dsimp only; omega))
    ·have hj2 : j = kn := by omega
     subst hj2
     rw [List.take_of_length_le (by omega)] at hown3 ⊢
     have hfin : B0 ++ (rows.flatMap Yw ++ kids.flatMap XO) = YK ⟨kind, rows, kids⟩ := by rw [← hB0]; simp [YK]
     rw [hfin] at hown3 ⊢
     repeat' (first | (refine Zg ?_; first | (refine Zf ?_; refine qQ ?_) | refine Zj ?_) | refine Za ?_ | (refine Zh ?_; refine Zu ?_) | (refine Zi ?_; refine Zv ?_) | intro _)
     refine Xs _ (h := Rem.here) (fun ρ6 hle6 hfz => ?_)
     obtain ⟨a6, c6, rfl, hc6, hs6⟩ := hown3.sIn hfz
     exact qE ⟨Hp.le_trans hle1 (Hp.le_trans hle3 hle6), a6, _, c6, rfl, hc6, hs6, rfl⟩
instance : Yf Tryz.prog 95 := mkFun (by kernel_rfl)
instance (priority := 1200) eqRow {x y : Row} : EqC Tryz.prog 8 130 (.agg ⟨YT x⟩) (.agg ⟨YT y⟩) (decide (x = y)) := by
 have h : EqC Tryz.prog 8 130 (.agg ⟨[.int .i64 x.t, .int .u16 x.id, .int .i64 x.val, strV x.note]⟩) (.agg ⟨[.int .i64 y.t, .int .u16 y.id, .int .i64 y.val, strV y.note]⟩) _ := inferInstance
 refine ⟨fun d w hd => ?_⟩
 rw [h.out d w hd]
 congr 1
 obtain ⟨t, i, v, n⟩ := x
 obtain ⟨t', i', v', n'⟩ := y
 simp only [Row.mk.injEq, Bool.and_true, Bool.decide_and]
 have e : ((i : Int) == (i' : Int)) = decide (i = i') := by
  by_cases h : i = i'
  ·subst h; simp
  ·rw [decide_eq_false h]; simp only [beq_eq_false_iff_ne, ne_eq]; omega
 rw [e]
 by_cases h1 : t = t' <;> by_cases h2 : i = i' <;> by_cases h3 : v = v' <;> simp [h1, h2, h3]
instance (priority := 1200) eqKid {x y : Kid} : EqC Tryz.prog 8 149 (.agg ⟨XQ x⟩) (.agg ⟨XQ y⟩) (decide (x = y)) := by
 have h : EqC Tryz.prog 8 149 (.agg ⟨[.int .i64 x.t, .int .u16 x.id, .int .i64 x.page]⟩) (.agg ⟨[.int .i64 y.t, .int .u16 y.id, .int .i64 y.page]⟩) _ := inferInstance
 refine ⟨fun d w hd => ?_⟩
 rw [h.out d w hd]
 congr 1
 obtain ⟨t, i, v⟩ := x
 obtain ⟨t', i', v'⟩ := y
 simp only [Kid.mk.injEq, Bool.and_true, Bool.decide_and]
 have e : ((i : Int) == (i' : Int)) = decide (i = i') := by
  by_cases h : i = i'
  ·subst h; simp
  ·rw [decide_eq_false h]; simp only [beq_eq_false_iff_ne, ne_eq]; omega
 rw [e]
 by_cases h1 : t = t' <;> by_cases h2 : i = i' <;> by_cases h3 : v = v' <;> simp [h1, h2, h3]
theorem slEqROW_spec (ρ : Hp) (a a' : Option Addr) (n c n' c' : Nat) (l m : List Row) (h : AIn ρ 4 YT a n l) (h' : AIn ρ 4 YT a' n' m) (hn : n ≤ 1000000) :
  Spec Tryz.prog 72 [.slice a n c, .slice a' n' c'] ρ [] (fun v ρ' L' => v = .bool (decide (l = m)) ∧ ρ' = ρ ∧ L' = []) := by
 have hl := h.len
 have hm := h'.len
 refine Ze Tryz.func72 rfl rfl rfl fun u R => ?_
 simp only [Zt, List.cons_append, List.nil_append]
 by_cases hne : n = n'
 ·subst hne
  repeat' (first | (refine Zg ?_; first | (refine Zf ?_; refine qQ ?_) | refine Zj ?_) | refine Za ?_ | (refine Zh ?_; refine Zu ?_) | (refine Zi ?_; refine Zv ?_) | intro _)
  refine ZH [(0, _), (1, _), (4, _), (12, _)] (fun (ζ : (Nat)) => [(13, .int .i64 ζ)]) (fun (ζ : (Nat)) => ρ) (fun (ζ : (Nat)) => []) (fun (ζ : (Nat)) => ζ ≤ n ∧ l.take ζ = m.take ζ) (fun (ζ : (Nat)) => n - ζ) (0) (⟨Nat.zero_le _, rfl⟩) Zo Zo rfl tk ?_
  rintro k hI
  try simp only [List.cons_append, List.nil_append, List.append_assoc, List.append_eq] at hI ⊢
  try dsimp only at hI ⊢
  obtain ⟨hk, hpre⟩ := hI
  by_cases hlt : k < n
  ·obtain ⟨b, off, C, T, fr, rfl, hb, hfit, hc⟩ := h.get (show k < l.length by omega)
   obtain ⟨b2, off2, C2, T2, fr2, rfl, hb2, hfit2, hc2⟩ := h'.get (show k < m.length by omega)
   have ht1 := List.take_succ_eq_append_getElem (show k < l.length by omega)
   have ht2 := List.take_succ_eq_append_getElem (show k < m.length by omega)
   have hf : l = m → l[k]'(by omega) = m[k]'(by omega) := fun e => by subst e; rfl
   generalize l[k]'(by omega) = x at *
   generalize m[k]'(by omega) = y at *
   by_cases he : x = y
   ·have hd : decide (x = y) = true := decide_eq_true he
    repeat' (first | (refine Zg ?_; first | (refine Zf ?_; refine qQ ?_) | refine Zj ?_) | refine Za ?_ | (refine Zh ?_; refine Zu ?_) | (refine Zi ?_; refine Zv ?_) | intro _)
    refine Zz (Zr _ _ _) Ye ?_
    all_goals (refine ZO 0 ?_; refine ZN ?_; refine ZO 1 ?_; refine rIa 2 ?_; refine ZX 3 ?_; refine ZO 4 ?_; refine ZO 5 ?_; refine rIa 6 ?_; refine ZX 7 ?_; refine rCm 8 ?_; refine ZI ?_)
    try simp only [hd]
    repeat' (first | (refine Zg ?_; first | (refine Zf ?_; refine qQ ?_) | refine Zj ?_) | refine Za ?_ | (refine Zh ?_; refine Zu ?_) | (refine Zi ?_; refine Zv ?_) | intro _)
    refine Zx (k + 1) (⟨hlt, by rw [ht1, ht2, hpre, he]⟩) Zo Zo rfl tk inferInstance (by first | omega | (dsimp only; omega))
   ·have hd : decide (x = y) = false := decide_eq_false he
    rw [decide_eq_false (fun e => he (hf e))]
    repeat' (first | (refine Zg ?_; first | (refine Zf ?_; refine qQ ?_) | refine Zj ?_) | refine Za ?_ | (refine Zh ?_; refine Zu ?_) | (refine Zi ?_; refine Zv ?_) | intro _)
    refine Zz (Zr _ _ _) Ye ?_
    all_goals (refine ZO 0 ?_; refine ZN ?_; refine ZO 1 ?_; refine rIa 2 ?_; refine ZX 3 ?_; refine ZO 4 ?_; refine ZO 5 ?_; refine rIa 6 ?_; refine ZX 7 ?_; refine rCm 8 ?_; refine ZI ?_)
    try simp only [hd]
    repeat' (first | (refine Zg ?_; first | (refine Zf ?_; refine qQ ?_) | refine Zj ?_) | refine Za ?_ | (refine Zh ?_; refine Zu ?_) | (refine Zi ?_; refine Zv ?_) | intro _)
    exact qE ⟨rfl, rfl, rfl⟩
  ·have hk2 : k = n := by omega
   subst hk2
   rw [List.take_of_length_le (by omega), List.take_of_length_le (by omega)] at hpre
   rw [decide_eq_true hpre]
   repeat' (first | (refine Zg ?_; first | (refine Zf ?_; refine qQ ?_) | refine Zj ?_) | refine Za ?_ | (refine Zh ?_; refine Zu ?_) | (refine Zi ?_; refine Zv ?_) | intro _)
   exact qE ⟨rfl, rfl, rfl⟩
 ·rw [decide_eq_false (fun e : l = m => hne (by rw [← hl, ← hm, e]))]
  repeat' (first | (refine Zg ?_; first | (refine Zf ?_; refine qQ ?_) | refine Zj ?_) | refine Za ?_ | (refine Zh ?_; refine Zu ?_) | (refine Zi ?_; refine Zv ?_) | intro _)
  exact qE ⟨rfl, rfl, rfl⟩
theorem slEqKID_spec (ρ : Hp) (a a' : Option Addr) (n c n' c' : Nat) (l m : List Kid) (h : AIn ρ 3 XQ a n l) (h' : AIn ρ 3 XQ a' n' m) (hn : n ≤ 1000000) :
  Spec Tryz.prog 73 [.slice a n c, .slice a' n' c'] ρ [] (fun v ρ' L' => v = .bool (decide (l = m)) ∧ ρ' = ρ ∧ L' = []) := by
 have hl := h.len
 have hm := h'.len
 refine Ze Tryz.func73 rfl rfl rfl fun u R => ?_
 simp only [Zt, List.cons_append, List.nil_append]
 by_cases hne : n = n'
 ·subst hne
  repeat' (first | (refine Zg ?_; first | (refine Zf ?_; refine qQ ?_) | refine Zj ?_) | refine Za ?_ | (refine Zh ?_; refine Zu ?_) | (refine Zi ?_; refine Zv ?_) | intro _)
  refine ZH [(0, _), (1, _), (4, _), (12, _)] (fun (ζ : (Nat)) => [(13, .int .i64 ζ)]) (fun (ζ : (Nat)) => ρ) (fun (ζ : (Nat)) => []) (fun (ζ : (Nat)) => ζ ≤ n ∧ l.take ζ = m.take ζ) (fun (ζ : (Nat)) => n - ζ) (0) (⟨Nat.zero_le _, rfl⟩) Zo Zo rfl tk ?_
  rintro k hI
  try simp only [List.cons_append, List.nil_append, List.append_assoc, List.append_eq] at hI ⊢
  try dsimp only at hI ⊢
  obtain ⟨hk, hpre⟩ := hI
  by_cases hlt : k < n
  ·obtain ⟨b, off, C, T, fr, rfl, hb, hfit, hc⟩ := h.get (show k < l.length by omega)
   obtain ⟨b2, off2, C2, T2, fr2, rfl, hb2, hfit2, hc2⟩ := h'.get (show k < m.length by omega)
   have ht1 := List.take_succ_eq_append_getElem (show k < l.length by omega)
   have ht2 := List.take_succ_eq_append_getElem (show k < m.length by omega)
   have hf : l = m → l[k]'(by omega) = m[k]'(by omega) := fun e => by subst e; rfl
   generalize l[k]'(by omega) = x at *
   generalize m[k]'(by omega) = y at *
   by_cases he : x = y
   ·have hd : decide (x = y) = true := decide_eq_true he
    repeat' (first | (refine Zg ?_; first | (refine Zf ?_; refine qQ ?_) | refine Zj ?_) | refine Za ?_ | (refine Zh ?_; refine Zu ?_) | (refine Zi ?_; refine Zv ?_) | intro _)
    refine Zz (Zr _ _ _) Ye ?_
    all_goals (refine ZO 0 ?_; refine ZN ?_; refine ZO 1 ?_; refine rIa 2 ?_; refine ZX 3 ?_; refine ZO 4 ?_; refine ZO 5 ?_; refine rIa 6 ?_; refine ZX 7 ?_; refine rCm 8 ?_; refine ZI ?_)
    try simp only [hd]
    repeat' (first | (refine Zg ?_; first | (refine Zf ?_; refine qQ ?_) | refine Zj ?_) | refine Za ?_ | (refine Zh ?_; refine Zu ?_) | (refine Zi ?_; refine Zv ?_) | intro _)
    refine Zx (k + 1) (⟨hlt, by rw [ht1, ht2, hpre, he]⟩) Zo Zo rfl tk inferInstance (by first | omega | (dsimp only; omega))
   ·have hd : decide (x = y) = false := decide_eq_false he
    rw [decide_eq_false (fun e => he (hf e))]
    repeat' (first | (refine Zg ?_; first | (refine Zf ?_; refine qQ ?_) | refine Zj ?_) | refine Za ?_ | (refine Zh ?_; refine Zu ?_) | (refine Zi ?_; refine Zv ?_) | intro _)
    refine Zz (Zr _ _ _) Ye ?_
    all_goals (refine ZO 0 ?_; refine ZN ?_; refine ZO 1 ?_; refine rIa 2 ?_; refine ZX 3 ?_; refine ZO 4 ?_; refine ZO 5 ?_; refine rIa 6 ?_; refine ZX 7 ?_; refine rCm 8 ?_; refine ZI ?_)
    try simp only [hd]
    repeat' (first | (refine Zg ?_; first | (refine Zf ?_; refine qQ ?_) | refine Zj ?_) | refine Za ?_ | (refine Zh ?_; refine Zu ?_) | (refine Zi ?_; refine Zv ?_) | intro _)
    exact qE ⟨rfl, rfl, rfl⟩
  ·have hk2 : k = n := by omega
   subst hk2
   rw [List.take_of_length_le (by omega), List.take_of_length_le (by omega)] at hpre
   rw [decide_eq_true hpre]
   repeat' (first | (refine Zg ?_; first | (refine Zf ?_; refine qQ ?_) | refine Zj ?_) | refine Za ?_ | (refine Zh ?_; refine Zu ?_) | (refine Zi ?_; refine Zv ?_) | intro _)
   exact qE ⟨rfl, rfl, rfl⟩
 ·rw [decide_eq_false (fun e : l = m => hne (by rw [← hl, ← hm, e]))]
  repeat' (first | (refine Zg ?_; first | (refine Zf ?_; refine qQ ?_) | refine Zj ?_) | refine Za ?_ | (refine Zh ?_; refine Zu ?_) | (refine Zi ?_; refine Zv ?_) | intro _)
  exact qE ⟨rfl, rfl, rfl⟩
theorem same_spec (ρ : Hp) (w w' : CV) (c d : Yb) (h : CIn ρ w c.rows c.kids) (h' : CIn ρ w' d.rows d.kids) :
  Spec Tryz.prog 32 [.agg ⟨XF c.kind w⟩, .agg ⟨XF d.kind w'⟩] ρ [] (fun v ρ' L' => v = .bool (decide (c = d)) ∧ ρ' = ρ ∧ L' = []) := by
 have hr := fun ρ h h' => slEqROW_spec ρ w.ra w'.ra w.rn w.rc w'.rn w'.rc c.rows d.rows h h' (CIn.rb (by assumption))
 have hk := fun ρ h h' => slEqKID_spec ρ w.ka w'.ka w.kn w.kc w'.kn w'.kc c.kids d.kids h h' (CIn.kb (by assumption))
 obtain ⟨kind, rows, kids⟩ := c
 obtain ⟨kind', rows', kids'⟩ := d
 dsimp only at hr hk h h' ⊢
 have hrr := h.r
 have hrr' := h'.r
 have hkk := h.k
 have hkk' := h'.k
 simp only [Yb.mk.injEq]
 refine Ze Tryz.func32 rfl rfl rfl fun u R => ?_
 simp only [Zt, List.cons_append, List.nil_append]
 by_cases h1 : kind = kind'
 ·by_cases h2 : rows = rows'
  ·rw [decide_eq_true h2] at hr
   by_cases h3 : kids = kids'
   ·rw [decide_eq_true h3] at hk
    rw [decide_eq_true ⟨h1, h2, h3⟩]
    repeat' (first | (refine Zc (.func 72) ?_; refine qC rfl rfl (hr _ hrr hrr') ?_; rintro v ρ' L' hle ⟨rfl, rfl, rfl⟩ <;> (try simp only [kM, kN, kO])) | (refine Zc (.func 73) ?_; refine qC rfl rfl (hk _ hkk hkk') ?_; rintro v ρ' L' hle ⟨rfl, rfl, rfl⟩ <;> (try simp only [kM, kN, kO])) | (refine Zg ?_; first | (refine Zf ?_; refine qQ ?_) | refine Zj ?_) | refine Za ?_ | (refine Zh ?_; refine Zu ?_) | (refine Zi ?_; refine Zv ?_) | intro _)
    exact qE ⟨rfl, rfl, rfl⟩
   ·rw [decide_eq_false h3] at hk
    rw [decide_eq_false (fun e => h3 e.2.2)]
    repeat' (first | (refine Zc (.func 72) ?_; refine qC rfl rfl (hr _ hrr hrr') ?_; rintro v ρ' L' hle ⟨rfl, rfl, rfl⟩ <;> (try simp only [kM, kN, kO])) | (refine Zc (.func 73) ?_; refine qC rfl rfl (hk _ hkk hkk') ?_; rintro v ρ' L' hle ⟨rfl, rfl, rfl⟩ <;> (try simp only [kM, kN, kO])) | (refine Zg ?_; first | (refine Zf ?_; refine qQ ?_) | refine Zj ?_) | refine Za ?_ | (refine Zh ?_; refine Zu ?_) | (refine Zi ?_; refine Zv ?_) | intro _)
    exact qE ⟨rfl, rfl, rfl⟩
  ·rw [decide_eq_false h2] at hr
   rw [decide_eq_false (fun e => h2 e.2.1)]
   repeat' (first | (refine Zc (.func 72) ?_; refine qC rfl rfl (hr _ hrr hrr') ?_; rintro v ρ' L' hle ⟨rfl, rfl, rfl⟩ <;> (try simp only [kM, kN, kO])) | (refine Zg ?_; first | (refine Zf ?_; refine qQ ?_) | refine Zj ?_) | refine Za ?_ | (refine Zh ?_; refine Zu ?_) | (refine Zi ?_; refine Zv ?_) | intro _)
   exact qE ⟨rfl, rfl, rfl⟩
 ·rw [decide_eq_false (fun e => h1 e.1)]
  repeat' (first | (refine Zg ?_; first | (refine Zf ?_; refine qQ ?_) | refine Zj ?_) | refine Za ?_ | (refine Zh ?_; refine Zu ?_) | (refine Zi ?_; refine Zv ?_) | intro _)
  exact qE ⟨rfl, rfl, rfl⟩
theorem WG {k : Nat} {l : List UInt8} {st : Int} (h : (YF k l st).2.2 = 0) : st = 0 ∧ k ≤ l.length ∧ YF k l st = (Yx (l.take k), l.drop k, 0) := by
 unfold YF at h ⊢
 by_cases hs : st ≠ 0
 ·rw [if_pos hs] at h; exact absurd h hs
 ·have h0 : st = 0 := by simpa using hs
  rw [if_neg hs] at h ⊢
  by_cases hl : l.length < k
  ·rw [if_pos hl] at h; simp at h
  ·rw [if_neg hl]; exact ⟨h0, by omega, rfl⟩
theorem rawR_zero {k : Nat} {l : List UInt8} {st : Int} (h : (rawR k l st).2.2 = 0) : st = 0 ∧ k ≤ l.length ∧ rawR k l st = (l.take k, l.drop k, 0) := by
 unfold rawR at h ⊢
 by_cases hs : st ≠ 0
 ·rw [if_pos hs] at h; exact absurd h hs
 ·have h0 : st = 0 := by simpa using hs
  rw [if_neg hs] at h ⊢
  by_cases hl : l.length < k
  ·rw [if_pos hl] at h; simp at h
  ·rw [if_neg hl]; exact ⟨h0, by omega, rfl⟩
theorem be_take {k : Nat} {l : List UInt8} (h : k ≤ l.length) : be k (Yx (l.take k)) = l.take k := by
 have := be_unbe (l.take k)
 rwa [List.length_take, Nat.min_eq_left h] at this
theorem be_one (x : Nat) : be 1 x = [UInt8.ofNat x] := by simp [be]
theorem tB_nat (x : Nat) : tB (x : Int) = UInt8.ofNat x := rfl
theorem vN_i64N {x : Nat} (h : x < 18446744073709551616) : vN (i64N x) = x := by
 have h1 : IntKind.u64.wrap (i64N x) = x := by
  unfold i64N
  simp only [IntKind.wrap, IntKind.bits, IntKind.signed, Bool.true_and, Bool.false_and, Bool.false_eq_true, if_false]
  split <;> simp_all <;> omega
 simp [vN, h1]
theorem i64N_vN {v : Int} (h : -9223372036854775808 ≤ v ∧ v ≤ 9223372036854775807) : i64N (vN v) = v := by
 unfold i64N
 rw [← vN_eq]
 simp only [IntKind.wrap, IntKind.bits, IntKind.signed, Bool.true_and, Bool.false_and, Bool.false_eq_true, if_false]
 split <;> simp_all <;> omega
theorem needB_false {bad : Bool} {st : Int} {is : Bool} (h : XP bad st is = false) (hs : st = 0) : bad = false ∧ is = true := by
 subst hs
 cases bad <;> cases is <;> simp_all [XP]
structure RowFit (r : Row) : Prop where
 id : r.id < 65536
 val : -9223372036854775808 ≤ r.val ∧ r.val ≤ 9223372036854775807
theorem i64N_fit (x : Nat) : -9223372036854775808 ≤ i64N x ∧ i64N x ≤ 9223372036854775807 := by
 unfold i64N
 simp only [IntKind.wrap, IntKind.bits, IntKind.signed, Bool.true_and]
 split <;> simp_all <;> omega
theorem rowR_ok {l l' : List UInt8} {st : Int} {bad : Bool} {r : Row} (h : WQ l st bad = (r, l', 0, false)) : st = 0 ∧ bad = false ∧ Wi r = true ∧ l = Yw r ++ l' ∧ RowFit r := by
 unfold WQ at h
 dsimp only at h
 split at h
 ·rename_i hok
  rw [Bool.and_eq_true, Bool.not_eq_true'] at hok
  obtain ⟨hb1, hs1⟩ := hok
  have hs1 := of_decide_eq_true hs1
  obtain ⟨rfl, hl1, e1⟩ := WG hs1
  obtain ⟨rfl, ht⟩ := needB_false hb1 hs1
  split at h
  ·rename_i hok2
   rw [Bool.and_eq_true, Bool.not_eq_true'] at hok2
   obtain ⟨hb2, hs4⟩ := hok2
   have hs4 := of_decide_eq_true hs4
   obtain ⟨hs3, hl4, e4⟩ := WG hs4
   obtain ⟨hs2, hl3, e3⟩ := WG hs3
   obtain ⟨hs1', hl2, e2⟩ := WG hs2
   obtain ⟨_, hn⟩ := needB_false hb2 hs4
   have ht := of_decide_eq_true ht
   have hn := of_decide_eq_true hn
   simp only [Prod.mk.injEq] at h
   obtain ⟨h1, h2, h3, h4⟩ := h
   obtain ⟨_, hl5, e5⟩ := rawR_zero h3
   subst h1; subst h2
   rw [e5]
   simp only [e4] at hl5 hn e5 ⊢
   simp only [e3] at hl4 hl5 hn e5 ⊢
   simp only [e2] at hl3 hl4 hl5 hn e5 ⊢
   simp only [e1] at hl2 hl3 hl4 hl5 hn ht e5 ⊢
   have b1 := be_take hl1
   have b2 := be_take hl2
   have b3 := be_take hl3
   have b4 := be_take hl4
   rw [be_one] at b1 b4
   have u2 := unbe_lt ((l.drop 1).take 2)
   have u3 := unbe_lt (((l.drop 1).drop 2).take 8)
   rw [List.length_take, Nat.min_eq_left hl2] at u2
   rw [List.length_take, Nat.min_eq_left hl3] at u3
   have hlen : (List.take (Yx (List.take 1 (List.drop 8 (List.drop 2 (List.drop 1 l))))) (List.drop 1 (List.drop 8 (List.drop 2 (List.drop 1 l))))).length = Yx (List.take 1 (List.drop 8 (List.drop 2 (List.drop 1 l)))) := by rw [List.length_take, Nat.min_eq_left hl5]
   refine ⟨by trivial, by trivial, ?_, ?_, ⟨by dsimp only; omega, i64N_fit _⟩⟩
   ·unfold Wi
    dsimp only
    rw [hlen]
    exact decide_eq_true ⟨⟨by omega, by omega⟩, by omega⟩
   ·unfold Yw keyB
    dsimp only
    rw [hlen, vN_i64N (by omega), b3, b2, tB_nat]
    have c1 : UInt8.ofNat (Yx (List.take 1 l)) :: (List.take 2 (List.drop 1 l)) = List.take 1 l ++ List.take 2 (List.drop 1 l) := by
     show [UInt8.ofNat (Yx (List.take 1 l))] ++ _ = _
     rw [b1]
    rw [c1]
    have c4 : ∀ X : List UInt8, UInt8.ofNat (Yx (List.take 1 (List.drop 8 (List.drop 2 (List.drop 1 l))))) :: X = List.take 1 (List.drop 8 (List.drop 2 (List.drop 1 l))) ++ X := fun X => by
     show [UInt8.ofNat (Yx (List.take 1 (List.drop 8 (List.drop 2 (List.drop 1 l)))))] ++ X = _
     rw [b4]
    rw [c4]
    simp only [List.append_assoc, List.take_append_drop]
  ·rename_i hok2
   simp only [Prod.mk.injEq] at h
   obtain ⟨_, _, h3, h4⟩ := h
   exact absurd (by rw [h4, h3]; rfl) hok2
 ·rename_i hok
  simp only [Prod.mk.injEq] at h
  obtain ⟨_, _, h3, h4⟩ := h
  exact absurd (by rw [h4, h3]; rfl) hok
structure KidFit (k : Kid) : Prop where
 id : k.id < 65536
 t : 0 ≤ k.t ∧ k.t < 256
 page : 0 ≤ k.page ∧ k.page < 256
theorem kidRB_ok {l l' : List UInt8} {st : Int} {bad : Bool} {r : Kid} (h : Wd l st bad = (r, l', 0, false)) : st = 0 ∧ bad = false ∧ l = XO r ++ l' ∧ KidFit r := by
 unfold Wd kidR at h
 dsimp only at h
 simp only [Prod.mk.injEq] at h
 obtain ⟨h1, h2, h3, h4⟩ := h
 obtain ⟨hs2, hl3, e3⟩ := WG h3
 obtain ⟨hs1, hl2, e2⟩ := WG hs2
 obtain ⟨rfl, hl1, e1⟩ := WG hs1
 subst h1; subst h2
 simp only [e3]
 simp only [e2] at hl3 ⊢
 simp only [e1] at hl2 hl3 ⊢
 have b1 := be_take hl1
 have b2 := be_take hl2
 have b3 := be_take hl3
 rw [be_one] at b1 b3
 have u1 := unbe_lt (l.take 1)
 have u2 := unbe_lt ((l.drop 1).take 2)
 have u3 := unbe_lt (((l.drop 1).drop 2).take 1)
 rw [List.length_take, Nat.min_eq_left hl1] at u1
 rw [List.length_take, Nat.min_eq_left hl2] at u2
 rw [List.length_take, Nat.min_eq_left hl3] at u3
 refine ⟨by trivial, h4, ?_, ⟨by dsimp only; omega, by dsimp only; omega, by dsimp only; omega⟩⟩
 unfold XO keyB
 dsimp only
 rw [b2, tB_nat, tB_nat]
 have c1 : ∀ X : List UInt8, UInt8.ofNat (Yx (List.take 1 l)) :: X = List.take 1 l ++ X := fun X => by
  show [UInt8.ofNat (Yx (List.take 1 l))] ++ X = _
  rw [b1]
 rw [c1, b3]
 simp only [List.append_assoc, List.take_append_drop]
theorem manyTo_ok {α : Type} {f : List UInt8 → Int → Bool → α × RS3} {enc : α → List UInt8} {fit : α → Prop} (hf : ∀ {l l' : List UInt8} {st : Int} {bad : Bool} {x : α}, f l st bad = (x, l', 0, false) → st = 0 ∧ bad = false ∧ l = enc x ++ l' ∧ fit x) :
  ∀ {n : Nat} {l l' : List UInt8} {st : Int} {bad : Bool} {xs : List α}, XR f n l st bad = (xs, l', 0, false) → st = 0 ∧ bad = false ∧ xs.length = n ∧ l = xs.flatMap enc ++ l' ∧ ∀ x ∈ xs, fit x
 | 0, l, l', st, bad, xs, h => by
  rw [XR] at h
  simp only [Prod.mk.injEq] at h
  obtain ⟨rfl, rfl, rfl, rfl⟩ := h
  exact ⟨rfl, rfl, rfl, by simp, by simp⟩
 | n + 1, l, l', st, bad, xs, h => by
  rw [XR] at h
  split at h
  ·simp only [Prod.mk.injEq] at h
   obtain ⟨h1, h2⟩ := h
   have key : XR f n (f l st bad).2.1 (f l st bad).2.2.1 (f l st bad).2.2.2 = ((XR f n (f l st bad).2.1 (f l st bad).2.2.1 (f l st bad).2.2.2).1, l', 0, false) := by rw [← h2]
   obtain ⟨g1, g2, g3, g4, g5⟩ := manyTo_ok hf key
   obtain ⟨k1, k2, k3, k4⟩ := hf (show f l st bad = ((f l st bad).1, (f l st bad).2.1, 0, false) by rw [← g1, ← g2])
   subst h1
   refine ⟨k1, k2, by simp [g3], ?_, ?_⟩
   ·rw [List.flatMap_cons, List.append_assoc, ← g4]; exact k3
   ·intro x hx
    rcases List.mem_cons.1 hx with rfl | hx
    ·exact k4
    ·exact g5 x hx
  ·rename_i hok
   simp only [Prod.mk.injEq] at h
   obtain ⟨_, _, h3, h4⟩ := h
   exact absurd (by rw [h4, h3]; rfl) hok
theorem manyR_ok {α : Type} {f : List UInt8 → Int → Bool → α × RS3} {enc : α → List UInt8} {fit : α → Prop} (hf : ∀ {l l' : List UInt8} {st : Int} {bad : Bool} {x : α}, f l st bad = (x, l', 0, false) → st = 0 ∧ bad = false ∧ l = enc x ++ l' ∧ fit x)
  {l l' : List UInt8} {st : Int} {bad : Bool} {xs : List α} (h : Xq f l st bad = (xs, l', 0, false)) : st = 0 ∧ bad = false ∧ l = UInt8.ofNat xs.length :: xs.flatMap enc ++ l' ∧ ∀ x ∈ xs, fit x := by
 unfold Xq at h
 obtain ⟨g1, g2, g3, g4, g5⟩ := manyTo_ok hf h
 obtain ⟨rfl, hl, e⟩ := WG g1
 obtain ⟨k1, _⟩ := needB_false g2 g1
 rw [e] at g3 g4
 dsimp only at g3 g4
 refine ⟨rfl, k1, ?_, g5⟩
 have b1 := be_take hl
 rw [be_one, ← g3] at b1
 rw [show UInt8.ofNat xs.length :: xs.flatMap enc ++ l' = [UInt8.ofNat xs.length] ++ (xs.flatMap enc ++ l') from rfl, b1, ← g4, List.take_append_drop]
structure ContFit (c : Yb) : Prop where
 row : ∀ r ∈ c.rows, RowFit r
 kid : ∀ k ∈ c.kids, KidFit k
theorem contentR_ok {l l' : List UInt8} {c : Yb} (h : Xa l = (c, l', 0, false)) : ZT c = true ∧ l = YK c ++ l' ∧ ContFit c := by
 unfold Xa contE at h
 simp only [Prod.mk.injEq] at h
 obtain ⟨h1, h2, h3, h4⟩ := h
 generalize hm : Vo (YF 1 l 0).1 (YF 1 l 0).2.1 (YF 1 l 0).2.2 (XP false (YF 1 l 0).2.2 (decide (((YF 1 l 0).1 : Int) ≤ 2))) = m at *
 obtain ⟨⟨rows, kids⟩, l2, st2, b2⟩ := m
 dsimp only at h1 h2 h3 h4
 subst h2; subst h3; subst h1
 obtain ⟨rfl, hok⟩ := needB_false h4 rfl
 refine ⟨hok, ?_⟩
 unfold Vo at hm
 have hF := Vp hok
 have hkind := hF.kind
 dsimp only at hkind
 split at hm
 ·rename_i hokk
  rw [Bool.and_eq_true, Bool.not_eq_true'] at hokk
  obtain ⟨_, hs1⟩ := hokk
  have hs1 := of_decide_eq_true hs1
  obtain ⟨_, hl1, e1⟩ := WG hs1
  have b1 := be_take hl1
  rw [be_one] at b1
  rw [e1] at hm hkind hok ⊢
  dsimp only at hm hkind hok ⊢
  generalize hx : Yx (List.take 1 l) = x at *
  have hl : l = UInt8.ofNat x :: l.drop 1 := by
   have : l = l.take 1 ++ l.drop 1 := (List.take_append_drop 1 l).symm
   rw [← b1] at this
   exact this
  split at hm
  ·rename_i hx1
   simp only [Prod.mk.injEq] at hm
   obtain ⟨⟨h1, h2⟩, h3⟩ := hm
   subst h2
   have key : Xq WQ (l.drop 1) 0 (XP false 0 (decide ((x : Int) ≤ 2))) = (rows, l2, 0, false) := by rw [← h1, ← h3]
   obtain ⟨_, _, g3, g4⟩ := manyR_ok (enc := Yw) (fit := RowFit) (fun h => ⟨(rowR_ok h).1, (rowR_ok h).2.1, (rowR_ok h).2.2.2.1, (rowR_ok h).2.2.2.2⟩) key
   refine ⟨?_, ⟨g4, by simp⟩⟩
   have hc : YK ⟨x, rows, []⟩ = UInt8.ofNat x :: (UInt8.ofNat rows.length :: rows.flatMap Yw) := by
    unfold YK cntB
    rw [if_neg (by dsimp only; omega), tB_nat]; simp
   rw [hc, hl, g3]; rfl
  ·split at hm
   ·rename_i hx1 hx2
    simp only [Prod.mk.injEq] at hm
    obtain ⟨⟨h1, h2⟩, h3⟩ := hm
    subst h1
    have key : Xq Wd (l.drop 1) 0 (XP false 0 (decide ((x : Int) ≤ 2))) = (kids, l2, 0, false) := by rw [← h2, ← h3]
    obtain ⟨_, _, g3, g4⟩ := manyR_ok (enc := XO) (fit := KidFit) (fun h => kidRB_ok h) key
    refine ⟨?_, ⟨by simp, g4⟩⟩
    have hc : YK ⟨x, [], kids⟩ = UInt8.ofNat x :: (UInt8.ofNat kids.length :: kids.flatMap XO) := by
     unfold YK cntB
     rw [if_neg (by dsimp only; omega), tB_nat]; simp
    rw [hc, hl, g3]; rfl
   ·rename_i hx1 hx2
    simp only [Prod.mk.injEq] at hm
    obtain ⟨⟨h1, h2⟩, h3, _⟩ := hm
    subst h1; subst h2; subst h3
    have hx0 : (x : Int) = 0 := by
     rcases hkind with h | h | h
     ·exact h.1
     ·exact absurd (by omega) hx1
     ·exact absurd (by omega) hx2
    refine ⟨?_, ⟨by simp, by simp⟩⟩
    have hc : YK ⟨x, [], []⟩ = [UInt8.ofNat x] := by
     unfold YK cntB
     rw [if_pos hx0, tB_nat]; simp
    rw [hc]; exact hl
 ·rename_i hokk
  simp only [Prod.mk.injEq] at hm
  obtain ⟨⟨h1, h2⟩, h3, h4, h5⟩ := hm
  exact absurd (by rw [h5, h4]; rfl) hokk
theorem takenE_zero {bad : Bool} {st : Int} (h : takenE bad st = 0) : bad = false ∧ st = 0 := by
 cases bad
 ·exact ⟨rfl, h⟩
 ·simp [takenE] at h
theorem takeCont_ok {l : List UInt8} (h : (Yj l).2.2 = 0) : ∃ n : Nat, (Yj l).2.1 = n ∧ n ≤ l.length ∧ ZT (Yj l).1 = true ∧ YK (Yj l).1 = l.take n ∧ ContFit (Yj l).1 := by
 unfold Yj at h ⊢
 dsimp only at h ⊢
 obtain ⟨hb, hs⟩ := takenE_zero h
 generalize hr : Xa l = r at *
 obtain ⟨x, l', st, bad⟩ := r
 dsimp only at hb hs
 subst hb; subst hs
 obtain ⟨g1, g2, g3⟩ := contentR_ok hr
 have hl := congrArg List.length g2
 simp only [List.length_append] at hl
 refine ⟨(YK x).length, ?_, by omega, ?_⟩
 ·simp [takenN]; omega
 ·simp only [Bool.false_or, ne_eq, not_true_eq_false, decide_false, Bool.false_eq_true, if_false]
  exact ⟨g1, by rw [g2]; simp, g3⟩
theorem Vg {c : Yb} (h : ZT c = true) : (YK c).length ≤ 82 := by
 have hF := Vp h
 have h1 := YN Yw 20 c.rows (fun x hx => rowB_le (hF.row x hx))
 have h2 := YN XO 4 c.kids (fun x hx => Nat.le_of_eq (kidB_len x))
 have h3 : (cntB c).length ≤ 1 := by unfold cntB; split <;> simp
 have hk := hF.kind
 have hrl := hF.rl
 have hkl := hF.kl
 simp only [YK, List.length_cons, List.length_append]
 have er : c.rows = [] → (c.rows.flatMap Yw).length = 0 := fun e => by rw [e]; rfl
 have ek : c.kids = [] → (c.kids.flatMap XO).length = 0 := fun e => by rw [e]; rfl
 rcases hk with ⟨_, hr, hk⟩ | ⟨_, hk⟩ | ⟨_, hr, _⟩
 ·have := er hr; have := ek hk; omega
 ·have := ek hk; omega
 ·have := er hr; omega
structure CI (ρ : Hp) (v : CV) (c : Yb) : Prop where
 cin : CIn ρ v c.rows c.kids
 row : ∀ r ∈ c.rows, RowFit r
 kid : ∀ k ∈ c.kids, k.id < 65536
theorem CI.mono {ρ ρ' v c} (h : CI ρ v c) (hle : ρ.le ρ') : CI ρ' v c := ⟨h.cin.mono hle, h.row, h.kid⟩
theorem CI.nil {ρ : Hp} : CI ρ ⟨none, 0, 0, none, 0, 0⟩ ⟨0, [], []⟩ := ⟨CIn.nil, by simp, by simp⟩
structure Im where
 page : Int
 bv : CV
 b : Yb
 av : CV
 a : Yb
abbrev imV (x : Im) : List Value := [.int .i64 x.page, .int .i64 x.b.kind, .slice x.bv.ra x.bv.rn x.bv.rc, .slice x.bv.ka x.bv.kn x.bv.kc, .int .i64 x.a.kind, .slice x.av.ra x.av.rn x.av.rc, .slice x.av.ka x.av.kn x.av.kc]
structure Im.In (ρ : Hp) (x : Im) : Prop where
 b : CI ρ x.bv x.b
 a : CI ρ x.av x.a
theorem Im.In.mono {ρ ρ' x} (h : Im.In ρ x) (hle : ρ.le ρ') : Im.In ρ' x := ⟨h.b.mono hle, h.a.mono hle⟩
abbrev Im.says (x : Im) : Int × Yb × Yb := (x.page, x.b, x.a)
structure Stp where
 kind : Int
 row : Row
 by' : Int
deriving DecidableEq
abbrev stpV (s : Stp) : List Value := [.int .i64 s.kind, .int .i64 s.row.t, .int .u16 s.row.id, .int .i64 s.row.val, strV s.row.note, .int .i64 s.by']
structure CkT where
 txn : Int
 first : Nat
 last : Nat
 undo : Nat
 state : Int
deriving DecidableEq
abbrev ckTV (t : CkT) : List Value := [.int .i64 t.txn, .int .u64 t.first, .int .u64 t.last, .int .u64 t.undo, .int .i64 t.state]
structure CkP where
 page : Int
 since : Nat
deriving DecidableEq
abbrev ckPV (p : CkP) : List Value := [.int .i64 p.page, .int .u64 p.since]
structure Rc where
 kind : Int
 lsn : Nat
 txn : Int
 prev : Nat
 next : Nat
 ims : List Im
 steps : List Stp
 nextTxn : Int
 txns : List CkT
 dirty : List CkP
structure SV where
 a : Option Addr
 n : Nat
 c : Nat
abbrev SV.v (s : SV) : Value := .slice s.a s.n s.c
structure RV where
 i : SV
 s : SV
 t : SV
 d : SV
abbrev Vb (v : RV) (r : Rc) : List Value := [.int .i64 r.kind, .int .u64 r.lsn, .int .i64 r.txn, .int .u64 r.prev, .int .u64 r.next, .slice v.i.a v.i.n v.i.c, .slice v.s.a v.s.n v.s.c, .int .i64 r.nextTxn, .slice v.t.a v.t.n v.t.c, .slice v.d.a v.d.n v.d.c]
structure AS (ρ : Hp) (sz : Nat) {α : Type} (g : α → List Value) (s : SV) (l : List α) : Prop where
 at' : AIn ρ sz g s.a s.n l
 big : s.n ≤ 1000000
 cap : s.n ≤ s.c
theorem AS.mono {ρ ρ' : Hp} {sz : Nat} {α : Type} {g : α → List Value} {s : SV} {l : List α} (h : AS ρ sz g s l) (hle : ρ.le ρ') : AS ρ' sz g s l := ⟨h.at'.mono hle, h.big, h.cap⟩
theorem AS.nil {ρ : Hp} {sz : Nat} {α : Type} {g : α → List Value} : AS ρ sz g ⟨none, 0, 0⟩ [] := ⟨AIn.nil, Nat.zero_le _, Nat.le_refl _⟩
structure RcIn (ρ : Hp) (v : RV) (r : Rc) : Prop where
 i : AS ρ 7 imV v.i r.ims
 im : ∀ x ∈ r.ims, Im.In ρ x
 s : AS ρ 6 stpV v.s r.steps
 t : AS ρ 5 ckTV v.t r.txns
 d : AS ρ 2 ckPV v.d r.dirty
 sf : ∀ s ∈ r.steps, RowFit s.row
theorem RcIn.mono {ρ ρ' v r} (h : RcIn ρ v r) (hle : ρ.le ρ') : RcIn ρ' v r := ⟨h.i.mono hle, fun x hx => (h.im x hx).mono hle, h.s.mono hle, h.t.mono hle, h.d.mono hle, h.sf⟩
def upB {α : Type} (right : α → Bool) (by' : α → Int) (l : List α) (k : Nat) : Bool := Yp l.length (fun _ x => right x) (fun y x => decide (by' y < by' x)) l k
def pageOk (n : Int) : Bool := decide (0 ≤ n ∧ n < 64)
def imOk (before : Bool) (x : Im) : Bool := pageOk x.page && (ZT x.a && (ZT x.b && (before || decide (x.b.kind = 0))))
def imsOk (before : Bool) (l : List Im) : Bool := decide (l.length ≤ 16) && upB (imOk before) Im.page l l.length
def onlyOk (s : Stp) : Bool := decide (s.row.val = 0 ∧ s.row.note = []) && decide (0 ≤ s.row.t ∧ s.row.t < 3)
def XS (s : Stp) : Bool :=
 if s.kind = 1 then onlyOk s
 else if s.kind = 4 then onlyOk s && decide (s.by' = 0)
 else if s.kind = 2 ∨ s.kind = 3 then decide (s.by' = 0) && Wi s.row
 else false
def ckTOk (lsn : Nat) (next : Int) (t : CkT) : Bool := decide (1 ≤ t.txn ∧ t.txn < next ∧ 1 ≤ t.first ∧ t.first ≤ t.last ∧ t.last < lsn ∧ t.undo ≤ t.last ∧ 1 ≤ t.state ∧ t.state ≤ 3)
def ckPOk (lsn : Nat) (p : CkP) : Bool := pageOk p.page && decide (1 ≤ p.since ∧ p.since < lsn)
def headOk (r : Rc) : Bool := decide (1 ≤ r.lsn ∧ r.lsn ≤ 1099511627776 ∧ r.prev < r.lsn ∧ 0 ≤ r.txn ∧ r.txn ≤ 1073741824 ∧ (r.kind = 9 ↔ r.txn = 0) ∧ ((r.kind = 9 ∨ r.kind = 1) ↔ r.prev = 0))
def askOk (r : Rc) : Bool :=
 if r.kind = 2 then decide (0 < r.ims.length) && imsOk true r.ims
 else if r.kind = 3 then decide (r.next < r.prev)
 else if r.kind = 4 then decide (r.next < r.prev) && (decide (0 < r.steps.length ∧ r.steps.length ≤ 2) && r.steps.all XS)
 else if r.kind = 5 then decide (r.next < r.lsn) && imsOk false r.ims
 else if r.kind = 9 then decide (1 ≤ r.nextTxn ∧ r.nextTxn ≤ 1073741824 ∧ r.txns.length ≤ 8) && (upB (ckTOk r.lsn r.nextTxn) CkT.txn r.txns r.txns.length && upB (ckPOk r.lsn) CkP.page r.dirty r.dirty.length)
 else true
def bareOk (r : Rc) : Bool := decide (
 (r.next = 0 ∨ r.kind = 3 ∨ r.kind = 4 ∨ r.kind = 5) ∧ (r.ims = [] ∨ r.kind = 2 ∨ r.kind = 5) ∧ (r.steps = [] ∨ r.kind = 4) ∧
 ((r.txns = [] ∧ r.dirty = [] ∧ r.nextTxn = 0) ∨ r.kind = 9))
def Wo (r : Rc) : Bool := decide (1 ≤ r.kind ∧ r.kind ≤ 9) && (headOk r && (askOk r && bareOk r))
def imB (two : Bool) (x : Im) : List UInt8 := tB x.page :: ((if two then YK x.b else []) ++ YK x.a)
def stpB (s : Stp) : List UInt8 := tB s.kind :: (if s.kind = 2 ∨ s.kind = 3 then Yw s.row else tB s.row.t :: (be 2 s.row.id ++ (if s.kind = 1 then be 8 (vN s.by') else [])))
def ckTB (t : CkT) : List UInt8 := be 4 t.txn.toNat ++ (be 8 t.first ++ (be 8 t.last ++ (be 8 t.undo ++ [tB t.state])))
def ckPB (p : CkP) : List UInt8 := tB p.page :: be 8 p.since
def Wy {α : Type} (f : α → List UInt8) (l : List α) : List UInt8 := UInt8.ofNat l.length :: l.flatMap f
def recHB (r : Rc) : List UInt8 := tB r.kind :: (be 8 r.lsn ++ (be 4 r.txn.toNat ++ be 8 r.prev))
def imsB (r : Rc) : List UInt8 := Wy (imB (decide (r.kind = 2))) r.ims
def recTB (r : Rc) : List UInt8 :=
 if r.kind = 2 then imsB r else if r.kind = 3 then be 8 r.next else if r.kind = 4 then be 8 r.next ++ Wy stpB r.steps else if r.kind = 5 then be 8 r.next ++ imsB r
 else if r.kind = 9 then be 4 r.nextTxn.toNat ++ (Wy ckTB r.txns ++ Wy ckPB r.dirty) else []
def WN (r : Rc) : List UInt8 := recHB r ++ recTB r
structure LayOk (r : Rc) : Prop where
 kind : 0 ≤ r.kind ∧ r.kind < 256
 lsn : r.lsn < 18446744073709551616
 prev : r.prev < 18446744073709551616
 next : r.next < 18446744073709551616
 txn : 0 ≤ r.txn ∧ r.txn < 4294967296
 nextTxn : 0 ≤ r.nextTxn ∧ r.nextTxn < 4294967296
 il : r.ims.length ≤ 16
 im : ∀ x ∈ r.ims, (0 ≤ x.page ∧ x.page < 64) ∧ ZT x.a = true ∧ ZT x.b = true
 sl : r.steps.length ≤ 2
 st : ∀ s ∈ r.steps, XS s = true
 tl : r.txns.length ≤ 8
 tx : ∀ t ∈ r.txns, (0 ≤ t.txn ∧ t.txn < 4294967296) ∧ t.first < 18446744073709551616 ∧ t.last < 18446744073709551616 ∧ t.undo < 18446744073709551616 ∧ 0 ≤ t.state ∧ t.state < 256
 dl : r.dirty.length ≤ 64
 di : ∀ p ∈ r.dirty, (0 ≤ p.page ∧ p.page < 64) ∧ p.since < 18446744073709551616
abbrev wrC (wb : Nat) (v : RV) (r : Rc) (w : Value) : List (Nat × Obj) := [(wb, .cells ⟨[.int .i64 r.kind, .int .u64 r.lsn, .int .i64 r.txn, .int .u64 r.prev, .int .u64 r.next, .slice v.i.a v.i.n v.i.c, .slice v.s.a v.s.n v.s.c, .int .i64 r.nextTxn, .slice v.t.a v.t.n v.t.c, .slice v.d.a v.d.n v.d.c, w]⟩ 263 (0, 0))]
abbrev OwnB (w : Value) (l : List UInt8) (sp : List Value) : Prop := OwnS w l.length (l.map ZD) sp 1
abbrev Wn (w : Value) (l : List UInt8) (sp : List Value) : List (Nat × Obj) := Ym w (l.map ZD) sp 5
abbrev WrP (ρ : Hp) (wb : Nat) (v : RV) (r : Rc) (l : List UInt8) (z : Value) (ρ' : Hp) (L' : List (List (Nat × Obj))) : Prop :=
 z = .tuple ⟨[]⟩ ∧ ρ.le ρ' ∧ ∃ w' sp', OwnB w' l sp' ∧ L' = [Wn w' l sp', wrC wb v r w']
theorem put32_spec (ρ : Hp) (a : Option Addr) (n c : Nat) (l : List UInt8) (h : SIn ρ ZD a n l) (x : Nat) (hx : x < 4294967296) (hn : n ≤ 1000000) :
  Spec Tryz.prog 179 [.slice a n c, .int .u32 x] ρ [] (fun v ρ' L' => ρ' = ρ ∧ ∃ sp, OwnS v (n + 4) ((l ++ be 4 x).map ZD) sp 1 ∧ L' = [Ym v ((l ++ be 4 x).map ZD) sp 5]) := by
 have hw : IntKind.u64.wrap (x : Int) = x := WJ (by simp only [lo, hi]; omega)
 have hs := stand_spec ρ a n c l h x 4 (by omega) (by omega) (by omega) hn
 refine Ze Tryz.func179 rfl rfl rfl fun u R => ?_
 simp only [Zt, List.cons_append, List.nil_append]
 repeat' (first | (refine iCv ?_; refine ZL (y_conv rfl) rfl rfl ?_; rw [hw]) | (refine Zc (.func 232) ?_; refine qC rfl rfl (hs) ?_; rintro v ρ' L' hle ⟨rfl, sp, hown, rfl⟩ <;> (try simp only [kM, kN, kO])) | (refine Zg ?_; first | (refine Zf ?_; refine qQ ?_) | refine Zj ?_) | refine Za ?_ | (refine Zh ?_; refine Zu ?_) | (refine Zi ?_; refine Zv ?_) | intro _)
 exact qE ⟨rfl, sp, hown, rfl⟩
theorem flatMap_app {α : Type} (f : α → List UInt8) (l : List α) : ∀ k (h : k < l.length), (l.take (k + 1)).flatMap f = (l.take k).flatMap f ++ f (l[k]'h) := fun k h => XX f l k h
theorem wbytes_spec (ρ : Hp) (wb : Nat) (v : RV) (r : Rc) (w : Value) (l : List UInt8) (sp : List Value) (hown : OwnB w l sp) (hn : l.length ≤ 100000) (a : Option Addr) (m c : Nat) (ns : List Int) (h : SIn ρ (fun x : Int => Value.int .i64 x) a m ns) (hb : ∀ x ∈ ns, 0 ≤ x ∧ x < 256) (hm : m ≤ 10) :
  Spec Tryz.prog 165 [.pointer (some ⟨wb, 0, none⟩), .slice a m c] ρ [Wn w l sp, wrC wb v r w] (WrP ρ wb v r (l ++ ns.map tB)) := by
 have hl := h.len
 refine Ze Tryz.func165 rfl rfl rfl fun u R => ?_
 simp only [Zt, List.cons_append, List.nil_append]
 repeat' (first | (refine Zg ?_; first | (refine Zf ?_; refine qQ ?_) | refine Zj ?_) | refine Za ?_ | (refine Zh ?_; refine Zu ?_) | (refine Zi ?_; refine Zv ?_) | intro _)
 rw [show Wn w l sp = Wn w (l ++ (ns.take 0).map tB) sp by simp]
 refine ZH [(0, _), (6, _), (7, _)] (fun (ζ : (Nat) × (Value) × (List Value)) => [(8, .int .i64 ζ.1)]) (fun (ζ : (Nat) × (Value) × (List Value)) => ρ) (fun (ζ : (Nat) × (Value) × (List Value)) => [Wn ζ.2.1 (l ++ (ns.take ζ.1).map tB) ζ.2.2, wrC wb v r ζ.2.1]) (fun (ζ : (Nat) × (Value) × (List Value)) => ζ.1 ≤ m ∧ OwnB ζ.2.1 (l ++ (ns.take ζ.1).map tB) ζ.2.2) (fun (ζ : (Nat) × (Value) × (List Value)) => m - ζ.1) ((0, w, sp)) (⟨Nat.zero_le _, by simpa using hown⟩) Zo Zo rfl tk ?_
 rintro ⟨k, w1, sp1⟩ hI
 try simp only [List.cons_append, List.nil_append, List.append_assoc, List.append_eq] at hI ⊢
 try dsimp only at hI ⊢
 obtain ⟨hk, hown1⟩ := hI
 by_cases hlt : k < m
 ·obtain ⟨b, off, C, T, fr, e1, hbb, hcc⟩ := h.get (show k < ns.length by omega)
  have hts := List.take_succ_eq_append_getElem (show k < ns.length by omega)
  have hx := hb _ (List.getElem_mem (show k < ns.length by omega))
  generalize ns[k]'(by omega) = x at *
  have hxl : (l ++ (ns.take k).map tB).length ≤ 100010 := by simp; omega
  have hmm : (l ++ (ns.take k).map tB).map ZD ++ [ZD (tB x)] = (l ++ (ns.take (k + 1)).map tB).map ZD := by rw [hts]; simp
  have hll : (l ++ (ns.take k).map tB).length + 1 = (l ++ (ns.take (k + 1)).map tB).length := by rw [hts]; simp; omega
  have hxB := tB_eq hx.1 hx.2
  generalize hX : l ++ (ns.take k).map tB = X at *
  obtain ⟨va, vc, rfl, _⟩ := hown1.slice
  rw [e1]
  repeat' (first | (refine ZC rfl rfl rfl rfl (by simp) rfl rfl (fun _ => ?_); simp only [hxB]) | (refine YQ (ys := [ZD (tB x)]) (m := 1) rfl rfl hown1 (hR := by infer_instance) SrcV.lit rfl rfl (by decide) rfl (by omega) (by omega) rfl (fun v' sp' hown' => ?_); rw [hmm] at hown' ⊢; rw [hll] at hown'; obtain ⟨va', vc', rfl, _⟩ := hown'.slice) | (refine Zg ?_; first | (refine Zf ?_; refine qQ ?_) | refine Zj ?_) | refine Za ?_ | (refine Zh ?_; refine Zu ?_) | (refine Zi ?_; refine Zv ?_) | intro _)
  rw [← e1]
  refine Zx (k + 1, _, sp') (⟨hlt, hown'⟩) Zo Zo rfl tk inferInstance (by first | omega | (dsimp only; omega))
 ·have hk2 : k = m := by omega
  rw [show ns.take k = ns by rw [hk2, ← hl, List.take_length]] at hown1 ⊢
  repeat' (first | (refine Zg ?_; first | (refine Zf ?_; refine qQ ?_) | refine Zj ?_) | refine Za ?_ | (refine Zh ?_; refine Zu ?_) | (refine Zi ?_; refine Zv ?_) | intro _)
  exact qE ⟨rfl, Hp.le_refl _, w1, sp1, hown1, rfl⟩
theorem wlongs_spec (ρ : Hp) (wb : Nat) (v : RV) (r : Rc) (w : Value) (l : List UInt8) (sp : List Value) (hown : OwnB w l sp) (hn : l.length ≤ 100000) (a : Option Addr) (m c : Nat) (ns : List Nat) (h : SIn ρ (fun x : Nat => Value.int .u64 (x : Int)) a m ns) (hb : ∀ x ∈ ns, x < 18446744073709551616) (hm : m ≤ 10) :
  Spec Tryz.prog 166 [.pointer (some ⟨wb, 0, none⟩), .slice a m c] ρ [Wn w l sp, wrC wb v r w] (WrP ρ wb v r (l ++ ns.flatMap (be 8))) := by
 have hl := h.len
 refine Ze Tryz.func166 rfl rfl rfl fun u R => ?_
 simp only [Zt, List.cons_append, List.nil_append]
 repeat' (first | (refine Zg ?_; first | (refine Zf ?_; refine qQ ?_) | refine Zj ?_) | refine Za ?_ | (refine Zh ?_; refine Zu ?_) | (refine Zi ?_; refine Zv ?_) | intro _)
 rw [show Wn w l sp = Wn w (l ++ (ns.take 0).flatMap (be 8)) sp by simp]
 refine ZH [(0, _), (6, _), (7, _)] (fun (ζ : (Nat) × (Hp) × (Value) × (List Value)) => [(8, .int .i64 ζ.1)]) (fun (ζ : (Nat) × (Hp) × (Value) × (List Value)) => ζ.2.1) (fun (ζ : (Nat) × (Hp) × (Value) × (List Value)) => [Wn ζ.2.2.1 (l ++ (ns.take ζ.1).flatMap (be 8)) ζ.2.2.2, wrC wb v r ζ.2.2.1]) (fun (ζ : (Nat) × (Hp) × (Value) × (List Value)) => ζ.1 ≤ m ∧ ρ.le ζ.2.1 ∧ OwnB ζ.2.2.1 (l ++ (ns.take ζ.1).flatMap (be 8)) ζ.2.2.2) (fun (ζ : (Nat) × (Hp) × (Value) × (List Value)) => m - ζ.1) ((0, ρ, w, sp)) (⟨Nat.zero_le _, Hp.le_refl _, by simpa using hown⟩) Zo Zo rfl tk ?_
 rintro ⟨k, ρ1, w1, sp1⟩ hI
 try simp only [List.cons_append, List.nil_append, List.append_assoc, List.append_eq] at hI ⊢
 try dsimp only at hI ⊢
 obtain ⟨hk, hle1, hown1⟩ := hI
 by_cases hlt : k < m
 ·obtain ⟨b, off, C, T, fr, e1, hbb, hcc⟩ := (h.mono hle1).get (show k < ns.length by omega)
  have hts := flatMap_app (be 8) ns k (by omega)
  have hx := hb _ (List.getElem_mem (show k < ns.length by omega))
  have hfl := YN (be 8) 8 (ns.take k) (fun x _ => Nat.le_of_eq (Zw 8 x))
  have htl : (ns.take k).length ≤ 10 := by simp; omega
  generalize ns[k]'(by omega) = x at *
  have hxl : (l ++ (ns.take k).flatMap (be 8)).length ≤ 100080 := by simp only [List.length_append]; omega
  have hmm : l ++ (ns.take k).flatMap (be 8) ++ be 8 x = l ++ (ns.take (k + 1)).flatMap (be 8) := by rw [hts]; simp
  have hll : (l ++ (ns.take k).flatMap (be 8)).length + 8 = (l ++ (ns.take (k + 1)).flatMap (be 8)).length := by rw [hts]; simp [Zw]; omega
  generalize hX : l ++ (ns.take k).flatMap (be 8) = X at *
  obtain ⟨va, vc, rfl, _⟩ := hown1.slice
  rw [e1]
  repeat' (first | (refine Zc (.func 178) ?_; refine ZM (Ym (.slice va X.length vc) (X.map ZD) sp1 5) (h := by repeat (first | exact Ya | apply Yn)) (fun ρ2 hle2 hfz => ?_); obtain ⟨a1, c1, f1, hc1, hs1⟩ := hown1.sIn hfz; cases f1; refine qC rfl rfl (put64_spec _ va _ vc _ hs1 x hx (by omega)) ?_; rintro v' ρ3 L3 hle3 ⟨rfl, sp3, hown3, rfl⟩; simp only [List.cons_append, List.nil_append]; rw [hmm, hll] at hown3; rw [hmm]; obtain ⟨va', vc', rfl, _⟩ := hown3.slice) | (refine Zg ?_; first | (refine Zf ?_; refine qQ ?_) | refine Zj ?_) | refine Za ?_ | (refine Zh ?_; refine Zu ?_) | (refine Zi ?_; refine Zv ?_) | intro _)
  rw [← e1]
  refine Zx (k + 1, ρ3, _, sp3) (⟨hlt, Hp.le_trans hle1 hle2, hown3⟩) Zo Zo rfl tk inferInstance (by first | omega | (dsimp only; omega))
 ·have hk2 : k = m := by omega
  rw [show ns.take k = ns by rw [hk2, ← hl, List.take_length]] at hown1 ⊢
  repeat' (first | (refine Zg ?_; first | (refine Zf ?_; refine qQ ?_) | refine Zj ?_) | refine Za ?_ | (refine Zh ?_; refine Zu ?_) | (refine Zi ?_; refine Zv ?_) | intro _)
  exact qE ⟨rfl, hle1, w1, sp1, hown1, rfl⟩
theorem wtxn_spec (ρ : Hp) (wb : Nat) (v : RV) (r : Rc) (w : Value) (l : List UInt8) (sp : List Value) (hown : OwnB w l sp) (hn : l.length ≤ 100000) (x : Int) (h0 : 0 ≤ x ∧ x < 4294967296) :
  Spec Tryz.prog 167 [.pointer (some ⟨wb, 0, none⟩), .int .i64 x] ρ [Wn w l sp, wrC wb v r w] (WrP ρ wb v r (l ++ be 4 x.toNat)) := by
 have hll : l.length + 4 = (l ++ be 4 x.toNat).length := by simp [Zw]
 obtain ⟨va, vc, rfl, _⟩ := hown.slice
 obtain ⟨y, rfl⟩ : ∃ y : Nat, x = y := ⟨x.toNat, by omega⟩
 simp only [Int.toNat_natCast] at hll ⊢
 refine Ze Tryz.func167 rfl rfl rfl fun u R => ?_
 simp only [Zt, List.cons_append, List.nil_append]
 repeat' (first | (refine Zc (.func 179) ?_; refine ZM (Ym (.slice va l.length vc) (l.map ZD) sp 5) (h := by repeat (first | exact Ya | apply Yn)) (fun ρ2 hle2 hfz => ?_); obtain ⟨a1, c1, f1, hc1, hs1⟩ := hown.sIn hfz; cases f1; refine qC rfl rfl (put32_spec _ va _ vc _ hs1 y (by omega) (by omega)) ?_; rintro v' ρ3 L3 hle3 ⟨rfl, sp3, hown3, rfl⟩; simp only [List.cons_append, List.nil_append]; rw [hll] at hown3; obtain ⟨va', vc', rfl, _⟩ := hown3.slice) | (refine Zg ?_; first | (refine Zf ?_; refine qQ ?_) | refine Zj ?_) | refine Za ?_ | (refine Zh ?_; refine Zu ?_) | (refine Zi ?_; refine Zv ?_) | intro _)
 exact qE ⟨rfl, hle2, _, sp3, hown3, rfl⟩
theorem wcontent_spec (ρ : Hp) (wb : Nat) (v : RV) (r : Rc) (w : Value) (l : List UInt8) (sp : List Value) (hown : OwnB w l sp) (hn : l.length ≤ 100000) (cv : CV) (c : Yb) (h : CI ρ cv c) (hok : ZT c = true) :
  Spec Tryz.prog 219 [.pointer (some ⟨wb, 0, none⟩), .agg ⟨XF c.kind cv⟩] ρ [Wn w l sp, wrC wb v r w] (WrP ρ wb v r (l ++ YK c)) := by
 have hce := contE_spec ρ cv c h.cin (fun r hr => (h.row r hr).id) h.kid
 rw [if_pos hok, if_pos hok] at hce
 have h82 := Vg hok
 obtain ⟨va, vc, rfl, _⟩ := hown.slice
 refine Ze Tryz.func219 rfl rfl rfl fun u R => ?_
 simp only [Zt, List.cons_append, List.nil_append]
 repeat' (first | (refine Zc (.func 177) ?_; refine qC rfl rfl (hce) ?_; rintro v ρ' L' hle ⟨hle1, a1, n1, c1, rfl, hc1, hs1, rfl⟩ <;> (try simp only [kM, kN, kO])) | (have hn1 := hs1.len; refine YQ (ys := (YK c).map ZD) (m := n1) (sz := 1) rfl rfl hown (hR := by infer_instance) (SIn.srcV hs1) (by simpa using hs1.len) (Yr _) (by decide) rfl (by omega) (by omega) rfl (fun v' sp' hown' => ?_); rw [← List.map_append] at hown' ⊢; rw [← hs1.len, ← List.length_append] at hown'; obtain ⟨va', vc', rfl, _⟩ := hown'.slice) | (refine Zg ?_; first | (refine Zf ?_; refine qQ ?_) | refine Zj ?_) | refine Za ?_ | (refine Zh ?_; refine Zu ?_) | (refine Zi ?_; refine Zv ?_) | intro _)
 exact qE ⟨rfl, hle1, _, sp', hown', rfl⟩
theorem sIn_lit {α : Type} {g : α → Value} {ρ : Hp} {b : Nat} {l : List α} {T : TypeId} {fr : Nat × Nat} (h : ρ b = some (.cells ⟨l.map g⟩ T fr)) : SIn ρ g (some ⟨b, 0, none⟩) l.length l :=
 ⟨rfl, .inr ⟨b, 0, _, T, fr, rfl, h, by rw [List.drop_zero, List.take_of_length_le (by simp)]⟩⟩
abbrev iV (x : Int) : Value := .int .i64 x
abbrev lV (x : Nat) : Value := .int .u64 (x : Int)
theorem Xi (ρ : Hp) (wb : Nat) (v : RV) (r : Rc) (w : Value) (l : List UInt8) (sp : List Value) (hown : OwnB w l sp) (hn : l.length ≤ 100000) (b : Nat) (x : Int) {T : TypeId} {fr : Nat × Nat} (h : ρ b = some (.cells ⟨[.int .i64 x]⟩ T fr)) (hb : 0 ≤ x ∧ x < 256) :
  Spec Tryz.prog 165 [.pointer (some ⟨wb, 0, none⟩), .slice (some ⟨b, 0, none⟩) 1 1] ρ [Wn w l sp, wrC wb v r w] (WrP ρ wb v r (l ++ [tB x])) :=
 wbytes_spec ρ wb v r w l sp hown hn _ 1 1 [x] (sIn_lit (l := [x]) (g := iV) h) (fun y hy => by rw [List.mem_singleton.1 hy]; exact hb) (by decide)
theorem wlong_spec (ρ : Hp) (wb : Nat) (v : RV) (r : Rc) (w : Value) (l : List UInt8) (sp : List Value) (hown : OwnB w l sp) (hn : l.length ≤ 100000) (b : Nat) (x : Nat) {T : TypeId} {fr : Nat × Nat} (h : ρ b = some (.cells ⟨[.int .u64 (x : Int)]⟩ T fr)) (hb : x < 18446744073709551616) :
  Spec Tryz.prog 166 [.pointer (some ⟨wb, 0, none⟩), .slice (some ⟨b, 0, none⟩) 1 1] ρ [Wn w l sp, wrC wb v r w] (WrP ρ wb v r (l ++ be 8 x)) := by
 have := wlongs_spec ρ wb v r w l sp hown hn _ 1 1 [x] (sIn_lit (l := [x]) (g := lV) h) (fun y hy => by rw [List.mem_singleton.1 hy]; exact hb) (by decide)
 simpa only [List.flatMap_cons, List.flatMap_nil, List.append_nil] using this
theorem wlong3_spec (ρ : Hp) (wb : Nat) (v : RV) (r : Rc) (w : Value) (l : List UInt8) (sp : List Value) (hown : OwnB w l sp) (hn : l.length ≤ 100000) (b : Nat) (x y z : Nat) {T : TypeId} {fr : Nat × Nat} (h : ρ b = some (.cells ⟨[.int .u64 (x : Int), .int .u64 (y : Int), .int .u64 (z : Int)]⟩ T fr)) (hx : x < 18446744073709551616) (hy : y < 18446744073709551616) (hz : z < 18446744073709551616) :
  Spec Tryz.prog 166 [.pointer (some ⟨wb, 0, none⟩), .slice (some ⟨b, 0, none⟩) 3 3] ρ [Wn w l sp, wrC wb v r w] (WrP ρ wb v r (l ++ (be 8 x ++ (be 8 y ++ be 8 z)))) := by
 have := wlongs_spec ρ wb v r w l sp hown hn _ 3 3 [x, y, z] (sIn_lit (l := [x, y, z]) (g := lV) h) (fun q hq => by simp at hq; rcases hq with rfl | rfl | rfl <;> assumption) (by decide)
 simpa only [List.flatMap_cons, List.flatMap_nil, List.append_nil] using this
theorem wnested_spec (ρ : Hp) (wb : Nat) (v : RV) (r : Rc) (w : Value) (l : List UInt8) (sp : List Value) (hown : OwnB w l sp) (hn : l.length ≤ 90000) (h0 : r.next < 18446744073709551616) :
  Spec Tryz.prog 169 [.pointer (some ⟨wb, 0, none⟩)] ρ [Wn w l sp, wrC wb v r w] (WrP ρ wb v r (l ++ be 8 r.next)) := by
 have hρ := Hp.le_refl ρ
 refine Ze Tryz.func169 rfl rfl rfl fun u R => ?_
 simp only [Zt, List.cons_append, List.nil_append]
 repeat' (first | (refine ZC rfl rfl rfl rfl (by simp) rfl rfl (fun bs => ?_); refine ZM _ (h := Rem.here) (fun ρz hlz hfz => ?_); have hbs := hfz _ (List.mem_singleton.2 rfl); clear hfz; have hρ := Hp.le_trans hρ hlz; clear hlz; (try simp only [List.nil_append])) | (refine Zc (.func 166) ?_; refine qC rfl rfl (wlong_spec _ wb v r w l sp hown (by omega) _ r.next hbs h0) ?_; rintro v ρ' L' hle ⟨rfl, hl1, w1, sp1, hown, rfl⟩ <;> (try simp only [kM, kN, kO])) | (refine Zg ?_; first | (refine Zf ?_; refine qQ ?_) | refine Zj ?_) | refine Za ?_ | (refine Zh ?_; refine Zu ?_) | (refine Zi ?_; refine Zv ?_) | intro _)
 exact qE ⟨rfl, Hp.le_trans hρ hl1, w1, sp1, hown, rfl⟩
end Go.Proofs.E
