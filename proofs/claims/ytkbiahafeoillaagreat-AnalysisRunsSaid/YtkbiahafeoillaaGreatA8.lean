/- Laws of analysis. Part 8 of 41. -/
import Derived.Test.YtkbiahafeoillaaGreatA7
namespace Go.Proofs.E
open Go
set_option linter.unusedVariables false
set_option linter.unusedSimpArgs false
set_option linter.unusedSectionVars false
set_option maxRecDepth 4000
set_option maxHeartbeats 1000000
attribute [local irreducible] Yl TL TC TE Spec Xb R1 Hp.le EnvLe TS TR YS Zk
theorem psTo_mem {l : List Kid} {k : Nat} {p : Int} : p ∈ psTo l k ↔ ∃ x ∈ l.take k, x.page = p := by simp only [psTo, List.mem_reverse, List.mem_map]
theorem kidsR_spec (ρ : Hp) (a : Option Addr) (n c : Nat) (l : List Kid) (h : AIn ρ 3 kidV a n l) (hn : n ≤ 1000000) (hnc : n ≤ c) (hid : ∀ r ∈ l, r.id < 65536) :
  Spec Tryz.prog 163 [.slice a n c] ρ [] (fun v ρ' L' => v = .bool (decide (1 < n) && kidsOk l) ∧ ρ' = ρ ∧ L' = []) := by
 have hl := h.len
 unfold kidsOk
 rw [risesB_split, hl]
 refine Zd Tryz.func163 rfl rfl rfl fun u R => ?_
 simp only [Zo, List.cons_append, List.nil_append]
 generalize hrt : (fun (i : Nat) (k : Kid) => kidOk i (psTo l i) k) = rt
 repeat' (first | refine zW ?_ | intro _)
 refine Zq [(0, _), (2, _), (7, _), (8, _)] (fun (ζ : (Nat)) => [(9, .int .i64 ζ)]) (fun (ζ : (Nat)) => ρ) (fun (ζ : (Nat)) => []) (fun (ζ : (Nat)) => ζ ≤ n ∧ ZC n rt ltK l ζ = true) (fun (ζ : (Nat)) => n - ζ) (0) (⟨Nat.zero_le _, by rw [ZC, hl]; exact decide_eq_true (Nat.le_refl _)⟩) Ze Ze rfl tk ?_
 rintro k hI
 try simp only [List.cons_append, List.nil_append, List.append_assoc, List.append_eq] at hI ⊢
 try dsimp only at hI ⊢
 obtain ⟨hk, hok⟩ := hI
 by_cases hlt : k < n
 ·have hsub := h.take (hi' := k) (by omega)
  obtain ⟨b, off, C, T, fr, rfl, hb, hfit, hc⟩ := h.get (show k < l.length by omega)
  have hs := YK (most := n) (right := rt) (lt := ltK) (show k < l.length by omega)
  rw [hok, Bool.true_and] at hs
  have hrk : rt k (l[k]'(by omega)) = kidOk k (psTo l k) (l[k]'(by omega)) := by rw [← hrt]
  rw [hrk] at hs
  have hfin := fun (e : ZC n rt ltK l (k + 1) = false) => YF e (show k + 1 ≤ n by omega)
  have hmem : l[k]'(by omega) ∈ l := List.getElem_mem _
  have hidk := hid _ hmem
  have hx : ∀ P : Prop, (kidOk k (psTo l k) (l[k]'(by omega)) = true → P) → ¬ P → (decide (1 < n) && (decide (n ≤ 4) && ZC n rt ltK l n)) = false := fun P h1 h2 => by
   have : kidOk k (psTo l k) (l[k]'(by omega)) = false := by
    cases e : kidOk k (psTo l k) (l[k]'(by omega))
    ·rfl
    ·exact absurd (h1 e) h2
   rw [this, Bool.false_and] at hs
   rw [hfin hs]; simp
  have hkx : kidOk k (psTo l k) (l[k]'(by omega)) = true → (l[k]'(by omega)).page ∉ psTo l k ∧ 0 < (l[k]'(by omega)).page ∧ (l[k]'(by omega)).page < 64 ∧ (0 ≤ (l[k]'(by omega)).t ∧ (l[k]'(by omega)).t < 3) ∧ (0 < k ∨ ((l[k]'(by omega)).t = 0 ∧ (l[k]'(by omega)).id = 0)) := fun e => of_decide_eq_true e
  generalize hX : l[k]'(by omega) = x at *
  by_cases p0 : 0 < x.page
  ·by_cases p6 : x.page < 64
   ·by_cases ht : 0 ≤ x.t ∧ x.t < 3
    ·have hd : decide (0 ≤ x.t ∧ x.t < 3) = true := decide_eq_true ht
     by_cases hk0 : k = 0
     ·by_cases hz : x.t = 0 ∧ x.id = 0
      ·have hkk : ((x.t == 0) && (((x.id : Int) == 0) && true)) = true := by simp [hz.1, hz.2]
       repeat' (first | refine zW ?_ | intro _)
       rename_i b4
       refine Zu (Zk _ _ _) Zp ?_
       all_goals (refine ZN 0 ?_; refine ZQ 1 ?_; refine rCm 2 ?_; refine Zx 3 ?_; (first | refine Zb 4 ?_ | refine Za 4 ?_ | refine ZE 4 ?_); (first | refine Zb 5 ?_ | refine Za 5 ?_ | refine ZL 5 ?_); (first | refine Zb 6 ?_ | refine Za 6 ?_ | refine Yg 6 ?_); refine Yj 7 ?_; refine Zx 8 ?_; (first | refine Zb 9 ?_ | refine Za 9 ?_ | refine ZE 9 ?_); (first | refine Zb 10 ?_ | refine Za 10 ?_ | refine ZE 10 ?_); (first | refine Zb 11 ?_ | refine Za 11 ?_ | refine ZL 11 ?_))
       all_goals (first | refine Zb 12 ?_ | refine Za 12 ?_ | (refine Zj (i := 12) ?_; ((try refine Zh ?_); (first | (refine Zc (.func 187) ?_; refine qC rfl rfl (XQ _ _) ?_; rintro v ρ' L' hle ⟨rfl, rfl, rfl⟩ <;> (try simp only [kM, kN, kO, hd])) | (refine ZF ?_; try intro _)) <;> ((try simp only [kM, kN, kO]); refine Zf ?_; refine Zi ?_))))
       all_goals ((first | refine Zb 13 ?_ | refine Za 13 ?_ | refine wUn 13 ?_); refine Yj 14 ?_; refine Zx 15 ?_; (first | refine Zb 16 ?_ | refine Za 16 ?_ | refine ZI 16 ?_); (first | refine Zb 17 ?_ | refine Za 17 ?_ | refine Yg 17 ?_); (first | refine Zb 18 ?_ | refine Za 18 ?_ | refine ZI 18 ?_); (first | refine Zb 19 ?_ | refine Za 19 ?_ | refine ZE 19 ?_); (first | refine Zb 20 ?_ | refine Za 20 ?_ | refine ZL 20 ?_); (first | refine Zb 21 ?_ | refine Za 21 ?_ | refine wBu 21 ?_); (first | refine Zb 22 ?_ | refine Za 22 ?_ | refine Yg 22 ?_); (first | refine Zb 23 ?_ | refine Za 23 ?_ | refine wPk 23 ?_); refine Yj 24 ?_; refine Zx 25 ?_; (first | refine Zb 26 ?_ | refine Za 26 ?_ | refine ZI 26 ?_); (first | refine Zb 27 ?_ | refine Za 27 ?_ | refine Yg 27 ?_); (first | refine Zb 28 ?_ | refine Za 28 ?_ | refine ZI 28 ?_); (first | refine Zb 29 ?_ | refine Za 29 ?_ | refine ZI 29 ?_); (first | refine Zb 30 ?_ | refine Za 30 ?_ | refine ZI 30 ?_); (first | refine Zb 31 ?_ | refine Za 31 ?_ | refine wSb 31 ?_); (first | refine Zb 32 ?_ | refine Za 32 ?_ | refine wIa 32 ?_); (first | refine Zb 33 ?_ | refine Za 33 ?_ | refine ZE 33 ?_); (first | refine Zb 34 ?_ | refine Za 34 ?_ | refine ZL 34 ?_); (first | refine Zb 36 ?_ | refine Za 36 ?_ | refine ZE 36 ?_); (first | refine Zb 37 ?_ | refine Za 37 ?_ | refine ZL 37 ?_))
       all_goals (first | refine Zb 35 ?_ | refine Za 35 ?_ | (refine Zj (i := 35) ?_; ((try refine Zh ?_); (first | (refine ZF ?_; try intro _)) <;> ((try simp only [kM, kN, kO]); refine Zf ?_; refine Zi ?_))))
       all_goals (first | refine Zb 38 ?_ | refine Za 38 ?_ | (refine Zj (i := 38) ?_; ((try refine Zh ?_); (first | (refine ZF ?_; try intro _)) <;> ((try simp only [kM, kN, kO]); refine Zf ?_; refine Zi ?_))))
       all_goals (refine Zz ?_; (first | refine Zb 39 ?_ | refine Za 39 ?_ | refine Yg 39 ?_); (first | refine Zb 40 ?_ | refine Za 40 ?_ | refine wPk 40 ?_); refine Yj 41 ?_; refine Zv ?_)
       repeat' (first | refine zW ?_ | intro _)
       simp only [Int.toNat_natCast]
       refine Zq [(0, _), (2, _), (4, _), (7, _), (8, _), (9, _), (58, _), (59, _)] (fun (ζ : (Nat)) => [(60, .int .i64 ζ)]) (fun (ζ : (Nat)) => ρ') (fun (ζ : (Nat)) => [[(b4, .cells ⟨kidV x⟩ 230 (0, 0))]]) (fun (ζ : (Nat)) => ζ ≤ k ∧ ∀ y ∈ l.take ζ, y.page ≠ x.page) (fun (ζ : (Nat)) => k - ζ) (0) (⟨Nat.zero_le _, by simp⟩) Ze Ze rfl tk ?_
       rintro j hI
       try simp only [List.cons_append, List.nil_append, List.append_assoc, List.append_eq] at hI ⊢
       try dsimp only at hI ⊢
       obtain ⟨hj, hjo⟩ := hI
       by_cases hjk : j < k
       ·exact absurd hjk (by omega)
       ·have hj2 : j = k := by omega
        subst hj2
        have hke : kidOk j (psTo l j) x = true := decide_eq_true ⟨fun e => by obtain ⟨y, hy, he⟩ := psTo_mem.1 e; exact hjo y hy he, p0, p6, ht, .inr hz⟩
        rw [hke, Bool.true_and] at hs
        have hs' : ZC n rt ltK l (j + 1) = true := by rw [hs]; simp [hk0]
        repeat' (first | refine zW ?_ | intro _)
        refine Zg (j + 1) (⟨hlt, hs'⟩) Ze Ze rfl tk inferInstance (by first | omega | (dsimp only; omega))
      ·have hkk : ((x.t == 0) && (((x.id : Int) == 0) && true)) = false := by
        simp; intro h; exact fun h' => hz ⟨h, by omega⟩
       rw [hx (0 < k ∨ (x.t = 0 ∧ x.id = 0)) (fun e => (hkx e).2.2.2.2) (fun e => e.elim (by omega) hz)]
       repeat' (first | refine zW ?_ | intro _)
       refine Zu (Zk _ _ _) Zp ?_
       all_goals (refine ZN 0 ?_; refine ZQ 1 ?_; refine rCm 2 ?_; refine Zx 3 ?_; (first | refine Zb 4 ?_ | refine Za 4 ?_ | refine ZE 4 ?_); (first | refine Zb 5 ?_ | refine Za 5 ?_ | refine ZL 5 ?_); (first | refine Zb 6 ?_ | refine Za 6 ?_ | refine Yg 6 ?_); refine Yj 7 ?_; refine Zx 8 ?_; (first | refine Zb 9 ?_ | refine Za 9 ?_ | refine ZE 9 ?_); (first | refine Zb 10 ?_ | refine Za 10 ?_ | refine ZE 10 ?_); (first | refine Zb 11 ?_ | refine Za 11 ?_ | refine ZL 11 ?_))
       all_goals (first | refine Zb 12 ?_ | refine Za 12 ?_ | (refine Zj (i := 12) ?_; ((try refine Zh ?_); (first | (refine Zc (.func 187) ?_; refine qC rfl rfl (XQ _ _) ?_; rintro v ρ' L' hle ⟨rfl, rfl, rfl⟩ <;> (try simp only [kM, kN, kO, hd])) | (refine ZF ?_; try intro _)) <;> ((try simp only [kM, kN, kO]); refine Zf ?_; refine Zi ?_))))
       all_goals ((first | refine Zb 13 ?_ | refine Za 13 ?_ | refine wUn 13 ?_); refine Yj 14 ?_; refine Zx 15 ?_; (first | refine Zb 16 ?_ | refine Za 16 ?_ | refine ZI 16 ?_); (first | refine Zb 17 ?_ | refine Za 17 ?_ | refine Yg 17 ?_); (first | refine Zb 18 ?_ | refine Za 18 ?_ | refine ZI 18 ?_); (first | refine Zb 19 ?_ | refine Za 19 ?_ | refine ZE 19 ?_); (first | refine Zb 20 ?_ | refine Za 20 ?_ | refine ZL 20 ?_); (first | refine Zb 21 ?_ | refine Za 21 ?_ | refine wBu 21 ?_); (first | refine Zb 22 ?_ | refine Za 22 ?_ | refine Yg 22 ?_); (first | refine Zb 23 ?_ | refine Za 23 ?_ | refine wPk 23 ?_); refine Yj 24 ?_; refine Zx 25 ?_; (first | refine Zb 26 ?_ | refine Za 26 ?_ | refine ZI 26 ?_); (first | refine Zb 27 ?_ | refine Za 27 ?_ | refine Yg 27 ?_); (first | refine Zb 28 ?_ | refine Za 28 ?_ | refine ZI 28 ?_); (first | refine Zb 29 ?_ | refine Za 29 ?_ | refine ZI 29 ?_); (first | refine Zb 30 ?_ | refine Za 30 ?_ | refine ZI 30 ?_); (first | refine Zb 31 ?_ | refine Za 31 ?_ | refine wSb 31 ?_); (first | refine Zb 32 ?_ | refine Za 32 ?_ | refine wIa 32 ?_); (first | refine Zb 33 ?_ | refine Za 33 ?_ | refine ZE 33 ?_); (first | refine Zb 34 ?_ | refine Za 34 ?_ | refine ZL 34 ?_); (first | refine Zb 36 ?_ | refine Za 36 ?_ | refine ZE 36 ?_); (first | refine Zb 37 ?_ | refine Za 37 ?_ | refine ZL 37 ?_))
       all_goals (first | refine Zb 35 ?_ | refine Za 35 ?_ | (refine Zj (i := 35) ?_; ((try refine Zh ?_); (first | (refine ZF ?_; try intro _)) <;> ((try simp only [kM, kN, kO]); refine Zf ?_; refine Zi ?_))))
       all_goals (first | refine Zb 38 ?_ | refine Za 38 ?_ | (refine Zj (i := 38) ?_; ((try refine Zh ?_); (first | (refine ZF ?_; try intro _)) <;> ((try simp only [kM, kN, kO]); refine Zf ?_; refine Zi ?_))))
       all_goals (refine Zz ?_; (first | refine Zb 39 ?_ | refine Za 39 ?_ | refine Yg 39 ?_); (first | refine Zb 40 ?_ | refine Za 40 ?_ | refine wPk 40 ?_); refine Yj 41 ?_; refine Zv ?_)
       repeat' (first | refine zW ?_ | intro _)
       exact qE ⟨rfl, rfl, rfl⟩
     ·have hdk : decide (k = 0) = false := decide_eq_false hk0
      rw [hdk, Bool.false_or] at hs
      obtain ⟨b2, off2, C2, T2, fr2, f1, hb2, hfit2, hc2⟩ := h.get (show k - 1 < l.length by omega)
      cases f1
      rw [hb] at hb2
      cases hb2
      have ek : ((k : Int) - 1).toNat = k - 1 := by omega
      have hkey : List.take 2 (List.drop (off + ((k : Int) - 1).toNat * 3) C) = keyV (l[k - 1]'(by omega)).t (l[k - 1]'(by omega)).id := by
       rw [ek]
       have := congrArg (List.take 2) hc2
       rw [List.take_take] at this
       exact this
      have hfit3 : off + ((k : Int) - 1).toNat * 3 + 2 ≤ C.length := by rw [ek]; omega
      obtain ⟨g1, g2⟩ := XP hok (by omega)
      have hrp := (g2 (k - 1) (by omega) (by omega)).1
      have hrk1 : rt (k - 1) (l[k - 1]'(by omega)) = kidOk (k - 1) (psTo l (k - 1)) (l[k - 1]'(by omega)) := by rw [← hrt]
      rw [hrk1] at hrp
      have hrt2 := (of_decide_eq_true hrp).2.2.2.1
      have hidp := hid _ (List.getElem_mem (show k - 1 < l.length by omega))
      clear hc2 hfit2 hrk hrk1 hrp
      generalize l[k - 1]'(by omega) = y at *
      have hor := order_lt (t1 := y.t) (t2 := x.t) hidp hidk
      unfold ltK at hs
      by_cases hcm : cmpK y.t y.id x.t x.id < 0
      ·rw [decide_eq_true hcm] at hs
       have hcm2 := hor.1 hcm
       repeat' (first | refine zW ?_ | intro _)
       rename_i b4
       refine Zu (Zk _ _ _) Zp ?_
       all_goals (refine ZN 0 ?_; refine ZQ 1 ?_; refine rCm 2 ?_; refine Zx 3 ?_; (first | refine Zb 4 ?_ | refine Za 4 ?_ | refine ZE 4 ?_); (first | refine Zb 5 ?_ | refine Za 5 ?_ | refine ZL 5 ?_); (first | refine Zb 6 ?_ | refine Za 6 ?_ | refine Yg 6 ?_); refine Yj 7 ?_; refine Zx 8 ?_; (first | refine Zb 9 ?_ | refine Za 9 ?_ | refine ZE 9 ?_); (first | refine Zb 10 ?_ | refine Za 10 ?_ | refine ZE 10 ?_); (first | refine Zb 11 ?_ | refine Za 11 ?_ | refine ZL 11 ?_))
       all_goals (first | refine Zb 12 ?_ | refine Za 12 ?_ | (refine Zj (i := 12) ?_; ((try refine Zh ?_); (first | (refine Zc (.func 187) ?_; refine qC rfl rfl (XQ _ _) ?_; rintro v ρ' L' hle ⟨rfl, rfl, rfl⟩ <;> (try simp only [kM, kN, kO, hd])) | (refine ZF ?_; try intro _)) <;> ((try simp only [kM, kN, kO]); refine Zf ?_; refine Zi ?_))))
       all_goals ((first | refine Zb 13 ?_ | refine Za 13 ?_ | refine wUn 13 ?_); refine Yj 14 ?_; refine Zx 15 ?_; (first | refine Zb 16 ?_ | refine Za 16 ?_ | refine ZI 16 ?_); (first | refine Zb 17 ?_ | refine Za 17 ?_ | refine Yg 17 ?_); (first | refine Zb 18 ?_ | refine Za 18 ?_ | refine ZI 18 ?_); (first | refine Zb 19 ?_ | refine Za 19 ?_ | refine ZE 19 ?_); (first | refine Zb 20 ?_ | refine Za 20 ?_ | refine ZL 20 ?_); (first | refine Zb 21 ?_ | refine Za 21 ?_ | refine wBu 21 ?_); (first | refine Zb 22 ?_ | refine Za 22 ?_ | refine Yg 22 ?_); (first | refine Zb 23 ?_ | refine Za 23 ?_ | refine wPk 23 ?_); refine Yj 24 ?_; refine Zx 25 ?_; (first | refine Zb 26 ?_ | refine Za 26 ?_ | refine ZI 26 ?_); (first | refine Zb 27 ?_ | refine Za 27 ?_ | refine Yg 27 ?_); (first | refine Zb 28 ?_ | refine Za 28 ?_ | refine ZI 28 ?_); (first | refine Zb 29 ?_ | refine Za 29 ?_ | refine ZI 29 ?_); (first | refine Zb 30 ?_ | refine Za 30 ?_ | refine ZI 30 ?_); (first | refine Zb 31 ?_ | refine Za 31 ?_ | refine wSb 31 ?_); (first | refine Zb 32 ?_ | refine Za 32 ?_ | refine wIa 32 ?_); (first | refine Zb 33 ?_ | refine Za 33 ?_ | refine ZE 33 ?_); (first | refine Zb 34 ?_ | refine Za 34 ?_ | refine ZL 34 ?_); (first | refine Zb 36 ?_ | refine Za 36 ?_ | refine ZE 36 ?_); (first | refine Zb 37 ?_ | refine Za 37 ?_ | refine ZL 37 ?_))
       all_goals (first | refine Zb 35 ?_ | refine Za 35 ?_ | (refine Zj (i := 35) ?_; ((try refine Zh ?_); (first | (refine Zc (.func 186) ?_; refine qC rfl rfl (YC _ y.t y.id hrt2.1 hrt2.2 hidp) ?_; rintro v ρ' L' hle ⟨rfl, rfl, rfl⟩ <;> (try simp only [kM, kN, kO])) | (refine Zc (.func 186) ?_; refine qC rfl rfl (YC _ x.t x.id ht.1 ht.2 hidk) ?_; rintro v ρ' L' hle ⟨rfl, rfl, rfl⟩ <;> (try simp only [kM, kN, kO])) | (refine ZF ?_; try intro _)) <;> ((try simp only [kM, kN, kO]); refine Zf ?_; refine Zi ?_))))
       all_goals (first | refine Zb 38 ?_ | refine Za 38 ?_ | (refine Zj (i := 38) ?_; ((try refine Zh ?_); (first | (refine Zc (.func 186) ?_; refine qC rfl rfl (YC _ y.t y.id hrt2.1 hrt2.2 hidp) ?_; rintro v ρ' L' hle ⟨rfl, rfl, rfl⟩ <;> (try simp only [kM, kN, kO])) | (refine Zc (.func 186) ?_; refine qC rfl rfl (YC _ x.t x.id ht.1 ht.2 hidk) ?_; rintro v ρ' L' hle ⟨rfl, rfl, rfl⟩ <;> (try simp only [kM, kN, kO])) | (refine ZF ?_; try intro _)) <;> ((try simp only [kM, kN, kO]); refine Zf ?_; refine Zi ?_))))
       all_goals (refine Zz ?_; (first | refine Zb 39 ?_ | refine Za 39 ?_ | refine Yg 39 ?_); (first | refine Zb 40 ?_ | refine Za 40 ?_ | refine wPk 40 ?_); refine Yj 41 ?_; refine Zv ?_)
       repeat' (first | refine zW ?_ | intro _)
       simp only [Int.toNat_natCast]
       refine Zq [(0, _), (2, _), (4, _), (7, _), (8, _), (9, _), (58, _), (59, _)] (fun (ζ : (Nat)) => [(60, .int .i64 ζ)]) (fun (ζ : (Nat)) => ρ') (fun (ζ : (Nat)) => [[(b4, .cells ⟨kidV x⟩ 230 (0, 0))]]) (fun (ζ : (Nat)) => ζ ≤ k ∧ ∀ y ∈ l.take ζ, y.page ≠ x.page) (fun (ζ : (Nat)) => k - ζ) (0) (⟨Nat.zero_le _, by simp⟩) Ze Ze rfl tk ?_
       rintro j hI
       try simp only [List.cons_append, List.nil_append, List.append_assoc, List.append_eq] at hI ⊢
       try dsimp only at hI ⊢
       obtain ⟨hj, hjo⟩ := hI
       by_cases hjk : j < k
       ·obtain ⟨b3, off3, C3, T3, fr3, f3, hb3, hfit3, hc3⟩ := h.get (show j < l.length by omega)
        cases f3
        rw [hb] at hb3
        cases hb3
        have htj := List.take_succ_eq_append_getElem (show j < l.length by omega)
        have hjm : l[j]'(by omega) ∈ l.take k := by
         rw [List.mem_take_iff_getElem]
         exact ⟨j, by omega, rfl⟩
        generalize hZ : l[j]'(by omega) = z at *
        by_cases hp : z.page = x.page
        ·rw [hx (x.page ∉ psTo l k) (fun e => (hkx e).1) (fun e => e (psTo_mem.2 ⟨z, hjm, hp⟩))]
         repeat' (first | refine zW ?_ | intro _)
         exact qE ⟨rfl, rfl, rfl⟩
        ·have hjn : ∀ y ∈ l.take (j + 1), y.page ≠ x.page := by
           intro y hy
           rw [htj] at hy
           rcases List.mem_append.1 hy with hy | hy
           ·exact hjo y hy
           ·rw [List.mem_singleton.1 hy]; exact hp
         repeat' (first | refine zW ?_ | intro _)
         refine Zg (j + 1) (⟨hjk, hjn⟩) Ze Ze rfl tk inferInstance (by first | omega | (dsimp only; omega))
       ·have hj2 : j = k := by omega
        subst hj2
        have hke : kidOk j (psTo l j) x = true := decide_eq_true ⟨fun e => by obtain ⟨y, hy, he⟩ := psTo_mem.1 e; exact hjo y hy he, p0, p6, ht, .inl (by omega)⟩
        rw [hke, Bool.true_and] at hs
        have hs' : ZC n rt ltK l (j + 1) = true := hs
        repeat' (first | refine zW ?_ | intro _)
        refine Zg (j + 1) (⟨hlt, hs'⟩) Ze Ze rfl tk inferInstance (by first | omega | (dsimp only; omega))
      ·rw [decide_eq_false hcm, Bool.and_false] at hs
       have hcm2 : ¬ (y.t * 65536 + y.id < x.t * 65536 + x.id) := fun h => hcm (hor.2 h)
       rw [hfin hs]
       simp only [Bool.and_false]
       repeat' (first | refine zW ?_ | intro _)
       refine Zu (Zk _ _ _) Zp ?_
       all_goals (refine ZN 0 ?_; refine ZQ 1 ?_; refine rCm 2 ?_; refine Zx 3 ?_; (first | refine Zb 4 ?_ | refine Za 4 ?_ | refine ZE 4 ?_); (first | refine Zb 5 ?_ | refine Za 5 ?_ | refine ZL 5 ?_); (first | refine Zb 6 ?_ | refine Za 6 ?_ | refine Yg 6 ?_); refine Yj 7 ?_; refine Zx 8 ?_; (first | refine Zb 9 ?_ | refine Za 9 ?_ | refine ZE 9 ?_); (first | refine Zb 10 ?_ | refine Za 10 ?_ | refine ZE 10 ?_); (first | refine Zb 11 ?_ | refine Za 11 ?_ | refine ZL 11 ?_))
       all_goals (first | refine Zb 12 ?_ | refine Za 12 ?_ | (refine Zj (i := 12) ?_; ((try refine Zh ?_); (first | (refine Zc (.func 187) ?_; refine qC rfl rfl (XQ _ _) ?_; rintro v ρ' L' hle ⟨rfl, rfl, rfl⟩ <;> (try simp only [kM, kN, kO, hd])) | (refine ZF ?_; try intro _)) <;> ((try simp only [kM, kN, kO]); refine Zf ?_; refine Zi ?_))))
       all_goals ((first | refine Zb 13 ?_ | refine Za 13 ?_ | refine wUn 13 ?_); refine Yj 14 ?_; refine Zx 15 ?_; (first | refine Zb 16 ?_ | refine Za 16 ?_ | refine ZI 16 ?_); (first | refine Zb 17 ?_ | refine Za 17 ?_ | refine Yg 17 ?_); (first | refine Zb 18 ?_ | refine Za 18 ?_ | refine ZI 18 ?_); (first | refine Zb 19 ?_ | refine Za 19 ?_ | refine ZE 19 ?_); (first | refine Zb 20 ?_ | refine Za 20 ?_ | refine ZL 20 ?_); (first | refine Zb 21 ?_ | refine Za 21 ?_ | refine wBu 21 ?_); (first | refine Zb 22 ?_ | refine Za 22 ?_ | refine Yg 22 ?_); (first | refine Zb 23 ?_ | refine Za 23 ?_ | refine wPk 23 ?_); refine Yj 24 ?_; refine Zx 25 ?_; (first | refine Zb 26 ?_ | refine Za 26 ?_ | refine ZI 26 ?_); (first | refine Zb 27 ?_ | refine Za 27 ?_ | refine Yg 27 ?_); (first | refine Zb 28 ?_ | refine Za 28 ?_ | refine ZI 28 ?_); (first | refine Zb 29 ?_ | refine Za 29 ?_ | refine ZI 29 ?_); (first | refine Zb 30 ?_ | refine Za 30 ?_ | refine ZI 30 ?_); (first | refine Zb 31 ?_ | refine Za 31 ?_ | refine wSb 31 ?_); (first | refine Zb 32 ?_ | refine Za 32 ?_ | refine wIa 32 ?_); (first | refine Zb 33 ?_ | refine Za 33 ?_ | refine ZE 33 ?_); (first | refine Zb 34 ?_ | refine Za 34 ?_ | refine ZL 34 ?_); (first | refine Zb 36 ?_ | refine Za 36 ?_ | refine ZE 36 ?_); (first | refine Zb 37 ?_ | refine Za 37 ?_ | refine ZL 37 ?_))
       all_goals (first | refine Zb 35 ?_ | refine Za 35 ?_ | (refine Zj (i := 35) ?_; ((try refine Zh ?_); (first | (refine Zc (.func 186) ?_; refine qC rfl rfl (YC _ y.t y.id hrt2.1 hrt2.2 hidp) ?_; rintro v ρ' L' hle ⟨rfl, rfl, rfl⟩ <;> (try simp only [kM, kN, kO])) | (refine Zc (.func 186) ?_; refine qC rfl rfl (YC _ x.t x.id ht.1 ht.2 hidk) ?_; rintro v ρ' L' hle ⟨rfl, rfl, rfl⟩ <;> (try simp only [kM, kN, kO])) | (refine ZF ?_; try intro _)) <;> ((try simp only [kM, kN, kO]); refine Zf ?_; refine Zi ?_))))
       all_goals (first | refine Zb 38 ?_ | refine Za 38 ?_ | (refine Zj (i := 38) ?_; ((try refine Zh ?_); (first | (refine Zc (.func 186) ?_; refine qC rfl rfl (YC _ y.t y.id hrt2.1 hrt2.2 hidp) ?_; rintro v ρ' L' hle ⟨rfl, rfl, rfl⟩ <;> (try simp only [kM, kN, kO])) | (refine Zc (.func 186) ?_; refine qC rfl rfl (YC _ x.t x.id ht.1 ht.2 hidk) ?_; rintro v ρ' L' hle ⟨rfl, rfl, rfl⟩ <;> (try simp only [kM, kN, kO])) | (refine ZF ?_; try intro _)) <;> ((try simp only [kM, kN, kO]); refine Zf ?_; refine Zi ?_))))
       all_goals (refine Zz ?_; (first | refine Zb 39 ?_ | refine Za 39 ?_ | refine Yg 39 ?_); (first | refine Zb 40 ?_ | refine Za 40 ?_ | refine wPk 40 ?_); refine Yj 41 ?_; refine Zv ?_)
       repeat' (first | refine zW ?_ | intro _)
       exact qE ⟨rfl, rfl, rfl⟩
    ·have hd : decide (0 ≤ x.t ∧ x.t < 3) = false := decide_eq_false ht
     rw [hx (0 ≤ x.t ∧ x.t < 3) (fun e => (hkx e).2.2.2.1) ht]
     repeat' (first | refine zW ?_ | intro _)
     refine Zu (Zk _ _ _) Zp ?_
     all_goals (refine ZN 0 ?_; refine ZQ 1 ?_; refine rCm 2 ?_; refine Zx 3 ?_; (first | refine Zb 4 ?_ | refine Za 4 ?_ | refine ZE 4 ?_); (first | refine Zb 5 ?_ | refine Za 5 ?_ | refine ZL 5 ?_); (first | refine Zb 6 ?_ | refine Za 6 ?_ | refine Yg 6 ?_); refine Yj 7 ?_; refine Zx 8 ?_; (first | refine Zb 9 ?_ | refine Za 9 ?_ | refine ZE 9 ?_); (first | refine Zb 10 ?_ | refine Za 10 ?_ | refine ZE 10 ?_); (first | refine Zb 11 ?_ | refine Za 11 ?_ | refine ZL 11 ?_))
     all_goals (first | refine Zb 12 ?_ | refine Za 12 ?_ | (refine Zj (i := 12) ?_; ((try refine Zh ?_); (first | (refine Zc (.func 187) ?_; refine qC rfl rfl (XQ _ _) ?_; rintro v ρ' L' hle ⟨rfl, rfl, rfl⟩ <;> (try simp only [kM, kN, kO, hd])) | (refine ZF ?_; try intro _)) <;> ((try simp only [kM, kN, kO]); refine Zf ?_; refine Zi ?_))))
     all_goals ((first | refine Zb 13 ?_ | refine Za 13 ?_ | refine wUn 13 ?_); refine Yj 14 ?_; refine Zx 15 ?_; (first | refine Zb 16 ?_ | refine Za 16 ?_ | refine ZI 16 ?_); (first | refine Zb 17 ?_ | refine Za 17 ?_ | refine Yg 17 ?_); (first | refine Zb 18 ?_ | refine Za 18 ?_ | refine ZI 18 ?_); (first | refine Zb 19 ?_ | refine Za 19 ?_ | refine ZE 19 ?_); (first | refine Zb 20 ?_ | refine Za 20 ?_ | refine ZL 20 ?_); (first | refine Zb 21 ?_ | refine Za 21 ?_ | refine wBu 21 ?_); (first | refine Zb 22 ?_ | refine Za 22 ?_ | refine Yg 22 ?_); (first | refine Zb 23 ?_ | refine Za 23 ?_ | refine wPk 23 ?_); refine Yj 24 ?_; refine Zx 25 ?_; (first | refine Zb 26 ?_ | refine Za 26 ?_ | refine ZI 26 ?_); (first | refine Zb 27 ?_ | refine Za 27 ?_ | refine Yg 27 ?_); (first | refine Zb 28 ?_ | refine Za 28 ?_ | refine ZI 28 ?_); (first | refine Zb 29 ?_ | refine Za 29 ?_ | refine ZI 29 ?_); (first | refine Zb 30 ?_ | refine Za 30 ?_ | refine ZI 30 ?_); (first | refine Zb 31 ?_ | refine Za 31 ?_ | refine wSb 31 ?_); (first | refine Zb 32 ?_ | refine Za 32 ?_ | refine wIa 32 ?_); (first | refine Zb 33 ?_ | refine Za 33 ?_ | refine ZE 33 ?_); (first | refine Zb 34 ?_ | refine Za 34 ?_ | refine ZL 34 ?_); (first | refine Zb 36 ?_ | refine Za 36 ?_ | refine ZE 36 ?_); (first | refine Zb 37 ?_ | refine Za 37 ?_ | refine ZL 37 ?_))
     all_goals (first | refine Zb 35 ?_ | refine Za 35 ?_ | (refine Zj (i := 35) ?_; ((try refine Zh ?_); (first | (refine ZF ?_; try intro _)) <;> ((try simp only [kM, kN, kO]); refine Zf ?_; refine Zi ?_))))
     all_goals (first | refine Zb 38 ?_ | refine Za 38 ?_ | (refine Zj (i := 38) ?_; ((try refine Zh ?_); (first | (refine ZF ?_; try intro _)) <;> ((try simp only [kM, kN, kO]); refine Zf ?_; refine Zi ?_))))
     all_goals (refine Zz ?_; (first | refine Zb 39 ?_ | refine Za 39 ?_ | refine Yg 39 ?_); (first | refine Zb 40 ?_ | refine Za 40 ?_ | refine wPk 40 ?_); refine Yj 41 ?_; refine Zv ?_)
     repeat' (first | refine zW ?_ | intro _)
     exact qE ⟨rfl, rfl, rfl⟩
   ·rw [hx (x.page < 64) (fun e => (hkx e).2.2.1) p6]
    repeat' (first | refine zW ?_ | intro _)
    refine Zu (Zk _ _ _) Zp ?_
    all_goals (refine ZN 0 ?_; refine ZQ 1 ?_; refine rCm 2 ?_; refine Zx 3 ?_; (first | refine Zb 4 ?_ | refine Za 4 ?_ | refine ZE 4 ?_); (first | refine Zb 5 ?_ | refine Za 5 ?_ | refine ZL 5 ?_); (first | refine Zb 6 ?_ | refine Za 6 ?_ | refine Yg 6 ?_); refine Yj 7 ?_; refine Zx 8 ?_; (first | refine Zb 9 ?_ | refine Za 9 ?_ | refine ZE 9 ?_); (first | refine Zb 10 ?_ | refine Za 10 ?_ | refine ZE 10 ?_); (first | refine Zb 11 ?_ | refine Za 11 ?_ | refine ZL 11 ?_))
    all_goals (first | refine Zb 12 ?_ | refine Za 12 ?_ | (refine Zj (i := 12) ?_; ((try refine Zh ?_); (first | (refine ZF ?_; try intro _)) <;> ((try simp only [kM, kN, kO]); refine Zf ?_; refine Zi ?_))))
    all_goals ((first | refine Zb 13 ?_ | refine Za 13 ?_ | refine wUn 13 ?_); refine Yj 14 ?_; refine Zx 15 ?_; (first | refine Zb 16 ?_ | refine Za 16 ?_ | refine ZI 16 ?_); (first | refine Zb 17 ?_ | refine Za 17 ?_ | refine Yg 17 ?_); (first | refine Zb 18 ?_ | refine Za 18 ?_ | refine ZI 18 ?_); (first | refine Zb 19 ?_ | refine Za 19 ?_ | refine ZE 19 ?_); (first | refine Zb 20 ?_ | refine Za 20 ?_ | refine ZL 20 ?_); (first | refine Zb 21 ?_ | refine Za 21 ?_ | refine wBu 21 ?_); (first | refine Zb 22 ?_ | refine Za 22 ?_ | refine Yg 22 ?_); (first | refine Zb 23 ?_ | refine Za 23 ?_ | refine wPk 23 ?_); refine Yj 24 ?_; refine Zx 25 ?_; (first | refine Zb 26 ?_ | refine Za 26 ?_ | refine ZI 26 ?_); (first | refine Zb 27 ?_ | refine Za 27 ?_ | refine Yg 27 ?_); (first | refine Zb 28 ?_ | refine Za 28 ?_ | refine ZI 28 ?_); (first | refine Zb 29 ?_ | refine Za 29 ?_ | refine ZI 29 ?_); (first | refine Zb 30 ?_ | refine Za 30 ?_ | refine ZI 30 ?_); (first | refine Zb 31 ?_ | refine Za 31 ?_ | refine wSb 31 ?_); (first | refine Zb 32 ?_ | refine Za 32 ?_ | refine wIa 32 ?_); (first | refine Zb 33 ?_ | refine Za 33 ?_ | refine ZE 33 ?_); (first | refine Zb 34 ?_ | refine Za 34 ?_ | refine ZL 34 ?_); (first | refine Zb 36 ?_ | refine Za 36 ?_ | refine ZE 36 ?_); (first | refine Zb 37 ?_ | refine Za 37 ?_ | refine ZL 37 ?_))
    all_goals (first | refine Zb 35 ?_ | refine Za 35 ?_ | (refine Zj (i := 35) ?_; ((try refine Zh ?_); (first | (refine ZF ?_; try intro _)) <;> ((try simp only [kM, kN, kO]); refine Zf ?_; refine Zi ?_))))
    all_goals (first | refine Zb 38 ?_ | refine Za 38 ?_ | (refine Zj (i := 38) ?_; ((try refine Zh ?_); (first | (refine ZF ?_; try intro _)) <;> ((try simp only [kM, kN, kO]); refine Zf ?_; refine Zi ?_))))
    all_goals (refine Zz ?_; (first | refine Zb 39 ?_ | refine Za 39 ?_ | refine Yg 39 ?_); (first | refine Zb 40 ?_ | refine Za 40 ?_ | refine wPk 40 ?_); refine Yj 41 ?_; refine Zv ?_)
    repeat' (first | refine zW ?_ | intro _)
    exact qE ⟨rfl, rfl, rfl⟩
  ·rw [hx (0 < x.page) (fun e => (hkx e).2.1) p0]
   repeat' (first | refine zW ?_ | intro _)
   refine Zu (Zk _ _ _) Zp ?_
   all_goals (refine ZN 0 ?_; refine ZQ 1 ?_; refine rCm 2 ?_; refine Zx 3 ?_; (first | refine Zb 4 ?_ | refine Za 4 ?_ | refine ZE 4 ?_); (first | refine Zb 5 ?_ | refine Za 5 ?_ | refine ZL 5 ?_); (first | refine Zb 6 ?_ | refine Za 6 ?_ | refine Yg 6 ?_); refine Yj 7 ?_; refine Zx 8 ?_; (first | refine Zb 9 ?_ | refine Za 9 ?_ | refine ZE 9 ?_); (first | refine Zb 10 ?_ | refine Za 10 ?_ | refine ZE 10 ?_); (first | refine Zb 11 ?_ | refine Za 11 ?_ | refine ZL 11 ?_))
   all_goals (first | refine Zb 12 ?_ | refine Za 12 ?_ | (refine Zj (i := 12) ?_; ((try refine Zh ?_); (first | (refine ZF ?_; try intro _)) <;> ((try simp only [kM, kN, kO]); refine Zf ?_; refine Zi ?_))))
   all_goals ((first | refine Zb 13 ?_ | refine Za 13 ?_ | refine wUn 13 ?_); refine Yj 14 ?_; refine Zx 15 ?_; (first | refine Zb 16 ?_ | refine Za 16 ?_ | refine ZI 16 ?_); (first | refine Zb 17 ?_ | refine Za 17 ?_ | refine Yg 17 ?_); (first | refine Zb 18 ?_ | refine Za 18 ?_ | refine ZI 18 ?_); (first | refine Zb 19 ?_ | refine Za 19 ?_ | refine ZE 19 ?_); (first | refine Zb 20 ?_ | refine Za 20 ?_ | refine ZL 20 ?_); (first | refine Zb 21 ?_ | refine Za 21 ?_ | refine wBu 21 ?_); (first | refine Zb 22 ?_ | refine Za 22 ?_ | refine Yg 22 ?_); (first | refine Zb 23 ?_ | refine Za 23 ?_ | refine wPk 23 ?_); refine Yj 24 ?_; refine Zx 25 ?_; (first | refine Zb 26 ?_ | refine Za 26 ?_ | refine ZI 26 ?_); (first | refine Zb 27 ?_ | refine Za 27 ?_ | refine Yg 27 ?_); (first | refine Zb 28 ?_ | refine Za 28 ?_ | refine ZI 28 ?_); (first | refine Zb 29 ?_ | refine Za 29 ?_ | refine ZI 29 ?_); (first | refine Zb 30 ?_ | refine Za 30 ?_ | refine ZI 30 ?_); (first | refine Zb 31 ?_ | refine Za 31 ?_ | refine wSb 31 ?_); (first | refine Zb 32 ?_ | refine Za 32 ?_ | refine wIa 32 ?_); (first | refine Zb 33 ?_ | refine Za 33 ?_ | refine ZE 33 ?_); (first | refine Zb 34 ?_ | refine Za 34 ?_ | refine ZL 34 ?_); (first | refine Zb 36 ?_ | refine Za 36 ?_ | refine ZE 36 ?_); (first | refine Zb 37 ?_ | refine Za 37 ?_ | refine ZL 37 ?_))
   all_goals (first | refine Zb 35 ?_ | refine Za 35 ?_ | (refine Zj (i := 35) ?_; ((try refine Zh ?_); (first | (refine ZF ?_; try intro _)) <;> ((try simp only [kM, kN, kO]); refine Zf ?_; refine Zi ?_))))
   all_goals (first | refine Zb 38 ?_ | refine Za 38 ?_ | (refine Zj (i := 38) ?_; ((try refine Zh ?_); (first | (refine ZF ?_; try intro _)) <;> ((try simp only [kM, kN, kO]); refine Zf ?_; refine Zi ?_))))
   all_goals (refine Zz ?_; (first | refine Zb 39 ?_ | refine Za 39 ?_ | refine Yg 39 ?_); (first | refine Zb 40 ?_ | refine Za 40 ?_ | refine wPk 40 ?_); refine Yj 41 ?_; refine Zv ?_)
   repeat' (first | refine zW ?_ | intro _)
   exact qE ⟨rfl, rfl, rfl⟩
 ·have hk2 : k = n := by omega
  subst hk2
  rw [hok, Bool.and_true]
  by_cases h2 : 1 < k
  ·by_cases h4 : k ≤ 4
   ·rw [decide_eq_true h4, decide_eq_true h2]
    repeat' (first | refine zW ?_ | intro _)
    exact qE ⟨rfl, rfl, rfl⟩
   ·rw [decide_eq_false h4, Bool.and_false]
    repeat' (first | refine zW ?_ | intro _)
    exact qE ⟨rfl, rfl, rfl⟩
  ·rw [decide_eq_false h2, Bool.false_and]
   repeat' (first | refine zW ?_ | intro _)
   exact qE ⟨rfl, rfl, rfl⟩
theorem right_spec (ρ : Hp) (v : CV) (c : Cont) (h : CIn ρ v c.rows c.kids) (hir : ∀ r ∈ c.rows, r.id < 65536) (hik : ∀ k ∈ c.kids, k.id < 65536) : Spec Tryz.prog 124 [.agg ⟨contV c.kind v⟩] ρ [] (fun r ρ' L' => r = .bool (YE c) ∧ ρ' = ρ ∧ L' = []) := by
 obtain ⟨kind, rows, kids⟩ := c
 obtain ⟨ra, rn, rc, ka, kn, kc⟩ := v
 obtain ⟨hr, hk, hrb, hkb, hrc, hkc⟩ := h
 dsimp only at hr hk hrb hkb hrc hkc hir hik
 have hrl := hr.len
 have hkl := hk.len
 have hrs := rowsR_spec ρ ra rn rc rows hr hrb hir
 have hks := kidsR_spec ρ ka kn kc kids hk hkb hkc hik
 generalize hq : YE ⟨kind, rows, kids⟩ = q
 unfold YE at hq
 simp only [hrl, hkl] at hq
 refine Zd Tryz.func124 rfl rfl rfl fun u R => ?_
 simp only [Zo, List.cons_append, List.nil_append]
 by_cases k0 : kind = 0
 ·rw [if_pos k0] at hq
  by_cases hz : rn = 0
  ·by_cases hz2 : kn = 0
   ·rw [decide_eq_true (show rn + kn = 0 by omega)] at hq
    subst hq
    repeat' (first | refine zW ?_ | intro _)
    exact qE ⟨rfl, rfl, rfl⟩
   ·rw [decide_eq_false (show ¬ rn + kn = 0 by omega)] at hq
    subst hq
    repeat' (first | refine zW ?_ | intro _)
    exact qE ⟨rfl, rfl, rfl⟩
  ·rw [decide_eq_false (show ¬ rn + kn = 0 by omega)] at hq
   subst hq
   repeat' (first | refine zW ?_ | intro _)
   exact qE ⟨rfl, rfl, rfl⟩
 ·rw [if_neg k0] at hq
  by_cases k1 : kind = 1
  ·rw [if_pos k1] at hq
   by_cases hz : kn = 0
   ·rw [decide_eq_true hz, Bool.true_and] at hq
    rw [hq] at hrs
    repeat' (first | (refine Zc (.func 162) ?_; refine qC rfl rfl (hrs) ?_; rintro v ρ' L' hle ⟨rfl, rfl, rfl⟩ <;> (try simp only [kM, kN, kO])) | refine zW ?_ | intro _)
    exact qE ⟨rfl, rfl, rfl⟩
   ·rw [decide_eq_false hz, Bool.false_and] at hq
    subst hq
    repeat' (first | refine zW ?_ | intro _)
    exact qE ⟨rfl, rfl, rfl⟩
  ·rw [if_neg k1] at hq
   by_cases k2 : kind = 2
   ·rw [if_pos k2] at hq
    by_cases hz : rn = 0
    ·rw [decide_eq_true hz, Bool.true_and] at hq
     rw [hq] at hks
     repeat' (first | (refine Zc (.func 163) ?_; refine qC rfl rfl (hks) ?_; rintro v ρ' L' hle ⟨rfl, rfl, rfl⟩ <;> (try simp only [kM, kN, kO])) | refine zW ?_ | intro _)
     exact qE ⟨rfl, rfl, rfl⟩
    ·rw [decide_eq_false hz, Bool.false_and] at hq
     subst hq
     repeat' (first | refine zW ?_ | intro _)
     exact qE ⟨rfl, rfl, rfl⟩
   ·rw [if_neg k2] at hq
    subst hq
    repeat' (first | refine zW ?_ | intro _)
    exact qE ⟨rfl, rfl, rfl⟩
theorem keyR_spec (ρ : Hp) (t : Int) (id : Nat) (h0 : 0 ≤ t) (h3 : t < 256) (hid : id < 65536) :
  Spec Tryz.prog 230 [.agg ⟨keyV t id⟩] ρ [] (fun r ρ' L' => ρ' = ρ ∧ ∃ b, r = .slice (some ⟨b, 0, none⟩) 3 3 ∧ L' = [[(b, .cells ⟨(XF t id).map ZR⟩ 5 (0, 0))]]) := by
 refine Zd Tryz.func230 rfl rfl rfl fun u R => ?_
 simp only [Zo, List.cons_append, List.nil_append]
 repeat' (first | (refine Zl rfl rfl rfl rfl (by simp) rfl rfl (fun _ => ?_); simp only [tB_eq h0 h3, u8_wrap]) | refine zW ?_ | intro _)
 have e : [ZR (tB t), Value.int .u8 ((id : Int) / 2 ^ 8), ZR (UInt8.ofNat id)] = (XF t id).map ZR := by
  have e1 : (id : Int) / 2 ^ 8 = ((id / 256 : Nat) : Int) := by omega
  have e2 : Value.int .u8 ((id / 256 : Nat) : Int) = ZR (UInt8.ofNat (id / 256)) := by
   have := u8_wrap (id / 256)
   rwa [WO (by simp only [lo, hi]; omega)] at this
  rw [e1, e2]
  simp [XF, be]
 rw [e]
 exact qE ⟨rfl, _, rfl, rfl⟩
theorem shr_byte (V m : Nat) : Value.int .u8 (IntKind.u8.wrap ((V : Int) / 2 ^ (8 * m))) = ZR (UInt8.ofNat (V / 256 ^ m)) := by
 have h2 : (2 ^ (8 * m) : Nat) = 256 ^ m := by rw [Nat.pow_mul]
 have h3 : ((2 : Int) ^ (8 * m)) = ((2 ^ (8 * m) : Nat) : Int) := by rw [Int.natCast_pow]; rfl
 rw [h3, h2, ← Int.natCast_ediv, u8_wrap]
theorem be8_take_succ (V j : Nat) (hj : j < 8) : (be 8 V).take (j + 1) = (be 8 V).take j ++ [UInt8.ofNat (V / 256 ^ (7 - j))] := by
 rw [List.take_succ_eq_append_getElem (by rw [Zm]; exact hj)]
 congr 2
 rcases (show j = 0 ∨ j = 1 ∨ j = 2 ∨ j = 3 ∨ j = 4 ∨ j = 5 ∨ j = 6 ∨ j = 7 by omega) with rfl | rfl | rfl | rfl | rfl | rfl | rfl | rfl <;> rfl
theorem rowR6_spec (ρ : Hp) (r : Row) (hr : Xr r = true) (hid : r.id < 65536) :
  Spec Tryz.prog 229 [.agg ⟨rowV r⟩] ρ [] (fun v ρ' L' => ρ.le ρ' ∧ ∃ sp, OwnS v (Yf r).length ((Yf r).map ZR) sp 1 ∧ L' = [ZG v ((Yf r).map ZR) sp 5]) := by
 obtain ⟨h0, h3, h8⟩ := rowOk_iff hr
 have hlb := lenB (n := r.note.length) (by omega)
 have hkl : (XF r.t r.id).length = 3 := by simp [XF, Zm]
 refine Zd Tryz.func229 rfl rfl rfl fun u R => ?_
 simp only [Zo, List.cons_append, List.nil_append]
 repeat' (first | (refine Zc (.func 230) ?_; refine qC rfl rfl (keyR_spec _ r.t r.id h0 (by omega) hid) ?_; rintro v ρ' L' hle ⟨rfl, bk, rfl, rfl⟩ <;> (try simp only [kM, kN, kO])) | refine zW ?_ | intro _)
 rename_i b1
 rw [show (XF r.t r.id).map ZR = (XF r.t r.id ++ (be 8 (vN r.val)).take 0).map ZR by simp, own_chunk bk 3 3]
 have hown0 : OwnS (.slice (some ⟨bk, 0, none⟩) 3 3) (3 + 0) ((XF r.t r.id ++ (be 8 (vN r.val)).take 0).map ZR) [] 1 := ⟨.inr ⟨bk, 3, rfl, by simp [hkl], by simp [hkl], Nat.le_refl _⟩⟩
 generalize Value.slice (some ⟨bk, 0, none⟩) 3 3 = v0 at *
 refine Zq [(1, _), (2, _)] (fun (ζ : (Nat) × (Value) × (List Value)) => [(4, .int .i64 (7 - (ζ.1 : Int))), (3, ζ.2.1)]) (fun (ζ : (Nat) × (Value) × (List Value)) => ρ') (fun (ζ : (Nat) × (Value) × (List Value)) => [ZG ζ.2.1 ((XF r.t r.id ++ (be 8 (vN r.val)).take ζ.1).map ZR) ζ.2.2 5]) (fun (ζ : (Nat) × (Value) × (List Value)) => ζ.1 ≤ 8 ∧ OwnS ζ.2.1 (3 + ζ.1) ((XF r.t r.id ++ (be 8 (vN r.val)).take ζ.1).map ZR) ζ.2.2 1) (fun (ζ : (Nat) × (Value) × (List Value)) => 8 - ζ.1) ((0, v0, [])) (⟨Nat.zero_le _, hown0⟩) Ze Ze rfl tk ?_
 rintro ⟨j, v, sp⟩ hI
 try simp only [List.cons_append, List.nil_append, List.append_assoc, List.append_eq] at hI ⊢
 try dsimp only at hI ⊢
 obtain ⟨hj, hown⟩ := hI
 by_cases hj8 : j < 8
 ·have hsh := shr_byte (vN r.val) (7 - j)
  have hts := be8_take_succ (vN r.val) j hj8
  have hxx : (XF r.t r.id ++ (be 8 (vN r.val)).take j).map ZR ++ [ZR (UInt8.ofNat (vN r.val / 256 ^ (7 - j)))] = (XF r.t r.id ++ (be 8 (vN r.val)).take (j + 1)).map ZR := by rw [hts]; simp
  repeat' (first | (refine iCv ?_; refine tl_y (y_conv (k := .u64) rfl) rfl rfl ?_; simp only [vN_eq]) | (refine iSr ?_; refine tl_y (y_shr (c := 8 * (7 - j)) rfl rfl (by omega) (by simp only [IntKind.bits]; omega)) rfl rfl ?_) | (refine iCv ?_; refine tl_y (y_conv (k := .u8) rfl) rfl rfl ?_; rw [hsh]) | (refine Zl rfl rfl rfl rfl (by simp) rfl rfl (fun _ => ?_)) | refine zW ?_ | intro _)
  refine ZZ (ys := [ZR (UInt8.ofNat (vN r.val / 256 ^ (7 - j)))]) (m := 1) rfl rfl hown (hR := by infer_instance) SrcV.lit rfl rfl (by decide) rfl (by omega) (by omega) rfl (fun v2 sp2 hown2 => ?_)
  rw [hxx] at hown2 ⊢
  repeat' (first | refine zW ?_ | intro _)
  have e7 : (7 - (j : Int) - 1) = 7 - ((j + 1 : Nat) : Int) := by omega
  rw [e7]
  refine Zg (j + 1, v2, sp2) (⟨hj8, hown2⟩) Ze Ze rfl tk inferInstance (by first | omega | (dsimp only; omega))
 ·obtain rfl : j = 8 := by omega
  have e8 : (be 8 (vN r.val)).take 8 = be 8 (vN r.val) := List.take_of_length_le (by rw [Zm]; exact Nat.le_refl _)
  rw [e8] at hown ⊢
  repeat' (first | refine zW ?_ | intro _)
  refine Zu (Zk _ _ ([[(b1, .cells ⟨rowV r⟩ 58 (0, 0))]])) (Zw (hT := tk) (Hp.le_refl _)) ?_
  all_goals (refine Zx 0 ?_; refine ZN 1 ?_; refine ZQ 2 ?_; refine rBi 3 ?_; refine rCv 4 ?_; refine ZN 7 ?_; refine ZQ 8 ?_)
  all_goals (refine Zj (i := 5) ?_; ((try refine Zh ?_); (first | (refine Zl rfl rfl rfl rfl (by simp) rfl rfl (fun _ => ?_); simp only [hlb]) | (refine ZF ?_; try intro _)) <;> ((try simp only [kM, kN, kO]); refine Zf ?_; refine Zi ?_)))
  all_goals (refine Zj (i := 6) ?_; ((try refine Zh ?_); (first | (refine ZZ (ys := [ZR (UInt8.ofNat r.note.length)]) (m := 1) rfl rfl hown (hR := by infer_instance) SrcV.lit rfl rfl (by decide) rfl (by omega) (by omega) rfl (fun v4 sp4 hown4 => ?_)) | (refine tl_app_str (l := r.note) rfl rfl hown4 (hR := by infer_instance) (by omega) rfl (fun v5 sp5 hown5 => ?_)) | (refine ZF ?_; try intro _)) <;> ((try simp only [kM, kN, kO]); refine Zf ?_; refine Zi ?_)))
  all_goals (refine Zj (i := 9) ?_; ((try refine Zh ?_); (first | (refine ZZ (ys := [ZR (UInt8.ofNat r.note.length)]) (m := 1) rfl rfl hown (hR := by infer_instance) SrcV.lit rfl rfl (by decide) rfl (by omega) (by omega) rfl (fun v4 sp4 hown4 => ?_)) | (refine tl_app_str (l := r.note) rfl rfl hown4 (hR := by infer_instance) (by omega) rfl (fun v5 sp5 hown5 => ?_)) | (refine ZF ?_; try intro _)) <;> ((try simp only [kM, kN, kO]); refine Zf ?_; refine Zi ?_)))
  all_goals (refine Zz ?_; refine rAs 10 ?_; refine Zv ?_)
  have e : (XF r.t r.id ++ be 8 (vN r.val)).map ZR ++ [ZR (UInt8.ofNat r.note.length)] ++ r.note.map ZR = (Yf r).map ZR := by simp [Yf]
  have e2 : 3 + 8 + 1 + r.note.length = (Yf r).length := by simp [Yf, hkl, Zm]; omega
  rw [e] at hown5 ⊢
  repeat' (first | refine zW ?_ | intro _)
  rw [e2] at hown5
  exact qE ⟨Hp.le_refl _, sp5, hown5, rfl⟩
end Go.Proofs.E
