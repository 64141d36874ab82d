/- The law RecordReads. Part 7 of 21. -/
import Derived.Test.YtjajdpfdhokkhaaGreatV6
namespace Go.Proofs.E
open Go
set_option linter.unusedVariables false
set_option linter.unusedSimpArgs false
set_option linter.unusedSectionVars false
set_option maxRecDepth 4000
set_option maxHeartbeats 1000000
attribute [local irreducible] Yl TL TC TE Spec XW R1 Hp.le EnvLe TS TR YS Zv
theorem psTo_mem {l : List Kid} {k : Nat} {p : Int} : p ∈ psTo l k ↔ ∃ x ∈ l.take k, x.page = p := by simp only [psTo, List.mem_reverse, List.mem_map]
theorem kidsR_spec (ρ : Hp) (a : Option Addr) (n c : Nat) (l : List Kid) (h : AIn ρ 3 Xs a n l) (hn : n ≤ 1000000) (hnc : n ≤ c) (hid : ∀ r ∈ l, r.id < 65536) :
  Spec Tryz.prog 246 [.slice a n c] ρ [] (fun v ρ' L' => v = .bool (decide (1 < n) && kidsOk l) ∧ ρ' = ρ ∧ L' = []) := by
 have hl := h.len
 unfold kidsOk
 rw [risesB_split, hl]
 refine Zf Tryz.func246 rfl rfl rfl fun u R => ?_
 simp only [Zx, List.cons_append, List.nil_append]
 generalize hrt : (fun (i : Nat) (k : Kid) => kidOk i (psTo l i) k) = rt
 repeat' (first | (refine Zj ?_; first | (refine Zg ?_; refine qQ ?_) | refine Zl ?_) | refine Za ?_ | (refine Zi ?_; refine Zq ?_) | (refine Zh ?_; refine Zp ?_) | intro _)
 refine Zy [(0, _), (2, _), (7, _), (8, _)] (fun (ζ : (Nat)) => [(9, .int .i64 ζ)]) (fun (ζ : (Nat)) => ρ) (fun (ζ : (Nat)) => []) (fun (ζ : (Nat)) => ζ ≤ n ∧ ZH n rt ltK l ζ = true) (fun (ζ : (Nat)) => n - ζ) (0) (⟨Nat.zero_le _, by rw [ZH, hl]; exact decide_eq_true (Nat.le_refl _)⟩) Zk Zk rfl tk ?_
 rintro k hI
 try simp only [List.cons_append, List.nil_append, List.append_assoc, List.append_eq] at hI ⊢
 try dsimp only at hI ⊢
 obtain ⟨hk, hok⟩ := hI
 by_cases hlt : k < n
 ·have hsub := h.take (hi' := k) (by omega)
  obtain ⟨b, off, C, T, fr, rfl, hb, hfit, hc⟩ := h.get (show k < l.length by omega)
  have hs := YZ (most := n) (right := rt) (lt := ltK) (show k < l.length by omega)
  rw [hok, Bool.true_and] at hs
  have hrk : rt k (l[k]'(by omega)) = kidOk k (psTo l k) (l[k]'(by omega)) := by rw [← hrt]
  rw [hrk] at hs
  have hfin := fun (e : ZH n rt ltK l (k + 1) = false) => YO e (show k + 1 ≤ n by omega)
  have hmem : l[k]'(by omega) ∈ l := List.getElem_mem _
  have hidk := hid _ hmem
  have hx : ∀ P : Prop, (kidOk k (psTo l k) (l[k]'(by omega)) = true → P) → ¬ P → (decide (1 < n) && (decide (n ≤ 4) && ZH n rt ltK l n)) = false := fun P h1 h2 => by
   have : kidOk k (psTo l k) (l[k]'(by omega)) = false := by
    cases e : kidOk k (psTo l k) (l[k]'(by omega))
    ·rfl
    ·exact absurd (h1 e) h2
   rw [this, Bool.false_and] at hs
   rw [hfin hs]; simp
  have hkx : kidOk k (psTo l k) (l[k]'(by omega)) = true → (l[k]'(by omega)).page ∉ psTo l k ∧ 0 < (l[k]'(by omega)).page ∧ (l[k]'(by omega)).page < 64 ∧ (0 ≤ (l[k]'(by omega)).t ∧ (l[k]'(by omega)).t < 3) ∧ (0 < k ∨ ((l[k]'(by omega)).t = 0 ∧ (l[k]'(by omega)).id = 0)) := fun e => of_decide_eq_true e
  generalize hX : l[k]'(by omega) = x at *
  by_cases p0 : 0 < x.page
  ·by_cases p6 : x.page < 64
   ·by_cases ht : 0 ≤ x.t ∧ x.t < 3
    ·have hd : decide (0 ≤ x.t ∧ x.t < 3) = true := decide_eq_true ht
     by_cases hk0 : k = 0
     ·by_cases hz : x.t = 0 ∧ x.id = 0
      ·have hkk : ((x.t == 0) && (((x.id : Int) == 0) && true)) = true := by simp [hz.1, hz.2]
       repeat' (first | (refine Zj ?_; first | (refine Zg ?_; refine qQ ?_) | refine Zl ?_) | refine Za ?_ | (refine Zi ?_; refine Zq ?_) | (refine Zh ?_; refine Zp ?_) | intro _)
       rename_i b4
       refine ZI (Zv _ _ _) ZC ?_
       all_goals (refine rFa 0 ?_; refine Yr 1 ?_; refine rCm 2 ?_; refine Ye 3 ?_; (first | refine Zd 4 ?_ | refine Zb 4 ?_ | refine wFa 4 ?_); (first | refine Zd 5 ?_ | refine Zb 5 ?_ | refine wLd 5 ?_); (first | refine Zd 6 ?_ | refine Zb 6 ?_ | refine wCm 6 ?_); refine rPk 7 ?_; refine Ye 8 ?_; (first | refine Zd 9 ?_ | refine Zb 9 ?_ | refine wFa 9 ?_); (first | refine Zd 10 ?_ | refine Zb 10 ?_ | refine wFa 10 ?_); (first | refine Zd 11 ?_ | refine Zb 11 ?_ | refine wLd 11 ?_))
       all_goals (first | refine Zd 12 ?_ | refine Zb 12 ?_ | (refine Zt (i := 12) ?_; ((try refine Zr ?_); (first | (refine Zc (.func 243) ?_; refine qC rfl rfl (YN _ _) ?_; rintro v ρ' L' hle ⟨rfl, rfl, rfl⟩ <;> (try simp only [kM, kN, kO, hd])) | (refine Zl ?_; try intro _)) <;> ((try simp only [kM, kN, kO]); refine Za ?_; refine Zs ?_))))
       all_goals ((first | refine Zd 13 ?_ | refine Zb 13 ?_ | refine wUn 13 ?_); refine rPk 14 ?_; refine Ye 15 ?_; (first | refine Zd 16 ?_ | refine Zb 16 ?_ | refine ZT 16 ?_); (first | refine Zd 17 ?_ | refine Zb 17 ?_ | refine wCm 17 ?_); (first | refine Zd 18 ?_ | refine Zb 18 ?_ | refine ZT 18 ?_); (first | refine Zd 19 ?_ | refine Zb 19 ?_ | refine wFa 19 ?_); (first | refine Zd 20 ?_ | refine Zb 20 ?_ | refine wLd 20 ?_); (first | refine Zd 21 ?_ | refine Zb 21 ?_ | refine wBu 21 ?_); (first | refine Zd 22 ?_ | refine Zb 22 ?_ | refine wCm 22 ?_); (first | refine Zd 23 ?_ | refine Zb 23 ?_ | refine wPk 23 ?_); refine rPk 24 ?_; refine Ye 25 ?_; (first | refine Zd 26 ?_ | refine Zb 26 ?_ | refine ZT 26 ?_); (first | refine Zd 27 ?_ | refine Zb 27 ?_ | refine wCm 27 ?_); (first | refine Zd 28 ?_ | refine Zb 28 ?_ | refine ZT 28 ?_); (first | refine Zd 29 ?_ | refine Zb 29 ?_ | refine ZT 29 ?_); (first | refine Zd 30 ?_ | refine Zb 30 ?_ | refine ZT 30 ?_); (first | refine Zd 31 ?_ | refine Zb 31 ?_ | refine wSb 31 ?_); (first | refine Zd 32 ?_ | refine Zb 32 ?_ | refine wIa 32 ?_); (first | refine Zd 33 ?_ | refine Zb 33 ?_ | refine wFa 33 ?_); (first | refine Zd 34 ?_ | refine Zb 34 ?_ | refine wLd 34 ?_); (first | refine Zd 36 ?_ | refine Zb 36 ?_ | refine wFa 36 ?_); (first | refine Zd 37 ?_ | refine Zb 37 ?_ | refine wLd 37 ?_))
       all_goals (first | refine Zd 35 ?_ | refine Zb 35 ?_ | (refine Zt (i := 35) ?_; ((try refine Zr ?_); (first | (refine Zl ?_; try intro _)) <;> ((try simp only [kM, kN, kO]); refine Za ?_; refine Zs ?_))))
       all_goals (first | refine Zd 38 ?_ | refine Zb 38 ?_ | (refine Zt (i := 38) ?_; ((try refine Zr ?_); (first | (refine Zl ?_; try intro _)) <;> ((try simp only [kM, kN, kO]); refine Za ?_; refine Zs ?_))))
       all_goals (refine Yi ?_; (first | refine Zd 39 ?_ | refine Zb 39 ?_ | refine wCm 39 ?_); (first | refine Zd 40 ?_ | refine Zb 40 ?_ | refine wPk 40 ?_); refine rPk 41 ?_; refine ZP ?_)
       repeat' (first | (refine Zj ?_; first | (refine Zg ?_; refine qQ ?_) | refine Zl ?_) | refine Za ?_ | (refine Zi ?_; refine Zq ?_) | (refine Zh ?_; refine Zp ?_) | intro _)
       simp only [Int.toNat_natCast]
       refine Zy [(0, _), (2, _), (4, _), (7, _), (8, _), (9, _), (58, _), (59, _)] (fun (ζ : (Nat)) => [(60, .int .i64 ζ)]) (fun (ζ : (Nat)) => ρ') (fun (ζ : (Nat)) => [[(b4, .cells ⟨Xs x⟩ 224 (0, 0))]]) (fun (ζ : (Nat)) => ζ ≤ k ∧ ∀ y ∈ l.take ζ, y.page ≠ x.page) (fun (ζ : (Nat)) => k - ζ) (0) (⟨Nat.zero_le _, by simp⟩) Zk Zk rfl tk ?_
       rintro j hI
       try simp only [List.cons_append, List.nil_append, List.append_assoc, List.append_eq] at hI ⊢
       try dsimp only at hI ⊢
       obtain ⟨hj, hjo⟩ := hI
       by_cases hjk : j < k
       ·exact absurd hjk (by omega)
       ·have hj2 : j = k := by omega
        subst hj2
        have hke : kidOk j (psTo l j) x = true := decide_eq_true ⟨fun e => by obtain ⟨y, hy, he⟩ := psTo_mem.1 e; exact hjo y hy he, p0, p6, ht, .inr hz⟩
        rw [hke, Bool.true_and] at hs
        have hs' : ZH n rt ltK l (j + 1) = true := by rw [hs]; simp [hk0]
        repeat' (first | (refine Zj ?_; first | (refine Zg ?_; refine qQ ?_) | refine Zl ?_) | refine Za ?_ | (refine Zi ?_; refine Zq ?_) | (refine Zh ?_; refine Zp ?_) | intro _)
        refine Zo (j + 1) (⟨hlt, hs'⟩) Zk Zk rfl tk inferInstance (by first | omega | (dsimp only; omega))
      ·have hkk : ((x.t == 0) && (((x.id : Int) == 0) && true)) = false := by
        simp; intro h; exact fun h' => hz ⟨h, by omega⟩
       rw [hx (0 < k ∨ (x.t = 0 ∧ x.id = 0)) (fun e => (hkx e).2.2.2.2) (fun e => e.elim (by omega) hz)]
       repeat' (first | (refine Zj ?_; first | (refine Zg ?_; refine qQ ?_) | refine Zl ?_) | refine Za ?_ | (refine Zi ?_; refine Zq ?_) | (refine Zh ?_; refine Zp ?_) | intro _)
       refine ZI (Zv _ _ _) ZC ?_
       all_goals (refine rFa 0 ?_; refine Yr 1 ?_; refine rCm 2 ?_; refine Ye 3 ?_; (first | refine Zd 4 ?_ | refine Zb 4 ?_ | refine wFa 4 ?_); (first | refine Zd 5 ?_ | refine Zb 5 ?_ | refine wLd 5 ?_); (first | refine Zd 6 ?_ | refine Zb 6 ?_ | refine wCm 6 ?_); refine rPk 7 ?_; refine Ye 8 ?_; (first | refine Zd 9 ?_ | refine Zb 9 ?_ | refine wFa 9 ?_); (first | refine Zd 10 ?_ | refine Zb 10 ?_ | refine wFa 10 ?_); (first | refine Zd 11 ?_ | refine Zb 11 ?_ | refine wLd 11 ?_))
       all_goals (first | refine Zd 12 ?_ | refine Zb 12 ?_ | (refine Zt (i := 12) ?_; ((try refine Zr ?_); (first | (refine Zc (.func 243) ?_; refine qC rfl rfl (YN _ _) ?_; rintro v ρ' L' hle ⟨rfl, rfl, rfl⟩ <;> (try simp only [kM, kN, kO, hd])) | (refine Zl ?_; try intro _)) <;> ((try simp only [kM, kN, kO]); refine Za ?_; refine Zs ?_))))
       all_goals ((first | refine Zd 13 ?_ | refine Zb 13 ?_ | refine wUn 13 ?_); refine rPk 14 ?_; refine Ye 15 ?_; (first | refine Zd 16 ?_ | refine Zb 16 ?_ | refine ZT 16 ?_); (first | refine Zd 17 ?_ | refine Zb 17 ?_ | refine wCm 17 ?_); (first | refine Zd 18 ?_ | refine Zb 18 ?_ | refine ZT 18 ?_); (first | refine Zd 19 ?_ | refine Zb 19 ?_ | refine wFa 19 ?_); (first | refine Zd 20 ?_ | refine Zb 20 ?_ | refine wLd 20 ?_); (first | refine Zd 21 ?_ | refine Zb 21 ?_ | refine wBu 21 ?_); (first | refine Zd 22 ?_ | refine Zb 22 ?_ | refine wCm 22 ?_); (first | refine Zd 23 ?_ | refine Zb 23 ?_ | refine wPk 23 ?_); refine rPk 24 ?_; refine Ye 25 ?_; (first | refine Zd 26 ?_ | refine Zb 26 ?_ | refine ZT 26 ?_); (first | refine Zd 27 ?_ | refine Zb 27 ?_ | refine wCm 27 ?_); (first | refine Zd 28 ?_ | refine Zb 28 ?_ | refine ZT 28 ?_); (first | refine Zd 29 ?_ | refine Zb 29 ?_ | refine ZT 29 ?_); (first | refine Zd 30 ?_ | refine Zb 30 ?_ | refine ZT 30 ?_); (first | refine Zd 31 ?_ | refine Zb 31 ?_ | refine wSb 31 ?_); (first | refine Zd 32 ?_ | refine Zb 32 ?_ | refine wIa 32 ?_); (first | refine Zd 33 ?_ | refine Zb 33 ?_ | refine wFa 33 ?_); (first | refine Zd 34 ?_ | refine Zb 34 ?_ | refine wLd 34 ?_); (first | refine Zd 36 ?_ | refine Zb 36 ?_ | refine wFa 36 ?_); (first | refine Zd 37 ?_ | refine Zb 37 ?_ | refine wLd 37 ?_))
       all_goals (first | refine Zd 35 ?_ | refine Zb 35 ?_ | (refine Zt (i := 35) ?_; ((try refine Zr ?_); (first | (refine Zl ?_; try intro _)) <;> ((try simp only [kM, kN, kO]); refine Za ?_; refine Zs ?_))))
       all_goals (first | refine Zd 38 ?_ | refine Zb 38 ?_ | (refine Zt (i := 38) ?_; ((try refine Zr ?_); (first | (refine Zl ?_; try intro _)) <;> ((try simp only [kM, kN, kO]); refine Za ?_; refine Zs ?_))))
       all_goals (refine Yi ?_; (first | refine Zd 39 ?_ | refine Zb 39 ?_ | refine wCm 39 ?_); (first | refine Zd 40 ?_ | refine Zb 40 ?_ | refine wPk 40 ?_); refine rPk 41 ?_; refine ZP ?_)
       repeat' (first | (refine Zj ?_; first | (refine Zg ?_; refine qQ ?_) | refine Zl ?_) | refine Za ?_ | (refine Zi ?_; refine Zq ?_) | (refine Zh ?_; refine Zp ?_) | intro _)
       exact qE ⟨rfl, rfl, rfl⟩
     ·have hdk : decide (k = 0) = false := decide_eq_false hk0
      rw [hdk, Bool.false_or] at hs
      obtain ⟨b2, off2, C2, T2, fr2, f1, hb2, hfit2, hc2⟩ := h.get (show k - 1 < l.length by omega)
      cases f1
      rw [hb] at hb2
      cases hb2
      have ek : ((k : Int) - 1).toNat = k - 1 := by omega
      have hkey : List.take 2 (List.drop (off + ((k : Int) - 1).toNat * 3) C) = keyV (l[k - 1]'(by omega)).t (l[k - 1]'(by omega)).id := by
       rw [ek]
       have := congrArg (List.take 2) hc2
       rw [List.take_take] at this
       exact this
      have hfit3 : off + ((k : Int) - 1).toNat * 3 + 2 ≤ C.length := by rw [ek]; omega
      obtain ⟨g1, g2⟩ := Wt hok (by omega)
      have hrp := (g2 (k - 1) (by omega) (by omega)).1
      have hrk1 : rt (k - 1) (l[k - 1]'(by omega)) = kidOk (k - 1) (psTo l (k - 1)) (l[k - 1]'(by omega)) := by rw [← hrt]
      rw [hrk1] at hrp
      have hrt2 := (of_decide_eq_true hrp).2.2.2.1
      have hidp := hid _ (List.getElem_mem (show k - 1 < l.length by omega))
      clear hc2 hfit2 hrk hrk1 hrp
      generalize l[k - 1]'(by omega) = y at *
      have hor := order_lt (t1 := y.t) (t2 := x.t) hidp hidk
      unfold ltK at hs
      by_cases hcm : cmpK y.t y.id x.t x.id < 0
      ·rw [decide_eq_true hcm] at hs
       have hcm2 := hor.1 hcm
       repeat' (first | (refine Zj ?_; first | (refine Zg ?_; refine qQ ?_) | refine Zl ?_) | refine Za ?_ | (refine Zi ?_; refine Zq ?_) | (refine Zh ?_; refine Zp ?_) | intro _)
       rename_i b4
       refine ZI (Zv _ _ _) ZC ?_
       all_goals (refine rFa 0 ?_; refine Yr 1 ?_; refine rCm 2 ?_; refine Ye 3 ?_; (first | refine Zd 4 ?_ | refine Zb 4 ?_ | refine wFa 4 ?_); (first | refine Zd 5 ?_ | refine Zb 5 ?_ | refine wLd 5 ?_); (first | refine Zd 6 ?_ | refine Zb 6 ?_ | refine wCm 6 ?_); refine rPk 7 ?_; refine Ye 8 ?_; (first | refine Zd 9 ?_ | refine Zb 9 ?_ | refine wFa 9 ?_); (first | refine Zd 10 ?_ | refine Zb 10 ?_ | refine wFa 10 ?_); (first | refine Zd 11 ?_ | refine Zb 11 ?_ | refine wLd 11 ?_))
       all_goals (first | refine Zd 12 ?_ | refine Zb 12 ?_ | (refine Zt (i := 12) ?_; ((try refine Zr ?_); (first | (refine Zc (.func 243) ?_; refine qC rfl rfl (YN _ _) ?_; rintro v ρ' L' hle ⟨rfl, rfl, rfl⟩ <;> (try simp only [kM, kN, kO, hd])) | (refine Zl ?_; try intro _)) <;> ((try simp only [kM, kN, kO]); refine Za ?_; refine Zs ?_))))
       all_goals ((first | refine Zd 13 ?_ | refine Zb 13 ?_ | refine wUn 13 ?_); refine rPk 14 ?_; refine Ye 15 ?_; (first | refine Zd 16 ?_ | refine Zb 16 ?_ | refine ZT 16 ?_); (first | refine Zd 17 ?_ | refine Zb 17 ?_ | refine wCm 17 ?_); (first | refine Zd 18 ?_ | refine Zb 18 ?_ | refine ZT 18 ?_); (first | refine Zd 19 ?_ | refine Zb 19 ?_ | refine wFa 19 ?_); (first | refine Zd 20 ?_ | refine Zb 20 ?_ | refine wLd 20 ?_); (first | refine Zd 21 ?_ | refine Zb 21 ?_ | refine wBu 21 ?_); (first | refine Zd 22 ?_ | refine Zb 22 ?_ | refine wCm 22 ?_); (first | refine Zd 23 ?_ | refine Zb 23 ?_ | refine wPk 23 ?_); refine rPk 24 ?_; refine Ye 25 ?_; (first | refine Zd 26 ?_ | refine Zb 26 ?_ | refine ZT 26 ?_); (first | refine Zd 27 ?_ | refine Zb 27 ?_ | refine wCm 27 ?_); (first | refine Zd 28 ?_ | refine Zb 28 ?_ | refine ZT 28 ?_); (first | refine Zd 29 ?_ | refine Zb 29 ?_ | refine ZT 29 ?_); (first | refine Zd 30 ?_ | refine Zb 30 ?_ | refine ZT 30 ?_); (first | refine Zd 31 ?_ | refine Zb 31 ?_ | refine wSb 31 ?_); (first | refine Zd 32 ?_ | refine Zb 32 ?_ | refine wIa 32 ?_); (first | refine Zd 33 ?_ | refine Zb 33 ?_ | refine wFa 33 ?_); (first | refine Zd 34 ?_ | refine Zb 34 ?_ | refine wLd 34 ?_); (first | refine Zd 36 ?_ | refine Zb 36 ?_ | refine wFa 36 ?_); (first | refine Zd 37 ?_ | refine Zb 37 ?_ | refine wLd 37 ?_))
       all_goals (first | refine Zd 35 ?_ | refine Zb 35 ?_ | (refine Zt (i := 35) ?_; ((try refine Zr ?_); (first | (refine Zc (.func 281) ?_; refine qC rfl rfl (YG _ y.t y.id hrt2.1 hrt2.2 hidp) ?_; rintro v ρ' L' hle ⟨rfl, rfl, rfl⟩ <;> (try simp only [kM, kN, kO])) | (refine Zc (.func 281) ?_; refine qC rfl rfl (YG _ x.t x.id ht.1 ht.2 hidk) ?_; rintro v ρ' L' hle ⟨rfl, rfl, rfl⟩ <;> (try simp only [kM, kN, kO])) | (refine Zl ?_; try intro _)) <;> ((try simp only [kM, kN, kO]); refine Za ?_; refine Zs ?_))))
       all_goals (first | refine Zd 38 ?_ | refine Zb 38 ?_ | (refine Zt (i := 38) ?_; ((try refine Zr ?_); (first | (refine Zc (.func 281) ?_; refine qC rfl rfl (YG _ y.t y.id hrt2.1 hrt2.2 hidp) ?_; rintro v ρ' L' hle ⟨rfl, rfl, rfl⟩ <;> (try simp only [kM, kN, kO])) | (refine Zc (.func 281) ?_; refine qC rfl rfl (YG _ x.t x.id ht.1 ht.2 hidk) ?_; rintro v ρ' L' hle ⟨rfl, rfl, rfl⟩ <;> (try simp only [kM, kN, kO])) | (refine Zl ?_; try intro _)) <;> ((try simp only [kM, kN, kO]); refine Za ?_; refine Zs ?_))))
       all_goals (refine Yi ?_; (first | refine Zd 39 ?_ | refine Zb 39 ?_ | refine wCm 39 ?_); (first | refine Zd 40 ?_ | refine Zb 40 ?_ | refine wPk 40 ?_); refine rPk 41 ?_; refine ZP ?_)
       repeat' (first | (refine Zj ?_; first | (refine Zg ?_; refine qQ ?_) | refine Zl ?_) | refine Za ?_ | (refine Zi ?_; refine Zq ?_) | (refine Zh ?_; refine Zp ?_) | intro _)
       simp only [Int.toNat_natCast]
       refine Zy [(0, _), (2, _), (4, _), (7, _), (8, _), (9, _), (58, _), (59, _)] (fun (ζ : (Nat)) => [(60, .int .i64 ζ)]) (fun (ζ : (Nat)) => ρ') (fun (ζ : (Nat)) => [[(b4, .cells ⟨Xs x⟩ 224 (0, 0))]]) (fun (ζ : (Nat)) => ζ ≤ k ∧ ∀ y ∈ l.take ζ, y.page ≠ x.page) (fun (ζ : (Nat)) => k - ζ) (0) (⟨Nat.zero_le _, by simp⟩) Zk Zk rfl tk ?_
       rintro j hI
       try simp only [List.cons_append, List.nil_append, List.append_assoc, List.append_eq] at hI ⊢
       try dsimp only at hI ⊢
       obtain ⟨hj, hjo⟩ := hI
       by_cases hjk : j < k
       ·obtain ⟨b3, off3, C3, T3, fr3, f3, hb3, hfit3, hc3⟩ := h.get (show j < l.length by omega)
        cases f3
        rw [hb] at hb3
        cases hb3
        have htj := List.take_succ_eq_append_getElem (show j < l.length by omega)
        have hjm : l[j]'(by omega) ∈ l.take k := by
         rw [List.mem_take_iff_getElem]
         exact ⟨j, by omega, rfl⟩
        generalize hZ : l[j]'(by omega) = z at *
        by_cases hp : z.page = x.page
        ·rw [hx (x.page ∉ psTo l k) (fun e => (hkx e).1) (fun e => e (psTo_mem.2 ⟨z, hjm, hp⟩))]
         repeat' (first | (refine Zj ?_; first | (refine Zg ?_; refine qQ ?_) | refine Zl ?_) | refine Za ?_ | (refine Zi ?_; refine Zq ?_) | (refine Zh ?_; refine Zp ?_) | intro _)
         exact qE ⟨rfl, rfl, rfl⟩
        ·have hjn : ∀ y ∈ l.take (j + 1), y.page ≠ x.page := by
           intro y hy
           rw [htj] at hy
           rcases List.mem_append.1 hy with hy | hy
           ·exact hjo y hy
           ·rw [List.mem_singleton.1 hy]; exact hp
         repeat' (first | (refine Zj ?_; first | (refine Zg ?_; refine qQ ?_) | refine Zl ?_) | refine Za ?_ | (refine Zi ?_; refine Zq ?_) | (refine Zh ?_; refine Zp ?_) | intro _)
         refine Zo (j + 1) (⟨hjk, hjn⟩) Zk Zk rfl tk inferInstance (by first | omega | (dsimp only; omega))
       ·have hj2 : j = k := by omega
        subst hj2
        have hke : kidOk j (psTo l j) x = true := decide_eq_true ⟨fun e => by obtain ⟨y, hy, he⟩ := psTo_mem.1 e; exact hjo y hy he, p0, p6, ht, .inl (by omega)⟩
        rw [hke, Bool.true_and] at hs
        have hs' : ZH n rt ltK l (j + 1) = true := hs
        repeat' (first | (refine Zj ?_; first | (refine Zg ?_; refine qQ ?_) | refine Zl ?_) | refine Za ?_ | (refine Zi ?_; refine Zq ?_) | (refine Zh ?_; refine Zp ?_) | intro _)
        refine Zo (j + 1) (⟨hlt, hs'⟩) Zk Zk rfl tk inferInstance (by first | omega | (dsimp only; omega))
      ·rw [decide_eq_false hcm, Bool.and_false] at hs
       have hcm2 : ¬ (y.t * 65536 + y.id < x.t * 65536 + x.id) := fun h => hcm (hor.2 h)
       rw [hfin hs]
       simp only [Bool.and_false]
       repeat' (first | (refine Zj ?_; first | (refine Zg ?_; refine qQ ?_) | refine Zl ?_) | refine Za ?_ | (refine Zi ?_; refine Zq ?_) | (refine Zh ?_; refine Zp ?_) | intro _)
       refine ZI (Zv _ _ _) ZC ?_
       all_goals (refine rFa 0 ?_; refine Yr 1 ?_; refine rCm 2 ?_; refine Ye 3 ?_; (first | refine Zd 4 ?_ | refine Zb 4 ?_ | refine wFa 4 ?_); (first | refine Zd 5 ?_ | refine Zb 5 ?_ | refine wLd 5 ?_); (first | refine Zd 6 ?_ | refine Zb 6 ?_ | refine wCm 6 ?_); refine rPk 7 ?_; refine Ye 8 ?_; (first | refine Zd 9 ?_ | refine Zb 9 ?_ | refine wFa 9 ?_); (first | refine Zd 10 ?_ | refine Zb 10 ?_ | refine wFa 10 ?_); (first | refine Zd 11 ?_ | refine Zb 11 ?_ | refine wLd 11 ?_))
       all_goals (first | refine Zd 12 ?_ | refine Zb 12 ?_ | (refine Zt (i := 12) ?_; ((try refine Zr ?_); (first | (refine Zc (.func 243) ?_; refine qC rfl rfl (YN _ _) ?_; rintro v ρ' L' hle ⟨rfl, rfl, rfl⟩ <;> (try simp only [kM, kN, kO, hd])) | (refine Zl ?_; try intro _)) <;> ((try simp only [kM, kN, kO]); refine Za ?_; refine Zs ?_))))
       all_goals ((first | refine Zd 13 ?_ | refine Zb 13 ?_ | refine wUn 13 ?_); refine rPk 14 ?_; refine Ye 15 ?_; (first | refine Zd 16 ?_ | refine Zb 16 ?_ | refine ZT 16 ?_); (first | refine Zd 17 ?_ | refine Zb 17 ?_ | refine wCm 17 ?_); (first | refine Zd 18 ?_ | refine Zb 18 ?_ | refine ZT 18 ?_); (first | refine Zd 19 ?_ | refine Zb 19 ?_ | refine wFa 19 ?_); (first | refine Zd 20 ?_ | refine Zb 20 ?_ | refine wLd 20 ?_); (first | refine Zd 21 ?_ | refine Zb 21 ?_ | refine wBu 21 ?_); (first | refine Zd 22 ?_ | refine Zb 22 ?_ | refine wCm 22 ?_); (first | refine Zd 23 ?_ | refine Zb 23 ?_ | refine wPk 23 ?_); refine rPk 24 ?_; refine Ye 25 ?_; (first | refine Zd 26 ?_ | refine Zb 26 ?_ | refine ZT 26 ?_); (first | refine Zd 27 ?_ | refine Zb 27 ?_ | refine wCm 27 ?_); (first | refine Zd 28 ?_ | refine Zb 28 ?_ | refine ZT 28 ?_); (first | refine Zd 29 ?_ | refine Zb 29 ?_ | refine ZT 29 ?_); (first | refine Zd 30 ?_ | refine Zb 30 ?_ | refine ZT 30 ?_); (first | refine Zd 31 ?_ | refine Zb 31 ?_ | refine wSb 31 ?_); (first | refine Zd 32 ?_ | refine Zb 32 ?_ | refine wIa 32 ?_); (first | refine Zd 33 ?_ | refine Zb 33 ?_ | refine wFa 33 ?_); (first | refine Zd 34 ?_ | refine Zb 34 ?_ | refine wLd 34 ?_); (first | refine Zd 36 ?_ | refine Zb 36 ?_ | refine wFa 36 ?_); (first | refine Zd 37 ?_ | refine Zb 37 ?_ | refine wLd 37 ?_))
       all_goals (first | refine Zd 35 ?_ | refine Zb 35 ?_ | (refine Zt (i := 35) ?_; ((try refine Zr ?_); (first | (refine Zc (.func 281) ?_; refine qC rfl rfl (YG _ y.t y.id hrt2.1 hrt2.2 hidp) ?_; rintro v ρ' L' hle ⟨rfl, rfl, rfl⟩ <;> (try simp only [kM, kN, kO])) | (refine Zc (.func 281) ?_; refine qC rfl rfl (YG _ x.t x.id ht.1 ht.2 hidk) ?_; rintro v ρ' L' hle ⟨rfl, rfl, rfl⟩ <;> (try simp only [kM, kN, kO])) | (refine Zl ?_; try intro _)) <;> ((try simp only [kM, kN, kO]); refine Za ?_; refine Zs ?_))))
       all_goals (first | refine Zd 38 ?_ | refine Zb 38 ?_ | (refine Zt (i := 38) ?_; ((try refine Zr ?_); (first | (refine Zc (.func 281) ?_; refine qC rfl rfl (YG _ y.t y.id hrt2.1 hrt2.2 hidp) ?_; rintro v ρ' L' hle ⟨rfl, rfl, rfl⟩ <;> (try simp only [kM, kN, kO])) | (refine Zc (.func 281) ?_; refine qC rfl rfl (YG _ x.t x.id ht.1 ht.2 hidk) ?_; rintro v ρ' L' hle ⟨rfl, rfl, rfl⟩ <;> (try simp only [kM, kN, kO])) | (refine Zl ?_; try intro _)) <;> ((try simp only [kM, kN, kO]); refine Za ?_; refine Zs ?_))))
       all_goals (refine Yi ?_; (first | refine Zd 39 ?_ | refine Zb 39 ?_ | refine wCm 39 ?_); (first | refine Zd 40 ?_ | refine Zb 40 ?_ | refine wPk 40 ?_); refine rPk 41 ?_; refine ZP ?_)
       repeat' (first | (refine Zj ?_; first | (refine Zg ?_; refine qQ ?_) | refine Zl ?_) | refine Za ?_ | (refine Zi ?_; refine Zq ?_) | (refine Zh ?_; refine Zp ?_) | intro _)
       exact qE ⟨rfl, rfl, rfl⟩
    ·have hd : decide (0 ≤ x.t ∧ x.t < 3) = false := decide_eq_false ht
     rw [hx (0 ≤ x.t ∧ x.t < 3) (fun e => (hkx e).2.2.2.1) ht]
     repeat' (first | (refine Zj ?_; first | (refine Zg ?_; refine qQ ?_) | refine Zl ?_) | refine Za ?_ | (refine Zi ?_; refine Zq ?_) | (refine Zh ?_; refine Zp ?_) | intro _)
     refine ZI (Zv _ _ _) ZC ?_
     all_goals (refine rFa 0 ?_; refine Yr 1 ?_; refine rCm 2 ?_; refine Ye 3 ?_; (first | refine Zd 4 ?_ | refine Zb 4 ?_ | refine wFa 4 ?_); (first | refine Zd 5 ?_ | refine Zb 5 ?_ | refine wLd 5 ?_); (first | refine Zd 6 ?_ | refine Zb 6 ?_ | refine wCm 6 ?_); refine rPk 7 ?_; refine Ye 8 ?_; (first | refine Zd 9 ?_ | refine Zb 9 ?_ | refine wFa 9 ?_); (first | refine Zd 10 ?_ | refine Zb 10 ?_ | refine wFa 10 ?_); (first | refine Zd 11 ?_ | refine Zb 11 ?_ | refine wLd 11 ?_))
     all_goals (first | refine Zd 12 ?_ | refine Zb 12 ?_ | (refine Zt (i := 12) ?_; ((try refine Zr ?_); (first | (refine Zc (.func 243) ?_; refine qC rfl rfl (YN _ _) ?_; rintro v ρ' L' hle ⟨rfl, rfl, rfl⟩ <;> (try simp only [kM, kN, kO, hd])) | (refine Zl ?_; try intro _)) <;> ((try simp only [kM, kN, kO]); refine Za ?_; refine Zs ?_))))
     all_goals ((first | refine Zd 13 ?_ | refine Zb 13 ?_ | refine wUn 13 ?_); refine rPk 14 ?_; refine Ye 15 ?_; (first | refine Zd 16 ?_ | refine Zb 16 ?_ | refine ZT 16 ?_); (first | refine Zd 17 ?_ | refine Zb 17 ?_ | refine wCm 17 ?_); (first | refine Zd 18 ?_ | refine Zb 18 ?_ | refine ZT 18 ?_); (first | refine Zd 19 ?_ | refine Zb 19 ?_ | refine wFa 19 ?_); (first | refine Zd 20 ?_ | refine Zb 20 ?_ | refine wLd 20 ?_); (first | refine Zd 21 ?_ | refine Zb 21 ?_ | refine wBu 21 ?_); (first | refine Zd 22 ?_ | refine Zb 22 ?_ | refine wCm 22 ?_); (first | refine Zd 23 ?_ | refine Zb 23 ?_ | refine wPk 23 ?_); refine rPk 24 ?_; refine Ye 25 ?_; (first | refine Zd 26 ?_ | refine Zb 26 ?_ | refine ZT 26 ?_); (first | refine Zd 27 ?_ | refine Zb 27 ?_ | refine wCm 27 ?_); (first | refine Zd 28 ?_ | refine Zb 28 ?_ | refine ZT 28 ?_); (first | refine Zd 29 ?_ | refine Zb 29 ?_ | refine ZT 29 ?_); (first | refine Zd 30 ?_ | refine Zb 30 ?_ | refine ZT 30 ?_); (first | refine Zd 31 ?_ | refine Zb 31 ?_ | refine wSb 31 ?_); (first | refine Zd 32 ?_ | refine Zb 32 ?_ | refine wIa 32 ?_); (first | refine Zd 33 ?_ | refine Zb 33 ?_ | refine wFa 33 ?_); (first | refine Zd 34 ?_ | refine Zb 34 ?_ | refine wLd 34 ?_); (first | refine Zd 36 ?_ | refine Zb 36 ?_ | refine wFa 36 ?_); (first | refine Zd 37 ?_ | refine Zb 37 ?_ | refine wLd 37 ?_))
     all_goals (first | refine Zd 35 ?_ | refine Zb 35 ?_ | (refine Zt (i := 35) ?_; ((try refine Zr ?_); (first | (refine Zl ?_; try intro _)) <;> ((try simp only [kM, kN, kO]); refine Za ?_; refine Zs ?_))))
     all_goals (first | refine Zd 38 ?_ | refine Zb 38 ?_ | (refine Zt (i := 38) ?_; ((try refine Zr ?_); (first | (refine Zl ?_; try intro _)) <;> ((try simp only [kM, kN, kO]); refine Za ?_; refine Zs ?_))))
     all_goals (refine Yi ?_; (first | refine Zd 39 ?_ | refine Zb 39 ?_ | refine wCm 39 ?_); (first | refine Zd 40 ?_ | refine Zb 40 ?_ | refine wPk 40 ?_); refine rPk 41 ?_; refine ZP ?_)
     repeat' (first | (refine Zj ?_; first | (refine Zg ?_; refine qQ ?_) | refine Zl ?_) | refine Za ?_ | (refine Zi ?_; refine Zq ?_) | (refine Zh ?_; refine Zp ?_) | intro _)
     exact qE ⟨rfl, rfl, rfl⟩
   ·rw [hx (x.page < 64) (fun e => (hkx e).2.2.1) p6]
    repeat' (first | (refine Zj ?_; first | (refine Zg ?_; refine qQ ?_) | refine Zl ?_) | refine Za ?_ | (refine Zi ?_; refine Zq ?_) | (refine Zh ?_; refine Zp ?_) | intro _)
    refine ZI (Zv _ _ _) ZC ?_
    all_goals (refine rFa 0 ?_; refine Yr 1 ?_; refine rCm 2 ?_; refine Ye 3 ?_; (first | refine Zd 4 ?_ | refine Zb 4 ?_ | refine wFa 4 ?_); (first | refine Zd 5 ?_ | refine Zb 5 ?_ | refine wLd 5 ?_); (first | refine Zd 6 ?_ | refine Zb 6 ?_ | refine wCm 6 ?_); refine rPk 7 ?_; refine Ye 8 ?_; (first | refine Zd 9 ?_ | refine Zb 9 ?_ | refine wFa 9 ?_); (first | refine Zd 10 ?_ | refine Zb 10 ?_ | refine wFa 10 ?_); (first | refine Zd 11 ?_ | refine Zb 11 ?_ | refine wLd 11 ?_))
    all_goals (first | refine Zd 12 ?_ | refine Zb 12 ?_ | (refine Zt (i := 12) ?_; ((try refine Zr ?_); (first | (refine Zl ?_; try intro _)) <;> ((try simp only [kM, kN, kO]); refine Za ?_; refine Zs ?_))))
    all_goals ((first | refine Zd 13 ?_ | refine Zb 13 ?_ | refine wUn 13 ?_); refine rPk 14 ?_; refine Ye 15 ?_; (first | refine Zd 16 ?_ | refine Zb 16 ?_ | refine ZT 16 ?_); (first | refine Zd 17 ?_ | refine Zb 17 ?_ | refine wCm 17 ?_); (first | refine Zd 18 ?_ | refine Zb 18 ?_ | refine ZT 18 ?_); (first | refine Zd 19 ?_ | refine Zb 19 ?_ | refine wFa 19 ?_); (first | refine Zd 20 ?_ | refine Zb 20 ?_ | refine wLd 20 ?_); (first | refine Zd 21 ?_ | refine Zb 21 ?_ | refine wBu 21 ?_); (first | refine Zd 22 ?_ | refine Zb 22 ?_ | refine wCm 22 ?_); (first | refine Zd 23 ?_ | refine Zb 23 ?_ | refine wPk 23 ?_); refine rPk 24 ?_; refine Ye 25 ?_; (first | refine Zd 26 ?_ | refine Zb 26 ?_ | refine ZT 26 ?_); (first | refine Zd 27 ?_ | refine Zb 27 ?_ | refine wCm 27 ?_); (first | refine Zd 28 ?_ | refine Zb 28 ?_ | refine ZT 28 ?_); (first | refine Zd 29 ?_ | refine Zb 29 ?_ | refine ZT 29 ?_); (first | refine Zd 30 ?_ | refine Zb 30 ?_ | refine ZT 30 ?_); (first | refine Zd 31 ?_ | refine Zb 31 ?_ | refine wSb 31 ?_); (first | refine Zd 32 ?_ | refine Zb 32 ?_ | refine wIa 32 ?_); (first | refine Zd 33 ?_ | refine Zb 33 ?_ | refine wFa 33 ?_); (first | refine Zd 34 ?_ | refine Zb 34 ?_ | refine wLd 34 ?_); (first | refine Zd 36 ?_ | refine Zb 36 ?_ | refine wFa 36 ?_); (first | refine Zd 37 ?_ | refine Zb 37 ?_ | refine wLd 37 ?_))
    all_goals (first | refine Zd 35 ?_ | refine Zb 35 ?_ | (refine Zt (i := 35) ?_; ((try refine Zr ?_); (first | (refine Zl ?_; try intro _)) <;> ((try simp only [kM, kN, kO]); refine Za ?_; refine Zs ?_))))
    all_goals (first | refine Zd 38 ?_ | refine Zb 38 ?_ | (refine Zt (i := 38) ?_; ((try refine Zr ?_); (first | (refine Zl ?_; try intro _)) <;> ((try simp only [kM, kN, kO]); refine Za ?_; refine Zs ?_))))
    all_goals (refine Yi ?_; (first | refine Zd 39 ?_ | refine Zb 39 ?_ | refine wCm 39 ?_); (first | refine Zd 40 ?_ | refine Zb 40 ?_ | refine wPk 40 ?_); refine rPk 41 ?_; refine ZP ?_)
    repeat' (first | (refine Zj ?_; first | (refine Zg ?_; refine qQ ?_) | refine Zl ?_) | refine Za ?_ | (refine Zi ?_; refine Zq ?_) | (refine Zh ?_; refine Zp ?_) | intro _)
    exact qE ⟨rfl, rfl, rfl⟩
  ·rw [hx (0 < x.page) (fun e => (hkx e).2.1) p0]
   repeat' (first | (refine Zj ?_; first | (refine Zg ?_; refine qQ ?_) | refine Zl ?_) | refine Za ?_ | (refine Zi ?_; refine Zq ?_) | (refine Zh ?_; refine Zp ?_) | intro _)
   refine ZI (Zv _ _ _) ZC ?_
   all_goals (refine rFa 0 ?_; refine Yr 1 ?_; refine rCm 2 ?_; refine Ye 3 ?_; (first | refine Zd 4 ?_ | refine Zb 4 ?_ | refine wFa 4 ?_); (first | refine Zd 5 ?_ | refine Zb 5 ?_ | refine wLd 5 ?_); (first | refine Zd 6 ?_ | refine Zb 6 ?_ | refine wCm 6 ?_); refine rPk 7 ?_; refine Ye 8 ?_; (first | refine Zd 9 ?_ | refine Zb 9 ?_ | refine wFa 9 ?_); (first | refine Zd 10 ?_ | refine Zb 10 ?_ | refine wFa 10 ?_); (first | refine Zd 11 ?_ | refine Zb 11 ?_ | refine wLd 11 ?_))
   all_goals (first | refine Zd 12 ?_ | refine Zb 12 ?_ | (refine Zt (i := 12) ?_; ((try refine Zr ?_); (first | (refine Zl ?_; try intro _)) <;> ((try simp only [kM, kN, kO]); refine Za ?_; refine Zs ?_))))
   all_goals ((first | refine Zd 13 ?_ | refine Zb 13 ?_ | refine wUn 13 ?_); refine rPk 14 ?_; refine Ye 15 ?_; (first | refine Zd 16 ?_ | refine Zb 16 ?_ | refine ZT 16 ?_); (first | refine Zd 17 ?_ | refine Zb 17 ?_ | refine wCm 17 ?_); (first | refine Zd 18 ?_ | refine Zb 18 ?_ | refine ZT 18 ?_); (first | refine Zd 19 ?_ | refine Zb 19 ?_ | refine wFa 19 ?_); (first | refine Zd 20 ?_ | refine Zb 20 ?_ | refine wLd 20 ?_); (first | refine Zd 21 ?_ | refine Zb 21 ?_ | refine wBu 21 ?_); (first | refine Zd 22 ?_ | refine Zb 22 ?_ | refine wCm 22 ?_); (first | refine Zd 23 ?_ | refine Zb 23 ?_ | refine wPk 23 ?_); refine rPk 24 ?_; refine Ye 25 ?_; (first | refine Zd 26 ?_ | refine Zb 26 ?_ | refine ZT 26 ?_); (first | refine Zd 27 ?_ | refine Zb 27 ?_ | refine wCm 27 ?_); (first | refine Zd 28 ?_ | refine Zb 28 ?_ | refine ZT 28 ?_); (first | refine Zd 29 ?_ | refine Zb 29 ?_ | refine ZT 29 ?_); (first | refine Zd 30 ?_ | refine Zb 30 ?_ | refine ZT 30 ?_); (first | refine Zd 31 ?_ | refine Zb 31 ?_ | refine wSb 31 ?_); (first | refine Zd 32 ?_ | refine Zb 32 ?_ | refine wIa 32 ?_); (first | refine Zd 33 ?_ | refine Zb 33 ?_ | refine wFa 33 ?_); (first | refine Zd 34 ?_ | refine Zb 34 ?_ | refine wLd 34 ?_); (first | refine Zd 36 ?_ | refine Zb 36 ?_ | refine wFa 36 ?_); (first | refine Zd 37 ?_ | refine Zb 37 ?_ | refine wLd 37 ?_))
   all_goals (first | refine Zd 35 ?_ | refine Zb 35 ?_ | (refine Zt (i := 35) ?_; ((try refine Zr ?_); (first | (refine Zl ?_; try intro _)) <;> ((try simp only [kM, kN, kO]); refine Za ?_; refine Zs ?_))))
   all_goals (first | refine Zd 38 ?_ | refine Zb 38 ?_ | (refine Zt (i := 38) ?_; ((try refine Zr ?_); (first | (refine Zl ?_; try intro _)) <;> ((try simp only [kM, kN, kO]); refine Za ?_; refine Zs ?_))))
   all_goals (refine Yi ?_; (first | refine Zd 39 ?_ | refine Zb 39 ?_ | refine wCm 39 ?_); (first | refine Zd 40 ?_ | refine Zb 40 ?_ | refine wPk 40 ?_); refine rPk 41 ?_; refine ZP ?_)
   repeat' (first | (refine Zj ?_; first | (refine Zg ?_; refine qQ ?_) | refine Zl ?_) | refine Za ?_ | (refine Zi ?_; refine Zq ?_) | (refine Zh ?_; refine Zp ?_) | intro _)
   exact qE ⟨rfl, rfl, rfl⟩
 ·have hk2 : k = n := by omega
  subst hk2
  rw [hok, Bool.and_true]
  by_cases h2 : 1 < k
  ·by_cases h4 : k ≤ 4
   ·rw [decide_eq_true h4, decide_eq_true h2]
    repeat' (first | (refine Zj ?_; first | (refine Zg ?_; refine qQ ?_) | refine Zl ?_) | refine Za ?_ | (refine Zi ?_; refine Zq ?_) | (refine Zh ?_; refine Zp ?_) | intro _)
    exact qE ⟨rfl, rfl, rfl⟩
   ·rw [decide_eq_false h4, Bool.and_false]
    repeat' (first | (refine Zj ?_; first | (refine Zg ?_; refine qQ ?_) | refine Zl ?_) | refine Za ?_ | (refine Zi ?_; refine Zq ?_) | (refine Zh ?_; refine Zp ?_) | intro _)
    exact qE ⟨rfl, rfl, rfl⟩
  ·rw [decide_eq_false h2, Bool.false_and]
   repeat' (first | (refine Zj ?_; first | (refine Zg ?_; refine qQ ?_) | refine Zl ?_) | refine Za ?_ | (refine Zi ?_; refine Zq ?_) | (refine Zh ?_; refine Zp ?_) | intro _)
   exact qE ⟨rfl, rfl, rfl⟩
theorem Wn (ρ : Hp) (v : CV) (c : XQ) (h : CIn ρ v c.rows c.kids) (hir : ∀ r ∈ c.rows, r.id < 65536) (hik : ∀ k ∈ c.kids, k.id < 65536) : Spec Tryz.prog 178 [.agg ⟨XJ c.kind v⟩] ρ [] (fun r ρ' L' => r = .bool (ZQ c) ∧ ρ' = ρ ∧ L' = []) := by
 obtain ⟨kind, rows, kids⟩ := c
 obtain ⟨ra, rn, rc, ka, kn, kc⟩ := v
 obtain ⟨hr, hk, hrb, hkb, hrc, hkc⟩ := h
 dsimp only at hr hk hrb hkb hrc hkc hir hik
 have hrl := hr.len
 have hkl := hk.len
 have hrs := rowsR_spec ρ ra rn rc rows hr hrb hir
 have hks := kidsR_spec ρ ka kn kc kids hk hkb hkc hik
 generalize hq : ZQ ⟨kind, rows, kids⟩ = q
 unfold ZQ at hq
 simp only [hrl, hkl] at hq
 refine Zf Tryz.func178 rfl rfl rfl fun u R => ?_
 simp only [Zx, List.cons_append, List.nil_append]
 by_cases k0 : kind = 0
 ·rw [if_pos k0] at hq
  by_cases hz : rn = 0
  ·by_cases hz2 : kn = 0
   ·rw [decide_eq_true (show rn + kn = 0 by omega)] at hq
    subst hq
    repeat' (first | (refine Zj ?_; first | (refine Zg ?_; refine qQ ?_) | refine Zl ?_) | refine Za ?_ | (refine Zi ?_; refine Zq ?_) | (refine Zh ?_; refine Zp ?_) | intro _)
    exact qE ⟨rfl, rfl, rfl⟩
   ·rw [decide_eq_false (show ¬ rn + kn = 0 by omega)] at hq
    subst hq
    repeat' (first | (refine Zj ?_; first | (refine Zg ?_; refine qQ ?_) | refine Zl ?_) | refine Za ?_ | (refine Zi ?_; refine Zq ?_) | (refine Zh ?_; refine Zp ?_) | intro _)
    exact qE ⟨rfl, rfl, rfl⟩
  ·rw [decide_eq_false (show ¬ rn + kn = 0 by omega)] at hq
   subst hq
   repeat' (first | (refine Zj ?_; first | (refine Zg ?_; refine qQ ?_) | refine Zl ?_) | refine Za ?_ | (refine Zi ?_; refine Zq ?_) | (refine Zh ?_; refine Zp ?_) | intro _)
   exact qE ⟨rfl, rfl, rfl⟩
 ·rw [if_neg k0] at hq
  by_cases k1 : kind = 1
  ·rw [if_pos k1] at hq
   by_cases hz : kn = 0
   ·rw [decide_eq_true hz, Bool.true_and] at hq
    rw [hq] at hrs
    repeat' (first | (refine Zc (.func 245) ?_; refine qC rfl rfl (hrs) ?_; rintro v ρ' L' hle ⟨rfl, rfl, rfl⟩ <;> (try simp only [kM, kN, kO])) | (refine Zj ?_; first | (refine Zg ?_; refine qQ ?_) | refine Zl ?_) | refine Za ?_ | (refine Zi ?_; refine Zq ?_) | (refine Zh ?_; refine Zp ?_) | intro _)
    exact qE ⟨rfl, rfl, rfl⟩
   ·rw [decide_eq_false hz, Bool.false_and] at hq
    subst hq
    repeat' (first | (refine Zj ?_; first | (refine Zg ?_; refine qQ ?_) | refine Zl ?_) | refine Za ?_ | (refine Zi ?_; refine Zq ?_) | (refine Zh ?_; refine Zp ?_) | intro _)
    exact qE ⟨rfl, rfl, rfl⟩
  ·rw [if_neg k1] at hq
   by_cases k2 : kind = 2
   ·rw [if_pos k2] at hq
    by_cases hz : rn = 0
    ·rw [decide_eq_true hz, Bool.true_and] at hq
     rw [hq] at hks
     repeat' (first | (refine Zc (.func 246) ?_; refine qC rfl rfl (hks) ?_; rintro v ρ' L' hle ⟨rfl, rfl, rfl⟩ <;> (try simp only [kM, kN, kO])) | (refine Zj ?_; first | (refine Zg ?_; refine qQ ?_) | refine Zl ?_) | refine Za ?_ | (refine Zi ?_; refine Zq ?_) | (refine Zh ?_; refine Zp ?_) | intro _)
     exact qE ⟨rfl, rfl, rfl⟩
    ·rw [decide_eq_false hz, Bool.false_and] at hq
     subst hq
     repeat' (first | (refine Zj ?_; first | (refine Zg ?_; refine qQ ?_) | refine Zl ?_) | refine Za ?_ | (refine Zi ?_; refine Zq ?_) | (refine Zh ?_; refine Zp ?_) | intro _)
     exact qE ⟨rfl, rfl, rfl⟩
   ·rw [if_neg k2] at hq
    subst hq
    repeat' (first | (refine Zj ?_; first | (refine Zg ?_; refine qQ ?_) | refine Zl ?_) | refine Za ?_ | (refine Zi ?_; refine Zq ?_) | (refine Zh ?_; refine Zp ?_) | intro _)
    exact qE ⟨rfl, rfl, rfl⟩
theorem sameR_spec (ρ : Hp) (w w' : CV) (c d : XQ) (h : CIn ρ w c.rows c.kids) (h' : CIn ρ w' d.rows d.kids) :
  Spec Tryz.prog 93 [.agg ⟨XJ c.kind w⟩, .agg ⟨XJ d.kind w'⟩] ρ [] (fun v ρ' L' => v = .bool (decide (c = d)) ∧ ρ' = ρ ∧ L' = []) := by
 obtain ⟨kind, rows, kids⟩ := c
 obtain ⟨kind', rows', kids'⟩ := d
 obtain ⟨ra, rn, rc, ka, kn, kc⟩ := w
 obtain ⟨ra', rn', rc', ka', kn', kc'⟩ := w'
 obtain ⟨hr, hk, hrb, hkb, hrc, hkc⟩ := h
 obtain ⟨hr', hk', hrb', hkb', hrc', hkc'⟩ := h'
 dsimp only at hrc hkc hr hk hrb hkb hrc' hkc' hr' hk' hrb' hkb' ⊢
 have hrn := hr.len
 have hkn := hk.len
 have hrn' := hr'.len
 have hkn' := hk'.len
 simp only [XQ.mk.injEq]
 refine Zf Tryz.func93 rfl rfl rfl fun u R => ?_
 simp only [Zx, List.cons_append, List.nil_append, XJ]
 by_cases h1 : kind = kind'
 ·by_cases h2 : rn = rn'
  ·by_cases h3 : kn = kn'
   ·subst h1; subst h2; subst h3
    repeat' (first | (refine Zj ?_; first | (refine Zg ?_; refine qQ ?_) | refine Zl ?_) | refine Za ?_ | (refine Zi ?_; refine Zq ?_) | (refine Zh ?_; refine Zp ?_) | intro _)
    rename_i b1 b2
    refine Zy [(2, _), (3, _), (4, _), (32, _)] (fun (ζ : (Nat)) => [(33, .int .i64 ζ)]) (fun (ζ : (Nat)) => ρ) (fun (ζ : (Nat)) => [[(b2, .cells ⟨[.int .i64 kind, .slice ra' rn rc', .slice ka' kn kc']⟩ 110 (0, 0))], [(b1, .cells ⟨[.int .i64 kind, .slice ra rn rc, .slice ka kn kc]⟩ 110 (0, 0))]]) (fun (ζ : (Nat)) => ζ ≤ rn ∧ rows.take ζ = rows'.take ζ) (fun (ζ : (Nat)) => rn - ζ) (0) (⟨Nat.zero_le _, rfl⟩) Zk Zk rfl tk ?_
    rintro k hI
    try simp only [List.cons_append, List.nil_append, List.append_assoc, List.append_eq] at hI ⊢
    try dsimp only at hI ⊢
    obtain ⟨hk0, hpre⟩ := hI
    by_cases hlt : k < rn
    ·obtain ⟨b, off, C, T, fr, rfl, hb, hfit, hc⟩ := hr.get (show k < rows.length by omega)
     obtain ⟨b', off', C', T', fr', rfl, hb', hfit', hc'⟩ := hr'.get (show k < rows'.length by omega)
     have ht1 := List.take_succ_eq_append_getElem (show k < rows.length by omega)
     have ht2 := List.take_succ_eq_append_getElem (show k < rows'.length by omega)
     have hf : rows = rows' → rows[k]'(by omega) = rows'[k]'(by omega) := fun e => by subst e; rfl
     generalize rows[k]'(by omega) = x at *
     generalize rows'[k]'(by omega) = y at *
     by_cases he : x = y
     ·have hd : decide (x = y) = true := decide_eq_true he
      repeat' (first | (refine Zj ?_; first | (refine Zg ?_; refine qQ ?_) | refine Zl ?_) | refine Za ?_ | (refine Zi ?_; refine Zq ?_) | (refine Zh ?_; refine Zp ?_) | intro _)
      refine ZI (Zv _ _ ([[(b2, .cells ⟨[.int .i64 kind, .slice (some ⟨b', off', none⟩) rn rc', .slice ka' kn kc']⟩ 110 (0, 0))], [(b1, .cells ⟨[.int .i64 kind, .slice (some ⟨b, off, none⟩) rn rc, .slice ka kn kc]⟩ 110 (0, 0))]])) (ZU (hT := tk) (Hp.le_refl _)) ?_
      all_goals (refine rFa 0 ?_; refine Yi ?_; refine Yr 1 ?_; refine Ye 2 ?_; refine rIa 3 ?_; refine Yr 4 ?_; refine rFa 5 ?_; refine Yr 6 ?_; refine Ye 7 ?_; refine rIa 8 ?_; refine Yr 9 ?_; refine rCm 10 ?_; refine ZP ?_)
      repeat' (first | (refine Zj ?_; first | (refine Zg ?_; refine qQ ?_) | refine Zl ?_) | refine Za ?_ | (refine Zi ?_; refine Zq ?_) | (refine Zh ?_; refine Zp ?_) | intro _)
      refine Zo (k + 1) (⟨hlt, by rw [ht1, ht2, hpre, he]⟩) Zk Zk rfl tk inferInstance (by first | omega | (dsimp only; omega))
     ·have hd : decide (x = y) = false := decide_eq_false he
      rw [decide_eq_false (fun e => he (hf e.2.1))]
      repeat' (first | (refine Zj ?_; first | (refine Zg ?_; refine qQ ?_) | refine Zl ?_) | refine Za ?_ | (refine Zi ?_; refine Zq ?_) | (refine Zh ?_; refine Zp ?_) | intro _)
      refine ZI (Zv _ _ ([[(b2, .cells ⟨[.int .i64 kind, .slice (some ⟨b', off', none⟩) rn rc', .slice ka' kn kc']⟩ 110 (0, 0))], [(b1, .cells ⟨[.int .i64 kind, .slice (some ⟨b, off, none⟩) rn rc, .slice ka kn kc]⟩ 110 (0, 0))]])) (ZU (hT := tk) (Hp.le_refl _)) ?_
      all_goals (refine rFa 0 ?_; refine Yi ?_; refine Yr 1 ?_; refine Ye 2 ?_; refine rIa 3 ?_; refine Yr 4 ?_; refine rFa 5 ?_; refine Yr 6 ?_; refine Ye 7 ?_; refine rIa 8 ?_; refine Yr 9 ?_; refine rCm 10 ?_; refine ZP ?_)
      repeat' (first | (refine Zj ?_; first | (refine Zg ?_; refine qQ ?_) | refine Zl ?_) | refine Za ?_ | (refine Zi ?_; refine Zq ?_) | (refine Zh ?_; refine Zp ?_) | intro _)
      exact qE ⟨rfl, rfl, rfl⟩
    ·have hk2 : k = rn := by omega
     subst hk2
     rw [List.take_of_length_le (by omega), List.take_of_length_le (by omega)] at hpre
     subst hpre
     repeat' (first | (refine Zj ?_; first | (refine Zg ?_; refine qQ ?_) | refine Zl ?_) | refine Za ?_ | (refine Zi ?_; refine Zq ?_) | (refine Zh ?_; refine Zp ?_) | intro _)
     refine Zy [(2, _), (3, _), (4, _), (50, _)] (fun (ζ : (Nat)) => [(51, .int .i64 ζ)]) (fun (ζ : (Nat)) => ρ) (fun (ζ : (Nat)) => [[(b2, .cells ⟨[.int .i64 kind, .slice ra' k rc', .slice ka' kn kc']⟩ 110 (0, 0))], [(b1, .cells ⟨[.int .i64 kind, .slice ra k rc, .slice ka kn kc]⟩ 110 (0, 0))]]) (fun (ζ : (Nat)) => ζ ≤ kn ∧ kids.take ζ = kids'.take ζ) (fun (ζ : (Nat)) => kn - ζ) (0) (⟨Nat.zero_le _, rfl⟩) Zk Zk rfl tk ?_
     rintro j hI
     try simp only [List.cons_append, List.nil_append, List.append_assoc, List.append_eq] at hI ⊢
     try dsimp only at hI ⊢
     obtain ⟨hj0, hpre⟩ := hI
     by_cases hlj : j < kn
     ·obtain ⟨b, off, C, T, fr, rfl, hb, hfit, hc⟩ := hk.get (show j < kids.length by omega)
      obtain ⟨b', off', C', T', fr', rfl, hb', hfit', hc'⟩ := hk'.get (show j < kids'.length by omega)
      have ht1 := List.take_succ_eq_append_getElem (show j < kids.length by omega)
      have ht2 := List.take_succ_eq_append_getElem (show j < kids'.length by omega)
      have hf : kids = kids' → kids[j]'(by omega) = kids'[j]'(by omega) := fun e => by subst e; rfl
      generalize kids[j]'(by omega) = x at *
      generalize kids'[j]'(by omega) = y at *
      by_cases he : x = y
      ·have hd : decide (x = y) = true := decide_eq_true he
       repeat' (first | (refine Zj ?_; first | (refine Zg ?_; refine qQ ?_) | refine Zl ?_) | refine Za ?_ | (refine Zi ?_; refine Zq ?_) | (refine Zh ?_; refine Zp ?_) | intro _)
       refine ZI (Zv _ _ ([[(b2, .cells ⟨[.int .i64 kind, .slice ra' k rc', .slice (some ⟨b', off', none⟩) kn kc']⟩ 110 (0, 0))], [(b1, .cells ⟨[.int .i64 kind, .slice ra k rc, .slice (some ⟨b, off, none⟩) kn kc]⟩ 110 (0, 0))]])) (ZU (hT := tk) (Hp.le_refl _)) ?_
       all_goals (refine rFa 0 ?_; refine Yi ?_; refine Yr 1 ?_; refine Ye 2 ?_; refine rIa 3 ?_; refine Yr 4 ?_; refine rFa 5 ?_; refine Yr 6 ?_; refine Ye 7 ?_; refine rIa 8 ?_; refine Yr 9 ?_; refine rCm 10 ?_; refine ZP ?_)
       repeat' (first | (refine Zj ?_; first | (refine Zg ?_; refine qQ ?_) | refine Zl ?_) | refine Za ?_ | (refine Zi ?_; refine Zq ?_) | (refine Zh ?_; refine Zp ?_) | intro _)
       refine Zo (j + 1) (⟨hlj, by rw [ht1, ht2, hpre, he]⟩) Zk Zk rfl tk inferInstance (by first | omega | (dsimp only; omega))
      ·have hd : decide (x = y) = false := decide_eq_false he
       rw [decide_eq_false (fun e => he (hf e.2.2))]
       repeat' (first | (refine Zj ?_; first | (refine Zg ?_; refine qQ ?_) | refine Zl ?_) | refine Za ?_ | (refine Zi ?_; refine Zq ?_) | (refine Zh ?_; refine Zp ?_) | intro _)
       refine ZI (Zv _ _ ([[(b2, .cells ⟨[.int .i64 kind, .slice ra' k rc', .slice (some ⟨b', off', none⟩) kn kc']⟩ 110 (0, 0))], [(b1, .cells ⟨[.int .i64 kind, .slice ra k rc, .slice (some ⟨b, off, none⟩) kn kc]⟩ 110 (0, 0))]])) (ZU (hT := tk) (Hp.le_refl _)) ?_
       all_goals (refine rFa 0 ?_; refine Yi ?_; refine Yr 1 ?_; refine Ye 2 ?_; refine rIa 3 ?_; refine Yr 4 ?_; refine rFa 5 ?_; refine Yr 6 ?_; refine Ye 7 ?_; refine rIa 8 ?_; refine Yr 9 ?_; refine rCm 10 ?_; refine ZP ?_)
       repeat' (first | (refine Zj ?_; first | (refine Zg ?_; refine qQ ?_) | refine Zl ?_) | refine Za ?_ | (refine Zi ?_; refine Zq ?_) | (refine Zh ?_; refine Zp ?_) | intro _)
       exact qE ⟨rfl, rfl, rfl⟩
     ·have hj2 : j = kn := by omega
      subst hj2
      rw [List.take_of_length_le (by omega), List.take_of_length_le (by omega)] at hpre
      subst hpre
      rw [decide_eq_true ⟨trivial, trivial, rfl⟩]
      repeat' (first | (refine Zj ?_; first | (refine Zg ?_; refine qQ ?_) | refine Zl ?_) | refine Za ?_ | (refine Zi ?_; refine Zq ?_) | (refine Zh ?_; refine Zp ?_) | intro _)
      exact qE ⟨rfl, rfl, rfl⟩
   ·rw [decide_eq_false (fun e => h3 (by rw [← hkn, ← hkn', e.2.2]))]
    repeat' (first | (refine Zj ?_; first | (refine Zg ?_; refine qQ ?_) | refine Zl ?_) | refine Za ?_ | (refine Zi ?_; refine Zq ?_) | (refine Zh ?_; refine Zp ?_) | intro _)
    exact qE ⟨rfl, rfl, rfl⟩
  ·rw [decide_eq_false (fun e => h2 (by rw [← hrn, ← hrn', e.2.1]))]
   repeat' (first | (refine Zj ?_; first | (refine Zg ?_; refine qQ ?_) | refine Zl ?_) | refine Za ?_ | (refine Zi ?_; refine Zq ?_) | (refine Zh ?_; refine Zp ?_) | intro _)
   exact qE ⟨rfl, rfl, rfl⟩
 ·rw [decide_eq_false (fun e => h1 e.1)]
  repeat' (first | (refine Zj ?_; first | (refine Zg ?_; refine qQ ?_) | refine Zl ?_) | refine Za ?_ | (refine Zi ?_; refine Zq ?_) | (refine Zh ?_; refine Zp ?_) | intro _)
  exact qE ⟨rfl, rfl, rfl⟩
structure CI (ρ : Hp) (v : CV) (c : XQ) : Prop where
 cin : CIn ρ v c.rows c.kids
 row : ∀ r ∈ c.rows, YC r
 kid : ∀ k ∈ c.kids, k.id < 65536
theorem CI.mono {ρ ρ' v c} (h : CI ρ v c) (hle : ρ.le ρ') : CI ρ' v c := ⟨h.cin.mono hle, h.row, h.kid⟩
theorem CI.nil {ρ : Hp} : CI ρ ⟨none, 0, 0, none, 0, 0⟩ ⟨0, [], []⟩ := ⟨CIn.nil, by simp, by simp⟩
structure Im where
 page : Int
 bv : CV
 b : XQ
 av : CV
 a : XQ
abbrev imV (x : Im) : List Value := [.int .i64 x.page, .int .i64 x.b.kind, .slice x.bv.ra x.bv.rn x.bv.rc, .slice x.bv.ka x.bv.kn x.bv.kc, .int .i64 x.a.kind, .slice x.av.ra x.av.rn x.av.rc, .slice x.av.ka x.av.kn x.av.kc]
structure Im.In (ρ : Hp) (x : Im) : Prop where
 b : CI ρ x.bv x.b
 a : CI ρ x.av x.a
theorem Im.In.mono {ρ ρ' x} (h : Im.In ρ x) (hle : ρ.le ρ') : Im.In ρ' x := ⟨h.b.mono hle, h.a.mono hle⟩
abbrev Im.says (x : Im) : Int × XQ × XQ := (x.page, x.b, x.a)
structure Stp where
 kind : Int
 row : Row
 by' : Int
deriving DecidableEq
abbrev XT (s : Stp) : List Value := [.int .i64 s.kind, .int .i64 s.row.t, .int .u16 s.row.id, .int .i64 s.row.val, strV s.row.note, .int .i64 s.by']
structure CkT where
 txn : Int
 first : Nat
 last : Nat
 undo : Nat
 state : Int
deriving DecidableEq
abbrev Xk (t : CkT) : List Value := [.int .i64 t.txn, .int .u64 t.first, .int .u64 t.last, .int .u64 t.undo, .int .i64 t.state]
structure CkP where
 page : Int
 since : Nat
deriving DecidableEq
abbrev XF (p : CkP) : List Value := [.int .i64 p.page, .int .u64 p.since]
structure Rc where
 kind : Int
 lsn : Nat
 txn : Int
 prev : Nat
 next : Nat
 ims : List Im
 steps : List Stp
 nextTxn : Int
 txns : List CkT
 dirty : List CkP
structure SV where
 a : Option Addr
 n : Nat
 c : Nat
abbrev SV.v (s : SV) : Value := .slice s.a s.n s.c
structure RV where
 i : SV
 s : SV
 t : SV
 d : SV
abbrev Wv (v : RV) (r : Rc) : List Value := [.int .i64 r.kind, .int .u64 r.lsn, .int .i64 r.txn, .int .u64 r.prev, .int .u64 r.next, .slice v.i.a v.i.n v.i.c, .slice v.s.a v.s.n v.s.c, .int .i64 r.nextTxn, .slice v.t.a v.t.n v.t.c, .slice v.d.a v.d.n v.d.c]
theorem imV_len (x : Im) : (imV x).length = 7 := rfl
theorem stpV_len (x : Stp) : (XT x).length = 6 := rfl
theorem ckTV_len (x : CkT) : (Xk x).length = 5 := rfl
theorem ckPV_len (x : CkP) : (XF x).length = 2 := rfl
abbrev i64in (x : Int) : Prop := -9223372036854775808 ≤ x ∧ x ≤ 9223372036854775807
structure AS (ρ : Hp) (sz : Nat) {α : Type} (g : α → List Value) (s : SV) (l : List α) : Prop where
 at' : AIn ρ sz g s.a s.n l
 big : s.n ≤ 1000000
 cap : s.n ≤ s.c
theorem AS.mono {ρ ρ' : Hp} {sz : Nat} {α : Type} {g : α → List Value} {s : SV} {l : List α} (h : AS ρ sz g s l) (hle : ρ.le ρ') : AS ρ' sz g s l := ⟨h.at'.mono hle, h.big, h.cap⟩
theorem AS.nil {ρ : Hp} {sz : Nat} {α : Type} {g : α → List Value} : AS ρ sz g ⟨none, 0, 0⟩ [] := ⟨AIn.nil, Nat.zero_le _, Nat.le_refl _⟩
structure RcIn (ρ : Hp) (v : RV) (r : Rc) : Prop where
 i : AS ρ 7 imV v.i r.ims
 im : ∀ x ∈ r.ims, Im.In ρ x
 s : AS ρ 6 XT v.s r.steps
 t : AS ρ 5 Xk v.t r.txns
 d : AS ρ 2 XF v.d r.dirty
 sf : ∀ s ∈ r.steps, YC s.row
theorem RcIn.mono {ρ ρ' v r} (h : RcIn ρ v r) (hle : ρ.le ρ') : RcIn ρ' v r := ⟨h.i.mono hle, fun x hx => (h.im x hx).mono hle, h.s.mono hle, h.t.mono hle, h.d.mono hle, h.sf⟩
def upB {α : Type} (right : α → Bool) (by' : α → Int) (l : List α) (k : Nat) : Bool := ZH l.length (fun _ x => right x) (fun y x => decide (by' y < by' x)) l k
def pageOk (n : Int) : Bool := decide (0 ≤ n ∧ n < 64)
def imOk (before : Bool) (x : Im) : Bool := pageOk x.page && (ZQ x.a && (ZQ x.b && (before || decide (x.b.kind = 0))))
def imsOk (before : Bool) (l : List Im) : Bool := decide (l.length ≤ 16) && upB (imOk before) Im.page l l.length
def onlyOk (s : Stp) : Bool := decide (s.row.val = 0 ∧ s.row.note = []) && decide (0 ≤ s.row.t ∧ s.row.t < 3)
def YF (s : Stp) : Bool :=
 if s.kind = 1 then onlyOk s
 else if s.kind = 4 then onlyOk s && decide (s.by' = 0)
 else if s.kind = 2 ∨ s.kind = 3 then decide (s.by' = 0) && Yy s.row
 else false
def ckTOk (lsn : Nat) (next : Int) (t : CkT) : Bool := decide (1 ≤ t.txn ∧ t.txn < next ∧ 1 ≤ t.first ∧ t.first ≤ t.last ∧ t.last < lsn ∧ t.undo ≤ t.last ∧ 1 ≤ t.state ∧ t.state ≤ 3)
def WE (lsn : Nat) (p : CkP) : Bool := pageOk p.page && decide (1 ≤ p.since ∧ p.since < lsn)
def headOk (r : Rc) : Bool := decide (1 ≤ r.lsn ∧ r.lsn ≤ 1099511627776 ∧ r.prev < r.lsn ∧ 0 ≤ r.txn ∧ r.txn ≤ 1073741824 ∧ (r.kind = 9 ↔ r.txn = 0) ∧ ((r.kind = 9 ∨ r.kind = 1) ↔ r.prev = 0))
def askOk (r : Rc) : Bool :=
 if r.kind = 2 then decide (0 < r.ims.length) && imsOk true r.ims
 else if r.kind = 3 then decide (r.next < r.prev)
 else if r.kind = 4 then decide (r.next < r.prev) && (decide (0 < r.steps.length ∧ r.steps.length ≤ 2) && r.steps.all YF)
 else if r.kind = 5 then decide (r.next < r.lsn) && imsOk false r.ims
 else if r.kind = 9 then decide (1 ≤ r.nextTxn ∧ r.nextTxn ≤ 1073741824 ∧ r.txns.length ≤ 8) && (upB (ckTOk r.lsn r.nextTxn) CkT.txn r.txns r.txns.length && upB (WE r.lsn) CkP.page r.dirty r.dirty.length)
 else true
def bareOk (r : Rc) : Bool := decide (
 (r.next = 0 ∨ r.kind = 3 ∨ r.kind = 4 ∨ r.kind = 5) ∧ (r.ims = [] ∨ r.kind = 2 ∨ r.kind = 5) ∧ (r.steps = [] ∨ r.kind = 4) ∧
 ((r.txns = [] ∧ r.dirty = [] ∧ r.nextTxn = 0) ∨ r.kind = 9))
def YM (r : Rc) : Bool := decide (1 ≤ r.kind ∧ r.kind ≤ 9) && (headOk r && (askOk r && bareOk r))
end Go.Proofs.E
