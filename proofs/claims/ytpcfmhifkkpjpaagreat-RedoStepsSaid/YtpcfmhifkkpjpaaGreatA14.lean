/- Laws of RedoAll,RedoOthers,RedoSteps. Part 14 of 23. -/
import Derived.Test.YtpcfmhifkkpjpaaGreatA13
namespace Go.Proofs.E
open Go
set_option linter.unusedVariables false
set_option linter.unusedSimpArgs false
set_option linter.unusedSectionVars false
set_option maxRecDepth 4000
set_option maxHeartbeats 1000000
attribute [local irreducible] Yl TL TC TE Spec ZF R1 Hp.le EnvLe TS TR YS Zo TP QP
theorem psTo_mem {l : List Kid} {k : Nat} {p : Int} : p ∈ psTo l k ↔ ∃ x ∈ l.take k, x.page = p := by simp only [psTo, List.mem_reverse, List.mem_map]
theorem kidsR_spec (ρ : Hp) (a : Option Addr) (n c : Nat) (l : List Kid) (h : AIn ρ 3 Xi a n l) (hn : n ≤ 1000000) (hnc : n ≤ c) (hid : ∀ r ∈ l, r.id < 65536) :
  Spec Tryz.prog 194 [.slice a n c] ρ [] (fun v ρ' L' => v = .bool (decide (1 < n) && kidsOk l) ∧ ρ' = ρ ∧ L' = []) := by
 have hl := h.len
 unfold kidsOk
 rw [risesB_split, hl]
 refine Za Tryz.func194 rfl rfl rfl fun u R => ?_
 simp only [Zg, kA]
 generalize hrt : (fun (i : Nat) (k : Kid) => kidOk i (psTo l i) k) = rt
 repeat' (first | refine zW ?_ | intro _)
 refine Zk [(0, _), (2, _), (7, _), (8, _)] (fun (ζ : (Nat)) => [(9, .int .i64 ζ)]) (fun (ζ : (Nat)) => ρ) (fun (ζ : (Nat)) => []) (fun (ζ : (Nat)) => ζ ≤ n ∧ Zu n rt ltK l ζ = true) (fun (ζ : (Nat)) => n - ζ) (0) (⟨Nat.zero_le _, by rw [Zu, hl]; exact decide_eq_true (Nat.le_refl _)⟩) Zc Zc rfl tk ?_
 rintro k hI
 try simp only [kA, List.append_assoc] at hI ⊢
 try dsimp only at hI ⊢
 obtain ⟨hk, hok⟩ := hI
 by_cases hlt : k < n
 ·have hsub := h.take (hi' := k) (by omega)
  obtain ⟨b, off, C, T, fr, rfl, hb, hfit, hc⟩ := h.get (show k < l.length by omega)
  have hs := YO (most := n) (right := rt) (lt := ltK) (show k < l.length by omega)
  rw [hok, Bool.true_and] at hs
  have hrk : rt k (l[k]'(by omega)) = kidOk k (psTo l k) (l[k]'(by omega)) := by rw [← hrt]
  rw [hrk] at hs
  have hfin := fun (e : Zu n rt ltK l (k + 1) = false) => YG e (show k + 1 ≤ n by omega)
  have hmem : l[k]'(by omega) ∈ l := List.getElem_mem _
  have hidk := hid _ hmem
  have hx : ∀ P : Prop, (kidOk k (psTo l k) (l[k]'(by omega)) = true → P) → ¬ P → (decide (1 < n) && (decide (n ≤ 4) && Zu n rt ltK l n)) = false := fun P h1 h2 => by
   have : kidOk k (psTo l k) (l[k]'(by omega)) = false := by
    cases e : kidOk k (psTo l k) (l[k]'(by omega))
    ·rfl
    ·exact absurd (h1 e) h2
   rw [this, Bool.false_and] at hs
   rw [hfin hs]; simp
  have hkx : kidOk k (psTo l k) (l[k]'(by omega)) = true → (l[k]'(by omega)).page ∉ psTo l k ∧ 0 < (l[k]'(by omega)).page ∧ (l[k]'(by omega)).page < 64 ∧ (0 ≤ (l[k]'(by omega)).t ∧ (l[k]'(by omega)).t < 3) ∧ (0 < k ∨ ((l[k]'(by omega)).t = 0 ∧ (l[k]'(by omega)).id = 0)) := fun e => of_decide_eq_true e
  generalize hX : l[k]'(by omega) = x at *
  by_cases p0 : 0 < x.page
  ·by_cases p6 : x.page < 64
   ·by_cases ht : 0 ≤ x.t ∧ x.t < 3
    ·have hd : decide (0 ≤ x.t ∧ x.t < 3) = true := decide_eq_true ht
     by_cases hk0 : k = 0
     ·by_cases hz : x.t = 0 ∧ x.id = 0
      ·have hkk : ((x.t == 0) && (((x.id : Int) == 0) && true)) = true := by simp [hz.1, hz.2]
       repeat' (first | refine zW ?_ | intro _)
       rename_i b4
       refine tpZ [0,1,2,3,4,5,6,7,8,9,10,11] (.e 12 [13,14,15,16,17,18,19,20,21,22,23,24,25,26,27,28,29,30,31,32,33,34,36,37] (.e 35 [] (.e 38 [] (.f [39,40,41] .o)))) ?_
       repeat' (refine iT ?_; first | refine rA ?_ | ((refine iE ?_; refine rE ?_) <;> ((try refine Zn ?_); (first | (refine Zb (.func 270) ?_; refine qC rfl rfl (XX _ _) ?_; rintro v ρ' L' hle ⟨rfl, rfl, rfl⟩ <;> (try simp only [kA, hd])) | (refine Yp ?_; try intro _)) <;> ((try simp only [kA]); refine Zi ?_; refine rN ?_))))
       repeat' (first | refine zW ?_ | intro _)
       simp only [Int.toNat_natCast]
       refine Zk [(0, _), (2, _), (4, _), (7, _), (8, _), (9, _), (58, _), (59, _)] (fun (ζ : (Nat)) => [(60, .int .i64 ζ)]) (fun (ζ : (Nat)) => ρ') (fun (ζ : (Nat)) => [[(b4, .cells ⟨Xi x⟩ 238 (0, 0))]]) (fun (ζ : (Nat)) => ζ ≤ k ∧ ∀ y ∈ l.take ζ, y.page ≠ x.page) (fun (ζ : (Nat)) => k - ζ) (0) (⟨Nat.zero_le _, by simp⟩) Zc Zc rfl tk ?_
       rintro j hI
       try simp only [kA, List.append_assoc] at hI ⊢
       try dsimp only at hI ⊢
       obtain ⟨hj, hjo⟩ := hI
       by_cases hjk : j < k
       ·exact absurd hjk (by omega)
       ·have hj2 : j = k := by omega
        subst hj2
        have hke : kidOk j (psTo l j) x = true := decide_eq_true ⟨fun e => by obtain ⟨y, hy, he⟩ := psTo_mem.1 e; exact hjo y hy he, p0, p6, ht, .inr hz⟩
        rw [hke, Bool.true_and] at hs
        have hs' : Zu n rt ltK l (j + 1) = true := by rw [hs]; simp [hk0]
        repeat' (first | refine zW ?_ | intro _)
        refine Zd (j + 1) (⟨hlt, hs'⟩) Zc Zc rfl tk inferInstance (by first | omega | (dsimp only; omega))
      ·have hkk : ((x.t == 0) && (((x.id : Int) == 0) && true)) = false := by
        simp; intro h; exact fun h' => hz ⟨h, by omega⟩
       rw [hx (0 < k ∨ (x.t = 0 ∧ x.id = 0)) (fun e => (hkx e).2.2.2.2) (fun e => e.elim (by omega) hz)]
       repeat' (first | refine zW ?_ | intro _)
       refine tpZ [0,1,2,3,4,5,6,7,8,9,10,11] (.e 12 [13,14,15,16,17,18,19,20,21,22,23,24,25,26,27,28,29,30,31,32,33,34,36,37] (.e 35 [] (.e 38 [] (.f [39,40,41] .o)))) ?_
       repeat' (refine iT ?_; first | refine rA ?_ | ((refine iE ?_; refine rE ?_) <;> ((try refine Zn ?_); (first | (refine Zb (.func 270) ?_; refine qC rfl rfl (XX _ _) ?_; rintro v ρ' L' hle ⟨rfl, rfl, rfl⟩ <;> (try simp only [kA, hd])) | (refine Yp ?_; try intro _)) <;> ((try simp only [kA]); refine Zi ?_; refine rN ?_))))
       repeat' (first | refine zW ?_ | intro _)
       exact qE ⟨rfl, rfl, rfl⟩
     ·have hdk : decide (k = 0) = false := decide_eq_false hk0
      rw [hdk, Bool.false_or] at hs
      obtain ⟨b2, off2, C2, T2, fr2, f1, hb2, hfit2, hc2⟩ := h.get (show k - 1 < l.length by omega)
      cases f1
      rw [hb] at hb2
      cases hb2
      have ek : ((k : Int) - 1).toNat = k - 1 := by omega
      have hkey : List.take 2 (List.drop (off + ((k : Int) - 1).toNat * 3) C) = keyV (l[k - 1]'(by omega)).t (l[k - 1]'(by omega)).id := by
       rw [ek]
       have := congrArg (List.take 2) hc2
       rw [List.take_take] at this
       exact this
      have hfit3 : off + ((k : Int) - 1).toNat * 3 + 2 ≤ C.length := by rw [ek]; omega
      obtain ⟨g1, g2⟩ := WP hok (by omega)
      have hrp := (g2 (k - 1) (by omega) (by omega)).1
      have hrk1 : rt (k - 1) (l[k - 1]'(by omega)) = kidOk (k - 1) (psTo l (k - 1)) (l[k - 1]'(by omega)) := by rw [← hrt]
      rw [hrk1] at hrp
      have hrt2 := (of_decide_eq_true hrp).2.2.2.1
      have hidp := hid _ (List.getElem_mem (show k - 1 < l.length by omega))
      clear hc2 hfit2 hrk hrk1 hrp
      generalize l[k - 1]'(by omega) = y at *
      have hor := order_lt (t1 := y.t) (t2 := x.t) hidp hidk
      unfold ltK at hs
      by_cases hcm : cmpK y.t y.id x.t x.id < 0
      ·rw [decide_eq_true hcm] at hs
       have hcm2 := hor.1 hcm
       repeat' (first | refine zW ?_ | intro _)
       rename_i b4
       refine tpZ [0,1,2,3,4,5,6,7,8,9,10,11] (.e 12 [13,14,15,16,17,18,19,20,21,22,23,24,25,26,27,28,29,30,31,32,33,34,36,37] (.e 35 [] (.e 38 [] (.f [39,40,41] .o)))) ?_
       repeat' (refine iT ?_; first | refine rA ?_ | ((refine iE ?_; refine rE ?_) <;> ((try refine Zn ?_); (first | (refine Zb (.func 270) ?_; refine qC rfl rfl (XX _ _) ?_; rintro v ρ' L' hle ⟨rfl, rfl, rfl⟩ <;> (try simp only [kA, hd])) | (refine Zb (.func 269) ?_; refine qC rfl rfl (Wn _ y.t y.id hrt2.1 hrt2.2 hidp) ?_; rintro v ρ' L' hle ⟨rfl, rfl, rfl⟩ <;> (try simp only [kA])) | (refine Zb (.func 269) ?_; refine qC rfl rfl (Wn _ x.t x.id ht.1 ht.2 hidk) ?_; rintro v ρ' L' hle ⟨rfl, rfl, rfl⟩ <;> (try simp only [kA])) | (refine Yp ?_; try intro _)) <;> ((try simp only [kA]); refine Zi ?_; refine rN ?_))))
       repeat' (first | refine zW ?_ | intro _)
       simp only [Int.toNat_natCast]
       refine Zk [(0, _), (2, _), (4, _), (7, _), (8, _), (9, _), (58, _), (59, _)] (fun (ζ : (Nat)) => [(60, .int .i64 ζ)]) (fun (ζ : (Nat)) => ρ') (fun (ζ : (Nat)) => [[(b4, .cells ⟨Xi x⟩ 238 (0, 0))]]) (fun (ζ : (Nat)) => ζ ≤ k ∧ ∀ y ∈ l.take ζ, y.page ≠ x.page) (fun (ζ : (Nat)) => k - ζ) (0) (⟨Nat.zero_le _, by simp⟩) Zc Zc rfl tk ?_
       rintro j hI
       try simp only [kA, List.append_assoc] at hI ⊢
       try dsimp only at hI ⊢
       obtain ⟨hj, hjo⟩ := hI
       by_cases hjk : j < k
       ·obtain ⟨b3, off3, C3, T3, fr3, f3, hb3, hfit3, hc3⟩ := h.get (show j < l.length by omega)
        cases f3
        rw [hb] at hb3
        cases hb3
        have htj := List.take_succ_eq_append_getElem (show j < l.length by omega)
        have hjm : l[j]'(by omega) ∈ l.take k := by
         rw [List.mem_take_iff_getElem]
         exact ⟨j, by omega, rfl⟩
        generalize hZ : l[j]'(by omega) = z at *
        by_cases hp : z.page = x.page
        ·rw [hx (x.page ∉ psTo l k) (fun e => (hkx e).1) (fun e => e (psTo_mem.2 ⟨z, hjm, hp⟩))]
         repeat' (first | refine zW ?_ | intro _)
         exact qE ⟨rfl, rfl, rfl⟩
        ·have hjn : ∀ y ∈ l.take (j + 1), y.page ≠ x.page := by
           intro y hy
           rw [htj] at hy
           rcases List.mem_append.1 hy with hy | hy
           ·exact hjo y hy
           ·rw [List.mem_singleton.1 hy]; exact hp
         repeat' (first | refine zW ?_ | intro _)
         refine Zd (j + 1) (⟨hjk, hjn⟩) Zc Zc rfl tk inferInstance (by first | omega | (dsimp only; omega))
       ·have hj2 : j = k := by omega
        subst hj2
        have hke : kidOk j (psTo l j) x = true := decide_eq_true ⟨fun e => by obtain ⟨y, hy, he⟩ := psTo_mem.1 e; exact hjo y hy he, p0, p6, ht, .inl (by omega)⟩
        rw [hke, Bool.true_and] at hs
        have hs' : Zu n rt ltK l (j + 1) = true := hs
        repeat' (first | refine zW ?_ | intro _)
        refine Zd (j + 1) (⟨hlt, hs'⟩) Zc Zc rfl tk inferInstance (by first | omega | (dsimp only; omega))
      ·rw [decide_eq_false hcm, Bool.and_false] at hs
       have hcm2 : ¬ (y.t * 65536 + y.id < x.t * 65536 + x.id) := fun h => hcm (hor.2 h)
       rw [hfin hs]
       simp only [Bool.and_false]
       repeat' (first | refine zW ?_ | intro _)
       refine tpZ [0,1,2,3,4,5,6,7,8,9,10,11] (.e 12 [13,14,15,16,17,18,19,20,21,22,23,24,25,26,27,28,29,30,31,32,33,34,36,37] (.e 35 [] (.e 38 [] (.f [39,40,41] .o)))) ?_
       repeat' (refine iT ?_; first | refine rA ?_ | ((refine iE ?_; refine rE ?_) <;> ((try refine Zn ?_); (first | (refine Zb (.func 270) ?_; refine qC rfl rfl (XX _ _) ?_; rintro v ρ' L' hle ⟨rfl, rfl, rfl⟩ <;> (try simp only [kA, hd])) | (refine Zb (.func 269) ?_; refine qC rfl rfl (Wn _ y.t y.id hrt2.1 hrt2.2 hidp) ?_; rintro v ρ' L' hle ⟨rfl, rfl, rfl⟩ <;> (try simp only [kA])) | (refine Zb (.func 269) ?_; refine qC rfl rfl (Wn _ x.t x.id ht.1 ht.2 hidk) ?_; rintro v ρ' L' hle ⟨rfl, rfl, rfl⟩ <;> (try simp only [kA])) | (refine Yp ?_; try intro _)) <;> ((try simp only [kA]); refine Zi ?_; refine rN ?_))))
       repeat' (first | refine zW ?_ | intro _)
       exact qE ⟨rfl, rfl, rfl⟩
    ·have hd : decide (0 ≤ x.t ∧ x.t < 3) = false := decide_eq_false ht
     rw [hx (0 ≤ x.t ∧ x.t < 3) (fun e => (hkx e).2.2.2.1) ht]
     repeat' (first | refine zW ?_ | intro _)
     refine tpZ [0,1,2,3,4,5,6,7,8,9,10,11] (.e 12 [13,14,15,16,17,18,19,20,21,22,23,24,25,26,27,28,29,30,31,32,33,34,36,37] (.e 35 [] (.e 38 [] (.f [39,40,41] .o)))) ?_
     repeat' (refine iT ?_; first | refine rA ?_ | ((refine iE ?_; refine rE ?_) <;> ((try refine Zn ?_); (first | (refine Zb (.func 270) ?_; refine qC rfl rfl (XX _ _) ?_; rintro v ρ' L' hle ⟨rfl, rfl, rfl⟩ <;> (try simp only [kA, hd])) | (refine Yp ?_; try intro _)) <;> ((try simp only [kA]); refine Zi ?_; refine rN ?_))))
     repeat' (first | refine zW ?_ | intro _)
     exact qE ⟨rfl, rfl, rfl⟩
   ·rw [hx (x.page < 64) (fun e => (hkx e).2.2.1) p6]
    repeat' (first | refine zW ?_ | intro _)
    refine tpZ [0,1,2,3,4,5,6,7,8,9,10,11] (.e 12 [13,14,15,16,17,18,19,20,21,22,23,24,25,26,27,28,29,30,31,32,33,34,36,37] (.e 35 [] (.e 38 [] (.f [39,40,41] .o)))) ?_
    repeat' (refine iT ?_; first | refine rA ?_ | ((refine iE ?_; refine rE ?_) <;> ((try refine Zn ?_); (first | (refine Yp ?_; try intro _)) <;> ((try simp only [kA]); refine Zi ?_; refine rN ?_))))
    repeat' (first | refine zW ?_ | intro _)
    exact qE ⟨rfl, rfl, rfl⟩
  ·rw [hx (0 < x.page) (fun e => (hkx e).2.1) p0]
   repeat' (first | refine zW ?_ | intro _)
   refine tpZ [0,1,2,3,4,5,6,7,8,9,10,11] (.e 12 [13,14,15,16,17,18,19,20,21,22,23,24,25,26,27,28,29,30,31,32,33,34,36,37] (.e 35 [] (.e 38 [] (.f [39,40,41] .o)))) ?_
   repeat' (refine iT ?_; first | refine rA ?_ | ((refine iE ?_; refine rE ?_) <;> ((try refine Zn ?_); (first | (refine Yp ?_; try intro _)) <;> ((try simp only [kA]); refine Zi ?_; refine rN ?_))))
   repeat' (first | refine zW ?_ | intro _)
   exact qE ⟨rfl, rfl, rfl⟩
 ·have hk2 : k = n := by omega
  subst hk2
  rw [hok, Bool.and_true]
  by_cases h2 : 1 < k
  ·by_cases h4 : k ≤ 4
   ·rw [decide_eq_true h4, decide_eq_true h2]
    repeat' (first | refine zW ?_ | intro _)
    exact qE ⟨rfl, rfl, rfl⟩
   ·rw [decide_eq_false h4, Bool.and_false]
    repeat' (first | refine zW ?_ | intro _)
    exact qE ⟨rfl, rfl, rfl⟩
  ·rw [decide_eq_false h2, Bool.false_and]
   repeat' (first | refine zW ?_ | intro _)
   exact qE ⟨rfl, rfl, rfl⟩
theorem right_spec (ρ : Hp) (v : CV) (c : Yh) (h : CIn ρ v c.rows c.kids) (hir : ∀ r ∈ c.rows, r.id < 65536) (hik : ∀ k ∈ c.kids, k.id < 65536) : Spec Tryz.prog 118 [.agg ⟨Xl c.kind v⟩] ρ [] (fun r ρ' L' => r = .bool (ZC c) ∧ ρ' = ρ ∧ L' = []) := by
 obtain ⟨kind, rows, kids⟩ := c
 obtain ⟨ra, rn, rc, ka, kn, kc⟩ := v
 obtain ⟨hr, hk, hrb, hkb, hrc, hkc⟩ := h
 dsimp only at hr hk hrb hkb hrc hkc hir hik
 have hrl := hr.len
 have hkl := hk.len
 have hrs := rowsR_spec ρ ra rn rc rows hr hrb hir
 have hks := kidsR_spec ρ ka kn kc kids hk hkb hkc hik
 generalize hq : ZC ⟨kind, rows, kids⟩ = q
 unfold ZC at hq
 simp only [hrl, hkl] at hq
 refine Za Tryz.func118 rfl rfl rfl fun u R => ?_
 simp only [Zg, kA]
 by_cases k0 : kind = 0
 ·rw [if_pos k0] at hq
  by_cases hz : rn = 0
  ·by_cases hz2 : kn = 0
   ·rw [decide_eq_true (show rn + kn = 0 by omega)] at hq
    subst hq
    repeat' (first | refine zW ?_ | intro _)
    exact qE ⟨rfl, rfl, rfl⟩
   ·rw [decide_eq_false (show ¬ rn + kn = 0 by omega)] at hq
    subst hq
    repeat' (first | refine zW ?_ | intro _)
    exact qE ⟨rfl, rfl, rfl⟩
  ·rw [decide_eq_false (show ¬ rn + kn = 0 by omega)] at hq
   subst hq
   repeat' (first | refine zW ?_ | intro _)
   exact qE ⟨rfl, rfl, rfl⟩
 ·rw [if_neg k0] at hq
  by_cases k1 : kind = 1
  ·rw [if_pos k1] at hq
   by_cases hz : kn = 0
   ·rw [decide_eq_true hz, Bool.true_and] at hq
    rw [hq] at hrs
    repeat' (first | (refine Zb (.func 193) ?_; refine qR rfl rfl (hrs) ?_; try simp only [kA]) | refine zW ?_ | intro _)
    exact qE ⟨rfl, rfl, rfl⟩
   ·rw [decide_eq_false hz, Bool.false_and] at hq
    subst hq
    repeat' (first | refine zW ?_ | intro _)
    exact qE ⟨rfl, rfl, rfl⟩
  ·rw [if_neg k1] at hq
   by_cases k2 : kind = 2
   ·rw [if_pos k2] at hq
    by_cases hz : rn = 0
    ·rw [decide_eq_true hz, Bool.true_and] at hq
     rw [hq] at hks
     repeat' (first | (refine Zb (.func 194) ?_; refine qR rfl rfl (hks) ?_; try simp only [kA]) | refine zW ?_ | intro _)
     exact qE ⟨rfl, rfl, rfl⟩
    ·rw [decide_eq_false hz, Bool.false_and] at hq
     subst hq
     repeat' (first | refine zW ?_ | intro _)
     exact qE ⟨rfl, rfl, rfl⟩
   ·rw [if_neg k2] at hq
    subst hq
    repeat' (first | refine zW ?_ | intro _)
    exact qE ⟨rfl, rfl, rfl⟩
theorem sameR_spec (ρ : Hp) (w w' : CV) (c d : Yh) (h : CIn ρ w c.rows c.kids) (h' : CIn ρ w' d.rows d.kids) :
  Spec Tryz.prog 125 [.agg ⟨Xl c.kind w⟩, .agg ⟨Xl d.kind w'⟩] ρ [] (fun v ρ' L' => v = .bool (decide (c = d)) ∧ ρ' = ρ ∧ L' = []) := by
 obtain ⟨kind, rows, kids⟩ := c
 obtain ⟨kind', rows', kids'⟩ := d
 obtain ⟨ra, rn, rc, ka, kn, kc⟩ := w
 obtain ⟨ra', rn', rc', ka', kn', kc'⟩ := w'
 obtain ⟨hr, hk, hrb, hkb, hrc, hkc⟩ := h
 obtain ⟨hr', hk', hrb', hkb', hrc', hkc'⟩ := h'
 dsimp only at hrc hkc hr hk hrb hkb hrc' hkc' hr' hk' hrb' hkb' ⊢
 have hrn := hr.len
 have hkn := hk.len
 have hrn' := hr'.len
 have hkn' := hk'.len
 simp only [Yh.mk.injEq]
 refine Za Tryz.func125 rfl rfl rfl fun u R => ?_
 simp only [Zg, kA, Xl]
 by_cases h1 : kind = kind'
 ·by_cases h2 : rn = rn'
  ·by_cases h3 : kn = kn'
   ·subst h1; subst h2; subst h3
    repeat' (first | refine zW ?_ | intro _)
    rename_i b1 b2
    refine Zk [(2, _), (3, _), (4, _), (32, _)] (fun (ζ : (Nat)) => [(33, .int .i64 ζ)]) (fun (ζ : (Nat)) => ρ) (fun (ζ : (Nat)) => [[(b2, .cells ⟨[.int .i64 kind, .slice ra' rn rc', .slice ka' kn kc']⟩ 112 (0, 0))], [(b1, .cells ⟨[.int .i64 kind, .slice ra rn rc, .slice ka kn kc]⟩ 112 (0, 0))]]) (fun (ζ : (Nat)) => ζ ≤ rn ∧ rows.take ζ = rows'.take ζ) (fun (ζ : (Nat)) => rn - ζ) (0) (⟨Nat.zero_le _, rfl⟩) Zc Zc rfl tk ?_
    rintro k hI
    try simp only [kA, List.append_assoc] at hI ⊢
    try dsimp only at hI ⊢
    obtain ⟨hk0, hpre⟩ := hI
    by_cases hlt : k < rn
    ·obtain ⟨b, off, C, T, fr, rfl, hb, hfit, hc⟩ := hr.get (show k < rows.length by omega)
     obtain ⟨b', off', C', T', fr', rfl, hb', hfit', hc'⟩ := hr'.get (show k < rows'.length by omega)
     have ht1 := List.take_succ_eq_append_getElem (show k < rows.length by omega)
     have ht2 := List.take_succ_eq_append_getElem (show k < rows'.length by omega)
     have hf : rows = rows' → rows[k]'(by omega) = rows'[k]'(by omega) := fun e => by subst e; rfl
     generalize rows[k]'(by omega) = x at *
     generalize rows'[k]'(by omega) = y at *
     by_cases he : x = y
     ·have hd : decide (x = y) = true := decide_eq_true he
      repeat' (first | refine zW ?_ | intro _)
      refine tpA [0] (.f [1,2,3,4,5,6,7,8,9,10] .o) ([[(b2, .cells ⟨[.int .i64 kind, .slice (some ⟨b', off', none⟩) rn rc', .slice ka' kn kc']⟩ 112 (0, 0))], [(b1, .cells ⟨[.int .i64 kind, .slice (some ⟨b, off, none⟩) rn rc, .slice ka kn kc]⟩ 112 (0, 0))]]) ?_
      repeat' (refine iT ?_; first | refine rA ?_)
      repeat' (first | refine zW ?_ | intro _)
      refine Zd (k + 1) (⟨hlt, by rw [ht1, ht2, hpre, he]⟩) Zc Zc rfl tk inferInstance (by first | omega | (dsimp only; omega))
     ·have hd : decide (x = y) = false := decide_eq_false he
      rw [decide_eq_false (fun e => he (hf e.2.1))]
      repeat' (first | refine zW ?_ | intro _)
      refine tpA [0] (.f [1,2,3,4,5,6,7,8,9,10] .o) ([[(b2, .cells ⟨[.int .i64 kind, .slice (some ⟨b', off', none⟩) rn rc', .slice ka' kn kc']⟩ 112 (0, 0))], [(b1, .cells ⟨[.int .i64 kind, .slice (some ⟨b, off, none⟩) rn rc, .slice ka kn kc]⟩ 112 (0, 0))]]) ?_
      repeat' (refine iT ?_; first | refine rA ?_)
      repeat' (first | refine zW ?_ | intro _)
      exact qE ⟨rfl, rfl, rfl⟩
    ·have hk2 : k = rn := by omega
     subst hk2
     rw [List.take_of_length_le (by omega), List.take_of_length_le (by omega)] at hpre
     subst hpre
     repeat' (first | refine zW ?_ | intro _)
     refine Zk [(2, _), (3, _), (4, _), (50, _)] (fun (ζ : (Nat)) => [(51, .int .i64 ζ)]) (fun (ζ : (Nat)) => ρ) (fun (ζ : (Nat)) => [[(b2, .cells ⟨[.int .i64 kind, .slice ra' k rc', .slice ka' kn kc']⟩ 112 (0, 0))], [(b1, .cells ⟨[.int .i64 kind, .slice ra k rc, .slice ka kn kc]⟩ 112 (0, 0))]]) (fun (ζ : (Nat)) => ζ ≤ kn ∧ kids.take ζ = kids'.take ζ) (fun (ζ : (Nat)) => kn - ζ) (0) (⟨Nat.zero_le _, rfl⟩) Zc Zc rfl tk ?_
     rintro j hI
     try simp only [kA, List.append_assoc] at hI ⊢
     try dsimp only at hI ⊢
     obtain ⟨hj0, hpre⟩ := hI
     by_cases hlj : j < kn
     ·obtain ⟨b, off, C, T, fr, rfl, hb, hfit, hc⟩ := hk.get (show j < kids.length by omega)
      obtain ⟨b', off', C', T', fr', rfl, hb', hfit', hc'⟩ := hk'.get (show j < kids'.length by omega)
      have ht1 := List.take_succ_eq_append_getElem (show j < kids.length by omega)
      have ht2 := List.take_succ_eq_append_getElem (show j < kids'.length by omega)
      have hf : kids = kids' → kids[j]'(by omega) = kids'[j]'(by omega) := fun e => by subst e; rfl
      generalize kids[j]'(by omega) = x at *
      generalize kids'[j]'(by omega) = y at *
      by_cases he : x = y
      ·have hd : decide (x = y) = true := decide_eq_true he
       repeat' (first | refine zW ?_ | intro _)
       refine tpA [0] (.f [1,2,3,4,5,6,7,8,9,10] .o) ([[(b2, .cells ⟨[.int .i64 kind, .slice ra' k rc', .slice (some ⟨b', off', none⟩) kn kc']⟩ 112 (0, 0))], [(b1, .cells ⟨[.int .i64 kind, .slice ra k rc, .slice (some ⟨b, off, none⟩) kn kc]⟩ 112 (0, 0))]]) ?_
       repeat' (refine iT ?_; first | refine rA ?_)
       repeat' (first | refine zW ?_ | intro _)
       refine Zd (j + 1) (⟨hlj, by rw [ht1, ht2, hpre, he]⟩) Zc Zc rfl tk inferInstance (by first | omega | (dsimp only; omega))
      ·have hd : decide (x = y) = false := decide_eq_false he
       rw [decide_eq_false (fun e => he (hf e.2.2))]
       repeat' (first | refine zW ?_ | intro _)
       refine tpA [0] (.f [1,2,3,4,5,6,7,8,9,10] .o) ([[(b2, .cells ⟨[.int .i64 kind, .slice ra' k rc', .slice (some ⟨b', off', none⟩) kn kc']⟩ 112 (0, 0))], [(b1, .cells ⟨[.int .i64 kind, .slice ra k rc, .slice (some ⟨b, off, none⟩) kn kc]⟩ 112 (0, 0))]]) ?_
       repeat' (refine iT ?_; first | refine rA ?_)
       repeat' (first | refine zW ?_ | intro _)
       exact qE ⟨rfl, rfl, rfl⟩
     ·have hj2 : j = kn := by omega
      subst hj2
      rw [List.take_of_length_le (by omega), List.take_of_length_le (by omega)] at hpre
      subst hpre
      rw [decide_eq_true ⟨trivial, trivial, rfl⟩]
      repeat' (first | refine zW ?_ | intro _)
      exact qE ⟨rfl, rfl, rfl⟩
   ·rw [decide_eq_false (fun e => h3 (by rw [← hkn, ← hkn', e.2.2]))]
    repeat' (first | refine zW ?_ | intro _)
    exact qE ⟨rfl, rfl, rfl⟩
  ·rw [decide_eq_false (fun e => h2 (by rw [← hrn, ← hrn', e.2.1]))]
   repeat' (first | refine zW ?_ | intro _)
   exact qE ⟨rfl, rfl, rfl⟩
 ·rw [decide_eq_false (fun e => h1 e.1)]
  repeat' (first | refine zW ?_ | intro _)
  exact qE ⟨rfl, rfl, rfl⟩
end Go.Proofs.E
namespace Go.Proofs.E
open Go
set_option linter.unusedVariables false
set_option linter.unusedSimpArgs false
set_option linter.unusedSectionVars false
set_option maxRecDepth 4000
set_option maxHeartbeats 1000000
attribute [local irreducible] Yl TL TC TE Spec ZF R1 Hp.le EnvLe TS TR YS Zo
abbrev ShD := Sh
abbrev shV (s : Sh) : List Value := sheV s
def Wy (x : Im) : ShD := ⟨x.page, x.av, x.a⟩
def WE (d : List Ym) (r : Rc) : List Im := r.ims.filter (fun x => XE d r x.page)
def redoL (f : Int → Nat) (d : List Ym) (r : Rc) : List Im := (WE d r).filter (fun x => decide (f x.page < r.lsn))
abbrev dC (b : Nat) (s : SV) : List (Nat × Obj) := [(b, .cells ⟨[.slice s.a s.n s.c]⟩ 37 (0, 0))]
theorem filt_pre {α : Type} (q : α → Bool) (l : List α) {k : Nat} (hk : k < l.length) (hq : q l[k] = true) : ((l.take k).filter q ++ [l[k]]) <+: l.filter q ∧ (l.take (k + 1)).filter q = (l.take k).filter q ++ [l[k]] := by
 have e : (l.take (k + 1)).filter q = (l.take k).filter q ++ [l[k]] := by
  rw [List.take_succ_eq_append_getElem hk, List.filter_append]
  congr 1
  simp [hq]
 refine ⟨?_, e⟩
 rw [← e]
 exact ⟨(l.drop (k + 1)).filter q, by rw [← List.filter_append, List.take_append_drop]⟩
theorem filt_no {α : Type} (q : α → Bool) (l : List α) {k : Nat} (hk : k < l.length) (hq : q l[k] = false) : (l.take (k + 1)).filter q = (l.take k).filter q := by
 rw [List.take_succ_eq_append_getElem hk, List.filter_append]
 simp [hq]
theorem needed24_iter (ρ0 : Hp) (xb db : Nat) (s : SV) (d : List Ym) (hd : AS ρ0 2 YQ s d) (v : RV) (r : Rc) (h : RcIn ρ0 v r) : Iter Tryz.prog 277 [] [.pointer (some ⟨xb, 0, none⟩), .pointer (some ⟨db, 0, none⟩)] (fun x : Im => [.agg ⟨shV (Wy x)⟩]) ρ0 [recC xb v r, dC db s] (WE d r) := by
 intro l J Jx hY ρ Lj hl0 hJ
 have li := h.i.at'.len
 have bi := h.i.big
 refine Za Tryz.func277 rfl rfl rfl fun u R => ?_
 simp only [Zg, kA, List.append_assoc]
 repeat' (first | refine zV ?_ | intro _)
 refine Zk [(0, _), (1, _), (2, _), (7, _), (8, _)] (fun (ζ : (Nat) × (Hp) × (SH)) => [(9, .int .i64 ζ.1)]) (fun (ζ : (Nat) × (Hp) × (SH)) => ζ.2.1) (fun (ζ : (Nat) × (Hp) × (SH)) => recC xb v r :: dC db s :: ζ.2.2) (fun (ζ : (Nat) × (Hp) × (SH)) => ζ.1 ≤ v.i.n ∧ ρ.le ζ.2.1 ∧ J ((r.ims.take ζ.1).filter (fun x => XE d r x.page)) ζ.2.1 ζ.2.2) (fun (ζ : (Nat) × (Hp) × (SH)) => v.i.n - ζ.1) ((0, ρ, Lj)) (⟨Nat.zero_le _, Hp.le_refl _, hJ⟩) Zc Zc rfl tk ?_
 rintro ⟨k, ρ1, L1⟩ hI
 try simp only [kA, List.append_assoc] at hI ⊢
 try dsimp only at hI ⊢
 obtain ⟨hk, hle1, hj⟩ := hI
 by_cases hlt : k < v.i.n
 ·have hl1 := Hp.le_trans hl0 hle1
  obtain ⟨b, off, C, T, fr, e1, hb, hfit, hc⟩ := (h.i.at'.mono hl1).get (show k < r.ims.length by omega)
  have hyes := filt_pre (fun x : Im => XE d r x.page) r.ims (show k < r.ims.length by omega)
  have hno := filt_no (fun x : Im => XE d r x.page) r.ims (show k < r.ims.length by omega)
  generalize r.ims[k]'(by omega) = x at *
  have hne := needs_spec ρ1 s d (hd.mono hl1) v r (h.mono hl1) x.page
  rw [e1]
  cases hq : XE d r x.page
  ·rw [hq] at hne
   have hts := hno hq
   clear hyes hno
   repeat' (first | (refine Zb (.func 278) ?_; refine qC rfl rfl (hne) ?_; rintro v ρ' L' hle ⟨rfl, rfl, rfl⟩ <;> (try simp only [kA])) | refine zV ?_ | intro _)
   rw [← e1]
   refine Zd (k + 1, ρ', L1) (⟨hlt, hle1, by dsimp only; rw [hts]; exact hj⟩) Zc Zc rfl tk inferInstance (by first | omega | (dsimp only; omega))
  ·rw [hq] at hne
   obtain ⟨hpre, hts⟩ := hyes hq
   clear hyes hno
   have hy := hY _ _ ρ1 L1 hpre hl1 hj
   repeat' (first | (refine Zb (.func 278) ?_; refine qC rfl rfl (hne) ?_; rintro v ρ' L' hle ⟨rfl, rfl, rfl⟩ <;> (try simp only [kA])) | (refine Zb (.tmp 19) ?_; refine qY rfl rfl (hy) ?_; rintro v ρ' L' hle ⟨Lj', rfl, ⟨rfl, hj'⟩ | ⟨rfl, hj'⟩⟩ <;> (try simp only [kA])) | refine zV ?_ | intro _)
   ·repeat' (first | refine zV ?_ | intro _)
    rw [← e1]
    refine Zd (k + 1, ρ', Lj') (⟨hlt, Hp.le_trans hle1 hle, by dsimp only; rw [hts]; exact hj'⟩) Zc Zc rfl tk inferInstance (by first | omega | (dsimp only; omega))
   ·repeat' (first | refine zV ?_ | intro _)
    exact qE (L' := recC xb v r :: dC db s :: Lj') ⟨Lj', rfl, .inr hj'⟩
 ·have hk2 : k = r.ims.length := by omega
  rw [hk2, List.take_length] at hj
  repeat' (first | refine zV ?_ | intro _)
  exact qE (L' := recC xb v r :: dC db s :: L1) ⟨L1, rfl, .inl hj⟩
theorem needed24_spec (ρ : Hp) (s : SV) (v : RV) (r : Rc) : Spec Tryz.prog 200 [.slice s.a s.n s.c, .agg ⟨YI v r⟩] ρ [] (fun z ρ' L' => ρ' = ρ ∧ ∃ xb db, z = .func (.func 277) ⟨[]⟩ ⟨[.pointer (some ⟨xb, 0, none⟩), .pointer (some ⟨db, 0, none⟩)]⟩ ∧ L' = [recC xb v r, dC db s]) := by
 refine Za Tryz.func200 rfl rfl rfl fun u R => ?_
 simp only [Zg, kA]
 repeat' (first | refine zV ?_ | intro _)
 rename_i db xb
 exact qE (L' := [recC xb v r, dC db s]) ⟨rfl, xb, db, rfl, rfl⟩
theorem shV_len (s : ShD) : (shV s).length = 4 := rfl
theorem sheetsJ_spec (ρ : Hp) (s : SV) (d : List Ym) (hd : AS ρ 2 YQ s d) (v : RV) (r : Rc) (h : RcIn ρ v r) (F : Nat) [hFun : ZJ Tryz.prog F] (cs : List Value) (X : SH) (f : Int → Nat) (J : Hp → SH → Prop) (hJ0 : J ρ X) (hJm : ∀ {ρ1 ρ2 : Hp} {L : SH}, ρ1.le ρ2 → J ρ1 L → J ρ2 L)
  (hf : ∀ ρ2 X2, ρ.le ρ2 → J ρ2 X2 → ∀ x ∈ r.ims, Spec Tryz.prog F (.int .i64 x.page :: cs) ρ2 X2 (fun z ρ' L' => z = .tuple ⟨[.int .u64 (f x.page : Nat), .int .i64 0]⟩ ∧ ρ2.le ρ' ∧ J ρ' L')) :
  Spec Tryz.prog 121 [.slice s.a s.n s.c, .agg ⟨YI v r⟩, .func (.func F) ⟨[]⟩ ⟨cs⟩] ρ X
   (fun z ρ' L' => ρ.le ρ' ∧ ∃ s2 : SV, z = .tuple ⟨[.slice s2.a s2.n s2.c, .int .i64 0]⟩ ∧ AS ρ' 4 shV s2 ((redoL f d r).map Wy) ∧ J ρ' L') := by
 have li := h.i.at'.len
 have bi := h.i.big
 refine Za Tryz.func121 rfl rfl rfl fun u R => ?_
 simp only [Zg, kA]
 repeat' (first | (refine Zb (.func 200) ?_; refine qC rfl rfl (needed24_spec _ s v r) ?_; rintro v ρ' L' hle ⟨rfl, xb, db, rfl, rfl⟩ <;> (try simp only [kA])) | refine zV ?_ | intro _)
 rename_i rb fb ob eb
 have hI := needed24_iter ρ' xb db s d hd v r h
 generalize hq : (fun x : Im => decide (f x.page < r.lsn)) = q
 refine tc_rangeFunc (S := [recC xb v r, dC db s]) (L0 := [[(eb, .cells ⟨[.int .i64 0]⟩ 27 (0, 0))], [(ob, .cells ⟨[.slice none 0 0]⟩ 139 (0, 0))], [(fb, .cells ⟨[.func (.func F) ⟨[]⟩ ⟨cs⟩]⟩ 225 (0, 0))], recC rb v r, ZM (.slice none 0 0) [] [] 215] ++ X) (R := R) (R0 := [(eb, .cells ⟨[.int .i64 0]⟩ 27 (0, 0))] :: [(ob, .cells ⟨[.slice none 0 0]⟩ 139 (0, 0))] :: [(fb, .cells ⟨[.func (.func F) ⟨[]⟩ ⟨cs⟩]⟩ 225 (0, 0))] :: recC rb v r :: (X ++ R)) rfl rfl hI (Hp.le_refl _) (fun _ => rfl) rfl
  (fun pre ρ2 Lu => ρ'.le ρ2 ∧ ∃ v' sp X2, J ρ2 X2 ∧ OwnS v' (pre.filter q).length ((((pre.filter q).map Wy).map shV).flatten) sp 4 ∧ Lu = [[(eb, .cells ⟨[.int .i64 0]⟩ 27 (0, 0))], [(ob, .cells ⟨[v']⟩ 139 (0, 0))], [(fb, .cells ⟨[.func (.func F) ⟨[]⟩ ⟨cs⟩]⟩ 225 (0, 0))], recC rb v r, ZM v' ((((pre.filter q).map Wy).map shV).flatten) sp 215] ++ X2) (fun _ _ _ => False) ?k1 ?k2 ⟨Hp.le_refl _, _, [], X, hJ0, OwnS.nil 4, rfl⟩ ?round ?done ?stop
 case k1 => exact tk
 case k2 => exact tk
 case stop => rintro D0 c ρ' Lu _ hf; exact hf.elim
 case round =>
  rintro l tm r' pre y ρ2 Lu u R' hpre hle' ⟨hle2, v', sp, X2, hJ2, hown, rfl⟩ hr hrec
  simp only [envP, kA]
  have hlen := hpre.length_le
  have hlen2 : (WE d r).length ≤ r.ims.length := List.length_filter_le _ _
  have hlen3 : (pre.filter q).length ≤ pre.length := List.length_filter_le _ _
  simp only [List.length_append, List.length_singleton] at hlen
  have hym : y ∈ r.ims := (List.mem_filter.1 (hpre.subset (by simp : y ∈ pre ++ [y]))).1
  have hfy := hf ρ2 X2 hle2 hJ2 y hym
  obtain ⟨va, vc, rfl, _⟩ := hown.slice
  repeat' (first | refine zV ?_ | intro _)
  refine ZK [(l, .loop r')] ?_
  refine te_begin rfl hr (fun r2 hbz hrec' => ?_)
  by_cases hlt : f y.page < r.lsn
  ·have hfl : (pre ++ [y]).filter q = pre.filter q ++ [y] := by rw [List.filter_append]; congr 1; simp [← hq, hlt]
   repeat' (first | (refine Zb (.tmp 18) ?_; refine qC rfl rfl hfy ?_; rintro z5 ρ5 X5 hle5 ⟨rfl, hl5, hJ5⟩; try simp only [kA]) | (refine YH (css := [shV (Wy y)]) (sz := 4) rfl rfl rfl rfl (by simp) (by simp) rfl (fun bs => ?_); simp only [List.flatten_cons, List.flatten_nil, List.append_nil]) | (refine Ye (ys := shV (Wy y)) (m := 1) rfl rfl hown (hR := by repeat (first | exact Zx | apply ZA | apply rem_app')) SrcV.lit rfl rfl (by decide) rfl (by omega) (by omega) rfl (fun v3 sp3 hown3 => ?_); obtain ⟨va3, vc3, rfl, _⟩ := hown3.slice) | refine zV ?_ | intro _)
   have hm : ((((pre.filter q).map Wy).map shV).flatten) ++ shV (Wy y) = (((((pre ++ [y]).filter q).map Wy).map shV).flatten) := by rw [hfl]; simp
   have hln : (pre.filter q).length + 1 = ((pre ++ [y]).filter q).length := by rw [hfl]; simp
   rw [hm, hln] at hown3 ⊢
   refine ZK [(l, .loop r2)] ?_
   refine Vf (Lu := [[(eb, .cells ⟨[.int .i64 0]⟩ 27 (0, 0))], [(ob, .cells ⟨[.slice va3 ((pre ++ [y]).filter q).length vc3]⟩ 139 (0, 0))], [(fb, .cells ⟨[.func (.func F) ⟨[]⟩ ⟨cs⟩]⟩ 225 (0, 0))], recC rb v r, ZM (.slice va3 ((pre ++ [y]).filter q).length vc3) (((((pre ++ [y]).filter q).map Wy).map shV).flatten) sp3 215] ++ X5) rfl hl5 ⟨hrec'.tmps.trans hrec.tmps, hrec'.params.trans hrec.params, hrec'.assign.trans hrec.assign, hrec'.body.trans hrec.body⟩ tk tk inferInstance ?_
   exact ⟨Hp.le_trans hle2 hl5, _, sp3, X5, hJ5, hown3, rfl⟩
  ·have hfl : (pre ++ [y]).filter q = pre.filter q := by rw [List.filter_append]; simp [← hq, hlt]
   repeat' (first | (refine Zb (.tmp 18) ?_; refine qC rfl rfl hfy ?_; rintro z5 ρ5 X5 hle5 ⟨rfl, hl5, hJ5⟩; try simp only [kA]) | refine zV ?_ | intro _)
   refine ZK [(l, .loop r2)] ?_
   refine Vf (Lu := [[(eb, .cells ⟨[.int .i64 0]⟩ 27 (0, 0))], [(ob, .cells ⟨[.slice va (pre.filter q).length vc]⟩ 139 (0, 0))], [(fb, .cells ⟨[.func (.func F) ⟨[]⟩ ⟨cs⟩]⟩ 225 (0, 0))], recC rb v r, ZM (.slice va (pre.filter q).length vc) ((((pre.filter q).map Wy).map shV).flatten) sp 215] ++ X5) rfl hl5 ⟨hrec'.tmps.trans hrec.tmps, hrec'.params.trans hrec.params, hrec'.assign.trans hrec.assign, hrec'.body.trans hrec.body⟩ tk tk inferInstance ?_
   exact ⟨Hp.le_trans hle2 hl5, _, sp, X5, hJ5, by rw [hfl]; exact hown, by rw [hfl]; rfl⟩
 case done =>
  rintro D0 ρ2 Lu hle' ⟨hle2, v', sp, X2, hJ2, hown, rfl⟩
  simp only [kA]
  have hlen2 : (WE d r).length ≤ r.ims.length := List.length_filter_le _ _
  have hlen3 : ((WE d r).filter q).length ≤ (WE d r).length := List.length_filter_le _ _
  have hL : (redoL f d r).map Wy = ((WE d r).filter q).map Wy := by rw [← hq]; rfl
  rw [hL]
  obtain ⟨a', cap', rfl, hvl⟩ := hown.slice
  refine Yw (ZM (.slice a' ((WE d r).filter q).length cap') (((((WE d r).filter q).map Wy).map shV).flatten) sp 215) (fun ρ3 hle3 hfz => ?_)
  obtain ⟨sa, sc, f1, hsc, hS⟩ := hown.aIn (by simp) (fun x _ => shV_len x) hfz
  cases f1
  repeat' (first | refine zV ?_ | intro _)
  exact XL rfl rfl rfl inferInstance (res2 rfl (ZU rfl) (ZU rfl)) (Hp.le_trans hle2 hle3) tk (by infer_instance) (L' := X2) ⟨Hp.le_trans hle2 hle3, ⟨a', _, cap'⟩, rfl, ⟨hS, by dsimp only; omega, hsc⟩, hJm hle3 hJ2⟩
theorem sheets_spec (ρ : Hp) (s : SV) (d : List Ym) (hd : AS ρ 2 YQ s d) (v : RV) (r : Rc) (h : RcIn ρ v r) (F : Nat) [hFun : ZJ Tryz.prog F] (cs : List Value) (X : SH) (f : Int → Nat)
  (hf : ∀ ρ2, ρ.le ρ2 → ∀ x ∈ r.ims, Spec Tryz.prog F (.int .i64 x.page :: cs) ρ2 X (fun z ρ' L' => z = .tuple ⟨[.int .u64 (f x.page : Nat), .int .i64 0]⟩ ∧ ρ' = ρ2 ∧ L' = X)) :
  Spec Tryz.prog 121 [.slice s.a s.n s.c, .agg ⟨YI v r⟩, .func (.func F) ⟨[]⟩ ⟨cs⟩] ρ X
   (fun z ρ' L' => ρ.le ρ' ∧ ∃ s2 : SV, z = .tuple ⟨[.slice s2.a s2.n s2.c, .int .i64 0]⟩ ∧ AS ρ' 4 shV s2 ((redoL f d r).map Wy) ∧ L' = X) :=
 sheetsJ_spec ρ s d hd v r h F cs X f (fun _ L => L = X) rfl (fun _ h => h) (fun ρ2 X2 hl hX x hx => by
  subst hX
  exact (hf ρ2 hl x hx).mono (fun z ρ' L' _ ⟨q1, q2, q3⟩ => ⟨q1, by rw [q2]; exact Hp.le_refl _, q3⟩))
theorem cell_at4 {C : List Value} {i sz : Nat} {l : List Value} (h : (C.drop i).take sz = l) {d : Nat} {v : Value} (hd : l[d]? = some v) : C[i + d]? = some v := by
 have h1 : d < sz := by
  have := (List.getElem?_eq_some_iff.1 hd).1
  rw [← h, List.length_take] at this
  omega
 rw [← h, List.getElem?_take_of_lt h1, List.getElem?_drop] at hd
 exact hd
structure PgD where
 w : CV
 c : Yh
 lsn : Nat
abbrev pdV (p : PgD) : List Value := [.int .i64 p.c.kind, .slice p.w.ra p.w.rn p.w.rc, .slice p.w.ka p.w.kn p.w.kc, .int .u64 p.lsn]
abbrev lC (b : Nat) (a : Option Addr) (n c : Nat) : List (Nat × Obj) := [(b, .cells ⟨[.slice a n c]⟩ 83 (0, 0))]
def WJ (d : List Ym) (r : Rc) : Int := if Xn d then (if ZT r then 0 else 220) else 320
theorem why_spec (ρ : Hp) (s : SV) (d : List Ym) (hd : AS ρ 2 YQ s d) (v : RV) (r : Rc) (h : RcIn ρ v r) : Spec Tryz.prog 120 [.slice s.a s.n s.c, .agg ⟨YI v r⟩] ρ [] (fun z ρ' L' => z = .int .i64 (WJ d r) ∧ ρ' = ρ ∧ L' = []) := by
 have hck := ckcheck_spec ρ s d hd
 have hrc := rcheck_spec ρ v r h
 unfold WJ
 refine Za Tryz.func120 rfl rfl rfl fun u R => ?_
 simp only [Zg, kA]
 cases ht : Xn d
 ·rw [ht] at hck
  simp only [Bool.false_eq_true, if_false] at hck ⊢
  repeat' (first | (refine Zb (.func 58) ?_; refine qR rfl rfl (hck) ?_; try simp only [kA]) | refine zV ?_ | intro _)
  exact qE (L' := []) ⟨rfl, rfl, rfl⟩
 ·rw [ht] at hck
  simp only [if_true] at hck ⊢
  repeat' (first | (refine Zb (.func 58) ?_; refine qR rfl rfl (hck) ?_; try simp only [kA]) | (refine Zb (.func 139) ?_; refine qR rfl rfl (hrc) ?_; try simp only [kA]) | refine zV ?_ | intro _)
  exact qE (L' := []) ⟨rfl, rfl, rfl⟩
theorem lsn1_own (ρ : Hp) (lb b n c : Nat) (cs : List Value) (page : Int) (m : Nat) (h0 : 0 ≤ page) (hp : page < n) (hm : cs[0 + page.toNat * 4 + 3]? = some (.int .u64 m)) :
  Spec Tryz.prog 192 [.int .i64 page, .pointer (some ⟨lb, 0, none⟩)] ρ [lC lb (some ⟨b, 0, none⟩) n c, [(b, .cells ⟨cs⟩ 114 (0, 0))]] (fun z ρ' L' => z = .tuple ⟨[.int .u64 m, .int .i64 0]⟩ ∧ ρ' = ρ ∧ L' = [lC lb (some ⟨b, 0, none⟩) n c, [(b, .cells ⟨cs⟩ 114 (0, 0))]]) := by
 refine Za Tryz.func192 rfl rfl rfl fun u R => ?_
 simp only [Zg, kA]
 repeat' (first | refine zV ?_ | intro _)
 exact qE (L' := [lC lb (some ⟨b, 0, none⟩) n c, [(b, .cells ⟨cs⟩ 114 (0, 0))]]) ⟨rfl, rfl, rfl⟩
def shE (d : List Ym) (r : Rc) (n : Nat) : Int := if WJ d r ≠ 0 then WJ d r else if n ≠ 64 then 2 else 0
theorem AS.nilS {α : Type} {ρ : Hp} {sz : Nat} {g : α → List Value} : AS ρ sz g nilS ([] : List α) := ⟨AIn.nil, Nat.zero_le _, Nat.le_refl _⟩
theorem rsheets_spec (ρ : Hp) (a : Option Addr) (n c : Nat) (s : SV) (d : List Ym) (hd : AS ρ 2 YQ s d) (v : RV) (r : Rc) (h : RcIn ρ v r) (X : SH) (f : Int → Nat)
  (hf : WJ d r = 0 → n = 64 → ∀ lb ρ2, ρ.le ρ2 → ∀ x ∈ r.ims, Spec Tryz.prog 192 [.int .i64 x.page, .pointer (some ⟨lb, 0, none⟩)] ρ2 (lC lb a n c :: X) (fun z ρ' L' => z = .tuple ⟨[.int .u64 (f x.page : Nat), .int .i64 0]⟩ ∧ ρ' = ρ2 ∧ L' = lC lb a n c :: X)) :
  Spec Tryz.prog 116 [.slice a n c, .slice s.a s.n s.c, .agg ⟨YI v r⟩] ρ X
   (fun z ρ' L' => ρ.le ρ' ∧ ∃ s2 : SV, z = .tuple ⟨[.slice s2.a s2.n s2.c, .int .i64 (shE d r n)]⟩ ∧ AS ρ' 4 shV s2 (if shE d r n = 0 then (redoL f d r).map Wy else []) ∧ L' = X) := by
 have hwy := why_spec ρ s d hd v r h
 unfold shE
 by_cases hw : WJ d r = 0
 ·rw [hw] at hwy
  simp only [hw, ne_eq, not_true_eq_false, if_false]
  by_cases hn : n = 64
  ·subst hn
   simp only [not_true_eq_false, if_false, if_true]
   have hsh := fun lb => sheets_spec ρ s d hd v r h 192 [.pointer (some ⟨lb, 0, none⟩)] (lC lb a 64 c :: X) f (hf hw rfl lb)
   refine Za Tryz.func116 rfl rfl rfl fun u R => ?_
   simp only [Zg, kA]
   repeat' (first | (refine Zb (.func 120) ?_; refine qR rfl rfl (hwy) ?_; try simp only [kA]) | (refine Zb (.func 121) ?_; refine qC rfl rfl (hsh _) ?_; rintro v ρ' L' hle ⟨hz1, s2, rfl, hs2, rfl⟩ <;> (try simp only [kA])) | refine zV ?_ | intro _)
   exact qE (L' := X) ⟨hz1, s2, rfl, hs2, rfl⟩
  ·simp only [hn, not_false_eq_true, if_true]
   refine Za Tryz.func116 rfl rfl rfl fun u R => ?_
   simp only [Zg, kA]
   repeat' (first | (refine Zb (.func 120) ?_; refine qR rfl rfl (hwy) ?_; try simp only [kA]) | refine zV ?_ | intro _)
   exact qE (L' := X) ⟨Hp.le_refl _, nilS, rfl, by rw [if_neg (by decide)]; exact AS.nilS, rfl⟩
 ·simp only [hw, ne_eq, not_false_eq_true, if_true, if_false]
  generalize WJ d r = e at *
  refine Za Tryz.func116 rfl rfl rfl fun u R => ?_
  simp only [Zg, kA]
  repeat' (first | (refine Zb (.func 120) ?_; refine qR rfl rfl (hwy) ?_; try simp only [kA]) | refine zV ?_ | intro _)
  exact qE (L' := X) ⟨Hp.le_refl _, nilS, rfl, AS.nilS, rfl⟩
theorem rpage12_spec (ρ : Hp) (n : Int) : Spec Tryz.prog 166 [.int .i64 n] ρ [] (fun v ρ' L' => v = .bool (pageOk n) ∧ ρ' = ρ ∧ L' = []) := by
 refine Za Tryz.func166 rfl rfl rfl fun u R => ?_
 simp only [Zg, kA]
 repeat' (first | refine zV ?_ | (refine XZ ?_; refine ZI rfl rfl (fun hb => ?_) (fun hb => ?_) <;> (try simp only [decide_eq_true_eq, decide_eq_false_iff_not, Bool.not_eq_true, Bool.not_eq_false, beq_iff_eq, bne_iff_ne, ne_eq, decide_eq_decide, Bool.not_eq_eq_eq_not, Bool.not_true, Bool.not_false, beq_eq_false_iff_ne, bne_eq_false_iff_eq, Bool.and_eq_true, Bool.or_eq_true, Bool.and_eq_false_imp, Bool.or_eq_false_iff, bq2, bqt, bqf] at hb)) | (refine Yo ?_; refine ZR rfl (fun hb => ?_) (fun hb => ?_) <;> (try simp only [decide_eq_true_eq, decide_eq_false_iff_not, Bool.not_eq_true, Bool.not_eq_false, beq_iff_eq, bne_iff_ne, ne_eq, decide_eq_decide, Bool.not_eq_eq_eq_not, Bool.not_true, Bool.not_false, beq_eq_false_iff_ne, bne_eq_false_iff_eq, Bool.and_eq_true, Bool.or_eq_true, Bool.and_eq_false_imp, Bool.or_eq_false_iff, bq2, bqt, bqf] at hb)) | intro _)
 all_goals (refine qF (L' := []) ?_; exact ⟨YU (by simp [pageOk]; (try omega)), rfl, rfl⟩)
theorem step12_spec (ρ : Hp) (s : Stp) (hf : WS s.row) : Spec Tryz.prog 167 [.agg ⟨stpV s⟩] ρ [] (fun v ρ' L' => v = .bool (YW s) ∧ ρ' = ρ ∧ L' = []) := by
 obtain ⟨kind, row, bb⟩ := s
 have hck := Wz ρ row
 have ho := rowV_only row
 unfold YW onlyOk
 dsimp only
 generalize hP : decide (row.val = 0 ∧ row.note = []) = P at *
 generalize hQ : Xp row = Q at *
 refine Za Tryz.func167 rfl rfl rfl fun u R => ?_
 simp only [Zg, kA]
 cases P <;> cases Q
 all_goals (repeat' (first | (refine iBu ?_; refine tl_y (v := .agg ⟨Yv ⟨row.t, row.id, 0, []⟩⟩) (y_build rfl rfl) rfl rfl ?_) | (refine iCm ?_; refine tl_y (y_eqc_l rfl rfl ho) rfl rfl ?_) | (refine Zb (.func 237) ?_; refine qR rfl rfl (hck) ?_; try simp only [kA]) | refine zV ?_ | (refine XZ ?_; refine ZI rfl rfl (fun hb => ?_) (fun hb => ?_) <;> (try simp only [decide_eq_true_eq, decide_eq_false_iff_not, Bool.not_eq_true, Bool.not_eq_false, beq_iff_eq, bne_iff_ne, ne_eq, decide_eq_decide, Bool.not_eq_eq_eq_not, Bool.not_true, Bool.not_false, beq_eq_false_iff_ne, bne_eq_false_iff_eq, Bool.and_eq_true, Bool.or_eq_true, Bool.and_eq_false_imp, Bool.or_eq_false_iff, bq2, bqt, bqf] at hb)) | (refine Yo ?_; refine ZR rfl (fun hb => ?_) (fun hb => ?_) <;> (try simp only [decide_eq_true_eq, decide_eq_false_iff_not, Bool.not_eq_true, Bool.not_eq_false, beq_iff_eq, bne_iff_ne, ne_eq, decide_eq_decide, Bool.not_eq_eq_eq_not, Bool.not_true, Bool.not_false, beq_eq_false_iff_ne, bne_eq_false_iff_eq, Bool.and_eq_true, Bool.or_eq_true, Bool.and_eq_false_imp, Bool.or_eq_false_iff, bq2, bqt, bqf] at hb)) | intro _))
 all_goals (refine qF (L' := []) ?_; exact ⟨YU (by clear ho hck; (repeat' split) <;> simp_all <;> omega), rfl, rfl⟩)
theorem steps12_spec (ρ : Hp) (s : SV) (l : List Stp) (h : AS ρ 6 stpV s l) (hf : ∀ x ∈ l, WS x.row) : Spec Tryz.prog 79 [.slice s.a s.n s.c] ρ [] (fun v ρ' L' => v = .bool (decide (0 < l.length ∧ l.length ≤ 2) && l.all YW) ∧ ρ' = ρ ∧ L' = []) := by
 have hl := h.at'.len
 have hn := h.big
 have hA := h.at'
 rw [hl]
 generalize hq : l.all YW = q
 refine Za Tryz.func79 rfl rfl rfl fun u R => ?_
 simp only [Zg, kA]
 repeat' (first | refine zV ?_ | intro _)
 refine Zk [(0, _), (5, _), (6, _)] (fun (ζ : (Nat)) => [(7, .int .i64 ζ), (2, .bool false)]) (fun (ζ : (Nat)) => ρ) (fun (ζ : (Nat)) => []) (fun (ζ : (Nat)) => ζ ≤ s.n ∧ (l.drop ζ).all YW = q) (fun (ζ : (Nat)) => s.n - ζ) (0) (⟨Nat.zero_le _, hq⟩) Zc Zc rfl tk ?_
 rintro k hI
 try simp only [kA, List.append_assoc] at hI ⊢
 try dsimp only at hI ⊢
 obtain ⟨hk, hok⟩ := hI
 by_cases hlt : k < s.n
 ·obtain ⟨b, off, C, T, fr, e1, hb, hfit, hc⟩ := hA.get (show k < l.length by omega)
  have hmem := List.getElem_mem (show k < l.length by omega)
  rw [List.drop_eq_getElem_cons (show k < l.length by omega), List.all_cons] at hok
  generalize l[k]'(by omega) = x at *
  have hst := step12_spec ρ x (hf x hmem)
  rw [e1]
  cases hx : YW x
  ·rw [hx, Bool.false_and] at hok
   rw [hx] at hst
   subst hok
   rw [Bool.and_false]
   repeat' (first | (refine Zb (.func 167) ?_; refine qR rfl rfl (hst) ?_; try simp only [kA]) | refine zV ?_ | intro _)
   exact qE (L' := []) ⟨rfl, rfl, rfl⟩
  ·rw [hx, Bool.true_and] at hok
   rw [hx] at hst
   repeat' (first | (refine Zb (.func 167) ?_; refine qR rfl rfl (hst) ?_; try simp only [kA]) | refine zV ?_ | intro _)
   rw [← e1]
   refine Zd (k + 1) (⟨hlt, hok⟩) Zc Zc rfl tk inferInstance (by first | omega | (dsimp only; omega))
 ·have hk2 : k = l.length := by omega
  rw [hk2, List.drop_length, List.all_nil] at hok
  subst hok
  rw [Bool.and_true]
  repeat' (first | refine zV ?_ | (refine XZ ?_; refine ZI rfl rfl (fun hb => ?_) (fun hb => ?_) <;> (try simp only [decide_eq_true_eq, decide_eq_false_iff_not, Bool.not_eq_true, Bool.not_eq_false, beq_iff_eq, bne_iff_ne, ne_eq, decide_eq_decide, Bool.not_eq_eq_eq_not, Bool.not_true, Bool.not_false, beq_eq_false_iff_ne, bne_eq_false_iff_eq, Bool.and_eq_true, Bool.or_eq_true, Bool.and_eq_false_imp, Bool.or_eq_false_iff, bq2, bqt, bqf] at hb)) | (refine Yo ?_; refine ZR rfl (fun hb => ?_) (fun hb => ?_) <;> (try simp only [decide_eq_true_eq, decide_eq_false_iff_not, Bool.not_eq_true, Bool.not_eq_false, beq_iff_eq, bne_iff_ne, ne_eq, decide_eq_decide, Bool.not_eq_eq_eq_not, Bool.not_true, Bool.not_false, beq_eq_false_iff_ne, bne_eq_false_iff_eq, Bool.and_eq_true, Bool.or_eq_true, Bool.and_eq_false_imp, Bool.or_eq_false_iff, bq2, bqt, bqf] at hb)) | intro _)
  all_goals (refine qF (L' := []) ?_; exact ⟨YU (by (try simp [*]); first | done | omega | (intros; omega) | (constructor <;> intros <;> (try simp_all) <;> omega)), rfl, rfl⟩)
end Go.Proofs.E
