/- Laws of analysis. Part 5 of 41. -/
import Derived.Test.YtkbiahafeoillaaGreatA4
namespace Go.Proofs.E
open Go
set_option linter.unusedVariables false
set_option linter.unusedSimpArgs false
set_option linter.unusedSectionVars false
set_option maxRecDepth 4000
set_option maxHeartbeats 1000000
attribute [local irreducible] Yl TL TC TE Spec Xb R1 Hp.le EnvLe TS TR YS Zk
structure MetOk (es : List MapEntry) (ps : List Int) : Prop where
 keys : Xm .i64 es
 get : ∀ p, XH es p = if p ∈ ps then some (.bool true) else none
theorem MetOk.nil : MetOk [] [] := ⟨by intro e he; simp at he, fun p => by simp [XH]⟩
def kidOk (i : Nat) (ps : List Int) (k : Kid) : Bool := decide (k.page ∉ ps ∧ 0 < k.page ∧ k.page < 64 ∧ (0 ≤ k.t ∧ k.t < 3) ∧ (0 < i ∨ (k.t = 0 ∧ k.id = 0)))
theorem kidV_len (r : Kid) : (kidV r).length = 3 := rfl
theorem ZW (ρ : Hp) (r : Kid) : Spec Tryz.prog 209 [.agg ⟨kidV r⟩] ρ [] (fun v ρ' L' => v = .agg ⟨keyV r.t r.id⟩ ∧ ρ' = ρ ∧ L' = []) := by
 refine Zd Tryz.func209 rfl rfl rfl fun u R => ?_
 simp only [Zo, List.cons_append, List.nil_append]
 repeat' (first | refine zW ?_ | intro _)
 exact qE ⟨rfl, rfl, rfl⟩
abbrev metL (bx mb : Nat) (es : List MapEntry) (ck : Nat) : SH := [[(bx, .cells ⟨[.map (some mb)]⟩ 246 (0, 0))], [(mb, .map ⟨es⟩ ck)]]
theorem YW (ρ : Hp) (bx mb : Nat) (es : List MapEntry) (ck : Nat) (ps : List Int) (hm : MetOk es ps) (i : Nat) (k : Kid) : Spec Tryz.prog 210 [.int .i64 i, .agg ⟨kidV k⟩, .pointer (some ⟨bx, 0, none⟩)] ρ (metL bx mb es ck)
  (fun v ρ' L' => v = .bool (kidOk i ps k) ∧ ρ' = ρ ∧ ∃ es' ck', MetOk es' (k.page :: ps) ∧ L' = metL bx mb es' ck') := by
 obtain ⟨t, id, page⟩ := k
 have hes := hm.keys
 have hg := hm.get page
 dsimp only at hg ⊢
 generalize hq : kidOk i ps ⟨t, id, page⟩ = q
 have hfin : ∀ es', Xm .i64 es' → (∀ j, XH es' j = if j = page then some (.bool true) else XH es j) → MetOk es' (page :: ps) := fun es' h1 h2 => ⟨h1, fun p => by
  rw [h2 p, hm.get p]
  by_cases e : p = page <;> simp [e]⟩
 refine Zd Tryz.func210 rfl rfl rfl fun u R => ?_
 simp only [Zo, List.cons_append, List.nil_append]
 by_cases hp : page ∈ ps
 ·rw [if_pos hp] at hg
  have hq' : q = false := by rw [← hq]; exact decide_eq_false (fun h => h.1 hp)
  subst hq'
  repeat' (first | (refine XR rfl rfl rfl hes (fun es' ck' h1 h2 => ?_)) | refine zW ?_ | intro _)
  exact qE ⟨rfl, rfl, es', ck', hfin es' h1 h2, rfl⟩
 ·rw [if_neg hp] at hg
  by_cases hp0 : 0 < page
  ·by_cases hp6 : page < 64
   ·by_cases ht : 0 ≤ t ∧ t < 3
    ·have hd : decide (0 ≤ t ∧ t < 3) = true := decide_eq_true ht
     by_cases hi : 0 < i
     ·have hq' : q = true := by rw [← hq]; exact decide_eq_true ⟨hp, hp0, hp6, ht, .inl hi⟩
      subst hq'
      repeat' (first | (refine XR rfl rfl rfl hes (fun es' ck' h1 h2 => ?_)) | (refine Zc (.func 191) ?_; refine qC rfl rfl (Wx _ _) ?_; rintro v ρ' L' hle ⟨rfl, rfl, rfl⟩ <;> (try simp only [kM, kN, kO, hd])) | refine zW ?_ | intro _)
      exact qE ⟨rfl, rfl, es', ck', hfin es' h1 h2, rfl⟩
     ·by_cases hz : t = 0 ∧ id = 0
      ·have hq' : q = true := by rw [← hq]; exact decide_eq_true ⟨hp, hp0, hp6, ht, .inr hz⟩
       subst hq'
       obtain ⟨rfl, rfl⟩ := hz
       repeat' (first | (refine XR rfl rfl rfl hes (fun es' ck' h1 h2 => ?_)) | (refine Zc (.func 191) ?_; refine qC rfl rfl (Wx _ _) ?_; rintro v ρ' L' hle ⟨rfl, rfl, rfl⟩ <;> (try simp only [kM, kN, kO, hd])) | refine zW ?_ | intro _)
       exact qE ⟨rfl, rfl, es', ck', hfin es' h1 h2, rfl⟩
      ·have hq' : q = false := by rw [← hq]; exact decide_eq_false (fun h => h.2.2.2.2.elim hi hz)
       subst hq'
       have hk : ((t == 0) && (((id : Int) == 0) && true)) = false := by
        simp; intro h; exact fun h' => hz ⟨h, by omega⟩
       repeat' (first | (refine XR rfl rfl rfl hes (fun es' ck' h1 h2 => ?_)) | (refine Zc (.func 191) ?_; refine qC rfl rfl (Wx _ _) ?_; rintro v ρ' L' hle ⟨rfl, rfl, rfl⟩ <;> (try simp only [kM, kN, kO, hd])) | refine zW ?_ | intro _)
       exact qE ⟨by first | rfl | exact congrArg Value.bool hk, rfl, es', ck', hfin es' h1 h2, rfl⟩
    ·have hd : decide (0 ≤ t ∧ t < 3) = false := decide_eq_false ht
     have hq' : q = false := by rw [← hq]; exact decide_eq_false (fun h => ht h.2.2.2.1)
     subst hq'
     repeat' (first | (refine XR rfl rfl rfl hes (fun es' ck' h1 h2 => ?_)) | (refine Zc (.func 191) ?_; refine qC rfl rfl (Wx _ _) ?_; rintro v ρ' L' hle ⟨rfl, rfl, rfl⟩ <;> (try simp only [kM, kN, kO, hd])) | refine zW ?_ | intro _)
     exact qE ⟨rfl, rfl, es', ck', hfin es' h1 h2, rfl⟩
   ·have hq' : q = false := by rw [← hq]; exact decide_eq_false (fun h => hp6 h.2.2.1)
    subst hq'
    repeat' (first | (refine XR rfl rfl rfl hes (fun es' ck' h1 h2 => ?_)) | refine zW ?_ | intro _)
    exact qE ⟨rfl, rfl, es', ck', hfin es' h1 h2, rfl⟩
  ·have hq' : q = false := by rw [← hq]; exact decide_eq_false (fun h => hp0 h.2.1)
   subst hq'
   repeat' (first | (refine XR rfl rfl rfl hes (fun es' ck' h1 h2 => ?_)) | refine zW ?_ | intro _)
   exact qE ⟨rfl, rfl, es', ck', hfin es' h1 h2, rfl⟩
def psTo (l : List Kid) (k : Nat) : List Int := ((l.take k).map Kid.page).reverse
theorem psTo_succ {l : List Kid} {k : Nat} (h : k < l.length) : psTo l (k + 1) = l[k].page :: psTo l k := by
 unfold psTo; rw [List.take_succ_eq_append_getElem h, List.map_append, List.reverse_append]; rfl
def ltK (y x : Kid) : Bool := decide (cmpK y.t y.id x.t x.id < 0)
def kidsOk (l : List Kid) : Bool := ZC 4 (fun i k => kidOk i (psTo l i) k) ltK l l.length
theorem risesKid_spec (ρ : Hp) (a : Option Addr) (n c : Nat) (l : List Kid) (h : AIn ρ 3 kidV a n l) (hn : n ≤ 1000000) (bx mb ck0 : Nat) :
  Spec Tryz.prog 208 [.slice a n c, .int .i64 4, .func (.func 209) ⟨[]⟩ ⟨[]⟩, .func (.func 210) ⟨[]⟩ ⟨[.pointer (some ⟨bx, 0, none⟩)]⟩] ρ (metL bx mb [] ck0) (fun v ρ' L' => v = .bool (kidsOk l) ∧ ρ' = ρ ∧ L' = []) := by
 have hl := h.len
 unfold kidsOk
 rw [hl]
 refine Zd Tryz.func208 rfl rfl rfl fun u R => ?_
 simp only [Zo, List.cons_append, List.nil_append]
 generalize hr : (fun (i : Nat) (k : Kid) => kidOk i (psTo l i) k) = rt
 repeat' (first | refine zW ?_ | intro _)
 have e0 : decide ((n : Int) ≤ 4) = ZC 4 rt ltK l 0 := by
  rw [ZC]; simp [hl]; omega
 rw [e0]
 refine Zq [(0, _), (2, _), (3, _), (8, _), (16, _), (17, _)] (fun (ζ : (Nat) × (List MapEntry) × (Nat)) => [(18, .int .i64 ζ.1), (9, .bool (ZC 4 rt ltK l ζ.1))]) (fun (ζ : (Nat) × (List MapEntry) × (Nat)) => ρ) (fun (ζ : (Nat) × (List MapEntry) × (Nat)) => metL bx mb ζ.2.1 ζ.2.2) (fun (ζ : (Nat) × (List MapEntry) × (Nat)) => ζ.1 ≤ n ∧ MetOk ζ.2.1 (psTo l ζ.1)) (fun (ζ : (Nat) × (List MapEntry) × (Nat)) => n - ζ.1) ((0, [], ck0)) (⟨Nat.zero_le _, MetOk.nil⟩) Ze Ze rfl tk ?_
 rintro ⟨k, es, ck⟩ hI
 try simp only [List.cons_append, List.nil_append, List.append_assoc, List.append_eq] at hI ⊢
 try dsimp only at hI ⊢
 obtain ⟨hI, hm⟩ := hI
 by_cases hlt : k < n
 ·obtain ⟨b, off, C, T, fr, rfl, hb, hfit, hc⟩ := h.get (show k < l.length by omega)
  have hs := YK (most := 4) (right := rt) (lt := ltK) (show k < l.length by omega)
  have hfin := fun (e : ZC 4 rt ltK l (k + 1) = false) => YF e (show k + 1 ≤ n by omega)
  have hps := psTo_succ (show k < l.length by omega)
  have hrk : rt k l[k] = kidOk k (psTo l k) l[k] := by rw [← hr]
  cases hok : ZC 4 rt ltK l k
  ·rw [hok, Bool.false_and] at hs
   rw [hfin hs]
   generalize l[k] = x at *
   repeat' (first | refine zW ?_ | intro _)
   rename_i b11
   refine Zu (Zk _ _ ([[(b11, .cells ⟨kidV x⟩ 230 (0, 0))]])) (Zw (hT := tk) (Hp.le_refl _)) ?_
   all_goals (refine Zx 0 ?_; refine Zx 1 ?_; (first | refine Zb 2 ?_ | refine Za 2 ?_ | refine ZI 2 ?_); (first | refine Zb 3 ?_ | refine Za 3 ?_ | refine ZI 3 ?_); (first | refine Zb 4 ?_ | refine Za 4 ?_ | refine ZL 4 ?_))
   all_goals (first | refine Zb 5 ?_ | refine Za 5 ?_ | (refine Zj (i := 5) ?_; ((try refine Zh ?_); (first | (refine ZF ?_; try intro _)) <;> ((try simp only [kM, kN, kO]); refine Zf ?_; refine Zi ?_))))
   all_goals (refine Yj 6 ?_; refine Zx 7 ?_; (first | refine Zb 8 ?_ | refine Za 8 ?_ | refine ZI 8 ?_); (first | refine Zb 9 ?_ | refine Za 9 ?_ | refine Yg 9 ?_); (first | refine Zb 10 ?_ | refine Za 10 ?_ | refine ZI 10 ?_); (first | refine Zb 11 ?_ | refine Za 11 ?_ | refine ZI 11 ?_); (first | refine Zb 12 ?_ | refine Za 12 ?_ | refine ZI 12 ?_); (first | refine Zb 13 ?_ | refine Za 13 ?_ | refine ZI 13 ?_); (first | refine Zb 14 ?_ | refine Za 14 ?_ | refine wSb 14 ?_); (first | refine Zb 15 ?_ | refine Za 15 ?_ | refine wIa 15 ?_); (first | refine Zb 16 ?_ | refine Za 16 ?_ | refine ZL 16 ?_); (first | refine Zb 18 ?_ | refine Za 18 ?_ | refine ZI 18 ?_); (first | refine Zb 19 ?_ | refine Za 19 ?_ | refine ZL 19 ?_))
   all_goals (first | refine Zb 17 ?_ | refine Za 17 ?_ | (refine Zj (i := 17) ?_; ((try refine Zh ?_); (first | (refine ZF ?_; try intro _)) <;> ((try simp only [kM, kN, kO]); refine Zf ?_; refine Zi ?_))))
   all_goals (first | refine Zb 20 ?_ | refine Za 20 ?_ | (refine Zj (i := 20) ?_; ((try refine Zh ?_); (first | (refine ZF ?_; try intro _)) <;> ((try simp only [kM, kN, kO]); refine Zf ?_; refine Zi ?_))))
   all_goals (first | refine Zb 21 ?_ | refine Za 21 ?_ | (refine Zj (i := 21) ?_; ((try refine Zh ?_); (first | (refine ZF ?_; try intro _)) <;> ((try simp only [kM, kN, kO]); refine Zf ?_; refine Zi ?_))))
   all_goals (refine Zz ?_; (first | refine Zb 22 ?_ | refine Za 22 ?_ | refine Yg 22 ?_); (first | refine Zb 23 ?_ | refine Za 23 ?_ | refine wPk 23 ?_); refine Yj 24 ?_; refine rAs 25 ?_; refine Zv ?_)
   repeat' (first | refine zW ?_ | intro _)
   exact qE ⟨rfl, rfl, rfl⟩
  ·rw [hok, Bool.true_and, hrk] at hs
   cases hx : kidOk k (psTo l k) l[k]
   ·rw [hx, Bool.false_and] at hs
    rw [hfin hs]
    generalize l[k] = x at *
    repeat' (first | refine zW ?_ | intro _)
    rename_i b11
    refine Zu (Zk _ _ ([[(b11, .cells ⟨kidV x⟩ 230 (0, 0))]])) (Zw (hT := tk) (Hp.le_refl _)) ?_
    all_goals (refine Zx 0 ?_; refine Zx 1 ?_; (first | refine Zb 2 ?_ | refine Za 2 ?_ | refine ZI 2 ?_); (first | refine Zb 3 ?_ | refine Za 3 ?_ | refine ZI 3 ?_); (first | refine Zb 4 ?_ | refine Za 4 ?_ | refine ZL 4 ?_))
    all_goals (first | refine Zb 5 ?_ | refine Za 5 ?_ | (refine Zj (i := 5) ?_; ((try refine Zh ?_); (first | (refine Zc (.tmp 25) ?_; refine qC rfl rfl (YW _ bx mb es ck _ hm k x) ?_; rintro v ρ' L' hle ⟨rfl, rfl, es', ck', hm', rfl⟩ <;> (try simp only [kM, kN, kO, hx])) | (refine Zc (.tmp 34) ?_; refine qC rfl rfl (ZW _ _) ?_; rintro v ρ' L' hle ⟨rfl, rfl, rfl⟩ <;> (try simp only [kM, kN, kO])) | (refine Zc (.tmp 41) ?_; refine qC rfl rfl (ZW _ _) ?_; rintro v ρ' L' hle ⟨rfl, rfl, rfl⟩ <;> (try simp only [kM, kN, kO])) | (refine ZF ?_; try intro _)) <;> ((try simp only [kM, kN, kO]); refine Zf ?_; refine Zi ?_))))
    all_goals (refine Yj 6 ?_; refine Zx 7 ?_; (first | refine Zb 8 ?_ | refine Za 8 ?_ | refine ZI 8 ?_); (first | refine Zb 9 ?_ | refine Za 9 ?_ | refine Yg 9 ?_); (first | refine Zb 10 ?_ | refine Za 10 ?_ | refine ZI 10 ?_); (first | refine Zb 11 ?_ | refine Za 11 ?_ | refine ZI 11 ?_); (first | refine Zb 12 ?_ | refine Za 12 ?_ | refine ZI 12 ?_); (first | refine Zb 13 ?_ | refine Za 13 ?_ | refine ZI 13 ?_); (first | refine Zb 14 ?_ | refine Za 14 ?_ | refine wSb 14 ?_); (first | refine Zb 15 ?_ | refine Za 15 ?_ | refine wIa 15 ?_); (first | refine Zb 16 ?_ | refine Za 16 ?_ | refine ZL 16 ?_); (first | refine Zb 18 ?_ | refine Za 18 ?_ | refine ZI 18 ?_); (first | refine Zb 19 ?_ | refine Za 19 ?_ | refine ZL 19 ?_))
    all_goals (first | refine Zb 17 ?_ | refine Za 17 ?_ | (refine Zj (i := 17) ?_; ((try refine Zh ?_); (first | (refine Zc (.tmp 25) ?_; refine qC rfl rfl (YW _ bx mb es ck _ hm k x) ?_; rintro v ρ' L' hle ⟨rfl, rfl, es', ck', hm', rfl⟩ <;> (try simp only [kM, kN, kO, hx])) | (refine Zc (.tmp 34) ?_; refine qC rfl rfl (ZW _ _) ?_; rintro v ρ' L' hle ⟨rfl, rfl, rfl⟩ <;> (try simp only [kM, kN, kO])) | (refine Zc (.tmp 41) ?_; refine qC rfl rfl (ZW _ _) ?_; rintro v ρ' L' hle ⟨rfl, rfl, rfl⟩ <;> (try simp only [kM, kN, kO])) | (refine ZF ?_; try intro _)) <;> ((try simp only [kM, kN, kO]); refine Zf ?_; refine Zi ?_))))
    all_goals (first | refine Zb 20 ?_ | refine Za 20 ?_ | (refine Zj (i := 20) ?_; ((try refine Zh ?_); (first | (refine Zc (.tmp 25) ?_; refine qC rfl rfl (YW _ bx mb es ck _ hm k x) ?_; rintro v ρ' L' hle ⟨rfl, rfl, es', ck', hm', rfl⟩ <;> (try simp only [kM, kN, kO, hx])) | (refine Zc (.tmp 34) ?_; refine qC rfl rfl (ZW _ _) ?_; rintro v ρ' L' hle ⟨rfl, rfl, rfl⟩ <;> (try simp only [kM, kN, kO])) | (refine Zc (.tmp 41) ?_; refine qC rfl rfl (ZW _ _) ?_; rintro v ρ' L' hle ⟨rfl, rfl, rfl⟩ <;> (try simp only [kM, kN, kO])) | (refine ZF ?_; try intro _)) <;> ((try simp only [kM, kN, kO]); refine Zf ?_; refine Zi ?_))))
    all_goals (first | refine Zb 21 ?_ | refine Za 21 ?_ | (refine Zj (i := 21) ?_; ((try refine Zh ?_); (first | (refine Zc (.func 219) ?_; refine qC rfl rfl (XE _ _ _ _ _) ?_; rintro v ρ' L' hle ⟨rfl, rfl, rfl⟩ <;> (try simp only [kM, kN, kO])) | (refine ZF ?_; try intro _)) <;> ((try simp only [kM, kN, kO]); refine Zf ?_; refine Zi ?_))))
    all_goals (refine Zz ?_; (first | refine Zb 22 ?_ | refine Za 22 ?_ | refine Yg 22 ?_); (first | refine Zb 23 ?_ | refine Za 23 ?_ | refine wPk 23 ?_); refine Yj 24 ?_; refine rAs 25 ?_; refine Zv ?_)
    repeat' (first | refine zW ?_ | intro _)
    exact qE ⟨rfl, rfl, rfl⟩
   ·rw [hx, Bool.true_and] at hs
    by_cases hk0 : k = 0
    ·have hs' : ZC 4 rt ltK l (k + 1) = true := by rw [hs]; simp [hk0]
     generalize l[k] = x at *
     repeat' (first | refine zW ?_ | intro _)
     rename_i b11
     refine Zu (Zk _ _ ([[(b11, .cells ⟨kidV x⟩ 230 (0, 0))]])) (Zw (hT := tk) (Hp.le_refl _)) ?_
     all_goals (refine Zx 0 ?_; refine Zx 1 ?_; (first | refine Zb 2 ?_ | refine Za 2 ?_ | refine ZI 2 ?_); (first | refine Zb 3 ?_ | refine Za 3 ?_ | refine ZI 3 ?_); (first | refine Zb 4 ?_ | refine Za 4 ?_ | refine ZL 4 ?_))
     all_goals (first | refine Zb 5 ?_ | refine Za 5 ?_ | (refine Zj (i := 5) ?_; ((try refine Zh ?_); (first | (refine Zc (.tmp 25) ?_; refine qC rfl rfl (YW _ bx mb es ck _ hm k x) ?_; rintro v ρ' L' hle ⟨rfl, rfl, es', ck', hm', rfl⟩ <;> (try simp only [kM, kN, kO, hx])) | (refine Zc (.tmp 34) ?_; refine qC rfl rfl (ZW _ _) ?_; rintro v ρ' L' hle ⟨rfl, rfl, rfl⟩ <;> (try simp only [kM, kN, kO])) | (refine Zc (.tmp 41) ?_; refine qC rfl rfl (ZW _ _) ?_; rintro v ρ' L' hle ⟨rfl, rfl, rfl⟩ <;> (try simp only [kM, kN, kO])) | (refine ZF ?_; try intro _)) <;> ((try simp only [kM, kN, kO]); refine Zf ?_; refine Zi ?_))))
     all_goals (refine Yj 6 ?_; refine Zx 7 ?_; (first | refine Zb 8 ?_ | refine Za 8 ?_ | refine ZI 8 ?_); (first | refine Zb 9 ?_ | refine Za 9 ?_ | refine Yg 9 ?_); (first | refine Zb 10 ?_ | refine Za 10 ?_ | refine ZI 10 ?_); (first | refine Zb 11 ?_ | refine Za 11 ?_ | refine ZI 11 ?_); (first | refine Zb 12 ?_ | refine Za 12 ?_ | refine ZI 12 ?_); (first | refine Zb 13 ?_ | refine Za 13 ?_ | refine ZI 13 ?_); (first | refine Zb 14 ?_ | refine Za 14 ?_ | refine wSb 14 ?_); (first | refine Zb 15 ?_ | refine Za 15 ?_ | refine wIa 15 ?_); (first | refine Zb 16 ?_ | refine Za 16 ?_ | refine ZL 16 ?_); (first | refine Zb 18 ?_ | refine Za 18 ?_ | refine ZI 18 ?_); (first | refine Zb 19 ?_ | refine Za 19 ?_ | refine ZL 19 ?_))
     all_goals (first | refine Zb 17 ?_ | refine Za 17 ?_ | (refine Zj (i := 17) ?_; ((try refine Zh ?_); (first | (refine Zc (.tmp 25) ?_; refine qC rfl rfl (YW _ bx mb es ck _ hm k x) ?_; rintro v ρ' L' hle ⟨rfl, rfl, es', ck', hm', rfl⟩ <;> (try simp only [kM, kN, kO, hx])) | (refine Zc (.tmp 34) ?_; refine qC rfl rfl (ZW _ _) ?_; rintro v ρ' L' hle ⟨rfl, rfl, rfl⟩ <;> (try simp only [kM, kN, kO])) | (refine Zc (.tmp 41) ?_; refine qC rfl rfl (ZW _ _) ?_; rintro v ρ' L' hle ⟨rfl, rfl, rfl⟩ <;> (try simp only [kM, kN, kO])) | (refine ZF ?_; try intro _)) <;> ((try simp only [kM, kN, kO]); refine Zf ?_; refine Zi ?_))))
     all_goals (first | refine Zb 20 ?_ | refine Za 20 ?_ | (refine Zj (i := 20) ?_; ((try refine Zh ?_); (first | (refine Zc (.tmp 25) ?_; refine qC rfl rfl (YW _ bx mb es ck _ hm k x) ?_; rintro v ρ' L' hle ⟨rfl, rfl, es', ck', hm', rfl⟩ <;> (try simp only [kM, kN, kO, hx])) | (refine Zc (.tmp 34) ?_; refine qC rfl rfl (ZW _ _) ?_; rintro v ρ' L' hle ⟨rfl, rfl, rfl⟩ <;> (try simp only [kM, kN, kO])) | (refine Zc (.tmp 41) ?_; refine qC rfl rfl (ZW _ _) ?_; rintro v ρ' L' hle ⟨rfl, rfl, rfl⟩ <;> (try simp only [kM, kN, kO])) | (refine ZF ?_; try intro _)) <;> ((try simp only [kM, kN, kO]); refine Zf ?_; refine Zi ?_))))
     all_goals (first | refine Zb 21 ?_ | refine Za 21 ?_ | (refine Zj (i := 21) ?_; ((try refine Zh ?_); (first | (refine Zc (.func 219) ?_; refine qC rfl rfl (XE _ _ _ _ _) ?_; rintro v ρ' L' hle ⟨rfl, rfl, rfl⟩ <;> (try simp only [kM, kN, kO])) | (refine ZF ?_; try intro _)) <;> ((try simp only [kM, kN, kO]); refine Zf ?_; refine Zi ?_))))
     all_goals (refine Zz ?_; (first | refine Zb 22 ?_ | refine Za 22 ?_ | refine Yg 22 ?_); (first | refine Zb 23 ?_ | refine Za 23 ?_ | refine wPk 23 ?_); refine Yj 24 ?_; refine rAs 25 ?_; refine Zv ?_)
     repeat' (first | refine zW ?_ | intro _)
     rw [← hs']
     refine Zg (k + 1, es', ck') (⟨hlt, by dsimp only; rw [hps]; exact hm'⟩) Ze Ze rfl tk inferInstance (by first | omega | (dsimp only; omega))
    ·have hd : decide (k = 0) = false := decide_eq_false hk0
     obtain ⟨b2, off2, C2, T2, fr2, f1, hb2, hfit2, hc2⟩ := h.get (show k - 1 < l.length by omega)
     cases f1
     rw [hb] at hb2
     cases hb2
     have ek : ((k : Int) - 1).toNat = k - 1 := by omega
     rw [← ek] at hfit2
     have hc3 : List.take 3 (List.drop (off + ((k : Int) - 1).toNat * 3) C) = kidV (l[k - 1]'(by omega)) := by rw [ek]; exact hc2
     clear hc2
     rw [hd, Bool.false_or] at hs
     generalize l[k] = x at *
     generalize l[k - 1]'(by omega) = y at *
     unfold ltK at hs
     by_cases hcm : cmpK y.t y.id x.t x.id < 0
     ·rw [decide_eq_true hcm] at hs
      repeat' (first | refine zW ?_ | intro _)
      rename_i b11
      refine Zu (Zk _ _ ([[(b11, .cells ⟨kidV x⟩ 230 (0, 0))]])) (Zw (hT := tk) (Hp.le_refl _)) ?_
      all_goals (refine Zx 0 ?_; refine Zx 1 ?_; (first | refine Zb 2 ?_ | refine Za 2 ?_ | refine ZI 2 ?_); (first | refine Zb 3 ?_ | refine Za 3 ?_ | refine ZI 3 ?_); (first | refine Zb 4 ?_ | refine Za 4 ?_ | refine ZL 4 ?_))
      all_goals (first | refine Zb 5 ?_ | refine Za 5 ?_ | (refine Zj (i := 5) ?_; ((try refine Zh ?_); (first | (refine Zc (.tmp 25) ?_; refine qC rfl rfl (YW _ bx mb es ck _ hm k x) ?_; rintro v ρ' L' hle ⟨rfl, rfl, es', ck', hm', rfl⟩ <;> (try simp only [kM, kN, kO, hx])) | (refine Zc (.tmp 34) ?_; refine qC rfl rfl (ZW _ _) ?_; rintro v ρ' L' hle ⟨rfl, rfl, rfl⟩ <;> (try simp only [kM, kN, kO])) | (refine Zc (.tmp 41) ?_; refine qC rfl rfl (ZW _ _) ?_; rintro v ρ' L' hle ⟨rfl, rfl, rfl⟩ <;> (try simp only [kM, kN, kO])) | (refine ZF ?_; try intro _)) <;> ((try simp only [kM, kN, kO]); refine Zf ?_; refine Zi ?_))))
      all_goals (refine Yj 6 ?_; refine Zx 7 ?_; (first | refine Zb 8 ?_ | refine Za 8 ?_ | refine ZI 8 ?_); (first | refine Zb 9 ?_ | refine Za 9 ?_ | refine Yg 9 ?_); (first | refine Zb 10 ?_ | refine Za 10 ?_ | refine ZI 10 ?_); (first | refine Zb 11 ?_ | refine Za 11 ?_ | refine ZI 11 ?_); (first | refine Zb 12 ?_ | refine Za 12 ?_ | refine ZI 12 ?_); (first | refine Zb 13 ?_ | refine Za 13 ?_ | refine ZI 13 ?_); (first | refine Zb 14 ?_ | refine Za 14 ?_ | refine wSb 14 ?_); (first | refine Zb 15 ?_ | refine Za 15 ?_ | refine wIa 15 ?_); (first | refine Zb 16 ?_ | refine Za 16 ?_ | refine ZL 16 ?_); (first | refine Zb 18 ?_ | refine Za 18 ?_ | refine ZI 18 ?_); (first | refine Zb 19 ?_ | refine Za 19 ?_ | refine ZL 19 ?_))
      all_goals (first | refine Zb 17 ?_ | refine Za 17 ?_ | (refine Zj (i := 17) ?_; ((try refine Zh ?_); (first | (refine Zc (.tmp 25) ?_; refine qC rfl rfl (YW _ bx mb es ck _ hm k x) ?_; rintro v ρ' L' hle ⟨rfl, rfl, es', ck', hm', rfl⟩ <;> (try simp only [kM, kN, kO, hx])) | (refine Zc (.tmp 34) ?_; refine qC rfl rfl (ZW _ _) ?_; rintro v ρ' L' hle ⟨rfl, rfl, rfl⟩ <;> (try simp only [kM, kN, kO])) | (refine Zc (.tmp 41) ?_; refine qC rfl rfl (ZW _ _) ?_; rintro v ρ' L' hle ⟨rfl, rfl, rfl⟩ <;> (try simp only [kM, kN, kO])) | (refine ZF ?_; try intro _)) <;> ((try simp only [kM, kN, kO]); refine Zf ?_; refine Zi ?_))))
      all_goals (first | refine Zb 20 ?_ | refine Za 20 ?_ | (refine Zj (i := 20) ?_; ((try refine Zh ?_); (first | (refine Zc (.tmp 25) ?_; refine qC rfl rfl (YW _ bx mb es ck _ hm k x) ?_; rintro v ρ' L' hle ⟨rfl, rfl, es', ck', hm', rfl⟩ <;> (try simp only [kM, kN, kO, hx])) | (refine Zc (.tmp 34) ?_; refine qC rfl rfl (ZW _ _) ?_; rintro v ρ' L' hle ⟨rfl, rfl, rfl⟩ <;> (try simp only [kM, kN, kO])) | (refine Zc (.tmp 41) ?_; refine qC rfl rfl (ZW _ _) ?_; rintro v ρ' L' hle ⟨rfl, rfl, rfl⟩ <;> (try simp only [kM, kN, kO])) | (refine ZF ?_; try intro _)) <;> ((try simp only [kM, kN, kO]); refine Zf ?_; refine Zi ?_))))
      all_goals (first | refine Zb 21 ?_ | refine Za 21 ?_ | (refine Zj (i := 21) ?_; ((try refine Zh ?_); (first | (refine Zc (.func 219) ?_; refine qC rfl rfl (XE _ _ _ _ _) ?_; rintro v ρ' L' hle ⟨rfl, rfl, rfl⟩ <;> (try simp only [kM, kN, kO])) | (refine ZF ?_; try intro _)) <;> ((try simp only [kM, kN, kO]); refine Zf ?_; refine Zi ?_))))
      all_goals (refine Zz ?_; (first | refine Zb 22 ?_ | refine Za 22 ?_ | refine Yg 22 ?_); (first | refine Zb 23 ?_ | refine Za 23 ?_ | refine wPk 23 ?_); refine Yj 24 ?_; refine rAs 25 ?_; refine Zv ?_)
      all_goals (repeat' (first | refine zW ?_ | intro _))
      all_goals rw [← show ZC 4 rt ltK l (k + 1) = true from hs]
      all_goals refine Zg (k + 1, es', ck') (⟨hlt, by dsimp only; rw [hps]; exact hm'⟩) Ze Ze rfl tk inferInstance (by first | omega | (dsimp only; omega))
     ·rw [decide_eq_false hcm] at hs
      rw [hfin hs]
      repeat' (first | refine zW ?_ | intro _)
      rename_i b11
      refine Zu (Zk _ _ ([[(b11, .cells ⟨kidV x⟩ 230 (0, 0))]])) (Zw (hT := tk) (Hp.le_refl _)) ?_
      all_goals (refine Zx 0 ?_; refine Zx 1 ?_; (first | refine Zb 2 ?_ | refine Za 2 ?_ | refine ZI 2 ?_); (first | refine Zb 3 ?_ | refine Za 3 ?_ | refine ZI 3 ?_); (first | refine Zb 4 ?_ | refine Za 4 ?_ | refine ZL 4 ?_))
      all_goals (first | refine Zb 5 ?_ | refine Za 5 ?_ | (refine Zj (i := 5) ?_; ((try refine Zh ?_); (first | (refine Zc (.tmp 25) ?_; refine qC rfl rfl (YW _ bx mb es ck _ hm k x) ?_; rintro v ρ' L' hle ⟨rfl, rfl, es', ck', hm', rfl⟩ <;> (try simp only [kM, kN, kO, hx])) | (refine Zc (.tmp 34) ?_; refine qC rfl rfl (ZW _ _) ?_; rintro v ρ' L' hle ⟨rfl, rfl, rfl⟩ <;> (try simp only [kM, kN, kO])) | (refine Zc (.tmp 41) ?_; refine qC rfl rfl (ZW _ _) ?_; rintro v ρ' L' hle ⟨rfl, rfl, rfl⟩ <;> (try simp only [kM, kN, kO])) | (refine ZF ?_; try intro _)) <;> ((try simp only [kM, kN, kO]); refine Zf ?_; refine Zi ?_))))
      all_goals (refine Yj 6 ?_; refine Zx 7 ?_; (first | refine Zb 8 ?_ | refine Za 8 ?_ | refine ZI 8 ?_); (first | refine Zb 9 ?_ | refine Za 9 ?_ | refine Yg 9 ?_); (first | refine Zb 10 ?_ | refine Za 10 ?_ | refine ZI 10 ?_); (first | refine Zb 11 ?_ | refine Za 11 ?_ | refine ZI 11 ?_); (first | refine Zb 12 ?_ | refine Za 12 ?_ | refine ZI 12 ?_); (first | refine Zb 13 ?_ | refine Za 13 ?_ | refine ZI 13 ?_); (first | refine Zb 14 ?_ | refine Za 14 ?_ | refine wSb 14 ?_); (first | refine Zb 15 ?_ | refine Za 15 ?_ | refine wIa 15 ?_); (first | refine Zb 16 ?_ | refine Za 16 ?_ | refine ZL 16 ?_); (first | refine Zb 18 ?_ | refine Za 18 ?_ | refine ZI 18 ?_); (first | refine Zb 19 ?_ | refine Za 19 ?_ | refine ZL 19 ?_))
      all_goals (first | refine Zb 17 ?_ | refine Za 17 ?_ | (refine Zj (i := 17) ?_; ((try refine Zh ?_); (first | (refine Zc (.tmp 25) ?_; refine qC rfl rfl (YW _ bx mb es ck _ hm k x) ?_; rintro v ρ' L' hle ⟨rfl, rfl, es', ck', hm', rfl⟩ <;> (try simp only [kM, kN, kO, hx])) | (refine Zc (.tmp 34) ?_; refine qC rfl rfl (ZW _ _) ?_; rintro v ρ' L' hle ⟨rfl, rfl, rfl⟩ <;> (try simp only [kM, kN, kO])) | (refine Zc (.tmp 41) ?_; refine qC rfl rfl (ZW _ _) ?_; rintro v ρ' L' hle ⟨rfl, rfl, rfl⟩ <;> (try simp only [kM, kN, kO])) | (refine ZF ?_; try intro _)) <;> ((try simp only [kM, kN, kO]); refine Zf ?_; refine Zi ?_))))
      all_goals (first | refine Zb 20 ?_ | refine Za 20 ?_ | (refine Zj (i := 20) ?_; ((try refine Zh ?_); (first | (refine Zc (.tmp 25) ?_; refine qC rfl rfl (YW _ bx mb es ck _ hm k x) ?_; rintro v ρ' L' hle ⟨rfl, rfl, es', ck', hm', rfl⟩ <;> (try simp only [kM, kN, kO, hx])) | (refine Zc (.tmp 34) ?_; refine qC rfl rfl (ZW _ _) ?_; rintro v ρ' L' hle ⟨rfl, rfl, rfl⟩ <;> (try simp only [kM, kN, kO])) | (refine Zc (.tmp 41) ?_; refine qC rfl rfl (ZW _ _) ?_; rintro v ρ' L' hle ⟨rfl, rfl, rfl⟩ <;> (try simp only [kM, kN, kO])) | (refine ZF ?_; try intro _)) <;> ((try simp only [kM, kN, kO]); refine Zf ?_; refine Zi ?_))))
      all_goals (first | refine Zb 21 ?_ | refine Za 21 ?_ | (refine Zj (i := 21) ?_; ((try refine Zh ?_); (first | (refine Zc (.func 219) ?_; refine qC rfl rfl (XE _ _ _ _ _) ?_; rintro v ρ' L' hle ⟨rfl, rfl, rfl⟩ <;> (try simp only [kM, kN, kO])) | (refine ZF ?_; try intro _)) <;> ((try simp only [kM, kN, kO]); refine Zf ?_; refine Zi ?_))))
      all_goals (refine Zz ?_; (first | refine Zb 22 ?_ | refine Za 22 ?_ | refine Yg 22 ?_); (first | refine Zb 23 ?_ | refine Za 23 ?_ | refine wPk 23 ?_); refine Yj 24 ?_; refine rAs 25 ?_; refine Zv ?_)
      all_goals (repeat' (first | refine zW ?_ | intro _))
      all_goals exact qE ⟨rfl, rfl, rfl⟩
 ·have hk2 : k = n := by omega
  subst hk2
  repeat' (first | refine zW ?_ | intro _)
  exact qE ⟨rfl, rfl, rfl⟩
structure CV where
 ra : Option Addr
 rn : Nat
 rc : Nat
 ka : Option Addr
 kn : Nat
 kc : Nat
structure Cont where
 kind : Int
 rows : List Row
 kids : List Kid
deriving DecidableEq
abbrev contV (k : Int) (v : CV) : List Value := [.int .i64 k, .slice v.ra v.rn v.rc, .slice v.ka v.kn v.kc]
structure CIn (ρ : Hp) (v : CV) (rows : List Row) (kids : List Kid) : Prop where
 r : AIn ρ 4 rowV v.ra v.rn rows
 k : AIn ρ 3 kidV v.ka v.kn kids
 rb : v.rn ≤ 1000000
 kb : v.kn ≤ 1000000
 rc : v.rn ≤ v.rc
 kc : v.kn ≤ v.kc
theorem CIn.mono {ρ ρ' v rows kids} (h : CIn ρ v rows kids) (hle : ρ.le ρ') : CIn ρ' v rows kids := ⟨h.r.mono hle, h.k.mono hle, h.rb, h.kb, h.rc, h.kc⟩
theorem leafc_spec (ρ : Hp) (a : Option Addr) (n c : Nat) (l : List Row) (h : AIn ρ 4 rowV a n l) (hn : n ≤ 1000000) : Spec Tryz.prog 189 [.slice a n c] ρ [] (fun v ρ' L' => v = .bool (rowsOk l) ∧ ρ' = ρ ∧ L' = []) := by
 refine Zd Tryz.func189 rfl rfl rfl fun u R => ?_
 simp only [Zo, List.cons_append, List.nil_append]
 repeat' (first | (refine Zc (.func 205) ?_; refine qC rfl rfl (risesRow_spec _ a n c l h hn) ?_; rintro v ρ' L' hle ⟨rfl, rfl, rfl⟩ <;> (try simp only [kM, kN, kO])) | refine zW ?_ | intro _)
 exact qE ⟨rfl, rfl, rfl⟩
theorem innerc_spec (ρ : Hp) (a : Option Addr) (n c : Nat) (l : List Kid) (h : AIn ρ 3 kidV a n l) (hn : n ≤ 1000000) : Spec Tryz.prog 190 [.slice a n c] ρ [] (fun v ρ' L' => v = .bool (decide (1 < n) && kidsOk l) ∧ ρ' = ρ ∧ L' = []) := by
 refine Zd Tryz.func190 rfl rfl rfl fun u R => ?_
 simp only [Zo, List.cons_append, List.nil_append]
 by_cases h1 : 1 < n
 ·rw [decide_eq_true h1, Bool.true_and]
  repeat' (first | (refine Zc (.func 208) ?_; refine qC rfl rfl (risesKid_spec _ a n c l h hn _ _ _) ?_; rintro v ρ' L' hle ⟨rfl, rfl, rfl⟩ <;> (try simp only [kM, kN, kO])) | refine zW ?_ | intro _)
  exact qE ⟨rfl, rfl, rfl⟩
 ·rw [decide_eq_false h1, Bool.false_and]
  repeat' (first | refine zW ?_ | intro _)
  exact qE ⟨rfl, rfl, rfl⟩
def YE (c : Cont) : Bool :=
 if c.kind = 0 then decide (c.rows.length + c.kids.length = 0)
 else if c.kind = 1 then decide (c.kids.length = 0) && rowsOk c.rows
 else if c.kind = 2 then decide (c.rows.length = 0) && (decide (1 < c.kids.length) && kidsOk c.kids)
 else false
theorem check_spec (ρ : Hp) (v : CV) (c : Cont) (h : CIn ρ v c.rows c.kids) : Spec Tryz.prog 172 [.agg ⟨contV c.kind v⟩] ρ [] (fun r ρ' L' => r = .int .i64 (if YE c then 0 else 160) ∧ ρ' = ρ ∧ L' = []) := by
 obtain ⟨kind, rows, kids⟩ := c
 obtain ⟨ra, rn, rc, ka, kn, kc⟩ := v
 obtain ⟨hr, hk, hrb, hkb, _, _⟩ := h
 dsimp only at hr hk hrb hkb
 have hrl := hr.len
 have hkl := hk.len
 have hrs := leafc_spec ρ ra rn rc rows hr hrb
 have hks := innerc_spec ρ ka kn kc kids hk hkb
 generalize hq : YE ⟨kind, rows, kids⟩ = q
 unfold YE at hq
 simp only [hrl, hkl] at hq
 refine Zd Tryz.func172 rfl rfl rfl fun u R => ?_
 simp only [Zo, List.cons_append, List.nil_append]
 by_cases k0 : kind = 0
 ·rw [if_pos k0] at hq
  by_cases hz : rn + kn = 0
  ·rw [decide_eq_true hz] at hq
   subst hq
   repeat' (first | refine zW ?_ | intro _)
   exact qE ⟨rfl, rfl, rfl⟩
  ·rw [decide_eq_false hz] at hq
   subst hq
   repeat' (first | refine zW ?_ | intro _)
   exact qE ⟨rfl, rfl, rfl⟩
 ·rw [if_neg k0] at hq
  by_cases k1 : kind = 1
  ·rw [if_pos k1] at hq
   by_cases hz : kn = 0
   ·rw [decide_eq_true hz, Bool.true_and] at hq
    rw [hq] at hrs
    cases q
    all_goals (repeat' (first | (refine Zc (.func 189) ?_; refine qC rfl rfl (hrs) ?_; rintro v ρ' L' hle ⟨rfl, rfl, rfl⟩ <;> (try simp only [kM, kN, kO])) | refine zW ?_ | intro _))
    all_goals exact qE ⟨rfl, rfl, rfl⟩
   ·rw [decide_eq_false hz, Bool.false_and] at hq
    subst hq
    repeat' (first | refine zW ?_ | intro _)
    exact qE ⟨rfl, rfl, rfl⟩
  ·rw [if_neg k1] at hq
   by_cases k2 : kind = 2
   ·rw [if_pos k2] at hq
    by_cases hz : rn = 0
    ·rw [decide_eq_true hz, Bool.true_and] at hq
     rw [hq] at hks
     cases q
     all_goals (repeat' (first | (refine Zc (.func 190) ?_; refine qC rfl rfl (hks) ?_; rintro v ρ' L' hle ⟨rfl, rfl, rfl⟩ <;> (try simp only [kM, kN, kO])) | refine zW ?_ | intro _))
     all_goals exact qE ⟨rfl, rfl, rfl⟩
    ·rw [decide_eq_false hz, Bool.false_and] at hq
     subst hq
     repeat' (first | refine zW ?_ | intro _)
     exact qE ⟨rfl, rfl, rfl⟩
   ·rw [if_neg k2] at hq
    subst hq
    repeat' (first | refine zW ?_ | intro _)
    exact qE ⟨rfl, rfl, rfl⟩
theorem CIn.nil {ρ : Hp} : CIn ρ ⟨none, 0, 0, none, 0, 0⟩ [] [] := ⟨AIn.nil, AIn.nil, by decide, by decide, by decide, by decide⟩
def tB (t : Int) : UInt8 := UInt8.ofNat t.toNat
def XF (t : Int) (id : Nat) : List UInt8 := tB t :: be 2 id
def vN (v : Int) : Nat := (IntKind.u64.wrap v).toNat
theorem vN_eq (v : Int) : IntKind.u64.wrap v = (vN v : Nat) := by
 have : 0 ≤ IntKind.u64.wrap v := by simp only [IntKind.wrap, IntKind.bits, IntKind.signed, Bool.false_and, Bool.false_eq_true, if_false]; omega
 simp [vN]; omega
theorem vN_lt (v : Int) : vN v < 18446744073709551616 := by
 have : IntKind.u64.wrap v < 18446744073709551616 := by simp only [IntKind.wrap, IntKind.bits, IntKind.signed, Bool.false_and, Bool.false_eq_true, if_false]; omega
 have h := vN_eq v
 omega
def Yf (r : Row) : List UInt8 := XF r.t r.id ++ (be 8 (vN r.val) ++ (UInt8.ofNat r.note.length :: r.note))
theorem tB_eq {t : Int} (h0 : 0 ≤ t) (h1 : t < 256) : Value.int .u8 t = ZR (tB t) := by
 obtain ⟨n, rfl⟩ : ∃ n : Nat, t = n := ⟨t.toNat, by omega⟩
 simp only [ZR, tB, Int.toNat_natCast, UInt8.toNat_ofNat']
 congr 1
 have e : (2 : Nat) ^ 8 = 256 := by decide
 rw [e]
 omega
theorem key_spec (ρ : Hp) (v : Value) (n : Nat) (l : List UInt8) (sp : List Value) (hown : OwnS v n (l.map ZR) sp 1) (hn : n ≤ 100000) (t : Int) (id : Nat) (h0 : 0 ≤ t) (h3 : t < 256) (hid : id < 65536) :
  Spec Tryz.prog 228 [v, .agg ⟨keyV t id⟩] ρ [ZG v (l.map ZR) sp 5] (fun r ρ' L' => ρ.le ρ' ∧ ∃ sp', OwnS r (n + 3) ((l ++ XF t id).map ZR) sp' 1 ∧ L' = [ZG r ((l ++ XF t id).map ZR) sp' 5]) := by
 have hl : l.length = n := by obtain ⟨_, _, _, h⟩ := hown.len; simpa using h
 refine Zd Tryz.func228 rfl rfl rfl fun u R => ?_
 simp only [Zo, List.cons_append, List.nil_append]
 repeat' (first | refine zW ?_ | intro _)
 rename_i b3
 refine Zu (Zk _ _ ([[(b3, .cells ⟨keyV t id⟩ 56 (0, 0))]])) (Zw (hT := tk) (Hp.le_refl _)) ?_
 all_goals (refine Zx 0 ?_; refine ZN 1 ?_; refine ZQ 2 ?_; refine rCv 3 ?_; refine ZN 6 ?_; refine ZQ 7 ?_)
 all_goals (refine Zj (i := 4) ?_; ((try refine Zh ?_); (first | (refine Zl rfl rfl rfl rfl (by simp) rfl rfl (fun _ => ?_); simp only [tB_eq h0 h3]) | (refine ZF ?_; try intro _)) <;> ((try simp only [kM, kN, kO]); refine Zf ?_; refine Zi ?_)))
 all_goals (refine Zj (i := 5) ?_; ((try refine Zh ?_); (first | (refine ZZ (ys := [ZR (tB t)]) (m := 1) rfl rfl hown (hR := by infer_instance) SrcV.lit rfl rfl (by decide) rfl (by omega) (by omega) rfl (fun v' sp' hown' => ?_); rw [show l.map ZR ++ [ZR (tB t)] = (l ++ [tB t]).map ZR by simp] at hown' ⊢; refine Yb _ (h := Rem.here) (fun ρ2 hle2 hfz => ?_); obtain ⟨a', c', rfl, hc', hs⟩ := hown'.sIn hfz) | (refine ZF ?_; try intro _)) <;> ((try simp only [kM, kN, kO]); refine Zf ?_; refine Zi ?_)))
 all_goals (refine Zj (i := 8) ?_; ((try refine Zh ?_); (first | (refine Zc (.func 215) ?_; refine qC rfl rfl (put16_spec _ a' _ c' _ hs id hid (by omega)) ?_; rintro v ρ' L' hle ⟨rfl, sp2, hown2, rfl⟩ <;> (try simp only [kM, kN, kO])) | (refine ZF ?_; try intro _)) <;> ((try simp only [kM, kN, kO]); refine Zf ?_; refine Zi ?_)))
 all_goals (refine Zz ?_; refine rAs 9 ?_; refine Zv ?_)
 have e : l ++ [tB t] ++ be 2 id = l ++ XF t id := by rw [List.append_assoc]; rfl
 rw [e] at hown2 ⊢
 repeat' (first | refine zW ?_ | intro _)
 exact qE ⟨hle2, sp2, hown2, rfl⟩
theorem rowOk_iff {r : Row} (h : Xr r = true) : 0 ≤ r.t ∧ r.t < 3 ∧ r.note.length ≤ 8 := by
 have := of_decide_eq_true h
 exact ⟨this.1.1, this.1.2, this.2⟩
theorem lenB {n : Nat} (h : n ≤ 200) : Value.int .u8 (n : Int) = ZR (UInt8.ofNat n) := by
 simp only [ZR, UInt8.toNat_ofNat']
 congr 1
 have e : (2 : Nat) ^ 8 = 256 := by decide
 rw [e]
 omega
theorem claid_spec (ρ : Hp) (v : Value) (n : Nat) (l : List UInt8) (sp : List Value) (hown : OwnS v n (l.map ZR) sp 1) (hn : n ≤ 1000) (r : Row) (hr : Xr r = true) (hid : r.id < 65536) :
  Spec Tryz.prog 222 [v, .agg ⟨rowV r⟩] ρ [ZG v (l.map ZR) sp 5] (fun q ρ' L' => ρ.le ρ' ∧ ∃ sp', OwnS q (n + (Yf r).length) ((l ++ Yf r).map ZR) sp' 1 ∧ L' = [ZG q ((l ++ Yf r).map ZR) sp' 5]) := by
 obtain ⟨h0, h3, h8⟩ := rowOk_iff hr
 have hl : l.length = n := by obtain ⟨_, _, _, h⟩ := hown.len; simpa using h
 have hvl := vN_lt r.val
 have hkb : (XF r.t r.id).length = 3 := by simp [XF, Zm]
 have hlb := lenB (n := r.note.length) (by omega)
 refine Zd Tryz.func222 rfl rfl rfl fun u R => ?_
 simp only [Zo, List.cons_append, List.nil_append]
 repeat' (first | refine zW ?_ | intro _)
 rename_i b3
 refine Zu (Zk _ _ ([[(b3, .cells ⟨rowV r⟩ 58 (0, 0))]])) (Zw (hT := tk) (Hp.le_refl _)) ?_
 all_goals (refine Zx 0 ?_; refine ZN 1 ?_; refine ZQ 2 ?_; refine ZN 4 ?_; refine ZQ 5 ?_; refine rCv 6 ?_)
 all_goals (refine Zj (i := 3) ?_; ((try refine Zh ?_); (first | (simp only [vN_eq]; refine Zc (.func 228) ?_; refine qC rfl rfl (key_spec _ v n l sp hown (by omega) r.t r.id h0 (by omega) hid) ?_; rintro v1 ρ1 L1 hle0 ⟨hle1, sp1, hown1, rfl⟩; simp only [List.cons_append, List.nil_append]; refine Yb _ (h := Rem.here) (fun ρ2 hle2 hfz => ?_); obtain ⟨a1, c1, rfl, hc1, hs1⟩ := hown1.sIn hfz) | (refine ZF ?_; try intro _)) <;> ((try simp only [kM, kN, kO]); refine Zf ?_; refine Zi ?_)))
 all_goals (refine Zj (i := 7) ?_; ((try refine Zh ?_); (first | (refine Zc (.func 211) ?_; refine qC rfl rfl (put64_spec _ a1 _ c1 _ hs1 (vN r.val) hvl (by omega)) ?_; rintro v ρ' L' hle ⟨rfl, sp3, hown3, rfl⟩ <;> (try simp only [kM, kN, kO])) | (refine ZF ?_; try intro _)) <;> ((try simp only [kM, kN, kO]); refine Zf ?_; refine Zi ?_)))
 all_goals (refine Zz ?_; refine rAs 8 ?_; refine Zv ?_)
 repeat' (first | refine zW ?_ | intro _)
 refine Zu (Zk _ _ ([[(b3, .cells ⟨rowV r⟩ 58 (0, 0))]])) (Zw (hT := tk) (Hp.le_refl _)) ?_
 all_goals (refine Zx 0 ?_; refine ZN 1 ?_; refine ZQ 2 ?_; refine rBi 3 ?_; refine rCv 4 ?_; refine ZN 7 ?_; refine ZQ 8 ?_)
 all_goals (refine Zj (i := 5) ?_; ((try refine Zh ?_); (first | (refine Zl rfl rfl rfl rfl (by simp) rfl rfl (fun _ => ?_); simp only [hlb]) | (refine ZF ?_; try intro _)) <;> ((try simp only [kM, kN, kO]); refine Zf ?_; refine Zi ?_)))
 all_goals (refine Zj (i := 6) ?_; ((try refine Zh ?_); (first | (refine ZZ (ys := [ZR (UInt8.ofNat r.note.length)]) (m := 1) rfl rfl hown3 (hR := by infer_instance) SrcV.lit rfl rfl (by decide) rfl (by omega) (by omega) rfl (fun v4 sp4 hown4 => ?_)) | (refine tl_app_str (l := r.note) rfl rfl hown4 (hR := by infer_instance) (by omega) rfl (fun v5 sp5 hown5 => ?_)) | (refine ZF ?_; try intro _)) <;> ((try simp only [kM, kN, kO]); refine Zf ?_; refine Zi ?_)))
 all_goals (refine Zj (i := 9) ?_; ((try refine Zh ?_); (first | (refine ZZ (ys := [ZR (UInt8.ofNat r.note.length)]) (m := 1) rfl rfl hown3 (hR := by infer_instance) SrcV.lit rfl rfl (by decide) rfl (by omega) (by omega) rfl (fun v4 sp4 hown4 => ?_)) | (refine tl_app_str (l := r.note) rfl rfl hown4 (hR := by infer_instance) (by omega) rfl (fun v5 sp5 hown5 => ?_)) | (refine ZF ?_; try intro _)) <;> ((try simp only [kM, kN, kO]); refine Zf ?_; refine Zi ?_)))
 all_goals (refine Zz ?_; refine rAs 10 ?_; refine Zv ?_)
 have e : (l ++ XF r.t r.id ++ be 8 (vN r.val)).map ZR ++ [ZR (UInt8.ofNat r.note.length)] ++ r.note.map ZR = (l ++ Yf r).map ZR := by simp [Yf]
 have e2 : n + 3 + 8 + 1 + r.note.length = n + (Yf r).length := by simp [Yf, hkb, Zm]; omega
 rw [e] at hown5 ⊢
 rw [e2] at hown5
 repeat' (first | refine zW ?_ | intro _)
 exact qE ⟨Hp.le_trans hle1 hle2, sp5, hown5, rfl⟩
theorem rowE_spec (ρ : Hp) (r : Row) (hid : r.id < 65536) :
  Spec Tryz.prog 214 [.agg ⟨rowV r⟩] ρ [] (fun v ρ' L' => ρ.le ρ' ∧ ∃ a n c, v = .tuple ⟨[.slice a n c, .int .i64 (if Xr r then 0 else 151)]⟩ ∧ n ≤ c ∧ SIn ρ' ZR a n (if Xr r then Yf r else []) ∧ L' = []) := by
 have hck := fun ρ => checkRow_spec ρ r
 refine Zd Tryz.func214 rfl rfl rfl fun u R => ?_
 simp only [Zo, List.cons_append, List.nil_append]
 cases hok : Xr r
 ·simp only [hok, Bool.false_eq_true, if_false] at hck ⊢
  repeat' (first | (refine Zc (.func 174) ?_; refine qC rfl rfl (hck _) ?_; rintro v ρ' L' hle ⟨rfl, rfl, rfl⟩ <;> (try simp only [kM, kN, kO])) | refine zW ?_ | intro _)
  exact qE ⟨Hp.le_refl _, none, 0, 0, rfl, Nat.le_refl _, SIn.nil, rfl⟩
 ·simp only [hok, if_true] at hck ⊢
  repeat' (first | (refine Zc (.func 174) ?_; refine qC rfl rfl (hck _) ?_; rintro v ρ' L' hle ⟨rfl, rfl, rfl⟩ <;> (try simp only [kM, kN, kO])) | (refine Zc (.func 222) ?_; refine tl_call rfl rfl (claid_spec _ (.slice none 0 0) 0 [] [] (OwnS.nil 1) (by omega) r hok hid) (take_cons' rem_nil' take_nil') rfl ?_; rintro v1 ρ1 L1 hle0 ⟨hle1, sp1, hown1, rfl⟩; simp only [List.cons_append, List.nil_append, Nat.zero_add] at hown1 ⊢; refine Yb _ (h := Rem.here) (fun ρ2 hle2 hfz => ?_); obtain ⟨a1, c1, rfl, hc1, hs1⟩ := hown1.sIn hfz) | refine zW ?_ | intro _)
  exact qE ⟨Hp.le_trans hle1 hle2, a1, _, c1, rfl, hc1, hs1, rfl⟩
def Xt (k : Kid) : List UInt8 := XF k.t k.id ++ [tB k.page]
def cntB (c : Cont) : List UInt8 := if c.kind = 0 then [] else [UInt8.ofNat (c.rows.length + c.kids.length)]
def Xf (c : Cont) : List UInt8 := tB c.kind :: cntB c ++ (c.rows.flatMap Yf ++ c.kids.flatMap Xt)
theorem XP {α : Type} {most : Nat} {right : Nat → α → Bool} {lt : α → α → Bool} {l : List α} : ∀ {k : Nat}, ZC most right lt l k = true → k ≤ l.length → l.length ≤ most ∧ ∀ i (h : i < l.length), i < k → right i l[i] = true ∧ (i = 0 ∨ lt (l[i - 1]'(by omega)) l[i] = true)
 | 0, h, _ => ⟨of_decide_eq_true h, fun i _ hi => by omega⟩
 | k + 1, h, hk => by
  rw [YK (show k < l.length by omega), Bool.and_eq_true, Bool.and_eq_true] at h
  obtain ⟨h1, h2, h3⟩ := h
  obtain ⟨g1, g2⟩ := XP h1 (by omega)
  refine ⟨g1, fun i hi hik => ?_⟩
  by_cases e : i < k
  ·exact g2 i hi e
  ·have : i = k := by omega
   subst this
   refine ⟨h2, ?_⟩
   simpa using h3
structure ContOk (c : Cont) : Prop where
 kind : c.kind = 0 ∧ c.rows = [] ∧ c.kids = [] ∨ c.kind = 1 ∧ c.kids = [] ∨ c.kind = 2 ∧ c.rows = [] ∧ 1 < c.kids.length
 rl : c.rows.length ≤ 4
 kl : c.kids.length ≤ 4
 row : ∀ r ∈ c.rows, Xr r = true
 kid : ∀ k ∈ c.kids, (0 ≤ k.t ∧ k.t < 3) ∧ 0 < k.page ∧ k.page < 64
theorem contOk_facts {c : Cont} (h : YE c = true) : ContOk c := by
 obtain ⟨kind, rows, kids⟩ := c
 unfold YE at h
 dsimp only at h
 split at h
 ·rename_i hk
  have hz := of_decide_eq_true h
  have h1 : rows = [] := List.eq_nil_of_length_eq_zero (by omega)
  have h2 : kids = [] := List.eq_nil_of_length_eq_zero (by omega)
  subst h1; subst h2
  exact ⟨.inl ⟨hk, rfl, rfl⟩, by simp, by simp, by simp, by simp⟩
 ·split at h
  ·rename_i hk
   rw [Bool.and_eq_true] at h
   have h2 : kids = [] := List.eq_nil_of_length_eq_zero (of_decide_eq_true h.1)
   subst h2
   obtain ⟨g1, g2⟩ := XP h.2 (Nat.le_refl _)
   refine ⟨.inr (.inl ⟨hk, rfl⟩), g1, by simp, fun r hr => ?_, by simp⟩
   obtain ⟨i, hi, rfl⟩ := List.mem_iff_getElem.1 hr
   exact (g2 i hi hi).1
  ·split at h
   ·rename_i hk
    rw [Bool.and_eq_true, Bool.and_eq_true] at h
    have h1 : rows = [] := List.eq_nil_of_length_eq_zero (of_decide_eq_true h.1)
    subst h1
    obtain ⟨g1, g2⟩ := XP h.2.2 (Nat.le_refl _)
    refine ⟨.inr (.inr ⟨hk, rfl, of_decide_eq_true h.2.1⟩), by simp, g1, by simp, fun k hk => ?_⟩
    obtain ⟨i, hi, rfl⟩ := List.mem_iff_getElem.1 hk
    have := of_decide_eq_true (g2 i hi hi).1
    exact ⟨this.2.2.2.1, this.2.1, this.2.2.1⟩
   ·cases h
theorem rowB_len {r : Row} (h : Xr r = true) : (Yf r).length = 12 + r.note.length := by simp [Yf, XF, Zm]; omega
theorem rowB_le {r : Row} (h : Xr r = true) : (Yf r).length ≤ 20 := by rw [rowB_len h]; have := (rowOk_iff h).2.2; omega
theorem kidB_len (k : Kid) : (Xt k).length = 4 := by simp [Xt, XF, Zm]
theorem Yd {α : Type} (f : α → List UInt8) (m : Nat) : ∀ (l : List α), (∀ x ∈ l, (f x).length ≤ m) → (l.flatMap f).length ≤ l.length * m
 | [], _ => by simp
 | x :: r, h => by
  have h1 := h x (by simp)
  have ih := Yd f m r (fun y hy => h y (by simp [hy]))
  simp only [List.flatMap_cons, List.length_append, List.length_cons, Nat.add_mul]; omega
theorem YO {α : Type} (f : α → List UInt8) (l : List α) (k : Nat) (h : k < l.length) : (l.take (k + 1)).flatMap f = (l.take k).flatMap f ++ f l[k] := by
 rw [List.take_succ_eq_append_getElem h, List.flatMap_append]; simp
theorem contE_spec (ρ : Hp) (w : CV) (c : Cont) (h : CIn ρ w c.rows c.kids) (hir : ∀ r ∈ c.rows, r.id < 65536) (hik : ∀ k ∈ c.kids, k.id < 65536) :
  Spec Tryz.prog 221 [.agg ⟨contV c.kind w⟩] ρ [] (fun v ρ' L' => ρ.le ρ' ∧ ∃ a n c', v = .tuple ⟨[.slice a n c', .int .i64 (if YE c then 0 else 160)]⟩ ∧ n ≤ c' ∧ SIn ρ' ZR a n (if YE c then Xf c else []) ∧ L' = []) := by
 have hck := fun ρ h => check_spec ρ w c h
 refine Zd Tryz.func221 rfl rfl rfl fun u R => ?_
 simp only [Zo, List.cons_append, List.nil_append]
 cases hok : YE c
 ·simp only [hok, Bool.false_eq_true, if_false] at hck ⊢
  repeat' (first | (refine Zc (.func 172) ?_; refine qC rfl rfl (hck _ h) ?_; rintro v ρ' L' hle ⟨rfl, rfl, rfl⟩ <;> (try simp only [kM, kN, kO])) | refine zW ?_ | intro _)
  exact qE ⟨Hp.le_refl _, none, 0, 0, rfl, Nat.le_refl _, SIn.nil, rfl⟩
 ·simp only [hok, if_true] at hck ⊢
  obtain ⟨hkind, hrl, hkl, hrow, hkid⟩ := contOk_facts hok
  have hk03 : 0 ≤ c.kind ∧ c.kind < 3 := by omega
  obtain ⟨kind, rows, kids⟩ := c
  obtain ⟨ra, rn, rc, ka, kn, kc⟩ := w
  obtain ⟨hr, hk, hrb, hkb, hrc, hkc⟩ := h
  dsimp only at hrc hkc hr hk hrb hkb hrow hkid hrl hkl hk03 hir hik ⊢
  have hrn := hr.len
  have hkn := hk.len
  have hcnt := lenB (n := rn + kn) (by omega)
  have hkB := tB_eq (t := kind) (by omega) (by omega)
  dsimp only [contV] at hck ⊢
  by_cases hk0 : kind = 0
  ·obtain ⟨B0, hB0⟩ : ∃ B0, tB kind :: cntB ⟨kind, rows, kids⟩ = B0 := ⟨_, rfl⟩
   have hX : B0 = [tB kind] := by rw [← hB0]; simp [cntB, hk0]
   have hBl : B0.length ≤ 2 := by rw [hX]; simp
   repeat' (first | (refine Zc (.func 172) ?_; refine qC rfl rfl (hck _ ⟨hr, hk, hrb, hkb, hrc, hkc⟩) ?_; rintro v ρ' L' hle ⟨rfl, rfl, rfl⟩ <;> (try simp only [kM, kN, kO])) | (refine Zl rfl rfl rfl rfl (by simp) rfl rfl (fun _ => ?_); simp only [hkB]) | refine zW ?_ | intro _)
   rename_i b1 b2
   rw [show [ZR (tB kind)] = B0.map ZR by rw [hX]; rfl, own_chunk b2 1 1]
   have hown0 : OwnS (.slice (some ⟨b2, 0, none⟩) 1 1) B0.length (B0.map ZR) [] 1 := ⟨.inr ⟨b2, 1, by rw [hX]; rfl, by simp, by simp [hX], by simp [hX]⟩⟩
   generalize Value.slice (some ⟨b2, 0, none⟩) 1 1 = v0 at *
   rw [show B0.map ZR = (B0 ++ (rows.take 0).flatMap Yf).map ZR by simp]
   refine Zq [(1, _), (2, _), (3, _), (34, _), (35, _)] (fun (ζ : (Nat) × (Hp) × (Value) × (List Value)) => [(36, .int .i64 ζ.1), (5, ζ.2.2.1)]) (fun (ζ : (Nat) × (Hp) × (Value) × (List Value)) => ζ.2.1) (fun (ζ : (Nat) × (Hp) × (Value) × (List Value)) => [ZG ζ.2.2.1 ((B0 ++ (rows.take ζ.1).flatMap Yf).map ZR) ζ.2.2.2 5, [(b1, .cells ⟨[.int .i64 kind, .slice ra rn rc, .slice ka kn kc]⟩ 98 (0, 0))]]) (fun (ζ : (Nat) × (Hp) × (Value) × (List Value)) => ζ.1 ≤ rn ∧ ρ'.le ζ.2.1 ∧ OwnS ζ.2.2.1 (B0 ++ (rows.take ζ.1).flatMap Yf).length ((B0 ++ (rows.take ζ.1).flatMap Yf).map ZR) ζ.2.2.2 1) (fun (ζ : (Nat) × (Hp) × (Value) × (List Value)) => rn - ζ.1) ((0, ρ', v0, [])) (⟨Nat.zero_le _, Hp.le_refl _, by simpa using hown0⟩) Ze Ze rfl tk ?_
   rintro ⟨k, ρ1, v, sp⟩ hI
   try simp only [List.cons_append, List.nil_append, List.append_assoc, List.append_eq] at hI ⊢
   try dsimp only at hI ⊢
   obtain ⟨hkn0, hle1, hown⟩ := hI
   by_cases hlt : k < rn
   ·obtain ⟨b, off, C, T, fr, rfl, hb, hfit, hc⟩ := (hr.mono hle1).get (show k < rows.length by omega)
    have hmem : rows[k]'(by omega) ∈ rows := List.getElem_mem _
    have hro := hrow _ hmem
    have hid := hir _ hmem
    have hts := YO Yf rows k (by omega)
    have hfl := Yd Yf 20 (rows.take k) (fun x hx => rowB_le (hrow x (List.mem_of_mem_take hx)))
    have htl : (rows.take k).length ≤ 4 := by simp; omega
    have hXl : (B0 ++ (rows.take k).flatMap Yf).length ≤ 100 := by simp only [List.length_append]; omega
    have hll : (B0 ++ (rows.take k).flatMap Yf).length + (Yf (rows[k]'(by omega))).length = (B0 ++ (rows.take (k + 1)).flatMap Yf).length := by rw [hts]; simp; omega
    have hmm : B0 ++ (rows.take k).flatMap Yf ++ Yf (rows[k]'(by omega)) = B0 ++ (rows.take (k + 1)).flatMap Yf := by rw [hts]; simp
    generalize rows[k]'(by omega) = x at *
    repeat' (first | (refine Zc (.func 222) ?_; refine qC rfl rfl (claid_spec _ v _ _ sp hown (by omega) x hro hid) ?_; rintro v2 ρ2 L2 hle0 ⟨hle2, sp2, hown2, rfl⟩; simp only [List.cons_append, List.nil_append, hmm]; rw [hmm, hll] at hown2) | refine zW ?_ | intro _)
    refine Zg (k + 1, _, v2, sp2) (⟨hlt, Hp.le_trans hle1 hle2, hown2⟩) Ze Ze rfl tk inferInstance (by first | omega | (dsimp only; omega))
   ·have hk2 : k = rn := by omega
    subst hk2
    rw [List.take_of_length_le (by omega)] at hown ⊢
    repeat' (first | refine zW ?_ | intro _)
    rw [show (B0 ++ rows.flatMap Yf).map ZR = (B0 ++ (rows.flatMap Yf ++ (kids.take 0).flatMap Xt)).map ZR by simp]
    refine Zq [(2, _), (3, _), (45, _), (46, _)] (fun (ζ : (Nat) × (Hp) × (Value) × (List Value)) => [(47, .int .i64 ζ.1), (5, ζ.2.2.1)]) (fun (ζ : (Nat) × (Hp) × (Value) × (List Value)) => ζ.2.1) (fun (ζ : (Nat) × (Hp) × (Value) × (List Value)) => [ZG ζ.2.2.1 ((B0 ++ (rows.flatMap Yf ++ (kids.take ζ.1).flatMap Xt)).map ZR) ζ.2.2.2 5]) (fun (ζ : (Nat) × (Hp) × (Value) × (List Value)) => ζ.1 ≤ kn ∧ ρ1.le ζ.2.1 ∧ OwnS ζ.2.2.1 (B0 ++ (rows.flatMap Yf ++ (kids.take ζ.1).flatMap Xt)).length ((B0 ++ (rows.flatMap Yf ++ (kids.take ζ.1).flatMap Xt)).map ZR) ζ.2.2.2 1) (fun (ζ : (Nat) × (Hp) × (Value) × (List Value)) => kn - ζ.1) ((0, ρ1, v, sp)) (⟨Nat.zero_le _, Hp.le_refl _, by simpa using hown⟩) Ze Ze rfl tk ?_
    rintro ⟨j, ρ2, v, sp⟩ hI
    try simp only [List.cons_append, List.nil_append, List.append_assoc, List.append_eq] at hI ⊢
    try dsimp only at hI ⊢
    have hfl := Yd Yf 20 rows (fun x hx => rowB_le (hrow x hx))
    obtain ⟨hj0, hle3, hown3⟩ := hI
    by_cases hlj : j < kn
    ·obtain ⟨b, off, C, T, fr, rfl, hb, hfit, hc⟩ := (hk.mono (Hp.le_trans hle1 hle3)).get (show j < kids.length by omega)
     have hmem : kids[j]'(by omega) ∈ kids := List.getElem_mem _
     have hko := hkid _ hmem
     have hid := hik _ hmem
     have hts := YO Xt kids j (by omega)
     have hfk := Yd Xt 4 (kids.take j) (fun x hx => Nat.le_of_eq (kidB_len x))
     have htl : (kids.take j).length ≤ 4 := by simp; omega
     have hXl : (B0 ++ (rows.flatMap Yf ++ (kids.take j).flatMap Xt)).length ≤ 200 := by simp only [List.length_append]; omega
     have hmm : B0 ++ (rows.flatMap Yf ++ (kids.take j).flatMap Xt) ++ XF (kids[j]'(by omega)).t (kids[j]'(by omega)).id ++ [tB (kids[j]'(by omega)).page] = B0 ++ (rows.flatMap Yf ++ (kids.take (j + 1)).flatMap Xt) := by rw [hts]; simp [Xt]
     have hll : (B0 ++ (rows.flatMap Yf ++ (kids.take j).flatMap Xt)).length + 3 + 1 = (B0 ++ (rows.flatMap Yf ++ (kids.take (j + 1)).flatMap Xt)).length := by rw [hts]; simp [kidB_len]; omega
     have hpg := tB_eq (t := (kids[j]'(by omega)).page) (by omega) (by omega)
     generalize kids[j]'(by omega) = x at *
     generalize hX : B0 ++ (rows.flatMap Yf ++ (kids.take j).flatMap Xt) = X at *
     repeat' (first | refine zW ?_ | intro _)
     rename_i b9
     refine Zu (Zk _ _ ([[(b9, .cells ⟨kidV x⟩ 230 (0, 0))]])) (Zw (hT := tk) (Hp.le_refl _)) ?_
     all_goals (refine Zx 0 ?_; refine ZN 1 ?_; refine ZQ 2 ?_; refine ZN 4 ?_; refine ZQ 5 ?_; refine rCv 6 ?_)
     all_goals (refine YD (i := 3) (j := 7) ?_ ?_ <;> ((try refine Zh ?_); (first | (refine Zc (.func 228) ?_; refine qC rfl rfl (key_spec _ v _ X sp hown3 (by omega) x.t x.id hko.1.1 (by omega) hid) ?_; rintro v2 ρ4 L2 hle0 ⟨hle4, sp4, hown4, rfl⟩; simp only [List.cons_append, List.nil_append]) | (refine Zl rfl rfl rfl rfl (by simp) rfl rfl (fun _ => ?_); simp only [hpg]) | (refine ZF ?_; try intro _)) <;> ((try simp only [kM, kN, kO]); refine Zf ?_; refine Zi ?_)))
     all_goals (first | (refine Zj (i := 7) ?_; ((try refine Zh ?_); (first | (refine Zl rfl rfl rfl rfl (by simp) rfl rfl (fun _ => ?_); simp only [hpg]) | (refine ZF ?_; try intro _)) <;> ((try simp only [kM, kN, kO]); refine Zf ?_; refine Zi ?_))) | (refine Zj (i := 3) ?_; ((try refine Zh ?_); (first | (refine Zc (.func 228) ?_; refine qC rfl rfl (key_spec _ v _ X sp hown3 (by omega) x.t x.id hko.1.1 (by omega) hid) ?_; rintro v2 ρ4 L2 hle0 ⟨hle4, sp4, hown4, rfl⟩; simp only [List.cons_append, List.nil_append]) | (refine ZF ?_; try intro _)) <;> ((try simp only [kM, kN, kO]); refine Zf ?_; refine Zi ?_))))
     all_goals (refine Zj (i := 8) ?_; ((try refine Zh ?_); (first | (refine Zc (.func 228) ?_; refine qC rfl rfl (key_spec _ v _ X sp hown3 (by omega) x.t x.id hko.1.1 (by omega) hid) ?_; rintro v2 ρ4 L2 hle0 ⟨hle4, sp4, hown4, rfl⟩; simp only [List.cons_append, List.nil_append]) | (refine ZZ (ys := [ZR (tB x.page)]) (m := 1) rfl rfl hown4 (hR := by infer_instance) SrcV.lit rfl rfl (by decide) rfl (by omega) (by omega) rfl (fun v5 sp5 hown5 => ?_); rw [show (X ++ XF x.t x.id).map ZR ++ [ZR (tB x.page)] = (X ++ XF x.t x.id ++ [tB x.page]).map ZR by simp, hmm] at hown5 ⊢; rw [hll] at hown5) | (refine ZF ?_; try intro _)) <;> ((try simp only [kM, kN, kO]); refine Zf ?_; refine Zi ?_)))
     all_goals (refine Zz ?_; refine rAs 9 ?_; refine Zv ?_)
     all_goals (repeat' (first | refine zW ?_ | intro _))
     all_goals refine Zg (j + 1, _, v5, sp5) (⟨hlj, Hp.le_trans hle3 (by assumption), hown5⟩) Ze Ze rfl tk inferInstance (by first | omega | (dsimp only; omega))
    ·have hj2 : j = kn := by omega
     subst hj2
     rw [List.take_of_length_le (by omega)] at hown3 ⊢
     have hfin : B0 ++ (rows.flatMap Yf ++ kids.flatMap Xt) = Xf ⟨kind, rows, kids⟩ := by rw [← hB0]; simp [Xf]
     rw [hfin] at hown3 ⊢
     repeat' (first | refine zW ?_ | intro _)
     refine ZY _ (h := Rem.here) (fun ρ6 hle6 hfz => ?_)
     obtain ⟨a6, c6, rfl, hc6, hs6⟩ := hown3.sIn hfz
     exact qE ⟨Hp.le_trans hle1 (Hp.le_trans hle3 hle6), a6, _, c6, rfl, hc6, hs6, rfl⟩
  ·obtain ⟨B0, hB0⟩ : ∃ B0, tB kind :: cntB ⟨kind, rows, kids⟩ = B0 := ⟨_, rfl⟩
   have hX : B0 = [tB kind] ++ [UInt8.ofNat (rn + kn)] := by rw [← hB0]; simp [cntB, hk0, hrn, hkn]
   have hBl : B0.length ≤ 2 := by rw [hX]; simp
   have hcnt' : Value.int .u8 ((rn : Int) + (kn : Int)) = ZR (UInt8.ofNat (rn + kn)) := by rw [← hcnt]; simp
   repeat' (first | (refine Zc (.func 172) ?_; refine qC rfl rfl (hck _ ⟨hr, hk, hrb, hkb, hrc, hkc⟩) ?_; rintro v ρ' L' hle ⟨rfl, rfl, rfl⟩ <;> (try simp only [kM, kN, kO])) | (refine Zl rfl rfl rfl rfl (by simp) rfl rfl (fun _ => ?_); first | simp only [hkB] | simp only [hcnt']) | refine zW ?_ | intro _)
   rename_i b1 b2 b3
   rw [show ([(b2, Obj.cells ⟨[ZR (tB kind)]⟩ 5 (0, 0))] : List (Nat × Obj)) = ZG (.slice (some ⟨b2, 0, none⟩) 1 1) ([tB kind].map ZR) [] 5 from rfl]
   refine ZZ (ys := [ZR (UInt8.ofNat (rn + kn))]) (m := 1) (n := 1) (xs := [tB kind].map ZR) (sp := []) rfl rfl ⟨.inr ⟨b2, 1, rfl, rfl, rfl, Nat.le_refl _⟩⟩ (hR := by infer_instance) SrcV.lit rfl rfl (by decide) rfl (by omega) (by omega) rfl (fun v0 sp0 hown0 => ?_)
   rw [show [tB kind].map ZR ++ [ZR (UInt8.ofNat (rn + kn))] = B0.map ZR by rw [hX]; rfl] at hown0 ⊢
   replace hown0 : OwnS v0 B0.length (B0.map ZR) sp0 1 := by
    have e : B0.length = 1 + 1 := by rw [hX]; rfl
    rw [e]; exact hown0
   repeat' (first | refine zW ?_ | intro _)
   rw [show B0.map ZR = (B0 ++ (rows.take 0).flatMap Yf).map ZR by simp]
   refine Zq [(1, _), (2, _), (3, _), (34, _), (35, _)] (fun (ζ : (Nat) × (Hp) × (Value) × (List Value)) => [(36, .int .i64 ζ.1), (5, ζ.2.2.1)]) (fun (ζ : (Nat) × (Hp) × (Value) × (List Value)) => ζ.2.1) (fun (ζ : (Nat) × (Hp) × (Value) × (List Value)) => [ZG ζ.2.2.1 ((B0 ++ (rows.take ζ.1).flatMap Yf).map ZR) ζ.2.2.2 5, [(b1, .cells ⟨[.int .i64 kind, .slice ra rn rc, .slice ka kn kc]⟩ 98 (0, 0))]]) (fun (ζ : (Nat) × (Hp) × (Value) × (List Value)) => ζ.1 ≤ rn ∧ ρ'.le ζ.2.1 ∧ OwnS ζ.2.2.1 (B0 ++ (rows.take ζ.1).flatMap Yf).length ((B0 ++ (rows.take ζ.1).flatMap Yf).map ZR) ζ.2.2.2 1) (fun (ζ : (Nat) × (Hp) × (Value) × (List Value)) => rn - ζ.1) ((0, ρ', v0, sp0)) (⟨Nat.zero_le _, Hp.le_refl _, by simpa using hown0⟩) Ze Ze rfl tk ?_
   rintro ⟨k, ρ1, v, sp⟩ hI
   try simp only [List.cons_append, List.nil_append, List.append_assoc, List.append_eq] at hI ⊢
   try dsimp only at hI ⊢
   obtain ⟨hkn0, hle1, hown⟩ := hI
   by_cases hlt : k < rn
   ·obtain ⟨b, off, C, T, fr, rfl, hb, hfit, hc⟩ := (hr.mono hle1).get (show k < rows.length by omega)
    have hmem : rows[k]'(by omega) ∈ rows := List.getElem_mem _
    have hro := hrow _ hmem
    have hid := hir _ hmem
    have hts := YO Yf rows k (by omega)
    have hfl := Yd Yf 20 (rows.take k) (fun x hx => rowB_le (hrow x (List.mem_of_mem_take hx)))
    have htl : (rows.take k).length ≤ 4 := by simp; omega
    have hXl : (B0 ++ (rows.take k).flatMap Yf).length ≤ 100 := by simp only [List.length_append]; omega
    have hll : (B0 ++ (rows.take k).flatMap Yf).length + (Yf (rows[k]'(by omega))).length = (B0 ++ (rows.take (k + 1)).flatMap Yf).length := by rw [hts]; simp; omega
    have hmm : B0 ++ (rows.take k).flatMap Yf ++ Yf (rows[k]'(by omega)) = B0 ++ (rows.take (k + 1)).flatMap Yf := by rw [hts]; simp
    generalize rows[k]'(by omega) = x at *
    repeat' (first | (refine Zc (.func 222) ?_; refine qC rfl rfl (claid_spec _ v _ _ sp hown (by omega) x hro hid) ?_; rintro v2 ρ2 L2 hle0 ⟨hle2, sp2, hown2, rfl⟩; simp only [List.cons_append, List.nil_append, hmm]; rw [hmm, hll] at hown2) | refine zW ?_ | intro _)
    refine Zg (k + 1, _, v2, sp2) (⟨hlt, Hp.le_trans hle1 hle2, hown2⟩) Ze Ze rfl tk inferInstance (by first | omega | (dsimp only; omega))
   ·have hk2 : k = rn := by omega
    subst hk2
    rw [List.take_of_length_le (by omega)] at hown ⊢
    repeat' (first | refine zW ?_ | intro _)
    rw [show (B0 ++ rows.flatMap Yf).map ZR = (B0 ++ (rows.flatMap Yf ++ (kids.take 0).flatMap Xt)).map ZR by simp]
    refine Zq [(2, _), (3, _), (45, _), (46, _)] (fun (ζ : (Nat) × (Hp) × (Value) × (List Value)) => [(47, .int .i64 ζ.1), (5, ζ.2.2.1)]) (fun (ζ : (Nat) × (Hp) × (Value) × (List Value)) => ζ.2.1) (fun (ζ : (Nat) × (Hp) × (Value) × (List Value)) => [ZG ζ.2.2.1 ((B0 ++ (rows.flatMap Yf ++ (kids.take ζ.1).flatMap Xt)).map ZR) ζ.2.2.2 5]) (fun (ζ : (Nat) × (Hp) × (Value) × (List Value)) => ζ.1 ≤ kn ∧ ρ1.le ζ.2.1 ∧ OwnS ζ.2.2.1 (B0 ++ (rows.flatMap Yf ++ (kids.take ζ.1).flatMap Xt)).length ((B0 ++ (rows.flatMap Yf ++ (kids.take ζ.1).flatMap Xt)).map ZR) ζ.2.2.2 1) (fun (ζ : (Nat) × (Hp) × (Value) × (List Value)) => kn - ζ.1) ((0, ρ1, v, sp)) (⟨Nat.zero_le _, Hp.le_refl _, by simpa using hown⟩) Ze Ze rfl tk ?_
    rintro ⟨j, ρ2, v, sp⟩ hI
    try simp only [List.cons_append, List.nil_append, List.append_assoc, List.append_eq] at hI ⊢
    try dsimp only at hI ⊢
    have hfl := Yd Yf 20 rows (fun x hx => rowB_le (hrow x hx))
    obtain ⟨hj0, hle3, hown3⟩ := hI
    by_cases hlj : j < kn
    ·obtain ⟨b, off, C, T, fr, rfl, hb, hfit, hc⟩ := (hk.mono (Hp.le_trans hle1 hle3)).get (show j < kids.length by omega)
     have hmem : kids[j]'(by omega) ∈ kids := List.getElem_mem _
     have hko := hkid _ hmem
     have hid := hik _ hmem
     have hts := YO Xt kids j (by omega)
     have hfk := Yd Xt 4 (kids.take j) (fun x hx => Nat.le_of_eq (kidB_len x))
     have htl : (kids.take j).length ≤ 4 := by simp; omega
     have hXl : (B0 ++ (rows.flatMap Yf ++ (kids.take j).flatMap Xt)).length ≤ 200 := by simp only [List.length_append]; omega
     have hmm : B0 ++ (rows.flatMap Yf ++ (kids.take j).flatMap Xt) ++ XF (kids[j]'(by omega)).t (kids[j]'(by omega)).id ++ [tB (kids[j]'(by omega)).page] = B0 ++ (rows.flatMap Yf ++ (kids.take (j + 1)).flatMap Xt) := by rw [hts]; simp [Xt]
     have hll : (B0 ++ (rows.flatMap Yf ++ (kids.take j).flatMap Xt)).length + 3 + 1 = (B0 ++ (rows.flatMap Yf ++ (kids.take (j + 1)).flatMap Xt)).length := by rw [hts]; simp [kidB_len]; omega
     have hpg := tB_eq (t := (kids[j]'(by omega)).page) (by omega) (by omega)
     generalize kids[j]'(by omega) = x at *
     generalize hX : B0 ++ (rows.flatMap Yf ++ (kids.take j).flatMap Xt) = X at *
     repeat' (first | refine zW ?_ | intro _)
     rename_i b9
     refine Zu (Zk _ _ ([[(b9, .cells ⟨kidV x⟩ 230 (0, 0))]])) (Zw (hT := tk) (Hp.le_refl _)) ?_
     all_goals (refine Zx 0 ?_; refine ZN 1 ?_; refine ZQ 2 ?_; refine ZN 4 ?_; refine ZQ 5 ?_; refine rCv 6 ?_)
     all_goals (refine YD (i := 3) (j := 7) ?_ ?_ <;> ((try refine Zh ?_); (first | (refine Zc (.func 228) ?_; refine qC rfl rfl (key_spec _ v _ X sp hown3 (by omega) x.t x.id hko.1.1 (by omega) hid) ?_; rintro v2 ρ4 L2 hle0 ⟨hle4, sp4, hown4, rfl⟩; simp only [List.cons_append, List.nil_append]) | (refine Zl rfl rfl rfl rfl (by simp) rfl rfl (fun _ => ?_); simp only [hpg]) | (refine ZF ?_; try intro _)) <;> ((try simp only [kM, kN, kO]); refine Zf ?_; refine Zi ?_)))
     all_goals (first | (refine Zj (i := 7) ?_; ((try refine Zh ?_); (first | (refine Zl rfl rfl rfl rfl (by simp) rfl rfl (fun _ => ?_); simp only [hpg]) | (refine ZF ?_; try intro _)) <;> ((try simp only [kM, kN, kO]); refine Zf ?_; refine Zi ?_))) | (refine Zj (i := 3) ?_; ((try refine Zh ?_); (first | (refine Zc (.func 228) ?_; refine qC rfl rfl (key_spec _ v _ X sp hown3 (by omega) x.t x.id hko.1.1 (by omega) hid) ?_; rintro v2 ρ4 L2 hle0 ⟨hle4, sp4, hown4, rfl⟩; simp only [List.cons_append, List.nil_append]) | (refine ZF ?_; try intro _)) <;> ((try simp only [kM, kN, kO]); refine Zf ?_; refine Zi ?_))))
     all_goals (refine Zj (i := 8) ?_; ((try refine Zh ?_); (first | (refine Zc (.func 228) ?_; refine qC rfl rfl (key_spec _ v _ X sp hown3 (by omega) x.t x.id hko.1.1 (by omega) hid) ?_; rintro v2 ρ4 L2 hle0 ⟨hle4, sp4, hown4, rfl⟩; simp only [List.cons_append, List.nil_append]) | (refine ZZ (ys := [ZR (tB x.page)]) (m := 1) rfl rfl hown4 (hR := by infer_instance) SrcV.lit rfl rfl (by decide) rfl (by omega) (by omega) rfl (fun v5 sp5 hown5 => ?_); rw [show (X ++ XF x.t x.id).map ZR ++ [ZR (tB x.page)] = (X ++ XF x.t x.id ++ [tB x.page]).map ZR by simp, hmm] at hown5 ⊢; rw [hll] at hown5) | (refine ZF ?_; try intro _)) <;> ((try simp only [kM, kN, kO]); refine Zf ?_; refine Zi ?_)))
     all_goals (refine Zz ?_; refine rAs 9 ?_; refine Zv ?_)
     all_goals (repeat' (first | refine zW ?_ | intro _))
     all_goals refine Zg (j + 1, _, v5, sp5) (⟨hlj, Hp.le_trans hle3 (by assumption), hown5⟩) Ze Ze rfl tk inferInstance (by first | omega | (dsimp only; omega))
    ·have hj2 : j = kn := by omega
     subst hj2
     rw [List.take_of_length_le (by omega)] at hown3 ⊢
     have hfin : B0 ++ (rows.flatMap Yf ++ kids.flatMap Xt) = Xf ⟨kind, rows, kids⟩ := by rw [← hB0]; simp [Xf]
     rw [hfin] at hown3 ⊢
     repeat' (first | refine zW ?_ | intro _)
     refine ZY _ (h := Rem.here) (fun ρ6 hle6 hfz => ?_)
     obtain ⟨a6, c6, rfl, hc6, hs6⟩ := hown3.sIn hfz
     exact qE ⟨Hp.le_trans hle1 (Hp.le_trans hle3 hle6), a6, _, c6, rfl, hc6, hs6, rfl⟩
instance (priority := 1200) eqRow {x y : Row} : EqC Tryz.prog 8 58 (.agg ⟨rowV x⟩) (.agg ⟨rowV y⟩) (decide (x = y)) := by
 have h : EqC Tryz.prog 8 58 (.agg ⟨[.int .i64 x.t, .int .u16 x.id, .int .i64 x.val, strV x.note]⟩) (.agg ⟨[.int .i64 y.t, .int .u16 y.id, .int .i64 y.val, strV y.note]⟩) _ := inferInstance
 refine ⟨fun d w hd => ?_⟩
 rw [h.out d w hd]
 congr 1
 obtain ⟨t, i, v, n⟩ := x
 obtain ⟨t', i', v', n'⟩ := y
 simp only [Row.mk.injEq, Bool.and_true, Bool.decide_and]
 have e : ((i : Int) == (i' : Int)) = decide (i = i') := by
  by_cases h : i = i'
  ·subst h; simp
  ·rw [decide_eq_false h]; simp only [beq_eq_false_iff_ne, ne_eq]; omega
 rw [e]
 by_cases h1 : t = t' <;> by_cases h2 : i = i' <;> by_cases h3 : v = v' <;> simp [h1, h2, h3]
instance (priority := 1200) eqKid {x y : Kid} : EqC Tryz.prog 8 230 (.agg ⟨kidV x⟩) (.agg ⟨kidV y⟩) (decide (x = y)) := by
 have h : EqC Tryz.prog 8 230 (.agg ⟨[.int .i64 x.t, .int .u16 x.id, .int .i64 x.page]⟩) (.agg ⟨[.int .i64 y.t, .int .u16 y.id, .int .i64 y.page]⟩) _ := inferInstance
 refine ⟨fun d w hd => ?_⟩
 rw [h.out d w hd]
 congr 1
 obtain ⟨t, i, v⟩ := x
 obtain ⟨t', i', v'⟩ := y
 simp only [Kid.mk.injEq, Bool.and_true, Bool.decide_and]
 have e : ((i : Int) == (i' : Int)) = decide (i = i') := by
  by_cases h : i = i'
  ·subst h; simp
  ·rw [decide_eq_false h]; simp only [beq_eq_false_iff_ne, ne_eq]; omega
 rw [e]
 by_cases h1 : t = t' <;> by_cases h2 : i = i' <;> by_cases h3 : v = v' <;> simp [h1, h2, h3]
structure RowFit (r : Row) : Prop where
 id : r.id < 65536
 val : -9223372036854775808 ≤ r.val ∧ r.val ≤ 9223372036854775807
structure KidFit (k : Kid) : Prop where
 id : k.id < 65536
 t : 0 ≤ k.t ∧ k.t < 256
 page : 0 ≤ k.page ∧ k.page < 256
structure ContFit (c : Cont) : Prop where
 row : ∀ r ∈ c.rows, RowFit r
 kid : ∀ k ∈ c.kids, KidFit k
theorem Wf {c : Cont} (h : YE c = true) : (Xf c).length ≤ 82 := by
 have hF := contOk_facts h
 have h1 := Yd Yf 20 c.rows (fun x hx => rowB_le (hF.row x hx))
 have h2 := Yd Xt 4 c.kids (fun x hx => Nat.le_of_eq (kidB_len x))
 have h3 : (cntB c).length ≤ 1 := by unfold cntB; split <;> simp
 have hk := hF.kind
 have hrl := hF.rl
 have hkl := hF.kl
 simp only [Xf, List.length_cons, List.length_append]
 have er : c.rows = [] → (c.rows.flatMap Yf).length = 0 := fun e => by rw [e]; rfl
 have ek : c.kids = [] → (c.kids.flatMap Xt).length = 0 := fun e => by rw [e]; rfl
 rcases hk with ⟨_, hr, hk⟩ | ⟨_, hk⟩ | ⟨_, hr, _⟩
 ·have := er hr; have := ek hk; omega
 ·have := ek hk; omega
 ·have := er hr; omega
structure CI (ρ : Hp) (v : CV) (c : Cont) : Prop where
 cin : CIn ρ v c.rows c.kids
 row : ∀ r ∈ c.rows, RowFit r
 kid : ∀ k ∈ c.kids, k.id < 65536
theorem CI.mono {ρ ρ' v c} (h : CI ρ v c) (hle : ρ.le ρ') : CI ρ' v c := ⟨h.cin.mono hle, h.row, h.kid⟩
theorem CI.nil {ρ : Hp} : CI ρ ⟨none, 0, 0, none, 0, 0⟩ ⟨0, [], []⟩ := ⟨CIn.nil, by simp, by simp⟩
structure Im where
 page : Int
 bv : CV
 b : Cont
 av : CV
 a : Cont
abbrev imV (x : Im) : List Value := [.int .i64 x.page, .int .i64 x.b.kind, .slice x.bv.ra x.bv.rn x.bv.rc, .slice x.bv.ka x.bv.kn x.bv.kc, .int .i64 x.a.kind, .slice x.av.ra x.av.rn x.av.rc, .slice x.av.ka x.av.kn x.av.kc]
structure Im.In (ρ : Hp) (x : Im) : Prop where
 b : CI ρ x.bv x.b
 a : CI ρ x.av x.a
theorem Im.In.mono {ρ ρ' x} (h : Im.In ρ x) (hle : ρ.le ρ') : Im.In ρ' x := ⟨h.b.mono hle, h.a.mono hle⟩
abbrev Im.says (x : Im) : Int × Cont × Cont := (x.page, x.b, x.a)
structure Stp where
 kind : Int
 row : Row
 by' : Int
deriving DecidableEq
abbrev stpV (s : Stp) : List Value := [.int .i64 s.kind, .int .i64 s.row.t, .int .u16 s.row.id, .int .i64 s.row.val, strV s.row.note, .int .i64 s.by']
structure CkT where
 txn : Int
 first : Nat
 last : Nat
 undo : Nat
 state : Int
deriving DecidableEq
abbrev XU (t : CkT) : List Value := [.int .i64 t.txn, .int .u64 t.first, .int .u64 t.last, .int .u64 t.undo, .int .i64 t.state]
structure Yq where
 page : Int
 since : Nat
deriving DecidableEq
abbrev YG (p : Yq) : List Value := [.int .i64 p.page, .int .u64 p.since]
structure Rc where
 kind : Int
 lsn : Nat
 txn : Int
 prev : Nat
 next : Nat
 ims : List Im
 steps : List Stp
 nextTxn : Int
 txns : List CkT
 dirty : List Yq
structure SV where
 a : Option Addr
 n : Nat
 c : Nat
abbrev SV.v (s : SV) : Value := .slice s.a s.n s.c
structure RV where
 i : SV
 s : SV
 t : SV
 d : SV
abbrev Yx (v : RV) (r : Rc) : List Value := [.int .i64 r.kind, .int .u64 r.lsn, .int .i64 r.txn, .int .u64 r.prev, .int .u64 r.next, .slice v.i.a v.i.n v.i.c, .slice v.s.a v.s.n v.s.c, .int .i64 r.nextTxn, .slice v.t.a v.t.n v.t.c, .slice v.d.a v.d.n v.d.c]
theorem imV_len (x : Im) : (imV x).length = 7 := rfl
theorem stpV_len (x : Stp) : (stpV x).length = 6 := rfl
theorem ckTV_len (x : CkT) : (XU x).length = 5 := rfl
theorem WE (x : Yq) : (YG x).length = 2 := rfl
structure AS (ρ : Hp) (sz : Nat) {α : Type} (g : α → List Value) (s : SV) (l : List α) : Prop where
 at' : AIn ρ sz g s.a s.n l
 big : s.n ≤ 1000000
 cap : s.n ≤ s.c
theorem AS.mono {ρ ρ' : Hp} {sz : Nat} {α : Type} {g : α → List Value} {s : SV} {l : List α} (h : AS ρ sz g s l) (hle : ρ.le ρ') : AS ρ' sz g s l := ⟨h.at'.mono hle, h.big, h.cap⟩
theorem AS.nil {ρ : Hp} {sz : Nat} {α : Type} {g : α → List Value} : AS ρ sz g ⟨none, 0, 0⟩ [] := ⟨AIn.nil, Nat.zero_le _, Nat.le_refl _⟩
structure RcIn (ρ : Hp) (v : RV) (r : Rc) : Prop where
 i : AS ρ 7 imV v.i r.ims
 im : ∀ x ∈ r.ims, Im.In ρ x
 s : AS ρ 6 stpV v.s r.steps
 t : AS ρ 5 XU v.t r.txns
 d : AS ρ 2 YG v.d r.dirty
 sf : ∀ s ∈ r.steps, RowFit s.row
theorem RcIn.mono {ρ ρ' v r} (h : RcIn ρ v r) (hle : ρ.le ρ') : RcIn ρ' v r := ⟨h.i.mono hle, fun x hx => (h.im x hx).mono hle, h.s.mono hle, h.t.mono hle, h.d.mono hle, h.sf⟩
def upB {α : Type} (right : α → Bool) (by' : α → Int) (l : List α) (k : Nat) : Bool := ZC l.length (fun _ x => right x) (fun y x => decide (by' y < by' x)) l k
def Wv (n : Int) : Bool := decide (0 ≤ n ∧ n < 64)
def imOk (before : Bool) (x : Im) : Bool := Wv x.page && (YE x.a && (YE x.b && (before || decide (x.b.kind = 0))))
def imsOk (before : Bool) (l : List Im) : Bool := decide (l.length ≤ 16) && upB (imOk before) Im.page l l.length
def onlyOk (s : Stp) : Bool := decide (s.row.val = 0 ∧ s.row.note = []) && decide (0 ≤ s.row.t ∧ s.row.t < 3)
def YM (s : Stp) : Bool :=
 if s.kind = 1 then onlyOk s
 else if s.kind = 4 then onlyOk s && decide (s.by' = 0)
 else if s.kind = 2 ∨ s.kind = 3 then decide (s.by' = 0) && Xr s.row
 else false
def ckTOk (lsn : Nat) (next : Int) (t : CkT) : Bool := decide (1 ≤ t.txn ∧ t.txn < next ∧ 1 ≤ t.first ∧ t.first ≤ t.last ∧ t.last < lsn ∧ t.undo ≤ t.last ∧ 1 ≤ t.state ∧ t.state ≤ 3)
def ckPOk (lsn : Nat) (p : Yq) : Bool := Wv p.page && decide (1 ≤ p.since ∧ p.since < lsn)
def headOk (r : Rc) : Bool := decide (1 ≤ r.lsn ∧ r.lsn ≤ 1099511627776 ∧ r.prev < r.lsn ∧ 0 ≤ r.txn ∧ r.txn ≤ 1073741824 ∧ (r.kind = 9 ↔ r.txn = 0) ∧ ((r.kind = 9 ∨ r.kind = 1) ↔ r.prev = 0))
def askOk (r : Rc) : Bool :=
 if r.kind = 2 then decide (0 < r.ims.length) && imsOk true r.ims
 else if r.kind = 3 then decide (r.next < r.prev)
 else if r.kind = 4 then decide (r.next < r.prev) && (decide (0 < r.steps.length ∧ r.steps.length ≤ 2) && r.steps.all YM)
 else if r.kind = 5 then decide (r.next < r.lsn) && imsOk false r.ims
 else if r.kind = 9 then decide (1 ≤ r.nextTxn ∧ r.nextTxn ≤ 1073741824 ∧ r.txns.length ≤ 8) && (upB (ckTOk r.lsn r.nextTxn) CkT.txn r.txns r.txns.length && upB (ckPOk r.lsn) Yq.page r.dirty r.dirty.length)
 else true
def bareOk (r : Rc) : Bool := decide (
 (r.next = 0 ∨ r.kind = 3 ∨ r.kind = 4 ∨ r.kind = 5) ∧ (r.ims = [] ∨ r.kind = 2 ∨ r.kind = 5) ∧ (r.steps = [] ∨ r.kind = 4) ∧
 ((r.txns = [] ∧ r.dirty = [] ∧ r.nextTxn = 0) ∨ r.kind = 9))
def ZU (r : Rc) : Bool := decide (1 ≤ r.kind ∧ r.kind ≤ 9) && (headOk r && (askOk r && bareOk r))
end Go.Proofs.E
