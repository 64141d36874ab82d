/- The law LogNils. Part 5 of 12. -/
import Derived.Test.YtobldeddiffjgaaGreatA4
namespace Go.Proofs.E
open Go
set_option linter.unusedVariables false
set_option linter.unusedSimpArgs false
set_option linter.unusedSectionVars false
set_option maxRecDepth 4000
set_option maxHeartbeats 1000000
attribute [local irreducible] Yl TL TC TE Spec YSpec R1 Hp.le EnvLe TS TR YS Zs
structure MetOk (es : List MapEntry) (ps : List Int) : Prop where
 keys : Yq .i64 es
 get : ∀ p, YG es p = if p ∈ ps then some (.bool true) else none
theorem MetOk.nil : MetOk [] [] := ⟨by intro e he; simp at he, fun p => by simp [YG]⟩
def kidOk (i : Nat) (ps : List Int) (k : Kid) : Bool := decide (k.page ∉ ps ∧ 0 < k.page ∧ k.page < 64 ∧ (0 ≤ k.t ∧ k.t < 3) ∧ (0 < i ∨ (k.t = 0 ∧ k.id = 0)))
theorem ZH (ρ : Hp) (r : Kid) : Spec Tryz.prog 227 [.agg ⟨kidV r⟩] ρ [] (fun v ρ' L' => v = .agg ⟨keyV r.t r.id⟩ ∧ ρ' = ρ ∧ L' = []) := by
 refine Zd Tryz.func227 rfl rfl rfl fun u R => ?_
 simp only [Zo, List.cons_append, List.nil_append]
 repeat' (first | (refine Zg ?_; first | (refine Zf ?_; refine qQ ?_) | refine Zn ?_) | refine Za ?_ | (refine Zh ?_; refine Zu ?_) | (refine Zi ?_; refine Zv ?_) | intro _)
 exact qE ⟨rfl, rfl, rfl⟩
abbrev metL (bx mb : Nat) (es : List MapEntry) (ck : Nat) : SH := [[(bx, .cells ⟨[.map (some mb)]⟩ 69 (0, 0))], [(mb, .map ⟨es⟩ ck)]]
theorem Yp (ρ : Hp) (bx mb : Nat) (es : List MapEntry) (ck : Nat) (ps : List Int) (hm : MetOk es ps) (i : Nat) (k : Kid) : Spec Tryz.prog 228 [.int .i64 i, .agg ⟨kidV k⟩, .pointer (some ⟨bx, 0, none⟩)] ρ (metL bx mb es ck)
  (fun v ρ' L' => v = .bool (kidOk i ps k) ∧ ρ' = ρ ∧ ∃ es' ck', MetOk es' (k.page :: ps) ∧ L' = metL bx mb es' ck') := by
 obtain ⟨t, id, page⟩ := k
 have hes := hm.keys
 have hg := hm.get page
 dsimp only at hg ⊢
 generalize hq : kidOk i ps ⟨t, id, page⟩ = q
 have hfin : ∀ es', Yq .i64 es' → (∀ j, YG es' j = if j = page then some (.bool true) else YG es j) → MetOk es' (page :: ps) := fun es' h1 h2 => ⟨h1, fun p => by
  rw [h2 p, hm.get p]
  by_cases e : p = page <;> simp [e]⟩
 refine Zd Tryz.func228 rfl rfl rfl fun u R => ?_
 simp only [Zo, List.cons_append, List.nil_append]
 by_cases hp : page ∈ ps
 ·rw [if_pos hp] at hg
  have hq' : q = false := by rw [← hq]; exact decide_eq_false (fun h => h.1 hp)
  subst hq'
  repeat' (first | (refine YV rfl rfl rfl hes (fun es' ck' h1 h2 => ?_)) | (refine Zg ?_; first | (refine Zf ?_; refine qQ ?_) | refine Zn ?_) | refine Za ?_ | (refine Zh ?_; refine Zu ?_) | (refine Zi ?_; refine Zv ?_) | intro _)
  exact qE ⟨rfl, rfl, es', ck', hfin es' h1 h2, rfl⟩
 ·rw [if_neg hp] at hg
  by_cases hp0 : 0 < page
  ·by_cases hp6 : page < 64
   ·by_cases ht : 0 ≤ t ∧ t < 3
    ·have hd : decide (0 ≤ t ∧ t < 3) = true := decide_eq_true ht
     by_cases hi : 0 < i
     ·have hq' : q = true := by rw [← hq]; exact decide_eq_true ⟨hp, hp0, hp6, ht, .inl hi⟩
      subst hq'
      repeat' (first | (refine YV rfl rfl rfl hes (fun es' ck' h1 h2 => ?_)) | (refine Ze (.func 229) ?_; refine qC rfl rfl (XL _ _) ?_; rintro v ρ' L' hle ⟨rfl, rfl, rfl⟩ <;> (try simp only [kM, kN, kO, hd])) | (refine Zg ?_; first | (refine Zf ?_; refine qQ ?_) | refine Zn ?_) | refine Za ?_ | (refine Zh ?_; refine Zu ?_) | (refine Zi ?_; refine Zv ?_) | intro _)
      exact qE ⟨rfl, rfl, es', ck', hfin es' h1 h2, rfl⟩
     ·by_cases hz : t = 0 ∧ id = 0
      ·have hq' : q = true := by rw [← hq]; exact decide_eq_true ⟨hp, hp0, hp6, ht, .inr hz⟩
       subst hq'
       obtain ⟨rfl, rfl⟩ := hz
       repeat' (first | (refine YV rfl rfl rfl hes (fun es' ck' h1 h2 => ?_)) | (refine Ze (.func 229) ?_; refine qC rfl rfl (XL _ _) ?_; rintro v ρ' L' hle ⟨rfl, rfl, rfl⟩ <;> (try simp only [kM, kN, kO, hd])) | (refine Zg ?_; first | (refine Zf ?_; refine qQ ?_) | refine Zn ?_) | refine Za ?_ | (refine Zh ?_; refine Zu ?_) | (refine Zi ?_; refine Zv ?_) | intro _)
       exact qE ⟨rfl, rfl, es', ck', hfin es' h1 h2, rfl⟩
      ·have hq' : q = false := by rw [← hq]; exact decide_eq_false (fun h => h.2.2.2.2.elim hi hz)
       subst hq'
       have hk : ((t == 0) && (((id : Int) == 0) && true)) = false := by
        simp; intro h; exact fun h' => hz ⟨h, by omega⟩
       repeat' (first | (refine YV rfl rfl rfl hes (fun es' ck' h1 h2 => ?_)) | (refine Ze (.func 229) ?_; refine qC rfl rfl (XL _ _) ?_; rintro v ρ' L' hle ⟨rfl, rfl, rfl⟩ <;> (try simp only [kM, kN, kO, hd])) | (refine Zg ?_; first | (refine Zf ?_; refine qQ ?_) | refine Zn ?_) | refine Za ?_ | (refine Zh ?_; refine Zu ?_) | (refine Zi ?_; refine Zv ?_) | intro _)
       exact qE ⟨by first | rfl | exact congrArg Value.bool hk, rfl, es', ck', hfin es' h1 h2, rfl⟩
    ·have hd : decide (0 ≤ t ∧ t < 3) = false := decide_eq_false ht
     have hq' : q = false := by rw [← hq]; exact decide_eq_false (fun h => ht h.2.2.2.1)
     subst hq'
     repeat' (first | (refine YV rfl rfl rfl hes (fun es' ck' h1 h2 => ?_)) | (refine Ze (.func 229) ?_; refine qC rfl rfl (XL _ _) ?_; rintro v ρ' L' hle ⟨rfl, rfl, rfl⟩ <;> (try simp only [kM, kN, kO, hd])) | (refine Zg ?_; first | (refine Zf ?_; refine qQ ?_) | refine Zn ?_) | refine Za ?_ | (refine Zh ?_; refine Zu ?_) | (refine Zi ?_; refine Zv ?_) | intro _)
     exact qE ⟨rfl, rfl, es', ck', hfin es' h1 h2, rfl⟩
   ·have hq' : q = false := by rw [← hq]; exact decide_eq_false (fun h => hp6 h.2.2.1)
    subst hq'
    repeat' (first | (refine YV rfl rfl rfl hes (fun es' ck' h1 h2 => ?_)) | (refine Zg ?_; first | (refine Zf ?_; refine qQ ?_) | refine Zn ?_) | refine Za ?_ | (refine Zh ?_; refine Zu ?_) | (refine Zi ?_; refine Zv ?_) | intro _)
    exact qE ⟨rfl, rfl, es', ck', hfin es' h1 h2, rfl⟩
  ·have hq' : q = false := by rw [← hq]; exact decide_eq_false (fun h => hp0 h.2.1)
   subst hq'
   repeat' (first | (refine YV rfl rfl rfl hes (fun es' ck' h1 h2 => ?_)) | (refine Zg ?_; first | (refine Zf ?_; refine qQ ?_) | refine Zn ?_) | refine Za ?_ | (refine Zh ?_; refine Zu ?_) | (refine Zi ?_; refine Zv ?_) | intro _)
   exact qE ⟨rfl, rfl, es', ck', hfin es' h1 h2, rfl⟩
def psTo (l : List Kid) (k : Nat) : List Int := ((l.take k).map Kid.page).reverse
theorem psTo_succ {l : List Kid} {k : Nat} (h : k < l.length) : psTo l (k + 1) = l[k].page :: psTo l k := by
 unfold psTo; rw [List.take_succ_eq_append_getElem h, List.map_append, List.reverse_append]; rfl
def ltK (y x : Kid) : Bool := decide (cmpK y.t y.id x.t x.id < 0)
def kidsOk (l : List Kid) : Bool := ZN 4 (fun i k => kidOk i (psTo l i) k) ltK l l.length
theorem risesKid_spec (ρ : Hp) (a : Option Addr) (n c : Nat) (l : List Kid) (h : AIn ρ 3 kidV a n l) (hn : n ≤ 1000000) (bx mb ck0 : Nat) :
  Spec Tryz.prog 226 [.slice a n c, .int .i64 4, .func (.func 227) ⟨[]⟩ ⟨[]⟩, .func (.func 228) ⟨[]⟩ ⟨[.pointer (some ⟨bx, 0, none⟩)]⟩] ρ (metL bx mb [] ck0) (fun v ρ' L' => v = .bool (kidsOk l) ∧ ρ' = ρ ∧ L' = []) := by
 have hl := h.len
 unfold kidsOk
 rw [hl]
 refine Zd Tryz.func226 rfl rfl rfl fun u R => ?_
 simp only [Zo, List.cons_append, List.nil_append]
 generalize hr : (fun (i : Nat) (k : Kid) => kidOk i (psTo l i) k) = rt
 repeat' (first | (refine Zg ?_; first | (refine Zf ?_; refine qQ ?_) | refine Zn ?_) | refine Za ?_ | (refine Zh ?_; refine Zu ?_) | (refine Zi ?_; refine Zv ?_) | intro _)
 have e0 : decide ((n : Int) ≤ 4) = ZN 4 rt ltK l 0 := by
  rw [ZN]; simp [hl]; omega
 rw [e0]
 refine ZP [(0, _), (2, _), (3, _), (8, _), (16, _), (17, _)] (fun (ζ : (Nat) × (List MapEntry) × (Nat)) => [(18, .int .i64 ζ.1), (9, .bool (ZN 4 rt ltK l ζ.1))]) (fun (ζ : (Nat) × (List MapEntry) × (Nat)) => ρ) (fun (ζ : (Nat) × (List MapEntry) × (Nat)) => metL bx mb ζ.2.1 ζ.2.2) (fun (ζ : (Nat) × (List MapEntry) × (Nat)) => ζ.1 ≤ n ∧ MetOk ζ.2.1 (psTo l ζ.1)) (fun (ζ : (Nat) × (List MapEntry) × (Nat)) => n - ζ.1) ((0, [], ck0)) (⟨Nat.zero_le _, MetOk.nil⟩) Zw Zw rfl tk ?_
 rintro ⟨k, es, ck⟩ hI
 try simp only [List.cons_append, List.nil_append, List.append_assoc, List.append_eq] at hI ⊢
 try dsimp only at hI ⊢
 obtain ⟨hI, hm⟩ := hI
 by_cases hlt : k < n
 ·obtain ⟨b, off, C, T, fr, rfl, hb, hfit, hc⟩ := h.get (show k < l.length by omega)
  have hs := XP (most := 4) (right := rt) (lt := ltK) (show k < l.length by omega)
  have hfin := fun (e : ZN 4 rt ltK l (k + 1) = false) => XB e (show k + 1 ≤ n by omega)
  have hps := psTo_succ (show k < l.length by omega)
  have hrk : rt k l[k] = kidOk k (psTo l k) l[k] := by rw [← hr]
  cases hok : ZN 4 rt ltK l k
  ·rw [hok, Bool.false_and] at hs
   rw [hfin hs]
   generalize l[k] = x at *
   repeat' (first | (refine Zg ?_; first | (refine Zf ?_; refine qQ ?_) | refine Zn ?_) | refine Za ?_ | (refine Zh ?_; refine Zu ?_) | (refine Zi ?_; refine Zv ?_) | intro _)
   rename_i b11
   refine ZF (Zs _ _ ([[(b11, .cells ⟨kidV x⟩ 149 (0, 0))]])) (ZC (hT := tk) (Hp.le_refl _)) ?_
   all_goals (refine rMv 0 ?_; refine rMv 1 ?_; (first | refine Zc 2 ?_ | refine Zb 2 ?_ | refine wMv 2 ?_); (first | refine Zc 3 ?_ | refine Zb 3 ?_ | refine wMv 3 ?_); (first | refine Zc 4 ?_ | refine Zb 4 ?_ | refine wLd 4 ?_))
   all_goals (first | refine Zc 5 ?_ | refine Zb 5 ?_ | (refine Zr (i := 5) ?_; ((try refine Zp ?_); (first | (refine Zn ?_; try intro _)) <;> ((try simp only [kM, kN, kO]); refine Za ?_; refine Zq ?_))))
   all_goals (refine rPk 6 ?_; refine rMv 7 ?_; (first | refine Zc 8 ?_ | refine Zb 8 ?_ | refine wMv 8 ?_); (first | refine Zc 9 ?_ | refine Zb 9 ?_ | refine wCm 9 ?_); (first | refine Zc 10 ?_ | refine Zb 10 ?_ | refine wMv 10 ?_); (first | refine Zc 11 ?_ | refine Zb 11 ?_ | refine wMv 11 ?_); (first | refine Zc 12 ?_ | refine Zb 12 ?_ | refine wMv 12 ?_); (first | refine Zc 13 ?_ | refine Zb 13 ?_ | refine wMv 13 ?_); (first | refine Zc 14 ?_ | refine Zb 14 ?_ | refine wSb 14 ?_); (first | refine Zc 15 ?_ | refine Zb 15 ?_ | refine wIa 15 ?_); (first | refine Zc 16 ?_ | refine Zb 16 ?_ | refine wLd 16 ?_); (first | refine Zc 18 ?_ | refine Zb 18 ?_ | refine wMv 18 ?_); (first | refine Zc 19 ?_ | refine Zb 19 ?_ | refine wLd 19 ?_))
   all_goals (first | refine Zc 17 ?_ | refine Zb 17 ?_ | (refine Zr (i := 17) ?_; ((try refine Zp ?_); (first | (refine Zn ?_; try intro _)) <;> ((try simp only [kM, kN, kO]); refine Za ?_; refine Zq ?_))))
   all_goals (first | refine Zc 20 ?_ | refine Zb 20 ?_ | (refine Zr (i := 20) ?_; ((try refine Zp ?_); (first | (refine Zn ?_; try intro _)) <;> ((try simp only [kM, kN, kO]); refine Za ?_; refine Zq ?_))))
   all_goals (first | refine Zc 21 ?_ | refine Zb 21 ?_ | (refine Zr (i := 21) ?_; ((try refine Zp ?_); (first | (refine Zn ?_; try intro _)) <;> ((try simp only [kM, kN, kO]); refine Za ?_; refine Zq ?_))))
   all_goals (refine Ya ?_; (first | refine Zc 22 ?_ | refine Zb 22 ?_ | refine wCm 22 ?_); (first | refine Zc 23 ?_ | refine Zb 23 ?_ | refine wPk 23 ?_); refine rPk 24 ?_; refine rAs 25 ?_; refine ZO ?_)
   repeat' (first | (refine Zg ?_; first | (refine Zf ?_; refine qQ ?_) | refine Zn ?_) | refine Za ?_ | (refine Zh ?_; refine Zu ?_) | (refine Zi ?_; refine Zv ?_) | intro _)
   exact qE ⟨rfl, rfl, rfl⟩
  ·rw [hok, Bool.true_and, hrk] at hs
   cases hx : kidOk k (psTo l k) l[k]
   ·rw [hx, Bool.false_and] at hs
    rw [hfin hs]
    generalize l[k] = x at *
    repeat' (first | (refine Zg ?_; first | (refine Zf ?_; refine qQ ?_) | refine Zn ?_) | refine Za ?_ | (refine Zh ?_; refine Zu ?_) | (refine Zi ?_; refine Zv ?_) | intro _)
    rename_i b11
    refine ZF (Zs _ _ ([[(b11, .cells ⟨kidV x⟩ 149 (0, 0))]])) (ZC (hT := tk) (Hp.le_refl _)) ?_
    all_goals (refine rMv 0 ?_; refine rMv 1 ?_; (first | refine Zc 2 ?_ | refine Zb 2 ?_ | refine wMv 2 ?_); (first | refine Zc 3 ?_ | refine Zb 3 ?_ | refine wMv 3 ?_); (first | refine Zc 4 ?_ | refine Zb 4 ?_ | refine wLd 4 ?_))
    all_goals (first | refine Zc 5 ?_ | refine Zb 5 ?_ | (refine Zr (i := 5) ?_; ((try refine Zp ?_); (first | (refine Ze (.tmp 25) ?_; refine qC rfl rfl (Yp _ bx mb es ck _ hm k x) ?_; rintro v ρ' L' hle ⟨rfl, rfl, es', ck', hm', rfl⟩ <;> (try simp only [kM, kN, kO, hx])) | (refine Ze (.tmp 34) ?_; refine qC rfl rfl (ZH _ _) ?_; rintro v ρ' L' hle ⟨rfl, rfl, rfl⟩ <;> (try simp only [kM, kN, kO])) | (refine Ze (.tmp 41) ?_; refine qC rfl rfl (ZH _ _) ?_; rintro v ρ' L' hle ⟨rfl, rfl, rfl⟩ <;> (try simp only [kM, kN, kO])) | (refine Zn ?_; try intro _)) <;> ((try simp only [kM, kN, kO]); refine Za ?_; refine Zq ?_))))
    all_goals (refine rPk 6 ?_; refine rMv 7 ?_; (first | refine Zc 8 ?_ | refine Zb 8 ?_ | refine wMv 8 ?_); (first | refine Zc 9 ?_ | refine Zb 9 ?_ | refine wCm 9 ?_); (first | refine Zc 10 ?_ | refine Zb 10 ?_ | refine wMv 10 ?_); (first | refine Zc 11 ?_ | refine Zb 11 ?_ | refine wMv 11 ?_); (first | refine Zc 12 ?_ | refine Zb 12 ?_ | refine wMv 12 ?_); (first | refine Zc 13 ?_ | refine Zb 13 ?_ | refine wMv 13 ?_); (first | refine Zc 14 ?_ | refine Zb 14 ?_ | refine wSb 14 ?_); (first | refine Zc 15 ?_ | refine Zb 15 ?_ | refine wIa 15 ?_); (first | refine Zc 16 ?_ | refine Zb 16 ?_ | refine wLd 16 ?_); (first | refine Zc 18 ?_ | refine Zb 18 ?_ | refine wMv 18 ?_); (first | refine Zc 19 ?_ | refine Zb 19 ?_ | refine wLd 19 ?_))
    all_goals (first | refine Zc 17 ?_ | refine Zb 17 ?_ | (refine Zr (i := 17) ?_; ((try refine Zp ?_); (first | (refine Ze (.tmp 25) ?_; refine qC rfl rfl (Yp _ bx mb es ck _ hm k x) ?_; rintro v ρ' L' hle ⟨rfl, rfl, es', ck', hm', rfl⟩ <;> (try simp only [kM, kN, kO, hx])) | (refine Ze (.tmp 34) ?_; refine qC rfl rfl (ZH _ _) ?_; rintro v ρ' L' hle ⟨rfl, rfl, rfl⟩ <;> (try simp only [kM, kN, kO])) | (refine Ze (.tmp 41) ?_; refine qC rfl rfl (ZH _ _) ?_; rintro v ρ' L' hle ⟨rfl, rfl, rfl⟩ <;> (try simp only [kM, kN, kO])) | (refine Zn ?_; try intro _)) <;> ((try simp only [kM, kN, kO]); refine Za ?_; refine Zq ?_))))
    all_goals (first | refine Zc 20 ?_ | refine Zb 20 ?_ | (refine Zr (i := 20) ?_; ((try refine Zp ?_); (first | (refine Ze (.tmp 25) ?_; refine qC rfl rfl (Yp _ bx mb es ck _ hm k x) ?_; rintro v ρ' L' hle ⟨rfl, rfl, es', ck', hm', rfl⟩ <;> (try simp only [kM, kN, kO, hx])) | (refine Ze (.tmp 34) ?_; refine qC rfl rfl (ZH _ _) ?_; rintro v ρ' L' hle ⟨rfl, rfl, rfl⟩ <;> (try simp only [kM, kN, kO])) | (refine Ze (.tmp 41) ?_; refine qC rfl rfl (ZH _ _) ?_; rintro v ρ' L' hle ⟨rfl, rfl, rfl⟩ <;> (try simp only [kM, kN, kO])) | (refine Zn ?_; try intro _)) <;> ((try simp only [kM, kN, kO]); refine Za ?_; refine Zq ?_))))
    all_goals (first | refine Zc 21 ?_ | refine Zb 21 ?_ | (refine Zr (i := 21) ?_; ((try refine Zp ?_); (first | (refine Ze (.func 252) ?_; refine qC rfl rfl (YO _ _ _ _ _) ?_; rintro v ρ' L' hle ⟨rfl, rfl, rfl⟩ <;> (try simp only [kM, kN, kO])) | (refine Zn ?_; try intro _)) <;> ((try simp only [kM, kN, kO]); refine Za ?_; refine Zq ?_))))
    all_goals (refine Ya ?_; (first | refine Zc 22 ?_ | refine Zb 22 ?_ | refine wCm 22 ?_); (first | refine Zc 23 ?_ | refine Zb 23 ?_ | refine wPk 23 ?_); refine rPk 24 ?_; refine rAs 25 ?_; refine ZO ?_)
    repeat' (first | (refine Zg ?_; first | (refine Zf ?_; refine qQ ?_) | refine Zn ?_) | refine Za ?_ | (refine Zh ?_; refine Zu ?_) | (refine Zi ?_; refine Zv ?_) | intro _)
    exact qE ⟨rfl, rfl, rfl⟩
   ·rw [hx, Bool.true_and] at hs
    by_cases hk0 : k = 0
    ·have hs' : ZN 4 rt ltK l (k + 1) = true := by rw [hs]; simp [hk0]
     generalize l[k] = x at *
     repeat' (first | (refine Zg ?_; first | (refine Zf ?_; refine qQ ?_) | refine Zn ?_) | refine Za ?_ | (refine Zh ?_; refine Zu ?_) | (refine Zi ?_; refine Zv ?_) | intro _)
     rename_i b11
     refine ZF (Zs _ _ ([[(b11, .cells ⟨kidV x⟩ 149 (0, 0))]])) (ZC (hT := tk) (Hp.le_refl _)) ?_
     all_goals (refine rMv 0 ?_; refine rMv 1 ?_; (first | refine Zc 2 ?_ | refine Zb 2 ?_ | refine wMv 2 ?_); (first | refine Zc 3 ?_ | refine Zb 3 ?_ | refine wMv 3 ?_); (first | refine Zc 4 ?_ | refine Zb 4 ?_ | refine wLd 4 ?_))
     all_goals (first | refine Zc 5 ?_ | refine Zb 5 ?_ | (refine Zr (i := 5) ?_; ((try refine Zp ?_); (first | (refine Ze (.tmp 25) ?_; refine qC rfl rfl (Yp _ bx mb es ck _ hm k x) ?_; rintro v ρ' L' hle ⟨rfl, rfl, es', ck', hm', rfl⟩ <;> (try simp only [kM, kN, kO, hx])) | (refine Ze (.tmp 34) ?_; refine qC rfl rfl (ZH _ _) ?_; rintro v ρ' L' hle ⟨rfl, rfl, rfl⟩ <;> (try simp only [kM, kN, kO])) | (refine Ze (.tmp 41) ?_; refine qC rfl rfl (ZH _ _) ?_; rintro v ρ' L' hle ⟨rfl, rfl, rfl⟩ <;> (try simp only [kM, kN, kO])) | (refine Zn ?_; try intro _)) <;> ((try simp only [kM, kN, kO]); refine Za ?_; refine Zq ?_))))
     all_goals (refine rPk 6 ?_; refine rMv 7 ?_; (first | refine Zc 8 ?_ | refine Zb 8 ?_ | refine wMv 8 ?_); (first | refine Zc 9 ?_ | refine Zb 9 ?_ | refine wCm 9 ?_); (first | refine Zc 10 ?_ | refine Zb 10 ?_ | refine wMv 10 ?_); (first | refine Zc 11 ?_ | refine Zb 11 ?_ | refine wMv 11 ?_); (first | refine Zc 12 ?_ | refine Zb 12 ?_ | refine wMv 12 ?_); (first | refine Zc 13 ?_ | refine Zb 13 ?_ | refine wMv 13 ?_); (first | refine Zc 14 ?_ | refine Zb 14 ?_ | refine wSb 14 ?_); (first | refine Zc 15 ?_ | refine Zb 15 ?_ | refine wIa 15 ?_); (first | refine Zc 16 ?_ | refine Zb 16 ?_ | refine wLd 16 ?_); (first | refine Zc 18 ?_ | refine Zb 18 ?_ | refine wMv 18 ?_); (first | refine Zc 19 ?_ | refine Zb 19 ?_ | refine wLd 19 ?_))
     all_goals (first | refine Zc 17 ?_ | refine Zb 17 ?_ | (refine Zr (i := 17) ?_; ((try refine Zp ?_); (first | (refine Ze (.tmp 25) ?_; refine qC rfl rfl (Yp _ bx mb es ck _ hm k x) ?_; rintro v ρ' L' hle ⟨rfl, rfl, es', ck', hm', rfl⟩ <;> (try simp only [kM, kN, kO, hx])) | (refine Ze (.tmp 34) ?_; refine qC rfl rfl (ZH _ _) ?_; rintro v ρ' L' hle ⟨rfl, rfl, rfl⟩ <;> (try simp only [kM, kN, kO])) | (refine Ze (.tmp 41) ?_; refine qC rfl rfl (ZH _ _) ?_; rintro v ρ' L' hle ⟨rfl, rfl, rfl⟩ <;> (try simp only [kM, kN, kO])) | (refine Zn ?_; try intro _)) <;> ((try simp only [kM, kN, kO]); refine Za ?_; refine Zq ?_))))
     all_goals (first | refine Zc 20 ?_ | refine Zb 20 ?_ | (refine Zr (i := 20) ?_; ((try refine Zp ?_); (first | (refine Ze (.tmp 25) ?_; refine qC rfl rfl (Yp _ bx mb es ck _ hm k x) ?_; rintro v ρ' L' hle ⟨rfl, rfl, es', ck', hm', rfl⟩ <;> (try simp only [kM, kN, kO, hx])) | (refine Ze (.tmp 34) ?_; refine qC rfl rfl (ZH _ _) ?_; rintro v ρ' L' hle ⟨rfl, rfl, rfl⟩ <;> (try simp only [kM, kN, kO])) | (refine Ze (.tmp 41) ?_; refine qC rfl rfl (ZH _ _) ?_; rintro v ρ' L' hle ⟨rfl, rfl, rfl⟩ <;> (try simp only [kM, kN, kO])) | (refine Zn ?_; try intro _)) <;> ((try simp only [kM, kN, kO]); refine Za ?_; refine Zq ?_))))
     all_goals (first | refine Zc 21 ?_ | refine Zb 21 ?_ | (refine Zr (i := 21) ?_; ((try refine Zp ?_); (first | (refine Ze (.func 252) ?_; refine qC rfl rfl (YO _ _ _ _ _) ?_; rintro v ρ' L' hle ⟨rfl, rfl, rfl⟩ <;> (try simp only [kM, kN, kO])) | (refine Zn ?_; try intro _)) <;> ((try simp only [kM, kN, kO]); refine Za ?_; refine Zq ?_))))
     all_goals (refine Ya ?_; (first | refine Zc 22 ?_ | refine Zb 22 ?_ | refine wCm 22 ?_); (first | refine Zc 23 ?_ | refine Zb 23 ?_ | refine wPk 23 ?_); refine rPk 24 ?_; refine rAs 25 ?_; refine ZO ?_)
     repeat' (first | (refine Zg ?_; first | (refine Zf ?_; refine qQ ?_) | refine Zn ?_) | refine Za ?_ | (refine Zh ?_; refine Zu ?_) | (refine Zi ?_; refine Zv ?_) | intro _)
     rw [← hs']
     refine ZB (k + 1, es', ck') (⟨hlt, by dsimp only; rw [hps]; exact hm'⟩) Zw Zw rfl tk inferInstance (by first | omega | (dsimp only; omega))
    ·have hd : decide (k = 0) = false := decide_eq_false hk0
     obtain ⟨b2, off2, C2, T2, fr2, f1, hb2, hfit2, hc2⟩ := h.get (show k - 1 < l.length by omega)
     cases f1
     rw [hb] at hb2
     cases hb2
     have ek : ((k : Int) - 1).toNat = k - 1 := by omega
     rw [← ek] at hfit2
     have hc3 : List.take 3 (List.drop (off + ((k : Int) - 1).toNat * 3) C) = kidV (l[k - 1]'(by omega)) := by rw [ek]; exact hc2
     clear hc2
     rw [hd, Bool.false_or] at hs
     generalize l[k] = x at *
     generalize l[k - 1]'(by omega) = y at *
     unfold ltK at hs
     by_cases hcm : cmpK y.t y.id x.t x.id < 0
     ·rw [decide_eq_true hcm] at hs
      repeat' (first | (refine Zg ?_; first | (refine Zf ?_; refine qQ ?_) | refine Zn ?_) | refine Za ?_ | (refine Zh ?_; refine Zu ?_) | (refine Zi ?_; refine Zv ?_) | intro _)
      rename_i b11
      refine ZF (Zs _ _ ([[(b11, .cells ⟨kidV x⟩ 149 (0, 0))]])) (ZC (hT := tk) (Hp.le_refl _)) ?_
      all_goals (refine rMv 0 ?_; refine rMv 1 ?_; (first | refine Zc 2 ?_ | refine Zb 2 ?_ | refine wMv 2 ?_); (first | refine Zc 3 ?_ | refine Zb 3 ?_ | refine wMv 3 ?_); (first | refine Zc 4 ?_ | refine Zb 4 ?_ | refine wLd 4 ?_))
      all_goals (first | refine Zc 5 ?_ | refine Zb 5 ?_ | (refine Zr (i := 5) ?_; ((try refine Zp ?_); (first | (refine Ze (.tmp 25) ?_; refine qC rfl rfl (Yp _ bx mb es ck _ hm k x) ?_; rintro v ρ' L' hle ⟨rfl, rfl, es', ck', hm', rfl⟩ <;> (try simp only [kM, kN, kO, hx])) | (refine Ze (.tmp 34) ?_; refine qC rfl rfl (ZH _ _) ?_; rintro v ρ' L' hle ⟨rfl, rfl, rfl⟩ <;> (try simp only [kM, kN, kO])) | (refine Ze (.tmp 41) ?_; refine qC rfl rfl (ZH _ _) ?_; rintro v ρ' L' hle ⟨rfl, rfl, rfl⟩ <;> (try simp only [kM, kN, kO])) | (refine Zn ?_; try intro _)) <;> ((try simp only [kM, kN, kO]); refine Za ?_; refine Zq ?_))))
      all_goals (refine rPk 6 ?_; refine rMv 7 ?_; (first | refine Zc 8 ?_ | refine Zb 8 ?_ | refine wMv 8 ?_); (first | refine Zc 9 ?_ | refine Zb 9 ?_ | refine wCm 9 ?_); (first | refine Zc 10 ?_ | refine Zb 10 ?_ | refine wMv 10 ?_); (first | refine Zc 11 ?_ | refine Zb 11 ?_ | refine wMv 11 ?_); (first | refine Zc 12 ?_ | refine Zb 12 ?_ | refine wMv 12 ?_); (first | refine Zc 13 ?_ | refine Zb 13 ?_ | refine wMv 13 ?_); (first | refine Zc 14 ?_ | refine Zb 14 ?_ | refine wSb 14 ?_); (first | refine Zc 15 ?_ | refine Zb 15 ?_ | refine wIa 15 ?_); (first | refine Zc 16 ?_ | refine Zb 16 ?_ | refine wLd 16 ?_); (first | refine Zc 18 ?_ | refine Zb 18 ?_ | refine wMv 18 ?_); (first | refine Zc 19 ?_ | refine Zb 19 ?_ | refine wLd 19 ?_))
      all_goals (first | refine Zc 17 ?_ | refine Zb 17 ?_ | (refine Zr (i := 17) ?_; ((try refine Zp ?_); (first | (refine Ze (.tmp 25) ?_; refine qC rfl rfl (Yp _ bx mb es ck _ hm k x) ?_; rintro v ρ' L' hle ⟨rfl, rfl, es', ck', hm', rfl⟩ <;> (try simp only [kM, kN, kO, hx])) | (refine Ze (.tmp 34) ?_; refine qC rfl rfl (ZH _ _) ?_; rintro v ρ' L' hle ⟨rfl, rfl, rfl⟩ <;> (try simp only [kM, kN, kO])) | (refine Ze (.tmp 41) ?_; refine qC rfl rfl (ZH _ _) ?_; rintro v ρ' L' hle ⟨rfl, rfl, rfl⟩ <;> (try simp only [kM, kN, kO])) | (refine Zn ?_; try intro _)) <;> ((try simp only [kM, kN, kO]); refine Za ?_; refine Zq ?_))))
      all_goals (first | refine Zc 20 ?_ | refine Zb 20 ?_ | (refine Zr (i := 20) ?_; ((try refine Zp ?_); (first | (refine Ze (.tmp 25) ?_; refine qC rfl rfl (Yp _ bx mb es ck _ hm k x) ?_; rintro v ρ' L' hle ⟨rfl, rfl, es', ck', hm', rfl⟩ <;> (try simp only [kM, kN, kO, hx])) | (refine Ze (.tmp 34) ?_; refine qC rfl rfl (ZH _ _) ?_; rintro v ρ' L' hle ⟨rfl, rfl, rfl⟩ <;> (try simp only [kM, kN, kO])) | (refine Ze (.tmp 41) ?_; refine qC rfl rfl (ZH _ _) ?_; rintro v ρ' L' hle ⟨rfl, rfl, rfl⟩ <;> (try simp only [kM, kN, kO])) | (refine Zn ?_; try intro _)) <;> ((try simp only [kM, kN, kO]); refine Za ?_; refine Zq ?_))))
      all_goals (first | refine Zc 21 ?_ | refine Zb 21 ?_ | (refine Zr (i := 21) ?_; ((try refine Zp ?_); (first | (refine Ze (.func 252) ?_; refine qC rfl rfl (YO _ _ _ _ _) ?_; rintro v ρ' L' hle ⟨rfl, rfl, rfl⟩ <;> (try simp only [kM, kN, kO])) | (refine Zn ?_; try intro _)) <;> ((try simp only [kM, kN, kO]); refine Za ?_; refine Zq ?_))))
      all_goals (refine Ya ?_; (first | refine Zc 22 ?_ | refine Zb 22 ?_ | refine wCm 22 ?_); (first | refine Zc 23 ?_ | refine Zb 23 ?_ | refine wPk 23 ?_); refine rPk 24 ?_; refine rAs 25 ?_; refine ZO ?_)
      all_goals (repeat' (first | (refine Zg ?_; first | (refine Zf ?_; refine qQ ?_) | refine Zn ?_) | refine Za ?_ | (refine Zh ?_; refine Zu ?_) | (refine Zi ?_; refine Zv ?_) | intro _))
      all_goals rw [← show ZN 4 rt ltK l (k + 1) = true from hs]
      all_goals refine ZB (k + 1, es', ck') (⟨hlt, by dsimp only; rw [hps]; exact hm'⟩) Zw Zw rfl tk inferInstance (by first | omega | (dsimp only; omega))
     ·rw [decide_eq_false hcm] at hs
      rw [hfin hs]
      repeat' (first | (refine Zg ?_; first | (refine Zf ?_; refine qQ ?_) | refine Zn ?_) | refine Za ?_ | (refine Zh ?_; refine Zu ?_) | (refine Zi ?_; refine Zv ?_) | intro _)
      rename_i b11
      refine ZF (Zs _ _ ([[(b11, .cells ⟨kidV x⟩ 149 (0, 0))]])) (ZC (hT := tk) (Hp.le_refl _)) ?_
      all_goals (refine rMv 0 ?_; refine rMv 1 ?_; (first | refine Zc 2 ?_ | refine Zb 2 ?_ | refine wMv 2 ?_); (first | refine Zc 3 ?_ | refine Zb 3 ?_ | refine wMv 3 ?_); (first | refine Zc 4 ?_ | refine Zb 4 ?_ | refine wLd 4 ?_))
      all_goals (first | refine Zc 5 ?_ | refine Zb 5 ?_ | (refine Zr (i := 5) ?_; ((try refine Zp ?_); (first | (refine Ze (.tmp 25) ?_; refine qC rfl rfl (Yp _ bx mb es ck _ hm k x) ?_; rintro v ρ' L' hle ⟨rfl, rfl, es', ck', hm', rfl⟩ <;> (try simp only [kM, kN, kO, hx])) | (refine Ze (.tmp 34) ?_; refine qC rfl rfl (ZH _ _) ?_; rintro v ρ' L' hle ⟨rfl, rfl, rfl⟩ <;> (try simp only [kM, kN, kO])) | (refine Ze (.tmp 41) ?_; refine qC rfl rfl (ZH _ _) ?_; rintro v ρ' L' hle ⟨rfl, rfl, rfl⟩ <;> (try simp only [kM, kN, kO])) | (refine Zn ?_; try intro _)) <;> ((try simp only [kM, kN, kO]); refine Za ?_; refine Zq ?_))))
      all_goals (refine rPk 6 ?_; refine rMv 7 ?_; (first | refine Zc 8 ?_ | refine Zb 8 ?_ | refine wMv 8 ?_); (first | refine Zc 9 ?_ | refine Zb 9 ?_ | refine wCm 9 ?_); (first | refine Zc 10 ?_ | refine Zb 10 ?_ | refine wMv 10 ?_); (first | refine Zc 11 ?_ | refine Zb 11 ?_ | refine wMv 11 ?_); (first | refine Zc 12 ?_ | refine Zb 12 ?_ | refine wMv 12 ?_); (first | refine Zc 13 ?_ | refine Zb 13 ?_ | refine wMv 13 ?_); (first | refine Zc 14 ?_ | refine Zb 14 ?_ | refine wSb 14 ?_); (first | refine Zc 15 ?_ | refine Zb 15 ?_ | refine wIa 15 ?_); (first | refine Zc 16 ?_ | refine Zb 16 ?_ | refine wLd 16 ?_); (first | refine Zc 18 ?_ | refine Zb 18 ?_ | refine wMv 18 ?_); (first | refine Zc 19 ?_ | refine Zb 19 ?_ | refine wLd 19 ?_))
      all_goals (first | refine Zc 17 ?_ | refine Zb 17 ?_ | (refine Zr (i := 17) ?_; ((try refine Zp ?_); (first | (refine Ze (.tmp 25) ?_; refine qC rfl rfl (Yp _ bx mb es ck _ hm k x) ?_; rintro v ρ' L' hle ⟨rfl, rfl, es', ck', hm', rfl⟩ <;> (try simp only [kM, kN, kO, hx])) | (refine Ze (.tmp 34) ?_; refine qC rfl rfl (ZH _ _) ?_; rintro v ρ' L' hle ⟨rfl, rfl, rfl⟩ <;> (try simp only [kM, kN, kO])) | (refine Ze (.tmp 41) ?_; refine qC rfl rfl (ZH _ _) ?_; rintro v ρ' L' hle ⟨rfl, rfl, rfl⟩ <;> (try simp only [kM, kN, kO])) | (refine Zn ?_; try intro _)) <;> ((try simp only [kM, kN, kO]); refine Za ?_; refine Zq ?_))))
      all_goals (first | refine Zc 20 ?_ | refine Zb 20 ?_ | (refine Zr (i := 20) ?_; ((try refine Zp ?_); (first | (refine Ze (.tmp 25) ?_; refine qC rfl rfl (Yp _ bx mb es ck _ hm k x) ?_; rintro v ρ' L' hle ⟨rfl, rfl, es', ck', hm', rfl⟩ <;> (try simp only [kM, kN, kO, hx])) | (refine Ze (.tmp 34) ?_; refine qC rfl rfl (ZH _ _) ?_; rintro v ρ' L' hle ⟨rfl, rfl, rfl⟩ <;> (try simp only [kM, kN, kO])) | (refine Ze (.tmp 41) ?_; refine qC rfl rfl (ZH _ _) ?_; rintro v ρ' L' hle ⟨rfl, rfl, rfl⟩ <;> (try simp only [kM, kN, kO])) | (refine Zn ?_; try intro _)) <;> ((try simp only [kM, kN, kO]); refine Za ?_; refine Zq ?_))))
      all_goals (first | refine Zc 21 ?_ | refine Zb 21 ?_ | (refine Zr (i := 21) ?_; ((try refine Zp ?_); (first | (refine Ze (.func 252) ?_; refine qC rfl rfl (YO _ _ _ _ _) ?_; rintro v ρ' L' hle ⟨rfl, rfl, rfl⟩ <;> (try simp only [kM, kN, kO])) | (refine Zn ?_; try intro _)) <;> ((try simp only [kM, kN, kO]); refine Za ?_; refine Zq ?_))))
      all_goals (refine Ya ?_; (first | refine Zc 22 ?_ | refine Zb 22 ?_ | refine wCm 22 ?_); (first | refine Zc 23 ?_ | refine Zb 23 ?_ | refine wPk 23 ?_); refine rPk 24 ?_; refine rAs 25 ?_; refine ZO ?_)
      all_goals (repeat' (first | (refine Zg ?_; first | (refine Zf ?_; refine qQ ?_) | refine Zn ?_) | refine Za ?_ | (refine Zh ?_; refine Zu ?_) | (refine Zi ?_; refine Zv ?_) | intro _))
      all_goals exact qE ⟨rfl, rfl, rfl⟩
 ·have hk2 : k = n := by omega
  subst hk2
  repeat' (first | (refine Zg ?_; first | (refine Zf ?_; refine qQ ?_) | refine Zn ?_) | refine Za ?_ | (refine Zh ?_; refine Zu ?_) | (refine Zi ?_; refine Zv ?_) | intro _)
  exact qE ⟨rfl, rfl, rfl⟩
structure CV where
 ra : Option Addr
 rn : Nat
 rc : Nat
 ka : Option Addr
 kn : Nat
 kc : Nat
structure Cont where
 kind : Int
 rows : List Row
 kids : List Kid
deriving DecidableEq
abbrev contV (k : Int) (v : CV) : List Value := [.int .i64 k, .slice v.ra v.rn v.rc, .slice v.ka v.kn v.kc]
structure CIn (ρ : Hp) (v : CV) (rows : List Row) (kids : List Kid) : Prop where
 r : AIn ρ 4 rowV v.ra v.rn rows
 k : AIn ρ 3 kidV v.ka v.kn kids
 rb : v.rn ≤ 1000000
 kb : v.kn ≤ 1000000
 rc : v.rn ≤ v.rc
 kc : v.kn ≤ v.kc
theorem CIn.mono {ρ ρ' v rows kids} (h : CIn ρ v rows kids) (hle : ρ.le ρ') : CIn ρ' v rows kids := ⟨h.r.mono hle, h.k.mono hle, h.rb, h.kb, h.rc, h.kc⟩
theorem leafc_spec (ρ : Hp) (a : Option Addr) (n c : Nat) (l : List Row) (h : AIn ρ 4 rowV a n l) (hn : n ≤ 1000000) : Spec Tryz.prog 175 [.slice a n c] ρ [] (fun v ρ' L' => v = .bool (rowsOk l) ∧ ρ' = ρ ∧ L' = []) := by
 refine Zd Tryz.func175 rfl rfl rfl fun u R => ?_
 simp only [Zo, List.cons_append, List.nil_append]
 repeat' (first | (refine Ze (.func 222) ?_; refine qC rfl rfl (risesRow_spec _ a n c l h hn) ?_; rintro v ρ' L' hle ⟨rfl, rfl, rfl⟩ <;> (try simp only [kM, kN, kO])) | (refine Zg ?_; first | (refine Zf ?_; refine qQ ?_) | refine Zn ?_) | refine Za ?_ | (refine Zh ?_; refine Zu ?_) | (refine Zi ?_; refine Zv ?_) | intro _)
 exact qE ⟨rfl, rfl, rfl⟩
theorem innerc_spec (ρ : Hp) (a : Option Addr) (n c : Nat) (l : List Kid) (h : AIn ρ 3 kidV a n l) (hn : n ≤ 1000000) : Spec Tryz.prog 176 [.slice a n c] ρ [] (fun v ρ' L' => v = .bool (decide (1 < n) && kidsOk l) ∧ ρ' = ρ ∧ L' = []) := by
 refine Zd Tryz.func176 rfl rfl rfl fun u R => ?_
 simp only [Zo, List.cons_append, List.nil_append]
 by_cases h1 : 1 < n
 ·rw [decide_eq_true h1, Bool.true_and]
  repeat' (first | (refine Ze (.func 226) ?_; refine qC rfl rfl (risesKid_spec _ a n c l h hn _ _ _) ?_; rintro v ρ' L' hle ⟨rfl, rfl, rfl⟩ <;> (try simp only [kM, kN, kO])) | (refine Zg ?_; first | (refine Zf ?_; refine qQ ?_) | refine Zn ?_) | refine Za ?_ | (refine Zh ?_; refine Zu ?_) | (refine Zi ?_; refine Zv ?_) | intro _)
  exact qE ⟨rfl, rfl, rfl⟩
 ·rw [decide_eq_false h1, Bool.false_and]
  repeat' (first | (refine Zg ?_; first | (refine Zf ?_; refine qQ ?_) | refine Zn ?_) | refine Za ?_ | (refine Zh ?_; refine Zu ?_) | (refine Zi ?_; refine Zv ?_) | intro _)
  exact qE ⟨rfl, rfl, rfl⟩
def YA (c : Cont) : Bool :=
 if c.kind = 0 then decide (c.rows.length + c.kids.length = 0)
 else if c.kind = 1 then decide (c.kids.length = 0) && rowsOk c.rows
 else if c.kind = 2 then decide (c.rows.length = 0) && (decide (1 < c.kids.length) && kidsOk c.kids)
 else false
theorem check_spec (ρ : Hp) (v : CV) (c : Cont) (h : CIn ρ v c.rows c.kids) : Spec Tryz.prog 118 [.agg ⟨contV c.kind v⟩] ρ [] (fun r ρ' L' => r = .int .i64 (if YA c then 0 else 160) ∧ ρ' = ρ ∧ L' = []) := by
 obtain ⟨kind, rows, kids⟩ := c
 obtain ⟨ra, rn, rc, ka, kn, kc⟩ := v
 obtain ⟨hr, hk, hrb, hkb, _, _⟩ := h
 dsimp only at hr hk hrb hkb
 have hrl := hr.len
 have hkl := hk.len
 have hrs := leafc_spec ρ ra rn rc rows hr hrb
 have hks := innerc_spec ρ ka kn kc kids hk hkb
 generalize hq : YA ⟨kind, rows, kids⟩ = q
 unfold YA at hq
 simp only [hrl, hkl] at hq
 refine Zd Tryz.func118 rfl rfl rfl fun u R => ?_
 simp only [Zo, List.cons_append, List.nil_append]
 by_cases k0 : kind = 0
 ·rw [if_pos k0] at hq
  by_cases hz : rn + kn = 0
  ·rw [decide_eq_true hz] at hq
   subst hq
   repeat' (first | (refine Zg ?_; first | (refine Zf ?_; refine qQ ?_) | refine Zn ?_) | refine Za ?_ | (refine Zh ?_; refine Zu ?_) | (refine Zi ?_; refine Zv ?_) | intro _)
   exact qE ⟨rfl, rfl, rfl⟩
  ·rw [decide_eq_false hz] at hq
   subst hq
   repeat' (first | (refine Zg ?_; first | (refine Zf ?_; refine qQ ?_) | refine Zn ?_) | refine Za ?_ | (refine Zh ?_; refine Zu ?_) | (refine Zi ?_; refine Zv ?_) | intro _)
   exact qE ⟨rfl, rfl, rfl⟩
 ·rw [if_neg k0] at hq
  by_cases k1 : kind = 1
  ·rw [if_pos k1] at hq
   by_cases hz : kn = 0
   ·rw [decide_eq_true hz, Bool.true_and] at hq
    rw [hq] at hrs
    cases q
    all_goals (repeat' (first | (refine Ze (.func 175) ?_; refine qC rfl rfl (hrs) ?_; rintro v ρ' L' hle ⟨rfl, rfl, rfl⟩ <;> (try simp only [kM, kN, kO])) | (refine Zg ?_; first | (refine Zf ?_; refine qQ ?_) | refine Zn ?_) | refine Za ?_ | (refine Zh ?_; refine Zu ?_) | (refine Zi ?_; refine Zv ?_) | intro _))
    all_goals exact qE ⟨rfl, rfl, rfl⟩
   ·rw [decide_eq_false hz, Bool.false_and] at hq
    subst hq
    repeat' (first | (refine Zg ?_; first | (refine Zf ?_; refine qQ ?_) | refine Zn ?_) | refine Za ?_ | (refine Zh ?_; refine Zu ?_) | (refine Zi ?_; refine Zv ?_) | intro _)
    exact qE ⟨rfl, rfl, rfl⟩
  ·rw [if_neg k1] at hq
   by_cases k2 : kind = 2
   ·rw [if_pos k2] at hq
    by_cases hz : rn = 0
    ·rw [decide_eq_true hz, Bool.true_and] at hq
     rw [hq] at hks
     cases q
     all_goals (repeat' (first | (refine Ze (.func 176) ?_; refine qC rfl rfl (hks) ?_; rintro v ρ' L' hle ⟨rfl, rfl, rfl⟩ <;> (try simp only [kM, kN, kO])) | (refine Zg ?_; first | (refine Zf ?_; refine qQ ?_) | refine Zn ?_) | refine Za ?_ | (refine Zh ?_; refine Zu ?_) | (refine Zi ?_; refine Zv ?_) | intro _))
     all_goals exact qE ⟨rfl, rfl, rfl⟩
    ·rw [decide_eq_false hz, Bool.false_and] at hq
     subst hq
     repeat' (first | (refine Zg ?_; first | (refine Zf ?_; refine qQ ?_) | refine Zn ?_) | refine Za ?_ | (refine Zh ?_; refine Zu ?_) | (refine Zi ?_; refine Zv ?_) | intro _)
     exact qE ⟨rfl, rfl, rfl⟩
   ·rw [if_neg k2] at hq
    subst hq
    repeat' (first | (refine Zg ?_; first | (refine Zf ?_; refine qQ ?_) | refine Zn ?_) | refine Za ?_ | (refine Zh ?_; refine Zu ?_) | (refine Zi ?_; refine Zv ?_) | intro _)
    exact qE ⟨rfl, rfl, rfl⟩
theorem CIn.nil {ρ : Hp} : CIn ρ ⟨none, 0, 0, none, 0, 0⟩ [] [] := ⟨AIn.nil, AIn.nil, by decide, by decide, by decide, by decide⟩
def tB (t : Int) : UInt8 := UInt8.ofNat t.toNat
def keyB (t : Int) (id : Nat) : List UInt8 := tB t :: be 2 id
def vN (v : Int) : Nat := (IntKind.u64.wrap v).toNat
theorem vN_eq (v : Int) : IntKind.u64.wrap v = (vN v : Nat) := by
 have : 0 ≤ IntKind.u64.wrap v := by simp only [IntKind.wrap, IntKind.bits, IntKind.signed, Bool.false_and, Bool.false_eq_true, if_false]; omega
 simp [vN]; omega
theorem vN_lt (v : Int) : vN v < 18446744073709551616 := by
 have : IntKind.u64.wrap v < 18446744073709551616 := by simp only [IntKind.wrap, IntKind.bits, IntKind.signed, Bool.false_and, Bool.false_eq_true, if_false]; omega
 have h := vN_eq v
 omega
def Yb (r : Row) : List UInt8 := keyB r.t r.id ++ (be 8 (vN r.val) ++ (UInt8.ofNat r.note.length :: r.note))
theorem tB_eq {t : Int} (h0 : 0 ≤ t) (h1 : t < 256) : Value.int .u8 t = ZI (tB t) := by
 obtain ⟨n, rfl⟩ : ∃ n : Nat, t = n := ⟨t.toNat, by omega⟩
 simp only [ZI, tB, Int.toNat_natCast, UInt8.toNat_ofNat']
 congr 1
 have e : (2 : Nat) ^ 8 = 256 := by decide
 rw [e]
 omega
theorem key_spec (ρ : Hp) (v : Value) (n : Nat) (l : List UInt8) (sp : List Value) (hown : OwnS v n (l.map ZI) sp 1) (hn : n ≤ 100000) (t : Int) (id : Nat) (h0 : 0 ≤ t) (h3 : t < 256) (hid : id < 65536) :
  Spec Tryz.prog 231 [v, .agg ⟨keyV t id⟩] ρ [Yd v (l.map ZI) sp 5] (fun r ρ' L' => ρ.le ρ' ∧ ∃ sp', OwnS r (n + 3) ((l ++ keyB t id).map ZI) sp' 1 ∧ L' = [Yd r ((l ++ keyB t id).map ZI) sp' 5]) := by
 have hl : l.length = n := by obtain ⟨_, _, _, h⟩ := hown.len; simpa using h
 refine Zd Tryz.func231 rfl rfl rfl fun u R => ?_
 simp only [Zo, List.cons_append, List.nil_append]
 repeat' (first | (refine Zg ?_; first | (refine Zf ?_; refine qQ ?_) | refine Zn ?_) | refine Za ?_ | (refine Zh ?_; refine Zu ?_) | (refine Zi ?_; refine Zv ?_) | intro _)
 rename_i b3
 refine ZF (Zs _ _ ([[(b3, .cells ⟨keyV t id⟩ 128 (0, 0))]])) (ZC (hT := tk) (Hp.le_refl _)) ?_
 all_goals (refine rMv 0 ?_; refine rFa 1 ?_; refine rLd 2 ?_; refine rCv 3 ?_; refine rFa 6 ?_; refine rLd 7 ?_)
 all_goals (refine Zr (i := 4) ?_; ((try refine Zp ?_); (first | (refine Zt rfl rfl rfl rfl (by simp) rfl rfl (fun _ => ?_); simp only [tB_eq h0 h3]) | (refine Zn ?_; try intro _)) <;> ((try simp only [kM, kN, kO]); refine Za ?_; refine Zq ?_)))
 all_goals (refine Zr (i := 5) ?_; ((try refine Zp ?_); (first | (refine YM (ys := [ZI (tB t)]) (m := 1) rfl rfl hown (hR := by infer_instance) SrcV.lit rfl rfl (by decide) rfl (by omega) (by omega) rfl (fun v' sp' hown' => ?_); rw [show l.map ZI ++ [ZI (tB t)] = (l ++ [tB t]).map ZI by simp] at hown' ⊢; refine ZT _ (h := Rem.here) (fun ρ2 hle2 hfz => ?_); obtain ⟨a', c', rfl, hc', hs⟩ := hown'.sIn hfz) | (refine Zn ?_; try intro _)) <;> ((try simp only [kM, kN, kO]); refine Za ?_; refine Zq ?_)))
 all_goals (refine Zr (i := 8) ?_; ((try refine Zp ?_); (first | (refine Ze (.func 221) ?_; refine qC rfl rfl (put16_spec _ a' _ c' _ hs id hid (by omega)) ?_; rintro v ρ' L' hle ⟨rfl, sp2, hown2, rfl⟩ <;> (try simp only [kM, kN, kO])) | (refine Zn ?_; try intro _)) <;> ((try simp only [kM, kN, kO]); refine Za ?_; refine Zq ?_)))
 all_goals (refine Ya ?_; refine rAs 9 ?_; refine ZO ?_)
 have e : l ++ [tB t] ++ be 2 id = l ++ keyB t id := by rw [List.append_assoc]; rfl
 rw [e] at hown2 ⊢
 repeat' (first | (refine Zg ?_; first | (refine Zf ?_; refine qQ ?_) | refine Zn ?_) | refine Za ?_ | (refine Zh ?_; refine Zu ?_) | (refine Zi ?_; refine Zv ?_) | intro _)
 exact qE ⟨hle2, sp2, hown2, rfl⟩
theorem rowOk_iff {r : Row} (h : Xj r = true) : 0 ≤ r.t ∧ r.t < 3 ∧ r.note.length ≤ 8 := by
 have := of_decide_eq_true h
 exact ⟨this.1.1, this.1.2, this.2⟩
theorem lenB {n : Nat} (h : n ≤ 200) : Value.int .u8 (n : Int) = ZI (UInt8.ofNat n) := by
 simp only [ZI, UInt8.toNat_ofNat']
 congr 1
 have e : (2 : Nat) ^ 8 = 256 := by decide
 rw [e]
 omega
theorem claid_spec (ρ : Hp) (v : Value) (n : Nat) (l : List UInt8) (sp : List Value) (hown : OwnS v n (l.map ZI) sp 1) (hn : n ≤ 1000) (r : Row) (hr : Xj r = true) (hid : r.id < 65536) :
  Spec Tryz.prog 230 [v, .agg ⟨rowV r⟩] ρ [Yd v (l.map ZI) sp 5] (fun q ρ' L' => ρ.le ρ' ∧ ∃ sp', OwnS q (n + (Yb r).length) ((l ++ Yb r).map ZI) sp' 1 ∧ L' = [Yd q ((l ++ Yb r).map ZI) sp' 5]) := by
 obtain ⟨h0, h3, h8⟩ := rowOk_iff hr
 have hl : l.length = n := by obtain ⟨_, _, _, h⟩ := hown.len; simpa using h
 have hvl := vN_lt r.val
 have hkb : (keyB r.t r.id).length = 3 := by simp [keyB, Zk]
 have hlb := lenB (n := r.note.length) (by omega)
 refine Zd Tryz.func230 rfl rfl rfl fun u R => ?_
 simp only [Zo, List.cons_append, List.nil_append]
 repeat' (first | (refine Zg ?_; first | (refine Zf ?_; refine qQ ?_) | refine Zn ?_) | refine Za ?_ | (refine Zh ?_; refine Zu ?_) | (refine Zi ?_; refine Zv ?_) | intro _)
 rename_i b3
 refine ZF (Zs _ _ ([[(b3, .cells ⟨rowV r⟩ 130 (0, 0))]])) (ZC (hT := tk) (Hp.le_refl _)) ?_
 all_goals (refine rMv 0 ?_; refine rFa 1 ?_; refine rLd 2 ?_; refine rFa 4 ?_; refine rLd 5 ?_; refine rCv 6 ?_)
 all_goals (refine Zr (i := 3) ?_; ((try refine Zp ?_); (first | (simp only [vN_eq]; refine Ze (.func 231) ?_; refine qC rfl rfl (key_spec _ v n l sp hown (by omega) r.t r.id h0 (by omega) hid) ?_; rintro v1 ρ1 L1 hle0 ⟨hle1, sp1, hown1, rfl⟩; simp only [List.cons_append, List.nil_append]; refine ZT _ (h := Rem.here) (fun ρ2 hle2 hfz => ?_); obtain ⟨a1, c1, rfl, hc1, hs1⟩ := hown1.sIn hfz) | (refine Zn ?_; try intro _)) <;> ((try simp only [kM, kN, kO]); refine Za ?_; refine Zq ?_)))
 all_goals (refine Zr (i := 7) ?_; ((try refine Zp ?_); (first | (refine Ze (.func 178) ?_; refine qC rfl rfl (put64_spec _ a1 _ c1 _ hs1 (vN r.val) hvl (by omega)) ?_; rintro v ρ' L' hle ⟨rfl, sp3, hown3, rfl⟩ <;> (try simp only [kM, kN, kO])) | (refine Zn ?_; try intro _)) <;> ((try simp only [kM, kN, kO]); refine Za ?_; refine Zq ?_)))
 all_goals (refine Ya ?_; refine rAs 8 ?_; refine ZO ?_)
 repeat' (first | (refine Zg ?_; first | (refine Zf ?_; refine qQ ?_) | refine Zn ?_) | refine Za ?_ | (refine Zh ?_; refine Zu ?_) | (refine Zi ?_; refine Zv ?_) | intro _)
 refine ZF (Zs _ _ ([[(b3, .cells ⟨rowV r⟩ 130 (0, 0))]])) (ZC (hT := tk) (Hp.le_refl _)) ?_
 all_goals (refine rMv 0 ?_; refine rFa 1 ?_; refine rLd 2 ?_; refine rBi 3 ?_; refine rCv 4 ?_; refine rFa 7 ?_; refine rLd 8 ?_)
 all_goals (refine Zr (i := 5) ?_; ((try refine Zp ?_); (first | (refine Zt rfl rfl rfl rfl (by simp) rfl rfl (fun _ => ?_); simp only [hlb]) | (refine Zn ?_; try intro _)) <;> ((try simp only [kM, kN, kO]); refine Za ?_; refine Zq ?_)))
 all_goals (refine Zr (i := 6) ?_; ((try refine Zp ?_); (first | (refine YM (ys := [ZI (UInt8.ofNat r.note.length)]) (m := 1) rfl rfl hown3 (hR := by infer_instance) SrcV.lit rfl rfl (by decide) rfl (by omega) (by omega) rfl (fun v4 sp4 hown4 => ?_)) | (refine tl_app_str (l := r.note) rfl rfl hown4 (hR := by infer_instance) (by omega) rfl (fun v5 sp5 hown5 => ?_)) | (refine Zn ?_; try intro _)) <;> ((try simp only [kM, kN, kO]); refine Za ?_; refine Zq ?_)))
 all_goals (refine Zr (i := 9) ?_; ((try refine Zp ?_); (first | (refine YM (ys := [ZI (UInt8.ofNat r.note.length)]) (m := 1) rfl rfl hown3 (hR := by infer_instance) SrcV.lit rfl rfl (by decide) rfl (by omega) (by omega) rfl (fun v4 sp4 hown4 => ?_)) | (refine tl_app_str (l := r.note) rfl rfl hown4 (hR := by infer_instance) (by omega) rfl (fun v5 sp5 hown5 => ?_)) | (refine Zn ?_; try intro _)) <;> ((try simp only [kM, kN, kO]); refine Za ?_; refine Zq ?_)))
 all_goals (refine Ya ?_; refine rAs 10 ?_; refine ZO ?_)
 have e : (l ++ keyB r.t r.id ++ be 8 (vN r.val)).map ZI ++ [ZI (UInt8.ofNat r.note.length)] ++ r.note.map ZI = (l ++ Yb r).map ZI := by simp [Yb]
 have e2 : n + 3 + 8 + 1 + r.note.length = n + (Yb r).length := by simp [Yb, hkb, Zk]; omega
 rw [e] at hown5 ⊢
 rw [e2] at hown5
 repeat' (first | (refine Zg ?_; first | (refine Zf ?_; refine qQ ?_) | refine Zn ?_) | refine Za ?_ | (refine Zh ?_; refine Zu ?_) | (refine Zi ?_; refine Zv ?_) | intro _)
 exact qE ⟨Hp.le_trans hle1 hle2, sp5, hown5, rfl⟩
theorem rowE_spec (ρ : Hp) (r : Row) (hid : r.id < 65536) :
  Spec Tryz.prog 220 [.agg ⟨rowV r⟩] ρ [] (fun v ρ' L' => ρ.le ρ' ∧ ∃ a n c, v = .tuple ⟨[.slice a n c, .int .i64 (if Xj r then 0 else 151)]⟩ ∧ n ≤ c ∧ SIn ρ' ZI a n (if Xj r then Yb r else []) ∧ L' = []) := by
 have hck := fun ρ => checkRow_spec ρ r
 refine Zd Tryz.func220 rfl rfl rfl fun u R => ?_
 simp only [Zo, List.cons_append, List.nil_append]
 cases hok : Xj r
 ·simp only [hok, Bool.false_eq_true, if_false] at hck ⊢
  repeat' (first | (refine Ze (.func 225) ?_; refine qC rfl rfl (hck _) ?_; rintro v ρ' L' hle ⟨rfl, rfl, rfl⟩ <;> (try simp only [kM, kN, kO])) | (refine Zg ?_; first | (refine Zf ?_; refine qQ ?_) | refine Zn ?_) | refine Za ?_ | (refine Zh ?_; refine Zu ?_) | (refine Zi ?_; refine Zv ?_) | intro _)
  exact qE ⟨Hp.le_refl _, none, 0, 0, rfl, Nat.le_refl _, SIn.nil, rfl⟩
 ·simp only [hok, if_true] at hck ⊢
  repeat' (first | (refine Ze (.func 225) ?_; refine qC rfl rfl (hck _) ?_; rintro v ρ' L' hle ⟨rfl, rfl, rfl⟩ <;> (try simp only [kM, kN, kO])) | (refine Ze (.func 230) ?_; refine tl_call rfl rfl (claid_spec _ (.slice none 0 0) 0 [] [] (OwnS.nil 1) (by omega) r hok hid) (XM rem_nil' take_nil') rfl ?_; rintro v1 ρ1 L1 hle0 ⟨hle1, sp1, hown1, rfl⟩; simp only [List.cons_append, List.nil_append, Nat.zero_add] at hown1 ⊢; refine ZT _ (h := Rem.here) (fun ρ2 hle2 hfz => ?_); obtain ⟨a1, c1, rfl, hc1, hs1⟩ := hown1.sIn hfz) | (refine Zg ?_; first | (refine Zf ?_; refine qQ ?_) | refine Zn ?_) | refine Za ?_ | (refine Zh ?_; refine Zu ?_) | (refine Zi ?_; refine Zv ?_) | intro _)
  exact qE ⟨Hp.le_trans hle1 hle2, a1, _, c1, rfl, hc1, hs1, rfl⟩
def Xx (k : Kid) : List UInt8 := keyB k.t k.id ++ [tB k.page]
def cntB (c : Cont) : List UInt8 := if c.kind = 0 then [] else [UInt8.ofNat (c.rows.length + c.kids.length)]
def Xn (c : Cont) : List UInt8 := tB c.kind :: cntB c ++ (c.rows.flatMap Yb ++ c.kids.flatMap Xx)
theorem risesB_true {α : Type} {most : Nat} {right : Nat → α → Bool} {lt : α → α → Bool} {l : List α} : ∀ {k : Nat}, ZN most right lt l k = true → k ≤ l.length → l.length ≤ most ∧ ∀ i (h : i < l.length), i < k → right i l[i] = true ∧ (i = 0 ∨ lt (l[i - 1]'(by omega)) l[i] = true)
 | 0, h, _ => ⟨of_decide_eq_true h, fun i _ hi => by omega⟩
 | k + 1, h, hk => by
  rw [XP (show k < l.length by omega), Bool.and_eq_true, Bool.and_eq_true] at h
  obtain ⟨h1, h2, h3⟩ := h
  obtain ⟨g1, g2⟩ := risesB_true h1 (by omega)
  refine ⟨g1, fun i hi hik => ?_⟩
  by_cases e : i < k
  ·exact g2 i hi e
  ·have : i = k := by omega
   subst this
   refine ⟨h2, ?_⟩
   simpa using h3
structure ContOk (c : Cont) : Prop where
 kind : c.kind = 0 ∧ c.rows = [] ∧ c.kids = [] ∨ c.kind = 1 ∧ c.kids = [] ∨ c.kind = 2 ∧ c.rows = [] ∧ 1 < c.kids.length
 rl : c.rows.length ≤ 4
 kl : c.kids.length ≤ 4
 row : ∀ r ∈ c.rows, Xj r = true
 kid : ∀ k ∈ c.kids, (0 ≤ k.t ∧ k.t < 3) ∧ 0 < k.page ∧ k.page < 64
theorem contOk_facts {c : Cont} (h : YA c = true) : ContOk c := by
 obtain ⟨kind, rows, kids⟩ := c
 unfold YA at h
 dsimp only at h
 split at h
 ·rename_i hk
  have hz := of_decide_eq_true h
  have h1 : rows = [] := List.eq_nil_of_length_eq_zero (by omega)
  have h2 : kids = [] := List.eq_nil_of_length_eq_zero (by omega)
  subst h1; subst h2
  exact ⟨.inl ⟨hk, rfl, rfl⟩, by simp, by simp, by simp, by simp⟩
 ·split at h
  ·rename_i hk
   rw [Bool.and_eq_true] at h
   have h2 : kids = [] := List.eq_nil_of_length_eq_zero (of_decide_eq_true h.1)
   subst h2
   obtain ⟨g1, g2⟩ := risesB_true h.2 (Nat.le_refl _)
   refine ⟨.inr (.inl ⟨hk, rfl⟩), g1, by simp, fun r hr => ?_, by simp⟩
   obtain ⟨i, hi, rfl⟩ := List.mem_iff_getElem.1 hr
   exact (g2 i hi hi).1
  ·split at h
   ·rename_i hk
    rw [Bool.and_eq_true, Bool.and_eq_true] at h
    have h1 : rows = [] := List.eq_nil_of_length_eq_zero (of_decide_eq_true h.1)
    subst h1
    obtain ⟨g1, g2⟩ := risesB_true h.2.2 (Nat.le_refl _)
    refine ⟨.inr (.inr ⟨hk, rfl, of_decide_eq_true h.2.1⟩), by simp, g1, by simp, fun k hk => ?_⟩
    obtain ⟨i, hi, rfl⟩ := List.mem_iff_getElem.1 hk
    have := of_decide_eq_true (g2 i hi hi).1
    exact ⟨this.2.2.2.1, this.2.1, this.2.2.1⟩
   ·cases h
theorem rowB_len {r : Row} (h : Xj r = true) : (Yb r).length = 12 + r.note.length := by simp [Yb, keyB, Zk]; omega
theorem rowB_le {r : Row} (h : Xj r = true) : (Yb r).length ≤ 20 := by rw [rowB_len h]; have := (rowOk_iff h).2.2; omega
theorem kidB_len (k : Kid) : (Xx k).length = 4 := by simp [Xx, keyB, Zk]
theorem Ye {α : Type} (f : α → List UInt8) (m : Nat) : ∀ (l : List α), (∀ x ∈ l, (f x).length ≤ m) → (l.flatMap f).length ≤ l.length * m
 | [], _ => by simp
 | x :: r, h => by
  have h1 := h x (by simp)
  have ih := Ye f m r (fun y hy => h y (by simp [hy]))
  simp only [List.flatMap_cons, List.length_append, List.length_cons, Nat.add_mul]; omega
theorem YQ {α : Type} (f : α → List UInt8) (l : List α) (k : Nat) (h : k < l.length) : (l.take (k + 1)).flatMap f = (l.take k).flatMap f ++ f l[k] := by
 rw [List.take_succ_eq_append_getElem h, List.flatMap_append]; simp
theorem contE_spec (ρ : Hp) (w : CV) (c : Cont) (h : CIn ρ w c.rows c.kids) (hir : ∀ r ∈ c.rows, r.id < 65536) (hik : ∀ k ∈ c.kids, k.id < 65536) :
  Spec Tryz.prog 177 [.agg ⟨contV c.kind w⟩] ρ [] (fun v ρ' L' => ρ.le ρ' ∧ ∃ a n c', v = .tuple ⟨[.slice a n c', .int .i64 (if YA c then 0 else 160)]⟩ ∧ n ≤ c' ∧ SIn ρ' ZI a n (if YA c then Xn c else []) ∧ L' = []) := by
 have hck := fun ρ h => check_spec ρ w c h
 refine Zd Tryz.func177 rfl rfl rfl fun u R => ?_
 simp only [Zo, List.cons_append, List.nil_append]
 cases hok : YA c
 ·simp only [hok, Bool.false_eq_true, if_false] at hck ⊢
  repeat' (first | (refine Ze (.func 118) ?_; refine qC rfl rfl (hck _ h) ?_; rintro v ρ' L' hle ⟨rfl, rfl, rfl⟩ <;> (try simp only [kM, kN, kO])) | (refine Zg ?_; first | (refine Zf ?_; refine qQ ?_) | refine Zn ?_) | refine Za ?_ | (refine Zh ?_; refine Zu ?_) | (refine Zi ?_; refine Zv ?_) | intro _)
  exact qE ⟨Hp.le_refl _, none, 0, 0, rfl, Nat.le_refl _, SIn.nil, rfl⟩
 ·simp only [hok, if_true] at hck ⊢
  obtain ⟨hkind, hrl, hkl, hrow, hkid⟩ := contOk_facts hok
  have hk03 : 0 ≤ c.kind ∧ c.kind < 3 := by omega
  obtain ⟨kind, rows, kids⟩ := c
  obtain ⟨ra, rn, rc, ka, kn, kc⟩ := w
  obtain ⟨hr, hk, hrb, hkb, hrc, hkc⟩ := h
  dsimp only at hrc hkc hr hk hrb hkb hrow hkid hrl hkl hk03 hir hik ⊢
  have hrn := hr.len
  have hkn := hk.len
  have hcnt := lenB (n := rn + kn) (by omega)
  have hkB := tB_eq (t := kind) (by omega) (by omega)
  dsimp only [contV] at hck ⊢
  by_cases hk0 : kind = 0
  ·obtain ⟨B0, hB0⟩ : ∃ B0, tB kind :: cntB ⟨kind, rows, kids⟩ = B0 := ⟨_, rfl⟩
   have hX : B0 = [tB kind] := by rw [← hB0]; simp [cntB, hk0]
   have hBl : B0.length ≤ 2 := by rw [hX]; simp
   repeat' (first | (refine Ze (.func 118) ?_; refine qC rfl rfl (hck _ ⟨hr, hk, hrb, hkb, hrc, hkc⟩) ?_; rintro v ρ' L' hle ⟨rfl, rfl, rfl⟩ <;> (try simp only [kM, kN, kO])) | (refine Zt rfl rfl rfl rfl (by simp) rfl rfl (fun _ => ?_); simp only [hkB]) | (refine Zg ?_; first | (refine Zf ?_; refine qQ ?_) | refine Zn ?_) | refine Za ?_ | (refine Zh ?_; refine Zu ?_) | (refine Zi ?_; refine Zv ?_) | intro _)
   rename_i b1 b2
   rw [show [ZI (tB kind)] = B0.map ZI by rw [hX]; rfl, own_chunk b2 1 1]
   have hown0 : OwnS (.slice (some ⟨b2, 0, none⟩) 1 1) B0.length (B0.map ZI) [] 1 := ⟨.inr ⟨b2, 1, by rw [hX]; rfl, by simp, by simp [hX], by simp [hX]⟩⟩
   generalize Value.slice (some ⟨b2, 0, none⟩) 1 1 = v0 at *
   rw [show B0.map ZI = (B0 ++ (rows.take 0).flatMap Yb).map ZI by simp]
   refine ZP [(1, _), (2, _), (3, _), (34, _), (35, _)] (fun (ζ : (Nat) × (Hp) × (Value) × (List Value)) => [(36, .int .i64 ζ.1), (5, ζ.2.2.1)]) (fun (ζ : (Nat) × (Hp) × (Value) × (List Value)) => ζ.2.1) (fun (ζ : (Nat) × (Hp) × (Value) × (List Value)) => [Yd ζ.2.2.1 ((B0 ++ (rows.take ζ.1).flatMap Yb).map ZI) ζ.2.2.2 5, [(b1, .cells ⟨[.int .i64 kind, .slice ra rn rc, .slice ka kn kc]⟩ 65 (0, 0))]]) (fun (ζ : (Nat) × (Hp) × (Value) × (List Value)) => ζ.1 ≤ rn ∧ ρ'.le ζ.2.1 ∧ OwnS ζ.2.2.1 (B0 ++ (rows.take ζ.1).flatMap Yb).length ((B0 ++ (rows.take ζ.1).flatMap Yb).map ZI) ζ.2.2.2 1) (fun (ζ : (Nat) × (Hp) × (Value) × (List Value)) => rn - ζ.1) ((0, ρ', v0, [])) (⟨Nat.zero_le _, Hp.le_refl _, by simpa using hown0⟩) Zw Zw rfl tk ?_
   rintro ⟨k, ρ1, v, sp⟩ hI
   try simp only [List.cons_append, List.nil_append, List.append_assoc, List.append_eq] at hI ⊢
   try dsimp only at hI ⊢
   obtain ⟨hkn0, hle1, hown⟩ := hI
   by_cases hlt : k < rn
   ·obtain ⟨b, off, C, T, fr, rfl, hb, hfit, hc⟩ := (hr.mono hle1).get (show k < rows.length by omega)
    have hmem : rows[k]'(by omega) ∈ rows := List.getElem_mem _
    have hro := hrow _ hmem
    have hid := hir _ hmem
    have hts := YQ Yb rows k (by omega)
    have hfl := Ye Yb 20 (rows.take k) (fun x hx => rowB_le (hrow x (List.mem_of_mem_take hx)))
    have htl : (rows.take k).length ≤ 4 := by simp; omega
    have hXl : (B0 ++ (rows.take k).flatMap Yb).length ≤ 100 := by simp only [List.length_append]; omega
    have hll : (B0 ++ (rows.take k).flatMap Yb).length + (Yb (rows[k]'(by omega))).length = (B0 ++ (rows.take (k + 1)).flatMap Yb).length := by rw [hts]; simp; omega
    have hmm : B0 ++ (rows.take k).flatMap Yb ++ Yb (rows[k]'(by omega)) = B0 ++ (rows.take (k + 1)).flatMap Yb := by rw [hts]; simp
    generalize rows[k]'(by omega) = x at *
    repeat' (first | (refine Ze (.func 230) ?_; refine qC rfl rfl (claid_spec _ v _ _ sp hown (by omega) x hro hid) ?_; rintro v2 ρ2 L2 hle0 ⟨hle2, sp2, hown2, rfl⟩; simp only [List.cons_append, List.nil_append, hmm]; rw [hmm, hll] at hown2) | (refine Zg ?_; first | (refine Zf ?_; refine qQ ?_) | refine Zn ?_) | refine Za ?_ | (refine Zh ?_; refine Zu ?_) | (refine Zi ?_; refine Zv ?_) | intro _)
    refine ZB (k + 1, _, v2, sp2) (⟨hlt, Hp.le_trans hle1 hle2, hown2⟩) Zw Zw rfl tk inferInstance (by first | omega | (dsimp only; omega))
   ·have hk2 : k = rn := by omega
    subst hk2
    rw [List.take_of_length_le (by omega)] at hown ⊢
    repeat' (first | (refine Zg ?_; first | (refine Zf ?_; refine qQ ?_) | refine Zn ?_) | refine Za ?_ | (refine Zh ?_; refine Zu ?_) | (refine Zi ?_; refine Zv ?_) | intro _)
    rw [show (B0 ++ rows.flatMap Yb).map ZI = (B0 ++ (rows.flatMap Yb ++ (kids.take 0).flatMap Xx)).map ZI by simp]
    refine ZP [(2, _), (3, _), (45, _), (46, _)] (fun (ζ : (Nat) × (Hp) × (Value) × (List Value)) => [(47, .int .i64 ζ.1), (5, ζ.2.2.1)]) (fun (ζ : (Nat) × (Hp) × (Value) × (List Value)) => ζ.2.1) (fun (ζ : (Nat) × (Hp) × (Value) × (List Value)) => [Yd ζ.2.2.1 ((B0 ++ (rows.flatMap Yb ++ (kids.take ζ.1).flatMap Xx)).map ZI) ζ.2.2.2 5]) (fun (ζ : (Nat) × (Hp) × (Value) × (List Value)) => ζ.1 ≤ kn ∧ ρ1.le ζ.2.1 ∧ OwnS ζ.2.2.1 (B0 ++ (rows.flatMap Yb ++ (kids.take ζ.1).flatMap Xx)).length ((B0 ++ (rows.flatMap Yb ++ (kids.take ζ.1).flatMap Xx)).map ZI) ζ.2.2.2 1) (fun (ζ : (Nat) × (Hp) × (Value) × (List Value)) => kn - ζ.1) ((0, ρ1, v, sp)) (⟨Nat.zero_le _, Hp.le_refl _, by simpa using hown⟩) Zw Zw rfl tk ?_
    rintro ⟨j, ρ2, v, sp⟩ hI
    try simp only [List.cons_append, List.nil_append, List.append_assoc, List.append_eq] at hI ⊢
    try dsimp only at hI ⊢
    have hfl := Ye Yb 20 rows (fun x hx => rowB_le (hrow x hx))
    obtain ⟨hj0, hle3, hown3⟩ := hI
    by_cases hlj : j < kn
    ·obtain ⟨b, off, C, T, fr, rfl, hb, hfit, hc⟩ := (hk.mono (Hp.le_trans hle1 hle3)).get (show j < kids.length by omega)
     have hmem : kids[j]'(by omega) ∈ kids := List.getElem_mem _
     have hko := hkid _ hmem
     have hid := hik _ hmem
     have hts := YQ Xx kids j (by omega)
     have hfk := Ye Xx 4 (kids.take j) (fun x hx => Nat.le_of_eq (kidB_len x))
     have htl : (kids.take j).length ≤ 4 := by simp; omega
     have hXl : (B0 ++ (rows.flatMap Yb ++ (kids.take j).flatMap Xx)).length ≤ 200 := by simp only [List.length_append]; omega
     have hmm : B0 ++ (rows.flatMap Yb ++ (kids.take j).flatMap Xx) ++ keyB (kids[j]'(by omega)).t (kids[j]'(by omega)).id ++ [tB (kids[j]'(by omega)).page] = B0 ++ (rows.flatMap Yb ++ (kids.take (j + 1)).flatMap Xx) := by rw [hts]; simp [Xx]
     have hll : (B0 ++ (rows.flatMap Yb ++ (kids.take j).flatMap Xx)).length + 3 + 1 = (B0 ++ (rows.flatMap Yb ++ (kids.take (j + 1)).flatMap Xx)).length := by rw [hts]; simp [kidB_len]; omega
     have hpg := tB_eq (t := (kids[j]'(by omega)).page) (by omega) (by omega)
     generalize kids[j]'(by omega) = x at *
     generalize hX : B0 ++ (rows.flatMap Yb ++ (kids.take j).flatMap Xx) = X at *
     repeat' (first | (refine Zg ?_; first | (refine Zf ?_; refine qQ ?_) | refine Zn ?_) | refine Za ?_ | (refine Zh ?_; refine Zu ?_) | (refine Zi ?_; refine Zv ?_) | intro _)
     rename_i b9
     refine ZF (Zs _ _ ([[(b9, .cells ⟨kidV x⟩ 149 (0, 0))]])) (ZC (hT := tk) (Hp.le_refl _)) ?_
     all_goals (refine rMv 0 ?_; refine rFa 1 ?_; refine rLd 2 ?_; refine rFa 4 ?_; refine rLd 5 ?_; refine rCv 6 ?_)
     all_goals (refine rStep2 (i := 3) (j := 7) ?_ ?_ <;> ((try refine Zp ?_); (first | (refine Ze (.func 231) ?_; refine qC rfl rfl (key_spec _ v _ X sp hown3 (by omega) x.t x.id hko.1.1 (by omega) hid) ?_; rintro v2 ρ4 L2 hle0 ⟨hle4, sp4, hown4, rfl⟩; simp only [List.cons_append, List.nil_append]) | (refine Zt rfl rfl rfl rfl (by simp) rfl rfl (fun _ => ?_); simp only [hpg]) | (refine Zn ?_; try intro _)) <;> ((try simp only [kM, kN, kO]); refine Za ?_; refine Zq ?_)))
     all_goals (first | (refine Zr (i := 7) ?_; ((try refine Zp ?_); (first | (refine Zt rfl rfl rfl rfl (by simp) rfl rfl (fun _ => ?_); simp only [hpg]) | (refine Zn ?_; try intro _)) <;> ((try simp only [kM, kN, kO]); refine Za ?_; refine Zq ?_))) | (refine Zr (i := 3) ?_; ((try refine Zp ?_); (first | (refine Ze (.func 231) ?_; refine qC rfl rfl (key_spec _ v _ X sp hown3 (by omega) x.t x.id hko.1.1 (by omega) hid) ?_; rintro v2 ρ4 L2 hle0 ⟨hle4, sp4, hown4, rfl⟩; simp only [List.cons_append, List.nil_append]) | (refine Zn ?_; try intro _)) <;> ((try simp only [kM, kN, kO]); refine Za ?_; refine Zq ?_))))
     all_goals (refine Zr (i := 8) ?_; ((try refine Zp ?_); (first | (refine Ze (.func 231) ?_; refine qC rfl rfl (key_spec _ v _ X sp hown3 (by omega) x.t x.id hko.1.1 (by omega) hid) ?_; rintro v2 ρ4 L2 hle0 ⟨hle4, sp4, hown4, rfl⟩; simp only [List.cons_append, List.nil_append]) | (refine YM (ys := [ZI (tB x.page)]) (m := 1) rfl rfl hown4 (hR := by infer_instance) SrcV.lit rfl rfl (by decide) rfl (by omega) (by omega) rfl (fun v5 sp5 hown5 => ?_); rw [show (X ++ keyB x.t x.id).map ZI ++ [ZI (tB x.page)] = (X ++ keyB x.t x.id ++ [tB x.page]).map ZI by simp, hmm] at hown5 ⊢; rw [hll] at hown5) | (refine Zn ?_; try intro _)) <;> ((try simp only [kM, kN, kO]); refine Za ?_; refine Zq ?_)))
     all_goals (refine Ya ?_; refine rAs 9 ?_; refine ZO ?_)
     all_goals (repeat' (first | (refine Zg ?_; first | (refine Zf ?_; refine qQ ?_) | refine Zn ?_) | refine Za ?_ | (refine Zh ?_; refine Zu ?_) | (refine Zi ?_; refine Zv ?_) | intro _))
     all_goals refine ZB (j + 1, _, v5, sp5) (⟨hlj, Hp.le_trans hle3 (by assumption), hown5⟩) Zw Zw rfl tk inferInstance (by first | omega | (dsimp only; omega))
    ·have hj2 : j = kn := by omega
     subst hj2
     rw [List.take_of_length_le (by omega)] at hown3 ⊢
     have hfin : B0 ++ (rows.flatMap Yb ++ kids.flatMap Xx) = Xn ⟨kind, rows, kids⟩ := by rw [← hB0]; simp [Xn]
     rw [hfin] at hown3 ⊢
     repeat' (first | (refine Zg ?_; first | (refine Zf ?_; refine qQ ?_) | refine Zn ?_) | refine Za ?_ | (refine Zh ?_; refine Zu ?_) | (refine Zi ?_; refine Zv ?_) | intro _)
     refine te_freeze _ (h := Rem.here) (fun ρ6 hle6 hfz => ?_)
     obtain ⟨a6, c6, rfl, hc6, hs6⟩ := hown3.sIn hfz
     exact qE ⟨Hp.le_trans hle1 (Hp.le_trans hle3 hle6), a6, _, c6, rfl, hc6, hs6, rfl⟩
  ·obtain ⟨B0, hB0⟩ : ∃ B0, tB kind :: cntB ⟨kind, rows, kids⟩ = B0 := ⟨_, rfl⟩
   have hX : B0 = [tB kind] ++ [UInt8.ofNat (rn + kn)] := by rw [← hB0]; simp [cntB, hk0, hrn, hkn]
   have hBl : B0.length ≤ 2 := by rw [hX]; simp
   have hcnt' : Value.int .u8 ((rn : Int) + (kn : Int)) = ZI (UInt8.ofNat (rn + kn)) := by rw [← hcnt]; simp
   repeat' (first | (refine Ze (.func 118) ?_; refine qC rfl rfl (hck _ ⟨hr, hk, hrb, hkb, hrc, hkc⟩) ?_; rintro v ρ' L' hle ⟨rfl, rfl, rfl⟩ <;> (try simp only [kM, kN, kO])) | (refine Zt rfl rfl rfl rfl (by simp) rfl rfl (fun _ => ?_); first | simp only [hkB] | simp only [hcnt']) | (refine Zg ?_; first | (refine Zf ?_; refine qQ ?_) | refine Zn ?_) | refine Za ?_ | (refine Zh ?_; refine Zu ?_) | (refine Zi ?_; refine Zv ?_) | intro _)
   rename_i b1 b2 b3
   rw [show ([(b2, Obj.cells ⟨[ZI (tB kind)]⟩ 5 (0, 0))] : List (Nat × Obj)) = Yd (.slice (some ⟨b2, 0, none⟩) 1 1) ([tB kind].map ZI) [] 5 from rfl]
   refine YM (ys := [ZI (UInt8.ofNat (rn + kn))]) (m := 1) (n := 1) (xs := [tB kind].map ZI) (sp := []) rfl rfl ⟨.inr ⟨b2, 1, rfl, rfl, rfl, Nat.le_refl _⟩⟩ (hR := by infer_instance) SrcV.lit rfl rfl (by decide) rfl (by omega) (by omega) rfl (fun v0 sp0 hown0 => ?_)
   rw [show [tB kind].map ZI ++ [ZI (UInt8.ofNat (rn + kn))] = B0.map ZI by rw [hX]; rfl] at hown0 ⊢
   replace hown0 : OwnS v0 B0.length (B0.map ZI) sp0 1 := by
    have e : B0.length = 1 + 1 := by rw [hX]; rfl
    rw [e]; exact hown0
   repeat' (first | (refine Zg ?_; first | (refine Zf ?_; refine qQ ?_) | refine Zn ?_) | refine Za ?_ | (refine Zh ?_; refine Zu ?_) | (refine Zi ?_; refine Zv ?_) | intro _)
   rw [show B0.map ZI = (B0 ++ (rows.take 0).flatMap Yb).map ZI by simp]
   refine ZP [(1, _), (2, _), (3, _), (34, _), (35, _)] (fun (ζ : (Nat) × (Hp) × (Value) × (List Value)) => [(36, .int .i64 ζ.1), (5, ζ.2.2.1)]) (fun (ζ : (Nat) × (Hp) × (Value) × (List Value)) => ζ.2.1) (fun (ζ : (Nat) × (Hp) × (Value) × (List Value)) => [Yd ζ.2.2.1 ((B0 ++ (rows.take ζ.1).flatMap Yb).map ZI) ζ.2.2.2 5, [(b1, .cells ⟨[.int .i64 kind, .slice ra rn rc, .slice ka kn kc]⟩ 65 (0, 0))]]) (fun (ζ : (Nat) × (Hp) × (Value) × (List Value)) => ζ.1 ≤ rn ∧ ρ'.le ζ.2.1 ∧ OwnS ζ.2.2.1 (B0 ++ (rows.take ζ.1).flatMap Yb).length ((B0 ++ (rows.take ζ.1).flatMap Yb).map ZI) ζ.2.2.2 1) (fun (ζ : (Nat) × (Hp) × (Value) × (List Value)) => rn - ζ.1) ((0, ρ', v0, sp0)) (⟨Nat.zero_le _, Hp.le_refl _, by simpa using hown0⟩) Zw Zw rfl tk ?_
   rintro ⟨k, ρ1, v, sp⟩ hI
   try simp only [List.cons_append, List.nil_append, List.append_assoc, List.append_eq] at hI ⊢
   try dsimp only at hI ⊢
   obtain ⟨hkn0, hle1, hown⟩ := hI
   by_cases hlt : k < rn
   ·obtain ⟨b, off, C, T, fr, rfl, hb, hfit, hc⟩ := (hr.mono hle1).get (show k < rows.length by omega)
    have hmem : rows[k]'(by omega) ∈ rows := List.getElem_mem _
    have hro := hrow _ hmem
    have hid := hir _ hmem
    have hts := YQ Yb rows k (by omega)
    have hfl := Ye Yb 20 (rows.take k) (fun x hx => rowB_le (hrow x (List.mem_of_mem_take hx)))
    have htl : (rows.take k).length ≤ 4 := by simp; omega
    have hXl : (B0 ++ (rows.take k).flatMap Yb).length ≤ 100 := by simp only [List.length_append]; omega
    have hll : (B0 ++ (rows.take k).flatMap Yb).length + (Yb (rows[k]'(by omega))).length = (B0 ++ (rows.take (k + 1)).flatMap Yb).length := by rw [hts]; simp; omega
    have hmm : B0 ++ (rows.take k).flatMap Yb ++ Yb (rows[k]'(by omega)) = B0 ++ (rows.take (k + 1)).flatMap Yb := by rw [hts]; simp
    generalize rows[k]'(by omega) = x at *
    repeat' (first | (refine Ze (.func 230) ?_; refine qC rfl rfl (claid_spec _ v _ _ sp hown (by omega) x hro hid) ?_; rintro v2 ρ2 L2 hle0 ⟨hle2, sp2, hown2, rfl⟩; simp only [List.cons_append, List.nil_append, hmm]; rw [hmm, hll] at hown2) | (refine Zg ?_; first | (refine Zf ?_; refine qQ ?_) | refine Zn ?_) | refine Za ?_ | (refine Zh ?_; refine Zu ?_) | (refine Zi ?_; refine Zv ?_) | intro _)
    refine ZB (k + 1, _, v2, sp2) (⟨hlt, Hp.le_trans hle1 hle2, hown2⟩) Zw Zw rfl tk inferInstance (by first | omega | (dsimp only; omega))
   ·have hk2 : k = rn := by omega
    subst hk2
    rw [List.take_of_length_le (by omega)] at hown ⊢
    repeat' (first | (refine Zg ?_; first | (refine Zf ?_; refine qQ ?_) | refine Zn ?_) | refine Za ?_ | (refine Zh ?_; refine Zu ?_) | (refine Zi ?_; refine Zv ?_) | intro _)
    rw [show (B0 ++ rows.flatMap Yb).map ZI = (B0 ++ (rows.flatMap Yb ++ (kids.take 0).flatMap Xx)).map ZI by simp]
    refine ZP [(2, _), (3, _), (45, _), (46, _)] (fun (ζ : (Nat) × (Hp) × (Value) × (List Value)) => [(47, .int .i64 ζ.1), (5, ζ.2.2.1)]) (fun (ζ : (Nat) × (Hp) × (Value) × (List Value)) => ζ.2.1) (fun (ζ : (Nat) × (Hp) × (Value) × (List Value)) => [Yd ζ.2.2.1 ((B0 ++ (rows.flatMap Yb ++ (kids.take ζ.1).flatMap Xx)).map ZI) ζ.2.2.2 5]) (fun (ζ : (Nat) × (Hp) × (Value) × (List Value)) => ζ.1 ≤ kn ∧ ρ1.le ζ.2.1 ∧ OwnS ζ.2.2.1 (B0 ++ (rows.flatMap Yb ++ (kids.take ζ.1).flatMap Xx)).length ((B0 ++ (rows.flatMap Yb ++ (kids.take ζ.1).flatMap Xx)).map ZI) ζ.2.2.2 1) (fun (ζ : (Nat) × (Hp) × (Value) × (List Value)) => kn - ζ.1) ((0, ρ1, v, sp)) (⟨Nat.zero_le _, Hp.le_refl _, by simpa using hown⟩) Zw Zw rfl tk ?_
    rintro ⟨j, ρ2, v, sp⟩ hI
    try simp only [List.cons_append, List.nil_append, List.append_assoc, List.append_eq] at hI ⊢
    try dsimp only at hI ⊢
    have hfl := Ye Yb 20 rows (fun x hx => rowB_le (hrow x hx))
    obtain ⟨hj0, hle3, hown3⟩ := hI
    by_cases hlj : j < kn
    ·obtain ⟨b, off, C, T, fr, rfl, hb, hfit, hc⟩ := (hk.mono (Hp.le_trans hle1 hle3)).get (show j < kids.length by omega)
     have hmem : kids[j]'(by omega) ∈ kids := List.getElem_mem _
     have hko := hkid _ hmem
     have hid := hik _ hmem
     have hts := YQ Xx kids j (by omega)
     have hfk := Ye Xx 4 (kids.take j) (fun x hx => Nat.le_of_eq (kidB_len x))
     have htl : (kids.take j).length ≤ 4 := by simp; omega
     have hXl : (B0 ++ (rows.flatMap Yb ++ (kids.take j).flatMap Xx)).length ≤ 200 := by simp only [List.length_append]; omega
     have hmm : B0 ++ (rows.flatMap Yb ++ (kids.take j).flatMap Xx) ++ keyB (kids[j]'(by omega)).t (kids[j]'(by omega)).id ++ [tB (kids[j]'(by omega)).page] = B0 ++ (rows.flatMap Yb ++ (kids.take (j + 1)).flatMap Xx) := by rw [hts]; simp [Xx]
     have hll : (B0 ++ (rows.flatMap Yb ++ (kids.take j).flatMap Xx)).length + 3 + 1 = (B0 ++ (rows.flatMap Yb ++ (kids.take (j + 1)).flatMap Xx)).length := by rw [hts]; simp [kidB_len]; omega
     have hpg := tB_eq (t := (kids[j]'(by omega)).page) (by omega) (by omega)
     generalize kids[j]'(by omega) = x at *
     generalize hX : B0 ++ (rows.flatMap Yb ++ (kids.take j).flatMap Xx) = X at *
     repeat' (first | (refine Zg ?_; first | (refine Zf ?_; refine qQ ?_) | refine Zn ?_) | refine Za ?_ | (refine Zh ?_; refine Zu ?_) | (refine Zi ?_; refine Zv ?_) | intro _)
     rename_i b9
     refine ZF (Zs _ _ ([[(b9, .cells ⟨kidV x⟩ 149 (0, 0))]])) (ZC (hT := tk) (Hp.le_refl _)) ?_
     all_goals (refine rMv 0 ?_; refine rFa 1 ?_; refine rLd 2 ?_; refine rFa 4 ?_; refine rLd 5 ?_; refine rCv 6 ?_)
     all_goals (refine rStep2 (i := 3) (j := 7) ?_ ?_ <;> ((try refine Zp ?_); (first | (refine Ze (.func 231) ?_; refine qC rfl rfl (key_spec _ v _ X sp hown3 (by omega) x.t x.id hko.1.1 (by omega) hid) ?_; rintro v2 ρ4 L2 hle0 ⟨hle4, sp4, hown4, rfl⟩; simp only [List.cons_append, List.nil_append]) | (refine Zt rfl rfl rfl rfl (by simp) rfl rfl (fun _ => ?_); simp only [hpg]) | (refine Zn ?_; try intro _)) <;> ((try simp only [kM, kN, kO]); refine Za ?_; refine Zq ?_)))
     all_goals (first | (refine Zr (i := 7) ?_; ((try refine Zp ?_); (first | (refine Zt rfl rfl rfl rfl (by simp) rfl rfl (fun _ => ?_); simp only [hpg]) | (refine Zn ?_; try intro _)) <;> ((try simp only [kM, kN, kO]); refine Za ?_; refine Zq ?_))) | (refine Zr (i := 3) ?_; ((try refine Zp ?_); (first | (refine Ze (.func 231) ?_; refine qC rfl rfl (key_spec _ v _ X sp hown3 (by omega) x.t x.id hko.1.1 (by omega) hid) ?_; rintro v2 ρ4 L2 hle0 ⟨hle4, sp4, hown4, rfl⟩; simp only [List.cons_append, List.nil_append]) | (refine Zn ?_; try intro _)) <;> ((try simp only [kM, kN, kO]); refine Za ?_; refine Zq ?_))))
     all_goals (refine Zr (i := 8) ?_; ((try refine Zp ?_); (first | (refine Ze (.func 231) ?_; refine qC rfl rfl (key_spec _ v _ X sp hown3 (by omega) x.t x.id hko.1.1 (by omega) hid) ?_; rintro v2 ρ4 L2 hle0 ⟨hle4, sp4, hown4, rfl⟩; simp only [List.cons_append, List.nil_append]) | (refine YM (ys := [ZI (tB x.page)]) (m := 1) rfl rfl hown4 (hR := by infer_instance) SrcV.lit rfl rfl (by decide) rfl (by omega) (by omega) rfl (fun v5 sp5 hown5 => ?_); rw [show (X ++ keyB x.t x.id).map ZI ++ [ZI (tB x.page)] = (X ++ keyB x.t x.id ++ [tB x.page]).map ZI by simp, hmm] at hown5 ⊢; rw [hll] at hown5) | (refine Zn ?_; try intro _)) <;> ((try simp only [kM, kN, kO]); refine Za ?_; refine Zq ?_)))
     all_goals (refine Ya ?_; refine rAs 9 ?_; refine ZO ?_)
     all_goals (repeat' (first | (refine Zg ?_; first | (refine Zf ?_; refine qQ ?_) | refine Zn ?_) | refine Za ?_ | (refine Zh ?_; refine Zu ?_) | (refine Zi ?_; refine Zv ?_) | intro _))
     all_goals refine ZB (j + 1, _, v5, sp5) (⟨hlj, Hp.le_trans hle3 (by assumption), hown5⟩) Zw Zw rfl tk inferInstance (by first | omega | (dsimp only; omega))
    ·have hj2 : j = kn := by omega
     subst hj2
     rw [List.take_of_length_le (by omega)] at hown3 ⊢
     have hfin : B0 ++ (rows.flatMap Yb ++ kids.flatMap Xx) = Xn ⟨kind, rows, kids⟩ := by rw [← hB0]; simp [Xn]
     rw [hfin] at hown3 ⊢
     repeat' (first | (refine Zg ?_; first | (refine Zf ?_; refine qQ ?_) | refine Zn ?_) | refine Za ?_ | (refine Zh ?_; refine Zu ?_) | (refine Zi ?_; refine Zv ?_) | intro _)
     refine te_freeze _ (h := Rem.here) (fun ρ6 hle6 hfz => ?_)
     obtain ⟨a6, c6, rfl, hc6, hs6⟩ := hown3.sIn hfz
     exact qE ⟨Hp.le_trans hle1 (Hp.le_trans hle3 hle6), a6, _, c6, rfl, hc6, hs6, rfl⟩
instance : Fun Tryz.prog 95 := mkFun (by kernel_rfl)
instance (priority := 1200) eqRow {x y : Row} : EqC Tryz.prog 8 130 (.agg ⟨rowV x⟩) (.agg ⟨rowV y⟩) (decide (x = y)) := by
 have h : EqC Tryz.prog 8 130 (.agg ⟨[.int .i64 x.t, .int .u16 x.id, .int .i64 x.val, strV x.note]⟩) (.agg ⟨[.int .i64 y.t, .int .u16 y.id, .int .i64 y.val, strV y.note]⟩) _ := inferInstance
 refine ⟨fun d w hd => ?_⟩
 rw [h.out d w hd]
 congr 1
 obtain ⟨t, i, v, n⟩ := x
 obtain ⟨t', i', v', n'⟩ := y
 simp only [Row.mk.injEq, Bool.and_true, Bool.decide_and]
 have e : ((i : Int) == (i' : Int)) = decide (i = i') := by
  by_cases h : i = i'
  ·subst h; simp
  ·rw [decide_eq_false h]; simp only [beq_eq_false_iff_ne, ne_eq]; omega
 rw [e]
 by_cases h1 : t = t' <;> by_cases h2 : i = i' <;> by_cases h3 : v = v' <;> simp [h1, h2, h3]
instance (priority := 1200) eqKid {x y : Kid} : EqC Tryz.prog 8 149 (.agg ⟨kidV x⟩) (.agg ⟨kidV y⟩) (decide (x = y)) := by
 have h : EqC Tryz.prog 8 149 (.agg ⟨[.int .i64 x.t, .int .u16 x.id, .int .i64 x.page]⟩) (.agg ⟨[.int .i64 y.t, .int .u16 y.id, .int .i64 y.page]⟩) _ := inferInstance
 refine ⟨fun d w hd => ?_⟩
 rw [h.out d w hd]
 congr 1
 obtain ⟨t, i, v⟩ := x
 obtain ⟨t', i', v'⟩ := y
 simp only [Kid.mk.injEq, Bool.and_true, Bool.decide_and]
 have e : ((i : Int) == (i' : Int)) = decide (i = i') := by
  by_cases h : i = i'
  ·subst h; simp
  ·rw [decide_eq_false h]; simp only [beq_eq_false_iff_ne, ne_eq]; omega
 rw [e]
 by_cases h1 : t = t' <;> by_cases h2 : i = i' <;> by_cases h3 : v = v' <;> simp [h1, h2, h3]
structure RowFit (r : Row) : Prop where
 id : r.id < 65536
 val : -9223372036854775808 ≤ r.val ∧ r.val ≤ 9223372036854775807
structure KidFit (k : Kid) : Prop where
 id : k.id < 65536
 t : 0 ≤ k.t ∧ k.t < 256
 page : 0 ≤ k.page ∧ k.page < 256
structure ContFit (c : Cont) : Prop where
 row : ∀ r ∈ c.rows, RowFit r
 kid : ∀ k ∈ c.kids, KidFit k
theorem contB_len {c : Cont} (h : YA c = true) : (Xn c).length ≤ 82 := by
 have hF := contOk_facts h
 have h1 := Ye Yb 20 c.rows (fun x hx => rowB_le (hF.row x hx))
 have h2 := Ye Xx 4 c.kids (fun x hx => Nat.le_of_eq (kidB_len x))
 have h3 : (cntB c).length ≤ 1 := by unfold cntB; split <;> simp
 have hk := hF.kind
 have hrl := hF.rl
 have hkl := hF.kl
 simp only [Xn, List.length_cons, List.length_append]
 have er : c.rows = [] → (c.rows.flatMap Yb).length = 0 := fun e => by rw [e]; rfl
 have ek : c.kids = [] → (c.kids.flatMap Xx).length = 0 := fun e => by rw [e]; rfl
 rcases hk with ⟨_, hr, hk⟩ | ⟨_, hk⟩ | ⟨_, hr, _⟩
 ·have := er hr; have := ek hk; omega
 ·have := ek hk; omega
 ·have := er hr; omega
structure CI (ρ : Hp) (v : CV) (c : Cont) : Prop where
 cin : CIn ρ v c.rows c.kids
 row : ∀ r ∈ c.rows, RowFit r
 kid : ∀ k ∈ c.kids, k.id < 65536
theorem CI.mono {ρ ρ' v c} (h : CI ρ v c) (hle : ρ.le ρ') : CI ρ' v c := ⟨h.cin.mono hle, h.row, h.kid⟩
theorem CI.nil {ρ : Hp} : CI ρ ⟨none, 0, 0, none, 0, 0⟩ ⟨0, [], []⟩ := ⟨CIn.nil, by simp, by simp⟩
structure Im where
 page : Int
 bv : CV
 b : Cont
 av : CV
 a : Cont
abbrev imV (x : Im) : List Value := [.int .i64 x.page, .int .i64 x.b.kind, .slice x.bv.ra x.bv.rn x.bv.rc, .slice x.bv.ka x.bv.kn x.bv.kc, .int .i64 x.a.kind, .slice x.av.ra x.av.rn x.av.rc, .slice x.av.ka x.av.kn x.av.kc]
structure Im.In (ρ : Hp) (x : Im) : Prop where
 b : CI ρ x.bv x.b
 a : CI ρ x.av x.a
theorem Im.In.mono {ρ ρ' x} (h : Im.In ρ x) (hle : ρ.le ρ') : Im.In ρ' x := ⟨h.b.mono hle, h.a.mono hle⟩
abbrev Im.says (x : Im) : Int × Cont × Cont := (x.page, x.b, x.a)
structure Stp where
 kind : Int
 row : Row
 by' : Int
deriving DecidableEq
abbrev stpV (s : Stp) : List Value := [.int .i64 s.kind, .int .i64 s.row.t, .int .u16 s.row.id, .int .i64 s.row.val, strV s.row.note, .int .i64 s.by']
structure CkT where
 txn : Int
 first : Nat
 last : Nat
 undo : Nat
 state : Int
deriving DecidableEq
abbrev ckTV (t : CkT) : List Value := [.int .i64 t.txn, .int .u64 t.first, .int .u64 t.last, .int .u64 t.undo, .int .i64 t.state]
structure CkP where
 page : Int
 since : Nat
deriving DecidableEq
abbrev ckPV (p : CkP) : List Value := [.int .i64 p.page, .int .u64 p.since]
structure Rc where
 kind : Int
 lsn : Nat
 txn : Int
 prev : Nat
 next : Nat
 ims : List Im
 steps : List Stp
 nextTxn : Int
 txns : List CkT
 dirty : List CkP
structure SV where
 a : Option Addr
 n : Nat
 c : Nat
abbrev SV.v (s : SV) : Value := .slice s.a s.n s.c
structure RV where
 i : SV
 s : SV
 t : SV
 d : SV
abbrev Xq (v : RV) (r : Rc) : List Value := [.int .i64 r.kind, .int .u64 r.lsn, .int .i64 r.txn, .int .u64 r.prev, .int .u64 r.next, .slice v.i.a v.i.n v.i.c, .slice v.s.a v.s.n v.s.c, .int .i64 r.nextTxn, .slice v.t.a v.t.n v.t.c, .slice v.d.a v.d.n v.d.c]
structure AS (ρ : Hp) (sz : Nat) {α : Type} (g : α → List Value) (s : SV) (l : List α) : Prop where
 at' : AIn ρ sz g s.a s.n l
 big : s.n ≤ 1000000
 cap : s.n ≤ s.c
theorem AS.mono {ρ ρ' : Hp} {sz : Nat} {α : Type} {g : α → List Value} {s : SV} {l : List α} (h : AS ρ sz g s l) (hle : ρ.le ρ') : AS ρ' sz g s l := ⟨h.at'.mono hle, h.big, h.cap⟩
theorem AS.nil {ρ : Hp} {sz : Nat} {α : Type} {g : α → List Value} : AS ρ sz g ⟨none, 0, 0⟩ [] := ⟨AIn.nil, Nat.zero_le _, Nat.le_refl _⟩
structure RcIn (ρ : Hp) (v : RV) (r : Rc) : Prop where
 i : AS ρ 7 imV v.i r.ims
 im : ∀ x ∈ r.ims, Im.In ρ x
 s : AS ρ 6 stpV v.s r.steps
 t : AS ρ 5 ckTV v.t r.txns
 d : AS ρ 2 ckPV v.d r.dirty
 sf : ∀ s ∈ r.steps, RowFit s.row
theorem RcIn.mono {ρ ρ' v r} (h : RcIn ρ v r) (hle : ρ.le ρ') : RcIn ρ' v r := ⟨h.i.mono hle, fun x hx => (h.im x hx).mono hle, h.s.mono hle, h.t.mono hle, h.d.mono hle, h.sf⟩
def upB {α : Type} (right : α → Bool) (by' : α → Int) (l : List α) (k : Nat) : Bool := ZN l.length (fun _ x => right x) (fun y x => decide (by' y < by' x)) l k
def pageOk (n : Int) : Bool := decide (0 ≤ n ∧ n < 64)
def imOk (before : Bool) (x : Im) : Bool := pageOk x.page && (YA x.a && (YA x.b && (before || decide (x.b.kind = 0))))
def imsOk (before : Bool) (l : List Im) : Bool := decide (l.length ≤ 16) && upB (imOk before) Im.page l l.length
def onlyOk (s : Stp) : Bool := decide (s.row.val = 0 ∧ s.row.note = []) && decide (0 ≤ s.row.t ∧ s.row.t < 3)
def YL (s : Stp) : Bool :=
 if s.kind = 1 then onlyOk s
 else if s.kind = 4 then onlyOk s && decide (s.by' = 0)
 else if s.kind = 2 ∨ s.kind = 3 then decide (s.by' = 0) && Xj s.row
 else false
def ckTOk (lsn : Nat) (next : Int) (t : CkT) : Bool := decide (1 ≤ t.txn ∧ t.txn < next ∧ 1 ≤ t.first ∧ t.first ≤ t.last ∧ t.last < lsn ∧ t.undo ≤ t.last ∧ 1 ≤ t.state ∧ t.state ≤ 3)
def ckPOk (lsn : Nat) (p : CkP) : Bool := pageOk p.page && decide (1 ≤ p.since ∧ p.since < lsn)
def headOk (r : Rc) : Bool := decide (1 ≤ r.lsn ∧ r.lsn ≤ 1099511627776 ∧ r.prev < r.lsn ∧ 0 ≤ r.txn ∧ r.txn ≤ 1073741824 ∧ (r.kind = 9 ↔ r.txn = 0) ∧ ((r.kind = 9 ∨ r.kind = 1) ↔ r.prev = 0))
def askOk (r : Rc) : Bool :=
 if r.kind = 2 then decide (0 < r.ims.length) && imsOk true r.ims
 else if r.kind = 3 then decide (r.next < r.prev)
 else if r.kind = 4 then decide (r.next < r.prev) && (decide (0 < r.steps.length ∧ r.steps.length ≤ 2) && r.steps.all YL)
 else if r.kind = 5 then decide (r.next < r.lsn) && imsOk false r.ims
 else if r.kind = 9 then decide (1 ≤ r.nextTxn ∧ r.nextTxn ≤ 1073741824 ∧ r.txns.length ≤ 8) && (upB (ckTOk r.lsn r.nextTxn) CkT.txn r.txns r.txns.length && upB (ckPOk r.lsn) CkP.page r.dirty r.dirty.length)
 else true
def bareOk (r : Rc) : Bool := decide (
 (r.next = 0 ∨ r.kind = 3 ∨ r.kind = 4 ∨ r.kind = 5) ∧ (r.ims = [] ∨ r.kind = 2 ∨ r.kind = 5) ∧ (r.steps = [] ∨ r.kind = 4) ∧
 ((r.txns = [] ∧ r.dirty = [] ∧ r.nextTxn = 0) ∨ r.kind = 9))
def Xa (r : Rc) : Bool := decide (1 ≤ r.kind ∧ r.kind ≤ 9) && (headOk r && (askOk r && bareOk r))
def imB (two : Bool) (x : Im) : List UInt8 := tB x.page :: ((if two then Xn x.b else []) ++ Xn x.a)
def stpB (s : Stp) : List UInt8 := tB s.kind :: (if s.kind = 2 ∨ s.kind = 3 then Yb s.row else tB s.row.t :: (be 2 s.row.id ++ (if s.kind = 1 then be 8 (vN s.by') else [])))
def ckTB (t : CkT) : List UInt8 := be 4 t.txn.toNat ++ (be 8 t.first ++ (be 8 t.last ++ (be 8 t.undo ++ [tB t.state])))
def ckPB (p : CkP) : List UInt8 := tB p.page :: be 8 p.since
def Xp {α : Type} (f : α → List UInt8) (l : List α) : List UInt8 := UInt8.ofNat l.length :: l.flatMap f
def recHB (r : Rc) : List UInt8 := tB r.kind :: (be 8 r.lsn ++ (be 4 r.txn.toNat ++ be 8 r.prev))
def imsB (r : Rc) : List UInt8 := Xp (imB (decide (r.kind = 2))) r.ims
def recTB (r : Rc) : List UInt8 :=
 if r.kind = 2 then imsB r else if r.kind = 3 then be 8 r.next else if r.kind = 4 then be 8 r.next ++ Xp stpB r.steps else if r.kind = 5 then be 8 r.next ++ imsB r
 else if r.kind = 9 then be 4 r.nextTxn.toNat ++ (Xp ckTB r.txns ++ Xp ckPB r.dirty) else []
def XA (r : Rc) : List UInt8 := recHB r ++ recTB r
structure LayOk (r : Rc) : Prop where
 kind : 0 ≤ r.kind ∧ r.kind < 256
 lsn : r.lsn < 18446744073709551616
 prev : r.prev < 18446744073709551616
 next : r.next < 18446744073709551616
 txn : 0 ≤ r.txn ∧ r.txn < 4294967296
 nextTxn : 0 ≤ r.nextTxn ∧ r.nextTxn < 4294967296
 il : r.ims.length ≤ 16
 im : ∀ x ∈ r.ims, (0 ≤ x.page ∧ x.page < 64) ∧ YA x.a = true ∧ YA x.b = true
 sl : r.steps.length ≤ 2
 st : ∀ s ∈ r.steps, YL s = true
 tl : r.txns.length ≤ 8
 tx : ∀ t ∈ r.txns, (0 ≤ t.txn ∧ t.txn < 4294967296) ∧ t.first < 18446744073709551616 ∧ t.last < 18446744073709551616 ∧ t.undo < 18446744073709551616 ∧ 0 ≤ t.state ∧ t.state < 256
 dl : r.dirty.length ≤ 64
 di : ∀ p ∈ r.dirty, (0 ≤ p.page ∧ p.page < 64) ∧ p.since < 18446744073709551616
abbrev wrC (wb : Nat) (v : RV) (r : Rc) (w : Value) : List (Nat × Obj) := [(wb, .cells ⟨[.int .i64 r.kind, .int .u64 r.lsn, .int .i64 r.txn, .int .u64 r.prev, .int .u64 r.next, .slice v.i.a v.i.n v.i.c, .slice v.s.a v.s.n v.s.c, .int .i64 r.nextTxn, .slice v.t.a v.t.n v.t.c, .slice v.d.a v.d.n v.d.c, w]⟩ 263 (0, 0))]
abbrev OwnB (w : Value) (l : List UInt8) (sp : List Value) : Prop := OwnS w l.length (l.map ZI) sp 1
abbrev Xf (w : Value) (l : List UInt8) (sp : List Value) : List (Nat × Obj) := Yd w (l.map ZI) sp 5
abbrev WrP (ρ : Hp) (wb : Nat) (v : RV) (r : Rc) (l : List UInt8) (z : Value) (ρ' : Hp) (L' : List (List (Nat × Obj))) : Prop :=
 z = .tuple ⟨[]⟩ ∧ ρ.le ρ' ∧ ∃ w' sp', OwnB w' l sp' ∧ L' = [Xf w' l sp', wrC wb v r w']
theorem put32_spec (ρ : Hp) (a : Option Addr) (n c : Nat) (l : List UInt8) (h : SIn ρ ZI a n l) (x : Nat) (hx : x < 4294967296) (hn : n ≤ 1000000) :
  Spec Tryz.prog 179 [.slice a n c, .int .u32 x] ρ [] (fun v ρ' L' => ρ' = ρ ∧ ∃ sp, OwnS v (n + 4) ((l ++ be 4 x).map ZI) sp 1 ∧ L' = [Yd v ((l ++ be 4 x).map ZI) sp 5]) := by
 have hw : IntKind.u64.wrap (x : Int) = x := XF (by simp only [lo, hi]; omega)
 have hs := stand_spec ρ a n c l h x 4 (by omega) (by omega) (by omega) hn
 refine Zd Tryz.func179 rfl rfl rfl fun u R => ?_
 simp only [Zo, List.cons_append, List.nil_append]
 repeat' (first | (refine iCv ?_; refine tl_y (y_conv rfl) rfl rfl ?_; rw [hw]) | (refine Ze (.func 232) ?_; refine qC rfl rfl (hs) ?_; rintro v ρ' L' hle ⟨rfl, sp, hown, rfl⟩ <;> (try simp only [kM, kN, kO])) | (refine Zg ?_; first | (refine Zf ?_; refine qQ ?_) | refine Zn ?_) | refine Za ?_ | (refine Zh ?_; refine Zu ?_) | (refine Zi ?_; refine Zv ?_) | intro _)
 exact qE ⟨rfl, sp, hown, rfl⟩
theorem flatMap_app {α : Type} (f : α → List UInt8) (l : List α) : ∀ k (h : k < l.length), (l.take (k + 1)).flatMap f = (l.take k).flatMap f ++ f (l[k]'h) := fun k h => YQ f l k h
theorem wbytes_spec (ρ : Hp) (wb : Nat) (v : RV) (r : Rc) (w : Value) (l : List UInt8) (sp : List Value) (hown : OwnB w l sp) (hn : l.length ≤ 100000) (a : Option Addr) (m c : Nat) (ns : List Int) (h : SIn ρ (fun x : Int => Value.int .i64 x) a m ns) (hb : ∀ x ∈ ns, 0 ≤ x ∧ x < 256) (hm : m ≤ 10) :
  Spec Tryz.prog 165 [.pointer (some ⟨wb, 0, none⟩), .slice a m c] ρ [Xf w l sp, wrC wb v r w] (WrP ρ wb v r (l ++ ns.map tB)) := by
 have hl := h.len
 refine Zd Tryz.func165 rfl rfl rfl fun u R => ?_
 simp only [Zo, List.cons_append, List.nil_append]
 repeat' (first | (refine Zg ?_; first | (refine Zf ?_; refine qQ ?_) | refine Zn ?_) | refine Za ?_ | (refine Zh ?_; refine Zu ?_) | (refine Zi ?_; refine Zv ?_) | intro _)
 rw [show Xf w l sp = Xf w (l ++ (ns.take 0).map tB) sp by simp]
 refine ZP [(0, _), (6, _), (7, _)] (fun (ζ : (Nat) × (Value) × (List Value)) => [(8, .int .i64 ζ.1)]) (fun (ζ : (Nat) × (Value) × (List Value)) => ρ) (fun (ζ : (Nat) × (Value) × (List Value)) => [Xf ζ.2.1 (l ++ (ns.take ζ.1).map tB) ζ.2.2, wrC wb v r ζ.2.1]) (fun (ζ : (Nat) × (Value) × (List Value)) => ζ.1 ≤ m ∧ OwnB ζ.2.1 (l ++ (ns.take ζ.1).map tB) ζ.2.2) (fun (ζ : (Nat) × (Value) × (List Value)) => m - ζ.1) ((0, w, sp)) (⟨Nat.zero_le _, by simpa using hown⟩) Zw Zw rfl tk ?_
 rintro ⟨k, w1, sp1⟩ hI
 try simp only [List.cons_append, List.nil_append, List.append_assoc, List.append_eq] at hI ⊢
 try dsimp only at hI ⊢
 obtain ⟨hk, hown1⟩ := hI
 by_cases hlt : k < m
 ·obtain ⟨b, off, C, T, fr, e1, hbb, hcc⟩ := h.get (show k < ns.length by omega)
  have hts := List.take_succ_eq_append_getElem (show k < ns.length by omega)
  have hx := hb _ (List.getElem_mem (show k < ns.length by omega))
  generalize ns[k]'(by omega) = x at *
  have hxl : (l ++ (ns.take k).map tB).length ≤ 100010 := by simp; omega
  have hmm : (l ++ (ns.take k).map tB).map ZI ++ [ZI (tB x)] = (l ++ (ns.take (k + 1)).map tB).map ZI := by rw [hts]; simp
  have hll : (l ++ (ns.take k).map tB).length + 1 = (l ++ (ns.take (k + 1)).map tB).length := by rw [hts]; simp; omega
  have hxB := tB_eq hx.1 hx.2
  generalize hX : l ++ (ns.take k).map tB = X at *
  obtain ⟨va, vc, rfl, _⟩ := hown1.slice
  rw [e1]
  repeat' (first | (refine Zt rfl rfl rfl rfl (by simp) rfl rfl (fun _ => ?_); simp only [hxB]) | (refine YM (ys := [ZI (tB x)]) (m := 1) rfl rfl hown1 (hR := by infer_instance) SrcV.lit rfl rfl (by decide) rfl (by omega) (by omega) rfl (fun v' sp' hown' => ?_); rw [hmm] at hown' ⊢; rw [hll] at hown'; obtain ⟨va', vc', rfl, _⟩ := hown'.slice) | (refine Zg ?_; first | (refine Zf ?_; refine qQ ?_) | refine Zn ?_) | refine Za ?_ | (refine Zh ?_; refine Zu ?_) | (refine Zi ?_; refine Zv ?_) | intro _)
  rw [← e1]
  refine ZB (k + 1, _, sp') (⟨hlt, hown'⟩) Zw Zw rfl tk inferInstance (by first | omega | (dsimp only; omega))
 ·have hk2 : k = m := by omega
  rw [show ns.take k = ns by rw [hk2, ← hl, List.take_length]] at hown1 ⊢
  repeat' (first | (refine Zg ?_; first | (refine Zf ?_; refine qQ ?_) | refine Zn ?_) | refine Za ?_ | (refine Zh ?_; refine Zu ?_) | (refine Zi ?_; refine Zv ?_) | intro _)
  exact qE ⟨rfl, Hp.le_refl _, w1, sp1, hown1, rfl⟩
theorem wlongs_spec (ρ : Hp) (wb : Nat) (v : RV) (r : Rc) (w : Value) (l : List UInt8) (sp : List Value) (hown : OwnB w l sp) (hn : l.length ≤ 100000) (a : Option Addr) (m c : Nat) (ns : List Nat) (h : SIn ρ (fun x : Nat => Value.int .u64 (x : Int)) a m ns) (hb : ∀ x ∈ ns, x < 18446744073709551616) (hm : m ≤ 10) :
  Spec Tryz.prog 166 [.pointer (some ⟨wb, 0, none⟩), .slice a m c] ρ [Xf w l sp, wrC wb v r w] (WrP ρ wb v r (l ++ ns.flatMap (be 8))) := by
 have hl := h.len
 refine Zd Tryz.func166 rfl rfl rfl fun u R => ?_
 simp only [Zo, List.cons_append, List.nil_append]
 repeat' (first | (refine Zg ?_; first | (refine Zf ?_; refine qQ ?_) | refine Zn ?_) | refine Za ?_ | (refine Zh ?_; refine Zu ?_) | (refine Zi ?_; refine Zv ?_) | intro _)
 rw [show Xf w l sp = Xf w (l ++ (ns.take 0).flatMap (be 8)) sp by simp]
 refine ZP [(0, _), (6, _), (7, _)] (fun (ζ : (Nat) × (Hp) × (Value) × (List Value)) => [(8, .int .i64 ζ.1)]) (fun (ζ : (Nat) × (Hp) × (Value) × (List Value)) => ζ.2.1) (fun (ζ : (Nat) × (Hp) × (Value) × (List Value)) => [Xf ζ.2.2.1 (l ++ (ns.take ζ.1).flatMap (be 8)) ζ.2.2.2, wrC wb v r ζ.2.2.1]) (fun (ζ : (Nat) × (Hp) × (Value) × (List Value)) => ζ.1 ≤ m ∧ ρ.le ζ.2.1 ∧ OwnB ζ.2.2.1 (l ++ (ns.take ζ.1).flatMap (be 8)) ζ.2.2.2) (fun (ζ : (Nat) × (Hp) × (Value) × (List Value)) => m - ζ.1) ((0, ρ, w, sp)) (⟨Nat.zero_le _, Hp.le_refl _, by simpa using hown⟩) Zw Zw rfl tk ?_
 rintro ⟨k, ρ1, w1, sp1⟩ hI
 try simp only [List.cons_append, List.nil_append, List.append_assoc, List.append_eq] at hI ⊢
 try dsimp only at hI ⊢
 obtain ⟨hk, hle1, hown1⟩ := hI
 by_cases hlt : k < m
 ·obtain ⟨b, off, C, T, fr, e1, hbb, hcc⟩ := (h.mono hle1).get (show k < ns.length by omega)
  have hts := flatMap_app (be 8) ns k (by omega)
  have hx := hb _ (List.getElem_mem (show k < ns.length by omega))
  have hfl := Ye (be 8) 8 (ns.take k) (fun x _ => Nat.le_of_eq (Zk 8 x))
  have htl : (ns.take k).length ≤ 10 := by simp; omega
  generalize ns[k]'(by omega) = x at *
  have hxl : (l ++ (ns.take k).flatMap (be 8)).length ≤ 100080 := by simp only [List.length_append]; omega
  have hmm : l ++ (ns.take k).flatMap (be 8) ++ be 8 x = l ++ (ns.take (k + 1)).flatMap (be 8) := by rw [hts]; simp
  have hll : (l ++ (ns.take k).flatMap (be 8)).length + 8 = (l ++ (ns.take (k + 1)).flatMap (be 8)).length := by rw [hts]; simp [Zk]; omega
  generalize hX : l ++ (ns.take k).flatMap (be 8) = X at *
  obtain ⟨va, vc, rfl, _⟩ := hown1.slice
  rw [e1]
  repeat' (first | (refine Ze (.func 178) ?_; refine ZT (Yd (.slice va X.length vc) (X.map ZI) sp1 5) (h := by repeat (first | exact ZU | apply ZX)) (fun ρ2 hle2 hfz => ?_); obtain ⟨a1, c1, f1, hc1, hs1⟩ := hown1.sIn hfz; cases f1; refine qC rfl rfl (put64_spec _ va _ vc _ hs1 x hx (by omega)) ?_; rintro v' ρ3 L3 hle3 ⟨rfl, sp3, hown3, rfl⟩; simp only [List.cons_append, List.nil_append]; rw [hmm, hll] at hown3; rw [hmm]; obtain ⟨va', vc', rfl, _⟩ := hown3.slice) | (refine Zg ?_; first | (refine Zf ?_; refine qQ ?_) | refine Zn ?_) | refine Za ?_ | (refine Zh ?_; refine Zu ?_) | (refine Zi ?_; refine Zv ?_) | intro _)
  rw [← e1]
  refine ZB (k + 1, ρ3, _, sp3) (⟨hlt, Hp.le_trans hle1 hle2, hown3⟩) Zw Zw rfl tk inferInstance (by first | omega | (dsimp only; omega))
 ·have hk2 : k = m := by omega
  rw [show ns.take k = ns by rw [hk2, ← hl, List.take_length]] at hown1 ⊢
  repeat' (first | (refine Zg ?_; first | (refine Zf ?_; refine qQ ?_) | refine Zn ?_) | refine Za ?_ | (refine Zh ?_; refine Zu ?_) | (refine Zi ?_; refine Zv ?_) | intro _)
  exact qE ⟨rfl, hle1, w1, sp1, hown1, rfl⟩
theorem wtxn_spec (ρ : Hp) (wb : Nat) (v : RV) (r : Rc) (w : Value) (l : List UInt8) (sp : List Value) (hown : OwnB w l sp) (hn : l.length ≤ 100000) (x : Int) (h0 : 0 ≤ x ∧ x < 4294967296) :
  Spec Tryz.prog 167 [.pointer (some ⟨wb, 0, none⟩), .int .i64 x] ρ [Xf w l sp, wrC wb v r w] (WrP ρ wb v r (l ++ be 4 x.toNat)) := by
 have hll : l.length + 4 = (l ++ be 4 x.toNat).length := by simp [Zk]
 obtain ⟨va, vc, rfl, _⟩ := hown.slice
 obtain ⟨y, rfl⟩ : ∃ y : Nat, x = y := ⟨x.toNat, by omega⟩
 simp only [Int.toNat_natCast] at hll ⊢
 refine Zd Tryz.func167 rfl rfl rfl fun u R => ?_
 simp only [Zo, List.cons_append, List.nil_append]
 repeat' (first | (refine Ze (.func 179) ?_; refine ZT (Yd (.slice va l.length vc) (l.map ZI) sp 5) (h := by repeat (first | exact ZU | apply ZX)) (fun ρ2 hle2 hfz => ?_); obtain ⟨a1, c1, f1, hc1, hs1⟩ := hown.sIn hfz; cases f1; refine qC rfl rfl (put32_spec _ va _ vc _ hs1 y (by omega) (by omega)) ?_; rintro v' ρ3 L3 hle3 ⟨rfl, sp3, hown3, rfl⟩; simp only [List.cons_append, List.nil_append]; rw [hll] at hown3; obtain ⟨va', vc', rfl, _⟩ := hown3.slice) | (refine Zg ?_; first | (refine Zf ?_; refine qQ ?_) | refine Zn ?_) | refine Za ?_ | (refine Zh ?_; refine Zu ?_) | (refine Zi ?_; refine Zv ?_) | intro _)
 exact qE ⟨rfl, hle2, _, sp3, hown3, rfl⟩
theorem wcontent_spec (ρ : Hp) (wb : Nat) (v : RV) (r : Rc) (w : Value) (l : List UInt8) (sp : List Value) (hown : OwnB w l sp) (hn : l.length ≤ 100000) (cv : CV) (c : Cont) (h : CI ρ cv c) (hok : YA c = true) :
  Spec Tryz.prog 219 [.pointer (some ⟨wb, 0, none⟩), .agg ⟨contV c.kind cv⟩] ρ [Xf w l sp, wrC wb v r w] (WrP ρ wb v r (l ++ Xn c)) := by
 have hce := contE_spec ρ cv c h.cin (fun r hr => (h.row r hr).id) h.kid
 rw [if_pos hok, if_pos hok] at hce
 have h82 := contB_len hok
 obtain ⟨va, vc, rfl, _⟩ := hown.slice
 refine Zd Tryz.func219 rfl rfl rfl fun u R => ?_
 simp only [Zo, List.cons_append, List.nil_append]
 repeat' (first | (refine Ze (.func 177) ?_; refine qC rfl rfl (hce) ?_; rintro v ρ' L' hle ⟨hle1, a1, n1, c1, rfl, hc1, hs1, rfl⟩ <;> (try simp only [kM, kN, kO])) | (have hn1 := hs1.len; refine YM (ys := (Xn c).map ZI) (m := n1) (sz := 1) rfl rfl hown (hR := by infer_instance) (SIn.srcV hs1) (by simpa using hs1.len) (Xy _) (by decide) rfl (by omega) (by omega) rfl (fun v' sp' hown' => ?_); rw [← List.map_append] at hown' ⊢; rw [← hs1.len, ← List.length_append] at hown'; obtain ⟨va', vc', rfl, _⟩ := hown'.slice) | (refine Zg ?_; first | (refine Zf ?_; refine qQ ?_) | refine Zn ?_) | refine Za ?_ | (refine Zh ?_; refine Zu ?_) | (refine Zi ?_; refine Zv ?_) | intro _)
 exact qE ⟨rfl, hle1, _, sp', hown', rfl⟩
theorem sIn_lit {α : Type} {g : α → Value} {ρ : Hp} {b : Nat} {l : List α} {T : TypeId} {fr : Nat × Nat} (h : ρ b = some (.cells ⟨l.map g⟩ T fr)) : SIn ρ g (some ⟨b, 0, none⟩) l.length l :=
 ⟨rfl, .inr ⟨b, 0, _, T, fr, rfl, h, by rw [List.drop_zero, List.take_of_length_le (by simp)]⟩⟩
abbrev iV (x : Int) : Value := .int .i64 x
abbrev lV (x : Nat) : Value := .int .u64 (x : Int)
theorem Yo (ρ : Hp) (wb : Nat) (v : RV) (r : Rc) (w : Value) (l : List UInt8) (sp : List Value) (hown : OwnB w l sp) (hn : l.length ≤ 100000) (b : Nat) (x : Int) {T : TypeId} {fr : Nat × Nat} (h : ρ b = some (.cells ⟨[.int .i64 x]⟩ T fr)) (hb : 0 ≤ x ∧ x < 256) :
  Spec Tryz.prog 165 [.pointer (some ⟨wb, 0, none⟩), .slice (some ⟨b, 0, none⟩) 1 1] ρ [Xf w l sp, wrC wb v r w] (WrP ρ wb v r (l ++ [tB x])) :=
 wbytes_spec ρ wb v r w l sp hown hn _ 1 1 [x] (sIn_lit (l := [x]) (g := iV) h) (fun y hy => by rw [List.mem_singleton.1 hy]; exact hb) (by decide)
theorem wlong_spec (ρ : Hp) (wb : Nat) (v : RV) (r : Rc) (w : Value) (l : List UInt8) (sp : List Value) (hown : OwnB w l sp) (hn : l.length ≤ 100000) (b : Nat) (x : Nat) {T : TypeId} {fr : Nat × Nat} (h : ρ b = some (.cells ⟨[.int .u64 (x : Int)]⟩ T fr)) (hb : x < 18446744073709551616) :
  Spec Tryz.prog 166 [.pointer (some ⟨wb, 0, none⟩), .slice (some ⟨b, 0, none⟩) 1 1] ρ [Xf w l sp, wrC wb v r w] (WrP ρ wb v r (l ++ be 8 x)) := by
 have := wlongs_spec ρ wb v r w l sp hown hn _ 1 1 [x] (sIn_lit (l := [x]) (g := lV) h) (fun y hy => by rw [List.mem_singleton.1 hy]; exact hb) (by decide)
 simpa only [List.flatMap_cons, List.flatMap_nil, List.append_nil] using this
theorem wlong3_spec (ρ : Hp) (wb : Nat) (v : RV) (r : Rc) (w : Value) (l : List UInt8) (sp : List Value) (hown : OwnB w l sp) (hn : l.length ≤ 100000) (b : Nat) (x y z : Nat) {T : TypeId} {fr : Nat × Nat} (h : ρ b = some (.cells ⟨[.int .u64 (x : Int), .int .u64 (y : Int), .int .u64 (z : Int)]⟩ T fr)) (hx : x < 18446744073709551616) (hy : y < 18446744073709551616) (hz : z < 18446744073709551616) :
  Spec Tryz.prog 166 [.pointer (some ⟨wb, 0, none⟩), .slice (some ⟨b, 0, none⟩) 3 3] ρ [Xf w l sp, wrC wb v r w] (WrP ρ wb v r (l ++ (be 8 x ++ (be 8 y ++ be 8 z)))) := by
 have := wlongs_spec ρ wb v r w l sp hown hn _ 3 3 [x, y, z] (sIn_lit (l := [x, y, z]) (g := lV) h) (fun q hq => by simp at hq; rcases hq with rfl | rfl | rfl <;> assumption) (by decide)
 simpa only [List.flatMap_cons, List.flatMap_nil, List.append_nil] using this
theorem wnested_spec (ρ : Hp) (wb : Nat) (v : RV) (r : Rc) (w : Value) (l : List UInt8) (sp : List Value) (hown : OwnB w l sp) (hn : l.length ≤ 90000) (h0 : r.next < 18446744073709551616) :
  Spec Tryz.prog 169 [.pointer (some ⟨wb, 0, none⟩)] ρ [Xf w l sp, wrC wb v r w] (WrP ρ wb v r (l ++ be 8 r.next)) := by
 have hρ := Hp.le_refl ρ
 refine Zd Tryz.func169 rfl rfl rfl fun u R => ?_
 simp only [Zo, List.cons_append, List.nil_append]
 repeat' (first | (refine Zt rfl rfl rfl rfl (by simp) rfl rfl (fun bs => ?_); refine ZT _ (h := Rem.here) (fun ρz hlz hfz => ?_); have hbs := hfz _ (List.mem_singleton.2 rfl); clear hfz; have hρ := Hp.le_trans hρ hlz; clear hlz; (try simp only [List.nil_append])) | (refine Ze (.func 166) ?_; refine qC rfl rfl (wlong_spec _ wb v r w l sp hown (by omega) _ r.next hbs h0) ?_; rintro v ρ' L' hle ⟨rfl, hl1, w1, sp1, hown, rfl⟩ <;> (try simp only [kM, kN, kO])) | (refine Zg ?_; first | (refine Zf ?_; refine qQ ?_) | refine Zn ?_) | refine Za ?_ | (refine Zh ?_; refine Zu ?_) | (refine Zi ?_; refine Zv ?_) | intro _)
 exact qE ⟨rfl, Hp.le_trans hρ hl1, w1, sp1, hown, rfl⟩
end Go.Proofs.E
