/- Laws of analysis. Part 10 of 37. -/
import Derived.Test.YtkbiahafeoillaaGreatB9
namespace Go.Proofs.E
open Go
set_option linter.unusedVariables false
set_option linter.unusedSimpArgs false
set_option linter.unusedSectionVars false
set_option maxRecDepth 4000
set_option maxHeartbeats 1000000
attribute [local irreducible] Yl TL TC TE Spec YY R1 Hp.le EnvLe TS TR YS Zq
structure MetOk (es : List MapEntry) (ps : List Int) : Prop where
 keys : YU .i64 es
 get : ∀ p, Xe es p = if p ∈ ps then some (.bool true) else none
theorem MetOk.nil : MetOk [] [] := ⟨by intro e he; simp at he, fun p => by simp [Xe]⟩
def kidOk (i : Nat) (ps : List Int) (k : Kid) : Bool := decide (k.page ∉ ps ∧ 0 < k.page ∧ k.page < 64 ∧ (0 ≤ k.t ∧ k.t < 3) ∧ (0 < i ∨ (k.t = 0 ∧ k.id = 0)))
theorem kidV_len (r : Kid) : (kidV r).length = 3 := rfl
theorem ZV (ρ : Hp) (r : Kid) : Spec Tryz.prog 209 [.agg ⟨kidV r⟩] ρ [] (fun v ρ' L' => v = .agg ⟨keyV r.t r.id⟩ ∧ ρ' = ρ ∧ L' = []) := by
 refine Zg Tryz.func209 rfl rfl rfl fun u R => ?_
 simp only [Zx, List.cons_append, List.nil_append]
 repeat' (first | (refine Zh ?_; first | (refine Zf ?_; refine qQ ?_) | refine Zm ?_) | refine Zb ?_ | (refine Zi ?_; refine Zr ?_) | (refine Zj ?_; refine Zs ?_) | intro _)
 exact qE ⟨rfl, rfl, rfl⟩
abbrev metL (bx mb : Nat) (es : List MapEntry) (ck : Nat) : SH := [[(bx, .cells ⟨[.map (some mb)]⟩ 246 (0, 0))], [(mb, .map ⟨es⟩ ck)]]
theorem YO (ρ : Hp) (bx mb : Nat) (es : List MapEntry) (ck : Nat) (ps : List Int) (hm : MetOk es ps) (i : Nat) (k : Kid) : Spec Tryz.prog 210 [.int .i64 i, .agg ⟨kidV k⟩, .pointer (some ⟨bx, 0, none⟩)] ρ (metL bx mb es ck)
  (fun v ρ' L' => v = .bool (kidOk i ps k) ∧ ρ' = ρ ∧ ∃ es' ck', MetOk es' (k.page :: ps) ∧ L' = metL bx mb es' ck') := by
 obtain ⟨t, id, page⟩ := k
 have hes := hm.keys
 have hg := hm.get page
 dsimp only at hg ⊢
 generalize hq : kidOk i ps ⟨t, id, page⟩ = q
 have hfin : ∀ es', YU .i64 es' → (∀ j, Xe es' j = if j = page then some (.bool true) else Xe es j) → MetOk es' (page :: ps) := fun es' h1 h2 => ⟨h1, fun p => by
  rw [h2 p, hm.get p]
  by_cases e : p = page <;> simp [e]⟩
 refine Zg Tryz.func210 rfl rfl rfl fun u R => ?_
 simp only [Zx, List.cons_append, List.nil_append]
 by_cases hp : page ∈ ps
 ·rw [if_pos hp] at hg
  have hq' : q = false := by rw [← hq]; exact decide_eq_false (fun h => h.1 hp)
  subst hq'
  repeat' (first | (refine Xu rfl rfl rfl hes (fun es' ck' h1 h2 => ?_)) | (refine Zh ?_; first | (refine Zf ?_; refine qQ ?_) | refine Zm ?_) | refine Zb ?_ | (refine Zi ?_; refine Zr ?_) | (refine Zj ?_; refine Zs ?_) | intro _)
  exact qE ⟨rfl, rfl, es', ck', hfin es' h1 h2, rfl⟩
 ·rw [if_neg hp] at hg
  by_cases hp0 : 0 < page
  ·by_cases hp6 : page < 64
   ·by_cases ht : 0 ≤ t ∧ t < 3
    ·have hd : decide (0 ≤ t ∧ t < 3) = true := decide_eq_true ht
     by_cases hi : 0 < i
     ·have hq' : q = true := by rw [← hq]; exact decide_eq_true ⟨hp, hp0, hp6, ht, .inl hi⟩
      subst hq'
      repeat' (first | (refine Xu rfl rfl rfl hes (fun es' ck' h1 h2 => ?_)) | (refine Ze (.func 191) ?_; refine qC rfl rfl (Wj _ _) ?_; rintro v ρ' L' hle ⟨rfl, rfl, rfl⟩ <;> (try simp only [kM, kN, kO, hd])) | (refine Zh ?_; first | (refine Zf ?_; refine qQ ?_) | refine Zm ?_) | refine Zb ?_ | (refine Zi ?_; refine Zr ?_) | (refine Zj ?_; refine Zs ?_) | intro _)
      exact qE ⟨rfl, rfl, es', ck', hfin es' h1 h2, rfl⟩
     ·by_cases hz : t = 0 ∧ id = 0
      ·have hq' : q = true := by rw [← hq]; exact decide_eq_true ⟨hp, hp0, hp6, ht, .inr hz⟩
       subst hq'
       obtain ⟨rfl, rfl⟩ := hz
       repeat' (first | (refine Xu rfl rfl rfl hes (fun es' ck' h1 h2 => ?_)) | (refine Ze (.func 191) ?_; refine qC rfl rfl (Wj _ _) ?_; rintro v ρ' L' hle ⟨rfl, rfl, rfl⟩ <;> (try simp only [kM, kN, kO, hd])) | (refine Zh ?_; first | (refine Zf ?_; refine qQ ?_) | refine Zm ?_) | refine Zb ?_ | (refine Zi ?_; refine Zr ?_) | (refine Zj ?_; refine Zs ?_) | intro _)
       exact qE ⟨rfl, rfl, es', ck', hfin es' h1 h2, rfl⟩
      ·have hq' : q = false := by rw [← hq]; exact decide_eq_false (fun h => h.2.2.2.2.elim hi hz)
       subst hq'
       have hk : ((t == 0) && (((id : Int) == 0) && true)) = false := by
        simp; intro h; exact fun h' => hz ⟨h, by omega⟩
       repeat' (first | (refine Xu rfl rfl rfl hes (fun es' ck' h1 h2 => ?_)) | (refine Ze (.func 191) ?_; refine qC rfl rfl (Wj _ _) ?_; rintro v ρ' L' hle ⟨rfl, rfl, rfl⟩ <;> (try simp only [kM, kN, kO, hd])) | (refine Zh ?_; first | (refine Zf ?_; refine qQ ?_) | refine Zm ?_) | refine Zb ?_ | (refine Zi ?_; refine Zr ?_) | (refine Zj ?_; refine Zs ?_) | intro _)
       exact qE ⟨by first | rfl | exact congrArg Value.bool hk, rfl, es', ck', hfin es' h1 h2, rfl⟩
    ·have hd : decide (0 ≤ t ∧ t < 3) = false := decide_eq_false ht
     have hq' : q = false := by rw [← hq]; exact decide_eq_false (fun h => ht h.2.2.2.1)
     subst hq'
     repeat' (first | (refine Xu rfl rfl rfl hes (fun es' ck' h1 h2 => ?_)) | (refine Ze (.func 191) ?_; refine qC rfl rfl (Wj _ _) ?_; rintro v ρ' L' hle ⟨rfl, rfl, rfl⟩ <;> (try simp only [kM, kN, kO, hd])) | (refine Zh ?_; first | (refine Zf ?_; refine qQ ?_) | refine Zm ?_) | refine Zb ?_ | (refine Zi ?_; refine Zr ?_) | (refine Zj ?_; refine Zs ?_) | intro _)
     exact qE ⟨rfl, rfl, es', ck', hfin es' h1 h2, rfl⟩
   ·have hq' : q = false := by rw [← hq]; exact decide_eq_false (fun h => hp6 h.2.2.1)
    subst hq'
    repeat' (first | (refine Xu rfl rfl rfl hes (fun es' ck' h1 h2 => ?_)) | (refine Zh ?_; first | (refine Zf ?_; refine qQ ?_) | refine Zm ?_) | refine Zb ?_ | (refine Zi ?_; refine Zr ?_) | (refine Zj ?_; refine Zs ?_) | intro _)
    exact qE ⟨rfl, rfl, es', ck', hfin es' h1 h2, rfl⟩
  ·have hq' : q = false := by rw [← hq]; exact decide_eq_false (fun h => hp0 h.2.1)
   subst hq'
   repeat' (first | (refine Xu rfl rfl rfl hes (fun es' ck' h1 h2 => ?_)) | (refine Zh ?_; first | (refine Zf ?_; refine qQ ?_) | refine Zm ?_) | refine Zb ?_ | (refine Zi ?_; refine Zr ?_) | (refine Zj ?_; refine Zs ?_) | intro _)
   exact qE ⟨rfl, rfl, es', ck', hfin es' h1 h2, rfl⟩
def psTo (l : List Kid) (k : Nat) : List Int := ((l.take k).map Kid.page).reverse
theorem psTo_succ {l : List Kid} {k : Nat} (h : k < l.length) : psTo l (k + 1) = l[k].page :: psTo l k := by
 unfold psTo; rw [List.take_succ_eq_append_getElem h, List.map_append, List.reverse_append]; rfl
def ltK (y x : Kid) : Bool := decide (cmpK y.t y.id x.t x.id < 0)
def kidsOk (l : List Kid) : Bool := ZW 4 (fun i k => kidOk i (psTo l i) k) ltK l l.length
theorem risesKid_spec (ρ : Hp) (a : Option Addr) (n c : Nat) (l : List Kid) (h : AIn ρ 3 kidV a n l) (hn : n ≤ 1000000) (bx mb ck0 : Nat) :
  Spec Tryz.prog 208 [.slice a n c, .int .i64 4, .func (.func 209) ⟨[]⟩ ⟨[]⟩, .func (.func 210) ⟨[]⟩ ⟨[.pointer (some ⟨bx, 0, none⟩)]⟩] ρ (metL bx mb [] ck0) (fun v ρ' L' => v = .bool (kidsOk l) ∧ ρ' = ρ ∧ L' = []) := by
 have hl := h.len
 unfold kidsOk
 rw [hl]
 refine Zg Tryz.func208 rfl rfl rfl fun u R => ?_
 simp only [Zx, List.cons_append, List.nil_append]
 generalize hr : (fun (i : Nat) (k : Kid) => kidOk i (psTo l i) k) = rt
 repeat' (first | (refine Zh ?_; first | (refine Zf ?_; refine qQ ?_) | refine Zm ?_) | refine Zb ?_ | (refine Zi ?_; refine Zr ?_) | (refine Zj ?_; refine Zs ?_) | intro _)
 have e0 : decide ((n : Int) ≤ 4) = ZW 4 rt ltK l 0 := by
  rw [ZW]; simp [hl]; omega
 rw [e0]
 refine ZC [(0, _), (2, _), (3, _), (8, _), (16, _), (17, _)] (fun (ζ : (Nat) × (List MapEntry) × (Nat)) => [(18, .int .i64 ζ.1), (9, .bool (ZW 4 rt ltK l ζ.1))]) (fun (ζ : (Nat) × (List MapEntry) × (Nat)) => ρ) (fun (ζ : (Nat) × (List MapEntry) × (Nat)) => metL bx mb ζ.2.1 ζ.2.2) (fun (ζ : (Nat) × (List MapEntry) × (Nat)) => ζ.1 ≤ n ∧ MetOk ζ.2.1 (psTo l ζ.1)) (fun (ζ : (Nat) × (List MapEntry) × (Nat)) => n - ζ.1) ((0, [], ck0)) (⟨Nat.zero_le _, MetOk.nil⟩) Zl Zl rfl tk ?_
 rintro ⟨k, es, ck⟩ hI
 try simp only [List.cons_append, List.nil_append, List.append_assoc, List.append_eq] at hI ⊢
 try dsimp only at hI ⊢
 obtain ⟨hI, hm⟩ := hI
 by_cases hlt : k < n
 ·obtain ⟨b, off, C, T, fr, rfl, hb, hfit, hc⟩ := h.get (show k < l.length by omega)
  have hs := Xt (most := 4) (right := rt) (lt := ltK) (show k < l.length by omega)
  have hfin := fun (e : ZW 4 rt ltK l (k + 1) = false) => XK e (show k + 1 ≤ n by omega)
  have hps := psTo_succ (show k < l.length by omega)
  have hrk : rt k l[k] = kidOk k (psTo l k) l[k] := by rw [← hr]
  cases hok : ZW 4 rt ltK l k
  ·rw [hok, Bool.false_and] at hs
   rw [hfin hs]
   generalize l[k] = x at *
   repeat' (first | (refine Zh ?_; first | (refine Zf ?_; refine qQ ?_) | refine Zm ?_) | refine Zb ?_ | (refine Zi ?_; refine Zr ?_) | (refine Zj ?_; refine Zs ?_) | intro _)
   rename_i b11
   refine ZB (Zq _ _ ([[(b11, .cells ⟨kidV x⟩ 230 (0, 0))]])) (ZG (hT := tk) (Hp.le_refl _)) ?_
   all_goals (refine ZI 0 ?_; refine ZI 1 ?_; (first | refine Zd 2 ?_ | refine Za 2 ?_ | refine ZY 2 ?_); (first | refine Zd 3 ?_ | refine Za 3 ?_ | refine ZY 3 ?_); (first | refine Zd 4 ?_ | refine Za 4 ?_ | refine Yf 4 ?_))
   all_goals (first | refine Zd 5 ?_ | refine Za 5 ?_ | (refine Zt (i := 5) ?_; ((try refine Zn ?_); (first | (refine Zm ?_; try intro _)) <;> ((try simp only [kM, kN, kO]); refine Zb ?_; refine Zo ?_))))
   all_goals (refine rPk 6 ?_; refine ZI 7 ?_; (first | refine Zd 8 ?_ | refine Za 8 ?_ | refine ZY 8 ?_); (first | refine Zd 9 ?_ | refine Za 9 ?_ | refine wCm 9 ?_); (first | refine Zd 10 ?_ | refine Za 10 ?_ | refine ZY 10 ?_); (first | refine Zd 11 ?_ | refine Za 11 ?_ | refine ZY 11 ?_); (first | refine Zd 12 ?_ | refine Za 12 ?_ | refine ZY 12 ?_); (first | refine Zd 13 ?_ | refine Za 13 ?_ | refine ZY 13 ?_); (first | refine Zd 14 ?_ | refine Za 14 ?_ | refine wSb 14 ?_); (first | refine Zd 15 ?_ | refine Za 15 ?_ | refine wIa 15 ?_); (first | refine Zd 16 ?_ | refine Za 16 ?_ | refine Yf 16 ?_); (first | refine Zd 18 ?_ | refine Za 18 ?_ | refine ZY 18 ?_); (first | refine Zd 19 ?_ | refine Za 19 ?_ | refine Yf 19 ?_))
   all_goals (first | refine Zd 17 ?_ | refine Za 17 ?_ | (refine Zt (i := 17) ?_; ((try refine Zn ?_); (first | (refine Zm ?_; try intro _)) <;> ((try simp only [kM, kN, kO]); refine Zb ?_; refine Zo ?_))))
   all_goals (first | refine Zd 20 ?_ | refine Za 20 ?_ | (refine Zt (i := 20) ?_; ((try refine Zn ?_); (first | (refine Zm ?_; try intro _)) <;> ((try simp only [kM, kN, kO]); refine Zb ?_; refine Zo ?_))))
   all_goals (first | refine Zd 21 ?_ | refine Za 21 ?_ | (refine Zt (i := 21) ?_; ((try refine Zn ?_); (first | (refine Zm ?_; try intro _)) <;> ((try simp only [kM, kN, kO]); refine Zb ?_; refine Zo ?_))))
   all_goals (refine ZK ?_; (first | refine Zd 22 ?_ | refine Za 22 ?_ | refine wCm 22 ?_); (first | refine Zd 23 ?_ | refine Za 23 ?_ | refine wPk 23 ?_); refine rPk 24 ?_; refine rAs 25 ?_; refine ZE ?_)
   repeat' (first | (refine Zh ?_; first | (refine Zf ?_; refine qQ ?_) | refine Zm ?_) | refine Zb ?_ | (refine Zi ?_; refine Zr ?_) | (refine Zj ?_; refine Zs ?_) | intro _)
   exact qE ⟨rfl, rfl, rfl⟩
  ·rw [hok, Bool.true_and, hrk] at hs
   cases hx : kidOk k (psTo l k) l[k]
   ·rw [hx, Bool.false_and] at hs
    rw [hfin hs]
    generalize l[k] = x at *
    repeat' (first | (refine Zh ?_; first | (refine Zf ?_; refine qQ ?_) | refine Zm ?_) | refine Zb ?_ | (refine Zi ?_; refine Zr ?_) | (refine Zj ?_; refine Zs ?_) | intro _)
    rename_i b11
    refine ZB (Zq _ _ ([[(b11, .cells ⟨kidV x⟩ 230 (0, 0))]])) (ZG (hT := tk) (Hp.le_refl _)) ?_
    all_goals (refine ZI 0 ?_; refine ZI 1 ?_; (first | refine Zd 2 ?_ | refine Za 2 ?_ | refine ZY 2 ?_); (first | refine Zd 3 ?_ | refine Za 3 ?_ | refine ZY 3 ?_); (first | refine Zd 4 ?_ | refine Za 4 ?_ | refine Yf 4 ?_))
    all_goals (first | refine Zd 5 ?_ | refine Za 5 ?_ | (refine Zt (i := 5) ?_; ((try refine Zn ?_); (first | (refine Ze (.tmp 25) ?_; refine qC rfl rfl (YO _ bx mb es ck _ hm k x) ?_; rintro v ρ' L' hle ⟨rfl, rfl, es', ck', hm', rfl⟩ <;> (try simp only [kM, kN, kO, hx])) | (refine Ze (.tmp 34) ?_; refine qC rfl rfl (ZV _ _) ?_; rintro v ρ' L' hle ⟨rfl, rfl, rfl⟩ <;> (try simp only [kM, kN, kO])) | (refine Ze (.tmp 41) ?_; refine qC rfl rfl (ZV _ _) ?_; rintro v ρ' L' hle ⟨rfl, rfl, rfl⟩ <;> (try simp only [kM, kN, kO])) | (refine Zm ?_; try intro _)) <;> ((try simp only [kM, kN, kO]); refine Zb ?_; refine Zo ?_))))
    all_goals (refine rPk 6 ?_; refine ZI 7 ?_; (first | refine Zd 8 ?_ | refine Za 8 ?_ | refine ZY 8 ?_); (first | refine Zd 9 ?_ | refine Za 9 ?_ | refine wCm 9 ?_); (first | refine Zd 10 ?_ | refine Za 10 ?_ | refine ZY 10 ?_); (first | refine Zd 11 ?_ | refine Za 11 ?_ | refine ZY 11 ?_); (first | refine Zd 12 ?_ | refine Za 12 ?_ | refine ZY 12 ?_); (first | refine Zd 13 ?_ | refine Za 13 ?_ | refine ZY 13 ?_); (first | refine Zd 14 ?_ | refine Za 14 ?_ | refine wSb 14 ?_); (first | refine Zd 15 ?_ | refine Za 15 ?_ | refine wIa 15 ?_); (first | refine Zd 16 ?_ | refine Za 16 ?_ | refine Yf 16 ?_); (first | refine Zd 18 ?_ | refine Za 18 ?_ | refine ZY 18 ?_); (first | refine Zd 19 ?_ | refine Za 19 ?_ | refine Yf 19 ?_))
    all_goals (first | refine Zd 17 ?_ | refine Za 17 ?_ | (refine Zt (i := 17) ?_; ((try refine Zn ?_); (first | (refine Ze (.tmp 25) ?_; refine qC rfl rfl (YO _ bx mb es ck _ hm k x) ?_; rintro v ρ' L' hle ⟨rfl, rfl, es', ck', hm', rfl⟩ <;> (try simp only [kM, kN, kO, hx])) | (refine Ze (.tmp 34) ?_; refine qC rfl rfl (ZV _ _) ?_; rintro v ρ' L' hle ⟨rfl, rfl, rfl⟩ <;> (try simp only [kM, kN, kO])) | (refine Ze (.tmp 41) ?_; refine qC rfl rfl (ZV _ _) ?_; rintro v ρ' L' hle ⟨rfl, rfl, rfl⟩ <;> (try simp only [kM, kN, kO])) | (refine Zm ?_; try intro _)) <;> ((try simp only [kM, kN, kO]); refine Zb ?_; refine Zo ?_))))
    all_goals (first | refine Zd 20 ?_ | refine Za 20 ?_ | (refine Zt (i := 20) ?_; ((try refine Zn ?_); (first | (refine Ze (.tmp 25) ?_; refine qC rfl rfl (YO _ bx mb es ck _ hm k x) ?_; rintro v ρ' L' hle ⟨rfl, rfl, es', ck', hm', rfl⟩ <;> (try simp only [kM, kN, kO, hx])) | (refine Ze (.tmp 34) ?_; refine qC rfl rfl (ZV _ _) ?_; rintro v ρ' L' hle ⟨rfl, rfl, rfl⟩ <;> (try simp only [kM, kN, kO])) | (refine Ze (.tmp 41) ?_; refine qC rfl rfl (ZV _ _) ?_; rintro v ρ' L' hle ⟨rfl, rfl, rfl⟩ <;> (try simp only [kM, kN, kO])) | (refine Zm ?_; try intro _)) <;> ((try simp only [kM, kN, kO]); refine Zb ?_; refine Zo ?_))))
    all_goals (first | refine Zd 21 ?_ | refine Za 21 ?_ | (refine Zt (i := 21) ?_; ((try refine Zn ?_); (first | (refine Ze (.func 219) ?_; refine qC rfl rfl (Xr _ _ _ _ _) ?_; rintro v ρ' L' hle ⟨rfl, rfl, rfl⟩ <;> (try simp only [kM, kN, kO])) | (refine Zm ?_; try intro _)) <;> ((try simp only [kM, kN, kO]); refine Zb ?_; refine Zo ?_))))
    all_goals (refine ZK ?_; (first | refine Zd 22 ?_ | refine Za 22 ?_ | refine wCm 22 ?_); (first | refine Zd 23 ?_ | refine Za 23 ?_ | refine wPk 23 ?_); refine rPk 24 ?_; refine rAs 25 ?_; refine ZE ?_)
    repeat' (first | (refine Zh ?_; first | (refine Zf ?_; refine qQ ?_) | refine Zm ?_) | refine Zb ?_ | (refine Zi ?_; refine Zr ?_) | (refine Zj ?_; refine Zs ?_) | intro _)
    exact qE ⟨rfl, rfl, rfl⟩
   ·rw [hx, Bool.true_and] at hs
    by_cases hk0 : k = 0
    ·have hs' : ZW 4 rt ltK l (k + 1) = true := by rw [hs]; simp [hk0]
     generalize l[k] = x at *
     repeat' (first | (refine Zh ?_; first | (refine Zf ?_; refine qQ ?_) | refine Zm ?_) | refine Zb ?_ | (refine Zi ?_; refine Zr ?_) | (refine Zj ?_; refine Zs ?_) | intro _)
     rename_i b11
     refine ZB (Zq _ _ ([[(b11, .cells ⟨kidV x⟩ 230 (0, 0))]])) (ZG (hT := tk) (Hp.le_refl _)) ?_
     all_goals (refine ZI 0 ?_; refine ZI 1 ?_; (first | refine Zd 2 ?_ | refine Za 2 ?_ | refine ZY 2 ?_); (first | refine Zd 3 ?_ | refine Za 3 ?_ | refine ZY 3 ?_); (first | refine Zd 4 ?_ | refine Za 4 ?_ | refine Yf 4 ?_))
     all_goals (first | refine Zd 5 ?_ | refine Za 5 ?_ | (refine Zt (i := 5) ?_; ((try refine Zn ?_); (first | (refine Ze (.tmp 25) ?_; refine qC rfl rfl (YO _ bx mb es ck _ hm k x) ?_; rintro v ρ' L' hle ⟨rfl, rfl, es', ck', hm', rfl⟩ <;> (try simp only [kM, kN, kO, hx])) | (refine Ze (.tmp 34) ?_; refine qC rfl rfl (ZV _ _) ?_; rintro v ρ' L' hle ⟨rfl, rfl, rfl⟩ <;> (try simp only [kM, kN, kO])) | (refine Ze (.tmp 41) ?_; refine qC rfl rfl (ZV _ _) ?_; rintro v ρ' L' hle ⟨rfl, rfl, rfl⟩ <;> (try simp only [kM, kN, kO])) | (refine Zm ?_; try intro _)) <;> ((try simp only [kM, kN, kO]); refine Zb ?_; refine Zo ?_))))
     all_goals (refine rPk 6 ?_; refine ZI 7 ?_; (first | refine Zd 8 ?_ | refine Za 8 ?_ | refine ZY 8 ?_); (first | refine Zd 9 ?_ | refine Za 9 ?_ | refine wCm 9 ?_); (first | refine Zd 10 ?_ | refine Za 10 ?_ | refine ZY 10 ?_); (first | refine Zd 11 ?_ | refine Za 11 ?_ | refine ZY 11 ?_); (first | refine Zd 12 ?_ | refine Za 12 ?_ | refine ZY 12 ?_); (first | refine Zd 13 ?_ | refine Za 13 ?_ | refine ZY 13 ?_); (first | refine Zd 14 ?_ | refine Za 14 ?_ | refine wSb 14 ?_); (first | refine Zd 15 ?_ | refine Za 15 ?_ | refine wIa 15 ?_); (first | refine Zd 16 ?_ | refine Za 16 ?_ | refine Yf 16 ?_); (first | refine Zd 18 ?_ | refine Za 18 ?_ | refine ZY 18 ?_); (first | refine Zd 19 ?_ | refine Za 19 ?_ | refine Yf 19 ?_))
     all_goals (first | refine Zd 17 ?_ | refine Za 17 ?_ | (refine Zt (i := 17) ?_; ((try refine Zn ?_); (first | (refine Ze (.tmp 25) ?_; refine qC rfl rfl (YO _ bx mb es ck _ hm k x) ?_; rintro v ρ' L' hle ⟨rfl, rfl, es', ck', hm', rfl⟩ <;> (try simp only [kM, kN, kO, hx])) | (refine Ze (.tmp 34) ?_; refine qC rfl rfl (ZV _ _) ?_; rintro v ρ' L' hle ⟨rfl, rfl, rfl⟩ <;> (try simp only [kM, kN, kO])) | (refine Ze (.tmp 41) ?_; refine qC rfl rfl (ZV _ _) ?_; rintro v ρ' L' hle ⟨rfl, rfl, rfl⟩ <;> (try simp only [kM, kN, kO])) | (refine Zm ?_; try intro _)) <;> ((try simp only [kM, kN, kO]); refine Zb ?_; refine Zo ?_))))
     all_goals (first | refine Zd 20 ?_ | refine Za 20 ?_ | (refine Zt (i := 20) ?_; ((try refine Zn ?_); (first | (refine Ze (.tmp 25) ?_; refine qC rfl rfl (YO _ bx mb es ck _ hm k x) ?_; rintro v ρ' L' hle ⟨rfl, rfl, es', ck', hm', rfl⟩ <;> (try simp only [kM, kN, kO, hx])) | (refine Ze (.tmp 34) ?_; refine qC rfl rfl (ZV _ _) ?_; rintro v ρ' L' hle ⟨rfl, rfl, rfl⟩ <;> (try simp only [kM, kN, kO])) | (refine Ze (.tmp 41) ?_; refine qC rfl rfl (ZV _ _) ?_; rintro v ρ' L' hle ⟨rfl, rfl, rfl⟩ <;> (try simp only [kM, kN, kO])) | (refine Zm ?_; try intro _)) <;> ((try simp only [kM, kN, kO]); refine Zb ?_; refine Zo ?_))))
     all_goals (first | refine Zd 21 ?_ | refine Za 21 ?_ | (refine Zt (i := 21) ?_; ((try refine Zn ?_); (first | (refine Ze (.func 219) ?_; refine qC rfl rfl (Xr _ _ _ _ _) ?_; rintro v ρ' L' hle ⟨rfl, rfl, rfl⟩ <;> (try simp only [kM, kN, kO])) | (refine Zm ?_; try intro _)) <;> ((try simp only [kM, kN, kO]); refine Zb ?_; refine Zo ?_))))
     all_goals (refine ZK ?_; (first | refine Zd 22 ?_ | refine Za 22 ?_ | refine wCm 22 ?_); (first | refine Zd 23 ?_ | refine Za 23 ?_ | refine wPk 23 ?_); refine rPk 24 ?_; refine rAs 25 ?_; refine ZE ?_)
     repeat' (first | (refine Zh ?_; first | (refine Zf ?_; refine qQ ?_) | refine Zm ?_) | refine Zb ?_ | (refine Zi ?_; refine Zr ?_) | (refine Zj ?_; refine Zs ?_) | intro _)
     rw [← hs']
     refine Zp (k + 1, es', ck') (⟨hlt, by dsimp only; rw [hps]; exact hm'⟩) Zl Zl rfl tk inferInstance (by first | omega | (dsimp only; omega))
    ·have hd : decide (k = 0) = false := decide_eq_false hk0
     obtain ⟨b2, off2, C2, T2, fr2, f1, hb2, hfit2, hc2⟩ := h.get (show k - 1 < l.length by omega)
     cases f1
     rw [hb] at hb2
     cases hb2
     have ek : ((k : Int) - 1).toNat = k - 1 := by omega
     rw [← ek] at hfit2
     have hc3 : List.take 3 (List.drop (off + ((k : Int) - 1).toNat * 3) C) = kidV (l[k - 1]'(by omega)) := by rw [ek]; exact hc2
     clear hc2
     rw [hd, Bool.false_or] at hs
     generalize l[k] = x at *
     generalize l[k - 1]'(by omega) = y at *
     unfold ltK at hs
     by_cases hcm : cmpK y.t y.id x.t x.id < 0
     ·rw [decide_eq_true hcm] at hs
      repeat' (first | (refine Zh ?_; first | (refine Zf ?_; refine qQ ?_) | refine Zm ?_) | refine Zb ?_ | (refine Zi ?_; refine Zr ?_) | (refine Zj ?_; refine Zs ?_) | intro _)
      rename_i b11
      refine ZB (Zq _ _ ([[(b11, .cells ⟨kidV x⟩ 230 (0, 0))]])) (ZG (hT := tk) (Hp.le_refl _)) ?_
      all_goals (refine ZI 0 ?_; refine ZI 1 ?_; (first | refine Zd 2 ?_ | refine Za 2 ?_ | refine ZY 2 ?_); (first | refine Zd 3 ?_ | refine Za 3 ?_ | refine ZY 3 ?_); (first | refine Zd 4 ?_ | refine Za 4 ?_ | refine Yf 4 ?_))
      all_goals (first | refine Zd 5 ?_ | refine Za 5 ?_ | (refine Zt (i := 5) ?_; ((try refine Zn ?_); (first | (refine Ze (.tmp 25) ?_; refine qC rfl rfl (YO _ bx mb es ck _ hm k x) ?_; rintro v ρ' L' hle ⟨rfl, rfl, es', ck', hm', rfl⟩ <;> (try simp only [kM, kN, kO, hx])) | (refine Ze (.tmp 34) ?_; refine qC rfl rfl (ZV _ _) ?_; rintro v ρ' L' hle ⟨rfl, rfl, rfl⟩ <;> (try simp only [kM, kN, kO])) | (refine Ze (.tmp 41) ?_; refine qC rfl rfl (ZV _ _) ?_; rintro v ρ' L' hle ⟨rfl, rfl, rfl⟩ <;> (try simp only [kM, kN, kO])) | (refine Zm ?_; try intro _)) <;> ((try simp only [kM, kN, kO]); refine Zb ?_; refine Zo ?_))))
      all_goals (refine rPk 6 ?_; refine ZI 7 ?_; (first | refine Zd 8 ?_ | refine Za 8 ?_ | refine ZY 8 ?_); (first | refine Zd 9 ?_ | refine Za 9 ?_ | refine wCm 9 ?_); (first | refine Zd 10 ?_ | refine Za 10 ?_ | refine ZY 10 ?_); (first | refine Zd 11 ?_ | refine Za 11 ?_ | refine ZY 11 ?_); (first | refine Zd 12 ?_ | refine Za 12 ?_ | refine ZY 12 ?_); (first | refine Zd 13 ?_ | refine Za 13 ?_ | refine ZY 13 ?_); (first | refine Zd 14 ?_ | refine Za 14 ?_ | refine wSb 14 ?_); (first | refine Zd 15 ?_ | refine Za 15 ?_ | refine wIa 15 ?_); (first | refine Zd 16 ?_ | refine Za 16 ?_ | refine Yf 16 ?_); (first | refine Zd 18 ?_ | refine Za 18 ?_ | refine ZY 18 ?_); (first | refine Zd 19 ?_ | refine Za 19 ?_ | refine Yf 19 ?_))
      all_goals (first | refine Zd 17 ?_ | refine Za 17 ?_ | (refine Zt (i := 17) ?_; ((try refine Zn ?_); (first | (refine Ze (.tmp 25) ?_; refine qC rfl rfl (YO _ bx mb es ck _ hm k x) ?_; rintro v ρ' L' hle ⟨rfl, rfl, es', ck', hm', rfl⟩ <;> (try simp only [kM, kN, kO, hx])) | (refine Ze (.tmp 34) ?_; refine qC rfl rfl (ZV _ _) ?_; rintro v ρ' L' hle ⟨rfl, rfl, rfl⟩ <;> (try simp only [kM, kN, kO])) | (refine Ze (.tmp 41) ?_; refine qC rfl rfl (ZV _ _) ?_; rintro v ρ' L' hle ⟨rfl, rfl, rfl⟩ <;> (try simp only [kM, kN, kO])) | (refine Zm ?_; try intro _)) <;> ((try simp only [kM, kN, kO]); refine Zb ?_; refine Zo ?_))))
      all_goals (first | refine Zd 20 ?_ | refine Za 20 ?_ | (refine Zt (i := 20) ?_; ((try refine Zn ?_); (first | (refine Ze (.tmp 25) ?_; refine qC rfl rfl (YO _ bx mb es ck _ hm k x) ?_; rintro v ρ' L' hle ⟨rfl, rfl, es', ck', hm', rfl⟩ <;> (try simp only [kM, kN, kO, hx])) | (refine Ze (.tmp 34) ?_; refine qC rfl rfl (ZV _ _) ?_; rintro v ρ' L' hle ⟨rfl, rfl, rfl⟩ <;> (try simp only [kM, kN, kO])) | (refine Ze (.tmp 41) ?_; refine qC rfl rfl (ZV _ _) ?_; rintro v ρ' L' hle ⟨rfl, rfl, rfl⟩ <;> (try simp only [kM, kN, kO])) | (refine Zm ?_; try intro _)) <;> ((try simp only [kM, kN, kO]); refine Zb ?_; refine Zo ?_))))
      all_goals (first | refine Zd 21 ?_ | refine Za 21 ?_ | (refine Zt (i := 21) ?_; ((try refine Zn ?_); (first | (refine Ze (.func 219) ?_; refine qC rfl rfl (Xr _ _ _ _ _) ?_; rintro v ρ' L' hle ⟨rfl, rfl, rfl⟩ <;> (try simp only [kM, kN, kO])) | (refine Zm ?_; try intro _)) <;> ((try simp only [kM, kN, kO]); refine Zb ?_; refine Zo ?_))))
      all_goals (refine ZK ?_; (first | refine Zd 22 ?_ | refine Za 22 ?_ | refine wCm 22 ?_); (first | refine Zd 23 ?_ | refine Za 23 ?_ | refine wPk 23 ?_); refine rPk 24 ?_; refine rAs 25 ?_; refine ZE ?_)
      all_goals (repeat' (first | (refine Zh ?_; first | (refine Zf ?_; refine qQ ?_) | refine Zm ?_) | refine Zb ?_ | (refine Zi ?_; refine Zr ?_) | (refine Zj ?_; refine Zs ?_) | intro _))
      all_goals rw [← show ZW 4 rt ltK l (k + 1) = true from hs]
      all_goals refine Zp (k + 1, es', ck') (⟨hlt, by dsimp only; rw [hps]; exact hm'⟩) Zl Zl rfl tk inferInstance (by first | omega | (dsimp only; omega))
     ·rw [decide_eq_false hcm] at hs
      rw [hfin hs]
      repeat' (first | (refine Zh ?_; first | (refine Zf ?_; refine qQ ?_) | refine Zm ?_) | refine Zb ?_ | (refine Zi ?_; refine Zr ?_) | (refine Zj ?_; refine Zs ?_) | intro _)
      rename_i b11
      refine ZB (Zq _ _ ([[(b11, .cells ⟨kidV x⟩ 230 (0, 0))]])) (ZG (hT := tk) (Hp.le_refl _)) ?_
      all_goals (refine ZI 0 ?_; refine ZI 1 ?_; (first | refine Zd 2 ?_ | refine Za 2 ?_ | refine ZY 2 ?_); (first | refine Zd 3 ?_ | refine Za 3 ?_ | refine ZY 3 ?_); (first | refine Zd 4 ?_ | refine Za 4 ?_ | refine Yf 4 ?_))
      all_goals (first | refine Zd 5 ?_ | refine Za 5 ?_ | (refine Zt (i := 5) ?_; ((try refine Zn ?_); (first | (refine Ze (.tmp 25) ?_; refine qC rfl rfl (YO _ bx mb es ck _ hm k x) ?_; rintro v ρ' L' hle ⟨rfl, rfl, es', ck', hm', rfl⟩ <;> (try simp only [kM, kN, kO, hx])) | (refine Ze (.tmp 34) ?_; refine qC rfl rfl (ZV _ _) ?_; rintro v ρ' L' hle ⟨rfl, rfl, rfl⟩ <;> (try simp only [kM, kN, kO])) | (refine Ze (.tmp 41) ?_; refine qC rfl rfl (ZV _ _) ?_; rintro v ρ' L' hle ⟨rfl, rfl, rfl⟩ <;> (try simp only [kM, kN, kO])) | (refine Zm ?_; try intro _)) <;> ((try simp only [kM, kN, kO]); refine Zb ?_; refine Zo ?_))))
      all_goals (refine rPk 6 ?_; refine ZI 7 ?_; (first | refine Zd 8 ?_ | refine Za 8 ?_ | refine ZY 8 ?_); (first | refine Zd 9 ?_ | refine Za 9 ?_ | refine wCm 9 ?_); (first | refine Zd 10 ?_ | refine Za 10 ?_ | refine ZY 10 ?_); (first | refine Zd 11 ?_ | refine Za 11 ?_ | refine ZY 11 ?_); (first | refine Zd 12 ?_ | refine Za 12 ?_ | refine ZY 12 ?_); (first | refine Zd 13 ?_ | refine Za 13 ?_ | refine ZY 13 ?_); (first | refine Zd 14 ?_ | refine Za 14 ?_ | refine wSb 14 ?_); (first | refine Zd 15 ?_ | refine Za 15 ?_ | refine wIa 15 ?_); (first | refine Zd 16 ?_ | refine Za 16 ?_ | refine Yf 16 ?_); (first | refine Zd 18 ?_ | refine Za 18 ?_ | refine ZY 18 ?_); (first | refine Zd 19 ?_ | refine Za 19 ?_ | refine Yf 19 ?_))
      all_goals (first | refine Zd 17 ?_ | refine Za 17 ?_ | (refine Zt (i := 17) ?_; ((try refine Zn ?_); (first | (refine Ze (.tmp 25) ?_; refine qC rfl rfl (YO _ bx mb es ck _ hm k x) ?_; rintro v ρ' L' hle ⟨rfl, rfl, es', ck', hm', rfl⟩ <;> (try simp only [kM, kN, kO, hx])) | (refine Ze (.tmp 34) ?_; refine qC rfl rfl (ZV _ _) ?_; rintro v ρ' L' hle ⟨rfl, rfl, rfl⟩ <;> (try simp only [kM, kN, kO])) | (refine Ze (.tmp 41) ?_; refine qC rfl rfl (ZV _ _) ?_; rintro v ρ' L' hle ⟨rfl, rfl, rfl⟩ <;> (try simp only [kM, kN, kO])) | (refine Zm ?_; try intro _)) <;> ((try simp only [kM, kN, kO]); refine Zb ?_; refine Zo ?_))))
      all_goals (first | refine Zd 20 ?_ | refine Za 20 ?_ | (refine Zt (i := 20) ?_; ((try refine Zn ?_); (first | (refine Ze (.tmp 25) ?_; refine qC rfl rfl (YO _ bx mb es ck _ hm k x) ?_; rintro v ρ' L' hle ⟨rfl, rfl, es', ck', hm', rfl⟩ <;> (try simp only [kM, kN, kO, hx])) | (refine Ze (.tmp 34) ?_; refine qC rfl rfl (ZV _ _) ?_; rintro v ρ' L' hle ⟨rfl, rfl, rfl⟩ <;> (try simp only [kM, kN, kO])) | (refine Ze (.tmp 41) ?_; refine qC rfl rfl (ZV _ _) ?_; rintro v ρ' L' hle ⟨rfl, rfl, rfl⟩ <;> (try simp only [kM, kN, kO])) | (refine Zm ?_; try intro _)) <;> ((try simp only [kM, kN, kO]); refine Zb ?_; refine Zo ?_))))
      all_goals (first | refine Zd 21 ?_ | refine Za 21 ?_ | (refine Zt (i := 21) ?_; ((try refine Zn ?_); (first | (refine Ze (.func 219) ?_; refine qC rfl rfl (Xr _ _ _ _ _) ?_; rintro v ρ' L' hle ⟨rfl, rfl, rfl⟩ <;> (try simp only [kM, kN, kO])) | (refine Zm ?_; try intro _)) <;> ((try simp only [kM, kN, kO]); refine Zb ?_; refine Zo ?_))))
      all_goals (refine ZK ?_; (first | refine Zd 22 ?_ | refine Za 22 ?_ | refine wCm 22 ?_); (first | refine Zd 23 ?_ | refine Za 23 ?_ | refine wPk 23 ?_); refine rPk 24 ?_; refine rAs 25 ?_; refine ZE ?_)
      all_goals (repeat' (first | (refine Zh ?_; first | (refine Zf ?_; refine qQ ?_) | refine Zm ?_) | refine Zb ?_ | (refine Zi ?_; refine Zr ?_) | (refine Zj ?_; refine Zs ?_) | intro _))
      all_goals exact qE ⟨rfl, rfl, rfl⟩
 ·have hk2 : k = n := by omega
  subst hk2
  repeat' (first | (refine Zh ?_; first | (refine Zf ?_; refine qQ ?_) | refine Zm ?_) | refine Zb ?_ | (refine Zi ?_; refine Zr ?_) | (refine Zj ?_; refine Zs ?_) | intro _)
  exact qE ⟨rfl, rfl, rfl⟩
structure CV where
 ra : Option Addr
 rn : Nat
 rc : Nat
 ka : Option Addr
 kn : Nat
 kc : Nat
structure Cont where
 kind : Int
 rows : List Row
 kids : List Kid
deriving DecidableEq
abbrev contV (k : Int) (v : CV) : List Value := [.int .i64 k, .slice v.ra v.rn v.rc, .slice v.ka v.kn v.kc]
structure CIn (ρ : Hp) (v : CV) (rows : List Row) (kids : List Kid) : Prop where
 r : AIn ρ 4 rowV v.ra v.rn rows
 k : AIn ρ 3 kidV v.ka v.kn kids
 rb : v.rn ≤ 1000000
 kb : v.kn ≤ 1000000
 rc : v.rn ≤ v.rc
 kc : v.kn ≤ v.kc
theorem CIn.mono {ρ ρ' v rows kids} (h : CIn ρ v rows kids) (hle : ρ.le ρ') : CIn ρ' v rows kids := ⟨h.r.mono hle, h.k.mono hle, h.rb, h.kb, h.rc, h.kc⟩
theorem leafc_spec (ρ : Hp) (a : Option Addr) (n c : Nat) (l : List Row) (h : AIn ρ 4 rowV a n l) (hn : n ≤ 1000000) : Spec Tryz.prog 189 [.slice a n c] ρ [] (fun v ρ' L' => v = .bool (rowsOk l) ∧ ρ' = ρ ∧ L' = []) := by
 refine Zg Tryz.func189 rfl rfl rfl fun u R => ?_
 simp only [Zx, List.cons_append, List.nil_append]
 repeat' (first | (refine Ze (.func 205) ?_; refine qC rfl rfl (risesRow_spec _ a n c l h hn) ?_; rintro v ρ' L' hle ⟨rfl, rfl, rfl⟩ <;> (try simp only [kM, kN, kO])) | (refine Zh ?_; first | (refine Zf ?_; refine qQ ?_) | refine Zm ?_) | refine Zb ?_ | (refine Zi ?_; refine Zr ?_) | (refine Zj ?_; refine Zs ?_) | intro _)
 exact qE ⟨rfl, rfl, rfl⟩
theorem innerc_spec (ρ : Hp) (a : Option Addr) (n c : Nat) (l : List Kid) (h : AIn ρ 3 kidV a n l) (hn : n ≤ 1000000) : Spec Tryz.prog 190 [.slice a n c] ρ [] (fun v ρ' L' => v = .bool (decide (1 < n) && kidsOk l) ∧ ρ' = ρ ∧ L' = []) := by
 refine Zg Tryz.func190 rfl rfl rfl fun u R => ?_
 simp only [Zx, List.cons_append, List.nil_append]
 by_cases h1 : 1 < n
 ·rw [decide_eq_true h1, Bool.true_and]
  repeat' (first | (refine Ze (.func 208) ?_; refine qC rfl rfl (risesKid_spec _ a n c l h hn _ _ _) ?_; rintro v ρ' L' hle ⟨rfl, rfl, rfl⟩ <;> (try simp only [kM, kN, kO])) | (refine Zh ?_; first | (refine Zf ?_; refine qQ ?_) | refine Zm ?_) | refine Zb ?_ | (refine Zi ?_; refine Zr ?_) | (refine Zj ?_; refine Zs ?_) | intro _)
  exact qE ⟨rfl, rfl, rfl⟩
 ·rw [decide_eq_false h1, Bool.false_and]
  repeat' (first | (refine Zh ?_; first | (refine Zf ?_; refine qQ ?_) | refine Zm ?_) | refine Zb ?_ | (refine Zi ?_; refine Zr ?_) | (refine Zj ?_; refine Zs ?_) | intro _)
  exact qE ⟨rfl, rfl, rfl⟩
def YW (c : Cont) : Bool :=
 if c.kind = 0 then decide (c.rows.length + c.kids.length = 0)
 else if c.kind = 1 then decide (c.kids.length = 0) && rowsOk c.rows
 else if c.kind = 2 then decide (c.rows.length = 0) && (decide (1 < c.kids.length) && kidsOk c.kids)
 else false
theorem check_spec (ρ : Hp) (v : CV) (c : Cont) (h : CIn ρ v c.rows c.kids) : Spec Tryz.prog 172 [.agg ⟨contV c.kind v⟩] ρ [] (fun r ρ' L' => r = .int .i64 (if YW c then 0 else 160) ∧ ρ' = ρ ∧ L' = []) := by
 obtain ⟨kind, rows, kids⟩ := c
 obtain ⟨ra, rn, rc, ka, kn, kc⟩ := v
 obtain ⟨hr, hk, hrb, hkb, _, _⟩ := h
 dsimp only at hr hk hrb hkb
 have hrl := hr.len
 have hkl := hk.len
 have hrs := leafc_spec ρ ra rn rc rows hr hrb
 have hks := innerc_spec ρ ka kn kc kids hk hkb
 generalize hq : YW ⟨kind, rows, kids⟩ = q
 unfold YW at hq
 simp only [hrl, hkl] at hq
 refine Zg Tryz.func172 rfl rfl rfl fun u R => ?_
 simp only [Zx, List.cons_append, List.nil_append]
 by_cases k0 : kind = 0
 ·rw [if_pos k0] at hq
  by_cases hz : rn + kn = 0
  ·rw [decide_eq_true hz] at hq
   subst hq
   repeat' (first | (refine Zh ?_; first | (refine Zf ?_; refine qQ ?_) | refine Zm ?_) | refine Zb ?_ | (refine Zi ?_; refine Zr ?_) | (refine Zj ?_; refine Zs ?_) | intro _)
   exact qE ⟨rfl, rfl, rfl⟩
  ·rw [decide_eq_false hz] at hq
   subst hq
   repeat' (first | (refine Zh ?_; first | (refine Zf ?_; refine qQ ?_) | refine Zm ?_) | refine Zb ?_ | (refine Zi ?_; refine Zr ?_) | (refine Zj ?_; refine Zs ?_) | intro _)
   exact qE ⟨rfl, rfl, rfl⟩
 ·rw [if_neg k0] at hq
  by_cases k1 : kind = 1
  ·rw [if_pos k1] at hq
   by_cases hz : kn = 0
   ·rw [decide_eq_true hz, Bool.true_and] at hq
    rw [hq] at hrs
    cases q
    all_goals (repeat' (first | (refine Ze (.func 189) ?_; refine qC rfl rfl (hrs) ?_; rintro v ρ' L' hle ⟨rfl, rfl, rfl⟩ <;> (try simp only [kM, kN, kO])) | (refine Zh ?_; first | (refine Zf ?_; refine qQ ?_) | refine Zm ?_) | refine Zb ?_ | (refine Zi ?_; refine Zr ?_) | (refine Zj ?_; refine Zs ?_) | intro _))
    all_goals exact qE ⟨rfl, rfl, rfl⟩
   ·rw [decide_eq_false hz, Bool.false_and] at hq
    subst hq
    repeat' (first | (refine Zh ?_; first | (refine Zf ?_; refine qQ ?_) | refine Zm ?_) | refine Zb ?_ | (refine Zi ?_; refine Zr ?_) | (refine Zj ?_; refine Zs ?_) | intro _)
    exact qE ⟨rfl, rfl, rfl⟩
  ·rw [if_neg k1] at hq
   by_cases k2 : kind = 2
   ·rw [if_pos k2] at hq
    by_cases hz : rn = 0
    ·rw [decide_eq_true hz, Bool.true_and] at hq
     rw [hq] at hks
     cases q
     all_goals (repeat' (first | (refine Ze (.func 190) ?_; refine qC rfl rfl (hks) ?_; rintro v ρ' L' hle ⟨rfl, rfl, rfl⟩ <;> (try simp only [kM, kN, kO])) | (refine Zh ?_; first | (refine Zf ?_; refine qQ ?_) | refine Zm ?_) | refine Zb ?_ | (refine Zi ?_; refine Zr ?_) | (refine Zj ?_; refine Zs ?_) | intro _))
     all_goals exact qE ⟨rfl, rfl, rfl⟩
    ·rw [decide_eq_false hz, Bool.false_and] at hq
     subst hq
     repeat' (first | (refine Zh ?_; first | (refine Zf ?_; refine qQ ?_) | refine Zm ?_) | refine Zb ?_ | (refine Zi ?_; refine Zr ?_) | (refine Zj ?_; refine Zs ?_) | intro _)
     exact qE ⟨rfl, rfl, rfl⟩
   ·rw [if_neg k2] at hq
    subst hq
    repeat' (first | (refine Zh ?_; first | (refine Zf ?_; refine qQ ?_) | refine Zm ?_) | refine Zb ?_ | (refine Zi ?_; refine Zr ?_) | (refine Zj ?_; refine Zs ?_) | intro _)
    exact qE ⟨rfl, rfl, rfl⟩
theorem CIn.nil {ρ : Hp} : CIn ρ ⟨none, 0, 0, none, 0, 0⟩ [] [] := ⟨AIn.nil, AIn.nil, by decide, by decide, by decide, by decide⟩
def tB (t : Int) : UInt8 := UInt8.ofNat t.toNat
def keyB (t : Int) (id : Nat) : List UInt8 := tB t :: be 2 id
def vN (v : Int) : Nat := (IntKind.u64.wrap v).toNat
theorem vN_eq (v : Int) : IntKind.u64.wrap v = (vN v : Nat) := by
 have : 0 ≤ IntKind.u64.wrap v := by simp only [IntKind.wrap, IntKind.bits, IntKind.signed, Bool.false_and, Bool.false_eq_true, if_false]; omega
 simp [vN]; omega
theorem vN_lt (v : Int) : vN v < 18446744073709551616 := by
 have : IntKind.u64.wrap v < 18446744073709551616 := by simp only [IntKind.wrap, IntKind.bits, IntKind.signed, Bool.false_and, Bool.false_eq_true, if_false]; omega
 have h := vN_eq v
 omega
def YA (r : Row) : List UInt8 := keyB r.t r.id ++ (be 8 (vN r.val) ++ (UInt8.ofNat r.note.length :: r.note))
theorem tB_eq {t : Int} (h0 : 0 ≤ t) (h1 : t < 256) : Value.int .u8 t = u8c (tB t) := by
 obtain ⟨n, rfl⟩ : ∃ n : Nat, t = n := ⟨t.toNat, by omega⟩
 simp only [u8c, tB, Int.toNat_natCast, UInt8.toNat_ofNat']
 congr 1
 have e : (2 : Nat) ^ 8 = 256 := by decide
 rw [e]
 omega
theorem key_spec (ρ : Hp) (v : Value) (n : Nat) (l : List UInt8) (sp : List Value) (hown : OwnS v n (l.map u8c) sp 1) (hn : n ≤ 100000) (t : Int) (id : Nat) (h0 : 0 ≤ t) (h3 : t < 256) (hid : id < 65536) :
  Spec Tryz.prog 228 [v, .agg ⟨keyV t id⟩] ρ [ZN v (l.map u8c) sp 5] (fun r ρ' L' => ρ.le ρ' ∧ ∃ sp', OwnS r (n + 3) ((l ++ keyB t id).map u8c) sp' 1 ∧ L' = [ZN r ((l ++ keyB t id).map u8c) sp' 5]) := by
 have hl : l.length = n := by obtain ⟨_, _, _, h⟩ := hown.len; simpa using h
 refine Zg Tryz.func228 rfl rfl rfl fun u R => ?_
 simp only [Zx, List.cons_append, List.nil_append]
 repeat' (first | (refine Zh ?_; first | (refine Zf ?_; refine qQ ?_) | refine Zm ?_) | refine Zb ?_ | (refine Zi ?_; refine Zr ?_) | (refine Zj ?_; refine Zs ?_) | intro _)
 rename_i b3
 refine ZB (Zq _ _ ([[(b3, .cells ⟨keyV t id⟩ 56 (0, 0))]])) (ZG (hT := tk) (Hp.le_refl _)) ?_
 all_goals (refine ZI 0 ?_; refine ZO 1 ?_; refine ZU 2 ?_; refine rCv 3 ?_; refine ZO 6 ?_; refine ZU 7 ?_)
 all_goals (refine Zt (i := 4) ?_; ((try refine Zn ?_); (first | (refine ZF rfl rfl rfl rfl (by simp) rfl rfl (fun _ => ?_); simp only [tB_eq h0 h3]) | (refine Zm ?_; try intro _)) <;> ((try simp only [kM, kN, kO]); refine Zb ?_; refine Zo ?_)))
 all_goals (refine Zt (i := 5) ?_; ((try refine Zn ?_); (first | (refine Xg (ys := [u8c (tB t)]) (m := 1) rfl rfl hown (hR := by infer_instance) SrcV.lit rfl rfl (by decide) rfl (by omega) (by omega) rfl (fun v' sp' hown' => ?_); rw [show l.map u8c ++ [u8c (tB t)] = (l ++ [tB t]).map u8c by simp] at hown' ⊢; refine Ye _ (h := Rem.here) (fun ρ2 hle2 hfz => ?_); obtain ⟨a', c', rfl, hc', hs⟩ := hown'.sIn hfz) | (refine Zm ?_; try intro _)) <;> ((try simp only [kM, kN, kO]); refine Zb ?_; refine Zo ?_)))
 all_goals (refine Zt (i := 8) ?_; ((try refine Zn ?_); (first | (refine Ze (.func 215) ?_; refine qC rfl rfl (put16_spec _ a' _ c' _ hs id hid (by omega)) ?_; rintro v ρ' L' hle ⟨rfl, sp2, hown2, rfl⟩ <;> (try simp only [kM, kN, kO])) | (refine Zm ?_; try intro _)) <;> ((try simp only [kM, kN, kO]); refine Zb ?_; refine Zo ?_)))
 all_goals (refine ZK ?_; refine rAs 9 ?_; refine ZE ?_)
 have e : l ++ [tB t] ++ be 2 id = l ++ keyB t id := by rw [List.append_assoc]; rfl
 rw [e] at hown2 ⊢
 repeat' (first | (refine Zh ?_; first | (refine Zf ?_; refine qQ ?_) | refine Zm ?_) | refine Zb ?_ | (refine Zi ?_; refine Zr ?_) | (refine Zj ?_; refine Zs ?_) | intro _)
 exact qE ⟨hle2, sp2, hown2, rfl⟩
theorem rowOk_iff {r : Row} (h : XN r = true) : 0 ≤ r.t ∧ r.t < 3 ∧ r.note.length ≤ 8 := by
 have := of_decide_eq_true h
 exact ⟨this.1.1, this.1.2, this.2⟩
theorem lenB {n : Nat} (h : n ≤ 200) : Value.int .u8 (n : Int) = u8c (UInt8.ofNat n) := by
 simp only [u8c, UInt8.toNat_ofNat']
 congr 1
 have e : (2 : Nat) ^ 8 = 256 := by decide
 rw [e]
 omega
theorem claid_spec (ρ : Hp) (v : Value) (n : Nat) (l : List UInt8) (sp : List Value) (hown : OwnS v n (l.map u8c) sp 1) (hn : n ≤ 1000) (r : Row) (hr : XN r = true) (hid : r.id < 65536) :
  Spec Tryz.prog 222 [v, .agg ⟨rowV r⟩] ρ [ZN v (l.map u8c) sp 5] (fun q ρ' L' => ρ.le ρ' ∧ ∃ sp', OwnS q (n + (YA r).length) ((l ++ YA r).map u8c) sp' 1 ∧ L' = [ZN q ((l ++ YA r).map u8c) sp' 5]) := by
 obtain ⟨h0, h3, h8⟩ := rowOk_iff hr
 have hl : l.length = n := by obtain ⟨_, _, _, h⟩ := hown.len; simpa using h
 have hvl := vN_lt r.val
 have hkb : (keyB r.t r.id).length = 3 := by simp [keyB, ZL]
 have hlb := lenB (n := r.note.length) (by omega)
 refine Zg Tryz.func222 rfl rfl rfl fun u R => ?_
 simp only [Zx, List.cons_append, List.nil_append]
 repeat' (first | (refine Zh ?_; first | (refine Zf ?_; refine qQ ?_) | refine Zm ?_) | refine Zb ?_ | (refine Zi ?_; refine Zr ?_) | (refine Zj ?_; refine Zs ?_) | intro _)
 rename_i b3
 refine ZB (Zq _ _ ([[(b3, .cells ⟨rowV r⟩ 58 (0, 0))]])) (ZG (hT := tk) (Hp.le_refl _)) ?_
 all_goals (refine ZI 0 ?_; refine ZO 1 ?_; refine ZU 2 ?_; refine ZO 4 ?_; refine ZU 5 ?_; refine rCv 6 ?_)
 all_goals (refine Zt (i := 3) ?_; ((try refine Zn ?_); (first | (simp only [vN_eq]; refine Ze (.func 228) ?_; refine qC rfl rfl (key_spec _ v n l sp hown (by omega) r.t r.id h0 (by omega) hid) ?_; rintro v1 ρ1 L1 hle0 ⟨hle1, sp1, hown1, rfl⟩; simp only [List.cons_append, List.nil_append]; refine Ye _ (h := Rem.here) (fun ρ2 hle2 hfz => ?_); obtain ⟨a1, c1, rfl, hc1, hs1⟩ := hown1.sIn hfz) | (refine Zm ?_; try intro _)) <;> ((try simp only [kM, kN, kO]); refine Zb ?_; refine Zo ?_)))
 all_goals (refine Zt (i := 7) ?_; ((try refine Zn ?_); (first | (refine Ze (.func 211) ?_; refine qC rfl rfl (put64_spec _ a1 _ c1 _ hs1 (vN r.val) hvl (by omega)) ?_; rintro v ρ' L' hle ⟨rfl, sp3, hown3, rfl⟩ <;> (try simp only [kM, kN, kO])) | (refine Zm ?_; try intro _)) <;> ((try simp only [kM, kN, kO]); refine Zb ?_; refine Zo ?_)))
 all_goals (refine ZK ?_; refine rAs 8 ?_; refine ZE ?_)
 repeat' (first | (refine Zh ?_; first | (refine Zf ?_; refine qQ ?_) | refine Zm ?_) | refine Zb ?_ | (refine Zi ?_; refine Zr ?_) | (refine Zj ?_; refine Zs ?_) | intro _)
 refine ZB (Zq _ _ ([[(b3, .cells ⟨rowV r⟩ 58 (0, 0))]])) (ZG (hT := tk) (Hp.le_refl _)) ?_
 all_goals (refine ZI 0 ?_; refine ZO 1 ?_; refine ZU 2 ?_; refine rBi 3 ?_; refine rCv 4 ?_; refine ZO 7 ?_; refine ZU 8 ?_)
 all_goals (refine Zt (i := 5) ?_; ((try refine Zn ?_); (first | (refine ZF rfl rfl rfl rfl (by simp) rfl rfl (fun _ => ?_); simp only [hlb]) | (refine Zm ?_; try intro _)) <;> ((try simp only [kM, kN, kO]); refine Zb ?_; refine Zo ?_)))
 all_goals (refine Zt (i := 6) ?_; ((try refine Zn ?_); (first | (refine Xg (ys := [u8c (UInt8.ofNat r.note.length)]) (m := 1) rfl rfl hown3 (hR := by infer_instance) SrcV.lit rfl rfl (by decide) rfl (by omega) (by omega) rfl (fun v4 sp4 hown4 => ?_)) | (refine tl_app_str (l := r.note) rfl rfl hown4 (hR := by infer_instance) (by omega) rfl (fun v5 sp5 hown5 => ?_)) | (refine Zm ?_; try intro _)) <;> ((try simp only [kM, kN, kO]); refine Zb ?_; refine Zo ?_)))
 all_goals (refine Zt (i := 9) ?_; ((try refine Zn ?_); (first | (refine Xg (ys := [u8c (UInt8.ofNat r.note.length)]) (m := 1) rfl rfl hown3 (hR := by infer_instance) SrcV.lit rfl rfl (by decide) rfl (by omega) (by omega) rfl (fun v4 sp4 hown4 => ?_)) | (refine tl_app_str (l := r.note) rfl rfl hown4 (hR := by infer_instance) (by omega) rfl (fun v5 sp5 hown5 => ?_)) | (refine Zm ?_; try intro _)) <;> ((try simp only [kM, kN, kO]); refine Zb ?_; refine Zo ?_)))
 all_goals (refine ZK ?_; refine rAs 10 ?_; refine ZE ?_)
 have e : (l ++ keyB r.t r.id ++ be 8 (vN r.val)).map u8c ++ [u8c (UInt8.ofNat r.note.length)] ++ r.note.map u8c = (l ++ YA r).map u8c := by simp [YA]
 have e2 : n + 3 + 8 + 1 + r.note.length = n + (YA r).length := by simp [YA, hkb, ZL]; omega
 rw [e] at hown5 ⊢
 rw [e2] at hown5
 repeat' (first | (refine Zh ?_; first | (refine Zf ?_; refine qQ ?_) | refine Zm ?_) | refine Zb ?_ | (refine Zi ?_; refine Zr ?_) | (refine Zj ?_; refine Zs ?_) | intro _)
 exact qE ⟨Hp.le_trans hle1 hle2, sp5, hown5, rfl⟩
theorem rowE_spec (ρ : Hp) (r : Row) (hid : r.id < 65536) :
  Spec Tryz.prog 214 [.agg ⟨rowV r⟩] ρ [] (fun v ρ' L' => ρ.le ρ' ∧ ∃ a n c, v = .tuple ⟨[.slice a n c, .int .i64 (if XN r then 0 else 151)]⟩ ∧ n ≤ c ∧ SIn ρ' u8c a n (if XN r then YA r else []) ∧ L' = []) := by
 have hck := fun ρ => checkRow_spec ρ r
 refine Zg Tryz.func214 rfl rfl rfl fun u R => ?_
 simp only [Zx, List.cons_append, List.nil_append]
 cases hok : XN r
 ·simp only [hok, Bool.false_eq_true, if_false] at hck ⊢
  repeat' (first | (refine Ze (.func 174) ?_; refine qC rfl rfl (hck _) ?_; rintro v ρ' L' hle ⟨rfl, rfl, rfl⟩ <;> (try simp only [kM, kN, kO])) | (refine Zh ?_; first | (refine Zf ?_; refine qQ ?_) | refine Zm ?_) | refine Zb ?_ | (refine Zi ?_; refine Zr ?_) | (refine Zj ?_; refine Zs ?_) | intro _)
  exact qE ⟨Hp.le_refl _, none, 0, 0, rfl, Nat.le_refl _, SIn.nil, rfl⟩
 ·simp only [hok, if_true] at hck ⊢
  repeat' (first | (refine Ze (.func 174) ?_; refine qC rfl rfl (hck _) ?_; rintro v ρ' L' hle ⟨rfl, rfl, rfl⟩ <;> (try simp only [kM, kN, kO])) | (refine Ze (.func 222) ?_; refine tl_call rfl rfl (claid_spec _ (.slice none 0 0) 0 [] [] (OwnS.nil 1) (by omega) r hok hid) (take_cons' rem_nil' take_nil') rfl ?_; rintro v1 ρ1 L1 hle0 ⟨hle1, sp1, hown1, rfl⟩; simp only [List.cons_append, List.nil_append, Nat.zero_add] at hown1 ⊢; refine Ye _ (h := Rem.here) (fun ρ2 hle2 hfz => ?_); obtain ⟨a1, c1, rfl, hc1, hs1⟩ := hown1.sIn hfz) | (refine Zh ?_; first | (refine Zf ?_; refine qQ ?_) | refine Zm ?_) | refine Zb ?_ | (refine Zi ?_; refine Zr ?_) | (refine Zj ?_; refine Zs ?_) | intro _)
  exact qE ⟨Hp.le_trans hle1 hle2, a1, _, c1, rfl, hc1, hs1, rfl⟩
end Go.Proofs.E
