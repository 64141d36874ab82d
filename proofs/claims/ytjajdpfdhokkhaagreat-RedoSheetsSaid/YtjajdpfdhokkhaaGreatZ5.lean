/- The law RedoSheets. Part 5 of 12. -/
import Derived.Test.YtjajdpfdhokkhaaGreatZ4
namespace Go.Proofs.E
open Go
set_option linter.unusedVariables false
set_option linter.unusedSimpArgs false
set_option linter.unusedSectionVars false
set_option maxRecDepth 4000
set_option maxHeartbeats 1000000
attribute [local irreducible] Yl TL TC TE Spec Xn R1 Hp.le EnvLe TS TR YS Zq
structure MetOk (es : List MapEntry) (ps : List Int) : Prop where
 keys : YE .i64 es
 get : ∀ p, YN es p = if p ∈ ps then some (.bool true) else none
theorem MetOk.nil : MetOk [] [] := ⟨by intro e he; simp at he, fun p => by simp [YN]⟩
def kidOk (i : Nat) (ps : List Int) (k : Kid) : Bool := decide (k.page ∉ ps ∧ 0 < k.page ∧ k.page < 64 ∧ (0 ≤ k.t ∧ k.t < 3) ∧ (0 < i ∨ (k.t = 0 ∧ k.id = 0)))
theorem kidV_len (r : Kid) : (Xp r).length = 3 := rfl
theorem ZK (ρ : Hp) (r : Kid) : Spec Tryz.prog 306 [.agg ⟨Xp r⟩] ρ [] (fun v ρ' L' => v = .agg ⟨keyV r.t r.id⟩ ∧ ρ' = ρ ∧ L' = []) := by
 refine Zf Tryz.func306 rfl rfl rfl fun u R => ?_
 simp only [ZG, List.cons_append, List.nil_append]
 repeat' (first | (refine Zj ?_; first | (refine Zi ?_; refine qQ ?_) | refine Zo ?_) | refine Zc ?_ | (refine Zh ?_; refine Zz ?_) | (refine Zg ?_; refine Zy ?_) | intro _)
 exact qE ⟨rfl, rfl, rfl⟩
abbrev metL (bx mb : Nat) (es : List MapEntry) (ck : Nat) : SH := [[(bx, .cells ⟨[.map (some mb)]⟩ 335 (0, 0))], [(mb, .map ⟨es⟩ ck)]]
theorem Yk (ρ : Hp) (bx mb : Nat) (es : List MapEntry) (ck : Nat) (ps : List Int) (hm : MetOk es ps) (i : Nat) (k : Kid) : Spec Tryz.prog 307 [.int .i64 i, .agg ⟨Xp k⟩, .pointer (some ⟨bx, 0, none⟩)] ρ (metL bx mb es ck)
  (fun v ρ' L' => v = .bool (kidOk i ps k) ∧ ρ' = ρ ∧ ∃ es' ck', MetOk es' (k.page :: ps) ∧ L' = metL bx mb es' ck') := by
 obtain ⟨t, id, page⟩ := k
 have hes := hm.keys
 have hg := hm.get page
 dsimp only at hg ⊢
 generalize hq : kidOk i ps ⟨t, id, page⟩ = q
 have hfin : ∀ es', YE .i64 es' → (∀ j, YN es' j = if j = page then some (.bool true) else YN es j) → MetOk es' (page :: ps) := fun es' h1 h2 => ⟨h1, fun p => by
  rw [h2 p, hm.get p]
  by_cases e : p = page <;> simp [e]⟩
 refine Zf Tryz.func307 rfl rfl rfl fun u R => ?_
 simp only [ZG, List.cons_append, List.nil_append]
 by_cases hp : page ∈ ps
 ·rw [if_pos hp] at hg
  have hq' : q = false := by rw [← hq]; exact decide_eq_false (fun h => h.1 hp)
  subst hq'
  repeat' (first | (refine YK rfl rfl rfl hes (fun es' ck' h1 h2 => ?_)) | (refine Zj ?_; first | (refine Zi ?_; refine qQ ?_) | refine Zo ?_) | refine Zc ?_ | (refine Zh ?_; refine Zz ?_) | (refine Zg ?_; refine Zy ?_) | intro _)
  exact qE ⟨rfl, rfl, es', ck', hfin es' h1 h2, rfl⟩
 ·rw [if_neg hp] at hg
  by_cases hp0 : 0 < page
  ·by_cases hp6 : page < 64
   ·by_cases ht : 0 ≤ t ∧ t < 3
    ·have hd : decide (0 ≤ t ∧ t < 3) = true := decide_eq_true ht
     by_cases hi : 0 < i
     ·have hq' : q = true := by rw [← hq]; exact decide_eq_true ⟨hp, hp0, hp6, ht, .inl hi⟩
      subst hq'
      repeat' (first | (refine YK rfl rfl rfl hes (fun es' ck' h1 h2 => ?_)) | (refine Zd (.func 280) ?_; refine qC rfl rfl (Xh _ _) ?_; rintro v ρ' L' hle ⟨rfl, rfl, rfl⟩ <;> (try simp only [kM, kN, kO, hd])) | (refine Zj ?_; first | (refine Zi ?_; refine qQ ?_) | refine Zo ?_) | refine Zc ?_ | (refine Zh ?_; refine Zz ?_) | (refine Zg ?_; refine Zy ?_) | intro _)
      exact qE ⟨rfl, rfl, es', ck', hfin es' h1 h2, rfl⟩
     ·by_cases hz : t = 0 ∧ id = 0
      ·have hq' : q = true := by rw [← hq]; exact decide_eq_true ⟨hp, hp0, hp6, ht, .inr hz⟩
       subst hq'
       obtain ⟨rfl, rfl⟩ := hz
       repeat' (first | (refine YK rfl rfl rfl hes (fun es' ck' h1 h2 => ?_)) | (refine Zd (.func 280) ?_; refine qC rfl rfl (Xh _ _) ?_; rintro v ρ' L' hle ⟨rfl, rfl, rfl⟩ <;> (try simp only [kM, kN, kO, hd])) | (refine Zj ?_; first | (refine Zi ?_; refine qQ ?_) | refine Zo ?_) | refine Zc ?_ | (refine Zh ?_; refine Zz ?_) | (refine Zg ?_; refine Zy ?_) | intro _)
       exact qE ⟨rfl, rfl, es', ck', hfin es' h1 h2, rfl⟩
      ·have hq' : q = false := by rw [← hq]; exact decide_eq_false (fun h => h.2.2.2.2.elim hi hz)
       subst hq'
       have hk : ((t == 0) && (((id : Int) == 0) && true)) = false := by
        simp; intro h; exact fun h' => hz ⟨h, by omega⟩
       repeat' (first | (refine YK rfl rfl rfl hes (fun es' ck' h1 h2 => ?_)) | (refine Zd (.func 280) ?_; refine qC rfl rfl (Xh _ _) ?_; rintro v ρ' L' hle ⟨rfl, rfl, rfl⟩ <;> (try simp only [kM, kN, kO, hd])) | (refine Zj ?_; first | (refine Zi ?_; refine qQ ?_) | refine Zo ?_) | refine Zc ?_ | (refine Zh ?_; refine Zz ?_) | (refine Zg ?_; refine Zy ?_) | intro _)
       exact qE ⟨by first | rfl | exact congrArg Value.bool hk, rfl, es', ck', hfin es' h1 h2, rfl⟩
    ·have hd : decide (0 ≤ t ∧ t < 3) = false := decide_eq_false ht
     have hq' : q = false := by rw [← hq]; exact decide_eq_false (fun h => ht h.2.2.2.1)
     subst hq'
     repeat' (first | (refine YK rfl rfl rfl hes (fun es' ck' h1 h2 => ?_)) | (refine Zd (.func 280) ?_; refine qC rfl rfl (Xh _ _) ?_; rintro v ρ' L' hle ⟨rfl, rfl, rfl⟩ <;> (try simp only [kM, kN, kO, hd])) | (refine Zj ?_; first | (refine Zi ?_; refine qQ ?_) | refine Zo ?_) | refine Zc ?_ | (refine Zh ?_; refine Zz ?_) | (refine Zg ?_; refine Zy ?_) | intro _)
     exact qE ⟨rfl, rfl, es', ck', hfin es' h1 h2, rfl⟩
   ·have hq' : q = false := by rw [← hq]; exact decide_eq_false (fun h => hp6 h.2.2.1)
    subst hq'
    repeat' (first | (refine YK rfl rfl rfl hes (fun es' ck' h1 h2 => ?_)) | (refine Zj ?_; first | (refine Zi ?_; refine qQ ?_) | refine Zo ?_) | refine Zc ?_ | (refine Zh ?_; refine Zz ?_) | (refine Zg ?_; refine Zy ?_) | intro _)
    exact qE ⟨rfl, rfl, es', ck', hfin es' h1 h2, rfl⟩
  ·have hq' : q = false := by rw [← hq]; exact decide_eq_false (fun h => hp0 h.2.1)
   subst hq'
   repeat' (first | (refine YK rfl rfl rfl hes (fun es' ck' h1 h2 => ?_)) | (refine Zj ?_; first | (refine Zi ?_; refine qQ ?_) | refine Zo ?_) | refine Zc ?_ | (refine Zh ?_; refine Zz ?_) | (refine Zg ?_; refine Zy ?_) | intro _)
   exact qE ⟨rfl, rfl, es', ck', hfin es' h1 h2, rfl⟩
def psTo (l : List Kid) (k : Nat) : List Int := ((l.take k).map Kid.page).reverse
theorem psTo_succ {l : List Kid} {k : Nat} (h : k < l.length) : psTo l (k + 1) = l[k].page :: psTo l k := by
 unfold psTo; rw [List.take_succ_eq_append_getElem h, List.map_append, List.reverse_append]; rfl
def ltK (y x : Kid) : Bool := decide (cmpK y.t y.id x.t x.id < 0)
def kidsOk (l : List Kid) : Bool := Zv 4 (fun i k => kidOk i (psTo l i) k) ltK l l.length
theorem risesKid_spec (ρ : Hp) (a : Option Addr) (n c : Nat) (l : List Kid) (h : AIn ρ 3 Xp a n l) (hn : n ≤ 1000000) (bx mb ck0 : Nat) :
  Spec Tryz.prog 305 [.slice a n c, .int .i64 4, .func (.func 306) ⟨[]⟩ ⟨[]⟩, .func (.func 307) ⟨[]⟩ ⟨[.pointer (some ⟨bx, 0, none⟩)]⟩] ρ (metL bx mb [] ck0) (fun v ρ' L' => v = .bool (kidsOk l) ∧ ρ' = ρ ∧ L' = []) := by
 have hl := h.len
 unfold kidsOk
 rw [hl]
 refine Zf Tryz.func305 rfl rfl rfl fun u R => ?_
 simp only [ZG, List.cons_append, List.nil_append]
 generalize hr : (fun (i : Nat) (k : Kid) => kidOk i (psTo l i) k) = rt
 repeat' (first | (refine Zj ?_; first | (refine Zi ?_; refine qQ ?_) | refine Zo ?_) | refine Zc ?_ | (refine Zh ?_; refine Zz ?_) | (refine Zg ?_; refine Zy ?_) | intro _)
 have e0 : decide ((n : Int) ≤ 4) = Zv 4 rt ltK l 0 := by
  rw [Zv]; simp [hl]; omega
 rw [e0]
 refine ZL [(0, _), (2, _), (3, _), (8, _), (16, _), (17, _)] (fun (ζ : (Nat) × (List MapEntry) × (Nat)) => [(18, .int .i64 ζ.1), (9, .bool (Zv 4 rt ltK l ζ.1))]) (fun (ζ : (Nat) × (List MapEntry) × (Nat)) => ρ) (fun (ζ : (Nat) × (List MapEntry) × (Nat)) => metL bx mb ζ.2.1 ζ.2.2) (fun (ζ : (Nat) × (List MapEntry) × (Nat)) => ζ.1 ≤ n ∧ MetOk ζ.2.1 (psTo l ζ.1)) (fun (ζ : (Nat) × (List MapEntry) × (Nat)) => n - ζ.1) ((0, [], ck0)) (⟨Nat.zero_le _, MetOk.nil⟩) Zn Zn rfl tk ?_
 rintro ⟨k, es, ck⟩ hI
 try simp only [List.cons_append, List.nil_append, List.append_assoc, List.append_eq] at hI ⊢
 try dsimp only at hI ⊢
 obtain ⟨hI, hm⟩ := hI
 by_cases hlt : k < n
 ·obtain ⟨b, off, C, T, fr, rfl, hb, hfit, hc⟩ := h.get (show k < l.length by omega)
  have hs := Yg (most := 4) (right := rt) (lt := ltK) (show k < l.length by omega)
  have hfin := fun (e : Zv 4 rt ltK l (k + 1) = false) => Yd e (show k + 1 ≤ n by omega)
  have hps := psTo_succ (show k < l.length by omega)
  have hrk : rt k l[k] = kidOk k (psTo l k) l[k] := by rw [← hr]
  cases hok : Zv 4 rt ltK l k
  ·rw [hok, Bool.false_and] at hs
   rw [hfin hs]
   generalize l[k] = x at *
   repeat' (first | (refine Zj ?_; first | (refine Zi ?_; refine qQ ?_) | refine Zo ?_) | refine Zc ?_ | (refine Zh ?_; refine Zz ?_) | (refine Zg ?_; refine Zy ?_) | intro _)
   rename_i b11
   refine ZJ (Zq _ _ ([[(b11, .cells ⟨Xp x⟩ 224 (0, 0))]])) (Yc (hT := tk) (Hp.le_refl _)) ?_
   all_goals (refine ZW 0 ?_; refine ZW 1 ?_; (first | refine Zb 2 ?_ | refine Za 2 ?_ | refine ZD 2 ?_); (first | refine Zb 3 ?_ | refine Za 3 ?_ | refine ZD 3 ?_); (first | refine Zb 4 ?_ | refine Za 4 ?_ | refine ZX 4 ?_))
   all_goals (first | refine Zb 5 ?_ | refine Za 5 ?_ | (refine Zt (i := 5) ?_; ((try refine Zr ?_); (first | (refine Zo ?_; try intro _)) <;> ((try simp only [kM, kN, kO]); refine Zc ?_; refine Zs ?_))))
   all_goals (refine rPk 6 ?_; refine ZW 7 ?_; (first | refine Zb 8 ?_ | refine Za 8 ?_ | refine ZD 8 ?_); (first | refine Zb 9 ?_ | refine Za 9 ?_ | refine wCm 9 ?_); (first | refine Zb 10 ?_ | refine Za 10 ?_ | refine ZD 10 ?_); (first | refine Zb 11 ?_ | refine Za 11 ?_ | refine ZD 11 ?_); (first | refine Zb 12 ?_ | refine Za 12 ?_ | refine ZD 12 ?_); (first | refine Zb 13 ?_ | refine Za 13 ?_ | refine ZD 13 ?_); (first | refine Zb 14 ?_ | refine Za 14 ?_ | refine wSb 14 ?_); (first | refine Zb 15 ?_ | refine Za 15 ?_ | refine wIa 15 ?_); (first | refine Zb 16 ?_ | refine Za 16 ?_ | refine ZX 16 ?_); (first | refine Zb 18 ?_ | refine Za 18 ?_ | refine ZD 18 ?_); (first | refine Zb 19 ?_ | refine Za 19 ?_ | refine ZX 19 ?_))
   all_goals (first | refine Zb 17 ?_ | refine Za 17 ?_ | (refine Zt (i := 17) ?_; ((try refine Zr ?_); (first | (refine Zo ?_; try intro _)) <;> ((try simp only [kM, kN, kO]); refine Zc ?_; refine Zs ?_))))
   all_goals (first | refine Zb 20 ?_ | refine Za 20 ?_ | (refine Zt (i := 20) ?_; ((try refine Zr ?_); (first | (refine Zo ?_; try intro _)) <;> ((try simp only [kM, kN, kO]); refine Zc ?_; refine Zs ?_))))
   all_goals (first | refine Zb 21 ?_ | refine Za 21 ?_ | (refine Zt (i := 21) ?_; ((try refine Zr ?_); (first | (refine Zo ?_; try intro _)) <;> ((try simp only [kM, kN, kO]); refine Zc ?_; refine Zs ?_))))
   all_goals (refine ZY ?_; (first | refine Zb 22 ?_ | refine Za 22 ?_ | refine wCm 22 ?_); (first | refine Zb 23 ?_ | refine Za 23 ?_ | refine wPk 23 ?_); refine rPk 24 ?_; refine rAs 25 ?_; refine ZT ?_)
   repeat' (first | (refine Zj ?_; first | (refine Zi ?_; refine qQ ?_) | refine Zo ?_) | refine Zc ?_ | (refine Zh ?_; refine Zz ?_) | (refine Zg ?_; refine Zy ?_) | intro _)
   exact qE ⟨rfl, rfl, rfl⟩
  ·rw [hok, Bool.true_and, hrk] at hs
   cases hx : kidOk k (psTo l k) l[k]
   ·rw [hx, Bool.false_and] at hs
    rw [hfin hs]
    generalize l[k] = x at *
    repeat' (first | (refine Zj ?_; first | (refine Zi ?_; refine qQ ?_) | refine Zo ?_) | refine Zc ?_ | (refine Zh ?_; refine Zz ?_) | (refine Zg ?_; refine Zy ?_) | intro _)
    rename_i b11
    refine ZJ (Zq _ _ ([[(b11, .cells ⟨Xp x⟩ 224 (0, 0))]])) (Yc (hT := tk) (Hp.le_refl _)) ?_
    all_goals (refine ZW 0 ?_; refine ZW 1 ?_; (first | refine Zb 2 ?_ | refine Za 2 ?_ | refine ZD 2 ?_); (first | refine Zb 3 ?_ | refine Za 3 ?_ | refine ZD 3 ?_); (first | refine Zb 4 ?_ | refine Za 4 ?_ | refine ZX 4 ?_))
    all_goals (first | refine Zb 5 ?_ | refine Za 5 ?_ | (refine Zt (i := 5) ?_; ((try refine Zr ?_); (first | (refine Zd (.tmp 25) ?_; refine qC rfl rfl (Yk _ bx mb es ck _ hm k x) ?_; rintro v ρ' L' hle ⟨rfl, rfl, es', ck', hm', rfl⟩ <;> (try simp only [kM, kN, kO, hx])) | (refine Zd (.tmp 34) ?_; refine qC rfl rfl (ZK _ _) ?_; rintro v ρ' L' hle ⟨rfl, rfl, rfl⟩ <;> (try simp only [kM, kN, kO])) | (refine Zd (.tmp 41) ?_; refine qC rfl rfl (ZK _ _) ?_; rintro v ρ' L' hle ⟨rfl, rfl, rfl⟩ <;> (try simp only [kM, kN, kO])) | (refine Zo ?_; try intro _)) <;> ((try simp only [kM, kN, kO]); refine Zc ?_; refine Zs ?_))))
    all_goals (refine rPk 6 ?_; refine ZW 7 ?_; (first | refine Zb 8 ?_ | refine Za 8 ?_ | refine ZD 8 ?_); (first | refine Zb 9 ?_ | refine Za 9 ?_ | refine wCm 9 ?_); (first | refine Zb 10 ?_ | refine Za 10 ?_ | refine ZD 10 ?_); (first | refine Zb 11 ?_ | refine Za 11 ?_ | refine ZD 11 ?_); (first | refine Zb 12 ?_ | refine Za 12 ?_ | refine ZD 12 ?_); (first | refine Zb 13 ?_ | refine Za 13 ?_ | refine ZD 13 ?_); (first | refine Zb 14 ?_ | refine Za 14 ?_ | refine wSb 14 ?_); (first | refine Zb 15 ?_ | refine Za 15 ?_ | refine wIa 15 ?_); (first | refine Zb 16 ?_ | refine Za 16 ?_ | refine ZX 16 ?_); (first | refine Zb 18 ?_ | refine Za 18 ?_ | refine ZD 18 ?_); (first | refine Zb 19 ?_ | refine Za 19 ?_ | refine ZX 19 ?_))
    all_goals (first | refine Zb 17 ?_ | refine Za 17 ?_ | (refine Zt (i := 17) ?_; ((try refine Zr ?_); (first | (refine Zd (.tmp 25) ?_; refine qC rfl rfl (Yk _ bx mb es ck _ hm k x) ?_; rintro v ρ' L' hle ⟨rfl, rfl, es', ck', hm', rfl⟩ <;> (try simp only [kM, kN, kO, hx])) | (refine Zd (.tmp 34) ?_; refine qC rfl rfl (ZK _ _) ?_; rintro v ρ' L' hle ⟨rfl, rfl, rfl⟩ <;> (try simp only [kM, kN, kO])) | (refine Zd (.tmp 41) ?_; refine qC rfl rfl (ZK _ _) ?_; rintro v ρ' L' hle ⟨rfl, rfl, rfl⟩ <;> (try simp only [kM, kN, kO])) | (refine Zo ?_; try intro _)) <;> ((try simp only [kM, kN, kO]); refine Zc ?_; refine Zs ?_))))
    all_goals (first | refine Zb 20 ?_ | refine Za 20 ?_ | (refine Zt (i := 20) ?_; ((try refine Zr ?_); (first | (refine Zd (.tmp 25) ?_; refine qC rfl rfl (Yk _ bx mb es ck _ hm k x) ?_; rintro v ρ' L' hle ⟨rfl, rfl, es', ck', hm', rfl⟩ <;> (try simp only [kM, kN, kO, hx])) | (refine Zd (.tmp 34) ?_; refine qC rfl rfl (ZK _ _) ?_; rintro v ρ' L' hle ⟨rfl, rfl, rfl⟩ <;> (try simp only [kM, kN, kO])) | (refine Zd (.tmp 41) ?_; refine qC rfl rfl (ZK _ _) ?_; rintro v ρ' L' hle ⟨rfl, rfl, rfl⟩ <;> (try simp only [kM, kN, kO])) | (refine Zo ?_; try intro _)) <;> ((try simp only [kM, kN, kO]); refine Zc ?_; refine Zs ?_))))
    all_goals (first | refine Zb 21 ?_ | refine Za 21 ?_ | (refine Zt (i := 21) ?_; ((try refine Zr ?_); (first | (refine Zd (.func 317) ?_; refine qC rfl rfl (YD _ _ _ _ _) ?_; rintro v ρ' L' hle ⟨rfl, rfl, rfl⟩ <;> (try simp only [kM, kN, kO])) | (refine Zo ?_; try intro _)) <;> ((try simp only [kM, kN, kO]); refine Zc ?_; refine Zs ?_))))
    all_goals (refine ZY ?_; (first | refine Zb 22 ?_ | refine Za 22 ?_ | refine wCm 22 ?_); (first | refine Zb 23 ?_ | refine Za 23 ?_ | refine wPk 23 ?_); refine rPk 24 ?_; refine rAs 25 ?_; refine ZT ?_)
    repeat' (first | (refine Zj ?_; first | (refine Zi ?_; refine qQ ?_) | refine Zo ?_) | refine Zc ?_ | (refine Zh ?_; refine Zz ?_) | (refine Zg ?_; refine Zy ?_) | intro _)
    exact qE ⟨rfl, rfl, rfl⟩
   ·rw [hx, Bool.true_and] at hs
    by_cases hk0 : k = 0
    ·have hs' : Zv 4 rt ltK l (k + 1) = true := by rw [hs]; simp [hk0]
     generalize l[k] = x at *
     repeat' (first | (refine Zj ?_; first | (refine Zi ?_; refine qQ ?_) | refine Zo ?_) | refine Zc ?_ | (refine Zh ?_; refine Zz ?_) | (refine Zg ?_; refine Zy ?_) | intro _)
     rename_i b11
     refine ZJ (Zq _ _ ([[(b11, .cells ⟨Xp x⟩ 224 (0, 0))]])) (Yc (hT := tk) (Hp.le_refl _)) ?_
     all_goals (refine ZW 0 ?_; refine ZW 1 ?_; (first | refine Zb 2 ?_ | refine Za 2 ?_ | refine ZD 2 ?_); (first | refine Zb 3 ?_ | refine Za 3 ?_ | refine ZD 3 ?_); (first | refine Zb 4 ?_ | refine Za 4 ?_ | refine ZX 4 ?_))
     all_goals (first | refine Zb 5 ?_ | refine Za 5 ?_ | (refine Zt (i := 5) ?_; ((try refine Zr ?_); (first | (refine Zd (.tmp 25) ?_; refine qC rfl rfl (Yk _ bx mb es ck _ hm k x) ?_; rintro v ρ' L' hle ⟨rfl, rfl, es', ck', hm', rfl⟩ <;> (try simp only [kM, kN, kO, hx])) | (refine Zd (.tmp 34) ?_; refine qC rfl rfl (ZK _ _) ?_; rintro v ρ' L' hle ⟨rfl, rfl, rfl⟩ <;> (try simp only [kM, kN, kO])) | (refine Zd (.tmp 41) ?_; refine qC rfl rfl (ZK _ _) ?_; rintro v ρ' L' hle ⟨rfl, rfl, rfl⟩ <;> (try simp only [kM, kN, kO])) | (refine Zo ?_; try intro _)) <;> ((try simp only [kM, kN, kO]); refine Zc ?_; refine Zs ?_))))
     all_goals (refine rPk 6 ?_; refine ZW 7 ?_; (first | refine Zb 8 ?_ | refine Za 8 ?_ | refine ZD 8 ?_); (first | refine Zb 9 ?_ | refine Za 9 ?_ | refine wCm 9 ?_); (first | refine Zb 10 ?_ | refine Za 10 ?_ | refine ZD 10 ?_); (first | refine Zb 11 ?_ | refine Za 11 ?_ | refine ZD 11 ?_); (first | refine Zb 12 ?_ | refine Za 12 ?_ | refine ZD 12 ?_); (first | refine Zb 13 ?_ | refine Za 13 ?_ | refine ZD 13 ?_); (first | refine Zb 14 ?_ | refine Za 14 ?_ | refine wSb 14 ?_); (first | refine Zb 15 ?_ | refine Za 15 ?_ | refine wIa 15 ?_); (first | refine Zb 16 ?_ | refine Za 16 ?_ | refine ZX 16 ?_); (first | refine Zb 18 ?_ | refine Za 18 ?_ | refine ZD 18 ?_); (first | refine Zb 19 ?_ | refine Za 19 ?_ | refine ZX 19 ?_))
     all_goals (first | refine Zb 17 ?_ | refine Za 17 ?_ | (refine Zt (i := 17) ?_; ((try refine Zr ?_); (first | (refine Zd (.tmp 25) ?_; refine qC rfl rfl (Yk _ bx mb es ck _ hm k x) ?_; rintro v ρ' L' hle ⟨rfl, rfl, es', ck', hm', rfl⟩ <;> (try simp only [kM, kN, kO, hx])) | (refine Zd (.tmp 34) ?_; refine qC rfl rfl (ZK _ _) ?_; rintro v ρ' L' hle ⟨rfl, rfl, rfl⟩ <;> (try simp only [kM, kN, kO])) | (refine Zd (.tmp 41) ?_; refine qC rfl rfl (ZK _ _) ?_; rintro v ρ' L' hle ⟨rfl, rfl, rfl⟩ <;> (try simp only [kM, kN, kO])) | (refine Zo ?_; try intro _)) <;> ((try simp only [kM, kN, kO]); refine Zc ?_; refine Zs ?_))))
     all_goals (first | refine Zb 20 ?_ | refine Za 20 ?_ | (refine Zt (i := 20) ?_; ((try refine Zr ?_); (first | (refine Zd (.tmp 25) ?_; refine qC rfl rfl (Yk _ bx mb es ck _ hm k x) ?_; rintro v ρ' L' hle ⟨rfl, rfl, es', ck', hm', rfl⟩ <;> (try simp only [kM, kN, kO, hx])) | (refine Zd (.tmp 34) ?_; refine qC rfl rfl (ZK _ _) ?_; rintro v ρ' L' hle ⟨rfl, rfl, rfl⟩ <;> (try simp only [kM, kN, kO])) | (refine Zd (.tmp 41) ?_; refine qC rfl rfl (ZK _ _) ?_; rintro v ρ' L' hle ⟨rfl, rfl, rfl⟩ <;> (try simp only [kM, kN, kO])) | (refine Zo ?_; try intro _)) <;> ((try simp only [kM, kN, kO]); refine Zc ?_; refine Zs ?_))))
     all_goals (first | refine Zb 21 ?_ | refine Za 21 ?_ | (refine Zt (i := 21) ?_; ((try refine Zr ?_); (first | (refine Zd (.func 317) ?_; refine qC rfl rfl (YD _ _ _ _ _) ?_; rintro v ρ' L' hle ⟨rfl, rfl, rfl⟩ <;> (try simp only [kM, kN, kO])) | (refine Zo ?_; try intro _)) <;> ((try simp only [kM, kN, kO]); refine Zc ?_; refine Zs ?_))))
     all_goals (refine ZY ?_; (first | refine Zb 22 ?_ | refine Za 22 ?_ | refine wCm 22 ?_); (first | refine Zb 23 ?_ | refine Za 23 ?_ | refine wPk 23 ?_); refine rPk 24 ?_; refine rAs 25 ?_; refine ZT ?_)
     repeat' (first | (refine Zj ?_; first | (refine Zi ?_; refine qQ ?_) | refine Zo ?_) | refine Zc ?_ | (refine Zh ?_; refine Zz ?_) | (refine Zg ?_; refine Zy ?_) | intro _)
     rw [← hs']
     refine Zu (k + 1, es', ck') (⟨hlt, by dsimp only; rw [hps]; exact hm'⟩) Zn Zn rfl tk inferInstance (by first | omega | (dsimp only; omega))
    ·have hd : decide (k = 0) = false := decide_eq_false hk0
     obtain ⟨b2, off2, C2, T2, fr2, f1, hb2, hfit2, hc2⟩ := h.get (show k - 1 < l.length by omega)
     cases f1
     rw [hb] at hb2
     cases hb2
     have ek : ((k : Int) - 1).toNat = k - 1 := by omega
     rw [← ek] at hfit2
     have hc3 : List.take 3 (List.drop (off + ((k : Int) - 1).toNat * 3) C) = Xp (l[k - 1]'(by omega)) := by rw [ek]; exact hc2
     clear hc2
     rw [hd, Bool.false_or] at hs
     generalize l[k] = x at *
     generalize l[k - 1]'(by omega) = y at *
     unfold ltK at hs
     by_cases hcm : cmpK y.t y.id x.t x.id < 0
     ·rw [decide_eq_true hcm] at hs
      repeat' (first | (refine Zj ?_; first | (refine Zi ?_; refine qQ ?_) | refine Zo ?_) | refine Zc ?_ | (refine Zh ?_; refine Zz ?_) | (refine Zg ?_; refine Zy ?_) | intro _)
      rename_i b11
      refine ZJ (Zq _ _ ([[(b11, .cells ⟨Xp x⟩ 224 (0, 0))]])) (Yc (hT := tk) (Hp.le_refl _)) ?_
      all_goals (refine ZW 0 ?_; refine ZW 1 ?_; (first | refine Zb 2 ?_ | refine Za 2 ?_ | refine ZD 2 ?_); (first | refine Zb 3 ?_ | refine Za 3 ?_ | refine ZD 3 ?_); (first | refine Zb 4 ?_ | refine Za 4 ?_ | refine ZX 4 ?_))
      all_goals (first | refine Zb 5 ?_ | refine Za 5 ?_ | (refine Zt (i := 5) ?_; ((try refine Zr ?_); (first | (refine Zd (.tmp 25) ?_; refine qC rfl rfl (Yk _ bx mb es ck _ hm k x) ?_; rintro v ρ' L' hle ⟨rfl, rfl, es', ck', hm', rfl⟩ <;> (try simp only [kM, kN, kO, hx])) | (refine Zd (.tmp 34) ?_; refine qC rfl rfl (ZK _ _) ?_; rintro v ρ' L' hle ⟨rfl, rfl, rfl⟩ <;> (try simp only [kM, kN, kO])) | (refine Zd (.tmp 41) ?_; refine qC rfl rfl (ZK _ _) ?_; rintro v ρ' L' hle ⟨rfl, rfl, rfl⟩ <;> (try simp only [kM, kN, kO])) | (refine Zo ?_; try intro _)) <;> ((try simp only [kM, kN, kO]); refine Zc ?_; refine Zs ?_))))
      all_goals (refine rPk 6 ?_; refine ZW 7 ?_; (first | refine Zb 8 ?_ | refine Za 8 ?_ | refine ZD 8 ?_); (first | refine Zb 9 ?_ | refine Za 9 ?_ | refine wCm 9 ?_); (first | refine Zb 10 ?_ | refine Za 10 ?_ | refine ZD 10 ?_); (first | refine Zb 11 ?_ | refine Za 11 ?_ | refine ZD 11 ?_); (first | refine Zb 12 ?_ | refine Za 12 ?_ | refine ZD 12 ?_); (first | refine Zb 13 ?_ | refine Za 13 ?_ | refine ZD 13 ?_); (first | refine Zb 14 ?_ | refine Za 14 ?_ | refine wSb 14 ?_); (first | refine Zb 15 ?_ | refine Za 15 ?_ | refine wIa 15 ?_); (first | refine Zb 16 ?_ | refine Za 16 ?_ | refine ZX 16 ?_); (first | refine Zb 18 ?_ | refine Za 18 ?_ | refine ZD 18 ?_); (first | refine Zb 19 ?_ | refine Za 19 ?_ | refine ZX 19 ?_))
      all_goals (first | refine Zb 17 ?_ | refine Za 17 ?_ | (refine Zt (i := 17) ?_; ((try refine Zr ?_); (first | (refine Zd (.tmp 25) ?_; refine qC rfl rfl (Yk _ bx mb es ck _ hm k x) ?_; rintro v ρ' L' hle ⟨rfl, rfl, es', ck', hm', rfl⟩ <;> (try simp only [kM, kN, kO, hx])) | (refine Zd (.tmp 34) ?_; refine qC rfl rfl (ZK _ _) ?_; rintro v ρ' L' hle ⟨rfl, rfl, rfl⟩ <;> (try simp only [kM, kN, kO])) | (refine Zd (.tmp 41) ?_; refine qC rfl rfl (ZK _ _) ?_; rintro v ρ' L' hle ⟨rfl, rfl, rfl⟩ <;> (try simp only [kM, kN, kO])) | (refine Zo ?_; try intro _)) <;> ((try simp only [kM, kN, kO]); refine Zc ?_; refine Zs ?_))))
      all_goals (first | refine Zb 20 ?_ | refine Za 20 ?_ | (refine Zt (i := 20) ?_; ((try refine Zr ?_); (first | (refine Zd (.tmp 25) ?_; refine qC rfl rfl (Yk _ bx mb es ck _ hm k x) ?_; rintro v ρ' L' hle ⟨rfl, rfl, es', ck', hm', rfl⟩ <;> (try simp only [kM, kN, kO, hx])) | (refine Zd (.tmp 34) ?_; refine qC rfl rfl (ZK _ _) ?_; rintro v ρ' L' hle ⟨rfl, rfl, rfl⟩ <;> (try simp only [kM, kN, kO])) | (refine Zd (.tmp 41) ?_; refine qC rfl rfl (ZK _ _) ?_; rintro v ρ' L' hle ⟨rfl, rfl, rfl⟩ <;> (try simp only [kM, kN, kO])) | (refine Zo ?_; try intro _)) <;> ((try simp only [kM, kN, kO]); refine Zc ?_; refine Zs ?_))))
      all_goals (first | refine Zb 21 ?_ | refine Za 21 ?_ | (refine Zt (i := 21) ?_; ((try refine Zr ?_); (first | (refine Zd (.func 317) ?_; refine qC rfl rfl (YD _ _ _ _ _) ?_; rintro v ρ' L' hle ⟨rfl, rfl, rfl⟩ <;> (try simp only [kM, kN, kO])) | (refine Zo ?_; try intro _)) <;> ((try simp only [kM, kN, kO]); refine Zc ?_; refine Zs ?_))))
      all_goals (refine ZY ?_; (first | refine Zb 22 ?_ | refine Za 22 ?_ | refine wCm 22 ?_); (first | refine Zb 23 ?_ | refine Za 23 ?_ | refine wPk 23 ?_); refine rPk 24 ?_; refine rAs 25 ?_; refine ZT ?_)
      all_goals (repeat' (first | (refine Zj ?_; first | (refine Zi ?_; refine qQ ?_) | refine Zo ?_) | refine Zc ?_ | (refine Zh ?_; refine Zz ?_) | (refine Zg ?_; refine Zy ?_) | intro _))
      all_goals rw [← show Zv 4 rt ltK l (k + 1) = true from hs]
      all_goals refine Zu (k + 1, es', ck') (⟨hlt, by dsimp only; rw [hps]; exact hm'⟩) Zn Zn rfl tk inferInstance (by first | omega | (dsimp only; omega))
     ·rw [decide_eq_false hcm] at hs
      rw [hfin hs]
      repeat' (first | (refine Zj ?_; first | (refine Zi ?_; refine qQ ?_) | refine Zo ?_) | refine Zc ?_ | (refine Zh ?_; refine Zz ?_) | (refine Zg ?_; refine Zy ?_) | intro _)
      rename_i b11
      refine ZJ (Zq _ _ ([[(b11, .cells ⟨Xp x⟩ 224 (0, 0))]])) (Yc (hT := tk) (Hp.le_refl _)) ?_
      all_goals (refine ZW 0 ?_; refine ZW 1 ?_; (first | refine Zb 2 ?_ | refine Za 2 ?_ | refine ZD 2 ?_); (first | refine Zb 3 ?_ | refine Za 3 ?_ | refine ZD 3 ?_); (first | refine Zb 4 ?_ | refine Za 4 ?_ | refine ZX 4 ?_))
      all_goals (first | refine Zb 5 ?_ | refine Za 5 ?_ | (refine Zt (i := 5) ?_; ((try refine Zr ?_); (first | (refine Zd (.tmp 25) ?_; refine qC rfl rfl (Yk _ bx mb es ck _ hm k x) ?_; rintro v ρ' L' hle ⟨rfl, rfl, es', ck', hm', rfl⟩ <;> (try simp only [kM, kN, kO, hx])) | (refine Zd (.tmp 34) ?_; refine qC rfl rfl (ZK _ _) ?_; rintro v ρ' L' hle ⟨rfl, rfl, rfl⟩ <;> (try simp only [kM, kN, kO])) | (refine Zd (.tmp 41) ?_; refine qC rfl rfl (ZK _ _) ?_; rintro v ρ' L' hle ⟨rfl, rfl, rfl⟩ <;> (try simp only [kM, kN, kO])) | (refine Zo ?_; try intro _)) <;> ((try simp only [kM, kN, kO]); refine Zc ?_; refine Zs ?_))))
      all_goals (refine rPk 6 ?_; refine ZW 7 ?_; (first | refine Zb 8 ?_ | refine Za 8 ?_ | refine ZD 8 ?_); (first | refine Zb 9 ?_ | refine Za 9 ?_ | refine wCm 9 ?_); (first | refine Zb 10 ?_ | refine Za 10 ?_ | refine ZD 10 ?_); (first | refine Zb 11 ?_ | refine Za 11 ?_ | refine ZD 11 ?_); (first | refine Zb 12 ?_ | refine Za 12 ?_ | refine ZD 12 ?_); (first | refine Zb 13 ?_ | refine Za 13 ?_ | refine ZD 13 ?_); (first | refine Zb 14 ?_ | refine Za 14 ?_ | refine wSb 14 ?_); (first | refine Zb 15 ?_ | refine Za 15 ?_ | refine wIa 15 ?_); (first | refine Zb 16 ?_ | refine Za 16 ?_ | refine ZX 16 ?_); (first | refine Zb 18 ?_ | refine Za 18 ?_ | refine ZD 18 ?_); (first | refine Zb 19 ?_ | refine Za 19 ?_ | refine ZX 19 ?_))
      all_goals (first | refine Zb 17 ?_ | refine Za 17 ?_ | (refine Zt (i := 17) ?_; ((try refine Zr ?_); (first | (refine Zd (.tmp 25) ?_; refine qC rfl rfl (Yk _ bx mb es ck _ hm k x) ?_; rintro v ρ' L' hle ⟨rfl, rfl, es', ck', hm', rfl⟩ <;> (try simp only [kM, kN, kO, hx])) | (refine Zd (.tmp 34) ?_; refine qC rfl rfl (ZK _ _) ?_; rintro v ρ' L' hle ⟨rfl, rfl, rfl⟩ <;> (try simp only [kM, kN, kO])) | (refine Zd (.tmp 41) ?_; refine qC rfl rfl (ZK _ _) ?_; rintro v ρ' L' hle ⟨rfl, rfl, rfl⟩ <;> (try simp only [kM, kN, kO])) | (refine Zo ?_; try intro _)) <;> ((try simp only [kM, kN, kO]); refine Zc ?_; refine Zs ?_))))
      all_goals (first | refine Zb 20 ?_ | refine Za 20 ?_ | (refine Zt (i := 20) ?_; ((try refine Zr ?_); (first | (refine Zd (.tmp 25) ?_; refine qC rfl rfl (Yk _ bx mb es ck _ hm k x) ?_; rintro v ρ' L' hle ⟨rfl, rfl, es', ck', hm', rfl⟩ <;> (try simp only [kM, kN, kO, hx])) | (refine Zd (.tmp 34) ?_; refine qC rfl rfl (ZK _ _) ?_; rintro v ρ' L' hle ⟨rfl, rfl, rfl⟩ <;> (try simp only [kM, kN, kO])) | (refine Zd (.tmp 41) ?_; refine qC rfl rfl (ZK _ _) ?_; rintro v ρ' L' hle ⟨rfl, rfl, rfl⟩ <;> (try simp only [kM, kN, kO])) | (refine Zo ?_; try intro _)) <;> ((try simp only [kM, kN, kO]); refine Zc ?_; refine Zs ?_))))
      all_goals (first | refine Zb 21 ?_ | refine Za 21 ?_ | (refine Zt (i := 21) ?_; ((try refine Zr ?_); (first | (refine Zd (.func 317) ?_; refine qC rfl rfl (YD _ _ _ _ _) ?_; rintro v ρ' L' hle ⟨rfl, rfl, rfl⟩ <;> (try simp only [kM, kN, kO])) | (refine Zo ?_; try intro _)) <;> ((try simp only [kM, kN, kO]); refine Zc ?_; refine Zs ?_))))
      all_goals (refine ZY ?_; (first | refine Zb 22 ?_ | refine Za 22 ?_ | refine wCm 22 ?_); (first | refine Zb 23 ?_ | refine Za 23 ?_ | refine wPk 23 ?_); refine rPk 24 ?_; refine rAs 25 ?_; refine ZT ?_)
      all_goals (repeat' (first | (refine Zj ?_; first | (refine Zi ?_; refine qQ ?_) | refine Zo ?_) | refine Zc ?_ | (refine Zh ?_; refine Zz ?_) | (refine Zg ?_; refine Zy ?_) | intro _))
      all_goals exact qE ⟨rfl, rfl, rfl⟩
 ·have hk2 : k = n := by omega
  subst hk2
  repeat' (first | (refine Zj ?_; first | (refine Zi ?_; refine qQ ?_) | refine Zo ?_) | refine Zc ?_ | (refine Zh ?_; refine Zz ?_) | (refine Zg ?_; refine Zy ?_) | intro _)
  exact qE ⟨rfl, rfl, rfl⟩
structure CV where
 ra : Option Addr
 rn : Nat
 rc : Nat
 ka : Option Addr
 kn : Nat
 kc : Nat
structure Cont where
 kind : Int
 rows : List Row
 kids : List Kid
deriving DecidableEq
abbrev contV (k : Int) (v : CV) : List Value := [.int .i64 k, .slice v.ra v.rn v.rc, .slice v.ka v.kn v.kc]
structure CIn (ρ : Hp) (v : CV) (rows : List Row) (kids : List Kid) : Prop where
 r : AIn ρ 4 Yx v.ra v.rn rows
 k : AIn ρ 3 Xp v.ka v.kn kids
 rb : v.rn ≤ 1000000
 kb : v.kn ≤ 1000000
 rc : v.rn ≤ v.rc
 kc : v.kn ≤ v.kc
theorem CIn.mono {ρ ρ' v rows kids} (h : CIn ρ v rows kids) (hle : ρ.le ρ') : CIn ρ' v rows kids := ⟨h.r.mono hle, h.k.mono hle, h.rb, h.kb, h.rc, h.kc⟩
theorem leafc_spec (ρ : Hp) (a : Option Addr) (n c : Nat) (l : List Row) (h : AIn ρ 4 Yx a n l) (hn : n ≤ 1000000) : Spec Tryz.prog 282 [.slice a n c] ρ [] (fun v ρ' L' => v = .bool (rowsOk l) ∧ ρ' = ρ ∧ L' = []) := by
 refine Zf Tryz.func282 rfl rfl rfl fun u R => ?_
 simp only [ZG, List.cons_append, List.nil_append]
 repeat' (first | (refine Zd (.func 302) ?_; refine qC rfl rfl (risesRow_spec _ a n c l h hn) ?_; rintro v ρ' L' hle ⟨rfl, rfl, rfl⟩ <;> (try simp only [kM, kN, kO])) | (refine Zj ?_; first | (refine Zi ?_; refine qQ ?_) | refine Zo ?_) | refine Zc ?_ | (refine Zh ?_; refine Zz ?_) | (refine Zg ?_; refine Zy ?_) | intro _)
 exact qE ⟨rfl, rfl, rfl⟩
theorem innerc_spec (ρ : Hp) (a : Option Addr) (n c : Nat) (l : List Kid) (h : AIn ρ 3 Xp a n l) (hn : n ≤ 1000000) : Spec Tryz.prog 283 [.slice a n c] ρ [] (fun v ρ' L' => v = .bool (decide (1 < n) && kidsOk l) ∧ ρ' = ρ ∧ L' = []) := by
 refine Zf Tryz.func283 rfl rfl rfl fun u R => ?_
 simp only [ZG, List.cons_append, List.nil_append]
 by_cases h1 : 1 < n
 ·rw [decide_eq_true h1, Bool.true_and]
  repeat' (first | (refine Zd (.func 305) ?_; refine qC rfl rfl (risesKid_spec _ a n c l h hn _ _ _) ?_; rintro v ρ' L' hle ⟨rfl, rfl, rfl⟩ <;> (try simp only [kM, kN, kO])) | (refine Zj ?_; first | (refine Zi ?_; refine qQ ?_) | refine Zo ?_) | refine Zc ?_ | (refine Zh ?_; refine Zz ?_) | (refine Zg ?_; refine Zy ?_) | intro _)
  exact qE ⟨rfl, rfl, rfl⟩
 ·rw [decide_eq_false h1, Bool.false_and]
  repeat' (first | (refine Zj ?_; first | (refine Zi ?_; refine qQ ?_) | refine Zo ?_) | refine Zc ?_ | (refine Zh ?_; refine Zz ?_) | (refine Zg ?_; refine Zy ?_) | intro _)
  exact qE ⟨rfl, rfl, rfl⟩
def Yq (c : Cont) : Bool :=
 if c.kind = 0 then decide (c.rows.length + c.kids.length = 0)
 else if c.kind = 1 then decide (c.kids.length = 0) && rowsOk c.rows
 else if c.kind = 2 then decide (c.rows.length = 0) && (decide (1 < c.kids.length) && kidsOk c.kids)
 else false
theorem check_spec (ρ : Hp) (v : CV) (c : Cont) (h : CIn ρ v c.rows c.kids) : Spec Tryz.prog 251 [.agg ⟨contV c.kind v⟩] ρ [] (fun r ρ' L' => r = .int .i64 (if Yq c then 0 else 160) ∧ ρ' = ρ ∧ L' = []) := by
 obtain ⟨kind, rows, kids⟩ := c
 obtain ⟨ra, rn, rc, ka, kn, kc⟩ := v
 obtain ⟨hr, hk, hrb, hkb, _, _⟩ := h
 dsimp only at hr hk hrb hkb
 have hrl := hr.len
 have hkl := hk.len
 have hrs := leafc_spec ρ ra rn rc rows hr hrb
 have hks := innerc_spec ρ ka kn kc kids hk hkb
 generalize hq : Yq ⟨kind, rows, kids⟩ = q
 unfold Yq at hq
 simp only [hrl, hkl] at hq
 refine Zf Tryz.func251 rfl rfl rfl fun u R => ?_
 simp only [ZG, List.cons_append, List.nil_append]
 by_cases k0 : kind = 0
 ·rw [if_pos k0] at hq
  by_cases hz : rn + kn = 0
  ·rw [decide_eq_true hz] at hq
   subst hq
   repeat' (first | (refine Zj ?_; first | (refine Zi ?_; refine qQ ?_) | refine Zo ?_) | refine Zc ?_ | (refine Zh ?_; refine Zz ?_) | (refine Zg ?_; refine Zy ?_) | intro _)
   exact qE ⟨rfl, rfl, rfl⟩
  ·rw [decide_eq_false hz] at hq
   subst hq
   repeat' (first | (refine Zj ?_; first | (refine Zi ?_; refine qQ ?_) | refine Zo ?_) | refine Zc ?_ | (refine Zh ?_; refine Zz ?_) | (refine Zg ?_; refine Zy ?_) | intro _)
   exact qE ⟨rfl, rfl, rfl⟩
 ·rw [if_neg k0] at hq
  by_cases k1 : kind = 1
  ·rw [if_pos k1] at hq
   by_cases hz : kn = 0
   ·rw [decide_eq_true hz, Bool.true_and] at hq
    rw [hq] at hrs
    cases q
    all_goals (repeat' (first | (refine Zd (.func 282) ?_; refine qC rfl rfl (hrs) ?_; rintro v ρ' L' hle ⟨rfl, rfl, rfl⟩ <;> (try simp only [kM, kN, kO])) | (refine Zj ?_; first | (refine Zi ?_; refine qQ ?_) | refine Zo ?_) | refine Zc ?_ | (refine Zh ?_; refine Zz ?_) | (refine Zg ?_; refine Zy ?_) | intro _))
    all_goals exact qE ⟨rfl, rfl, rfl⟩
   ·rw [decide_eq_false hz, Bool.false_and] at hq
    subst hq
    repeat' (first | (refine Zj ?_; first | (refine Zi ?_; refine qQ ?_) | refine Zo ?_) | refine Zc ?_ | (refine Zh ?_; refine Zz ?_) | (refine Zg ?_; refine Zy ?_) | intro _)
    exact qE ⟨rfl, rfl, rfl⟩
  ·rw [if_neg k1] at hq
   by_cases k2 : kind = 2
   ·rw [if_pos k2] at hq
    by_cases hz : rn = 0
    ·rw [decide_eq_true hz, Bool.true_and] at hq
     rw [hq] at hks
     cases q
     all_goals (repeat' (first | (refine Zd (.func 283) ?_; refine qC rfl rfl (hks) ?_; rintro v ρ' L' hle ⟨rfl, rfl, rfl⟩ <;> (try simp only [kM, kN, kO])) | (refine Zj ?_; first | (refine Zi ?_; refine qQ ?_) | refine Zo ?_) | refine Zc ?_ | (refine Zh ?_; refine Zz ?_) | (refine Zg ?_; refine Zy ?_) | intro _))
     all_goals exact qE ⟨rfl, rfl, rfl⟩
    ·rw [decide_eq_false hz, Bool.false_and] at hq
     subst hq
     repeat' (first | (refine Zj ?_; first | (refine Zi ?_; refine qQ ?_) | refine Zo ?_) | refine Zc ?_ | (refine Zh ?_; refine Zz ?_) | (refine Zg ?_; refine Zy ?_) | intro _)
     exact qE ⟨rfl, rfl, rfl⟩
   ·rw [if_neg k2] at hq
    subst hq
    repeat' (first | (refine Zj ?_; first | (refine Zi ?_; refine qQ ?_) | refine Zo ?_) | refine Zc ?_ | (refine Zh ?_; refine Zz ?_) | (refine Zg ?_; refine Zy ?_) | intro _)
    exact qE ⟨rfl, rfl, rfl⟩
theorem CIn.nil {ρ : Hp} : CIn ρ ⟨none, 0, 0, none, 0, 0⟩ [] [] := ⟨AIn.nil, AIn.nil, by decide, by decide, by decide, by decide⟩
def tB (t : Int) : UInt8 := UInt8.ofNat t.toNat
def keyB (t : Int) (id : Nat) : List UInt8 := tB t :: be 2 id
def vN (v : Int) : Nat := (IntKind.u64.wrap v).toNat
def rowB (r : Row) : List UInt8 := keyB r.t r.id ++ (be 8 (vN r.val) ++ (UInt8.ofNat r.note.length :: r.note))
theorem rowOk_iff {r : Row} (h : YJ r = true) : 0 ≤ r.t ∧ r.t < 3 ∧ r.note.length ≤ 8 := by
 have := of_decide_eq_true h
 exact ⟨this.1.1, this.1.2, this.2⟩
def kidB (k : Kid) : List UInt8 := keyB k.t k.id ++ [tB k.page]
def cntB (c : Cont) : List UInt8 := if c.kind = 0 then [] else [UInt8.ofNat (c.rows.length + c.kids.length)]
def contB (c : Cont) : List UInt8 := tB c.kind :: cntB c ++ (c.rows.flatMap rowB ++ c.kids.flatMap kidB)
theorem Xl {α : Type} {most : Nat} {right : Nat → α → Bool} {lt : α → α → Bool} {l : List α} : ∀ {k : Nat}, Zv most right lt l k = true → k ≤ l.length → l.length ≤ most ∧ ∀ i (h : i < l.length), i < k → right i l[i] = true ∧ (i = 0 ∨ lt (l[i - 1]'(by omega)) l[i] = true)
 | 0, h, _ => ⟨of_decide_eq_true h, fun i _ hi => by omega⟩
 | k + 1, h, hk => by
  rw [Yg (show k < l.length by omega), Bool.and_eq_true, Bool.and_eq_true] at h
  obtain ⟨h1, h2, h3⟩ := h
  obtain ⟨g1, g2⟩ := Xl h1 (by omega)
  refine ⟨g1, fun i hi hik => ?_⟩
  by_cases e : i < k
  ·exact g2 i hi e
  ·have : i = k := by omega
   subst this
   refine ⟨h2, ?_⟩
   simpa using h3
structure ContOk (c : Cont) : Prop where
 kind : c.kind = 0 ∧ c.rows = [] ∧ c.kids = [] ∨ c.kind = 1 ∧ c.kids = [] ∨ c.kind = 2 ∧ c.rows = [] ∧ 1 < c.kids.length
 rl : c.rows.length ≤ 4
 kl : c.kids.length ≤ 4
 row : ∀ r ∈ c.rows, YJ r = true
 kid : ∀ k ∈ c.kids, (0 ≤ k.t ∧ k.t < 3) ∧ 0 < k.page ∧ k.page < 64
theorem contOk_facts {c : Cont} (h : Yq c = true) : ContOk c := by
 obtain ⟨kind, rows, kids⟩ := c
 unfold Yq at h
 dsimp only at h
 split at h
 ·rename_i hk
  have hz := of_decide_eq_true h
  have h1 : rows = [] := List.eq_nil_of_length_eq_zero (by omega)
  have h2 : kids = [] := List.eq_nil_of_length_eq_zero (by omega)
  subst h1; subst h2
  exact ⟨.inl ⟨hk, rfl, rfl⟩, by simp, by simp, by simp, by simp⟩
 ·split at h
  ·rename_i hk
   rw [Bool.and_eq_true] at h
   have h2 : kids = [] := List.eq_nil_of_length_eq_zero (of_decide_eq_true h.1)
   subst h2
   obtain ⟨g1, g2⟩ := Xl h.2 (Nat.le_refl _)
   refine ⟨.inr (.inl ⟨hk, rfl⟩), g1, by simp, fun r hr => ?_, by simp⟩
   obtain ⟨i, hi, rfl⟩ := List.mem_iff_getElem.1 hr
   exact (g2 i hi hi).1
  ·split at h
   ·rename_i hk
    rw [Bool.and_eq_true, Bool.and_eq_true] at h
    have h1 : rows = [] := List.eq_nil_of_length_eq_zero (of_decide_eq_true h.1)
    subst h1
    obtain ⟨g1, g2⟩ := Xl h.2.2 (Nat.le_refl _)
    refine ⟨.inr (.inr ⟨hk, rfl, of_decide_eq_true h.2.1⟩), by simp, g1, by simp, fun k hk => ?_⟩
    obtain ⟨i, hi, rfl⟩ := List.mem_iff_getElem.1 hk
    have := of_decide_eq_true (g2 i hi hi).1
    exact ⟨this.2.2.2.1, this.2.1, this.2.2.1⟩
   ·cases h
theorem rowB_len {r : Row} (h : YJ r = true) : (rowB r).length = 12 + r.note.length := by simp [rowB, keyB, YQ]; omega
theorem rowB_le {r : Row} (h : YJ r = true) : (rowB r).length ≤ 20 := by rw [rowB_len h]; have := (rowOk_iff h).2.2; omega
theorem kidB_len (k : Kid) : (kidB k).length = 4 := by simp [kidB, keyB, YQ]
theorem flatMap_le {α : Type} (f : α → List UInt8) (m : Nat) : ∀ (l : List α), (∀ x ∈ l, (f x).length ≤ m) → (l.flatMap f).length ≤ l.length * m
 | [], _ => by simp
 | x :: r, h => by
  have h1 := h x (by simp)
  have ih := flatMap_le f m r (fun y hy => h y (by simp [hy]))
  simp only [List.flatMap_cons, List.length_append, List.length_cons, Nat.add_mul]; omega
instance : Fun Tryz.prog 30 := mkFun (by kernel_rfl)
instance (priority := 1200) eqRow {x y : Row} : EqC Tryz.prog 8 101 (.agg ⟨Yx x⟩) (.agg ⟨Yx y⟩) (decide (x = y)) := by
 have h : EqC Tryz.prog 8 101 (.agg ⟨[.int .i64 x.t, .int .u16 x.id, .int .i64 x.val, strV x.note]⟩) (.agg ⟨[.int .i64 y.t, .int .u16 y.id, .int .i64 y.val, strV y.note]⟩) _ := inferInstance
 refine ⟨fun d w hd => ?_⟩
 rw [h.out d w hd]
 congr 1
 obtain ⟨t, i, v, n⟩ := x
 obtain ⟨t', i', v', n'⟩ := y
 simp only [Row.mk.injEq, Bool.and_true, Bool.decide_and]
 have e : ((i : Int) == (i' : Int)) = decide (i = i') := by
  by_cases h : i = i'
  ·subst h; simp
  ·rw [decide_eq_false h]; simp only [beq_eq_false_iff_ne, ne_eq]; omega
 rw [e]
 by_cases h1 : t = t' <;> by_cases h2 : i = i' <;> by_cases h3 : v = v' <;> simp [h1, h2, h3]
instance (priority := 1200) eqKid {x y : Kid} : EqC Tryz.prog 8 224 (.agg ⟨Xp x⟩) (.agg ⟨Xp y⟩) (decide (x = y)) := by
 have h : EqC Tryz.prog 8 224 (.agg ⟨[.int .i64 x.t, .int .u16 x.id, .int .i64 x.page]⟩) (.agg ⟨[.int .i64 y.t, .int .u16 y.id, .int .i64 y.page]⟩) _ := inferInstance
 refine ⟨fun d w hd => ?_⟩
 rw [h.out d w hd]
 congr 1
 obtain ⟨t, i, v⟩ := x
 obtain ⟨t', i', v'⟩ := y
 simp only [Kid.mk.injEq, Bool.and_true, Bool.decide_and]
 have e : ((i : Int) == (i' : Int)) = decide (i = i') := by
  by_cases h : i = i'
  ·subst h; simp
  ·rw [decide_eq_false h]; simp only [beq_eq_false_iff_ne, ne_eq]; omega
 rw [e]
 by_cases h1 : t = t' <;> by_cases h2 : i = i' <;> by_cases h3 : v = v' <;> simp [h1, h2, h3]
structure RowFit (r : Row) : Prop where
 id : r.id < 65536
 val : -9223372036854775808 ≤ r.val ∧ r.val ≤ 9223372036854775807
structure KidFit (k : Kid) : Prop where
 id : k.id < 65536
 t : 0 ≤ k.t ∧ k.t < 256
 page : 0 ≤ k.page ∧ k.page < 256
structure ContFit (c : Cont) : Prop where
 row : ∀ r ∈ c.rows, RowFit r
 kid : ∀ k ∈ c.kids, KidFit k
theorem contB_len {c : Cont} (h : Yq c = true) : (contB c).length ≤ 82 := by
 have hF := contOk_facts h
 have h1 := flatMap_le rowB 20 c.rows (fun x hx => rowB_le (hF.row x hx))
 have h2 := flatMap_le kidB 4 c.kids (fun x hx => Nat.le_of_eq (kidB_len x))
 have h3 : (cntB c).length ≤ 1 := by unfold cntB; split <;> simp
 have hk := hF.kind
 have hrl := hF.rl
 have hkl := hF.kl
 simp only [contB, List.length_cons, List.length_append]
 have er : c.rows = [] → (c.rows.flatMap rowB).length = 0 := fun e => by rw [e]; rfl
 have ek : c.kids = [] → (c.kids.flatMap kidB).length = 0 := fun e => by rw [e]; rfl
 rcases hk with ⟨_, hr, hk⟩ | ⟨_, hk⟩ | ⟨_, hr, _⟩
 ·have := er hr; have := ek hk; omega
 ·have := ek hk; omega
 ·have := er hr; omega
structure IdFit (c : Cont) : Prop where
 row : ∀ r ∈ c.rows, RowFit r
 kid : ∀ k ∈ c.kids, k.id < 65536
theorem contB_form {c : Cont} (h : Yq c = true) : (c.kind = 0 ∧ c = ⟨0, [], []⟩ ∧ contB c = [0]) ∨ (c.kind = 1 ∧ c.kids = [] ∧ contB c = 1 :: (UInt8.ofNat c.rows.length :: c.rows.flatMap rowB)) ∨ (c.kind = 2 ∧ c.rows = [] ∧ contB c = 2 :: (UInt8.ofNat c.kids.length :: c.kids.flatMap kidB)) := by
 have hF := (contOk_facts h).kind
 obtain ⟨kind, rows, kids⟩ := c
 dsimp only at hF ⊢
 rcases hF with ⟨rfl, rfl, rfl⟩ | ⟨rfl, rfl⟩ | ⟨rfl, rfl, _⟩
 ·exact .inl ⟨rfl, rfl, by simp [contB, cntB]; rfl⟩
 ·exact .inr (.inl ⟨rfl, rfl, by simp [contB, cntB]; rfl⟩)
 ·exact .inr (.inr ⟨rfl, rfl, by simp [contB, cntB]; rfl⟩)
theorem YI (ρ : Hp) (n : Int) : Spec Tryz.prog 243 [.int .i64 n] ρ [] (fun v ρ' L' => v = .bool (decide (0 ≤ n ∧ n < 3)) ∧ ρ' = ρ ∧ L' = []) := by
 refine Zf Tryz.func243 rfl rfl rfl fun u R => ?_
 simp only [ZG, List.cons_append, List.nil_append]
 by_cases h0 : 0 ≤ n
 ·by_cases h1 : n < 3
  ·rw [decide_eq_true ⟨h0, h1⟩]
   repeat' (first | (refine Zj ?_; first | (refine Zi ?_; refine qQ ?_) | refine Zo ?_) | refine Zc ?_ | (refine Zh ?_; refine Zz ?_) | (refine Zg ?_; refine Zy ?_) | intro _)
   exact qE ⟨rfl, rfl, rfl⟩
  ·rw [decide_eq_false (fun h => h1 h.2)]
   repeat' (first | (refine Zj ?_; first | (refine Zi ?_; refine qQ ?_) | refine Zo ?_) | refine Zc ?_ | (refine Zh ?_; refine Zz ?_) | (refine Zg ?_; refine Zy ?_) | intro _)
   exact qE ⟨rfl, rfl, rfl⟩
 ·rw [decide_eq_false (fun h => h0 h.1)]
  repeat' (first | (refine Zj ?_; first | (refine Zi ?_; refine qQ ?_) | refine Zo ?_) | refine Zc ?_ | (refine Zh ?_; refine Zz ?_) | (refine Zg ?_; refine Zy ?_) | intro _)
  exact qE ⟨rfl, rfl, rfl⟩
theorem Yb (ρ : Hp) (t : Int) (id : Nat) (h0 : 0 ≤ t) (h3 : t < 3) (hid : id < 65536) : Spec Tryz.prog 281 [.agg ⟨keyV t id⟩] ρ [] (fun v ρ' L' => v = .int .i64 (t * 65536 + id) ∧ ρ' = ρ ∧ L' = []) := by
 refine Zf Tryz.func281 rfl rfl rfl fun u R => ?_
 simp only [ZG, List.cons_append, List.nil_append]
 repeat' (first | (refine Zj ?_; first | (refine Zi ?_; refine qQ ?_) | refine Zo ?_) | refine Zc ?_ | (refine Zh ?_; refine Zz ?_) | (refine Zg ?_; refine Zy ?_) | intro _)
 exact qE ⟨rfl, rfl, rfl⟩
theorem order_lt {t1 t2 : Int} {i1 i2 : Nat} (h1 : i1 < 65536) (h2 : i2 < 65536) : cmpK t1 i1 t2 i2 < 0 ↔ t1 * 65536 + i1 < t2 * 65536 + i2 := by
 rw [cmpK_lt]; omega
theorem Xd (ρ : Hp) (r : Row) : Spec Tryz.prog 247 [.agg ⟨Yx r⟩] ρ [] (fun v ρ' L' => v = .bool (YJ r) ∧ ρ' = ρ ∧ L' = []) := by
 obtain ⟨t, id, val, note⟩ := r
 refine Zf Tryz.func247 rfl rfl rfl fun u R => ?_
 simp only [ZG, List.cons_append, List.nil_append, YJ]
 by_cases h1 : 0 ≤ t ∧ t < 3
 ·have hd : decide (0 ≤ t ∧ t < 3) = true := decide_eq_true h1
  by_cases h2 : note.length ≤ 8
  ·rw [decide_eq_true ⟨h1, h2⟩]
   repeat' (first | (refine Zd (.func 243) ?_; refine qC rfl rfl (YI _ _) ?_; rintro v ρ' L' hle ⟨rfl, rfl, rfl⟩ <;> (try simp only [kM, kN, kO, hd])) | (refine Zj ?_; first | (refine Zi ?_; refine qQ ?_) | refine Zo ?_) | refine Zc ?_ | (refine Zh ?_; refine Zz ?_) | (refine Zg ?_; refine Zy ?_) | intro _)
   exact qE ⟨rfl, rfl, rfl⟩
  ·rw [decide_eq_false (fun h => h2 h.2)]
   repeat' (first | (refine Zd (.func 243) ?_; refine qC rfl rfl (YI _ _) ?_; rintro v ρ' L' hle ⟨rfl, rfl, rfl⟩ <;> (try simp only [kM, kN, kO, hd])) | (refine Zj ?_; first | (refine Zi ?_; refine qQ ?_) | refine Zo ?_) | refine Zc ?_ | (refine Zh ?_; refine Zz ?_) | (refine Zg ?_; refine Zy ?_) | intro _)
   exact qE ⟨rfl, rfl, rfl⟩
 ·have hd : decide (0 ≤ t ∧ t < 3) = false := decide_eq_false h1
  rw [decide_eq_false (fun h => h1 h.1)]
  repeat' (first | (refine Zd (.func 243) ?_; refine qC rfl rfl (YI _ _) ?_; rintro v ρ' L' hle ⟨rfl, rfl, rfl⟩ <;> (try simp only [kM, kN, kO, hd])) | (refine Zj ?_; first | (refine Zi ?_; refine qQ ?_) | refine Zo ?_) | refine Zc ?_ | (refine Zh ?_; refine Zz ?_) | (refine Zg ?_; refine Zy ?_) | intro _)
  exact qE ⟨rfl, rfl, rfl⟩
theorem risesB_split {α : Type} {most : Nat} {right : Nat → α → Bool} {lt : α → α → Bool} {l : List α} : ∀ k, Zv most right lt l k = (decide (l.length ≤ most) && Zv l.length right lt l k)
 | 0 => by simp [Zv]
 | k + 1 => by rw [Zv, risesB_split k, Zv, Bool.and_assoc]
theorem rowsR_spec (ρ : Hp) (a : Option Addr) (n c : Nat) (l : List Row) (h : AIn ρ 4 Yx a n l) (hn : n ≤ 1000000) (hid : ∀ r ∈ l, r.id < 65536) :
  Spec Tryz.prog 245 [.slice a n c] ρ [] (fun v ρ' L' => v = .bool (rowsOk l) ∧ ρ' = ρ ∧ L' = []) := by
 have hl := h.len
 unfold rowsOk
 rw [risesB_split, hl]
 refine Zf Tryz.func245 rfl rfl rfl fun u R => ?_
 simp only [ZG, List.cons_append, List.nil_append]
 generalize hrt : (fun (_ : Nat) (r : Row) => YJ r) = rt
 repeat' (first | (refine Zj ?_; first | (refine Zi ?_; refine qQ ?_) | refine Zo ?_) | refine Zc ?_ | (refine Zh ?_; refine Zz ?_) | (refine Zg ?_; refine Zy ?_) | intro _)
 refine ZL [(0, _), (2, _), (5, _), (6, _)] (fun (ζ : (Nat)) => [(7, .int .i64 ζ)]) (fun (ζ : (Nat)) => ρ) (fun (ζ : (Nat)) => []) (fun (ζ : (Nat)) => ζ ≤ n ∧ Zv n rt ltR l ζ = true) (fun (ζ : (Nat)) => n - ζ) (0) (⟨Nat.zero_le _, by rw [Zv, hl]; exact decide_eq_true (Nat.le_refl _)⟩) Zn Zn rfl tk ?_
 rintro k hI
 try simp only [List.cons_append, List.nil_append, List.append_assoc, List.append_eq] at hI ⊢
 try dsimp only at hI ⊢
 obtain ⟨hk, hok⟩ := hI
 by_cases hlt : k < n
 ·obtain ⟨b, off, C, T, fr, rfl, hb, hfit, hc⟩ := h.get (show k < l.length by omega)
  have hs := Yg (most := n) (right := rt) (lt := ltR) (show k < l.length by omega)
  rw [hok, Bool.true_and] at hs
  have hrk : rt k (l[k]'(by omega)) = YJ (l[k]'(by omega)) := by rw [← hrt]
  rw [hrk] at hs
  have hfin := fun (e : Zv n rt ltR l (k + 1) = false) => Yd e (show k + 1 ≤ n by omega)
  have hmem : l[k]'(by omega) ∈ l := List.getElem_mem _
  have hidk := hid _ hmem
  cases hx : YJ (l[k]'(by omega))
  ·rw [hx, Bool.false_and] at hs
   rw [hfin hs, Bool.and_false]
   generalize l[k]'(by omega) = x at *
   repeat' (first | (refine Zj ?_; first | (refine Zi ?_; refine qQ ?_) | refine Zo ?_) | refine Zc ?_ | (refine Zh ?_; refine Zz ?_) | (refine Zg ?_; refine Zy ?_) | intro _)
   refine ZJ (Zq _ _ _) Zx ?_
   all_goals refine rLd 0 ?_
   all_goals (refine Zt (i := 1) ?_; ((try refine Zr ?_); (first | (refine Zd (.func 247) ?_; refine qC rfl rfl (Xd _ x) ?_; rintro v ρ' L' hle ⟨rfl, rfl, rfl⟩ <;> (try simp only [kM, kN, kO, hx])) | (refine Zo ?_; try intro _)) <;> ((try simp only [kM, kN, kO]); refine Zc ?_; refine Zs ?_)))
   all_goals (refine rUn 2 ?_; refine ZW 3 ?_; (first | refine Zb 4 ?_ | refine Za 4 ?_ | refine ZD 4 ?_); (first | refine Zb 5 ?_ | refine Za 5 ?_ | refine wCm 5 ?_); (first | refine Zb 6 ?_ | refine Za 6 ?_ | refine ZD 6 ?_); (first | refine Zb 7 ?_ | refine Za 7 ?_ | refine ZD 7 ?_); (first | refine Zb 8 ?_ | refine Za 8 ?_ | refine ZD 8 ?_); (first | refine Zb 9 ?_ | refine Za 9 ?_ | refine wSb 9 ?_); (first | refine Zb 10 ?_ | refine Za 10 ?_ | refine wIa 10 ?_); (first | refine Zb 11 ?_ | refine Za 11 ?_ | refine ZV 11 ?_); (first | refine Zb 12 ?_ | refine Za 12 ?_ | refine ZX 12 ?_); (first | refine Zb 14 ?_ | refine Za 14 ?_ | refine ZV 14 ?_); (first | refine Zb 15 ?_ | refine Za 15 ?_ | refine ZX 15 ?_))
   all_goals (first | refine Zb 13 ?_ | refine Za 13 ?_ | (refine Zt (i := 13) ?_; ((try refine Zr ?_); (first | (refine Zo ?_; try intro _)) <;> ((try simp only [kM, kN, kO]); refine Zc ?_; refine Zs ?_))))
   all_goals (first | refine Zb 16 ?_ | refine Za 16 ?_ | (refine Zt (i := 16) ?_; ((try refine Zr ?_); (first | (refine Zo ?_; try intro _)) <;> ((try simp only [kM, kN, kO]); refine Zc ?_; refine Zs ?_))))
   all_goals (refine ZY ?_; (first | refine Zb 17 ?_ | refine Za 17 ?_ | refine wCm 17 ?_); (first | refine Zb 18 ?_ | refine Za 18 ?_ | refine wPk 18 ?_); refine rPk 19 ?_; refine ZT ?_)
   repeat' (first | (refine Zj ?_; first | (refine Zi ?_; refine qQ ?_) | refine Zo ?_) | refine Zc ?_ | (refine Zh ?_; refine Zz ?_) | (refine Zg ?_; refine Zy ?_) | intro _)
   exact qE ⟨rfl, rfl, rfl⟩
  ·rw [hx, Bool.true_and] at hs
   by_cases hk0 : k = 0
   ·have hs' : Zv n rt ltR l (k + 1) = true := by rw [hs]; simp [hk0]
    generalize l[k]'(by omega) = x at *
    repeat' (first | (refine Zj ?_; first | (refine Zi ?_; refine qQ ?_) | refine Zo ?_) | refine Zc ?_ | (refine Zh ?_; refine Zz ?_) | (refine Zg ?_; refine Zy ?_) | intro _)
    refine ZJ (Zq _ _ _) Zx ?_
    all_goals refine rLd 0 ?_
    all_goals (refine Zt (i := 1) ?_; ((try refine Zr ?_); (first | (refine Zd (.func 247) ?_; refine qC rfl rfl (Xd _ x) ?_; rintro v ρ' L' hle ⟨rfl, rfl, rfl⟩ <;> (try simp only [kM, kN, kO, hx])) | (refine Zo ?_; try intro _)) <;> ((try simp only [kM, kN, kO]); refine Zc ?_; refine Zs ?_)))
    all_goals (refine rUn 2 ?_; refine ZW 3 ?_; (first | refine Zb 4 ?_ | refine Za 4 ?_ | refine ZD 4 ?_); (first | refine Zb 5 ?_ | refine Za 5 ?_ | refine wCm 5 ?_); (first | refine Zb 6 ?_ | refine Za 6 ?_ | refine ZD 6 ?_); (first | refine Zb 7 ?_ | refine Za 7 ?_ | refine ZD 7 ?_); (first | refine Zb 8 ?_ | refine Za 8 ?_ | refine ZD 8 ?_); (first | refine Zb 9 ?_ | refine Za 9 ?_ | refine wSb 9 ?_); (first | refine Zb 10 ?_ | refine Za 10 ?_ | refine wIa 10 ?_); (first | refine Zb 11 ?_ | refine Za 11 ?_ | refine ZV 11 ?_); (first | refine Zb 12 ?_ | refine Za 12 ?_ | refine ZX 12 ?_); (first | refine Zb 14 ?_ | refine Za 14 ?_ | refine ZV 14 ?_); (first | refine Zb 15 ?_ | refine Za 15 ?_ | refine ZX 15 ?_))
    all_goals (first | refine Zb 13 ?_ | refine Za 13 ?_ | (refine Zt (i := 13) ?_; ((try refine Zr ?_); (first | (refine Zo ?_; try intro _)) <;> ((try simp only [kM, kN, kO]); refine Zc ?_; refine Zs ?_))))
    all_goals (first | refine Zb 16 ?_ | refine Za 16 ?_ | (refine Zt (i := 16) ?_; ((try refine Zr ?_); (first | (refine Zo ?_; try intro _)) <;> ((try simp only [kM, kN, kO]); refine Zc ?_; refine Zs ?_))))
    all_goals (refine ZY ?_; (first | refine Zb 17 ?_ | refine Za 17 ?_ | refine wCm 17 ?_); (first | refine Zb 18 ?_ | refine Za 18 ?_ | refine wPk 18 ?_); refine rPk 19 ?_; refine ZT ?_)
    repeat' (first | (refine Zj ?_; first | (refine Zi ?_; refine qQ ?_) | refine Zo ?_) | refine Zc ?_ | (refine Zh ?_; refine Zz ?_) | (refine Zg ?_; refine Zy ?_) | intro _)
    refine Zu (k + 1) (⟨hlt, hs'⟩) Zn Zn rfl tk inferInstance (by first | omega | (dsimp only; omega))
   ·have hd : decide (k = 0) = false := decide_eq_false hk0
    rw [hd, Bool.false_or] at hs
    obtain ⟨b2, off2, C2, T2, fr2, f1, hb2, hfit2, hc2⟩ := h.get (show k - 1 < l.length by omega)
    cases f1
    rw [hb] at hb2
    cases hb2
    have ek : ((k : Int) - 1).toNat = k - 1 := by omega
    have hkey : List.take 2 (List.drop (off + ((k : Int) - 1).toNat * 4) C) = keyV (l[k - 1]'(by omega)).t (l[k - 1]'(by omega)).id := by
     rw [ek]
     have := congrArg (List.take 2) hc2
     rw [List.take_take] at this
     exact this
    have hfit3 : off + ((k : Int) - 1).toNat * 4 + 2 ≤ C.length := by rw [ek]; omega
    obtain ⟨g1, g2⟩ := Xl hok (by omega)
    have hrp := (g2 (k - 1) (by omega) (by omega)).1
    have hrk1 : rt (k - 1) (l[k - 1]'(by omega)) = YJ (l[k - 1]'(by omega)) := by rw [← hrt]
    rw [hrk1] at hrp
    have hidp := hid _ (List.getElem_mem (show k - 1 < l.length by omega))
    clear hc2 hfit2 hrk hrk1
    generalize l[k]'(by omega) = x at *
    generalize l[k - 1]'(by omega) = y at *
    obtain ⟨y0, y3, _⟩ := rowOk_iff hrp
    obtain ⟨x0, x3, _⟩ := rowOk_iff hx
    have hor := order_lt (t1 := y.t) (t2 := x.t) hidp hidk
    unfold ltR at hs
    by_cases hcm : cmpK y.t y.id x.t x.id < 0
    ·rw [decide_eq_true hcm] at hs
     have hcm2 := hor.1 hcm
     repeat' (first | (refine Zj ?_; first | (refine Zi ?_; refine qQ ?_) | refine Zo ?_) | refine Zc ?_ | (refine Zh ?_; refine Zz ?_) | (refine Zg ?_; refine Zy ?_) | intro _)
     refine ZJ (Zq _ _ _) Zx ?_
     all_goals refine rLd 0 ?_
     all_goals (refine Zt (i := 1) ?_; ((try refine Zr ?_); (first | (refine Zd (.func 247) ?_; refine qC rfl rfl (Xd _ x) ?_; rintro v ρ' L' hle ⟨rfl, rfl, rfl⟩ <;> (try simp only [kM, kN, kO, hx])) | (refine Zo ?_; try intro _)) <;> ((try simp only [kM, kN, kO]); refine Zc ?_; refine Zs ?_)))
     all_goals (refine rUn 2 ?_; refine ZW 3 ?_; (first | refine Zb 4 ?_ | refine Za 4 ?_ | refine ZD 4 ?_); (first | refine Zb 5 ?_ | refine Za 5 ?_ | refine wCm 5 ?_); (first | refine Zb 6 ?_ | refine Za 6 ?_ | refine ZD 6 ?_); (first | refine Zb 7 ?_ | refine Za 7 ?_ | refine ZD 7 ?_); (first | refine Zb 8 ?_ | refine Za 8 ?_ | refine ZD 8 ?_); (first | refine Zb 9 ?_ | refine Za 9 ?_ | refine wSb 9 ?_); (first | refine Zb 10 ?_ | refine Za 10 ?_ | refine wIa 10 ?_); (first | refine Zb 11 ?_ | refine Za 11 ?_ | refine ZV 11 ?_); (first | refine Zb 12 ?_ | refine Za 12 ?_ | refine ZX 12 ?_); (first | refine Zb 14 ?_ | refine Za 14 ?_ | refine ZV 14 ?_); (first | refine Zb 15 ?_ | refine Za 15 ?_ | refine ZX 15 ?_))
     all_goals (first | refine Zb 13 ?_ | refine Za 13 ?_ | (refine Zt (i := 13) ?_; ((try refine Zr ?_); (first | (refine Zd (.func 281) ?_; refine qC rfl rfl (Yb _ y.t y.id y0 y3 hidp) ?_; rintro v ρ' L' hle ⟨rfl, rfl, rfl⟩ <;> (try simp only [kM, kN, kO])) | (refine Zd (.func 281) ?_; refine qC rfl rfl (Yb _ x.t x.id x0 x3 hidk) ?_; rintro v ρ' L' hle ⟨rfl, rfl, rfl⟩ <;> (try simp only [kM, kN, kO])) | (refine Zo ?_; try intro _)) <;> ((try simp only [kM, kN, kO]); refine Zc ?_; refine Zs ?_))))
     all_goals (first | refine Zb 16 ?_ | refine Za 16 ?_ | (refine Zt (i := 16) ?_; ((try refine Zr ?_); (first | (refine Zd (.func 281) ?_; refine qC rfl rfl (Yb _ y.t y.id y0 y3 hidp) ?_; rintro v ρ' L' hle ⟨rfl, rfl, rfl⟩ <;> (try simp only [kM, kN, kO])) | (refine Zd (.func 281) ?_; refine qC rfl rfl (Yb _ x.t x.id x0 x3 hidk) ?_; rintro v ρ' L' hle ⟨rfl, rfl, rfl⟩ <;> (try simp only [kM, kN, kO])) | (refine Zo ?_; try intro _)) <;> ((try simp only [kM, kN, kO]); refine Zc ?_; refine Zs ?_))))
     all_goals (refine ZY ?_; (first | refine Zb 17 ?_ | refine Za 17 ?_ | refine wCm 17 ?_); (first | refine Zb 18 ?_ | refine Za 18 ?_ | refine wPk 18 ?_); refine rPk 19 ?_; refine ZT ?_)
     all_goals (repeat' (first | (refine Zj ?_; first | (refine Zi ?_; refine qQ ?_) | refine Zo ?_) | refine Zc ?_ | (refine Zh ?_; refine Zz ?_) | (refine Zg ?_; refine Zy ?_) | intro _))
     all_goals refine Zu (k + 1) (⟨hlt, hs⟩) Zn Zn rfl tk inferInstance (by first | omega | (dsimp only; omega))
    ·rw [decide_eq_false hcm] at hs
     rw [hfin hs, Bool.and_false]
     have hcm2 : ¬ (y.t * 65536 + y.id < x.t * 65536 + x.id) := fun h => hcm (hor.2 h)
     repeat' (first | (refine Zj ?_; first | (refine Zi ?_; refine qQ ?_) | refine Zo ?_) | refine Zc ?_ | (refine Zh ?_; refine Zz ?_) | (refine Zg ?_; refine Zy ?_) | intro _)
     refine ZJ (Zq _ _ _) Zx ?_
     all_goals refine rLd 0 ?_
     all_goals (refine Zt (i := 1) ?_; ((try refine Zr ?_); (first | (refine Zd (.func 247) ?_; refine qC rfl rfl (Xd _ x) ?_; rintro v ρ' L' hle ⟨rfl, rfl, rfl⟩ <;> (try simp only [kM, kN, kO, hx])) | (refine Zo ?_; try intro _)) <;> ((try simp only [kM, kN, kO]); refine Zc ?_; refine Zs ?_)))
     all_goals (refine rUn 2 ?_; refine ZW 3 ?_; (first | refine Zb 4 ?_ | refine Za 4 ?_ | refine ZD 4 ?_); (first | refine Zb 5 ?_ | refine Za 5 ?_ | refine wCm 5 ?_); (first | refine Zb 6 ?_ | refine Za 6 ?_ | refine ZD 6 ?_); (first | refine Zb 7 ?_ | refine Za 7 ?_ | refine ZD 7 ?_); (first | refine Zb 8 ?_ | refine Za 8 ?_ | refine ZD 8 ?_); (first | refine Zb 9 ?_ | refine Za 9 ?_ | refine wSb 9 ?_); (first | refine Zb 10 ?_ | refine Za 10 ?_ | refine wIa 10 ?_); (first | refine Zb 11 ?_ | refine Za 11 ?_ | refine ZV 11 ?_); (first | refine Zb 12 ?_ | refine Za 12 ?_ | refine ZX 12 ?_); (first | refine Zb 14 ?_ | refine Za 14 ?_ | refine ZV 14 ?_); (first | refine Zb 15 ?_ | refine Za 15 ?_ | refine ZX 15 ?_))
     all_goals (first | refine Zb 13 ?_ | refine Za 13 ?_ | (refine Zt (i := 13) ?_; ((try refine Zr ?_); (first | (refine Zd (.func 281) ?_; refine qC rfl rfl (Yb _ y.t y.id y0 y3 hidp) ?_; rintro v ρ' L' hle ⟨rfl, rfl, rfl⟩ <;> (try simp only [kM, kN, kO])) | (refine Zd (.func 281) ?_; refine qC rfl rfl (Yb _ x.t x.id x0 x3 hidk) ?_; rintro v ρ' L' hle ⟨rfl, rfl, rfl⟩ <;> (try simp only [kM, kN, kO])) | (refine Zo ?_; try intro _)) <;> ((try simp only [kM, kN, kO]); refine Zc ?_; refine Zs ?_))))
     all_goals (first | refine Zb 16 ?_ | refine Za 16 ?_ | (refine Zt (i := 16) ?_; ((try refine Zr ?_); (first | (refine Zd (.func 281) ?_; refine qC rfl rfl (Yb _ y.t y.id y0 y3 hidp) ?_; rintro v ρ' L' hle ⟨rfl, rfl, rfl⟩ <;> (try simp only [kM, kN, kO])) | (refine Zd (.func 281) ?_; refine qC rfl rfl (Yb _ x.t x.id x0 x3 hidk) ?_; rintro v ρ' L' hle ⟨rfl, rfl, rfl⟩ <;> (try simp only [kM, kN, kO])) | (refine Zo ?_; try intro _)) <;> ((try simp only [kM, kN, kO]); refine Zc ?_; refine Zs ?_))))
     all_goals (refine ZY ?_; (first | refine Zb 17 ?_ | refine Za 17 ?_ | refine wCm 17 ?_); (first | refine Zb 18 ?_ | refine Za 18 ?_ | refine wPk 18 ?_); refine rPk 19 ?_; refine ZT ?_)
     all_goals (repeat' (first | (refine Zj ?_; first | (refine Zi ?_; refine qQ ?_) | refine Zo ?_) | refine Zc ?_ | (refine Zh ?_; refine Zz ?_) | (refine Zg ?_; refine Zy ?_) | intro _))
     all_goals exact qE ⟨rfl, rfl, rfl⟩
 ·have hk2 : k = n := by omega
  subst hk2
  rw [hok, Bool.and_true]
  by_cases h4 : k ≤ 4
  ·rw [decide_eq_true h4]
   repeat' (first | (refine Zj ?_; first | (refine Zi ?_; refine qQ ?_) | refine Zo ?_) | refine Zc ?_ | (refine Zh ?_; refine Zz ?_) | (refine Zg ?_; refine Zy ?_) | intro _)
   exact qE ⟨rfl, rfl, rfl⟩
  ·rw [decide_eq_false h4]
   repeat' (first | (refine Zj ?_; first | (refine Zi ?_; refine qQ ?_) | refine Zo ?_) | refine Zc ?_ | (refine Zh ?_; refine Zz ?_) | (refine Zg ?_; refine Zy ?_) | intro _)
   exact qE ⟨rfl, rfl, rfl⟩
theorem psTo_mem {l : List Kid} {k : Nat} {p : Int} : p ∈ psTo l k ↔ ∃ x ∈ l.take k, x.page = p := by simp only [psTo, List.mem_reverse, List.mem_map]
theorem kidsR_spec (ρ : Hp) (a : Option Addr) (n c : Nat) (l : List Kid) (h : AIn ρ 3 Xp a n l) (hn : n ≤ 1000000) (hnc : n ≤ c) (hid : ∀ r ∈ l, r.id < 65536) :
  Spec Tryz.prog 246 [.slice a n c] ρ [] (fun v ρ' L' => v = .bool (decide (1 < n) && kidsOk l) ∧ ρ' = ρ ∧ L' = []) := by
 have hl := h.len
 unfold kidsOk
 rw [risesB_split, hl]
 refine Zf Tryz.func246 rfl rfl rfl fun u R => ?_
 simp only [ZG, List.cons_append, List.nil_append]
 generalize hrt : (fun (i : Nat) (k : Kid) => kidOk i (psTo l i) k) = rt
 repeat' (first | (refine Zj ?_; first | (refine Zi ?_; refine qQ ?_) | refine Zo ?_) | refine Zc ?_ | (refine Zh ?_; refine Zz ?_) | (refine Zg ?_; refine Zy ?_) | intro _)
 refine ZL [(0, _), (2, _), (7, _), (8, _)] (fun (ζ : (Nat)) => [(9, .int .i64 ζ)]) (fun (ζ : (Nat)) => ρ) (fun (ζ : (Nat)) => []) (fun (ζ : (Nat)) => ζ ≤ n ∧ Zv n rt ltK l ζ = true) (fun (ζ : (Nat)) => n - ζ) (0) (⟨Nat.zero_le _, by rw [Zv, hl]; exact decide_eq_true (Nat.le_refl _)⟩) Zn Zn rfl tk ?_
 rintro k hI
 try simp only [List.cons_append, List.nil_append, List.append_assoc, List.append_eq] at hI ⊢
 try dsimp only at hI ⊢
 obtain ⟨hk, hok⟩ := hI
 by_cases hlt : k < n
 ·have hsub := h.take (hi' := k) (by omega)
  obtain ⟨b, off, C, T, fr, rfl, hb, hfit, hc⟩ := h.get (show k < l.length by omega)
  have hs := Yg (most := n) (right := rt) (lt := ltK) (show k < l.length by omega)
  rw [hok, Bool.true_and] at hs
  have hrk : rt k (l[k]'(by omega)) = kidOk k (psTo l k) (l[k]'(by omega)) := by rw [← hrt]
  rw [hrk] at hs
  have hfin := fun (e : Zv n rt ltK l (k + 1) = false) => Yd e (show k + 1 ≤ n by omega)
  have hmem : l[k]'(by omega) ∈ l := List.getElem_mem _
  have hidk := hid _ hmem
  have hx : ∀ P : Prop, (kidOk k (psTo l k) (l[k]'(by omega)) = true → P) → ¬ P → (decide (1 < n) && (decide (n ≤ 4) && Zv n rt ltK l n)) = false := fun P h1 h2 => by
   have : kidOk k (psTo l k) (l[k]'(by omega)) = false := by
    cases e : kidOk k (psTo l k) (l[k]'(by omega))
    ·rfl
    ·exact absurd (h1 e) h2
   rw [this, Bool.false_and] at hs
   rw [hfin hs]; simp
  have hkx : kidOk k (psTo l k) (l[k]'(by omega)) = true → (l[k]'(by omega)).page ∉ psTo l k ∧ 0 < (l[k]'(by omega)).page ∧ (l[k]'(by omega)).page < 64 ∧ (0 ≤ (l[k]'(by omega)).t ∧ (l[k]'(by omega)).t < 3) ∧ (0 < k ∨ ((l[k]'(by omega)).t = 0 ∧ (l[k]'(by omega)).id = 0)) := fun e => of_decide_eq_true e
  generalize hX : l[k]'(by omega) = x at *
  by_cases p0 : 0 < x.page
  ·by_cases p6 : x.page < 64
   ·by_cases ht : 0 ≤ x.t ∧ x.t < 3
    ·have hd : decide (0 ≤ x.t ∧ x.t < 3) = true := decide_eq_true ht
     by_cases hk0 : k = 0
     ·by_cases hz : x.t = 0 ∧ x.id = 0
      ·have hkk : ((x.t == 0) && (((x.id : Int) == 0) && true)) = true := by simp [hz.1, hz.2]
       repeat' (first | (refine Zj ?_; first | (refine Zi ?_; refine qQ ?_) | refine Zo ?_) | refine Zc ?_ | (refine Zh ?_; refine Zz ?_) | (refine Zg ?_; refine Zy ?_) | intro _)
       rename_i b4
       refine ZJ (Zq _ _ _) Zx ?_
       all_goals (refine rFa 0 ?_; refine rLd 1 ?_; refine rCm 2 ?_; refine ZW 3 ?_; (first | refine Zb 4 ?_ | refine Za 4 ?_ | refine ZV 4 ?_); (first | refine Zb 5 ?_ | refine Za 5 ?_ | refine ZX 5 ?_); (first | refine Zb 6 ?_ | refine Za 6 ?_ | refine wCm 6 ?_); refine rPk 7 ?_; refine ZW 8 ?_; (first | refine Zb 9 ?_ | refine Za 9 ?_ | refine ZV 9 ?_); (first | refine Zb 10 ?_ | refine Za 10 ?_ | refine ZV 10 ?_); (first | refine Zb 11 ?_ | refine Za 11 ?_ | refine ZX 11 ?_))
       all_goals (first | refine Zb 12 ?_ | refine Za 12 ?_ | (refine Zt (i := 12) ?_; ((try refine Zr ?_); (first | (refine Zd (.func 243) ?_; refine qC rfl rfl (YI _ _) ?_; rintro v ρ' L' hle ⟨rfl, rfl, rfl⟩ <;> (try simp only [kM, kN, kO, hd])) | (refine Zo ?_; try intro _)) <;> ((try simp only [kM, kN, kO]); refine Zc ?_; refine Zs ?_))))
       all_goals ((first | refine Zb 13 ?_ | refine Za 13 ?_ | refine wUn 13 ?_); refine rPk 14 ?_; refine ZW 15 ?_; (first | refine Zb 16 ?_ | refine Za 16 ?_ | refine ZD 16 ?_); (first | refine Zb 17 ?_ | refine Za 17 ?_ | refine wCm 17 ?_); (first | refine Zb 18 ?_ | refine Za 18 ?_ | refine ZD 18 ?_); (first | refine Zb 19 ?_ | refine Za 19 ?_ | refine ZV 19 ?_); (first | refine Zb 20 ?_ | refine Za 20 ?_ | refine ZX 20 ?_); (first | refine Zb 21 ?_ | refine Za 21 ?_ | refine wBu 21 ?_); (first | refine Zb 22 ?_ | refine Za 22 ?_ | refine wCm 22 ?_); (first | refine Zb 23 ?_ | refine Za 23 ?_ | refine wPk 23 ?_); refine rPk 24 ?_; refine ZW 25 ?_; (first | refine Zb 26 ?_ | refine Za 26 ?_ | refine ZD 26 ?_); (first | refine Zb 27 ?_ | refine Za 27 ?_ | refine wCm 27 ?_); (first | refine Zb 28 ?_ | refine Za 28 ?_ | refine ZD 28 ?_); (first | refine Zb 29 ?_ | refine Za 29 ?_ | refine ZD 29 ?_); (first | refine Zb 30 ?_ | refine Za 30 ?_ | refine ZD 30 ?_); (first | refine Zb 31 ?_ | refine Za 31 ?_ | refine wSb 31 ?_); (first | refine Zb 32 ?_ | refine Za 32 ?_ | refine wIa 32 ?_); (first | refine Zb 33 ?_ | refine Za 33 ?_ | refine ZV 33 ?_); (first | refine Zb 34 ?_ | refine Za 34 ?_ | refine ZX 34 ?_); (first | refine Zb 36 ?_ | refine Za 36 ?_ | refine ZV 36 ?_); (first | refine Zb 37 ?_ | refine Za 37 ?_ | refine ZX 37 ?_))
       all_goals (first | refine Zb 35 ?_ | refine Za 35 ?_ | (refine Zt (i := 35) ?_; ((try refine Zr ?_); (first | (refine Zo ?_; try intro _)) <;> ((try simp only [kM, kN, kO]); refine Zc ?_; refine Zs ?_))))
       all_goals (first | refine Zb 38 ?_ | refine Za 38 ?_ | (refine Zt (i := 38) ?_; ((try refine Zr ?_); (first | (refine Zo ?_; try intro _)) <;> ((try simp only [kM, kN, kO]); refine Zc ?_; refine Zs ?_))))
       all_goals (refine ZY ?_; (first | refine Zb 39 ?_ | refine Za 39 ?_ | refine wCm 39 ?_); (first | refine Zb 40 ?_ | refine Za 40 ?_ | refine wPk 40 ?_); refine rPk 41 ?_; refine ZT ?_)
       repeat' (first | (refine Zj ?_; first | (refine Zi ?_; refine qQ ?_) | refine Zo ?_) | refine Zc ?_ | (refine Zh ?_; refine Zz ?_) | (refine Zg ?_; refine Zy ?_) | intro _)
       simp only [Int.toNat_natCast]
       refine ZL [(0, _), (2, _), (4, _), (7, _), (8, _), (9, _), (58, _), (59, _)] (fun (ζ : (Nat)) => [(60, .int .i64 ζ)]) (fun (ζ : (Nat)) => ρ') (fun (ζ : (Nat)) => [[(b4, .cells ⟨Xp x⟩ 224 (0, 0))]]) (fun (ζ : (Nat)) => ζ ≤ k ∧ ∀ y ∈ l.take ζ, y.page ≠ x.page) (fun (ζ : (Nat)) => k - ζ) (0) (⟨Nat.zero_le _, by simp⟩) Zn Zn rfl tk ?_
       rintro j hI
       try simp only [List.cons_append, List.nil_append, List.append_assoc, List.append_eq] at hI ⊢
       try dsimp only at hI ⊢
       obtain ⟨hj, hjo⟩ := hI
       by_cases hjk : j < k
       ·exact absurd hjk (by omega)
       ·have hj2 : j = k := by omega
        subst hj2
        have hke : kidOk j (psTo l j) x = true := decide_eq_true ⟨fun e => by obtain ⟨y, hy, he⟩ := psTo_mem.1 e; exact hjo y hy he, p0, p6, ht, .inr hz⟩
        rw [hke, Bool.true_and] at hs
        have hs' : Zv n rt ltK l (j + 1) = true := by rw [hs]; simp [hk0]
        repeat' (first | (refine Zj ?_; first | (refine Zi ?_; refine qQ ?_) | refine Zo ?_) | refine Zc ?_ | (refine Zh ?_; refine Zz ?_) | (refine Zg ?_; refine Zy ?_) | intro _)
        refine Zu (j + 1) (⟨hlt, hs'⟩) Zn Zn rfl tk inferInstance (by first | omega | (dsimp only; omega))
      ·have hkk : ((x.t == 0) && (((x.id : Int) == 0) && true)) = false := by
        simp; intro h; exact fun h' => hz ⟨h, by omega⟩
       rw [hx (0 < k ∨ (x.t = 0 ∧ x.id = 0)) (fun e => (hkx e).2.2.2.2) (fun e => e.elim (by omega) hz)]
       repeat' (first | (refine Zj ?_; first | (refine Zi ?_; refine qQ ?_) | refine Zo ?_) | refine Zc ?_ | (refine Zh ?_; refine Zz ?_) | (refine Zg ?_; refine Zy ?_) | intro _)
       refine ZJ (Zq _ _ _) Zx ?_
       all_goals (refine rFa 0 ?_; refine rLd 1 ?_; refine rCm 2 ?_; refine ZW 3 ?_; (first | refine Zb 4 ?_ | refine Za 4 ?_ | refine ZV 4 ?_); (first | refine Zb 5 ?_ | refine Za 5 ?_ | refine ZX 5 ?_); (first | refine Zb 6 ?_ | refine Za 6 ?_ | refine wCm 6 ?_); refine rPk 7 ?_; refine ZW 8 ?_; (first | refine Zb 9 ?_ | refine Za 9 ?_ | refine ZV 9 ?_); (first | refine Zb 10 ?_ | refine Za 10 ?_ | refine ZV 10 ?_); (first | refine Zb 11 ?_ | refine Za 11 ?_ | refine ZX 11 ?_))
       all_goals (first | refine Zb 12 ?_ | refine Za 12 ?_ | (refine Zt (i := 12) ?_; ((try refine Zr ?_); (first | (refine Zd (.func 243) ?_; refine qC rfl rfl (YI _ _) ?_; rintro v ρ' L' hle ⟨rfl, rfl, rfl⟩ <;> (try simp only [kM, kN, kO, hd])) | (refine Zo ?_; try intro _)) <;> ((try simp only [kM, kN, kO]); refine Zc ?_; refine Zs ?_))))
       all_goals ((first | refine Zb 13 ?_ | refine Za 13 ?_ | refine wUn 13 ?_); refine rPk 14 ?_; refine ZW 15 ?_; (first | refine Zb 16 ?_ | refine Za 16 ?_ | refine ZD 16 ?_); (first | refine Zb 17 ?_ | refine Za 17 ?_ | refine wCm 17 ?_); (first | refine Zb 18 ?_ | refine Za 18 ?_ | refine ZD 18 ?_); (first | refine Zb 19 ?_ | refine Za 19 ?_ | refine ZV 19 ?_); (first | refine Zb 20 ?_ | refine Za 20 ?_ | refine ZX 20 ?_); (first | refine Zb 21 ?_ | refine Za 21 ?_ | refine wBu 21 ?_); (first | refine Zb 22 ?_ | refine Za 22 ?_ | refine wCm 22 ?_); (first | refine Zb 23 ?_ | refine Za 23 ?_ | refine wPk 23 ?_); refine rPk 24 ?_; refine ZW 25 ?_; (first | refine Zb 26 ?_ | refine Za 26 ?_ | refine ZD 26 ?_); (first | refine Zb 27 ?_ | refine Za 27 ?_ | refine wCm 27 ?_); (first | refine Zb 28 ?_ | refine Za 28 ?_ | refine ZD 28 ?_); (first | refine Zb 29 ?_ | refine Za 29 ?_ | refine ZD 29 ?_); (first | refine Zb 30 ?_ | refine Za 30 ?_ | refine ZD 30 ?_); (first | refine Zb 31 ?_ | refine Za 31 ?_ | refine wSb 31 ?_); (first | refine Zb 32 ?_ | refine Za 32 ?_ | refine wIa 32 ?_); (first | refine Zb 33 ?_ | refine Za 33 ?_ | refine ZV 33 ?_); (first | refine Zb 34 ?_ | refine Za 34 ?_ | refine ZX 34 ?_); (first | refine Zb 36 ?_ | refine Za 36 ?_ | refine ZV 36 ?_); (first | refine Zb 37 ?_ | refine Za 37 ?_ | refine ZX 37 ?_))
       all_goals (first | refine Zb 35 ?_ | refine Za 35 ?_ | (refine Zt (i := 35) ?_; ((try refine Zr ?_); (first | (refine Zo ?_; try intro _)) <;> ((try simp only [kM, kN, kO]); refine Zc ?_; refine Zs ?_))))
       all_goals (first | refine Zb 38 ?_ | refine Za 38 ?_ | (refine Zt (i := 38) ?_; ((try refine Zr ?_); (first | (refine Zo ?_; try intro _)) <;> ((try simp only [kM, kN, kO]); refine Zc ?_; refine Zs ?_))))
       all_goals (refine ZY ?_; (first | refine Zb 39 ?_ | refine Za 39 ?_ | refine wCm 39 ?_); (first | refine Zb 40 ?_ | refine Za 40 ?_ | refine wPk 40 ?_); refine rPk 41 ?_; refine ZT ?_)
       repeat' (first | (refine Zj ?_; first | (refine Zi ?_; refine qQ ?_) | refine Zo ?_) | refine Zc ?_ | (refine Zh ?_; refine Zz ?_) | (refine Zg ?_; refine Zy ?_) | intro _)
       exact qE ⟨rfl, rfl, rfl⟩
     ·have hdk : decide (k = 0) = false := decide_eq_false hk0
      rw [hdk, Bool.false_or] at hs
      obtain ⟨b2, off2, C2, T2, fr2, f1, hb2, hfit2, hc2⟩ := h.get (show k - 1 < l.length by omega)
      cases f1
      rw [hb] at hb2
      cases hb2
      have ek : ((k : Int) - 1).toNat = k - 1 := by omega
      have hkey : List.take 2 (List.drop (off + ((k : Int) - 1).toNat * 3) C) = keyV (l[k - 1]'(by omega)).t (l[k - 1]'(by omega)).id := by
       rw [ek]
       have := congrArg (List.take 2) hc2
       rw [List.take_take] at this
       exact this
      have hfit3 : off + ((k : Int) - 1).toNat * 3 + 2 ≤ C.length := by rw [ek]; omega
      obtain ⟨g1, g2⟩ := Xl hok (by omega)
      have hrp := (g2 (k - 1) (by omega) (by omega)).1
      have hrk1 : rt (k - 1) (l[k - 1]'(by omega)) = kidOk (k - 1) (psTo l (k - 1)) (l[k - 1]'(by omega)) := by rw [← hrt]
      rw [hrk1] at hrp
      have hrt2 := (of_decide_eq_true hrp).2.2.2.1
      have hidp := hid _ (List.getElem_mem (show k - 1 < l.length by omega))
      clear hc2 hfit2 hrk hrk1 hrp
      generalize l[k - 1]'(by omega) = y at *
      have hor := order_lt (t1 := y.t) (t2 := x.t) hidp hidk
      unfold ltK at hs
      by_cases hcm : cmpK y.t y.id x.t x.id < 0
      ·rw [decide_eq_true hcm] at hs
       have hcm2 := hor.1 hcm
       repeat' (first | (refine Zj ?_; first | (refine Zi ?_; refine qQ ?_) | refine Zo ?_) | refine Zc ?_ | (refine Zh ?_; refine Zz ?_) | (refine Zg ?_; refine Zy ?_) | intro _)
       rename_i b4
       refine ZJ (Zq _ _ _) Zx ?_
       all_goals (refine rFa 0 ?_; refine rLd 1 ?_; refine rCm 2 ?_; refine ZW 3 ?_; (first | refine Zb 4 ?_ | refine Za 4 ?_ | refine ZV 4 ?_); (first | refine Zb 5 ?_ | refine Za 5 ?_ | refine ZX 5 ?_); (first | refine Zb 6 ?_ | refine Za 6 ?_ | refine wCm 6 ?_); refine rPk 7 ?_; refine ZW 8 ?_; (first | refine Zb 9 ?_ | refine Za 9 ?_ | refine ZV 9 ?_); (first | refine Zb 10 ?_ | refine Za 10 ?_ | refine ZV 10 ?_); (first | refine Zb 11 ?_ | refine Za 11 ?_ | refine ZX 11 ?_))
       all_goals (first | refine Zb 12 ?_ | refine Za 12 ?_ | (refine Zt (i := 12) ?_; ((try refine Zr ?_); (first | (refine Zd (.func 243) ?_; refine qC rfl rfl (YI _ _) ?_; rintro v ρ' L' hle ⟨rfl, rfl, rfl⟩ <;> (try simp only [kM, kN, kO, hd])) | (refine Zo ?_; try intro _)) <;> ((try simp only [kM, kN, kO]); refine Zc ?_; refine Zs ?_))))
       all_goals ((first | refine Zb 13 ?_ | refine Za 13 ?_ | refine wUn 13 ?_); refine rPk 14 ?_; refine ZW 15 ?_; (first | refine Zb 16 ?_ | refine Za 16 ?_ | refine ZD 16 ?_); (first | refine Zb 17 ?_ | refine Za 17 ?_ | refine wCm 17 ?_); (first | refine Zb 18 ?_ | refine Za 18 ?_ | refine ZD 18 ?_); (first | refine Zb 19 ?_ | refine Za 19 ?_ | refine ZV 19 ?_); (first | refine Zb 20 ?_ | refine Za 20 ?_ | refine ZX 20 ?_); (first | refine Zb 21 ?_ | refine Za 21 ?_ | refine wBu 21 ?_); (first | refine Zb 22 ?_ | refine Za 22 ?_ | refine wCm 22 ?_); (first | refine Zb 23 ?_ | refine Za 23 ?_ | refine wPk 23 ?_); refine rPk 24 ?_; refine ZW 25 ?_; (first | refine Zb 26 ?_ | refine Za 26 ?_ | refine ZD 26 ?_); (first | refine Zb 27 ?_ | refine Za 27 ?_ | refine wCm 27 ?_); (first | refine Zb 28 ?_ | refine Za 28 ?_ | refine ZD 28 ?_); (first | refine Zb 29 ?_ | refine Za 29 ?_ | refine ZD 29 ?_); (first | refine Zb 30 ?_ | refine Za 30 ?_ | refine ZD 30 ?_); (first | refine Zb 31 ?_ | refine Za 31 ?_ | refine wSb 31 ?_); (first | refine Zb 32 ?_ | refine Za 32 ?_ | refine wIa 32 ?_); (first | refine Zb 33 ?_ | refine Za 33 ?_ | refine ZV 33 ?_); (first | refine Zb 34 ?_ | refine Za 34 ?_ | refine ZX 34 ?_); (first | refine Zb 36 ?_ | refine Za 36 ?_ | refine ZV 36 ?_); (first | refine Zb 37 ?_ | refine Za 37 ?_ | refine ZX 37 ?_))
       all_goals (first | refine Zb 35 ?_ | refine Za 35 ?_ | (refine Zt (i := 35) ?_; ((try refine Zr ?_); (first | (refine Zd (.func 281) ?_; refine qC rfl rfl (Yb _ y.t y.id hrt2.1 hrt2.2 hidp) ?_; rintro v ρ' L' hle ⟨rfl, rfl, rfl⟩ <;> (try simp only [kM, kN, kO])) | (refine Zd (.func 281) ?_; refine qC rfl rfl (Yb _ x.t x.id ht.1 ht.2 hidk) ?_; rintro v ρ' L' hle ⟨rfl, rfl, rfl⟩ <;> (try simp only [kM, kN, kO])) | (refine Zo ?_; try intro _)) <;> ((try simp only [kM, kN, kO]); refine Zc ?_; refine Zs ?_))))
       all_goals (first | refine Zb 38 ?_ | refine Za 38 ?_ | (refine Zt (i := 38) ?_; ((try refine Zr ?_); (first | (refine Zd (.func 281) ?_; refine qC rfl rfl (Yb _ y.t y.id hrt2.1 hrt2.2 hidp) ?_; rintro v ρ' L' hle ⟨rfl, rfl, rfl⟩ <;> (try simp only [kM, kN, kO])) | (refine Zd (.func 281) ?_; refine qC rfl rfl (Yb _ x.t x.id ht.1 ht.2 hidk) ?_; rintro v ρ' L' hle ⟨rfl, rfl, rfl⟩ <;> (try simp only [kM, kN, kO])) | (refine Zo ?_; try intro _)) <;> ((try simp only [kM, kN, kO]); refine Zc ?_; refine Zs ?_))))
       all_goals (refine ZY ?_; (first | refine Zb 39 ?_ | refine Za 39 ?_ | refine wCm 39 ?_); (first | refine Zb 40 ?_ | refine Za 40 ?_ | refine wPk 40 ?_); refine rPk 41 ?_; refine ZT ?_)
       repeat' (first | (refine Zj ?_; first | (refine Zi ?_; refine qQ ?_) | refine Zo ?_) | refine Zc ?_ | (refine Zh ?_; refine Zz ?_) | (refine Zg ?_; refine Zy ?_) | intro _)
       simp only [Int.toNat_natCast]
       refine ZL [(0, _), (2, _), (4, _), (7, _), (8, _), (9, _), (58, _), (59, _)] (fun (ζ : (Nat)) => [(60, .int .i64 ζ)]) (fun (ζ : (Nat)) => ρ') (fun (ζ : (Nat)) => [[(b4, .cells ⟨Xp x⟩ 224 (0, 0))]]) (fun (ζ : (Nat)) => ζ ≤ k ∧ ∀ y ∈ l.take ζ, y.page ≠ x.page) (fun (ζ : (Nat)) => k - ζ) (0) (⟨Nat.zero_le _, by simp⟩) Zn Zn rfl tk ?_
       rintro j hI
       try simp only [List.cons_append, List.nil_append, List.append_assoc, List.append_eq] at hI ⊢
       try dsimp only at hI ⊢
       obtain ⟨hj, hjo⟩ := hI
       by_cases hjk : j < k
       ·obtain ⟨b3, off3, C3, T3, fr3, f3, hb3, hfit3, hc3⟩ := h.get (show j < l.length by omega)
        cases f3
        rw [hb] at hb3
        cases hb3
        have htj := List.take_succ_eq_append_getElem (show j < l.length by omega)
        have hjm : l[j]'(by omega) ∈ l.take k := by
         rw [List.mem_take_iff_getElem]
         exact ⟨j, by omega, rfl⟩
        generalize hZ : l[j]'(by omega) = z at *
        by_cases hp : z.page = x.page
        ·rw [hx (x.page ∉ psTo l k) (fun e => (hkx e).1) (fun e => e (psTo_mem.2 ⟨z, hjm, hp⟩))]
         repeat' (first | (refine Zj ?_; first | (refine Zi ?_; refine qQ ?_) | refine Zo ?_) | refine Zc ?_ | (refine Zh ?_; refine Zz ?_) | (refine Zg ?_; refine Zy ?_) | intro _)
         exact qE ⟨rfl, rfl, rfl⟩
        ·have hjn : ∀ y ∈ l.take (j + 1), y.page ≠ x.page := by
           intro y hy
           rw [htj] at hy
           rcases List.mem_append.1 hy with hy | hy
           ·exact hjo y hy
           ·rw [List.mem_singleton.1 hy]; exact hp
         repeat' (first | (refine Zj ?_; first | (refine Zi ?_; refine qQ ?_) | refine Zo ?_) | refine Zc ?_ | (refine Zh ?_; refine Zz ?_) | (refine Zg ?_; refine Zy ?_) | intro _)
         refine Zu (j + 1) (⟨hjk, hjn⟩) Zn Zn rfl tk inferInstance (by first | omega | (dsimp only; omega))
       ·have hj2 : j = k := by omega
        subst hj2
        have hke : kidOk j (psTo l j) x = true := decide_eq_true ⟨fun e => by obtain ⟨y, hy, he⟩ := psTo_mem.1 e; exact hjo y hy he, p0, p6, ht, .inl (by omega)⟩
        rw [hke, Bool.true_and] at hs
        have hs' : Zv n rt ltK l (j + 1) = true := hs
        repeat' (first | (refine Zj ?_; first | (refine Zi ?_; refine qQ ?_) | refine Zo ?_) | refine Zc ?_ | (refine Zh ?_; refine Zz ?_) | (refine Zg ?_; refine Zy ?_) | intro _)
        refine Zu (j + 1) (⟨hlt, hs'⟩) Zn Zn rfl tk inferInstance (by first | omega | (dsimp only; omega))
      ·rw [decide_eq_false hcm, Bool.and_false] at hs
       have hcm2 : ¬ (y.t * 65536 + y.id < x.t * 65536 + x.id) := fun h => hcm (hor.2 h)
       rw [hfin hs]
       simp only [Bool.and_false]
       repeat' (first | (refine Zj ?_; first | (refine Zi ?_; refine qQ ?_) | refine Zo ?_) | refine Zc ?_ | (refine Zh ?_; refine Zz ?_) | (refine Zg ?_; refine Zy ?_) | intro _)
       refine ZJ (Zq _ _ _) Zx ?_
       all_goals (refine rFa 0 ?_; refine rLd 1 ?_; refine rCm 2 ?_; refine ZW 3 ?_; (first | refine Zb 4 ?_ | refine Za 4 ?_ | refine ZV 4 ?_); (first | refine Zb 5 ?_ | refine Za 5 ?_ | refine ZX 5 ?_); (first | refine Zb 6 ?_ | refine Za 6 ?_ | refine wCm 6 ?_); refine rPk 7 ?_; refine ZW 8 ?_; (first | refine Zb 9 ?_ | refine Za 9 ?_ | refine ZV 9 ?_); (first | refine Zb 10 ?_ | refine Za 10 ?_ | refine ZV 10 ?_); (first | refine Zb 11 ?_ | refine Za 11 ?_ | refine ZX 11 ?_))
       all_goals (first | refine Zb 12 ?_ | refine Za 12 ?_ | (refine Zt (i := 12) ?_; ((try refine Zr ?_); (first | (refine Zd (.func 243) ?_; refine qC rfl rfl (YI _ _) ?_; rintro v ρ' L' hle ⟨rfl, rfl, rfl⟩ <;> (try simp only [kM, kN, kO, hd])) | (refine Zo ?_; try intro _)) <;> ((try simp only [kM, kN, kO]); refine Zc ?_; refine Zs ?_))))
       all_goals ((first | refine Zb 13 ?_ | refine Za 13 ?_ | refine wUn 13 ?_); refine rPk 14 ?_; refine ZW 15 ?_; (first | refine Zb 16 ?_ | refine Za 16 ?_ | refine ZD 16 ?_); (first | refine Zb 17 ?_ | refine Za 17 ?_ | refine wCm 17 ?_); (first | refine Zb 18 ?_ | refine Za 18 ?_ | refine ZD 18 ?_); (first | refine Zb 19 ?_ | refine Za 19 ?_ | refine ZV 19 ?_); (first | refine Zb 20 ?_ | refine Za 20 ?_ | refine ZX 20 ?_); (first | refine Zb 21 ?_ | refine Za 21 ?_ | refine wBu 21 ?_); (first | refine Zb 22 ?_ | refine Za 22 ?_ | refine wCm 22 ?_); (first | refine Zb 23 ?_ | refine Za 23 ?_ | refine wPk 23 ?_); refine rPk 24 ?_; refine ZW 25 ?_; (first | refine Zb 26 ?_ | refine Za 26 ?_ | refine ZD 26 ?_); (first | refine Zb 27 ?_ | refine Za 27 ?_ | refine wCm 27 ?_); (first | refine Zb 28 ?_ | refine Za 28 ?_ | refine ZD 28 ?_); (first | refine Zb 29 ?_ | refine Za 29 ?_ | refine ZD 29 ?_); (first | refine Zb 30 ?_ | refine Za 30 ?_ | refine ZD 30 ?_); (first | refine Zb 31 ?_ | refine Za 31 ?_ | refine wSb 31 ?_); (first | refine Zb 32 ?_ | refine Za 32 ?_ | refine wIa 32 ?_); (first | refine Zb 33 ?_ | refine Za 33 ?_ | refine ZV 33 ?_); (first | refine Zb 34 ?_ | refine Za 34 ?_ | refine ZX 34 ?_); (first | refine Zb 36 ?_ | refine Za 36 ?_ | refine ZV 36 ?_); (first | refine Zb 37 ?_ | refine Za 37 ?_ | refine ZX 37 ?_))
       all_goals (first | refine Zb 35 ?_ | refine Za 35 ?_ | (refine Zt (i := 35) ?_; ((try refine Zr ?_); (first | (refine Zd (.func 281) ?_; refine qC rfl rfl (Yb _ y.t y.id hrt2.1 hrt2.2 hidp) ?_; rintro v ρ' L' hle ⟨rfl, rfl, rfl⟩ <;> (try simp only [kM, kN, kO])) | (refine Zd (.func 281) ?_; refine qC rfl rfl (Yb _ x.t x.id ht.1 ht.2 hidk) ?_; rintro v ρ' L' hle ⟨rfl, rfl, rfl⟩ <;> (try simp only [kM, kN, kO])) | (refine Zo ?_; try intro _)) <;> ((try simp only [kM, kN, kO]); refine Zc ?_; refine Zs ?_))))
       all_goals (first | refine Zb 38 ?_ | refine Za 38 ?_ | (refine Zt (i := 38) ?_; ((try refine Zr ?_); (first | (refine Zd (.func 281) ?_; refine qC rfl rfl (Yb _ y.t y.id hrt2.1 hrt2.2 hidp) ?_; rintro v ρ' L' hle ⟨rfl, rfl, rfl⟩ <;> (try simp only [kM, kN, kO])) | (refine Zd (.func 281) ?_; refine qC rfl rfl (Yb _ x.t x.id ht.1 ht.2 hidk) ?_; rintro v ρ' L' hle ⟨rfl, rfl, rfl⟩ <;> (try simp only [kM, kN, kO])) | (refine Zo ?_; try intro _)) <;> ((try simp only [kM, kN, kO]); refine Zc ?_; refine Zs ?_))))
       all_goals (refine ZY ?_; (first | refine Zb 39 ?_ | refine Za 39 ?_ | refine wCm 39 ?_); (first | refine Zb 40 ?_ | refine Za 40 ?_ | refine wPk 40 ?_); refine rPk 41 ?_; refine ZT ?_)
       repeat' (first | (refine Zj ?_; first | (refine Zi ?_; refine qQ ?_) | refine Zo ?_) | refine Zc ?_ | (refine Zh ?_; refine Zz ?_) | (refine Zg ?_; refine Zy ?_) | intro _)
       exact qE ⟨rfl, rfl, rfl⟩
    ·have hd : decide (0 ≤ x.t ∧ x.t < 3) = false := decide_eq_false ht
     rw [hx (0 ≤ x.t ∧ x.t < 3) (fun e => (hkx e).2.2.2.1) ht]
     repeat' (first | (refine Zj ?_; first | (refine Zi ?_; refine qQ ?_) | refine Zo ?_) | refine Zc ?_ | (refine Zh ?_; refine Zz ?_) | (refine Zg ?_; refine Zy ?_) | intro _)
     refine ZJ (Zq _ _ _) Zx ?_
     all_goals (refine rFa 0 ?_; refine rLd 1 ?_; refine rCm 2 ?_; refine ZW 3 ?_; (first | refine Zb 4 ?_ | refine Za 4 ?_ | refine ZV 4 ?_); (first | refine Zb 5 ?_ | refine Za 5 ?_ | refine ZX 5 ?_); (first | refine Zb 6 ?_ | refine Za 6 ?_ | refine wCm 6 ?_); refine rPk 7 ?_; refine ZW 8 ?_; (first | refine Zb 9 ?_ | refine Za 9 ?_ | refine ZV 9 ?_); (first | refine Zb 10 ?_ | refine Za 10 ?_ | refine ZV 10 ?_); (first | refine Zb 11 ?_ | refine Za 11 ?_ | refine ZX 11 ?_))
     all_goals (first | refine Zb 12 ?_ | refine Za 12 ?_ | (refine Zt (i := 12) ?_; ((try refine Zr ?_); (first | (refine Zd (.func 243) ?_; refine qC rfl rfl (YI _ _) ?_; rintro v ρ' L' hle ⟨rfl, rfl, rfl⟩ <;> (try simp only [kM, kN, kO, hd])) | (refine Zo ?_; try intro _)) <;> ((try simp only [kM, kN, kO]); refine Zc ?_; refine Zs ?_))))
     all_goals ((first | refine Zb 13 ?_ | refine Za 13 ?_ | refine wUn 13 ?_); refine rPk 14 ?_; refine ZW 15 ?_; (first | refine Zb 16 ?_ | refine Za 16 ?_ | refine ZD 16 ?_); (first | refine Zb 17 ?_ | refine Za 17 ?_ | refine wCm 17 ?_); (first | refine Zb 18 ?_ | refine Za 18 ?_ | refine ZD 18 ?_); (first | refine Zb 19 ?_ | refine Za 19 ?_ | refine ZV 19 ?_); (first | refine Zb 20 ?_ | refine Za 20 ?_ | refine ZX 20 ?_); (first | refine Zb 21 ?_ | refine Za 21 ?_ | refine wBu 21 ?_); (first | refine Zb 22 ?_ | refine Za 22 ?_ | refine wCm 22 ?_); (first | refine Zb 23 ?_ | refine Za 23 ?_ | refine wPk 23 ?_); refine rPk 24 ?_; refine ZW 25 ?_; (first | refine Zb 26 ?_ | refine Za 26 ?_ | refine ZD 26 ?_); (first | refine Zb 27 ?_ | refine Za 27 ?_ | refine wCm 27 ?_); (first | refine Zb 28 ?_ | refine Za 28 ?_ | refine ZD 28 ?_); (first | refine Zb 29 ?_ | refine Za 29 ?_ | refine ZD 29 ?_); (first | refine Zb 30 ?_ | refine Za 30 ?_ | refine ZD 30 ?_); (first | refine Zb 31 ?_ | refine Za 31 ?_ | refine wSb 31 ?_); (first | refine Zb 32 ?_ | refine Za 32 ?_ | refine wIa 32 ?_); (first | refine Zb 33 ?_ | refine Za 33 ?_ | refine ZV 33 ?_); (first | refine Zb 34 ?_ | refine Za 34 ?_ | refine ZX 34 ?_); (first | refine Zb 36 ?_ | refine Za 36 ?_ | refine ZV 36 ?_); (first | refine Zb 37 ?_ | refine Za 37 ?_ | refine ZX 37 ?_))
     all_goals (first | refine Zb 35 ?_ | refine Za 35 ?_ | (refine Zt (i := 35) ?_; ((try refine Zr ?_); (first | (refine Zo ?_; try intro _)) <;> ((try simp only [kM, kN, kO]); refine Zc ?_; refine Zs ?_))))
     all_goals (first | refine Zb 38 ?_ | refine Za 38 ?_ | (refine Zt (i := 38) ?_; ((try refine Zr ?_); (first | (refine Zo ?_; try intro _)) <;> ((try simp only [kM, kN, kO]); refine Zc ?_; refine Zs ?_))))
     all_goals (refine ZY ?_; (first | refine Zb 39 ?_ | refine Za 39 ?_ | refine wCm 39 ?_); (first | refine Zb 40 ?_ | refine Za 40 ?_ | refine wPk 40 ?_); refine rPk 41 ?_; refine ZT ?_)
     repeat' (first | (refine Zj ?_; first | (refine Zi ?_; refine qQ ?_) | refine Zo ?_) | refine Zc ?_ | (refine Zh ?_; refine Zz ?_) | (refine Zg ?_; refine Zy ?_) | intro _)
     exact qE ⟨rfl, rfl, rfl⟩
   ·rw [hx (x.page < 64) (fun e => (hkx e).2.2.1) p6]
    repeat' (first | (refine Zj ?_; first | (refine Zi ?_; refine qQ ?_) | refine Zo ?_) | refine Zc ?_ | (refine Zh ?_; refine Zz ?_) | (refine Zg ?_; refine Zy ?_) | intro _)
    refine ZJ (Zq _ _ _) Zx ?_
    all_goals (refine rFa 0 ?_; refine rLd 1 ?_; refine rCm 2 ?_; refine ZW 3 ?_; (first | refine Zb 4 ?_ | refine Za 4 ?_ | refine ZV 4 ?_); (first | refine Zb 5 ?_ | refine Za 5 ?_ | refine ZX 5 ?_); (first | refine Zb 6 ?_ | refine Za 6 ?_ | refine wCm 6 ?_); refine rPk 7 ?_; refine ZW 8 ?_; (first | refine Zb 9 ?_ | refine Za 9 ?_ | refine ZV 9 ?_); (first | refine Zb 10 ?_ | refine Za 10 ?_ | refine ZV 10 ?_); (first | refine Zb 11 ?_ | refine Za 11 ?_ | refine ZX 11 ?_))
    all_goals (first | refine Zb 12 ?_ | refine Za 12 ?_ | (refine Zt (i := 12) ?_; ((try refine Zr ?_); (first | (refine Zo ?_; try intro _)) <;> ((try simp only [kM, kN, kO]); refine Zc ?_; refine Zs ?_))))
    all_goals ((first | refine Zb 13 ?_ | refine Za 13 ?_ | refine wUn 13 ?_); refine rPk 14 ?_; refine ZW 15 ?_; (first | refine Zb 16 ?_ | refine Za 16 ?_ | refine ZD 16 ?_); (first | refine Zb 17 ?_ | refine Za 17 ?_ | refine wCm 17 ?_); (first | refine Zb 18 ?_ | refine Za 18 ?_ | refine ZD 18 ?_); (first | refine Zb 19 ?_ | refine Za 19 ?_ | refine ZV 19 ?_); (first | refine Zb 20 ?_ | refine Za 20 ?_ | refine ZX 20 ?_); (first | refine Zb 21 ?_ | refine Za 21 ?_ | refine wBu 21 ?_); (first | refine Zb 22 ?_ | refine Za 22 ?_ | refine wCm 22 ?_); (first | refine Zb 23 ?_ | refine Za 23 ?_ | refine wPk 23 ?_); refine rPk 24 ?_; refine ZW 25 ?_; (first | refine Zb 26 ?_ | refine Za 26 ?_ | refine ZD 26 ?_); (first | refine Zb 27 ?_ | refine Za 27 ?_ | refine wCm 27 ?_); (first | refine Zb 28 ?_ | refine Za 28 ?_ | refine ZD 28 ?_); (first | refine Zb 29 ?_ | refine Za 29 ?_ | refine ZD 29 ?_); (first | refine Zb 30 ?_ | refine Za 30 ?_ | refine ZD 30 ?_); (first | refine Zb 31 ?_ | refine Za 31 ?_ | refine wSb 31 ?_); (first | refine Zb 32 ?_ | refine Za 32 ?_ | refine wIa 32 ?_); (first | refine Zb 33 ?_ | refine Za 33 ?_ | refine ZV 33 ?_); (first | refine Zb 34 ?_ | refine Za 34 ?_ | refine ZX 34 ?_); (first | refine Zb 36 ?_ | refine Za 36 ?_ | refine ZV 36 ?_); (first | refine Zb 37 ?_ | refine Za 37 ?_ | refine ZX 37 ?_))
    all_goals (first | refine Zb 35 ?_ | refine Za 35 ?_ | (refine Zt (i := 35) ?_; ((try refine Zr ?_); (first | (refine Zo ?_; try intro _)) <;> ((try simp only [kM, kN, kO]); refine Zc ?_; refine Zs ?_))))
    all_goals (first | refine Zb 38 ?_ | refine Za 38 ?_ | (refine Zt (i := 38) ?_; ((try refine Zr ?_); (first | (refine Zo ?_; try intro _)) <;> ((try simp only [kM, kN, kO]); refine Zc ?_; refine Zs ?_))))
    all_goals (refine ZY ?_; (first | refine Zb 39 ?_ | refine Za 39 ?_ | refine wCm 39 ?_); (first | refine Zb 40 ?_ | refine Za 40 ?_ | refine wPk 40 ?_); refine rPk 41 ?_; refine ZT ?_)
    repeat' (first | (refine Zj ?_; first | (refine Zi ?_; refine qQ ?_) | refine Zo ?_) | refine Zc ?_ | (refine Zh ?_; refine Zz ?_) | (refine Zg ?_; refine Zy ?_) | intro _)
    exact qE ⟨rfl, rfl, rfl⟩
  ·rw [hx (0 < x.page) (fun e => (hkx e).2.1) p0]
   repeat' (first | (refine Zj ?_; first | (refine Zi ?_; refine qQ ?_) | refine Zo ?_) | refine Zc ?_ | (refine Zh ?_; refine Zz ?_) | (refine Zg ?_; refine Zy ?_) | intro _)
   refine ZJ (Zq _ _ _) Zx ?_
   all_goals (refine rFa 0 ?_; refine rLd 1 ?_; refine rCm 2 ?_; refine ZW 3 ?_; (first | refine Zb 4 ?_ | refine Za 4 ?_ | refine ZV 4 ?_); (first | refine Zb 5 ?_ | refine Za 5 ?_ | refine ZX 5 ?_); (first | refine Zb 6 ?_ | refine Za 6 ?_ | refine wCm 6 ?_); refine rPk 7 ?_; refine ZW 8 ?_; (first | refine Zb 9 ?_ | refine Za 9 ?_ | refine ZV 9 ?_); (first | refine Zb 10 ?_ | refine Za 10 ?_ | refine ZV 10 ?_); (first | refine Zb 11 ?_ | refine Za 11 ?_ | refine ZX 11 ?_))
   all_goals (first | refine Zb 12 ?_ | refine Za 12 ?_ | (refine Zt (i := 12) ?_; ((try refine Zr ?_); (first | (refine Zo ?_; try intro _)) <;> ((try simp only [kM, kN, kO]); refine Zc ?_; refine Zs ?_))))
   all_goals ((first | refine Zb 13 ?_ | refine Za 13 ?_ | refine wUn 13 ?_); refine rPk 14 ?_; refine ZW 15 ?_; (first | refine Zb 16 ?_ | refine Za 16 ?_ | refine ZD 16 ?_); (first | refine Zb 17 ?_ | refine Za 17 ?_ | refine wCm 17 ?_); (first | refine Zb 18 ?_ | refine Za 18 ?_ | refine ZD 18 ?_); (first | refine Zb 19 ?_ | refine Za 19 ?_ | refine ZV 19 ?_); (first | refine Zb 20 ?_ | refine Za 20 ?_ | refine ZX 20 ?_); (first | refine Zb 21 ?_ | refine Za 21 ?_ | refine wBu 21 ?_); (first | refine Zb 22 ?_ | refine Za 22 ?_ | refine wCm 22 ?_); (first | refine Zb 23 ?_ | refine Za 23 ?_ | refine wPk 23 ?_); refine rPk 24 ?_; refine ZW 25 ?_; (first | refine Zb 26 ?_ | refine Za 26 ?_ | refine ZD 26 ?_); (first | refine Zb 27 ?_ | refine Za 27 ?_ | refine wCm 27 ?_); (first | refine Zb 28 ?_ | refine Za 28 ?_ | refine ZD 28 ?_); (first | refine Zb 29 ?_ | refine Za 29 ?_ | refine ZD 29 ?_); (first | refine Zb 30 ?_ | refine Za 30 ?_ | refine ZD 30 ?_); (first | refine Zb 31 ?_ | refine Za 31 ?_ | refine wSb 31 ?_); (first | refine Zb 32 ?_ | refine Za 32 ?_ | refine wIa 32 ?_); (first | refine Zb 33 ?_ | refine Za 33 ?_ | refine ZV 33 ?_); (first | refine Zb 34 ?_ | refine Za 34 ?_ | refine ZX 34 ?_); (first | refine Zb 36 ?_ | refine Za 36 ?_ | refine ZV 36 ?_); (first | refine Zb 37 ?_ | refine Za 37 ?_ | refine ZX 37 ?_))
   all_goals (first | refine Zb 35 ?_ | refine Za 35 ?_ | (refine Zt (i := 35) ?_; ((try refine Zr ?_); (first | (refine Zo ?_; try intro _)) <;> ((try simp only [kM, kN, kO]); refine Zc ?_; refine Zs ?_))))
   all_goals (first | refine Zb 38 ?_ | refine Za 38 ?_ | (refine Zt (i := 38) ?_; ((try refine Zr ?_); (first | (refine Zo ?_; try intro _)) <;> ((try simp only [kM, kN, kO]); refine Zc ?_; refine Zs ?_))))
   all_goals (refine ZY ?_; (first | refine Zb 39 ?_ | refine Za 39 ?_ | refine wCm 39 ?_); (first | refine Zb 40 ?_ | refine Za 40 ?_ | refine wPk 40 ?_); refine rPk 41 ?_; refine ZT ?_)
   repeat' (first | (refine Zj ?_; first | (refine Zi ?_; refine qQ ?_) | refine Zo ?_) | refine Zc ?_ | (refine Zh ?_; refine Zz ?_) | (refine Zg ?_; refine Zy ?_) | intro _)
   exact qE ⟨rfl, rfl, rfl⟩
 ·have hk2 : k = n := by omega
  subst hk2
  rw [hok, Bool.and_true]
  by_cases h2 : 1 < k
  ·by_cases h4 : k ≤ 4
   ·rw [decide_eq_true h4, decide_eq_true h2]
    repeat' (first | (refine Zj ?_; first | (refine Zi ?_; refine qQ ?_) | refine Zo ?_) | refine Zc ?_ | (refine Zh ?_; refine Zz ?_) | (refine Zg ?_; refine Zy ?_) | intro _)
    exact qE ⟨rfl, rfl, rfl⟩
   ·rw [decide_eq_false h4, Bool.and_false]
    repeat' (first | (refine Zj ?_; first | (refine Zi ?_; refine qQ ?_) | refine Zo ?_) | refine Zc ?_ | (refine Zh ?_; refine Zz ?_) | (refine Zg ?_; refine Zy ?_) | intro _)
    exact qE ⟨rfl, rfl, rfl⟩
  ·rw [decide_eq_false h2, Bool.false_and]
   repeat' (first | (refine Zj ?_; first | (refine Zi ?_; refine qQ ?_) | refine Zo ?_) | refine Zc ?_ | (refine Zh ?_; refine Zz ?_) | (refine Zg ?_; refine Zy ?_) | intro _)
   exact qE ⟨rfl, rfl, rfl⟩
theorem right_spec (ρ : Hp) (v : CV) (c : Cont) (h : CIn ρ v c.rows c.kids) (hir : ∀ r ∈ c.rows, r.id < 65536) (hik : ∀ k ∈ c.kids, k.id < 65536) : Spec Tryz.prog 178 [.agg ⟨contV c.kind v⟩] ρ [] (fun r ρ' L' => r = .bool (Yq c) ∧ ρ' = ρ ∧ L' = []) := by
 obtain ⟨kind, rows, kids⟩ := c
 obtain ⟨ra, rn, rc, ka, kn, kc⟩ := v
 obtain ⟨hr, hk, hrb, hkb, hrc, hkc⟩ := h
 dsimp only at hr hk hrb hkb hrc hkc hir hik
 have hrl := hr.len
 have hkl := hk.len
 have hrs := rowsR_spec ρ ra rn rc rows hr hrb hir
 have hks := kidsR_spec ρ ka kn kc kids hk hkb hkc hik
 generalize hq : Yq ⟨kind, rows, kids⟩ = q
 unfold Yq at hq
 simp only [hrl, hkl] at hq
 refine Zf Tryz.func178 rfl rfl rfl fun u R => ?_
 simp only [ZG, List.cons_append, List.nil_append]
 by_cases k0 : kind = 0
 ·rw [if_pos k0] at hq
  by_cases hz : rn = 0
  ·by_cases hz2 : kn = 0
   ·rw [decide_eq_true (show rn + kn = 0 by omega)] at hq
    subst hq
    repeat' (first | (refine Zj ?_; first | (refine Zi ?_; refine qQ ?_) | refine Zo ?_) | refine Zc ?_ | (refine Zh ?_; refine Zz ?_) | (refine Zg ?_; refine Zy ?_) | intro _)
    exact qE ⟨rfl, rfl, rfl⟩
   ·rw [decide_eq_false (show ¬ rn + kn = 0 by omega)] at hq
    subst hq
    repeat' (first | (refine Zj ?_; first | (refine Zi ?_; refine qQ ?_) | refine Zo ?_) | refine Zc ?_ | (refine Zh ?_; refine Zz ?_) | (refine Zg ?_; refine Zy ?_) | intro _)
    exact qE ⟨rfl, rfl, rfl⟩
  ·rw [decide_eq_false (show ¬ rn + kn = 0 by omega)] at hq
   subst hq
   repeat' (first | (refine Zj ?_; first | (refine Zi ?_; refine qQ ?_) | refine Zo ?_) | refine Zc ?_ | (refine Zh ?_; refine Zz ?_) | (refine Zg ?_; refine Zy ?_) | intro _)
   exact qE ⟨rfl, rfl, rfl⟩
 ·rw [if_neg k0] at hq
  by_cases k1 : kind = 1
  ·rw [if_pos k1] at hq
   by_cases hz : kn = 0
   ·rw [decide_eq_true hz, Bool.true_and] at hq
    rw [hq] at hrs
    repeat' (first | (refine Zd (.func 245) ?_; refine qC rfl rfl (hrs) ?_; rintro v ρ' L' hle ⟨rfl, rfl, rfl⟩ <;> (try simp only [kM, kN, kO])) | (refine Zj ?_; first | (refine Zi ?_; refine qQ ?_) | refine Zo ?_) | refine Zc ?_ | (refine Zh ?_; refine Zz ?_) | (refine Zg ?_; refine Zy ?_) | intro _)
    exact qE ⟨rfl, rfl, rfl⟩
   ·rw [decide_eq_false hz, Bool.false_and] at hq
    subst hq
    repeat' (first | (refine Zj ?_; first | (refine Zi ?_; refine qQ ?_) | refine Zo ?_) | refine Zc ?_ | (refine Zh ?_; refine Zz ?_) | (refine Zg ?_; refine Zy ?_) | intro _)
    exact qE ⟨rfl, rfl, rfl⟩
  ·rw [if_neg k1] at hq
   by_cases k2 : kind = 2
   ·rw [if_pos k2] at hq
    by_cases hz : rn = 0
    ·rw [decide_eq_true hz, Bool.true_and] at hq
     rw [hq] at hks
     repeat' (first | (refine Zd (.func 246) ?_; refine qC rfl rfl (hks) ?_; rintro v ρ' L' hle ⟨rfl, rfl, rfl⟩ <;> (try simp only [kM, kN, kO])) | (refine Zj ?_; first | (refine Zi ?_; refine qQ ?_) | refine Zo ?_) | refine Zc ?_ | (refine Zh ?_; refine Zz ?_) | (refine Zg ?_; refine Zy ?_) | intro _)
     exact qE ⟨rfl, rfl, rfl⟩
    ·rw [decide_eq_false hz, Bool.false_and] at hq
     subst hq
     repeat' (first | (refine Zj ?_; first | (refine Zi ?_; refine qQ ?_) | refine Zo ?_) | refine Zc ?_ | (refine Zh ?_; refine Zz ?_) | (refine Zg ?_; refine Zy ?_) | intro _)
     exact qE ⟨rfl, rfl, rfl⟩
   ·rw [if_neg k2] at hq
    subst hq
    repeat' (first | (refine Zj ?_; first | (refine Zi ?_; refine qQ ?_) | refine Zo ?_) | refine Zc ?_ | (refine Zh ?_; refine Zz ?_) | (refine Zg ?_; refine Zy ?_) | intro _)
    exact qE ⟨rfl, rfl, rfl⟩
end Go.Proofs.E
