/- The law RosterDoes. Part 5 of 20. -/
import Derived.Test.YtjajdpfdhokkhaaGreatY4
namespace Go.Proofs.E
open Go
set_option linter.unusedVariables false
set_option linter.unusedSimpArgs false
set_option linter.unusedSectionVars false
set_option maxRecDepth 4000
set_option maxHeartbeats 1000000
attribute [local irreducible] Yl TL TC TE Spec Wq R1 Hp.le EnvLe TS TR YS Zs
structure MetOk (es : List MapEntry) (ps : List Int) : Prop where
 keys : Xk .i64 es
 get : ∀ p, XC es p = if p ∈ ps then some (.bool true) else none
theorem MetOk.nil : MetOk [] [] := ⟨by intro e he; simp at he, fun p => by simp [XC]⟩
def kidOk (i : Nat) (ps : List Int) (k : Kid) : Bool := decide (k.page ∉ ps ∧ 0 < k.page ∧ k.page < 64 ∧ (0 ≤ k.t ∧ k.t < 3) ∧ (0 < i ∨ (k.t = 0 ∧ k.id = 0)))
theorem kidV_len (r : Kid) : (kidV r).length = 3 := rfl
theorem Yg (ρ : Hp) (r : Kid) : Spec Tryz.prog 306 [.agg ⟨kidV r⟩] ρ [] (fun v ρ' L' => v = .agg ⟨keyV r.t r.id⟩ ∧ ρ' = ρ ∧ L' = []) := by
 refine Zg Tryz.func306 rfl rfl rfl fun u R => ?_
 simp only [Zx, List.cons_append, List.nil_append]
 repeat' (first | (refine Zj ?_; first | (refine Zf ?_; refine qQ ?_) | refine Zn ?_) | refine Zb ?_ | (refine Zi ?_; refine Zv ?_) | (refine Zh ?_; refine Zu ?_) | intro _)
 exact qE ⟨rfl, rfl, rfl⟩
abbrev metL (bx mb : Nat) (es : List MapEntry) (ck : Nat) : SH := [[(bx, .cells ⟨[.map (some mb)]⟩ 335 (0, 0))], [(mb, .map ⟨es⟩ ck)]]
theorem YT (ρ : Hp) (bx mb : Nat) (es : List MapEntry) (ck : Nat) (ps : List Int) (hm : MetOk es ps) (i : Nat) (k : Kid) : Spec Tryz.prog 307 [.int .i64 i, .agg ⟨kidV k⟩, .pointer (some ⟨bx, 0, none⟩)] ρ (metL bx mb es ck)
  (fun v ρ' L' => v = .bool (kidOk i ps k) ∧ ρ' = ρ ∧ ∃ es' ck', MetOk es' (k.page :: ps) ∧ L' = metL bx mb es' ck') := by
 obtain ⟨t, id, page⟩ := k
 have hes := hm.keys
 have hg := hm.get page
 dsimp only at hg ⊢
 generalize hq : kidOk i ps ⟨t, id, page⟩ = q
 have hfin : ∀ es', Xk .i64 es' → (∀ j, XC es' j = if j = page then some (.bool true) else XC es j) → MetOk es' (page :: ps) := fun es' h1 h2 => ⟨h1, fun p => by
  rw [h2 p, hm.get p]
  by_cases e : p = page <;> simp [e]⟩
 refine Zg Tryz.func307 rfl rfl rfl fun u R => ?_
 simp only [Zx, List.cons_append, List.nil_append]
 by_cases hp : page ∈ ps
 ·rw [if_pos hp] at hg
  have hq' : q = false := by rw [← hq]; exact decide_eq_false (fun h => h.1 hp)
  subst hq'
  repeat' (first | (refine XN rfl rfl rfl hes (fun es' ck' h1 h2 => ?_)) | (refine Zj ?_; first | (refine Zf ?_; refine qQ ?_) | refine Zn ?_) | refine Zb ?_ | (refine Zi ?_; refine Zv ?_) | (refine Zh ?_; refine Zu ?_) | intro _)
  exact qE ⟨rfl, rfl, es', ck', hfin es' h1 h2, rfl⟩
 ·rw [if_neg hp] at hg
  by_cases hp0 : 0 < page
  ·by_cases hp6 : page < 64
   ·by_cases ht : 0 ≤ t ∧ t < 3
    ·have hd : decide (0 ≤ t ∧ t < 3) = true := decide_eq_true ht
     by_cases hi : 0 < i
     ·have hq' : q = true := by rw [← hq]; exact decide_eq_true ⟨hp, hp0, hp6, ht, .inl hi⟩
      subst hq'
      repeat' (first | (refine XN rfl rfl rfl hes (fun es' ck' h1 h2 => ?_)) | (refine Ze (.func 280) ?_; refine qC rfl rfl (WD _ _) ?_; rintro v ρ' L' hle ⟨rfl, rfl, rfl⟩ <;> (try simp only [kM, kN, kO, hd])) | (refine Zj ?_; first | (refine Zf ?_; refine qQ ?_) | refine Zn ?_) | refine Zb ?_ | (refine Zi ?_; refine Zv ?_) | (refine Zh ?_; refine Zu ?_) | intro _)
      exact qE ⟨rfl, rfl, es', ck', hfin es' h1 h2, rfl⟩
     ·by_cases hz : t = 0 ∧ id = 0
      ·have hq' : q = true := by rw [← hq]; exact decide_eq_true ⟨hp, hp0, hp6, ht, .inr hz⟩
       subst hq'
       obtain ⟨rfl, rfl⟩ := hz
       repeat' (first | (refine XN rfl rfl rfl hes (fun es' ck' h1 h2 => ?_)) | (refine Ze (.func 280) ?_; refine qC rfl rfl (WD _ _) ?_; rintro v ρ' L' hle ⟨rfl, rfl, rfl⟩ <;> (try simp only [kM, kN, kO, hd])) | (refine Zj ?_; first | (refine Zf ?_; refine qQ ?_) | refine Zn ?_) | refine Zb ?_ | (refine Zi ?_; refine Zv ?_) | (refine Zh ?_; refine Zu ?_) | intro _)
       exact qE ⟨rfl, rfl, es', ck', hfin es' h1 h2, rfl⟩
      ·have hq' : q = false := by rw [← hq]; exact decide_eq_false (fun h => h.2.2.2.2.elim hi hz)
       subst hq'
       have hk : ((t == 0) && (((id : Int) == 0) && true)) = false := by
        simp; intro h; exact fun h' => hz ⟨h, by omega⟩
       repeat' (first | (refine XN rfl rfl rfl hes (fun es' ck' h1 h2 => ?_)) | (refine Ze (.func 280) ?_; refine qC rfl rfl (WD _ _) ?_; rintro v ρ' L' hle ⟨rfl, rfl, rfl⟩ <;> (try simp only [kM, kN, kO, hd])) | (refine Zj ?_; first | (refine Zf ?_; refine qQ ?_) | refine Zn ?_) | refine Zb ?_ | (refine Zi ?_; refine Zv ?_) | (refine Zh ?_; refine Zu ?_) | intro _)
       exact qE ⟨by first | rfl | exact congrArg Value.bool hk, rfl, es', ck', hfin es' h1 h2, rfl⟩
    ·have hd : decide (0 ≤ t ∧ t < 3) = false := decide_eq_false ht
     have hq' : q = false := by rw [← hq]; exact decide_eq_false (fun h => ht h.2.2.2.1)
     subst hq'
     repeat' (first | (refine XN rfl rfl rfl hes (fun es' ck' h1 h2 => ?_)) | (refine Ze (.func 280) ?_; refine qC rfl rfl (WD _ _) ?_; rintro v ρ' L' hle ⟨rfl, rfl, rfl⟩ <;> (try simp only [kM, kN, kO, hd])) | (refine Zj ?_; first | (refine Zf ?_; refine qQ ?_) | refine Zn ?_) | refine Zb ?_ | (refine Zi ?_; refine Zv ?_) | (refine Zh ?_; refine Zu ?_) | intro _)
     exact qE ⟨rfl, rfl, es', ck', hfin es' h1 h2, rfl⟩
   ·have hq' : q = false := by rw [← hq]; exact decide_eq_false (fun h => hp6 h.2.2.1)
    subst hq'
    repeat' (first | (refine XN rfl rfl rfl hes (fun es' ck' h1 h2 => ?_)) | (refine Zj ?_; first | (refine Zf ?_; refine qQ ?_) | refine Zn ?_) | refine Zb ?_ | (refine Zi ?_; refine Zv ?_) | (refine Zh ?_; refine Zu ?_) | intro _)
    exact qE ⟨rfl, rfl, es', ck', hfin es' h1 h2, rfl⟩
  ·have hq' : q = false := by rw [← hq]; exact decide_eq_false (fun h => hp0 h.2.1)
   subst hq'
   repeat' (first | (refine XN rfl rfl rfl hes (fun es' ck' h1 h2 => ?_)) | (refine Zj ?_; first | (refine Zf ?_; refine qQ ?_) | refine Zn ?_) | refine Zb ?_ | (refine Zi ?_; refine Zv ?_) | (refine Zh ?_; refine Zu ?_) | intro _)
   exact qE ⟨rfl, rfl, es', ck', hfin es' h1 h2, rfl⟩
def psTo (l : List Kid) (k : Nat) : List Int := ((l.take k).map Kid.page).reverse
theorem psTo_succ {l : List Kid} {k : Nat} (h : k < l.length) : psTo l (k + 1) = l[k].page :: psTo l k := by
 unfold psTo; rw [List.take_succ_eq_append_getElem h, List.map_append, List.reverse_append]; rfl
def ltK (y x : Kid) : Bool := decide (cmpK y.t y.id x.t x.id < 0)
def kidsOk (l : List Kid) : Bool := ZM 4 (fun i k => kidOk i (psTo l i) k) ltK l l.length
theorem risesKid_spec (ρ : Hp) (a : Option Addr) (n c : Nat) (l : List Kid) (h : AIn ρ 3 kidV a n l) (hn : n ≤ 1000000) (bx mb ck0 : Nat) :
  Spec Tryz.prog 305 [.slice a n c, .int .i64 4, .func (.func 306) ⟨[]⟩ ⟨[]⟩, .func (.func 307) ⟨[]⟩ ⟨[.pointer (some ⟨bx, 0, none⟩)]⟩] ρ (metL bx mb [] ck0) (fun v ρ' L' => v = .bool (kidsOk l) ∧ ρ' = ρ ∧ L' = []) := by
 have hl := h.len
 unfold kidsOk
 rw [hl]
 refine Zg Tryz.func305 rfl rfl rfl fun u R => ?_
 simp only [Zx, List.cons_append, List.nil_append]
 generalize hr : (fun (i : Nat) (k : Kid) => kidOk i (psTo l i) k) = rt
 repeat' (first | (refine Zj ?_; first | (refine Zf ?_; refine qQ ?_) | refine Zn ?_) | refine Zb ?_ | (refine Zi ?_; refine Zv ?_) | (refine Zh ?_; refine Zu ?_) | intro _)
 have e0 : decide ((n : Int) ≤ 4) = ZM 4 rt ltK l 0 := by
  rw [ZM]; simp [hl]; omega
 rw [e0]
 refine ZB [(0, _), (2, _), (3, _), (8, _), (16, _), (17, _)] (fun (ζ : (Nat) × (List MapEntry) × (Nat)) => [(18, .int .i64 ζ.1), (9, .bool (ZM 4 rt ltK l ζ.1))]) (fun (ζ : (Nat) × (List MapEntry) × (Nat)) => ρ) (fun (ζ : (Nat) × (List MapEntry) × (Nat)) => metL bx mb ζ.2.1 ζ.2.2) (fun (ζ : (Nat) × (List MapEntry) × (Nat)) => ζ.1 ≤ n ∧ MetOk ζ.2.1 (psTo l ζ.1)) (fun (ζ : (Nat) × (List MapEntry) × (Nat)) => n - ζ.1) ((0, [], ck0)) (⟨Nat.zero_le _, MetOk.nil⟩) Zm Zm rfl tk ?_
 rintro ⟨k, es, ck⟩ hI
 try simp only [List.cons_append, List.nil_append, List.append_assoc, List.append_eq] at hI ⊢
 try dsimp only at hI ⊢
 obtain ⟨hI, hm⟩ := hI
 by_cases hlt : k < n
 ·obtain ⟨b, off, C, T, fr, rfl, hb, hfit, hc⟩ := h.get (show k < l.length by omega)
  have hs := YY (most := 4) (right := rt) (lt := ltK) (show k < l.length by omega)
  have hfin := fun (e : ZM 4 rt ltK l (k + 1) = false) => YM e (show k + 1 ≤ n by omega)
  have hps := psTo_succ (show k < l.length by omega)
  have hrk : rt k l[k] = kidOk k (psTo l k) l[k] := by rw [← hr]
  cases hok : ZM 4 rt ltK l k
  ·rw [hok, Bool.false_and] at hs
   rw [hfin hs]
   generalize l[k] = x at *
   repeat' (first | (refine Zj ?_; first | (refine Zf ?_; refine qQ ?_) | refine Zn ?_) | refine Zb ?_ | (refine Zi ?_; refine Zv ?_) | (refine Zh ?_; refine Zu ?_) | intro _)
   rename_i b11
   refine ZD (Zs _ _ ([[(b11, .cells ⟨kidV x⟩ 224 (0, 0))]])) (Zz (hT := tk) (Hp.le_refl _)) ?_
   all_goals (refine ZT 0 ?_; refine ZT 1 ?_; (first | refine Zc 2 ?_ | refine Za 2 ?_ | refine ZP 2 ?_); (first | refine Zc 3 ?_ | refine Za 3 ?_ | refine ZP 3 ?_); (first | refine Zc 4 ?_ | refine Za 4 ?_ | refine Yb 4 ?_))
   all_goals (first | refine Zc 5 ?_ | refine Za 5 ?_ | (refine Zp (i := 5) ?_; ((try refine Zk ?_); (first | (refine Zn ?_; try intro _)) <;> ((try simp only [kM, kN, kO]); refine Zb ?_; refine Zl ?_))))
   all_goals (refine YA 6 ?_; refine ZT 7 ?_; (first | refine Zc 8 ?_ | refine Za 8 ?_ | refine ZP 8 ?_); (first | refine Zc 9 ?_ | refine Za 9 ?_ | refine Yw 9 ?_); (first | refine Zc 10 ?_ | refine Za 10 ?_ | refine ZP 10 ?_); (first | refine Zc 11 ?_ | refine Za 11 ?_ | refine ZP 11 ?_); (first | refine Zc 12 ?_ | refine Za 12 ?_ | refine ZP 12 ?_); (first | refine Zc 13 ?_ | refine Za 13 ?_ | refine ZP 13 ?_); (first | refine Zc 14 ?_ | refine Za 14 ?_ | refine wSb 14 ?_); (first | refine Zc 15 ?_ | refine Za 15 ?_ | refine wIa 15 ?_); (first | refine Zc 16 ?_ | refine Za 16 ?_ | refine Yb 16 ?_); (first | refine Zc 18 ?_ | refine Za 18 ?_ | refine ZP 18 ?_); (first | refine Zc 19 ?_ | refine Za 19 ?_ | refine Yb 19 ?_))
   all_goals (first | refine Zc 17 ?_ | refine Za 17 ?_ | (refine Zp (i := 17) ?_; ((try refine Zk ?_); (first | (refine Zn ?_; try intro _)) <;> ((try simp only [kM, kN, kO]); refine Zb ?_; refine Zl ?_))))
   all_goals (first | refine Zc 20 ?_ | refine Za 20 ?_ | (refine Zp (i := 20) ?_; ((try refine Zk ?_); (first | (refine Zn ?_; try intro _)) <;> ((try simp only [kM, kN, kO]); refine Zb ?_; refine Zl ?_))))
   all_goals (first | refine Zc 21 ?_ | refine Za 21 ?_ | (refine Zp (i := 21) ?_; ((try refine Zk ?_); (first | (refine Zn ?_; try intro _)) <;> ((try simp only [kM, kN, kO]); refine Zb ?_; refine Zl ?_))))
   all_goals (refine ZO ?_; (first | refine Zc 22 ?_ | refine Za 22 ?_ | refine Yw 22 ?_); (first | refine Zc 23 ?_ | refine Za 23 ?_ | refine wPk 23 ?_); refine YA 24 ?_; refine rAs 25 ?_; refine ZI ?_)
   repeat' (first | (refine Zj ?_; first | (refine Zf ?_; refine qQ ?_) | refine Zn ?_) | refine Zb ?_ | (refine Zi ?_; refine Zv ?_) | (refine Zh ?_; refine Zu ?_) | intro _)
   exact qE ⟨rfl, rfl, rfl⟩
  ·rw [hok, Bool.true_and, hrk] at hs
   cases hx : kidOk k (psTo l k) l[k]
   ·rw [hx, Bool.false_and] at hs
    rw [hfin hs]
    generalize l[k] = x at *
    repeat' (first | (refine Zj ?_; first | (refine Zf ?_; refine qQ ?_) | refine Zn ?_) | refine Zb ?_ | (refine Zi ?_; refine Zv ?_) | (refine Zh ?_; refine Zu ?_) | intro _)
    rename_i b11
    refine ZD (Zs _ _ ([[(b11, .cells ⟨kidV x⟩ 224 (0, 0))]])) (Zz (hT := tk) (Hp.le_refl _)) ?_
    all_goals (refine ZT 0 ?_; refine ZT 1 ?_; (first | refine Zc 2 ?_ | refine Za 2 ?_ | refine ZP 2 ?_); (first | refine Zc 3 ?_ | refine Za 3 ?_ | refine ZP 3 ?_); (first | refine Zc 4 ?_ | refine Za 4 ?_ | refine Yb 4 ?_))
    all_goals (first | refine Zc 5 ?_ | refine Za 5 ?_ | (refine Zp (i := 5) ?_; ((try refine Zk ?_); (first | (refine Ze (.tmp 25) ?_; refine qC rfl rfl (YT _ bx mb es ck _ hm k x) ?_; rintro v ρ' L' hle ⟨rfl, rfl, es', ck', hm', rfl⟩ <;> (try simp only [kM, kN, kO, hx])) | (refine Ze (.tmp 34) ?_; refine qC rfl rfl (Yg _ _) ?_; rintro v ρ' L' hle ⟨rfl, rfl, rfl⟩ <;> (try simp only [kM, kN, kO])) | (refine Ze (.tmp 41) ?_; refine qC rfl rfl (Yg _ _) ?_; rintro v ρ' L' hle ⟨rfl, rfl, rfl⟩ <;> (try simp only [kM, kN, kO])) | (refine Zn ?_; try intro _)) <;> ((try simp only [kM, kN, kO]); refine Zb ?_; refine Zl ?_))))
    all_goals (refine YA 6 ?_; refine ZT 7 ?_; (first | refine Zc 8 ?_ | refine Za 8 ?_ | refine ZP 8 ?_); (first | refine Zc 9 ?_ | refine Za 9 ?_ | refine Yw 9 ?_); (first | refine Zc 10 ?_ | refine Za 10 ?_ | refine ZP 10 ?_); (first | refine Zc 11 ?_ | refine Za 11 ?_ | refine ZP 11 ?_); (first | refine Zc 12 ?_ | refine Za 12 ?_ | refine ZP 12 ?_); (first | refine Zc 13 ?_ | refine Za 13 ?_ | refine ZP 13 ?_); (first | refine Zc 14 ?_ | refine Za 14 ?_ | refine wSb 14 ?_); (first | refine Zc 15 ?_ | refine Za 15 ?_ | refine wIa 15 ?_); (first | refine Zc 16 ?_ | refine Za 16 ?_ | refine Yb 16 ?_); (first | refine Zc 18 ?_ | refine Za 18 ?_ | refine ZP 18 ?_); (first | refine Zc 19 ?_ | refine Za 19 ?_ | refine Yb 19 ?_))
    all_goals (first | refine Zc 17 ?_ | refine Za 17 ?_ | (refine Zp (i := 17) ?_; ((try refine Zk ?_); (first | (refine Ze (.tmp 25) ?_; refine qC rfl rfl (YT _ bx mb es ck _ hm k x) ?_; rintro v ρ' L' hle ⟨rfl, rfl, es', ck', hm', rfl⟩ <;> (try simp only [kM, kN, kO, hx])) | (refine Ze (.tmp 34) ?_; refine qC rfl rfl (Yg _ _) ?_; rintro v ρ' L' hle ⟨rfl, rfl, rfl⟩ <;> (try simp only [kM, kN, kO])) | (refine Ze (.tmp 41) ?_; refine qC rfl rfl (Yg _ _) ?_; rintro v ρ' L' hle ⟨rfl, rfl, rfl⟩ <;> (try simp only [kM, kN, kO])) | (refine Zn ?_; try intro _)) <;> ((try simp only [kM, kN, kO]); refine Zb ?_; refine Zl ?_))))
    all_goals (first | refine Zc 20 ?_ | refine Za 20 ?_ | (refine Zp (i := 20) ?_; ((try refine Zk ?_); (first | (refine Ze (.tmp 25) ?_; refine qC rfl rfl (YT _ bx mb es ck _ hm k x) ?_; rintro v ρ' L' hle ⟨rfl, rfl, es', ck', hm', rfl⟩ <;> (try simp only [kM, kN, kO, hx])) | (refine Ze (.tmp 34) ?_; refine qC rfl rfl (Yg _ _) ?_; rintro v ρ' L' hle ⟨rfl, rfl, rfl⟩ <;> (try simp only [kM, kN, kO])) | (refine Ze (.tmp 41) ?_; refine qC rfl rfl (Yg _ _) ?_; rintro v ρ' L' hle ⟨rfl, rfl, rfl⟩ <;> (try simp only [kM, kN, kO])) | (refine Zn ?_; try intro _)) <;> ((try simp only [kM, kN, kO]); refine Zb ?_; refine Zl ?_))))
    all_goals (first | refine Zc 21 ?_ | refine Za 21 ?_ | (refine Zp (i := 21) ?_; ((try refine Zk ?_); (first | (refine Ze (.func 317) ?_; refine qC rfl rfl (XA _ _ _ _ _) ?_; rintro v ρ' L' hle ⟨rfl, rfl, rfl⟩ <;> (try simp only [kM, kN, kO])) | (refine Zn ?_; try intro _)) <;> ((try simp only [kM, kN, kO]); refine Zb ?_; refine Zl ?_))))
    all_goals (refine ZO ?_; (first | refine Zc 22 ?_ | refine Za 22 ?_ | refine Yw 22 ?_); (first | refine Zc 23 ?_ | refine Za 23 ?_ | refine wPk 23 ?_); refine YA 24 ?_; refine rAs 25 ?_; refine ZI ?_)
    repeat' (first | (refine Zj ?_; first | (refine Zf ?_; refine qQ ?_) | refine Zn ?_) | refine Zb ?_ | (refine Zi ?_; refine Zv ?_) | (refine Zh ?_; refine Zu ?_) | intro _)
    exact qE ⟨rfl, rfl, rfl⟩
   ·rw [hx, Bool.true_and] at hs
    by_cases hk0 : k = 0
    ·have hs' : ZM 4 rt ltK l (k + 1) = true := by rw [hs]; simp [hk0]
     generalize l[k] = x at *
     repeat' (first | (refine Zj ?_; first | (refine Zf ?_; refine qQ ?_) | refine Zn ?_) | refine Zb ?_ | (refine Zi ?_; refine Zv ?_) | (refine Zh ?_; refine Zu ?_) | intro _)
     rename_i b11
     refine ZD (Zs _ _ ([[(b11, .cells ⟨kidV x⟩ 224 (0, 0))]])) (Zz (hT := tk) (Hp.le_refl _)) ?_
     all_goals (refine ZT 0 ?_; refine ZT 1 ?_; (first | refine Zc 2 ?_ | refine Za 2 ?_ | refine ZP 2 ?_); (first | refine Zc 3 ?_ | refine Za 3 ?_ | refine ZP 3 ?_); (first | refine Zc 4 ?_ | refine Za 4 ?_ | refine Yb 4 ?_))
     all_goals (first | refine Zc 5 ?_ | refine Za 5 ?_ | (refine Zp (i := 5) ?_; ((try refine Zk ?_); (first | (refine Ze (.tmp 25) ?_; refine qC rfl rfl (YT _ bx mb es ck _ hm k x) ?_; rintro v ρ' L' hle ⟨rfl, rfl, es', ck', hm', rfl⟩ <;> (try simp only [kM, kN, kO, hx])) | (refine Ze (.tmp 34) ?_; refine qC rfl rfl (Yg _ _) ?_; rintro v ρ' L' hle ⟨rfl, rfl, rfl⟩ <;> (try simp only [kM, kN, kO])) | (refine Ze (.tmp 41) ?_; refine qC rfl rfl (Yg _ _) ?_; rintro v ρ' L' hle ⟨rfl, rfl, rfl⟩ <;> (try simp only [kM, kN, kO])) | (refine Zn ?_; try intro _)) <;> ((try simp only [kM, kN, kO]); refine Zb ?_; refine Zl ?_))))
     all_goals (refine YA 6 ?_; refine ZT 7 ?_; (first | refine Zc 8 ?_ | refine Za 8 ?_ | refine ZP 8 ?_); (first | refine Zc 9 ?_ | refine Za 9 ?_ | refine Yw 9 ?_); (first | refine Zc 10 ?_ | refine Za 10 ?_ | refine ZP 10 ?_); (first | refine Zc 11 ?_ | refine Za 11 ?_ | refine ZP 11 ?_); (first | refine Zc 12 ?_ | refine Za 12 ?_ | refine ZP 12 ?_); (first | refine Zc 13 ?_ | refine Za 13 ?_ | refine ZP 13 ?_); (first | refine Zc 14 ?_ | refine Za 14 ?_ | refine wSb 14 ?_); (first | refine Zc 15 ?_ | refine Za 15 ?_ | refine wIa 15 ?_); (first | refine Zc 16 ?_ | refine Za 16 ?_ | refine Yb 16 ?_); (first | refine Zc 18 ?_ | refine Za 18 ?_ | refine ZP 18 ?_); (first | refine Zc 19 ?_ | refine Za 19 ?_ | refine Yb 19 ?_))
     all_goals (first | refine Zc 17 ?_ | refine Za 17 ?_ | (refine Zp (i := 17) ?_; ((try refine Zk ?_); (first | (refine Ze (.tmp 25) ?_; refine qC rfl rfl (YT _ bx mb es ck _ hm k x) ?_; rintro v ρ' L' hle ⟨rfl, rfl, es', ck', hm', rfl⟩ <;> (try simp only [kM, kN, kO, hx])) | (refine Ze (.tmp 34) ?_; refine qC rfl rfl (Yg _ _) ?_; rintro v ρ' L' hle ⟨rfl, rfl, rfl⟩ <;> (try simp only [kM, kN, kO])) | (refine Ze (.tmp 41) ?_; refine qC rfl rfl (Yg _ _) ?_; rintro v ρ' L' hle ⟨rfl, rfl, rfl⟩ <;> (try simp only [kM, kN, kO])) | (refine Zn ?_; try intro _)) <;> ((try simp only [kM, kN, kO]); refine Zb ?_; refine Zl ?_))))
     all_goals (first | refine Zc 20 ?_ | refine Za 20 ?_ | (refine Zp (i := 20) ?_; ((try refine Zk ?_); (first | (refine Ze (.tmp 25) ?_; refine qC rfl rfl (YT _ bx mb es ck _ hm k x) ?_; rintro v ρ' L' hle ⟨rfl, rfl, es', ck', hm', rfl⟩ <;> (try simp only [kM, kN, kO, hx])) | (refine Ze (.tmp 34) ?_; refine qC rfl rfl (Yg _ _) ?_; rintro v ρ' L' hle ⟨rfl, rfl, rfl⟩ <;> (try simp only [kM, kN, kO])) | (refine Ze (.tmp 41) ?_; refine qC rfl rfl (Yg _ _) ?_; rintro v ρ' L' hle ⟨rfl, rfl, rfl⟩ <;> (try simp only [kM, kN, kO])) | (refine Zn ?_; try intro _)) <;> ((try simp only [kM, kN, kO]); refine Zb ?_; refine Zl ?_))))
     all_goals (first | refine Zc 21 ?_ | refine Za 21 ?_ | (refine Zp (i := 21) ?_; ((try refine Zk ?_); (first | (refine Ze (.func 317) ?_; refine qC rfl rfl (XA _ _ _ _ _) ?_; rintro v ρ' L' hle ⟨rfl, rfl, rfl⟩ <;> (try simp only [kM, kN, kO])) | (refine Zn ?_; try intro _)) <;> ((try simp only [kM, kN, kO]); refine Zb ?_; refine Zl ?_))))
     all_goals (refine ZO ?_; (first | refine Zc 22 ?_ | refine Za 22 ?_ | refine Yw 22 ?_); (first | refine Zc 23 ?_ | refine Za 23 ?_ | refine wPk 23 ?_); refine YA 24 ?_; refine rAs 25 ?_; refine ZI ?_)
     repeat' (first | (refine Zj ?_; first | (refine Zf ?_; refine qQ ?_) | refine Zn ?_) | refine Zb ?_ | (refine Zi ?_; refine Zv ?_) | (refine Zh ?_; refine Zu ?_) | intro _)
     rw [← hs']
     refine Zq (k + 1, es', ck') (⟨hlt, by dsimp only; rw [hps]; exact hm'⟩) Zm Zm rfl tk inferInstance (by first | omega | (dsimp only; omega))
    ·have hd : decide (k = 0) = false := decide_eq_false hk0
     obtain ⟨b2, off2, C2, T2, fr2, f1, hb2, hfit2, hc2⟩ := h.get (show k - 1 < l.length by omega)
     cases f1
     rw [hb] at hb2
     cases hb2
     have ek : ((k : Int) - 1).toNat = k - 1 := by omega
     rw [← ek] at hfit2
     have hc3 : List.take 3 (List.drop (off + ((k : Int) - 1).toNat * 3) C) = kidV (l[k - 1]'(by omega)) := by rw [ek]; exact hc2
     clear hc2
     rw [hd, Bool.false_or] at hs
     generalize l[k] = x at *
     generalize l[k - 1]'(by omega) = y at *
     unfold ltK at hs
     by_cases hcm : cmpK y.t y.id x.t x.id < 0
     ·rw [decide_eq_true hcm] at hs
      repeat' (first | (refine Zj ?_; first | (refine Zf ?_; refine qQ ?_) | refine Zn ?_) | refine Zb ?_ | (refine Zi ?_; refine Zv ?_) | (refine Zh ?_; refine Zu ?_) | intro _)
      rename_i b11
      refine ZD (Zs _ _ ([[(b11, .cells ⟨kidV x⟩ 224 (0, 0))]])) (Zz (hT := tk) (Hp.le_refl _)) ?_
      all_goals (refine ZT 0 ?_; refine ZT 1 ?_; (first | refine Zc 2 ?_ | refine Za 2 ?_ | refine ZP 2 ?_); (first | refine Zc 3 ?_ | refine Za 3 ?_ | refine ZP 3 ?_); (first | refine Zc 4 ?_ | refine Za 4 ?_ | refine Yb 4 ?_))
      all_goals (first | refine Zc 5 ?_ | refine Za 5 ?_ | (refine Zp (i := 5) ?_; ((try refine Zk ?_); (first | (refine Ze (.tmp 25) ?_; refine qC rfl rfl (YT _ bx mb es ck _ hm k x) ?_; rintro v ρ' L' hle ⟨rfl, rfl, es', ck', hm', rfl⟩ <;> (try simp only [kM, kN, kO, hx])) | (refine Ze (.tmp 34) ?_; refine qC rfl rfl (Yg _ _) ?_; rintro v ρ' L' hle ⟨rfl, rfl, rfl⟩ <;> (try simp only [kM, kN, kO])) | (refine Ze (.tmp 41) ?_; refine qC rfl rfl (Yg _ _) ?_; rintro v ρ' L' hle ⟨rfl, rfl, rfl⟩ <;> (try simp only [kM, kN, kO])) | (refine Zn ?_; try intro _)) <;> ((try simp only [kM, kN, kO]); refine Zb ?_; refine Zl ?_))))
      all_goals (refine YA 6 ?_; refine ZT 7 ?_; (first | refine Zc 8 ?_ | refine Za 8 ?_ | refine ZP 8 ?_); (first | refine Zc 9 ?_ | refine Za 9 ?_ | refine Yw 9 ?_); (first | refine Zc 10 ?_ | refine Za 10 ?_ | refine ZP 10 ?_); (first | refine Zc 11 ?_ | refine Za 11 ?_ | refine ZP 11 ?_); (first | refine Zc 12 ?_ | refine Za 12 ?_ | refine ZP 12 ?_); (first | refine Zc 13 ?_ | refine Za 13 ?_ | refine ZP 13 ?_); (first | refine Zc 14 ?_ | refine Za 14 ?_ | refine wSb 14 ?_); (first | refine Zc 15 ?_ | refine Za 15 ?_ | refine wIa 15 ?_); (first | refine Zc 16 ?_ | refine Za 16 ?_ | refine Yb 16 ?_); (first | refine Zc 18 ?_ | refine Za 18 ?_ | refine ZP 18 ?_); (first | refine Zc 19 ?_ | refine Za 19 ?_ | refine Yb 19 ?_))
      all_goals (first | refine Zc 17 ?_ | refine Za 17 ?_ | (refine Zp (i := 17) ?_; ((try refine Zk ?_); (first | (refine Ze (.tmp 25) ?_; refine qC rfl rfl (YT _ bx mb es ck _ hm k x) ?_; rintro v ρ' L' hle ⟨rfl, rfl, es', ck', hm', rfl⟩ <;> (try simp only [kM, kN, kO, hx])) | (refine Ze (.tmp 34) ?_; refine qC rfl rfl (Yg _ _) ?_; rintro v ρ' L' hle ⟨rfl, rfl, rfl⟩ <;> (try simp only [kM, kN, kO])) | (refine Ze (.tmp 41) ?_; refine qC rfl rfl (Yg _ _) ?_; rintro v ρ' L' hle ⟨rfl, rfl, rfl⟩ <;> (try simp only [kM, kN, kO])) | (refine Zn ?_; try intro _)) <;> ((try simp only [kM, kN, kO]); refine Zb ?_; refine Zl ?_))))
      all_goals (first | refine Zc 20 ?_ | refine Za 20 ?_ | (refine Zp (i := 20) ?_; ((try refine Zk ?_); (first | (refine Ze (.tmp 25) ?_; refine qC rfl rfl (YT _ bx mb es ck _ hm k x) ?_; rintro v ρ' L' hle ⟨rfl, rfl, es', ck', hm', rfl⟩ <;> (try simp only [kM, kN, kO, hx])) | (refine Ze (.tmp 34) ?_; refine qC rfl rfl (Yg _ _) ?_; rintro v ρ' L' hle ⟨rfl, rfl, rfl⟩ <;> (try simp only [kM, kN, kO])) | (refine Ze (.tmp 41) ?_; refine qC rfl rfl (Yg _ _) ?_; rintro v ρ' L' hle ⟨rfl, rfl, rfl⟩ <;> (try simp only [kM, kN, kO])) | (refine Zn ?_; try intro _)) <;> ((try simp only [kM, kN, kO]); refine Zb ?_; refine Zl ?_))))
      all_goals (first | refine Zc 21 ?_ | refine Za 21 ?_ | (refine Zp (i := 21) ?_; ((try refine Zk ?_); (first | (refine Ze (.func 317) ?_; refine qC rfl rfl (XA _ _ _ _ _) ?_; rintro v ρ' L' hle ⟨rfl, rfl, rfl⟩ <;> (try simp only [kM, kN, kO])) | (refine Zn ?_; try intro _)) <;> ((try simp only [kM, kN, kO]); refine Zb ?_; refine Zl ?_))))
      all_goals (refine ZO ?_; (first | refine Zc 22 ?_ | refine Za 22 ?_ | refine Yw 22 ?_); (first | refine Zc 23 ?_ | refine Za 23 ?_ | refine wPk 23 ?_); refine YA 24 ?_; refine rAs 25 ?_; refine ZI ?_)
      all_goals (repeat' (first | (refine Zj ?_; first | (refine Zf ?_; refine qQ ?_) | refine Zn ?_) | refine Zb ?_ | (refine Zi ?_; refine Zv ?_) | (refine Zh ?_; refine Zu ?_) | intro _))
      all_goals rw [← show ZM 4 rt ltK l (k + 1) = true from hs]
      all_goals refine Zq (k + 1, es', ck') (⟨hlt, by dsimp only; rw [hps]; exact hm'⟩) Zm Zm rfl tk inferInstance (by first | omega | (dsimp only; omega))
     ·rw [decide_eq_false hcm] at hs
      rw [hfin hs]
      repeat' (first | (refine Zj ?_; first | (refine Zf ?_; refine qQ ?_) | refine Zn ?_) | refine Zb ?_ | (refine Zi ?_; refine Zv ?_) | (refine Zh ?_; refine Zu ?_) | intro _)
      rename_i b11
      refine ZD (Zs _ _ ([[(b11, .cells ⟨kidV x⟩ 224 (0, 0))]])) (Zz (hT := tk) (Hp.le_refl _)) ?_
      all_goals (refine ZT 0 ?_; refine ZT 1 ?_; (first | refine Zc 2 ?_ | refine Za 2 ?_ | refine ZP 2 ?_); (first | refine Zc 3 ?_ | refine Za 3 ?_ | refine ZP 3 ?_); (first | refine Zc 4 ?_ | refine Za 4 ?_ | refine Yb 4 ?_))
      all_goals (first | refine Zc 5 ?_ | refine Za 5 ?_ | (refine Zp (i := 5) ?_; ((try refine Zk ?_); (first | (refine Ze (.tmp 25) ?_; refine qC rfl rfl (YT _ bx mb es ck _ hm k x) ?_; rintro v ρ' L' hle ⟨rfl, rfl, es', ck', hm', rfl⟩ <;> (try simp only [kM, kN, kO, hx])) | (refine Ze (.tmp 34) ?_; refine qC rfl rfl (Yg _ _) ?_; rintro v ρ' L' hle ⟨rfl, rfl, rfl⟩ <;> (try simp only [kM, kN, kO])) | (refine Ze (.tmp 41) ?_; refine qC rfl rfl (Yg _ _) ?_; rintro v ρ' L' hle ⟨rfl, rfl, rfl⟩ <;> (try simp only [kM, kN, kO])) | (refine Zn ?_; try intro _)) <;> ((try simp only [kM, kN, kO]); refine Zb ?_; refine Zl ?_))))
      all_goals (refine YA 6 ?_; refine ZT 7 ?_; (first | refine Zc 8 ?_ | refine Za 8 ?_ | refine ZP 8 ?_); (first | refine Zc 9 ?_ | refine Za 9 ?_ | refine Yw 9 ?_); (first | refine Zc 10 ?_ | refine Za 10 ?_ | refine ZP 10 ?_); (first | refine Zc 11 ?_ | refine Za 11 ?_ | refine ZP 11 ?_); (first | refine Zc 12 ?_ | refine Za 12 ?_ | refine ZP 12 ?_); (first | refine Zc 13 ?_ | refine Za 13 ?_ | refine ZP 13 ?_); (first | refine Zc 14 ?_ | refine Za 14 ?_ | refine wSb 14 ?_); (first | refine Zc 15 ?_ | refine Za 15 ?_ | refine wIa 15 ?_); (first | refine Zc 16 ?_ | refine Za 16 ?_ | refine Yb 16 ?_); (first | refine Zc 18 ?_ | refine Za 18 ?_ | refine ZP 18 ?_); (first | refine Zc 19 ?_ | refine Za 19 ?_ | refine Yb 19 ?_))
      all_goals (first | refine Zc 17 ?_ | refine Za 17 ?_ | (refine Zp (i := 17) ?_; ((try refine Zk ?_); (first | (refine Ze (.tmp 25) ?_; refine qC rfl rfl (YT _ bx mb es ck _ hm k x) ?_; rintro v ρ' L' hle ⟨rfl, rfl, es', ck', hm', rfl⟩ <;> (try simp only [kM, kN, kO, hx])) | (refine Ze (.tmp 34) ?_; refine qC rfl rfl (Yg _ _) ?_; rintro v ρ' L' hle ⟨rfl, rfl, rfl⟩ <;> (try simp only [kM, kN, kO])) | (refine Ze (.tmp 41) ?_; refine qC rfl rfl (Yg _ _) ?_; rintro v ρ' L' hle ⟨rfl, rfl, rfl⟩ <;> (try simp only [kM, kN, kO])) | (refine Zn ?_; try intro _)) <;> ((try simp only [kM, kN, kO]); refine Zb ?_; refine Zl ?_))))
      all_goals (first | refine Zc 20 ?_ | refine Za 20 ?_ | (refine Zp (i := 20) ?_; ((try refine Zk ?_); (first | (refine Ze (.tmp 25) ?_; refine qC rfl rfl (YT _ bx mb es ck _ hm k x) ?_; rintro v ρ' L' hle ⟨rfl, rfl, es', ck', hm', rfl⟩ <;> (try simp only [kM, kN, kO, hx])) | (refine Ze (.tmp 34) ?_; refine qC rfl rfl (Yg _ _) ?_; rintro v ρ' L' hle ⟨rfl, rfl, rfl⟩ <;> (try simp only [kM, kN, kO])) | (refine Ze (.tmp 41) ?_; refine qC rfl rfl (Yg _ _) ?_; rintro v ρ' L' hle ⟨rfl, rfl, rfl⟩ <;> (try simp only [kM, kN, kO])) | (refine Zn ?_; try intro _)) <;> ((try simp only [kM, kN, kO]); refine Zb ?_; refine Zl ?_))))
      all_goals (first | refine Zc 21 ?_ | refine Za 21 ?_ | (refine Zp (i := 21) ?_; ((try refine Zk ?_); (first | (refine Ze (.func 317) ?_; refine qC rfl rfl (XA _ _ _ _ _) ?_; rintro v ρ' L' hle ⟨rfl, rfl, rfl⟩ <;> (try simp only [kM, kN, kO])) | (refine Zn ?_; try intro _)) <;> ((try simp only [kM, kN, kO]); refine Zb ?_; refine Zl ?_))))
      all_goals (refine ZO ?_; (first | refine Zc 22 ?_ | refine Za 22 ?_ | refine Yw 22 ?_); (first | refine Zc 23 ?_ | refine Za 23 ?_ | refine wPk 23 ?_); refine YA 24 ?_; refine rAs 25 ?_; refine ZI ?_)
      all_goals (repeat' (first | (refine Zj ?_; first | (refine Zf ?_; refine qQ ?_) | refine Zn ?_) | refine Zb ?_ | (refine Zi ?_; refine Zv ?_) | (refine Zh ?_; refine Zu ?_) | intro _))
      all_goals exact qE ⟨rfl, rfl, rfl⟩
 ·have hk2 : k = n := by omega
  subst hk2
  repeat' (first | (refine Zj ?_; first | (refine Zf ?_; refine qQ ?_) | refine Zn ?_) | refine Zb ?_ | (refine Zi ?_; refine Zv ?_) | (refine Zh ?_; refine Zu ?_) | intro _)
  exact qE ⟨rfl, rfl, rfl⟩
structure CV where
 ra : Option Addr
 rn : Nat
 rc : Nat
 ka : Option Addr
 kn : Nat
 kc : Nat
structure Cont where
 kind : Int
 rows : List Row
 kids : List Kid
deriving DecidableEq
abbrev contV (k : Int) (v : CV) : List Value := [.int .i64 k, .slice v.ra v.rn v.rc, .slice v.ka v.kn v.kc]
structure CIn (ρ : Hp) (v : CV) (rows : List Row) (kids : List Kid) : Prop where
 r : AIn ρ 4 rowV v.ra v.rn rows
 k : AIn ρ 3 kidV v.ka v.kn kids
 rb : v.rn ≤ 1000000
 kb : v.kn ≤ 1000000
 rc : v.rn ≤ v.rc
 kc : v.kn ≤ v.kc
theorem CIn.mono {ρ ρ' v rows kids} (h : CIn ρ v rows kids) (hle : ρ.le ρ') : CIn ρ' v rows kids := ⟨h.r.mono hle, h.k.mono hle, h.rb, h.kb, h.rc, h.kc⟩
theorem leafc_spec (ρ : Hp) (a : Option Addr) (n c : Nat) (l : List Row) (h : AIn ρ 4 rowV a n l) (hn : n ≤ 1000000) : Spec Tryz.prog 282 [.slice a n c] ρ [] (fun v ρ' L' => v = .bool (rowsOk l) ∧ ρ' = ρ ∧ L' = []) := by
 refine Zg Tryz.func282 rfl rfl rfl fun u R => ?_
 simp only [Zx, List.cons_append, List.nil_append]
 repeat' (first | (refine Ze (.func 302) ?_; refine qC rfl rfl (risesRow_spec _ a n c l h hn) ?_; rintro v ρ' L' hle ⟨rfl, rfl, rfl⟩ <;> (try simp only [kM, kN, kO])) | (refine Zj ?_; first | (refine Zf ?_; refine qQ ?_) | refine Zn ?_) | refine Zb ?_ | (refine Zi ?_; refine Zv ?_) | (refine Zh ?_; refine Zu ?_) | intro _)
 exact qE ⟨rfl, rfl, rfl⟩
theorem innerc_spec (ρ : Hp) (a : Option Addr) (n c : Nat) (l : List Kid) (h : AIn ρ 3 kidV a n l) (hn : n ≤ 1000000) : Spec Tryz.prog 283 [.slice a n c] ρ [] (fun v ρ' L' => v = .bool (decide (1 < n) && kidsOk l) ∧ ρ' = ρ ∧ L' = []) := by
 refine Zg Tryz.func283 rfl rfl rfl fun u R => ?_
 simp only [Zx, List.cons_append, List.nil_append]
 by_cases h1 : 1 < n
 ·rw [decide_eq_true h1, Bool.true_and]
  repeat' (first | (refine Ze (.func 305) ?_; refine qC rfl rfl (risesKid_spec _ a n c l h hn _ _ _) ?_; rintro v ρ' L' hle ⟨rfl, rfl, rfl⟩ <;> (try simp only [kM, kN, kO])) | (refine Zj ?_; first | (refine Zf ?_; refine qQ ?_) | refine Zn ?_) | refine Zb ?_ | (refine Zi ?_; refine Zv ?_) | (refine Zh ?_; refine Zu ?_) | intro _)
  exact qE ⟨rfl, rfl, rfl⟩
 ·rw [decide_eq_false h1, Bool.false_and]
  repeat' (first | (refine Zj ?_; first | (refine Zf ?_; refine qQ ?_) | refine Zn ?_) | refine Zb ?_ | (refine Zi ?_; refine Zv ?_) | (refine Zh ?_; refine Zu ?_) | intro _)
  exact qE ⟨rfl, rfl, rfl⟩
def YI (c : Cont) : Bool :=
 if c.kind = 0 then decide (c.rows.length + c.kids.length = 0)
 else if c.kind = 1 then decide (c.kids.length = 0) && rowsOk c.rows
 else if c.kind = 2 then decide (c.rows.length = 0) && (decide (1 < c.kids.length) && kidsOk c.kids)
 else false
theorem check_spec (ρ : Hp) (v : CV) (c : Cont) (h : CIn ρ v c.rows c.kids) : Spec Tryz.prog 251 [.agg ⟨contV c.kind v⟩] ρ [] (fun r ρ' L' => r = .int .i64 (if YI c then 0 else 160) ∧ ρ' = ρ ∧ L' = []) := by
 obtain ⟨kind, rows, kids⟩ := c
 obtain ⟨ra, rn, rc, ka, kn, kc⟩ := v
 obtain ⟨hr, hk, hrb, hkb, _, _⟩ := h
 dsimp only at hr hk hrb hkb
 have hrl := hr.len
 have hkl := hk.len
 have hrs := leafc_spec ρ ra rn rc rows hr hrb
 have hks := innerc_spec ρ ka kn kc kids hk hkb
 generalize hq : YI ⟨kind, rows, kids⟩ = q
 unfold YI at hq
 simp only [hrl, hkl] at hq
 refine Zg Tryz.func251 rfl rfl rfl fun u R => ?_
 simp only [Zx, List.cons_append, List.nil_append]
 by_cases k0 : kind = 0
 ·rw [if_pos k0] at hq
  by_cases hz : rn + kn = 0
  ·rw [decide_eq_true hz] at hq
   subst hq
   repeat' (first | (refine Zj ?_; first | (refine Zf ?_; refine qQ ?_) | refine Zn ?_) | refine Zb ?_ | (refine Zi ?_; refine Zv ?_) | (refine Zh ?_; refine Zu ?_) | intro _)
   exact qE ⟨rfl, rfl, rfl⟩
  ·rw [decide_eq_false hz] at hq
   subst hq
   repeat' (first | (refine Zj ?_; first | (refine Zf ?_; refine qQ ?_) | refine Zn ?_) | refine Zb ?_ | (refine Zi ?_; refine Zv ?_) | (refine Zh ?_; refine Zu ?_) | intro _)
   exact qE ⟨rfl, rfl, rfl⟩
 ·rw [if_neg k0] at hq
  by_cases k1 : kind = 1
  ·rw [if_pos k1] at hq
   by_cases hz : kn = 0
   ·rw [decide_eq_true hz, Bool.true_and] at hq
    rw [hq] at hrs
    cases q
    all_goals (repeat' (first | (refine Ze (.func 282) ?_; refine qC rfl rfl (hrs) ?_; rintro v ρ' L' hle ⟨rfl, rfl, rfl⟩ <;> (try simp only [kM, kN, kO])) | (refine Zj ?_; first | (refine Zf ?_; refine qQ ?_) | refine Zn ?_) | refine Zb ?_ | (refine Zi ?_; refine Zv ?_) | (refine Zh ?_; refine Zu ?_) | intro _))
    all_goals exact qE ⟨rfl, rfl, rfl⟩
   ·rw [decide_eq_false hz, Bool.false_and] at hq
    subst hq
    repeat' (first | (refine Zj ?_; first | (refine Zf ?_; refine qQ ?_) | refine Zn ?_) | refine Zb ?_ | (refine Zi ?_; refine Zv ?_) | (refine Zh ?_; refine Zu ?_) | intro _)
    exact qE ⟨rfl, rfl, rfl⟩
  ·rw [if_neg k1] at hq
   by_cases k2 : kind = 2
   ·rw [if_pos k2] at hq
    by_cases hz : rn = 0
    ·rw [decide_eq_true hz, Bool.true_and] at hq
     rw [hq] at hks
     cases q
     all_goals (repeat' (first | (refine Ze (.func 283) ?_; refine qC rfl rfl (hks) ?_; rintro v ρ' L' hle ⟨rfl, rfl, rfl⟩ <;> (try simp only [kM, kN, kO])) | (refine Zj ?_; first | (refine Zf ?_; refine qQ ?_) | refine Zn ?_) | refine Zb ?_ | (refine Zi ?_; refine Zv ?_) | (refine Zh ?_; refine Zu ?_) | intro _))
     all_goals exact qE ⟨rfl, rfl, rfl⟩
    ·rw [decide_eq_false hz, Bool.false_and] at hq
     subst hq
     repeat' (first | (refine Zj ?_; first | (refine Zf ?_; refine qQ ?_) | refine Zn ?_) | refine Zb ?_ | (refine Zi ?_; refine Zv ?_) | (refine Zh ?_; refine Zu ?_) | intro _)
     exact qE ⟨rfl, rfl, rfl⟩
   ·rw [if_neg k2] at hq
    subst hq
    repeat' (first | (refine Zj ?_; first | (refine Zf ?_; refine qQ ?_) | refine Zn ?_) | refine Zb ?_ | (refine Zi ?_; refine Zv ?_) | (refine Zh ?_; refine Zu ?_) | intro _)
    exact qE ⟨rfl, rfl, rfl⟩
theorem CIn.nil {ρ : Hp} : CIn ρ ⟨none, 0, 0, none, 0, 0⟩ [] [] := ⟨AIn.nil, AIn.nil, by decide, by decide, by decide, by decide⟩
def tB (t : Int) : UInt8 := UInt8.ofNat t.toNat
def Xy (t : Int) (id : Nat) : List UInt8 := tB t :: be 2 id
def vN (v : Int) : Nat := (IntKind.u64.wrap v).toNat
theorem vN_eq (v : Int) : IntKind.u64.wrap v = (vN v : Nat) := by
 have : 0 ≤ IntKind.u64.wrap v := by simp only [IntKind.wrap, IntKind.bits, IntKind.signed, Bool.false_and, Bool.false_eq_true, if_false]; omega
 simp [vN]; omega
theorem vN_lt (v : Int) : vN v < 18446744073709551616 := by
 have : IntKind.u64.wrap v < 18446744073709551616 := by simp only [IntKind.wrap, IntKind.bits, IntKind.signed, Bool.false_and, Bool.false_eq_true, if_false]; omega
 have h := vN_eq v
 omega
def Yo (r : Row) : List UInt8 := Xy r.t r.id ++ (be 8 (vN r.val) ++ (UInt8.ofNat r.note.length :: r.note))
theorem tB_eq {t : Int} (h0 : 0 ≤ t) (h1 : t < 256) : Value.int .u8 t = Yc (tB t) := by
 obtain ⟨n, rfl⟩ : ∃ n : Nat, t = n := ⟨t.toNat, by omega⟩
 simp only [Yc, tB, Int.toNat_natCast, UInt8.toNat_ofNat']
 congr 1
 have e : (2 : Nat) ^ 8 = 256 := by decide
 rw [e]
 omega
theorem key_spec (ρ : Hp) (v : Value) (n : Nat) (l : List UInt8) (sp : List Value) (hown : OwnS v n (l.map Yc) sp 1) (hn : n ≤ 100000) (t : Int) (id : Nat) (h0 : 0 ≤ t) (h3 : t < 256) (hid : id < 65536) :
  Spec Tryz.prog 308 [v, .agg ⟨keyV t id⟩] ρ [ZK v (l.map Yc) sp 5] (fun r ρ' L' => ρ.le ρ' ∧ ∃ sp', OwnS r (n + 3) ((l ++ Xy t id).map Yc) sp' 1 ∧ L' = [ZK r ((l ++ Xy t id).map Yc) sp' 5]) := by
 have hl : l.length = n := by obtain ⟨_, _, _, h⟩ := hown.len; simpa using h
 refine Zg Tryz.func308 rfl rfl rfl fun u R => ?_
 simp only [Zx, List.cons_append, List.nil_append]
 repeat' (first | (refine Zj ?_; first | (refine Zf ?_; refine qQ ?_) | refine Zn ?_) | refine Zb ?_ | (refine Zi ?_; refine Zv ?_) | (refine Zh ?_; refine Zu ?_) | intro _)
 rename_i b3
 refine ZD (Zs _ _ ([[(b3, .cells ⟨keyV t id⟩ 99 (0, 0))]])) (Zz (hT := tk) (Hp.le_refl _)) ?_
 all_goals (refine ZT 0 ?_; refine ZS 1 ?_; refine ZX 2 ?_; refine rCv 3 ?_; refine ZS 6 ?_; refine ZX 7 ?_)
 all_goals (refine Zp (i := 4) ?_; ((try refine Zk ?_); (first | (refine Zr rfl rfl rfl rfl (by simp) rfl rfl (fun _ => ?_); simp only [tB_eq h0 h3]) | (refine Zn ?_; try intro _)) <;> ((try simp only [kM, kN, kO]); refine Zb ?_; refine Zl ?_)))
 all_goals (refine Zp (i := 5) ?_; ((try refine Zk ?_); (first | (refine ZV (ys := [Yc (tB t)]) (m := 1) rfl rfl hown (hR := by infer_instance) SrcV.lit rfl rfl (by decide) rfl (by omega) (by omega) rfl (fun v' sp' hown' => ?_); rw [show l.map Yc ++ [Yc (tB t)] = (l ++ [tB t]).map Yc by simp] at hown' ⊢; refine Ys _ (h := Rem.here) (fun ρ2 hle2 hfz => ?_); obtain ⟨a', c', rfl, hc', hs⟩ := hown'.sIn hfz) | (refine Zn ?_; try intro _)) <;> ((try simp only [kM, kN, kO]); refine Zb ?_; refine Zl ?_)))
 all_goals (refine Zp (i := 8) ?_; ((try refine Zk ?_); (first | (refine Ze (.func 258) ?_; refine qC rfl rfl (put16_spec _ a' _ c' _ hs id hid (by omega)) ?_; rintro v ρ' L' hle ⟨rfl, sp2, hown2, rfl⟩ <;> (try simp only [kM, kN, kO])) | (refine Zn ?_; try intro _)) <;> ((try simp only [kM, kN, kO]); refine Zb ?_; refine Zl ?_)))
 all_goals (refine ZO ?_; refine rAs 9 ?_; refine ZI ?_)
 have e : l ++ [tB t] ++ be 2 id = l ++ Xy t id := by rw [List.append_assoc]; rfl
 rw [e] at hown2 ⊢
 repeat' (first | (refine Zj ?_; first | (refine Zf ?_; refine qQ ?_) | refine Zn ?_) | refine Zb ?_ | (refine Zi ?_; refine Zv ?_) | (refine Zh ?_; refine Zu ?_) | intro _)
 exact qE ⟨hle2, sp2, hown2, rfl⟩
theorem rowOk_iff {r : Row} (h : Xl r = true) : 0 ≤ r.t ∧ r.t < 3 ∧ r.note.length ≤ 8 := by
 have := of_decide_eq_true h
 exact ⟨this.1.1, this.1.2, this.2⟩
theorem lenB {n : Nat} (h : n ≤ 200) : Value.int .u8 (n : Int) = Yc (UInt8.ofNat n) := by
 simp only [Yc, UInt8.toNat_ofNat']
 congr 1
 have e : (2 : Nat) ^ 8 = 256 := by decide
 rw [e]
 omega
theorem claid_spec (ρ : Hp) (v : Value) (n : Nat) (l : List UInt8) (sp : List Value) (hown : OwnS v n (l.map Yc) sp 1) (hn : n ≤ 1000) (r : Row) (hr : Xl r = true) (hid : r.id < 65536) :
  Spec Tryz.prog 286 [v, .agg ⟨rowV r⟩] ρ [ZK v (l.map Yc) sp 5] (fun q ρ' L' => ρ.le ρ' ∧ ∃ sp', OwnS q (n + (Yo r).length) ((l ++ Yo r).map Yc) sp' 1 ∧ L' = [ZK q ((l ++ Yo r).map Yc) sp' 5]) := by
 obtain ⟨h0, h3, h8⟩ := rowOk_iff hr
 have hl : l.length = n := by obtain ⟨_, _, _, h⟩ := hown.len; simpa using h
 have hvl := vN_lt r.val
 have hkb : (Xy r.t r.id).length = 3 := by simp [Xy, Zt]
 have hlb := lenB (n := r.note.length) (by omega)
 refine Zg Tryz.func286 rfl rfl rfl fun u R => ?_
 simp only [Zx, List.cons_append, List.nil_append]
 repeat' (first | (refine Zj ?_; first | (refine Zf ?_; refine qQ ?_) | refine Zn ?_) | refine Zb ?_ | (refine Zi ?_; refine Zv ?_) | (refine Zh ?_; refine Zu ?_) | intro _)
 rename_i b3
 refine ZD (Zs _ _ ([[(b3, .cells ⟨rowV r⟩ 101 (0, 0))]])) (Zz (hT := tk) (Hp.le_refl _)) ?_
 all_goals (refine ZT 0 ?_; refine ZS 1 ?_; refine ZX 2 ?_; refine ZS 4 ?_; refine ZX 5 ?_; refine rCv 6 ?_)
 all_goals (refine Zp (i := 3) ?_; ((try refine Zk ?_); (first | (simp only [vN_eq]; refine Ze (.func 308) ?_; refine qC rfl rfl (key_spec _ v n l sp hown (by omega) r.t r.id h0 (by omega) hid) ?_; rintro v1 ρ1 L1 hle0 ⟨hle1, sp1, hown1, rfl⟩; simp only [List.cons_append, List.nil_append]; refine Ys _ (h := Rem.here) (fun ρ2 hle2 hfz => ?_); obtain ⟨a1, c1, rfl, hc1, hs1⟩ := hown1.sIn hfz) | (refine Zn ?_; try intro _)) <;> ((try simp only [kM, kN, kO]); refine Zb ?_; refine Zl ?_)))
 all_goals (refine Zp (i := 7) ?_; ((try refine Zk ?_); (first | (refine Ze (.func 254) ?_; refine qC rfl rfl (put64_spec _ a1 _ c1 _ hs1 (vN r.val) hvl (by omega)) ?_; rintro v ρ' L' hle ⟨rfl, sp3, hown3, rfl⟩ <;> (try simp only [kM, kN, kO])) | (refine Zn ?_; try intro _)) <;> ((try simp only [kM, kN, kO]); refine Zb ?_; refine Zl ?_)))
 all_goals (refine ZO ?_; refine rAs 8 ?_; refine ZI ?_)
 repeat' (first | (refine Zj ?_; first | (refine Zf ?_; refine qQ ?_) | refine Zn ?_) | refine Zb ?_ | (refine Zi ?_; refine Zv ?_) | (refine Zh ?_; refine Zu ?_) | intro _)
 refine ZD (Zs _ _ ([[(b3, .cells ⟨rowV r⟩ 101 (0, 0))]])) (Zz (hT := tk) (Hp.le_refl _)) ?_
 all_goals (refine ZT 0 ?_; refine ZS 1 ?_; refine ZX 2 ?_; refine rBi 3 ?_; refine rCv 4 ?_; refine ZS 7 ?_; refine ZX 8 ?_)
 all_goals (refine Zp (i := 5) ?_; ((try refine Zk ?_); (first | (refine Zr rfl rfl rfl rfl (by simp) rfl rfl (fun _ => ?_); simp only [hlb]) | (refine Zn ?_; try intro _)) <;> ((try simp only [kM, kN, kO]); refine Zb ?_; refine Zl ?_)))
 all_goals (refine Zp (i := 6) ?_; ((try refine Zk ?_); (first | (refine ZV (ys := [Yc (UInt8.ofNat r.note.length)]) (m := 1) rfl rfl hown3 (hR := by infer_instance) SrcV.lit rfl rfl (by decide) rfl (by omega) (by omega) rfl (fun v4 sp4 hown4 => ?_)) | (refine tl_app_str (l := r.note) rfl rfl hown4 (hR := by infer_instance) (by omega) rfl (fun v5 sp5 hown5 => ?_)) | (refine Zn ?_; try intro _)) <;> ((try simp only [kM, kN, kO]); refine Zb ?_; refine Zl ?_)))
 all_goals (refine Zp (i := 9) ?_; ((try refine Zk ?_); (first | (refine ZV (ys := [Yc (UInt8.ofNat r.note.length)]) (m := 1) rfl rfl hown3 (hR := by infer_instance) SrcV.lit rfl rfl (by decide) rfl (by omega) (by omega) rfl (fun v4 sp4 hown4 => ?_)) | (refine tl_app_str (l := r.note) rfl rfl hown4 (hR := by infer_instance) (by omega) rfl (fun v5 sp5 hown5 => ?_)) | (refine Zn ?_; try intro _)) <;> ((try simp only [kM, kN, kO]); refine Zb ?_; refine Zl ?_)))
 all_goals (refine ZO ?_; refine rAs 10 ?_; refine ZI ?_)
 have e : (l ++ Xy r.t r.id ++ be 8 (vN r.val)).map Yc ++ [Yc (UInt8.ofNat r.note.length)] ++ r.note.map Yc = (l ++ Yo r).map Yc := by simp [Yo]
 have e2 : n + 3 + 8 + 1 + r.note.length = n + (Yo r).length := by simp [Yo, hkb, Zt]; omega
 rw [e] at hown5 ⊢
 rw [e2] at hown5
 repeat' (first | (refine Zj ?_; first | (refine Zf ?_; refine qQ ?_) | refine Zn ?_) | refine Zb ?_ | (refine Zi ?_; refine Zv ?_) | (refine Zh ?_; refine Zu ?_) | intro _)
 exact qE ⟨Hp.le_trans hle1 hle2, sp5, hown5, rfl⟩
theorem rowE_spec (ρ : Hp) (r : Row) (hid : r.id < 65536) :
  Spec Tryz.prog 257 [.agg ⟨rowV r⟩] ρ [] (fun v ρ' L' => ρ.le ρ' ∧ ∃ a n c, v = .tuple ⟨[.slice a n c, .int .i64 (if Xl r then 0 else 151)]⟩ ∧ n ≤ c ∧ SIn ρ' Yc a n (if Xl r then Yo r else []) ∧ L' = []) := by
 have hck := fun ρ => checkRow_spec ρ r
 refine Zg Tryz.func257 rfl rfl rfl fun u R => ?_
 simp only [Zx, List.cons_append, List.nil_append]
 cases hok : Xl r
 ·simp only [hok, Bool.false_eq_true, if_false] at hck ⊢
  repeat' (first | (refine Ze (.func 253) ?_; refine qC rfl rfl (hck _) ?_; rintro v ρ' L' hle ⟨rfl, rfl, rfl⟩ <;> (try simp only [kM, kN, kO])) | (refine Zj ?_; first | (refine Zf ?_; refine qQ ?_) | refine Zn ?_) | refine Zb ?_ | (refine Zi ?_; refine Zv ?_) | (refine Zh ?_; refine Zu ?_) | intro _)
  exact qE ⟨Hp.le_refl _, none, 0, 0, rfl, Nat.le_refl _, SIn.nil, rfl⟩
 ·simp only [hok, if_true] at hck ⊢
  repeat' (first | (refine Ze (.func 253) ?_; refine qC rfl rfl (hck _) ?_; rintro v ρ' L' hle ⟨rfl, rfl, rfl⟩ <;> (try simp only [kM, kN, kO])) | (refine Ze (.func 286) ?_; refine tl_call rfl rfl (claid_spec _ (.slice none 0 0) 0 [] [] (OwnS.nil 1) (by omega) r hok hid) (take_cons' rem_nil' take_nil') rfl ?_; rintro v1 ρ1 L1 hle0 ⟨hle1, sp1, hown1, rfl⟩; simp only [List.cons_append, List.nil_append, Nat.zero_add] at hown1 ⊢; refine Ys _ (h := Rem.here) (fun ρ2 hle2 hfz => ?_); obtain ⟨a1, c1, rfl, hc1, hs1⟩ := hown1.sIn hfz) | (refine Zj ?_; first | (refine Zf ?_; refine qQ ?_) | refine Zn ?_) | refine Zb ?_ | (refine Zi ?_; refine Zv ?_) | (refine Zh ?_; refine Zu ?_) | intro _)
  exact qE ⟨Hp.le_trans hle1 hle2, a1, _, c1, rfl, hc1, hs1, rfl⟩
def Xp (k : Kid) : List UInt8 := Xy k.t k.id ++ [tB k.page]
def cntB (c : Cont) : List UInt8 := if c.kind = 0 then [] else [UInt8.ofNat (c.rows.length + c.kids.length)]
def Xb (c : Cont) : List UInt8 := tB c.kind :: cntB c ++ (c.rows.flatMap Yo ++ c.kids.flatMap Xp)
theorem WH {α : Type} {most : Nat} {right : Nat → α → Bool} {lt : α → α → Bool} {l : List α} : ∀ {k : Nat}, ZM most right lt l k = true → k ≤ l.length → l.length ≤ most ∧ ∀ i (h : i < l.length), i < k → right i l[i] = true ∧ (i = 0 ∨ lt (l[i - 1]'(by omega)) l[i] = true)
 | 0, h, _ => ⟨of_decide_eq_true h, fun i _ hi => by omega⟩
 | k + 1, h, hk => by
  rw [YY (show k < l.length by omega), Bool.and_eq_true, Bool.and_eq_true] at h
  obtain ⟨h1, h2, h3⟩ := h
  obtain ⟨g1, g2⟩ := WH h1 (by omega)
  refine ⟨g1, fun i hi hik => ?_⟩
  by_cases e : i < k
  ·exact g2 i hi e
  ·have : i = k := by omega
   subst this
   refine ⟨h2, ?_⟩
   simpa using h3
structure ContOk (c : Cont) : Prop where
 kind : c.kind = 0 ∧ c.rows = [] ∧ c.kids = [] ∨ c.kind = 1 ∧ c.kids = [] ∨ c.kind = 2 ∧ c.rows = [] ∧ 1 < c.kids.length
 rl : c.rows.length ≤ 4
 kl : c.kids.length ≤ 4
 row : ∀ r ∈ c.rows, Xl r = true
 kid : ∀ k ∈ c.kids, (0 ≤ k.t ∧ k.t < 3) ∧ 0 < k.page ∧ k.page < 64
theorem contOk_facts {c : Cont} (h : YI c = true) : ContOk c := by
 obtain ⟨kind, rows, kids⟩ := c
 unfold YI at h
 dsimp only at h
 split at h
 ·rename_i hk
  have hz := of_decide_eq_true h
  have h1 : rows = [] := List.eq_nil_of_length_eq_zero (by omega)
  have h2 : kids = [] := List.eq_nil_of_length_eq_zero (by omega)
  subst h1; subst h2
  exact ⟨.inl ⟨hk, rfl, rfl⟩, by simp, by simp, by simp, by simp⟩
 ·split at h
  ·rename_i hk
   rw [Bool.and_eq_true] at h
   have h2 : kids = [] := List.eq_nil_of_length_eq_zero (of_decide_eq_true h.1)
   subst h2
   obtain ⟨g1, g2⟩ := WH h.2 (Nat.le_refl _)
   refine ⟨.inr (.inl ⟨hk, rfl⟩), g1, by simp, fun r hr => ?_, by simp⟩
   obtain ⟨i, hi, rfl⟩ := List.mem_iff_getElem.1 hr
   exact (g2 i hi hi).1
  ·split at h
   ·rename_i hk
    rw [Bool.and_eq_true, Bool.and_eq_true] at h
    have h1 : rows = [] := List.eq_nil_of_length_eq_zero (of_decide_eq_true h.1)
    subst h1
    obtain ⟨g1, g2⟩ := WH h.2.2 (Nat.le_refl _)
    refine ⟨.inr (.inr ⟨hk, rfl, of_decide_eq_true h.2.1⟩), by simp, g1, by simp, fun k hk => ?_⟩
    obtain ⟨i, hi, rfl⟩ := List.mem_iff_getElem.1 hk
    have := of_decide_eq_true (g2 i hi hi).1
    exact ⟨this.2.2.2.1, this.2.1, this.2.2.1⟩
   ·cases h
theorem rowB_len {r : Row} (h : Xl r = true) : (Yo r).length = 12 + r.note.length := by simp [Yo, Xy, Zt]; omega
theorem rowB_le {r : Row} (h : Xl r = true) : (Yo r).length ≤ 20 := by rw [rowB_len h]; have := (rowOk_iff h).2.2; omega
theorem kidB_len (k : Kid) : (Xp k).length = 4 := by simp [Xp, Xy, Zt]
theorem Yq {α : Type} (f : α → List UInt8) (m : Nat) : ∀ (l : List α), (∀ x ∈ l, (f x).length ≤ m) → (l.flatMap f).length ≤ l.length * m
 | [], _ => by simp
 | x :: r, h => by
  have h1 := h x (by simp)
  have ih := Yq f m r (fun y hy => h y (by simp [hy]))
  simp only [List.flatMap_cons, List.length_append, List.length_cons, Nat.add_mul]; omega
theorem YP {α : Type} (f : α → List UInt8) (l : List α) (k : Nat) (h : k < l.length) : (l.take (k + 1)).flatMap f = (l.take k).flatMap f ++ f l[k] := by
 rw [List.take_succ_eq_append_getElem h, List.flatMap_append]; simp
theorem contE_spec (ρ : Hp) (w : CV) (c : Cont) (h : CIn ρ w c.rows c.kids) (hir : ∀ r ∈ c.rows, r.id < 65536) (hik : ∀ k ∈ c.kids, k.id < 65536) :
  Spec Tryz.prog 285 [.agg ⟨contV c.kind w⟩] ρ [] (fun v ρ' L' => ρ.le ρ' ∧ ∃ a n c', v = .tuple ⟨[.slice a n c', .int .i64 (if YI c then 0 else 160)]⟩ ∧ n ≤ c' ∧ SIn ρ' Yc a n (if YI c then Xb c else []) ∧ L' = []) := by
 have hck := fun ρ h => check_spec ρ w c h
 refine Zg Tryz.func285 rfl rfl rfl fun u R => ?_
 simp only [Zx, List.cons_append, List.nil_append]
 cases hok : YI c
 ·simp only [hok, Bool.false_eq_true, if_false] at hck ⊢
  repeat' (first | (refine Ze (.func 251) ?_; refine qC rfl rfl (hck _ h) ?_; rintro v ρ' L' hle ⟨rfl, rfl, rfl⟩ <;> (try simp only [kM, kN, kO])) | (refine Zj ?_; first | (refine Zf ?_; refine qQ ?_) | refine Zn ?_) | refine Zb ?_ | (refine Zi ?_; refine Zv ?_) | (refine Zh ?_; refine Zu ?_) | intro _)
  exact qE ⟨Hp.le_refl _, none, 0, 0, rfl, Nat.le_refl _, SIn.nil, rfl⟩
 ·simp only [hok, if_true] at hck ⊢
  obtain ⟨hkind, hrl, hkl, hrow, hkid⟩ := contOk_facts hok
  have hk03 : 0 ≤ c.kind ∧ c.kind < 3 := by omega
  obtain ⟨kind, rows, kids⟩ := c
  obtain ⟨ra, rn, rc, ka, kn, kc⟩ := w
  obtain ⟨hr, hk, hrb, hkb, hrc, hkc⟩ := h
  dsimp only at hrc hkc hr hk hrb hkb hrow hkid hrl hkl hk03 hir hik ⊢
  have hrn := hr.len
  have hkn := hk.len
  have hcnt := lenB (n := rn + kn) (by omega)
  have hkB := tB_eq (t := kind) (by omega) (by omega)
  dsimp only [contV] at hck ⊢
  by_cases hk0 : kind = 0
  ·obtain ⟨B0, hB0⟩ : ∃ B0, tB kind :: cntB ⟨kind, rows, kids⟩ = B0 := ⟨_, rfl⟩
   have hX : B0 = [tB kind] := by rw [← hB0]; simp [cntB, hk0]
   have hBl : B0.length ≤ 2 := by rw [hX]; simp
   repeat' (first | (refine Ze (.func 251) ?_; refine qC rfl rfl (hck _ ⟨hr, hk, hrb, hkb, hrc, hkc⟩) ?_; rintro v ρ' L' hle ⟨rfl, rfl, rfl⟩ <;> (try simp only [kM, kN, kO])) | (refine Zr rfl rfl rfl rfl (by simp) rfl rfl (fun _ => ?_); simp only [hkB]) | (refine Zj ?_; first | (refine Zf ?_; refine qQ ?_) | refine Zn ?_) | refine Zb ?_ | (refine Zi ?_; refine Zv ?_) | (refine Zh ?_; refine Zu ?_) | intro _)
   rename_i b1 b2
   rw [show [Yc (tB kind)] = B0.map Yc by rw [hX]; rfl, own_chunk b2 1 1]
   have hown0 : OwnS (.slice (some ⟨b2, 0, none⟩) 1 1) B0.length (B0.map Yc) [] 1 := ⟨.inr ⟨b2, 1, by rw [hX]; rfl, by simp, by simp [hX], by simp [hX]⟩⟩
   generalize Value.slice (some ⟨b2, 0, none⟩) 1 1 = v0 at *
   rw [show B0.map Yc = (B0 ++ (rows.take 0).flatMap Yo).map Yc by simp]
   refine ZB [(1, _), (2, _), (3, _), (34, _), (35, _)] (fun (ζ : (Nat) × (Hp) × (Value) × (List Value)) => [(36, .int .i64 ζ.1), (5, ζ.2.2.1)]) (fun (ζ : (Nat) × (Hp) × (Value) × (List Value)) => ζ.2.1) (fun (ζ : (Nat) × (Hp) × (Value) × (List Value)) => [ZK ζ.2.2.1 ((B0 ++ (rows.take ζ.1).flatMap Yo).map Yc) ζ.2.2.2 5, [(b1, .cells ⟨[.int .i64 kind, .slice ra rn rc, .slice ka kn kc]⟩ 110 (0, 0))]]) (fun (ζ : (Nat) × (Hp) × (Value) × (List Value)) => ζ.1 ≤ rn ∧ ρ'.le ζ.2.1 ∧ OwnS ζ.2.2.1 (B0 ++ (rows.take ζ.1).flatMap Yo).length ((B0 ++ (rows.take ζ.1).flatMap Yo).map Yc) ζ.2.2.2 1) (fun (ζ : (Nat) × (Hp) × (Value) × (List Value)) => rn - ζ.1) ((0, ρ', v0, [])) (⟨Nat.zero_le _, Hp.le_refl _, by simpa using hown0⟩) Zm Zm rfl tk ?_
   rintro ⟨k, ρ1, v, sp⟩ hI
   try simp only [List.cons_append, List.nil_append, List.append_assoc, List.append_eq] at hI ⊢
   try dsimp only at hI ⊢
   obtain ⟨hkn0, hle1, hown⟩ := hI
   by_cases hlt : k < rn
   ·obtain ⟨b, off, C, T, fr, rfl, hb, hfit, hc⟩ := (hr.mono hle1).get (show k < rows.length by omega)
    have hmem : rows[k]'(by omega) ∈ rows := List.getElem_mem _
    have hro := hrow _ hmem
    have hid := hir _ hmem
    have hts := YP Yo rows k (by omega)
    have hfl := Yq Yo 20 (rows.take k) (fun x hx => rowB_le (hrow x (List.mem_of_mem_take hx)))
    have htl : (rows.take k).length ≤ 4 := by simp; omega
    have hXl : (B0 ++ (rows.take k).flatMap Yo).length ≤ 100 := by simp only [List.length_append]; omega
    have hll : (B0 ++ (rows.take k).flatMap Yo).length + (Yo (rows[k]'(by omega))).length = (B0 ++ (rows.take (k + 1)).flatMap Yo).length := by rw [hts]; simp; omega
    have hmm : B0 ++ (rows.take k).flatMap Yo ++ Yo (rows[k]'(by omega)) = B0 ++ (rows.take (k + 1)).flatMap Yo := by rw [hts]; simp
    generalize rows[k]'(by omega) = x at *
    repeat' (first | (refine Ze (.func 286) ?_; refine qC rfl rfl (claid_spec _ v _ _ sp hown (by omega) x hro hid) ?_; rintro v2 ρ2 L2 hle0 ⟨hle2, sp2, hown2, rfl⟩; simp only [List.cons_append, List.nil_append, hmm]; rw [hmm, hll] at hown2) | (refine Zj ?_; first | (refine Zf ?_; refine qQ ?_) | refine Zn ?_) | refine Zb ?_ | (refine Zi ?_; refine Zv ?_) | (refine Zh ?_; refine Zu ?_) | intro _)
    refine Zq (k + 1, _, v2, sp2) (⟨hlt, Hp.le_trans hle1 hle2, hown2⟩) Zm Zm rfl tk inferInstance (by first | omega | (dsimp only; omega))
   ·have hk2 : k = rn := by omega
    subst hk2
    rw [List.take_of_length_le (by omega)] at hown ⊢
    repeat' (first | (refine Zj ?_; first | (refine Zf ?_; refine qQ ?_) | refine Zn ?_) | refine Zb ?_ | (refine Zi ?_; refine Zv ?_) | (refine Zh ?_; refine Zu ?_) | intro _)
    rw [show (B0 ++ rows.flatMap Yo).map Yc = (B0 ++ (rows.flatMap Yo ++ (kids.take 0).flatMap Xp)).map Yc by simp]
    refine ZB [(2, _), (3, _), (45, _), (46, _)] (fun (ζ : (Nat) × (Hp) × (Value) × (List Value)) => [(47, .int .i64 ζ.1), (5, ζ.2.2.1)]) (fun (ζ : (Nat) × (Hp) × (Value) × (List Value)) => ζ.2.1) (fun (ζ : (Nat) × (Hp) × (Value) × (List Value)) => [ZK ζ.2.2.1 ((B0 ++ (rows.flatMap Yo ++ (kids.take ζ.1).flatMap Xp)).map Yc) ζ.2.2.2 5]) (fun (ζ : (Nat) × (Hp) × (Value) × (List Value)) => ζ.1 ≤ kn ∧ ρ1.le ζ.2.1 ∧ OwnS ζ.2.2.1 (B0 ++ (rows.flatMap Yo ++ (kids.take ζ.1).flatMap Xp)).length ((B0 ++ (rows.flatMap Yo ++ (kids.take ζ.1).flatMap Xp)).map Yc) ζ.2.2.2 1) (fun (ζ : (Nat) × (Hp) × (Value) × (List Value)) => kn - ζ.1) ((0, ρ1, v, sp)) (⟨Nat.zero_le _, Hp.le_refl _, by simpa using hown⟩) Zm Zm rfl tk ?_
    rintro ⟨j, ρ2, v, sp⟩ hI
    try simp only [List.cons_append, List.nil_append, List.append_assoc, List.append_eq] at hI ⊢
    try dsimp only at hI ⊢
    have hfl := Yq Yo 20 rows (fun x hx => rowB_le (hrow x hx))
    obtain ⟨hj0, hle3, hown3⟩ := hI
    by_cases hlj : j < kn
    ·obtain ⟨b, off, C, T, fr, rfl, hb, hfit, hc⟩ := (hk.mono (Hp.le_trans hle1 hle3)).get (show j < kids.length by omega)
     have hmem : kids[j]'(by omega) ∈ kids := List.getElem_mem _
     have hko := hkid _ hmem
     have hid := hik _ hmem
     have hts := YP Xp kids j (by omega)
     have hfk := Yq Xp 4 (kids.take j) (fun x hx => Nat.le_of_eq (kidB_len x))
     have htl : (kids.take j).length ≤ 4 := by simp; omega
     have hXl : (B0 ++ (rows.flatMap Yo ++ (kids.take j).flatMap Xp)).length ≤ 200 := by simp only [List.length_append]; omega
     have hmm : B0 ++ (rows.flatMap Yo ++ (kids.take j).flatMap Xp) ++ Xy (kids[j]'(by omega)).t (kids[j]'(by omega)).id ++ [tB (kids[j]'(by omega)).page] = B0 ++ (rows.flatMap Yo ++ (kids.take (j + 1)).flatMap Xp) := by rw [hts]; simp [Xp]
     have hll : (B0 ++ (rows.flatMap Yo ++ (kids.take j).flatMap Xp)).length + 3 + 1 = (B0 ++ (rows.flatMap Yo ++ (kids.take (j + 1)).flatMap Xp)).length := by rw [hts]; simp [kidB_len]; omega
     have hpg := tB_eq (t := (kids[j]'(by omega)).page) (by omega) (by omega)
     generalize kids[j]'(by omega) = x at *
     generalize hX : B0 ++ (rows.flatMap Yo ++ (kids.take j).flatMap Xp) = X at *
     repeat' (first | (refine Zj ?_; first | (refine Zf ?_; refine qQ ?_) | refine Zn ?_) | refine Zb ?_ | (refine Zi ?_; refine Zv ?_) | (refine Zh ?_; refine Zu ?_) | intro _)
     rename_i b9
     refine ZD (Zs _ _ ([[(b9, .cells ⟨kidV x⟩ 224 (0, 0))]])) (Zz (hT := tk) (Hp.le_refl _)) ?_
     all_goals (refine ZT 0 ?_; refine ZS 1 ?_; refine ZX 2 ?_; refine ZS 4 ?_; refine ZX 5 ?_; refine rCv 6 ?_)
     all_goals (refine Ye (i := 3) (j := 7) ?_ ?_ <;> ((try refine Zk ?_); (first | (refine Ze (.func 308) ?_; refine qC rfl rfl (key_spec _ v _ X sp hown3 (by omega) x.t x.id hko.1.1 (by omega) hid) ?_; rintro v2 ρ4 L2 hle0 ⟨hle4, sp4, hown4, rfl⟩; simp only [List.cons_append, List.nil_append]) | (refine Zr rfl rfl rfl rfl (by simp) rfl rfl (fun _ => ?_); simp only [hpg]) | (refine Zn ?_; try intro _)) <;> ((try simp only [kM, kN, kO]); refine Zb ?_; refine Zl ?_)))
     all_goals (first | (refine Zp (i := 7) ?_; ((try refine Zk ?_); (first | (refine Zr rfl rfl rfl rfl (by simp) rfl rfl (fun _ => ?_); simp only [hpg]) | (refine Zn ?_; try intro _)) <;> ((try simp only [kM, kN, kO]); refine Zb ?_; refine Zl ?_))) | (refine Zp (i := 3) ?_; ((try refine Zk ?_); (first | (refine Ze (.func 308) ?_; refine qC rfl rfl (key_spec _ v _ X sp hown3 (by omega) x.t x.id hko.1.1 (by omega) hid) ?_; rintro v2 ρ4 L2 hle0 ⟨hle4, sp4, hown4, rfl⟩; simp only [List.cons_append, List.nil_append]) | (refine Zn ?_; try intro _)) <;> ((try simp only [kM, kN, kO]); refine Zb ?_; refine Zl ?_))))
     all_goals (refine Zp (i := 8) ?_; ((try refine Zk ?_); (first | (refine Ze (.func 308) ?_; refine qC rfl rfl (key_spec _ v _ X sp hown3 (by omega) x.t x.id hko.1.1 (by omega) hid) ?_; rintro v2 ρ4 L2 hle0 ⟨hle4, sp4, hown4, rfl⟩; simp only [List.cons_append, List.nil_append]) | (refine ZV (ys := [Yc (tB x.page)]) (m := 1) rfl rfl hown4 (hR := by infer_instance) SrcV.lit rfl rfl (by decide) rfl (by omega) (by omega) rfl (fun v5 sp5 hown5 => ?_); rw [show (X ++ Xy x.t x.id).map Yc ++ [Yc (tB x.page)] = (X ++ Xy x.t x.id ++ [tB x.page]).map Yc by simp, hmm] at hown5 ⊢; rw [hll] at hown5) | (refine Zn ?_; try intro _)) <;> ((try simp only [kM, kN, kO]); refine Zb ?_; refine Zl ?_)))
     all_goals (refine ZO ?_; refine rAs 9 ?_; refine ZI ?_)
     all_goals (repeat' (first | (refine Zj ?_; first | (refine Zf ?_; refine qQ ?_) | refine Zn ?_) | refine Zb ?_ | (refine Zi ?_; refine Zv ?_) | (refine Zh ?_; refine Zu ?_) | intro _))
     all_goals refine Zq (j + 1, _, v5, sp5) (⟨hlj, Hp.le_trans hle3 (by assumption), hown5⟩) Zm Zm rfl tk inferInstance (by first | omega | (dsimp only; omega))
    ·have hj2 : j = kn := by omega
     subst hj2
     rw [List.take_of_length_le (by omega)] at hown3 ⊢
     have hfin : B0 ++ (rows.flatMap Yo ++ kids.flatMap Xp) = Xb ⟨kind, rows, kids⟩ := by rw [← hB0]; simp [Xb]
     rw [hfin] at hown3 ⊢
     repeat' (first | (refine Zj ?_; first | (refine Zf ?_; refine qQ ?_) | refine Zn ?_) | refine Zb ?_ | (refine Zi ?_; refine Zv ?_) | (refine Zh ?_; refine Zu ?_) | intro _)
     refine Yk _ (h := Rem.here) (fun ρ6 hle6 hfz => ?_)
     obtain ⟨a6, c6, rfl, hc6, hs6⟩ := hown3.sIn hfz
     exact qE ⟨Hp.le_trans hle1 (Hp.le_trans hle3 hle6), a6, _, c6, rfl, hc6, hs6, rfl⟩
  ·obtain ⟨B0, hB0⟩ : ∃ B0, tB kind :: cntB ⟨kind, rows, kids⟩ = B0 := ⟨_, rfl⟩
   have hX : B0 = [tB kind] ++ [UInt8.ofNat (rn + kn)] := by rw [← hB0]; simp [cntB, hk0, hrn, hkn]
   have hBl : B0.length ≤ 2 := by rw [hX]; simp
   have hcnt' : Value.int .u8 ((rn : Int) + (kn : Int)) = Yc (UInt8.ofNat (rn + kn)) := by rw [← hcnt]; simp
   repeat' (first | (refine Ze (.func 251) ?_; refine qC rfl rfl (hck _ ⟨hr, hk, hrb, hkb, hrc, hkc⟩) ?_; rintro v ρ' L' hle ⟨rfl, rfl, rfl⟩ <;> (try simp only [kM, kN, kO])) | (refine Zr rfl rfl rfl rfl (by simp) rfl rfl (fun _ => ?_); first | simp only [hkB] | simp only [hcnt']) | (refine Zj ?_; first | (refine Zf ?_; refine qQ ?_) | refine Zn ?_) | refine Zb ?_ | (refine Zi ?_; refine Zv ?_) | (refine Zh ?_; refine Zu ?_) | intro _)
   rename_i b1 b2 b3
   rw [show ([(b2, Obj.cells ⟨[Yc (tB kind)]⟩ 5 (0, 0))] : List (Nat × Obj)) = ZK (.slice (some ⟨b2, 0, none⟩) 1 1) ([tB kind].map Yc) [] 5 from rfl]
   refine ZV (ys := [Yc (UInt8.ofNat (rn + kn))]) (m := 1) (n := 1) (xs := [tB kind].map Yc) (sp := []) rfl rfl ⟨.inr ⟨b2, 1, rfl, rfl, rfl, Nat.le_refl _⟩⟩ (hR := by infer_instance) SrcV.lit rfl rfl (by decide) rfl (by omega) (by omega) rfl (fun v0 sp0 hown0 => ?_)
   rw [show [tB kind].map Yc ++ [Yc (UInt8.ofNat (rn + kn))] = B0.map Yc by rw [hX]; rfl] at hown0 ⊢
   replace hown0 : OwnS v0 B0.length (B0.map Yc) sp0 1 := by
    have e : B0.length = 1 + 1 := by rw [hX]; rfl
    rw [e]; exact hown0
   repeat' (first | (refine Zj ?_; first | (refine Zf ?_; refine qQ ?_) | refine Zn ?_) | refine Zb ?_ | (refine Zi ?_; refine Zv ?_) | (refine Zh ?_; refine Zu ?_) | intro _)
   rw [show B0.map Yc = (B0 ++ (rows.take 0).flatMap Yo).map Yc by simp]
   refine ZB [(1, _), (2, _), (3, _), (34, _), (35, _)] (fun (ζ : (Nat) × (Hp) × (Value) × (List Value)) => [(36, .int .i64 ζ.1), (5, ζ.2.2.1)]) (fun (ζ : (Nat) × (Hp) × (Value) × (List Value)) => ζ.2.1) (fun (ζ : (Nat) × (Hp) × (Value) × (List Value)) => [ZK ζ.2.2.1 ((B0 ++ (rows.take ζ.1).flatMap Yo).map Yc) ζ.2.2.2 5, [(b1, .cells ⟨[.int .i64 kind, .slice ra rn rc, .slice ka kn kc]⟩ 110 (0, 0))]]) (fun (ζ : (Nat) × (Hp) × (Value) × (List Value)) => ζ.1 ≤ rn ∧ ρ'.le ζ.2.1 ∧ OwnS ζ.2.2.1 (B0 ++ (rows.take ζ.1).flatMap Yo).length ((B0 ++ (rows.take ζ.1).flatMap Yo).map Yc) ζ.2.2.2 1) (fun (ζ : (Nat) × (Hp) × (Value) × (List Value)) => rn - ζ.1) ((0, ρ', v0, sp0)) (⟨Nat.zero_le _, Hp.le_refl _, by simpa using hown0⟩) Zm Zm rfl tk ?_
   rintro ⟨k, ρ1, v, sp⟩ hI
   try simp only [List.cons_append, List.nil_append, List.append_assoc, List.append_eq] at hI ⊢
   try dsimp only at hI ⊢
   obtain ⟨hkn0, hle1, hown⟩ := hI
   by_cases hlt : k < rn
   ·obtain ⟨b, off, C, T, fr, rfl, hb, hfit, hc⟩ := (hr.mono hle1).get (show k < rows.length by omega)
    have hmem : rows[k]'(by omega) ∈ rows := List.getElem_mem _
    have hro := hrow _ hmem
    have hid := hir _ hmem
    have hts := YP Yo rows k (by omega)
    have hfl := Yq Yo 20 (rows.take k) (fun x hx => rowB_le (hrow x (List.mem_of_mem_take hx)))
    have htl : (rows.take k).length ≤ 4 := by simp; omega
    have hXl : (B0 ++ (rows.take k).flatMap Yo).length ≤ 100 := by simp only [List.length_append]; omega
    have hll : (B0 ++ (rows.take k).flatMap Yo).length + (Yo (rows[k]'(by omega))).length = (B0 ++ (rows.take (k + 1)).flatMap Yo).length := by rw [hts]; simp; omega
    have hmm : B0 ++ (rows.take k).flatMap Yo ++ Yo (rows[k]'(by omega)) = B0 ++ (rows.take (k + 1)).flatMap Yo := by rw [hts]; simp
    generalize rows[k]'(by omega) = x at *
    repeat' (first | (refine Ze (.func 286) ?_; refine qC rfl rfl (claid_spec _ v _ _ sp hown (by omega) x hro hid) ?_; rintro v2 ρ2 L2 hle0 ⟨hle2, sp2, hown2, rfl⟩; simp only [List.cons_append, List.nil_append, hmm]; rw [hmm, hll] at hown2) | (refine Zj ?_; first | (refine Zf ?_; refine qQ ?_) | refine Zn ?_) | refine Zb ?_ | (refine Zi ?_; refine Zv ?_) | (refine Zh ?_; refine Zu ?_) | intro _)
    refine Zq (k + 1, _, v2, sp2) (⟨hlt, Hp.le_trans hle1 hle2, hown2⟩) Zm Zm rfl tk inferInstance (by first | omega | (dsimp only; omega))
   ·have hk2 : k = rn := by omega
    subst hk2
    rw [List.take_of_length_le (by omega)] at hown ⊢
    repeat' (first | (refine Zj ?_; first | (refine Zf ?_; refine qQ ?_) | refine Zn ?_) | refine Zb ?_ | (refine Zi ?_; refine Zv ?_) | (refine Zh ?_; refine Zu ?_) | intro _)
    rw [show (B0 ++ rows.flatMap Yo).map Yc = (B0 ++ (rows.flatMap Yo ++ (kids.take 0).flatMap Xp)).map Yc by simp]
    refine ZB [(2, _), (3, _), (45, _), (46, _)] (fun (ζ : (Nat) × (Hp) × (Value) × (List Value)) => [(47, .int .i64 ζ.1), (5, ζ.2.2.1)]) (fun (ζ : (Nat) × (Hp) × (Value) × (List Value)) => ζ.2.1) (fun (ζ : (Nat) × (Hp) × (Value) × (List Value)) => [ZK ζ.2.2.1 ((B0 ++ (rows.flatMap Yo ++ (kids.take ζ.1).flatMap Xp)).map Yc) ζ.2.2.2 5]) (fun (ζ : (Nat) × (Hp) × (Value) × (List Value)) => ζ.1 ≤ kn ∧ ρ1.le ζ.2.1 ∧ OwnS ζ.2.2.1 (B0 ++ (rows.flatMap Yo ++ (kids.take ζ.1).flatMap Xp)).length ((B0 ++ (rows.flatMap Yo ++ (kids.take ζ.1).flatMap Xp)).map Yc) ζ.2.2.2 1) (fun (ζ : (Nat) × (Hp) × (Value) × (List Value)) => kn - ζ.1) ((0, ρ1, v, sp)) (⟨Nat.zero_le _, Hp.le_refl _, by simpa using hown⟩) Zm Zm rfl tk ?_
    rintro ⟨j, ρ2, v, sp⟩ hI
    try simp only [List.cons_append, List.nil_append, List.append_assoc, List.append_eq] at hI ⊢
    try dsimp only at hI ⊢
    have hfl := Yq Yo 20 rows (fun x hx => rowB_le (hrow x hx))
    obtain ⟨hj0, hle3, hown3⟩ := hI
    by_cases hlj : j < kn
    ·obtain ⟨b, off, C, T, fr, rfl, hb, hfit, hc⟩ := (hk.mono (Hp.le_trans hle1 hle3)).get (show j < kids.length by omega)
     have hmem : kids[j]'(by omega) ∈ kids := List.getElem_mem _
     have hko := hkid _ hmem
     have hid := hik _ hmem
     have hts := YP Xp kids j (by omega)
     have hfk := Yq Xp 4 (kids.take j) (fun x hx => Nat.le_of_eq (kidB_len x))
     have htl : (kids.take j).length ≤ 4 := by simp; omega
     have hXl : (B0 ++ (rows.flatMap Yo ++ (kids.take j).flatMap Xp)).length ≤ 200 := by simp only [List.length_append]; omega
     have hmm : B0 ++ (rows.flatMap Yo ++ (kids.take j).flatMap Xp) ++ Xy (kids[j]'(by omega)).t (kids[j]'(by omega)).id ++ [tB (kids[j]'(by omega)).page] = B0 ++ (rows.flatMap Yo ++ (kids.take (j + 1)).flatMap Xp) := by rw [hts]; simp [Xp]
     have hll : (B0 ++ (rows.flatMap Yo ++ (kids.take j).flatMap Xp)).length + 3 + 1 = (B0 ++ (rows.flatMap Yo ++ (kids.take (j + 1)).flatMap Xp)).length := by rw [hts]; simp [kidB_len]; omega
     have hpg := tB_eq (t := (kids[j]'(by omega)).page) (by omega) (by omega)
     generalize kids[j]'(by omega) = x at *
     generalize hX : B0 ++ (rows.flatMap Yo ++ (kids.take j).flatMap Xp) = X at *
     repeat' (first | (refine Zj ?_; first | (refine Zf ?_; refine qQ ?_) | refine Zn ?_) | refine Zb ?_ | (refine Zi ?_; refine Zv ?_) | (refine Zh ?_; refine Zu ?_) | intro _)
     rename_i b9
     refine ZD (Zs _ _ ([[(b9, .cells ⟨kidV x⟩ 224 (0, 0))]])) (Zz (hT := tk) (Hp.le_refl _)) ?_
     all_goals (refine ZT 0 ?_; refine ZS 1 ?_; refine ZX 2 ?_; refine ZS 4 ?_; refine ZX 5 ?_; refine rCv 6 ?_)
     all_goals (refine Ye (i := 3) (j := 7) ?_ ?_ <;> ((try refine Zk ?_); (first | (refine Ze (.func 308) ?_; refine qC rfl rfl (key_spec _ v _ X sp hown3 (by omega) x.t x.id hko.1.1 (by omega) hid) ?_; rintro v2 ρ4 L2 hle0 ⟨hle4, sp4, hown4, rfl⟩; simp only [List.cons_append, List.nil_append]) | (refine Zr rfl rfl rfl rfl (by simp) rfl rfl (fun _ => ?_); simp only [hpg]) | (refine Zn ?_; try intro _)) <;> ((try simp only [kM, kN, kO]); refine Zb ?_; refine Zl ?_)))
     all_goals (first | (refine Zp (i := 7) ?_; ((try refine Zk ?_); (first | (refine Zr rfl rfl rfl rfl (by simp) rfl rfl (fun _ => ?_); simp only [hpg]) | (refine Zn ?_; try intro _)) <;> ((try simp only [kM, kN, kO]); refine Zb ?_; refine Zl ?_))) | (refine Zp (i := 3) ?_; ((try refine Zk ?_); (first | (refine Ze (.func 308) ?_; refine qC rfl rfl (key_spec _ v _ X sp hown3 (by omega) x.t x.id hko.1.1 (by omega) hid) ?_; rintro v2 ρ4 L2 hle0 ⟨hle4, sp4, hown4, rfl⟩; simp only [List.cons_append, List.nil_append]) | (refine Zn ?_; try intro _)) <;> ((try simp only [kM, kN, kO]); refine Zb ?_; refine Zl ?_))))
     all_goals (refine Zp (i := 8) ?_; ((try refine Zk ?_); (first | (refine Ze (.func 308) ?_; refine qC rfl rfl (key_spec _ v _ X sp hown3 (by omega) x.t x.id hko.1.1 (by omega) hid) ?_; rintro v2 ρ4 L2 hle0 ⟨hle4, sp4, hown4, rfl⟩; simp only [List.cons_append, List.nil_append]) | (refine ZV (ys := [Yc (tB x.page)]) (m := 1) rfl rfl hown4 (hR := by infer_instance) SrcV.lit rfl rfl (by decide) rfl (by omega) (by omega) rfl (fun v5 sp5 hown5 => ?_); rw [show (X ++ Xy x.t x.id).map Yc ++ [Yc (tB x.page)] = (X ++ Xy x.t x.id ++ [tB x.page]).map Yc by simp, hmm] at hown5 ⊢; rw [hll] at hown5) | (refine Zn ?_; try intro _)) <;> ((try simp only [kM, kN, kO]); refine Zb ?_; refine Zl ?_)))
     all_goals (refine ZO ?_; refine rAs 9 ?_; refine ZI ?_)
     all_goals (repeat' (first | (refine Zj ?_; first | (refine Zf ?_; refine qQ ?_) | refine Zn ?_) | refine Zb ?_ | (refine Zi ?_; refine Zv ?_) | (refine Zh ?_; refine Zu ?_) | intro _))
     all_goals refine Zq (j + 1, _, v5, sp5) (⟨hlj, Hp.le_trans hle3 (by assumption), hown5⟩) Zm Zm rfl tk inferInstance (by first | omega | (dsimp only; omega))
    ·have hj2 : j = kn := by omega
     subst hj2
     rw [List.take_of_length_le (by omega)] at hown3 ⊢
     have hfin : B0 ++ (rows.flatMap Yo ++ kids.flatMap Xp) = Xb ⟨kind, rows, kids⟩ := by rw [← hB0]; simp [Xb]
     rw [hfin] at hown3 ⊢
     repeat' (first | (refine Zj ?_; first | (refine Zf ?_; refine qQ ?_) | refine Zn ?_) | refine Zb ?_ | (refine Zi ?_; refine Zv ?_) | (refine Zh ?_; refine Zu ?_) | intro _)
     refine Yk _ (h := Rem.here) (fun ρ6 hle6 hfz => ?_)
     obtain ⟨a6, c6, rfl, hc6, hs6⟩ := hown3.sIn hfz
     exact qE ⟨Hp.le_trans hle1 (Hp.le_trans hle3 hle6), a6, _, c6, rfl, hc6, hs6, rfl⟩
instance : Yu Tryz.prog 30 := mkFun (by kernel_rfl)
instance (priority := 1200) eqRow {x y : Row} : EqC Tryz.prog 8 101 (.agg ⟨rowV x⟩) (.agg ⟨rowV y⟩) (decide (x = y)) := by
 have h : EqC Tryz.prog 8 101 (.agg ⟨[.int .i64 x.t, .int .u16 x.id, .int .i64 x.val, strV x.note]⟩) (.agg ⟨[.int .i64 y.t, .int .u16 y.id, .int .i64 y.val, strV y.note]⟩) _ := inferInstance
 refine ⟨fun d w hd => ?_⟩
 rw [h.out d w hd]
 congr 1
 obtain ⟨t, i, v, n⟩ := x
 obtain ⟨t', i', v', n'⟩ := y
 simp only [Row.mk.injEq, Bool.and_true, Bool.decide_and]
 have e : ((i : Int) == (i' : Int)) = decide (i = i') := by
  by_cases h : i = i'
  ·subst h; simp
  ·rw [decide_eq_false h]; simp only [beq_eq_false_iff_ne, ne_eq]; omega
 rw [e]
 by_cases h1 : t = t' <;> by_cases h2 : i = i' <;> by_cases h3 : v = v' <;> simp [h1, h2, h3]
instance (priority := 1200) eqKid {x y : Kid} : EqC Tryz.prog 8 224 (.agg ⟨kidV x⟩) (.agg ⟨kidV y⟩) (decide (x = y)) := by
 have h : EqC Tryz.prog 8 224 (.agg ⟨[.int .i64 x.t, .int .u16 x.id, .int .i64 x.page]⟩) (.agg ⟨[.int .i64 y.t, .int .u16 y.id, .int .i64 y.page]⟩) _ := inferInstance
 refine ⟨fun d w hd => ?_⟩
 rw [h.out d w hd]
 congr 1
 obtain ⟨t, i, v⟩ := x
 obtain ⟨t', i', v'⟩ := y
 simp only [Kid.mk.injEq, Bool.and_true, Bool.decide_and]
 have e : ((i : Int) == (i' : Int)) = decide (i = i') := by
  by_cases h : i = i'
  ·subst h; simp
  ·rw [decide_eq_false h]; simp only [beq_eq_false_iff_ne, ne_eq]; omega
 rw [e]
 by_cases h1 : t = t' <;> by_cases h2 : i = i' <;> by_cases h3 : v = v' <;> simp [h1, h2, h3]
structure RowFit (r : Row) : Prop where
 id : r.id < 65536
 val : -9223372036854775808 ≤ r.val ∧ r.val ≤ 9223372036854775807
structure KidFit (k : Kid) : Prop where
 id : k.id < 65536
 t : 0 ≤ k.t ∧ k.t < 256
 page : 0 ≤ k.page ∧ k.page < 256
structure ContFit (c : Cont) : Prop where
 row : ∀ r ∈ c.rows, RowFit r
 kid : ∀ k ∈ c.kids, KidFit k
theorem Wm {c : Cont} (h : YI c = true) : (Xb c).length ≤ 82 := by
 have hF := contOk_facts h
 have h1 := Yq Yo 20 c.rows (fun x hx => rowB_le (hF.row x hx))
 have h2 := Yq Xp 4 c.kids (fun x hx => Nat.le_of_eq (kidB_len x))
 have h3 : (cntB c).length ≤ 1 := by unfold cntB; split <;> simp
 have hk := hF.kind
 have hrl := hF.rl
 have hkl := hF.kl
 simp only [Xb, List.length_cons, List.length_append]
 have er : c.rows = [] → (c.rows.flatMap Yo).length = 0 := fun e => by rw [e]; rfl
 have ek : c.kids = [] → (c.kids.flatMap Xp).length = 0 := fun e => by rw [e]; rfl
 rcases hk with ⟨_, hr, hk⟩ | ⟨_, hk⟩ | ⟨_, hr, _⟩
 ·have := er hr; have := ek hk; omega
 ·have := ek hk; omega
 ·have := er hr; omega
structure CInW (ρ : Hp) (v : CV) (rows : List Row) (kids : List Kid) : Prop where
 r : AIn ρ 4 rowV v.ra v.rn rows
 k : AIn ρ 3 kidV v.ka v.kn kids
 rb : v.rn ≤ 9223372036854775807
 kb : v.kn ≤ 9223372036854775807
 rc : v.rn ≤ v.rc
 kc : v.kn ≤ v.kc
theorem CInW.mono {ρ ρ' v rows kids} (h : CInW ρ v rows kids) (hle : ρ.le ρ') : CInW ρ' v rows kids := ⟨h.r.mono hle, h.k.mono hle, h.rb, h.kb, h.rc, h.kc⟩
structure IdFit (c : Cont) : Prop where
 row : ∀ r ∈ c.rows, RowFit r
 kid : ∀ k ∈ c.kids, k.id < 65536
theorem contB_form {c : Cont} (h : YI c = true) : (c.kind = 0 ∧ c = ⟨0, [], []⟩ ∧ Xb c = [0]) ∨ (c.kind = 1 ∧ c.kids = [] ∧ Xb c = 1 :: (UInt8.ofNat c.rows.length :: c.rows.flatMap Yo)) ∨ (c.kind = 2 ∧ c.rows = [] ∧ Xb c = 2 :: (UInt8.ofNat c.kids.length :: c.kids.flatMap Xp)) := by
 have hF := (contOk_facts h).kind
 obtain ⟨kind, rows, kids⟩ := c
 dsimp only at hF ⊢
 rcases hF with ⟨rfl, rfl, rfl⟩ | ⟨rfl, rfl⟩ | ⟨rfl, rfl, _⟩
 ·exact .inl ⟨rfl, rfl, by simp [Xb, cntB]; rfl⟩
 ·exact .inr (.inl ⟨rfl, rfl, by simp [Xb, cntB]; rfl⟩)
 ·exact .inr (.inr ⟨rfl, rfl, by simp [Xb, cntB]; rfl⟩)
theorem XL (ρ : Hp) (n : Int) : Spec Tryz.prog 243 [.int .i64 n] ρ [] (fun v ρ' L' => v = .bool (decide (0 ≤ n ∧ n < 3)) ∧ ρ' = ρ ∧ L' = []) := by
 refine Zg Tryz.func243 rfl rfl rfl fun u R => ?_
 simp only [Zx, List.cons_append, List.nil_append]
 by_cases h0 : 0 ≤ n
 ·by_cases h1 : n < 3
  ·rw [decide_eq_true ⟨h0, h1⟩]
   repeat' (first | (refine Zj ?_; first | (refine Zf ?_; refine qQ ?_) | refine Zn ?_) | refine Zb ?_ | (refine Zi ?_; refine Zv ?_) | (refine Zh ?_; refine Zu ?_) | intro _)
   exact qE ⟨rfl, rfl, rfl⟩
  ·rw [decide_eq_false (fun h => h1 h.2)]
   repeat' (first | (refine Zj ?_; first | (refine Zf ?_; refine qQ ?_) | refine Zn ?_) | refine Zb ?_ | (refine Zi ?_; refine Zv ?_) | (refine Zh ?_; refine Zu ?_) | intro _)
   exact qE ⟨rfl, rfl, rfl⟩
 ·rw [decide_eq_false (fun h => h0 h.1)]
  repeat' (first | (refine Zj ?_; first | (refine Zf ?_; refine qQ ?_) | refine Zn ?_) | refine Zb ?_ | (refine Zi ?_; refine Zv ?_) | (refine Zh ?_; refine Zu ?_) | intro _)
  exact qE ⟨rfl, rfl, rfl⟩
theorem YG (ρ : Hp) (t : Int) (id : Nat) (h0 : 0 ≤ t) (h3 : t < 3) (hid : id < 65536) : Spec Tryz.prog 281 [.agg ⟨keyV t id⟩] ρ [] (fun v ρ' L' => v = .int .i64 (t * 65536 + id) ∧ ρ' = ρ ∧ L' = []) := by
 refine Zg Tryz.func281 rfl rfl rfl fun u R => ?_
 simp only [Zx, List.cons_append, List.nil_append]
 repeat' (first | (refine Zj ?_; first | (refine Zf ?_; refine qQ ?_) | refine Zn ?_) | refine Zb ?_ | (refine Zi ?_; refine Zv ?_) | (refine Zh ?_; refine Zu ?_) | intro _)
 exact qE ⟨rfl, rfl, rfl⟩
theorem order_lt {t1 t2 : Int} {i1 i2 : Nat} (h1 : i1 < 65536) (h2 : i2 < 65536) : cmpK t1 i1 t2 i2 < 0 ↔ t1 * 65536 + i1 < t2 * 65536 + i2 := by
 rw [cmpK_lt]; omega
theorem Wu (ρ : Hp) (r : Row) : Spec Tryz.prog 247 [.agg ⟨rowV r⟩] ρ [] (fun v ρ' L' => v = .bool (Xl r) ∧ ρ' = ρ ∧ L' = []) := by
 obtain ⟨t, id, val, note⟩ := r
 refine Zg Tryz.func247 rfl rfl rfl fun u R => ?_
 simp only [Zx, List.cons_append, List.nil_append, Xl]
 by_cases h1 : 0 ≤ t ∧ t < 3
 ·have hd : decide (0 ≤ t ∧ t < 3) = true := decide_eq_true h1
  by_cases h2 : note.length ≤ 8
  ·rw [decide_eq_true ⟨h1, h2⟩]
   repeat' (first | (refine Ze (.func 243) ?_; refine qC rfl rfl (XL _ _) ?_; rintro v ρ' L' hle ⟨rfl, rfl, rfl⟩ <;> (try simp only [kM, kN, kO, hd])) | (refine Zj ?_; first | (refine Zf ?_; refine qQ ?_) | refine Zn ?_) | refine Zb ?_ | (refine Zi ?_; refine Zv ?_) | (refine Zh ?_; refine Zu ?_) | intro _)
   exact qE ⟨rfl, rfl, rfl⟩
  ·rw [decide_eq_false (fun h => h2 h.2)]
   repeat' (first | (refine Ze (.func 243) ?_; refine qC rfl rfl (XL _ _) ?_; rintro v ρ' L' hle ⟨rfl, rfl, rfl⟩ <;> (try simp only [kM, kN, kO, hd])) | (refine Zj ?_; first | (refine Zf ?_; refine qQ ?_) | refine Zn ?_) | refine Zb ?_ | (refine Zi ?_; refine Zv ?_) | (refine Zh ?_; refine Zu ?_) | intro _)
   exact qE ⟨rfl, rfl, rfl⟩
 ·have hd : decide (0 ≤ t ∧ t < 3) = false := decide_eq_false h1
  rw [decide_eq_false (fun h => h1 h.1)]
  repeat' (first | (refine Ze (.func 243) ?_; refine qC rfl rfl (XL _ _) ?_; rintro v ρ' L' hle ⟨rfl, rfl, rfl⟩ <;> (try simp only [kM, kN, kO, hd])) | (refine Zj ?_; first | (refine Zf ?_; refine qQ ?_) | refine Zn ?_) | refine Zb ?_ | (refine Zi ?_; refine Zv ?_) | (refine Zh ?_; refine Zu ?_) | intro _)
  exact qE ⟨rfl, rfl, rfl⟩
theorem risesB_split {α : Type} {most : Nat} {right : Nat → α → Bool} {lt : α → α → Bool} {l : List α} : ∀ k, ZM most right lt l k = (decide (l.length ≤ most) && ZM l.length right lt l k)
 | 0 => by simp [ZM]
 | k + 1 => by rw [ZM, risesB_split k, ZM, Bool.and_assoc]
theorem rowsR_spec (ρ : Hp) (a : Option Addr) (n c : Nat) (l : List Row) (h : AIn ρ 4 rowV a n l) (hn : n ≤ 1000000) (hid : ∀ r ∈ l, r.id < 65536) :
  Spec Tryz.prog 245 [.slice a n c] ρ [] (fun v ρ' L' => v = .bool (rowsOk l) ∧ ρ' = ρ ∧ L' = []) := by
 have hl := h.len
 unfold rowsOk
 rw [risesB_split, hl]
 refine Zg Tryz.func245 rfl rfl rfl fun u R => ?_
 simp only [Zx, List.cons_append, List.nil_append]
 generalize hrt : (fun (_ : Nat) (r : Row) => Xl r) = rt
 repeat' (first | (refine Zj ?_; first | (refine Zf ?_; refine qQ ?_) | refine Zn ?_) | refine Zb ?_ | (refine Zi ?_; refine Zv ?_) | (refine Zh ?_; refine Zu ?_) | intro _)
 refine ZB [(0, _), (2, _), (5, _), (6, _)] (fun (ζ : (Nat)) => [(7, .int .i64 ζ)]) (fun (ζ : (Nat)) => ρ) (fun (ζ : (Nat)) => []) (fun (ζ : (Nat)) => ζ ≤ n ∧ ZM n rt ltR l ζ = true) (fun (ζ : (Nat)) => n - ζ) (0) (⟨Nat.zero_le _, by rw [ZM, hl]; exact decide_eq_true (Nat.le_refl _)⟩) Zm Zm rfl tk ?_
 rintro k hI
 try simp only [List.cons_append, List.nil_append, List.append_assoc, List.append_eq] at hI ⊢
 try dsimp only at hI ⊢
 obtain ⟨hk, hok⟩ := hI
 by_cases hlt : k < n
 ·obtain ⟨b, off, C, T, fr, rfl, hb, hfit, hc⟩ := h.get (show k < l.length by omega)
  have hs := YY (most := n) (right := rt) (lt := ltR) (show k < l.length by omega)
  rw [hok, Bool.true_and] at hs
  have hrk : rt k (l[k]'(by omega)) = Xl (l[k]'(by omega)) := by rw [← hrt]
  rw [hrk] at hs
  have hfin := fun (e : ZM n rt ltR l (k + 1) = false) => YM e (show k + 1 ≤ n by omega)
  have hmem : l[k]'(by omega) ∈ l := List.getElem_mem _
  have hidk := hid _ hmem
  cases hx : Xl (l[k]'(by omega))
  ·rw [hx, Bool.false_and] at hs
   rw [hfin hs, Bool.and_false]
   generalize l[k]'(by omega) = x at *
   repeat' (first | (refine Zj ?_; first | (refine Zf ?_; refine qQ ?_) | refine Zn ?_) | refine Zb ?_ | (refine Zi ?_; refine Zv ?_) | (refine Zh ?_; refine Zu ?_) | intro _)
   refine ZD (Zs _ _ _) ZF ?_
   all_goals refine ZX 0 ?_
   all_goals (refine Zp (i := 1) ?_; ((try refine Zk ?_); (first | (refine Ze (.func 247) ?_; refine qC rfl rfl (Wu _ x) ?_; rintro v ρ' L' hle ⟨rfl, rfl, rfl⟩ <;> (try simp only [kM, kN, kO, hx])) | (refine Zn ?_; try intro _)) <;> ((try simp only [kM, kN, kO]); refine Zb ?_; refine Zl ?_)))
   all_goals (refine rUn 2 ?_; refine ZT 3 ?_; (first | refine Zc 4 ?_ | refine Za 4 ?_ | refine ZP 4 ?_); (first | refine Zc 5 ?_ | refine Za 5 ?_ | refine Yw 5 ?_); (first | refine Zc 6 ?_ | refine Za 6 ?_ | refine ZP 6 ?_); (first | refine Zc 7 ?_ | refine Za 7 ?_ | refine ZP 7 ?_); (first | refine Zc 8 ?_ | refine Za 8 ?_ | refine ZP 8 ?_); (first | refine Zc 9 ?_ | refine Za 9 ?_ | refine wSb 9 ?_); (first | refine Zc 10 ?_ | refine Za 10 ?_ | refine wIa 10 ?_); (first | refine Zc 11 ?_ | refine Za 11 ?_ | refine ZW 11 ?_); (first | refine Zc 12 ?_ | refine Za 12 ?_ | refine Yb 12 ?_); (first | refine Zc 14 ?_ | refine Za 14 ?_ | refine ZW 14 ?_); (first | refine Zc 15 ?_ | refine Za 15 ?_ | refine Yb 15 ?_))
   all_goals (first | refine Zc 13 ?_ | refine Za 13 ?_ | (refine Zp (i := 13) ?_; ((try refine Zk ?_); (first | (refine Zn ?_; try intro _)) <;> ((try simp only [kM, kN, kO]); refine Zb ?_; refine Zl ?_))))
   all_goals (first | refine Zc 16 ?_ | refine Za 16 ?_ | (refine Zp (i := 16) ?_; ((try refine Zk ?_); (first | (refine Zn ?_; try intro _)) <;> ((try simp only [kM, kN, kO]); refine Zb ?_; refine Zl ?_))))
   all_goals (refine ZO ?_; (first | refine Zc 17 ?_ | refine Za 17 ?_ | refine Yw 17 ?_); (first | refine Zc 18 ?_ | refine Za 18 ?_ | refine wPk 18 ?_); refine YA 19 ?_; refine ZI ?_)
   repeat' (first | (refine Zj ?_; first | (refine Zf ?_; refine qQ ?_) | refine Zn ?_) | refine Zb ?_ | (refine Zi ?_; refine Zv ?_) | (refine Zh ?_; refine Zu ?_) | intro _)
   exact qE ⟨rfl, rfl, rfl⟩
  ·rw [hx, Bool.true_and] at hs
   by_cases hk0 : k = 0
   ·have hs' : ZM n rt ltR l (k + 1) = true := by rw [hs]; simp [hk0]
    generalize l[k]'(by omega) = x at *
    repeat' (first | (refine Zj ?_; first | (refine Zf ?_; refine qQ ?_) | refine Zn ?_) | refine Zb ?_ | (refine Zi ?_; refine Zv ?_) | (refine Zh ?_; refine Zu ?_) | intro _)
    refine ZD (Zs _ _ _) ZF ?_
    all_goals refine ZX 0 ?_
    all_goals (refine Zp (i := 1) ?_; ((try refine Zk ?_); (first | (refine Ze (.func 247) ?_; refine qC rfl rfl (Wu _ x) ?_; rintro v ρ' L' hle ⟨rfl, rfl, rfl⟩ <;> (try simp only [kM, kN, kO, hx])) | (refine Zn ?_; try intro _)) <;> ((try simp only [kM, kN, kO]); refine Zb ?_; refine Zl ?_)))
    all_goals (refine rUn 2 ?_; refine ZT 3 ?_; (first | refine Zc 4 ?_ | refine Za 4 ?_ | refine ZP 4 ?_); (first | refine Zc 5 ?_ | refine Za 5 ?_ | refine Yw 5 ?_); (first | refine Zc 6 ?_ | refine Za 6 ?_ | refine ZP 6 ?_); (first | refine Zc 7 ?_ | refine Za 7 ?_ | refine ZP 7 ?_); (first | refine Zc 8 ?_ | refine Za 8 ?_ | refine ZP 8 ?_); (first | refine Zc 9 ?_ | refine Za 9 ?_ | refine wSb 9 ?_); (first | refine Zc 10 ?_ | refine Za 10 ?_ | refine wIa 10 ?_); (first | refine Zc 11 ?_ | refine Za 11 ?_ | refine ZW 11 ?_); (first | refine Zc 12 ?_ | refine Za 12 ?_ | refine Yb 12 ?_); (first | refine Zc 14 ?_ | refine Za 14 ?_ | refine ZW 14 ?_); (first | refine Zc 15 ?_ | refine Za 15 ?_ | refine Yb 15 ?_))
    all_goals (first | refine Zc 13 ?_ | refine Za 13 ?_ | (refine Zp (i := 13) ?_; ((try refine Zk ?_); (first | (refine Zn ?_; try intro _)) <;> ((try simp only [kM, kN, kO]); refine Zb ?_; refine Zl ?_))))
    all_goals (first | refine Zc 16 ?_ | refine Za 16 ?_ | (refine Zp (i := 16) ?_; ((try refine Zk ?_); (first | (refine Zn ?_; try intro _)) <;> ((try simp only [kM, kN, kO]); refine Zb ?_; refine Zl ?_))))
    all_goals (refine ZO ?_; (first | refine Zc 17 ?_ | refine Za 17 ?_ | refine Yw 17 ?_); (first | refine Zc 18 ?_ | refine Za 18 ?_ | refine wPk 18 ?_); refine YA 19 ?_; refine ZI ?_)
    repeat' (first | (refine Zj ?_; first | (refine Zf ?_; refine qQ ?_) | refine Zn ?_) | refine Zb ?_ | (refine Zi ?_; refine Zv ?_) | (refine Zh ?_; refine Zu ?_) | intro _)
    refine Zq (k + 1) (⟨hlt, hs'⟩) Zm Zm rfl tk inferInstance (by first | omega | (dsimp only; omega))
   ·have hd : decide (k = 0) = false := decide_eq_false hk0
    rw [hd, Bool.false_or] at hs
    obtain ⟨b2, off2, C2, T2, fr2, f1, hb2, hfit2, hc2⟩ := h.get (show k - 1 < l.length by omega)
    cases f1
    rw [hb] at hb2
    cases hb2
    have ek : ((k : Int) - 1).toNat = k - 1 := by omega
    have hkey : List.take 2 (List.drop (off + ((k : Int) - 1).toNat * 4) C) = keyV (l[k - 1]'(by omega)).t (l[k - 1]'(by omega)).id := by
     rw [ek]
     have := congrArg (List.take 2) hc2
     rw [List.take_take] at this
     exact this
    have hfit3 : off + ((k : Int) - 1).toNat * 4 + 2 ≤ C.length := by rw [ek]; omega
    obtain ⟨g1, g2⟩ := WH hok (by omega)
    have hrp := (g2 (k - 1) (by omega) (by omega)).1
    have hrk1 : rt (k - 1) (l[k - 1]'(by omega)) = Xl (l[k - 1]'(by omega)) := by rw [← hrt]
    rw [hrk1] at hrp
    have hidp := hid _ (List.getElem_mem (show k - 1 < l.length by omega))
    clear hc2 hfit2 hrk hrk1
    generalize l[k]'(by omega) = x at *
    generalize l[k - 1]'(by omega) = y at *
    obtain ⟨y0, y3, _⟩ := rowOk_iff hrp
    obtain ⟨x0, x3, _⟩ := rowOk_iff hx
    have hor := order_lt (t1 := y.t) (t2 := x.t) hidp hidk
    unfold ltR at hs
    by_cases hcm : cmpK y.t y.id x.t x.id < 0
    ·rw [decide_eq_true hcm] at hs
     have hcm2 := hor.1 hcm
     repeat' (first | (refine Zj ?_; first | (refine Zf ?_; refine qQ ?_) | refine Zn ?_) | refine Zb ?_ | (refine Zi ?_; refine Zv ?_) | (refine Zh ?_; refine Zu ?_) | intro _)
     refine ZD (Zs _ _ _) ZF ?_
     all_goals refine ZX 0 ?_
     all_goals (refine Zp (i := 1) ?_; ((try refine Zk ?_); (first | (refine Ze (.func 247) ?_; refine qC rfl rfl (Wu _ x) ?_; rintro v ρ' L' hle ⟨rfl, rfl, rfl⟩ <;> (try simp only [kM, kN, kO, hx])) | (refine Zn ?_; try intro _)) <;> ((try simp only [kM, kN, kO]); refine Zb ?_; refine Zl ?_)))
     all_goals (refine rUn 2 ?_; refine ZT 3 ?_; (first | refine Zc 4 ?_ | refine Za 4 ?_ | refine ZP 4 ?_); (first | refine Zc 5 ?_ | refine Za 5 ?_ | refine Yw 5 ?_); (first | refine Zc 6 ?_ | refine Za 6 ?_ | refine ZP 6 ?_); (first | refine Zc 7 ?_ | refine Za 7 ?_ | refine ZP 7 ?_); (first | refine Zc 8 ?_ | refine Za 8 ?_ | refine ZP 8 ?_); (first | refine Zc 9 ?_ | refine Za 9 ?_ | refine wSb 9 ?_); (first | refine Zc 10 ?_ | refine Za 10 ?_ | refine wIa 10 ?_); (first | refine Zc 11 ?_ | refine Za 11 ?_ | refine ZW 11 ?_); (first | refine Zc 12 ?_ | refine Za 12 ?_ | refine Yb 12 ?_); (first | refine Zc 14 ?_ | refine Za 14 ?_ | refine ZW 14 ?_); (first | refine Zc 15 ?_ | refine Za 15 ?_ | refine Yb 15 ?_))
     all_goals (first | refine Zc 13 ?_ | refine Za 13 ?_ | (refine Zp (i := 13) ?_; ((try refine Zk ?_); (first | (refine Ze (.func 281) ?_; refine qC rfl rfl (YG _ y.t y.id y0 y3 hidp) ?_; rintro v ρ' L' hle ⟨rfl, rfl, rfl⟩ <;> (try simp only [kM, kN, kO])) | (refine Ze (.func 281) ?_; refine qC rfl rfl (YG _ x.t x.id x0 x3 hidk) ?_; rintro v ρ' L' hle ⟨rfl, rfl, rfl⟩ <;> (try simp only [kM, kN, kO])) | (refine Zn ?_; try intro _)) <;> ((try simp only [kM, kN, kO]); refine Zb ?_; refine Zl ?_))))
     all_goals (first | refine Zc 16 ?_ | refine Za 16 ?_ | (refine Zp (i := 16) ?_; ((try refine Zk ?_); (first | (refine Ze (.func 281) ?_; refine qC rfl rfl (YG _ y.t y.id y0 y3 hidp) ?_; rintro v ρ' L' hle ⟨rfl, rfl, rfl⟩ <;> (try simp only [kM, kN, kO])) | (refine Ze (.func 281) ?_; refine qC rfl rfl (YG _ x.t x.id x0 x3 hidk) ?_; rintro v ρ' L' hle ⟨rfl, rfl, rfl⟩ <;> (try simp only [kM, kN, kO])) | (refine Zn ?_; try intro _)) <;> ((try simp only [kM, kN, kO]); refine Zb ?_; refine Zl ?_))))
     all_goals (refine ZO ?_; (first | refine Zc 17 ?_ | refine Za 17 ?_ | refine Yw 17 ?_); (first | refine Zc 18 ?_ | refine Za 18 ?_ | refine wPk 18 ?_); refine YA 19 ?_; refine ZI ?_)
     all_goals (repeat' (first | (refine Zj ?_; first | (refine Zf ?_; refine qQ ?_) | refine Zn ?_) | refine Zb ?_ | (refine Zi ?_; refine Zv ?_) | (refine Zh ?_; refine Zu ?_) | intro _))
     all_goals refine Zq (k + 1) (⟨hlt, hs⟩) Zm Zm rfl tk inferInstance (by first | omega | (dsimp only; omega))
    ·rw [decide_eq_false hcm] at hs
     rw [hfin hs, Bool.and_false]
     have hcm2 : ¬ (y.t * 65536 + y.id < x.t * 65536 + x.id) := fun h => hcm (hor.2 h)
     repeat' (first | (refine Zj ?_; first | (refine Zf ?_; refine qQ ?_) | refine Zn ?_) | refine Zb ?_ | (refine Zi ?_; refine Zv ?_) | (refine Zh ?_; refine Zu ?_) | intro _)
     refine ZD (Zs _ _ _) ZF ?_
     all_goals refine ZX 0 ?_
     all_goals (refine Zp (i := 1) ?_; ((try refine Zk ?_); (first | (refine Ze (.func 247) ?_; refine qC rfl rfl (Wu _ x) ?_; rintro v ρ' L' hle ⟨rfl, rfl, rfl⟩ <;> (try simp only [kM, kN, kO, hx])) | (refine Zn ?_; try intro _)) <;> ((try simp only [kM, kN, kO]); refine Zb ?_; refine Zl ?_)))
     all_goals (refine rUn 2 ?_; refine ZT 3 ?_; (first | refine Zc 4 ?_ | refine Za 4 ?_ | refine ZP 4 ?_); (first | refine Zc 5 ?_ | refine Za 5 ?_ | refine Yw 5 ?_); (first | refine Zc 6 ?_ | refine Za 6 ?_ | refine ZP 6 ?_); (first | refine Zc 7 ?_ | refine Za 7 ?_ | refine ZP 7 ?_); (first | refine Zc 8 ?_ | refine Za 8 ?_ | refine ZP 8 ?_); (first | refine Zc 9 ?_ | refine Za 9 ?_ | refine wSb 9 ?_); (first | refine Zc 10 ?_ | refine Za 10 ?_ | refine wIa 10 ?_); (first | refine Zc 11 ?_ | refine Za 11 ?_ | refine ZW 11 ?_); (first | refine Zc 12 ?_ | refine Za 12 ?_ | refine Yb 12 ?_); (first | refine Zc 14 ?_ | refine Za 14 ?_ | refine ZW 14 ?_); (first | refine Zc 15 ?_ | refine Za 15 ?_ | refine Yb 15 ?_))
     all_goals (first | refine Zc 13 ?_ | refine Za 13 ?_ | (refine Zp (i := 13) ?_; ((try refine Zk ?_); (first | (refine Ze (.func 281) ?_; refine qC rfl rfl (YG _ y.t y.id y0 y3 hidp) ?_; rintro v ρ' L' hle ⟨rfl, rfl, rfl⟩ <;> (try simp only [kM, kN, kO])) | (refine Ze (.func 281) ?_; refine qC rfl rfl (YG _ x.t x.id x0 x3 hidk) ?_; rintro v ρ' L' hle ⟨rfl, rfl, rfl⟩ <;> (try simp only [kM, kN, kO])) | (refine Zn ?_; try intro _)) <;> ((try simp only [kM, kN, kO]); refine Zb ?_; refine Zl ?_))))
     all_goals (first | refine Zc 16 ?_ | refine Za 16 ?_ | (refine Zp (i := 16) ?_; ((try refine Zk ?_); (first | (refine Ze (.func 281) ?_; refine qC rfl rfl (YG _ y.t y.id y0 y3 hidp) ?_; rintro v ρ' L' hle ⟨rfl, rfl, rfl⟩ <;> (try simp only [kM, kN, kO])) | (refine Ze (.func 281) ?_; refine qC rfl rfl (YG _ x.t x.id x0 x3 hidk) ?_; rintro v ρ' L' hle ⟨rfl, rfl, rfl⟩ <;> (try simp only [kM, kN, kO])) | (refine Zn ?_; try intro _)) <;> ((try simp only [kM, kN, kO]); refine Zb ?_; refine Zl ?_))))
     all_goals (refine ZO ?_; (first | refine Zc 17 ?_ | refine Za 17 ?_ | refine Yw 17 ?_); (first | refine Zc 18 ?_ | refine Za 18 ?_ | refine wPk 18 ?_); refine YA 19 ?_; refine ZI ?_)
     all_goals (repeat' (first | (refine Zj ?_; first | (refine Zf ?_; refine qQ ?_) | refine Zn ?_) | refine Zb ?_ | (refine Zi ?_; refine Zv ?_) | (refine Zh ?_; refine Zu ?_) | intro _))
     all_goals exact qE ⟨rfl, rfl, rfl⟩
 ·have hk2 : k = n := by omega
  subst hk2
  rw [hok, Bool.and_true]
  by_cases h4 : k ≤ 4
  ·rw [decide_eq_true h4]
   repeat' (first | (refine Zj ?_; first | (refine Zf ?_; refine qQ ?_) | refine Zn ?_) | refine Zb ?_ | (refine Zi ?_; refine Zv ?_) | (refine Zh ?_; refine Zu ?_) | intro _)
   exact qE ⟨rfl, rfl, rfl⟩
  ·rw [decide_eq_false h4]
   repeat' (first | (refine Zj ?_; first | (refine Zf ?_; refine qQ ?_) | refine Zn ?_) | refine Zb ?_ | (refine Zi ?_; refine Zv ?_) | (refine Zh ?_; refine Zu ?_) | intro _)
   exact qE ⟨rfl, rfl, rfl⟩
end Go.Proofs.E
