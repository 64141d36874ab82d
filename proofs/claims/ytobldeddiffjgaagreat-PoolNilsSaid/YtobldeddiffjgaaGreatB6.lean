/- The law PoolNils. Part 6 of 18. -/
import Derived.Test.YtobldeddiffjgaaGreatB5
namespace Go.Proofs.E
open Go
set_option linter.unusedVariables false
set_option linter.unusedSimpArgs false
set_option linter.unusedSectionVars false
set_option maxRecDepth 4000
set_option maxHeartbeats 1000000
attribute [local irreducible] Yl TL TC TE Spec XZ R1 Hp.le EnvLe TS TR YS Zq
structure MetOk (es : List MapEntry) (ps : List Int) : Prop where
 keys : Ym .i64 es
 get : ∀ p, YG es p = if p ∈ ps then some (.bool true) else none
theorem MetOk.nil : MetOk [] [] := ⟨by intro e he; simp at he, fun p => by simp [YG]⟩
def kidOk (i : Nat) (ps : List Int) (k : Kid) : Bool := decide (k.page ∉ ps ∧ 0 < k.page ∧ k.page < 64 ∧ (0 ≤ k.t ∧ k.t < 3) ∧ (0 < i ∨ (k.t = 0 ∧ k.id = 0)))
theorem kidV_len (r : Kid) : (Wk r).length = 3 := rfl
theorem ZV (ρ : Hp) (r : Kid) : Spec Tryz.prog 227 [.agg ⟨Wk r⟩] ρ [] (fun v ρ' L' => v = .agg ⟨keyV r.t r.id⟩ ∧ ρ' = ρ ∧ L' = []) := by
 refine Ze Tryz.func227 rfl rfl rfl fun u R => ?_
 simp only [Zp, List.cons_append, List.nil_append]
 repeat' (first | (refine Zg ?_; first | (refine Zf ?_; refine qQ ?_) | refine Zj ?_) | refine Za ?_ | (refine Zh ?_; refine Zu ?_) | (refine Zi ?_; refine Zv ?_) | intro _)
 exact qE ⟨rfl, rfl, rfl⟩
abbrev metL (bx mb : Nat) (es : List MapEntry) (ck : Nat) : SH := [[(bx, .cells ⟨[.map (some mb)]⟩ 69 (0, 0))], [(mb, .map ⟨es⟩ ck)]]
theorem Xh (ρ : Hp) (bx mb : Nat) (es : List MapEntry) (ck : Nat) (ps : List Int) (hm : MetOk es ps) (i : Nat) (k : Kid) : Spec Tryz.prog 228 [.int .i64 i, .agg ⟨Wk k⟩, .pointer (some ⟨bx, 0, none⟩)] ρ (metL bx mb es ck)
  (fun v ρ' L' => v = .bool (kidOk i ps k) ∧ ρ' = ρ ∧ ∃ es' ck', MetOk es' (k.page :: ps) ∧ L' = metL bx mb es' ck') := by
 obtain ⟨t, id, page⟩ := k
 have hes := hm.keys
 have hg := hm.get page
 dsimp only at hg ⊢
 generalize hq : kidOk i ps ⟨t, id, page⟩ = q
 have hfin : ∀ es', Ym .i64 es' → (∀ j, YG es' j = if j = page then some (.bool true) else YG es j) → MetOk es' (page :: ps) := fun es' h1 h2 => ⟨h1, fun p => by
  rw [h2 p, hm.get p]
  by_cases e : p = page <;> simp [e]⟩
 refine Ze Tryz.func228 rfl rfl rfl fun u R => ?_
 simp only [Zp, List.cons_append, List.nil_append]
 by_cases hp : page ∈ ps
 ·rw [if_pos hp] at hg
  have hq' : q = false := by rw [← hq]; exact decide_eq_false (fun h => h.1 hp)
  subst hq'
  repeat' (first | (refine XT rfl rfl rfl hes (fun es' ck' h1 h2 => ?_)) | (refine Zg ?_; first | (refine Zf ?_; refine qQ ?_) | refine Zj ?_) | refine Za ?_ | (refine Zh ?_; refine Zu ?_) | (refine Zi ?_; refine Zv ?_) | intro _)
  exact qE ⟨rfl, rfl, es', ck', hfin es' h1 h2, rfl⟩
 ·rw [if_neg hp] at hg
  by_cases hp0 : 0 < page
  ·by_cases hp6 : page < 64
   ·by_cases ht : 0 ≤ t ∧ t < 3
    ·have hd : decide (0 ≤ t ∧ t < 3) = true := decide_eq_true ht
     by_cases hi : 0 < i
     ·have hq' : q = true := by rw [← hq]; exact decide_eq_true ⟨hp, hp0, hp6, ht, .inl hi⟩
      subst hq'
      repeat' (first | (refine XT rfl rfl rfl hes (fun es' ck' h1 h2 => ?_)) | (refine Zc (.func 229) ?_; refine qC rfl rfl (Wy _ _) ?_; rintro v ρ' L' hle ⟨rfl, rfl, rfl⟩ <;> (try simp only [kM, kN, kO, hd])) | (refine Zg ?_; first | (refine Zf ?_; refine qQ ?_) | refine Zj ?_) | refine Za ?_ | (refine Zh ?_; refine Zu ?_) | (refine Zi ?_; refine Zv ?_) | intro _)
      exact qE ⟨rfl, rfl, es', ck', hfin es' h1 h2, rfl⟩
     ·by_cases hz : t = 0 ∧ id = 0
      ·have hq' : q = true := by rw [← hq]; exact decide_eq_true ⟨hp, hp0, hp6, ht, .inr hz⟩
       subst hq'
       obtain ⟨rfl, rfl⟩ := hz
       repeat' (first | (refine XT rfl rfl rfl hes (fun es' ck' h1 h2 => ?_)) | (refine Zc (.func 229) ?_; refine qC rfl rfl (Wy _ _) ?_; rintro v ρ' L' hle ⟨rfl, rfl, rfl⟩ <;> (try simp only [kM, kN, kO, hd])) | (refine Zg ?_; first | (refine Zf ?_; refine qQ ?_) | refine Zj ?_) | refine Za ?_ | (refine Zh ?_; refine Zu ?_) | (refine Zi ?_; refine Zv ?_) | intro _)
       exact qE ⟨rfl, rfl, es', ck', hfin es' h1 h2, rfl⟩
      ·have hq' : q = false := by rw [← hq]; exact decide_eq_false (fun h => h.2.2.2.2.elim hi hz)
       subst hq'
       have hk : ((t == 0) && (((id : Int) == 0) && true)) = false := by
        simp; intro h; exact fun h' => hz ⟨h, by omega⟩
       repeat' (first | (refine XT rfl rfl rfl hes (fun es' ck' h1 h2 => ?_)) | (refine Zc (.func 229) ?_; refine qC rfl rfl (Wy _ _) ?_; rintro v ρ' L' hle ⟨rfl, rfl, rfl⟩ <;> (try simp only [kM, kN, kO, hd])) | (refine Zg ?_; first | (refine Zf ?_; refine qQ ?_) | refine Zj ?_) | refine Za ?_ | (refine Zh ?_; refine Zu ?_) | (refine Zi ?_; refine Zv ?_) | intro _)
       exact qE ⟨by first | rfl | exact congrArg Value.bool hk, rfl, es', ck', hfin es' h1 h2, rfl⟩
    ·have hd : decide (0 ≤ t ∧ t < 3) = false := decide_eq_false ht
     have hq' : q = false := by rw [← hq]; exact decide_eq_false (fun h => ht h.2.2.2.1)
     subst hq'
     repeat' (first | (refine XT rfl rfl rfl hes (fun es' ck' h1 h2 => ?_)) | (refine Zc (.func 229) ?_; refine qC rfl rfl (Wy _ _) ?_; rintro v ρ' L' hle ⟨rfl, rfl, rfl⟩ <;> (try simp only [kM, kN, kO, hd])) | (refine Zg ?_; first | (refine Zf ?_; refine qQ ?_) | refine Zj ?_) | refine Za ?_ | (refine Zh ?_; refine Zu ?_) | (refine Zi ?_; refine Zv ?_) | intro _)
     exact qE ⟨rfl, rfl, es', ck', hfin es' h1 h2, rfl⟩
   ·have hq' : q = false := by rw [← hq]; exact decide_eq_false (fun h => hp6 h.2.2.1)
    subst hq'
    repeat' (first | (refine XT rfl rfl rfl hes (fun es' ck' h1 h2 => ?_)) | (refine Zg ?_; first | (refine Zf ?_; refine qQ ?_) | refine Zj ?_) | refine Za ?_ | (refine Zh ?_; refine Zu ?_) | (refine Zi ?_; refine Zv ?_) | intro _)
    exact qE ⟨rfl, rfl, es', ck', hfin es' h1 h2, rfl⟩
  ·have hq' : q = false := by rw [← hq]; exact decide_eq_false (fun h => hp0 h.2.1)
   subst hq'
   repeat' (first | (refine XT rfl rfl rfl hes (fun es' ck' h1 h2 => ?_)) | (refine Zg ?_; first | (refine Zf ?_; refine qQ ?_) | refine Zj ?_) | refine Za ?_ | (refine Zh ?_; refine Zu ?_) | (refine Zi ?_; refine Zv ?_) | intro _)
   exact qE ⟨rfl, rfl, es', ck', hfin es' h1 h2, rfl⟩
def psTo (l : List Kid) (k : Nat) : List Int := ((l.take k).map Kid.page).reverse
theorem psTo_succ {l : List Kid} {k : Nat} (h : k < l.length) : psTo l (k + 1) = l[k].page :: psTo l k := by
 unfold psTo; rw [List.take_succ_eq_append_getElem h, List.map_append, List.reverse_append]; rfl
def ltK (y x : Kid) : Bool := decide (cmpK y.t y.id x.t x.id < 0)
def kidsOk (l : List Kid) : Bool := Yh 4 (fun i k => kidOk i (psTo l i) k) ltK l l.length
theorem risesKid_spec (ρ : Hp) (a : Option Addr) (n c : Nat) (l : List Kid) (h : AIn ρ 3 Wk a n l) (hn : n ≤ 1000000) (bx mb ck0 : Nat) :
  Spec Tryz.prog 226 [.slice a n c, .int .i64 4, .func (.func 227) ⟨[]⟩ ⟨[]⟩, .func (.func 228) ⟨[]⟩ ⟨[.pointer (some ⟨bx, 0, none⟩)]⟩] ρ (metL bx mb [] ck0) (fun v ρ' L' => v = .bool (kidsOk l) ∧ ρ' = ρ ∧ L' = []) := by
 have hl := h.len
 unfold kidsOk
 rw [hl]
 refine Ze Tryz.func226 rfl rfl rfl fun u R => ?_
 simp only [Zp, List.cons_append, List.nil_append]
 generalize hr : (fun (i : Nat) (k : Kid) => kidOk i (psTo l i) k) = rt
 repeat' (first | (refine Zg ?_; first | (refine Zf ?_; refine qQ ?_) | refine Zj ?_) | refine Za ?_ | (refine Zh ?_; refine Zu ?_) | (refine Zi ?_; refine Zv ?_) | intro _)
 have e0 : decide ((n : Int) ≤ 4) = Yh 4 rt ltK l 0 := by
  rw [Yh]; simp [hl]; omega
 rw [e0]
 refine ZK [(0, _), (2, _), (3, _), (8, _), (16, _), (17, _)] (fun (ζ : (Nat) × (List MapEntry) × (Nat)) => [(18, .int .i64 ζ.1), (9, .bool (Yh 4 rt ltK l ζ.1))]) (fun (ζ : (Nat) × (List MapEntry) × (Nat)) => ρ) (fun (ζ : (Nat) × (List MapEntry) × (Nat)) => metL bx mb ζ.2.1 ζ.2.2) (fun (ζ : (Nat) × (List MapEntry) × (Nat)) => ζ.1 ≤ n ∧ MetOk ζ.2.1 (psTo l ζ.1)) (fun (ζ : (Nat) × (List MapEntry) × (Nat)) => n - ζ.1) ((0, [], ck0)) (⟨Nat.zero_le _, MetOk.nil⟩) Zw Zw rfl tk ?_
 rintro ⟨k, es, ck⟩ hI
 try simp only [List.cons_append, List.nil_append, List.append_assoc, List.append_eq] at hI ⊢
 try dsimp only at hI ⊢
 obtain ⟨hI, hm⟩ := hI
 by_cases hlt : k < n
 ·obtain ⟨b, off, C, T, fr, rfl, hb, hfit, hc⟩ := h.get (show k < l.length by omega)
  have hs := Ve (most := 4) (right := rt) (lt := ltK) (show k < l.length by omega)
  have hfin := fun (e : Yh 4 rt ltK l (k + 1) = false) => WL e (show k + 1 ≤ n by omega)
  have hps := psTo_succ (show k < l.length by omega)
  have hrk : rt k l[k] = kidOk k (psTo l k) l[k] := by rw [← hr]
  cases hok : Yh 4 rt ltK l k
  ·rw [hok, Bool.false_and] at hs
   rw [hfin hs]
   generalize l[k] = x at *
   repeat' (first | (refine Zg ?_; first | (refine Zf ?_; refine qQ ?_) | refine Zj ?_) | refine Za ?_ | (refine Zh ?_; refine Zu ?_) | (refine Zi ?_; refine Zv ?_) | intro _)
   rename_i b11
   refine Zz (Zq _ _ ([[(b11, .cells ⟨Wk x⟩ 149 (0, 0))]])) (Zx (hT := tk) (Hp.le_refl _)) ?_
   all_goals (refine ZU 0 ?_; refine ZU 1 ?_; (first | refine Zd 2 ?_ | refine Zb 2 ?_ | refine Yf 2 ?_); (first | refine Zd 3 ?_ | refine Zb 3 ?_ | refine Yf 3 ?_); (first | refine Zd 4 ?_ | refine Zb 4 ?_ | refine wLd 4 ?_))
   all_goals (first | refine Zd 5 ?_ | refine Zb 5 ?_ | (refine Zm (i := 5) ?_; ((try refine Zk ?_); (first | (refine Zj ?_; try intro _)) <;> ((try simp only [kM, kN, kO]); refine Za ?_; refine Zl ?_))))
   all_goals (refine rPk 6 ?_; refine ZU 7 ?_; (first | refine Zd 8 ?_ | refine Zb 8 ?_ | refine Yf 8 ?_); (first | refine Zd 9 ?_ | refine Zb 9 ?_ | refine wCm 9 ?_); (first | refine Zd 10 ?_ | refine Zb 10 ?_ | refine Yf 10 ?_); (first | refine Zd 11 ?_ | refine Zb 11 ?_ | refine Yf 11 ?_); (first | refine Zd 12 ?_ | refine Zb 12 ?_ | refine Yf 12 ?_); (first | refine Zd 13 ?_ | refine Zb 13 ?_ | refine Yf 13 ?_); (first | refine Zd 14 ?_ | refine Zb 14 ?_ | refine wSb 14 ?_); (first | refine Zd 15 ?_ | refine Zb 15 ?_ | refine wIa 15 ?_); (first | refine Zd 16 ?_ | refine Zb 16 ?_ | refine wLd 16 ?_); (first | refine Zd 18 ?_ | refine Zb 18 ?_ | refine Yf 18 ?_); (first | refine Zd 19 ?_ | refine Zb 19 ?_ | refine wLd 19 ?_))
   all_goals (first | refine Zd 17 ?_ | refine Zb 17 ?_ | (refine Zm (i := 17) ?_; ((try refine Zk ?_); (first | (refine Zj ?_; try intro _)) <;> ((try simp only [kM, kN, kO]); refine Za ?_; refine Zl ?_))))
   all_goals (first | refine Zd 20 ?_ | refine Zb 20 ?_ | (refine Zm (i := 20) ?_; ((try refine Zk ?_); (first | (refine Zj ?_; try intro _)) <;> ((try simp only [kM, kN, kO]); refine Za ?_; refine Zl ?_))))
   all_goals (first | refine Zd 21 ?_ | refine Zb 21 ?_ | (refine Zm (i := 21) ?_; ((try refine Zk ?_); (first | (refine Zj ?_; try intro _)) <;> ((try simp only [kM, kN, kO]); refine Za ?_; refine Zl ?_))))
   all_goals (refine ZP ?_; (first | refine Zd 22 ?_ | refine Zb 22 ?_ | refine wCm 22 ?_); (first | refine Zd 23 ?_ | refine Zb 23 ?_ | refine wPk 23 ?_); refine rPk 24 ?_; refine rAs 25 ?_; refine ZI ?_)
   repeat' (first | (refine Zg ?_; first | (refine Zf ?_; refine qQ ?_) | refine Zj ?_) | refine Za ?_ | (refine Zh ?_; refine Zu ?_) | (refine Zi ?_; refine Zv ?_) | intro _)
   exact qE ⟨rfl, rfl, rfl⟩
  ·rw [hok, Bool.true_and, hrk] at hs
   cases hx : kidOk k (psTo l k) l[k]
   ·rw [hx, Bool.false_and] at hs
    rw [hfin hs]
    generalize l[k] = x at *
    repeat' (first | (refine Zg ?_; first | (refine Zf ?_; refine qQ ?_) | refine Zj ?_) | refine Za ?_ | (refine Zh ?_; refine Zu ?_) | (refine Zi ?_; refine Zv ?_) | intro _)
    rename_i b11
    refine Zz (Zq _ _ ([[(b11, .cells ⟨Wk x⟩ 149 (0, 0))]])) (Zx (hT := tk) (Hp.le_refl _)) ?_
    all_goals (refine ZU 0 ?_; refine ZU 1 ?_; (first | refine Zd 2 ?_ | refine Zb 2 ?_ | refine Yf 2 ?_); (first | refine Zd 3 ?_ | refine Zb 3 ?_ | refine Yf 3 ?_); (first | refine Zd 4 ?_ | refine Zb 4 ?_ | refine wLd 4 ?_))
    all_goals (first | refine Zd 5 ?_ | refine Zb 5 ?_ | (refine Zm (i := 5) ?_; ((try refine Zk ?_); (first | (refine Zc (.tmp 25) ?_; refine qC rfl rfl (Xh _ bx mb es ck _ hm k x) ?_; rintro v ρ' L' hle ⟨rfl, rfl, es', ck', hm', rfl⟩ <;> (try simp only [kM, kN, kO, hx])) | (refine Zc (.tmp 34) ?_; refine qC rfl rfl (ZV _ _) ?_; rintro v ρ' L' hle ⟨rfl, rfl, rfl⟩ <;> (try simp only [kM, kN, kO])) | (refine Zc (.tmp 41) ?_; refine qC rfl rfl (ZV _ _) ?_; rintro v ρ' L' hle ⟨rfl, rfl, rfl⟩ <;> (try simp only [kM, kN, kO])) | (refine Zj ?_; try intro _)) <;> ((try simp only [kM, kN, kO]); refine Za ?_; refine Zl ?_))))
    all_goals (refine rPk 6 ?_; refine ZU 7 ?_; (first | refine Zd 8 ?_ | refine Zb 8 ?_ | refine Yf 8 ?_); (first | refine Zd 9 ?_ | refine Zb 9 ?_ | refine wCm 9 ?_); (first | refine Zd 10 ?_ | refine Zb 10 ?_ | refine Yf 10 ?_); (first | refine Zd 11 ?_ | refine Zb 11 ?_ | refine Yf 11 ?_); (first | refine Zd 12 ?_ | refine Zb 12 ?_ | refine Yf 12 ?_); (first | refine Zd 13 ?_ | refine Zb 13 ?_ | refine Yf 13 ?_); (first | refine Zd 14 ?_ | refine Zb 14 ?_ | refine wSb 14 ?_); (first | refine Zd 15 ?_ | refine Zb 15 ?_ | refine wIa 15 ?_); (first | refine Zd 16 ?_ | refine Zb 16 ?_ | refine wLd 16 ?_); (first | refine Zd 18 ?_ | refine Zb 18 ?_ | refine Yf 18 ?_); (first | refine Zd 19 ?_ | refine Zb 19 ?_ | refine wLd 19 ?_))
    all_goals (first | refine Zd 17 ?_ | refine Zb 17 ?_ | (refine Zm (i := 17) ?_; ((try refine Zk ?_); (first | (refine Zc (.tmp 25) ?_; refine qC rfl rfl (Xh _ bx mb es ck _ hm k x) ?_; rintro v ρ' L' hle ⟨rfl, rfl, es', ck', hm', rfl⟩ <;> (try simp only [kM, kN, kO, hx])) | (refine Zc (.tmp 34) ?_; refine qC rfl rfl (ZV _ _) ?_; rintro v ρ' L' hle ⟨rfl, rfl, rfl⟩ <;> (try simp only [kM, kN, kO])) | (refine Zc (.tmp 41) ?_; refine qC rfl rfl (ZV _ _) ?_; rintro v ρ' L' hle ⟨rfl, rfl, rfl⟩ <;> (try simp only [kM, kN, kO])) | (refine Zj ?_; try intro _)) <;> ((try simp only [kM, kN, kO]); refine Za ?_; refine Zl ?_))))
    all_goals (first | refine Zd 20 ?_ | refine Zb 20 ?_ | (refine Zm (i := 20) ?_; ((try refine Zk ?_); (first | (refine Zc (.tmp 25) ?_; refine qC rfl rfl (Xh _ bx mb es ck _ hm k x) ?_; rintro v ρ' L' hle ⟨rfl, rfl, es', ck', hm', rfl⟩ <;> (try simp only [kM, kN, kO, hx])) | (refine Zc (.tmp 34) ?_; refine qC rfl rfl (ZV _ _) ?_; rintro v ρ' L' hle ⟨rfl, rfl, rfl⟩ <;> (try simp only [kM, kN, kO])) | (refine Zc (.tmp 41) ?_; refine qC rfl rfl (ZV _ _) ?_; rintro v ρ' L' hle ⟨rfl, rfl, rfl⟩ <;> (try simp only [kM, kN, kO])) | (refine Zj ?_; try intro _)) <;> ((try simp only [kM, kN, kO]); refine Za ?_; refine Zl ?_))))
    all_goals (first | refine Zd 21 ?_ | refine Zb 21 ?_ | (refine Zm (i := 21) ?_; ((try refine Zk ?_); (first | (refine Zc (.func 252) ?_; refine qC rfl rfl (XO _ _ _ _ _) ?_; rintro v ρ' L' hle ⟨rfl, rfl, rfl⟩ <;> (try simp only [kM, kN, kO])) | (refine Zj ?_; try intro _)) <;> ((try simp only [kM, kN, kO]); refine Za ?_; refine Zl ?_))))
    all_goals (refine ZP ?_; (first | refine Zd 22 ?_ | refine Zb 22 ?_ | refine wCm 22 ?_); (first | refine Zd 23 ?_ | refine Zb 23 ?_ | refine wPk 23 ?_); refine rPk 24 ?_; refine rAs 25 ?_; refine ZI ?_)
    repeat' (first | (refine Zg ?_; first | (refine Zf ?_; refine qQ ?_) | refine Zj ?_) | refine Za ?_ | (refine Zh ?_; refine Zu ?_) | (refine Zi ?_; refine Zv ?_) | intro _)
    exact qE ⟨rfl, rfl, rfl⟩
   ·rw [hx, Bool.true_and] at hs
    by_cases hk0 : k = 0
    ·have hs' : Yh 4 rt ltK l (k + 1) = true := by rw [hs]; simp [hk0]
     generalize l[k] = x at *
     repeat' (first | (refine Zg ?_; first | (refine Zf ?_; refine qQ ?_) | refine Zj ?_) | refine Za ?_ | (refine Zh ?_; refine Zu ?_) | (refine Zi ?_; refine Zv ?_) | intro _)
     rename_i b11
     refine Zz (Zq _ _ ([[(b11, .cells ⟨Wk x⟩ 149 (0, 0))]])) (Zx (hT := tk) (Hp.le_refl _)) ?_
     all_goals (refine ZU 0 ?_; refine ZU 1 ?_; (first | refine Zd 2 ?_ | refine Zb 2 ?_ | refine Yf 2 ?_); (first | refine Zd 3 ?_ | refine Zb 3 ?_ | refine Yf 3 ?_); (first | refine Zd 4 ?_ | refine Zb 4 ?_ | refine wLd 4 ?_))
     all_goals (first | refine Zd 5 ?_ | refine Zb 5 ?_ | (refine Zm (i := 5) ?_; ((try refine Zk ?_); (first | (refine Zc (.tmp 25) ?_; refine qC rfl rfl (Xh _ bx mb es ck _ hm k x) ?_; rintro v ρ' L' hle ⟨rfl, rfl, es', ck', hm', rfl⟩ <;> (try simp only [kM, kN, kO, hx])) | (refine Zc (.tmp 34) ?_; refine qC rfl rfl (ZV _ _) ?_; rintro v ρ' L' hle ⟨rfl, rfl, rfl⟩ <;> (try simp only [kM, kN, kO])) | (refine Zc (.tmp 41) ?_; refine qC rfl rfl (ZV _ _) ?_; rintro v ρ' L' hle ⟨rfl, rfl, rfl⟩ <;> (try simp only [kM, kN, kO])) | (refine Zj ?_; try intro _)) <;> ((try simp only [kM, kN, kO]); refine Za ?_; refine Zl ?_))))
     all_goals (refine rPk 6 ?_; refine ZU 7 ?_; (first | refine Zd 8 ?_ | refine Zb 8 ?_ | refine Yf 8 ?_); (first | refine Zd 9 ?_ | refine Zb 9 ?_ | refine wCm 9 ?_); (first | refine Zd 10 ?_ | refine Zb 10 ?_ | refine Yf 10 ?_); (first | refine Zd 11 ?_ | refine Zb 11 ?_ | refine Yf 11 ?_); (first | refine Zd 12 ?_ | refine Zb 12 ?_ | refine Yf 12 ?_); (first | refine Zd 13 ?_ | refine Zb 13 ?_ | refine Yf 13 ?_); (first | refine Zd 14 ?_ | refine Zb 14 ?_ | refine wSb 14 ?_); (first | refine Zd 15 ?_ | refine Zb 15 ?_ | refine wIa 15 ?_); (first | refine Zd 16 ?_ | refine Zb 16 ?_ | refine wLd 16 ?_); (first | refine Zd 18 ?_ | refine Zb 18 ?_ | refine Yf 18 ?_); (first | refine Zd 19 ?_ | refine Zb 19 ?_ | refine wLd 19 ?_))
     all_goals (first | refine Zd 17 ?_ | refine Zb 17 ?_ | (refine Zm (i := 17) ?_; ((try refine Zk ?_); (first | (refine Zc (.tmp 25) ?_; refine qC rfl rfl (Xh _ bx mb es ck _ hm k x) ?_; rintro v ρ' L' hle ⟨rfl, rfl, es', ck', hm', rfl⟩ <;> (try simp only [kM, kN, kO, hx])) | (refine Zc (.tmp 34) ?_; refine qC rfl rfl (ZV _ _) ?_; rintro v ρ' L' hle ⟨rfl, rfl, rfl⟩ <;> (try simp only [kM, kN, kO])) | (refine Zc (.tmp 41) ?_; refine qC rfl rfl (ZV _ _) ?_; rintro v ρ' L' hle ⟨rfl, rfl, rfl⟩ <;> (try simp only [kM, kN, kO])) | (refine Zj ?_; try intro _)) <;> ((try simp only [kM, kN, kO]); refine Za ?_; refine Zl ?_))))
     all_goals (first | refine Zd 20 ?_ | refine Zb 20 ?_ | (refine Zm (i := 20) ?_; ((try refine Zk ?_); (first | (refine Zc (.tmp 25) ?_; refine qC rfl rfl (Xh _ bx mb es ck _ hm k x) ?_; rintro v ρ' L' hle ⟨rfl, rfl, es', ck', hm', rfl⟩ <;> (try simp only [kM, kN, kO, hx])) | (refine Zc (.tmp 34) ?_; refine qC rfl rfl (ZV _ _) ?_; rintro v ρ' L' hle ⟨rfl, rfl, rfl⟩ <;> (try simp only [kM, kN, kO])) | (refine Zc (.tmp 41) ?_; refine qC rfl rfl (ZV _ _) ?_; rintro v ρ' L' hle ⟨rfl, rfl, rfl⟩ <;> (try simp only [kM, kN, kO])) | (refine Zj ?_; try intro _)) <;> ((try simp only [kM, kN, kO]); refine Za ?_; refine Zl ?_))))
     all_goals (first | refine Zd 21 ?_ | refine Zb 21 ?_ | (refine Zm (i := 21) ?_; ((try refine Zk ?_); (first | (refine Zc (.func 252) ?_; refine qC rfl rfl (XO _ _ _ _ _) ?_; rintro v ρ' L' hle ⟨rfl, rfl, rfl⟩ <;> (try simp only [kM, kN, kO])) | (refine Zj ?_; try intro _)) <;> ((try simp only [kM, kN, kO]); refine Za ?_; refine Zl ?_))))
     all_goals (refine ZP ?_; (first | refine Zd 22 ?_ | refine Zb 22 ?_ | refine wCm 22 ?_); (first | refine Zd 23 ?_ | refine Zb 23 ?_ | refine wPk 23 ?_); refine rPk 24 ?_; refine rAs 25 ?_; refine ZI ?_)
     repeat' (first | (refine Zg ?_; first | (refine Zf ?_; refine qQ ?_) | refine Zj ?_) | refine Za ?_ | (refine Zh ?_; refine Zu ?_) | (refine Zi ?_; refine Zv ?_) | intro _)
     rw [← hs']
     refine Zy (k + 1, es', ck') (⟨hlt, by dsimp only; rw [hps]; exact hm'⟩) Zw Zw rfl tk inferInstance (by first | omega | (dsimp only; omega))
    ·have hd : decide (k = 0) = false := decide_eq_false hk0
     obtain ⟨b2, off2, C2, T2, fr2, f1, hb2, hfit2, hc2⟩ := h.get (show k - 1 < l.length by omega)
     cases f1
     rw [hb] at hb2
     cases hb2
     have ek : ((k : Int) - 1).toNat = k - 1 := by omega
     rw [← ek] at hfit2
     have hc3 : List.take 3 (List.drop (off + ((k : Int) - 1).toNat * 3) C) = Wk (l[k - 1]'(by omega)) := by rw [ek]; exact hc2
     clear hc2
     rw [hd, Bool.false_or] at hs
     generalize l[k] = x at *
     generalize l[k - 1]'(by omega) = y at *
     unfold ltK at hs
     by_cases hcm : cmpK y.t y.id x.t x.id < 0
     ·rw [decide_eq_true hcm] at hs
      repeat' (first | (refine Zg ?_; first | (refine Zf ?_; refine qQ ?_) | refine Zj ?_) | refine Za ?_ | (refine Zh ?_; refine Zu ?_) | (refine Zi ?_; refine Zv ?_) | intro _)
      rename_i b11
      refine Zz (Zq _ _ ([[(b11, .cells ⟨Wk x⟩ 149 (0, 0))]])) (Zx (hT := tk) (Hp.le_refl _)) ?_
      all_goals (refine ZU 0 ?_; refine ZU 1 ?_; (first | refine Zd 2 ?_ | refine Zb 2 ?_ | refine Yf 2 ?_); (first | refine Zd 3 ?_ | refine Zb 3 ?_ | refine Yf 3 ?_); (first | refine Zd 4 ?_ | refine Zb 4 ?_ | refine wLd 4 ?_))
      all_goals (first | refine Zd 5 ?_ | refine Zb 5 ?_ | (refine Zm (i := 5) ?_; ((try refine Zk ?_); (first | (refine Zc (.tmp 25) ?_; refine qC rfl rfl (Xh _ bx mb es ck _ hm k x) ?_; rintro v ρ' L' hle ⟨rfl, rfl, es', ck', hm', rfl⟩ <;> (try simp only [kM, kN, kO, hx])) | (refine Zc (.tmp 34) ?_; refine qC rfl rfl (ZV _ _) ?_; rintro v ρ' L' hle ⟨rfl, rfl, rfl⟩ <;> (try simp only [kM, kN, kO])) | (refine Zc (.tmp 41) ?_; refine qC rfl rfl (ZV _ _) ?_; rintro v ρ' L' hle ⟨rfl, rfl, rfl⟩ <;> (try simp only [kM, kN, kO])) | (refine Zj ?_; try intro _)) <;> ((try simp only [kM, kN, kO]); refine Za ?_; refine Zl ?_))))
      all_goals (refine rPk 6 ?_; refine ZU 7 ?_; (first | refine Zd 8 ?_ | refine Zb 8 ?_ | refine Yf 8 ?_); (first | refine Zd 9 ?_ | refine Zb 9 ?_ | refine wCm 9 ?_); (first | refine Zd 10 ?_ | refine Zb 10 ?_ | refine Yf 10 ?_); (first | refine Zd 11 ?_ | refine Zb 11 ?_ | refine Yf 11 ?_); (first | refine Zd 12 ?_ | refine Zb 12 ?_ | refine Yf 12 ?_); (first | refine Zd 13 ?_ | refine Zb 13 ?_ | refine Yf 13 ?_); (first | refine Zd 14 ?_ | refine Zb 14 ?_ | refine wSb 14 ?_); (first | refine Zd 15 ?_ | refine Zb 15 ?_ | refine wIa 15 ?_); (first | refine Zd 16 ?_ | refine Zb 16 ?_ | refine wLd 16 ?_); (first | refine Zd 18 ?_ | refine Zb 18 ?_ | refine Yf 18 ?_); (first | refine Zd 19 ?_ | refine Zb 19 ?_ | refine wLd 19 ?_))
      all_goals (first | refine Zd 17 ?_ | refine Zb 17 ?_ | (refine Zm (i := 17) ?_; ((try refine Zk ?_); (first | (refine Zc (.tmp 25) ?_; refine qC rfl rfl (Xh _ bx mb es ck _ hm k x) ?_; rintro v ρ' L' hle ⟨rfl, rfl, es', ck', hm', rfl⟩ <;> (try simp only [kM, kN, kO, hx])) | (refine Zc (.tmp 34) ?_; refine qC rfl rfl (ZV _ _) ?_; rintro v ρ' L' hle ⟨rfl, rfl, rfl⟩ <;> (try simp only [kM, kN, kO])) | (refine Zc (.tmp 41) ?_; refine qC rfl rfl (ZV _ _) ?_; rintro v ρ' L' hle ⟨rfl, rfl, rfl⟩ <;> (try simp only [kM, kN, kO])) | (refine Zj ?_; try intro _)) <;> ((try simp only [kM, kN, kO]); refine Za ?_; refine Zl ?_))))
      all_goals (first | refine Zd 20 ?_ | refine Zb 20 ?_ | (refine Zm (i := 20) ?_; ((try refine Zk ?_); (first | (refine Zc (.tmp 25) ?_; refine qC rfl rfl (Xh _ bx mb es ck _ hm k x) ?_; rintro v ρ' L' hle ⟨rfl, rfl, es', ck', hm', rfl⟩ <;> (try simp only [kM, kN, kO, hx])) | (refine Zc (.tmp 34) ?_; refine qC rfl rfl (ZV _ _) ?_; rintro v ρ' L' hle ⟨rfl, rfl, rfl⟩ <;> (try simp only [kM, kN, kO])) | (refine Zc (.tmp 41) ?_; refine qC rfl rfl (ZV _ _) ?_; rintro v ρ' L' hle ⟨rfl, rfl, rfl⟩ <;> (try simp only [kM, kN, kO])) | (refine Zj ?_; try intro _)) <;> ((try simp only [kM, kN, kO]); refine Za ?_; refine Zl ?_))))
      all_goals (first | refine Zd 21 ?_ | refine Zb 21 ?_ | (refine Zm (i := 21) ?_; ((try refine Zk ?_); (first | (refine Zc (.func 252) ?_; refine qC rfl rfl (XO _ _ _ _ _) ?_; rintro v ρ' L' hle ⟨rfl, rfl, rfl⟩ <;> (try simp only [kM, kN, kO])) | (refine Zj ?_; try intro _)) <;> ((try simp only [kM, kN, kO]); refine Za ?_; refine Zl ?_))))
      all_goals (refine ZP ?_; (first | refine Zd 22 ?_ | refine Zb 22 ?_ | refine wCm 22 ?_); (first | refine Zd 23 ?_ | refine Zb 23 ?_ | refine wPk 23 ?_); refine rPk 24 ?_; refine rAs 25 ?_; refine ZI ?_)
      all_goals (repeat' (first | (refine Zg ?_; first | (refine Zf ?_; refine qQ ?_) | refine Zj ?_) | refine Za ?_ | (refine Zh ?_; refine Zu ?_) | (refine Zi ?_; refine Zv ?_) | intro _))
      all_goals rw [← show Yh 4 rt ltK l (k + 1) = true from hs]
      all_goals refine Zy (k + 1, es', ck') (⟨hlt, by dsimp only; rw [hps]; exact hm'⟩) Zw Zw rfl tk inferInstance (by first | omega | (dsimp only; omega))
     ·rw [decide_eq_false hcm] at hs
      rw [hfin hs]
      repeat' (first | (refine Zg ?_; first | (refine Zf ?_; refine qQ ?_) | refine Zj ?_) | refine Za ?_ | (refine Zh ?_; refine Zu ?_) | (refine Zi ?_; refine Zv ?_) | intro _)
      rename_i b11
      refine Zz (Zq _ _ ([[(b11, .cells ⟨Wk x⟩ 149 (0, 0))]])) (Zx (hT := tk) (Hp.le_refl _)) ?_
      all_goals (refine ZU 0 ?_; refine ZU 1 ?_; (first | refine Zd 2 ?_ | refine Zb 2 ?_ | refine Yf 2 ?_); (first | refine Zd 3 ?_ | refine Zb 3 ?_ | refine Yf 3 ?_); (first | refine Zd 4 ?_ | refine Zb 4 ?_ | refine wLd 4 ?_))
      all_goals (first | refine Zd 5 ?_ | refine Zb 5 ?_ | (refine Zm (i := 5) ?_; ((try refine Zk ?_); (first | (refine Zc (.tmp 25) ?_; refine qC rfl rfl (Xh _ bx mb es ck _ hm k x) ?_; rintro v ρ' L' hle ⟨rfl, rfl, es', ck', hm', rfl⟩ <;> (try simp only [kM, kN, kO, hx])) | (refine Zc (.tmp 34) ?_; refine qC rfl rfl (ZV _ _) ?_; rintro v ρ' L' hle ⟨rfl, rfl, rfl⟩ <;> (try simp only [kM, kN, kO])) | (refine Zc (.tmp 41) ?_; refine qC rfl rfl (ZV _ _) ?_; rintro v ρ' L' hle ⟨rfl, rfl, rfl⟩ <;> (try simp only [kM, kN, kO])) | (refine Zj ?_; try intro _)) <;> ((try simp only [kM, kN, kO]); refine Za ?_; refine Zl ?_))))
      all_goals (refine rPk 6 ?_; refine ZU 7 ?_; (first | refine Zd 8 ?_ | refine Zb 8 ?_ | refine Yf 8 ?_); (first | refine Zd 9 ?_ | refine Zb 9 ?_ | refine wCm 9 ?_); (first | refine Zd 10 ?_ | refine Zb 10 ?_ | refine Yf 10 ?_); (first | refine Zd 11 ?_ | refine Zb 11 ?_ | refine Yf 11 ?_); (first | refine Zd 12 ?_ | refine Zb 12 ?_ | refine Yf 12 ?_); (first | refine Zd 13 ?_ | refine Zb 13 ?_ | refine Yf 13 ?_); (first | refine Zd 14 ?_ | refine Zb 14 ?_ | refine wSb 14 ?_); (first | refine Zd 15 ?_ | refine Zb 15 ?_ | refine wIa 15 ?_); (first | refine Zd 16 ?_ | refine Zb 16 ?_ | refine wLd 16 ?_); (first | refine Zd 18 ?_ | refine Zb 18 ?_ | refine Yf 18 ?_); (first | refine Zd 19 ?_ | refine Zb 19 ?_ | refine wLd 19 ?_))
      all_goals (first | refine Zd 17 ?_ | refine Zb 17 ?_ | (refine Zm (i := 17) ?_; ((try refine Zk ?_); (first | (refine Zc (.tmp 25) ?_; refine qC rfl rfl (Xh _ bx mb es ck _ hm k x) ?_; rintro v ρ' L' hle ⟨rfl, rfl, es', ck', hm', rfl⟩ <;> (try simp only [kM, kN, kO, hx])) | (refine Zc (.tmp 34) ?_; refine qC rfl rfl (ZV _ _) ?_; rintro v ρ' L' hle ⟨rfl, rfl, rfl⟩ <;> (try simp only [kM, kN, kO])) | (refine Zc (.tmp 41) ?_; refine qC rfl rfl (ZV _ _) ?_; rintro v ρ' L' hle ⟨rfl, rfl, rfl⟩ <;> (try simp only [kM, kN, kO])) | (refine Zj ?_; try intro _)) <;> ((try simp only [kM, kN, kO]); refine Za ?_; refine Zl ?_))))
      all_goals (first | refine Zd 20 ?_ | refine Zb 20 ?_ | (refine Zm (i := 20) ?_; ((try refine Zk ?_); (first | (refine Zc (.tmp 25) ?_; refine qC rfl rfl (Xh _ bx mb es ck _ hm k x) ?_; rintro v ρ' L' hle ⟨rfl, rfl, es', ck', hm', rfl⟩ <;> (try simp only [kM, kN, kO, hx])) | (refine Zc (.tmp 34) ?_; refine qC rfl rfl (ZV _ _) ?_; rintro v ρ' L' hle ⟨rfl, rfl, rfl⟩ <;> (try simp only [kM, kN, kO])) | (refine Zc (.tmp 41) ?_; refine qC rfl rfl (ZV _ _) ?_; rintro v ρ' L' hle ⟨rfl, rfl, rfl⟩ <;> (try simp only [kM, kN, kO])) | (refine Zj ?_; try intro _)) <;> ((try simp only [kM, kN, kO]); refine Za ?_; refine Zl ?_))))
      all_goals (first | refine Zd 21 ?_ | refine Zb 21 ?_ | (refine Zm (i := 21) ?_; ((try refine Zk ?_); (first | (refine Zc (.func 252) ?_; refine qC rfl rfl (XO _ _ _ _ _) ?_; rintro v ρ' L' hle ⟨rfl, rfl, rfl⟩ <;> (try simp only [kM, kN, kO])) | (refine Zj ?_; try intro _)) <;> ((try simp only [kM, kN, kO]); refine Za ?_; refine Zl ?_))))
      all_goals (refine ZP ?_; (first | refine Zd 22 ?_ | refine Zb 22 ?_ | refine wCm 22 ?_); (first | refine Zd 23 ?_ | refine Zb 23 ?_ | refine wPk 23 ?_); refine rPk 24 ?_; refine rAs 25 ?_; refine ZI ?_)
      all_goals (repeat' (first | (refine Zg ?_; first | (refine Zf ?_; refine qQ ?_) | refine Zj ?_) | refine Za ?_ | (refine Zh ?_; refine Zu ?_) | (refine Zi ?_; refine Zv ?_) | intro _))
      all_goals exact qE ⟨rfl, rfl, rfl⟩
 ·have hk2 : k = n := by omega
  subst hk2
  repeat' (first | (refine Zg ?_; first | (refine Zf ?_; refine qQ ?_) | refine Zj ?_) | refine Za ?_ | (refine Zh ?_; refine Zu ?_) | (refine Zi ?_; refine Zv ?_) | intro _)
  exact qE ⟨rfl, rfl, rfl⟩
structure CV where
 ra : Option Addr
 rn : Nat
 rc : Nat
 ka : Option Addr
 kn : Nat
 kc : Nat
structure YE where
 kind : Int
 rows : List Row
 kids : List Kid
deriving DecidableEq
abbrev Wf (k : Int) (v : CV) : List Value := [.int .i64 k, .slice v.ra v.rn v.rc, .slice v.ka v.kn v.kc]
structure CIn (ρ : Hp) (v : CV) (rows : List Row) (kids : List Kid) : Prop where
 r : AIn ρ 4 We v.ra v.rn rows
 k : AIn ρ 3 Wk v.ka v.kn kids
 rb : v.rn ≤ 1000000
 kb : v.kn ≤ 1000000
 rc : v.rn ≤ v.rc
 kc : v.kn ≤ v.kc
theorem CIn.mono {ρ ρ' v rows kids} (h : CIn ρ v rows kids) (hle : ρ.le ρ') : CIn ρ' v rows kids := ⟨h.r.mono hle, h.k.mono hle, h.rb, h.kb, h.rc, h.kc⟩
theorem leafc_spec (ρ : Hp) (a : Option Addr) (n c : Nat) (l : List Row) (h : AIn ρ 4 We a n l) (hn : n ≤ 1000000) : Spec Tryz.prog 175 [.slice a n c] ρ [] (fun v ρ' L' => v = .bool (rowsOk l) ∧ ρ' = ρ ∧ L' = []) := by
 refine Ze Tryz.func175 rfl rfl rfl fun u R => ?_
 simp only [Zp, List.cons_append, List.nil_append]
 repeat' (first | (refine Zc (.func 222) ?_; refine qC rfl rfl (risesRow_spec _ a n c l h hn) ?_; rintro v ρ' L' hle ⟨rfl, rfl, rfl⟩ <;> (try simp only [kM, kN, kO])) | (refine Zg ?_; first | (refine Zf ?_; refine qQ ?_) | refine Zj ?_) | refine Za ?_ | (refine Zh ?_; refine Zu ?_) | (refine Zi ?_; refine Zv ?_) | intro _)
 exact qE ⟨rfl, rfl, rfl⟩
theorem innerc_spec (ρ : Hp) (a : Option Addr) (n c : Nat) (l : List Kid) (h : AIn ρ 3 Wk a n l) (hn : n ≤ 1000000) : Spec Tryz.prog 176 [.slice a n c] ρ [] (fun v ρ' L' => v = .bool (decide (1 < n) && kidsOk l) ∧ ρ' = ρ ∧ L' = []) := by
 refine Ze Tryz.func176 rfl rfl rfl fun u R => ?_
 simp only [Zp, List.cons_append, List.nil_append]
 by_cases h1 : 1 < n
 ·rw [decide_eq_true h1, Bool.true_and]
  repeat' (first | (refine Zc (.func 226) ?_; refine qC rfl rfl (risesKid_spec _ a n c l h hn _ _ _) ?_; rintro v ρ' L' hle ⟨rfl, rfl, rfl⟩ <;> (try simp only [kM, kN, kO])) | (refine Zg ?_; first | (refine Zf ?_; refine qQ ?_) | refine Zj ?_) | refine Za ?_ | (refine Zh ?_; refine Zu ?_) | (refine Zi ?_; refine Zv ?_) | intro _)
  exact qE ⟨rfl, rfl, rfl⟩
 ·rw [decide_eq_false h1, Bool.false_and]
  repeat' (first | (refine Zg ?_; first | (refine Zf ?_; refine qQ ?_) | refine Zj ?_) | refine Za ?_ | (refine Zh ?_; refine Zu ?_) | (refine Zi ?_; refine Zv ?_) | intro _)
  exact qE ⟨rfl, rfl, rfl⟩
def ZR (c : YE) : Bool :=
 if c.kind = 0 then decide (c.rows.length + c.kids.length = 0)
 else if c.kind = 1 then decide (c.kids.length = 0) && rowsOk c.rows
 else if c.kind = 2 then decide (c.rows.length = 0) && (decide (1 < c.kids.length) && kidsOk c.kids)
 else false
theorem XG (ρ : Hp) (v : CV) (c : YE) (h : CIn ρ v c.rows c.kids) : Spec Tryz.prog 118 [.agg ⟨Wf c.kind v⟩] ρ [] (fun r ρ' L' => r = .int .i64 (if ZR c then 0 else 160) ∧ ρ' = ρ ∧ L' = []) := by
 obtain ⟨kind, rows, kids⟩ := c
 obtain ⟨ra, rn, rc, ka, kn, kc⟩ := v
 obtain ⟨hr, hk, hrb, hkb, _, _⟩ := h
 dsimp only at hr hk hrb hkb
 have hrl := hr.len
 have hkl := hk.len
 have hrs := leafc_spec ρ ra rn rc rows hr hrb
 have hks := innerc_spec ρ ka kn kc kids hk hkb
 generalize hq : ZR ⟨kind, rows, kids⟩ = q
 unfold ZR at hq
 simp only [hrl, hkl] at hq
 refine Ze Tryz.func118 rfl rfl rfl fun u R => ?_
 simp only [Zp, List.cons_append, List.nil_append]
 by_cases k0 : kind = 0
 ·rw [if_pos k0] at hq
  by_cases hz : rn + kn = 0
  ·rw [decide_eq_true hz] at hq
   subst hq
   repeat' (first | (refine Zg ?_; first | (refine Zf ?_; refine qQ ?_) | refine Zj ?_) | refine Za ?_ | (refine Zh ?_; refine Zu ?_) | (refine Zi ?_; refine Zv ?_) | intro _)
   exact qE ⟨rfl, rfl, rfl⟩
  ·rw [decide_eq_false hz] at hq
   subst hq
   repeat' (first | (refine Zg ?_; first | (refine Zf ?_; refine qQ ?_) | refine Zj ?_) | refine Za ?_ | (refine Zh ?_; refine Zu ?_) | (refine Zi ?_; refine Zv ?_) | intro _)
   exact qE ⟨rfl, rfl, rfl⟩
 ·rw [if_neg k0] at hq
  by_cases k1 : kind = 1
  ·rw [if_pos k1] at hq
   by_cases hz : kn = 0
   ·rw [decide_eq_true hz, Bool.true_and] at hq
    rw [hq] at hrs
    cases q
    all_goals (repeat' (first | (refine Zc (.func 175) ?_; refine qC rfl rfl (hrs) ?_; rintro v ρ' L' hle ⟨rfl, rfl, rfl⟩ <;> (try simp only [kM, kN, kO])) | (refine Zg ?_; first | (refine Zf ?_; refine qQ ?_) | refine Zj ?_) | refine Za ?_ | (refine Zh ?_; refine Zu ?_) | (refine Zi ?_; refine Zv ?_) | intro _))
    all_goals exact qE ⟨rfl, rfl, rfl⟩
   ·rw [decide_eq_false hz, Bool.false_and] at hq
    subst hq
    repeat' (first | (refine Zg ?_; first | (refine Zf ?_; refine qQ ?_) | refine Zj ?_) | refine Za ?_ | (refine Zh ?_; refine Zu ?_) | (refine Zi ?_; refine Zv ?_) | intro _)
    exact qE ⟨rfl, rfl, rfl⟩
  ·rw [if_neg k1] at hq
   by_cases k2 : kind = 2
   ·rw [if_pos k2] at hq
    by_cases hz : rn = 0
    ·rw [decide_eq_true hz, Bool.true_and] at hq
     rw [hq] at hks
     cases q
     all_goals (repeat' (first | (refine Zc (.func 176) ?_; refine qC rfl rfl (hks) ?_; rintro v ρ' L' hle ⟨rfl, rfl, rfl⟩ <;> (try simp only [kM, kN, kO])) | (refine Zg ?_; first | (refine Zf ?_; refine qQ ?_) | refine Zj ?_) | refine Za ?_ | (refine Zh ?_; refine Zu ?_) | (refine Zi ?_; refine Zv ?_) | intro _))
     all_goals exact qE ⟨rfl, rfl, rfl⟩
    ·rw [decide_eq_false hz, Bool.false_and] at hq
     subst hq
     repeat' (first | (refine Zg ?_; first | (refine Zf ?_; refine qQ ?_) | refine Zj ?_) | refine Za ?_ | (refine Zh ?_; refine Zu ?_) | (refine Zi ?_; refine Zv ?_) | intro _)
     exact qE ⟨rfl, rfl, rfl⟩
   ·rw [if_neg k2] at hq
    subst hq
    repeat' (first | (refine Zg ?_; first | (refine Zf ?_; refine qQ ?_) | refine Zj ?_) | refine Za ?_ | (refine Zh ?_; refine Zu ?_) | (refine Zi ?_; refine Zv ?_) | intro _)
    exact qE ⟨rfl, rfl, rfl⟩
def XK {α : Type} (f : List UInt8 → Int → Bool → α × RS3) : Nat → List UInt8 → Int → Bool → List α × RS3
 | 0, l, st, bad => ([], l, st, bad)
 | n + 1, l, st, bad => if !bad && decide (st = 0) then ((f l st bad).1 :: (XK f n (f l st bad).2.1 (f l st bad).2.2.1 (f l st bad).2.2.2).1, (XK f n (f l st bad).2.1 (f l st bad).2.2.1 (f l st bad).2.2.2).2) else ([], l, st, bad)
theorem manyTo_stop {α : Type} {f : List UInt8 → Int → Bool → α × RS3} {n : Nat} {l : List UInt8} {st : Int} {bad : Bool} (h : (!bad && decide (st = 0)) = false) : XK f n l st bad = ([], l, st, bad) := by
 cases n with
 | zero => rfl
 | succ n => rw [XK, h]; rfl
def Xm {α : Type} (f : List UInt8 → Int → Bool → α × RS3) (l : List UInt8) (st : Int) (bad : Bool) : List α × RS3 :=
 XK f (Yz 1 l st).1 (Yz 1 l st).2.1 (Yz 1 l st).2.2 (XJ bad (Yz 1 l st).2.2 (decide (((Yz 1 l st).1 : Int) ≤ 4)))
theorem manyRow_spec (ρ : Hp) (bt br : Nat) (all : Int) (bad : Bool) (vk vr vs : Value) (a : Option Addr) (n c : Nat) (l : List UInt8) (h : SIn ρ ZD a n l) (hc : n ≤ c) (st : Int) :
  Spec Tryz.prog 256 [.pointer (some ⟨bt, 0, none⟩), .int .i64 4, .func (.func 207) ⟨[.pointer (some ⟨bt, 0, none⟩)]⟩ ⟨[]⟩] ρ [tkC bt br all bad vk vr vs, rdC br a n c st]
   (fun v ρ' L' => ρ.le ρ' ∧ ∃ sa sn sc a' n' c', v = .slice sa sn sc ∧ sn ≤ sc ∧ sn ≤ 255 ∧ AIn ρ' 4 We sa sn (Xm WM l st bad).1 ∧ SIn ρ' ZD a' n' (Xm WM l st bad).2.1 ∧ n' ≤ c' ∧ L' = [tkC bt br all (Xm WM l st bad).2.2.2 vk vr vs, rdC br a' n' c' (Xm WM l st bad).2.2.1]) := by
 have hn1 := u8_spec ρ br a n c l h hc st
 have hb1 := Vs 1 l st
 generalize hq : Xm WM l st bad = q
 unfold Xm at hq
 generalize Yz 1 l st = r1 at *
 obtain ⟨x1, l1, st1⟩ := r1
 dsimp only at hq hn1 hb1
 have hb255 : x1 < 256 := by simpa using hb1
 generalize hB1 : XJ bad st1 (decide ((x1 : Int) ≤ 4)) = b1 at *
 refine Ze Tryz.func256 rfl rfl rfl fun u R => ?_
 simp only [Zp, List.cons_append, List.nil_append]
 repeat' (first | (refine Zc (.func 97) ?_; refine qC rfl rfl (hn1) ?_; rintro v ρ' L' hle ⟨rfl, rfl, a1, n1, c1, h1, hc1, rfl⟩ <;> (try simp only [kM, kN, kO])) | (refine Zc (.func 244) ?_; refine qC rfl rfl (Xu _ bt br all bad vk vr vs a1 n1 c1 st1 (decide ((x1 : Int) ≤ 4))) ?_; rintro v ρ' L' hle ⟨rfl, rfl, rfl⟩ <;> (try simp only [kM, kN, kO, hB1])) | (refine Zg ?_; first | (refine Zf ?_; refine qQ ?_) | refine Zj ?_) | refine Za ?_ | (refine Zh ?_; refine Zu ?_) | (refine Zi ?_; refine Zv ?_) | intro _)
 refine ZK [(0, _), (2, _), (6, _), (7, _)] (fun (ζ : (Nat) × (Hp) × (Value) × (List Value) × (List Row) × (Option Addr) × (Nat) × (Nat) × (List UInt8) × (Int) × (Bool)) => [(9, .int .i64 ζ.1), (8, ζ.2.2.1)]) (fun (ζ : (Nat) × (Hp) × (Value) × (List Value) × (List Row) × (Option Addr) × (Nat) × (Nat) × (List UInt8) × (Int) × (Bool)) => ζ.2.1) (fun (ζ : (Nat) × (Hp) × (Value) × (List Value) × (List Row) × (Option Addr) × (Nat) × (Nat) × (List UInt8) × (Int) × (Bool)) => [YC ζ.2.2.1 ((ζ.2.2.2.2.1.map We).flatten) ζ.2.2.2.1 130, tkC bt br all ζ.2.2.2.2.2.2.2.2.2.2 vk vr vs, rdC br ζ.2.2.2.2.2.1 ζ.2.2.2.2.2.2.1 ζ.2.2.2.2.2.2.2.1 ζ.2.2.2.2.2.2.2.2.2.1]) (fun (ζ : (Nat) × (Hp) × (Value) × (List Value) × (List Row) × (Option Addr) × (Nat) × (Nat) × (List UInt8) × (Int) × (Bool)) => ζ.1 ≤ x1 ∧ ρ'.le ζ.2.1 ∧ OwnS ζ.2.2.1 ζ.1 ((ζ.2.2.2.2.1.map We).flatten) ζ.2.2.2.1 4 ∧ ζ.2.2.2.2.1.length = ζ.1 ∧ SIn ζ.2.1 ZD ζ.2.2.2.2.2.1 ζ.2.2.2.2.2.2.1 ζ.2.2.2.2.2.2.2.2.1 ∧ ζ.2.2.2.2.2.2.1 ≤ ζ.2.2.2.2.2.2.2.1 ∧ q = (ζ.2.2.2.2.1 ++ (XK WM (x1 - ζ.1) ζ.2.2.2.2.2.2.2.2.1 ζ.2.2.2.2.2.2.2.2.2.1 ζ.2.2.2.2.2.2.2.2.2.2).1, (XK WM (x1 - ζ.1) ζ.2.2.2.2.2.2.2.2.1 ζ.2.2.2.2.2.2.2.2.2.1 ζ.2.2.2.2.2.2.2.2.2.2).2)) (fun (ζ : (Nat) × (Hp) × (Value) × (List Value) × (List Row) × (Option Addr) × (Nat) × (Nat) × (List UInt8) × (Int) × (Bool)) => x1 - ζ.1) ((0, ρ', .slice none 0 0, [], [], a1, n1, c1, l1, st1, b1)) (⟨Nat.zero_le _, Hp.le_refl _, OwnS.nil 4, rfl, h1, hc1, by simp [hq]⟩) Zw Zw rfl tk ?_
 rintro ⟨i, ρ1, v, sp, acc, a2, n2, c2, l2, st2, bad2⟩ hI
 try simp only [List.cons_append, List.nil_append, List.append_assoc, List.append_eq] at hI ⊢
 try dsimp only at hI ⊢
 obtain ⟨hi, hle1, hown, hal, h2, hc2, hq2⟩ := hI
 obtain ⟨va, vc, rfl, _⟩ := hown.len
 have hg : ∀ x ∈ acc, (We x).length = 4 := fun x _ => rowV_len x
 by_cases hlt : i < x1
 ·cases hok : (!bad2 && decide (st2 = 0))
  ·rw [manyTo_stop hok] at hq2
   simp only [List.append_nil] at hq2
   subst hq2
   repeat' (first | (refine Zc (.func 247) ?_; refine qC rfl rfl (ok_spec _ bt br all bad2 vk vr vs a2 n2 c2 st2) ?_; rintro v ρ' L' hle ⟨rfl, rfl, rfl⟩ <;> (try simp only [kM, kN, kO, hok])) | (refine Zg ?_; first | (refine Zf ?_; refine qQ ?_) | refine Zj ?_) | refine Za ?_ | (refine Zh ?_; refine Zu ?_) | (refine Zi ?_; refine Zv ?_) | intro _)
   refine Xo (YC (.slice va i vc) ((acc.map We).flatten) sp 130) (fun ρ3 hle3 hfz => ?_)
   obtain ⟨sa, sc, e1, hsc, hA⟩ := hown.aIn hal hg hfz
   cases e1
   exact qE ⟨Hp.le_trans hle1 hle3, _, _, _, a2, n2, c2, rfl, hsc, by omega, hA, h2.mono hle3, hc2, rfl⟩
  ·rw [show x1 - i = (x1 - (i + 1)) + 1 by omega, XK, if_pos hok] at hq2
   have hrow := fun ρ h => trow_spec ρ bt br all bad2 vk vr vs a2 n2 c2 l2 h hc2 st2
   generalize WM l2 st2 bad2 = r at *
   obtain ⟨x, l3, st3, bad3⟩ := r
   dsimp only at hq2 hrow
   repeat' (first | (refine Zc (.func 247) ?_; refine qC rfl rfl (ok_spec _ bt br all bad2 vk vr vs a2 n2 c2 st2) ?_; rintro v ρ' L' hle ⟨rfl, rfl, rfl⟩ <;> (try simp only [kM, kN, kO, hok])) | (refine Zc (.tmp 31) ?_; refine qC rfl rfl (hrow _ h2) ?_; rintro v ρ' L' hle ⟨rfl, hle3, a3, n3, c3, h3, hc3, rfl⟩ <;> (try simp only [kM, kN, kO])) | (refine Zg ?_; first | (refine Zf ?_; refine qQ ?_) | refine Zj ?_) | refine Za ?_ | (refine Zh ?_; refine Zu ?_) | (refine Zi ?_; refine Zv ?_) | intro _)
   refine Yt (css := [We x]) (sz := 4) rfl rfl rfl rfl (by simp) (by simp) rfl (fun bs => ?_)
   simp only [List.flatten_cons, List.flatten_nil, List.append_nil]
   refine Xc (ys := We x) (m := 1) rfl rfl hown (hR := by infer_instance) (SrcV.lit) rfl rfl (by decide) rfl (by omega) (by omega) rfl (fun v' sp' hown' => ?_)
   have hm : (acc.map We).flatten ++ We x = ((acc ++ [x]).map We).flatten := by simp
   rw [hm] at hown' ⊢
   repeat' (first | (refine Zg ?_; first | (refine Zf ?_; refine qQ ?_) | refine Zj ?_) | refine Za ?_ | (refine Zh ?_; refine Zu ?_) | (refine Zi ?_; refine Zv ?_) | intro _)
   refine Zy (i + 1, _, v', sp', acc ++ [x], a3, n3, c3, l3, st3, bad3) (⟨hlt, Hp.le_trans hle1 hle3, hown', by simp [hal], h3, hc3, by rw [hq2]; simp⟩) Zw Zw rfl tk inferInstance (by first | omega | (dsimp only; omega))
 ·have hi2 : i = x1 := by omega
  subst hi2
  rw [Nat.sub_self, XK] at hq2
  simp only [List.append_nil] at hq2
  subst hq2
  repeat' (first | (refine Zg ?_; first | (refine Zf ?_; refine qQ ?_) | refine Zj ?_) | refine Za ?_ | (refine Zh ?_; refine Zu ?_) | (refine Zi ?_; refine Zv ?_) | intro _)
  refine Xo (YC (.slice va i vc) ((acc.map We).flatten) sp 130) (fun ρ3 hle3 hfz => ?_)
  obtain ⟨sa, sc, e1, hsc, hA⟩ := hown.aIn hal hg hfz
  cases e1
  exact qE ⟨Hp.le_trans hle1 hle3, _, _, _, a2, n2, c2, rfl, hsc, by omega, hA, h2.mono hle3, hc2, rfl⟩
def XV (l : List UInt8) (st : Int) (bad : Bool) : Kid × RS3 := ((kidR l st).1, (kidR l st).2.1, (kidR l st).2.2, bad)
theorem tkidB_spec (ρ : Hp) (bt br : Nat) (all : Int) (bad : Bool) (vk vr vs : Value) (a : Option Addr) (n c : Nat) (l : List UInt8) (h : SIn ρ ZD a n l) (hc : n ≤ c) (st : Int) :
  Spec Tryz.prog 258 [.pointer (some ⟨bt, 0, none⟩)] ρ [tkC bt br all bad vk vr vs, rdC br a n c st]
   (fun v ρ' L' => v = .agg ⟨Wk (XV l st bad).1⟩ ∧ ρ.le ρ' ∧ ∃ a' n' c', SIn ρ' ZD a' n' (XV l st bad).2.1 ∧ n' ≤ c' ∧ L' = [tkC bt br all (XV l st bad).2.2.2 vk vr vs, rdC br a' n' c' (XV l st bad).2.2.1]) := by
 refine (tkid_spec ρ bt br all bad vk vr vs a n c l h hc st).mono ?_
 rintro v ρ' L' hle ⟨h1, h2, h3⟩
 exact ⟨h1, hle, h3⟩
theorem manyKid_spec (ρ : Hp) (bt br : Nat) (all : Int) (bad : Bool) (vk vr vs : Value) (a : Option Addr) (n c : Nat) (l : List UInt8) (h : SIn ρ ZD a n l) (hc : n ≤ c) (st : Int) :
  Spec Tryz.prog 257 [.pointer (some ⟨bt, 0, none⟩), .int .i64 4, .func (.func 258) ⟨[.pointer (some ⟨bt, 0, none⟩)]⟩ ⟨[]⟩] ρ [tkC bt br all bad vk vr vs, rdC br a n c st]
   (fun v ρ' L' => ρ.le ρ' ∧ ∃ sa sn sc a' n' c', v = .slice sa sn sc ∧ sn ≤ sc ∧ sn ≤ 255 ∧ AIn ρ' 3 Wk sa sn (Xm XV l st bad).1 ∧ SIn ρ' ZD a' n' (Xm XV l st bad).2.1 ∧ n' ≤ c' ∧ L' = [tkC bt br all (Xm XV l st bad).2.2.2 vk vr vs, rdC br a' n' c' (Xm XV l st bad).2.2.1]) := by
 have hn1 := u8_spec ρ br a n c l h hc st
 have hb1 := Vs 1 l st
 generalize hq : Xm XV l st bad = q
 unfold Xm at hq
 generalize Yz 1 l st = r1 at *
 obtain ⟨x1, l1, st1⟩ := r1
 dsimp only at hq hn1 hb1
 have hb255 : x1 < 256 := by simpa using hb1
 generalize hB1 : XJ bad st1 (decide ((x1 : Int) ≤ 4)) = b1 at *
 refine Ze Tryz.func257 rfl rfl rfl fun u R => ?_
 simp only [Zp, List.cons_append, List.nil_append]
 repeat' (first | (refine Zc (.func 97) ?_; refine qC rfl rfl (hn1) ?_; rintro v ρ' L' hle ⟨rfl, rfl, a1, n1, c1, h1, hc1, rfl⟩ <;> (try simp only [kM, kN, kO])) | (refine Zc (.func 244) ?_; refine qC rfl rfl (Xu _ bt br all bad vk vr vs a1 n1 c1 st1 (decide ((x1 : Int) ≤ 4))) ?_; rintro v ρ' L' hle ⟨rfl, rfl, rfl⟩ <;> (try simp only [kM, kN, kO, hB1])) | (refine Zg ?_; first | (refine Zf ?_; refine qQ ?_) | refine Zj ?_) | refine Za ?_ | (refine Zh ?_; refine Zu ?_) | (refine Zi ?_; refine Zv ?_) | intro _)
 refine ZK [(0, _), (2, _), (6, _), (7, _)] (fun (ζ : (Nat) × (Hp) × (Value) × (List Value) × (List Kid) × (Option Addr) × (Nat) × (Nat) × (List UInt8) × (Int) × (Bool)) => [(9, .int .i64 ζ.1), (8, ζ.2.2.1)]) (fun (ζ : (Nat) × (Hp) × (Value) × (List Value) × (List Kid) × (Option Addr) × (Nat) × (Nat) × (List UInt8) × (Int) × (Bool)) => ζ.2.1) (fun (ζ : (Nat) × (Hp) × (Value) × (List Value) × (List Kid) × (Option Addr) × (Nat) × (Nat) × (List UInt8) × (Int) × (Bool)) => [YC ζ.2.2.1 ((ζ.2.2.2.2.1.map Wk).flatten) ζ.2.2.2.1 149, tkC bt br all ζ.2.2.2.2.2.2.2.2.2.2 vk vr vs, rdC br ζ.2.2.2.2.2.1 ζ.2.2.2.2.2.2.1 ζ.2.2.2.2.2.2.2.1 ζ.2.2.2.2.2.2.2.2.2.1]) (fun (ζ : (Nat) × (Hp) × (Value) × (List Value) × (List Kid) × (Option Addr) × (Nat) × (Nat) × (List UInt8) × (Int) × (Bool)) => ζ.1 ≤ x1 ∧ ρ'.le ζ.2.1 ∧ OwnS ζ.2.2.1 ζ.1 ((ζ.2.2.2.2.1.map Wk).flatten) ζ.2.2.2.1 3 ∧ ζ.2.2.2.2.1.length = ζ.1 ∧ SIn ζ.2.1 ZD ζ.2.2.2.2.2.1 ζ.2.2.2.2.2.2.1 ζ.2.2.2.2.2.2.2.2.1 ∧ ζ.2.2.2.2.2.2.1 ≤ ζ.2.2.2.2.2.2.2.1 ∧ q = (ζ.2.2.2.2.1 ++ (XK XV (x1 - ζ.1) ζ.2.2.2.2.2.2.2.2.1 ζ.2.2.2.2.2.2.2.2.2.1 ζ.2.2.2.2.2.2.2.2.2.2).1, (XK XV (x1 - ζ.1) ζ.2.2.2.2.2.2.2.2.1 ζ.2.2.2.2.2.2.2.2.2.1 ζ.2.2.2.2.2.2.2.2.2.2).2)) (fun (ζ : (Nat) × (Hp) × (Value) × (List Value) × (List Kid) × (Option Addr) × (Nat) × (Nat) × (List UInt8) × (Int) × (Bool)) => x1 - ζ.1) ((0, ρ', .slice none 0 0, [], [], a1, n1, c1, l1, st1, b1)) (⟨Nat.zero_le _, Hp.le_refl _, OwnS.nil 3, rfl, h1, hc1, by simp [hq]⟩) Zw Zw rfl tk ?_
 rintro ⟨i, ρ1, v, sp, acc, a2, n2, c2, l2, st2, bad2⟩ hI
 try simp only [List.cons_append, List.nil_append, List.append_assoc, List.append_eq] at hI ⊢
 try dsimp only at hI ⊢
 obtain ⟨hi, hle1, hown, hal, h2, hc2, hq2⟩ := hI
 obtain ⟨va, vc, rfl, _⟩ := hown.len
 have hg : ∀ x ∈ acc, (Wk x).length = 3 := fun x _ => kidV_len x
 by_cases hlt : i < x1
 ·cases hok : (!bad2 && decide (st2 = 0))
  ·rw [manyTo_stop hok] at hq2
   simp only [List.append_nil] at hq2
   subst hq2
   repeat' (first | (refine Zc (.func 247) ?_; refine qC rfl rfl (ok_spec _ bt br all bad2 vk vr vs a2 n2 c2 st2) ?_; rintro v ρ' L' hle ⟨rfl, rfl, rfl⟩ <;> (try simp only [kM, kN, kO, hok])) | (refine Zg ?_; first | (refine Zf ?_; refine qQ ?_) | refine Zj ?_) | refine Za ?_ | (refine Zh ?_; refine Zu ?_) | (refine Zi ?_; refine Zv ?_) | intro _)
   refine Xo (YC (.slice va i vc) ((acc.map Wk).flatten) sp 149) (fun ρ3 hle3 hfz => ?_)
   obtain ⟨sa, sc, e1, hsc, hA⟩ := hown.aIn hal hg hfz
   cases e1
   exact qE ⟨Hp.le_trans hle1 hle3, _, _, _, a2, n2, c2, rfl, hsc, by omega, hA, h2.mono hle3, hc2, rfl⟩
  ·rw [show x1 - i = (x1 - (i + 1)) + 1 by omega, XK, if_pos hok] at hq2
   have hrow := fun ρ h => tkidB_spec ρ bt br all bad2 vk vr vs a2 n2 c2 l2 h hc2 st2
   generalize XV l2 st2 bad2 = r at *
   obtain ⟨x, l3, st3, bad3⟩ := r
   dsimp only at hq2 hrow
   repeat' (first | (refine Zc (.func 247) ?_; refine qC rfl rfl (ok_spec _ bt br all bad2 vk vr vs a2 n2 c2 st2) ?_; rintro v ρ' L' hle ⟨rfl, rfl, rfl⟩ <;> (try simp only [kM, kN, kO, hok])) | (refine Zc (.tmp 31) ?_; refine qC rfl rfl (hrow _ h2) ?_; rintro v ρ' L' hle ⟨rfl, hle3, a3, n3, c3, h3, hc3, rfl⟩ <;> (try simp only [kM, kN, kO])) | (refine Zg ?_; first | (refine Zf ?_; refine qQ ?_) | refine Zj ?_) | refine Za ?_ | (refine Zh ?_; refine Zu ?_) | (refine Zi ?_; refine Zv ?_) | intro _)
   refine Yt (css := [Wk x]) (sz := 3) rfl rfl rfl rfl (by simp) (by simp) rfl (fun bs => ?_)
   simp only [List.flatten_cons, List.flatten_nil, List.append_nil]
   refine Xc (ys := Wk x) (m := 1) rfl rfl hown (hR := by infer_instance) (SrcV.lit) rfl rfl (by decide) rfl (by omega) (by omega) rfl (fun v' sp' hown' => ?_)
   have hm : (acc.map Wk).flatten ++ Wk x = ((acc ++ [x]).map Wk).flatten := by simp
   rw [hm] at hown' ⊢
   repeat' (first | (refine Zg ?_; first | (refine Zf ?_; refine qQ ?_) | refine Zj ?_) | refine Za ?_ | (refine Zh ?_; refine Zu ?_) | (refine Zi ?_; refine Zv ?_) | intro _)
   refine Zy (i + 1, _, v', sp', acc ++ [x], a3, n3, c3, l3, st3, bad3) (⟨hlt, Hp.le_trans hle1 hle3, hown', by simp [hal], h3, hc3, by rw [hq2]; simp⟩) Zw Zw rfl tk inferInstance (by first | omega | (dsimp only; omega))
 ·have hi2 : i = x1 := by omega
  subst hi2
  rw [Nat.sub_self, XK] at hq2
  simp only [List.append_nil] at hq2
  subst hq2
  repeat' (first | (refine Zg ?_; first | (refine Zf ?_; refine qQ ?_) | refine Zj ?_) | refine Za ?_ | (refine Zh ?_; refine Zu ?_) | (refine Zi ?_; refine Zv ?_) | intro _)
  refine Xo (YC (.slice va i vc) ((acc.map Wk).flatten) sp 149) (fun ρ3 hle3 hfz => ?_)
  obtain ⟨sa, sc, e1, hsc, hA⟩ := hown.aIn hal hg hfz
  cases e1
  exact qE ⟨Hp.le_trans hle1 hle3, _, _, _, a2, n2, c2, rfl, hsc, by omega, hA, h2.mono hle3, hc2, rfl⟩
theorem tleaf_spec (ρ : Hp) (bt br : Nat) (all : Int) (bad : Bool) (vk vr vs : Value) (h1 : vk.oneCell' = true) (h2 : vr.oneCell' = true) (h3 : vs.oneCell' = true) (a : Option Addr) (n c : Nat) (l : List UInt8) (h : SIn ρ ZD a n l) (hc : n ≤ c) (st : Int) :
  Spec Tryz.prog 245 [.pointer (some ⟨bt, 0, none⟩)] ρ [tkC bt br all bad vk vr vs, rdC br a n c st]
   (fun v ρ' L' => v = .tuple ⟨[]⟩ ∧ ρ.le ρ' ∧ ∃ sa sn sc a' n' c', sn ≤ sc ∧ sn ≤ 255 ∧ AIn ρ' 4 We sa sn (Xm WM l st bad).1 ∧ SIn ρ' ZD a' n' (Xm WM l st bad).2.1 ∧ n' ≤ c' ∧ L' = [tkC bt br all (Xm WM l st bad).2.2.2 vk (.slice sa sn sc) vs, rdC br a' n' c' (Xm WM l st bad).2.2.1]) := by
 have hm := manyRow_spec ρ bt br all bad vk vr vs a n c l h hc st
 refine Ze Tryz.func245 rfl rfl rfl fun u R => ?_
 simp only [Zp, List.cons_append, List.nil_append]
 repeat' (first | (refine Zc (.func 256) ?_; refine qC rfl rfl (hm) ?_; rintro v ρ' L' hle ⟨hle1, sa, sn, sc, a', n', c', rfl, q1, q2, q3, q4, q5, rfl⟩ <;> (try simp only [kM, kN, kO])) | (refine Zg ?_; first | (refine Zf ?_; refine qQ ?_) | refine Zj ?_) | refine Za ?_ | (refine Zh ?_; refine Zu ?_) | (refine Zi ?_; refine Zv ?_) | intro _)
 exact qE ⟨rfl, hle1, sa, sn, sc, a', n', c', q1, q2, q3, q4, q5, rfl⟩
theorem tinner_spec (ρ : Hp) (bt br : Nat) (all : Int) (bad : Bool) (vk vr vs : Value) (h1 : vk.oneCell' = true) (h2 : vr.oneCell' = true) (h3 : vs.oneCell' = true) (a : Option Addr) (n c : Nat) (l : List UInt8) (h : SIn ρ ZD a n l) (hc : n ≤ c) (st : Int) :
  Spec Tryz.prog 246 [.pointer (some ⟨bt, 0, none⟩)] ρ [tkC bt br all bad vk vr vs, rdC br a n c st]
   (fun v ρ' L' => v = .tuple ⟨[]⟩ ∧ ρ.le ρ' ∧ ∃ sa sn sc a' n' c', sn ≤ sc ∧ sn ≤ 255 ∧ AIn ρ' 3 Wk sa sn (Xm XV l st bad).1 ∧ SIn ρ' ZD a' n' (Xm XV l st bad).2.1 ∧ n' ≤ c' ∧ L' = [tkC bt br all (Xm XV l st bad).2.2.2 vk vr (.slice sa sn sc), rdC br a' n' c' (Xm XV l st bad).2.2.1]) := by
 have hm := manyKid_spec ρ bt br all bad vk vr vs a n c l h hc st
 refine Ze Tryz.func246 rfl rfl rfl fun u R => ?_
 simp only [Zp, List.cons_append, List.nil_append]
 repeat' (first | (refine Zc (.func 257) ?_; refine qC rfl rfl (hm) ?_; rintro v ρ' L' hle ⟨hle1, sa, sn, sc, a', n', c', rfl, q1, q2, q3, q4, q5, rfl⟩ <;> (try simp only [kM, kN, kO])) | (refine Zg ?_; first | (refine Zf ?_; refine qQ ?_) | refine Zj ?_) | refine Za ?_ | (refine Zh ?_; refine Zu ?_) | (refine Zi ?_; refine Zv ?_) | intro _)
 exact qE ⟨rfl, hle1, sa, sn, sc, a', n', c', q1, q2, q3, q4, q5, rfl⟩
theorem from_spec (ρ : Hp) (a : Option Addr) (n c : Nat) (l : List UInt8) (h : SIn ρ ZD a n l) (hn : n ≤ 1000000) :
  Spec Tryz.prog 203 [.slice a n c] ρ [] (fun v ρ' L' => ρ.le ρ' ∧ ∃ bt br a' c', v = .pointer (some ⟨bt, 0, none⟩) ∧ n ≤ c' ∧ SIn ρ' ZD a' n l ∧ L' = [tkC bt br n false (.int .i64 0) (.slice none 0 0) (.slice none 0 0), rdC br a' n c' 0]) := by
 have hr := read_spec ρ a n c l h hn
 refine Ze Tryz.func203 rfl rfl rfl fun u R => ?_
 simp only [Zp, List.cons_append, List.nil_append]
 repeat' (first | (refine Zc (.func 96) ?_; refine qC rfl rfl (hr) ?_; rintro v ρ' L' hle ⟨hle, br, a', c', rfl, hc', hs, rfl⟩ <;> (try simp only [kM, kN, kO])) | (refine Zg ?_; first | (refine Zf ?_; refine qQ ?_) | refine Zj ?_) | refine Za ?_ | (refine Zh ?_; refine Zu ?_) | (refine Zi ?_; refine Zv ?_) | intro _)
 exact qE ⟨hle, _, br, a', c', rfl, hc', hs, rfl⟩
def takenN (all : Int) (left : Nat) (bad : Bool) (st : Int) : Int := if bad then 0 else if st ≠ 0 then 0 else all - left
def takenE (bad : Bool) (st : Int) : Int := if bad then 161 else st
theorem takenCont_spec (ρ : Hp) (bt br : Nat) (all : Nat) (hall : all ≤ 1000000) (bad : Bool) (vk vr vs : Value) (a : Option Addr) (n c : Nat) (st : Int) (k : Int) (w : CV) (hn : n ≤ all) :
  Spec Tryz.prog 204 [.pointer (some ⟨bt, 0, none⟩), .agg ⟨Wf k w⟩] ρ [tkC bt br all bad vk vr vs, rdC br a n c st]
   (fun v ρ' L' => v = .tuple ⟨[.agg ⟨if bad || decide (st ≠ 0) then Wf 0 ⟨none, 0, 0, none, 0, 0⟩ else Wf k w⟩, .int .i64 (takenN all n bad st), .int .i64 (takenE bad st)]⟩ ∧ ρ' = ρ ∧ L' = []) := by
 refine Ze Tryz.func204 rfl rfl rfl fun u R => ?_
 simp only [Zp, List.cons_append, List.nil_append, takenN, takenE]
 cases bad
 ·by_cases h : st = 0
  ·subst h
   simp only [Bool.false_or, ne_eq, not_true_eq_false, decide_false, Bool.false_eq_true, if_false]
   repeat' (first | (refine Zc (.func 157) ?_; refine qC rfl rfl (Wv _ br a n c 0) ?_; rintro v ρ' L' hle ⟨rfl, rfl, rfl⟩ <;> (try simp only [kM, kN, kO])) | (refine Zg ?_; first | (refine Zf ?_; refine qQ ?_) | refine Zj ?_) | refine Za ?_ | (refine Zh ?_; refine Zu ?_) | (refine Zi ?_; refine Zv ?_) | intro _)
   rename_i b3 b4 b7
   refine Zz (Zq _ _ ([tkC bt br all false vk vr vs, [(b3, .cells ⟨Wf k w⟩ 65 (0, 0))]])) (Zx (hT := tk) (Hp.le_refl _)) ?_
   all_goals (refine Ya 0 ?_; refine ZU 1 ?_; refine rNc 2 ?_; refine YB 3 ?_; refine Ya 4 ?_; refine ZU 5 ?_; refine rNc 6 ?_; refine YB 7 ?_; refine Ya 8 ?_)
   all_goals (refine Zm (i := 9) ?_; ((try refine Zk ?_); (first | (refine Zc (.func 106) ?_; refine qC rfl rfl (left_spec _ br a n c 0) ?_; rintro v ρ' L' hle ⟨rfl, rfl, rfl⟩ <;> (try simp only [kM, kN, kO])) | (refine Zj ?_; try intro _)) <;> ((try simp only [kM, kN, kO]); refine Za ?_; refine Zl ?_)))
   all_goals refine rSb 10 ?_
   all_goals (refine Zm (i := 11) ?_; ((try refine Zk ?_); (first | (refine Zj ?_; try intro _)) <;> ((try simp only [kM, kN, kO]); refine Za ?_; refine Zl ?_)))
   all_goals (refine ZP ?_; refine rAs 12 ?_; refine rAs 13 ?_; refine ZI ?_)
   repeat' (first | (refine Zg ?_; first | (refine Zf ?_; refine qQ ?_) | refine Zj ?_) | refine Za ?_ | (refine Zh ?_; refine Zu ?_) | (refine Zi ?_; refine Zv ?_) | intro _)
   exact qE ⟨rfl, rfl, rfl⟩
  ·simp only [Bool.false_or, ne_eq, h, not_false_eq_true, decide_true, if_true, Bool.false_eq_true, if_false]
   repeat' (first | (refine Zc (.func 157) ?_; refine qC rfl rfl (Wv _ br a n c st) ?_; rintro v ρ' L' hle ⟨rfl, rfl, rfl⟩ <;> (try simp only [kM, kN, kO])) | (refine Zg ?_; first | (refine Zf ?_; refine qQ ?_) | refine Zj ?_) | refine Za ?_ | (refine Zh ?_; refine Zu ?_) | (refine Zi ?_; refine Zv ?_) | intro _)
   rename_i b3 b4 b7
   refine Zz (Zq _ _ ([tkC bt br all false vk vr vs, [(b7, .cells ⟨Wf 0 ⟨none, 0, 0, none, 0, 0⟩⟩ 65 (0, 0))]])) (Zx (hT := tk) (Hp.le_refl _)) ?_
   all_goals (refine Ya 0 ?_; refine ZU 1 ?_; refine rNc 2 ?_; refine YB 3 ?_; refine Ya 4 ?_)
   all_goals (refine Zm (i := 5) ?_; ((try refine Zk ?_); (first | (refine Zc (.func 157) ?_; refine qC rfl rfl (Wv _ br a n c st) ?_; rintro v ρ' L' hle ⟨rfl, rfl, rfl⟩ <;> (try simp only [kM, kN, kO])) | (refine Zj ?_; try intro _)) <;> ((try simp only [kM, kN, kO]); refine Za ?_; refine Zl ?_)))
   all_goals (refine Zm (i := 6) ?_; ((try refine Zk ?_); (first | (refine Zj ?_; try intro _)) <;> ((try simp only [kM, kN, kO]); refine Za ?_; refine Zl ?_)))
   all_goals (refine ZP ?_; refine rAs 7 ?_; refine rAs 8 ?_; refine ZI ?_)
   repeat' (first | (refine Zg ?_; first | (refine Zf ?_; refine qQ ?_) | refine Zj ?_) | refine Za ?_ | (refine Zh ?_; refine Zu ?_) | (refine Zi ?_; refine Zv ?_) | intro _)
   exact qE ⟨rfl, rfl, rfl⟩
 ·simp only [Bool.true_or, if_true]
  repeat' (first | (refine Zg ?_; first | (refine Zf ?_; refine qQ ?_) | refine Zj ?_) | refine Za ?_ | (refine Zh ?_; refine Zu ?_) | (refine Zi ?_; refine Zv ?_) | intro _)
  exact qE ⟨rfl, rfl, rfl⟩
def Vl (x1 : Nat) (l1 : List UInt8) (st1 : Int) (b1 : Bool) : (List Row × List Kid) × RS3 :=
 if !b1 && decide (st1 = 0) then
  if x1 = 1 then (((Xm WM l1 st1 b1).1, []), (Xm WM l1 st1 b1).2)
  else if x1 = 2 then (([], (Xm XV l1 st1 b1).1), (Xm XV l1 st1 b1).2)
  else (([], []), l1, st1, b1)
 else (([], []), l1, st1, b1)
def contE (x1 : Nat) (m : (List Row × List Kid) × RS3) : YE × RS3 := (⟨x1, m.1.1, m.1.2⟩, m.2.1, m.2.2.1, XJ m.2.2.2 m.2.2.1 (ZR ⟨x1, m.1.1, m.1.2⟩))
def YX (l : List UInt8) : YE × RS3 :=
 contE (Yz 1 l 0).1 (Vl (Yz 1 l 0).1 (Yz 1 l 0).2.1 (Yz 1 l 0).2.2 (XJ false (Yz 1 l 0).2.2 (decide (((Yz 1 l 0).1 : Int) ≤ 2))))
theorem CIn.nil {ρ : Hp} : CIn ρ ⟨none, 0, 0, none, 0, 0⟩ [] [] := ⟨AIn.nil, AIn.nil, by decide, by decide, by decide, by decide⟩
theorem content_spec (ρ : Hp) (bt br : Nat) (all : Int) (a : Option Addr) (n c : Nat) (l : List UInt8) (h : SIn ρ ZD a n l) (hc : n ≤ c) :
  Spec Tryz.prog 205 [.pointer (some ⟨bt, 0, none⟩)] ρ [tkC bt br all false (.int .i64 0) (.slice none 0 0) (.slice none 0 0), rdC br a n c 0]
   (fun v ρ' L' => ρ.le ρ' ∧ ∃ w a' n' c', v = .agg ⟨Wf (YX l).1.kind w⟩ ∧ CIn ρ' w (YX l).1.rows (YX l).1.kids ∧ SIn ρ' ZD a' n' (YX l).2.1 ∧ n' ≤ c' ∧
    L' = [tkC bt br all (YX l).2.2.2 (.int .i64 (YX l).1.kind) (.slice w.ra w.rn w.rc) (.slice w.ka w.kn w.kc), rdC br a' n' c' (YX l).2.2.1]) := by
 have hn1 := u8_spec ρ br a n c l h hc 0
 have hb1 := Vs 1 l 0
 generalize hq : YX l = q
 unfold YX at hq
 generalize Yz 1 l 0 = r1 at *
 obtain ⟨x1, l1, st1⟩ := r1
 dsimp only at hq hn1 hb1
 generalize hB1 : XJ false st1 (decide ((x1 : Int) ≤ 2)) = b1 at *
 have hnil : Ym .i64 [] := by intro e he; simp at he
 have hg0 : ∀ k : Int, YG [] k = none := fun _ => rfl
 refine Ze Tryz.func205 rfl rfl rfl fun u R => ?_
 simp only [Zp, List.cons_append, List.nil_append]
 rcases (show (x1 : Int) = 1 ∨ (x1 : Int) = 2 ∨ (x1 : Int) = 0 ∨ (2 : Int) < (x1 : Int) by omega) with hx | hx | hx | hx
 ·rw [decide_eq_true (show (x1 : Int) ≤ 2 by omega)] at hB1
  repeat' (first | (refine Zc (.func 97) ?_; refine qC rfl rfl (hn1) ?_; rintro v ρ' L' hle ⟨rfl, rfl, a1, n1, c1, h1, hc1, rfl⟩ <;> (try simp only [kM, kN, kO])) | (refine Zc (.func 244) ?_; refine qC rfl rfl (Xu _ bt br all false _ _ _ a1 n1 c1 st1 _) ?_; rintro v ρ' L' hle ⟨rfl, rfl, rfl⟩ <;> (try simp only [kM, kN, kO, hB1])) | (refine Yx rfl rfl rfl hnil (fun es1 ck1 i1 i2 => ?_)) | (refine Yx rfl rfl rfl i1 (fun es2 ck2 j1 j2 => ?_); have hg := j2 (x1 : Int); rw [i2, if_neg (by omega), if_pos hx] at hg) | (refine Zg ?_; first | (refine Zf ?_; refine qQ ?_) | refine Zj ?_) | refine Za ?_ | (refine Zh ?_; refine Zu ?_) | (refine Zi ?_; refine Zv ?_) | intro _)
  cases hok : (!b1 && decide (st1 = 0))
  ·have hm : Vl x1 l1 st1 b1 = (([], []), l1, st1, b1) := by rw [Vl, hok]; rfl
   rw [hm] at hq
   have hck := fun ρ => XG ρ ⟨none, 0, 0, none, 0, 0⟩ ⟨x1, [], []⟩ CIn.nil
   simp only [contE] at hq
   generalize hB2 : XJ b1 st1 (ZR ⟨x1, [], []⟩) = b2 at *
   subst hq
   repeat' (first | (refine Zc (.func 247) ?_; refine qC rfl rfl (ok_spec _ bt br all b1 _ _ _ a1 n1 c1 st1) ?_; rintro v ρ' L' hle ⟨rfl, rfl, rfl⟩ <;> (try simp only [kM, kN, kO, hok])) | (refine Zg ?_; first | (refine Zf ?_; refine qQ ?_) | refine Zj ?_) | refine Za ?_ | (refine Zh ?_; refine Zu ?_) | (refine Zi ?_; refine Zv ?_) | intro _)
   cases hco : ZR ⟨x1, [], []⟩
   all_goals rw [hco] at hck hB2
   all_goals (repeat' (first | (refine Zc (.func 118) ?_; refine qC rfl rfl (hck _) ?_; rintro v ρ' L' hle ⟨rfl, rfl, rfl⟩ <;> (try simp only [kM, kN, kO, if_true, if_false, Bool.false_eq_true])) | (refine Zc (.func 244) ?_; refine qC rfl rfl (Xu _ bt br all b1 _ _ _ a1 n1 c1 st1 _) ?_; rintro v ρ' L' hle ⟨rfl, rfl, rfl⟩ <;> (try simp only [kM, kN, kO, hB2])) | (refine Zg ?_; first | (refine Zf ?_; refine qQ ?_) | refine Zj ?_) | refine Za ?_ | (refine Zh ?_; refine Zu ?_) | (refine Zi ?_; refine Zv ?_) | intro _))
   all_goals exact qE ⟨Hp.le_refl _, ⟨none, 0, 0, none, 0, 0⟩, a1, n1, c1, rfl, CIn.nil, h1, hc1, rfl⟩
  ·have hlf := fun ρ (h : SIn ρ ZD a1 n1 l1) => tleaf_spec ρ bt br all b1 (.int .i64 x1) (.slice none 0 0) (.slice none 0 0) rfl rfl rfl a1 n1 c1 l1 h hc1 st1
   have hm : Vl x1 l1 st1 b1 = (((Xm WM l1 st1 b1).1, []), (Xm WM l1 st1 b1).2) := by rw [Vl, if_pos hok, if_pos (by omega)]
   rw [hm] at hq
   generalize Xm WM l1 st1 b1 = m at *
   obtain ⟨xs, l2, st2, b2⟩ := m
   dsimp only at hq hlf
   have hck := fun ρ w h => XG ρ w ⟨x1, xs, []⟩ h
   simp only [contE] at hq
   generalize hB2 : XJ b2 st2 (ZR ⟨x1, xs, []⟩) = b3 at *
   subst hq
   repeat' (first | (refine Zc (.func 247) ?_; refine qC rfl rfl (ok_spec _ bt br all b1 _ _ _ a1 n1 c1 st1) ?_; rintro v ρ' L' hle ⟨rfl, rfl, rfl⟩ <;> (try simp only [kM, kN, kO, hok])) | (refine Zc (.tmp 40) ?_; refine qC rfl rfl (hlf _ h1) ?_; rintro v ρ' L' hle ⟨rfl, hle2, sa, sn, sc, a2, n2, c2, hsc, hs255, hA, h2, hc2, rfl⟩ <;> (try simp only [kM, kN, kO])) | (refine Zg ?_; first | (refine Zf ?_; refine qQ ?_) | refine Zj ?_) | refine Za ?_ | (refine Zh ?_; refine Zu ?_) | (refine Zi ?_; refine Zv ?_) | intro _)
   have hC : CIn ρ' ⟨sa, sn, sc, none, 0, 0⟩ xs [] := ⟨hA, AIn.nil, by dsimp only; omega, Nat.zero_le _, hsc, Nat.le_refl _⟩
   cases hco : ZR ⟨x1, xs, []⟩
   all_goals rw [hco] at hck hB2
   all_goals (repeat' (first | (refine Zc (.func 118) ?_; refine qC rfl rfl (hck _ _ hC) ?_; rintro v ρ' L' hle ⟨rfl, rfl, rfl⟩ <;> (try simp only [kM, kN, kO, if_true, if_false, Bool.false_eq_true])) | (refine Zc (.func 244) ?_; refine qC rfl rfl (Xu _ bt br all b2 _ _ _ a2 n2 c2 st2 _) ?_; rintro v ρ' L' hle ⟨rfl, rfl, rfl⟩ <;> (try simp only [kM, kN, kO, hB2])) | (refine Zg ?_; first | (refine Zf ?_; refine qQ ?_) | refine Zj ?_) | refine Za ?_ | (refine Zh ?_; refine Zu ?_) | (refine Zi ?_; refine Zv ?_) | intro _))
   all_goals exact qE ⟨hle2, ⟨sa, sn, sc, none, 0, 0⟩, a2, n2, c2, rfl, hC, h2, hc2, rfl⟩
 ·rw [decide_eq_true (show (x1 : Int) ≤ 2 by omega)] at hB1
  repeat' (first | (refine Zc (.func 97) ?_; refine qC rfl rfl (hn1) ?_; rintro v ρ' L' hle ⟨rfl, rfl, a1, n1, c1, h1, hc1, rfl⟩ <;> (try simp only [kM, kN, kO])) | (refine Zc (.func 244) ?_; refine qC rfl rfl (Xu _ bt br all false _ _ _ a1 n1 c1 st1 _) ?_; rintro v ρ' L' hle ⟨rfl, rfl, rfl⟩ <;> (try simp only [kM, kN, kO, hB1])) | (refine Yx rfl rfl rfl hnil (fun es1 ck1 i1 i2 => ?_)) | (refine Yx rfl rfl rfl i1 (fun es2 ck2 j1 j2 => ?_); have hg := j2 (x1 : Int); rw [if_pos hx] at hg) | (refine Zg ?_; first | (refine Zf ?_; refine qQ ?_) | refine Zj ?_) | refine Za ?_ | (refine Zh ?_; refine Zu ?_) | (refine Zi ?_; refine Zv ?_) | intro _)
  cases hok : (!b1 && decide (st1 = 0))
  ·have hm : Vl x1 l1 st1 b1 = (([], []), l1, st1, b1) := by rw [Vl, hok]; rfl
   rw [hm] at hq
   have hck := fun ρ => XG ρ ⟨none, 0, 0, none, 0, 0⟩ ⟨x1, [], []⟩ CIn.nil
   simp only [contE] at hq
   generalize hB2 : XJ b1 st1 (ZR ⟨x1, [], []⟩) = b2 at *
   subst hq
   repeat' (first | (refine Zc (.func 247) ?_; refine qC rfl rfl (ok_spec _ bt br all b1 _ _ _ a1 n1 c1 st1) ?_; rintro v ρ' L' hle ⟨rfl, rfl, rfl⟩ <;> (try simp only [kM, kN, kO, hok])) | (refine Zg ?_; first | (refine Zf ?_; refine qQ ?_) | refine Zj ?_) | refine Za ?_ | (refine Zh ?_; refine Zu ?_) | (refine Zi ?_; refine Zv ?_) | intro _)
   cases hco : ZR ⟨x1, [], []⟩
   all_goals rw [hco] at hck hB2
   all_goals (repeat' (first | (refine Zc (.func 118) ?_; refine qC rfl rfl (hck _) ?_; rintro v ρ' L' hle ⟨rfl, rfl, rfl⟩ <;> (try simp only [kM, kN, kO, if_true, if_false, Bool.false_eq_true])) | (refine Zc (.func 244) ?_; refine qC rfl rfl (Xu _ bt br all b1 _ _ _ a1 n1 c1 st1 _) ?_; rintro v ρ' L' hle ⟨rfl, rfl, rfl⟩ <;> (try simp only [kM, kN, kO, hB2])) | (refine Zg ?_; first | (refine Zf ?_; refine qQ ?_) | refine Zj ?_) | refine Za ?_ | (refine Zh ?_; refine Zu ?_) | (refine Zi ?_; refine Zv ?_) | intro _))
   all_goals exact qE ⟨Hp.le_refl _, ⟨none, 0, 0, none, 0, 0⟩, a1, n1, c1, rfl, CIn.nil, h1, hc1, rfl⟩
  ·have hlf := fun ρ (h : SIn ρ ZD a1 n1 l1) => tinner_spec ρ bt br all b1 (.int .i64 x1) (.slice none 0 0) (.slice none 0 0) rfl rfl rfl a1 n1 c1 l1 h hc1 st1
   have hm : Vl x1 l1 st1 b1 = (([], (Xm XV l1 st1 b1).1), (Xm XV l1 st1 b1).2) := by rw [Vl, if_pos hok, if_neg (by omega), if_pos (by omega)]
   rw [hm] at hq
   generalize Xm XV l1 st1 b1 = m at *
   obtain ⟨xs, l2, st2, b2⟩ := m
   dsimp only at hq hlf
   have hck := fun ρ w h => XG ρ w ⟨x1, [], xs⟩ h
   simp only [contE] at hq
   generalize hB2 : XJ b2 st2 (ZR ⟨x1, [], xs⟩) = b3 at *
   subst hq
   repeat' (first | (refine Zc (.func 247) ?_; refine qC rfl rfl (ok_spec _ bt br all b1 _ _ _ a1 n1 c1 st1) ?_; rintro v ρ' L' hle ⟨rfl, rfl, rfl⟩ <;> (try simp only [kM, kN, kO, hok])) | (refine Zc (.tmp 40) ?_; refine qC rfl rfl (hlf _ h1) ?_; rintro v ρ' L' hle ⟨rfl, hle2, sa, sn, sc, a2, n2, c2, hsc, hs255, hA, h2, hc2, rfl⟩ <;> (try simp only [kM, kN, kO])) | (refine Zg ?_; first | (refine Zf ?_; refine qQ ?_) | refine Zj ?_) | refine Za ?_ | (refine Zh ?_; refine Zu ?_) | (refine Zi ?_; refine Zv ?_) | intro _)
   have hC : CIn ρ' ⟨none, 0, 0, sa, sn, sc⟩ [] xs := ⟨AIn.nil, hA, Nat.zero_le _, by dsimp only; omega, Nat.le_refl _, hsc⟩
   cases hco : ZR ⟨x1, [], xs⟩
   all_goals rw [hco] at hck hB2
   all_goals (repeat' (first | (refine Zc (.func 118) ?_; refine qC rfl rfl (hck _ _ hC) ?_; rintro v ρ' L' hle ⟨rfl, rfl, rfl⟩ <;> (try simp only [kM, kN, kO, if_true, if_false, Bool.false_eq_true])) | (refine Zc (.func 244) ?_; refine qC rfl rfl (Xu _ bt br all b2 _ _ _ a2 n2 c2 st2 _) ?_; rintro v ρ' L' hle ⟨rfl, rfl, rfl⟩ <;> (try simp only [kM, kN, kO, hB2])) | (refine Zg ?_; first | (refine Zf ?_; refine qQ ?_) | refine Zj ?_) | refine Za ?_ | (refine Zh ?_; refine Zu ?_) | (refine Zi ?_; refine Zv ?_) | intro _))
   all_goals exact qE ⟨hle2, ⟨none, 0, 0, sa, sn, sc⟩, a2, n2, c2, rfl, hC, h2, hc2, rfl⟩
 ·rw [decide_eq_true (show (x1 : Int) ≤ 2 by omega)] at hB1
  repeat' (first | (refine Zc (.func 97) ?_; refine qC rfl rfl (hn1) ?_; rintro v ρ' L' hle ⟨rfl, rfl, a1, n1, c1, h1, hc1, rfl⟩ <;> (try simp only [kM, kN, kO])) | (refine Zc (.func 244) ?_; refine qC rfl rfl (Xu _ bt br all false _ _ _ a1 n1 c1 st1 _) ?_; rintro v ρ' L' hle ⟨rfl, rfl, rfl⟩ <;> (try simp only [kM, kN, kO, hB1])) | (refine Yx rfl rfl rfl hnil (fun es1 ck1 i1 i2 => ?_)) | (refine Yx rfl rfl rfl i1 (fun es2 ck2 j1 j2 => ?_); have hg := j2 (x1 : Int); rw [i2, if_neg (by omega), if_neg (by omega), hg0] at hg) | (refine Zg ?_; first | (refine Zf ?_; refine qQ ?_) | refine Zj ?_) | refine Za ?_ | (refine Zh ?_; refine Zu ?_) | (refine Zi ?_; refine Zv ?_) | intro _)
  have hm : Vl x1 l1 st1 b1 = (([], []), l1, st1, b1) := by
   rw [Vl]
   split
   ·rw [if_neg (by omega), if_neg (by omega)]
   ·rfl
  rw [hm] at hq
  have hck := fun ρ => XG ρ ⟨none, 0, 0, none, 0, 0⟩ ⟨x1, [], []⟩ CIn.nil
  simp only [contE] at hq
  generalize hB2 : XJ b1 st1 (ZR ⟨x1, [], []⟩) = b2 at *
  subst hq
  cases hco : ZR ⟨x1, [], []⟩
  all_goals rw [hco] at hck hB2
  all_goals (repeat' (first | (refine Zc (.func 118) ?_; refine qC rfl rfl (hck _) ?_; rintro v ρ' L' hle ⟨rfl, rfl, rfl⟩ <;> (try simp only [kM, kN, kO, if_true, if_false, Bool.false_eq_true])) | (refine Zc (.func 244) ?_; refine qC rfl rfl (Xu _ bt br all b1 _ _ _ a1 n1 c1 st1 _) ?_; rintro v ρ' L' hle ⟨rfl, rfl, rfl⟩ <;> (try simp only [kM, kN, kO, hB2])) | (refine Zg ?_; first | (refine Zf ?_; refine qQ ?_) | refine Zj ?_) | refine Za ?_ | (refine Zh ?_; refine Zu ?_) | (refine Zi ?_; refine Zv ?_) | intro _))
  all_goals exact qE ⟨Hp.le_refl _, ⟨none, 0, 0, none, 0, 0⟩, a1, n1, c1, rfl, CIn.nil, h1, hc1, rfl⟩
 ·rw [decide_eq_false (show ¬ (x1 : Int) ≤ 2 by omega)] at hB1
  repeat' (first | (refine Zc (.func 97) ?_; refine qC rfl rfl (hn1) ?_; rintro v ρ' L' hle ⟨rfl, rfl, a1, n1, c1, h1, hc1, rfl⟩ <;> (try simp only [kM, kN, kO])) | (refine Zc (.func 244) ?_; refine qC rfl rfl (Xu _ bt br all false _ _ _ a1 n1 c1 st1 _) ?_; rintro v ρ' L' hle ⟨rfl, rfl, rfl⟩ <;> (try simp only [kM, kN, kO, hB1])) | (refine Yx rfl rfl rfl hnil (fun es1 ck1 i1 i2 => ?_)) | (refine Yx rfl rfl rfl i1 (fun es2 ck2 j1 j2 => ?_); have hg := j2 (x1 : Int); rw [i2, if_neg (by omega), if_neg (by omega), hg0] at hg) | (refine Zg ?_; first | (refine Zf ?_; refine qQ ?_) | refine Zj ?_) | refine Za ?_ | (refine Zh ?_; refine Zu ?_) | (refine Zi ?_; refine Zv ?_) | intro _)
  have hm : Vl x1 l1 st1 b1 = (([], []), l1, st1, b1) := by
   rw [Vl]
   split
   ·rw [if_neg (by omega), if_neg (by omega)]
   ·rfl
  rw [hm] at hq
  have hck := fun ρ => XG ρ ⟨none, 0, 0, none, 0, 0⟩ ⟨x1, [], []⟩ CIn.nil
  simp only [contE] at hq
  generalize hB2 : XJ b1 st1 (ZR ⟨x1, [], []⟩) = b2 at *
  subst hq
  cases hco : ZR ⟨x1, [], []⟩
  all_goals rw [hco] at hck hB2
  all_goals (repeat' (first | (refine Zc (.func 118) ?_; refine qC rfl rfl (hck _) ?_; rintro v ρ' L' hle ⟨rfl, rfl, rfl⟩ <;> (try simp only [kM, kN, kO, if_true, if_false, Bool.false_eq_true])) | (refine Zc (.func 244) ?_; refine qC rfl rfl (Xu _ bt br all b1 _ _ _ a1 n1 c1 st1 _) ?_; rintro v ρ' L' hle ⟨rfl, rfl, rfl⟩ <;> (try simp only [kM, kN, kO, hB2])) | (refine Zg ?_; first | (refine Zf ?_; refine qQ ?_) | refine Zj ?_) | refine Za ?_ | (refine Zh ?_; refine Zu ?_) | (refine Zi ?_; refine Zv ?_) | intro _))
  all_goals exact qE ⟨Hp.le_refl _, ⟨none, 0, 0, none, 0, 0⟩, a1, n1, c1, rfl, CIn.nil, h1, hc1, rfl⟩
theorem Vr (k : Nat) (l : List UInt8) (st : Int) : (Yz k l st).2.1.length ≤ l.length := by
 unfold Yz; split
 ·exact Nat.le_refl _
 ·split
  ·exact Nat.le_refl _
  ·simp
theorem rawR_len (k : Nat) (l : List UInt8) (st : Int) : (rawR k l st).2.1.length ≤ l.length := by
 unfold rawR; split
 ·exact Nat.le_refl _
 ·split
  ·exact Nat.le_refl _
  ·simp
theorem rowR_len (l : List UInt8) (st : Int) (bad : Bool) : (WM l st bad).2.1.length ≤ l.length := by
 unfold WM
 dsimp only
 have e1 := Vr 1 l st
 generalize Yz 1 l st = r1 at *
 have e2 := Vr 2 r1.2.1 r1.2.2
 generalize Yz 2 r1.2.1 r1.2.2 = r2 at *
 have e3 := Vr 8 r2.2.1 r2.2.2
 generalize Yz 8 r2.2.1 r2.2.2 = r3 at *
 have e4 := Vr 1 r3.2.1 r3.2.2
 generalize Yz 1 r3.2.1 r3.2.2 = r4 at *
 have e5 := rawR_len r4.1 r4.2.1 r4.2.2
 split
 ·split <;> dsimp only <;> omega
 ·dsimp only; omega
theorem kidR_len (l : List UInt8) (st : Int) : (kidR l st).2.1.length ≤ l.length := by
 unfold kidR
 dsimp only
 have e1 := Vr 1 l st
 generalize Yz 1 l st = r1 at *
 have e2 := Vr 2 r1.2.1 r1.2.2
 generalize Yz 2 r1.2.1 r1.2.2 = r2 at *
 have e3 := Vr 1 r2.2.1 r2.2.2
 omega
theorem manyTo_len {α : Type} {f : List UInt8 → Int → Bool → α × RS3} (hf : ∀ l st bad, (f l st bad).2.1.length ≤ l.length) : ∀ (n : Nat) (l : List UInt8) (st : Int) (bad : Bool), (XK f n l st bad).2.1.length ≤ l.length
 | 0, l, st, bad => Nat.le_refl _
 | n + 1, l, st, bad => by
  rw [XK]
  split
  ·exact Nat.le_trans (manyTo_len hf n _ _ _) (hf l st bad)
  ·exact Nat.le_refl _
theorem manyR_len {α : Type} {f : List UInt8 → Int → Bool → α × RS3} (hf : ∀ l st bad, (f l st bad).2.1.length ≤ l.length) (l : List UInt8) (st : Int) (bad : Bool) : (Xm f l st bad).2.1.length ≤ l.length :=
 Nat.le_trans (manyTo_len hf _ _ _ _) (Vr 1 l st)
theorem contentR_len (l : List UInt8) : (YX l).2.1.length ≤ l.length := by
 unfold YX contE
 dsimp only
 have e1 := Vr 1 l 0
 generalize Yz 1 l 0 = r1 at *
 have h2 : ∀ b, (Vl r1.1 r1.2.1 r1.2.2 b).2.1.length ≤ r1.2.1.length := fun b => by
  unfold Vl
  have a1 := manyR_len (f := WM) rowR_len r1.2.1 r1.2.2 b
  have a2 := manyR_len (f := XV) (fun l st bad => kidR_len l st) r1.2.1 r1.2.2 b
  split
  ·split
   ·exact a1
   ·split
    ·exact a2
    ·exact Nat.le_refl _
  ·exact Nat.le_refl _
 exact Nat.le_trans (h2 _) e1
def Yd (l : List UInt8) : YE × Int × Int :=
 let r := YX l
 (if r.2.2.2 || decide (r.2.2.1 ≠ 0) then ⟨0, [], []⟩ else r.1, takenN l.length r.2.1.length r.2.2.2 r.2.2.1, takenE r.2.2.2 r.2.2.1)
theorem takeCont_spec (ρ : Hp) (a : Option Addr) (n c : Nat) (l : List UInt8) (h : SIn ρ ZD a n l) (hn : n ≤ 1000000) :
  Spec Tryz.prog 147 [.slice a n c] ρ [] (fun v ρ' L' => ρ.le ρ' ∧ ∃ w, v = .tuple ⟨[.agg ⟨Wf (Yd l).1.kind w⟩, .int .i64 (Yd l).2.1, .int .i64 (Yd l).2.2]⟩ ∧ CIn ρ' w (Yd l).1.rows (Yd l).1.kids ∧ L' = []) := by
 have hf := from_spec ρ a n c l h hn
 have hl := h.len
 have hlen := contentR_len l
 unfold Yd
 dsimp only
 rw [hl] at hlen ⊢
 refine Ze Tryz.func147 rfl rfl rfl fun u R => ?_
 simp only [Zp, List.cons_append, List.nil_append]
 repeat' (first | (refine Zc (.func 203) ?_; refine qC rfl rfl (hf) ?_; rintro v ρ' L' hle ⟨hle1, bt, br, a1, c1, rfl, hc1, h1, rfl⟩ <;> (try simp only [kM, kN, kO])) | (refine Zg ?_; first | (refine Zf ?_; refine qQ ?_) | refine Zj ?_) | refine Za ?_ | (refine Zh ?_; refine Zu ?_) | (refine Zi ?_; refine Zv ?_) | intro _)
 have hr := content_spec _ bt br n a1 n c1 l h1 hc1
 generalize YX l = r at *
 obtain ⟨x, l2, st2, b2⟩ := r
 dsimp only at hr hlen ⊢
 repeat' (first | (refine Zc (.func 205) ?_; refine qC rfl rfl (hr) ?_; rintro v ρ' L' hle ⟨hle2, w, a2, n2, c2, rfl, hC, h2, hc2, rfl⟩ <;> (try simp only [kM, kN, kO])) | (refine Zg ?_; first | (refine Zf ?_; refine qQ ?_) | refine Zj ?_) | refine Za ?_ | (refine Zh ?_; refine Zu ?_) | (refine Zi ?_; refine Zv ?_) | intro _)
 have hl2 := h2.len
 rw [hl2]
 have ht := fun ρ => takenCont_spec ρ bt br n hn b2 (.int .i64 x.kind) (.slice w.ra w.rn w.rc) (.slice w.ka w.kn w.kc) a2 n2 c2 st2 x.kind w (by omega)
 by_cases hb : (b2 || decide (st2 ≠ 0)) = true
 ·rw [if_pos hb] at ht
  rw [if_pos hb]
  repeat' (first | (refine Zc (.func 204) ?_; refine qC rfl rfl (ht _) ?_; rintro v ρ' L' hle ⟨rfl, rfl, rfl⟩ <;> (try simp only [kM, kN, kO])) | (refine Zg ?_; first | (refine Zf ?_; refine qQ ?_) | refine Zj ?_) | refine Za ?_ | (refine Zh ?_; refine Zu ?_) | (refine Zi ?_; refine Zv ?_) | intro _)
  exact qE ⟨Hp.le_trans hle1 hle2, ⟨none, 0, 0, none, 0, 0⟩, rfl, CIn.nil, rfl⟩
 ·rw [if_neg hb] at ht
  rw [if_neg hb]
  repeat' (first | (refine Zc (.func 204) ?_; refine qC rfl rfl (ht _) ?_; rintro v ρ' L' hle ⟨rfl, rfl, rfl⟩ <;> (try simp only [kM, kN, kO])) | (refine Zg ?_; first | (refine Zf ?_; refine qQ ?_) | refine Zj ?_) | refine Za ?_ | (refine Zh ?_; refine Zu ?_) | (refine Zi ?_; refine Zv ?_) | intro _)
  exact qE ⟨Hp.le_trans hle1 hle2, w, rfl, hC, rfl⟩
def tB (t : Int) : UInt8 := UInt8.ofNat t.toNat
def keyB (t : Int) (id : Nat) : List UInt8 := tB t :: be 2 id
def vN (v : Int) : Nat := (IntKind.u64.wrap v).toNat
theorem vN_eq (v : Int) : IntKind.u64.wrap v = (vN v : Nat) := by
 have : 0 ≤ IntKind.u64.wrap v := by simp only [IntKind.wrap, IntKind.bits, IntKind.signed, Bool.false_and, Bool.false_eq_true, if_false]; omega
 simp [vN]; omega
theorem vN_lt (v : Int) : vN v < 18446744073709551616 := by
 have : IntKind.u64.wrap v < 18446744073709551616 := by simp only [IntKind.wrap, IntKind.bits, IntKind.signed, Bool.false_and, Bool.false_eq_true, if_false]; omega
 have h := vN_eq v
 omega
def Yp (r : Row) : List UInt8 := keyB r.t r.id ++ (be 8 (vN r.val) ++ (UInt8.ofNat r.note.length :: r.note))
theorem tB_eq {t : Int} (h0 : 0 ≤ t) (h1 : t < 256) : Value.int .u8 t = ZD (tB t) := by
 obtain ⟨n, rfl⟩ : ∃ n : Nat, t = n := ⟨t.toNat, by omega⟩
 simp only [ZD, tB, Int.toNat_natCast, UInt8.toNat_ofNat']
 congr 1
 have e : (2 : Nat) ^ 8 = 256 := by decide
 rw [e]
 omega
theorem key_spec (ρ : Hp) (v : Value) (n : Nat) (l : List UInt8) (sp : List Value) (hown : OwnS v n (l.map ZD) sp 1) (hn : n ≤ 100000) (t : Int) (id : Nat) (h0 : 0 ≤ t) (h3 : t < 256) (hid : id < 65536) :
  Spec Tryz.prog 231 [v, .agg ⟨keyV t id⟩] ρ [YC v (l.map ZD) sp 5] (fun r ρ' L' => ρ.le ρ' ∧ ∃ sp', OwnS r (n + 3) ((l ++ keyB t id).map ZD) sp' 1 ∧ L' = [YC r ((l ++ keyB t id).map ZD) sp' 5]) := by
 have hl : l.length = n := by obtain ⟨_, _, _, h⟩ := hown.len; simpa using h
 refine Ze Tryz.func231 rfl rfl rfl fun u R => ?_
 simp only [Zp, List.cons_append, List.nil_append]
 repeat' (first | (refine Zg ?_; first | (refine Zf ?_; refine qQ ?_) | refine Zj ?_) | refine Za ?_ | (refine Zh ?_; refine Zu ?_) | (refine Zi ?_; refine Zv ?_) | intro _)
 rename_i b3
 refine Zz (Zq _ _ ([[(b3, .cells ⟨keyV t id⟩ 128 (0, 0))]])) (Zx (hT := tk) (Hp.le_refl _)) ?_
 all_goals (refine ZU 0 ?_; refine YB 1 ?_; refine Ya 2 ?_; refine rCv 3 ?_; refine YB 6 ?_; refine Ya 7 ?_)
 all_goals (refine Zm (i := 4) ?_; ((try refine Zk ?_); (first | (refine ZC rfl rfl rfl rfl (by simp) rfl rfl (fun _ => ?_); simp only [tB_eq h0 h3]) | (refine Zj ?_; try intro _)) <;> ((try simp only [kM, kN, kO]); refine Za ?_; refine Zl ?_)))
 all_goals (refine Zm (i := 5) ?_; ((try refine Zk ?_); (first | (refine Xc (ys := [ZD (tB t)]) (m := 1) rfl rfl hown (hR := by infer_instance) SrcV.lit rfl rfl (by decide) rfl (by omega) (by omega) rfl (fun v' sp' hown' => ?_); rw [show l.map ZD ++ [ZD (tB t)] = (l ++ [tB t]).map ZD by simp] at hown' ⊢; refine ZL _ (h := Rem.here) (fun ρ2 hle2 hfz => ?_); obtain ⟨a', c', rfl, hc', hs⟩ := hown'.sIn hfz) | (refine Zj ?_; try intro _)) <;> ((try simp only [kM, kN, kO]); refine Za ?_; refine Zl ?_)))
 all_goals (refine Zm (i := 8) ?_; ((try refine Zk ?_); (first | (refine Zc (.func 221) ?_; refine qC rfl rfl (put16_spec _ a' _ c' _ hs id hid (by omega)) ?_; rintro v ρ' L' hle ⟨rfl, sp2, hown2, rfl⟩ <;> (try simp only [kM, kN, kO])) | (refine Zj ?_; try intro _)) <;> ((try simp only [kM, kN, kO]); refine Za ?_; refine Zl ?_)))
 all_goals (refine ZP ?_; refine rAs 9 ?_; refine ZI ?_)
 have e : l ++ [tB t] ++ be 2 id = l ++ keyB t id := by rw [List.append_assoc]; rfl
 rw [e] at hown2 ⊢
 repeat' (first | (refine Zg ?_; first | (refine Zf ?_; refine qQ ?_) | refine Zj ?_) | refine Za ?_ | (refine Zh ?_; refine Zu ?_) | (refine Zi ?_; refine Zv ?_) | intro _)
 exact qE ⟨hle2, sp2, hown2, rfl⟩
theorem rowOk_iff {r : Row} (h : Wb r = true) : 0 ≤ r.t ∧ r.t < 3 ∧ r.note.length ≤ 8 := by
 have := of_decide_eq_true h
 exact ⟨this.1.1, this.1.2, this.2⟩
theorem lenB {n : Nat} (h : n ≤ 200) : Value.int .u8 (n : Int) = ZD (UInt8.ofNat n) := by
 simp only [ZD, UInt8.toNat_ofNat']
 congr 1
 have e : (2 : Nat) ^ 8 = 256 := by decide
 rw [e]
 omega
theorem claid_spec (ρ : Hp) (v : Value) (n : Nat) (l : List UInt8) (sp : List Value) (hown : OwnS v n (l.map ZD) sp 1) (hn : n ≤ 1000) (r : Row) (hr : Wb r = true) (hid : r.id < 65536) :
  Spec Tryz.prog 230 [v, .agg ⟨We r⟩] ρ [YC v (l.map ZD) sp 5] (fun q ρ' L' => ρ.le ρ' ∧ ∃ sp', OwnS q (n + (Yp r).length) ((l ++ Yp r).map ZD) sp' 1 ∧ L' = [YC q ((l ++ Yp r).map ZD) sp' 5]) := by
 obtain ⟨h0, h3, h8⟩ := rowOk_iff hr
 have hl : l.length = n := by obtain ⟨_, _, _, h⟩ := hown.len; simpa using h
 have hvl := vN_lt r.val
 have hkb : (keyB r.t r.id).length = 3 := by simp [keyB, Zs]
 have hlb := lenB (n := r.note.length) (by omega)
 refine Ze Tryz.func230 rfl rfl rfl fun u R => ?_
 simp only [Zp, List.cons_append, List.nil_append]
 repeat' (first | (refine Zg ?_; first | (refine Zf ?_; refine qQ ?_) | refine Zj ?_) | refine Za ?_ | (refine Zh ?_; refine Zu ?_) | (refine Zi ?_; refine Zv ?_) | intro _)
 rename_i b3
 refine Zz (Zq _ _ ([[(b3, .cells ⟨We r⟩ 130 (0, 0))]])) (Zx (hT := tk) (Hp.le_refl _)) ?_
 all_goals (refine ZU 0 ?_; refine YB 1 ?_; refine Ya 2 ?_; refine YB 4 ?_; refine Ya 5 ?_; refine rCv 6 ?_)
 all_goals (refine Zm (i := 3) ?_; ((try refine Zk ?_); (first | (simp only [vN_eq]; refine Zc (.func 231) ?_; refine qC rfl rfl (key_spec _ v n l sp hown (by omega) r.t r.id h0 (by omega) hid) ?_; rintro v1 ρ1 L1 hle0 ⟨hle1, sp1, hown1, rfl⟩; simp only [List.cons_append, List.nil_append]; refine ZL _ (h := Rem.here) (fun ρ2 hle2 hfz => ?_); obtain ⟨a1, c1, rfl, hc1, hs1⟩ := hown1.sIn hfz) | (refine Zj ?_; try intro _)) <;> ((try simp only [kM, kN, kO]); refine Za ?_; refine Zl ?_)))
 all_goals (refine Zm (i := 7) ?_; ((try refine Zk ?_); (first | (refine Zc (.func 178) ?_; refine qC rfl rfl (put64_spec _ a1 _ c1 _ hs1 (vN r.val) hvl (by omega)) ?_; rintro v ρ' L' hle ⟨rfl, sp3, hown3, rfl⟩ <;> (try simp only [kM, kN, kO])) | (refine Zj ?_; try intro _)) <;> ((try simp only [kM, kN, kO]); refine Za ?_; refine Zl ?_)))
 all_goals (refine ZP ?_; refine rAs 8 ?_; refine ZI ?_)
 repeat' (first | (refine Zg ?_; first | (refine Zf ?_; refine qQ ?_) | refine Zj ?_) | refine Za ?_ | (refine Zh ?_; refine Zu ?_) | (refine Zi ?_; refine Zv ?_) | intro _)
 refine Zz (Zq _ _ ([[(b3, .cells ⟨We r⟩ 130 (0, 0))]])) (Zx (hT := tk) (Hp.le_refl _)) ?_
 all_goals (refine ZU 0 ?_; refine YB 1 ?_; refine Ya 2 ?_; refine rBi 3 ?_; refine rCv 4 ?_; refine YB 7 ?_; refine Ya 8 ?_)
 all_goals (refine Zm (i := 5) ?_; ((try refine Zk ?_); (first | (refine ZC rfl rfl rfl rfl (by simp) rfl rfl (fun _ => ?_); simp only [hlb]) | (refine Zj ?_; try intro _)) <;> ((try simp only [kM, kN, kO]); refine Za ?_; refine Zl ?_)))
 all_goals (refine Zm (i := 6) ?_; ((try refine Zk ?_); (first | (refine Xc (ys := [ZD (UInt8.ofNat r.note.length)]) (m := 1) rfl rfl hown3 (hR := by infer_instance) SrcV.lit rfl rfl (by decide) rfl (by omega) (by omega) rfl (fun v4 sp4 hown4 => ?_)) | (refine tl_app_str (l := r.note) rfl rfl hown4 (hR := by infer_instance) (by omega) rfl (fun v5 sp5 hown5 => ?_)) | (refine Zj ?_; try intro _)) <;> ((try simp only [kM, kN, kO]); refine Za ?_; refine Zl ?_)))
 all_goals (refine Zm (i := 9) ?_; ((try refine Zk ?_); (first | (refine Xc (ys := [ZD (UInt8.ofNat r.note.length)]) (m := 1) rfl rfl hown3 (hR := by infer_instance) SrcV.lit rfl rfl (by decide) rfl (by omega) (by omega) rfl (fun v4 sp4 hown4 => ?_)) | (refine tl_app_str (l := r.note) rfl rfl hown4 (hR := by infer_instance) (by omega) rfl (fun v5 sp5 hown5 => ?_)) | (refine Zj ?_; try intro _)) <;> ((try simp only [kM, kN, kO]); refine Za ?_; refine Zl ?_)))
 all_goals (refine ZP ?_; refine rAs 10 ?_; refine ZI ?_)
 have e : (l ++ keyB r.t r.id ++ be 8 (vN r.val)).map ZD ++ [ZD (UInt8.ofNat r.note.length)] ++ r.note.map ZD = (l ++ Yp r).map ZD := by simp [Yp]
 have e2 : n + 3 + 8 + 1 + r.note.length = n + (Yp r).length := by simp [Yp, hkb, Zs]; omega
 rw [e] at hown5 ⊢
 rw [e2] at hown5
 repeat' (first | (refine Zg ?_; first | (refine Zf ?_; refine qQ ?_) | refine Zj ?_) | refine Za ?_ | (refine Zh ?_; refine Zu ?_) | (refine Zi ?_; refine Zv ?_) | intro _)
 exact qE ⟨Hp.le_trans hle1 hle2, sp5, hown5, rfl⟩
theorem rowE_spec (ρ : Hp) (r : Row) (hid : r.id < 65536) :
  Spec Tryz.prog 220 [.agg ⟨We r⟩] ρ [] (fun v ρ' L' => ρ.le ρ' ∧ ∃ a n c, v = .tuple ⟨[.slice a n c, .int .i64 (if Wb r then 0 else 151)]⟩ ∧ n ≤ c ∧ SIn ρ' ZD a n (if Wb r then Yp r else []) ∧ L' = []) := by
 have hck := fun ρ => checkRow_spec ρ r
 refine Ze Tryz.func220 rfl rfl rfl fun u R => ?_
 simp only [Zp, List.cons_append, List.nil_append]
 cases hok : Wb r
 ·simp only [hok, Bool.false_eq_true, if_false] at hck ⊢
  repeat' (first | (refine Zc (.func 225) ?_; refine qC rfl rfl (hck _) ?_; rintro v ρ' L' hle ⟨rfl, rfl, rfl⟩ <;> (try simp only [kM, kN, kO])) | (refine Zg ?_; first | (refine Zf ?_; refine qQ ?_) | refine Zj ?_) | refine Za ?_ | (refine Zh ?_; refine Zu ?_) | (refine Zi ?_; refine Zv ?_) | intro _)
  exact qE ⟨Hp.le_refl _, none, 0, 0, rfl, Nat.le_refl _, SIn.nil, rfl⟩
 ·simp only [hok, if_true] at hck ⊢
  repeat' (first | (refine Zc (.func 225) ?_; refine qC rfl rfl (hck _) ?_; rintro v ρ' L' hle ⟨rfl, rfl, rfl⟩ <;> (try simp only [kM, kN, kO])) | (refine Zc (.func 230) ?_; refine tl_call rfl rfl (claid_spec _ (.slice none 0 0) 0 [] [] (OwnS.nil 1) (by omega) r hok hid) (take_cons' rem_nil' take_nil') rfl ?_; rintro v1 ρ1 L1 hle0 ⟨hle1, sp1, hown1, rfl⟩; simp only [List.cons_append, List.nil_append, Nat.zero_add] at hown1 ⊢; refine ZL _ (h := Rem.here) (fun ρ2 hle2 hfz => ?_); obtain ⟨a1, c1, rfl, hc1, hs1⟩ := hown1.sIn hfz) | (refine Zg ?_; first | (refine Zf ?_; refine qQ ?_) | refine Zj ?_) | refine Za ?_ | (refine Zh ?_; refine Zu ?_) | (refine Zi ?_; refine Zv ?_) | intro _)
  exact qE ⟨Hp.le_trans hle1 hle2, a1, _, c1, rfl, hc1, hs1, rfl⟩
end Go.Proofs.E
