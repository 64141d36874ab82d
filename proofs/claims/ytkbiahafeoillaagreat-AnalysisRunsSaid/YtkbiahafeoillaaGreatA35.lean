/- Laws of analysis. Part 35 of 41. -/
import Derived.Test.YtkbiahafeoillaaGreatA34
namespace Go.Proofs.E
open Go
set_option linter.unusedVariables false
set_option linter.unusedSimpArgs false
set_option linter.unusedSectionVars false
set_option maxRecDepth 4000
set_option maxHeartbeats 1000000
attribute [local irreducible] Yl TL TC TE Spec Xb R1 Hp.le EnvLe TS TR YS Zk
theorem OwnS.pos {v n xs sp sz} (h : OwnS v n xs sp sz) (h0 : 0 < n) : ∃ b cap, v = .slice (some ⟨b, 0, none⟩) n cap := by
 rcases h.out with ⟨_, h2, _⟩ | ⟨b, cap, h1, _⟩
 ·omega
 ·exact ⟨b, cap, h1⟩
structure CInW (ρ : Hp) (v : CV) (rows : List Row) (kids : List Kid) : Prop where
 r : AIn ρ 4 rowV v.ra v.rn rows
 k : AIn ρ 3 kidV v.ka v.kn kids
 rb : v.rn ≤ 9223372036854775807
 kb : v.kn ≤ 9223372036854775807
 rc : v.rn ≤ v.rc
 kc : v.kn ≤ v.kc
theorem CInW.mono {ρ ρ' v rows kids} (h : CInW ρ v rows kids) (hle : ρ.le ρ') : CInW ρ' v rows kids := ⟨h.r.mono hle, h.k.mono hle, h.rb, h.kb, h.rc, h.kc⟩
def unI (x : Im) : Im := ⟨x.page, nilCV, ztC, x.bv, x.b⟩
theorem flatMap_len2 {α : Type} (f g : α → List UInt8) : ∀ (l : List α), (∀ x ∈ l, (f x).length = (g x).length) → (l.flatMap f).length = (l.flatMap g).length
 | [], _ => rfl
 | x :: r, h => by
  rw [List.flatMap_cons, List.flatMap_cons, List.length_append, List.length_append, h x (by simp), flatMap_len2 f g r (fun y hy => h y (by simp [hy]))]
theorem sects04_spec (ρ : Hp) (n : Nat) (hn : n ≤ 4611686018427387904) : Spec Tryz.prog 217 [.int .i64 n] ρ [] (fun v ρ' L' => v = .int .i64 (sectsB n : Nat) ∧ ρ' = ρ ∧ L' = []) := by
 refine Zd Tryz.func217 rfl rfl rfl fun u R => ?_
 simp only [Zo, List.cons_append, List.nil_append]
 have e : max 1 (IntKind.i64.wrap (((n : Int) + 51).tdiv 52)) = ((sectsB n : Nat) : Int) := by
  rw [Int.tdiv_eq_ediv_of_nonneg (by omega), WO (by simp only [lo, hi]; omega)]
  unfold sectsB; omega
 repeat' (first | refine zV ?_ | intro _)
 rw [e]
 exact qE ⟨rfl, rfl, rfl⟩
theorem cost12_spec (ρ : Hp) (v : RV) (r : Rc) (h : RcIn ρ v r) (hL : LayOk r) : Spec Tryz.prog 216 [.agg ⟨Yx v r⟩] ρ []
  (fun z ρ' L' => ρ.le ρ' ∧ z = .int .i64 (sectsB (XA r).length : Nat) ∧ L' = []) := by
 have hb := recB_le hL
 have hB := bytes12_spec ρ v r h hL
 refine Zd Tryz.func216 rfl rfl rfl fun u R => ?_
 simp only [Zo, List.cons_append, List.nil_append]
 repeat' (first | (refine Zc (.func 218) ?_; refine qC rfl rfl (hB) ?_; rintro v ρ' L' hle ⟨hl1, a, c, rfl, hc, hs, rfl⟩ <;> (try simp only [kM, kN, kO])) | (refine Zc (.func 217) ?_; refine qC rfl rfl (sects04_spec _ _ (by omega)) ?_; rintro v ρ' L' hle ⟨rfl, rfl, rfl⟩ <;> (try simp only [kM, kN, kO])) | refine zV ?_ | intro _)
 exact qE ⟨hl1, rfl, rfl⟩
def unR (l : List Im) : Rc := ⟨5, 0, 0, 0, 0, l.map unI, [], 0, [], []⟩
theorem unR_lay {l : List Im} (h1 : l.length ≤ 16) (h2 : ∀ x ∈ l, (0 ≤ x.page ∧ x.page < 64) ∧ YE x.b = true) : LayOk (unR l) := by
 refine ⟨by simp [unR], by simp [unR], by simp [unR], by simp [unR], by simp [unR], by simp [unR], by simp [unR]; omega, ?_, by simp [unR], by simp [unR], by simp [unR], by simp [unR], by simp [unR], by simp [unR]⟩
 intro x hx
 obtain ⟨y, hy, rfl⟩ := List.mem_map.1 hx
 exact ⟨(h2 y hy).1, (h2 y hy).2, contOk_z⟩
theorem unR_len (l : List Im) : (XA (unR l)).length = (XA (undR l)).length := by
 unfold XA recHB recTB imsB XJ
 simp only [unR, undR, show ¬ ((5 : Int) = 2) by decide, show ¬ ((5 : Int) = 3) by decide, show ¬ ((5 : Int) = 4) by decide, if_false, if_true, decide_false, List.length_append, List.length_cons, Zm, List.flatMap_map, List.length_map]
 rw [flatMap_len2 (fun a => imB false (unI a)) (fun a => imB false (undI a)) l (fun x _ => by simp [imB, unI, undI])]
theorem reserve12_spec (ρ : Hp) (v : RV) (r : Rc) (h : RcIn ρ v r) (hok : ZU r = true) : Spec Tryz.prog 203 [.agg ⟨Yx v r⟩] ρ []
  (fun z ρ' L' => ρ.le ρ' ∧ z = .int .i64 (XZ r : Nat) ∧ L' = []) := by
 have hF := Xp hok
 unfold XZ
 rw [hok, if_pos rfl]
 refine Zd Tryz.func203 rfl rfl rfl fun u R => ?_
 simp only [Zo, List.cons_append, List.nil_append]
 by_cases k1 : r.kind = 1
 ·rw [if_pos k1]
  repeat' (first | refine zV ?_ | intro _)
  exact qE (L' := []) ⟨Hp.le_refl _, rfl, rfl⟩
 ·rw [if_neg k1]
  by_cases k2 : r.kind = 2
  ·rw [if_pos k2]
   have hA := h.i.at'
   have hl := hA.len
   have hil := hF.il
   have hlay := unR_lay hil (fun x hx => ⟨(hF.im x hx).1, (hF.im x hx).2.2⟩)
   repeat' (first | refine zV ?_ | intro _)
   rename_i rb ub
   refine Zq [(1, _), (2, _), (3, _), (11, _), (17, _), (18, _)] (fun (ζ : (Nat) × (Value) × (List Value)) => [(19, .int .i64 ζ.1)]) (fun (ζ : (Nat) × (Value) × (List Value)) => ρ) (fun (ζ : (Nat) × (Value) × (List Value)) => [[(ub, .cells ⟨[.int .i64 5, .int .u64 0, .int .i64 0, .int .u64 0, .int .u64 0, ζ.2.1, .slice none 0 0, .int .i64 0, .slice none 0 0, .slice none 0 0]⟩ 34 (0, 0))], ZG ζ.2.1 ((((r.ims.take ζ.1).map unI).map imV).flatten) ζ.2.2 100, [(rb, .cells ⟨Yx v r⟩ 34 (0, 0))]]) (fun (ζ : (Nat) × (Value) × (List Value)) => ζ.1 ≤ v.i.n ∧ OwnS ζ.2.1 ζ.1 ((((r.ims.take ζ.1).map unI).map imV).flatten) ζ.2.2 7) (fun (ζ : (Nat) × (Value) × (List Value)) => v.i.n - ζ.1) ((0, .slice none 0 0, [])) (⟨Nat.zero_le _, OwnS.nil 7⟩) Ze Ze rfl tk ?_
   rintro ⟨k, vv, sp⟩ hI
   try simp only [List.cons_append, List.nil_append, List.append_assoc, List.append_eq] at hI ⊢
   try dsimp only at hI ⊢
   obtain ⟨hk, hown⟩ := hI
   obtain ⟨va, vc, rfl, _⟩ := hown.slice
   by_cases hlt : k < v.i.n
   ·obtain ⟨b, off, C, T, fr, e1, hb, hfit, hc⟩ := hA.get (show k < r.ims.length by omega)
    have hx := List.take_succ_eq_append_getElem (show k < r.ims.length by omega)
    generalize r.ims[k]'(by omega) = x at *
    rw [e1]
    repeat' (first | refine zV ?_ | intro _)
    refine ZH (css := [imV (unI x)]) (sz := 7) rfl rfl rfl rfl (by simp) (by simp) rfl (fun bs => ?_)
    simp only [List.flatten_cons, List.flatten_nil, List.append_nil]
    refine ZZ (ys := imV (unI x)) (m := 1) rfl rfl hown (hR := by infer_instance) (SrcV.lit) rfl rfl (by decide) rfl (by omega) (by omega) rfl (fun v' sp' hown' => ?_)
    have hm : (((r.ims.take k).map unI).map imV).flatten ++ imV (unI x) = (((r.ims.take (k + 1)).map unI).map imV).flatten := by rw [hx]; simp
    rw [hm] at hown' ⊢
    obtain ⟨va', vc', rfl, _⟩ := hown'.slice
    repeat' (first | refine zV ?_ | intro _)
    rw [← e1]
    refine Zg (k + 1, _, sp') (⟨hlt, hown'⟩) Ze Ze rfl tk inferInstance (by first | omega | (dsimp only; omega))
   ·have hk2 : k = r.ims.length := by omega
    rw [show r.ims.take k = r.ims by rw [hk2, List.take_length]] at hown ⊢
    refine tc_freeze (ZG (.slice va k vc) (((r.ims.map unI).map imV).flatten) sp 100) (fun ρ3 hle3 hfz => ?_)
    obtain ⟨sa, sc, e1, hsc, hA2⟩ := hown.aIn (by simp; omega) (fun x _ => imV_len x) hfz
    cases e1
    have hU : RcIn ρ3 ⟨⟨va, k, vc⟩, ⟨none, 0, 0⟩, ⟨none, 0, 0⟩, ⟨none, 0, 0⟩⟩ (unR r.ims) := ⟨⟨hA2, by dsimp only; omega, hsc⟩, fun x hx => by
     obtain ⟨y, hy, rfl⟩ := List.mem_map.1 hx
     exact ⟨CI.nil, ((h.im y hy).b).mono hle3⟩, AS.nil, AS.nil, AS.nil, by simp [unR]⟩
    have hla := cost12_spec ρ3 _ _ hU hlay
    rw [unR_len] at hla
    repeat' (first | (refine Zc (.func 216) ?_; refine qC rfl rfl (hla) ?_; rintro v ρ' L' hle ⟨hl1, rfl, rfl⟩ <;> (try simp only [kM, kN, kO])) | refine zV ?_ | intro _)
    exact qE (L' := []) ⟨Hp.le_trans hle3 hl1, rfl, rfl⟩
  ·rw [if_neg k2]
   by_cases k4 : r.kind = 4
   ·rw [if_pos k4]
    have hA := h.s.at'
    have hl := hA.len
    have hsl := hF.sl
    have hU : ∀ ρ, RcIn ρ ⟨⟨none, 0, 0⟩, ⟨none, 0, 0⟩, ⟨none, 0, 0⟩, ⟨none, 0, 0⟩⟩ (undR []) := fun ρ => ⟨AS.nil, by simp [undR], AS.nil, AS.nil, AS.nil, by simp [undR]⟩
    have hla := fun ρ => bytes12_spec ρ _ _ (hU ρ) (undR_lay (l := []) (by simp) (by simp))
    rw [undR_nil] at hla
    repeat' (first | refine zV ?_ | intro _)
    refine Zq [(2, _), (3, _), (39, _), (40, _)] (fun (ζ : (Nat) × (Nat)) => [(41, .int .i64 ζ.1), (6, .int .i64 ζ.2)]) (fun (ζ : (Nat) × (Nat)) => ρ) (fun (ζ : (Nat) × (Nat)) => [[(_, .cells ⟨Yx v r⟩ 34 (0, 0))]]) (fun (ζ : (Nat) × (Nat)) => ζ.1 ≤ v.s.n ∧ ζ.2 = pagesN (r.steps.take ζ.1)) (fun (ζ : (Nat) × (Nat)) => v.s.n - ζ.1) ((0, 0)) (⟨Nat.zero_le _, rfl⟩) Ze Ze rfl tk ?_
    rintro ⟨k, n⟩ hI
    try simp only [List.cons_append, List.nil_append, List.append_assoc, List.append_eq] at hI ⊢
    try dsimp only at hI ⊢
    obtain ⟨hk, hn⟩ := hI
    have hple := pagesN_le (r.steps.take k)
    have htl : (r.steps.take k).length ≤ 2 := by simp; omega
    by_cases hlt : k < v.s.n
    ·obtain ⟨b, off, C, T, fr, e1, hb, hfit, hc⟩ := hA.get (show k < r.steps.length by omega)
     have hx := pagesN_succ r.steps k (by omega)
     generalize r.steps[k]'(by omega) = x at *
     rw [e1]
     unfold stepN at hx
     by_cases h34 : x.kind = 3 ∨ x.kind = 4
     ·rw [if_pos h34] at hx
      rcases h34 with e | e
      all_goals (repeat' (first | refine zV ?_ | intro _))
      all_goals rw [← e1]
      all_goals refine Zg (k + 1, n + 12) (⟨hlt, by dsimp only; omega⟩) Ze Ze rfl tk inferInstance (by first | omega | (dsimp only; omega))
     ·rw [if_neg h34] at hx
      repeat' (first | refine zV ?_ | intro _)
      rw [← e1]
      refine Zg (k + 1, n + 1) (⟨hlt, by dsimp only; omega⟩) Ze Ze rfl tk inferInstance (by first | omega | (dsimp only; omega))
    ·rw [show r.steps.take k = r.steps by rw [show k = r.steps.length by omega, List.take_length]] at hn hple htl
     subst hn
     repeat' (first | (refine Zc (.func 218) ?_; refine qC rfl rfl (hla _) ?_; rintro v ρ' L' hle ⟨hl1, a, c, rfl, hc, hs, rfl⟩ <;> (try simp only [kM, kN, kO])) | (rw [show ((30 : Nat) : Int) + min ((pagesN r.steps : Nat) : Int) 16 * 83 = ((30 + min (pagesN r.steps) 16 * 83 : Nat) : Int) by omega]; refine Zc (.func 217) ?_; refine qC rfl rfl (sects04_spec _ _ (by omega)) ?_; rintro z1 ρ1 L1 hle0 ⟨rfl, rfl, rfl⟩; simp only [List.cons_append, List.nil_append]) | refine zV ?_ | intro _)
     exact qE (L' := []) ⟨hl1, rfl, rfl⟩
   ·rw [if_neg k4]
    repeat' (first | refine zV ?_ | intro _)
    exact qE (L' := []) ⟨Hp.le_refl _, rfl, rfl⟩
theorem pushed18_spec (ρ : Hp) (x : Tx) (hin : Tx.In ρ x) (hb1 : x.sv.n ≤ 1099511627776) (hb2 : x.mv.n ≤ 1099511627776) (rv : RV) (r : Rc) (hr : RcIn ρ rv r) (hok : ZU r = true) : Spec Tryz.prog 184 [.agg ⟨Yk x⟩, .agg ⟨Yx rv r⟩] ρ []
  (fun z ρ' L' => ρ.le ρ' ∧ ∃ y : Tx, z = .agg ⟨Yk y⟩ ∧ Tx.In ρ' y ∧ y.p = pushT x.p r ∧ L' = []) := by
 have hS := hin.s
 have hSl := hS.len
 have hM := hin.m
 have hxm := hin.mc
 have hre := reserve12_spec ρ rv r hr hok
 have hlf : [Value.int .u64 r.lsn, .int .i64 (XZ r : Nat)] = lfV (Xw r) := rfl
 refine Zd Tryz.func184 rfl rfl rfl fun u R => ?_
 simp only [Zo, List.cons_append, List.nil_append]
 repeat' (first | refine zV ?_ | intro _)
 rename_i b1 b2 b3
 refine tc_phase 11 (Zk _ _ ([[(b1, .cells ⟨Yk x⟩ 45 (0, 0))], [(b2, .cells ⟨Yx rv r⟩ 34 (0, 0))]])) (by decide +kernel) (Zw (hT := tk) (Hp.le_refl _)) ?_
 simp only [List.take_succ_cons, List.take_zero]
 all_goals (refine ZN 1 ?_; refine ZQ 2 ?_; refine ZN 4 ?_; refine ZQ 5 ?_; refine ZQ 6 ?_)
 all_goals (refine Zj (i := 0) ?_; ((try refine Zh ?_); (first | (refine ZH (css := [lfV (Xw r)]) (sz := 2) rfl rfl rfl rfl (by simp) (by simp) rfl (fun bs => ?_); simp only [List.flatten_cons, List.flatten_nil, List.append_nil]) | (refine ZF ?_; try intro _)) <;> ((try simp only [kM, kN, kO]); refine Zf ?_; refine Zi ?_)))
 all_goals (refine Zj (i := 3) ?_; ((try refine Zh ?_); (first | (refine ZZ (n := 0) (xs := []) (sp := []) (ys := (x.stack.map lfV).flatten) (m := x.sv.n) (sz := 2) rfl rfl (OwnS.zero _ 2) (hR := by repeat (first | exact ZD | apply ZA)) hS.srcV (by rw [XC lfV_len, hSl]) (flat_oneG (fun _ => rfl) _) (by decide) rfl (by omega) (by omega) rfl (fun v1 sp1 o1 => ?_); simp only [Nat.zero_add, List.nil_append] at o1 ⊢; obtain ⟨a1, c1, rfl, q1⟩ := o1.slice) | (refine ZH (css := [lfV (Xw r)]) (sz := 2) rfl rfl rfl rfl (by simp) (by simp) rfl (fun bs => ?_); simp only [List.flatten_cons, List.flatten_nil, List.append_nil]) | (refine ZZ (ys := lfV (Xw r)) (m := 1) rfl rfl o1 (hR := by repeat (first | exact ZD | apply ZA)) SrcV.lit rfl rfl (by decide) rfl (by omega) (by omega) rfl (fun v3 sp3 o3 => ?_); obtain ⟨va3, vc3, rfl, _⟩ := o3.slice) | (refine ZF ?_; try intro _)) <;> ((try simp only [kM, kN, kO]); refine Zf ?_; refine Zi ?_)))
 all_goals (refine Zj (i := 7) ?_; ((try refine Zh ?_); (first | (refine Zc (.func 203) ?_; refine qC rfl rfl (hre) ?_; rintro v ρ' L' hle ⟨hz1, rfl, rfl⟩ <;> (try simp only [kM, kN, kO])) | (refine ZF ?_; try intro _)) <;> ((try simp only [kM, kN, kO]); refine Zf ?_; refine Zi ?_)))
 all_goals refine rBu 8 ?_ (y := fun _ _ => y_buildN rfl)
 all_goals (refine Zj (i := 9) ?_; ((try refine Zh ?_); (first | (refine ZH (css := [lfV (Xw r)]) (sz := 2) rfl rfl rfl rfl (by simp) (by simp) rfl (fun bs => ?_); simp only [List.flatten_cons, List.flatten_nil, List.append_nil]) | (refine ZF ?_; try intro _)) <;> ((try simp only [kM, kN, kO]); refine Zf ?_; refine Zi ?_)))
 all_goals (refine Zj (i := 10) ?_; ((try refine Zh ?_); (first | (refine ZZ (n := 0) (xs := []) (sp := []) (ys := (x.stack.map lfV).flatten) (m := x.sv.n) (sz := 2) rfl rfl (OwnS.zero _ 2) (hR := by repeat (first | exact ZD | apply ZA)) hS.srcV (by rw [XC lfV_len, hSl]) (flat_oneG (fun _ => rfl) _) (by decide) rfl (by omega) (by omega) rfl (fun v1 sp1 o1 => ?_); simp only [Nat.zero_add, List.nil_append] at o1 ⊢; obtain ⟨a1, c1, rfl, q1⟩ := o1.slice) | (refine ZH (css := [lfV (Xw r)]) (sz := 2) rfl rfl rfl rfl (by simp) (by simp) rfl (fun bs => ?_); simp only [List.flatten_cons, List.flatten_nil, List.append_nil]) | (refine ZZ (ys := lfV (Xw r)) (m := 1) rfl rfl o1 (hR := by repeat (first | exact ZD | apply ZA)) SrcV.lit rfl rfl (by decide) rfl (by omega) (by omega) rfl (fun v3 sp3 o3 => ?_); obtain ⟨va3, vc3, rfl, _⟩ := o3.slice) | (refine ZF ?_; try intro _)) <;> ((try simp only [kM, kN, kO]); refine Zf ?_; refine Zi ?_)))
 all_goals refine Zv ?_
 all_goals refine te_phase (fuel := 2) (m := [true, true, true, true, true, true, true, true, true, true, true, false, false]) (Zk _ _ ([])) rfl rfl (Zw (hT := tk) (Hp.le_refl _)) ?_
 all_goals refine ZN 11 ?_
 all_goals (refine Zj (i := 12) ?_; ((try refine Zh ?_); (first | (refine ZF ?_; try intro _)) <;> ((try simp only [kM, kN, kO]); refine Zf ?_; refine Zi ?_)))
 all_goals refine Zv ?_
 all_goals (repeat' (first | refine zV ?_ | intro _))
 all_goals (
  refine ZY (ZG (.slice va3 (x.sv.n + 1) vc3) ((x.stack.map lfV).flatten ++ lfV (Xw r)) sp3 108) (h := by repeat (first | exact ZD | apply ZA)) (fun ρ4 hle4 hf4 => ?_)
  have hm : (x.stack.map lfV).flatten ++ lfV (Xw r) = ((x.stack ++ [Xw r]).map lfV).flatten := by simp
  have hln : x.sv.n + 1 = (x.stack ++ [Xw r]).length := by simp [hSl]
  rw [hm, hln] at o3
  rw [hm, hln] at hf4
  obtain ⟨sa, sc, f1, hsc, hA2⟩ := o3.aIn rfl (fun _ _ => rfl) hf4
  have f2 := Value.slice.inj f1
  obtain ⟨f3, _, f4⟩ := f2
  subst f3; subst f4)
 all_goals exact qE (L' := []) (hle := Hp.le_trans hz1 hle4) ⟨Hp.le_trans hz1 hle4, ⟨x.num, x.state, x.first, x.last, r.lsn, x.stack ++ [Xw r], x.marks, ⟨_, x.sv.n + 1, _⟩, x.mv⟩, rfl, ⟨by rw [hln]; exact hA2, (hM.mono hz1).mono hle4, by dsimp only; omega, by dsimp only; omega, by rw [hln]; exact hsc, hxm⟩, rfl, rfl⟩
end Go.Proofs.E
