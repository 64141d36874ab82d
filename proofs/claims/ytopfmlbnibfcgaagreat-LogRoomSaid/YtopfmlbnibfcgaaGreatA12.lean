/- The law LogRoom. Part 12 of 16. -/
import Derived.Test.YtopfmlbnibfcgaaGreatA11
namespace Go.Proofs.E
open Go
set_option linter.unusedVariables false
set_option linter.unusedSimpArgs false
set_option linter.unusedSectionVars false
set_option maxRecDepth 4000
set_option maxHeartbeats 1000000
attribute [local irreducible] Yl TL TC TE Spec ZN R1 Hp.le EnvLe TS TR YS Zp TP QP
structure RcO (ρ : Hp) (v : RV) (r : Rc) (s1 s2 : List Value) : Prop where
 i : AS ρ 7 imV v.i r.ims
 im : ∀ x ∈ r.ims, Im.In ρ x
 s : AS ρ 6 YQ v.s r.steps
 t : OwnS (.slice v.t.a v.t.n v.t.c) r.txns.length (r.txns.map YB).flatten s1 5
 d : OwnS (.slice v.d.a v.d.n v.d.c) r.dirty.length (r.dirty.map YK).flatten s2 2
 tn : v.t.n = r.txns.length
 dn : v.d.n = r.dirty.length
 tb : v.t.n ≤ 9
 db : v.d.n ≤ 65
 sf : ∀ s ∈ r.steps, Xs s.row
theorem content16_spec (ρ : Hp) (w : CV) (c : XX) (h : CInW ρ w c.rows c.kids) :
  Spec Tryz.prog 56 [.agg ⟨Wy c.kind w⟩] ρ [] (fun v ρ' L' => ρ.le ρ' ∧ ∃ w', v = .agg ⟨Wy c.kind w'⟩ ∧ CIn ρ' w' (fewC c).rows (fewC c).kids ∧ L' = []) := by
 obtain ⟨kind, rows, kids⟩ := c
 obtain ⟨ra, rn, rc, ka, kn, kc⟩ := w
 obtain ⟨hr, hk, hrb, hkb, hrc, hkc⟩ := h
 dsimp only at hr hk hrb hkb hrc hkc
 have hrl := hr.len
 have hkl := hk.len
 dsimp only [fewC, Wy]
 obtain ⟨m, hm⟩ : ∃ m, m = min kn 5 := ⟨_, rfl⟩
 obtain ⟨q, hq⟩ : ∃ q, q = min rn 5 := ⟨_, rfl⟩
 have hmt : (min (kn : Int) 5).toNat = m := by omega
 have hqt : (min (rn : Int) 5).toNat = q := by omega
 have hk5 := hk.take (hi' := m) (by omega)
 have hr5 := hr.take (hi' := q) (by omega)
 rw [take_five _ _ _ hkl hm] at hk5
 rw [take_five _ _ _ hrl hq] at hr5
 have hm5 : m ≤ 5 := by omega
 have hq5 : q ≤ 5 := by omega
 generalize kids.take 5 = KS at *
 generalize rows.take 5 = RS at *
 refine Za Tryz.func56 rfl rfl rfl fun u R => ?_
 simp only [Zf, kA]
 repeat' (first | refine zV ?_ | intro _)
 rename_i b1 b2
 refine tc_cut_k R [] (fun (ζ : (Option Addr) × (Nat) × (List Value) × (Option Addr) × (Nat) × (List Value)) => [(1, .pointer (some ⟨b1, 0, none⟩)), (2, .pointer (some ⟨b2, 0, none⟩))]) (fun (ζ : (Option Addr) × (Nat) × (List Value) × (Option Addr) × (Nat) × (List Value)) => ρ) (fun (ζ : (Option Addr) × (Nat) × (List Value) × (Option Addr) × (Nat) × (List Value)) => [Zw (.slice ζ.1 q ζ.2.1) (RS.map Yi).flatten ζ.2.2.1 131, Zw (.slice ζ.2.2.2.1 m ζ.2.2.2.2.1) (KS.map Xi).flatten ζ.2.2.2.2.2 212, [(b1, .cells ⟨[.int .i64 kind, .slice ζ.1 q ζ.2.1, .slice ζ.2.2.2.1 m ζ.2.2.2.2.1]⟩ 104 (0, 0))], [(b2, .cells ⟨[.int .i64 0, .slice none 0 0, .slice none 0 0]⟩ 104 (0, 0))]]) (fun (ζ : (Option Addr) × (Nat) × (List Value) × (Option Addr) × (Nat) × (List Value)) => OwnS (.slice ζ.1 q ζ.2.1) q (RS.map Yi).flatten ζ.2.2.1 4 ∧ OwnS (.slice ζ.2.2.2.1 m ζ.2.2.2.2.1) m (KS.map Xi).flatten ζ.2.2.2.2.2 3) Zc ?_ ?_
 ·refine tc_phase 19 (Zp _ _ ([[(b1, .cells ⟨[.int .i64 kind, .slice ra rn rc, .slice ka kn kc]⟩ 104 (0, 0))]])) (by decide +kernel) (WD (hT := tk) (Hp.le_refl _)) ?_
  simp only [List.take_succ_cons, List.take_zero]
  all_goals (refine rFa 1 ?_; refine rLd 2 ?_; refine rFa 3 ?_; refine rLd 4 ?_; refine rBi 5 ?_; refine rBi 6 ?_; refine rSl 7 ?_; refine rFa 10 ?_; refine rLd 11 ?_; refine rFa 12 ?_; refine rLd 13 ?_; refine rBi 14 ?_; refine rBi 15 ?_; refine rSl 16 ?_)
  all_goals (refine rStep2 (i := 0) (j := 9) ?_ ?_ <;> ((try refine Zr ?_); (first | (refine qEf ?_; try intro _)) <;> ((try simp only [kA]); refine Zj ?_; refine rNext ?_)))
  all_goals (first | (refine rStep2 (i := 8) (j := 9) ?_ ?_ <;> ((try refine Zr ?_); (first | (simp only [hqt]; refine Yk (n := 0) (xs := []) (sp := []) (ys := (RS.map Yi).flatten) (m := q) (sz := 4) rfl rfl (OwnS.zero _ 4) (hR := by first | exact Zz | exact ZE Zz | exact ZE (ZE Zz)) (AIn.srcV hr5) (by rw [Xd Yi 4 _ (fun x _ => rfl), hr5.len]) (flatR_one _) (by decide) rfl (by omega) (by omega) rfl (fun v1 sp1 hown1 => ?_); simp only [Nat.zero_add, List.nil_append] at hown1 ⊢; obtain ⟨a1, c1, rfl, hlen1⟩ := hown1.len) | (simp only [hmt]; refine Yk (n := 0) (xs := []) (sp := []) (ys := (KS.map Xi).flatten) (m := m) (sz := 3) rfl rfl (OwnS.zero _ 3) (hR := by first | exact Zz | exact ZE Zz | exact ZE (ZE Zz)) (AIn.srcV hk5) (by rw [Xd Xi 3 _ (fun x _ => rfl), hk5.len]) (flatK_one _) (by decide) rfl (by omega) (by omega) rfl (fun v2 sp2 hown2 => ?_); simp only [Nat.zero_add, List.nil_append] at hown2 ⊢; obtain ⟨a2, c2, rfl, hlen2⟩ := hown2.len) | (refine qEf ?_; try intro _)) <;> ((try simp only [kA]); refine Zj ?_; refine rNext ?_))) | (refine rStep (i := 0) ?_; ((try refine Zr ?_); (first | (refine qEf ?_; try intro _)) <;> ((try simp only [kA]); refine Zj ?_; refine rNext ?_))))
  all_goals (first | refine rFa 18 ?_ | (refine rStep (i := 8) ?_; ((try refine Zr ?_); (first | (simp only [hqt]; refine Yk (n := 0) (xs := []) (sp := []) (ys := (RS.map Yi).flatten) (m := q) (sz := 4) rfl rfl (OwnS.zero _ 4) (hR := by first | exact Zz | exact ZE Zz | exact ZE (ZE Zz)) (AIn.srcV hr5) (by rw [Xd Yi 4 _ (fun x _ => rfl), hr5.len]) (flatR_one _) (by decide) rfl (by omega) (by omega) rfl (fun v1 sp1 hown1 => ?_); simp only [Nat.zero_add, List.nil_append] at hown1 ⊢; obtain ⟨a1, c1, rfl, hlen1⟩ := hown1.len) | (simp only [hmt]; refine Yk (n := 0) (xs := []) (sp := []) (ys := (KS.map Xi).flatten) (m := m) (sz := 3) rfl rfl (OwnS.zero _ 3) (hR := by first | exact Zz | exact ZE Zz | exact ZE (ZE Zz)) (AIn.srcV hk5) (by rw [Xd Xi 3 _ (fun x _ => rfl), hk5.len]) (flatK_one _) (by decide) rfl (by omega) (by omega) rfl (fun v2 sp2 hown2 => ?_); simp only [Nat.zero_add, List.nil_append] at hown2 ⊢; obtain ⟨a2, c2, rfl, hlen2⟩ := hown2.len) | (refine qEf ?_; try intro _)) <;> ((try simp only [kA]); refine Zj ?_; refine rNext ?_))))
  all_goals (first | refine rFa 18 ?_ | (refine rStep (i := 9) ?_; ((try refine Zr ?_); (first | (refine qEf ?_; try intro _)) <;> ((try simp only [kA]); refine Zj ?_; refine rNext ?_))))
  all_goals (refine rStep (i := 17) ?_; ((try refine Zr ?_); (first | (simp only [hqt]; refine Yk (n := 0) (xs := []) (sp := []) (ys := (RS.map Yi).flatten) (m := q) (sz := 4) rfl rfl (OwnS.zero _ 4) (hR := by first | exact Zz | exact ZE Zz | exact ZE (ZE Zz)) (AIn.srcV hr5) (by rw [Xd Yi 4 _ (fun x _ => rfl), hr5.len]) (flatR_one _) (by decide) rfl (by omega) (by omega) rfl (fun v1 sp1 hown1 => ?_); simp only [Nat.zero_add, List.nil_append] at hown1 ⊢; obtain ⟨a1, c1, rfl, hlen1⟩ := hown1.len) | (simp only [hmt]; refine Yk (n := 0) (xs := []) (sp := []) (ys := (KS.map Xi).flatten) (m := m) (sz := 3) rfl rfl (OwnS.zero _ 3) (hR := by first | exact Zz | exact ZE Zz | exact ZE (ZE Zz)) (AIn.srcV hk5) (by rw [Xd Xi 3 _ (fun x _ => rfl), hk5.len]) (flatK_one _) (by decide) rfl (by omega) (by omega) rfl (fun v2 sp2 hown2 => ?_); simp only [Nat.zero_add, List.nil_append] at hown2 ⊢; obtain ⟨a2, c2, rfl, hlen2⟩ := hown2.len) | (refine qEf ?_; try intro _)) <;> ((try simp only [kA]); refine Zj ?_; refine rNext ?_)))
  all_goals refine rDone ?_
  all_goals refine te_phase (fuel := 3) (m := [true, true, true, true, true, true, true, true, true, true, true, true, true, true, true, true, true, true, true, false, false, false]) (Zp _ _ ([])) rfl rfl (WD (hT := tk) (Hp.le_refl _)) ?_
  all_goals (refine rStep (i := 19) ?_; ((try refine Zr ?_); (first | (refine qEf ?_; try intro _)) <;> ((try simp only [kA]); refine Zj ?_; refine rNext ?_)))
  all_goals refine rFa 20 ?_
  all_goals (refine rStep (i := 21) ?_; ((try refine Zr ?_); (first | (refine qEf ?_; try intro _)) <;> ((try simp only [kA]); refine Zj ?_; refine rNext ?_)))
  all_goals refine rDone ?_
  all_goals refine YW ((a1, c1, sp1, a2, c2, sp2)) (⟨hown1, hown2⟩) Zc Zc rfl tk inferInstance
 ·rintro ⟨a1, c1, sp1, a2, c2, sp2⟩ ⟨hown1, hown2⟩
  simp only [kA] at hown1 hown2 ⊢
  have hRl := hr5.len
  repeat' (first | refine zV ?_ | intro _)
  refine Zm [(1, _), (2, _), (26, _)] (fun (ζ : (Nat) × (List Row)) => [(27, .int .i64 ζ.1)]) (fun (ζ : (Nat) × (List Row)) => ρ) (fun (ζ : (Nat) × (List Row)) => [Zw (.slice a1 q c1) (ζ.2.map Yi).flatten sp1 131, [(b1, .cells ⟨[.int .i64 kind, .slice a1 q c1, .slice a2 m c2]⟩ 104 (0, 0))]]) (fun (ζ : (Nat) × (List Row)) => ζ.1 ≤ q ∧ ζ.2 = (RS.take ζ.1).map shortR ++ RS.drop ζ.1) (fun (ζ : (Nat) × (List Row)) => q - ζ.1) ((0, RS)) (⟨Nat.zero_le _, by simp⟩) Zc Zc rfl tk ?_
  rintro ⟨k, acc⟩ hI
  try simp only [kA, List.append_assoc] at hI ⊢
  try dsimp only at hI ⊢
  obtain ⟨hk0, hacc⟩ := hI
  by_cases hlt : k < q
  ·have hal : acc.length = q := by rw [hacc]; simp; omega
   obtain ⟨pb, pc, e1⟩ := hown1.pos (by omega)
   cases e1
   have hkR : k < RS.length := by rw [hRl]; exact hlt
   have hkv := get_step RS k hkR
   have hset := set_step RS k hkR
   rw [← hacc] at hkv
   rw [← hacc] at hset
   generalize RS[k]'hkR = r at *
   have hld := row_get (sp := sp1) acc k r hkv
   haveI hst := row_setL (sp := sp1) (r.note.take (min (r.note.length : Int) 9).toNat) hkv
   have e9 := take_min9 r.note
   repeat' (first | refine zV ?_ | intro _)
   rw [show Zw (.slice (some ⟨pb, 0, none⟩) q c1) ((acc.map Yi).flatten) sp1 131 = [(pb, .cells ⟨(acc.map Yi).flatten ++ sp1⟩ 131 (0, 0))] from rfl]
   refine tc_phase 20 (Zp _ _ ([[(pb, .cells ⟨(acc.map Yi).flatten ++ sp1⟩ 131 (0, 0))], [(b1, .cells ⟨[.int .i64 kind, .slice (some ⟨pb, 0, none⟩) q c1, .slice a2 m c2]⟩ 104 (0, 0))]])) (by decide +kernel) (WD (hT := tk) (Hp.le_refl _)) ?_
   simp only [List.take_succ_cons, List.take_zero]
   all_goals (refine rFa 0 ?_; refine rLd 1 ?_; refine rMv 2 ?_; refine rFa 3 ?_; refine rLd 4 ?_; refine rMv 5 ?_; refine rIa 6 ?_; refine rFa 7 ?_; refine rLd 8 ?_; refine rFa 9 ?_; refine rLd 10 ?_; refine rMv 11 ?_; refine rIa 12 ?_; refine rFa 13 ?_; refine rLd 14 ?_; refine rBi 15 ?_; refine rBi 16 ?_; refine rSl 17 ?_; refine rIa 18 ?_; refine rFa 19 ?_; refine rDone ?_)
   all_goals refine te_phase (fuel := 1) (m := [true, true, true, true, true, true, true, true, true, true, true, true, true, true, true, true, true, true, true, true, false]) (Zp _ _ ([])) rfl rfl (WD (hT := tk) (Hp.le_refl _)) ?_
   all_goals (refine rStep (i := 20) ?_; ((try refine Zr ?_); (first | (refine qEf ?_; try intro _)) <;> ((try simp only [kA]); refine Zj ?_; refine rNext ?_)))
   all_goals refine rDone ?_
   all_goals rw [e9]
   all_goals (repeat' (first | refine zV ?_ | intro _))
   have hsr : (⟨r.t, r.id, r.val, r.note.take 9⟩ : Row) = shortR r := rfl
   rw [hsr]
   rw [← show Zw (.slice (some ⟨pb, 0, none⟩) q c1) (((acc.set k (shortR r)).map Yi).flatten) sp1 131 = [(pb, .cells ⟨((acc.set k (shortR r)).map Yi).flatten ++ sp1⟩ 131 (0, 0))] from rfl]
   refine Zi (k + 1, acc.set k (shortR r)) (⟨hlt, hset⟩) Zc Zc rfl tk inferInstance (by first | omega | (dsimp only; omega))
  ·have hkq : k = q := by omega
   have hfin : acc = RS.map shortR := by rw [hacc, List.take_of_length_le (by omega), List.drop_eq_nil_of_le (by omega), List.append_nil]
   have hal : acc.length = q := by rw [hfin]; simp; omega
   have hown1' : OwnS (.slice a1 q c1) q ((acc.map Yi).flatten) sp1 4 := by
    have hL : ((acc.map Yi).flatten).length = ((RS.map Yi).flatten).length := by rw [Xd Yi 4 _ (fun x _ => rfl), Xd Yi 4 _ (fun x _ => rfl), hal, hRl]
    rcases hown1.out with ⟨h1, h2, h3, h4⟩ | ⟨b, cap, h1, h2, h3, h4⟩
    ·exact ⟨.inl ⟨h1, h2, List.eq_nil_of_length_eq_zero (by rw [hL, h3]; rfl), h4⟩⟩
    ·exact ⟨.inr ⟨b, cap, h1, by rw [hL]; exact h2, by rw [hL]; exact h3, h4⟩⟩
   refine tc_freeze (Zw (.slice a1 q c1) ((acc.map Yi).flatten) sp1 131) (fun ρ1 hle1 hfz1 => ?_)
   obtain ⟨a3, c3, e3, hc3, hA3⟩ := hown1'.aIn hal (fun x _ => rfl) hfz1
   cases e3
   refine tc_freeze (Zw (.slice a2 m c2) ((KS.map Xi).flatten) sp2 212) (fun ρ2 hle2 hfz2 => ?_)
   obtain ⟨a4, c4, e4, hc4, hA4⟩ := hown2.aIn hk5.len (fun x _ => rfl) hfz2
   cases e4
   repeat' (first | refine zV ?_ | intro _)
   exact qE (L' := []) ⟨Hp.le_trans hle1 hle2, ⟨a1, q, c1, a2, m, c2⟩, rfl, ⟨by rw [← hfin]; exact hA3.mono hle2, hA4, by dsimp only; omega, by dsimp only; omega, hc3, hc4⟩, rfl⟩
theorem few16_spec (ρ : Hp) (v : RV) (r : Rc) (h : RcW ρ v r) : Spec Tryz.prog 10 [.agg ⟨Wt v r⟩] ρ []
  (fun z ρ' L' => ρ.le ρ' ∧ ∃ v' r' s1 s2, z = .agg ⟨Wt v' r'⟩ ∧ RcO ρ' v' r' s1 s2 ∧ r'.plain = fewR r ∧ L' = [Zw (.slice v'.t.a v'.t.n v'.t.c) (r'.txns.map YB).flatten s1 147, Zw (.slice v'.d.a v'.d.n v'.d.c) (r'.dirty.map YK).flatten s2 149]) := by
 obtain ⟨hi, him, hs, ht, hd, hsf⟩ := h
 have hsl := hs.at'.len
 have hsb := hs.big
 have htl := ht.at'.len
 have htb := ht.big
 have hdl := hd.at'.len
 have hdb := hd.big
 have cs := hs.cap
 have ct := ht.cap
 have cd := hd.cap
 obtain ⟨ms, hms⟩ : ∃ m, m = min v.s.n 3 := ⟨_, rfl⟩
 obtain ⟨mt, hmt⟩ : ∃ m, m = min v.t.n 9 := ⟨_, rfl⟩
 obtain ⟨md, hmd⟩ : ∃ m, m = min v.d.n 65 := ⟨_, rfl⟩
 have hsm : (min (v.s.n : Int) 3).toNat = ms := by omega
 have htm : (min (v.t.n : Int) 9).toNat = mt := by omega
 have hdm : (min (v.d.n : Int) 65).toNat = md := by omega
 have hS := hs.at'.take (hi' := ms) (by omega)
 have hT := ht.at'.take (hi' := mt) (by omega)
 have hD := hd.at'.take (hi' := md) (by omega)
 rw [take_some 3 _ _ _ hsl hms] at hS
 rw [take_some 9 _ _ _ htl hmt] at hT
 rw [take_some 65 _ _ _ hdl hmd] at hD
 have hSf : ∀ s ∈ r.steps.take 3, Xs s.row := fun s hh => hsf s (List.mem_of_mem_take hh)
 have hil := hi.at'.len
 have hib := hi.big
 refine Za Tryz.func10 rfl rfl rfl fun u R => ?_
 simp only [Zf, kA]
 repeat' (first | refine zV ?_ | intro _)
 rename_i b1 b2
 refine Zm [(1, _), (2, _), (8, _), (9, _)] (fun (ζ : (Nat) × (Hp) × (Value) × (List Value) × (List Im)) => [(10, .int .i64 ζ.1), (3, ζ.2.2.1)]) (fun (ζ : (Nat) × (Hp) × (Value) × (List Value) × (List Im)) => ζ.2.1) (fun (ζ : (Nat) × (Hp) × (Value) × (List Value) × (List Im)) => [Zw ζ.2.2.1 ((ζ.2.2.2.2.map imV).flatten) ζ.2.2.2.1 125]) (fun (ζ : (Nat) × (Hp) × (Value) × (List Value) × (List Im)) => ζ.1 ≤ v.i.n ∧ ρ.le ζ.2.1 ∧ OwnS ζ.2.2.1 ζ.2.2.2.2.length ((ζ.2.2.2.2.map imV).flatten) ζ.2.2.2.1 7 ∧ ζ.2.2.2.2.map Im.plain = (r.ims.take (min ζ.1 17)).map fewIm ∧ (∀ x ∈ ζ.2.2.2.2, Im.In ζ.2.1 x)) (fun (ζ : (Nat) × (Hp) × (Value) × (List Value) × (List Im)) => v.i.n - ζ.1) ((0, ρ, .slice none 0 0, [], [])) (⟨Nat.zero_le _, Hp.le_refl _, OwnS.nil 7, by simp, by simp⟩) Zc Zc rfl tk ?_
 rintro ⟨k, ρ1, vv, sp, acc⟩ hI
 try simp only [kA, List.append_assoc] at hI ⊢
 try dsimp only at hI ⊢
 obtain ⟨hk, hle1, hown, hacc, hin⟩ := hI
 have hal : acc.length = min k 17 := by have := congrArg List.length hacc; simp at this; omega
 obtain ⟨va, vc, rfl, _⟩ := hown.slice
 by_cases hlt : k < v.i.n
 ·obtain ⟨b, off, C, T, fr, e1, hb, hfit, hc⟩ := (hi.at'.mono hle1).get (show k < r.ims.length by omega)
  have hts := List.take_succ_eq_append_getElem (show k < r.ims.length by omega)
  obtain ⟨hxb, hxa⟩ := him _ (List.getElem_mem (show k < r.ims.length by omega))
  generalize r.ims[k]'(by omega) = x at *
  rw [e1]
  by_cases h16 : k ≤ 16
  ·have hcb := content16_spec ρ1 x.bv x.b (hxb.mono hle1).few
   have hca := fun ρ2 (hle : ρ1.le ρ2) => content16_spec ρ2 x.av x.a (hxa.mono (Hp.le_trans hle1 hle)).few
   repeat' (first | refine zV ?_ | intro _)
   refine tpA [0,1,2,3,4,6,7] (.e 5 [] (.e 8 [9] (.e 10 [] (.e 11 [] (.f [12] .o))))) ([[(_, .cells ⟨imV x⟩ 125 (0, 0))]]) ?_
   repeat' (refine iT ?_; first | refine rAb ?_ | ((refine iE ?_; refine rE ?_) <;> ((try refine Zr ?_); (first | (refine Zb (.func 56) ?_; refine qC rfl rfl (hcb) ?_; rintro v ρ' L' hle ⟨hl2, w2, rfl, hC2, rfl⟩ <;> (try simp only [kA])) | (refine Zb (.func 56) ?_; refine qC rfl rfl (hca _ hl2) ?_; rintro v ρ' L' hle ⟨hl3, w3, rfl, hC3, rfl⟩ <;> (try simp only [kA])) | (refine Yz (css := [[.int .i64 x.page, .int .i64 x.b.kind, .slice w2.ra w2.rn w2.rc, .slice w2.ka w2.kn w2.kc, .int .i64 x.a.kind, .slice w3.ra w3.rn w3.rc, .slice w3.ka w3.kn w3.kc]]) (sz := 7) rfl rfl rfl rfl (by simp) (by simp) rfl (fun bs => ?_); simp only [List.flatten_cons, List.flatten_nil, List.append_nil]) | (refine Yk (ys := [.int .i64 x.page, .int .i64 x.b.kind, .slice w2.ra w2.rn w2.rc, .slice w2.ka w2.kn w2.kc, .int .i64 x.a.kind, .slice w3.ra w3.rn w3.rc, .slice w3.ka w3.kn w3.kc]) (m := 1) rfl rfl hown (hR := by infer_instance) (SrcV.lit) rfl rfl (by decide) rfl (by omega) (by omega) rfl (fun v' sp' hown' => ?_)) | (refine qEf ?_; try intro _)) <;> ((try simp only [kA]); refine Zj ?_; refine rN ?_))))
   all_goals (
    have hy : ∃ y : Im, (⟨x.page, w2, fewC x.b, w3, fewC x.a⟩ : Im) = y := ⟨_, rfl⟩
    obtain ⟨y, hy⟩ := hy
    have hyp : y.plain = fewIm x := by rw [← hy]; rfl
    have hyi : Im.In ρ' y := by rw [← hy]; exact ⟨(fewC_fit hxb hC2).mono hl3, fewC_fit hxa hC3⟩
    have hyl : [.int .i64 x.page, .int .i64 x.b.kind, .slice w2.ra w2.rn w2.rc, .slice w2.ka w2.kn w2.kc, .int .i64 x.a.kind, .slice w3.ra w3.rn w3.rc, .slice w3.ka w3.kn w3.kc] = imV y := by rw [← hy]; rfl
    rw [hyl] at hown' ⊢
    have hm : (acc.map imV).flatten ++ imV y = ((acc ++ [y]).map imV).flatten := by simp
    rw [hm] at hown' ⊢
    have hac2 : (acc ++ [y]).map Im.plain = (r.ims.take (min (k + 1) 17)).map fewIm := by
     rw [List.map_append, hacc, show min k 17 = k by omega, show min (k + 1) 17 = k + 1 by omega, hts]
     simp [hyp]
    have hin2 : ∀ z ∈ acc ++ [y], Im.In ρ' z := fun z hz => by
     rcases List.mem_append.1 hz with hz | hz
     ·exact (hin z hz).mono (Hp.le_trans hl2 hl3)
     ·rw [List.mem_singleton.1 hz]; exact hyi
    have hown2 : OwnS v' (acc ++ [y]).length (((acc ++ [y]).map imV).flatten) sp' 7 := by simpa using hown'
    obtain ⟨va', vc', rfl, _⟩ := hown2.slice
    skip)
   all_goals (repeat' (first | refine zV ?_ | intro _))
   all_goals rw [← e1]
   all_goals refine Zi (k + 1, _, _, sp', acc ++ [y]) (⟨hlt, Hp.le_trans hle1 (Hp.le_trans hl2 hl3), hown2, hac2, hin2⟩) Zc Zc rfl tk inferInstance (by first | omega | (dsimp only; omega))
  ·have hacc' : acc.map Im.plain = (r.ims.take (min (k + 1) 17)).map fewIm := by rw [hacc, show min k 17 = 17 by omega, show min (k + 1) 17 = 17 by omega]
   repeat' (first | refine zV ?_ | intro _)
   rw [← e1]
   refine Zi (k + 1, ρ1, _, sp, acc) (⟨hlt, hle1, hown, hacc', hin⟩) Zc Zc rfl tk inferInstance (by first | omega | (dsimp only; omega))
 ·have hk2 : k = v.i.n := by omega
  have hacc2 : acc.map Im.plain = (r.ims.take 17).map fewIm := by rw [hacc, take_some 17 r.ims v.i.n (min k 17) hil (by omega)]
  have hρ := hle1
  have hSl := hS.len
  have hTl := hT.len
  have hDl := hD.len
  unfold fewR
  generalize hSS : r.steps.take 3 = SS at *
  generalize hTT : r.txns.take 9 = TT at *
  generalize hDD : r.dirty.take 65 = DD at *
  refine tc_freeze (Zw (.slice va acc.length vc) ((acc.map imV).flatten) sp 125) (fun ρ2 hle2 hfz => ?_)
  obtain ⟨sa, sc, e1, hsc, hAI⟩ := hown.aIn rfl (fun x _ => imV_len x) hfz
  cases e1
  have hρ := Hp.le_trans hρ hle2
  clear hfz
  repeat' (first | (simp only [hsm]; refine Yk (n := 0) (xs := []) (sp := []) (ys := (SS.map YQ).flatten) (m := ms) (sz := 6) rfl rfl (OwnS.zero _ 6) (hR := Zz) (AIn.srcV (hS.mono hρ)) (by rw [Xd YQ 6 _ (fun x _ => rfl), hSl]) (flat_one YQ stpV_one _) (by decide) rfl (by omega) (by omega) rfl (fun v1 sp1 hown1 => ?_); simp only [Nat.zero_add, List.nil_append] at hown1 ⊢; obtain ⟨a1, c1, rfl, hlen1⟩ := hown1.len) | refine zV ?_ | intro _)
  refine Zm [(1, _), (2, _), (44, _)] (fun (ζ : (Nat) × (List Stp)) => [(45, .int .i64 ζ.1)]) (fun (ζ : (Nat) × (List Stp)) => ρ2) (fun (ζ : (Nat) × (List Stp)) => [Zw (.slice a1 ms c1) (ζ.2.map YQ).flatten sp1 133, [(b1, .cells ⟨[.int .i64 r.kind, .int .u64 r.lsn, .int .i64 r.txn, .int .u64 r.prev, .int .u64 r.next, .slice va acc.length vc, .slice a1 ms c1, .int .i64 r.nextTxn, .slice v.t.a v.t.n v.t.c, .slice v.d.a v.d.n v.d.c]⟩ 39 (0, 0))]]) (fun (ζ : (Nat) × (List Stp)) => ζ.1 ≤ ms ∧ ζ.2 = (SS.take ζ.1).map shortS ++ SS.drop ζ.1) (fun (ζ : (Nat) × (List Stp)) => ms - ζ.1) ((0, SS)) (⟨Nat.zero_le _, by simp⟩) Zc Zc rfl tk ?_
  rintro ⟨j, accS⟩ hI
  try simp only [kA, List.append_assoc] at hI ⊢
  try dsimp only at hI ⊢
  obtain ⟨hj0, haccS⟩ := hI
  have halS : accS.length = ms := by rw [haccS]; simp; omega
  by_cases hlj : j < ms
  ·obtain ⟨pb, pc, e1⟩ := hown1.pos (by omega)
   cases e1
   have hkR : j < SS.length := by omega
   have hkv := get_stepG shortS SS j hkR
   have hset := set_stepG shortS SS j hkR
   rw [← haccS] at hkv
   rw [← haccS] at hset
   generalize SS[j]'hkR = x at *
   have hld := stp_get (sp := sp1) accS j x hkv
   haveI hst := stp_setL (sp := sp1) (x.row.note.take (min (x.row.note.length : Int) 9).toNat) hkv
   have e9 := take_min9 x.row.note
   repeat' (first | refine zV ?_ | intro _)
   rw [show Zw (.slice (some ⟨pb, 0, none⟩) ms c1) ((accS.map YQ).flatten) sp1 133 = [(pb, .cells ⟨(accS.map YQ).flatten ++ sp1⟩ 133 (0, 0))] from rfl]
   refine tc_phase 23 (Zp _ _ ([[(pb, .cells ⟨(accS.map YQ).flatten ++ sp1⟩ 133 (0, 0))], [(b1, .cells ⟨[.int .i64 r.kind, .int .u64 r.lsn, .int .i64 r.txn, .int .u64 r.prev, .int .u64 r.next, .slice va acc.length vc, .slice (some ⟨pb, 0, none⟩) ms c1, .int .i64 r.nextTxn, .slice v.t.a v.t.n v.t.c, .slice v.d.a v.d.n v.d.c]⟩ 39 (0, 0))]])) (by decide +kernel) (WD (hT := tk) (Hp.le_refl _)) ?_
   simp only [List.take_succ_cons, List.take_zero]
   all_goals (refine rFa 0 ?_; refine rLd 1 ?_; refine rMv 2 ?_; refine rFa 3 ?_; refine rLd 4 ?_; refine rMv 5 ?_; refine rIa 6 ?_; refine rFa 7 ?_; refine rFa 8 ?_; refine rLd 9 ?_; refine rFa 10 ?_; refine rLd 11 ?_; refine rMv 12 ?_; refine rIa 13 ?_; refine rFa 14 ?_; refine rFa 15 ?_; refine rLd 16 ?_; refine rBi 17 ?_; refine rBi 18 ?_; refine rSl 19 ?_; refine rIa 20 ?_; refine rFa 21 ?_; refine rFa 22 ?_; refine rDone ?_)
   all_goals refine te_phase (fuel := 1) (m := [true, true, true, true, true, true, true, true, true, true, true, true, true, true, true, true, true, true, true, true, true, true, true, false]) (Zp _ _ ([])) rfl rfl (WD (hT := tk) (Hp.le_refl _)) ?_
   all_goals (refine rStep (i := 23) ?_; ((try refine Zr ?_); (first | (refine qEf ?_; try intro _)) <;> ((try simp only [kA]); refine Zj ?_; refine rNext ?_)))
   all_goals refine rDone ?_
   all_goals rw [e9]
   all_goals (repeat' (first | refine zV ?_ | intro _))
   have hsr : noteS x (x.row.note.take 9) = shortS x := rfl
   rw [hsr]
   rw [← show Zw (.slice (some ⟨pb, 0, none⟩) ms c1) (((accS.set j (shortS x)).map YQ).flatten) sp1 133 = [(pb, .cells ⟨((accS.set j (shortS x)).map YQ).flatten ++ sp1⟩ 133 (0, 0))] from rfl]
   refine Zi (j + 1, accS.set j (shortS x)) (⟨hlj, hset⟩) Zc Zc rfl tk inferInstance (by first | omega | (dsimp only; omega))
  ·have hfin : accS = SS.map shortS := by rw [haccS, List.take_of_length_le (by omega), List.drop_eq_nil_of_le (by omega), List.append_nil]
   have hown1' : OwnS (.slice a1 ms c1) ms ((accS.map YQ).flatten) sp1 6 := by
    have hL : ((accS.map YQ).flatten).length = ((SS.map YQ).flatten).length := by rw [Xd YQ 6 _ (fun x _ => rfl), Xd YQ 6 _ (fun x _ => rfl), halS, hSl]
    rcases hown1.out with ⟨h1, h2, h3, h4⟩ | ⟨b, cap, h1, h2, h3, h4⟩
    ·exact ⟨.inl ⟨h1, h2, List.eq_nil_of_length_eq_zero (by rw [hL, h3]; rfl), h4⟩⟩
    ·exact ⟨.inr ⟨b, cap, h1, by rw [hL]; exact h2, by rw [hL]; exact h3, h4⟩⟩
   refine tc_freeze (Zw (.slice a1 ms c1) ((accS.map YQ).flatten) sp1 133) (fun ρ3 hle3 hfz => ?_)
   obtain ⟨sa3, sc3, e3, hsc3, hAS⟩ := hown1'.aIn halS (fun x _ => stpV_len x) hfz
   cases e3
   have hρ := Hp.le_trans hρ hle3
   clear hfz
   repeat' (first | (simp only [htm]; refine Yk (n := 0) (xs := []) (sp := []) (ys := (TT.map YB).flatten) (m := mt) (sz := 5) rfl rfl (OwnS.zero _ 5) (hR := Zz) (AIn.srcV (hT.mono hρ)) (by rw [Xd YB 5 _ (fun x _ => rfl), hTl]) (flat_one YB ckTV_one _) (by decide) rfl (by omega) (by omega) rfl (fun v4 sp4 hown4 => ?_); simp only [Nat.zero_add, List.nil_append] at hown4 ⊢; obtain ⟨a4, c4, rfl, hlen4⟩ := hown4.len) | (simp only [hdm]; refine Yk (n := 0) (xs := []) (sp := []) (ys := (DD.map YK).flatten) (m := md) (sz := 2) rfl rfl (OwnS.zero _ 2) (hR := Zz) (AIn.srcV (hD.mono hρ)) (by rw [Xd YK 2 _ (fun x _ => rfl), hDl]) (flat_one YK ckPV_one _) (by decide) rfl (by omega) (by omega) rfl (fun v5 sp5 hown5 => ?_); simp only [Nat.zero_add, List.nil_append] at hown5 ⊢; obtain ⟨a5, c5, rfl, hlen5⟩ := hown5.len) | refine zV ?_ | intro _)
   exact qE (L' := [Zw (.slice a4 mt c4) (TT.map YB).flatten sp4 147, Zw (.slice a5 md c5) (DD.map YK).flatten sp5 149]) ⟨hρ, ⟨⟨va, acc.length, vc⟩, ⟨a1, ms, c1⟩, ⟨a4, mt, c4⟩, ⟨a5, md, c5⟩⟩, { r with ims := acc, steps := accS, txns := TT, dirty := DD }, sp4, sp5, rfl, ⟨⟨hAI.mono hle3, by dsimp only; omega, hsc⟩, fun x hx => (hin x hx).mono (Hp.le_trans hle2 hle3), ⟨hAS, by dsimp only; omega, hsc3⟩, by dsimp only; rw [hTl]; exact hown4, by dsimp only; rw [hDl]; exact hown5, hTl.symm, hDl.symm, by dsimp only; omega, by dsimp only; omega, by rw [hfin]; intro s hs2; obtain ⟨y, hy, rfl⟩ := List.mem_map.1 hs2; exact ⟨(hSf y hy).id, (hSf y hy).val⟩⟩, by rw [hfin, ← hacc2], rfl⟩
end Go.Proofs.E
namespace Go.Proofs.E
open Go
set_option linter.unusedVariables false
set_option linter.unusedSimpArgs false
set_option linter.unusedSectionVars false
set_option maxRecDepth 4000
set_option maxHeartbeats 1000000
attribute [local irreducible] Yl TL TC TE Spec ZN R1 Hp.le EnvLe TS TR YS Zp
theorem rcF_of {ρ : Hp} {v : RV} {r : Rc} (h : RcIn ρ v r) (hs : ∀ s ∈ r.steps, StpF s) : RcF r := ⟨fun x hx => ⟨⟨(h.im x hx).b.row, (h.im x hx).b.kid⟩, ⟨(h.im x hx).a.row, (h.im x hx).a.kid⟩⟩, hs⟩
theorem few_stp {r r' : Rc} (hp : r'.plain = fewR r) (hs : ∀ s ∈ r.steps, StpF s) : ∀ s ∈ r'.steps, StpF s := by
 have e : r'.steps = (r.steps.take 3).map shortS := by have := congrArg Rc.steps hp; exact this
 rw [e]
 intro s hh
 obtain ⟨y, hy, rfl⟩ := List.mem_map.1 hh
 have f := hs y (List.mem_of_mem_take hy)
 exact ⟨⟨f.row.id, f.row.val⟩, f.by'⟩
end Go.Proofs.E
namespace Go.Proofs.E
open Go
set_option linter.unusedVariables false
set_option linter.unusedSimpArgs false
set_option linter.unusedSectionVars false
set_option maxRecDepth 4000
set_option maxHeartbeats 1000000
attribute [local irreducible] Yl TL TC TE Spec ZN R1 Hp.le EnvLe TS TR YS Zp TP QP
structure Op16 where
 kind : Int
 n : Int
 res : Int
 txn : Int
 to : Nat
 ma : Nat
 near : Bool
 rv : RV
 rc : Rc
 kv : SV
abbrev op16V (o : Op16) : List Value := [.int .i64 o.kind, .int .i64 o.n, .int .i64 o.res, .int .i64 o.txn, .int .u64 o.to, .int .u64 o.ma, .bool o.near, .int .i64 o.rc.kind, .int .u64 o.rc.lsn, .int .i64 o.rc.txn, .int .u64 o.rc.prev, .int .u64 o.rc.next, .slice o.rv.i.a o.rv.i.n o.rv.i.c, .slice o.rv.s.a o.rv.s.n o.rv.s.c, .int .i64 o.rc.nextTxn, .slice o.rv.t.a o.rv.t.n o.rv.t.c, .slice o.rv.d.a o.rv.d.n o.rv.d.c, .slice o.kv.a o.kv.n o.kv.c]
theorem OwnS.put {v : Value} {n sz : Nat} {xs ys sp : List Value} (h : OwnS v n xs sp sz) (hl : ys.length = xs.length) : OwnS v n ys sp sz := by
 rcases h.out with ⟨h1, h2, h3, h4⟩ | ⟨b, cap, h1, h2, h3, h4⟩
 ·exact ⟨.inl ⟨h1, h2, List.eq_nil_of_length_eq_zero (by rw [hl, h3]; rfl), h4⟩⟩
 ·exact ⟨.inr ⟨b, cap, h1, by rw [hl]; exact h2, by rw [hl]; exact h3, h4⟩⟩
theorem wrap_nn (x : Int) : 0 ≤ IntKind.u64.wrap x := by
 unfold IntKind.wrap
 exact Int.emod_nonneg x (by decide)
abbrev zrL : List Value := [.int .i64 0, .int .u64 0, .int .i64 0, .int .u64 0, .int .u64 0, .slice none 0 0, .slice none 0 0, .int .i64 0, .slice none 0 0, .slice none 0 0]
theorem op16_rec (ρ : Hp) (o : Op16) (next : Nat) (hn : next < 4000000000000) (hr : RcW ρ o.rv o.rc) (hst : ∀ s ∈ o.rc.steps, StpF s) :
  Spec Tryz.prog 21 [.agg ⟨op16V o⟩, .int .u64 (next : Nat)] ρ [] (fun z ρ' L' => (ρ.le ρ' ∧ ∃ v' r', z = .agg ⟨Wt v' r'⟩ ∧ RcIn ρ' v' r' ∧ RcF r') ∧ L' = []) := by
 obtain ⟨kind, n, res, txn, to, ma, near, rv, rc, kv⟩ := o
 dsimp only at hr hst
 refine Za Tryz.func21 rfl rfl rfl fun u R => ?_
 simp only [Zf, kA, op16V]
 repeat' (first | (refine Zb (.func 10) ?_; refine qC rfl rfl (few16_spec _ rv rc hr) ?_; rintro z ρ1 L1 hle1 ⟨hl1, ⟨⟨ia, im, ic⟩, ⟨sa, sn, sc⟩, ⟨ta, tn, tc⟩, ⟨da, dn, dc⟩⟩, r1, s1, s2, rfl, hF, hpl, rfl⟩; simp only [kA]) | refine zW ?_ | intro _)
 rename_i b2 b4 b5
 obtain ⟨hFi, hFm, hFs, hFt, hFd, htn, hdn, htb, hdb, hsf⟩ := hF
 dsimp only at *
 subst htn hdn
 have hst1 := few_stp hpl hst
 clear hpl
 have fin : ∀ (p q a : Nat) (T : List CkT) (D : List CkP) {ρ2 ρ3 : Hp}, ρ1.le ρ2 → ρ2.le ρ3 → T.length = r1.txns.length → D.length = r1.dirty.length → (∀ x ∈ Zw (.slice ta r1.txns.length tc) (T.map YB).flatten s1 147, ρ2 x.1 = some x.2) → (∀ x ∈ Zw (.slice da r1.dirty.length dc) (D.map YK).flatten s2 149, ρ3 x.1 = some x.2) → RcIn ρ3 ⟨⟨ia, im, ic⟩, ⟨sa, sn, sc⟩, ⟨ta, r1.txns.length, tc⟩, ⟨da, r1.dirty.length, dc⟩⟩ ⟨r1.kind, a, r1.txn, p, q, r1.ims, r1.steps, r1.nextTxn, T, D⟩ := by
  intro p q a T D ρ2 ρ3 h2 h3 hT hD z2 z3
  have hFt2 := hFt.put (ys := (T.map YB).flatten) (by rw [flatN_len ckTV_len, flatN_len ckTV_len, hT])
  have hFd2 := hFd.put (ys := (D.map YK).flatten) (by rw [flatN_len ckPV_len, flatN_len ckPV_len, hD])
  obtain ⟨ta', tc', te, htc, hA⟩ := hFt2.aIn hT (fun _ _ => rfl) z2
  obtain ⟨da', dc', de, hdc, hA2⟩ := hFd2.aIn hD (fun _ _ => rfl) z3
  cases te
  cases de
  have h13 := Hp.le_trans h2 h3
  exact ⟨hFi.mono h13, fun x hx => (hFm x hx).mono h13, hFs.mono h13, ⟨hA.mono h3, by dsimp only; omega, htc⟩, ⟨hA2, by dsimp only; omega, hdc⟩, hsf⟩
 cases near
 ·repeat' (first | refine zW ?_ | intro _)
  refine Yb (Zw (.slice ta r1.txns.length tc) (r1.txns.map YB).flatten s1 147) (fun ρ2 hl2 hz2 => ?_)
  refine Yb (Zw (.slice da r1.dirty.length dc) (r1.dirty.map YK).flatten s2 149) (fun ρ3 hl3 hz3 => ?_)
  exact qE (L' := []) ⟨⟨Hp.le_trans hl1 (Hp.le_trans hl2 hl3), _, r1, rfl, fin r1.prev r1.next r1.lsn r1.txns r1.dirty hl2 hl3 rfl rfl hz2 hz3, rcF_of (fin r1.prev r1.next r1.lsn r1.txns r1.dirty hl2 hl3 rfl rfl hz2 hz3) hst1⟩, rfl⟩
 ·refine qCt ?_
  refine tc_seq ?_
  refine tc_cut_k R [] (fun (ζ : (Int)) => [(1, .int .u64 (next : Nat)), (4, .pointer (some ⟨b4, 0, none⟩)), (5, .pointer (some ⟨b5, 0, none⟩))]) (fun (ζ : (Int)) => ρ1) (fun (ζ : (Int)) => [[(b4, .cells ⟨zrL⟩ 39 (0, 0))], [(b5, .cells ⟨[.int .i64 r1.kind, .int .u64 next, .int .i64 r1.txn, .int .u64 ζ, .int .u64 r1.next, .slice ia im ic, .slice sa sn sc, .int .i64 r1.nextTxn, .slice ta r1.txns.length tc, .slice da r1.dirty.length dc]⟩ 39 (0, 0))], Zw (.slice ta r1.txns.length tc) ((r1.txns.map YB).flatten) s1 147, Zw (.slice da r1.dirty.length dc) ((r1.dirty.map YK).flatten) s2 149]) (fun (ζ : (Int)) => 0 ≤ ζ) Zc ?_ ?_
  ·repeat' (first | refine zW ?_ | intro _)
   refine YW (_) (Int.natCast_nonneg _) Zc Zc rfl tk inferInstance
  intro P hP
  simp only [kA]
  refine tc_seq ?_
  refine tc_cut_k R [] (fun (ζ : (Int)) => [(1, .int .u64 (next : Nat)), (4, .pointer (some ⟨b4, 0, none⟩)), (5, .pointer (some ⟨b5, 0, none⟩))]) (fun (ζ : (Int)) => ρ1) (fun (ζ : (Int)) => [[(b4, .cells ⟨zrL⟩ 39 (0, 0))], [(b5, .cells ⟨[.int .i64 r1.kind, .int .u64 next, .int .i64 r1.txn, .int .u64 ζ, .int .u64 r1.next, .slice ia im ic, .slice sa sn sc, .int .i64 r1.nextTxn, .slice ta r1.txns.length tc, .slice da r1.dirty.length dc]⟩ 39 (0, 0))], Zw (.slice ta r1.txns.length tc) ((r1.txns.map YB).flatten) s1 147, Zw (.slice da r1.dirty.length dc) ((r1.dirty.map YK).flatten) s2 149]) (fun (ζ : (Int)) => 0 ≤ ζ) Zc ?_ ?_
  ·repeat' (first | refine zW ?_ | (refine i_gd ?_; refine YF rfl rfl (fun hb => ?_) (fun hb => ?_) <;> (try simp only [decide_eq_true_eq, decide_eq_false_iff_not, Bool.not_eq_true, Bool.not_eq_false, beq_iff_eq, bne_iff_ne, ne_eq, decide_eq_decide, Bool.not_eq_eq_eq_not, Bool.not_true, Bool.not_false, beq_eq_false_iff_ne, bne_eq_false_iff_eq, Bool.and_eq_true, Bool.or_eq_true, Bool.and_eq_false_imp, Bool.or_eq_false_iff] at hb)) | (refine XF ?_; refine Xe rfl (fun hb => ?_) (fun hb => ?_) <;> (try simp only [decide_eq_true_eq, decide_eq_false_iff_not, Bool.not_eq_true, Bool.not_eq_false, beq_iff_eq, bne_iff_ne, ne_eq, decide_eq_decide, Bool.not_eq_eq_eq_not, Bool.not_true, Bool.not_false, beq_eq_false_iff_ne, bne_eq_false_iff_eq, Bool.and_eq_true, Bool.or_eq_true, Bool.and_eq_false_imp, Bool.or_eq_false_iff] at hb)) | intro _)
   all_goals first | refine YW P hP Zc Zc rfl tk inferInstance | refine YW _ (wrap_nn (1 + P.tmod ((next : Int) - 1))) Zc Zc rfl tk inferInstance
  clear hP P
  intro P hP
  simp only [kA]
  refine tc_seq ?_
  refine tc_cut_k R [] (fun (ζ : (Int)) => [(1, .int .u64 (next : Nat)), (4, .pointer (some ⟨b4, 0, none⟩)), (5, .pointer (some ⟨b5, 0, none⟩))]) (fun (ζ : (Int)) => ρ1) (fun (ζ : (Int)) => [[(b4, .cells ⟨zrL⟩ 39 (0, 0))], [(b5, .cells ⟨[.int .i64 r1.kind, .int .u64 next, .int .i64 r1.txn, .int .u64 P, .int .u64 ζ, .slice ia im ic, .slice sa sn sc, .int .i64 r1.nextTxn, .slice ta r1.txns.length tc, .slice da r1.dirty.length dc]⟩ 39 (0, 0))], Zw (.slice ta r1.txns.length tc) ((r1.txns.map YB).flatten) s1 147, Zw (.slice da r1.dirty.length dc) ((r1.dirty.map YK).flatten) s2 149]) (fun (ζ : (Int)) => 0 ≤ ζ) Zc ?_ ?_
  ·repeat' (first | refine zW ?_ | (refine i_gd ?_; refine YF rfl rfl (fun hb => ?_) (fun hb => ?_) <;> (try simp only [decide_eq_true_eq, decide_eq_false_iff_not, Bool.not_eq_true, Bool.not_eq_false, beq_iff_eq, bne_iff_ne, ne_eq, decide_eq_decide, Bool.not_eq_eq_eq_not, Bool.not_true, Bool.not_false, beq_eq_false_iff_ne, bne_eq_false_iff_eq, Bool.and_eq_true, Bool.or_eq_true, Bool.and_eq_false_imp, Bool.or_eq_false_iff] at hb)) | (refine XF ?_; refine Xe rfl (fun hb => ?_) (fun hb => ?_) <;> (try simp only [decide_eq_true_eq, decide_eq_false_iff_not, Bool.not_eq_true, Bool.not_eq_false, beq_iff_eq, bne_iff_ne, ne_eq, decide_eq_decide, Bool.not_eq_eq_eq_not, Bool.not_true, Bool.not_false, beq_eq_false_iff_ne, bne_eq_false_iff_eq, Bool.and_eq_true, Bool.or_eq_true, Bool.and_eq_false_imp, Bool.or_eq_false_iff] at hb)) | intro _)
   all_goals first | refine YW _ (Int.natCast_nonneg r1.next) Zc Zc rfl tk inferInstance | refine YW _ (Int.tmod_nonneg P (Int.natCast_nonneg r1.next)) Zc Zc rfl tk inferInstance
  intro Q hQ
  simp only [kA]
  obtain ⟨p, rfl⟩ := Int.eq_ofNat_of_zero_le hP
  obtain ⟨q, rfl⟩ := Int.eq_ofNat_of_zero_le hQ
  repeat' (first | refine zW ?_ | intro _)
  refine Zm [(4, _), (5, _), (45, _)] (fun (ζ : (Nat) × (List CkT)) => [(46, .int .i64 ζ.1)]) (fun (ζ : (Nat) × (List CkT)) => ρ1) (fun (ζ : (Nat) × (List CkT)) => [[(b4, .cells ⟨zrL⟩ 39 (0, 0))], [(b5, .cells ⟨[.int .i64 r1.kind, .int .u64 next, .int .i64 r1.txn, .int .u64 p, .int .u64 q, .slice ia im ic, .slice sa sn sc, .int .i64 r1.nextTxn, .slice ta r1.txns.length tc, .slice da r1.dirty.length dc]⟩ 39 (0, 0))], Zw (.slice ta r1.txns.length tc) ((ζ.2.map YB).flatten ++ ((r1.txns.drop ζ.1).map YB).flatten) s1 147, Zw (.slice da r1.dirty.length dc) ((r1.dirty.map YK).flatten) s2 149]) (fun (ζ : (Nat) × (List CkT)) => ζ.1 ≤ r1.txns.length ∧ ζ.2.length = ζ.1) (fun (ζ : (Nat) × (List CkT)) => r1.txns.length - ζ.1) ((0, [])) (⟨Nat.zero_le _, rfl⟩) Zc Zc rfl tk ?_
  rintro ⟨j, A⟩ hI
  try simp only [kA, List.append_assoc] at hI ⊢
  try dsimp only at hI ⊢
  obtain ⟨hj, hAl⟩ := hI
  by_cases hlt : j < r1.txns.length
  ·rcases hFt.out with ⟨_, e2, _, _⟩ | ⟨pb, cap2, e2, _, _, _⟩
   ·omega
   cases e2
   have hx := List.drop_eq_getElem_cons hlt
   generalize r1.txns[j] = y at *
   obtain ⟨y0, y1, y2, y3, y4⟩ := y
   have hPl : ((A.map YB).flatten).length = 0 + j * 5 := by rw [flatN_len ckTV_len, hAl]; omega
   have hSe : ∀ c : Nat, [(pb, Obj.cells ⟨(A.map YB).flatten ++ (.int .i64 y0 :: .int .u64 1 :: .int .u64 1 :: .int .u64 c :: .int .i64 y4 :: (((r1.txns.drop (j + 1)).map YB).flatten ++ s1))⟩ 147 (0, 0))] = Zw (.slice (some ⟨pb, 0, none⟩) r1.txns.length tc) (((A ++ [(⟨y0, 1, 1, c, y4⟩ : CkT)]).map YB).flatten ++ ((r1.txns.drop (j + 1)).map YB).flatten) s1 147 := by
    intro c
    show _ = [(pb, Obj.cells ⟨(((A ++ [(⟨y0, 1, 1, c, y4⟩ : CkT)]).map YB).flatten ++ _) ++ s1⟩ 147 (0, 0))]
    simp only [List.map_append, List.map_cons, List.map_nil, List.flatten_append, List.flatten_cons, List.flatten_nil, List.append_nil, List.append_assoc, kA]
    rfl
   have hS0 : Zw (.slice (some ⟨pb, 0, none⟩) r1.txns.length tc) ((A.map YB).flatten ++ ((r1.txns.drop j).map YB).flatten) s1 147 = [(pb, Obj.cells ⟨(A.map YB).flatten ++ (.int .i64 y0 :: .int .u64 y1 :: .int .u64 y2 :: .int .u64 y3 :: .int .i64 y4 :: (((r1.txns.drop (j + 1)).map YB).flatten ++ s1))⟩ 147 (0, 0))] := by
    rw [hx]
    show [(pb, Obj.cells ⟨_ ++ s1⟩ 147 (0, 0))] = _
    simp only [List.map_cons, List.flatten_cons, List.append_assoc, kA]
   rw [hS0]
   have hg3 : ((A.map YB).flatten ++ (.int .i64 y0 :: .int .u64 y1 :: .int .u64 y2 :: .int .u64 y3 :: .int .i64 y4 :: (((r1.txns.drop (j + 1)).map YB).flatten ++ s1)))[0 + j * 5 + 3]? = some (.int .u64 y3) := q_get hPl rfl
   have hmn : min (y3 : Int) 1 = ((min y3 1 : Nat) : Int) := by omega
   repeat' (first | refine zW ?_ | intro _)
   refine tpA [0,1,2,3,4,5,6,7,8,9,10,11,12,13] (.e 14 [15,16,17] (.e 18 [19,20] (.e 21 [22,23] (.e 24 [] .o)))) ([[(b5, .cells ⟨[.int .i64 r1.kind, .int .u64 next, .int .i64 r1.txn, .int .u64 p, .int .u64 q, .slice ia im ic, .slice sa sn sc, .int .i64 r1.nextTxn, .slice (some ⟨pb, 0, none⟩) r1.txns.length tc, .slice da r1.dirty.length dc]⟩ 39 (0, 0))]]) ?_
   repeat' (refine iT ?_; first | refine rA ?_ | ((refine iE ?_; refine rE ?_) <;> ((try refine Zr ?_); (first | (refine tl_store_q (o := 0 + j * 5) (d := 1) (P := (A.map YB).flatten) rfl rfl hPl rfl ?_) | (refine tl_store_q (o := 0 + j * 5) (d := 2) (P := (A.map YB).flatten) rfl rfl hPl rfl ?_) | (refine tl_store_q (o := 0 + j * 5) (d := 3) (P := (A.map YB).flatten) rfl rfl hPl rfl ?_) | (refine i_qq ?_; refine qQ ?_) | (refine qEf ?_; try intro _)) <;> ((try simp only [kA]); refine Zj ?_; refine rN ?_))))
   all_goals (repeat' (first | refine zW ?_ | intro _))
   rw [hmn, hSe]
   refine Zi (j + 1, A ++ [⟨y0, 1, 1, min y3 1, y4⟩]) (⟨hlt, by rw [List.length_append, hAl]; rfl⟩) Zc Zc rfl tk inferInstance (by first | omega | (dsimp only; omega))
  have hjl : j = r1.txns.length := by omega
  rw [hjl, List.drop_length, List.map_nil, List.flatten_nil, List.append_nil]
  repeat' (first | refine zW ?_ | intro _)
  refine Zm [(4, _), (5, _), (74, _)] (fun (ζ : (Nat) × (List CkP)) => [(75, .int .i64 ζ.1)]) (fun (ζ : (Nat) × (List CkP)) => ρ1) (fun (ζ : (Nat) × (List CkP)) => [[(b4, .cells ⟨zrL⟩ 39 (0, 0))], [(b5, .cells ⟨[.int .i64 r1.kind, .int .u64 next, .int .i64 r1.txn, .int .u64 p, .int .u64 q, .slice ia im ic, .slice sa sn sc, .int .i64 r1.nextTxn, .slice ta r1.txns.length tc, .slice da r1.dirty.length dc]⟩ 39 (0, 0))], Zw (.slice ta r1.txns.length tc) ((A.map YB).flatten) s1 147, Zw (.slice da r1.dirty.length dc) ((ζ.2.map YK).flatten ++ ((r1.dirty.drop ζ.1).map YK).flatten) s2 149]) (fun (ζ : (Nat) × (List CkP)) => ζ.1 ≤ r1.dirty.length ∧ ζ.2.length = ζ.1) (fun (ζ : (Nat) × (List CkP)) => r1.dirty.length - ζ.1) ((0, [])) (⟨Nat.zero_le _, rfl⟩) Zc Zc rfl tk ?_
  rintro ⟨i, B⟩ hI
  try simp only [kA, List.append_assoc] at hI ⊢
  try dsimp only at hI ⊢
  obtain ⟨hi, hBl⟩ := hI
  by_cases hlt2 : i < r1.dirty.length
  ·rcases hFd.out with ⟨_, e2, _, _⟩ | ⟨pb, cap2, e2, _, _, _⟩
   ·omega
   cases e2
   have hx := List.drop_eq_getElem_cons hlt2
   generalize r1.dirty[i] = y at *
   obtain ⟨y0, y1⟩ := y
   have hPl : ((B.map YK).flatten).length = 0 + i * 2 := by rw [flatN_len ckPV_len, hBl]; omega
   have hSe : [(pb, Obj.cells ⟨(B.map YK).flatten ++ (.int .i64 y0 :: .int .u64 1 :: (((r1.dirty.drop (i + 1)).map YK).flatten ++ s2))⟩ 149 (0, 0))] = Zw (.slice (some ⟨pb, 0, none⟩) r1.dirty.length dc) (((B ++ [(⟨y0, 1⟩ : CkP)]).map YK).flatten ++ ((r1.dirty.drop (i + 1)).map YK).flatten) s2 149 := by
    show _ = [(pb, Obj.cells ⟨(((B ++ [(⟨y0, 1⟩ : CkP)]).map YK).flatten ++ _) ++ s2⟩ 149 (0, 0))]
    simp only [List.map_append, List.map_cons, List.map_nil, List.flatten_append, List.flatten_cons, List.flatten_nil, List.append_nil, List.append_assoc, kA]
    rfl
   have hS0 : Zw (.slice (some ⟨pb, 0, none⟩) r1.dirty.length dc) ((B.map YK).flatten ++ ((r1.dirty.drop i).map YK).flatten) s2 149 = [(pb, Obj.cells ⟨(B.map YK).flatten ++ (.int .i64 y0 :: .int .u64 y1 :: (((r1.dirty.drop (i + 1)).map YK).flatten ++ s2))⟩ 149 (0, 0))] := by
    rw [hx]
    show [(pb, Obj.cells ⟨_ ++ s2⟩ 149 (0, 0))] = _
    simp only [List.map_cons, List.flatten_cons, List.append_assoc, kA]
   rw [hS0]
   repeat' (first | (refine tl_store_q (o := 0 + i * 2) (d := 1) (P := (B.map YK).flatten) rfl rfl hPl rfl ?_) | refine zW ?_ | intro _)
   rw [hSe]
   refine Zi (i + 1, B ++ [⟨y0, 1⟩]) (⟨hlt2, by rw [List.length_append, hBl]; rfl⟩) Zc Zc rfl tk inferInstance (by first | omega | (dsimp only; omega))
  have hil : i = r1.dirty.length := by omega
  rw [hil, List.drop_length, List.map_nil, List.flatten_nil, List.append_nil]
  repeat' (first | refine zW ?_ | intro _)
  refine Yb (Zw (.slice ta r1.txns.length tc) (A.map YB).flatten s1 147) (fun ρ2 hl2 hz2 => ?_)
  refine Yb (Zw (.slice da r1.dirty.length dc) (B.map YK).flatten s2 149) (fun ρ3 hl3 hz3 => ?_)
  exact qE (L' := []) ⟨⟨Hp.le_trans hl1 (Hp.le_trans hl2 hl3), ⟨⟨ia, im, ic⟩, ⟨sa, sn, sc⟩, ⟨ta, r1.txns.length, tc⟩, ⟨da, r1.dirty.length, dc⟩⟩, ⟨r1.kind, next, r1.txn, p, q, r1.ims, r1.steps, r1.nextTxn, A, B⟩, rfl, fin p q next A B hl2 hl3 (by omega) (by omega) hz2 hz3, rcF_of (fin p q next A B hl2 hl3 (by omega) (by omega) hz2 hz3) hst1⟩, rfl⟩
end Go.Proofs.E
namespace Go.Proofs.E
open Go
set_option linter.unusedVariables false
set_option linter.unusedSimpArgs false
set_option linter.unusedSectionVars false
set_option maxRecDepth 4000
set_option maxHeartbeats 1000000
attribute [local irreducible] Yl TL TC TE Spec ZN R1 Hp.le EnvLe TS TR YS Zp
def YV (l : List Nat) : Nat → Bs
 | 0 => []
 | i + 1 => YV l i ++ be (8 - 4 * i) (l.getD i 0)
theorem lnumber_spec (ρ : Hp) (a : Option Addr) (n c : Nat) (l : Bs) (h : SIn ρ Zo a n l) (hn : n ≤ 8) :
  Spec Tryz.prog 138 [.slice a n c] ρ [] (fun v ρ' L' => v = .int .u64 (Ym l : Nat) ∧ ρ' = ρ ∧ L' = []) := by
 have hl := h.len
 refine Za Tryz.func138 rfl rfl rfl fun u R => ?_
 simp only [Zf, kA]
 repeat' (first | refine zW ?_ | intro _)
 refine Zm [(5, _), (6, _)] (fun (ζ : (Nat) × (Nat)) => [(7, .int .i64 ζ.1), (2, .int .u64 (ζ.2 : Nat))]) (fun (ζ : (Nat) × (Nat)) => ρ) (fun (ζ : (Nat) × (Nat)) => []) (fun (ζ : (Nat) × (Nat)) => ζ.1 ≤ n ∧ ζ.2 = Ym (l.take ζ.1)) (fun (ζ : (Nat) × (Nat)) => n - ζ.1) ((0, 0)) (⟨Nat.zero_le _, rfl⟩) Zc Zc rfl tk ?_
 rintro ⟨k, z⟩ hI
 try simp only [kA, List.append_assoc] at hI ⊢
 try dsimp only at hI ⊢
 obtain ⟨hk, hz⟩ := hI
 by_cases hlt : k < n
 ·obtain ⟨b, off, C, T, fr, rfl, hb, hc⟩ := h.get (show k < l.length by omega)
  have hzl := unbe_take_lt l k (by omega) (by omega)
  rw [← hz] at hzl
  have hs := take_succ_unbe l k (by omega)
  have hbt : l[k].toNat < 256 := l[k].toNat_lt
  generalize l[k] = b8 at *
  simp only [Zo] at hc
  repeat' (first | refine zW ?_ | intro _)
  have e : (z : Int) * 256 + (b8.toNat : Int) = ((z * 256 + b8.toNat : Nat) : Int) := by omega
  rw [e]
  refine Zi (k + 1, z * 256 + b8.toNat) (⟨hlt, by dsimp only; rw [hs, hz]⟩) Zc Zc rfl tk inferInstance (by first | omega | (dsimp only; omega))
 ·have hk2 : k = n := by omega
  subst hk2
  rw [List.take_of_length_le (by omega)] at hz
  subst hz
  repeat' (first | refine zW ?_ | intro _)
  exact qE ⟨rfl, rfl, rfl⟩
theorem lnote_spec (ρ : Hp) (a : Option Addr) (c : Nat) (l : List Nat) (hl2 : l.length = 2) (h : SIn ρ (fun z : Nat => Value.int .u64 (z : Int)) a 2 l) (hx : ∀ z ∈ l, z < 18446744073709551616) :
  Spec Tryz.prog 90 [.slice a 2 c] ρ [] (fun v ρ' L' => ρ' = ρ ∧ ∃ sp, OwnS v 12 ((YV l 2).map Zo) sp 1 ∧ L' = [Zw v ((YV l 2).map Zo) sp 5]) := by
 have hlen : ∀ i, i ≤ 2 → (YV l i).length = 8 * i - 4 * (i / 2) := by
  intro i hi
  rcases (by omega : i = 0 ∨ i = 1 ∨ i = 2) with rfl | rfl | rfl <;> simp [YV, Zh]
 refine Za Tryz.func90 rfl rfl rfl fun u R => ?_
 simp only [Zf, kA]
 repeat' (first | refine zW ?_ | intro _)
 refine Zm [(2, _), (7, _), (8, _)] (fun (ζ : (Nat) × (Value) × (List Value)) => [(9, .int .i64 ζ.1), (3, ζ.2.1)]) (fun (ζ : (Nat) × (Value) × (List Value)) => ρ) (fun (ζ : (Nat) × (Value) × (List Value)) => [Zw ζ.2.1 ((YV l ζ.1).map Zo) ζ.2.2 5]) (fun (ζ : (Nat) × (Value) × (List Value)) => ζ.1 ≤ 2 ∧ OwnS ζ.2.1 (YV l ζ.1).length ((YV l ζ.1).map Zo) ζ.2.2 1) (fun (ζ : (Nat) × (Value) × (List Value)) => 2 - ζ.1) ((0, .slice none 0 0, [])) (⟨by decide, OwnS.nil 1⟩) Zc Zc rfl tk ?_
 rintro ⟨i, v, sp⟩ hI
 try simp only [kA, List.append_assoc] at hI ⊢
 try dsimp only at hI ⊢
 obtain ⟨hi, hown⟩ := hI
 by_cases hlt : i < 2
 ·obtain ⟨b, off, C, T, fr, rfl, hb, hc⟩ := h.get (show i < l.length by omega)
  have hxl := hx _ (List.getElem_mem (show i < l.length by omega))
  have hns : YV l (i + 1) = YV l i ++ be (8 - 4 * i) (l[i]'(by omega)) := by
   show YV l i ++ be (8 - 4 * i) (l.getD i 0) = _
   rw [show l.getD i 0 = l[i]'(by omega) from by simp [List.getD, List.getElem?_eq_getElem (show i < l.length by omega)]]
  have hli := hlen i hi
  generalize l[i]'(by omega) = xi at *
  generalize hW : 8 - 4 * i = W at *
  have hWi : (8 - 4 * (i : Int) - 1) = (W : Int) - 1 := by omega
  repeat' (first | refine zW ?_ | intro _)
  rw [hWi, show (YV l i).map Zo = (YV l i ++ (be W xi).take 0).map Zo from by simp]
  refine Zm [(2, _), (4, _), (5, _), (7, _), (8, _), (9, _), (10, _), (11, _), (12, _), (13, _), (14, _), (15, _), (16, _), (17, _)] (fun (ζ : (Nat) × (Int) × (Value) × (List Value)) => [(6, .int .i64 ζ.2.1), (3, ζ.2.2.1)]) (fun (ζ : (Nat) × (Int) × (Value) × (List Value)) => ρ) (fun (ζ : (Nat) × (Int) × (Value) × (List Value)) => [Zw ζ.2.2.1 ((YV l i ++ (be W xi).take ζ.1).map Zo) ζ.2.2.2 5]) (fun (ζ : (Nat) × (Int) × (Value) × (List Value)) => ζ.1 ≤ W ∧ ζ.2.1 = (W : Int) - 1 - (ζ.1 : Int) ∧ OwnS ζ.2.2.1 (YV l i ++ (be W xi).take ζ.1).length ((YV l i ++ (be W xi).take ζ.1).map Zo) ζ.2.2.2 1) (fun (ζ : (Nat) × (Int) × (Value) × (List Value)) => W - ζ.1) ((0, (W : Int) - 1, _, _)) (⟨Nat.zero_le _, by dsimp only; omega, by simpa using hown⟩) Zc Zc rfl tk ?_
  rintro ⟨j, kx, v2, sp2⟩ hI
  try simp only [kA, List.append_assoc] at hI ⊢
  try dsimp only at hI ⊢
  obtain ⟨hj, hkx, ho⟩ := hI
  subst hkx
  by_cases hlj : j < W
  ·have hsh := shr_byteR xi (W - 1 - j)
   have hts := be_take_succ W xi j hlj
   have hmin : min (8 * ((W : Int) - 1 - (j : Int))).toNat 64 = 8 * (W - 1 - j) := by omega
   have hlj2 : ((be W xi).take j).length = j := by simp [Zh]; omega
   repeat' (first | (refine Zl rfl rfl rfl rfl (by simp) rfl rfl (fun _ => ?_); simp only [hmin, hsh]) | (refine tl_app_own (ys := [UInt8.ofNat (xi / 256 ^ (W - 1 - j))]) (m := 1) rfl rfl ho (hR := by infer_instance) SrcV.lit rfl (by simp [Zh]; omega) rfl (fun v3 sp3 ho3 => ?_)) | refine zW ?_ | intro _)
   have hmm : YV l i ++ (be W xi).take j ++ [UInt8.ofNat (xi / 256 ^ (W - 1 - j))] = YV l i ++ (be W xi).take (j + 1) := by rw [hts, List.append_assoc]
   rw [hmm] at ho3 ⊢
   refine Zi (j + 1, (W : Int) - 1 - (j : Int) - 1, v3, sp3) (⟨hlj, by dsimp only; omega, ho3⟩) Zc Zc rfl tk inferInstance (by first | omega | (dsimp only; omega))
  ·have hjW : j = W := by omega
   have hte : YV l i ++ (be W xi).take j = YV l (i + 1) := by rw [hns, List.take_of_length_le (by simp [Zh]; omega)]
   rw [hte] at ho ⊢
   repeat' (first | refine zW ?_ | intro _)
   refine Zi (i + 1, v2, sp2) (⟨hlt, ho⟩) Zc Zc rfl tk inferInstance (by first | omega | (dsimp only; omega))
 ·have hi2 : i = 2 := by omega
  subst hi2
  repeat' (first | refine zW ?_ | intro _)
  exact qE ⟨rfl, sp, by simpa [hlen 2 (Nat.le_refl _)] using hown, rfl⟩
def notedS (S : LgS) (b : Bs) : LgS × Bool :=
 if b.length = 0 then (S, true) else if b.length = 12 then ({ S with ma := Ym (b.take 8), nx := (Ym (b.drop 8) : Nat) }, decide (1 ≤ Ym (b.drop 8) ∧ Ym (b.drop 8) ≤ 1073741824)) else (S, false)
theorem noted_spec (ρ : Hp) (lb rb : Nat) (S : LgS) (v : Value) (a : Option Addr) (n c : Nat) (b : Bs) (h : SIn ρ Zo a n b) (hc : n ≤ c) :
  Spec Tryz.prog 75 [.pointer (some ⟨lb, 0, none⟩), .slice a n c] ρ [Ye lb rb S v] (fun z ρ' L' => z = .bool (notedS S b).2 ∧ ρ' = ρ ∧ L' = [Ye lb rb (notedS S b).1 v]) := by
 have hl := h.len
 refine Za Tryz.func75 rfl rfl rfl fun u R => ?_
 simp only [Zf, kA, Ye]
 by_cases h0 : n = 0
 ·have e : notedS S b = (S, true) := if_pos (by omega)
  rw [e]
  have hd : ((n : Int) == 0) = true := by rw [h0]; rfl
  repeat' (first | refine zW ?_ | intro _)
  exact qE ⟨rfl, rfl, rfl⟩
 have hd : ((n : Int) == 0) = false := by simp; omega
 by_cases h12 : n = 12
 ·have hd2 : ((n : Int) == 12) = true := by rw [h12]; rfl
  have e : notedS S b = ({ S with ma := Ym (b.take 8), nx := (Ym (b.drop 8) : Nat) }, decide (1 ≤ Ym (b.drop 8) ∧ Ym (b.drop 8) ≤ 1073741824)) := by
   unfold notedS; rw [if_neg (by omega), if_pos (by omega)]
  rw [e]
  have h8 := h.take (show 8 ≤ n by omega)
  have h4 := h.sub (show 8 ≤ n by omega) (Nat.le_refl n) hc
  rw [List.take_of_length_le (by simp; omega)] at h4
  have hub : Ym (b.drop 8) < 4294967296 := by
   have := XJ (b.drop 8); simpa [show b.length = 12 by omega] using this
  subst h12
  repeat' (first | (refine Zb (.func 138) ?_; refine qR rfl rfl (lnumber_spec _ _ _ _ _ h8 (by decide)) ?_; try simp only [kA]) | (refine Zb (.func 138) ?_; refine qR rfl rfl (lnumber_spec _ _ _ _ _ h4 (by decide)) ?_; try simp only [kA]) | refine zW ?_ | (refine i_gd ?_; refine YF rfl rfl (fun hb => ?_) (fun hb => ?_) <;> (try simp only [decide_eq_true_eq, decide_eq_false_iff_not, Bool.not_eq_true, Bool.not_eq_false, beq_iff_eq, bne_iff_ne, ne_eq, decide_eq_decide, Bool.not_eq_eq_eq_not, Bool.not_true, Bool.not_false, beq_eq_false_iff_ne, bne_eq_false_iff_eq, Bool.and_eq_true, Bool.or_eq_true, Bool.and_eq_false_imp, Bool.or_eq_false_iff] at hb)) | (refine XF ?_; refine Xe rfl (fun hb => ?_) (fun hb => ?_) <;> (try simp only [decide_eq_true_eq, decide_eq_false_iff_not, Bool.not_eq_true, Bool.not_eq_false, beq_iff_eq, bne_iff_ne, ne_eq, decide_eq_decide, Bool.not_eq_eq_eq_not, Bool.not_true, Bool.not_false, beq_eq_false_iff_ne, bne_eq_false_iff_eq, Bool.and_eq_true, Bool.or_eq_true, Bool.and_eq_false_imp, Bool.or_eq_false_iff] at hb)) | intro _)
  all_goals (refine qF (L' := [Ye lb rb { S with ma := Ym (b.take 8), nx := (Ym (b.drop 8) : Nat) } v]) ?_; exact ⟨XY (by (try simp [*]); first | done | omega | (intros; omega) | (constructor <;> intros <;> (try simp_all) <;> omega)), rfl, rfl⟩)
 ·have hd2 : ((n : Int) == 12) = false := by simp; omega
  have e : notedS S b = (S, false) := by unfold notedS; rw [if_neg (by omega), if_neg (by omega)]
  rw [e]
  repeat' (first | refine zW ?_ | intro _)
  exact qE ⟨rfl, rfl, rfl⟩
end Go.Proofs.E
namespace Go.Proofs.E
open Go
set_option linter.unusedVariables false
set_option linter.unusedSimpArgs false
set_option linter.unusedSectionVars false
set_option maxRecDepth 4000
set_option maxHeartbeats 1000000
attribute [local irreducible] Yl TL TC TE Spec ZN R1 Hp.le EnvLe TS TR YS Zp TP QP
theorem usedR_filter (p : RR → Bool) (l : List RR) : ZH (l.filter p) ≤ ZH l := by
 induction l with
 | nil => exact Nat.le_refl _
 | cons x r ih =>
  rw [List.filter_cons]
  split
  ·simp only [ZH, List.map_cons, List.sum_cons] at ih ⊢; omega
  ·simp only [ZH, List.map_cons, List.sum_cons] at ih ⊢; omega
theorem usedR_take_succ (l : List RR) (i : Nat) (h : i < l.length) : ZH (l.take i) + Xz (l[i]).2 = ZH (l.take (i + 1)) := by
 rw [List.take_succ_eq_append_getElem h, usedR_add]; simp [ZH]
theorem usedR_take_le (l : List RR) (i : Nat) : ZH (l.take i) ≤ ZH l := by
 have := usedR_add (l.take i) (l.drop i)
 rw [List.take_append_drop] at this; omega
def LgS.cutTo (S : LgS) (R : RgS) (fr ma nx : Nat) (l : List RR) : LgS := ⟨R, fr, S.fl, ma, (nx : Int), l⟩
def LgS.trunc (S : LgS) (fr ma nx : Nat) (D : DS) : LgS × DS × Int :=
 let c := S.R.cut ((fr - S.base : Nat) : Int) (YV [ma, nx] 2) D
 if c.2.2 = 0 then (S.cutTo c.1 fr ma nx (Yo S fr), c.2.1, 0) else ({ S with R := c.1 }, c.2.1, c.2.2)
theorem trunc16_spec (ρ : Hp) (lb rb db : Nat) (S : LgS) (v : Value) (sp : List Value) (h : LgIn ρ S v sp) (w : RW) (hR : RIn ρ S.R w) (k : DK) (D : DS) (hD : DOk k D) (fr ma nx : Nat) (hbr : S.R.broken = false) (h1 : S.base ≤ fr) (h2 : fr ≤ S.fl + 1) (h3 : ma ≤ S.fl) (h4 : 1 ≤ nx) (h5 : nx ≤ 1073741824) (hm : fr - S.base ≤ S.R.ents.length) (ht : S.R.h.turn < 1073741824) (hfl : S.fl < 1099511627777) (hfr : fr ≤ 1099511627777) :
  Spec Tryz.prog 28 [.pointer (some ⟨lb, 0, none⟩), .int .u64 (fr : Nat), .int .u64 (ma : Nat), .int .i64 (nx : Nat)] ρ (Ye lb rb S v :: Xp S v sp :: (ZO rb db S.R w ++ Zs db k D))
   (fun z ρ' L' => z = .int .i64 (S.trunc fr ma nx D).2.2 ∧ ρ.le ρ' ∧ ∃ k' w' v' sp', DOk k' (S.trunc fr ma nx D).2.1 ∧ RIn ρ' (S.trunc fr ma nx D).1.R w' ∧ LgIn ρ' (S.trunc fr ma nx D).1 v' sp' ∧
    L' = Ye lb rb (S.trunc fr ma nx D).1 v' :: Xp (S.trunc fr ma nx D).1 v' sp' :: (ZO rb db (S.trunc fr ma nx D).1.R w' ++ Zs db k' (S.trunc fr ma nx D).2.1)) := by
 have hb := h.base
 have hsub : ((fr : Nat) : Int) - (S.base : Nat) = ((fr - S.base : Nat) : Int) := by omega
 have hxs : ∀ z ∈ [ma, nx], z < 18446744073709551616 := by
  intro z hz; simp only [List.mem_cons, List.not_mem_nil, or_false] at hz; omega
 have hnl : (YV [ma, nx] 2).length ≤ 32 := by simp [YV, Zh]
 have g1 : decide (((fr : Nat) : Int) < (S.base : Nat)) = false := by simp; omega
 have g2 : decide (((fr : Nat) : Int) > ((S.fl : Nat) : Int) + 1) = false := by simp; omega
 have g3 : decide (((ma : Nat) : Int) > (S.fl : Nat)) = false := by simp; omega
 have g4 : decide (((nx : Nat) : Int) < 1) = false := by simp; omega
 have g5 : decide (((nx : Nat) : Int) > 1073741824) = false := by simp; omega
 generalize hc : S.R.cut ((fr - S.base : Nat) : Int) (YV [ma, nx] 2) D = c
 refine Za Tryz.func28 rfl rfl rfl fun u R => ?_
 simp only [Zf, kA]
 repeat' (first | (refine Zb (.func 30) ?_; refine qC rfl rfl (recs16_spec _ lb rb S v sp h fr) ?_; rintro z ρ1 L1 hle1 ⟨hl1, sp1, hown1, rfl⟩; simp only [kA]; refine ZJ (Zw z (Xm (Yo S fr)) sp1 39) (fun ρ2 hl2 hfz2 => ?_); obtain ⟨ka, kc, rfl, hkc, hA⟩ := hown1.aIn (g := rrV) (l := Yo S fr) rfl (fun _ _ => rfl) hfz2) | refine zW ?_ | intro _)
 have h02 := Hp.le_trans hl1 hl2
 have hρ := Hp.le_refl ρ2
 refine tpA [0,1,2,3,4,5,6,7,8,9,10,11,12,13] (.e 14 [] (.e 15 [] (.e 16 [] (.f [17] .o)))) ([Ye lb rb S v]) ?_
 repeat' (refine iT ?_; first | refine rA ?_ | ((refine iE ?_; refine rE ?_) <;> ((try refine Zr ?_); (first | (refine Zl rfl rfl rfl rfl (by simp) rfl rfl (fun bs => ?_); refine ZJ _ (h := Rem.here) (fun ρz hlz hfz => ?_); have hbs := hfz _ (List.mem_singleton.2 rfl); clear hfz; have hρ := Hp.le_trans hρ hlz; clear hlz; (try simp only [List.nil_append])) | (refine Zb (.func 90) ?_; refine qC rfl rfl (lnote_spec _ _ _ [ma, nx] rfl ⟨rfl, .inr ⟨_, _, _, _, _, rfl, hbs, rfl⟩⟩ hxs) ?_; rintro v5 ρ5 L5 hle5 ⟨rfl, sp5, hown5, rfl⟩; simp only [kA]; refine ZJ _ (h := Rem.here) (fun ρ6 hl6 hfz6 => ?_); have hρ := Hp.le_trans hρ hl6; obtain ⟨a6, c6, rfl, hc6, hs6⟩ := hown5.sIn hfz6) | (refine Zb (.func 14) ?_; simp only [hsub]; refine qC rfl rfl (cut_spec_main _ rb db S.R w (hR.mono (Hp.le_trans h02 hρ)) k D hD [] a6 12 c6 _ hs6.rd (fr - S.base) hbr hm ht hnl) ?_; rintro v7 ρ7 L7 hle7 ⟨rfl, hl7, k7, w7, hD7, hR7, rfl⟩; have hρ7 := Hp.le_trans hρ hl7; simp only [kA, List.append_nil]) | (refine qEf ?_; try intro _)) <;> ((try simp only [kA]); refine Zj ?_; refine rN ?_))))
 rw [hc] at hD7 hR7 ⊢
 by_cases he : c.2.2 = 0
 ·have e : S.trunc fr ma nx D = (S.cutTo c.1 fr ma nx (Yo S fr), c.2.1, 0) := by unfold LgS.trunc; rw [hc]; exact if_pos he
  rw [e, he]
  dsimp only
  have hun := h.used
  have hfl1 := fromL_len S fr
  have hfl2 := h.len
  have huf := usedR_filter (fun x => decide (fr ≤ x.2.lsn)) S.recs
  repeat' (first | refine zW ?_ | intro _)
  refine Zm [(0, _), (8, _), (87, _), (88, _)] (fun (ζ : (Nat) × (Hp) × (Value) × (List Value)) => [(89, .int .i64 ζ.1)]) (fun (ζ : (Nat) × (Hp) × (Value) × (List Value)) => ζ.2.1) (fun (ζ : (Nat) × (Hp) × (Value) × (List Value)) => Ye lb rb (S.cutTo c.1 fr ma nx ((Yo S fr).take ζ.1)) ζ.2.2.1 :: Xp (S.cutTo c.1 fr ma nx ((Yo S fr).take ζ.1)) ζ.2.2.1 ζ.2.2.2 :: (ZO rb db c.1 w7 ++ Zs db k7 c.2.1)) (fun (ζ : (Nat) × (Hp) × (Value) × (List Value)) => ζ.1 ≤ (Yo S fr).length ∧ ρ7.le ζ.2.1 ∧ LgIn ζ.2.1 (S.cutTo c.1 fr ma nx ((Yo S fr).take ζ.1)) ζ.2.2.1 ζ.2.2.2) (fun (ζ : (Nat) × (Hp) × (Value) × (List Value)) => (Yo S fr).length - ζ.1) ((0, ρ7, .slice none 0 0, [])) (⟨Nat.zero_le _, Hp.le_refl _, ⟨OwnS.nil 10, fun _ hx => by simp [LgS.cutTo] at hx, fun _ hx => by simp [LgS.cutTo] at hx, by simp [LgS.cutTo, ZH], hfr⟩⟩) Zc Zc rfl tk ?_
  rintro ⟨i, ρ8, v8, sp8⟩ hI
  try simp only [kA, List.append_assoc] at hI ⊢
  try dsimp only at hI ⊢
  obtain ⟨hi, hl8, hL8⟩ := hI
  by_cases hlt : i < (Yo S fr).length
  ·obtain ⟨b, off, C, T, frr, rfl, hb8, hfit, hcl⟩ := (hA.mono (Hp.le_trans hρ7 hl8)).get hlt
   have hmem : (Yo S fr)[i] ∈ S.recs := fromL_mem (List.getElem_mem hlt)
   have hx := (h.rin _ hmem).mono (Hp.le_trans h02 (Hp.le_trans hρ7 hl8))
   have hok := h.ok _ hmem
   have hts := List.take_succ_eq_append_getElem hlt
   have hu1 := usedR_take_succ _ _ hlt
   have hu2 := usedR_take_le (Yo S fr) (i + 1)
   generalize (Yo S fr)[i] = x at *
   have hmo : (S.cutTo c.1 fr ma nx ((Yo S fr).take i)).more x = S.cutTo c.1 fr ma nx ((Yo S fr).take (i + 1)) := by rw [hts]; rfl
   have hu3 : ZH (S.cutTo c.1 fr ma nx ((Yo S fr).take i)).recs + Xz x.2 ≤ 1000000 := by
    show ZH ((Yo S fr).take i) + _ ≤ _
    have : ZH (Yo S fr) ≤ ZH S.recs := huf
    omega
   repeat' (first | (refine Zb (.func 79) ?_; refine qC rfl rfl (takes_spec16 _ lb rb _ _ _ hL8 x hx hok hu3) ?_; rintro v9 ρ9 L9 hle9 ⟨rfl, hl9, v10, sp10, hL9, rfl⟩; rw [hmo] at hL9 ⊢; simp only [kA]) | refine zW ?_ | intro _)
   refine Zi (i + 1, ρ9, v10, sp10) (⟨hlt, Hp.le_trans hl8 hl9, hL9⟩) Zc Zc rfl tk inferInstance (by first | omega | (dsimp only; omega))
  ·rw [List.take_of_length_le (by omega)] at *
   repeat' (first | refine zW ?_ | intro _)
   exact qE ⟨rfl, Hp.le_trans (Hp.le_trans h02 hρ7) hl8, k7, w7, v8, sp8, hD7, hR7.mono hl8, hL8, rfl⟩
 ·have e : S.trunc fr ma nx D = ({ S with R := c.1 }, c.2.1, c.2.2) := by unfold LgS.trunc; rw [hc]; exact if_neg he
  rw [e]
  dsimp only
  have hef : (c.2.2 == 0) = false := by simpa using he
  repeat' (first | refine zW ?_ | intro _)
  exact qE ⟨rfl, Hp.le_trans h02 hρ7, k7, w7, v, sp, hD7, hR7, ⟨h.own, fun x hx => (h.rin x hx).mono (Hp.le_trans h02 hρ7), h.ok, h.used, h.base⟩, rfl⟩
end Go.Proofs.E
namespace Go.Proofs.E
open Go
set_option linter.unusedVariables false
set_option linter.unusedSimpArgs false
set_option linter.unusedSectionVars false
set_option maxRecDepth 4000
set_option maxHeartbeats 1000000
attribute [local irreducible] Yl TL TC TE Spec ZN R1 Hp.le EnvLe TS TR YS Zp
theorem u32_spec (ρ : Hp) (br : Nat) (a : Option Addr) (n c : Nat) (l : List UInt8) (h : SIn ρ Zo a n l) (hc : n ≤ c) (st : Int) :
  Spec Tryz.prog 142 [.pointer (some ⟨br, 0, none⟩)] ρ [rdC br a n c st]
   (fun v ρ' L' => v = .int .u32 ((ZW 4 l st).1 : Nat) ∧ ρ' = ρ ∧ ∃ a' n' c', SIn ρ Zo a' n' (ZW 4 l st).2.1 ∧ n' ≤ c' ∧ L' = [rdC br a' n' c' (ZW 4 l st).2.2]) := by
 have hb := XG 4 l st
 have hn := number_spec ρ br a n c l h hc st 4 (by omega)
 generalize ZW 4 l st = r at *
 refine Za Tryz.func142 rfl rfl rfl fun u R => ?_
 simp only [Zf, kA]
 repeat' (first | (refine Zb (.func 190) ?_; refine qC rfl rfl (hn) ?_; rintro v ρ' L' hle ⟨rfl, rfl, a', n', c', hs', hc', rfl⟩ <;> (try simp only [kA])) | refine zV ?_ | intro _)
 exact qE ⟨rfl, rfl, a', n', c', hs', hc', rfl⟩
abbrev reC (tb br : Nat) (ra : Option Addr) (rn rc : Nat) (v : RV) (r : Rc) (bad : Bool) : List (Nat × Obj) := [(tb, .cells ⟨[.pointer (some ⟨br, 0, none⟩), .slice ra rn rc, .int .i64 r.kind, .int .u64 r.lsn, .int .i64 r.txn, .int .u64 r.prev, .int .u64 r.next, .slice v.i.a v.i.n v.i.c, .slice v.s.a v.s.n v.s.c, .int .i64 r.nextTxn, .slice v.t.a v.t.n v.t.c, .slice v.d.a v.d.n v.d.c, .bool bad]⟩ 225 (0, 0))]
structure RdAt (ρ : Hp) (a : Option Addr) (n c : Nat) (ra : Option Addr) (rn rc : Nat) (R : List UInt8) (s : ZX) : Prop where
 at' : SIn ρ Zo a n s.1
 cap : n ≤ c
 rest : SIn ρ Zo ra rn R
 rcap : rn ≤ rc
 big : rn ≤ 1000000
 suf : ∃ X, R = X ++ s.1
theorem RdAt.mono {ρ ρ' a n c ra rn rc R s} (h : RdAt ρ a n c ra rn rc R s) (hle : ρ.le ρ') : RdAt ρ' a n c ra rn rc R s := ⟨h.at'.mono hle, h.cap, h.rest.mono hle, h.rcap, h.big, h.suf⟩
theorem numR_suf (k : Nat) (l : List UInt8) (st : Int) : ∃ X, l = X ++ (ZW k l st).2.1 := by
 unfold ZW
 split
 ·exact ⟨[], rfl⟩
 ·split
  ·exact ⟨[], rfl⟩
  ·exact ⟨l.take k, (List.take_append_drop k l).symm⟩
theorem rawR_suf (k : Nat) (l : List UInt8) (st : Int) : ∃ X, l = X ++ (WB k l st).2.1 := by
 unfold WB
 split
 ·exact ⟨[], rfl⟩
 ·split
  ·exact ⟨[], rfl⟩
  ·exact ⟨l.take k, (List.take_append_drop k l).symm⟩
theorem RdAt.num {ρ a n c ra rn rc R s} (h : RdAt ρ a n c ra rn rc R s) (k : Nat) {a' n' c'} (h1 : SIn ρ Zo a' n' (ZW k s.1 s.2.1).2.1) (h2 : n' ≤ c') : RdAt ρ a' n' c' ra rn rc R (rdN k s).2 := by
 obtain ⟨X, hX⟩ := h.suf
 obtain ⟨Y, hY⟩ := numR_suf k s.1 s.2.1
 exact ⟨h1, h2, h.rest, h.rcap, h.big, X ++ Y, by rw [List.append_assoc, hX]; exact congrArg (X ++ ·) hY⟩
theorem RdAt.skip {ρ a n c ra rn rc R s} (h : RdAt ρ a n c ra rn rc R s) (k : Int) {a' n' c'} (h1 : SIn ρ Zo a' n' (WB k.toNat s.1 s.2.1).2.1) (h2 : n' ≤ c') : RdAt ρ a' n' c' ra rn rc R (skipS k s) := by
 obtain ⟨X, hX⟩ := h.suf
 obtain ⟨Y, hY⟩ := rawR_suf k.toNat s.1 s.2.1
 exact ⟨h1, h2, h.rest, h.rcap, h.big, X ++ Y, by rw [List.append_assoc, hX]; exact congrArg (X ++ ·) hY⟩
abbrev rdL (tb br : Nat) (a : Option Addr) (n c : Nat) (ra : Option Addr) (rn rc : Nat) (v : RV) (r : Rc) (s : ZX) : SH := [reC tb br ra rn rc v r s.2.2, rdC br a n c s.2.1]
theorem n8_spec (ρ : Hp) (br : Nat) {a n c ra rn rc R} {s : ZX} (h : RdAt ρ a n c ra rn rc R s) : Spec Tryz.prog 140 [.pointer (some ⟨br, 0, none⟩)] ρ [rdC br a n c s.2.1]
  (fun v ρ' L' => v = .int .u8 ((rdN 1 s).1 : Nat) ∧ ρ' = ρ ∧ ∃ a' n' c', RdAt ρ a' n' c' ra rn rc R (rdN 1 s).2 ∧ L' = [rdC br a' n' c' (rdN 1 s).2.2.1]) := by
 refine (u8_spec ρ br a n c s.1 h.at' h.cap s.2.1).mono ?_
 rintro v ρ' L' _ ⟨h1, h2, a', n', c', h3, h4, h5⟩
 exact ⟨h1, h2, a', n', c', h.num 1 h3 h4, h5⟩
theorem n16_spec (ρ : Hp) (br : Nat) {a n c ra rn rc R} {s : ZX} (h : RdAt ρ a n c ra rn rc R s) : Spec Tryz.prog 199 [.pointer (some ⟨br, 0, none⟩)] ρ [rdC br a n c s.2.1]
  (fun v ρ' L' => v = .int .u16 ((rdN 2 s).1 : Nat) ∧ ρ' = ρ ∧ ∃ a' n' c', RdAt ρ a' n' c' ra rn rc R (rdN 2 s).2 ∧ L' = [rdC br a' n' c' (rdN 2 s).2.2.1]) := by
 refine (u16_spec ρ br a n c s.1 h.at' h.cap s.2.1).mono ?_
 rintro v ρ' L' _ ⟨h1, h2, a', n', c', h3, h4, h5⟩
 exact ⟨h1, h2, a', n', c', h.num 2 h3 h4, h5⟩
theorem n32_spec (ρ : Hp) (br : Nat) {a n c ra rn rc R} {s : ZX} (h : RdAt ρ a n c ra rn rc R s) : Spec Tryz.prog 142 [.pointer (some ⟨br, 0, none⟩)] ρ [rdC br a n c s.2.1]
  (fun v ρ' L' => v = .int .u32 ((rdN 4 s).1 : Nat) ∧ ρ' = ρ ∧ ∃ a' n' c', RdAt ρ a' n' c' ra rn rc R (rdN 4 s).2 ∧ L' = [rdC br a' n' c' (rdN 4 s).2.2.1]) := by
 refine (u32_spec ρ br a n c s.1 h.at' h.cap s.2.1).mono ?_
 rintro v ρ' L' _ ⟨h1, h2, a', n', c', h3, h4, h5⟩
 exact ⟨h1, h2, a', n', c', h.num 4 h3 h4, h5⟩
theorem n64_spec (ρ : Hp) (br : Nat) {a n c ra rn rc R} {s : ZX} (h : RdAt ρ a n c ra rn rc R s) : Spec Tryz.prog 141 [.pointer (some ⟨br, 0, none⟩)] ρ [rdC br a n c s.2.1]
  (fun v ρ' L' => v = .int .u64 ((rdN 8 s).1 : Nat) ∧ ρ' = ρ ∧ ∃ a' n' c', RdAt ρ a' n' c' ra rn rc R (rdN 8 s).2 ∧ L' = [rdC br a' n' c' (rdN 8 s).2.2.1]) := by
 refine (u64_spec ρ br a n c s.1 h.at' h.cap s.2.1).mono ?_
 rintro v ρ' L' _ ⟨h1, h2, a', n', c', h3, h4, h5⟩
 exact ⟨h1, h2, a', n', c', h.num 8 h3 h4, h5⟩
theorem XI (k : Nat) (s : ZX) : (rdN k s).1 < 256 ^ k := XG k s.1 s.2.1
theorem rdN_bad (k : Nat) (s : ZX) : (rdN k s).2.2.2 = s.2.2 := rfl
theorem rok_spec (ρ : Hp) (tb br : Nat) (a : Option Addr) (n c : Nat) (ra : Option Addr) (rn rc : Nat) (v : RV) (r : Rc) (s : ZX) : Spec Tryz.prog 148 [.pointer (some ⟨tb, 0, none⟩)] ρ (rdL tb br a n c ra rn rc v r s)
  (fun z ρ' L' => z = .bool (okS s) ∧ ρ' = ρ ∧ L' = rdL tb br a n c ra rn rc v r s) := by
 obtain ⟨l, st, bad⟩ := s
 unfold okS rdL
 refine Za Tryz.func148 rfl rfl rfl fun u R => ?_
 simp only [Zf, kA]
 cases bad
 ·repeat' (first | (refine Zb (.func 204) ?_; refine qR rfl rfl (Xc _ br a n c st) ?_; try simp only [kA]) | refine zV ?_ | intro _)
  refine qF (L' := [reC tb br ra rn rc v r false, rdC br a n c st]) ?_
  exact ⟨XY (by (try simp [*]); first | done | omega | (intros; omega) | (constructor <;> intros <;> (try simp_all) <;> omega)), rfl, rfl⟩
 ·repeat' (first | refine zV ?_ | intro _)
  exact qE ⟨rfl, rfl, rfl⟩
end Go.Proofs.E
namespace Go.Proofs.E
open Go
set_option linter.unusedVariables false
set_option linter.unusedSimpArgs false
set_option linter.unusedSectionVars false
set_option maxRecDepth 4000
set_option maxHeartbeats 1000000
attribute [local irreducible] Yl TL TC TE Spec ZN R1 Hp.le EnvLe TS TR YS Zp TP QP
theorem tkT_fst_bad {α : Type} {t : List UInt8 → α × Int × Int} {z : α} {s : ZX} (h : okS s = false) : tkT t z s = (z, s) := by unfold tkT; rw [h]; rfl
theorem tkT_err {α : Type} {t : List UInt8 → α × Int × Int} {z : α} {s : ZX} (h : okS s = true) (he : (t s.1).2.2 ≠ 0) : tkT t z s = (z, s.1, s.2.1, true) := by unfold tkT; rw [h, if_pos rfl, if_neg he]
theorem tkT_ok {α : Type} {t : List UInt8 → α × Int × Int} {z : α} {s : ZX} (h : okS s = true) (he : (t s.1).2.2 = 0) : tkT t z s = ((t s.1).1, skipS (t s.1).2.1 s) := by unfold tkT; rw [h, if_pos rfl, if_pos he]
theorem RdAt.flag {ρ a n c ra rn rc R l st b} (h : RdAt ρ a n c ra rn rc R (l, st, b)) (b' : Bool) : RdAt ρ a n c ra rn rc R (l, st, b') := ⟨h.at', h.cap, h.rest, h.rcap, h.big, h.suf⟩
theorem rtakenC_spec (ρ : Hp) (tb br : Nat) (v : RV) (r : Rc) (s : ZX) {a n c ra rn rc Rs} (h : RdAt ρ a n c ra rn rc Rs s) :
  Spec Tryz.prog 193 [.pointer (some ⟨tb, 0, none⟩), .func (.func 194) ⟨[]⟩ ⟨[]⟩] ρ (rdL tb br a n c ra rn rc v r s)
   (fun z ρ' L' => ρ.le ρ' ∧ ∃ cv a' n' c', z = .agg ⟨Wy (tkT Zy ztC s).1.kind cv⟩ ∧ CI ρ' cv (tkT Zy ztC s).1 ∧ RdAt ρ' a' n' c' ra rn rc Rs (tkT Zy ztC s).2 ∧ L' = rdL tb br a' n' c' ra rn rc v r (tkT Zy ztC s).2) := by
 have hok := rok_spec ρ tb br a n c ra rn rc v r s
 have hsl := h.at'.len
 have hrl := h.rest.len
 have hrb := h.big
 have hrc := h.rcap
 have hcap := h.cap
 obtain ⟨X, hX⟩ := h.suf
 have hXl := congrArg List.length hX
 rw [List.length_append] at hXl
 refine Za Tryz.func193 rfl rfl rfl fun u R => ?_
 simp only [Zf, kA]
 cases ho : okS s
 ·rw [ho] at hok
  rw [tkT_fst_bad ho]
  repeat' (first | (refine Zb (.func 148) ?_; refine qR rfl rfl (hok) ?_; try simp only [kA]) | refine zV ?_ | intro _)
  exact qE ⟨Hp.le_refl _, nilCV, a, n, c, rfl, CI.nil, h, rfl⟩
 ·rw [ho] at hok
  obtain ⟨l, st, bad⟩ := s
  have h2 := okS_iff ho
  simp only [Prod.mk.injEq] at h2
  obtain ⟨rfl, rfl⟩ := h2
  dsimp only at hsl hX hXl
  have hlo : ((rn : Int) - (n : Int)).toNat = rn - n := by omega
  have hsub := h.rest.sub (lo' := ((rn : Int) - (n : Int)).toNat) (hi' := rn) (by omega) (Nat.le_refl _) (cap := rc) hrc
  have hdl : (List.drop ((rn : Int) - (n : Int)).toNat Rs).take (rn - ((rn : Int) - (n : Int)).toNat) = l := by
   rw [hlo, hX, show rn - n = X.length by omega, List.drop_left' rfl, List.take_of_length_le (by omega)]
  rw [hdl] at hsub
  have htc := takeCont_spec ρ _ _ (rc - ((rn : Int) - (n : Int)).toNat) l hsub (by omega)
  by_cases he : (Zy l).2.2 = 0
  ·obtain ⟨m, e1, hm, g1, g2, g3⟩ := takeCont_ok he
   have hraw := fun ρ (h : SIn ρ Zo a n l) => raw_spec ρ br a n c l h hcap 0 m (by omega)
   have hskip := fun {ρ a' n' c'} (h : RdAt ρ a n c ra rn rc Rs (l, 0, false)) (h1 : SIn ρ Zo a' n' (WB m l 0).2.1) (h2 : n' ≤ c') => h.skip (m : Int) (by simpa using h1) h2
   rw [tkT_ok ho he]
   dsimp only
   rw [e1] at htc ⊢
   rw [he] at htc
   unfold skipS at hskip ⊢
   simp only [Int.toNat_natCast] at hskip ⊢
   generalize (Zy l).1 = x at *
   generalize WB m l 0 = q at *
   repeat' (first | (refine Zb (.func 148) ?_; refine qR rfl rfl (hok) ?_; try simp only [kA]) | refine zV ?_ | intro _)
   refine tpZ [0,1,2,3,4,5,6,7,8,9,10,11,12,13] (.b 14 22 [15,16] [] (.b 17 22 [18,19,20,21] [] (.e 22 [] (.e 23 [] (.f [24,25] .o))) (.e 17 [18,19,20,21] (.e 23 [] (.f [24,25] .o)))) (.e 14 [15,16] (.e 17 [18,19,20,21] (.e 23 [] (.f [24,25] .o))))) ?_
   repeat' (refine iT ?_; first | refine rA ?_ | ((first | (refine iE ?_; refine rE ?_) | (refine iB ?_; refine rB ?_ ?_)) <;> ((try refine Zr ?_); (first | (refine Zb (.func 149) ?_; refine qR rfl rfl (Wo _ br a n c 0) ?_; try simp only [kA]) | (refine Zb (.tmp 14) ?_; refine qC rfl rfl (htc) ?_; rintro v ρ' L' hle ⟨hle1, w, rfl, hC, rfl⟩ <;> (try simp only [kA])) | (refine qEf ?_; try intro _)) <;> ((try simp only [kA]); refine Zj ?_; refine rN ?_))))
   all_goals (repeat' (first | (refine Zb (.func 242) ?_; refine qC rfl rfl (hraw _ (h.at'.mono (by assumption))) ?_; rintro v ρ' L' hle ⟨hle2, va, vn, vc, a', n', c', rfl, hvc, hs1, hs2, hc', rfl⟩ <;> (try simp only [kA])) | refine zV ?_ | intro _))
   all_goals exact qE ⟨Hp.le_trans hle1 hle2, w, a', n', c', rfl, ⟨hC.mono hle2, g3.row, fun k hk => (g3.kid k hk).id⟩, hskip (h.mono (Hp.le_trans hle1 hle2)) hs2 hc', rfl⟩
  ·rw [tkT_err ho he]
   obtain ⟨f1, f2⟩ := takeCont_bad he
   rw [f1, f2] at htc
   dsimp only
   generalize (Zy l).2.2 = e at *
   repeat' (first | (refine Zb (.func 148) ?_; refine qR rfl rfl (hok) ?_; try simp only [kA]) | refine zV ?_ | intro _)
   refine tpZ [0,1,2,3,4,5,6,7,8,9,10,11,12,13] (.b 14 22 [15,16] [] (.b 17 22 [18,19,20,21] [] (.e 22 [] (.e 23 [] (.f [24,25] .o))) (.e 17 [18,19,20,21] (.e 23 [] (.f [24,25] .o)))) (.e 14 [15,16] (.e 17 [18,19,20,21] (.e 23 [] (.f [24,25] .o))))) ?_
   repeat' (refine iT ?_; first | refine rA ?_ | ((first | (refine iE ?_; refine rE ?_) | (refine iB ?_; refine rB ?_ ?_)) <;> ((try refine Zr ?_); (first | (refine Zb (.func 149) ?_; refine qR rfl rfl (Wo _ br a n c 0) ?_; try simp only [kA]) | (refine Zb (.tmp 14) ?_; refine qC rfl rfl (htc) ?_; rintro v ρ' L' hle ⟨hle1, w, rfl, hC, rfl⟩ <;> (try simp only [kA])) | (refine qEf ?_; try intro _)) <;> ((try simp only [kA]); refine Zj ?_; refine rN ?_))))
   all_goals (repeat' (first | refine zV ?_ | intro _))
   all_goals exact qE ⟨hle1, nilCV, a, n, c, rfl, CI.nil, (h.mono hle1).flag true, rfl⟩
theorem rowFit_z : Xs ztR := ⟨by decide, by decide⟩
theorem takeRow_bad {l : List UInt8} (h : (ZT l).2.2 ≠ 0) : (ZT l).1 = ztR ∧ (ZT l).2.1 = 0 := by
 unfold ZT at h ⊢
 dsimp only at h ⊢
 generalize XR l 0 false = r at *
 obtain ⟨x, l2, st2, b2⟩ := r
 dsimp only at h ⊢
 unfold takenE at h
 unfold takenN
 cases b2
 ·simp only [Bool.false_eq_true, if_false] at h ⊢
  simp [h]
 ·simp
theorem rtakenR_spec (ρ : Hp) (tb br : Nat) (v : RV) (r : Rc) (s : ZX) {a n c ra rn rc Rs} (h : RdAt ρ a n c ra rn rc Rs s) :
  Spec Tryz.prog 197 [.pointer (some ⟨tb, 0, none⟩), .func (.func 198) ⟨[]⟩ ⟨[]⟩] ρ (rdL tb br a n c ra rn rc v r s)
   (fun z ρ' L' => ρ.le ρ' ∧ Xs (tkT ZT ztR s).1 ∧ ∃ a' n' c', z = .agg ⟨Yi (tkT ZT ztR s).1⟩ ∧ RdAt ρ' a' n' c' ra rn rc Rs (tkT ZT ztR s).2 ∧ L' = rdL tb br a' n' c' ra rn rc v r (tkT ZT ztR s).2) := by
 have hok := rok_spec ρ tb br a n c ra rn rc v r s
 have hsl := h.at'.len
 have hrl := h.rest.len
 have hrb := h.big
 have hrc := h.rcap
 have hcap := h.cap
 obtain ⟨X, hX⟩ := h.suf
 have hXl := congrArg List.length hX
 rw [List.length_append] at hXl
 refine Za Tryz.func197 rfl rfl rfl fun u R => ?_
 simp only [Zf, kA]
 cases ho : okS s
 ·rw [ho] at hok
  rw [tkT_fst_bad ho]
  repeat' (first | (refine Zb (.func 148) ?_; refine qR rfl rfl (hok) ?_; try simp only [kA]) | refine zV ?_ | intro _)
  exact qE ⟨Hp.le_refl _, rowFit_z, a, n, c, rfl, h, rfl⟩
 ·rw [ho] at hok
  obtain ⟨l, st, bad⟩ := s
  have h2 := okS_iff ho
  simp only [Prod.mk.injEq] at h2
  obtain ⟨rfl, rfl⟩ := h2
  dsimp only at hsl hX hXl
  have hlo : ((rn : Int) - (n : Int)).toNat = rn - n := by omega
  have hsub := h.rest.sub (lo' := ((rn : Int) - (n : Int)).toNat) (hi' := rn) (by omega) (Nat.le_refl _) (cap := rc) hrc
  have hdl : (List.drop ((rn : Int) - (n : Int)).toNat Rs).take (rn - ((rn : Int) - (n : Int)).toNat) = l := by
   rw [hlo, hX, show rn - n = X.length by omega, List.drop_left' rfl, List.take_of_length_le (by omega)]
  rw [hdl] at hsub
  have htc := takeRow_spec ρ _ _ (rc - ((rn : Int) - (n : Int)).toNat) l hsub (by omega)
  by_cases he : (ZT l).2.2 = 0
  ·obtain ⟨m, e1, hm, g1, g2, g3⟩ := takeRow_ok he
   have hraw := fun ρ (h : SIn ρ Zo a n l) => raw_spec ρ br a n c l h hcap 0 m (by omega)
   have hskip := fun {ρ a' n' c'} (h : RdAt ρ a n c ra rn rc Rs (l, 0, false)) (h1 : SIn ρ Zo a' n' (WB m l 0).2.1) (h2 : n' ≤ c') => h.skip (m : Int) (by simpa using h1) h2
   rw [tkT_ok ho he]
   dsimp only
   rw [e1] at htc ⊢
   rw [he] at htc
   unfold skipS at hskip ⊢
   simp only [Int.toNat_natCast] at hskip ⊢
   generalize (ZT l).1 = x at *
   generalize WB m l 0 = q at *
   repeat' (first | (refine Zb (.func 148) ?_; refine qR rfl rfl (hok) ?_; try simp only [kA]) | refine zV ?_ | intro _)
   refine tpZ [0,1,2,3,4,5,6,7,8,9,10,11,12,13] (.b 14 22 [15,16] [] (.b 17 22 [18,19,20,21] [] (.e 22 [] (.e 23 [] (.f [24,25] .o))) (.e 17 [18,19,20,21] (.e 23 [] (.f [24,25] .o)))) (.e 14 [15,16] (.e 17 [18,19,20,21] (.e 23 [] (.f [24,25] .o))))) ?_
   repeat' (refine iT ?_; first | refine rA ?_ | ((first | (refine iE ?_; refine rE ?_) | (refine iB ?_; refine rB ?_ ?_)) <;> ((try refine Zr ?_); (first | (refine Zb (.func 149) ?_; refine qR rfl rfl (Wo _ br a n c 0) ?_; try simp only [kA]) | (refine Zb (.tmp 14) ?_; refine qC rfl rfl (htc) ?_; rintro v ρ' L' hle ⟨rfl, hle1, rfl⟩ <;> (try simp only [kA])) | (refine qEf ?_; try intro _)) <;> ((try simp only [kA]); refine Zj ?_; refine rN ?_))))
   all_goals (repeat' (first | (refine Zb (.func 242) ?_; refine qC rfl rfl (hraw _ (h.at'.mono (by assumption))) ?_; rintro v ρ' L' hle ⟨hle2, va, vn, vc, a', n', c', rfl, hvc, hs1, hs2, hc', rfl⟩ <;> (try simp only [kA])) | refine zV ?_ | intro _))
   all_goals exact qE ⟨Hp.le_trans hle1 hle2, g3, a', n', c', rfl, hskip (h.mono (Hp.le_trans hle1 hle2)) hs2 hc', rfl⟩
  ·rw [tkT_err ho he]
   obtain ⟨f1, f2⟩ := takeRow_bad he
   rw [f1, f2] at htc
   dsimp only
   generalize (ZT l).2.2 = e at *
   repeat' (first | (refine Zb (.func 148) ?_; refine qR rfl rfl (hok) ?_; try simp only [kA]) | refine zV ?_ | intro _)
   refine tpZ [0,1,2,3,4,5,6,7,8,9,10,11,12,13] (.b 14 22 [15,16] [] (.b 17 22 [18,19,20,21] [] (.e 22 [] (.e 23 [] (.f [24,25] .o))) (.e 17 [18,19,20,21] (.e 23 [] (.f [24,25] .o)))) (.e 14 [15,16] (.e 17 [18,19,20,21] (.e 23 [] (.f [24,25] .o))))) ?_
   repeat' (refine iT ?_; first | refine rA ?_ | ((first | (refine iE ?_; refine rE ?_) | (refine iB ?_; refine rB ?_ ?_)) <;> ((try refine Zr ?_); (first | (refine Zb (.func 149) ?_; refine qR rfl rfl (Wo _ br a n c 0) ?_; try simp only [kA]) | (refine Zb (.tmp 14) ?_; refine qC rfl rfl (htc) ?_; rintro v ρ' L' hle ⟨rfl, hle1, rfl⟩ <;> (try simp only [kA])) | (refine qEf ?_; try intro _)) <;> ((try simp only [kA]); refine Zj ?_; refine rN ?_))))
   all_goals (repeat' (first | refine zV ?_ | intro _))
   all_goals exact qE ⟨hle1, rowFit_z, a, n, c, rfl, (h.mono hle1).flag true, rfl⟩
abbrev cbC (cb tb : Nat) : List (Nat × Obj) := [(cb, .cells ⟨[.pointer (some ⟨tb, 0, none⟩)]⟩ 221 (0, 0))]
theorem rchange1_spec (ρ : Hp) (tb br cb : Nat) (v : RV) (r : Rc) (s : ZX) {a n c ra rn rc Rs} (h : RdAt ρ a n c ra rn rc Rs s) :
  Spec Tryz.prog 192 [.pointer (some ⟨cb, 0, none⟩)] ρ (cbC cb tb :: rdL tb br a n c ra rn rc v r s)
   (fun z ρ' L' => ρ.le ρ' ∧ ∃ x a' n' c', z = .agg ⟨imV x⟩ ∧ Im.In ρ' x ∧ x.plain = (imD (decide (r.kind = 2)) s).1 ∧ RdAt ρ' a' n' c' ra rn rc Rs (imD (decide (r.kind = 2)) s).2 ∧ L' = cbC cb tb :: rdL tb br a' n' c' ra rn rc v r (imD (decide (r.kind = 2)) s).2) := by
 have h8 := n8_spec ρ br h
 have hlt := XI 1 s
 unfold imD
 rw [show rdL tb br a n c ra rn rc v r s = [reC tb br ra rn rc v r (rdN 1 s).2.2.2, rdC br a n c s.2.1] from rfl]
 generalize rdN 1 s = p at *
 obtain ⟨x1, s1⟩ := p
 dsimp only at h8 hlt ⊢
 unfold imDa imDb
 have hC := fun ρ a n c (h : RdAt ρ a n c ra rn rc Rs s1) => rtakenC_spec ρ tb br v r s1 h
 refine Za Tryz.func192 rfl rfl rfl fun u R => ?_
 simp only [Zf, kA]
 by_cases h2 : r.kind = 2
 ·simp only [decide_eq_true h2, if_true]
  generalize tkT Zy ztC s1 = q1 at *
  obtain ⟨b, s2⟩ := q1
  dsimp only at hC ⊢
  have hC2 := fun ρ a n c (h : RdAt ρ a n c ra rn rc Rs s2) => rtakenC_spec ρ tb br v r s2 h
  generalize tkT Zy ztC s2 = q2 at *
  obtain ⟨ca, s3⟩ := q2
  dsimp only at hC2 ⊢
  repeat' (first | (refine Zb (.func 140) ?_; refine qC rfl rfl (h8) ?_; rintro v ρ' L' hle ⟨rfl, rfl, a1, n1, c1, h1, rfl⟩ <;> (try simp only [kA])) | (refine Zb (.func 193) ?_; refine qC rfl rfl (hC _ _ _ _ h1) ?_; rintro v ρ' L' hle ⟨hl2, w2, a2, n2, c2, rfl, hw2, g2, rfl⟩ <;> (try simp only [kA])) | (refine Zb (.func 193) ?_; refine qC rfl rfl (hC2 _ _ _ _ g2) ?_; rintro v ρ' L' hle ⟨hl3, w3, a3, n3, c3, rfl, hw3, g3, rfl⟩ <;> (try simp only [kA])) | refine zV ?_ | intro _)
  exact qE ⟨Hp.le_trans hl2 hl3, ⟨x1, w2, b, w3, ca⟩, a3, n3, c3, rfl, ⟨hw2.mono hl3, hw3⟩, rfl, g3, rfl⟩
 ·simp only [decide_eq_false h2, Bool.false_eq_true, if_false]
  generalize tkT Zy ztC s1 = q1 at *
  obtain ⟨ca, s2⟩ := q1
  dsimp only at hC ⊢
  repeat' (first | (refine Zb (.func 140) ?_; refine qC rfl rfl (h8) ?_; rintro v ρ' L' hle ⟨rfl, rfl, a1, n1, c1, h1, rfl⟩ <;> (try simp only [kA])) | (refine Zb (.func 193) ?_; refine qC rfl rfl (hC _ _ _ _ h1) ?_; rintro v ρ' L' hle ⟨hl2, w2, a2, n2, c2, rfl, hw2, g2, rfl⟩ <;> (try simp only [kA])) | refine zV ?_ | intro _)
  exact qE ⟨hl2, ⟨x1, nilCV, ztC, w2, ca⟩, a2, n2, c2, rfl, ⟨CI.nil, hw2⟩, rfl, g2, rfl⟩
theorem rdone1_spec (ρ : Hp) (tb br cb : Nat) (v : RV) (r : Rc) (s : ZX) {a n c ra rn rc Rs} (h : RdAt ρ a n c ra rn rc Rs s) :
  Spec Tryz.prog 196 [.pointer (some ⟨cb, 0, none⟩)] ρ (cbC cb tb :: rdL tb br a n c ra rn rc v r s)
   (fun z ρ' L' => ρ.le ρ' ∧ z = .agg ⟨YQ (stpD s).1⟩ ∧ Xs (stpD s).1.row ∧ ∃ a' n' c', RdAt ρ' a' n' c' ra rn rc Rs (stpD s).2 ∧ L' = cbC cb tb :: rdL tb br a' n' c' ra rn rc v r (stpD s).2) := by
 have h8 := n8_spec ρ br h
 have hlt := XI 1 s
 unfold stpD
 rw [show rdL tb br a n c ra rn rc v r s = [reC tb br ra rn rc v r (rdN 1 s).2.2.2, rdC br a n c s.2.1] from rfl]
 generalize rdN 1 s = p at *
 obtain ⟨x1, s1⟩ := p
 dsimp only at h8 hlt ⊢
 refine Za Tryz.func196 rfl rfl rfl fun u R => ?_
 simp only [Zf, kA]
 by_cases h23 : x1 = 2 ∨ x1 = 3
 ·unfold stpDt stpDr
  rw [if_pos h23]
  have hC := fun ρ a n c (h : RdAt ρ a n c ra rn rc Rs s1) => rtakenR_spec ρ tb br v r s1 h
  generalize tkT ZT ztR s1 = q1 at *
  obtain ⟨b, s2⟩ := q1
  dsimp only at hC ⊢
  rcases h23 with e | e
  all_goals (repeat' (first | (refine Zb (.func 140) ?_; refine qC rfl rfl (h8) ?_; rintro v ρ' L' hle ⟨rfl, rfl, a1, n1, c1, h1, rfl⟩ <;> (try simp only [kA])) | (refine Zb (.func 197) ?_; refine qC rfl rfl (hC _ _ _ _ h1) ?_; rintro v ρ' L' hle ⟨hl2, hf, a2, n2, c2, rfl, g2, rfl⟩ <;> (try simp only [kA])) | refine zV ?_ | intro _))
  all_goals exact qE ⟨hl2, rfl, hf, a2, n2, c2, g2, rfl⟩
 ·unfold stpDt stpDi
  rw [if_neg h23]
  have k8 := fun ρ a n c (h : RdAt ρ a n c ra rn rc Rs s1) => n8_spec ρ br h
  have hlt1 := XI 1 s1
  rw [show s1.2.2 = (rdN 1 s1).2.2.2 from rfl]
  generalize rdN 1 s1 = p1 at *
  obtain ⟨x2, s2⟩ := p1
  dsimp only at k8 hlt1 ⊢
  have k16 := fun ρ a n c (h : RdAt ρ a n c ra rn rc Rs s2) => n16_spec ρ br h
  have hlt2 := XI 2 s2
  rw [show s2.2.2 = (rdN 2 s2).2.2.2 from rfl]
  generalize rdN 2 s2 = p2 at *
  obtain ⟨x3, s3⟩ := p2
  dsimp only at k16 hlt2 ⊢
  unfold stpDb
  by_cases hx1 : x1 = 1
  ·rw [if_pos hx1]
   have k64 := fun ρ a n c (h : RdAt ρ a n c ra rn rc Rs s3) => n64_spec ρ br h
   have hlt3 := XI 8 s3
   rw [show s3.2.2 = (rdN 8 s3).2.2.2 from rfl]
   generalize rdN 8 s3 = p3 at *
   obtain ⟨x4, s4⟩ := p3
   dsimp only at k64 hlt3 ⊢
   repeat' (first | (refine Zb (.func 140) ?_; refine qC rfl rfl (h8) ?_; rintro v ρ' L' hle ⟨rfl, rfl, a1, n1, c1, h1, rfl⟩ <;> (try simp only [kA])) | (refine Zb (.func 140) ?_; refine qC rfl rfl (k8 _ _ _ _ h1) ?_; rintro v ρ' L' hle ⟨rfl, rfl, a2, n2, c2, h2, rfl⟩ <;> (try simp only [kA])) | (refine Zb (.func 199) ?_; refine qC rfl rfl (k16 _ _ _ _ h2) ?_; rintro v ρ' L' hle ⟨rfl, rfl, a3, n3, c3, h3, rfl⟩ <;> (try simp only [kA])) | (refine Zb (.func 141) ?_; refine qC rfl rfl (k64 _ _ _ _ h3) ?_; rintro v ρ' L' hle ⟨rfl, rfl, a4, n4, c4, h4, rfl⟩ <;> (try simp only [kA])) | refine zV ?_ | intro _)
   exact qE ⟨Hp.le_refl _, rfl, ⟨by dsimp only; omega, by dsimp only; decide⟩, a4, n4, c4, h4, rfl⟩
  ·rw [if_neg hx1]
   repeat' (first | (refine Zb (.func 140) ?_; refine qC rfl rfl (h8) ?_; rintro v ρ' L' hle ⟨rfl, rfl, a1, n1, c1, h1, rfl⟩ <;> (try simp only [kA])) | (refine Zb (.func 140) ?_; refine qC rfl rfl (k8 _ _ _ _ h1) ?_; rintro v ρ' L' hle ⟨rfl, rfl, a2, n2, c2, h2, rfl⟩ <;> (try simp only [kA])) | (refine Zb (.func 199) ?_; refine qC rfl rfl (k16 _ _ _ _ h2) ?_; rintro v ρ' L' hle ⟨rfl, rfl, a3, n3, c3, h3, rfl⟩ <;> (try simp only [kA])) | refine zV ?_ | intro _)
   exact qE ⟨Hp.le_refl _, rfl, ⟨by dsimp only; omega, by dsimp only; decide⟩, a3, n3, c3, h3, rfl⟩
theorem rckpt2_spec (ρ : Hp) (tb br cb : Nat) (v : RV) (r : Rc) (s : ZX) {a n c ra rn rc Rs} (h : RdAt ρ a n c ra rn rc Rs s) :
  Spec Tryz.prog 203 [.pointer (some ⟨cb, 0, none⟩)] ρ (cbC cb tb :: rdL tb br a n c ra rn rc v r s)
   (fun z ρ' L' => ρ.le ρ' ∧ z = .agg ⟨YK (ckPD s).1⟩ ∧ True ∧ ∃ a' n' c', RdAt ρ' a' n' c' ra rn rc Rs (ckPD s).2 ∧ L' = cbC cb tb :: rdL tb br a' n' c' ra rn rc v r (ckPD s).2) := by
 have h8 := n8_spec ρ br h
 have hlt := XI 1 s
 unfold ckPD
 rw [show rdL tb br a n c ra rn rc v r s = [reC tb br ra rn rc v r (rdN 1 s).2.2.2, rdC br a n c s.2.1] from rfl]
 generalize rdN 1 s = p at *
 obtain ⟨x1, s1⟩ := p
 dsimp only at h8 hlt ⊢
 unfold ckPr
 have k64 := fun ρ a n c (h : RdAt ρ a n c ra rn rc Rs s1) => n64_spec ρ br h
 have hlt3 := XI 8 s1
 rw [show s1.2.2 = (rdN 8 s1).2.2.2 from rfl]
 generalize rdN 8 s1 = p3 at *
 obtain ⟨x4, s4⟩ := p3
 dsimp only at k64 hlt3 ⊢
 refine Za Tryz.func203 rfl rfl rfl fun u R => ?_
 simp only [Zf, kA]
 repeat' (first | (refine Zb (.func 140) ?_; refine qC rfl rfl (h8) ?_; rintro v ρ' L' hle ⟨rfl, rfl, a1, n1, c1, h1, rfl⟩ <;> (try simp only [kA])) | (refine Zb (.func 141) ?_; refine qC rfl rfl (k64 _ _ _ _ h1) ?_; rintro v ρ' L' hle ⟨rfl, rfl, a4, n4, c4, h4, rfl⟩ <;> (try simp only [kA])) | refine zV ?_ | intro _)
 exact qE ⟨Hp.le_refl _, rfl, trivial, a4, n4, c4, h4, rfl⟩
theorem rckpt1_spec (ρ : Hp) (tb br cb : Nat) (v : RV) (r : Rc) (s : ZX) {a n c ra rn rc Rs} (h : RdAt ρ a n c ra rn rc Rs s) :
  Spec Tryz.prog 201 [.pointer (some ⟨cb, 0, none⟩)] ρ (cbC cb tb :: rdL tb br a n c ra rn rc v r s)
   (fun z ρ' L' => ρ.le ρ' ∧ z = .agg ⟨YB (ckTD s).1⟩ ∧ True ∧ ∃ a' n' c', RdAt ρ' a' n' c' ra rn rc Rs (ckTD s).2 ∧ L' = cbC cb tb :: rdL tb br a' n' c' ra rn rc v r (ckTD s).2) := by
 have h8 := n32_spec ρ br h
 have hlt := XI 4 s
 unfold ckTD
 rw [show rdL tb br a n c ra rn rc v r s = [reC tb br ra rn rc v r (rdN 4 s).2.2.2, rdC br a n c s.2.1] from rfl]
 generalize rdN 4 s = p at *
 obtain ⟨x1, s1⟩ := p
 dsimp only at h8 hlt ⊢
 unfold ckTf
 have k1 := fun ρ a n c (h : RdAt ρ a n c ra rn rc Rs s1) => n64_spec ρ br h
 have hlt1 := XI 8 s1
 rw [show s1.2.2 = (rdN 8 s1).2.2.2 from rfl]
 generalize rdN 8 s1 = p1 at *
 obtain ⟨x2, s2⟩ := p1
 dsimp only at k1 hlt1 ⊢
 unfold ckTl
 have k2 := fun ρ a n c (h : RdAt ρ a n c ra rn rc Rs s2) => n64_spec ρ br h
 have hlt2 := XI 8 s2
 rw [show s2.2.2 = (rdN 8 s2).2.2.2 from rfl]
 generalize rdN 8 s2 = p2 at *
 obtain ⟨x3, s3⟩ := p2
 dsimp only at k2 hlt2 ⊢
 unfold ckTu
 have k3 := fun ρ a n c (h : RdAt ρ a n c ra rn rc Rs s3) => n64_spec ρ br h
 have hlt3 := XI 8 s3
 rw [show s3.2.2 = (rdN 8 s3).2.2.2 from rfl]
 generalize rdN 8 s3 = p3 at *
 obtain ⟨x4, s4⟩ := p3
 dsimp only at k3 hlt3 ⊢
 unfold ckTe
 have k4 := fun ρ a n c (h : RdAt ρ a n c ra rn rc Rs s4) => n8_spec ρ br h
 have hlt4 := XI 1 s4
 rw [show s4.2.2 = (rdN 1 s4).2.2.2 from rfl]
 generalize rdN 1 s4 = p4 at *
 obtain ⟨x5, s5⟩ := p4
 dsimp only at k4 hlt4 ⊢
 refine Za Tryz.func201 rfl rfl rfl fun u R => ?_
 simp only [Zf, kA]
 repeat' (first | (refine Zb (.func 142) ?_; refine qC rfl rfl (h8) ?_; rintro v ρ' L' hle ⟨rfl, rfl, a1, n1, c1, h1, rfl⟩ <;> (try simp only [kA])) | refine zV ?_ | intro _)
 refine tpA [0,1,2,3,5,6,7,8,10,11,12,13] (.e 4 [15] (.e 9 [] (.e 14 [] (.e 16 [17] (.e 18 [19] (.e 20 [] .o)))))) ([[(_, .cells ⟨[.pointer (some ⟨tb, 0, none⟩)]⟩ 221 (0, 0))], [(tb, _)]]) ?_
 repeat' (refine iT ?_; first | refine rA ?_ | ((refine iE ?_; refine rE ?_) <;> ((try refine Zr ?_); (first | (refine Zb (.func 141) ?_; refine qC rfl rfl (k1 _ _ _ _ h1) ?_; rintro v ρ' L' hle ⟨rfl, rfl, a2, n2, c2, g2, rfl⟩ <;> (try simp only [kA])) | (refine Zb (.func 141) ?_; refine qC rfl rfl (k2 _ _ _ _ g2) ?_; rintro v ρ' L' hle ⟨rfl, rfl, a3, n3, c3, g3, rfl⟩ <;> (try simp only [kA])) | (refine Zb (.func 141) ?_; refine qC rfl rfl (k3 _ _ _ _ g3) ?_; rintro v ρ' L' hle ⟨rfl, rfl, a4, n4, c4, g4, rfl⟩ <;> (try simp only [kA])) | (refine qEf ?_; try intro _)) <;> ((try simp only [kA]); refine Zj ?_; refine rN ?_))))
 all_goals (repeat' (first | (refine Zb (.func 140) ?_; refine qC rfl rfl (k4 _ _ _ _ g4) ?_; rintro v ρ' L' hle ⟨rfl, rfl, a5, n5, c5, g5, rfl⟩ <;> (try simp only [kA])) | refine zV ?_ | intro _))
 all_goals exact qE ⟨Hp.le_refl _, rfl, trivial, a5, n5, c5, g5, rfl⟩
end Go.Proofs.E
