/- Laws of RedoAll,RedoOthers,RedoSteps. Part 22 of 23. -/
import Derived.Test.YtpcfmhifkkpjpaaGreatA18
namespace Go.Proofs.E
open Go
set_option linter.unusedVariables false
set_option linter.unusedSimpArgs false
set_option linter.unusedSectionVars false
set_option maxRecDepth 4000
set_option maxHeartbeats 1000000
attribute [local irreducible] Yl TL TC TE Spec ZF R1 Hp.le EnvLe TS TR YS Zo TP QP
theorem CI.w {ρ v c} (h : CI ρ v c) : CW ρ v c := ⟨h.cin.r, h.cin.k, by have := h.cin.rb; omega, by have := h.cin.kb; omega, h.cin.rc, h.cin.kc, h.row, h.kid⟩
theorem AS.w {ρ : Hp} {sz : Nat} {α : Type} {g : α → List Value} {s : SV} {l : List α} (h : AS ρ sz g s l) : AW ρ sz g s l := ⟨h.at', by have := h.big; omega, h.cap⟩
theorem RcIn.w {ρ v r} (h : RcIn ρ v r) : RcW ρ v r := ⟨h.i.w, fun x hx => ⟨(h.im x hx).b.w, (h.im x hx).a.w⟩, h.s.w, h.t.w, h.d.w, h.sf⟩
theorem steps24Law_spec (ρ : Hp) (x : StA) (hx : StI ρ x) (a1 : Option Addr) (n1 c1 : Nat) (dl : List Ym) (h1 : AIn ρ 2 YQ a1 n1 dl) (hc1 : n1 ≤ c1) (hn1 : n1 ≤ 9223372036854775807)
  (a2 : Option Addr) (n2 c2 : Nat) (rs : List RR) (h2 : AIn ρ 10 rrV a2 n2 rs) (hw2 : ∀ x ∈ rs, RcW ρ x.1 x.2) (hn2 : n2 ≤ 9223372036854775807) (hc2 : n2 ≤ c2) :
  Spec Tryz.prog 5 [.agg ⟨stA x⟩, .slice a1 n1 c1, .slice a2 n2 c2] ρ [] (fun z ρ' L' => z = .bool true ∧ ρ.le ρ' ∧ L' = []) := by
 have hl1 := h1.len
 have hl2 := h2.len
 obtain ⟨md, hmd⟩ : ∃ m, m = min n1 65 := ⟨_, rfl⟩
 have hdm : (min (n1 : Int) 65).toNat = md := by omega
 have hD := h1.take (hi' := md) (by omega)
 rw [take_some 65 _ _ _ hl1 hmd] at hD
 have hDl := hD.len
 generalize dl.take 65 = DD at *
 obtain ⟨mm, hmm⟩ : ∃ m, m = min n2 4 := ⟨_, rfl⟩
 have hm4 : (min (n2 : Int) 4).toNat = mm := by omega
 have hMo := h2.take (hi' := mm) (by omega)
 have hMl := hMo.len
 have hMw : ∀ y ∈ rs.take mm, RcW ρ y.1 y.2 := fun y hy => hw2 y (List.mem_of_mem_take hy)
 generalize rs.take mm = mo at *
 refine Za Tryz.func5 rfl rfl rfl fun u R => ?_
 simp only [Zg, kA]
 repeat' (first | (refine Zb (.func 37) ?_; refine qC rfl rfl (wakes24_spec _) ?_; rintro v ρ' L' hle ⟨rfl, hw1, rfl⟩ <;> (try simp only [kA])) | (refine Zb (.func 38) ?_; refine qC rfl rfl (made_spec _ x (hx.mono hw1)) ?_; rintro v1 ρ1 L1 hle1 ⟨hz1, sb, db, lb, fb, rb, S, v, sp, w, k, D, t, held, ra, rc, l, pa, pc, pl, rfl, hM, rfl⟩; try simp only [kA]) | (simp only [hdm]; refine Ye (n := 0) (xs := []) (sp := []) (ys := (DD.map YQ).flatten) (m := md) (sz := 2) rfl rfl (OwnS.zero _ 2) (hR := by repeat (first | exact Zx | apply ZA)) (AIn.srcV (hD.mono (Hp.le_trans hw1 hz1))) (by rw [Yn YQ 2 _ (fun x _ => rfl), hDl]) (flat_one YQ ckPV_one _) (by decide) rfl (by omega) (by omega) rfl (fun v2 sp2 hown2 => ?_); simp only [Nat.zero_add, List.nil_append] at hown2 ⊢; refine ZB _ (h := Rem.here) (fun ρ2 hz2 hfz2 => ?_); obtain ⟨da, dc, rfl, hdc, hDA⟩ := hown2.aIn hDl (fun x _ => ckPV_len x) hfz2; clear hfz2) | refine zV ?_ | intro _)
 have hdS : AS ρ2 2 YQ ⟨da, md, dc⟩ DD := ⟨hDA, by dsimp only; omega, hdc⟩
 refine tpA [0,1,2,3,4,5,6,7] (.e 8 [] (.f [9,10,11,12,13] .o)) ([stdC sb db lb fb (.slice ra l.length rc) (.slice pa 64 pc)]) ?_
 repeat' (refine iT ?_; first | refine rA ?_ | ((refine iE ?_; refine rE ?_) <;> ((try refine Zn ?_); (first | (refine Zb (.func 39) ?_; refine qC rfl rfl (new17_spec _ fb lb) ?_; rintro v3 ρ3 L3 hle3 ⟨hz3, pb, mb, rfl, hp3, rfl⟩; try simp only [kA]) | (refine Yp ?_; try intro _)) <;> ((try simp only [kA]); refine Zi ?_; refine rN ?_))))
 have hz23 := Hp.le_trans hz2 hz3
 have hl03 := Hp.le_trans hw1 (Hp.le_trans hz1 hz23)
 have hpq := hM.pq hz23 hp3
 have hrc := hM.rcs hz23
 have hd3 := hdS.mono hz3
 have hpg := hM.pg.mono hz23
 have hlg3 := hM.lg.mono hz23
 have hfw := hM.few
 have hflb := hM.base
 clear hM
 repeat' (first | refine zV ?_ | intro _)
 refine tpA [1,2,3,4,6,7,8,9,10,13] (.e 0 [] (.e 5 [] (.e 11 [] (.f [12] .o)))) ([stdC sb db lb fb (.slice ra l.length rc) (.slice pa 64 pc)]) ?_
 repeat' (refine iT ?_; first | refine rA ?_ | ((refine iE ?_; refine rE ?_) <;> ((try refine Zn ?_); (first | (refine Ye (n := 0) (xs := []) (sp := []) (ys := XO l) (m := l.length) (sz := 10) rfl rfl (OwnS.zero _ 10) (hR := by repeat (first | exact Zx | apply ZA)) (AIn.srcV hrc.at') (by rw [flatL_len]) (flatL_one _) (by decide) rfl (by omega) (by omega) rfl (fun v4 sp4 hown4 => ?_); simp only [Nat.zero_add, List.nil_append] at hown4 ⊢; obtain ⟨va4, vc4, rfl, hvc4⟩ := hown4.slice) | (simp only [hm4]; refine Ye (ys := XO mo) (m := mm) (sz := 10) rfl rfl hown4 (hR := by repeat (first | exact Zx | apply ZA)) (AIn.srcV (hMo.mono hl03)) (by rw [flatL_len, hMl]) (flatL_one _) (by decide) rfl (by omega) (by omega) rfl (fun v5 sp5 hown5 => ?_); obtain ⟨va5, vc5, rfl, hvc5⟩ := hown5.slice) | (refine Yp ?_; try intro _)) <;> ((try simp only [kA]); refine Zi ?_; refine rN ?_))))
 rw [← flatL_add] at hown5 ⊢
 refine Yw (ZM (.slice va5 (l.length + mm) vc5) (XO (l ++ mo)) sp5 39) (fun ρ4 hz4 hfz4 => ?_)
 obtain ⟨ea, ec, e9, hec, hRA⟩ := hown5.aIn (g := rrV) (l := l ++ mo) (by rw [List.length_append, hMl]) (fun _ _ => rfl) hfz4
 cases e9
 have hl04 := Hp.le_trans hl03 hz4
 have hRw : ∀ y ∈ l ++ mo, RcW ρ4 y.1 y.2 := fun y hy => by
  rcases List.mem_append.1 hy with hy | hy
  ·exact ((hrc.rin y hy).mono hz4).w
  ·exact (hMw y hy).mono hl04
 have hRk : ∀ i (h : i < (l ++ mo).length), i < l.length → (Wa S ((l ++ mo)[i]).2.lsn).isSome = true := fun i h hi => by
  rw [List.getElem_append_left hi]; exact hrc.known _ (List.getElem_mem hi)
 have hRl : (l ++ mo).length = l.length + mm := by rw [List.length_append, hMl]
 generalize l ++ mo = RL at *
 have hd4 := hd3.mono hz4
 have hpq4 := hpq.mono hz4
 have hpg4 := hpg.mono hz4
 have hlg4 := hlg3.mono hz4
 clear hfz4 hpq hpg hlg3 hd3 hdS hrc
 repeat' (first | refine zV ?_ | intro _)
 refine Zk [(1, _), (7, _), (9, _), (60, _), (61, _)] (fun (ζ : (Nat) × (Hp) × (PgF) × (List MapEntry) × (Nat) × (Pgs) × (DS) × (Option Addr) × (Nat) × (List PgD)) => [(62, .int .i64 ζ.1), (6, .bool false)]) (fun (ζ : (Nat) × (Hp) × (PgF) × (List MapEntry) × (Nat) × (Pgs) × (DS) × (Option Addr) × (Nat) × (List PgD)) => ζ.2.1) (fun (ζ : (Nat) × (Hp) × (PgF) × (List MapEntry) × (Nat) × (Pgs) × (DS) × (Option Addr) × (Nat) × (List PgD)) => stdC sb db lb fb (.slice ra l.length rc) (.slice ζ.2.2.2.2.2.2.2.1 64 ζ.2.2.2.2.2.2.2.2.1) :: ZY lb rb S v :: Yy S v sp :: Xa mb ζ.2.2.2.1 ζ.2.2.2.2.1 :: Zl db k ζ.2.2.2.2.2.2.1) (fun (ζ : (Nat) × (Hp) × (PgF) × (List MapEntry) × (Nat) × (Pgs) × (DS) × (Option Addr) × (Nat) × (List PgD)) => ζ.1 ≤ RL.length ∧ ρ4.le ζ.2.1 ∧ PqI ζ.2.1 pb fb lb mb db t ζ.2.2.2.2.2.1 ζ.2.2.2.1 k ζ.2.2.2.2.2.2.1 held ζ.2.2.1 ∧ PgL ζ.2.1 ζ.2.2.2.2.2.2.2.1 ζ.2.2.2.2.2.2.2.2.1 ζ.2.2.2.2.2.2.2.2.2 ζ.2.2.1) (fun (ζ : (Nat) × (Hp) × (PgF) × (List MapEntry) × (Nat) × (Pgs) × (DS) × (Option Addr) × (Nat) × (List PgD)) => RL.length - ζ.1) ((0, ρ4, held, [], 0, pgZ, D, pa, pc, pl)) (⟨Nat.zero_le _, Hp.le_refl _, hpq4, hpg4⟩) Zc Zc rfl tk ?_
 rintro ⟨i, ρ5, p, es5, ck5, pg5, D5, pa5, pc5, pl5⟩ hI
 try simp only [kA, List.append_assoc] at hI ⊢
 try dsimp only at hI ⊢
 obtain ⟨hi, hz5, hq5, hp5⟩ := hI
 have hl05 := Hp.le_trans hl04 hz5
 by_cases hlt : i < RL.length
 ·obtain ⟨b, off, C, T, fr, e1, hb, hfit, hc⟩ := (hRA.mono hz5).get hlt
  have hyw := (hRw _ (List.getElem_mem hlt)).mono hz5
  have hyk := hRk i hlt
  generalize RL[i] = y at *
  obtain ⟨yv, yr⟩ := y
  dsimp only at hyw hyk hc
  subst e1
  have hfew := few24_spec ρ5 yv yr hyw
  repeat' (first | (refine Zb (.func 40) ?_; refine qC rfl rfl hfew ?_; rintro v6 ρ6 L6 hle6 ⟨hz6, rv, rr, rfl, hrin, hpl6, rfl⟩; try simp only [kA]) | refine zV ?_ | intro _)
  have hll : rr.lsn = yr.lsn := show rr.plain.lsn = (fewR24 yr).lsn from congrArg Rc.lsn hpl6
  rw [← hll] at hyk
  clear hpl6 hll hyw
  have hq6 := hq5.mono hz6
  have hp6 := hp5.mono hz6
  have hd6 := (hd4.mono hz5).mono hz6
  have hlg6 := (hlg4.mono hz5).mono hz6
  have hst := step24_spec ρ6 pb fb lb mb rb db t pg5 es5 ck5 k D5 held p hq6 S v sp hlg6 ⟨da, md, dc⟩ DD hd6 rv rr hrin
  have hr22 := fun ρ7 (h : ρ6.le ρ7) => Vc ρ7 ⟨da, md, dc⟩ DD (hd6.mono h)
  simp only [← tblOk_up] at hr22
  have hr12 := fun ρ7 (h : ρ6.le ρ7) => right12_spec ρ7 rv rr (hrin.mono h)
  cases ht : Xn DD
  ·rw [ht] at hr22
   have hB := step24_bad ρ6 pb ⟨da, md, dc⟩ DD hd6 ht rv rr hrin
   repeat' (first | (refine Zb (.func 41) ?_; refine qR rfl rfl (hB) ?_; try simp only [kA]) | (refine Zb (.func 42) ?_; refine qR rfl rfl (hr22 _ (Hp.le_refl _)) ?_; try simp only [kA]) | refine zV ?_ | intro _)
   exact qE (L' := []) ⟨rfl, Hp.le_trans hl05 hz6, rfl⟩
  ·rw [ht] at hr22
   cases hok : ZT rr
   ·rw [hok] at hr12
    have hwe : WJ DD rr = 220 := by unfold WJ; rw [ht, hok]; rfl
    have hok0 : okT (Wa S rr.lsn).isSome DD p rr = false := by unfold okT; rw [hwe]; rfl
    rw [show stpE (Wa S rr.lsn).isSome DD p rr = 220 by unfold stpE; rw [if_pos (by omega)]; exact hwe, show stpN (Wa S rr.lsn).isSome DD p rr = 0 by unfold stpN; rw [hok0]; rfl, show stpP (Wa S rr.lsn).isSome DD p rr = p by unfold stpP; rw [hok0]; rfl] at hst
    repeat' (first | (refine Zb (.func 41) ?_; refine qC rfl rfl hst ?_; rintro v7 ρ7 L7 hle7 ⟨rfl, hz7, es7, ck7, pg7, D7, hq7, hL7, rfl⟩; have hz67 := Hp.le_trans hz5 (Hp.le_trans hz6 hz7); try simp only [kA]) | (refine Zb (.func 42) ?_; refine qR rfl rfl (hr22 _ hz7) ?_; try simp only [kA]) | (refine Zb (.func 15) ?_; refine qR rfl rfl (hr12 _ hz7) ?_; try simp only [kA]) | refine zV ?_ | intro _)
    refine Zd (i + 1, ρ7, p, es7, ck7, pg7, D7, pa5, pc5, pl5) (⟨hlt, hz67, hq7, hp6.mono hz7⟩) Zc Zc rfl tk inferInstance (by first | omega | (dsimp only; omega))
   ·rw [hok] at hr12
    have hwe : WJ DD rr = 0 := by unfold WJ; rw [ht, hok]; rfl
    have hrs := fun ρ7 (h : ρ6.le ρ7) => refstep_spec ρ7 pa5 pc5 pl5 p (hp6.mono h) ⟨da, md, dc⟩ DD (hd6.mono h) rv rr (hrin.mono h) hwe
    have hq16 := redoS_len p DD hok
    have hRec := fun ρ8 (h : ρ6.le ρ8) => rec16_spec ρ8 lb rb S v sp (hlg6.mono h) rr.lsn
    cases hkk : okT (Wa S rr.lsn).isSome DD p rr
    ·have hkn : (Wa S rr.lsn).isSome = false := by
      cases h : (Wa S rr.lsn).isSome with
      | false => rfl
      | true => unfold okT at hkk; rw [hwe, h] at hkk; simp at hkk
     have hqn : 0 < (Yu p DD rr).length := by
      unfold okT at hkk
      rw [hwe, hkn] at hkk
      simp only [decide_true, Bool.false_or, Bool.true_and] at hkk
      exact List.length_pos_iff.2 (fun e => by rw [e] at hkk; simp at hkk)
     have hil : l.length ≤ i := by
      rcases Nat.lt_or_ge i l.length with h | h
      ·rw [hyk h] at hkn; cases hkn
      ·exact h
     rw [show stpE (Wa S rr.lsn).isSome DD p rr = 2 by unfold stpE; rw [if_neg (by simp [hwe]), hkk]; rfl, show stpN (Wa S rr.lsn).isSome DD p rr = 0 by unfold stpN; rw [hkk]; rfl, show stpP (Wa S rr.lsn).isSome DD p rr = p by unfold stpP; rw [hkk]; rfl] at hst
     generalize (Yu p DD rr).length = q at *
     generalize Wa S rr.lsn = o at *
     obtain rfl : o = none := by cases o <;> first | rfl | cases hkn
     simp only [recAns, Option.getD_none, Option.isSome_none, Bool.false_eq_true, if_false] at hRec
     repeat' (first | (refine Zb (.func 41) ?_; refine qC rfl rfl hst ?_; rintro v7 ρ7 L7 hle7 ⟨rfl, hz7, es7, ck7, pg7, D7, hq7, hL7, rfl⟩; have hz67 := Hp.le_trans hz5 (Hp.le_trans hz6 hz7); try simp only [kA]) | (refine Zb (.func 42) ?_; refine qR rfl rfl (hr22 _ hz7) ?_; try simp only [kA]) | (refine Zb (.func 15) ?_; refine qR rfl rfl (hr12 _ hz7) ?_; try simp only [kA]) | refine zV ?_ | intro _)
     refine tpA [0,1,2,3,4,5] (.e 6 [] (.f [7,8,9,10,11] .o)) ([stdC sb db lb fb (.slice ra l.length rc) (.slice pa5 64 pc5), [(_, .cells ⟨YI rv rr⟩ 39 (0, 0))]]) ?_
     repeat' (refine iT ?_; first | refine rA ?_ | ((refine iE ?_; refine rE ?_) <;> ((try refine Zn ?_); (first | (refine Zb (.func 43) ?_; refine qC rfl rfl (hrs _ hz7) ?_; rintro v8 ρ8 L8 hle8 ⟨hz8, pa8, pc8, pl8, rfl, hp8, rfl⟩; have hz68 := Hp.le_trans hz7 hz8; try simp only [kA]) | (refine Yp ?_; try intro _)) <;> ((try simp only [kA]); refine Zi ?_; refine rN ?_))))
     all_goals (repeat' (first | refine zV ?_ | intro _))
     all_goals refine tpA [0,1,2,3,4,5] (.b 6 10 [7,8,9] [] (.e 10 [] (.e 11 [] (.f [12] .o))) (.e 6 [7,8,9] (.e 11 [] (.f [12] .o)))) ([stdC sb db lb fb (.slice ra l.length rc) (.slice pa5 64 pc5), [(_, .cells ⟨YI rv rr⟩ 39 (0, 0))]]) ?_
     all_goals (repeat' (refine iT ?_; first | refine rA ?_ | ((first | (refine iE ?_; refine rE ?_) | (refine iB ?_; refine rB ?_ ?_)) <;> ((try refine Zn ?_); (first | (refine Zb (.func 44) ?_; refine qC rfl rfl (hRec _ hz68) ?_; rintro v9 ρ9 L9 hle9 ⟨rfl, hz9, rfl⟩; try simp only [kA]) | (refine Yp ?_; try intro _)) <;> ((try simp only [kA]); refine Zi ?_; refine rN ?_)))))
     all_goals (repeat' (first | refine zV ?_ | intro _))
     all_goals refine Zd (i + 1, ρ9, p, es7, ck7, pg7, D7, pa5, pc5, pl5) (⟨hlt, Hp.le_trans hz67 (Hp.le_trans hz8 hz9), hq7.mono (Hp.le_trans hz8 hz9), hp6.mono (Hp.le_trans hz68 hz9)⟩) Zc Zc rfl tk inferInstance (by first | omega | (dsimp only; omega))
    ·rw [show stpE (Wa S rr.lsn).isSome DD p rr = 0 by unfold stpE; rw [if_neg (by simp [hwe]), hkk]; rfl, show stpN (Wa S rr.lsn).isSome DD p rr = (Yu p DD rr).length by unfold stpN; rw [hkk]; rfl, show stpP (Wa S rr.lsn).isSome DD p rr = Ww DD p rr by unfold stpP; rw [hkk]; rfl] at hst
     by_cases hil : l.length ≤ i ∧ 0 < (Yu p DD rr).length
     ·obtain ⟨hil, hqn⟩ := hil
      have hkn : (Wa S rr.lsn).isSome = true := by
       unfold okT at hkk
       rw [Bool.and_eq_true, Bool.or_eq_true] at hkk
       rcases hkk.2 with h | h
       ·exact h
       ·rw [List.isEmpty_iff.1 h] at hqn; simp at hqn
      obtain ⟨y0, hy0⟩ := Option.isSome_iff_exists.1 hkn
      rw [hy0] at hRec
      simp only [recAns, Option.getD_some, Option.isSome_some, if_true] at hRec
      generalize (Yu p DD rr).length = q at *
      repeat' (first | (refine Zb (.func 41) ?_; refine qC rfl rfl hst ?_; rintro v7 ρ7 L7 hle7 ⟨rfl, hz7, es7, ck7, pg7, D7, hq7, hL7, rfl⟩; have hz67 := Hp.le_trans hz5 (Hp.le_trans hz6 hz7); try simp only [kA]) | (refine Zb (.func 42) ?_; refine qR rfl rfl (hr22 _ hz7) ?_; try simp only [kA]) | (refine Zb (.func 15) ?_; refine qR rfl rfl (hr12 _ hz7) ?_; try simp only [kA]) | refine zV ?_ | intro _)
      refine tpA [0,1,2,3,4,5] (.e 6 [] (.f [7,8,9,10,11] .o)) ([stdC sb db lb fb (.slice ra l.length rc) (.slice pa5 64 pc5), [(_, .cells ⟨YI rv rr⟩ 39 (0, 0))]]) ?_
      repeat' (refine iT ?_; first | refine rA ?_ | ((refine iE ?_; refine rE ?_) <;> ((try refine Zn ?_); (first | (refine Zb (.func 43) ?_; refine qC rfl rfl (hrs _ hz7) ?_; rintro v8 ρ8 L8 hle8 ⟨hz8, pa8, pc8, pl8, rfl, hp8, rfl⟩; have hz68 := Hp.le_trans hz7 hz8; try simp only [kA]) | (refine Yp ?_; try intro _)) <;> ((try simp only [kA]); refine Zi ?_; refine rN ?_))))
      all_goals (repeat' (first | refine zV ?_ | intro _))
      all_goals refine tpA [0,1,2,3,4,5] (.b 6 10 [7,8,9] [] (.e 10 [] (.e 11 [] (.f [12] .o))) (.e 6 [7,8,9] (.e 11 [] (.f [12] .o)))) ([stdC sb db lb fb (.slice ra l.length rc) (.slice pa5 64 pc5), [(_, .cells ⟨YI rv rr⟩ 39 (0, 0))]]) ?_
      all_goals (repeat' (refine iT ?_; first | refine rA ?_ | ((first | (refine iE ?_; refine rE ?_) | (refine iB ?_; refine rB ?_ ?_)) <;> ((try refine Zn ?_); (first | (refine Zb (.func 44) ?_; refine qC rfl rfl (hRec _ hz68) ?_; rintro v9 ρ9 L9 hle9 ⟨rfl, hz9, rfl⟩; try simp only [kA]) | (refine Yp ?_; try intro _)) <;> ((try simp only [kA]); refine Zi ?_; refine rN ?_)))))
      all_goals
       have hHo := fun ρ10 (h : ρ9.le ρ10) => holds24_spec ρ10 pb fb lb mb db t pg7 es7 ck7 k D7 held _ ((hq7.mono (Hp.le_trans hz8 hz9)).mono h) pa8 pc8 pl8 ((hp8.mono hz9).mono h)
       repeat' (first | (refine Zb (.func 45) ?_; refine qC rfl rfl (hHo _ (Hp.le_refl _)) ?_; rintro v10 ρ10 L10 hle10 ⟨rfl, hz10, es10, ck10, pg10, D10, hq10, hL10, rfl⟩; try simp only [kA]) | refine zV ?_ | intro _)
       refine Zd (i + 1, ρ10, Ww DD p rr, es10, ck10, pg10, D10, pa8, pc8, pl8) (⟨hlt, Hp.le_trans hz67 (Hp.le_trans hz8 (Hp.le_trans hz9 hz10)), hq10, hp8.mono (Hp.le_trans hz9 hz10)⟩) Zc Zc rfl tk inferInstance (by first | omega | (dsimp only; omega))
     ·have hsk : i < l.length ∨ (l.length ≤ i ∧ (Yu p DD rr).length = 0) := by omega
      generalize (Yu p DD rr).length = q at *
      rcases hsk with hsk | ⟨hsk, hq0⟩
      all_goals (repeat' (first | (refine Zb (.func 41) ?_; refine qC rfl rfl hst ?_; rintro v7 ρ7 L7 hle7 ⟨rfl, hz7, es7, ck7, pg7, D7, hq7, hL7, rfl⟩; have hz67 := Hp.le_trans hz5 (Hp.le_trans hz6 hz7); try simp only [kA]) | (refine Zb (.func 42) ?_; refine qR rfl rfl (hr22 _ hz7) ?_; try simp only [kA]) | (refine Zb (.func 15) ?_; refine qR rfl rfl (hr12 _ hz7) ?_; try simp only [kA]) | refine zV ?_ | intro _))
      all_goals refine tpA [0,1,2,3,4,5] (.e 6 [] (.f [7,8,9,10,11] .o)) ([stdC sb db lb fb (.slice ra l.length rc) (.slice pa5 64 pc5), [(_, .cells ⟨YI rv rr⟩ 39 (0, 0))]]) ?_
      all_goals (repeat' (refine iT ?_; first | refine rA ?_ | ((refine iE ?_; refine rE ?_) <;> ((try refine Zn ?_); (first | (refine Zb (.func 43) ?_; refine qC rfl rfl (hrs _ hz7) ?_; rintro v8 ρ8 L8 hle8 ⟨hz8, pa8, pc8, pl8, rfl, hp8, rfl⟩; have hH := holds24_spec ρ8 pb fb lb mb db t pg7 es7 ck7 k D7 held _ (hq7.mono hz8) pa8 pc8 pl8 hp8; try simp only [kA]) | (refine Yp ?_; try intro _)) <;> ((try simp only [kA]); refine Zi ?_; refine rN ?_)))))
      all_goals (repeat' (first | (refine Zb (.func 45) ?_; refine qC rfl rfl hH ?_; rintro v10 ρ10 L10 hle10 ⟨rfl, hz10, es10, ck10, pg10, D10, hq10, hL10, rfl⟩; try simp only [kA]) | refine zV ?_ | intro _))
      all_goals refine Zd (i + 1, ρ10, Ww DD p rr, es10, ck10, pg10, D10, pa8, pc8, pl8) (⟨hlt, Hp.le_trans hz67 (Hp.le_trans hz8 hz10), hq10, hp8.mono hz10⟩) Zc Zc rfl tk inferInstance (by first | omega | (dsimp only; omega))
 ·repeat' (first | refine zV ?_ | intro _)
  exact qE (L' := []) ⟨rfl, hl05, rfl⟩
end Go.Proofs.E
