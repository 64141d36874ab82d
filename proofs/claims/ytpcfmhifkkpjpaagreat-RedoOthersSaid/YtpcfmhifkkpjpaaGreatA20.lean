/- Laws of RedoAll,RedoOthers,RedoSteps. Part 20 of 23. -/
import Derived.Test.YtpcfmhifkkpjpaaGreatA18
namespace Go.Proofs.E
open Go
set_option linter.unusedVariables false
set_option linter.unusedSimpArgs false
set_option linter.unusedSectionVars false
set_option maxRecDepth 4000
set_option maxHeartbeats 1000000
attribute [local irreducible] Yl TL TC TE Spec ZF R1 Hp.le EnvLe TS TR YS Zo TP QP
theorem putS_cases (lsn : Nat) (n : Nat) : ∀ (l : List Sh) (p : PgF), putS lsn p l n = p n ∨ ∃ s ∈ l, s.page.toNat = n ∧ putS lsn p l n = (s.c, lsn)
 | [], p => .inl rfl
 | s :: r, p => by
  show putS lsn (upd p s.page.toNat (s.c, lsn)) r n = p n ∨ _
  rcases putS_cases lsn n r (upd p s.page.toNat (s.c, lsn)) with h | ⟨x, hx, h1, h2⟩
  ·unfold upd at h
   split at h
   ·rename_i e; exact .inr ⟨s, by simp, e.symm, h⟩
   ·exact .inl h
  ·exact .inr ⟨x, by simp [hx], h1, h2⟩
def inT (d : List Ym) (n : Nat) : Prop := ∃ p ∈ d, p.page = (n : Int)
theorem needs_in {d : List Ym} {r : Rc} {page : Int} (h : XE d r page = true) : ∃ p ∈ d, p.page = page := by
 unfold XE at h
 rw [Bool.and_eq_true, Bool.and_eq_true] at h
 obtain ⟨_, _, h⟩ := h
 cases hp : recP page d with
 | none => rw [hp] at h; cases h
 | some p =>
  unfold recP at hp
  exact ⟨p, List.mem_of_find?_eq_some hp, by have := List.find?_some hp; simpa using this⟩
theorem stepP_cases {d : List Ym} {p : PgF} {r : Rc} (hr : ZT r = true) (n : Nat) : Ww d p r n = p n ∨ ((p n).2 < (Ww d p r n).2 ∧ inT d n) := by
 rcases putS_cases r.lsn n (Yu p d r) p with h | ⟨s, hs, h1, h2⟩
 ·exact .inl h
 ·right
  have hpg := redoS_page hr hs
  obtain ⟨x, hx, rfl, hlt, hnd⟩ := redoS_in hs
  obtain ⟨q, hq, hqp⟩ := needs_in hnd
  have h2 : Ww d p r n = ((Wy x).c, r.lsn) := h2
  rw [h2]
  have hxn : x.page.toNat = n := h1
  rw [hxn] at hlt
  exact ⟨hlt, q, hq, by rw [hqp]; have : 0 ≤ x.page := hpg.1; omega⟩
theorem allP_cases {d : List Ym} (n : Nat) : ∀ (l : List RR) (p : PgF), (∀ x ∈ l, ZT x.2 = true) → allP d p l n = p n ∨ ((p n).2 < (allP d p l n).2 ∧ inT d n)
 | [], p, _ => .inl rfl
 | x :: l, p, h => by
  show allP d (Ww d p x.2) l n = p n ∨ ((p n).2 < (allP d (Ww d p x.2) l n).2 ∧ _)
  rcases allP_cases n l (Ww d p x.2) (fun y hy => h y (by simp [hy])) with h1 | ⟨h1, h2⟩
  ·rw [h1]; exact stepP_cases (h x (by simp)) n
  ·rcases stepP_cases (d := d) (p := p) (h x (by simp)) n with h3 | ⟨h3, _⟩
   ·rw [h3] at h1; exact .inr ⟨h1, h2⟩
   ·exact .inr ⟨by omega, h2⟩
structure InM (es : List MapEntry) (l : List Ym) : Prop where
 keys : Yi .i64 es
 yes : ∀ n, (∃ p ∈ l, p.page = n) → YC es n = some (.bool true)
 no : ∀ n, (¬ ∃ p ∈ l, p.page = n) → YC es n = none
theorem InM.zero : InM [] [] := ⟨(by intro e he; cases he), (by rintro n ⟨p, hp, _⟩; cases hp), fun _ _ => rfl⟩
theorem InM.add {es es' : List MapEntry} {l : List Ym} (h : InM es l) {p : Ym} (hk : Yi .i64 es') (hg : ∀ j, YC es' j = if j = p.page then some (.bool true) else YC es j) : InM es' (l ++ [p]) :=
 ⟨hk, fun n hn => by
  rw [hg]
  split
  ·rfl
  ·rename_i hne
   obtain ⟨q, hq, hqn⟩ := hn
   rcases List.mem_append.1 hq with hq | hq
   ·exact h.yes n ⟨q, hq, hqn⟩
   ·rw [List.mem_singleton.1 hq] at hqn; exact absurd hqn.symm hne, fun n hn => by
  rw [hg, if_neg (fun e => hn ⟨p, by simp, e.symm⟩)]
  exact h.no n (fun ⟨q, hq, hqn⟩ => hn ⟨q, by simp [hq], hqn⟩)⟩
theorem others24Law_spec (ρ : Hp) (x : StA) (hx : StI ρ x) (a1 : Option Addr) (n1 c1 : Nat) (dl : List Ym) (h1 : AIn ρ 2 YQ a1 n1 dl) (hc1 : n1 ≤ c1) (hn1 : n1 ≤ 9223372036854775807) :
  Spec Tryz.prog 8 [.agg ⟨stA x⟩, .slice a1 n1 c1] ρ [] (fun z ρ' L' => z = .bool true ∧ ρ.le ρ' ∧ L' = []) := by
 have hl1 := h1.len
 obtain ⟨md, hmd⟩ : ∃ m, m = min n1 65 := ⟨_, rfl⟩
 have hdm : (min (n1 : Int) 65).toNat = md := by omega
 have hD := h1.take (hi' := md) (by omega)
 rw [take_some 65 _ _ _ hl1 hmd] at hD
 have hDl := hD.len
 generalize dl.take 65 = DD at *
 refine Za Tryz.func8 rfl rfl rfl fun u R => ?_
 simp only [Zg, kA]
 have hck := fun ρ2 da dc (h : AS ρ2 2 YQ ⟨da, md, dc⟩ DD) => ckcheck_spec ρ2 ⟨da, md, dc⟩ DD h
 cases ht : Xn DD
 all_goals
  rw [ht] at hck
  simp only [Bool.false_eq_true, if_false, if_true] at hck
  repeat' (first | (refine Zb (.func 37) ?_; refine qC rfl rfl (wakes24_spec _) ?_; rintro v ρ' L' hle ⟨rfl, hw1, rfl⟩ <;> (try simp only [kA])) | (refine Zb (.func 38) ?_; refine qC rfl rfl (made_spec _ x (hx.mono hw1)) ?_; rintro v1 ρ1 L1 hle1 ⟨hz1, sb, db, lb, fb, rb, S, v, sp, w, k, D, t, held, ra, rc, l, pa, pc, pl, rfl, hM, rfl⟩; try simp only [kA]) | (simp only [hdm]; refine Ye (n := 0) (xs := []) (sp := []) (ys := (DD.map YQ).flatten) (m := md) (sz := 2) rfl rfl (OwnS.zero _ 2) (hR := by repeat (first | exact Zx | apply ZA)) (AIn.srcV (hD.mono (Hp.le_trans hw1 hz1))) (by rw [Yn YQ 2 _ (fun x _ => rfl), hDl]) (flat_one YQ ckPV_one _) (by decide) rfl (by omega) (by omega) rfl (fun v2 sp2 hown2 => ?_); simp only [Nat.zero_add, List.nil_append] at hown2 ⊢; refine ZB _ (h := Rem.here) (fun ρ2 hz2 hfz2 => ?_); obtain ⟨da, dc, rfl, hdc, hDA⟩ := hown2.aIn hDl (fun x _ => ckPV_len x) hfz2; clear hfz2; have hdS : AS ρ2 2 YQ ⟨da, md, dc⟩ DD := ⟨hDA, (by dsimp only; omega), hdc⟩) | (refine Zb (.func 58) ?_; refine qR rfl rfl (hck _ _ _ hdS) ?_; try simp only [kA]) | refine zV ?_ | intro _)
 ·exact qE (L' := []) ⟨rfl, Hp.le_trans hw1 (Hp.le_trans hz1 hz2), rfl⟩
 refine tpA [0,1,2,3,4,5,6,7] (.e 8 [] (.f [9,10,11,12,13] .o)) ([stdC sb db lb fb (.slice ra l.length rc) (.slice pa 64 pc)]) ?_
 repeat' (refine iT ?_; first | refine rA ?_ | ((refine iE ?_; refine rE ?_) <;> ((try refine Zn ?_); (first | (refine Zb (.func 39) ?_; refine qC rfl rfl (new17_spec _ fb lb) ?_; rintro v3 ρ3 L3 hle3 ⟨hz3, pb, mb, rfl, hp3, rfl⟩; try simp only [kA]) | (refine Yp ?_; try intro _)) <;> ((try simp only [kA]); refine Zi ?_; refine rN ?_))))
 have hz23 := Hp.le_trans hz2 hz3
 have hl03 := Hp.le_trans hw1 (Hp.le_trans hz1 hz23)
 have hpq := hM.pq hz23 hp3
 have hrc := hM.rcs hz23
 have hd3 := hdS.mono hz3
 have hpg := hM.pg.mono hz23
 have hlg3 := hM.lg.mono hz23
 clear hM hck
 have hA := all24_spec ρ3 pb fb lb mb rb db t pgZ [] 0 k D held held hpq S v sp hlg3 ⟨da, md, dc⟩ DD hd3 ht ra l.length rc l hrc
 have hca := fun n => allP_cases (d := DD) n l held hrc.ok
 generalize allP DD held l = p' at *
 repeat' (first | (refine Zb (.func 57) ?_; refine qC rfl rfl hA ?_; rintro v4 ρ4 L4 hle4 ⟨rfl, hz4, es4, ck4, pg4, D4, hq4, hL4, rfl⟩; try simp only [kA]) | refine zV ?_ | intro _)
 rename_i mb2
 have hl04 := Hp.le_trans hl03 hz4
 refine Zk [(4, _), (5, _), (7, _), (11, _), (65, _), (66, _)] (fun (ζ : (Nat) × (List MapEntry) × (Nat)) => [(67, .int .i64 ζ.1)]) (fun (ζ : (Nat) × (List MapEntry) × (Nat)) => ρ4) (fun (ζ : (Nat) × (List MapEntry) × (Nat)) => [(mb2, .map ⟨ζ.2.1⟩ ζ.2.2)] :: stdC sb db lb fb (.slice ra l.length rc) (.slice pa 64 pc) :: Xa mb es4 ck4 :: Zl db k D4) (fun (ζ : (Nat) × (List MapEntry) × (Nat)) => ζ.1 ≤ md ∧ InM ζ.2.1 (DD.take ζ.1)) (fun (ζ : (Nat) × (List MapEntry) × (Nat)) => md - ζ.1) ((0, [], 0)) (⟨Nat.zero_le _, InM.zero⟩) Zc Zc rfl tk ?_
 rintro ⟨i, e11, c11⟩ hI
 try simp only [kA, List.append_assoc] at hI ⊢
 try dsimp only at hI ⊢
 obtain ⟨hi, him⟩ := hI
 by_cases hlt : i < md
 ·have hil : i < DD.length := by omega
  obtain ⟨b, off, C, T, fr, e1, hb, hfit, hc⟩ := (hd3.at'.mono hz4).get hil
  have htk := List.take_succ_eq_append_getElem hil
  have hkk := him.keys
  dsimp only at e1
  rw [e1]
  generalize DD[i] = y at *
  obtain ⟨yp, ys⟩ := y
  repeat' (first | (refine Xv rfl rfl rfl hkk (fun es' ck' q1 q2 => ?_)) | refine zV ?_ | intro _)
  rw [← e1]
  have hnew : InM es' (DD.take (i + 1)) := by rw [htk]; exact him.add q1 q2
  refine Zd (i + 1, es', ck') (⟨hlt, hnew⟩) Zc Zc rfl tk inferInstance (by first | omega | (dsimp only; omega))
 ·rw [List.take_of_length_le (by omega)] at him
  repeat' (first | refine zV ?_ | intro _)
  have hpg4 := hpg.mono hz4
  have hpl := hpg4.at'.len
  refine Zk [(7, _), (11, _), (78, _), (79, _)] (fun (ζ : (Nat) × (Hp) × (List MapEntry) × (Nat) × (Pgs) × (DS)) => [(80, .int .i64 ζ.1), (4, .bool false)]) (fun (ζ : (Nat) × (Hp) × (List MapEntry) × (Nat) × (Pgs) × (DS)) => ζ.2.1) (fun (ζ : (Nat) × (Hp) × (List MapEntry) × (Nat) × (Pgs) × (DS)) => [(mb2, .map ⟨e11⟩ c11)] :: Xa mb ζ.2.2.1 ζ.2.2.2.1 :: Zl db k ζ.2.2.2.2.2) (fun (ζ : (Nat) × (Hp) × (List MapEntry) × (Nat) × (Pgs) × (DS)) => ζ.1 ≤ 64 ∧ ρ4.le ζ.2.1 ∧ PqI ζ.2.1 pb fb lb mb db t ζ.2.2.2.2.1 ζ.2.2.1 k ζ.2.2.2.2.2 held p') (fun (ζ : (Nat) × (Hp) × (List MapEntry) × (Nat) × (Pgs) × (DS)) => 64 - ζ.1) ((0, ρ4, es4, ck4, pg4, D4)) (⟨Nat.zero_le _, Hp.le_refl _, hq4⟩) Zc Zc rfl tk ?_
  rintro ⟨n, ρ5, es5, ck5, pg5, D5⟩ hI
  try simp only [kA, List.append_assoc] at hI ⊢
  try dsimp only at hI ⊢
  obtain ⟨hn, hz5, hq5⟩ := hI
  by_cases hnt : n < 64
  ·obtain ⟨b, off, C, T, fr, e1, hb, hfit, hc⟩ := (hpg4.at'.mono hz5).get (show n < pl.length by omega)
   have hxc := (hpg4.cin _ (List.getElem_mem (show n < pl.length by omega))).mono hz5
   have hxe := hpg4.eq n (by omega)
   have hP := page24 ρ5 pb fb lb mb db t n pg5 es5 ck5 k D5 held p' hq5 hnt
   have hki := him.keys
   rw [e1]
   generalize pl[n]'(by omega) = y at *
   obtain ⟨yw, yc, yl⟩ := y
   dsimp only at hxc hxe hc
   have hcan := hca n
   rw [← hxe] at hcan
   dsimp only at hcan
   have hS := fun ρ6 w6 (h : ρ5.le ρ6) (hC : CIn ρ6 w6 yc.rows yc.kids) => same_spec ρ6 w6 yw yc yc hC (hxc.mono h)
   simp only [decide_eq_true (rfl : yc = yc)] at hS
   rcases hcan with hA | ⟨hgt, hin⟩
   ·rw [hA] at hP
    dsimp only at hP
    by_cases hin : inT DD n
    case' pos => have hmg := him.yes (n : Int) hin
    case' neg => have hmg := him.no (n : Int) hin
    all_goals (repeat' (first | (refine Zb (.func 59) ?_; refine qC rfl rfl hP ?_; rintro v6 ρ6 L6 hle6 ⟨hz6, w6, es6, ck6, pg6, D6, rfl, hC6, hq6, hL6, rfl⟩; try simp only [kA]) | (refine Zb (.func 60) ?_; refine qR rfl rfl (hS _ _ hz6 hC6) ?_; try simp only [kA]) | refine zV ?_ | intro _))
    all_goals rw [← e1]
    all_goals refine Zd (n + 1, _, es6, ck6, pg6, D6) (⟨hnt, Hp.le_trans hz5 hz6, hq6⟩) Zc Zc rfl tk inferInstance (by first | omega | (dsimp only; omega))
   ·have hmg := him.yes (n : Int) hin
    generalize p' n = q at *
    obtain ⟨qc, ql⟩ := q
    dsimp only at hP hgt
    repeat' (first | (refine Zb (.func 59) ?_; refine qC rfl rfl hP ?_; rintro v6 ρ6 L6 hle6 ⟨hz6, w6, es6, ck6, pg6, D6, rfl, hC6, hq6, hL6, rfl⟩; try simp only [kA]) | refine zV ?_ | intro _)
    rw [← e1]
    refine Zd (n + 1, _, es6, ck6, pg6, D6) (⟨hnt, Hp.le_trans hz5 hz6, hq6⟩) Zc Zc rfl tk inferInstance (by first | omega | (dsimp only; omega))
  ·repeat' (first | refine zV ?_ | intro _)
   exact qE (L' := []) ⟨rfl, Hp.le_trans hl04 hz5, rfl⟩
end Go.Proofs.E
