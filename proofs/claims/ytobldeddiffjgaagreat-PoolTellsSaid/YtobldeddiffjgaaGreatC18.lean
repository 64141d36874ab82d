/- The law PoolTells. Part 18 of 20. -/
import Derived.Test.YtobldeddiffjgaaGreatC17
namespace Go.Proofs.E
open Go
set_option linter.unusedVariables false
set_option linter.unusedSimpArgs false
set_option linter.unusedSectionVars false
set_option maxRecDepth 4000
set_option maxHeartbeats 1000000
attribute [local irreducible] Yl TL TC TE Spec XU R1 Hp.le EnvLe TS TR YS Zr
theorem sameR_spec (ρ : Hp) (w w' : CV) (c d : Yb) (h : CIn ρ w c.rows c.kids) (h' : CIn ρ w' d.rows d.kids) :
  Spec Tryz.prog 36 [.agg ⟨XF c.kind w⟩, .agg ⟨XF d.kind w'⟩] ρ [] (fun v ρ' L' => v = .bool (decide (c = d)) ∧ ρ' = ρ ∧ L' = []) := by
 obtain ⟨kind, rows, kids⟩ := c
 obtain ⟨kind', rows', kids'⟩ := d
 obtain ⟨ra, rn, rc, ka, kn, kc⟩ := w
 obtain ⟨ra', rn', rc', ka', kn', kc'⟩ := w'
 obtain ⟨hr, hk, hrb, hkb, hrc, hkc⟩ := h
 obtain ⟨hr', hk', hrb', hkb', hrc', hkc'⟩ := h'
 dsimp only at hrc hkc hr hk hrb hkb hrc' hkc' hr' hk' hrb' hkb' ⊢
 have hrn := hr.len
 have hkn := hk.len
 have hrn' := hr'.len
 have hkn' := hk'.len
 simp only [Yb.mk.injEq]
 refine Ze Tryz.func36 rfl rfl rfl fun u R => ?_
 simp only [Zt, List.cons_append, List.nil_append, XF]
 by_cases h1 : kind = kind'
 ·by_cases h2 : rn = rn'
  ·by_cases h3 : kn = kn'
   ·subst h1; subst h2; subst h3
    repeat' (first | (refine Zg ?_; first | (refine Zf ?_; refine qQ ?_) | refine Zj ?_) | refine Za ?_ | (refine Zh ?_; refine Zu ?_) | (refine Zi ?_; refine Zv ?_) | intro _)
    rename_i b1 b2
    refine ZH [(2, _), (3, _), (4, _), (32, _)] (fun (ζ : (Nat)) => [(33, .int .i64 ζ)]) (fun (ζ : (Nat)) => ρ) (fun (ζ : (Nat)) => [[(b2, .cells ⟨[.int .i64 kind, .slice ra' rn rc', .slice ka' kn kc']⟩ 65 (0, 0))], [(b1, .cells ⟨[.int .i64 kind, .slice ra rn rc, .slice ka kn kc]⟩ 65 (0, 0))]]) (fun (ζ : (Nat)) => ζ ≤ rn ∧ rows.take ζ = rows'.take ζ) (fun (ζ : (Nat)) => rn - ζ) (0) (⟨Nat.zero_le _, rfl⟩) Zo Zo rfl tk ?_
    rintro k hI
    try simp only [List.cons_append, List.nil_append, List.append_assoc, List.append_eq] at hI ⊢
    try dsimp only at hI ⊢
    obtain ⟨hk0, hpre⟩ := hI
    by_cases hlt : k < rn
    ·obtain ⟨b, off, C, T, fr, rfl, hb, hfit, hc⟩ := hr.get (show k < rows.length by omega)
     obtain ⟨b', off', C', T', fr', rfl, hb', hfit', hc'⟩ := hr'.get (show k < rows'.length by omega)
     have ht1 := List.take_succ_eq_append_getElem (show k < rows.length by omega)
     have ht2 := List.take_succ_eq_append_getElem (show k < rows'.length by omega)
     have hf : rows = rows' → rows[k]'(by omega) = rows'[k]'(by omega) := fun e => by subst e; rfl
     generalize rows[k]'(by omega) = x at *
     generalize rows'[k]'(by omega) = y at *
     by_cases he : x = y
     ·have hd : decide (x = y) = true := decide_eq_true he
      repeat' (first | (refine Zg ?_; first | (refine Zf ?_; refine qQ ?_) | refine Zj ?_) | refine Za ?_ | (refine Zh ?_; refine Zu ?_) | (refine Zi ?_; refine Zv ?_) | intro _)
      refine Zz (Zr _ _ ([[(b2, .cells ⟨[.int .i64 kind, .slice (some ⟨b', off', none⟩) rn rc', .slice ka' kn kc']⟩ 65 (0, 0))], [(b1, .cells ⟨[.int .i64 kind, .slice (some ⟨b, off, none⟩) rn rc, .slice ka kn kc]⟩ 65 (0, 0))]])) (Zy (hT := tk) (Hp.le_refl _)) ?_
      all_goals (refine Yv 0 ?_; refine ZN ?_; refine ZX 1 ?_; refine ZO 2 ?_; refine rIa 3 ?_; refine ZX 4 ?_; refine Yv 5 ?_; refine ZX 6 ?_; refine ZO 7 ?_; refine rIa 8 ?_; refine ZX 9 ?_; refine rCm 10 ?_; refine ZI ?_)
      repeat' (first | (refine Zg ?_; first | (refine Zf ?_; refine qQ ?_) | refine Zj ?_) | refine Za ?_ | (refine Zh ?_; refine Zu ?_) | (refine Zi ?_; refine Zv ?_) | intro _)
      refine Zx (k + 1) (⟨hlt, by rw [ht1, ht2, hpre, he]⟩) Zo Zo rfl tk inferInstance (by first | omega | (dsimp only; omega))
     ·have hd : decide (x = y) = false := decide_eq_false he
      rw [decide_eq_false (fun e => he (hf e.2.1))]
      repeat' (first | (refine Zg ?_; first | (refine Zf ?_; refine qQ ?_) | refine Zj ?_) | refine Za ?_ | (refine Zh ?_; refine Zu ?_) | (refine Zi ?_; refine Zv ?_) | intro _)
      refine Zz (Zr _ _ ([[(b2, .cells ⟨[.int .i64 kind, .slice (some ⟨b', off', none⟩) rn rc', .slice ka' kn kc']⟩ 65 (0, 0))], [(b1, .cells ⟨[.int .i64 kind, .slice (some ⟨b, off, none⟩) rn rc, .slice ka kn kc]⟩ 65 (0, 0))]])) (Zy (hT := tk) (Hp.le_refl _)) ?_
      all_goals (refine Yv 0 ?_; refine ZN ?_; refine ZX 1 ?_; refine ZO 2 ?_; refine rIa 3 ?_; refine ZX 4 ?_; refine Yv 5 ?_; refine ZX 6 ?_; refine ZO 7 ?_; refine rIa 8 ?_; refine ZX 9 ?_; refine rCm 10 ?_; refine ZI ?_)
      repeat' (first | (refine Zg ?_; first | (refine Zf ?_; refine qQ ?_) | refine Zj ?_) | refine Za ?_ | (refine Zh ?_; refine Zu ?_) | (refine Zi ?_; refine Zv ?_) | intro _)
      exact qE ⟨rfl, rfl, rfl⟩
    ·have hk2 : k = rn := by omega
     subst hk2
     rw [List.take_of_length_le (by omega), List.take_of_length_le (by omega)] at hpre
     subst hpre
     repeat' (first | (refine Zg ?_; first | (refine Zf ?_; refine qQ ?_) | refine Zj ?_) | refine Za ?_ | (refine Zh ?_; refine Zu ?_) | (refine Zi ?_; refine Zv ?_) | intro _)
     refine ZH [(2, _), (3, _), (4, _), (50, _)] (fun (ζ : (Nat)) => [(51, .int .i64 ζ)]) (fun (ζ : (Nat)) => ρ) (fun (ζ : (Nat)) => [[(b2, .cells ⟨[.int .i64 kind, .slice ra' k rc', .slice ka' kn kc']⟩ 65 (0, 0))], [(b1, .cells ⟨[.int .i64 kind, .slice ra k rc, .slice ka kn kc]⟩ 65 (0, 0))]]) (fun (ζ : (Nat)) => ζ ≤ kn ∧ kids.take ζ = kids'.take ζ) (fun (ζ : (Nat)) => kn - ζ) (0) (⟨Nat.zero_le _, rfl⟩) Zo Zo rfl tk ?_
     rintro j hI
     try simp only [List.cons_append, List.nil_append, List.append_assoc, List.append_eq] at hI ⊢
     try dsimp only at hI ⊢
     obtain ⟨hj0, hpre⟩ := hI
     by_cases hlj : j < kn
     ·obtain ⟨b, off, C, T, fr, rfl, hb, hfit, hc⟩ := hk.get (show j < kids.length by omega)
      obtain ⟨b', off', C', T', fr', rfl, hb', hfit', hc'⟩ := hk'.get (show j < kids'.length by omega)
      have ht1 := List.take_succ_eq_append_getElem (show j < kids.length by omega)
      have ht2 := List.take_succ_eq_append_getElem (show j < kids'.length by omega)
      have hf : kids = kids' → kids[j]'(by omega) = kids'[j]'(by omega) := fun e => by subst e; rfl
      generalize kids[j]'(by omega) = x at *
      generalize kids'[j]'(by omega) = y at *
      by_cases he : x = y
      ·have hd : decide (x = y) = true := decide_eq_true he
       repeat' (first | (refine Zg ?_; first | (refine Zf ?_; refine qQ ?_) | refine Zj ?_) | refine Za ?_ | (refine Zh ?_; refine Zu ?_) | (refine Zi ?_; refine Zv ?_) | intro _)
       refine Zz (Zr _ _ ([[(b2, .cells ⟨[.int .i64 kind, .slice ra' k rc', .slice (some ⟨b', off', none⟩) kn kc']⟩ 65 (0, 0))], [(b1, .cells ⟨[.int .i64 kind, .slice ra k rc, .slice (some ⟨b, off, none⟩) kn kc]⟩ 65 (0, 0))]])) (Zy (hT := tk) (Hp.le_refl _)) ?_
       all_goals (refine Yv 0 ?_; refine ZN ?_; refine ZX 1 ?_; refine ZO 2 ?_; refine rIa 3 ?_; refine ZX 4 ?_; refine Yv 5 ?_; refine ZX 6 ?_; refine ZO 7 ?_; refine rIa 8 ?_; refine ZX 9 ?_; refine rCm 10 ?_; refine ZI ?_)
       repeat' (first | (refine Zg ?_; first | (refine Zf ?_; refine qQ ?_) | refine Zj ?_) | refine Za ?_ | (refine Zh ?_; refine Zu ?_) | (refine Zi ?_; refine Zv ?_) | intro _)
       refine Zx (j + 1) (⟨hlj, by rw [ht1, ht2, hpre, he]⟩) Zo Zo rfl tk inferInstance (by first | omega | (dsimp only; omega))
      ·have hd : decide (x = y) = false := decide_eq_false he
       rw [decide_eq_false (fun e => he (hf e.2.2))]
       repeat' (first | (refine Zg ?_; first | (refine Zf ?_; refine qQ ?_) | refine Zj ?_) | refine Za ?_ | (refine Zh ?_; refine Zu ?_) | (refine Zi ?_; refine Zv ?_) | intro _)
       refine Zz (Zr _ _ ([[(b2, .cells ⟨[.int .i64 kind, .slice ra' k rc', .slice (some ⟨b', off', none⟩) kn kc']⟩ 65 (0, 0))], [(b1, .cells ⟨[.int .i64 kind, .slice ra k rc, .slice (some ⟨b, off, none⟩) kn kc]⟩ 65 (0, 0))]])) (Zy (hT := tk) (Hp.le_refl _)) ?_
       all_goals (refine Yv 0 ?_; refine ZN ?_; refine ZX 1 ?_; refine ZO 2 ?_; refine rIa 3 ?_; refine ZX 4 ?_; refine Yv 5 ?_; refine ZX 6 ?_; refine ZO 7 ?_; refine rIa 8 ?_; refine ZX 9 ?_; refine rCm 10 ?_; refine ZI ?_)
       repeat' (first | (refine Zg ?_; first | (refine Zf ?_; refine qQ ?_) | refine Zj ?_) | refine Za ?_ | (refine Zh ?_; refine Zu ?_) | (refine Zi ?_; refine Zv ?_) | intro _)
       exact qE ⟨rfl, rfl, rfl⟩
     ·have hj2 : j = kn := by omega
      subst hj2
      rw [List.take_of_length_le (by omega), List.take_of_length_le (by omega)] at hpre
      subst hpre
      rw [decide_eq_true ⟨trivial, trivial, rfl⟩]
      repeat' (first | (refine Zg ?_; first | (refine Zf ?_; refine qQ ?_) | refine Zj ?_) | refine Za ?_ | (refine Zh ?_; refine Zu ?_) | (refine Zi ?_; refine Zv ?_) | intro _)
      exact qE ⟨rfl, rfl, rfl⟩
   ·rw [decide_eq_false (fun e => h3 (by rw [← hkn, ← hkn', e.2.2]))]
    repeat' (first | (refine Zg ?_; first | (refine Zf ?_; refine qQ ?_) | refine Zj ?_) | refine Za ?_ | (refine Zh ?_; refine Zu ?_) | (refine Zi ?_; refine Zv ?_) | intro _)
    exact qE ⟨rfl, rfl, rfl⟩
  ·rw [decide_eq_false (fun e => h2 (by rw [← hrn, ← hrn', e.2.1]))]
   repeat' (first | (refine Zg ?_; first | (refine Zf ?_; refine qQ ?_) | refine Zj ?_) | refine Za ?_ | (refine Zh ?_; refine Zu ?_) | (refine Zi ?_; refine Zv ?_) | intro _)
   exact qE ⟨rfl, rfl, rfl⟩
 ·rw [decide_eq_false (fun e => h1 e.1)]
  repeat' (first | (refine Zg ?_; first | (refine Zf ?_; refine qQ ?_) | refine Zj ?_) | refine Za ?_ | (refine Zh ?_; refine Zu ?_) | (refine Zi ?_; refine Zv ?_) | intro _)
  exact qE ⟨rfl, rfl, rfl⟩
def pg0 : Pgs := fun _ => none
theorem mp0 {ρ : Hp} : MpIn ρ [] pg0 := ⟨(by intro e he; cases he), List.Pairwise.nil, fun _ => rfl, (by intro n g h; cases h)⟩
theorem wk17_a (w : CV) : askE true (fun _ => zHeld) (vw pg0) 1 [⟨5, w, leaf7⟩] = 0 := by rfl
theorem wk17_v (w : CV) : chgV true (fun _ => zHeld) (vw pg0) 1 [⟨5, w, leaf7⟩] = setV (setV (vw pg0) 5 (⟨0, [], []⟩, 0, 0)) 5 (leaf7, 1, 1) := by
 unfold chgV
 rw [wk17_a w, if_pos rfl]
 rfl
theorem ev_dirty {pg : Pgs} {g : Pg} (h : pg 5 = some g) (h0 : g.rc ≠ 0) : WM pg 5 = 270 := by
 unfold WM; rw [if_pos (by omega), h]; show (if g.rc = 0 then (0 : Int) else 270) = 270; rw [if_neg h0]
theorem ev_gone {pg : Pgs} (h : WM pg 5 = 270) : evictG pg 5 = pg := by unfold evictG; rw [h, if_neg (by omega)]
theorem ev_zero {pg : Pgs} {g : Pg} (_ : pg 5 = some g) : WM (updG pg (5 : Nat) { g with rc := 0 }) 5 = 0 := by
 unfold WM; rw [if_pos (by omega)]; rfl
theorem wakes17_spec (ρ : Hp) : Spec Tryz.prog 22 [] ρ [] (fun v ρ' L' => v = .bool true ∧ ρ.le ρ' ∧ L' = []) := by
 refine Ze Tryz.func22 rfl rfl rfl fun u R => ?_
 simp only [Zt, List.cons_append, List.nil_append]
 repeat' (first | (refine Zc (.func 25) ?_; refine qC rfl rfl (appends17_spec _ xb db fb lb rb pb hx2 R0 0 1 (by omega) va2 sp2 hin2) ?_; rintro v3 ρ3 L3 hle3 ⟨rfl, hl3, va3, sp3, hin3, rfl⟩; have hx3 := Hp.at' hl3 hx2; try simp only [List.cons_append, List.nil_append, List.append_assoc, List.append_eq]) | (refine Zc (.func 25) ?_; refine qC rfl rfl (appends17_spec _ xb db fb lb rb pb hx1 R0 0 0 (by omega) _ [] (pS_in R0)) ?_; rintro v2 ρ2 L2 hle2 ⟨rfl, hl2, va2, sp2, hin2, rfl⟩; have hx2 := Hp.at' hl2 hx1; try simp only [List.cons_append, List.nil_append, List.append_assoc, List.append_eq]) | (refine Zc (.func 23) ?_; refine qC rfl rfl (begun17_spec _) ?_; rintro v1 ρ1 L1 hle1 ⟨hl1, xb, db, fb, lb, rb, pb, mb, w1, k1, R0, D1, rfl, hx1, hp1, hf1, hr1, hk1, st1, rfl⟩; try simp only [List.cons_append, List.nil_append, List.append_assoc, List.append_eq]) | (refine iBu ?_; refine ZL (Zn rfl) rfl rfl ?_) | (refine Zg ?_; first | (refine Zf ?_; refine qQ ?_) | refine Zj ?_) | refine Za ?_ | (refine Zh ?_; refine Zu ?_) | (refine Zi ?_; refine Zv ?_) | intro _)
 have hl13 := Hp.le_trans hl2 hl3
 have hp3 := Hp.at' hl13 hp1
 have hf3 := hf1.mono hl13
 have hr3 := hr1.mono hl13
 have st3 : StoK R0 0 2 D1 0 (fun _ => zHeld) := (st1.more (by omega)).more (by omega)
 have hS3 : (recF (pS R0 0 2) 1).isSome = true := by rw [pS_rec]; rfl
 refine Zz (Zr _ _ ([])) (Zy (hT := tk) (Hp.le_refl _)) ?_
 all_goals (refine ZO 0 ?_; refine rNc 1 ?_; refine Yv 2 ?_; refine ZX 3 ?_)
 all_goals (refine Zm (i := 4) ?_; ((try refine Zk ?_); (first | (refine Zc (.func 61) ?_; refine qC rfl rfl (leaf17_spec _) ?_; rintro v4 ρ4 L4 hle4 ⟨hl4, w4, rfl, hC4, rfl⟩; have hx4 := Hp.at' hl4 hx3; try simp only [List.cons_append, List.nil_append, List.append_assoc, List.append_eq]) | (refine Zj ?_; try intro _)) <;> ((try simp only [kM, kN, kO]); refine Za ?_; refine Zl ?_)))
 all_goals refine rBu 5 ?_ (y := fun _ _ => Zn rfl)
 all_goals (refine Zm (i := 6) ?_; ((try refine Zk ?_); (first | (refine Yi (css := [sheV ⟨5, w4, leaf7⟩]) (sz := 4) rfl rfl rfl rfl (by simp) (by simp) rfl (fun bs => ?_); refine ZM [(bs, .cells ⟨([sheV ⟨5, w4, leaf7⟩] : List (List Value)).flatten⟩ 67 (0, 0))] (h := Rem.here) (fun ρ5 hl5 hfz => ?_); have hl35 := Hp.le_trans hl4 hl5; have hx5 := Hp.at' hl5 hx4; have hp5 := Hp.at' hl35 hp3; have hf5 := hf3.mono hl35; have hin5 := hin3.mono hl35; have hr5 := hr3.mono hl35; have hch := change17_spec ρ5 pb fb lb mb rb db 902 0 hp5 hf5 (by omega) (pS R0 0 2) va3 sp3 hin5 k1 D1 hk1 pg0 [] 0 mp0 (fun _ => zHeld) st3.fo st3.good.calm.lv 1 (some ⟨bs, 0, none⟩) 1 1 [⟨5, w4, leaf7⟩] ⟨⟨rfl, .inr ⟨bs, 0, _, _, _, rfl, hfz _ (List.mem_singleton.2 rfl), by simp, by simp⟩, fun x hx => by simp at hx; subst hx; rfl⟩, by omega, fun s hs => by rw [List.mem_singleton.1 hs]; exact hC4.mono hl5⟩; rw [hS3, wk17_a, wk17_v] at hch) | (refine Zj ?_; try intro _)) <;> ((try simp only [kM, kN, kO]); refine Za ?_; refine Zl ?_)))
 all_goals (refine Zm (i := 7) ?_; ((try refine Zk ?_); (first | (refine Zc (.func 26) ?_; refine qC rfl rfl hch ?_; rintro v6 ρ6 L6 hle6 ⟨rfl, hl6, es6, ck6, pg6, D6, hm6, hv6, hk6, hL6, hF6, rfl⟩; have hx6 := Hp.at' hl6 hx5; have hp6 := Hp.at' hl6 hp5; have hf6 := hf5.mono hl6; have hin6 := hin5.mono hl6; have hr6 := hr5.mono hl6; obtain ⟨g6, hg6, q1, q2, q3⟩ := vw_some (pg := pg6) (n := 5) (x := (leaf7, 1, 1)) (by rw [hv6]; rfl); have hev6 := ev_dirty hg6 (by rw [q3]; decide); have hE7 := evict17_spec ρ6 pb fb lb mb hp6 5 pg6 es6 ck6 hm6; rw [hev6] at hE7; have hok6 : PgOk g6 := ⟨by rw [q1]; exact leaf7_fit.ok, by rw [q1]; exact leaf7_fit.id, by rw [q2]; decide⟩; have hrc6 : g6.rc ≠ 0 := (by rw [q3]; decide); have st6 := st3.lv hL6 hF6; obtain ⟨R8, D8, e8, st8⟩ := st6.steal (num := 5) (g := g6) (by omega) (by rw [q1]; exact leaf7_fit) (by rw [q2]; show (1 : Nat) ≤ 2; omega) (by decide); try simp only [List.cons_append, List.nil_append, List.append_assoc, List.append_eq]) | (refine Zj ?_; try intro _)) <;> ((try simp only [kM, kN, kO]); refine Za ?_; refine Zl ?_)))
 all_goals (refine rCm 8 ?_; refine ZO 9 ?_; (first | refine Zd 10 ?_ | refine Zb 10 ?_ | refine Yk 10 ?_); (first | refine Zd 11 ?_ | refine Zb 11 ?_ | refine wNc 11 ?_); (first | refine Zd 12 ?_ | refine Zb 12 ?_ | refine wFa 12 ?_); (first | refine Zd 13 ?_ | refine Zb 13 ?_ | refine wLd 13 ?_))
 all_goals (first | refine Zd 14 ?_ | refine Zb 14 ?_ | (refine Zm (i := 14) ?_; ((try refine Zk ?_); (first | (refine Zc (.func 29) ?_; refine qC rfl rfl hE9 ?_; rintro v9 ρ9 L9 hle9 ⟨rfl, rfl, es9, ck9, hm9, rfl⟩; try simp only [List.cons_append, List.nil_append, List.append_assoc, List.append_eq]) | (refine Zc (.func 29) ?_; refine qC rfl rfl hE7 ?_; rintro v7 ρ7 L7 hle7 ⟨rfl, rfl, es7, ck7, hm7, rfl⟩; rw [ev_gone hev6] at hm7; have hS8 := steal17_spec _ pb fb lb mb rb db 902 5 hp6 hf6 (by omega) (by omega) pg6 es7 ck7 hm7 g6 hg6 hok6 hrc6 (pS R0 0 2) va3 sp3 hin6 w1 hr6 k1 D6 hk6 (by show 0 < 1000000000000000; omega); rw [e8] at hS8; try simp only [List.cons_append, List.nil_append, List.append_assoc, List.append_eq]) | (refine Zj ?_; try intro _)) <;> ((try simp only [kM, kN, kO]); refine Za ?_; refine Zl ?_))))
 all_goals ((first | refine Zd 15 ?_ | refine Zb 15 ?_ | refine wCm 15 ?_); refine rPk 16 ?_; refine ZO 17 ?_; (first | refine Zd 18 ?_ | refine Zb 18 ?_ | refine Yk 18 ?_); (first | refine Zd 19 ?_ | refine Zb 19 ?_ | refine wNc 19 ?_); (first | refine Zd 20 ?_ | refine Zb 20 ?_ | refine wFa 20 ?_); (first | refine Zd 21 ?_ | refine Zb 21 ?_ | refine wLd 21 ?_))
 all_goals (first | refine Zd 22 ?_ | refine Zb 22 ?_ | (refine Zm (i := 22) ?_; ((try refine Zk ?_); (first | (refine Zc (.func 28) ?_; refine qC rfl rfl hS8 ?_; rintro v8 ρ8 L8 hle8 ⟨rfl, hl8, es8, ck8, w8, k8, hm8, hr8, hk8, rfl⟩; simp only [if_true] at hm8; have hx8 := Hp.at' hl8 hx6; have hp8 := Hp.at' hl8 hp6; have hf8 := hf6.mono hl8; have hE9 := evict17_spec ρ8 pb fb lb mb hp8 5 _ es8 ck8 hm8; rw [ev_zero hg6] at hE9; try simp only [List.cons_append, List.nil_append, List.append_assoc, List.append_eq]) | (refine Zj ?_; try intro _)) <;> ((try simp only [kM, kN, kO]); refine Za ?_; refine Zl ?_))))
 all_goals ((first | refine Zd 23 ?_ | refine Zb 23 ?_ | refine wCm 23 ?_); refine rPk 24 ?_; refine ZO 25 ?_; (first | refine Zd 26 ?_ | refine Zb 26 ?_ | refine Yk 26 ?_); (first | refine Zd 27 ?_ | refine Zb 27 ?_ | refine wNc 27 ?_); (first | refine Zd 28 ?_ | refine Zb 28 ?_ | refine wFa 28 ?_); (first | refine Zd 29 ?_ | refine Zb 29 ?_ | refine wLd 29 ?_))
 all_goals (first | refine Zd 30 ?_ | refine Zb 30 ?_ | (refine Zm (i := 30) ?_; ((try refine Zk ?_); (first | (refine Zc (.func 29) ?_; refine qC rfl rfl hE9 ?_; rintro v9 ρ9 L9 hle9 ⟨rfl, rfl, es9, ck9, hm9, rfl⟩; try simp only [List.cons_append, List.nil_append, List.append_assoc, List.append_eq]) | (refine Zc (.func 29) ?_; refine qC rfl rfl hE7 ?_; rintro v7 ρ7 L7 hle7 ⟨rfl, rfl, es7, ck7, hm7, rfl⟩; rw [ev_gone hev6] at hm7; have hS8 := steal17_spec _ pb fb lb mb rb db 902 5 hp6 hf6 (by omega) (by omega) pg6 es7 ck7 hm7 g6 hg6 hok6 hrc6 (pS R0 0 2) va3 sp3 hin6 w1 hr6 k1 D6 hk6 (by show 0 < 1000000000000000; omega); rw [e8] at hS8; try simp only [List.cons_append, List.nil_append, List.append_assoc, List.append_eq]) | (refine Zj ?_; try intro _)) <;> ((try simp only [kM, kN, kO]); refine Za ?_; refine Zl ?_))))
 all_goals (refine ZN ?_; (first | refine Zd 31 ?_ | refine Zb 31 ?_ | refine wCm 31 ?_); refine rPk 32 ?_; refine ZI ?_)
 all_goals
  have hgone : vw (evictG (updG pg6 (5 : Nat) { c := g6.c, w := g6.w, lsn := g6.lsn, rc := 0 }) 5) (5 : Nat) = none := by
   unfold evictG; rw [ev_zero hg6, if_pos rfl, vw_del]; rfl
  have hsv : XY (upd (fun _ => zHeld) 5 (g6.c, g6.lsn)) (vw (evictG (updG pg6 (5 : Nat) { c := g6.c, w := g6.w, lsn := g6.lsn, rc := 0 }) 5)) (5 : Nat) = (leaf7, 1, 0) := by
   unfold XY; rw [hgone, q1, q2]; rfl
  have hfs : (pS R8 (max 0 g6.lsn) 2).fl = 1 := by show max 0 g6.lsn = 1; rw [q2]; rfl
  have hPg := page_lv _ pb fb lb mb db 902 5 1 hp8 hf8 (by omega) (by omega) k8 D8 hk8 _ es9 ck9 hm9 _ st8.fo st8.good.calm.lv
  rw [hsv] at hPg
  have hFl := fun ρ => flushed16_spec ρ lb rb (pS R8 (max 0 g6.lsn) 2) va3
  rw [hfs] at hFl
  dsimp only at hPg
  repeat' (first | (refine Zc (.func 31) ?_; refine qC rfl rfl hPg ?_; rintro v10 ρ10 L10 hle10 ⟨hl10, w10, es10, ck10, pg10, D10, rfl, hC10, hm10, hv10, hk10, hL10, hF10, rfl⟩; have hx10 := Hp.at' hl10 hx8; try simp only [List.cons_append, List.nil_append, List.append_assoc, List.append_eq]) | (refine iBu ?_; refine ZL (Zn rfl) rfl rfl ?_) | (refine Zg ?_; first | (refine Zf ?_; refine qQ ?_) | refine Zj ?_) | refine Za ?_ | (refine Zh ?_; refine Zu ?_) | (refine Zi ?_; refine Zv ?_) | intro _)
  rename_i b3
  refine Zz (Zr _ _ ([[(b3, .cells ⟨XF 1 w10⟩ 65 (0, 0))]])) (Zy (hT := tk) (Hp.le_refl _)) ?_
  all_goals (refine ZO 0 ?_; refine rCm 1 ?_; refine ZO 2 ?_; (first | refine Zd 3 ?_ | refine Zb 3 ?_ | refine Yk 3 ?_); (first | refine Zd 4 ?_ | refine Zb 4 ?_ | refine wCm 4 ?_); refine rPk 5 ?_; refine ZO 6 ?_; (first | refine Zd 7 ?_ | refine Zb 7 ?_ | refine wLd 7 ?_))
  all_goals (first | refine Zd 8 ?_ | refine Zb 8 ?_ | (refine Zm (i := 8) ?_; ((try refine Zk ?_); (first | (refine Zc (.func 61) ?_; refine qC rfl rfl (leaf17_spec _) ?_; rintro v11 ρ11 L11 hle11 ⟨hl11, w11, rfl, hC11, rfl⟩; have hx11 := Hp.at' hl11 hx10; have hSm := sameR_spec ρ11 w10 w11 leaf7 leaf7 (hC10.mono hl11) hC11; rw [decide_eq_true rfl] at hSm; try simp only [List.cons_append, List.nil_append, List.append_assoc, List.append_eq]) | (refine Zj ?_; try intro _)) <;> ((try simp only [kM, kN, kO]); refine Za ?_; refine Zl ?_))))
  all_goals (first | refine Zd 9 ?_ | refine Zb 9 ?_ | (refine Zm (i := 9) ?_; ((try refine Zk ?_); (first | (refine Zc (.func 36) ?_; refine qC rfl rfl (hSm) ?_; rintro v ρ' L' hle ⟨rfl, rfl, rfl⟩ <;> (try simp only [kM, kN, kO])) | (refine Zj ?_; try intro _)) <;> ((try simp only [kM, kN, kO]); refine Za ?_; refine Zl ?_))))
  all_goals (refine rPk 10 ?_; refine ZO 11 ?_; (first | refine Zd 12 ?_ | refine Zb 12 ?_ | refine Yk 12 ?_); (first | refine Zd 13 ?_ | refine Zb 13 ?_ | refine wNc 13 ?_); (first | refine Zd 14 ?_ | refine Zb 14 ?_ | refine wFa 14 ?_); (first | refine Zd 15 ?_ | refine Zb 15 ?_ | refine wLd 15 ?_))
  all_goals (first | refine Zd 16 ?_ | refine Zb 16 ?_ | (refine Zm (i := 16) ?_; ((try refine Zk ?_); (first | (refine Zc (.func 17) ?_; refine qC rfl rfl (hFl _) ?_; rintro v ρ' L' hle ⟨rfl, rfl, rfl⟩ <;> (try simp only [kM, kN, kO])) | (refine Zj ?_; try intro _)) <;> ((try simp only [kM, kN, kO]); refine Za ?_; refine Zl ?_))))
  all_goals (refine ZN ?_; (first | refine Zd 17 ?_ | refine Zb 17 ?_ | refine wCm 17 ?_); refine rPk 18 ?_; refine rAs 19 ?_; refine ZI ?_)
  all_goals (repeat' (first | (refine iBu ?_; refine ZL (Zn rfl) rfl rfl ?_) | (refine Zg ?_; first | (refine Zf ?_; refine qQ ?_) | refine Zj ?_) | refine Za ?_ | (refine Zh ?_; refine Zu ?_) | (refine Zi ?_; refine Zv ?_) | intro _))
  all_goals have hfin := Hp.le_trans hl1 (Hp.le_trans hl13 (Hp.le_trans (Hp.le_trans hl4 hl5) (Hp.le_trans hl6 (Hp.le_trans hl8 (Hp.le_trans hl10 hl11)))))
  all_goals exact qE (L' := []) ⟨rfl, hfin, rfl⟩
theorem wrap_ops {a : Int} (h0 : 0 ≤ a) (h1 : a < 1000000) : IntKind.i64.wrap (a + 1) = a + 1 := by
 simp [IntKind.wrap, IntKind.signed, IntKind.bits]
 omega
theorem lays_ops : ∀ (l : List (Nat × Blk)) (D : DS), D.Calm → (∀ p ∈ l, p.1 < D.secs.length) → 0 ≤ D.ops → D.ops + l.length < 900000 → (DS.lays l D).1.ops = D.ops + l.length + 1
 | [], D, h, _, h0, h1 => by
  simp only [List.length_nil] at h1
  rw [DS.lays, h.sync_eq]
  simp only [List.length_nil]
  rw [wrap_ops h0 (by omega)]; omega
 | p :: r, D, h, hl, h0, h1 => by
  simp only [List.length_cons] at h1
  have hp := hl p (by simp)
  unfold DS.lays
  rw [h.write_eq hp, if_pos rfl, wrap_ops h0 (by omega)]
  rw [lays_ops r _ ⟨rfl, rfl, rfl⟩ (fun q hq => by simp only [XL]; exact hl q (by simp [hq])) (by dsimp only; omega) (by dsimp only; omega)]
  simp only [List.length_cons]; omega
structure EmptyD (D : DS) (n q : Nat) : Prop where
 calm : D.Calm
 em : YI D.secs
 len : D.secs.length = n
 ops0 : 0 ≤ D.ops
 ops1 : D.ops ≤ 257 * q
theorem EmptyD.new (n : Nat) : EmptyD (DS.new n) n 0 := ⟨new_calm, fresh_empty, by simp [DS.new, fresh], by simp [DS.new], by simp [DS.new]⟩
theorem EmptyD.mono {D : DS} {n q : Nat} (h : EmptyD D n q) : EmptyD D n (q + 1) := ⟨h.calm, h.em, h.len, h.ops0, by have := h.ops1; omega⟩
theorem EmptyD.format {D : DS} {n q base : Nat} (h : EmptyD D n q) (hok : D.Ok) (hq : q ≤ 4) (hb : base + 256 ≤ n) :
  (DS.lays (ZQ base) D).2 = 0 ∧ EmptyD (DS.lays (ZQ base) D).1 n (q + 1) ∧ (DS.lays (ZQ base) D).1.ops = D.ops + 257 := by
 obtain ⟨hc, he, hl, h0, h1⟩ := h
 have hidx : ∀ p ∈ ZQ base, p.1 < D.secs.length := fun p hp => by
  simp only [ZQ, List.mem_map, List.mem_range] at hp
  obtain ⟨k, hk, rfl⟩ := hp
  dsimp only; omega
 obtain ⟨l0, l1, l2⟩ := XT (ZQ base) D hc hidx
 have l3 := lays_ops (ZQ base) D hc hidx h0 (by rw [noughtsF_len]; omega)
 rw [noughtsF_len] at l3
 refine ⟨l0, ⟨l1, by rw [l2]; exact Yo, by rw [Xb]; exact hl, by rw [l3]; omega, by rw [l3]; omega⟩, by rw [l3]; omega⟩
def shortR (r : Row) : Row := ⟨r.t, r.id, r.val, r.note.take 9⟩
theorem take_min9 (l : List UInt8) : l.take (min (l.length : Int) 9).toNat = l.take 9 := by
 by_cases h : l.length ≤ 9
 ·rw [show (min (l.length : Int) 9).toNat = l.length by omega, List.take_of_length_le (Nat.le_refl _), List.take_of_length_le h]
 ·rw [show (min (l.length : Int) 9).toNat = 9 by omega]
structure CInW (ρ : Hp) (v : CV) (rows : List Row) (kids : List Kid) : Prop where
 r : AIn ρ 4 YT v.ra v.rn rows
 k : AIn ρ 3 XQ v.ka v.kn kids
 rb : v.rn ≤ 9223372036854775807
 kb : v.kn ≤ 9223372036854775807
 rc : v.rn ≤ v.rc
 kc : v.kn ≤ v.kc
theorem CInW.mono {ρ ρ' v rows kids} (h : CInW ρ v rows kids) (hle : ρ.le ρ') : CInW ρ' v rows kids := ⟨h.r.mono hle, h.k.mono hle, h.rb, h.kb, h.rc, h.kc⟩
theorem flatK_one (l : List Kid) : ((l.map XQ).flatten).all (·.oneCell') = true := by
 induction l with
 | nil => rfl
 | cons k r ih => simp only [List.map_cons, List.flatten_cons, List.all_append, ih, Bool.and_true]; rfl
theorem flatR_one (l : List Row) : ((l.map YT).flatten).all (·.oneCell') = true := by
 induction l with
 | nil => rfl
 | cons k r ih => simp only [List.map_cons, List.flatten_cons, List.all_append, ih, Bool.and_true]; rfl
theorem row_get {sp : List Value} : ∀ (acc : List Row) (k : Nat) (r : Row), acc[k]? = some r → ((acc.map YT).flatten ++ sp)[0 + k * 4 + 3]? = some (strV r.note)
 | [], k, r, h => by cases h
 | a :: t, 0, r, h => by cases h; rfl
 | a :: t, k + 1, r, h => by
  have ih := row_get (sp := sp) t k r (by simpa using h)
  rw [show 0 + (k + 1) * 4 + 3 = (0 + k * 4 + 3) + 4 by omega]
  simpa only [List.map_cons, List.flatten_cons, YT, List.cons_append, List.nil_append, List.getElem?_cons_succ] using ih
theorem row_set {sp : List Value} (s : List UInt8) : ∀ (acc : List Row) (k : Nat) (r : Row), acc[k]? = some r → ((acc.map YT).flatten ++ sp).set (0 + k * 4 + 3) (strV s) = ((acc.set k ⟨r.t, r.id, r.val, s⟩).map YT).flatten ++ sp
 | [], k, r, h => by cases h
 | a :: t, 0, r, h => by cases h; rfl
 | a :: t, k + 1, r, h => by
  have ih := row_set (sp := sp) s t k r (by simpa using h)
  rw [show 0 + (k + 1) * 4 + 3 = (0 + k * 4 + 3) + 4 by omega]
  simp only [List.map_cons, List.flatten_cons, YT, List.cons_append, List.nil_append, List.set_cons_succ]
  rw [ih]
theorem row_setL {sp : List Value} (s : List UInt8) {acc : List Row} {k : Nat} {r : Row} (h : acc[k]? = some r) : SetL ((acc.map YT).flatten ++ sp) (0 + k * 4 + 3) (strV s) (((acc.set k ⟨r.t, r.id, r.val, s⟩).map YT).flatten ++ sp) := by
 have h1 := row_get (sp := sp) acc k r h
 have hlt : 0 + k * 4 + 3 < ((acc.map YT).flatten ++ sp).length := by
  rcases Nat.lt_or_ge (0 + k * 4 + 3) ((acc.map YT).flatten ++ sp).length with hh | hh
  ·exact hh
  ·rw [List.getElem?_eq_none hh] at h1; cases h1
 refine ⟨hlt, ?_⟩
 rw [← row_set s acc k r h, List.set_eq_take_append_cons_drop, if_pos hlt]
 simp [stc]
theorem set_step (RS : List Row) (k : Nat) (h : k < RS.length) : ((RS.take k).map shortR ++ RS.drop k).set k (shortR RS[k]) = (RS.take (k + 1)).map shortR ++ RS.drop (k + 1) := by
 rw [List.set_append_right _ _ (by simp; omega), List.drop_eq_getElem_cons h, List.take_succ_eq_append_getElem h]
 rw [show k - ((RS.take k).map shortR).length = 0 by simp; omega]
 simp only [List.set_cons_zero, List.map_append, List.map_cons, List.map_nil, List.append_assoc, List.cons_append, List.nil_append]
theorem get_step (RS : List Row) (k : Nat) (h : k < RS.length) : ((RS.take k).map shortR ++ RS.drop k)[k]? = some RS[k] := by
 rw [List.getElem?_append_right (by simp; omega), List.drop_eq_getElem_cons h]
 simp [show k - min k RS.length = 0 by omega]
end Go.Proofs.E
namespace Go.Proofs.E
open Go Go.RowKit
set_option linter.unusedVariables false
set_option linter.unusedSimpArgs false
set_option linter.unusedSectionVars false
set_option maxRecDepth 8000
theorem rs_flat {α : Type} {sz : Nat} {g : α → List Value} {C : List Value} {off : Nat} : ∀ (l : List α) (k : Nat), k ≤ l.length → (∀ i (h : i < l.length), (C.drop (off + i * sz)).take sz = g l[i]) → (C.drop off).take (k * sz) = ((l.take k).map g).flatten
 | l, 0, _, _ => by simp
 | l, k + 1, hk, h => by
  have ih := rs_flat l k (by omega) h
  rw [show l.take (k + 1) = l.take k ++ [l[k]'(by omega)] from List.take_succ_eq_append_getElem (by omega), Nat.add_mul, Nat.one_mul, List.take_add, ih, List.drop_drop, h k (by omega)]
  simp only [List.map_append, List.flatten_append, List.map_cons, List.map_nil, List.flatten_cons, List.flatten_nil, List.append_nil]
theorem aIn_of {ρ : Hp} {α : Type} {sz : Nat} {g : α → List Value} {P : α → Prop} {cs : List Value} {s : Option Addr × Nat × Nat × List α} (hg : ∀ x, (g x).length = sz) (h : RS ρ sz (fun cs x => cs = g x ∧ P x) cs s) : AIn ρ sz g s.1 s.2.1 s.2.2.2 ∧ (∀ x ∈ s.2.2.2, P x) ∧ s.2.1 ≤ s.2.2.1 ∧ s.2.1 ≤ 9223372036854775807 := by
 obtain ⟨a, n, c, ks⟩ := s
 obtain ⟨h1, h2, h3, h4, h5⟩ := h
 dsimp only at h1 h2 h3 h4 h5 ⊢
 refine ⟨⟨h4, ?_, fun x _ => hg x⟩, fun x hx => ?_, h2, by omega⟩
 ·by_cases h0 : n = 0
  ·exact .inl h0
  ·right
   obtain ⟨b, off, C, T, fr, e1, e2, e3, e4⟩ := h5 0 (by omega)
   have same : ∀ i (h : i < ks.length), off + i * sz + sz ≤ C.length ∧ (C.drop (off + i * sz)).take sz = g ks[i] := fun i hi => by
    obtain ⟨b', off', C', T', fr', f1, f2, f3, f4⟩ := h5 i hi
    rw [e1] at f1
    cases f1
    rw [e2] at f2
    cases f2
    exact ⟨f3, f4.1⟩
   refine ⟨b, off, C, T, fr, e1, e2, ?_, ?_⟩
   ·have := (same (n - 1) (by omega)).1
    have e : n * sz = (n - 1) * sz + sz := by
     obtain ⟨m, rfl⟩ : ∃ m, n = m + 1 := ⟨n - 1, by omega⟩
     rw [Nat.add_mul]; simp
    omega
   ·have := rs_flat (sz := sz) (g := g) ks n (by omega) (fun i hi => (same i hi).2)
    rw [this, List.take_of_length_le (by omega)]
 ·obtain ⟨i, hi, rfl⟩ := List.mem_iff_getElem.1 hx
  obtain ⟨_, _, _, _, _, _, _, _, f⟩ := h5 i hi
  exact f.2
section
variable {H : Type} {enc : TypeId × Value → H} {w : World}
theorem opn_str : Opn enc Tryz.prog w 9 (fun cs (l : List UInt8) => cs = [strV l]) := fun fuel cs x h => by
 obtain ⟨s, rfl, _, _⟩ := DataW.trod_string Tryz.underlying9 h
 obtain ⟨⟨l⟩⟩ := s
 exact ⟨l, rfl⟩
theorem opn_key : Opn enc Tryz.prog w 128 (fun cs (k : Int × Nat) => cs = keyV k.1 k.2 ∧ k.2 < 65536) := fun fuel cs x h => by
 obtain ⟨hl, hf⟩ := WY Tryz.underlying128 h
 have hl : cs.length = 2 := by rw [hl]; kernel_rfl
 obtain ⟨c0, c1, rfl⟩ : ∃ c0 c1, cs = [c0, c1] := by
  match cs, hl with
  | [c0, c1], _ => exact ⟨c0, c1, rfl⟩
 obtain ⟨t, h0, _⟩ := Xj h Tryz.underlying128 0 0 1 rfl rfl rfl (by kernel_rfl) (opn_int Tryz.underlying3)
 obtain ⟨i, h1, i0, i1⟩ := Xj h Tryz.underlying128 1 1 1 rfl rfl rfl (by kernel_rfl) (opn_int Tryz.underlying126)
 simp only [List.drop_zero, List.drop_succ_cons, List.take_succ_cons, List.take_zero, List.cons.injEq, and_true] at h0 h1
 subst h0; subst h1
 simp only [lo, hi] at i0 i1
 refine ⟨(t, i.toNat), ?_, by dsimp only; omega⟩
 have : ((i.toNat : Nat) : Int) = i := by omega
 simp only [keyV, this]
theorem opn_row : Opn enc Tryz.prog w 130 (fun cs (r : Row) => cs = YT r ∧ RowFit r) := fun fuel cs x h => by
 obtain ⟨hl, hf⟩ := WY Tryz.underlying130 h
 have hl : cs.length = 4 := by rw [hl]; kernel_rfl
 obtain ⟨c0, c1, c2, c3, rfl⟩ : ∃ c0 c1 c2 c3, cs = [c0, c1, c2, c3] := by
  match cs, hl with
  | [c0, c1, c2, c3], _ => exact ⟨c0, c1, c2, c3, rfl⟩
 obtain ⟨⟨t, i⟩, h0, hi0⟩ := Xj h Tryz.underlying130 0 0 2 rfl rfl rfl (by kernel_rfl) opn_key
 obtain ⟨v, h1, v0, v1⟩ := Xj h Tryz.underlying130 1 2 1 rfl rfl rfl (by kernel_rfl) (opn_int Tryz.underlying2)
 obtain ⟨s, h2⟩ := Xj h Tryz.underlying130 2 3 1 rfl rfl rfl (by kernel_rfl) opn_str
 simp only [List.drop_zero, List.drop_succ_cons, List.take_succ_cons, List.take_zero, List.cons.injEq, and_true, keyV] at h0 h1 h2
 obtain ⟨rfl, rfl⟩ := h0
 subst h1; subst h2
 simp only [lo, hi] at v0 v1
 exact ⟨⟨t, i, v, s⟩, rfl, ⟨hi0, v0, v1⟩⟩
theorem opn_kid : Opn enc Tryz.prog w 149 (fun cs (k : Kid) => cs = XQ k ∧ k.id < 65536) := fun fuel cs x h => by
 obtain ⟨hl, hf⟩ := WY Tryz.underlying149 h
 have hl : cs.length = 3 := by rw [hl]; kernel_rfl
 obtain ⟨c0, c1, c2, rfl⟩ : ∃ c0 c1 c2, cs = [c0, c1, c2] := by
  match cs, hl with
  | [c0, c1, c2], _ => exact ⟨c0, c1, c2, rfl⟩
 obtain ⟨⟨t, i⟩, h0, hi0⟩ := Xj h Tryz.underlying149 0 0 2 rfl rfl rfl (by kernel_rfl) opn_key
 obtain ⟨v, h1, _⟩ := Xj h Tryz.underlying149 1 2 1 rfl rfl rfl (by kernel_rfl) (opn_int Tryz.underlying3)
 simp only [List.drop_zero, List.drop_succ_cons, List.take_succ_cons, List.take_zero, List.cons.injEq, and_true, keyV] at h0 h1
 obtain ⟨rfl, rfl⟩ := h0
 subst h1
 exact ⟨⟨t, i, v⟩, rfl, hi0⟩
structure ContI (ρ : Hp) (x : CV × Yb) : Prop where
 c : CInW ρ x.1 x.2.rows x.2.kids
 row : ∀ r ∈ x.2.rows, RowFit r
 kid : ∀ k ∈ x.2.kids, k.id < 65536
theorem opn_cont : Opn enc Tryz.prog w 65 (fun cs (x : CV × Yb) => cs = XF x.2.kind x.1 ∧ ContI (hpOf w) x) := fun fuel cs x h => by
 obtain ⟨hl, hf⟩ := WY Tryz.underlying65 h
 have hl : cs.length = 3 := by rw [hl]; kernel_rfl
 obtain ⟨c0, c1, c2, rfl⟩ : ∃ c0 c1 c2, cs = [c0, c1, c2] := by
  match cs, hl with
  | [c0, c1, c2], _ => exact ⟨c0, c1, c2, rfl⟩
 obtain ⟨k, h0, _⟩ := Xj h Tryz.underlying65 0 0 1 rfl rfl rfl (by kernel_rfl) (opn_int Tryz.underlying3)
 obtain ⟨⟨ra, rn, rc, rows⟩, h1⟩ := Xj h Tryz.underlying65 1 1 1 rfl rfl rfl (by kernel_rfl) (opn_slice (sz := 4) Tryz.underlying62 (by kernel_rfl) (by decide) opn_row)
 obtain ⟨⟨ka, kn, kc, kids⟩, h2⟩ := Xj h Tryz.underlying65 2 2 1 rfl rfl rfl (by kernel_rfl) (opn_slice (sz := 3) Tryz.underlying63 (by kernel_rfl) (by decide) opn_kid)
 obtain ⟨g1, g2, g3, g4⟩ := aIn_of rowV_len h1
 obtain ⟨k1, k2, k3, k4⟩ := aIn_of kidV_len h2
 replace h1 := h1.cells
 replace h2 := h2.cells
 simp only [List.drop_zero, List.drop_succ_cons, List.take_succ_cons, List.take_zero, List.cons.injEq, and_true] at h0 h1 h2
 subst h0; subst h1; subst h2
 exact ⟨(⟨ra, rn, rc, ka, kn, kc⟩, ⟨k, rows, kids⟩), rfl, ⟨⟨g1, k1, g4, k4, g3, k3⟩, g2, k2⟩⟩
end
section
variable {H : Type} {enc : TypeId × Value → H} {w : World}
structure ShI (ρ : Hp) (s : Sh) : Prop where
 page : -9223372036854775808 ≤ s.page ∧ s.page ≤ 9223372036854775807
 c : ContI ρ (s.w, s.c)
theorem opn_sheet : Opn enc Tryz.prog w 67 (fun cs (s : Sh) => cs = sheV s ∧ ShI (hpOf w) s) := fun fuel cs x h => by
 obtain ⟨hl, hf⟩ := WY Tryz.underlying67 h
 have hl : cs.length = 4 := by rw [hl]; kernel_rfl
 obtain ⟨c0, c1, c2, c3, rfl⟩ : ∃ c0 c1 c2 c3, cs = [c0, c1, c2, c3] := by
  match cs, hl with
  | [c0, c1, c2, c3], _ => exact ⟨c0, c1, c2, c3, rfl⟩
 obtain ⟨p, h0, p0, p1⟩ := Xj h Tryz.underlying67 0 0 1 rfl rfl rfl (by kernel_rfl) (opn_int Tryz.underlying3)
 obtain ⟨⟨cw, cc⟩, h2, hcI⟩ := Xj h Tryz.underlying67 1 1 3 rfl rfl rfl (by kernel_rfl) opn_cont
 simp only [List.drop_zero, List.drop_succ_cons, List.take_succ_cons, List.take_zero, List.cons.injEq, and_true, XF] at h0 h2
 obtain ⟨h2, h3, h4⟩ := h2
 subst h0; subst h2; subst h3; subst h4
 simp only [lo, hi] at p0 p1
 exact ⟨⟨p, cw, cc⟩, rfl, ⟨⟨p0, p1⟩, hcI⟩⟩
structure OpV where
 kind : Int
 page : Int
 at' : Int
 a : Option Addr
 n : Nat
 c : Nat
 l : List Sh
abbrev opC (e : OpV) : List Value := [.int .i64 e.kind, .int .i64 e.page, .int .i64 e.at', .slice e.a e.n e.c]
structure OpIn (ρ : Hp) (e : OpV) : Prop where
 kind : -9223372036854775808 ≤ e.kind ∧ e.kind ≤ 9223372036854775807
 page : -9223372036854775808 ≤ e.page ∧ e.page ≤ 9223372036854775807
 at' : -9223372036854775808 ≤ e.at' ∧ e.at' ≤ 9223372036854775807
 l : AIn ρ 4 sheV e.a e.n e.l
 lc : e.n ≤ e.c
 lb : e.n ≤ 9223372036854775807
 sh : ∀ s ∈ e.l, ShI ρ s
theorem opn_op17 : Opn enc Tryz.prog w 52 (fun cs (e : OpV) => cs = opC e ∧ OpIn (hpOf w) e) := fun fuel cs x h => by
 obtain ⟨hl, hf⟩ := WY Tryz.underlying52 h
 have hl : cs.length = 4 := by rw [hl]; kernel_rfl
 obtain ⟨c0, c1, c2, c3, rfl⟩ : ∃ c0 c1 c2 c3, cs = [c0, c1, c2, c3] := by
  match cs, hl with
  | [c0, c1, c2, c3], _ => exact ⟨c0, c1, c2, c3, rfl⟩
 obtain ⟨p, h0, p0, p1⟩ := Xj h Tryz.underlying52 0 0 1 rfl rfl rfl (by kernel_rfl) (opn_int Tryz.underlying3)
 obtain ⟨q, h1, q0, q1⟩ := Xj h Tryz.underlying52 1 1 1 rfl rfl rfl (by kernel_rfl) (opn_int Tryz.underlying3)
 obtain ⟨r, h2, r0, r1⟩ := Xj h Tryz.underlying52 2 2 1 rfl rfl rfl (by kernel_rfl) (opn_int Tryz.underlying3)
 obtain ⟨⟨ra, rn, rc, rows⟩, h3⟩ := Xj h Tryz.underlying52 3 3 1 rfl rfl rfl (by kernel_rfl) (opn_slice (sz := 4) Tryz.underlying50 (by kernel_rfl) (by decide) opn_sheet)
 obtain ⟨g1, g2, g3, g4⟩ := aIn_of (g := sheV) (fun _ => rfl) h3
 replace h3 := h3.cells
 simp only [List.drop_zero, List.drop_succ_cons, List.take_succ_cons, List.take_zero, List.cons.injEq, and_true] at h0 h1 h2 h3
 subst h0; subst h1; subst h2; subst h3
 simp only [lo, hi] at p0 p1 q0 q1 r0 r1
 exact ⟨⟨p, q, r, ra, rn, rc, rows⟩, rfl, ⟨⟨p0, p1⟩, ⟨q0, q1⟩, ⟨r0, r1⟩, g1, g3, g4, g2⟩⟩
end
end Go.Proofs.E
namespace Go.Proofs.E
open Go
set_option linter.unusedVariables false
set_option linter.unusedSimpArgs false
set_option linter.unusedSectionVars false
set_option maxRecDepth 4000
set_option maxHeartbeats 1000000
attribute [local irreducible] Yl TL TC TE Spec XU R1 Hp.le EnvLe TS TR YS Zr
theorem ContI.mono17 {ρ ρ' : Hp} {x : CV × Yb} (h : ContI ρ x) (hl : ρ.le ρ') : ContI ρ' x := ⟨h.c.mono hl, h.row, h.kid⟩
theorem OpIn.mono {ρ ρ' : Hp} {e : OpV} (h : OpIn ρ e) (hl : ρ.le ρ') : OpIn ρ' e := ⟨h.kind, h.page, h.at', h.l.mono hl, h.lc, h.lb, fun s hs => ⟨(h.sh s hs).page, (h.sh s hs).c.mono17 hl⟩⟩
structure ShG (ρ : Hp) (s : Sh) : Prop where
 c : CIn ρ s.w s.c.rows s.c.kids
 id : IdFit s.c
theorem ShG.mono {ρ ρ' : Hp} {s : Sh} (h : ShG ρ s) (hl : ρ.le ρ') : ShG ρ' s := ⟨h.c.mono hl, h.id⟩
abbrev flatS (l : List Sh) : List Value := (l.map sheV).flatten
theorem take_six {α : Type} (l : List α) (n m : Nat) (h : l.length = n) (hm : m = min n 6) : l.take m = l.take 6 := by
 subst h; subst hm
 rcases Nat.le_total l.length 6 with h | h
 ·rw [Nat.min_eq_left h, List.take_length, List.take_of_length_le h]
 ·rw [Nat.min_eq_right h]
theorem shortR_fit {r : Row} (h : RowFit r) : RowFit (shortR r) := ⟨h.id, h.val⟩
theorem few17_spec (ρ : Hp) (e : OpV) (he : OpIn ρ e) :
  Spec Tryz.prog 24 [.agg ⟨opC e⟩] ρ [] (fun v ρ' L' => ρ.le ρ' ∧ ∃ a n c l, v = .agg ⟨[.int .i64 e.kind, .int .i64 e.page, .int .i64 e.at', .slice a n c]⟩ ∧ ShsIn ρ' a n c l ∧ (∀ s ∈ l, IdFit s.c) ∧ L' = []) := by
 have hln := he.l.len
 have hlb := he.lb
 refine Ze Tryz.func24 rfl rfl rfl fun u R => ?_
 simp only [Zt, List.cons_append, List.nil_append]
 repeat' (first | (refine Zg ?_; first | (refine Zf ?_; refine qQ ?_) | refine Zj ?_) | refine Za ?_ | (refine Zh ?_; refine Zu ?_) | (refine Zi ?_; refine Zv ?_) | intro _)
 rename_i b1 b2
 refine ZH [(1, _), (2, _), (8, _), (9, _)] (fun (ζ : (Nat) × (Hp) × (List Sh) × (Value) × (List Value)) => [(10, .int .i64 ζ.1), (3, ζ.2.2.2.1)]) (fun (ζ : (Nat) × (Hp) × (List Sh) × (Value) × (List Value)) => ζ.2.1) (fun (ζ : (Nat) × (Hp) × (List Sh) × (Value) × (List Value)) => [[(b1, .cells ⟨opC e⟩ 52 (0, 0))], [(b2, .cells ⟨[.int .i64 0, .int .i64 0, .int .i64 0, .slice none 0 0]⟩ 52 (0, 0))], Ym ζ.2.2.2.1 (flatS ζ.2.2.1) ζ.2.2.2.2 67]) (fun (ζ : (Nat) × (Hp) × (List Sh) × (Value) × (List Value)) => ζ.1 ≤ e.n ∧ ζ.1 ≤ 6 ∧ ρ.le ζ.2.1 ∧ ζ.2.2.1.length = ζ.1 ∧ OwnS ζ.2.2.2.1 ζ.2.2.1.length (flatS ζ.2.2.1) ζ.2.2.2.2 4 ∧ ∀ s ∈ ζ.2.2.1, ShG ζ.2.1 s) (fun (ζ : (Nat) × (Hp) × (List Sh) × (Value) × (List Value)) => e.n - ζ.1) ((0, ρ, [], .slice none 0 0, [])) (⟨Nat.zero_le _, Nat.zero_le _, Hp.le_refl _, rfl, OwnS.nil 4, by simp⟩) Zo Zo rfl tk ?_
 rintro ⟨k, ρ1, acc, v, sp⟩ hI
 try simp only [List.cons_append, List.nil_append, List.append_assoc, List.append_eq] at hI ⊢
 try dsimp only at hI ⊢
 obtain ⟨hk, hk6, hle1, hal, hown, hsh⟩ := hI
 have hfinish : ∀ {ρ2 : Hp} {a : Option Addr} {c : Nat}, ρ1.le ρ2 → AIn ρ2 4 sheV a acc.length acc → acc.length ≤ c → ShsIn ρ2 a acc.length c acc := fun h2 hA hc => ⟨hA, by omega, fun s hs => (hsh s hs).c.mono h2⟩
 by_cases hlt : k < e.n
 ·by_cases h6 : k = 6
  ·refine tc_freeze (Ym v (flatS acc) sp 67) (fun ρ2 hle2 hfz => ?_)
   obtain ⟨a3, c3, rfl, hc3, hA3⟩ := hown.aIn rfl (fun x _ => rfl) hfz
   have hfin := Hp.le_trans hle1 hle2
   have hin := (he.l.mono hfin)
   obtain ⟨bb, off, C, T, fr, e1, hb0, hfit, hc0⟩ := hin.get (show k < e.l.length by omega)
   rw [e1]
   generalize e.l[k]'(by omega) = x at *
   have h6' : ((k : Nat) : Int) = 6 := by omega
   repeat' (first | (refine Zg ?_; first | (refine Zf ?_; refine qQ ?_) | refine Zj ?_) | refine Za ?_ | (refine Zh ?_; refine Zu ?_) | (refine Zi ?_; refine Zv ?_) | intro _)
   exact qE (L' := []) ⟨hfin, a3, _, c3, acc, rfl, hfinish hle2 hA3 hc3, fun s hs => (hsh s hs).id, rfl⟩
  ·have hkl : k < e.l.length := by omega
   obtain ⟨bb, off, C, T, fr, e1, hb0, hfit, hc0⟩ := (he.l.mono hle1).get hkl
   have hx := he.sh _ (List.getElem_mem hkl)
   rw [e1]
   generalize e.l[k] = x at *
   obtain ⟨xp, ⟨ra, rn, rc, ka, kn, kc⟩, ⟨kind, rows, kids⟩⟩ := x
   obtain ⟨hxp, hxc⟩ := hx
   obtain ⟨hcc, hcr, hck⟩ := hxc.mono17 hle1
   obtain ⟨hr, hkd, hrb, hkb, hrc, hkc⟩ := hcc
   dsimp only at hr hkd hrb hkb hrc hkc hcr hck
   have hrl := hr.len
   have hkl2 := hkd.len
   obtain ⟨m, hm⟩ : ∃ m, m = min kn 6 := ⟨_, rfl⟩
   obtain ⟨q, hq⟩ : ∃ q, q = min rn 6 := ⟨_, rfl⟩
   have hmt : (min (kn : Int) 6).toNat = m := by omega
   have hqt : (min (rn : Int) 6).toNat = q := by omega
   have hk5 := hkd.take (hi' := m) (by omega)
   have hr5 := hr.take (hi' := q) (by omega)
   rw [take_six _ _ _ hkl2 hm] at hk5
   rw [take_six _ _ _ hrl hq] at hr5
   have hm5 : m ≤ 6 := by omega
   have hq5 : q ≤ 6 := by omega
   have hcr5 : ∀ r ∈ rows.take 6, RowFit r := fun r hr => hcr r (List.mem_of_mem_take hr)
   have hck5 : ∀ r ∈ kids.take 6, r.id < 65536 := fun r hr => hck r (List.mem_of_mem_take hr)
   dsimp only [sheV] at hc0
   generalize kids.take 6 = KS at *
   generalize rows.take 6 = RS at *
   repeat' (first | (simp only [hqt]; refine YQ (n := 0) (xs := []) (sp := []) (ys := (RS.map YT).flatten) (m := q) (sz := 4) rfl rfl (OwnS.zero _ 4) (hR := by repeat (first | exact Ya | apply Yn)) (AIn.srcV hr5) (by rw [flat_len YT 4 _ (fun x _ => rfl), hr5.len]) (flatR_one _) (by decide) rfl (by omega) (by omega) rfl (fun v1 sp1 hown1 => ?_); simp only [Nat.zero_add, List.nil_append] at hown1 ⊢; obtain ⟨a1, c1, rfl, hlen1⟩ := hown1.len) | (simp only [hmt]; refine YQ (n := 0) (xs := []) (sp := []) (ys := (KS.map XQ).flatten) (m := m) (sz := 3) rfl rfl (OwnS.zero _ 3) (hR := by repeat (first | exact Ya | apply Yn)) (AIn.srcV hk5) (by rw [flat_len XQ 3 _ (fun x _ => rfl), hk5.len]) (flatK_one _) (by decide) rfl (by omega) (by omega) rfl (fun v2 sp2 hown2 => ?_); simp only [Nat.zero_add, List.nil_append] at hown2 ⊢; obtain ⟨a2, c2, rfl, hlen2⟩ := hown2.len) | (refine Zg ?_; first | (refine Zf ?_; refine qQ ?_) | refine Zj ?_) | refine Za ?_ | (refine Zh ?_; refine Zu ?_) | (refine Zi ?_; refine Zv ?_) | intro _)
   rename_i b5 _ _
   have hRl := hr5.len
   refine ZH [(1, _), (2, _), (3, _), (4, _), (5, _), (8, _), (9, _), (10, _), (11, _), (12, _), (13, _), (14, _), (15, _), (16, _), (17, _), (18, _), (19, _), (20, _), (21, _), (22, _), (23, _), (24, _), (25, _), (26, _), (27, _), (28, _), (29, _), (30, _), (31, _), (32, _), (33, _), (34, _), (35, _), (36, _), (37, _), (38, _), (39, _), (40, _), (41, _), (42, _), (43, _), (44, _), (45, _), (46, _)] (fun (ζ : (Nat) × (List Row)) => [(47, .int .i64 ζ.1)]) (fun (ζ : (Nat) × (List Row)) => ρ1) (fun (ζ : (Nat) × (List Row)) => [Ym (.slice a2 m c2) (KS.map XQ).flatten sp2 149, Ym (.slice a1 q c1) (ζ.2.map YT).flatten sp1 130, [(b5, .cells ⟨[.int .i64 xp, .int .i64 kind, .slice a1 q c1, .slice a2 m c2]⟩ 67 (0, 0))], [(b1, .cells ⟨opC e⟩ 52 (0, 0))], [(b2, .cells ⟨[.int .i64 0, .int .i64 0, .int .i64 0, .slice none 0 0]⟩ 52 (0, 0))], Ym v (flatS acc) sp 67]) (fun (ζ : (Nat) × (List Row)) => ζ.1 ≤ q ∧ ζ.2 = (RS.take ζ.1).map shortR ++ RS.drop ζ.1) (fun (ζ : (Nat) × (List Row)) => q - ζ.1) ((0, RS)) (⟨Nat.zero_le _, by simp⟩) Zo Zo rfl tk ?_
   rintro ⟨j, ac⟩ hI
   try simp only [List.cons_append, List.nil_append, List.append_assoc, List.append_eq] at hI ⊢
   try dsimp only at hI ⊢
   obtain ⟨hk0, hacc⟩ := hI
   by_cases hlt2 : j < q
   ·have hal2 : ac.length = q := by rw [hacc]; simp; omega
    obtain ⟨pb, pc, e1'⟩ := hown1.pos (by omega)
    cases e1'
    have hkR : j < RS.length := by rw [hRl]; exact hlt2
    have hkv := get_step RS j hkR
    have hset := set_step RS j hkR
    rw [← hacc] at hkv
    rw [← hacc] at hset
    generalize RS[j]'hkR = r at *
    have hld := row_get (sp := sp1) ac j r hkv
    haveI hst := row_setL (sp := sp1) (r.note.take (min (r.note.length : Int) 9).toNat) hkv
    have e9 := take_min9 r.note
    repeat' (first | (refine Zg ?_; first | (refine Zf ?_; refine qQ ?_) | refine Zj ?_) | refine Za ?_ | (refine Zh ?_; refine Zu ?_) | (refine Zi ?_; refine Zv ?_) | intro _)
    rw [show Ym (.slice (some ⟨pb, 0, none⟩) q c1) ((ac.map YT).flatten) sp1 130 = [(pb, .cells ⟨(ac.map YT).flatten ++ sp1⟩ 130 (0, 0))] from rfl]
    refine tc_phase 21 (Zr _ _ ([[(pb, .cells ⟨(ac.map YT).flatten ++ sp1⟩ 130 (0, 0))], [(b5, .cells ⟨[.int .i64 xp, .int .i64 kind, .slice (some ⟨pb, 0, none⟩) q c1, .slice a2 m c2]⟩ 67 (0, 0))]])) (by decide +kernel) (Zy (hT := tk) (Hp.le_refl _)) ?_
    simp only [List.take_succ_cons, List.take_zero]
    all_goals (refine Yv 0 ?_; refine Yv 1 ?_; refine ZX 2 ?_; refine ZO 3 ?_; refine Yv 4 ?_; refine Yv 5 ?_; refine ZX 6 ?_; refine ZO 7 ?_; refine rIa 8 ?_; refine Yv 9 ?_; refine ZX 10 ?_; refine Yv 11 ?_; refine Yv 12 ?_; refine ZX 13 ?_; refine ZO 14 ?_; refine rIa 15 ?_; refine Yv 16 ?_; refine ZX 17 ?_; refine rBi 18 ?_; refine rBi 19 ?_; refine rSl 20 ?_; refine ZI ?_)
    all_goals refine te_phase (fuel := 3) (m := [true, true, true, true, true, true, true, true, true, true, true, true, true, true, true, true, true, true, true, true, true, false, false, false]) (Zr _ _ ([])) rfl rfl (Zy (hT := tk) (Hp.le_refl _)) ?_
    all_goals (refine rIa 21 ?_; refine Yv 22 ?_)
    all_goals (refine Zm (i := 23) ?_; ((try refine Zk ?_); (first | (refine Zj ?_; try intro _)) <;> ((try simp only [kM, kN, kO]); refine Za ?_; refine Zl ?_)))
    all_goals refine ZI ?_
    all_goals rw [e9]
    all_goals (repeat' (first | (refine Zg ?_; first | (refine Zf ?_; refine qQ ?_) | refine Zj ?_) | refine Za ?_ | (refine Zh ?_; refine Zu ?_) | (refine Zi ?_; refine Zv ?_) | intro _))
    have hsr : (⟨r.t, r.id, r.val, r.note.take 9⟩ : Row) = shortR r := rfl
    rw [hsr]
    rw [← show Ym (.slice (some ⟨pb, 0, none⟩) q c1) (((ac.set j (shortR r)).map YT).flatten) sp1 130 = [(pb, .cells ⟨((ac.set j (shortR r)).map YT).flatten ++ sp1⟩ 130 (0, 0))] from rfl]
    refine Zx (j + 1, ac.set j (shortR r)) (⟨hlt2, hset⟩) Zo Zo rfl tk inferInstance (by first | omega | (dsimp only; omega))
   ·have hkq : j = q := by omega
    have hfin : ac = RS.map shortR := by rw [hacc, List.take_of_length_le (by omega), List.drop_eq_nil_of_le (by omega), List.append_nil]
    have hal2 : ac.length = q := by rw [hfin]; simp; omega
    have hown1' : OwnS (.slice a1 q c1) q ((ac.map YT).flatten) sp1 4 := by
     have hL : ((ac.map YT).flatten).length = ((RS.map YT).flatten).length := by rw [flat_len YT 4 _ (fun x _ => rfl), flat_len YT 4 _ (fun x _ => rfl), hal2, hRl]
     rcases hown1.out with ⟨h1, h2, h3, h4⟩ | ⟨b, cap, h1, h2, h3, h4⟩
     ·exact ⟨.inl ⟨h1, h2, List.eq_nil_of_length_eq_zero (by rw [hL, h3]; rfl), h4⟩⟩
     ·exact ⟨.inr ⟨b, cap, h1, by rw [hL]; exact h2, by rw [hL]; exact h3, h4⟩⟩
    refine tc_freeze (Ym (.slice a1 q c1) ((ac.map YT).flatten) sp1 130) (fun ρ2 hle2 hfz1 => ?_)
    obtain ⟨a3, c3, e3, hc3, hA3⟩ := hown1'.aIn hal2 (fun x _ => rfl) hfz1
    cases e3
    refine tc_freeze (Ym (.slice a2 m c2) ((KS.map XQ).flatten) sp2 149) (fun ρ3 hle3 hfz2 => ?_)
    obtain ⟨a4, c4, e4, hc4, hA4⟩ := hown2.aIn hk5.len (fun x _ => rfl) hfz2
    cases e4
    have hle13 := Hp.le_trans hle2 hle3
    have hnew : ShG ρ3 ⟨xp, ⟨a1, q, c1, a2, m, c2⟩, ⟨kind, ac, KS⟩⟩ := ⟨⟨hA3.mono hle3, hA4, by dsimp only; omega, by dsimp only; omega, hc3, hc4⟩, ⟨fun r hr => by
     rw [hfin] at hr
     obtain ⟨r0, hr0, rfl⟩ := List.mem_map.1 hr
     exact shortR_fit (hcr5 r0 hr0), hck5⟩⟩
    have hsh2 : ∀ s ∈ acc ++ [⟨xp, ⟨a1, q, c1, a2, m, c2⟩, ⟨kind, ac, KS⟩⟩], ShG ρ3 s := fun s hs => by
     rcases List.mem_append.1 hs with hs | hs
     ·exact (hsh s hs).mono hle13
     ·rw [List.mem_singleton.1 hs]; exact hnew
    obtain ⟨va, vc, rfl, _⟩ := hown.slice
    repeat' (first | (refine Yi (css := [sheV ⟨xp, ⟨a1, q, c1, a2, m, c2⟩, ⟨kind, ac, KS⟩⟩]) (sz := 4) rfl rfl rfl rfl (by simp) (by simp) rfl (fun bs => ?_); simp only [List.flatten_cons, List.flatten_nil, List.append_nil]) | (refine YQ (ys := sheV ⟨xp, ⟨a1, q, c1, a2, m, c2⟩, ⟨kind, ac, KS⟩⟩) (m := 1) (sz := 4) rfl rfl hown (hR := by repeat (first | exact Ya | apply Yn)) SrcV.lit rfl rfl (by decide) rfl (by omega) (by omega) rfl (fun v' sp' hown' => ?_); obtain ⟨a', cap', rfl, hvl⟩ := hown'.slice) | (refine Zg ?_; first | (refine Zf ?_; refine qQ ?_) | refine Zj ?_) | refine Za ?_ | (refine Zh ?_; refine Zu ?_) | (refine Zi ?_; refine Zv ?_) | intro _)
    rw [show flatS acc ++ sheV ⟨xp, ⟨a1, q, c1, a2, m, c2⟩, ⟨kind, ac, KS⟩⟩ = flatS (acc ++ [⟨xp, ⟨a1, q, c1, a2, m, c2⟩, ⟨kind, ac, KS⟩⟩]) by simp [flatS]] at hown' ⊢
    refine Zx (k + 1, ρ3, acc ++ [⟨xp, ⟨a1, q, c1, a2, m, c2⟩, ⟨kind, ac, KS⟩⟩], _, sp') (⟨hlt, by omega, Hp.le_trans hle1 hle13, by simp; omega, by simpa using hown', hsh2⟩) Zo Zo rfl tk inferInstance (by first | omega | (dsimp only; omega))
 ·refine tc_freeze (Ym v (flatS acc) sp 67) (fun ρ2 hle2 hfz => ?_)
  obtain ⟨a3, c3, rfl, hc3, hA3⟩ := hown.aIn rfl (fun x _ => rfl) hfz
  have hfin := Hp.le_trans hle1 hle2
  repeat' (first | (refine Zg ?_; first | (refine Zf ?_; refine qQ ?_) | refine Zj ?_) | refine Za ?_ | (refine Zh ?_; refine Zu ?_) | (refine Zi ?_; refine Zv ?_) | intro _)
  exact qE (L' := []) ⟨hfin, a3, _, c3, acc, rfl, hfinish hle2 hA3 hc3, fun s hs => (hsh s hs).id, rfl⟩
theorem u64_nn17 (a : Int) : 0 ≤ IntKind.u64.wrap a ∧ IntKind.u64.wrap a < 18446744073709551616 := by
 have : IntKind.u64.wrap a = a % 18446744073709551616 := by simp only [IntKind.wrap]; rfl
 omega
theorem at17_spec (ρ : Hp) (e : List Value) (kd pg at' : Int) (a : Option Addr) (n c : Nat) (he : e = [.int .i64 kd, .int .i64 pg, .int .i64 at', .slice a n c]) (next : Nat) (h : next < 2000000000000) :
  Spec Tryz.prog 27 [.agg ⟨e⟩, .int .u64 (next : Nat)] ρ [] (fun v ρ' L' => (∃ lsn : Nat, v = .int .u64 (lsn : Nat) ∧ lsn < 18446744073709551616) ∧ ρ' = ρ ∧ L' = []) := by
 subst he
 refine Ze Tryz.func27 rfl rfl rfl fun u R => ?_
 simp only [Zt, List.cons_append, List.nil_append]
 repeat' (first | (refine Zg ?_; first | (refine Zf ?_; refine qQ ?_) | refine Zj ?_) | refine Za ?_ | (refine Zh ?_; refine Zu ?_) | (refine Zi ?_; refine Zv ?_) | intro _)
 have h1 := u64_nn17 (IntKind.u64.wrap ((next : Int) - 1) - (IntKind.u64.wrap at').tmod 8)
 exact qE (L' := []) ⟨⟨(IntKind.u64.wrap (IntKind.u64.wrap ((next : Int) - 1) - (IntKind.u64.wrap at').tmod 8)).toNat, by rw [Int.toNat_of_nonneg h1.1], by omega⟩, rfl, rfl⟩
abbrev zC17 : Yb := ⟨0, [], []⟩
abbrev LaF := Int → Option Yb
structure Tl (m : Nat) (pv : PV) (held : Nat → Xc) (la : LaF) : Prop where
 has : ∀ n : Nat, n < 64 → ∀ x, pv n = some x → x.1 = (la n).getD zC17 ∧ (x.2.2 = 0 → held n = (x.1, x.2.1)) ∧ (x.2.2 ≠ 0 → (held n).2 < x.2.1 ∧ Fit x.1 ∧ x.2.1 ≤ m)
 no : ∀ n : Nat, n < 64 → pv n = none → (held n).1 = (la n).getD zC17
theorem Tl.mono {m m' : Nat} {pv : PV} {held : Nat → Xc} {la : LaF} (h : Tl m pv held la) (hm : m ≤ m') : Tl m' pv held la :=
 ⟨fun n hn x hx => ⟨(h.has n hn x hx).1, (h.has n hn x hx).2.1, fun h0 => by have := (h.has n hn x hx).2.2 h0; exact ⟨this.1, this.2.1, by omega⟩⟩, h.no⟩
theorem Tl.zero : Tl 0 (vw pg0) (fun _ => zHeld) (fun _ => none) := ⟨fun n _ x hx => (by cases hx), fun n _ _ => rfl⟩
theorem Tl.hold {m : Nat} {pv : PV} {held : Nat → Xc} {la : LaF} (h : Tl m pv held la) (k : Nat) : Tl m (holdV held pv k) held la := by
 refine ⟨fun n hn x hx => ?_, fun n hn hx => ?_⟩
 ·unfold holdV setV at hx
  split at hx
  ·rename_i e
   obtain rfl : n = k := by omega
   unfold XY at hx
   cases hp : pv (n : Nat) with
   | none =>
    rw [hp] at hx
    simp only [Option.getD_none, Int.toNat_natCast, Option.some.injEq] at hx
    subst hx
    exact ⟨h.no n hn hp, fun _ => rfl, fun h0 => absurd rfl h0⟩
   | some y =>
    rw [hp] at hx
    simp only [Option.getD_some, Option.some.injEq] at hx
    subst hx
    exact h.has n hn y hp
  ·exact h.has n hn x hx
 ·unfold holdV setV at hx
  split at hx
  ·cases hx
  ·exact h.no n hn hx
theorem Tl.holds {m : Nat} {held : Nat → Xc} {la : LaF} : ∀ (l : List Sh) {pv : PV}, Tl m pv held la → (∀ s ∈ l, 0 ≤ s.page ∧ s.page < 64) → Tl m (Wl held pv l) held la
 | [], pv, h, _ => h
 | s :: r, pv, h, hl => by
  have h1 := h.hold s.page.toNat
  rw [Int.toNat_of_nonneg (hl s (by simp)).1] at h1
  exact Tl.holds r h1 (fun x hx => hl x (by simp [hx]))
def setA (la : LaF) (n : Int) (c : Yb) : LaF := fun k => if k = n then some c else la k
def setsA : LaF → List Sh → LaF
 | la, [] => la
 | la, s :: r => setsA (setA la s.page s.c) r
theorem setsA_snoc : ∀ (la : LaF) (l : List Sh) (s : Sh), setsA la (l ++ [s]) = setA (setsA la l) s.page s.c
 | la, [], s => rfl
 | la, x :: r, s => by simp only [List.cons_append, setsA]; exact setsA_snoc _ r s
theorem Tl.new {m lsn : Nat} {pv : PV} {held : Nat → Xc} {la : LaF} (h : Tl m pv held la) {n : Int} (h0 : 0 ≤ n) (h64 : n < 64) {x : Yb × Nat × Nat} (hx : pv n = some x) (hlt : x.2.1 < lsn) (hm : lsn ≤ m) {c : Yb} (hc : Fit c) : Tl m (newV lsn pv n c) held (setA la n c) := by
 obtain ⟨k, rfl⟩ : ∃ k : Nat, n = k := ⟨n.toNat, by omega⟩
 have h1 := h.has k (by omega) x hx
 have hh : (held k).2 < lsn := by
  by_cases hr : x.2.2 = 0
  ·rw [h1.2.1 hr]; exact hlt
  ·have := (h1.2.2 hr).1; omega
 have hnz : (if ((pv (k : Nat)).getD (c, 0, 0)).2.2 = 0 then lsn else ((pv (k : Nat)).getD (c, 0, 0)).2.2) ≠ 0 := by
  split
  ·omega
  ·rename_i h; exact h
 refine ⟨fun j hj y hy => ?_, fun j hj hy => ?_⟩
 ·unfold newV setV at hy
  unfold setA
  split at hy
  ·rename_i e
   obtain rfl : j = k := by omega
   rw [if_pos rfl]
   simp only [Option.some.injEq] at hy
   subst hy
   exact ⟨rfl, fun h => absurd h hnz, fun _ => ⟨hh, hc, hm⟩⟩
  ·rename_i e
   rw [if_neg e]
   exact h.has j hj y hy
 ·unfold newV setV at hy
  unfold setA
  split at hy
  ·cases hy
  ·rename_i e
   rw [if_neg e]
   exact h.no j hj hy
theorem newV_other {lsn : Nat} {pv : PV} {n k : Int} {c : Yb} (h : k ≠ n) : newV lsn pv n c k = pv k := by unfold newV setV; rw [if_neg h]
theorem riseS_gt : ∀ {l : List Sh} {last : Int}, Vv last l = true → ∀ s ∈ l, last < s.page
 | x :: r, last, h, s, hs => by
  rw [Vv, Bool.and_eq_true, decide_eq_true_eq] at h
  rcases List.mem_cons.1 hs with rfl | hs
  ·exact h.1.1
  ·have := riseS_gt h.2 s hs; omega
theorem Tl.chgs {m lsn : Nat} {held : Nat → Xc} (hm : lsn ≤ m) : ∀ (l : List Sh) {last : Int} {pv : PV} {la : LaF}, Tl m pv held la → Vv last l = true → (∀ s ∈ l, Fit s.c) → (∀ s ∈ l, ∃ x, pv s.page = some x ∧ x.2.1 < lsn) → Tl m (chgsV lsn pv l) held (setsA la l)
 | [], last, pv, la, h, _, _, _ => h
 | s :: r, last, pv, la, h, hr, hf, hs => by
  rw [Vv, Bool.and_eq_true, decide_eq_true_eq] at hr
  obtain ⟨x, hx, hlt⟩ := hs s (by simp)
  refine Tl.chgs hm r (h.new hr.1.2.1 hr.1.2.2 hx hlt hm (hf s (by simp))) hr.2 (fun y hy => hf y (by simp [hy])) (fun y hy => ?_)
  obtain ⟨z, hz, hz2⟩ := hs y (by simp [hy])
  have := riseS_gt hr.2 y hy
  exact ⟨z, by rw [newV_other (by omega)]; exact hz, hz2⟩
theorem Tl.steal {m : Nat} {pv : PV} {held : Nat → Xc} {la : LaF} (h : Tl m pv held la) {n : Nat} (hn : n < 64) {x : Yb × Nat × Nat} (hx : pv n = some x) : Tl m (setV pv n (x.1, x.2.1, 0)) (upd held n (x.1, x.2.1)) la := by
 have h1 := h.has n hn x hx
 refine ⟨fun j hj y hy => ?_, fun j hj hy => ?_⟩
 ·unfold setV at hy
  unfold upd
  split at hy
  ·rename_i e
   obtain rfl : j = n := by omega
   rw [if_pos rfl]
   simp only [Option.some.injEq] at hy
   subst hy
   exact ⟨h1.1, fun _ => rfl, fun h => absurd rfl h⟩
  ·rename_i e
   rw [if_neg (by omega)]
   exact h.has j hj y hy
 ·unfold setV at hy
  unfold upd
  split at hy
  ·cases hy
  ·rename_i e
   rw [if_neg (by omega)]
   exact h.no j hj hy
theorem Tl.evict {m : Nat} {pv : PV} {held : Nat → Xc} {la : LaF} (h : Tl m pv held la) {n : Int} {x : Yb × Nat × Nat} (hx : pv n = some x) (h0 : x.2.2 = 0) : Tl m (fun k => if k = n then none else pv k) held la := by
 refine ⟨fun j hj y hy => ?_, fun j hj hy => ?_⟩
 ·split at hy
  ·cases hy
  ·exact h.has j hj y hy
 ·split at hy
  ·rename_i e
   subst e
   have h1 := h.has j hj x hx
   rw [h1.2.1 h0]; exact h1.1
  ·exact h.no j hj hy
theorem Tl.tells {m : Nat} {pv : PV} {held : Nat → Xc} {la : LaF} (h : Tl m pv held la) {n : Nat} (hn : n < 64) : (XY held pv n).1 = (la n).getD zC17 ∧ (((∃ x, pv n = some x ∧ x.2.2 ≠ 0) ∧ (held n).2 < (XY held pv n).2.1) ∨ ((¬ ∃ x, pv n = some x ∧ x.2.2 ≠ 0) ∧ held n = ((XY held pv n).1, (XY held pv n).2.1))) := by
 unfold XY
 cases hp : pv (n : Nat) with
 | none =>
  refine ⟨h.no n hn hp, .inr ⟨?_, rfl⟩⟩
  rintro ⟨x, hx, _⟩
  cases hx
 | some x =>
  have h1 := h.has n hn x hp
  refine ⟨h1.1, ?_⟩
  by_cases h0 : x.2.2 = 0
  ·refine .inr ⟨?_, h1.2.1 h0⟩
   rintro ⟨y, hy, hy2⟩
   cases hy; exact hy2 h0
  ·exact .inl ⟨⟨x, rfl, h0⟩, (h1.2.2 h0).1⟩
theorem dirty_mem {pg : Pgs} {n : Nat} (hn : n < 64) : (∃ p ∈ Xd (allG pg), p.page = (n : Int)) ↔ ∃ x, vw pg n = some x ∧ x.2.2 ≠ 0 := by
 unfold Xd allG allTo vw
 constructor
 ·rintro ⟨p, hp, hpn⟩
  obtain ⟨x, hx, rfl⟩ := List.mem_map.1 hp
  obtain ⟨hx1, hx2⟩ := List.mem_filter.1 hx
  obtain ⟨i, _, hi2⟩ := List.mem_filterMap.1 hx1
  dsimp only at hpn
  cases hpi : pg (i : Nat) with
  | none => rw [hpi] at hi2; cases hi2
  | some g =>
   rw [hpi] at hi2
   simp only [Option.map_some, Option.some.injEq] at hi2
   subst hi2
   dsimp only at hpn hx2
   rw [← hpn, hpi]
   exact ⟨_, rfl, of_decide_eq_true hx2⟩
 ·rintro ⟨x, hx, hx2⟩
  cases hp : pg (n : Nat) with
  | none => rw [hp] at hx; cases hx
  | some g =>
   rw [hp] at hx
   simp only [Option.map_some, Option.some.injEq] at hx
   subst hx
   exact ⟨⟨n, g.rc⟩, List.mem_map.2 ⟨(n, g), List.mem_filter.2 ⟨List.mem_filterMap.2 ⟨n, List.mem_range.2 hn, by rw [hp]; rfl⟩, decide_eq_true hx2⟩, rfl⟩, rfl⟩
end Go.Proofs.E
