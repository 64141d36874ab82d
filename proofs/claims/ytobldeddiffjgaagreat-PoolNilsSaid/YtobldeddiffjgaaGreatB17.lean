/- The law PoolNils. Part 17 of 18. -/
import Derived.Test.YtobldeddiffjgaaGreatB16
namespace Go.Proofs.E
open Go
set_option linter.unusedVariables false
set_option linter.unusedSimpArgs false
set_option linter.unusedSectionVars false
set_option maxRecDepth 4000
set_option maxHeartbeats 1000000
attribute [local irreducible] Yl TL TC TE Spec XZ R1 Hp.le EnvLe TS TR YS Zq
theorem sameR_spec (ρ : Hp) (w w' : CV) (c d : YE) (h : CIn ρ w c.rows c.kids) (h' : CIn ρ w' d.rows d.kids) :
  Spec Tryz.prog 36 [.agg ⟨Wf c.kind w⟩, .agg ⟨Wf d.kind w'⟩] ρ [] (fun v ρ' L' => v = .bool (decide (c = d)) ∧ ρ' = ρ ∧ L' = []) := by
 obtain ⟨kind, rows, kids⟩ := c
 obtain ⟨kind', rows', kids'⟩ := d
 obtain ⟨ra, rn, rc, ka, kn, kc⟩ := w
 obtain ⟨ra', rn', rc', ka', kn', kc'⟩ := w'
 obtain ⟨hr, hk, hrb, hkb, hrc, hkc⟩ := h
 obtain ⟨hr', hk', hrb', hkb', hrc', hkc'⟩ := h'
 dsimp only at hrc hkc hr hk hrb hkb hrc' hkc' hr' hk' hrb' hkb' ⊢
 have hrn := hr.len
 have hkn := hk.len
 have hrn' := hr'.len
 have hkn' := hk'.len
 simp only [YE.mk.injEq]
 refine Ze Tryz.func36 rfl rfl rfl fun u R => ?_
 simp only [Zp, List.cons_append, List.nil_append, Wf]
 by_cases h1 : kind = kind'
 ·by_cases h2 : rn = rn'
  ·by_cases h3 : kn = kn'
   ·subst h1; subst h2; subst h3
    repeat' (first | (refine Zg ?_; first | (refine Zf ?_; refine qQ ?_) | refine Zj ?_) | refine Za ?_ | (refine Zh ?_; refine Zu ?_) | (refine Zi ?_; refine Zv ?_) | intro _)
    rename_i b1 b2
    refine ZK [(2, _), (3, _), (4, _), (32, _)] (fun (ζ : (Nat)) => [(33, .int .i64 ζ)]) (fun (ζ : (Nat)) => ρ) (fun (ζ : (Nat)) => [[(b2, .cells ⟨[.int .i64 kind, .slice ra' rn rc', .slice ka' kn kc']⟩ 65 (0, 0))], [(b1, .cells ⟨[.int .i64 kind, .slice ra rn rc, .slice ka kn kc]⟩ 65 (0, 0))]]) (fun (ζ : (Nat)) => ζ ≤ rn ∧ rows.take ζ = rows'.take ζ) (fun (ζ : (Nat)) => rn - ζ) (0) (⟨Nat.zero_le _, rfl⟩) Zw Zw rfl tk ?_
    rintro k hI
    try simp only [List.cons_append, List.nil_append, List.append_assoc, List.append_eq] at hI ⊢
    try dsimp only at hI ⊢
    obtain ⟨hk0, hpre⟩ := hI
    by_cases hlt : k < rn
    ·obtain ⟨b, off, C, T, fr, rfl, hb, hfit, hc⟩ := hr.get (show k < rows.length by omega)
     obtain ⟨b', off', C', T', fr', rfl, hb', hfit', hc'⟩ := hr'.get (show k < rows'.length by omega)
     have ht1 := List.take_succ_eq_append_getElem (show k < rows.length by omega)
     have ht2 := List.take_succ_eq_append_getElem (show k < rows'.length by omega)
     have hf : rows = rows' → rows[k]'(by omega) = rows'[k]'(by omega) := fun e => by subst e; rfl
     generalize rows[k]'(by omega) = x at *
     generalize rows'[k]'(by omega) = y at *
     by_cases he : x = y
     ·have hd : decide (x = y) = true := decide_eq_true he
      repeat' (first | (refine Zg ?_; first | (refine Zf ?_; refine qQ ?_) | refine Zj ?_) | refine Za ?_ | (refine Zh ?_; refine Zu ?_) | (refine Zi ?_; refine Zv ?_) | intro _)
      refine Zz (Zq _ _ ([[(b2, .cells ⟨[.int .i64 kind, .slice (some ⟨b', off', none⟩) rn rc', .slice ka' kn kc']⟩ 65 (0, 0))], [(b1, .cells ⟨[.int .i64 kind, .slice (some ⟨b, off, none⟩) rn rc, .slice ka kn kc]⟩ 65 (0, 0))]])) (Zx (hT := tk) (Hp.le_refl _)) ?_
      all_goals (refine YB 0 ?_; refine ZP ?_; refine Ya 1 ?_; refine ZU 2 ?_; refine rIa 3 ?_; refine Ya 4 ?_; refine YB 5 ?_; refine Ya 6 ?_; refine ZU 7 ?_; refine rIa 8 ?_; refine Ya 9 ?_; refine rCm 10 ?_; refine ZI ?_)
      repeat' (first | (refine Zg ?_; first | (refine Zf ?_; refine qQ ?_) | refine Zj ?_) | refine Za ?_ | (refine Zh ?_; refine Zu ?_) | (refine Zi ?_; refine Zv ?_) | intro _)
      refine Zy (k + 1) (⟨hlt, by rw [ht1, ht2, hpre, he]⟩) Zw Zw rfl tk inferInstance (by first | omega | (dsimp only; omega))
     ·have hd : decide (x = y) = false := decide_eq_false he
      rw [decide_eq_false (fun e => he (hf e.2.1))]
      repeat' (first | (refine Zg ?_; first | (refine Zf ?_; refine qQ ?_) | refine Zj ?_) | refine Za ?_ | (refine Zh ?_; refine Zu ?_) | (refine Zi ?_; refine Zv ?_) | intro _)
      refine Zz (Zq _ _ ([[(b2, .cells ⟨[.int .i64 kind, .slice (some ⟨b', off', none⟩) rn rc', .slice ka' kn kc']⟩ 65 (0, 0))], [(b1, .cells ⟨[.int .i64 kind, .slice (some ⟨b, off, none⟩) rn rc, .slice ka kn kc]⟩ 65 (0, 0))]])) (Zx (hT := tk) (Hp.le_refl _)) ?_
      all_goals (refine YB 0 ?_; refine ZP ?_; refine Ya 1 ?_; refine ZU 2 ?_; refine rIa 3 ?_; refine Ya 4 ?_; refine YB 5 ?_; refine Ya 6 ?_; refine ZU 7 ?_; refine rIa 8 ?_; refine Ya 9 ?_; refine rCm 10 ?_; refine ZI ?_)
      repeat' (first | (refine Zg ?_; first | (refine Zf ?_; refine qQ ?_) | refine Zj ?_) | refine Za ?_ | (refine Zh ?_; refine Zu ?_) | (refine Zi ?_; refine Zv ?_) | intro _)
      exact qE ⟨rfl, rfl, rfl⟩
    ·have hk2 : k = rn := by omega
     subst hk2
     rw [List.take_of_length_le (by omega), List.take_of_length_le (by omega)] at hpre
     subst hpre
     repeat' (first | (refine Zg ?_; first | (refine Zf ?_; refine qQ ?_) | refine Zj ?_) | refine Za ?_ | (refine Zh ?_; refine Zu ?_) | (refine Zi ?_; refine Zv ?_) | intro _)
     refine ZK [(2, _), (3, _), (4, _), (50, _)] (fun (ζ : (Nat)) => [(51, .int .i64 ζ)]) (fun (ζ : (Nat)) => ρ) (fun (ζ : (Nat)) => [[(b2, .cells ⟨[.int .i64 kind, .slice ra' k rc', .slice ka' kn kc']⟩ 65 (0, 0))], [(b1, .cells ⟨[.int .i64 kind, .slice ra k rc, .slice ka kn kc]⟩ 65 (0, 0))]]) (fun (ζ : (Nat)) => ζ ≤ kn ∧ kids.take ζ = kids'.take ζ) (fun (ζ : (Nat)) => kn - ζ) (0) (⟨Nat.zero_le _, rfl⟩) Zw Zw rfl tk ?_
     rintro j hI
     try simp only [List.cons_append, List.nil_append, List.append_assoc, List.append_eq] at hI ⊢
     try dsimp only at hI ⊢
     obtain ⟨hj0, hpre⟩ := hI
     by_cases hlj : j < kn
     ·obtain ⟨b, off, C, T, fr, rfl, hb, hfit, hc⟩ := hk.get (show j < kids.length by omega)
      obtain ⟨b', off', C', T', fr', rfl, hb', hfit', hc'⟩ := hk'.get (show j < kids'.length by omega)
      have ht1 := List.take_succ_eq_append_getElem (show j < kids.length by omega)
      have ht2 := List.take_succ_eq_append_getElem (show j < kids'.length by omega)
      have hf : kids = kids' → kids[j]'(by omega) = kids'[j]'(by omega) := fun e => by subst e; rfl
      generalize kids[j]'(by omega) = x at *
      generalize kids'[j]'(by omega) = y at *
      by_cases he : x = y
      ·have hd : decide (x = y) = true := decide_eq_true he
       repeat' (first | (refine Zg ?_; first | (refine Zf ?_; refine qQ ?_) | refine Zj ?_) | refine Za ?_ | (refine Zh ?_; refine Zu ?_) | (refine Zi ?_; refine Zv ?_) | intro _)
       refine Zz (Zq _ _ ([[(b2, .cells ⟨[.int .i64 kind, .slice ra' k rc', .slice (some ⟨b', off', none⟩) kn kc']⟩ 65 (0, 0))], [(b1, .cells ⟨[.int .i64 kind, .slice ra k rc, .slice (some ⟨b, off, none⟩) kn kc]⟩ 65 (0, 0))]])) (Zx (hT := tk) (Hp.le_refl _)) ?_
       all_goals (refine YB 0 ?_; refine ZP ?_; refine Ya 1 ?_; refine ZU 2 ?_; refine rIa 3 ?_; refine Ya 4 ?_; refine YB 5 ?_; refine Ya 6 ?_; refine ZU 7 ?_; refine rIa 8 ?_; refine Ya 9 ?_; refine rCm 10 ?_; refine ZI ?_)
       repeat' (first | (refine Zg ?_; first | (refine Zf ?_; refine qQ ?_) | refine Zj ?_) | refine Za ?_ | (refine Zh ?_; refine Zu ?_) | (refine Zi ?_; refine Zv ?_) | intro _)
       refine Zy (j + 1) (⟨hlj, by rw [ht1, ht2, hpre, he]⟩) Zw Zw rfl tk inferInstance (by first | omega | (dsimp only; omega))
      ·have hd : decide (x = y) = false := decide_eq_false he
       rw [decide_eq_false (fun e => he (hf e.2.2))]
       repeat' (first | (refine Zg ?_; first | (refine Zf ?_; refine qQ ?_) | refine Zj ?_) | refine Za ?_ | (refine Zh ?_; refine Zu ?_) | (refine Zi ?_; refine Zv ?_) | intro _)
       refine Zz (Zq _ _ ([[(b2, .cells ⟨[.int .i64 kind, .slice ra' k rc', .slice (some ⟨b', off', none⟩) kn kc']⟩ 65 (0, 0))], [(b1, .cells ⟨[.int .i64 kind, .slice ra k rc, .slice (some ⟨b, off, none⟩) kn kc]⟩ 65 (0, 0))]])) (Zx (hT := tk) (Hp.le_refl _)) ?_
       all_goals (refine YB 0 ?_; refine ZP ?_; refine Ya 1 ?_; refine ZU 2 ?_; refine rIa 3 ?_; refine Ya 4 ?_; refine YB 5 ?_; refine Ya 6 ?_; refine ZU 7 ?_; refine rIa 8 ?_; refine Ya 9 ?_; refine rCm 10 ?_; refine ZI ?_)
       repeat' (first | (refine Zg ?_; first | (refine Zf ?_; refine qQ ?_) | refine Zj ?_) | refine Za ?_ | (refine Zh ?_; refine Zu ?_) | (refine Zi ?_; refine Zv ?_) | intro _)
       exact qE ⟨rfl, rfl, rfl⟩
     ·have hj2 : j = kn := by omega
      subst hj2
      rw [List.take_of_length_le (by omega), List.take_of_length_le (by omega)] at hpre
      subst hpre
      rw [decide_eq_true ⟨trivial, trivial, rfl⟩]
      repeat' (first | (refine Zg ?_; first | (refine Zf ?_; refine qQ ?_) | refine Zj ?_) | refine Za ?_ | (refine Zh ?_; refine Zu ?_) | (refine Zi ?_; refine Zv ?_) | intro _)
      exact qE ⟨rfl, rfl, rfl⟩
   ·rw [decide_eq_false (fun e => h3 (by rw [← hkn, ← hkn', e.2.2]))]
    repeat' (first | (refine Zg ?_; first | (refine Zf ?_; refine qQ ?_) | refine Zj ?_) | refine Za ?_ | (refine Zh ?_; refine Zu ?_) | (refine Zi ?_; refine Zv ?_) | intro _)
    exact qE ⟨rfl, rfl, rfl⟩
  ·rw [decide_eq_false (fun e => h2 (by rw [← hrn, ← hrn', e.2.1]))]
   repeat' (first | (refine Zg ?_; first | (refine Zf ?_; refine qQ ?_) | refine Zj ?_) | refine Za ?_ | (refine Zh ?_; refine Zu ?_) | (refine Zi ?_; refine Zv ?_) | intro _)
   exact qE ⟨rfl, rfl, rfl⟩
 ·rw [decide_eq_false (fun e => h1 e.1)]
  repeat' (first | (refine Zg ?_; first | (refine Zf ?_; refine qQ ?_) | refine Zj ?_) | refine Za ?_ | (refine Zh ?_; refine Zu ?_) | (refine Zi ?_; refine Zv ?_) | intro _)
  exact qE ⟨rfl, rfl, rfl⟩
def pg0 : Pgs := fun _ => none
theorem mp0 {ρ : Hp} : MpIn ρ [] pg0 := ⟨(by intro e he; cases he), List.Pairwise.nil, fun _ => rfl, (by intro n g h; cases h)⟩
theorem wk17_a (w : CV) : askE true (fun _ => zHeld) (vw pg0) 1 [⟨5, w, leaf7⟩] = 0 := by rfl
theorem wk17_v (w : CV) : chgV true (fun _ => zHeld) (vw pg0) 1 [⟨5, w, leaf7⟩] = setV (setV (vw pg0) 5 (⟨0, [], []⟩, 0, 0)) 5 (leaf7, 1, 1) := by
 unfold chgV
 rw [wk17_a w, if_pos rfl]
 rfl
theorem ev_dirty {pg : Pgs} {g : Pg} (h : pg 5 = some g) (h0 : g.rc ≠ 0) : Vo pg 5 = 270 := by
 unfold Vo; rw [if_pos (by omega), h]; show (if g.rc = 0 then (0 : Int) else 270) = 270; rw [if_neg h0]
theorem ev_gone {pg : Pgs} (h : Vo pg 5 = 270) : evictG pg 5 = pg := by unfold evictG; rw [h, if_neg (by omega)]
theorem ev_zero {pg : Pgs} {g : Pg} (_ : pg 5 = some g) : Vo (updG pg (5 : Nat) { g with rc := 0 }) 5 = 0 := by
 unfold Vo; rw [if_pos (by omega)]; rfl
theorem wakes17_spec (ρ : Hp) : Spec Tryz.prog 22 [] ρ [] (fun v ρ' L' => v = .bool true ∧ ρ.le ρ' ∧ L' = []) := by
 refine Ze Tryz.func22 rfl rfl rfl fun u R => ?_
 simp only [Zp, List.cons_append, List.nil_append]
 repeat' (first | (refine Zc (.func 25) ?_; refine qC rfl rfl (appends17_spec _ xb db fb lb rb pb hx2 R0 0 1 (by omega) va2 sp2 hin2) ?_; rintro v3 ρ3 L3 hle3 ⟨rfl, hl3, va3, sp3, hin3, rfl⟩; have hx3 := Hp.at' hl3 hx2; try simp only [List.cons_append, List.nil_append, List.append_assoc, List.append_eq]) | (refine Zc (.func 25) ?_; refine qC rfl rfl (appends17_spec _ xb db fb lb rb pb hx1 R0 0 0 (by omega) _ [] (pS_in R0)) ?_; rintro v2 ρ2 L2 hle2 ⟨rfl, hl2, va2, sp2, hin2, rfl⟩; have hx2 := Hp.at' hl2 hx1; try simp only [List.cons_append, List.nil_append, List.append_assoc, List.append_eq]) | (refine Zc (.func 23) ?_; refine qC rfl rfl (begun17_spec _) ?_; rintro v1 ρ1 L1 hle1 ⟨hl1, xb, db, fb, lb, rb, pb, mb, w1, k1, R0, D1, rfl, hx1, hp1, hf1, hr1, hk1, st1, rfl⟩; try simp only [List.cons_append, List.nil_append, List.append_assoc, List.append_eq]) | (refine iBu ?_; refine ZS (Zt rfl) rfl rfl ?_) | (refine Zg ?_; first | (refine Zf ?_; refine qQ ?_) | refine Zj ?_) | refine Za ?_ | (refine Zh ?_; refine Zu ?_) | (refine Zi ?_; refine Zv ?_) | intro _)
 have hl13 := Hp.le_trans hl2 hl3
 have hp3 := Hp.at' hl13 hp1
 have hf3 := hf1.mono hl13
 have hr3 := hr1.mono hl13
 have st3 : StoK R0 0 2 D1 0 (fun _ => zHeld) := (st1.more (by omega)).more (by omega)
 have hS3 : (recF (pS R0 0 2) 1).isSome = true := by rw [pS_rec]; rfl
 refine Zz (Zq _ _ ([])) (Zx (hT := tk) (Hp.le_refl _)) ?_
 all_goals (refine ZU 0 ?_; refine rNc 1 ?_; refine YB 2 ?_; refine Ya 3 ?_)
 all_goals (refine Zm (i := 4) ?_; ((try refine Zk ?_); (first | (refine Zc (.func 61) ?_; refine qC rfl rfl (leaf17_spec _) ?_; rintro v4 ρ4 L4 hle4 ⟨hl4, w4, rfl, hC4, rfl⟩; have hx4 := Hp.at' hl4 hx3; try simp only [List.cons_append, List.nil_append, List.append_assoc, List.append_eq]) | (refine Zj ?_; try intro _)) <;> ((try simp only [kM, kN, kO]); refine Za ?_; refine Zl ?_)))
 all_goals refine rBu 5 ?_ (y := fun _ _ => Zt rfl)
 all_goals (refine Zm (i := 6) ?_; ((try refine Zk ?_); (first | (refine Yt (css := [sheV ⟨5, w4, leaf7⟩]) (sz := 4) rfl rfl rfl rfl (by simp) (by simp) rfl (fun bs => ?_); refine ZL [(bs, .cells ⟨([sheV ⟨5, w4, leaf7⟩] : List (List Value)).flatten⟩ 67 (0, 0))] (h := Rem.here) (fun ρ5 hl5 hfz => ?_); have hl35 := Hp.le_trans hl4 hl5; have hx5 := Hp.at' hl5 hx4; have hp5 := Hp.at' hl35 hp3; have hf5 := hf3.mono hl35; have hin5 := hin3.mono hl35; have hr5 := hr3.mono hl35; have hch := change17_spec ρ5 pb fb lb mb rb db 902 0 hp5 hf5 (by omega) (pS R0 0 2) va3 sp3 hin5 k1 D1 hk1 pg0 [] 0 mp0 (fun _ => zHeld) st3.fo st3.good.calm.lv 1 (some ⟨bs, 0, none⟩) 1 1 [⟨5, w4, leaf7⟩] ⟨⟨rfl, .inr ⟨bs, 0, _, _, _, rfl, hfz _ (List.mem_singleton.2 rfl), by simp, by simp⟩, fun x hx => by simp at hx; subst hx; rfl⟩, by omega, fun s hs => by rw [List.mem_singleton.1 hs]; exact hC4.mono hl5⟩; rw [hS3, wk17_a, wk17_v] at hch) | (refine Zj ?_; try intro _)) <;> ((try simp only [kM, kN, kO]); refine Za ?_; refine Zl ?_)))
 all_goals (refine Zm (i := 7) ?_; ((try refine Zk ?_); (first | (refine Zc (.func 26) ?_; refine qC rfl rfl hch ?_; rintro v6 ρ6 L6 hle6 ⟨rfl, hl6, es6, ck6, pg6, D6, hm6, hv6, hk6, hL6, hF6, rfl⟩; have hx6 := Hp.at' hl6 hx5; have hp6 := Hp.at' hl6 hp5; have hf6 := hf5.mono hl6; have hin6 := hin5.mono hl6; have hr6 := hr5.mono hl6; obtain ⟨g6, hg6, q1, q2, q3⟩ := vw_some (pg := pg6) (n := 5) (x := (leaf7, 1, 1)) (by rw [hv6]; rfl); have hev6 := ev_dirty hg6 (by rw [q3]; decide); have hE7 := evict17_spec ρ6 pb fb lb mb hp6 5 pg6 es6 ck6 hm6; rw [hev6] at hE7; have hok6 : PgOk g6 := ⟨by rw [q1]; exact leaf7_fit.ok, by rw [q1]; exact leaf7_fit.id, by rw [q2]; decide⟩; have hrc6 : g6.rc ≠ 0 := (by rw [q3]; decide); have st6 := st3.lv hL6 hF6; obtain ⟨R8, D8, e8, st8⟩ := st6.steal (num := 5) (g := g6) (by omega) (by rw [q1]; exact leaf7_fit) (by rw [q2]; show (1 : Nat) ≤ 2; omega) (by decide); try simp only [List.cons_append, List.nil_append, List.append_assoc, List.append_eq]) | (refine Zj ?_; try intro _)) <;> ((try simp only [kM, kN, kO]); refine Za ?_; refine Zl ?_)))
 all_goals (refine rCm 8 ?_; refine ZU 9 ?_; (first | refine Zd 10 ?_ | refine Zb 10 ?_ | refine Yf 10 ?_); (first | refine Zd 11 ?_ | refine Zb 11 ?_ | refine wNc 11 ?_); (first | refine Zd 12 ?_ | refine Zb 12 ?_ | refine wFa 12 ?_); (first | refine Zd 13 ?_ | refine Zb 13 ?_ | refine wLd 13 ?_))
 all_goals (first | refine Zd 14 ?_ | refine Zb 14 ?_ | (refine Zm (i := 14) ?_; ((try refine Zk ?_); (first | (refine Zc (.func 29) ?_; refine qC rfl rfl hE9 ?_; rintro v9 ρ9 L9 hle9 ⟨rfl, rfl, es9, ck9, hm9, rfl⟩; try simp only [List.cons_append, List.nil_append, List.append_assoc, List.append_eq]) | (refine Zc (.func 29) ?_; refine qC rfl rfl hE7 ?_; rintro v7 ρ7 L7 hle7 ⟨rfl, rfl, es7, ck7, hm7, rfl⟩; rw [ev_gone hev6] at hm7; have hS8 := steal17_spec _ pb fb lb mb rb db 902 5 hp6 hf6 (by omega) (by omega) pg6 es7 ck7 hm7 g6 hg6 hok6 hrc6 (pS R0 0 2) va3 sp3 hin6 w1 hr6 k1 D6 hk6 (by show 0 < 1000000000000000; omega); rw [e8] at hS8; try simp only [List.cons_append, List.nil_append, List.append_assoc, List.append_eq]) | (refine Zj ?_; try intro _)) <;> ((try simp only [kM, kN, kO]); refine Za ?_; refine Zl ?_))))
 all_goals ((first | refine Zd 15 ?_ | refine Zb 15 ?_ | refine wCm 15 ?_); refine rPk 16 ?_; refine ZU 17 ?_; (first | refine Zd 18 ?_ | refine Zb 18 ?_ | refine Yf 18 ?_); (first | refine Zd 19 ?_ | refine Zb 19 ?_ | refine wNc 19 ?_); (first | refine Zd 20 ?_ | refine Zb 20 ?_ | refine wFa 20 ?_); (first | refine Zd 21 ?_ | refine Zb 21 ?_ | refine wLd 21 ?_))
 all_goals (first | refine Zd 22 ?_ | refine Zb 22 ?_ | (refine Zm (i := 22) ?_; ((try refine Zk ?_); (first | (refine Zc (.func 28) ?_; refine qC rfl rfl hS8 ?_; rintro v8 ρ8 L8 hle8 ⟨rfl, hl8, es8, ck8, w8, k8, hm8, hr8, hk8, rfl⟩; simp only [if_true] at hm8; have hx8 := Hp.at' hl8 hx6; have hp8 := Hp.at' hl8 hp6; have hf8 := hf6.mono hl8; have hE9 := evict17_spec ρ8 pb fb lb mb hp8 5 _ es8 ck8 hm8; rw [ev_zero hg6] at hE9; try simp only [List.cons_append, List.nil_append, List.append_assoc, List.append_eq]) | (refine Zj ?_; try intro _)) <;> ((try simp only [kM, kN, kO]); refine Za ?_; refine Zl ?_))))
 all_goals ((first | refine Zd 23 ?_ | refine Zb 23 ?_ | refine wCm 23 ?_); refine rPk 24 ?_; refine ZU 25 ?_; (first | refine Zd 26 ?_ | refine Zb 26 ?_ | refine Yf 26 ?_); (first | refine Zd 27 ?_ | refine Zb 27 ?_ | refine wNc 27 ?_); (first | refine Zd 28 ?_ | refine Zb 28 ?_ | refine wFa 28 ?_); (first | refine Zd 29 ?_ | refine Zb 29 ?_ | refine wLd 29 ?_))
 all_goals (first | refine Zd 30 ?_ | refine Zb 30 ?_ | (refine Zm (i := 30) ?_; ((try refine Zk ?_); (first | (refine Zc (.func 29) ?_; refine qC rfl rfl hE9 ?_; rintro v9 ρ9 L9 hle9 ⟨rfl, rfl, es9, ck9, hm9, rfl⟩; try simp only [List.cons_append, List.nil_append, List.append_assoc, List.append_eq]) | (refine Zc (.func 29) ?_; refine qC rfl rfl hE7 ?_; rintro v7 ρ7 L7 hle7 ⟨rfl, rfl, es7, ck7, hm7, rfl⟩; rw [ev_gone hev6] at hm7; have hS8 := steal17_spec _ pb fb lb mb rb db 902 5 hp6 hf6 (by omega) (by omega) pg6 es7 ck7 hm7 g6 hg6 hok6 hrc6 (pS R0 0 2) va3 sp3 hin6 w1 hr6 k1 D6 hk6 (by show 0 < 1000000000000000; omega); rw [e8] at hS8; try simp only [List.cons_append, List.nil_append, List.append_assoc, List.append_eq]) | (refine Zj ?_; try intro _)) <;> ((try simp only [kM, kN, kO]); refine Za ?_; refine Zl ?_))))
 all_goals (refine ZP ?_; (first | refine Zd 31 ?_ | refine Zb 31 ?_ | refine wCm 31 ?_); refine rPk 32 ?_; refine ZI ?_)
 all_goals
  have hgone : vw (evictG (updG pg6 (5 : Nat) { c := g6.c, w := g6.w, lsn := g6.lsn, rc := 0 }) 5) (5 : Nat) = none := by
   unfold evictG; rw [ev_zero hg6, if_pos rfl, vw_del]; rfl
  have hsv : Vf (upd (fun _ => zHeld) 5 (g6.c, g6.lsn)) (vw (evictG (updG pg6 (5 : Nat) { c := g6.c, w := g6.w, lsn := g6.lsn, rc := 0 }) 5)) (5 : Nat) = (leaf7, 1, 0) := by
   unfold Vf; rw [hgone, q1, q2]; rfl
  have hfs : (pS R8 (max 0 g6.lsn) 2).fl = 1 := by show max 0 g6.lsn = 1; rw [q2]; rfl
  have hPg := page_lv _ pb fb lb mb db 902 5 1 hp8 hf8 (by omega) (by omega) k8 D8 hk8 _ es9 ck9 hm9 _ st8.fo st8.good.calm.lv
  rw [hsv] at hPg
  have hFl := fun ρ => flushed16_spec ρ lb rb (pS R8 (max 0 g6.lsn) 2) va3
  rw [hfs] at hFl
  dsimp only at hPg
  repeat' (first | (refine Zc (.func 31) ?_; refine qC rfl rfl hPg ?_; rintro v10 ρ10 L10 hle10 ⟨hl10, w10, es10, ck10, pg10, D10, rfl, hC10, hm10, hv10, hk10, hL10, hF10, rfl⟩; have hx10 := Hp.at' hl10 hx8; try simp only [List.cons_append, List.nil_append, List.append_assoc, List.append_eq]) | (refine iBu ?_; refine ZS (Zt rfl) rfl rfl ?_) | (refine Zg ?_; first | (refine Zf ?_; refine qQ ?_) | refine Zj ?_) | refine Za ?_ | (refine Zh ?_; refine Zu ?_) | (refine Zi ?_; refine Zv ?_) | intro _)
  rename_i b3
  refine Zz (Zq _ _ ([[(b3, .cells ⟨Wf 1 w10⟩ 65 (0, 0))]])) (Zx (hT := tk) (Hp.le_refl _)) ?_
  all_goals (refine ZU 0 ?_; refine rCm 1 ?_; refine ZU 2 ?_; (first | refine Zd 3 ?_ | refine Zb 3 ?_ | refine Yf 3 ?_); (first | refine Zd 4 ?_ | refine Zb 4 ?_ | refine wCm 4 ?_); refine rPk 5 ?_; refine ZU 6 ?_; (first | refine Zd 7 ?_ | refine Zb 7 ?_ | refine wLd 7 ?_))
  all_goals (first | refine Zd 8 ?_ | refine Zb 8 ?_ | (refine Zm (i := 8) ?_; ((try refine Zk ?_); (first | (refine Zc (.func 61) ?_; refine qC rfl rfl (leaf17_spec _) ?_; rintro v11 ρ11 L11 hle11 ⟨hl11, w11, rfl, hC11, rfl⟩; have hx11 := Hp.at' hl11 hx10; have hSm := sameR_spec ρ11 w10 w11 leaf7 leaf7 (hC10.mono hl11) hC11; rw [decide_eq_true rfl] at hSm; try simp only [List.cons_append, List.nil_append, List.append_assoc, List.append_eq]) | (refine Zj ?_; try intro _)) <;> ((try simp only [kM, kN, kO]); refine Za ?_; refine Zl ?_))))
  all_goals (first | refine Zd 9 ?_ | refine Zb 9 ?_ | (refine Zm (i := 9) ?_; ((try refine Zk ?_); (first | (refine Zc (.func 36) ?_; refine qC rfl rfl (hSm) ?_; rintro v ρ' L' hle ⟨rfl, rfl, rfl⟩ <;> (try simp only [kM, kN, kO])) | (refine Zj ?_; try intro _)) <;> ((try simp only [kM, kN, kO]); refine Za ?_; refine Zl ?_))))
  all_goals (refine rPk 10 ?_; refine ZU 11 ?_; (first | refine Zd 12 ?_ | refine Zb 12 ?_ | refine Yf 12 ?_); (first | refine Zd 13 ?_ | refine Zb 13 ?_ | refine wNc 13 ?_); (first | refine Zd 14 ?_ | refine Zb 14 ?_ | refine wFa 14 ?_); (first | refine Zd 15 ?_ | refine Zb 15 ?_ | refine wLd 15 ?_))
  all_goals (first | refine Zd 16 ?_ | refine Zb 16 ?_ | (refine Zm (i := 16) ?_; ((try refine Zk ?_); (first | (refine Zc (.func 17) ?_; refine qC rfl rfl (hFl _) ?_; rintro v ρ' L' hle ⟨rfl, rfl, rfl⟩ <;> (try simp only [kM, kN, kO])) | (refine Zj ?_; try intro _)) <;> ((try simp only [kM, kN, kO]); refine Za ?_; refine Zl ?_))))
  all_goals (refine ZP ?_; (first | refine Zd 17 ?_ | refine Zb 17 ?_ | refine wCm 17 ?_); refine rPk 18 ?_; refine rAs 19 ?_; refine ZI ?_)
  all_goals (repeat' (first | (refine iBu ?_; refine ZS (Zt rfl) rfl rfl ?_) | (refine Zg ?_; first | (refine Zf ?_; refine qQ ?_) | refine Zj ?_) | refine Za ?_ | (refine Zh ?_; refine Zu ?_) | (refine Zi ?_; refine Zv ?_) | intro _))
  all_goals have hfin := Hp.le_trans hl1 (Hp.le_trans hl13 (Hp.le_trans (Hp.le_trans hl4 hl5) (Hp.le_trans hl6 (Hp.le_trans hl8 (Hp.le_trans hl10 hl11)))))
  all_goals exact qE (L' := []) ⟨rfl, hfin, rfl⟩
theorem forest17_nil (ρ : Hp) : Spec Tryz.prog 35 [.pointer none] ρ [] (fun v ρ' L' => v = .tuple ⟨[.agg ⟨[.slice none 0 0]⟩, .int .i64 1]⟩ ∧ ρ' = ρ ∧ L' = []) := by
 refine Ze Tryz.func35 rfl rfl rfl fun u R => ?_
 simp only [Zp, List.cons_append, List.nil_append]
 repeat' (first | (refine Zg ?_; first | (refine Zf ?_; refine qQ ?_) | refine Zj ?_) | refine Za ?_ | (refine Zh ?_; refine Zu ?_) | (refine Zi ?_; refine Zv ?_) | intro _)
 exact qE ⟨rfl, rfl, rfl⟩
theorem poolNils_spec (ρ : Hp) (num : Int) (lsn : Nat) (a : Option Addr) (n c : Nat) :
  Spec Tryz.prog 5 [.int .i64 num, .int .u64 (lsn : Nat), .slice a n c] ρ [] (fun v ρ' L' => v = .bool true ∧ ρ.le ρ' ∧ L' = []) := by
 have hSm := fun ρ => sameR_spec ρ zCV zCV ⟨0, [], []⟩ ⟨0, [], []⟩ CIn.nil CIn.nil
 simp only [decide_eq_true (rfl : (⟨0, [], []⟩ : YE) = ⟨0, [], []⟩)] at hSm
 have hch := fun ρ => change17_nil ρ lsn (.slice a n c) ⟨a, n, c, rfl⟩
 refine Ze Tryz.func5 rfl rfl rfl fun u R => ?_
 simp only [Zp, List.cons_append, List.nil_append]
 by_cases h70 : 70 < (n : Int)
 ·repeat' (first | (refine Zc (.func 22) ?_; refine qC rfl rfl (wakes17_spec _) ?_; rintro v ρ' L' hle ⟨rfl, hl1, rfl⟩ <;> (try simp only [kM, kN, kO])) | (refine Zg ?_; first | (refine Zf ?_; refine qQ ?_) | refine Zj ?_) | refine Za ?_ | (refine Zh ?_; refine Zu ?_) | (refine Zi ?_; refine Zv ?_) | intro _)
  exact qE (L' := []) ⟨rfl, hl1, rfl⟩
 ·repeat' (first | (refine Zc (.func 22) ?_; refine qC rfl rfl (wakes17_spec _) ?_; rintro v ρ' L' hle ⟨rfl, hl1, rfl⟩ <;> (try simp only [kM, kN, kO])) | (refine Zc (.func 23) ?_; refine qC rfl rfl (begun17_spec _) ?_; rintro v2 ρ2 L2 hle2 ⟨hl2, xb, db, fb, lb, rb, pb, mb, w1, k1, R0, D1, rfl, hx1, hp1, hf1, hr1, hk1, st1, rfl⟩; have hfin := Hp.le_trans hl1 hl2; try simp only [List.cons_append, List.nil_append, List.append_assoc, List.append_eq]) | (refine Zc (.func 34) ?_; refine qC rfl rfl (new17_nil _ (.slice none 0 0) none (some ⟨lb, 0, none⟩) (.inl rfl)) ?_; rintro v ρ' L' hle ⟨rfl, rfl, rfl⟩ <;> (try simp only [kM, kN, kO])) | (refine Zc (.func 34) ?_; refine qC rfl rfl (new17_nil _ (.slice none 0 0) (some ⟨fb, 0, none⟩) none (.inr rfl)) ?_; rintro v ρ' L' hle ⟨rfl, rfl, rfl⟩ <;> (try simp only [kM, kN, kO])) | (refine Zc (.func 31) ?_; refine qC rfl rfl (page17_nil _ _) ?_; rintro v ρ' L' hle ⟨rfl, rfl, rfl⟩ <;> (try simp only [kM, kN, kO])) | (refine Zc (.func 35) ?_; refine qC rfl rfl (forest17_nil _) ?_; rintro v ρ' L' hle ⟨rfl, rfl, rfl⟩ <;> (try simp only [kM, kN, kO])) | (refine Zc (.func 36) ?_; refine qC rfl rfl (hSm _) ?_; rintro v ρ' L' hle ⟨rfl, rfl, rfl⟩ <;> (try simp only [kM, kN, kO])) | (refine Zc (.func 26) ?_; refine qC rfl rfl (hch _) ?_; rintro v ρ' L' hle ⟨rfl, rfl, rfl⟩ <;> (try simp only [kM, kN, kO])) | (refine Zc (.func 28) ?_; refine qC rfl rfl (steal17_nil _ _) ?_; rintro v ρ' L' hle ⟨rfl, rfl, rfl⟩ <;> (try simp only [kM, kN, kO])) | (refine Zc (.func 29) ?_; refine qC rfl rfl (evict17_nil _ _) ?_; rintro v ρ' L' hle ⟨rfl, rfl, rfl⟩ <;> (try simp only [kM, kN, kO])) | (refine Zc (.func 30) ?_; refine qC rfl rfl (dirty17_nil _) ?_; rintro v ρ' L' hle ⟨rfl, rfl, rfl⟩ <;> (try simp only [kM, kN, kO])) | (refine Zc (.func 37) ?_; refine qC rfl rfl (held17_nil _) ?_; rintro v ρ' L' hle ⟨rfl, rfl, rfl⟩ <;> (try simp only [kM, kN, kO])) | (refine Zg ?_; first | (refine Zf ?_; refine qQ ?_) | refine Zj ?_) | refine Za ?_ | (refine Zh ?_; refine Zu ?_) | (refine Zi ?_; refine Zv ?_) | intro _)
  exact qE (L' := []) ⟨rfl, hfin, rfl⟩
theorem wrap_ops {a : Int} (h0 : 0 ≤ a) (h1 : a < 1000000) : IntKind.i64.wrap (a + 1) = a + 1 := by
 simp [IntKind.wrap, IntKind.signed, IntKind.bits]
 omega
theorem lays_ops : ∀ (l : List (Nat × Blk)) (D : DS), D.Calm → (∀ p ∈ l, p.1 < D.secs.length) → 0 ≤ D.ops → D.ops + l.length < 900000 → (DS.lays l D).1.ops = D.ops + l.length + 1
 | [], D, h, _, h0, h1 => by
  simp only [List.length_nil] at h1
  rw [DS.lays, h.sync_eq]
  simp only [List.length_nil]
  rw [wrap_ops h0 (by omega)]; omega
 | p :: r, D, h, hl, h0, h1 => by
  simp only [List.length_cons] at h1
  have hp := hl p (by simp)
  unfold DS.lays
  rw [h.write_eq hp, if_pos rfl, wrap_ops h0 (by omega)]
  rw [lays_ops r _ ⟨rfl, rfl, rfl⟩ (fun q hq => by simp only [XE]; exact hl q (by simp [hq])) (by dsimp only; omega) (by dsimp only; omega)]
  simp only [List.length_cons]; omega
structure EmptyD (D : DS) (n q : Nat) : Prop where
 calm : D.Calm
 em : YF D.secs
 len : D.secs.length = n
 ops0 : 0 ≤ D.ops
 ops1 : D.ops ≤ 257 * q
theorem EmptyD.new (n : Nat) : EmptyD (DS.new n) n 0 := ⟨new_calm, fresh_empty, by simp [DS.new, fresh], by simp [DS.new], by simp [DS.new]⟩
theorem EmptyD.mono {D : DS} {n q : Nat} (h : EmptyD D n q) : EmptyD D n (q + 1) := ⟨h.calm, h.em, h.len, h.ops0, by have := h.ops1; omega⟩
theorem EmptyD.format {D : DS} {n q base : Nat} (h : EmptyD D n q) (hok : D.Ok) (hq : q ≤ 4) (hb : base + 256 ≤ n) :
  (DS.lays (ZN base) D).2 = 0 ∧ EmptyD (DS.lays (ZN base) D).1 n (q + 1) ∧ (DS.lays (ZN base) D).1.ops = D.ops + 257 := by
 obtain ⟨hc, he, hl, h0, h1⟩ := h
 have hidx : ∀ p ∈ ZN base, p.1 < D.secs.length := fun p hp => by
  simp only [ZN, List.mem_map, List.mem_range] at hp
  obtain ⟨k, hk, rfl⟩ := hp
  dsimp only; omega
 obtain ⟨l0, l1, l2⟩ := XM (ZN base) D hc hidx
 have l3 := lays_ops (ZN base) D hc hidx h0 (by rw [noughtsF_len]; omega)
 rw [noughtsF_len] at l3
 refine ⟨l0, ⟨l1, by rw [l2]; exact Yg, by rw [YY]; exact hl, by rw [l3]; omega, by rw [l3]; omega⟩, by rw [l3]; omega⟩
structure CInW (ρ : Hp) (v : CV) (rows : List Row) (kids : List Kid) : Prop where
 r : AIn ρ 4 We v.ra v.rn rows
 k : AIn ρ 3 Wk v.ka v.kn kids
 rb : v.rn ≤ 9223372036854775807
 kb : v.kn ≤ 9223372036854775807
 rc : v.rn ≤ v.rc
 kc : v.kn ≤ v.kc
theorem CInW.mono {ρ ρ' v rows kids} (h : CInW ρ v rows kids) (hle : ρ.le ρ') : CInW ρ' v rows kids := ⟨h.r.mono hle, h.k.mono hle, h.rb, h.kb, h.rc, h.kc⟩
end Go.Proofs.E
namespace Go.Proofs.E
open Go Go.RowKit
set_option linter.unusedVariables false
set_option linter.unusedSimpArgs false
set_option linter.unusedSectionVars false
set_option maxRecDepth 8000
theorem rs_flat {α : Type} {sz : Nat} {g : α → List Value} {C : List Value} {off : Nat} : ∀ (l : List α) (k : Nat), k ≤ l.length → (∀ i (h : i < l.length), (C.drop (off + i * sz)).take sz = g l[i]) → (C.drop off).take (k * sz) = ((l.take k).map g).flatten
 | l, 0, _, _ => by simp
 | l, k + 1, hk, h => by
  have ih := rs_flat l k (by omega) h
  rw [show l.take (k + 1) = l.take k ++ [l[k]'(by omega)] from List.take_succ_eq_append_getElem (by omega), Nat.add_mul, Nat.one_mul, List.take_add, ih, List.drop_drop, h k (by omega)]
  simp only [List.map_append, List.flatten_append, List.map_cons, List.map_nil, List.flatten_cons, List.flatten_nil, List.append_nil]
theorem aIn_of {ρ : Hp} {α : Type} {sz : Nat} {g : α → List Value} {P : α → Prop} {cs : List Value} {s : Option Addr × Nat × Nat × List α} (hg : ∀ x, (g x).length = sz) (h : RS ρ sz (fun cs x => cs = g x ∧ P x) cs s) : AIn ρ sz g s.1 s.2.1 s.2.2.2 ∧ (∀ x ∈ s.2.2.2, P x) ∧ s.2.1 ≤ s.2.2.1 ∧ s.2.1 ≤ 9223372036854775807 := by
 obtain ⟨a, n, c, ks⟩ := s
 obtain ⟨h1, h2, h3, h4, h5⟩ := h
 dsimp only at h1 h2 h3 h4 h5 ⊢
 refine ⟨⟨h4, ?_, fun x _ => hg x⟩, fun x hx => ?_, h2, by omega⟩
 ·by_cases h0 : n = 0
  ·exact .inl h0
  ·right
   obtain ⟨b, off, C, T, fr, e1, e2, e3, e4⟩ := h5 0 (by omega)
   have same : ∀ i (h : i < ks.length), off + i * sz + sz ≤ C.length ∧ (C.drop (off + i * sz)).take sz = g ks[i] := fun i hi => by
    obtain ⟨b', off', C', T', fr', f1, f2, f3, f4⟩ := h5 i hi
    rw [e1] at f1
    cases f1
    rw [e2] at f2
    cases f2
    exact ⟨f3, f4.1⟩
   refine ⟨b, off, C, T, fr, e1, e2, ?_, ?_⟩
   ·have := (same (n - 1) (by omega)).1
    have e : n * sz = (n - 1) * sz + sz := by
     obtain ⟨m, rfl⟩ : ∃ m, n = m + 1 := ⟨n - 1, by omega⟩
     rw [Nat.add_mul]; simp
    omega
   ·have := rs_flat (sz := sz) (g := g) ks n (by omega) (fun i hi => (same i hi).2)
    rw [this, List.take_of_length_le (by omega)]
 ·obtain ⟨i, hi, rfl⟩ := List.mem_iff_getElem.1 hx
  obtain ⟨_, _, _, _, _, _, _, _, f⟩ := h5 i hi
  exact f.2
section
variable {H : Type} {enc : TypeId × Value → H} {w : World}
theorem opn_str : Opn enc Tryz.prog w 9 (fun cs (l : List UInt8) => cs = [strV l]) := fun fuel cs x h => by
 obtain ⟨s, rfl, _, _⟩ := DataW.trod_string Tryz.underlying9 h
 obtain ⟨⟨l⟩⟩ := s
 exact ⟨l, rfl⟩
theorem opn_key : Opn enc Tryz.prog w 128 (fun cs (k : Int × Nat) => cs = keyV k.1 k.2 ∧ k.2 < 65536) := fun fuel cs x h => by
 obtain ⟨hl, hf⟩ := opn_fields Tryz.underlying128 h
 have hl : cs.length = 2 := by rw [hl]; kernel_rfl
 obtain ⟨c0, c1, rfl⟩ : ∃ c0 c1, cs = [c0, c1] := by
  match cs, hl with
  | [c0, c1], _ => exact ⟨c0, c1, rfl⟩
 obtain ⟨t, h0, _⟩ := XN h Tryz.underlying128 0 0 1 rfl rfl rfl (by kernel_rfl) (opn_int Tryz.underlying3)
 obtain ⟨i, h1, i0, i1⟩ := XN h Tryz.underlying128 1 1 1 rfl rfl rfl (by kernel_rfl) (opn_int Tryz.underlying126)
 simp only [List.drop_zero, List.drop_succ_cons, List.take_succ_cons, List.take_zero, List.cons.injEq, and_true] at h0 h1
 subst h0; subst h1
 simp only [lo, hi] at i0 i1
 refine ⟨(t, i.toNat), ?_, by dsimp only; omega⟩
 have : ((i.toNat : Nat) : Int) = i := by omega
 simp only [keyV, this]
theorem opn_row : Opn enc Tryz.prog w 130 (fun cs (r : Row) => cs = We r ∧ RowFit r) := fun fuel cs x h => by
 obtain ⟨hl, hf⟩ := opn_fields Tryz.underlying130 h
 have hl : cs.length = 4 := by rw [hl]; kernel_rfl
 obtain ⟨c0, c1, c2, c3, rfl⟩ : ∃ c0 c1 c2 c3, cs = [c0, c1, c2, c3] := by
  match cs, hl with
  | [c0, c1, c2, c3], _ => exact ⟨c0, c1, c2, c3, rfl⟩
 obtain ⟨⟨t, i⟩, h0, hi0⟩ := XN h Tryz.underlying130 0 0 2 rfl rfl rfl (by kernel_rfl) opn_key
 obtain ⟨v, h1, v0, v1⟩ := XN h Tryz.underlying130 1 2 1 rfl rfl rfl (by kernel_rfl) (opn_int Tryz.underlying2)
 obtain ⟨s, h2⟩ := XN h Tryz.underlying130 2 3 1 rfl rfl rfl (by kernel_rfl) opn_str
 simp only [List.drop_zero, List.drop_succ_cons, List.take_succ_cons, List.take_zero, List.cons.injEq, and_true, keyV] at h0 h1 h2
 obtain ⟨rfl, rfl⟩ := h0
 subst h1; subst h2
 simp only [lo, hi] at v0 v1
 exact ⟨⟨t, i, v, s⟩, rfl, ⟨hi0, v0, v1⟩⟩
theorem opn_kid : Opn enc Tryz.prog w 149 (fun cs (k : Kid) => cs = Wk k ∧ k.id < 65536) := fun fuel cs x h => by
 obtain ⟨hl, hf⟩ := opn_fields Tryz.underlying149 h
 have hl : cs.length = 3 := by rw [hl]; kernel_rfl
 obtain ⟨c0, c1, c2, rfl⟩ : ∃ c0 c1 c2, cs = [c0, c1, c2] := by
  match cs, hl with
  | [c0, c1, c2], _ => exact ⟨c0, c1, c2, rfl⟩
 obtain ⟨⟨t, i⟩, h0, hi0⟩ := XN h Tryz.underlying149 0 0 2 rfl rfl rfl (by kernel_rfl) opn_key
 obtain ⟨v, h1, _⟩ := XN h Tryz.underlying149 1 2 1 rfl rfl rfl (by kernel_rfl) (opn_int Tryz.underlying3)
 simp only [List.drop_zero, List.drop_succ_cons, List.take_succ_cons, List.take_zero, List.cons.injEq, and_true, keyV] at h0 h1
 obtain ⟨rfl, rfl⟩ := h0
 subst h1
 exact ⟨⟨t, i, v⟩, rfl, hi0⟩
structure ContI (ρ : Hp) (x : CV × YE) : Prop where
 c : CInW ρ x.1 x.2.rows x.2.kids
 row : ∀ r ∈ x.2.rows, RowFit r
 kid : ∀ k ∈ x.2.kids, k.id < 65536
theorem opn_cont : Opn enc Tryz.prog w 65 (fun cs (x : CV × YE) => cs = Wf x.2.kind x.1 ∧ ContI (hpOf w) x) := fun fuel cs x h => by
 obtain ⟨hl, hf⟩ := opn_fields Tryz.underlying65 h
 have hl : cs.length = 3 := by rw [hl]; kernel_rfl
 obtain ⟨c0, c1, c2, rfl⟩ : ∃ c0 c1 c2, cs = [c0, c1, c2] := by
  match cs, hl with
  | [c0, c1, c2], _ => exact ⟨c0, c1, c2, rfl⟩
 obtain ⟨k, h0, _⟩ := XN h Tryz.underlying65 0 0 1 rfl rfl rfl (by kernel_rfl) (opn_int Tryz.underlying3)
 obtain ⟨⟨ra, rn, rc, rows⟩, h1⟩ := XN h Tryz.underlying65 1 1 1 rfl rfl rfl (by kernel_rfl) (opn_slice (sz := 4) Tryz.underlying62 (by kernel_rfl) (by decide) opn_row)
 obtain ⟨⟨ka, kn, kc, kids⟩, h2⟩ := XN h Tryz.underlying65 2 2 1 rfl rfl rfl (by kernel_rfl) (opn_slice (sz := 3) Tryz.underlying63 (by kernel_rfl) (by decide) opn_kid)
 obtain ⟨g1, g2, g3, g4⟩ := aIn_of rowV_len h1
 obtain ⟨k1, k2, k3, k4⟩ := aIn_of kidV_len h2
 replace h1 := h1.cells
 replace h2 := h2.cells
 simp only [List.drop_zero, List.drop_succ_cons, List.take_succ_cons, List.take_zero, List.cons.injEq, and_true] at h0 h1 h2
 subst h0; subst h1; subst h2
 exact ⟨(⟨ra, rn, rc, ka, kn, kc⟩, ⟨k, rows, kids⟩), rfl, ⟨⟨g1, k1, g4, k4, g3, k3⟩, g2, k2⟩⟩
end
section
variable {H : Type} {enc : TypeId × Value → H} {w : World}
structure ShI (ρ : Hp) (s : Sh) : Prop where
 page : -9223372036854775808 ≤ s.page ∧ s.page ≤ 9223372036854775807
 c : ContI ρ (s.w, s.c)
theorem opn_sheet : Opn enc Tryz.prog w 67 (fun cs (s : Sh) => cs = sheV s ∧ ShI (hpOf w) s) := fun fuel cs x h => by
 obtain ⟨hl, hf⟩ := opn_fields Tryz.underlying67 h
 have hl : cs.length = 4 := by rw [hl]; kernel_rfl
 obtain ⟨c0, c1, c2, c3, rfl⟩ : ∃ c0 c1 c2 c3, cs = [c0, c1, c2, c3] := by
  match cs, hl with
  | [c0, c1, c2, c3], _ => exact ⟨c0, c1, c2, c3, rfl⟩
 obtain ⟨p, h0, p0, p1⟩ := XN h Tryz.underlying67 0 0 1 rfl rfl rfl (by kernel_rfl) (opn_int Tryz.underlying3)
 obtain ⟨⟨cw, cc⟩, h2, hcI⟩ := XN h Tryz.underlying67 1 1 3 rfl rfl rfl (by kernel_rfl) opn_cont
 simp only [List.drop_zero, List.drop_succ_cons, List.take_succ_cons, List.take_zero, List.cons.injEq, and_true, Wf] at h0 h2
 obtain ⟨h2, h3, h4⟩ := h2
 subst h0; subst h2; subst h3; subst h4
 simp only [lo, hi] at p0 p1
 exact ⟨⟨p, cw, cc⟩, rfl, ⟨⟨p0, p1⟩, hcI⟩⟩
end
end Go.Proofs.E
