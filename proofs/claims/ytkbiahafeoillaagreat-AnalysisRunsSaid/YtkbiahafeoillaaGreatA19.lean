/- Laws of analysis. Part 19 of 41. -/
import Derived.Test.YtkbiahafeoillaaGreatA18
namespace Go.Proofs.E
open Go
set_option linter.unusedVariables false
set_option linter.unusedSimpArgs false
set_option linter.unusedSectionVars false
set_option maxRecDepth 4000
set_option maxHeartbeats 1000000
attribute [local irreducible] Yl TL TC TE Spec Xb R1 Hp.le EnvLe TS TR YS Zk
structure TxP where
 num : Int
 state : Int
 first : Nat
 last : Nat
 undo : Nat
 stack : List Lf
 marks : List Nat
deriving DecidableEq
abbrev Tx.p (x : Tx) : TxP := ⟨x.num, x.state, x.first, x.last, x.undo, x.stack, x.marks⟩
structure Xh where
 next : Int
 txns : List TxP
deriving DecidableEq
abbrev Ros.p (r : Ros) : Xh := ⟨r.next, r.txns.map Tx.p⟩
instance (priority := 1200) eqLf {x y : Lf} : EqC Tryz.prog 8 108 (.agg ⟨lfV x⟩) (.agg ⟨lfV y⟩) (decide (x = y)) := by
 have h : EqC Tryz.prog 8 108 (.agg ⟨[.int .u64 x.lsn, .int .i64 x.cost]⟩) (.agg ⟨[.int .u64 y.lsn, .int .i64 y.cost]⟩) _ := inferInstance
 refine ⟨fun d w hd => ?_⟩
 rw [h.out d w hd]
 congr 1
 obtain ⟨i, t⟩ := x
 obtain ⟨i', t'⟩ := y
 simp only [Lf.mk.injEq, Bool.and_true, Bool.decide_and]
 have e : ((i : Int) == (i' : Int)) = decide (i = i') := by
  by_cases h : i = i'
  ·subst h; simp
  ·rw [decide_eq_false h]; simp only [beq_eq_false_iff_ne, ne_eq]; omega
 rw [e]
 by_cases h1 : t = t' <;> by_cases h2 : i = i' <;> simp [h1, h2]
theorem sameTx18_spec (ρ : Hp) (x y : Tx) (hx : Tx.In ρ x) (hy : Tx.In ρ y) : Spec Tryz.prog 113 [.agg ⟨Yk x⟩, .agg ⟨Yk y⟩] ρ [] (fun z ρ' L' => z = .bool (decide (x.p = y.p)) ∧ ρ' = ρ ∧ L' = []) := by
 obtain ⟨xn, xst, xf, xl, xu, xs, xm, ⟨sa, sn, sc⟩, ⟨ma, mn, mc⟩⟩ := x
 obtain ⟨yn, yst, yf, yl, yu, ys, ym, ⟨ra, rn, rc⟩, ⟨ka, kn, kc⟩⟩ := y
 obtain ⟨xS, xM, b1, b2, -, -⟩ := hx
 obtain ⟨yS, yM, b3, b4, -, -⟩ := hy
 dsimp only at xS xM yS yM b1 b2 b3 b4
 have n1 := xS.len
 have n2 := xM.len
 have n3 := yS.len
 have n4 := yM.len
 simp only [Yk, Tx.p, TxP.mk.injEq]
 refine Zd Tryz.func113 rfl rfl rfl fun u R => ?_
 simp only [Zo, List.cons_append, List.nil_append]
 by_cases e : xn = yn ∧ xst = yst ∧ xf = yf ∧ xl = yl ∧ xu = yu
 ·obtain ⟨rfl, rfl, rfl, rfl, rfl⟩ := e
  by_cases hn : sn = rn ∧ mn = kn
  ·obtain ⟨rfl, rfl⟩ := hn
   repeat' (first | refine zV ?_ | intro _)
   rename_i c2 c3
   refine Zq [(2, _), (3, _), (60, _)] (fun (ζ : (Nat)) => [(61, .int .i64 ζ), (4, .bool false)]) (fun (ζ : (Nat)) => ρ) (fun (ζ : (Nat)) => [[(c3, .cells ⟨[.int .i64 xn, .int .i64 xst, .int .u64 xf, .int .u64 xl, .int .u64 xu, .slice ra sn rc, .slice ka mn kc]⟩ 45 (0, 0))], [(c2, .cells ⟨[.int .i64 xn, .int .i64 xst, .int .u64 xf, .int .u64 xl, .int .u64 xu, .slice sa sn sc, .slice ma mn mc]⟩ 45 (0, 0))]]) (fun (ζ : (Nat)) => ζ ≤ sn ∧ xs.take ζ = ys.take ζ) (fun (ζ : (Nat)) => sn - ζ) (0) (⟨Nat.zero_le _, rfl⟩) Ze Ze rfl tk ?_
   rintro k hI
   try simp only [List.cons_append, List.nil_append, List.append_assoc, List.append_eq] at hI ⊢
   try dsimp only at hI ⊢
   obtain ⟨hk, hpre⟩ := hI
   by_cases hlt : k < sn
   ·obtain ⟨b, off, C, T, fr, rfl, hb, hfit, hc⟩ := xS.get (show k < xs.length by omega)
    obtain ⟨bb, off2, C2, T2, fr2, rfl, hb2, hfit2, hc2⟩ := yS.get (show k < ys.length by omega)
    have ht1 := List.take_succ_eq_append_getElem (show k < xs.length by omega)
    have ht2 := List.take_succ_eq_append_getElem (show k < ys.length by omega)
    have hf : xs = ys → xs[k]'(by omega) = ys[k]'(by omega) := fun e => by subst e; rfl
    generalize xs[k]'(by omega) = xi at *
    generalize ys[k]'(by omega) = yi at *
    by_cases c : xi = yi
    ·have hd : decide (xi = yi) = true := decide_eq_true c
     repeat' (first | refine zV ?_ | intro _)
     refine Zu (Zk _ _ _) Zp ?_
     all_goals (refine ZN 0 ?_; refine Zz ?_; refine ZQ 1 ?_; refine Zx 2 ?_; refine rIa 3 ?_; refine ZQ 4 ?_; refine ZN 5 ?_; refine ZQ 6 ?_; refine Zx 7 ?_; refine rIa 8 ?_; refine ZQ 9 ?_; refine rCm 10 ?_; refine Zv ?_)
     all_goals (repeat' (first | refine zV ?_ | intro _))
     all_goals refine Zg (k + 1) (⟨hlt, by rw [ht1, ht2, hpre, c]⟩) Ze Ze rfl tk inferInstance (by first | omega | (dsimp only; omega))
    ·have hd : decide (xi = yi) = false := decide_eq_false c
     rw [decide_eq_false (fun e => c (hf e.2.2.2.2.2.1))]
     repeat' (first | refine zV ?_ | intro _)
     refine Zu (Zk _ _ _) Zp ?_
     all_goals (refine ZN 0 ?_; refine Zz ?_; refine ZQ 1 ?_; refine Zx 2 ?_; refine rIa 3 ?_; refine ZQ 4 ?_; refine ZN 5 ?_; refine ZQ 6 ?_; refine Zx 7 ?_; refine rIa 8 ?_; refine ZQ 9 ?_; refine rCm 10 ?_; refine Zv ?_)
     all_goals (repeat' (first | refine zV ?_ | intro _))
     all_goals exact qE (L' := []) ⟨rfl, rfl, rfl⟩
   ·have hS : xs = ys := by
     rwa [List.take_of_length_le (by omega), List.take_of_length_le (by omega)] at hpre
    repeat' (first | refine zV ?_ | intro _)
    refine Zq [(2, _), (3, _), (78, _)] (fun (ζ : (Nat)) => [(79, .int .i64 ζ), (4, .bool false)]) (fun (ζ : (Nat)) => ρ) (fun (ζ : (Nat)) => [[(c3, .cells ⟨[.int .i64 xn, .int .i64 xst, .int .u64 xf, .int .u64 xl, .int .u64 xu, .slice ra sn rc, .slice ka mn kc]⟩ 45 (0, 0))], [(c2, .cells ⟨[.int .i64 xn, .int .i64 xst, .int .u64 xf, .int .u64 xl, .int .u64 xu, .slice sa sn sc, .slice ma mn mc]⟩ 45 (0, 0))]]) (fun (ζ : (Nat)) => ζ ≤ mn ∧ xm.take ζ = ym.take ζ) (fun (ζ : (Nat)) => mn - ζ) (0) (⟨Nat.zero_le _, rfl⟩) Ze Ze rfl tk ?_
    rintro j hI
    try simp only [List.cons_append, List.nil_append, List.append_assoc, List.append_eq] at hI ⊢
    try dsimp only at hI ⊢
    obtain ⟨hj, hpre2⟩ := hI
    by_cases hlt2 : j < mn
    ·obtain ⟨b, off, C, T, fr, rfl, hb, hc⟩ := xM.get (show j < xm.length by omega)
     obtain ⟨bb, off2, C2, T2, fr2, rfl, hb2, hc2⟩ := yM.get (show j < ym.length by omega)
     have ht1 := List.take_succ_eq_append_getElem (show j < xm.length by omega)
     have ht2 := List.take_succ_eq_append_getElem (show j < ym.length by omega)
     have hf : xm = ym → xm[j]'(by omega) = ym[j]'(by omega) := fun e => by subst e; rfl
     generalize xm[j]'(by omega) = xi at *
     generalize ym[j]'(by omega) = yi at *
     by_cases c : xi = yi
     ·repeat' (first | refine zV ?_ | intro _)
      refine Zu (Zk _ _ _) Zp ?_
      all_goals (refine ZN 0 ?_; refine Zz ?_; refine ZQ 1 ?_; refine Zx 2 ?_; refine rIa 3 ?_; refine ZQ 4 ?_; refine ZN 5 ?_; refine ZQ 6 ?_; refine Zx 7 ?_; refine rIa 8 ?_; refine ZQ 9 ?_; refine rCm 10 ?_; refine Zv ?_)
      all_goals (repeat' (first | refine zV ?_ | intro _))
      all_goals refine Zg (j + 1) (⟨hlt2, by rw [ht1, ht2, hpre2, c]⟩) Ze Ze rfl tk inferInstance (by first | omega | (dsimp only; omega))
     ·rw [decide_eq_false (fun e => c (hf e.2.2.2.2.2.2))]
      repeat' (first | refine zV ?_ | intro _)
      refine Zu (Zk _ _ _) Zp ?_
      all_goals (refine ZN 0 ?_; refine Zz ?_; refine ZQ 1 ?_; refine Zx 2 ?_; refine rIa 3 ?_; refine ZQ 4 ?_; refine ZN 5 ?_; refine ZQ 6 ?_; refine Zx 7 ?_; refine rIa 8 ?_; refine ZQ 9 ?_; refine rCm 10 ?_; refine Zv ?_)
      all_goals (repeat' (first | refine zV ?_ | intro _))
      all_goals exact qE (L' := []) ⟨rfl, rfl, rfl⟩
    ·have hM : xm = ym := by
      rwa [List.take_of_length_le (by omega), List.take_of_length_le (by omega)] at hpre2
     simp only [hS, hM, and_self, decide_true, eq_self]
     repeat' (first | refine zV ?_ | intro _)
     exact qE (L' := []) ⟨rfl, rfl, rfl⟩
  ·rw [decide_eq_false (fun e => hn ⟨by rw [← n1, ← n3, e.2.2.2.2.2.1], by rw [← n2, ← n4, e.2.2.2.2.2.2]⟩)]
   repeat' (first | refine zV ?_ | (refine YL ?_; refine ZB rfl rfl (fun hb => ?_) (fun hb => ?_) <;> (try simp only [decide_eq_true_eq, decide_eq_false_iff_not, Bool.not_eq_true, Bool.not_eq_false, beq_iff_eq, bne_iff_ne, ne_eq, decide_eq_decide, Bool.not_eq_eq_eq_not, Bool.not_true, Bool.not_false, beq_eq_false_iff_ne, bne_eq_false_iff_eq, Bool.and_eq_true, Bool.or_eq_true, Bool.and_eq_false_imp, Bool.or_eq_false_iff, bq2, bqt, bqf] at hb)) | (refine ZS ?_; refine ZM rfl (fun hb => ?_) (fun hb => ?_) <;> (try simp only [decide_eq_true_eq, decide_eq_false_iff_not, Bool.not_eq_true, Bool.not_eq_false, beq_iff_eq, bne_iff_ne, ne_eq, decide_eq_decide, Bool.not_eq_eq_eq_not, Bool.not_true, Bool.not_false, beq_eq_false_iff_ne, bne_eq_false_iff_eq, Bool.and_eq_true, Bool.or_eq_true, Bool.and_eq_false_imp, Bool.or_eq_false_iff, bq2, bqt, bqf] at hb)) | intro _)
   all_goals first | (exfalso; omega) | skip
   all_goals (refine qF (L' := []) ?_; exact ⟨Ym (by (try simp [*]); first | done | omega | (intros; omega) | (constructor <;> intros <;> (try simp_all) <;> omega)), rfl, rfl⟩)
 ·rw [decide_eq_false (fun h => e ⟨h.1, h.2.1, h.2.2.1, h.2.2.2.1, h.2.2.2.2.1⟩)]
  repeat' (first | refine zV ?_ | (refine YL ?_; refine ZB rfl rfl (fun hb => ?_) (fun hb => ?_) <;> (try simp only [decide_eq_true_eq, decide_eq_false_iff_not, Bool.not_eq_true, Bool.not_eq_false, beq_iff_eq, bne_iff_ne, ne_eq, decide_eq_decide, Bool.not_eq_eq_eq_not, Bool.not_true, Bool.not_false, beq_eq_false_iff_ne, bne_eq_false_iff_eq, Bool.and_eq_true, Bool.or_eq_true, Bool.and_eq_false_imp, Bool.or_eq_false_iff, bq2, bqt, bqf] at hb)) | (refine ZS ?_; refine ZM rfl (fun hb => ?_) (fun hb => ?_) <;> (try simp only [decide_eq_true_eq, decide_eq_false_iff_not, Bool.not_eq_true, Bool.not_eq_false, beq_iff_eq, bne_iff_ne, ne_eq, decide_eq_decide, Bool.not_eq_eq_eq_not, Bool.not_true, Bool.not_false, beq_eq_false_iff_ne, bne_eq_false_iff_eq, Bool.and_eq_true, Bool.or_eq_true, Bool.and_eq_false_imp, Bool.or_eq_false_iff, bq2, bqt, bqf] at hb)) | intro _)
  all_goals first | (exfalso; omega) | skip
  all_goals (refine qF (L' := []) ?_; exact ⟨Ym (by (try simp [*]); first | done | omega | (intros; omega) | (constructor <;> intros <;> (try simp_all) <;> omega)), rfl, rfl⟩)
theorem map_take_suc {α β : Type} (g : α → β) (l : List α) (k : Nat) (h : k < l.length) : (l.map g).take (k + 1) = (l.map g).take k ++ [g l[k]] := by
 rw [List.take_succ_eq_append_getElem (by simpa using h), List.getElem_map]
theorem same18_spec (ρ : Hp) (v v' : SV) (x y : Ros) (hx : RosIn ρ v x) (hy : RosIn ρ v' y) : Spec Tryz.prog 61 [.agg ⟨XI v x⟩, .agg ⟨XI v' y⟩] ρ [] (fun z ρ' L' => z = .bool (decide (x.p = y.p)) ∧ ρ' = ρ ∧ L' = []) := by
 obtain ⟨⟨hA, hbig, -⟩, hT⟩ := hx
 obtain ⟨⟨hB, -, -⟩, hU⟩ := hy
 obtain ⟨sa, sn, sc⟩ := v
 obtain ⟨ra, rn, rc⟩ := v'
 dsimp only at hA hB hbig
 have n1 := hA.len
 have n2 := hB.len
 simp only [XI, Ros.p, Xh.mk.injEq]
 refine Zd Tryz.func61 rfl rfl rfl fun u R => ?_
 simp only [Zo, List.cons_append, List.nil_append]
 by_cases e : x.next = y.next
 ·by_cases hn : sn = rn
  ·subst hn
   repeat' (first | refine zV ?_ | intro _)
   rename_i c2 c3
   refine Zq [(2, _), (3, _), (22, _)] (fun (ζ : (Nat)) => [(23, .int .i64 ζ), (4, .bool false)]) (fun (ζ : (Nat)) => ρ) (fun (ζ : (Nat)) => [[(c3, .cells ⟨[.int .i64 y.next, .slice ra sn rc]⟩ 26 (0, 0))], [(c2, .cells ⟨[.int .i64 x.next, .slice sa sn sc]⟩ 26 (0, 0))]]) (fun (ζ : (Nat)) => ζ ≤ sn ∧ (x.txns.map Tx.p).take ζ = (y.txns.map Tx.p).take ζ) (fun (ζ : (Nat)) => sn - ζ) (0) (⟨Nat.zero_le _, rfl⟩) Ze Ze rfl tk ?_
   rintro k hI
   try simp only [List.cons_append, List.nil_append, List.append_assoc, List.append_eq] at hI ⊢
   try dsimp only at hI ⊢
   obtain ⟨hk, hpre⟩ := hI
   by_cases hlt : k < sn
   ·obtain ⟨b, off, C, T, fr, rfl, hb, hfit, hc⟩ := hA.get (show k < x.txns.length by omega)
    obtain ⟨bb, off2, C2, T2, fr2, rfl, hb2, hfit2, hc2⟩ := hB.get (show k < y.txns.length by omega)
    have ht1 := map_take_suc Tx.p x.txns k (by omega)
    have ht2 := map_take_suc Tx.p y.txns k (by omega)
    have hf : x.txns.map Tx.p = y.txns.map Tx.p → (x.txns[k]'(by omega)).p = (y.txns[k]'(by omega)).p := fun e => by
     have g1 : (x.txns.map Tx.p)[k]? = some (x.txns[k]'(by omega)).p := by simp [show k < x.txns.length by omega]
     have g2 : (y.txns.map Tx.p)[k]? = some (y.txns[k]'(by omega)).p := by simp [show k < y.txns.length by omega]
     rw [e, g2] at g1
     exact (Option.some.inj g1).symm
    have i1 := hT _ (List.getElem_mem (show k < x.txns.length by omega))
    have i2 := hU _ (List.getElem_mem (show k < y.txns.length by omega))
    generalize x.txns[k]'(by omega) = xi at *
    generalize y.txns[k]'(by omega) = yi at *
    have q := sameTx18_spec ρ xi yi i1 i2
    by_cases c : xi.p = yi.p
    ·rw [decide_eq_true c] at q
     repeat' (first | refine zV ?_ | intro _)
     refine Zu (Zk _ _ _) Zp ?_
     all_goals (refine ZN 0 ?_; refine ZQ 1 ?_; refine Zx 2 ?_; refine rIa 3 ?_; refine ZQ 4 ?_; refine ZN 5 ?_; refine ZQ 6 ?_; refine Zx 7 ?_; refine rIa 8 ?_; refine ZQ 9 ?_)
     all_goals (refine Zj (i := 10) ?_; ((try refine Zh ?_); (first | (refine Zc (.func 113) ?_; refine qC rfl rfl (q) ?_; rintro v ρ' L' hle ⟨rfl, rfl, rfl⟩ <;> (try simp only [kM, kN, kO])) | (refine ZF ?_; try intro _)) <;> ((try simp only [kM, kN, kO]); refine Zf ?_; refine Zi ?_)))
     all_goals (refine Zz ?_; refine rUn 11 ?_; refine Zv ?_)
     all_goals (repeat' (first | refine zV ?_ | intro _))
     all_goals refine Zg (k + 1) (⟨hlt, by rw [ht1, ht2, hpre, c]⟩) Ze Ze rfl tk inferInstance (by first | omega | (dsimp only; omega))
    ·rw [decide_eq_false c] at q
     rw [decide_eq_false (fun e => c (hf e.2))]
     repeat' (first | refine zV ?_ | intro _)
     refine Zu (Zk _ _ _) Zp ?_
     all_goals (refine ZN 0 ?_; refine ZQ 1 ?_; refine Zx 2 ?_; refine rIa 3 ?_; refine ZQ 4 ?_; refine ZN 5 ?_; refine ZQ 6 ?_; refine Zx 7 ?_; refine rIa 8 ?_; refine ZQ 9 ?_)
     all_goals (refine Zj (i := 10) ?_; ((try refine Zh ?_); (first | (refine Zc (.func 113) ?_; refine qC rfl rfl (q) ?_; rintro v ρ' L' hle ⟨rfl, rfl, rfl⟩ <;> (try simp only [kM, kN, kO])) | (refine ZF ?_; try intro _)) <;> ((try simp only [kM, kN, kO]); refine Zf ?_; refine Zi ?_)))
     all_goals (refine Zz ?_; refine rUn 11 ?_; refine Zv ?_)
     all_goals (repeat' (first | refine zV ?_ | intro _))
     all_goals exact qE (L' := []) ⟨rfl, rfl, rfl⟩
   ·have hS : x.txns.map Tx.p = y.txns.map Tx.p := by
     rwa [List.take_of_length_le (by simp; omega), List.take_of_length_le (by simp; omega)] at hpre
    rw [decide_eq_true ⟨e, hS⟩]
    repeat' (first | refine zV ?_ | intro _)
    exact qE (L' := []) ⟨rfl, rfl, rfl⟩
  ·rw [decide_eq_false (fun e => hn (by have := congrArg List.length e.2; simp only [List.length_map] at this; omega))]
   repeat' (first | refine zV ?_ | (refine YL ?_; refine ZB rfl rfl (fun hb => ?_) (fun hb => ?_) <;> (try simp only [decide_eq_true_eq, decide_eq_false_iff_not, Bool.not_eq_true, Bool.not_eq_false, beq_iff_eq, bne_iff_ne, ne_eq, decide_eq_decide, Bool.not_eq_eq_eq_not, Bool.not_true, Bool.not_false, beq_eq_false_iff_ne, bne_eq_false_iff_eq, Bool.and_eq_true, Bool.or_eq_true, Bool.and_eq_false_imp, Bool.or_eq_false_iff, bq2, bqt, bqf] at hb)) | (refine ZS ?_; refine ZM rfl (fun hb => ?_) (fun hb => ?_) <;> (try simp only [decide_eq_true_eq, decide_eq_false_iff_not, Bool.not_eq_true, Bool.not_eq_false, beq_iff_eq, bne_iff_ne, ne_eq, decide_eq_decide, Bool.not_eq_eq_eq_not, Bool.not_true, Bool.not_false, beq_eq_false_iff_ne, bne_eq_false_iff_eq, Bool.and_eq_true, Bool.or_eq_true, Bool.and_eq_false_imp, Bool.or_eq_false_iff, bq2, bqt, bqf] at hb)) | intro _)
   all_goals first | (exfalso; omega) | skip
   all_goals (refine qF (L' := []) ?_; exact ⟨Ym (by (try simp [*]); first | done | omega | (intros; omega) | (constructor <;> intros <;> (try simp_all) <;> omega)), rfl, rfl⟩)
 ·rw [decide_eq_false (fun h => e h.1)]
  repeat' (first | refine zV ?_ | (refine YL ?_; refine ZB rfl rfl (fun hb => ?_) (fun hb => ?_) <;> (try simp only [decide_eq_true_eq, decide_eq_false_iff_not, Bool.not_eq_true, Bool.not_eq_false, beq_iff_eq, bne_iff_ne, ne_eq, decide_eq_decide, Bool.not_eq_eq_eq_not, Bool.not_true, Bool.not_false, beq_eq_false_iff_ne, bne_eq_false_iff_eq, Bool.and_eq_true, Bool.or_eq_true, Bool.and_eq_false_imp, Bool.or_eq_false_iff, bq2, bqt, bqf] at hb)) | (refine ZS ?_; refine ZM rfl (fun hb => ?_) (fun hb => ?_) <;> (try simp only [decide_eq_true_eq, decide_eq_false_iff_not, Bool.not_eq_true, Bool.not_eq_false, beq_iff_eq, bne_iff_ne, ne_eq, decide_eq_decide, Bool.not_eq_eq_eq_not, Bool.not_true, Bool.not_false, beq_eq_false_iff_ne, bne_eq_false_iff_eq, Bool.and_eq_true, Bool.or_eq_true, Bool.and_eq_false_imp, Bool.or_eq_false_iff, bq2, bqt, bqf] at hb)) | intro _)
  all_goals first | (exfalso; omega) | skip
  all_goals (refine qF (L' := []) ?_; exact ⟨Ym (by (try simp [*]); first | done | omega | (intros; omega) | (constructor <;> intros <;> (try simp_all) <;> omega)), rfl, rfl⟩)
def imB (two : Bool) (x : Im) : List UInt8 := tB x.page :: ((if two then Xf x.b else []) ++ Xf x.a)
def XB (s : Stp) : List UInt8 := tB s.kind :: (if s.kind = 2 ∨ s.kind = 3 then Yf s.row else tB s.row.t :: (be 2 s.row.id ++ (if s.kind = 1 then be 8 (vN s.by') else [])))
def XT (t : CkT) : List UInt8 := be 4 t.txn.toNat ++ (be 8 t.first ++ (be 8 t.last ++ (be 8 t.undo ++ [tB t.state])))
def Wq (p : Yq) : List UInt8 := tB p.page :: be 8 p.since
def XJ {α : Type} (f : α → List UInt8) (l : List α) : List UInt8 := UInt8.ofNat l.length :: l.flatMap f
def recHB (r : Rc) : List UInt8 := tB r.kind :: (be 8 r.lsn ++ (be 4 r.txn.toNat ++ be 8 r.prev))
def imsB (r : Rc) : List UInt8 := XJ (imB (decide (r.kind = 2))) r.ims
def recTB (r : Rc) : List UInt8 :=
 if r.kind = 2 then imsB r else if r.kind = 3 then be 8 r.next else if r.kind = 4 then be 8 r.next ++ XJ XB r.steps else if r.kind = 5 then be 8 r.next ++ imsB r
 else if r.kind = 9 then be 4 r.nextTxn.toNat ++ (XJ XT r.txns ++ XJ Wq r.dirty) else []
def XA (r : Rc) : List UInt8 := recHB r ++ recTB r
structure LayOk (r : Rc) : Prop where
 kind : 0 ≤ r.kind ∧ r.kind < 256
 lsn : r.lsn < 18446744073709551616
 prev : r.prev < 18446744073709551616
 next : r.next < 18446744073709551616
 txn : 0 ≤ r.txn ∧ r.txn < 4294967296
 nextTxn : 0 ≤ r.nextTxn ∧ r.nextTxn < 4294967296
 il : r.ims.length ≤ 16
 im : ∀ x ∈ r.ims, (0 ≤ x.page ∧ x.page < 64) ∧ YE x.a = true ∧ YE x.b = true
 sl : r.steps.length ≤ 2
 st : ∀ s ∈ r.steps, YM s = true
 tl : r.txns.length ≤ 8
 tx : ∀ t ∈ r.txns, (0 ≤ t.txn ∧ t.txn < 4294967296) ∧ t.first < 18446744073709551616 ∧ t.last < 18446744073709551616 ∧ t.undo < 18446744073709551616 ∧ 0 ≤ t.state ∧ t.state < 256
 dl : r.dirty.length ≤ 64
 di : ∀ p ∈ r.dirty, (0 ≤ p.page ∧ p.page < 64) ∧ p.since < 18446744073709551616
abbrev wrC (wb : Nat) (v : RV) (r : Rc) (w : Value) : List (Nat × Obj) := [(wb, .cells ⟨[.int .i64 r.kind, .int .u64 r.lsn, .int .i64 r.txn, .int .u64 r.prev, .int .u64 r.next, .slice v.i.a v.i.n v.i.c, .slice v.s.a v.s.n v.s.c, .int .i64 r.nextTxn, .slice v.t.a v.t.n v.t.c, .slice v.d.a v.d.n v.d.c, w]⟩ 233 (0, 0))]
abbrev Wo (w : Value) (l : List UInt8) (sp : List Value) : Prop := OwnS w l.length (l.map ZR) sp 1
abbrev YY (w : Value) (l : List UInt8) (sp : List Value) : List (Nat × Obj) := ZG w (l.map ZR) sp 5
abbrev WrP (ρ : Hp) (wb : Nat) (v : RV) (r : Rc) (l : List UInt8) (z : Value) (ρ' : Hp) (L' : List (List (Nat × Obj))) : Prop :=
 z = .tuple ⟨[]⟩ ∧ ρ.le ρ' ∧ ∃ w' sp', Wo w' l sp' ∧ L' = [YY w' l sp', wrC wb v r w']
theorem put32_spec (ρ : Hp) (a : Option Addr) (n c : Nat) (l : List UInt8) (h : SIn ρ ZR a n l) (x : Nat) (hx : x < 4294967296) (hn : n ≤ 1000000) :
  Spec Tryz.prog 212 [.slice a n c, .int .u32 x] ρ [] (fun v ρ' L' => ρ' = ρ ∧ ∃ sp, OwnS v (n + 4) ((l ++ be 4 x).map ZR) sp 1 ∧ L' = [ZG v ((l ++ be 4 x).map ZR) sp 5]) := by
 have hw : IntKind.u64.wrap (x : Int) = x := WO (by simp only [lo, hi]; omega)
 have hs := stand_spec ρ a n c l h x 4 (by omega) (by omega) (by omega) hn
 refine Zd Tryz.func212 rfl rfl rfl fun u R => ?_
 simp only [Zo, List.cons_append, List.nil_append]
 repeat' (first | (refine iCv ?_; refine tl_y (y_conv rfl) rfl rfl ?_; rw [hw]) | (refine Zc (.func 220) ?_; refine qC rfl rfl (hs) ?_; rintro v ρ' L' hle ⟨rfl, sp, hown, rfl⟩ <;> (try simp only [kM, kN, kO])) | refine zW ?_ | intro _)
 exact qE ⟨rfl, sp, hown, rfl⟩
theorem Xo {α : Type} (f : α → List UInt8) (l : List α) : ∀ k (h : k < l.length), (l.take (k + 1)).flatMap f = (l.take k).flatMap f ++ f (l[k]'h) := fun k h => YO f l k h
theorem wbytes_spec (ρ : Hp) (wb : Nat) (v : RV) (r : Rc) (w : Value) (l : List UInt8) (sp : List Value) (hown : Wo w l sp) (hn : l.length ≤ 100000) (a : Option Addr) (m c : Nat) (ns : List Int) (h : SIn ρ (fun x : Int => Value.int .i64 x) a m ns) (hb : ∀ x ∈ ns, 0 ≤ x ∧ x < 256) (hm : m ≤ 10) :
  Spec Tryz.prog 192 [.pointer (some ⟨wb, 0, none⟩), .slice a m c] ρ [YY w l sp, wrC wb v r w] (WrP ρ wb v r (l ++ ns.map tB)) := by
 have hl := h.len
 refine Zd Tryz.func192 rfl rfl rfl fun u R => ?_
 simp only [Zo, List.cons_append, List.nil_append]
 repeat' (first | refine zW ?_ | intro _)
 rw [show YY w l sp = YY w (l ++ (ns.take 0).map tB) sp by simp]
 refine Zq [(0, _), (6, _), (7, _)] (fun (ζ : (Nat) × (Value) × (List Value)) => [(8, .int .i64 ζ.1)]) (fun (ζ : (Nat) × (Value) × (List Value)) => ρ) (fun (ζ : (Nat) × (Value) × (List Value)) => [YY ζ.2.1 (l ++ (ns.take ζ.1).map tB) ζ.2.2, wrC wb v r ζ.2.1]) (fun (ζ : (Nat) × (Value) × (List Value)) => ζ.1 ≤ m ∧ Wo ζ.2.1 (l ++ (ns.take ζ.1).map tB) ζ.2.2) (fun (ζ : (Nat) × (Value) × (List Value)) => m - ζ.1) ((0, w, sp)) (⟨Nat.zero_le _, by simpa using hown⟩) Ze Ze rfl tk ?_
 rintro ⟨k, w1, sp1⟩ hI
 try simp only [List.cons_append, List.nil_append, List.append_assoc, List.append_eq] at hI ⊢
 try dsimp only at hI ⊢
 obtain ⟨hk, hown1⟩ := hI
 by_cases hlt : k < m
 ·obtain ⟨b, off, C, T, fr, e1, hbb, hcc⟩ := h.get (show k < ns.length by omega)
  have hts := List.take_succ_eq_append_getElem (show k < ns.length by omega)
  have hx := hb _ (List.getElem_mem (show k < ns.length by omega))
  generalize ns[k]'(by omega) = x at *
  have hxl : (l ++ (ns.take k).map tB).length ≤ 100010 := by simp; omega
  have hmm : (l ++ (ns.take k).map tB).map ZR ++ [ZR (tB x)] = (l ++ (ns.take (k + 1)).map tB).map ZR := by rw [hts]; simp
  have hll : (l ++ (ns.take k).map tB).length + 1 = (l ++ (ns.take (k + 1)).map tB).length := by rw [hts]; simp; omega
  have hxB := tB_eq hx.1 hx.2
  generalize hX : l ++ (ns.take k).map tB = X at *
  obtain ⟨va, vc, rfl, _⟩ := hown1.slice
  rw [e1]
  repeat' (first | (refine Zl rfl rfl rfl rfl (by simp) rfl rfl (fun _ => ?_); simp only [hxB]) | (refine ZZ (ys := [ZR (tB x)]) (m := 1) rfl rfl hown1 (hR := by infer_instance) SrcV.lit rfl rfl (by decide) rfl (by omega) (by omega) rfl (fun v' sp' hown' => ?_); rw [hmm] at hown' ⊢; rw [hll] at hown'; obtain ⟨va', vc', rfl, _⟩ := hown'.slice) | refine zW ?_ | intro _)
  rw [← e1]
  refine Zg (k + 1, _, sp') (⟨hlt, hown'⟩) Ze Ze rfl tk inferInstance (by first | omega | (dsimp only; omega))
 ·have hk2 : k = m := by omega
  rw [show ns.take k = ns by rw [hk2, ← hl, List.take_length]] at hown1 ⊢
  repeat' (first | refine zW ?_ | intro _)
  exact qE ⟨rfl, Hp.le_refl _, w1, sp1, hown1, rfl⟩
theorem wlongs_spec (ρ : Hp) (wb : Nat) (v : RV) (r : Rc) (w : Value) (l : List UInt8) (sp : List Value) (hown : Wo w l sp) (hn : l.length ≤ 100000) (a : Option Addr) (m c : Nat) (ns : List Nat) (h : SIn ρ (fun x : Nat => Value.int .u64 (x : Int)) a m ns) (hb : ∀ x ∈ ns, x < 18446744073709551616) (hm : m ≤ 10) :
  Spec Tryz.prog 193 [.pointer (some ⟨wb, 0, none⟩), .slice a m c] ρ [YY w l sp, wrC wb v r w] (WrP ρ wb v r (l ++ ns.flatMap (be 8))) := by
 have hl := h.len
 refine Zd Tryz.func193 rfl rfl rfl fun u R => ?_
 simp only [Zo, List.cons_append, List.nil_append]
 repeat' (first | refine zW ?_ | intro _)
 rw [show YY w l sp = YY w (l ++ (ns.take 0).flatMap (be 8)) sp by simp]
 refine Zq [(0, _), (6, _), (7, _)] (fun (ζ : (Nat) × (Hp) × (Value) × (List Value)) => [(8, .int .i64 ζ.1)]) (fun (ζ : (Nat) × (Hp) × (Value) × (List Value)) => ζ.2.1) (fun (ζ : (Nat) × (Hp) × (Value) × (List Value)) => [YY ζ.2.2.1 (l ++ (ns.take ζ.1).flatMap (be 8)) ζ.2.2.2, wrC wb v r ζ.2.2.1]) (fun (ζ : (Nat) × (Hp) × (Value) × (List Value)) => ζ.1 ≤ m ∧ ρ.le ζ.2.1 ∧ Wo ζ.2.2.1 (l ++ (ns.take ζ.1).flatMap (be 8)) ζ.2.2.2) (fun (ζ : (Nat) × (Hp) × (Value) × (List Value)) => m - ζ.1) ((0, ρ, w, sp)) (⟨Nat.zero_le _, Hp.le_refl _, by simpa using hown⟩) Ze Ze rfl tk ?_
 rintro ⟨k, ρ1, w1, sp1⟩ hI
 try simp only [List.cons_append, List.nil_append, List.append_assoc, List.append_eq] at hI ⊢
 try dsimp only at hI ⊢
 obtain ⟨hk, hle1, hown1⟩ := hI
 by_cases hlt : k < m
 ·obtain ⟨b, off, C, T, fr, e1, hbb, hcc⟩ := (h.mono hle1).get (show k < ns.length by omega)
  have hts := Xo (be 8) ns k (by omega)
  have hx := hb _ (List.getElem_mem (show k < ns.length by omega))
  have hfl := Yd (be 8) 8 (ns.take k) (fun x _ => Nat.le_of_eq (Zm 8 x))
  have htl : (ns.take k).length ≤ 10 := by simp; omega
  generalize ns[k]'(by omega) = x at *
  have hxl : (l ++ (ns.take k).flatMap (be 8)).length ≤ 100080 := by simp only [List.length_append]; omega
  have hmm : l ++ (ns.take k).flatMap (be 8) ++ be 8 x = l ++ (ns.take (k + 1)).flatMap (be 8) := by rw [hts]; simp
  have hll : (l ++ (ns.take k).flatMap (be 8)).length + 8 = (l ++ (ns.take (k + 1)).flatMap (be 8)).length := by rw [hts]; simp [Zm]; omega
  generalize hX : l ++ (ns.take k).flatMap (be 8) = X at *
  obtain ⟨va, vc, rfl, _⟩ := hown1.slice
  rw [e1]
  repeat' (first | (refine Zc (.func 211) ?_; refine Yb (ZG (.slice va X.length vc) (X.map ZR) sp1 5) (h := by repeat (first | exact ZD | apply ZA)) (fun ρ2 hle2 hfz => ?_); obtain ⟨a1, c1, f1, hc1, hs1⟩ := hown1.sIn hfz; cases f1; refine qC rfl rfl (put64_spec _ va _ vc _ hs1 x hx (by omega)) ?_; rintro v' ρ3 L3 hle3 ⟨rfl, sp3, hown3, rfl⟩; simp only [List.cons_append, List.nil_append]; rw [hmm, hll] at hown3; rw [hmm]; obtain ⟨va', vc', rfl, _⟩ := hown3.slice) | refine zW ?_ | intro _)
  rw [← e1]
  refine Zg (k + 1, ρ3, _, sp3) (⟨hlt, Hp.le_trans hle1 hle2, hown3⟩) Ze Ze rfl tk inferInstance (by first | omega | (dsimp only; omega))
 ·have hk2 : k = m := by omega
  rw [show ns.take k = ns by rw [hk2, ← hl, List.take_length]] at hown1 ⊢
  repeat' (first | refine zW ?_ | intro _)
  exact qE ⟨rfl, hle1, w1, sp1, hown1, rfl⟩
theorem wtxn_spec (ρ : Hp) (wb : Nat) (v : RV) (r : Rc) (w : Value) (l : List UInt8) (sp : List Value) (hown : Wo w l sp) (hn : l.length ≤ 100000) (x : Int) (h0 : 0 ≤ x ∧ x < 4294967296) :
  Spec Tryz.prog 194 [.pointer (some ⟨wb, 0, none⟩), .int .i64 x] ρ [YY w l sp, wrC wb v r w] (WrP ρ wb v r (l ++ be 4 x.toNat)) := by
 have hll : l.length + 4 = (l ++ be 4 x.toNat).length := by simp [Zm]
 obtain ⟨va, vc, rfl, _⟩ := hown.slice
 obtain ⟨y, rfl⟩ : ∃ y : Nat, x = y := ⟨x.toNat, by omega⟩
 simp only [Int.toNat_natCast] at hll ⊢
 refine Zd Tryz.func194 rfl rfl rfl fun u R => ?_
 simp only [Zo, List.cons_append, List.nil_append]
 repeat' (first | (refine Zc (.func 212) ?_; refine Yb (ZG (.slice va l.length vc) (l.map ZR) sp 5) (h := by repeat (first | exact ZD | apply ZA)) (fun ρ2 hle2 hfz => ?_); obtain ⟨a1, c1, f1, hc1, hs1⟩ := hown.sIn hfz; cases f1; refine qC rfl rfl (put32_spec _ va _ vc _ hs1 y (by omega) (by omega)) ?_; rintro v' ρ3 L3 hle3 ⟨rfl, sp3, hown3, rfl⟩; simp only [List.cons_append, List.nil_append]; rw [hll] at hown3; obtain ⟨va', vc', rfl, _⟩ := hown3.slice) | refine zW ?_ | intro _)
 exact qE ⟨rfl, hle2, _, sp3, hown3, rfl⟩
theorem wcontent_spec (ρ : Hp) (wb : Nat) (v : RV) (r : Rc) (w : Value) (l : List UInt8) (sp : List Value) (hown : Wo w l sp) (hn : l.length ≤ 100000) (cv : CV) (c : Cont) (h : CI ρ cv c) (hok : YE c = true) :
  Spec Tryz.prog 213 [.pointer (some ⟨wb, 0, none⟩), .agg ⟨contV c.kind cv⟩] ρ [YY w l sp, wrC wb v r w] (WrP ρ wb v r (l ++ Xf c)) := by
 have hce := contE_spec ρ cv c h.cin (fun r hr => (h.row r hr).id) h.kid
 rw [if_pos hok, if_pos hok] at hce
 have h82 := Wf hok
 obtain ⟨va, vc, rfl, _⟩ := hown.slice
 refine Zd Tryz.func213 rfl rfl rfl fun u R => ?_
 simp only [Zo, List.cons_append, List.nil_append]
 repeat' (first | (refine Zc (.func 221) ?_; refine qC rfl rfl (hce) ?_; rintro v ρ' L' hle ⟨hle1, a1, n1, c1, rfl, hc1, hs1, rfl⟩ <;> (try simp only [kM, kN, kO])) | (have hn1 := hs1.len; refine ZZ (ys := (Xf c).map ZR) (m := n1) (sz := 1) rfl rfl hown (hR := by infer_instance) (SIn.srcV hs1) (by simpa using hs1.len) (u8c_one _) (by decide) rfl (by omega) (by omega) rfl (fun v' sp' hown' => ?_); rw [← List.map_append] at hown' ⊢; rw [← hs1.len, ← List.length_append] at hown'; obtain ⟨va', vc', rfl, _⟩ := hown'.slice) | refine zW ?_ | intro _)
 exact qE ⟨rfl, hle1, _, sp', hown', rfl⟩
theorem sIn_lit {α : Type} {g : α → Value} {ρ : Hp} {b : Nat} {l : List α} {T : TypeId} {fr : Nat × Nat} (h : ρ b = some (.cells ⟨l.map g⟩ T fr)) : SIn ρ g (some ⟨b, 0, none⟩) l.length l :=
 ⟨rfl, .inr ⟨b, 0, _, T, fr, rfl, h, by rw [List.drop_zero, List.take_of_length_le (by simp)]⟩⟩
abbrev iV (x : Int) : Value := .int .i64 x
abbrev lV (x : Nat) : Value := .int .u64 (x : Int)
theorem YR (ρ : Hp) (wb : Nat) (v : RV) (r : Rc) (w : Value) (l : List UInt8) (sp : List Value) (hown : Wo w l sp) (hn : l.length ≤ 100000) (b : Nat) (x : Int) {T : TypeId} {fr : Nat × Nat} (h : ρ b = some (.cells ⟨[.int .i64 x]⟩ T fr)) (hb : 0 ≤ x ∧ x < 256) :
  Spec Tryz.prog 192 [.pointer (some ⟨wb, 0, none⟩), .slice (some ⟨b, 0, none⟩) 1 1] ρ [YY w l sp, wrC wb v r w] (WrP ρ wb v r (l ++ [tB x])) :=
 wbytes_spec ρ wb v r w l sp hown hn _ 1 1 [x] (sIn_lit (l := [x]) (g := iV) h) (fun y hy => by rw [List.mem_singleton.1 hy]; exact hb) (by decide)
theorem wlong_spec (ρ : Hp) (wb : Nat) (v : RV) (r : Rc) (w : Value) (l : List UInt8) (sp : List Value) (hown : Wo w l sp) (hn : l.length ≤ 100000) (b : Nat) (x : Nat) {T : TypeId} {fr : Nat × Nat} (h : ρ b = some (.cells ⟨[.int .u64 (x : Int)]⟩ T fr)) (hb : x < 18446744073709551616) :
  Spec Tryz.prog 193 [.pointer (some ⟨wb, 0, none⟩), .slice (some ⟨b, 0, none⟩) 1 1] ρ [YY w l sp, wrC wb v r w] (WrP ρ wb v r (l ++ be 8 x)) := by
 have := wlongs_spec ρ wb v r w l sp hown hn _ 1 1 [x] (sIn_lit (l := [x]) (g := lV) h) (fun y hy => by rw [List.mem_singleton.1 hy]; exact hb) (by decide)
 simpa only [List.flatMap_cons, List.flatMap_nil, List.append_nil] using this
theorem wlong3_spec (ρ : Hp) (wb : Nat) (v : RV) (r : Rc) (w : Value) (l : List UInt8) (sp : List Value) (hown : Wo w l sp) (hn : l.length ≤ 100000) (b : Nat) (x y z : Nat) {T : TypeId} {fr : Nat × Nat} (h : ρ b = some (.cells ⟨[.int .u64 (x : Int), .int .u64 (y : Int), .int .u64 (z : Int)]⟩ T fr)) (hx : x < 18446744073709551616) (hy : y < 18446744073709551616) (hz : z < 18446744073709551616) :
  Spec Tryz.prog 193 [.pointer (some ⟨wb, 0, none⟩), .slice (some ⟨b, 0, none⟩) 3 3] ρ [YY w l sp, wrC wb v r w] (WrP ρ wb v r (l ++ (be 8 x ++ (be 8 y ++ be 8 z)))) := by
 have := wlongs_spec ρ wb v r w l sp hown hn _ 3 3 [x, y, z] (sIn_lit (l := [x, y, z]) (g := lV) h) (fun q hq => by simp at hq; rcases hq with rfl | rfl | rfl <;> assumption) (by decide)
 simpa only [List.flatMap_cons, List.flatMap_nil, List.append_nil] using this
theorem wnested_spec (ρ : Hp) (wb : Nat) (v : RV) (r : Rc) (w : Value) (l : List UInt8) (sp : List Value) (hown : Wo w l sp) (hn : l.length ≤ 90000) (h0 : r.next < 18446744073709551616) :
  Spec Tryz.prog 196 [.pointer (some ⟨wb, 0, none⟩)] ρ [YY w l sp, wrC wb v r w] (WrP ρ wb v r (l ++ be 8 r.next)) := by
 have hρ := Hp.le_refl ρ
 refine Zd Tryz.func196 rfl rfl rfl fun u R => ?_
 simp only [Zo, List.cons_append, List.nil_append]
 repeat' (first | (refine Zl rfl rfl rfl rfl (by simp) rfl rfl (fun bs => ?_); refine Yb _ (h := Rem.here) (fun ρz hlz hfz => ?_); have hbs := hfz _ (List.mem_singleton.2 rfl); clear hfz; have hρ := Hp.le_trans hρ hlz; clear hlz; (try simp only [List.nil_append])) | (refine Zc (.func 193) ?_; refine qC rfl rfl (wlong_spec _ wb v r w l sp hown (by omega) _ r.next hbs h0) ?_; rintro v ρ' L' hle ⟨rfl, hl1, w1, sp1, hown, rfl⟩ <;> (try simp only [kM, kN, kO])) | refine zW ?_ | intro _)
 exact qE ⟨rfl, Hp.le_trans hρ hl1, w1, sp1, hown, rfl⟩
theorem imB_len {two : Bool} {x : Im} (ha : YE x.a = true) (hb : YE x.b = true) : (imB two x).length ≤ 165 := by
 have h1 := Wf ha
 have h2 := Wf hb
 cases two <;> simp [imB] <;> omega
theorem wimages_spec (ρ : Hp) (wb : Nat) (v : RV) (r : Rc) (w : Value) (l : List UInt8) (sp : List Value) (hown : Wo w l sp) (hn : l.length ≤ 80000) (h : RcIn ρ v r) (hL : LayOk r) :
  Spec Tryz.prog 195 [.pointer (some ⟨wb, 0, none⟩)] ρ [YY w l sp, wrC wb v r w] (WrP ρ wb v r (l ++ imsB r)) := by
 have hρ := Hp.le_refl ρ
 have hA := h.i.at'
 have hl := hA.len
 have hil := hL.il
 refine Zd Tryz.func195 rfl rfl rfl fun u R => ?_
 simp only [Zo, List.cons_append, List.nil_append]
 repeat' (first | (refine Zl rfl rfl rfl rfl (by simp) rfl rfl (fun bs => ?_); refine Yb _ (h := Rem.here) (fun ρz hlz hfz => ?_); have hbs := hfz _ (List.mem_singleton.2 rfl); clear hfz; have hρ := Hp.le_trans hρ hlz; clear hlz; (try simp only [List.nil_append])) | (refine Zc (.func 192) ?_; refine qC rfl rfl (YR _ wb v r w l sp hown (by omega) _ (v.i.n : Int) hbs (by omega)) ?_; rintro v ρ' L' hle ⟨rfl, hl1, w1, sp1, hown, rfl⟩ <;> (try simp only [kM, kN, kO]); have hρ := Hp.le_trans hρ hl1; clear hl1) | refine zW ?_ | intro _)
 obtain ⟨B, hB⟩ : ∃ B, l ++ [tB (v.i.n : Int)] = B := ⟨_, rfl⟩
 rw [hB] at hown ⊢
 have hBl : B.length ≤ 80001 := by rw [← hB]; simp; omega
 have hfin : B ++ r.ims.flatMap (imB (decide (r.kind = 2))) = l ++ imsB r := by rw [← hB]; simp [imsB, XJ, hl, tB]
 generalize hf : imB (decide (r.kind = 2)) = f at *
 rw [show YY w1 B sp1 = YY w1 (B ++ (r.ims.take 0).flatMap f) sp1 by simp]
 refine Zq [(0, _), (17, _), (18, _)] (fun (ζ : (Nat) × (Hp) × (Value) × (List Value)) => [(19, .int .i64 ζ.1)]) (fun (ζ : (Nat) × (Hp) × (Value) × (List Value)) => ζ.2.1) (fun (ζ : (Nat) × (Hp) × (Value) × (List Value)) => [YY ζ.2.2.1 (B ++ (r.ims.take ζ.1).flatMap f) ζ.2.2.2, wrC wb v r ζ.2.2.1]) (fun (ζ : (Nat) × (Hp) × (Value) × (List Value)) => ζ.1 ≤ v.i.n ∧ ρ.le ζ.2.1 ∧ Wo ζ.2.2.1 (B ++ (r.ims.take ζ.1).flatMap f) ζ.2.2.2) (fun (ζ : (Nat) × (Hp) × (Value) × (List Value)) => v.i.n - ζ.1) ((0, ρ', w1, sp1)) (⟨Nat.zero_le _, hρ, by simpa using hown⟩) Ze Ze rfl tk ?_
 rintro ⟨k, ρ1, w2, sp2⟩ hI
 try simp only [List.cons_append, List.nil_append, List.append_assoc, List.append_eq] at hI ⊢
 try dsimp only at hI ⊢
 obtain ⟨hk, hle1, hown⟩ := hI
 clear hρ
 by_cases hlt : k < v.i.n
 ·obtain ⟨b, off, C, T, fr, e1, hbb, hfit, hcc⟩ := (hA.mono hle1).get (show k < r.ims.length by omega)
  have hts := Xo f r.ims k (by omega)
  have hmem := List.getElem_mem (show k < r.ims.length by omega)
  have hin := (h.im _ hmem).mono hle1
  obtain ⟨hp, ha, hb⟩ := hL.im _ hmem
  have hfl := Yd f 165 (r.ims.take k) (fun x hx => by
   rw [← hf]; exact imB_len (hL.im x (List.mem_of_mem_take hx)).2.1 (hL.im x (List.mem_of_mem_take hx)).2.2)
  have htl : (r.ims.take k).length ≤ 16 := by simp; omega
  generalize r.ims[k]'(by omega) = x at *
  have hxl : (B ++ (r.ims.take k).flatMap f).length ≤ 83000 := by simp only [List.length_append]; omega
  have hmm : B ++ (r.ims.take k).flatMap f ++ f x = B ++ (r.ims.take (k + 1)).flatMap f := by rw [hts]; simp
  generalize hX : B ++ (r.ims.take k).flatMap f = X at *
  have hρ := Hp.le_refl ρ1
  have h82 := Wf hb
  have h83 := Wf ha
  rw [e1]
  by_cases h2 : r.kind = 2
  ·have hfx : f x = tB x.page :: (Xf x.b ++ Xf x.a) := by rw [← hf, h2]; rfl
   repeat' (first | (refine Zl rfl rfl rfl rfl (by simp) rfl rfl (fun bs => ?_); refine Yb _ (h := Rem.here) (fun ρz hlz hfz => ?_); have hbs := hfz _ (List.mem_singleton.2 rfl); clear hfz; have hρ := Hp.le_trans hρ hlz; clear hlz; (try simp only [List.nil_append])) | (refine Zc (.func 192) ?_; refine qC rfl rfl (YR _ wb v r w2 X sp2 hown (by omega) _ x.page hbs (by omega)) ?_; rintro v ρ' L' hle ⟨rfl, hl1, w3, sp3, hown, rfl⟩ <;> (try simp only [kM, kN, kO]); have hρ := Hp.le_trans hρ hl1; clear hl1) | (refine Zc (.func 213) ?_; refine qC rfl rfl ((wcontent_spec _ wb v r w3 _ sp3 hown (by (try simp only [List.length_append, List.length_cons, List.length_nil, List.length_map, Zm]) <;> omega) x.bv x.b (hin.b.mono hρ) hb)) ?_; rintro v ρ' L' hle ⟨rfl, hl1, w4, sp4, hown, rfl⟩ <;> (try simp only [kM, kN, kO]); have hρ := Hp.le_trans hρ hl1; clear hl1) | (refine Zc (.func 213) ?_; refine qC rfl rfl ((wcontent_spec _ wb v r w4 _ sp4 hown (by (try simp only [List.length_append, List.length_cons, List.length_nil, List.length_map, Zm]) <;> omega) x.av x.a (hin.a.mono hρ) ha)) ?_; rintro v ρ' L' hle ⟨rfl, hl1, w5, sp5, hown, rfl⟩ <;> (try simp only [kM, kN, kO]); have hρ := Hp.le_trans hρ hl1; clear hl1) | refine zW ?_ | intro _)
   rw [← e1]
   have e2 : X ++ [tB x.page] ++ Xf x.b ++ Xf x.a = B ++ (r.ims.take (k + 1)).flatMap f := by rw [← hmm, hfx]; simp
   rw [e2] at hown ⊢
   refine Zg (k + 1, _, w5, sp5) (⟨hlt, Hp.le_trans hle1 hρ, hown⟩) Ze Ze rfl tk inferInstance (by first | omega | (dsimp only; omega))
  ·have hfx : f x = tB x.page :: Xf x.a := by rw [← hf, decide_eq_false h2]; rfl
   repeat' (first | (refine Zl rfl rfl rfl rfl (by simp) rfl rfl (fun bs => ?_); refine Yb _ (h := Rem.here) (fun ρz hlz hfz => ?_); have hbs := hfz _ (List.mem_singleton.2 rfl); clear hfz; have hρ := Hp.le_trans hρ hlz; clear hlz; (try simp only [List.nil_append])) | (refine Zc (.func 192) ?_; refine qC rfl rfl (YR _ wb v r w2 X sp2 hown (by omega) _ x.page hbs (by omega)) ?_; rintro v ρ' L' hle ⟨rfl, hl1, w3, sp3, hown, rfl⟩ <;> (try simp only [kM, kN, kO]); have hρ := Hp.le_trans hρ hl1; clear hl1) | (refine Zc (.func 213) ?_; refine qC rfl rfl ((wcontent_spec _ wb v r w3 _ sp3 hown (by (try simp only [List.length_append, List.length_cons, List.length_nil, List.length_map, Zm]) <;> omega) x.av x.a (hin.a.mono hρ) ha)) ?_; rintro v ρ' L' hle ⟨rfl, hl1, w5, sp5, hown, rfl⟩ <;> (try simp only [kM, kN, kO]); have hρ := Hp.le_trans hρ hl1; clear hl1) | refine zW ?_ | intro _)
   rw [← e1]
   have e2 : X ++ [tB x.page] ++ Xf x.a = B ++ (r.ims.take (k + 1)).flatMap f := by rw [← hmm, hfx]; simp
   rw [e2] at hown ⊢
   refine Zg (k + 1, _, w5, sp5) (⟨hlt, Hp.le_trans hle1 hρ, hown⟩) Ze Ze rfl tk inferInstance (by first | omega | (dsimp only; omega))
 ·rw [show r.ims.take k = r.ims by rw [show k = r.ims.length by omega, List.take_length], hfin] at hown ⊢
  repeat' (first | refine zW ?_ | intro _)
  exact qE ⟨rfl, hle1, w2, sp2, hown, rfl⟩
theorem wundone_spec (ρ : Hp) (wb : Nat) (v : RV) (r : Rc) (w : Value) (l : List UInt8) (sp : List Value) (hown : Wo w l sp) (hn : l.length ≤ 70000) (h : RcIn ρ v r) (hL : LayOk r) :
  Spec Tryz.prog 198 [.pointer (some ⟨wb, 0, none⟩)] ρ [YY w l sp, wrC wb v r w] (WrP ρ wb v r (l ++ (be 8 r.next ++ imsB r))) := by
 refine Zd Tryz.func198 rfl rfl rfl fun u R => ?_
 simp only [Zo, List.cons_append, List.nil_append]
 repeat' (first | (refine Zc (.func 196) ?_; refine qC rfl rfl (wnested_spec _ wb v r w l sp hown (by omega) hL.next) ?_; rintro v ρ' L' hle ⟨rfl, hl1, w1, sp1, hown, rfl⟩ <;> (try simp only [kM, kN, kO])) | (refine Zc (.func 195) ?_; refine qC rfl rfl (wimages_spec _ wb v r w1 _ sp1 hown (by (try simp only [List.length_append, List.length_cons, List.length_nil, List.length_map, Zm]) <;> omega) (h.mono hl1) hL) ?_; rintro v ρ' L' hle ⟨rfl, hl2, w2, sp2, hown, rfl⟩ <;> (try simp only [kM, kN, kO])) | refine zW ?_ | intro _)
 rw [List.append_assoc] at hown ⊢
 exact qE ⟨rfl, Hp.le_trans hl1 hl2, w2, sp2, hown, rfl⟩
end Go.Proofs.E
