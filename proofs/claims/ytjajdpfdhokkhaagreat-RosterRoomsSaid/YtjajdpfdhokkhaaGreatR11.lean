/- Rosters as data, and what their functions come to. Part 11 of 16. -/
import Derived.Test.YtjajdpfdhokkhaaGreatR10
namespace Go.Proofs.E
open Go
set_option linter.unusedVariables false
set_option linter.unusedSimpArgs false
set_option linter.unusedSectionVars false
set_option maxRecDepth 4000
set_option maxHeartbeats 1000000
attribute [local irreducible] Yl TL TC TE Spec YSpec R1 Hp.le EnvLe TS TR YS Stays
-- BN
/-! ## rosters: what they say -/
structure TxP where
  num : Int
  state : Int
  first : Nat
  last : Nat
  undo : Nat
  stack : List Lf
  marks : List Nat
deriving DecidableEq
abbrev Tx.p (x : Tx) : TxP := ⟨x.num, x.state, x.first, x.last, x.undo, x.stack, x.marks⟩
structure RosP where
  next : Int
  txns : List TxP
deriving DecidableEq
abbrev Ros.p (r : Ros) : RosP := ⟨r.next, r.txns.map Tx.p⟩
instance (priority := 1200) eqLf {x y : Lf} : EqC Tryz.prog 8 74 (.agg ⟨lfV x⟩) (.agg ⟨lfV y⟩) (decide (x = y)) := by
  have h : EqC Tryz.prog 8 74 (.agg ⟨[.int .u64 x.lsn, .int .i64 x.cost]⟩) (.agg ⟨[.int .u64 y.lsn, .int .i64 y.cost]⟩) _ := inferInstance
  refine ⟨fun d w hd => ?_⟩
  rw [h.out d w hd]
  congr 1
  obtain ⟨i, t⟩ := x
  obtain ⟨i', t'⟩ := y
  simp only [Lf.mk.injEq, Bool.and_true, Bool.decide_and]
  have e : ((i : Int) == (i' : Int)) = decide (i = i') := by
    by_cases h : i = i'
    · subst h; simp
    · rw [decide_eq_false h]; simp only [beq_eq_false_iff_ne, ne_eq]; omega
  rw [e]
  by_cases h1 : t = t' <;> by_cases h2 : i = i' <;> simp [h1, h2]
theorem sameTx18_spec (ρ : Hp) (x y : Tx) (hx : Tx.In ρ x) (hy : Tx.In ρ y) : Spec Tryz.prog 54 [.agg ⟨txV x⟩, .agg ⟨txV y⟩] ρ [] (fun z ρ' L' => z = .bool (decide (x.p = y.p)) ∧ ρ' = ρ ∧ L' = []) := by
  obtain ⟨xn, xst, xf, xl, xu, xs, xm, ⟨sa, sn, sc⟩, ⟨ma, mn, mc⟩⟩ := x
  obtain ⟨yn, yst, yf, yl, yu, ys, ym, ⟨ra, rn, rc⟩, ⟨ka, kn, kc⟩⟩ := y
  obtain ⟨xS, xM, b1, b2, -, -⟩ := hx
  obtain ⟨yS, yM, b3, b4, -, -⟩ := hy
  dsimp only at xS xM yS yM b1 b2 b3 b4
  have n1 := xS.len
  have n2 := xM.len
  have n3 := yS.len
  have n4 := yM.len
  simp only [txV, Tx.p, TxP.mk.injEq]
  refine spec_enter Tryz.func54 rfl rfl rfl fun u R => ?_
  simp only [argsE, List.cons_append, List.nil_append]
  by_cases e : xn = yn ∧ xst = yst ∧ xf = yf ∧ xl = yl ∧ xu = yu
  · obtain ⟨rfl, rfl, rfl, rfl, rfl⟩ := e
    by_cases hn : sn = rn ∧ mn = kn
    · obtain ⟨rfl, rfl⟩ := hn
      repeat' (first | (refine iBu ?_; refine tl_y (y_buildN rfl) rfl rfl ?_) | (refine i_op ?_; first | (refine i_qq ?_; refine qQ ?_) | refine qEf ?_) | refine tl_nil ?_ | (refine i_tc ?_; refine qTc ?_) | (refine i_te ?_; refine qTe ?_) | intro _)
      rename_i c2 c3
      refine tc_loop_g [(2, _), (3, _), (60, _)] (fun (ζ : (Nat)) => [(61, .int .i64 ζ), (4, .bool false)]) (fun (ζ : (Nat)) => ρ) (fun (ζ : (Nat)) => [[(c3, .cells ⟨[.int .i64 xn, .int .i64 xst, .int .u64 xf, .int .u64 xl, .int .u64 xu, .slice ra sn rc, .slice ka mn kc]⟩ 72 (0, 0))], [(c2, .cells ⟨[.int .i64 xn, .int .i64 xst, .int .u64 xf, .int .u64 xl, .int .u64 xu, .slice sa sn sc, .slice ma mn mc]⟩ 72 (0, 0))]]) (fun (ζ : (Nat)) => ζ ≤ sn ∧ xs.take ζ = ys.take ζ) (fun (ζ : (Nat)) => sn - ζ) (0) (⟨Nat.zero_le _, rfl⟩) ev_le ev_le rfl tk ?_
      rintro k hI
      try simp only [List.cons_append, List.nil_append, List.append_assoc, List.append_eq] at hI ⊢
      try dsimp only at hI ⊢
      obtain ⟨hk, hpre⟩ := hI
      by_cases hlt : k < sn
      · obtain ⟨b, off, C, T, fr, rfl, hb, hfit, hc⟩ := xS.get (show k < xs.length by omega)
        obtain ⟨bb, off2, C2, T2, fr2, rfl, hb2, hfit2, hc2⟩ := yS.get (show k < ys.length by omega)
        have ht1 := List.take_succ_eq_append_getElem (show k < xs.length by omega)
        have ht2 := List.take_succ_eq_append_getElem (show k < ys.length by omega)
        have hf : xs = ys → xs[k]'(by omega) = ys[k]'(by omega) := fun e => by subst e; rfl
        generalize xs[k]'(by omega) = xi at *
        generalize ys[k]'(by omega) = yi at *
        by_cases c : xi = yi
        · have hd : decide (xi = yi) = true := decide_eq_true c
          repeat' (first | (refine iBu ?_; refine tl_y (y_buildN rfl) rfl rfl ?_) | (refine i_op ?_; first | (refine i_qq ?_; refine qQ ?_) | refine qEf ?_) | refine tl_nil ?_ | (refine i_tc ?_; refine qTc ?_) | (refine i_te ?_; refine qTe ?_) | intro _)
          refine tc_any (Stays _ _ _) stays_refl ?_
          all_goals refine rFa 0 ?_
          all_goals refine rFull ?_
          all_goals refine rLd 1 ?_
          all_goals refine rMv 2 ?_
          all_goals refine rIa 3 ?_
          all_goals refine rLd 4 ?_
          all_goals refine rFa 5 ?_
          all_goals refine rLd 6 ?_
          all_goals refine rMv 7 ?_
          all_goals refine rIa 8 ?_
          all_goals refine rLd 9 ?_
          all_goals refine rCm 10 ?_
          all_goals refine rDone ?_
          all_goals (repeat' (first | (refine iBu ?_; refine tl_y (y_buildN rfl) rfl rfl ?_) | (refine i_op ?_; first | (refine i_qq ?_; refine qQ ?_) | refine qEf ?_) | refine tl_nil ?_ | (refine i_tc ?_; refine qTc ?_) | (refine i_te ?_; refine qTe ?_) | intro _))
          all_goals refine te_round_g (k + 1) (⟨hlt, by rw [ht1, ht2, hpre, c]⟩) ev_le ev_le rfl tk inferInstance (by first | omega | (dsimp only; omega))
        · have hd : decide (xi = yi) = false := decide_eq_false c
          rw [decide_eq_false (fun e => c (hf e.2.2.2.2.2.1))]
          repeat' (first | (refine iBu ?_; refine tl_y (y_buildN rfl) rfl rfl ?_) | (refine i_op ?_; first | (refine i_qq ?_; refine qQ ?_) | refine qEf ?_) | refine tl_nil ?_ | (refine i_tc ?_; refine qTc ?_) | (refine i_te ?_; refine qTe ?_) | intro _)
          refine tc_any (Stays _ _ _) stays_refl ?_
          all_goals refine rFa 0 ?_
          all_goals refine rFull ?_
          all_goals refine rLd 1 ?_
          all_goals refine rMv 2 ?_
          all_goals refine rIa 3 ?_
          all_goals refine rLd 4 ?_
          all_goals refine rFa 5 ?_
          all_goals refine rLd 6 ?_
          all_goals refine rMv 7 ?_
          all_goals refine rIa 8 ?_
          all_goals refine rLd 9 ?_
          all_goals refine rCm 10 ?_
          all_goals refine rDone ?_
          all_goals (repeat' (first | (refine iBu ?_; refine tl_y (y_buildN rfl) rfl rfl ?_) | (refine i_op ?_; first | (refine i_qq ?_; refine qQ ?_) | refine qEf ?_) | refine tl_nil ?_ | (refine i_tc ?_; refine qTc ?_) | (refine i_te ?_; refine qTe ?_) | intro _))
          all_goals exact qE (L' := []) ⟨rfl, rfl, rfl⟩
      · have hS : xs = ys := by
          rwa [List.take_of_length_le (by omega), List.take_of_length_le (by omega)] at hpre
        repeat' (first | (refine iBu ?_; refine tl_y (y_buildN rfl) rfl rfl ?_) | (refine i_op ?_; first | (refine i_qq ?_; refine qQ ?_) | refine qEf ?_) | refine tl_nil ?_ | (refine i_tc ?_; refine qTc ?_) | (refine i_te ?_; refine qTe ?_) | intro _)
        refine tc_loop_g [(2, _), (3, _), (78, _)] (fun (ζ : (Nat)) => [(79, .int .i64 ζ), (4, .bool false)]) (fun (ζ : (Nat)) => ρ) (fun (ζ : (Nat)) => [[(c3, .cells ⟨[.int .i64 xn, .int .i64 xst, .int .u64 xf, .int .u64 xl, .int .u64 xu, .slice ra sn rc, .slice ka mn kc]⟩ 72 (0, 0))], [(c2, .cells ⟨[.int .i64 xn, .int .i64 xst, .int .u64 xf, .int .u64 xl, .int .u64 xu, .slice sa sn sc, .slice ma mn mc]⟩ 72 (0, 0))]]) (fun (ζ : (Nat)) => ζ ≤ mn ∧ xm.take ζ = ym.take ζ) (fun (ζ : (Nat)) => mn - ζ) (0) (⟨Nat.zero_le _, rfl⟩) ev_le ev_le rfl tk ?_
        rintro j hI
        try simp only [List.cons_append, List.nil_append, List.append_assoc, List.append_eq] at hI ⊢
        try dsimp only at hI ⊢
        obtain ⟨hj, hpre2⟩ := hI
        by_cases hlt2 : j < mn
        · obtain ⟨b, off, C, T, fr, rfl, hb, hc⟩ := xM.get (show j < xm.length by omega)
          obtain ⟨bb, off2, C2, T2, fr2, rfl, hb2, hc2⟩ := yM.get (show j < ym.length by omega)
          have ht1 := List.take_succ_eq_append_getElem (show j < xm.length by omega)
          have ht2 := List.take_succ_eq_append_getElem (show j < ym.length by omega)
          have hf : xm = ym → xm[j]'(by omega) = ym[j]'(by omega) := fun e => by subst e; rfl
          generalize xm[j]'(by omega) = xi at *
          generalize ym[j]'(by omega) = yi at *
          by_cases c : xi = yi
          · repeat' (first | (refine iBu ?_; refine tl_y (y_buildN rfl) rfl rfl ?_) | (refine i_op ?_; first | (refine i_qq ?_; refine qQ ?_) | refine qEf ?_) | refine tl_nil ?_ | (refine i_tc ?_; refine qTc ?_) | (refine i_te ?_; refine qTe ?_) | intro _)
            refine tc_any (Stays _ _ _) stays_refl ?_
            all_goals refine rFa 0 ?_
            all_goals refine rFull ?_
            all_goals refine rLd 1 ?_
            all_goals refine rMv 2 ?_
            all_goals refine rIa 3 ?_
            all_goals refine rLd 4 ?_
            all_goals refine rFa 5 ?_
            all_goals refine rLd 6 ?_
            all_goals refine rMv 7 ?_
            all_goals refine rIa 8 ?_
            all_goals refine rLd 9 ?_
            all_goals refine rCm 10 ?_
            all_goals refine rDone ?_
            all_goals (repeat' (first | (refine iBu ?_; refine tl_y (y_buildN rfl) rfl rfl ?_) | (refine i_op ?_; first | (refine i_qq ?_; refine qQ ?_) | refine qEf ?_) | refine tl_nil ?_ | (refine i_tc ?_; refine qTc ?_) | (refine i_te ?_; refine qTe ?_) | intro _))
            all_goals refine te_round_g (j + 1) (⟨hlt2, by rw [ht1, ht2, hpre2, c]⟩) ev_le ev_le rfl tk inferInstance (by first | omega | (dsimp only; omega))
          · rw [decide_eq_false (fun e => c (hf e.2.2.2.2.2.2))]
            repeat' (first | (refine iBu ?_; refine tl_y (y_buildN rfl) rfl rfl ?_) | (refine i_op ?_; first | (refine i_qq ?_; refine qQ ?_) | refine qEf ?_) | refine tl_nil ?_ | (refine i_tc ?_; refine qTc ?_) | (refine i_te ?_; refine qTe ?_) | intro _)
            refine tc_any (Stays _ _ _) stays_refl ?_
            all_goals refine rFa 0 ?_
            all_goals refine rFull ?_
            all_goals refine rLd 1 ?_
            all_goals refine rMv 2 ?_
            all_goals refine rIa 3 ?_
            all_goals refine rLd 4 ?_
            all_goals refine rFa 5 ?_
            all_goals refine rLd 6 ?_
            all_goals refine rMv 7 ?_
            all_goals refine rIa 8 ?_
            all_goals refine rLd 9 ?_
            all_goals refine rCm 10 ?_
            all_goals refine rDone ?_
            all_goals (repeat' (first | (refine iBu ?_; refine tl_y (y_buildN rfl) rfl rfl ?_) | (refine i_op ?_; first | (refine i_qq ?_; refine qQ ?_) | refine qEf ?_) | refine tl_nil ?_ | (refine i_tc ?_; refine qTc ?_) | (refine i_te ?_; refine qTe ?_) | intro _))
            all_goals exact qE (L' := []) ⟨rfl, rfl, rfl⟩
        · have hM : xm = ym := by
            rwa [List.take_of_length_le (by omega), List.take_of_length_le (by omega)] at hpre2
          simp only [hS, hM, and_self, decide_true, eq_self]
          repeat' (first | (refine iBu ?_; refine tl_y (y_buildN rfl) rfl rfl ?_) | (refine i_op ?_; first | (refine i_qq ?_; refine qQ ?_) | refine qEf ?_) | refine tl_nil ?_ | (refine i_tc ?_; refine qTc ?_) | (refine i_te ?_; refine qTe ?_) | intro _)
          exact qE (L' := []) ⟨rfl, rfl, rfl⟩
    · rw [decide_eq_false (fun e => hn ⟨by rw [← n1, ← n3, e.2.2.2.2.2.1], by rw [← n2, ← n4, e.2.2.2.2.2.2]⟩)]
      repeat' (first | (refine iBu ?_; refine tl_y (y_buildN rfl) rfl rfl ?_) | (refine i_op ?_; first | (refine i_qq ?_; refine qQ ?_) | refine qEf ?_) | refine tl_nil ?_ | (refine i_tc ?_; refine qTc ?_) | (refine i_te ?_; refine qTe ?_) | (refine i_gd ?_; refine tl_guard rfl rfl (fun hb => ?_) (fun hb => ?_) <;> (try simp only [decide_eq_true_eq, decide_eq_false_iff_not, Bool.not_eq_true, Bool.not_eq_false, beq_iff_eq, bne_iff_ne, ne_eq, decide_eq_decide, Bool.not_eq_eq_eq_not, Bool.not_true, Bool.not_false, beq_eq_false_iff_ne, bne_eq_false_iff_eq, Bool.and_eq_true, Bool.or_eq_true, Bool.and_eq_false_imp, Bool.or_eq_false_iff, bq2, bqt, bqf] at hb)) | (refine i_cond ?_; refine tc_cond rfl (fun hb => ?_) (fun hb => ?_) <;> (try simp only [decide_eq_true_eq, decide_eq_false_iff_not, Bool.not_eq_true, Bool.not_eq_false, beq_iff_eq, bne_iff_ne, ne_eq, decide_eq_decide, Bool.not_eq_eq_eq_not, Bool.not_true, Bool.not_false, beq_eq_false_iff_ne, bne_eq_false_iff_eq, Bool.and_eq_true, Bool.or_eq_true, Bool.and_eq_false_imp, Bool.or_eq_false_iff, bq2, bqt, bqf] at hb)) | intro _)
      all_goals first | (exfalso; omega) | skip
      all_goals (refine qF (L' := []) ?_; exact ⟨bool_eq (by (try simp [*]); first | done | omega | (intros; omega) | (constructor <;> intros <;> (try simp_all) <;> omega)), rfl, rfl⟩)
  · rw [decide_eq_false (fun h => e ⟨h.1, h.2.1, h.2.2.1, h.2.2.2.1, h.2.2.2.2.1⟩)]
    repeat' (first | (refine iBu ?_; refine tl_y (y_buildN rfl) rfl rfl ?_) | (refine i_op ?_; first | (refine i_qq ?_; refine qQ ?_) | refine qEf ?_) | refine tl_nil ?_ | (refine i_tc ?_; refine qTc ?_) | (refine i_te ?_; refine qTe ?_) | (refine i_gd ?_; refine tl_guard rfl rfl (fun hb => ?_) (fun hb => ?_) <;> (try simp only [decide_eq_true_eq, decide_eq_false_iff_not, Bool.not_eq_true, Bool.not_eq_false, beq_iff_eq, bne_iff_ne, ne_eq, decide_eq_decide, Bool.not_eq_eq_eq_not, Bool.not_true, Bool.not_false, beq_eq_false_iff_ne, bne_eq_false_iff_eq, Bool.and_eq_true, Bool.or_eq_true, Bool.and_eq_false_imp, Bool.or_eq_false_iff, bq2, bqt, bqf] at hb)) | (refine i_cond ?_; refine tc_cond rfl (fun hb => ?_) (fun hb => ?_) <;> (try simp only [decide_eq_true_eq, decide_eq_false_iff_not, Bool.not_eq_true, Bool.not_eq_false, beq_iff_eq, bne_iff_ne, ne_eq, decide_eq_decide, Bool.not_eq_eq_eq_not, Bool.not_true, Bool.not_false, beq_eq_false_iff_ne, bne_eq_false_iff_eq, Bool.and_eq_true, Bool.or_eq_true, Bool.and_eq_false_imp, Bool.or_eq_false_iff, bq2, bqt, bqf] at hb)) | intro _)
    all_goals first | (exfalso; omega) | skip
    all_goals (refine qF (L' := []) ?_; exact ⟨bool_eq (by (try simp [*]); first | done | omega | (intros; omega) | (constructor <;> intros <;> (try simp_all) <;> omega)), rfl, rfl⟩)
theorem map_take_suc {α β : Type} (g : α → β) (l : List α) (k : Nat) (h : k < l.length) : (l.map g).take (k + 1) = (l.map g).take k ++ [g l[k]] := by
  rw [List.take_succ_eq_append_getElem (by simpa using h), List.getElem_map]
theorem same18_spec (ρ : Hp) (v v' : SV) (x y : Ros) (hx : RosIn ρ v x) (hy : RosIn ρ v' y) : Spec Tryz.prog 19 [.agg ⟨rosV v x⟩, .agg ⟨rosV v' y⟩] ρ [] (fun z ρ' L' => z = .bool (decide (x.p = y.p)) ∧ ρ' = ρ ∧ L' = []) := by
  obtain ⟨⟨hA, hbig, -⟩, hT⟩ := hx
  obtain ⟨⟨hB, -, -⟩, hU⟩ := hy
  obtain ⟨sa, sn, sc⟩ := v
  obtain ⟨ra, rn, rc⟩ := v'
  dsimp only at hA hB hbig
  have n1 := hA.len
  have n2 := hB.len
  simp only [rosV, Ros.p, RosP.mk.injEq]
  refine spec_enter Tryz.func19 rfl rfl rfl fun u R => ?_
  simp only [argsE, List.cons_append, List.nil_append]
  by_cases e : x.next = y.next
  · by_cases hn : sn = rn
    · subst hn
      repeat' (first | (refine iBu ?_; refine tl_y (y_buildN rfl) rfl rfl ?_) | (refine i_op ?_; first | (refine i_qq ?_; refine qQ ?_) | refine qEf ?_) | refine tl_nil ?_ | (refine i_tc ?_; refine qTc ?_) | (refine i_te ?_; refine qTe ?_) | intro _)
      rename_i c2 c3
      refine tc_loop_g [(2, _), (3, _), (22, _)] (fun (ζ : (Nat)) => [(23, .int .i64 ζ), (4, .bool false)]) (fun (ζ : (Nat)) => ρ) (fun (ζ : (Nat)) => [[(c3, .cells ⟨[.int .i64 y.next, .slice ra sn rc]⟩ 34 (0, 0))], [(c2, .cells ⟨[.int .i64 x.next, .slice sa sn sc]⟩ 34 (0, 0))]]) (fun (ζ : (Nat)) => ζ ≤ sn ∧ (x.txns.map Tx.p).take ζ = (y.txns.map Tx.p).take ζ) (fun (ζ : (Nat)) => sn - ζ) (0) (⟨Nat.zero_le _, rfl⟩) ev_le ev_le rfl tk ?_
      rintro k hI
      try simp only [List.cons_append, List.nil_append, List.append_assoc, List.append_eq] at hI ⊢
      try dsimp only at hI ⊢
      obtain ⟨hk, hpre⟩ := hI
      by_cases hlt : k < sn
      · obtain ⟨b, off, C, T, fr, rfl, hb, hfit, hc⟩ := hA.get (show k < x.txns.length by omega)
        obtain ⟨bb, off2, C2, T2, fr2, rfl, hb2, hfit2, hc2⟩ := hB.get (show k < y.txns.length by omega)
        have ht1 := map_take_suc Tx.p x.txns k (by omega)
        have ht2 := map_take_suc Tx.p y.txns k (by omega)
        have hf : x.txns.map Tx.p = y.txns.map Tx.p → (x.txns[k]'(by omega)).p = (y.txns[k]'(by omega)).p := fun e => by
          have g1 : (x.txns.map Tx.p)[k]? = some (x.txns[k]'(by omega)).p := by simp [show k < x.txns.length by omega]
          have g2 : (y.txns.map Tx.p)[k]? = some (y.txns[k]'(by omega)).p := by simp [show k < y.txns.length by omega]
          rw [e, g2] at g1
          exact (Option.some.inj g1).symm
        have i1 := hT _ (List.getElem_mem (show k < x.txns.length by omega))
        have i2 := hU _ (List.getElem_mem (show k < y.txns.length by omega))
        generalize x.txns[k]'(by omega) = xi at *
        generalize y.txns[k]'(by omega) = yi at *
        have q := sameTx18_spec ρ xi yi i1 i2
        by_cases c : xi.p = yi.p
        · rw [decide_eq_true c] at q
          repeat' (first | (refine iBu ?_; refine tl_y (y_buildN rfl) rfl rfl ?_) | (refine i_op ?_; first | (refine i_qq ?_; refine qQ ?_) | refine qEf ?_) | refine tl_nil ?_ | (refine i_tc ?_; refine qTc ?_) | (refine i_te ?_; refine qTe ?_) | intro _)
          refine tc_any (Stays _ _ _) stays_refl ?_
          all_goals refine rFa 0 ?_
          all_goals refine rLd 1 ?_
          all_goals refine rMv 2 ?_
          all_goals refine rIa 3 ?_
          all_goals refine rLd 4 ?_
          all_goals refine rFa 5 ?_
          all_goals refine rLd 6 ?_
          all_goals refine rMv 7 ?_
          all_goals refine rIa 8 ?_
          all_goals refine rLd 9 ?_
          all_goals (refine rStep (i := 10) ?_; ((try refine qWant ?_); (first | (refine tl_is (.func 54) ?_; refine qC rfl rfl (q) ?_; rintro v ρ' L' hle ⟨rfl, rfl, rfl⟩ <;> (try simp only [kM, kN, kO])) | (refine qEf ?_; try intro _)) <;> ((try simp only [kM, kN, kO]); refine tl_nil ?_; refine rNext ?_)))
          all_goals refine rFull ?_
          all_goals refine rUn 11 ?_
          all_goals refine rDone ?_
          all_goals (repeat' (first | (refine iBu ?_; refine tl_y (y_buildN rfl) rfl rfl ?_) | (refine i_op ?_; first | (refine i_qq ?_; refine qQ ?_) | refine qEf ?_) | refine tl_nil ?_ | (refine i_tc ?_; refine qTc ?_) | (refine i_te ?_; refine qTe ?_) | intro _))
          all_goals refine te_round_g (k + 1) (⟨hlt, by rw [ht1, ht2, hpre, c]⟩) ev_le ev_le rfl tk inferInstance (by first | omega | (dsimp only; omega))
        · rw [decide_eq_false c] at q
          rw [decide_eq_false (fun e => c (hf e.2))]
          repeat' (first | (refine iBu ?_; refine tl_y (y_buildN rfl) rfl rfl ?_) | (refine i_op ?_; first | (refine i_qq ?_; refine qQ ?_) | refine qEf ?_) | refine tl_nil ?_ | (refine i_tc ?_; refine qTc ?_) | (refine i_te ?_; refine qTe ?_) | intro _)
          refine tc_any (Stays _ _ _) stays_refl ?_
          all_goals refine rFa 0 ?_
          all_goals refine rLd 1 ?_
          all_goals refine rMv 2 ?_
          all_goals refine rIa 3 ?_
          all_goals refine rLd 4 ?_
          all_goals refine rFa 5 ?_
          all_goals refine rLd 6 ?_
          all_goals refine rMv 7 ?_
          all_goals refine rIa 8 ?_
          all_goals refine rLd 9 ?_
          all_goals (refine rStep (i := 10) ?_; ((try refine qWant ?_); (first | (refine tl_is (.func 54) ?_; refine qC rfl rfl (q) ?_; rintro v ρ' L' hle ⟨rfl, rfl, rfl⟩ <;> (try simp only [kM, kN, kO])) | (refine qEf ?_; try intro _)) <;> ((try simp only [kM, kN, kO]); refine tl_nil ?_; refine rNext ?_)))
          all_goals refine rFull ?_
          all_goals refine rUn 11 ?_
          all_goals refine rDone ?_
          all_goals (repeat' (first | (refine iBu ?_; refine tl_y (y_buildN rfl) rfl rfl ?_) | (refine i_op ?_; first | (refine i_qq ?_; refine qQ ?_) | refine qEf ?_) | refine tl_nil ?_ | (refine i_tc ?_; refine qTc ?_) | (refine i_te ?_; refine qTe ?_) | intro _))
          all_goals exact qE (L' := []) ⟨rfl, rfl, rfl⟩
      · have hS : x.txns.map Tx.p = y.txns.map Tx.p := by
          rwa [List.take_of_length_le (by simp; omega), List.take_of_length_le (by simp; omega)] at hpre
        rw [decide_eq_true ⟨e, hS⟩]
        repeat' (first | (refine iBu ?_; refine tl_y (y_buildN rfl) rfl rfl ?_) | (refine i_op ?_; first | (refine i_qq ?_; refine qQ ?_) | refine qEf ?_) | refine tl_nil ?_ | (refine i_tc ?_; refine qTc ?_) | (refine i_te ?_; refine qTe ?_) | intro _)
        exact qE (L' := []) ⟨rfl, rfl, rfl⟩
    · rw [decide_eq_false (fun e => hn (by have := congrArg List.length e.2; simp only [List.length_map] at this; omega))]
      repeat' (first | (refine iBu ?_; refine tl_y (y_buildN rfl) rfl rfl ?_) | (refine i_op ?_; first | (refine i_qq ?_; refine qQ ?_) | refine qEf ?_) | refine tl_nil ?_ | (refine i_tc ?_; refine qTc ?_) | (refine i_te ?_; refine qTe ?_) | (refine i_gd ?_; refine tl_guard rfl rfl (fun hb => ?_) (fun hb => ?_) <;> (try simp only [decide_eq_true_eq, decide_eq_false_iff_not, Bool.not_eq_true, Bool.not_eq_false, beq_iff_eq, bne_iff_ne, ne_eq, decide_eq_decide, Bool.not_eq_eq_eq_not, Bool.not_true, Bool.not_false, beq_eq_false_iff_ne, bne_eq_false_iff_eq, Bool.and_eq_true, Bool.or_eq_true, Bool.and_eq_false_imp, Bool.or_eq_false_iff, bq2, bqt, bqf] at hb)) | (refine i_cond ?_; refine tc_cond rfl (fun hb => ?_) (fun hb => ?_) <;> (try simp only [decide_eq_true_eq, decide_eq_false_iff_not, Bool.not_eq_true, Bool.not_eq_false, beq_iff_eq, bne_iff_ne, ne_eq, decide_eq_decide, Bool.not_eq_eq_eq_not, Bool.not_true, Bool.not_false, beq_eq_false_iff_ne, bne_eq_false_iff_eq, Bool.and_eq_true, Bool.or_eq_true, Bool.and_eq_false_imp, Bool.or_eq_false_iff, bq2, bqt, bqf] at hb)) | intro _)
      all_goals first | (exfalso; omega) | skip
      all_goals (refine qF (L' := []) ?_; exact ⟨bool_eq (by (try simp [*]); first | done | omega | (intros; omega) | (constructor <;> intros <;> (try simp_all) <;> omega)), rfl, rfl⟩)
  · rw [decide_eq_false (fun h => e h.1)]
    repeat' (first | (refine iBu ?_; refine tl_y (y_buildN rfl) rfl rfl ?_) | (refine i_op ?_; first | (refine i_qq ?_; refine qQ ?_) | refine qEf ?_) | refine tl_nil ?_ | (refine i_tc ?_; refine qTc ?_) | (refine i_te ?_; refine qTe ?_) | (refine i_gd ?_; refine tl_guard rfl rfl (fun hb => ?_) (fun hb => ?_) <;> (try simp only [decide_eq_true_eq, decide_eq_false_iff_not, Bool.not_eq_true, Bool.not_eq_false, beq_iff_eq, bne_iff_ne, ne_eq, decide_eq_decide, Bool.not_eq_eq_eq_not, Bool.not_true, Bool.not_false, beq_eq_false_iff_ne, bne_eq_false_iff_eq, Bool.and_eq_true, Bool.or_eq_true, Bool.and_eq_false_imp, Bool.or_eq_false_iff, bq2, bqt, bqf] at hb)) | (refine i_cond ?_; refine tc_cond rfl (fun hb => ?_) (fun hb => ?_) <;> (try simp only [decide_eq_true_eq, decide_eq_false_iff_not, Bool.not_eq_true, Bool.not_eq_false, beq_iff_eq, bne_iff_ne, ne_eq, decide_eq_decide, Bool.not_eq_eq_eq_not, Bool.not_true, Bool.not_false, beq_eq_false_iff_ne, bne_eq_false_iff_eq, Bool.and_eq_true, Bool.or_eq_true, Bool.and_eq_false_imp, Bool.or_eq_false_iff, bq2, bqt, bqf] at hb)) | intro _)
    all_goals first | (exfalso; omega) | skip
    all_goals (refine qF (L' := []) ?_; exact ⟨bool_eq (by (try simp [*]); first | done | omega | (intros; omega) | (constructor <;> intros <;> (try simp_all) <;> omega)), rfl, rfl⟩)
end Go.Proofs.E

namespace Go.Proofs.E
open Go
set_option linter.unusedVariables false
set_option linter.unusedSimpArgs false
set_option linter.unusedSectionVars false
set_option maxRecDepth 4000
set_option maxHeartbeats 1000000
attribute [local irreducible] Yl TL TC TE Spec YSpec R1 Hp.le EnvLe TS TR YS Stays
/-! ## what records and savepoints make of a roster -/
def unT (x : TxP) : Tx := ⟨x.num, x.state, x.first, x.last, x.undo, x.stack, x.marks, ⟨none, 0, 0⟩, ⟨none, 0, 0⟩⟩
def rosOkP (p : RosP) : Bool := rosOk ⟨p.next, p.txns.map unT⟩
theorem txsB_p (next : Int) : ∀ (l : List Tx) (last : Int), txsB next last ((l.map Tx.p).map unT) = txsB next last l
  | [], _ => rfl
  | x :: r, last => by
    simp only [List.map_cons, txsB]
    rw [show txOk next last (unT x.p) = txOk next last x from rfl, show (unT x.p).num = x.num from rfl, txsB_p next r]
theorem rosOk_p (r : Ros) : rosOkP r.p = rosOk r := by
  unfold rosOkP rosOk
  simp only [Ros.p, List.length_map, txsB_p]
def leftOf (r : Rc) : Lf := ⟨r.lsn, (reserveN r : Nat)⟩
def backT (t : TxP) (to : Nat) : TxP := { t with undo := to, stack := t.stack.filter (fun s => decide (s.lsn ≤ to)), marks := t.marks.filter (fun m => decide (m ≤ to)) }
def pushT (t : TxP) (r : Rc) : TxP := { t with undo := r.lsn, stack := t.stack ++ [leftOf r] }
def withinT (t : TxP) (r : Rc) : Bool := decide (t.first ≤ r.next ∧ r.next ≤ t.undo)
def liveT (t : TxP) : Bool := decide (t.state = 1)
/-- may a transaction take a record of it that is no end? -/
def mayT (t : TxP) (r : Rc) : Bool :=
  if r.kind = 3 ∨ r.kind = 4 then liveT t && withinT t r
  else if r.kind = 5 then decide (t.state ≠ 3) && (withinT t r && decide (r.next < t.undo))
  else liveT t
def nextT (t : TxP) (r : Rc) : TxP :=
  if r.kind = 2 then pushT { t with last := r.lsn } r
  else if r.kind = 3 ∨ r.kind = 5 then backT { t with last := r.lsn } r.next
  else if r.kind = 4 then pushT (backT { t with last := r.lsn } r.next) r
  else if r.kind = 6 then { t with last := r.lsn, state := 3, marks := [], stack := [] }
  else { t with last := r.lsn, state := 2, marks := [] }
def findT (p : RosP) (num : Int) : Option TxP := p.txns.find? (fun t => decide (t.num = num))
def putT (p : RosP) (t : TxP) : RosP := { p with txns := p.txns.map (fun x => if x.num = t.num then t else x) }
def dropT (p : RosP) (num : Int) : RosP := { p with txns := p.txns.filter (fun x => decide (x.num ≠ num)) }
def newT (r : Rc) : TxP := ⟨r.txn, 1, r.lsn, r.lsn, r.lsn, [], []⟩
def ownE (o : Option TxP) (r : Rc) : Int := match o with | none => 4 | some t => if r.prev ≠ t.last then 2 else if r.kind = 8 then 0 else if mayT t r then 0 else 2
def takesE (p : RosP) (r : Rc) : Int :=
  if r.kind = 9 then 0
  else if r.kind = 1 then (if r.txn ≠ p.next ∨ p.next = 1073741824 then 2 else if 8 ≤ p.txns.length then 6 else 0)
  else ownE (findT p r.txn) r
def ownP (p : RosP) (o : Option TxP) (r : Rc) : RosP := match o with | none => p | some t => if r.kind = 8 then dropT p r.txn else putT p (nextT t r)
def takesP (p : RosP) (r : Rc) : RosP :=
  if r.kind = 9 then p
  else if r.kind = 1 then ⟨p.next + 1, p.txns ++ [newT r]⟩
  else ownP p (findT p r.txn) r
def takeE (p : RosP) (r : Rc) : Int := if rosOkP p then (if recOk r then takesE p r else 220) else 280
def takeP (p : RosP) (r : Rc) : RosP := if takeE p r = 0 then takesP p r else ⟨0, []⟩
/-! savepoints -/
def liveE (o : Option TxP) : Int := match o with | none => 4 | some t => if t.state = 1 then 0 else 2
def askE (f : TxP → Int) (o : Option TxP) : Int := match o with | none => 4 | some t => if t.state = 1 then f t else 2
def askT (f : TxP → TxP) (p : RosP) (o : Option TxP) : RosP := match o with | none => p | some t => putT p (f t)
def asksE (f : TxP → Int) (p : RosP) (num : Int) : Int := if rosOkP p then askE f (findT p num) else 280
def asksP (f : TxP → Int) (g : TxP → TxP) (p : RosP) (num : Int) : RosP := if asksE f p num = 0 then askT g p (findT p num) else ⟨0, []⟩
def markF (t : TxP) : Int := if 8 ≤ t.marks.length then 6 else 0
def markG (t : TxP) : TxP := { t with marks := t.marks ++ [t.undo] }
def whereF (n : Int) (t : TxP) : Int := if n < 1 ∨ (t.marks.length : Int) < n then 4 else 0
def whereN (n : Int) (t : TxP) : Nat := t.marks.getD (n - 1).toNat 0
def cutF (n : Int) (t : TxP) : Int := if n < 1 ∨ (t.marks.length : Int) < n then 4 else if t.marks.getD (n - 1).toNat 0 ≠ t.undo then 2 else 0
def cutG (n : Int) (t : TxP) : TxP := { t with marks := t.marks.take n.toNat }
/-! the roster's order -/
theorem txsB_facts {next last : Int} : ∀ {l : List Tx}, txsB next last l = true → (∀ i (h : i < l.length), last < l[i].num ∧ l[i].num < next ∧ tx18B l[i] = true) ∧ (∀ i j (h : i < j) (k : j < l.length), l[i].num < l[j].num)
  | [], _ => ⟨fun i h => absurd h (Nat.not_lt_zero i), fun i j _ k => absurd k (Nat.not_lt_zero j)⟩
  | x :: r, h => by
    rw [txsB, txOk_18, Bool.and_eq_true, Bool.and_eq_true, decide_eq_true_eq] at h
    obtain ⟨⟨⟨h1, h2⟩, h3⟩, h4⟩ := h
    obtain ⟨g1, g2⟩ := txsB_facts h4
    constructor
    · intro i hi
      cases i with
      | zero => exact ⟨h1, h2, h3⟩
      | succ i =>
        have := g1 i (by simpa using hi)
        simp only [List.getElem_cons_succ]
        exact ⟨by omega, this.2⟩
    · intro i j hij hj
      cases j with
      | zero => omega
      | succ j =>
        cases i with
        | zero =>
          have := g1 j (by simpa using hj)
          simp only [List.getElem_cons_zero, List.getElem_cons_succ]; exact this.1
        | succ i =>
          simp only [List.getElem_cons_succ]
          exact g2 i j (by omega) (by simpa using hj)
theorem rosOk_facts {r : Ros} (h : rosOk r = true) : (1 ≤ r.next ∧ r.next ≤ 1073741824 ∧ r.txns.length ≤ 8) ∧ txsB r.next 0 r.txns = true := by
  unfold rosOk at h
  rw [Bool.and_eq_true, decide_eq_true_eq] at h
  exact h
end Go.Proofs.E

namespace Go.Proofs.E
open Go
set_option linter.unusedVariables false
set_option linter.unusedSimpArgs false
set_option linter.unusedSectionVars false
set_option maxRecDepth 4000
set_option maxHeartbeats 1000000
attribute [local irreducible] Yl TL TC TE Spec YSpec R1 Hp.le EnvLe TS TR YS Stays
/-! ## a roster that may be, by its parts -/
structure TxG (t : TxP) : Prop where
  s1 : 1 ≤ t.state
  s3 : t.state ≤ 3
  f1 : 1 ≤ t.first
  fu : t.first ≤ t.undo
  ul : t.undo ≤ t.last
  lm : t.last ≤ 1099511627776
  st : ∀ s ∈ t.stack, t.first < s.lsn ∧ s.lsn ≤ t.undo ∧ 1 ≤ s.cost ∧ s.cost ≤ 400
  so : t.stack.Pairwise (fun a b => a.lsn < b.lsn)
  ml : t.marks.length ≤ 8
  ms : t.marks ≠ [] → t.state = 1
  mb : ∀ m ∈ t.marks, t.first ≤ m ∧ m ≤ t.undo
  mo : t.marks.Pairwise (· ≤ ·)
structure RosG (p : RosP) : Prop where
  n1 : 1 ≤ p.next
  n2 : p.next ≤ 1073741824
  len : p.txns.length ≤ 8
  tx : ∀ t ∈ p.txns, 0 < t.num ∧ t.num < p.next ∧ TxG t
  up : p.txns.Pairwise (fun a b => a.num < b.num)
theorem stackB_iff {undo : Nat} : ∀ {l : List Lf} {last : Nat}, stackB undo last l = true ↔ (∀ s ∈ l, last < s.lsn ∧ s.lsn ≤ undo ∧ 1 ≤ s.cost ∧ s.cost ≤ 400) ∧ l.Pairwise (fun a b => a.lsn < b.lsn)
  | [], last => by simp [stackB]
  | s :: r, last => by
    rw [stackB, Bool.and_eq_true, decide_eq_true_eq, stackB_iff, List.pairwise_cons]
    constructor
    · rintro ⟨h1, h2, h3⟩
      refine ⟨fun x hx => ?_, fun x hx => (h2 x hx).1, h3⟩
      rcases List.mem_cons.1 hx with rfl | hx
      · exact h1
      · have := h2 x hx; omega
    · rintro ⟨h1, h2, h3⟩
      refine ⟨h1 s (by simp), fun x hx => ⟨h2 x hx, (h1 x (by simp [hx])).2⟩, h3⟩
theorem pair_get {m : List Nat} (h : sortB m = true) : m.Pairwise (· ≤ ·) := by
  rw [List.pairwise_iff_getElem]
  intro i j hi hj hij
  have := sort_le h (Nat.le_of_lt hij) hj
  rwa [getD_get hi, getD_get hj] at this
theorem pair_sort {m : List Nat} (h : m.Pairwise (· ≤ ·)) : sortB m = true := by
  refine List.all_eq_true.2 (fun i hi => decide_eq_true ?_)
  have hi := List.mem_range.1 hi
  by_cases h0 : i = 0
  · exact .inl h0
  · right
    rw [getD_get hi, getD_get (show i - 1 < m.length by omega)]
    exact List.pairwise_iff_getElem.1 h (i - 1) i (by omega) hi (by omega)
theorem marksB_iff {x : Tx} : marksB x = true ↔ x.marks.length ≤ 8 ∧ (x.marks ≠ [] → x.state = 1) ∧ (∀ m ∈ x.marks, x.first ≤ m ∧ m ≤ x.undo) ∧ x.marks.Pairwise (· ≤ ·) := by
  unfold marksB
  by_cases h0 : x.marks = []
  · simp [h0]
  · have hp : 0 < x.marks.length := List.length_pos_iff.2 h0
    rw [decide_eq_false (by omega), Bool.false_or, Bool.and_eq_true, Bool.and_eq_true, decide_eq_true_eq, decide_eq_true_eq]
    constructor
    · rintro ⟨⟨h1, h2⟩, h3, h4, h5⟩
      refine ⟨h2, fun _ => h1, fun m hm => ?_, pair_get h3⟩
      obtain ⟨i, hi, rfl⟩ := List.mem_iff_getElem.1 hm
      have g1 := sort_le h3 (Nat.zero_le i) hi
      have g2 := sort_le h3 (show i ≤ x.marks.length - 1 by omega) (by omega)
      rw [getD_get hi] at g1 g2
      omega
    · rintro ⟨h1, h2, h3, h4⟩
      refine ⟨⟨h2 h0, h1⟩, pair_sort h4, ?_, ?_⟩
      · rw [getD_get hp]; exact (h3 _ (List.getElem_mem hp)).1
      · rw [getD_get (show x.marks.length - 1 < x.marks.length by omega)]; exact (h3 _ (List.getElem_mem _)).2
theorem tx18_iff {t : TxP} : tx18B (unT t) = true ↔ TxG t := by
  unfold tx18B
  rw [Bool.and_eq_true, Bool.and_eq_true, decide_eq_true_eq, stackB_iff, marksB_iff]
  constructor
  · rintro ⟨⟨h1, h2, h3, h4, h5, h6⟩, ⟨h7, h8⟩, h9, h10, h11, h12⟩
    exact ⟨h1, h2, h3, h4, h5, h6, h7, h8, h9, h10, h11, h12⟩
  · rintro ⟨h1, h2, h3, h4, h5, h6, h7, h8, h9, h10, h11, h12⟩
    exact ⟨⟨h1, h2, h3, h4, h5, h6⟩, ⟨h7, h8⟩, h9, h10, h11, h12⟩
theorem txsP_iff {next : Int} : ∀ {l : List TxP} {last : Int}, txsB next last (l.map unT) = true ↔ (∀ t ∈ l, last < t.num ∧ t.num < next ∧ TxG t) ∧ l.Pairwise (fun a b => a.num < b.num)
  | [], last => by simp [txsB]
  | t :: r, last => by
    rw [List.map_cons, txsB, txOk_18, Bool.and_eq_true, Bool.and_eq_true, decide_eq_true_eq, txsP_iff, List.pairwise_cons, tx18_iff]
    constructor
    · rintro ⟨⟨⟨h1, h1'⟩, h2⟩, h3, h4⟩
      refine ⟨fun x hx => ?_, fun x hx => (h3 x hx).1, h4⟩
      rcases List.mem_cons.1 hx with rfl | hx
      · exact ⟨h1, h1', h2⟩
      · have := h3 x hx
        exact ⟨Int.lt_trans h1 this.1, this.2⟩
    · rintro ⟨h1, h2, h3⟩
      have h0 := h1 t (by simp)
      exact ⟨⟨⟨h0.1, h0.2.1⟩, h0.2.2⟩, fun x hx => ⟨h2 x hx, (h1 x (by simp [hx])).2⟩, h3⟩
theorem rosG_iff {p : RosP} : rosOkP p = true ↔ RosG p := by
  unfold rosOkP rosOk
  rw [Bool.and_eq_true, decide_eq_true_eq, txsP_iff, List.length_map]
  exact ⟨fun ⟨⟨h1, h2, h3⟩, h4, h5⟩ => ⟨h1, h2, h3, h4, h5⟩, fun ⟨h1, h2, h3, h4, h5⟩ => ⟨⟨h1, h2, h3⟩, h4, h5⟩⟩
theorem findT_mem {p : RosP} {n : Int} {t : TxP} (h : findT p n = some t) : t ∈ p.txns ∧ t.num = n := by
  unfold findT at h
  exact ⟨List.mem_of_find?_eq_some h, by simpa using List.find?_some h⟩
theorem findT_idx {p : RosP} (h : RosG p) {i : Nat} (hi : i < p.txns.length) : findT p (p.txns[i]).num = some p.txns[i] := by
  unfold findT
  rw [List.find?_eq_some_iff_getElem]
  refine ⟨by simp, i, hi, rfl, fun j hj => ?_⟩
  have := List.pairwise_iff_getElem.1 h.up j i (by omega) hi hj
  simp only [Bool.not_eq_true', decide_eq_false_iff_not]; omega
theorem putT_set {p : RosP} (h : RosG p) {i : Nat} (hi : i < p.txns.length) {t : TxP} (ht : t.num = (p.txns[i]).num) : putT p t = { p with txns := p.txns.set i t } := by
  unfold putT
  congr 1
  apply List.ext_getElem (by simp)
  intro j h1 h2
  simp only [List.length_map] at h1
  rw [List.getElem_map, List.getElem_set]
  by_cases e : i = j
  · subst e; rw [if_pos ht.symm, if_pos rfl]
  · rw [if_neg e]
    have hne : (p.txns[j]).num ≠ (p.txns[i]).num := by
      rcases Nat.lt_or_gt_of_ne e with hl | hl
      · have := List.pairwise_iff_getElem.1 h.up i j hi h1 hl; omega
      · have := List.pairwise_iff_getElem.1 h.up j i h1 hi hl; omega
    rw [if_neg (fun e2 => hne (e2.trans ht))]
end Go.Proofs.E

namespace Go.Proofs.E
open Go
set_option linter.unusedVariables false
set_option linter.unusedSimpArgs false
set_option linter.unusedSectionVars false
set_option maxRecDepth 4000
set_option maxHeartbeats 1000000
attribute [local irreducible] Yl TL TC TE Spec YSpec R1 Hp.le EnvLe TS TR YS Stays
/-! ## what comes of a roster that may be, may be -/
theorem reserve_ok {r : Rc} (h : recOk r = true) (k : r.kind = 2 ∨ r.kind = 4) : 1 ≤ reserveN r ∧ reserveN r ≤ 400 := by
  have hF := recOk_facts h
  unfold reserveN
  rw [h, if_pos rfl]
  rcases k with k | k
  · rw [k, if_neg (by decide), if_pos rfl]
    have := recB_le (undR_lay hF.il (fun x hx => (hF.im x hx).2.2))
    unfold sectsB; omega
  · rw [k, if_neg (by decide), if_neg (by decide), if_pos rfl]
    unfold sectsB; omega
theorem TxG.late {t : TxP} (h : TxG t) {n : Nat} (h1 : t.last ≤ n) (h2 : n ≤ 1099511627776) : TxG { t with last := n } :=
  ⟨h.s1, h.s3, h.f1, h.fu, Nat.le_trans h.ul h1, h2, h.st, h.so, h.ml, h.ms, h.mb, h.mo⟩
theorem TxG.back {t : TxP} (h : TxG t) {to : Nat} (h1 : t.first ≤ to) (h2 : to ≤ t.undo) : TxG (backT t to) := by
  refine ⟨h.s1, h.s3, h.f1, h1, Nat.le_trans h2 h.ul, h.lm, fun s hs => ?_, h.so.filter _, ?_, fun hne => h.ms ?_, fun m hm => ?_, h.mo.filter _⟩
  · obtain ⟨g1, g2⟩ := List.mem_filter.1 hs
    have := h.st s g1
    simp only [decide_eq_true_eq] at g2
    show t.first < s.lsn ∧ s.lsn ≤ to ∧ _
    omega
  · have := List.length_filter_le (fun m => decide (m ≤ to)) t.marks
    have := h.ml
    show (t.marks.filter _).length ≤ 8
    omega
  · intro e
    apply hne
    show t.marks.filter _ = []
    rw [e]; rfl
  · obtain ⟨g1, g2⟩ := List.mem_filter.1 hm
    have := h.mb m g1
    simp only [decide_eq_true_eq] at g2
    show t.first ≤ m ∧ m ≤ to
    omega
theorem TxG.push {t : TxP} (h : TxG t) {r : Rc} (h1 : t.undo < r.lsn) (h2 : t.last = r.lsn) (h3 : 1 ≤ reserveN r ∧ reserveN r ≤ 400) : TxG (pushT t r) := by
  have := h.fu
  refine ⟨h.s1, h.s3, h.f1, ?_, Nat.le_of_eq h2.symm, h.lm, fun s hs => ?_, ?_, h.ml, h.ms, fun m hm => ?_, h.mo⟩
  · show t.first ≤ r.lsn
    omega
  · show t.first < s.lsn ∧ s.lsn ≤ r.lsn ∧ _
    rcases List.mem_append.1 hs with hs | hs
    · have := h.st s hs; omega
    · rw [List.mem_singleton] at hs
      subst hs
      unfold leftOf; dsimp only; omega
  · show (t.stack ++ [leftOf r]).Pairwise _
    refine List.pairwise_append.2 ⟨h.so, by simp, fun a ha b hb => ?_⟩
    rw [List.mem_singleton] at hb
    subst hb
    have := h.st a ha
    unfold leftOf; dsimp only; omega
  · have := h.mb m hm
    show t.first ≤ m ∧ m ≤ r.lsn
    omega
theorem TxG.next {t : TxP} {r : Rc} (h : TxG t) (hr : recOk r = true) (hp : r.prev = t.last) (hm : mayT t r = true) (k : 2 ≤ r.kind ∧ r.kind ≤ 7) : TxG (nextT t r) := by
  have hF := recOk_facts hr
  have hlm := hF.lsn
  have hpl : t.last < r.lsn ∧ r.lsn ≤ 1099511627776 := by
    unfold recOk at hr
    simp only [Bool.and_eq_true, decide_eq_true_eq] at hr
    have hh := hr.2.1
    unfold headOk at hh
    rw [decide_eq_true_eq] at hh
    omega
  have hl := h.late (n := r.lsn) (by omega) hpl.2
  have hul := h.ul
  unfold mayT at hm
  unfold nextT
  by_cases k2 : r.kind = 2
  · rw [if_pos k2]
    exact hl.push (by dsimp only; omega) rfl (reserve_ok hr (.inl k2))
  · rw [if_neg k2]
    by_cases k35 : r.kind = 3 ∨ r.kind = 5
    · rw [if_pos k35]
      have hw : withinT t r = true := by
        rcases k35 with e | e
        · rw [if_pos (.inl e), Bool.and_eq_true] at hm; exact hm.2
        · rw [if_neg (by omega), if_pos e, Bool.and_eq_true, Bool.and_eq_true] at hm; exact hm.2.1
      unfold withinT at hw
      rw [decide_eq_true_eq] at hw
      exact hl.back hw.1 hw.2
    · rw [if_neg k35]
      by_cases k4 : r.kind = 4
      · rw [if_pos k4]
        rw [if_pos (.inr k4), Bool.and_eq_true] at hm
        have hw := hm.2
        unfold withinT at hw
        rw [decide_eq_true_eq] at hw
        exact (hl.back hw.1 hw.2).push (by show r.next < r.lsn; omega) rfl (reserve_ok hr (.inr k4))
      · rw [if_neg k4]
        split
        · exact ⟨by dsimp only; omega, by dsimp only; omega, hl.f1, hl.fu, hl.ul, hl.lm, by simp, by simp, by simp, by simp, by simp, by simp⟩
        · exact ⟨by dsimp only; omega, by dsimp only; omega, hl.f1, hl.fu, hl.ul, hl.lm, hl.st, hl.so, by simp, by simp, by simp, by simp⟩
theorem RosG.set {p : RosP} (h : RosG p) {i : Nat} (hi : i < p.txns.length) {t : TxP} (ht : t.num = (p.txns[i]).num) (hg : TxG t) : RosG { p with txns := p.txns.set i t } := by
  refine ⟨h.n1, h.n2, by simpa using h.len, fun x hx => ?_, ?_⟩
  · rcases List.mem_or_eq_of_mem_set hx with hx | rfl
    · exact h.tx x hx
    · have := h.tx _ (List.getElem_mem hi)
      exact ⟨by omega, by show x.num < p.next; omega, hg⟩
  · rw [List.pairwise_iff_getElem]
    intro a b ha hb hab
    simp only [List.length_set] at ha hb
    have := List.pairwise_iff_getElem.1 h.up a b ha hb hab
    dsimp only
    rw [List.getElem_set, List.getElem_set]
    split <;> split <;> first | omega | (subst_vars; omega)
theorem RosG.drop {p : RosP} (h : RosG p) (n : Int) : RosG (dropT p n) :=
  ⟨h.n1, h.n2, Nat.le_trans (List.length_filter_le _ _) h.len, fun x hx => h.tx x (List.mem_filter.1 hx).1, h.up.filter _⟩
theorem takes_ok {p : RosP} {r : Rc} (h : RosG p) (hr : recOk r = true) (he : takesE p r = 0) : RosG (takesP p r) := by
  have hk : 1 ≤ r.kind ∧ r.kind ≤ 9 := by
    unfold recOk at hr
    rw [Bool.and_eq_true, decide_eq_true_eq] at hr
    exact hr.1
  unfold takesE at he
  unfold takesP
  by_cases k9 : r.kind = 9
  · rw [if_pos k9]; exact h
  · rw [if_neg k9] at he ⊢
    by_cases k1 : r.kind = 1
    · rw [if_pos k1] at he ⊢
      have hl := (recOk_facts hr).lsn
      have hh : 1 ≤ r.lsn ∧ r.lsn ≤ 1099511627776 := by
        unfold recOk at hr
        simp only [Bool.and_eq_true, decide_eq_true_eq] at hr
        have hh := hr.2.1
        unfold headOk at hh
        rw [decide_eq_true_eq] at hh
        omega
      split at he
      · cases he
      · rename_i hb
        split at he
        · cases he
        · rename_i h8
          have n1 := h.n1
          have n2 := h.n2
          refine ⟨by dsimp only; omega, by dsimp only; omega, by simp only [List.length_append, List.length_singleton]; omega, fun x hx => ?_, ?_⟩
          · rcases List.mem_append.1 hx with hx | hx
            · have := h.tx x hx
              exact ⟨this.1, by dsimp only; omega, this.2.2⟩
            · rw [List.mem_singleton] at hx
              subst hx
              refine ⟨by show 0 < r.txn; omega, by show r.txn < p.next + 1; omega, ⟨by show (1:Int) ≤ 1; omega, by show (1:Int) ≤ 3; omega, hh.1, Nat.le_refl _, Nat.le_refl _, hh.2, by simp [newT], by simp [newT], by simp [newT], by simp [newT], by simp [newT], by simp [newT]⟩⟩
          · refine List.pairwise_append.2 ⟨h.up, by simp, fun a ha b hb2 => ?_⟩
            rw [List.mem_singleton] at hb2
            subst hb2
            have := h.tx a ha
            show a.num < r.txn
            omega
    · rw [if_neg k1] at he ⊢
      cases hf : findT p r.txn with
      | none => rw [hf] at he; cases he
      | some t =>
        rw [hf] at he
        unfold ownE at he
        unfold ownP
        dsimp only at he ⊢
        split at he
        · cases he
        · rename_i hpv
          by_cases k8 : r.kind = 8
          · rw [if_pos k8]; exact h.drop _
          · rw [if_neg k8] at he ⊢
            split at he
            · rename_i hm
              obtain ⟨hm1, hm2⟩ := findT_mem hf
              obtain ⟨i, hi, rfl⟩ := List.mem_iff_getElem.1 hm1
              have hn : (nextT p.txns[i] r).num = p.txns[i].num := by
                unfold nextT
                split
                · rfl
                · split
                  · rfl
                  · split
                    · rfl
                    · split <;> rfl
              rw [putT_set h hi hn]
              exact h.set hi hn ((h.tx _ hm1).2.2.next hr (by omega) hm (by omega))
            · cases he
end Go.Proofs.E

namespace Go.Proofs.E
open Go
set_option linter.unusedVariables false
set_option linter.unusedSimpArgs false
set_option linter.unusedSectionVars false
set_option maxRecDepth 4000
set_option maxHeartbeats 1000000
attribute [local irreducible] Yl TL TC TE Spec YSpec R1 Hp.le EnvLe TS TR YS Stays
-- BN
/-! ## where: where a num is, a num more, a num less -/
theorem atT1_spec (ρ : Hp) (p : Tx) (n : Int) : Spec Tryz.prog 208 [.agg ⟨txV p⟩, .int .i64 n] ρ [] (fun v ρ' L' => v = .int .i64 (cmpI p.num n) ∧ ρ' = ρ ∧ L' = []) := by
  refine spec_enter Tryz.func208 rfl rfl rfl fun u R => ?_
  simp only [argsE, List.cons_append, List.nil_append]
  repeat' (first | (refine tl_is (.func 209) ?_; refine qC rfl rfl (cmpI_spec _ _ _) ?_; rintro v ρ' L' hle ⟨rfl, rfl, rfl⟩ <;> (try simp only [kM, kN, kO])) | (refine iBu ?_; refine tl_y (y_buildN rfl) rfl rfl ?_) | (refine i_op ?_; first | (refine i_qq ?_; refine qQ ?_) | refine qEf ?_) | refine tl_nil ?_ | (refine i_tc ?_; refine qTc ?_) | (refine i_te ?_; refine qTe ?_) | intro _)
  exact qE ⟨rfl, rfl, rfl⟩
abbrev TblT (l : List Tx) : Prop := l.Pairwise (fun a b => a.num < b.num)
/-- what a search answers -/
structure AtT (l : List Tx) (num : Int) (i : Nat) (there : Bool) : Prop where
  le : i ≤ l.length
  hit : there = true → ∃ h : i < l.length, l[i].num = num
  lo : TblT l → ∀ j (h : j < l.length), j < i → l[j].num < num
  hi : TblT l → there = false → ∀ j (h : j < l.length), i ≤ j → num < l[j].num
theorem tblT_lt {l : List Tx} (h : TblT l) (i j : Nat) (hj : j < l.length) (hij : i < j) : (l[i]'(by omega)).num < l[j].num := List.pairwise_iff_getElem.1 h i j (by omega) hj hij
theorem searchT_spec (ρ : Hp) (a : Option Addr) (n c : Nat) (l : List Tx) (h : AIn ρ 7 txV a n l) (hn : n ≤ 1000000) (num : Int) :
    Spec Tryz.prog 207 [.slice a n c, .int .i64 num, .func (.func 208) ⟨[]⟩ ⟨[]⟩] ρ []
    (fun v ρ' L' => ρ' = ρ ∧ ∃ i there, v = .tuple ⟨[.int .i64 (i : Nat), .bool there]⟩ ∧ AtT l num i there ∧ L' = []) := by
  have hl := h.len
  refine spec_enter Tryz.func207 rfl rfl rfl fun u R => ?_
  simp only [argsE, List.cons_append, List.nil_append]
  repeat' (first | (refine iBu ?_; refine tl_y (y_buildN rfl) rfl rfl ?_) | (refine i_op ?_; first | (refine i_qq ?_; refine qQ ?_) | refine qEf ?_) | refine tl_nil ?_ | (refine i_tc ?_; refine qTc ?_) | (refine i_te ?_; refine qTe ?_) | intro _)
  refine tc_loop_g [(0, _), (1, _), (2, _), (6, _), (7, _), (8, _)] (fun (ζ : (Nat) × (Nat)) => [(9, .int .i64 ζ.1), (10, .int .i64 ζ.2)]) (fun (ζ : (Nat) × (Nat)) => ρ) (fun (ζ : (Nat) × (Nat)) => []) (fun (ζ : (Nat) × (Nat)) => ζ.1 ≤ ζ.2 ∧ ζ.2 ≤ n ∧ (TblT l → (∀ k (h : k < l.length), k < ζ.1 → l[k].num < num) ∧ ∀ k (h : k < l.length), ζ.2 ≤ k → num ≤ l[k].num)) (fun (ζ : (Nat) × (Nat)) => ζ.2 - ζ.1) ((0, n)) (⟨Nat.zero_le _, Nat.le_refl _, fun _ => ⟨fun k _ h => by omega, fun k h1 h2 => by omega⟩⟩) ev_le ev_le rfl tk ?_
  rintro ⟨i, j⟩ hI
  try simp only [List.cons_append, List.nil_append, List.append_assoc, List.append_eq] at hI ⊢
  try dsimp only at hI ⊢
  obtain ⟨hij, hj, hok⟩ := hI
  by_cases hlt : i < j
  · have hm : ((i : Int) + (j : Int)) / 2 ^ 1 = (((i + j) / 2 : Nat) : Int) := by omega
    obtain ⟨b, off, C, T, fr, e1, hb, hfit, hc⟩ := h.get (show (i + j) / 2 < l.length by omega)
    have hq : ∀ x : Tx, l[(i + j) / 2]'(by omega) = x → (x.num < num → TblT l → (∀ k (h : k < l.length), k < (i + j) / 2 + 1 → l[k].num < num)) ∧ (num ≤ x.num → TblT l → ∀ k (h : k < l.length), (i + j) / 2 ≤ k → num ≤ l[k].num) := fun x hx => by
      refine ⟨fun hp ht k hk hk2 => ?_, fun hp ht k hk hk2 => ?_⟩
      · have hs := tblT_lt ht k ((i + j) / 2) (by omega)
        by_cases e : k = (i + j) / 2
        · subst e; rw [hx]; exact hp
        · have := hs (by omega); rw [hx] at this; omega
      · have hs := tblT_lt ht ((i + j) / 2) k hk
        by_cases e : k = (i + j) / 2
        · subst e; rw [hx]; exact hp
        · have := hs (by omega); rw [hx] at this; omega
    generalize hX : l[(i + j) / 2]'(by omega) = x at *
    obtain ⟨q1, q2⟩ := hq x rfl
    rw [e1]
    by_cases hlp : x.num < num
    · have hcm : cmpI x.num num < 0 := by unfold cmpI; rw [if_pos hlp]; omega
      repeat' (first | (refine iSr ?_; refine tl_y (y_shr (c := 1) rfl rfl (by omega) (by simp [IntKind.bits])) rfl rfl ?_; rw [hm]) | (refine tl_is (.tmp 24) ?_; refine qC rfl rfl (atT1_spec _ _ _) ?_; rintro v ρ' L' hle ⟨rfl, rfl, rfl⟩ <;> (try simp only [kM, kN, kO])) | (refine iBu ?_; refine tl_y (y_buildN rfl) rfl rfl ?_) | (refine i_op ?_; first | (refine i_qq ?_; refine qQ ?_) | refine qEf ?_) | refine tl_nil ?_ | (refine i_tc ?_; refine qTc ?_) | (refine i_te ?_; refine qTe ?_) | intro _)
      rw [← e1]
      have hs1 := q1 hlp
      refine te_round_g ((i + j) / 2 + 1, j) (⟨by omega, hj, fun ht => ⟨hs1 ht, (hok ht).2⟩⟩) ev_le ev_le rfl tk inferInstance (by first | omega | (dsimp only; omega))
    · have hcm : ¬ cmpI x.num num < 0 := by unfold cmpI; rw [if_neg hlp]; split <;> omega
      repeat' (first | (refine iSr ?_; refine tl_y (y_shr (c := 1) rfl rfl (by omega) (by simp [IntKind.bits])) rfl rfl ?_; rw [hm]) | (refine tl_is (.tmp 24) ?_; refine qC rfl rfl (atT1_spec _ _ _) ?_; rintro v ρ' L' hle ⟨rfl, rfl, rfl⟩ <;> (try simp only [kM, kN, kO])) | (refine iBu ?_; refine tl_y (y_buildN rfl) rfl rfl ?_) | (refine i_op ?_; first | (refine i_qq ?_; refine qQ ?_) | refine qEf ?_) | refine tl_nil ?_ | (refine i_tc ?_; refine qTc ?_) | (refine i_te ?_; refine qTe ?_) | intro _)
      rw [← e1]
      have hs2 := q2 (by omega)
      refine te_round_g (i, (i + j) / 2) (⟨by omega, by omega, fun ht => ⟨(hok ht).1, hs2 ht⟩⟩) ev_le ev_le rfl tk inferInstance (by first | omega | (dsimp only; omega))
  · obtain rfl : i = j := by omega
    by_cases hin : i < n
    · obtain ⟨b, off, C, T, fr, e1, hb, hfit, hc⟩ := h.get (show i < l.length by omega)
      have hX : l[i]'(by omega) = l[i]'(by omega) := rfl
      generalize hx : l[i]'(by omega) = x at hc hX
      rw [e1]
      by_cases hp : x.num = num
      · have hcm : cmpI x.num num = 0 := by unfold cmpI; rw [hp]; simp
        repeat' (first | (refine tl_is (.tmp 40) ?_; refine qC rfl rfl (atT1_spec _ _ _) ?_; rintro v ρ' L' hle ⟨rfl, rfl, rfl⟩ <;> (try simp only [kM, kN, kO, hcm])) | (refine iBu ?_; refine tl_y (y_buildN rfl) rfl rfl ?_) | (refine i_op ?_; first | (refine i_qq ?_; refine qQ ?_) | refine qEf ?_) | refine tl_nil ?_ | (refine i_tc ?_; refine qTc ?_) | (refine i_te ?_; refine qTe ?_) | intro _)
        exact qE ⟨rfl, i, true, rfl, ⟨by omega, fun _ => ⟨by omega, by rw [hx]; exact hp⟩, fun ht => (hok ht).1, (fun _ e => nomatch e)⟩, rfl⟩
      · have hcm : cmpI x.num num ≠ 0 := by unfold cmpI; split <;> (try split) <;> omega
        repeat' (first | (refine tl_is (.tmp 40) ?_; refine qC rfl rfl (atT1_spec _ _ _) ?_; rintro v ρ' L' hle ⟨rfl, rfl, rfl⟩ <;> (try simp only [kM, kN, kO])) | (refine iBu ?_; refine tl_y (y_buildN rfl) rfl rfl ?_) | (refine i_op ?_; first | (refine i_qq ?_; refine qQ ?_) | refine qEf ?_) | refine tl_nil ?_ | (refine i_tc ?_; refine qTc ?_) | (refine i_te ?_; refine qTe ?_) | intro _)
        refine qE ⟨rfl, i, false, rfl, ⟨by omega, (fun e => nomatch e), fun ht => (hok ht).1, fun ht _ k hk hik => ?_⟩, rfl⟩
        have h1 := (hok ht).2 k hk hik
        by_cases e : i = k
        · subst e; rw [hx]; rw [hx] at h1; omega
        · have h2 := tblT_lt ht i k hk (by omega)
          have h3 := (hok ht).2 i (by omega) (Nat.le_refl _)
          omega
    · repeat' (first | (refine iBu ?_; refine tl_y (y_buildN rfl) rfl rfl ?_) | (refine i_op ?_; first | (refine i_qq ?_; refine qQ ?_) | refine qEf ?_) | refine tl_nil ?_ | (refine i_tc ?_; refine qTc ?_) | (refine i_te ?_; refine qTe ?_) | intro _)
      exact qE ⟨rfl, i, false, rfl, ⟨by omega, (fun e => nomatch e), fun ht => (hok ht).1, fun ht _ k hk hik => by omega⟩, rfl⟩
theorem atT_spec (ρ : Hp) (nx : Int) (s : SV) (l : List Tx) (h : AS ρ 7 txV s l) (num : Int) :
    Spec Tryz.prog 128 [.agg ⟨rosV s ⟨nx, l⟩⟩, .int .i64 num] ρ [] (fun v ρ' L' => ρ' = ρ ∧ ∃ i there, v = .tuple ⟨[.int .i64 (i : Nat), .bool there]⟩ ∧ AtT l num i there ∧ L' = []) := by
  have hs := searchT_spec ρ s.a s.n s.c l h.at' h.big num
  refine spec_enter Tryz.func128 rfl rfl rfl fun u R => ?_
  simp only [argsE, List.cons_append, List.nil_append]
  repeat' (first | (refine tl_is (.func 207) ?_; refine qC rfl rfl (hs) ?_; rintro v ρ' L' hle ⟨rfl, i, there, rfl, hA, rfl⟩ <;> (try simp only [kM, kN, kO])) | (refine iBu ?_; refine tl_y (y_buildN rfl) rfl rfl ?_) | (refine i_op ?_; first | (refine i_qq ?_; refine qQ ?_) | refine qEf ?_) | refine tl_nil ?_ | (refine i_tc ?_; refine qTc ?_) | (refine i_te ?_; refine qTe ?_) | intro _)
  exact qE ⟨rfl, i, there, rfl, hA, rfl⟩
end Go.Proofs.E

namespace Go.Proofs.E
open Go
set_option linter.unusedVariables false
set_option linter.unusedSimpArgs false
set_option linter.unusedSectionVars false
set_option maxRecDepth 4000
set_option maxHeartbeats 1000000
attribute [local irreducible] Yl TL TC TE Spec YSpec R1 Hp.le EnvLe TS TR YS Stays
-- BN
/-! ## what is deleted out of a row of one's own -/
theorem idxL_spec (ρ : Hp) (a : Option Addr) (n c : Nat) (l : List Lf) (h : AIn ρ 2 lfV a n l) (hn : n ≤ 200000000000000) (F : Nat) [hF : Fun Tryz.prog F] (cs : List Value) (X : SH) (pp : Lf → Bool)
    (hp : ∀ x ∈ l, Spec Tryz.prog F (.agg ⟨lfV x⟩ :: cs) ρ X (fun z ρ' L' => z = .bool (pp x) ∧ ρ' = ρ ∧ L' = X)) :
    Spec Tryz.prog 312 [.slice a n c, .func (.func F) ⟨[]⟩ ⟨cs⟩] ρ X (fun z ρ' L' => z = .int .i64 (idxI pp l) ∧ ρ' = ρ ∧ L' = X) := by
  have hl := h.len
  refine spec_enter Tryz.func312 rfl rfl rfl fun u R => ?_
  simp only [argsE, List.cons_append, List.nil_append]
  repeat' (first | (refine iBu ?_; refine tl_y (y_buildN rfl) rfl rfl ?_) | (refine i_op ?_; first | (refine i_qq ?_; refine qQ ?_) | refine qEf ?_) | refine tl_nil ?_ | (refine i_tc ?_; refine qTc ?_) | (refine i_te ?_; refine qTe ?_) | intro _)
  refine tc_loop_g [(0, _), (1, _), (7, _)] (fun (ζ : (Nat)) => [(8, .int .i64 ζ), (4, .int .i64 0)]) (fun (ζ : (Nat)) => ρ) (fun (ζ : (Nat)) => X) (fun (ζ : (Nat)) => ζ ≤ n ∧ ∀ x ∈ l.take ζ, pp x = false) (fun (ζ : (Nat)) => n - ζ) (0) (⟨Nat.zero_le _, by simp⟩) ev_le ev_le rfl tk ?_
  rintro k hI
  try simp only [List.cons_append, List.nil_append, List.append_assoc, List.append_eq] at hI ⊢
  try dsimp only at hI ⊢
  obtain ⟨hk, hok⟩ := hI
  by_cases hlt : k < n
  · obtain ⟨b, off, C, T, fr, rfl, hb, hfit, hc⟩ := h.get (show k < l.length by omega)
    have hf := fun (e : pp l[k] = true) => idx_found (p := pp) (show k < l.length by omega) e hok
    have ht := fun (e : pp l[k] = false) => take_more (p := fun x => pp x = false) (show k < l.length by omega) e hok
    have hp0 := hp _ (List.getElem_mem (show k < l.length by omega))
    cases hx : pp l[k]
    · have hok2 := ht hx
      rw [hx] at hp0
      generalize l[k] = x at *
      repeat' (first | (refine tl_is (.tmp 11) ?_; refine qC rfl rfl (hp0) ?_; rintro v ρ' L' hle ⟨rfl, rfl, rfl⟩ <;> (try simp only [kM, kN, kO])) | (refine iBu ?_; refine tl_y (y_buildN rfl) rfl rfl ?_) | (refine i_op ?_; first | (refine i_qq ?_; refine qQ ?_) | refine qEf ?_) | refine tl_nil ?_ | (refine i_tc ?_; refine qTc ?_) | (refine i_te ?_; refine qTe ?_) | intro _)
      refine te_round_g (k + 1) (⟨hlt, hok2⟩) ev_le ev_le rfl tk inferInstance (by first | omega | (dsimp only; omega))
    · have e := hf hx
      rw [hx] at hp0
      have e2 : idxI pp l = (k : Int) := by unfold idxI; rw [e]
      rw [e2]
      generalize l[k] = x at *
      repeat' (first | (refine tl_is (.tmp 11) ?_; refine qC rfl rfl (hp0) ?_; rintro v ρ' L' hle ⟨rfl, rfl, rfl⟩ <;> (try simp only [kM, kN, kO])) | (refine iBu ?_; refine tl_y (y_buildN rfl) rfl rfl ?_) | (refine i_op ?_; first | (refine i_qq ?_; refine qQ ?_) | refine qEf ?_) | refine tl_nil ?_ | (refine i_tc ?_; refine qTc ?_) | (refine i_te ?_; refine qTe ?_) | intro _)
      exact qE (L' := _) ⟨rfl, rfl, rfl⟩
  · have hk2 : k = l.length := by omega
    rw [hk2, List.take_length] at hok
    have e2 : idxI pp l = -1 := by unfold idxI; rw [idx_none hok]
    rw [e2]
    repeat' (first | (refine iBu ?_; refine tl_y (y_buildN rfl) rfl rfl ?_) | (refine i_op ?_; first | (refine i_qq ?_; refine qQ ?_) | refine qEf ?_) | refine tl_nil ?_ | (refine i_tc ?_; refine qTc ?_) | (refine i_te ?_; refine qTe ?_) | intro _)
    exact qE (L' := _) ⟨rfl, rfl, rfl⟩
theorem delL_spec (ρ : Hp) (v : Value) (sp : List Value) (l : List Lf) (hl : l.length ≤ 200000000000000) (hown : OwnS v l.length ((l.map lfV).flatten) sp 2) (F : Nat) [hF : Fun Tryz.prog F] (cs : List Value) (X : SH) (pp : Lf → Bool)
    (hp : ∀ ρ1, ρ.le ρ1 → ∀ x ∈ l, Spec Tryz.prog F (.agg ⟨lfV x⟩ :: cs) ρ1 X (fun z ρ' L' => z = .bool (pp x) ∧ ρ' = ρ1 ∧ L' = X)) :
    Spec Tryz.prog 289 [v, .func (.func F) ⟨[]⟩ ⟨cs⟩] ρ (ownC v ((l.map lfV).flatten) sp 74 :: X)
      (fun z ρ' L' => ρ' = ρ ∧ ∃ sp', OwnS z (l.filter (fun x => !pp x)).length (((l.filter (fun x => !pp x)).map lfV).flatten) sp' 2 ∧ L' = ownC z (((l.filter (fun x => !pp x)).map lfV).flatten) sp' 74 :: X) := by
  have hidx : Spec Tryz.prog 312 [v, .func (.func F) ⟨[]⟩ ⟨cs⟩] ρ ([ownC v ((l.map lfV).flatten) sp 74] ++ X) (fun z ρ' L' => z = .int .i64 (idxI pp l) ∧ ρ' = ρ ∧ L' = ownC v ((l.map lfV).flatten) sp 74 :: X) := by
    refine (Spec.thaw (C := [ownC v ((l.map lfV).flatten) sp 74]) (L := X) (Post := fun z L' => z = .int .i64 (idxI pp l) ∧ L' = X) (fun ρ1 hle hf => ?_)).mono ?_
    · obtain ⟨a, c, rfl, hc, hA⟩ := hown.aIn rfl (fun x _ => rfl) (by simpa using hf)
      exact (idxL_spec ρ1 a l.length c l hA hl F cs X pp (hp ρ1 hle)).mono (fun z ρ' L' _ h => ⟨h.2.1, h.1, h.2.2⟩)
    · rintro z ρ' L' _ ⟨rfl, L2, ⟨rfl, rfl⟩, rfl⟩
      exact ⟨rfl, rfl, rfl⟩
  rcases hown.out with ⟨rfl, h0, h1, rfl⟩ | ⟨b, cap, rfl, h1, h2, h3⟩
  · have hl0 : l = [] := List.eq_nil_of_length_eq_zero h0
    subst hl0
    have e : idxI pp [] = -1 := rfl
    rw [e] at hidx
    refine spec_enter Tryz.func289 rfl rfl rfl fun u R => ?_
    simp only [argsE, List.cons_append, List.nil_append] at hidx ⊢
    repeat' (first | (refine tl_is (.func 312) ?_; refine qC rfl rfl (hidx) ?_; rintro v ρ' L' hle ⟨rfl, rfl, rfl⟩ <;> (try simp only [kM, kN, kO])) | (refine iBu ?_; refine tl_y (y_buildN rfl) rfl rfl ?_) | (refine i_op ?_; first | (refine i_qq ?_; refine qQ ?_) | refine qEf ?_) | refine tl_nil ?_ | (refine i_tc ?_; refine qTc ?_) | (refine i_te ?_; refine qTe ?_) | intro _)
    exact qE (L' := [] :: X) ⟨rfl, [], OwnS.nil 2, rfl⟩
  · by_cases hall : ∀ x ∈ l, pp x = false
    · have e : idxI pp l = -1 := by unfold idxI; rw [idx_none hall]
      have hfl : l.filter (fun x => !pp x) = l := List.filter_eq_self.2 (fun x hx => by rw [hall x hx]; rfl)
      rw [e] at hidx
      rw [hfl]
      refine spec_enter Tryz.func289 rfl rfl rfl fun u R => ?_
      simp only [argsE, List.cons_append, List.nil_append] at hidx ⊢
      repeat' (first | (refine tl_is (.func 312) ?_; refine qC rfl rfl (hidx) ?_; rintro v ρ' L' hle ⟨rfl, rfl, rfl⟩ <;> (try simp only [kM, kN, kO])) | (refine iBu ?_; refine tl_y (y_buildN rfl) rfl rfl ?_) | (refine i_op ?_; first | (refine i_qq ?_; refine qQ ?_) | refine qEf ?_) | refine tl_nil ?_ | (refine i_tc ?_; refine qTc ?_) | (refine i_te ?_; refine qTe ?_) | intro _)
      exact qE (L' := ownC (.slice (some ⟨b, 0, none⟩) l.length cap) ((l.map lfV).flatten) sp 74 :: X) ⟨rfl, sp, hown, rfl⟩
    · obtain ⟨i, hi, hpi, hbef⟩ : ∃ i, ∃ h : i < l.length, pp l[i] = true ∧ ∀ x ∈ l.take i, pp x = false := by
        cases hf : l.findIdx? pp with
        | none => exact absurd (fun x hx => by have := List.findIdx?_eq_none_iff.1 hf x hx; exact this) hall
        | some i =>
          obtain ⟨h1, h2, h3⟩ := List.findIdx?_eq_some_iff_getElem.1 hf
          refine ⟨i, h1, h2, fun x hx => ?_⟩
          obtain ⟨j, hj, rfl⟩ := List.mem_take_iff_getElem.1 hx
          have := h3 j (by omega)
          simpa using this
      have e : idxI pp l = (i : Int) := by unfold idxI; rw [idx_found (p := pp) hi hpi hbef]
      have hK0 : (l.take i).filter (fun x => !pp x) = l.take i := List.filter_eq_self.2 (fun x hx => by rw [hbef x hx]; rfl)
      have hK1 : (l.take (i + 1)).filter (fun x => !pp x) = l.take i := by
        rw [List.take_succ_eq_append_getElem hi, List.filter_append, hK0, List.filter_cons, if_neg (by simp [hpi])]; simp
      have hfl : ∀ m : List Lf, ((m.map lfV).flatten).length = m.length * 2 := fun m => flatN_len lfV_len m
      have hC : ∀ xs sp, ownC (.slice (some ⟨b, 0, none⟩) l.length cap) xs sp 74 = [(b, .cells ⟨xs ++ sp⟩ 74 (0, 0))] := fun _ _ => rfl
      have hsplit : (l.map lfV).flatten ++ sp = ((l.take i).map lfV).flatten ++ (lfV l[i] ++ (((l.drop (i + 1)).map lfV).flatten ++ sp)) := by
        have : l = l.take i ++ l[i] :: l.drop (i + 1) := by rw [← List.drop_eq_getElem_cons hi, List.take_append_drop]
        have h2 : ∀ (A : List Lf) (x : Lf) (B : List Lf), ((A ++ x :: B).map lfV).flatten ++ sp = (A.map lfV).flatten ++ (lfV x ++ ((B.map lfV).flatten ++ sp)) := fun A x B => by simp
        exact (congrArg (fun l => (l.map lfV).flatten ++ sp) this).trans (h2 _ _ _)
      rw [hC, e] at hidx
      rw [hC]
      refine spec_enter Tryz.func289 rfl rfl rfl fun u R => ?_
      simp only [argsE, List.cons_append, List.nil_append] at hidx ⊢
      repeat' (first | (refine tl_is (.func 312) ?_; refine qC rfl rfl (hidx) ?_; rintro v ρ' L' hle ⟨rfl, rfl, rfl⟩ <;> (try simp only [kM, kN, kO])) | (refine iBu ?_; refine tl_y (y_buildN rfl) rfl rfl ?_) | (refine i_op ?_; first | (refine i_qq ?_; refine qQ ?_) | refine qEf ?_) | refine tl_nil ?_ | (refine i_tc ?_; refine qTc ?_) | (refine i_te ?_; refine qTe ?_) | intro _)
      rw [hsplit]
      refine tc_loop_g [(0, _), (1, _), (4, _)] (fun (ζ : (Nat) × (Nat) × (List Lf) × (List Value)) => [(5, .int .i64 ζ.2.1), (6, .int .i64 ζ.1)]) (fun (ζ : (Nat) × (Nat) × (List Lf) × (List Value)) => ρ') (fun (ζ : (Nat) × (Nat) × (List Lf) × (List Value)) => [(b, .cells ⟨(ζ.2.2.1.map lfV).flatten ++ (ζ.2.2.2 ++ (((l.drop ζ.1).map lfV).flatten ++ sp))⟩ 74 (0, 0))] :: X) (fun (ζ : (Nat) × (Nat) × (List Lf) × (List Value)) => ζ.1 ≤ l.length ∧ ζ.2.1 = ζ.2.2.1.length ∧ ζ.2.2.1 = (l.take ζ.1).filter (fun x => !pp x) ∧ ζ.2.2.1.length < ζ.1 ∧ ζ.2.2.2.length = (ζ.1 - ζ.2.2.1.length) * 2) (fun (ζ : (Nat) × (Nat) × (List Lf) × (List Value)) => l.length - ζ.1) ((i + 1, i, l.take i, lfV l[i])) (⟨hi, by simp; omega, hK1.symm, by simp; omega, by simp; omega⟩) ev_le ev_le rfl tk ?_
      rintro ⟨j, kl, K, M⟩ hI
      try simp only [List.cons_append, List.nil_append, List.append_assoc, List.append_eq] at hI ⊢
      try dsimp only at hI ⊢
      obtain ⟨hj, rfl, hK, hKj, hM⟩ := hI
      have hKl := hfl K
      by_cases hlt : j < l.length
      · have hd := List.drop_eq_getElem_cons hlt
        have hx1 : (l.take (j + 1)).filter (fun x => !pp x) = K ++ (if pp l[j] then [] else [l[j]]) := by
          rw [List.take_succ_eq_append_getElem hlt, List.filter_append, ← hK, List.filter_cons]
          cases pp l[j] <;> simp
        have hp0 := hp ρ' (Hp.le_refl ρ') _ (List.getElem_mem hlt)
        rw [hd]
        generalize l[j] = x at *
        obtain ⟨M1, M2, rfl, hM1⟩ : ∃ M1 M2 : List Value, M = M1 ++ M2 ∧ M1.length = 2 := ⟨M.take 2, M.drop 2, (List.take_append_drop _ _).symm, by rw [List.length_take]; omega⟩
        simp only [List.map_cons, List.flatten_cons, List.append_assoc]
        have hM2 : M2.length = (j - K.length) * 2 - 2 := by rw [List.length_append] at hM; omega
        have hcell : ((K.map lfV).flatten ++ (M1 ++ (M2 ++ (lfV x ++ (((l.drop (j + 1)).map lfV).flatten ++ sp))))).drop (0 + j * 2) = lfV x ++ (((l.drop (j + 1)).map lfV).flatten ++ sp) := by
          rw [← List.append_assoc M1, ← List.append_assoc]
          refine List.drop_left' ?_
          simp only [List.length_append, hKl]; omega
        have hcc : (((K.map lfV).flatten ++ (M1 ++ (M2 ++ (lfV x ++ (((l.drop (j + 1)).map lfV).flatten ++ sp))))).drop (0 + j * 2)).take 2 = lfV x := by rw [hcell]; rfl
        have hfit : 0 + j * 2 + 2 ≤ ((K.map lfV).flatten ++ (M1 ++ (M2 ++ (lfV x ++ (((l.drop (j + 1)).map lfV).flatten ++ sp))))).length := by
          have := congrArg List.length hcell
          simp only [List.length_drop, List.length_append, show (lfV x).length = 2 from rfl] at this ⊢
          omega
        have hPl : ((K.map lfV).flatten).length = 0 + K.length * 2 := by rw [hKl]; omega
        cases hpx : pp x
        · rw [hpx] at hp0 hx1
          have hre : (K.map lfV).flatten ++ (lfV x ++ (M2 ++ (lfV x ++ (((l.drop (j + 1)).map lfV).flatten ++ sp)))) = ((K ++ [x]).map lfV).flatten ++ ((M2 ++ lfV x) ++ (((l.drop (j + 1)).map lfV).flatten ++ sp)) := by simp
          (try simp only [kM, kN, kO] at hre)
          repeat' (first | (refine tl_is (.tmp 26) ?_; refine qC rfl rfl (hp0) ?_; rintro v ρ' L' hle ⟨rfl, rfl, rfl⟩ <;> (try simp only [kM, kN, kO])) | (refine tl_store_midA (P := _) (l := M1) rfl rfl hPl hM1 rfl rfl ?_) | (refine iBu ?_; refine tl_y (y_buildN rfl) rfl rfl ?_) | (refine i_op ?_; first | (refine i_qq ?_; refine qQ ?_) | refine qEf ?_) | refine tl_nil ?_ | (refine i_tc ?_; refine qTc ?_) | (refine i_te ?_; refine qTe ?_) | intro _)
          (try simp only [kM, kN, kO])
          rw [hre]
          have hKn : (K ++ [x]).length = K.length + 1 := by simp
          rw [show ((K.length : Int) + 1) = (((K ++ [x]).length : Nat) : Int) by rw [hKn]; omega]
          refine te_round_g (j + 1, (K ++ [x]).length, K ++ [x], M2 ++ lfV x) (⟨hlt, rfl, by rw [hx1]; rfl, by dsimp only; omega, by simp only [List.length_append, List.length_singleton, show (lfV x).length = 2 from rfl]; omega⟩) ev_le ev_le rfl tk inferInstance (by first | omega | (dsimp only; omega))
        · rw [hpx] at hp0 hx1
          have hre : (K.map lfV).flatten ++ (M1 ++ (M2 ++ (lfV x ++ (((l.drop (j + 1)).map lfV).flatten ++ sp)))) = (K.map lfV).flatten ++ (((M1 ++ M2) ++ lfV x) ++ (((l.drop (j + 1)).map lfV).flatten ++ sp)) := by simp
          (try simp only [kM, kN, kO] at hre)
          repeat' (first | (refine tl_is (.tmp 26) ?_; refine qC rfl rfl (hp0) ?_; rintro v ρ' L' hle ⟨rfl, rfl, rfl⟩ <;> (try simp only [kM, kN, kO])) | (refine iBu ?_; refine tl_y (y_buildN rfl) rfl rfl ?_) | (refine i_op ?_; first | (refine i_qq ?_; refine qQ ?_) | refine qEf ?_) | refine tl_nil ?_ | (refine i_tc ?_; refine qTc ?_) | (refine i_te ?_; refine qTe ?_) | intro _)
          (try simp only [kM, kN, kO])
          rw [hre]
          refine te_round_g (j + 1, K.length, K, (M1 ++ M2) ++ lfV x) (⟨hlt, rfl, by rw [hx1]; simp, by dsimp only; omega, by simp only [List.length_append, List.length_singleton, show (lfV x).length = 2 from rfl] at hM ⊢; omega⟩) ev_le ev_le rfl tk inferInstance (by first | omega | (dsimp only; omega))
      · obtain rfl : j = l.length := by omega
        rw [List.take_length] at hK
        simp only [List.drop_length, List.map_nil, List.flatten_nil, List.nil_append]
        have hni : ¬ cap = K.length := by omega
        have hst : ∀ ws : List Value, ws.length = (l.length - K.length) * 2 → stc ((K.map lfV).flatten ++ (M ++ sp)) (K.length * 2) ws = (K.map lfV).flatten ++ (ws ++ sp) := fun ws hw => by
          rw [← hKl, stcN_mid (by rw [hw, hM])]
        repeat' (first | (refine iBu ?_; refine tl_y (y_buildN rfl) rfl rfl ?_) | (refine i_op ?_; first | (refine i_qq ?_; refine qQ ?_) | refine qEf ?_) | refine tl_nil ?_ | (refine i_tc ?_; refine qTc ?_) | (refine i_te ?_; refine qTe ?_) | intro _)
        simp only [Int.toNat_natCast, if_neg hni, Option.map_some, addr_add, Nat.zero_add]
        refine tl_clearN (sz := 2) rfl rfl rfl (by simp only [List.length_append]; omega) (by omega) (fun ws hws => ?_)
        rw [hst ws hws]
        repeat' (first | (refine iBu ?_; refine tl_y (y_buildN rfl) rfl rfl ?_) | (refine i_op ?_; first | (refine i_qq ?_; refine qQ ?_) | refine qEf ?_) | refine tl_nil ?_ | (refine i_tc ?_; refine qTc ?_) | (refine i_te ?_; refine qTe ?_) | intro _)
        rw [← hK]
        refine qE (L' := [(b, .cells ⟨(K.map lfV).flatten ++ (ws ++ sp)⟩ 74 (0, 0))] :: X) ⟨rfl, ws ++ sp, ⟨.inr ⟨b, cap, rfl, hKl, ?_, by omega⟩⟩, rfl⟩
        simp only [List.length_append, hws]
        have : ((l.map lfV).flatten).length + sp.length = cap * 2 := h2
        rw [hfl l] at this
        omega
theorem idxX_spec (ρ : Hp) (a : Option Addr) (n c : Nat) (l : List Tx) (h : AIn ρ 7 txV a n l) (hn : n ≤ 200000000000000) (F : Nat) [hF : Fun Tryz.prog F] (cs : List Value) (X : SH) (pp : Tx → Bool)
    (hp : ∀ x ∈ l, Spec Tryz.prog F (.agg ⟨txV x⟩ :: cs) ρ X (fun z ρ' L' => z = .bool (pp x) ∧ ρ' = ρ ∧ L' = X)) :
    Spec Tryz.prog 293 [.slice a n c, .func (.func F) ⟨[]⟩ ⟨cs⟩] ρ X (fun z ρ' L' => z = .int .i64 (idxI pp l) ∧ ρ' = ρ ∧ L' = X) := by
  have hl := h.len
  refine spec_enter Tryz.func293 rfl rfl rfl fun u R => ?_
  simp only [argsE, List.cons_append, List.nil_append]
  repeat' (first | (refine iBu ?_; refine tl_y (y_buildN rfl) rfl rfl ?_) | (refine i_op ?_; first | (refine i_qq ?_; refine qQ ?_) | refine qEf ?_) | refine tl_nil ?_ | (refine i_tc ?_; refine qTc ?_) | (refine i_te ?_; refine qTe ?_) | intro _)
  refine tc_loop_g [(0, _), (1, _), (7, _)] (fun (ζ : (Nat)) => [(8, .int .i64 ζ), (4, .int .i64 0)]) (fun (ζ : (Nat)) => ρ) (fun (ζ : (Nat)) => X) (fun (ζ : (Nat)) => ζ ≤ n ∧ ∀ x ∈ l.take ζ, pp x = false) (fun (ζ : (Nat)) => n - ζ) (0) (⟨Nat.zero_le _, by simp⟩) ev_le ev_le rfl tk ?_
  rintro k hI
  try simp only [List.cons_append, List.nil_append, List.append_assoc, List.append_eq] at hI ⊢
  try dsimp only at hI ⊢
  obtain ⟨hk, hok⟩ := hI
  by_cases hlt : k < n
  · obtain ⟨b, off, C, T, fr, rfl, hb, hfit, hc⟩ := h.get (show k < l.length by omega)
    have hf := fun (e : pp l[k] = true) => idx_found (p := pp) (show k < l.length by omega) e hok
    have ht := fun (e : pp l[k] = false) => take_more (p := fun x => pp x = false) (show k < l.length by omega) e hok
    have hp0 := hp _ (List.getElem_mem (show k < l.length by omega))
    cases hx : pp l[k]
    · have hok2 := ht hx
      rw [hx] at hp0
      generalize l[k] = x at *
      repeat' (first | (refine tl_is (.tmp 11) ?_; refine qC rfl rfl (hp0) ?_; rintro v ρ' L' hle ⟨rfl, rfl, rfl⟩ <;> (try simp only [kM, kN, kO])) | (refine iBu ?_; refine tl_y (y_buildN rfl) rfl rfl ?_) | (refine i_op ?_; first | (refine i_qq ?_; refine qQ ?_) | refine qEf ?_) | refine tl_nil ?_ | (refine i_tc ?_; refine qTc ?_) | (refine i_te ?_; refine qTe ?_) | intro _)
      refine te_round_g (k + 1) (⟨hlt, hok2⟩) ev_le ev_le rfl tk inferInstance (by first | omega | (dsimp only; omega))
    · have e := hf hx
      rw [hx] at hp0
      have e2 : idxI pp l = (k : Int) := by unfold idxI; rw [e]
      rw [e2]
      generalize l[k] = x at *
      repeat' (first | (refine tl_is (.tmp 11) ?_; refine qC rfl rfl (hp0) ?_; rintro v ρ' L' hle ⟨rfl, rfl, rfl⟩ <;> (try simp only [kM, kN, kO])) | (refine iBu ?_; refine tl_y (y_buildN rfl) rfl rfl ?_) | (refine i_op ?_; first | (refine i_qq ?_; refine qQ ?_) | refine qEf ?_) | refine tl_nil ?_ | (refine i_tc ?_; refine qTc ?_) | (refine i_te ?_; refine qTe ?_) | intro _)
      exact qE (L' := _) ⟨rfl, rfl, rfl⟩
  · have hk2 : k = l.length := by omega
    rw [hk2, List.take_length] at hok
    have e2 : idxI pp l = -1 := by unfold idxI; rw [idx_none hok]
    rw [e2]
    repeat' (first | (refine iBu ?_; refine tl_y (y_buildN rfl) rfl rfl ?_) | (refine i_op ?_; first | (refine i_qq ?_; refine qQ ?_) | refine qEf ?_) | refine tl_nil ?_ | (refine i_tc ?_; refine qTc ?_) | (refine i_te ?_; refine qTe ?_) | intro _)
    exact qE (L' := _) ⟨rfl, rfl, rfl⟩
theorem delX_spec (ρ : Hp) (v : Value) (sp : List Value) (l : List Tx) (hl : l.length ≤ 200000000000000) (hown : OwnS v l.length ((l.map txV).flatten) sp 7) (F : Nat) [hF : Fun Tryz.prog F] (cs : List Value) (X : SH) (pp : Tx → Bool)
    (hp : ∀ ρ1, ρ.le ρ1 → ∀ x ∈ l, Spec Tryz.prog F (.agg ⟨txV x⟩ :: cs) ρ1 X (fun z ρ' L' => z = .bool (pp x) ∧ ρ' = ρ1 ∧ L' = X)) :
    Spec Tryz.prog 267 [v, .func (.func F) ⟨[]⟩ ⟨cs⟩] ρ (ownC v ((l.map txV).flatten) sp 72 :: X)
      (fun z ρ' L' => ρ' = ρ ∧ ∃ sp', OwnS z (l.filter (fun x => !pp x)).length (((l.filter (fun x => !pp x)).map txV).flatten) sp' 7 ∧ L' = ownC z (((l.filter (fun x => !pp x)).map txV).flatten) sp' 72 :: X) := by
  have hidx : Spec Tryz.prog 293 [v, .func (.func F) ⟨[]⟩ ⟨cs⟩] ρ ([ownC v ((l.map txV).flatten) sp 72] ++ X) (fun z ρ' L' => z = .int .i64 (idxI pp l) ∧ ρ' = ρ ∧ L' = ownC v ((l.map txV).flatten) sp 72 :: X) := by
    refine (Spec.thaw (C := [ownC v ((l.map txV).flatten) sp 72]) (L := X) (Post := fun z L' => z = .int .i64 (idxI pp l) ∧ L' = X) (fun ρ1 hle hf => ?_)).mono ?_
    · obtain ⟨a, c, rfl, hc, hA⟩ := hown.aIn rfl (fun x _ => rfl) (by simpa using hf)
      exact (idxX_spec ρ1 a l.length c l hA hl F cs X pp (hp ρ1 hle)).mono (fun z ρ' L' _ h => ⟨h.2.1, h.1, h.2.2⟩)
    · rintro z ρ' L' _ ⟨rfl, L2, ⟨rfl, rfl⟩, rfl⟩
      exact ⟨rfl, rfl, rfl⟩
  rcases hown.out with ⟨rfl, h0, h1, rfl⟩ | ⟨b, cap, rfl, h1, h2, h3⟩
  · have hl0 : l = [] := List.eq_nil_of_length_eq_zero h0
    subst hl0
    have e : idxI pp [] = -1 := rfl
    rw [e] at hidx
    refine spec_enter Tryz.func267 rfl rfl rfl fun u R => ?_
    simp only [argsE, List.cons_append, List.nil_append] at hidx ⊢
    repeat' (first | (refine tl_is (.func 293) ?_; refine qC rfl rfl (hidx) ?_; rintro v ρ' L' hle ⟨rfl, rfl, rfl⟩ <;> (try simp only [kM, kN, kO])) | (refine iBu ?_; refine tl_y (y_buildN rfl) rfl rfl ?_) | (refine i_op ?_; first | (refine i_qq ?_; refine qQ ?_) | refine qEf ?_) | refine tl_nil ?_ | (refine i_tc ?_; refine qTc ?_) | (refine i_te ?_; refine qTe ?_) | intro _)
    exact qE (L' := [] :: X) ⟨rfl, [], OwnS.nil 7, rfl⟩
  · by_cases hall : ∀ x ∈ l, pp x = false
    · have e : idxI pp l = -1 := by unfold idxI; rw [idx_none hall]
      have hfl : l.filter (fun x => !pp x) = l := List.filter_eq_self.2 (fun x hx => by rw [hall x hx]; rfl)
      rw [e] at hidx
      rw [hfl]
      refine spec_enter Tryz.func267 rfl rfl rfl fun u R => ?_
      simp only [argsE, List.cons_append, List.nil_append] at hidx ⊢
      repeat' (first | (refine tl_is (.func 293) ?_; refine qC rfl rfl (hidx) ?_; rintro v ρ' L' hle ⟨rfl, rfl, rfl⟩ <;> (try simp only [kM, kN, kO])) | (refine iBu ?_; refine tl_y (y_buildN rfl) rfl rfl ?_) | (refine i_op ?_; first | (refine i_qq ?_; refine qQ ?_) | refine qEf ?_) | refine tl_nil ?_ | (refine i_tc ?_; refine qTc ?_) | (refine i_te ?_; refine qTe ?_) | intro _)
      exact qE (L' := ownC (.slice (some ⟨b, 0, none⟩) l.length cap) ((l.map txV).flatten) sp 72 :: X) ⟨rfl, sp, hown, rfl⟩
    · obtain ⟨i, hi, hpi, hbef⟩ : ∃ i, ∃ h : i < l.length, pp l[i] = true ∧ ∀ x ∈ l.take i, pp x = false := by
        cases hf : l.findIdx? pp with
        | none => exact absurd (fun x hx => by have := List.findIdx?_eq_none_iff.1 hf x hx; exact this) hall
        | some i =>
          obtain ⟨h1, h2, h3⟩ := List.findIdx?_eq_some_iff_getElem.1 hf
          refine ⟨i, h1, h2, fun x hx => ?_⟩
          obtain ⟨j, hj, rfl⟩ := List.mem_take_iff_getElem.1 hx
          have := h3 j (by omega)
          simpa using this
      have e : idxI pp l = (i : Int) := by unfold idxI; rw [idx_found (p := pp) hi hpi hbef]
      have hK0 : (l.take i).filter (fun x => !pp x) = l.take i := List.filter_eq_self.2 (fun x hx => by rw [hbef x hx]; rfl)
      have hK1 : (l.take (i + 1)).filter (fun x => !pp x) = l.take i := by
        rw [List.take_succ_eq_append_getElem hi, List.filter_append, hK0, List.filter_cons, if_neg (by simp [hpi])]; simp
      have hfl : ∀ m : List Tx, ((m.map txV).flatten).length = m.length * 7 := fun m => flatN_len txV_len m
      have hC : ∀ xs sp, ownC (.slice (some ⟨b, 0, none⟩) l.length cap) xs sp 72 = [(b, .cells ⟨xs ++ sp⟩ 72 (0, 0))] := fun _ _ => rfl
      have hsplit : (l.map txV).flatten ++ sp = ((l.take i).map txV).flatten ++ (txV l[i] ++ (((l.drop (i + 1)).map txV).flatten ++ sp)) := by
        have : l = l.take i ++ l[i] :: l.drop (i + 1) := by rw [← List.drop_eq_getElem_cons hi, List.take_append_drop]
        have h2 : ∀ (A : List Tx) (x : Tx) (B : List Tx), ((A ++ x :: B).map txV).flatten ++ sp = (A.map txV).flatten ++ (txV x ++ ((B.map txV).flatten ++ sp)) := fun A x B => by simp
        exact (congrArg (fun l => (l.map txV).flatten ++ sp) this).trans (h2 _ _ _)
      rw [hC, e] at hidx
      rw [hC]
      refine spec_enter Tryz.func267 rfl rfl rfl fun u R => ?_
      simp only [argsE, List.cons_append, List.nil_append] at hidx ⊢
      repeat' (first | (refine tl_is (.func 293) ?_; refine qC rfl rfl (hidx) ?_; rintro v ρ' L' hle ⟨rfl, rfl, rfl⟩ <;> (try simp only [kM, kN, kO])) | (refine iBu ?_; refine tl_y (y_buildN rfl) rfl rfl ?_) | (refine i_op ?_; first | (refine i_qq ?_; refine qQ ?_) | refine qEf ?_) | refine tl_nil ?_ | (refine i_tc ?_; refine qTc ?_) | (refine i_te ?_; refine qTe ?_) | intro _)
      rw [hsplit]
      refine tc_loop_g [(0, _), (1, _), (4, _)] (fun (ζ : (Nat) × (Nat) × (List Tx) × (List Value)) => [(5, .int .i64 ζ.2.1), (6, .int .i64 ζ.1)]) (fun (ζ : (Nat) × (Nat) × (List Tx) × (List Value)) => ρ') (fun (ζ : (Nat) × (Nat) × (List Tx) × (List Value)) => [(b, .cells ⟨(ζ.2.2.1.map txV).flatten ++ (ζ.2.2.2 ++ (((l.drop ζ.1).map txV).flatten ++ sp))⟩ 72 (0, 0))] :: X) (fun (ζ : (Nat) × (Nat) × (List Tx) × (List Value)) => ζ.1 ≤ l.length ∧ ζ.2.1 = ζ.2.2.1.length ∧ ζ.2.2.1 = (l.take ζ.1).filter (fun x => !pp x) ∧ ζ.2.2.1.length < ζ.1 ∧ ζ.2.2.2.length = (ζ.1 - ζ.2.2.1.length) * 7) (fun (ζ : (Nat) × (Nat) × (List Tx) × (List Value)) => l.length - ζ.1) ((i + 1, i, l.take i, txV l[i])) (⟨hi, by simp; omega, hK1.symm, by simp; omega, by simp; omega⟩) ev_le ev_le rfl tk ?_
      rintro ⟨j, kl, K, M⟩ hI
      try simp only [List.cons_append, List.nil_append, List.append_assoc, List.append_eq] at hI ⊢
      try dsimp only at hI ⊢
      obtain ⟨hj, rfl, hK, hKj, hM⟩ := hI
      have hKl := hfl K
      by_cases hlt : j < l.length
      · have hd := List.drop_eq_getElem_cons hlt
        have hx1 : (l.take (j + 1)).filter (fun x => !pp x) = K ++ (if pp l[j] then [] else [l[j]]) := by
          rw [List.take_succ_eq_append_getElem hlt, List.filter_append, ← hK, List.filter_cons]
          cases pp l[j] <;> simp
        have hp0 := hp ρ' (Hp.le_refl ρ') _ (List.getElem_mem hlt)
        rw [hd]
        generalize l[j] = x at *
        obtain ⟨M1, M2, rfl, hM1⟩ : ∃ M1 M2 : List Value, M = M1 ++ M2 ∧ M1.length = 7 := ⟨M.take 7, M.drop 7, (List.take_append_drop _ _).symm, by rw [List.length_take]; omega⟩
        simp only [List.map_cons, List.flatten_cons, List.append_assoc]
        have hM2 : M2.length = (j - K.length) * 7 - 7 := by rw [List.length_append] at hM; omega
        have hcell : ((K.map txV).flatten ++ (M1 ++ (M2 ++ (txV x ++ (((l.drop (j + 1)).map txV).flatten ++ sp))))).drop (0 + j * 7) = txV x ++ (((l.drop (j + 1)).map txV).flatten ++ sp) := by
          rw [← List.append_assoc M1, ← List.append_assoc]
          refine List.drop_left' ?_
          simp only [List.length_append, hKl]; omega
        have hcc : (((K.map txV).flatten ++ (M1 ++ (M2 ++ (txV x ++ (((l.drop (j + 1)).map txV).flatten ++ sp))))).drop (0 + j * 7)).take 7 = txV x := by rw [hcell]; rfl
        have hfit : 0 + j * 7 + 7 ≤ ((K.map txV).flatten ++ (M1 ++ (M2 ++ (txV x ++ (((l.drop (j + 1)).map txV).flatten ++ sp))))).length := by
          have := congrArg List.length hcell
          simp only [List.length_drop, List.length_append, show (txV x).length = 7 from rfl] at this ⊢
          omega
        have hPl : ((K.map txV).flatten).length = 0 + K.length * 7 := by rw [hKl]; omega
        cases hpx : pp x
        · rw [hpx] at hp0 hx1
          have hre : (K.map txV).flatten ++ (txV x ++ (M2 ++ (txV x ++ (((l.drop (j + 1)).map txV).flatten ++ sp)))) = ((K ++ [x]).map txV).flatten ++ ((M2 ++ txV x) ++ (((l.drop (j + 1)).map txV).flatten ++ sp)) := by simp
          (try simp only [kM, kN, kO] at hre)
          repeat' (first | (refine tl_is (.tmp 26) ?_; refine qC rfl rfl (hp0) ?_; rintro v ρ' L' hle ⟨rfl, rfl, rfl⟩ <;> (try simp only [kM, kN, kO])) | (refine tl_store_midA (P := _) (l := M1) rfl rfl hPl hM1 rfl rfl ?_) | (refine iBu ?_; refine tl_y (y_buildN rfl) rfl rfl ?_) | (refine i_op ?_; first | (refine i_qq ?_; refine qQ ?_) | refine qEf ?_) | refine tl_nil ?_ | (refine i_tc ?_; refine qTc ?_) | (refine i_te ?_; refine qTe ?_) | intro _)
          (try simp only [kM, kN, kO])
          rw [hre]
          have hKn : (K ++ [x]).length = K.length + 1 := by simp
          rw [show ((K.length : Int) + 1) = (((K ++ [x]).length : Nat) : Int) by rw [hKn]; omega]
          refine te_round_g (j + 1, (K ++ [x]).length, K ++ [x], M2 ++ txV x) (⟨hlt, rfl, by rw [hx1]; rfl, by dsimp only; omega, by simp only [List.length_append, List.length_singleton, show (txV x).length = 7 from rfl]; omega⟩) ev_le ev_le rfl tk inferInstance (by first | omega | (dsimp only; omega))
        · rw [hpx] at hp0 hx1
          have hre : (K.map txV).flatten ++ (M1 ++ (M2 ++ (txV x ++ (((l.drop (j + 1)).map txV).flatten ++ sp)))) = (K.map txV).flatten ++ (((M1 ++ M2) ++ txV x) ++ (((l.drop (j + 1)).map txV).flatten ++ sp)) := by simp
          (try simp only [kM, kN, kO] at hre)
          repeat' (first | (refine tl_is (.tmp 26) ?_; refine qC rfl rfl (hp0) ?_; rintro v ρ' L' hle ⟨rfl, rfl, rfl⟩ <;> (try simp only [kM, kN, kO])) | (refine iBu ?_; refine tl_y (y_buildN rfl) rfl rfl ?_) | (refine i_op ?_; first | (refine i_qq ?_; refine qQ ?_) | refine qEf ?_) | refine tl_nil ?_ | (refine i_tc ?_; refine qTc ?_) | (refine i_te ?_; refine qTe ?_) | intro _)
          (try simp only [kM, kN, kO])
          rw [hre]
          refine te_round_g (j + 1, K.length, K, (M1 ++ M2) ++ txV x) (⟨hlt, rfl, by rw [hx1]; simp, by dsimp only; omega, by simp only [List.length_append, List.length_singleton, show (txV x).length = 7 from rfl] at hM ⊢; omega⟩) ev_le ev_le rfl tk inferInstance (by first | omega | (dsimp only; omega))
      · obtain rfl : j = l.length := by omega
        rw [List.take_length] at hK
        simp only [List.drop_length, List.map_nil, List.flatten_nil, List.nil_append]
        have hni : ¬ cap = K.length := by omega
        have hst : ∀ ws : List Value, ws.length = (l.length - K.length) * 7 → stc ((K.map txV).flatten ++ (M ++ sp)) (K.length * 7) ws = (K.map txV).flatten ++ (ws ++ sp) := fun ws hw => by
          rw [← hKl, stcN_mid (by rw [hw, hM])]
        repeat' (first | (refine iBu ?_; refine tl_y (y_buildN rfl) rfl rfl ?_) | (refine i_op ?_; first | (refine i_qq ?_; refine qQ ?_) | refine qEf ?_) | refine tl_nil ?_ | (refine i_tc ?_; refine qTc ?_) | (refine i_te ?_; refine qTe ?_) | intro _)
        simp only [Int.toNat_natCast, if_neg hni, Option.map_some, addr_add, Nat.zero_add]
        refine tl_clearN (sz := 7) rfl rfl rfl (by simp only [List.length_append]; omega) (by omega) (fun ws hws => ?_)
        rw [hst ws hws]
        repeat' (first | (refine iBu ?_; refine tl_y (y_buildN rfl) rfl rfl ?_) | (refine i_op ?_; first | (refine i_qq ?_; refine qQ ?_) | refine qEf ?_) | refine tl_nil ?_ | (refine i_tc ?_; refine qTc ?_) | (refine i_te ?_; refine qTe ?_) | intro _)
        rw [← hK]
        refine qE (L' := [(b, .cells ⟨(K.map txV).flatten ++ (ws ++ sp)⟩ 72 (0, 0))] :: X) ⟨rfl, ws ++ sp, ⟨.inr ⟨b, cap, rfl, hKl, ?_, by omega⟩⟩, rfl⟩
        simp only [List.length_append, hws]
        have : ((l.map txV).flatten).length + sp.length = cap * 7 := h2
        rw [hfl l] at this
        omega
theorem idxU_spec (ρ : Hp) (a : Option Addr) (n c : Nat) (l : List Nat) (h : SIn ρ u64c a n l) (hn : n ≤ 200000000000000) (F : Nat) [hF : Fun Tryz.prog F] (cs : List Value) (X : SH) (pp : Nat → Bool)
    (hp : ∀ x ∈ l, Spec Tryz.prog F (u64c x :: cs) ρ X (fun z ρ' L' => z = .bool (pp x) ∧ ρ' = ρ ∧ L' = X)) :
    Spec Tryz.prog 313 [.slice a n c, .func (.func F) ⟨[]⟩ ⟨cs⟩] ρ X (fun z ρ' L' => z = .int .i64 (idxI pp l) ∧ ρ' = ρ ∧ L' = X) := by
  have hl := h.len
  refine spec_enter Tryz.func313 rfl rfl rfl fun u R => ?_
  simp only [argsE, List.cons_append, List.nil_append]
  repeat' (first | (refine iBu ?_; refine tl_y (y_buildN rfl) rfl rfl ?_) | (refine i_op ?_; first | (refine i_qq ?_; refine qQ ?_) | refine qEf ?_) | refine tl_nil ?_ | (refine i_tc ?_; refine qTc ?_) | (refine i_te ?_; refine qTe ?_) | intro _)
  refine tc_loop_g [(0, _), (1, _), (7, _)] (fun (ζ : (Nat)) => [(8, .int .i64 ζ), (4, .int .i64 0)]) (fun (ζ : (Nat)) => ρ) (fun (ζ : (Nat)) => X) (fun (ζ : (Nat)) => ζ ≤ n ∧ ∀ x ∈ l.take ζ, pp x = false) (fun (ζ : (Nat)) => n - ζ) (0) (⟨Nat.zero_le _, by simp⟩) ev_le ev_le rfl tk ?_
  rintro k hI
  try simp only [List.cons_append, List.nil_append, List.append_assoc, List.append_eq] at hI ⊢
  try dsimp only at hI ⊢
  obtain ⟨hk, hok⟩ := hI
  by_cases hlt : k < n
  · obtain ⟨b, off, C, T, fr, rfl, hb, hc⟩ := h.get (show k < l.length by omega)
    have hf := fun (e : pp l[k] = true) => idx_found (p := pp) (show k < l.length by omega) e hok
    have ht := fun (e : pp l[k] = false) => take_more (p := fun x => pp x = false) (show k < l.length by omega) e hok
    have hp0 := hp _ (List.getElem_mem (show k < l.length by omega))
    cases hx : pp l[k]
    · have hok2 := ht hx
      rw [hx] at hp0
      generalize l[k] = x at *
      repeat' (first | (refine tl_is (.tmp 11) ?_; refine qC rfl rfl (hp0) ?_; rintro v ρ' L' hle ⟨rfl, rfl, rfl⟩ <;> (try simp only [kM, kN, kO])) | (refine iBu ?_; refine tl_y (y_buildN rfl) rfl rfl ?_) | (refine i_op ?_; first | (refine i_qq ?_; refine qQ ?_) | refine qEf ?_) | refine tl_nil ?_ | (refine i_tc ?_; refine qTc ?_) | (refine i_te ?_; refine qTe ?_) | intro _)
      refine te_round_g (k + 1) (⟨hlt, hok2⟩) ev_le ev_le rfl tk inferInstance (by first | omega | (dsimp only; omega))
    · have e := hf hx
      rw [hx] at hp0
      have e2 : idxI pp l = (k : Int) := by unfold idxI; rw [e]
      rw [e2]
      generalize l[k] = x at *
      repeat' (first | (refine tl_is (.tmp 11) ?_; refine qC rfl rfl (hp0) ?_; rintro v ρ' L' hle ⟨rfl, rfl, rfl⟩ <;> (try simp only [kM, kN, kO])) | (refine iBu ?_; refine tl_y (y_buildN rfl) rfl rfl ?_) | (refine i_op ?_; first | (refine i_qq ?_; refine qQ ?_) | refine qEf ?_) | refine tl_nil ?_ | (refine i_tc ?_; refine qTc ?_) | (refine i_te ?_; refine qTe ?_) | intro _)
      exact qE (L' := _) ⟨rfl, rfl, rfl⟩
  · have hk2 : k = l.length := by omega
    rw [hk2, List.take_length] at hok
    have e2 : idxI pp l = -1 := by unfold idxI; rw [idx_none hok]
    rw [e2]
    repeat' (first | (refine iBu ?_; refine tl_y (y_buildN rfl) rfl rfl ?_) | (refine i_op ?_; first | (refine i_qq ?_; refine qQ ?_) | refine qEf ?_) | refine tl_nil ?_ | (refine i_tc ?_; refine qTc ?_) | (refine i_te ?_; refine qTe ?_) | intro _)
    exact qE (L' := _) ⟨rfl, rfl, rfl⟩
theorem delU_spec (ρ : Hp) (v : Value) (sp : List Value) (l : List Nat) (hl : l.length ≤ 200000000000000) (hown : OwnS v l.length (l.map u64c) sp 1) (F : Nat) [hF : Fun Tryz.prog F] (cs : List Value) (X : SH) (pp : Nat → Bool)
    (hp : ∀ ρ1, ρ.le ρ1 → ∀ x ∈ l, Spec Tryz.prog F (u64c x :: cs) ρ1 X (fun z ρ' L' => z = .bool (pp x) ∧ ρ' = ρ1 ∧ L' = X)) :
    Spec Tryz.prog 291 [v, .func (.func F) ⟨[]⟩ ⟨cs⟩] ρ (ownC v (l.map u64c) sp 24 :: X)
      (fun z ρ' L' => ρ' = ρ ∧ ∃ sp', OwnS z (l.filter (fun x => !pp x)).length ((l.filter (fun x => !pp x)).map u64c) sp' 1 ∧ L' = ownC z ((l.filter (fun x => !pp x)).map u64c) sp' 24 :: X) := by
  have hidx : Spec Tryz.prog 313 [v, .func (.func F) ⟨[]⟩ ⟨cs⟩] ρ ([ownC v (l.map u64c) sp 24] ++ X) (fun z ρ' L' => z = .int .i64 (idxI pp l) ∧ ρ' = ρ ∧ L' = ownC v (l.map u64c) sp 24 :: X) := by
    refine (Spec.thaw (C := [ownC v (l.map u64c) sp 24]) (L := X) (Post := fun z L' => z = .int .i64 (idxI pp l) ∧ L' = X) (fun ρ1 hle hf => ?_)).mono ?_
    · obtain ⟨a, c, rfl, hc, hA⟩ := hown.sIn (by simpa using hf)
      exact (idxU_spec ρ1 a l.length c l hA hl F cs X pp (hp ρ1 hle)).mono (fun z ρ' L' _ h => ⟨h.2.1, h.1, h.2.2⟩)
    · rintro z ρ' L' _ ⟨rfl, L2, ⟨rfl, rfl⟩, rfl⟩
      exact ⟨rfl, rfl, rfl⟩
  rcases hown.out with ⟨rfl, h0, h1, rfl⟩ | ⟨b, cap, rfl, h1, h2, h3⟩
  · have hl0 : l = [] := List.eq_nil_of_length_eq_zero h0
    subst hl0
    have e : idxI pp [] = -1 := rfl
    rw [e] at hidx
    refine spec_enter Tryz.func291 rfl rfl rfl fun u R => ?_
    simp only [argsE, List.cons_append, List.nil_append] at hidx ⊢
    repeat' (first | (refine tl_is (.func 313) ?_; refine qC rfl rfl (hidx) ?_; rintro v ρ' L' hle ⟨rfl, rfl, rfl⟩ <;> (try simp only [kM, kN, kO])) | (refine iBu ?_; refine tl_y (y_buildN rfl) rfl rfl ?_) | (refine i_op ?_; first | (refine i_qq ?_; refine qQ ?_) | refine qEf ?_) | refine tl_nil ?_ | (refine i_tc ?_; refine qTc ?_) | (refine i_te ?_; refine qTe ?_) | intro _)
    exact qE (L' := [] :: X) ⟨rfl, [], OwnS.nil 1, rfl⟩
  · by_cases hall : ∀ x ∈ l, pp x = false
    · have e : idxI pp l = -1 := by unfold idxI; rw [idx_none hall]
      have hfl : l.filter (fun x => !pp x) = l := List.filter_eq_self.2 (fun x hx => by rw [hall x hx]; rfl)
      rw [e] at hidx
      rw [hfl]
      refine spec_enter Tryz.func291 rfl rfl rfl fun u R => ?_
      simp only [argsE, List.cons_append, List.nil_append] at hidx ⊢
      repeat' (first | (refine tl_is (.func 313) ?_; refine qC rfl rfl (hidx) ?_; rintro v ρ' L' hle ⟨rfl, rfl, rfl⟩ <;> (try simp only [kM, kN, kO])) | (refine iBu ?_; refine tl_y (y_buildN rfl) rfl rfl ?_) | (refine i_op ?_; first | (refine i_qq ?_; refine qQ ?_) | refine qEf ?_) | refine tl_nil ?_ | (refine i_tc ?_; refine qTc ?_) | (refine i_te ?_; refine qTe ?_) | intro _)
      exact qE (L' := ownC (.slice (some ⟨b, 0, none⟩) l.length cap) (l.map u64c) sp 24 :: X) ⟨rfl, sp, hown, rfl⟩
    · obtain ⟨i, hi, hpi, hbef⟩ : ∃ i, ∃ h : i < l.length, pp l[i] = true ∧ ∀ x ∈ l.take i, pp x = false := by
        cases hf : l.findIdx? pp with
        | none => exact absurd (fun x hx => by have := List.findIdx?_eq_none_iff.1 hf x hx; exact this) hall
        | some i =>
          obtain ⟨h1, h2, h3⟩ := List.findIdx?_eq_some_iff_getElem.1 hf
          refine ⟨i, h1, h2, fun x hx => ?_⟩
          obtain ⟨j, hj, rfl⟩ := List.mem_take_iff_getElem.1 hx
          have := h3 j (by omega)
          simpa using this
      have e : idxI pp l = (i : Int) := by unfold idxI; rw [idx_found (p := pp) hi hpi hbef]
      have hK0 : (l.take i).filter (fun x => !pp x) = l.take i := List.filter_eq_self.2 (fun x hx => by rw [hbef x hx]; rfl)
      have hK1 : (l.take (i + 1)).filter (fun x => !pp x) = l.take i := by
        rw [List.take_succ_eq_append_getElem hi, List.filter_append, hK0, List.filter_cons, if_neg (by simp [hpi])]; simp
      have hfl : ∀ m : List Nat, (m.map u64c).length = m.length * 1 := fun m => by simp
      have hC : ∀ xs sp, ownC (.slice (some ⟨b, 0, none⟩) l.length cap) xs sp 24 = [(b, .cells ⟨xs ++ sp⟩ 24 (0, 0))] := fun _ _ => rfl
      have hsplit : l.map u64c ++ sp = (l.take i).map u64c ++ ([u64c l[i]] ++ ((l.drop (i + 1)).map u64c ++ sp)) := by
        have : l = l.take i ++ l[i] :: l.drop (i + 1) := by rw [← List.drop_eq_getElem_cons hi, List.take_append_drop]
        have h2 : ∀ (A : List Nat) (x : Nat) (B : List Nat), (A ++ x :: B).map u64c ++ sp = A.map u64c ++ ([u64c x] ++ (B.map u64c ++ sp)) := fun A x B => by simp
        exact (congrArg (fun l => l.map u64c ++ sp) this).trans (h2 _ _ _)
      rw [hC, e] at hidx
      rw [hC]
      refine spec_enter Tryz.func291 rfl rfl rfl fun u R => ?_
      simp only [argsE, List.cons_append, List.nil_append] at hidx ⊢
      repeat' (first | (refine tl_is (.func 313) ?_; refine qC rfl rfl (hidx) ?_; rintro v ρ' L' hle ⟨rfl, rfl, rfl⟩ <;> (try simp only [kM, kN, kO])) | (refine iBu ?_; refine tl_y (y_buildN rfl) rfl rfl ?_) | (refine i_op ?_; first | (refine i_qq ?_; refine qQ ?_) | refine qEf ?_) | refine tl_nil ?_ | (refine i_tc ?_; refine qTc ?_) | (refine i_te ?_; refine qTe ?_) | intro _)
      rw [hsplit]
      refine tc_loop_g [(0, _), (1, _), (4, _)] (fun (ζ : (Nat) × (Nat) × (List Nat) × (List Value)) => [(5, .int .i64 ζ.2.1), (6, .int .i64 ζ.1)]) (fun (ζ : (Nat) × (Nat) × (List Nat) × (List Value)) => ρ') (fun (ζ : (Nat) × (Nat) × (List Nat) × (List Value)) => [(b, .cells ⟨ζ.2.2.1.map u64c ++ (ζ.2.2.2 ++ ((l.drop ζ.1).map u64c ++ sp))⟩ 24 (0, 0))] :: X) (fun (ζ : (Nat) × (Nat) × (List Nat) × (List Value)) => ζ.1 ≤ l.length ∧ ζ.2.1 = ζ.2.2.1.length ∧ ζ.2.2.1 = (l.take ζ.1).filter (fun x => !pp x) ∧ ζ.2.2.1.length < ζ.1 ∧ ζ.2.2.2.length = (ζ.1 - ζ.2.2.1.length) * 1) (fun (ζ : (Nat) × (Nat) × (List Nat) × (List Value)) => l.length - ζ.1) ((i + 1, i, l.take i, [u64c l[i]])) (⟨hi, by simp; omega, hK1.symm, by simp; omega, by simp; omega⟩) ev_le ev_le rfl tk ?_
      rintro ⟨j, kl, K, M⟩ hI
      try simp only [List.cons_append, List.nil_append, List.append_assoc, List.append_eq] at hI ⊢
      try dsimp only at hI ⊢
      obtain ⟨hj, rfl, hK, hKj, hM⟩ := hI
      have hKl := hfl K
      by_cases hlt : j < l.length
      · have hd := List.drop_eq_getElem_cons hlt
        have hx1 : (l.take (j + 1)).filter (fun x => !pp x) = K ++ (if pp l[j] then [] else [l[j]]) := by
          rw [List.take_succ_eq_append_getElem hlt, List.filter_append, ← hK, List.filter_cons]
          cases pp l[j] <;> simp
        have hp0 := hp ρ' (Hp.le_refl ρ') _ (List.getElem_mem hlt)
        rw [hd]
        generalize l[j] = x at *
        obtain ⟨M1, M2, rfl, hM1⟩ : ∃ M1 M2 : List Value, M = M1 ++ M2 ∧ M1.length = 1 := ⟨M.take 1, M.drop 1, (List.take_append_drop _ _).symm, by rw [List.length_take]; omega⟩
        simp only [List.map_cons, List.flatten_cons, List.append_assoc]
        have hM2 : M2.length = (j - K.length) * 1 - 1 := by rw [List.length_append] at hM; omega
        have hcell : (K.map u64c ++ (M1 ++ (M2 ++ (u64c x :: ((l.drop (j + 1)).map u64c ++ sp))))).drop (0 + j * 1) = u64c x :: ((l.drop (j + 1)).map u64c ++ sp) := by
          rw [← List.append_assoc M1, ← List.append_assoc]
          refine List.drop_left' ?_
          simp only [List.length_append, hKl]; omega
        have hcc : (K.map u64c ++ (M1 ++ (M2 ++ (u64c x :: ((l.drop (j + 1)).map u64c ++ sp)))))[0 + j * 1]? = some (u64c x) := by
          have := congrArg (fun z => z[0]?) hcell
          simpa using this
        have hPl : (K.map u64c).length = 0 + K.length * 1 := by rw [hKl]; omega
        cases hpx : pp x
        · rw [hpx] at hp0 hx1
          have hre : K.map u64c ++ ([u64c x] ++ (M2 ++ (u64c x :: ((l.drop (j + 1)).map u64c ++ sp)))) = (K ++ [x]).map u64c ++ ((M2 ++ [u64c x]) ++ ((l.drop (j + 1)).map u64c ++ sp)) := by simp
          (try simp only [kM, kN, kO] at hre)
          repeat' (first | (refine tl_is (.tmp 26) ?_; refine qC rfl rfl (hp0) ?_; rintro v ρ' L' hle ⟨rfl, rfl, rfl⟩ <;> (try simp only [kM, kN, kO])) | (obtain ⟨m1, rfl⟩ : ∃ m1, M1 = [m1] := List.length_eq_one_iff.1 hM1; refine tl_store_mid (o := 0 + K.length * 1) (d := 0) (P := _) (l := [m1]) rfl rfl hPl rfl ?_) | (refine iBu ?_; refine tl_y (y_buildN rfl) rfl rfl ?_) | (refine i_op ?_; first | (refine i_qq ?_; refine qQ ?_) | refine qEf ?_) | refine tl_nil ?_ | (refine i_tc ?_; refine qTc ?_) | (refine i_te ?_; refine qTe ?_) | intro _)
          (try simp only [kM, kN, kO])
          rw [hre]
          have hKn : (K ++ [x]).length = K.length + 1 := by simp
          rw [show ((K.length : Int) + 1) = (((K ++ [x]).length : Nat) : Int) by rw [hKn]; omega]
          refine te_round_g (j + 1, (K ++ [x]).length, K ++ [x], M2 ++ [u64c x]) (⟨hlt, rfl, by rw [hx1]; rfl, by dsimp only; omega, by simp only [List.length_append, List.length_singleton]; omega⟩) ev_le ev_le rfl tk inferInstance (by first | omega | (dsimp only; omega))
        · rw [hpx] at hp0 hx1
          have hre : K.map u64c ++ (M1 ++ (M2 ++ (u64c x :: ((l.drop (j + 1)).map u64c ++ sp)))) = K.map u64c ++ (((M1 ++ M2) ++ [u64c x]) ++ ((l.drop (j + 1)).map u64c ++ sp)) := by simp
          (try simp only [kM, kN, kO] at hre)
          repeat' (first | (refine tl_is (.tmp 26) ?_; refine qC rfl rfl (hp0) ?_; rintro v ρ' L' hle ⟨rfl, rfl, rfl⟩ <;> (try simp only [kM, kN, kO])) | (refine iBu ?_; refine tl_y (y_buildN rfl) rfl rfl ?_) | (refine i_op ?_; first | (refine i_qq ?_; refine qQ ?_) | refine qEf ?_) | refine tl_nil ?_ | (refine i_tc ?_; refine qTc ?_) | (refine i_te ?_; refine qTe ?_) | intro _)
          (try simp only [kM, kN, kO])
          rw [hre]
          refine te_round_g (j + 1, K.length, K, (M1 ++ M2) ++ [u64c x]) (⟨hlt, rfl, by rw [hx1]; simp, by dsimp only; omega, by simp only [List.length_append, List.length_singleton] at hM ⊢; omega⟩) ev_le ev_le rfl tk inferInstance (by first | omega | (dsimp only; omega))
      · obtain rfl : j = l.length := by omega
        rw [List.take_length] at hK
        simp only [List.drop_length, List.map_nil, List.flatten_nil, List.nil_append]
        have hni : ¬ cap = K.length := by omega
        have hst : ∀ ws : List Value, ws.length = (l.length - K.length) * 1 → stc (K.map u64c ++ (M ++ sp)) (K.length * 1) ws = K.map u64c ++ (ws ++ sp) := fun ws hw => by
          rw [← hKl, stcN_mid (by rw [hw, hM])]
        repeat' (first | (refine iBu ?_; refine tl_y (y_buildN rfl) rfl rfl ?_) | (refine i_op ?_; first | (refine i_qq ?_; refine qQ ?_) | refine qEf ?_) | refine tl_nil ?_ | (refine i_tc ?_; refine qTc ?_) | (refine i_te ?_; refine qTe ?_) | intro _)
        simp only [Int.toNat_natCast, if_neg hni, Option.map_some, addr_add, Nat.zero_add]
        refine tl_clearN (sz := 1) rfl rfl rfl (by simp only [List.length_append]; omega) (by omega) (fun ws hws => ?_)
        rw [hst ws hws]
        repeat' (first | (refine iBu ?_; refine tl_y (y_buildN rfl) rfl rfl ?_) | (refine i_op ?_; first | (refine i_qq ?_; refine qQ ?_) | refine qEf ?_) | refine tl_nil ?_ | (refine i_tc ?_; refine qTc ?_) | (refine i_te ?_; refine qTe ?_) | intro _)
        rw [← hK]
        refine qE (L' := [(b, .cells ⟨K.map u64c ++ (ws ++ sp)⟩ 24 (0, 0))] :: X) ⟨rfl, ws ++ sp, ⟨.inr ⟨b, cap, rfl, hKl, ?_, by omega⟩⟩, rfl⟩
        simp only [List.length_append, hws]
        have : (l.map u64c).length + sp.length = cap * 1 := h2
        rw [hfl l] at this
        omega
end Go.Proofs.E

namespace Go.Proofs.E
open Go
set_option linter.unusedVariables false
set_option linter.unusedSimpArgs false
set_option linter.unusedSectionVars false
set_option maxRecDepth 4000
set_option maxHeartbeats 1000000
attribute [local irreducible] Yl TL TC TE Spec YSpec R1 Hp.le EnvLe TS TR YS Stays
-- BN
/-! ## copies -/
theorem flat_oneG {α : Type} {g : α → List Value} (hg : ∀ x, (g x).all (·.oneCell') = true) (l : List α) : ((l.map g).flatten).all (·.oneCell') = true := by
  induction l with
  | nil => rfl
  | cons a r ih => simp only [List.map_cons, List.flatten_cons, List.all_append, Bool.and_eq_true]; exact ⟨hg a, ih⟩
theorem cloneX_spec (ρ : Hp) (a : Option Addr) (n c : Nat) (l : List Tx) (h : AIn ρ 7 txV a n l) (hn : n ≤ 1200000000000) (hc : n ≤ c) : Spec Tryz.prog 212 [.slice a n c] ρ []
    (fun v ρ' L' => ρ' = ρ ∧ ∃ sp, OwnS v l.length ((l.map txV).flatten) sp 7 ∧ L' = [ownC v ((l.map txV).flatten) sp 72]) := by
  have hl := h.len
  cases a with
  | none =>
    have hl0 : l = [] := by
      by_cases h0 : 0 < l.length
      · obtain ⟨b, off, C, T, fr, h, _⟩ := h.get h0
        cases h
      · exact List.eq_nil_of_length_eq_zero (by omega)
    subst hl0
    refine spec_enter Tryz.func212 rfl rfl rfl fun u R => ?_
    simp only [argsE, List.cons_append, List.nil_append]
    repeat' (first | (refine iBu ?_; refine tl_y (y_buildN rfl) rfl rfl ?_) | (refine i_op ?_; first | (refine i_qq ?_; refine qQ ?_) | refine qEf ?_) | refine tl_nil ?_ | (refine i_tc ?_; refine qTc ?_) | (refine i_te ?_; refine qTe ?_) | intro _)
    exact qE (L' := [[]]) ⟨rfl, [], OwnS.nil 7, rfl⟩
  | some ad =>
    refine spec_enter Tryz.func212 rfl rfl rfl fun u R => ?_
    simp only [argsE, List.cons_append, List.nil_append]
    repeat' (first | (refine iBu ?_; refine tl_y (y_buildN rfl) rfl rfl ?_) | (refine i_op ?_; first | (refine i_qq ?_; refine qQ ?_) | refine qEf ?_) | refine tl_nil ?_ | (refine i_tc ?_; refine qTc ?_) | (refine i_te ?_; refine qTe ?_) | intro _)
    rename_i bx
    refine tl_app (n := 0) (xs := []) (sp := []) (ys := ((l.map txV).flatten)) (sz := 7) rfl rfl (OwnS.zero' _ 7) (hR := rem_here') h.srcV (by rw [flatN_len txV_len]; omega) (flat_oneG txV_one l) (by decide) rfl (by omega) (by omega) rfl (fun v' sp' hown' => ?_)
    simp only [Nat.zero_add, List.nil_append] at hown' ⊢
    repeat' (first | (refine iBu ?_; refine tl_y (y_buildN rfl) rfl rfl ?_) | (refine i_op ?_; first | (refine i_qq ?_; refine qQ ?_) | refine qEf ?_) | refine tl_nil ?_ | (refine i_tc ?_; refine qTc ?_) | (refine i_te ?_; refine qTe ?_) | intro _)
    rw [← hl] at hown'
    exact qE ⟨rfl, sp', hown', rfl⟩
theorem cloneL_spec (ρ : Hp) (a : Option Addr) (n c : Nat) (l : List Lf) (h : AIn ρ 2 lfV a n l) (hn : n ≤ 1200000000000) (hc : n ≤ c) : Spec Tryz.prog 213 [.slice a n c] ρ []
    (fun v ρ' L' => ρ' = ρ ∧ ∃ sp, OwnS v l.length ((l.map lfV).flatten) sp 2 ∧ L' = [ownC v ((l.map lfV).flatten) sp 74]) := by
  have hl := h.len
  cases a with
  | none =>
    have hl0 : l = [] := by
      by_cases h0 : 0 < l.length
      · obtain ⟨b, off, C, T, fr, h, _⟩ := h.get h0
        cases h
      · exact List.eq_nil_of_length_eq_zero (by omega)
    subst hl0
    refine spec_enter Tryz.func213 rfl rfl rfl fun u R => ?_
    simp only [argsE, List.cons_append, List.nil_append]
    repeat' (first | (refine iBu ?_; refine tl_y (y_buildN rfl) rfl rfl ?_) | (refine i_op ?_; first | (refine i_qq ?_; refine qQ ?_) | refine qEf ?_) | refine tl_nil ?_ | (refine i_tc ?_; refine qTc ?_) | (refine i_te ?_; refine qTe ?_) | intro _)
    exact qE (L' := [[]]) ⟨rfl, [], OwnS.nil 2, rfl⟩
  | some ad =>
    refine spec_enter Tryz.func213 rfl rfl rfl fun u R => ?_
    simp only [argsE, List.cons_append, List.nil_append]
    repeat' (first | (refine iBu ?_; refine tl_y (y_buildN rfl) rfl rfl ?_) | (refine i_op ?_; first | (refine i_qq ?_; refine qQ ?_) | refine qEf ?_) | refine tl_nil ?_ | (refine i_tc ?_; refine qTc ?_) | (refine i_te ?_; refine qTe ?_) | intro _)
    rename_i bx
    refine tl_app (n := 0) (xs := []) (sp := []) (ys := ((l.map lfV).flatten)) (sz := 2) rfl rfl (OwnS.zero' _ 2) (hR := rem_here') h.srcV (by rw [flatN_len lfV_len]; omega) (flat_oneG (fun _ => rfl) l) (by decide) rfl (by omega) (by omega) rfl (fun v' sp' hown' => ?_)
    simp only [Nat.zero_add, List.nil_append] at hown' ⊢
    repeat' (first | (refine iBu ?_; refine tl_y (y_buildN rfl) rfl rfl ?_) | (refine i_op ?_; first | (refine i_qq ?_; refine qQ ?_) | refine qEf ?_) | refine tl_nil ?_ | (refine i_tc ?_; refine qTc ?_) | (refine i_te ?_; refine qTe ?_) | intro _)
    rw [← hl] at hown'
    exact qE ⟨rfl, sp', hown', rfl⟩
theorem cloneU_spec (ρ : Hp) (a : Option Addr) (n c : Nat) (l : List Nat) (h : SIn ρ u64c a n l) (hn : n ≤ 1200000000000) (hc : n ≤ c) : Spec Tryz.prog 214 [.slice a n c] ρ []
    (fun v ρ' L' => ρ' = ρ ∧ ∃ sp, OwnS v l.length (l.map u64c) sp 1 ∧ L' = [ownC v (l.map u64c) sp 24]) := by
  have hl := h.len
  cases a with
  | none =>
    have hl0 : l = [] := by
      by_cases h0 : 0 < l.length
      · obtain ⟨b, off, C, T, fr, h, _⟩ := h.get h0
        cases h
      · exact List.eq_nil_of_length_eq_zero (by omega)
    subst hl0
    refine spec_enter Tryz.func214 rfl rfl rfl fun u R => ?_
    simp only [argsE, List.cons_append, List.nil_append]
    repeat' (first | (refine iBu ?_; refine tl_y (y_buildN rfl) rfl rfl ?_) | (refine i_op ?_; first | (refine i_qq ?_; refine qQ ?_) | refine qEf ?_) | refine tl_nil ?_ | (refine i_tc ?_; refine qTc ?_) | (refine i_te ?_; refine qTe ?_) | intro _)
    exact qE (L' := [[]]) ⟨rfl, [], OwnS.nil 1, rfl⟩
  | some ad =>
    refine spec_enter Tryz.func214 rfl rfl rfl fun u R => ?_
    simp only [argsE, List.cons_append, List.nil_append]
    repeat' (first | (refine iBu ?_; refine tl_y (y_buildN rfl) rfl rfl ?_) | (refine i_op ?_; first | (refine i_qq ?_; refine qQ ?_) | refine qEf ?_) | refine tl_nil ?_ | (refine i_tc ?_; refine qTc ?_) | (refine i_te ?_; refine qTe ?_) | intro _)
    rename_i bx
    refine tl_app (n := 0) (xs := []) (sp := []) (ys := (l.map u64c)) (sz := 1) rfl rfl (OwnS.zero' _ 1) (hR := rem_here') h.srcV (by simp; omega) (by simp [Value.oneCell']) (by decide) rfl (by omega) (by omega) rfl (fun v' sp' hown' => ?_)
    simp only [Nat.zero_add, List.nil_append] at hown' ⊢
    repeat' (first | (refine iBu ?_; refine tl_y (y_buildN rfl) rfl rfl ?_) | (refine i_op ?_; first | (refine i_qq ?_; refine qQ ?_) | refine qEf ?_) | refine tl_nil ?_ | (refine i_tc ?_; refine qTc ?_) | (refine i_te ?_; refine qTe ?_) | intro _)
    rw [← hl] at hown'
    exact qE ⟨rfl, sp', hown', rfl⟩
end Go.Proofs.E

