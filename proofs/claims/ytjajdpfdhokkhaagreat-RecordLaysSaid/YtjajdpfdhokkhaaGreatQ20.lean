/- The law RecordLays. Part 20 of 21. -/
import Derived.Test.YtjajdpfdhokkhaaGreatQ19
namespace Go.Proofs.E
open Go
set_option linter.unusedVariables false
set_option linter.unusedSimpArgs false
set_option linter.unusedSectionVars false
set_option maxRecDepth 4000
set_option maxHeartbeats 1000000
attribute [local irreducible] Yl TL TC TE Spec YSpec R1 Hp.le EnvLe TS TR YS Stays
-- BN
/-! ## the document's: are two records one -/
theorem take_ext {α : Type} {l m : List α} (hl : l.length = m.length) (k : Nat) (h : l.length ≤ k) (e : l.take k = m.take k) : l = m := by
  rwa [List.take_of_length_le h, List.take_of_length_le (by omega)] at e
theorem get_ext {α : Type} {l m : List α} (k : Nat) (h : k < l.length) (h' : k < m.length) (e : l = m) : l[k] = m[k] := by subst e; rfl
theorem same12G_spec (ρ : Hp) (v v' : RV) (x y : Rc) (h : RcIn ρ v x) (h' : RcIn ρ v' y) : Spec Tryz.prog 24 [.agg ⟨recV v x⟩, .agg ⟨recV v' y⟩] ρ [] (fun z ρ' L' => (∃ b, z = .bool b ∧ (b = true ↔ x.plain = y.plain)) ∧ ρ' = ρ ∧ L' = []) := by
  obtain ⟨⟨ia, inn, ic⟩, ⟨sa, sn, sc⟩, ⟨ta, tn, tc⟩, ⟨da, dn, dc⟩⟩ := v
  obtain ⟨⟨ja, jn, jc⟩, ⟨ra, rn, rc⟩, ⟨ua, un, uc⟩, ⟨ea, en, ec⟩⟩ := v'
  have hvi := h.i.at'
  have hvs := h.s.at'
  have hvt := h.t.at'
  have hvd := h.d.at'
  have hwi := h'.i.at'
  have hws := h'.s.at'
  have hwt := h'.t.at'
  have hwd := h'.d.at'
  have n1 := h.i.at'.len
  have n2 := h'.i.at'.len
  have n3 := h.s.at'.len
  have n4 := h'.s.at'.len
  have n5 := h.t.at'.len
  have n6 := h'.t.at'.len
  have n7 := h.d.at'.len
  have n8 := h'.d.at'.len
  have b1 := h.i.big
  have b3 := h.s.big
  have b5 := h.t.big
  have b7 := h.d.big
  dsimp only at n1 n2 n3 n4 n5 n6 n7 n8 b1 b3 b5 b7 hvi hvs hvt hvd hwi hws hwt hwd
  simp only [recV]
  refine spec_enter Tryz.func24 rfl rfl rfl fun u R => ?_
  simp only [argsE, List.cons_append, List.nil_append]
  by_cases e : x.kind = y.kind ∧ x.lsn = y.lsn ∧ x.txn = y.txn ∧ x.prev = y.prev ∧ x.next = y.next ∧ x.nextTxn = y.nextTxn
  · have hp := plain_eq e
    obtain ⟨e1, e2, e3, e4, e5, e6⟩ := e
    by_cases hn : inn = jn ∧ sn = rn ∧ tn = un ∧ dn = en
    · obtain ⟨m1, m2, m3, m4⟩ := hn
      repeat' (first | (refine iBu ?_; refine tl_y (y_buildN rfl) rfl rfl ?_) | (refine i_op ?_; first | (refine i_qq ?_; refine qQ ?_) | refine qEf ?_) | refine tl_nil ?_ | (refine i_tc ?_; refine qTc ?_) | (refine i_te ?_; refine qTe ?_) | intro _)
      rename_i b2 b3
      refine tc_loop_g [(2, _), (3, _), (87, _)] (fun (ζ : (Nat)) => [(88, .int .i64 ζ), (4, .bool false)]) (fun (ζ : (Nat)) => ρ) (fun (ζ : (Nat)) => [[(b3, .cells ⟨[.int .i64 y.kind, .int .u64 y.lsn, .int .i64 y.txn, .int .u64 y.prev, .int .u64 y.next, .slice ja jn jc, .slice ra rn rc, .int .i64 y.nextTxn, .slice ua un uc, .slice ea en ec]⟩ 30 (0, 0))], [(b2, .cells ⟨[.int .i64 x.kind, .int .u64 x.lsn, .int .i64 x.txn, .int .u64 x.prev, .int .u64 x.next, .slice ia inn ic, .slice sa sn sc, .int .i64 x.nextTxn, .slice ta tn tc, .slice da dn dc]⟩ 30 (0, 0))]]) (fun (ζ : (Nat)) => ζ ≤ inn ∧ (x.ims.map Im.plain).take ζ = (y.ims.map Im.plain).take ζ) (fun (ζ : (Nat)) => inn - ζ) (0) (⟨Nat.zero_le _, rfl⟩) ev_le ev_le rfl tk ?_
      rintro k hI
      try simp only [List.cons_append, List.nil_append, List.append_assoc, List.append_eq] at hI ⊢
      try dsimp only at hI ⊢
      obtain ⟨hk, hpre⟩ := hI
      by_cases hlt : k < inn
      · obtain ⟨b, off, C, T, fr, rfl, hb, hfit, hc⟩ := hvi.get (show k < x.ims.length by omega)
        obtain ⟨bb, off2, C2, T2, fr2, rfl, hb2, hfit2, hc2⟩ := hwi.get (show k < y.ims.length by omega)
        have ht1 := map_take_succ Im.plain x.ims k (by omega)
        have ht2 := map_take_succ Im.plain y.ims k (by omega)
        have hf : x.plain = y.plain → (x.ims[k]'(by omega)).plain = (y.ims[k]'(by omega)).plain := fun e => by
          have g0 := (hp.1 e).2.2.2
          have g1 : (x.ims.map Im.plain)[k]? = some (x.ims[k]'(by omega)).plain := by simp [show k < x.ims.length by omega]
          have g2 : (y.ims.map Im.plain)[k]? = some (y.ims[k]'(by omega)).plain := by simp [show k < y.ims.length by omega]
          rw [g0, g2] at g1
          exact (Option.some.inj g1).symm
        have hs := h.im _ (List.getElem_mem (show k < x.ims.length by omega))
        have hs' := h'.im _ (List.getElem_mem (show k < y.ims.length by omega))
        generalize x.ims[k]'(by omega) = xi at *
        generalize y.ims[k]'(by omega) = yi at *
        have q1 := sameR_spec ρ xi.bv yi.bv xi.b yi.b hs.b.cin hs'.b.cin
        have q2 := sameR_spec ρ xi.av yi.av xi.a yi.a hs.a.cin hs'.a.cin
        have hq : imEq xi yi = true ↔ _ := imEq_iff
        unfold imEq at hq
        by_cases c1 : xi.page = yi.page
        · rw [decide_eq_true c1, Bool.true_and] at hq
          by_cases c2 : xi.b = yi.b
          · rw [decide_eq_true c2] at q1 hq
            rw [Bool.true_and] at hq
            by_cases c3 : xi.a = yi.a
            · rw [decide_eq_true c3] at q2 hq
              have hpre2 : (x.ims.map Im.plain).take (k + 1) = (y.ims.map Im.plain).take (k + 1) := by rw [ht1, ht2, hpre, hq.1 rfl]
              repeat' (first | (refine iBu ?_; refine tl_y (y_buildN rfl) rfl rfl ?_) | (refine i_op ?_; first | (refine i_qq ?_; refine qQ ?_) | refine qEf ?_) | refine tl_nil ?_ | (refine i_tc ?_; refine qTc ?_) | (refine i_te ?_; refine qTe ?_) | intro _)
              refine tc_any (Stays _ _ _) stays_refl ?_
              all_goals refine rFa 0 ?_
              all_goals refine rLd 1 ?_
              all_goals refine rMv 2 ?_
              all_goals refine rIa 3 ?_
              all_goals refine rLd 4 ?_
              all_goals refine rFa 5 ?_
              all_goals refine rLd 6 ?_
              all_goals refine rMv 7 ?_
              all_goals refine rIa 8 ?_
              all_goals refine rLd 9 ?_
              all_goals (refine rStep2 (i := 10) (j := 11) ?_ ?_ <;> ((try refine qWant ?_); (first | (refine qEf ?_; try intro _)) <;> ((try simp only [kM, kN, kO]); refine tl_nil ?_; refine rNext ?_)))
              all_goals (first | (refine rStep (i := 11) ?_; ((try refine qWant ?_); (first | (refine qEf ?_; try intro _)) <;> ((try simp only [kM, kN, kO]); refine tl_nil ?_; refine rNext ?_))) | (refine rStep (i := 10) ?_; ((try refine qWant ?_); (first | (refine qEf ?_; try intro _)) <;> ((try simp only [kM, kN, kO]); refine tl_nil ?_; refine rNext ?_))))
              all_goals (refine rStep (i := 12) ?_; ((try refine qWant ?_); (first | (refine qEf ?_; try intro _)) <;> ((try simp only [kM, kN, kO]); refine tl_nil ?_; refine rNext ?_)))
              all_goals (refine rStep (i := 13) ?_; ((try refine qWant ?_); (first | (refine qEf ?_; try intro _)) <;> ((try simp only [kM, kN, kO]); refine tl_nil ?_; refine rNext ?_)))
              all_goals refine rDone ?_
              all_goals (repeat' (first | (refine tl_is (.func 93) ?_; refine qC rfl rfl (q1) ?_; rintro v ρ' L' hle ⟨rfl, rfl, rfl⟩ <;> (try simp only [kM, kN, kO])) | (refine tl_is (.func 93) ?_; refine qC rfl rfl (q2) ?_; rintro v ρ' L' hle ⟨rfl, rfl, rfl⟩ <;> (try simp only [kM, kN, kO])) | (refine iBu ?_; refine tl_y (y_buildN rfl) rfl rfl ?_) | (refine i_op ?_; first | (refine i_qq ?_; refine qQ ?_) | refine qEf ?_) | refine tl_nil ?_ | (refine i_tc ?_; refine qTc ?_) | (refine i_te ?_; refine qTe ?_) | intro _))
              all_goals refine te_round_g (k + 1) (⟨hlt, hpre2⟩) ev_le ev_le rfl tk inferInstance (by first | omega | (dsimp only; omega))
            · rw [decide_eq_false c3] at q2 hq
              have hne : x.plain ≠ y.plain := fun e => by have := hq.2 (hf e); cases this
              repeat' (first | (refine iBu ?_; refine tl_y (y_buildN rfl) rfl rfl ?_) | (refine i_op ?_; first | (refine i_qq ?_; refine qQ ?_) | refine qEf ?_) | refine tl_nil ?_ | (refine i_tc ?_; refine qTc ?_) | (refine i_te ?_; refine qTe ?_) | intro _)
              refine tc_any (Stays _ _ _) stays_refl ?_
              all_goals refine rFa 0 ?_
              all_goals refine rLd 1 ?_
              all_goals refine rMv 2 ?_
              all_goals refine rIa 3 ?_
              all_goals refine rLd 4 ?_
              all_goals refine rFa 5 ?_
              all_goals refine rLd 6 ?_
              all_goals refine rMv 7 ?_
              all_goals refine rIa 8 ?_
              all_goals refine rLd 9 ?_
              all_goals (refine rStep2 (i := 10) (j := 11) ?_ ?_ <;> ((try refine qWant ?_); (first | (refine qEf ?_; try intro _)) <;> ((try simp only [kM, kN, kO]); refine tl_nil ?_; refine rNext ?_)))
              all_goals (first | (refine rStep (i := 11) ?_; ((try refine qWant ?_); (first | (refine qEf ?_; try intro _)) <;> ((try simp only [kM, kN, kO]); refine tl_nil ?_; refine rNext ?_))) | (refine rStep (i := 10) ?_; ((try refine qWant ?_); (first | (refine qEf ?_; try intro _)) <;> ((try simp only [kM, kN, kO]); refine tl_nil ?_; refine rNext ?_))))
              all_goals (refine rStep (i := 12) ?_; ((try refine qWant ?_); (first | (refine qEf ?_; try intro _)) <;> ((try simp only [kM, kN, kO]); refine tl_nil ?_; refine rNext ?_)))
              all_goals (refine rStep (i := 13) ?_; ((try refine qWant ?_); (first | (refine qEf ?_; try intro _)) <;> ((try simp only [kM, kN, kO]); refine tl_nil ?_; refine rNext ?_)))
              all_goals refine rDone ?_
              all_goals (repeat' (first | (refine tl_is (.func 93) ?_; refine qC rfl rfl (q1) ?_; rintro v ρ' L' hle ⟨rfl, rfl, rfl⟩ <;> (try simp only [kM, kN, kO])) | (refine tl_is (.func 93) ?_; refine qC rfl rfl (q2) ?_; rintro v ρ' L' hle ⟨rfl, rfl, rfl⟩ <;> (try simp only [kM, kN, kO])) | (refine iBu ?_; refine tl_y (y_buildN rfl) rfl rfl ?_) | (refine i_op ?_; first | (refine i_qq ?_; refine qQ ?_) | refine qEf ?_) | refine tl_nil ?_ | (refine i_tc ?_; refine qTc ?_) | (refine i_te ?_; refine qTe ?_) | intro _))
              all_goals exact qE (L' := []) ⟨⟨false, rfl, by simp, fun e => absurd e hne⟩, rfl, rfl⟩
          · rw [decide_eq_false c2] at q1 hq
            have hne : x.plain ≠ y.plain := fun e => by have := hq.2 (hf e); cases this
            repeat' (first | (refine iBu ?_; refine tl_y (y_buildN rfl) rfl rfl ?_) | (refine i_op ?_; first | (refine i_qq ?_; refine qQ ?_) | refine qEf ?_) | refine tl_nil ?_ | (refine i_tc ?_; refine qTc ?_) | (refine i_te ?_; refine qTe ?_) | intro _)
            refine tc_any (Stays _ _ _) stays_refl ?_
            all_goals refine rFa 0 ?_
            all_goals refine rLd 1 ?_
            all_goals refine rMv 2 ?_
            all_goals refine rIa 3 ?_
            all_goals refine rLd 4 ?_
            all_goals refine rFa 5 ?_
            all_goals refine rLd 6 ?_
            all_goals refine rMv 7 ?_
            all_goals refine rIa 8 ?_
            all_goals refine rLd 9 ?_
            all_goals (refine rStep2 (i := 10) (j := 11) ?_ ?_ <;> ((try refine qWant ?_); (first | (refine qEf ?_; try intro _)) <;> ((try simp only [kM, kN, kO]); refine tl_nil ?_; refine rNext ?_)))
            all_goals (first | (refine rStep (i := 11) ?_; ((try refine qWant ?_); (first | (refine qEf ?_; try intro _)) <;> ((try simp only [kM, kN, kO]); refine tl_nil ?_; refine rNext ?_))) | (refine rStep (i := 10) ?_; ((try refine qWant ?_); (first | (refine qEf ?_; try intro _)) <;> ((try simp only [kM, kN, kO]); refine tl_nil ?_; refine rNext ?_))))
            all_goals (refine rStep (i := 12) ?_; ((try refine qWant ?_); (first | (refine qEf ?_; try intro _)) <;> ((try simp only [kM, kN, kO]); refine tl_nil ?_; refine rNext ?_)))
            all_goals (refine rStep (i := 13) ?_; ((try refine qWant ?_); (first | (refine qEf ?_; try intro _)) <;> ((try simp only [kM, kN, kO]); refine tl_nil ?_; refine rNext ?_)))
            all_goals refine rDone ?_
            all_goals (repeat' (first | (refine tl_is (.func 93) ?_; refine qC rfl rfl (q1) ?_; rintro v ρ' L' hle ⟨rfl, rfl, rfl⟩ <;> (try simp only [kM, kN, kO])) | (refine iBu ?_; refine tl_y (y_buildN rfl) rfl rfl ?_) | (refine i_op ?_; first | (refine i_qq ?_; refine qQ ?_) | refine qEf ?_) | refine tl_nil ?_ | (refine i_tc ?_; refine qTc ?_) | (refine i_te ?_; refine qTe ?_) | intro _))
            all_goals exact qE (L' := []) ⟨⟨false, rfl, by simp, fun e => absurd e hne⟩, rfl, rfl⟩
        · rw [decide_eq_false c1] at hq
          have hne : x.plain ≠ y.plain := fun e => by have := hq.2 (hf e); cases this
          repeat' (first | (refine iBu ?_; refine tl_y (y_buildN rfl) rfl rfl ?_) | (refine i_op ?_; first | (refine i_qq ?_; refine qQ ?_) | refine qEf ?_) | refine tl_nil ?_ | (refine i_tc ?_; refine qTc ?_) | (refine i_te ?_; refine qTe ?_) | intro _)
          refine tc_any (Stays _ _ _) stays_refl ?_
          all_goals refine rFa 0 ?_
          all_goals refine rLd 1 ?_
          all_goals refine rMv 2 ?_
          all_goals refine rIa 3 ?_
          all_goals refine rLd 4 ?_
          all_goals refine rFa 5 ?_
          all_goals refine rLd 6 ?_
          all_goals refine rMv 7 ?_
          all_goals refine rIa 8 ?_
          all_goals refine rLd 9 ?_
          all_goals (refine rStep2 (i := 10) (j := 11) ?_ ?_ <;> ((try refine qWant ?_); (first | (refine qEf ?_; try intro _)) <;> ((try simp only [kM, kN, kO]); refine tl_nil ?_; refine rNext ?_)))
          all_goals (first | (refine rStep (i := 11) ?_; ((try refine qWant ?_); (first | (refine qEf ?_; try intro _)) <;> ((try simp only [kM, kN, kO]); refine tl_nil ?_; refine rNext ?_))) | (refine rStep (i := 10) ?_; ((try refine qWant ?_); (first | (refine qEf ?_; try intro _)) <;> ((try simp only [kM, kN, kO]); refine tl_nil ?_; refine rNext ?_))))
          all_goals (refine rStep (i := 12) ?_; ((try refine qWant ?_); (first | (refine qEf ?_; try intro _)) <;> ((try simp only [kM, kN, kO]); refine tl_nil ?_; refine rNext ?_)))
          all_goals (refine rStep (i := 13) ?_; ((try refine qWant ?_); (first | (refine qEf ?_; try intro _)) <;> ((try simp only [kM, kN, kO]); refine tl_nil ?_; refine rNext ?_)))
          all_goals refine rDone ?_
          all_goals (repeat' (first | (refine iBu ?_; refine tl_y (y_buildN rfl) rfl rfl ?_) | (refine i_op ?_; first | (refine i_qq ?_; refine qQ ?_) | refine qEf ?_) | refine tl_nil ?_ | (refine i_tc ?_; refine qTc ?_) | (refine i_te ?_; refine qTe ?_) | intro _))
          all_goals exact qE (L' := []) ⟨⟨false, rfl, by simp, fun e => absurd e hne⟩, rfl, rfl⟩
      · have hI := take_ext (by simp; omega) k (by simp; omega) hpre
        repeat' (first | (refine iBu ?_; refine tl_y (y_buildN rfl) rfl rfl ?_) | (refine i_op ?_; first | (refine i_qq ?_; refine qQ ?_) | refine qEf ?_) | refine tl_nil ?_ | (refine i_tc ?_; refine qTc ?_) | (refine i_te ?_; refine qTe ?_) | intro _)
        refine tc_loop_g [(2, _), (3, _), (125, _)] (fun (ζ : (Nat)) => [(126, .int .i64 ζ), (4, .bool false)]) (fun (ζ : (Nat)) => ρ) (fun (ζ : (Nat)) => [[(b3, .cells ⟨[.int .i64 y.kind, .int .u64 y.lsn, .int .i64 y.txn, .int .u64 y.prev, .int .u64 y.next, .slice ja jn jc, .slice ra rn rc, .int .i64 y.nextTxn, .slice ua un uc, .slice ea en ec]⟩ 30 (0, 0))], [(b2, .cells ⟨[.int .i64 x.kind, .int .u64 x.lsn, .int .i64 x.txn, .int .u64 x.prev, .int .u64 x.next, .slice ia inn ic, .slice sa sn sc, .int .i64 x.nextTxn, .slice ta tn tc, .slice da dn dc]⟩ 30 (0, 0))]]) (fun (ζ : (Nat)) => ζ ≤ sn ∧ x.steps.take ζ = y.steps.take ζ) (fun (ζ : (Nat)) => sn - ζ) (0) (⟨Nat.zero_le _, rfl⟩) ev_le ev_le rfl tk ?_
        rintro k1 hI
        try simp only [List.cons_append, List.nil_append, List.append_assoc, List.append_eq] at hI ⊢
        try dsimp only at hI ⊢
        obtain ⟨hk, hpre⟩ := hI
        by_cases hlt : k1 < sn
        · obtain ⟨b, off, C, T, fr, rfl, hb, hfit, hc⟩ := hvs.get (show k1 < x.steps.length by omega)
          obtain ⟨bb, off2, C2, T2, fr2, rfl, hb2, hfit2, hc2⟩ := hws.get (show k1 < y.steps.length by omega)
          have ht1 := List.take_succ_eq_append_getElem (show k1 < x.steps.length by omega)
          have ht2 := List.take_succ_eq_append_getElem (show k1 < y.steps.length by omega)
          have hf := get_ext k1 (show k1 < x.steps.length by omega) (show k1 < y.steps.length by omega)
          generalize x.steps[k1]'(by omega) = xi at *
          generalize y.steps[k1]'(by omega) = yi at *
          by_cases c : xi = yi
          · have hd : decide (xi = yi) = true := decide_eq_true c
            repeat' (first | (refine iBu ?_; refine tl_y (y_buildN rfl) rfl rfl ?_) | (refine i_op ?_; first | (refine i_qq ?_; refine qQ ?_) | refine qEf ?_) | refine tl_nil ?_ | (refine i_tc ?_; refine qTc ?_) | (refine i_te ?_; refine qTe ?_) | intro _)
            refine tc_any (Stays _ _ _) stays_refl ?_
            all_goals refine rFa 0 ?_
            all_goals refine rFull ?_
            all_goals refine rLd 1 ?_
            all_goals refine rMv 2 ?_
            all_goals refine rIa 3 ?_
            all_goals refine rLd 4 ?_
            all_goals refine rFa 5 ?_
            all_goals refine rLd 6 ?_
            all_goals refine rMv 7 ?_
            all_goals refine rIa 8 ?_
            all_goals refine rLd 9 ?_
            all_goals refine rCm 10 ?_
            all_goals refine rDone ?_
            all_goals (repeat' (first | (refine iBu ?_; refine tl_y (y_buildN rfl) rfl rfl ?_) | (refine i_op ?_; first | (refine i_qq ?_; refine qQ ?_) | refine qEf ?_) | refine tl_nil ?_ | (refine i_tc ?_; refine qTc ?_) | (refine i_te ?_; refine qTe ?_) | intro _))
            all_goals refine te_round_g (k1 + 1) (⟨hlt, by rw [ht1, ht2, hpre, c]⟩) ev_le ev_le rfl tk inferInstance (by first | omega | (dsimp only; omega))
          · have hd : decide (xi = yi) = false := decide_eq_false c
            repeat' (first | (refine iBu ?_; refine tl_y (y_buildN rfl) rfl rfl ?_) | (refine i_op ?_; first | (refine i_qq ?_; refine qQ ?_) | refine qEf ?_) | refine tl_nil ?_ | (refine i_tc ?_; refine qTc ?_) | (refine i_te ?_; refine qTe ?_) | intro _)
            refine tc_any (Stays _ _ _) stays_refl ?_
            all_goals refine rFa 0 ?_
            all_goals refine rFull ?_
            all_goals refine rLd 1 ?_
            all_goals refine rMv 2 ?_
            all_goals refine rIa 3 ?_
            all_goals refine rLd 4 ?_
            all_goals refine rFa 5 ?_
            all_goals refine rLd 6 ?_
            all_goals refine rMv 7 ?_
            all_goals refine rIa 8 ?_
            all_goals refine rLd 9 ?_
            all_goals refine rCm 10 ?_
            all_goals refine rDone ?_
            all_goals (repeat' (first | (refine iBu ?_; refine tl_y (y_buildN rfl) rfl rfl ?_) | (refine i_op ?_; first | (refine i_qq ?_; refine qQ ?_) | refine qEf ?_) | refine tl_nil ?_ | (refine i_tc ?_; refine qTc ?_) | (refine i_te ?_; refine qTe ?_) | intro _))
            all_goals exact qE (L' := []) ⟨⟨false, rfl, by simp, fun e => absurd (hf (hp.1 e).1) c⟩, rfl, rfl⟩
        · have hS := take_ext (by omega) k1 (by omega) hpre
          repeat' (first | (refine iBu ?_; refine tl_y (y_buildN rfl) rfl rfl ?_) | (refine i_op ?_; first | (refine i_qq ?_; refine qQ ?_) | refine qEf ?_) | refine tl_nil ?_ | (refine i_tc ?_; refine qTc ?_) | (refine i_te ?_; refine qTe ?_) | intro _)
          refine tc_loop_g [(2, _), (3, _), (143, _)] (fun (ζ : (Nat)) => [(144, .int .i64 ζ), (4, .bool false)]) (fun (ζ : (Nat)) => ρ) (fun (ζ : (Nat)) => [[(b3, .cells ⟨[.int .i64 y.kind, .int .u64 y.lsn, .int .i64 y.txn, .int .u64 y.prev, .int .u64 y.next, .slice ja jn jc, .slice ra rn rc, .int .i64 y.nextTxn, .slice ua un uc, .slice ea en ec]⟩ 30 (0, 0))], [(b2, .cells ⟨[.int .i64 x.kind, .int .u64 x.lsn, .int .i64 x.txn, .int .u64 x.prev, .int .u64 x.next, .slice ia inn ic, .slice sa sn sc, .int .i64 x.nextTxn, .slice ta tn tc, .slice da dn dc]⟩ 30 (0, 0))]]) (fun (ζ : (Nat)) => ζ ≤ tn ∧ x.txns.take ζ = y.txns.take ζ) (fun (ζ : (Nat)) => tn - ζ) (0) (⟨Nat.zero_le _, rfl⟩) ev_le ev_le rfl tk ?_
          rintro k2 hI
          try simp only [List.cons_append, List.nil_append, List.append_assoc, List.append_eq] at hI ⊢
          try dsimp only at hI ⊢
          obtain ⟨hk, hpre⟩ := hI
          by_cases hlt : k2 < tn
          · obtain ⟨b, off, C, T, fr, rfl, hb, hfit, hc⟩ := hvt.get (show k2 < x.txns.length by omega)
            obtain ⟨bb, off2, C2, T2, fr2, rfl, hb2, hfit2, hc2⟩ := hwt.get (show k2 < y.txns.length by omega)
            have ht1 := List.take_succ_eq_append_getElem (show k2 < x.txns.length by omega)
            have ht2 := List.take_succ_eq_append_getElem (show k2 < y.txns.length by omega)
            have hf := get_ext k2 (show k2 < x.txns.length by omega) (show k2 < y.txns.length by omega)
            generalize x.txns[k2]'(by omega) = xi at *
            generalize y.txns[k2]'(by omega) = yi at *
            by_cases c : xi = yi
            · have hd : decide (xi = yi) = true := decide_eq_true c
              repeat' (first | (refine iBu ?_; refine tl_y (y_buildN rfl) rfl rfl ?_) | (refine i_op ?_; first | (refine i_qq ?_; refine qQ ?_) | refine qEf ?_) | refine tl_nil ?_ | (refine i_tc ?_; refine qTc ?_) | (refine i_te ?_; refine qTe ?_) | intro _)
              refine tc_any (Stays _ _ _) stays_refl ?_
              all_goals refine rFa 0 ?_
              all_goals refine rFull ?_
              all_goals refine rLd 1 ?_
              all_goals refine rMv 2 ?_
              all_goals refine rIa 3 ?_
              all_goals refine rLd 4 ?_
              all_goals refine rFa 5 ?_
              all_goals refine rLd 6 ?_
              all_goals refine rMv 7 ?_
              all_goals refine rIa 8 ?_
              all_goals refine rLd 9 ?_
              all_goals refine rCm 10 ?_
              all_goals refine rDone ?_
              all_goals (repeat' (first | (refine iBu ?_; refine tl_y (y_buildN rfl) rfl rfl ?_) | (refine i_op ?_; first | (refine i_qq ?_; refine qQ ?_) | refine qEf ?_) | refine tl_nil ?_ | (refine i_tc ?_; refine qTc ?_) | (refine i_te ?_; refine qTe ?_) | intro _))
              all_goals refine te_round_g (k2 + 1) (⟨hlt, by rw [ht1, ht2, hpre, c]⟩) ev_le ev_le rfl tk inferInstance (by first | omega | (dsimp only; omega))
            · have hd : decide (xi = yi) = false := decide_eq_false c
              repeat' (first | (refine iBu ?_; refine tl_y (y_buildN rfl) rfl rfl ?_) | (refine i_op ?_; first | (refine i_qq ?_; refine qQ ?_) | refine qEf ?_) | refine tl_nil ?_ | (refine i_tc ?_; refine qTc ?_) | (refine i_te ?_; refine qTe ?_) | intro _)
              refine tc_any (Stays _ _ _) stays_refl ?_
              all_goals refine rFa 0 ?_
              all_goals refine rFull ?_
              all_goals refine rLd 1 ?_
              all_goals refine rMv 2 ?_
              all_goals refine rIa 3 ?_
              all_goals refine rLd 4 ?_
              all_goals refine rFa 5 ?_
              all_goals refine rLd 6 ?_
              all_goals refine rMv 7 ?_
              all_goals refine rIa 8 ?_
              all_goals refine rLd 9 ?_
              all_goals refine rCm 10 ?_
              all_goals refine rDone ?_
              all_goals (repeat' (first | (refine iBu ?_; refine tl_y (y_buildN rfl) rfl rfl ?_) | (refine i_op ?_; first | (refine i_qq ?_; refine qQ ?_) | refine qEf ?_) | refine tl_nil ?_ | (refine i_tc ?_; refine qTc ?_) | (refine i_te ?_; refine qTe ?_) | intro _))
              all_goals exact qE (L' := []) ⟨⟨false, rfl, by simp, fun e => absurd (hf (hp.1 e).2.1) c⟩, rfl, rfl⟩
          · have hT := take_ext (by omega) k2 (by omega) hpre
            repeat' (first | (refine iBu ?_; refine tl_y (y_buildN rfl) rfl rfl ?_) | (refine i_op ?_; first | (refine i_qq ?_; refine qQ ?_) | refine qEf ?_) | refine tl_nil ?_ | (refine i_tc ?_; refine qTc ?_) | (refine i_te ?_; refine qTe ?_) | intro _)
            refine tc_loop_g [(2, _), (3, _), (161, _)] (fun (ζ : (Nat)) => [(162, .int .i64 ζ), (4, .bool false)]) (fun (ζ : (Nat)) => ρ) (fun (ζ : (Nat)) => [[(b3, .cells ⟨[.int .i64 y.kind, .int .u64 y.lsn, .int .i64 y.txn, .int .u64 y.prev, .int .u64 y.next, .slice ja jn jc, .slice ra rn rc, .int .i64 y.nextTxn, .slice ua un uc, .slice ea en ec]⟩ 30 (0, 0))], [(b2, .cells ⟨[.int .i64 x.kind, .int .u64 x.lsn, .int .i64 x.txn, .int .u64 x.prev, .int .u64 x.next, .slice ia inn ic, .slice sa sn sc, .int .i64 x.nextTxn, .slice ta tn tc, .slice da dn dc]⟩ 30 (0, 0))]]) (fun (ζ : (Nat)) => ζ ≤ dn ∧ x.dirty.take ζ = y.dirty.take ζ) (fun (ζ : (Nat)) => dn - ζ) (0) (⟨Nat.zero_le _, rfl⟩) ev_le ev_le rfl tk ?_
            rintro k3 hI
            try simp only [List.cons_append, List.nil_append, List.append_assoc, List.append_eq] at hI ⊢
            try dsimp only at hI ⊢
            obtain ⟨hk, hpre⟩ := hI
            by_cases hlt : k3 < dn
            · obtain ⟨b, off, C, T, fr, rfl, hb, hfit, hc⟩ := hvd.get (show k3 < x.dirty.length by omega)
              obtain ⟨bb, off2, C2, T2, fr2, rfl, hb2, hfit2, hc2⟩ := hwd.get (show k3 < y.dirty.length by omega)
              have ht1 := List.take_succ_eq_append_getElem (show k3 < x.dirty.length by omega)
              have ht2 := List.take_succ_eq_append_getElem (show k3 < y.dirty.length by omega)
              have hf := get_ext k3 (show k3 < x.dirty.length by omega) (show k3 < y.dirty.length by omega)
              generalize x.dirty[k3]'(by omega) = xi at *
              generalize y.dirty[k3]'(by omega) = yi at *
              by_cases c : xi = yi
              · have hd : decide (xi = yi) = true := decide_eq_true c
                repeat' (first | (refine iBu ?_; refine tl_y (y_buildN rfl) rfl rfl ?_) | (refine i_op ?_; first | (refine i_qq ?_; refine qQ ?_) | refine qEf ?_) | refine tl_nil ?_ | (refine i_tc ?_; refine qTc ?_) | (refine i_te ?_; refine qTe ?_) | intro _)
                refine tc_any (Stays _ _ _) stays_refl ?_
                all_goals refine rFa 0 ?_
                all_goals refine rFull ?_
                all_goals refine rLd 1 ?_
                all_goals refine rMv 2 ?_
                all_goals refine rIa 3 ?_
                all_goals refine rLd 4 ?_
                all_goals refine rFa 5 ?_
                all_goals refine rLd 6 ?_
                all_goals refine rMv 7 ?_
                all_goals refine rIa 8 ?_
                all_goals refine rLd 9 ?_
                all_goals refine rCm 10 ?_
                all_goals refine rDone ?_
                all_goals (repeat' (first | (refine iBu ?_; refine tl_y (y_buildN rfl) rfl rfl ?_) | (refine i_op ?_; first | (refine i_qq ?_; refine qQ ?_) | refine qEf ?_) | refine tl_nil ?_ | (refine i_tc ?_; refine qTc ?_) | (refine i_te ?_; refine qTe ?_) | intro _))
                all_goals refine te_round_g (k3 + 1) (⟨hlt, by rw [ht1, ht2, hpre, c]⟩) ev_le ev_le rfl tk inferInstance (by first | omega | (dsimp only; omega))
              · have hd : decide (xi = yi) = false := decide_eq_false c
                repeat' (first | (refine iBu ?_; refine tl_y (y_buildN rfl) rfl rfl ?_) | (refine i_op ?_; first | (refine i_qq ?_; refine qQ ?_) | refine qEf ?_) | refine tl_nil ?_ | (refine i_tc ?_; refine qTc ?_) | (refine i_te ?_; refine qTe ?_) | intro _)
                refine tc_any (Stays _ _ _) stays_refl ?_
                all_goals refine rFa 0 ?_
                all_goals refine rFull ?_
                all_goals refine rLd 1 ?_
                all_goals refine rMv 2 ?_
                all_goals refine rIa 3 ?_
                all_goals refine rLd 4 ?_
                all_goals refine rFa 5 ?_
                all_goals refine rLd 6 ?_
                all_goals refine rMv 7 ?_
                all_goals refine rIa 8 ?_
                all_goals refine rLd 9 ?_
                all_goals refine rCm 10 ?_
                all_goals refine rDone ?_
                all_goals (repeat' (first | (refine iBu ?_; refine tl_y (y_buildN rfl) rfl rfl ?_) | (refine i_op ?_; first | (refine i_qq ?_; refine qQ ?_) | refine qEf ?_) | refine tl_nil ?_ | (refine i_tc ?_; refine qTc ?_) | (refine i_te ?_; refine qTe ?_) | intro _))
                all_goals exact qE (L' := []) ⟨⟨false, rfl, by simp, fun e => absurd (hf (hp.1 e).2.2.1) c⟩, rfl, rfl⟩
            · have hD := take_ext (by omega) k3 (by omega) hpre
              repeat' (first | (refine iBu ?_; refine tl_y (y_buildN rfl) rfl rfl ?_) | (refine i_op ?_; first | (refine i_qq ?_; refine qQ ?_) | refine qEf ?_) | refine tl_nil ?_ | (refine i_tc ?_; refine qTc ?_) | (refine i_te ?_; refine qTe ?_) | intro _)
              exact qE (L' := []) ⟨⟨true, rfl, fun _ => hp.2 ⟨hS, hT, hD, hI⟩, fun _ => rfl⟩, rfl, rfl⟩
    · have hne : x.plain ≠ y.plain := fun e => by
        obtain ⟨g1, g2, g3, g4⟩ := hp.1 e
        have g4 := congrArg List.length g4
        simp only [List.length_map] at g4
        rw [g1] at n3; rw [g2] at n5; rw [g3] at n7
        exact hn (by omega)
      repeat' (first | (refine iBu ?_; refine tl_y (y_buildN rfl) rfl rfl ?_) | (refine i_op ?_; first | (refine i_qq ?_; refine qQ ?_) | refine qEf ?_) | refine tl_nil ?_ | (refine i_tc ?_; refine qTc ?_) | (refine i_te ?_; refine qTe ?_) | (refine i_gd ?_; refine tl_guard rfl rfl (fun hb => ?_) (fun hb => ?_) <;> (try simp only [decide_eq_true_eq, decide_eq_false_iff_not, Bool.not_eq_true, Bool.not_eq_false, beq_iff_eq, bne_iff_ne, ne_eq, decide_eq_decide, Bool.not_eq_eq_eq_not, Bool.not_true, Bool.not_false, beq_eq_false_iff_ne, bne_eq_false_iff_eq, Bool.and_eq_true, Bool.or_eq_true, Bool.and_eq_false_imp, Bool.or_eq_false_iff, bq2, bqt, bqf] at hb)) | (refine i_cond ?_; refine tc_cond rfl (fun hb => ?_) (fun hb => ?_) <;> (try simp only [decide_eq_true_eq, decide_eq_false_iff_not, Bool.not_eq_true, Bool.not_eq_false, beq_iff_eq, bne_iff_ne, ne_eq, decide_eq_decide, Bool.not_eq_eq_eq_not, Bool.not_true, Bool.not_false, beq_eq_false_iff_ne, bne_eq_false_iff_eq, Bool.and_eq_true, Bool.or_eq_true, Bool.and_eq_false_imp, Bool.or_eq_false_iff, bq2, bqt, bqf] at hb)) | intro _)
      all_goals first | (exfalso; omega) | skip
      all_goals (refine qF (L' := []) ?_; exact ⟨⟨false, bool_eq (by (try simp [*]); first | done | omega | (intros; omega) | (constructor <;> intros <;> (try simp_all) <;> omega)), by simp, fun h => absurd h hne⟩, rfl, rfl⟩)
  · have hne : x.plain ≠ y.plain := fun h => e (by
      injection h with a1 a2 a3 a4 a5 a6 a7 a8 a9 a10
      exact ⟨a1, a2, a3, a4, a5, a8⟩)
    repeat' (first | (refine iBu ?_; refine tl_y (y_buildN rfl) rfl rfl ?_) | (refine i_op ?_; first | (refine i_qq ?_; refine qQ ?_) | refine qEf ?_) | refine tl_nil ?_ | (refine i_tc ?_; refine qTc ?_) | (refine i_te ?_; refine qTe ?_) | (refine i_gd ?_; refine tl_guard rfl rfl (fun hb => ?_) (fun hb => ?_) <;> (try simp only [decide_eq_true_eq, decide_eq_false_iff_not, Bool.not_eq_true, Bool.not_eq_false, beq_iff_eq, bne_iff_ne, ne_eq, decide_eq_decide, Bool.not_eq_eq_eq_not, Bool.not_true, Bool.not_false, beq_eq_false_iff_ne, bne_eq_false_iff_eq, Bool.and_eq_true, Bool.or_eq_true, Bool.and_eq_false_imp, Bool.or_eq_false_iff, bq2, bqt, bqf] at hb)) | (refine i_cond ?_; refine tc_cond rfl (fun hb => ?_) (fun hb => ?_) <;> (try simp only [decide_eq_true_eq, decide_eq_false_iff_not, Bool.not_eq_true, Bool.not_eq_false, beq_iff_eq, bne_iff_ne, ne_eq, decide_eq_decide, Bool.not_eq_eq_eq_not, Bool.not_true, Bool.not_false, beq_eq_false_iff_ne, bne_eq_false_iff_eq, Bool.and_eq_true, Bool.or_eq_true, Bool.and_eq_false_imp, Bool.or_eq_false_iff, bq2, bqt, bqf] at hb)) | intro _)
    all_goals first | (exfalso; omega) | skip
    all_goals (refine qF (L' := []) ?_; exact ⟨⟨false, bool_eq (by (try simp [*]); first | done | omega | (intros; omega) | (constructor <;> intros <;> (try simp_all) <;> omega)), by simp, fun h => absurd h hne⟩, rfl, rfl⟩)
end Go.Proofs.E

namespace Go.Proofs.E
open Go
set_option linter.unusedVariables false
set_option linter.unusedSimpArgs false
set_option linter.unusedSectionVars false
set_option maxRecDepth 4000
set_option maxHeartbeats 1000000
attribute [local irreducible] Yl TL TC TE Spec YSpec R1 Hp.le EnvLe TS TR YS Stays
-- BN
abbrev rcV' (x : RV × Rc) : List Value := recV x.1 x.2
theorem laysLaw_spec (ρ : Hp) (a : Option Addr) (n c : Nat) (rs : List (RV × Rc)) (h : AIn ρ 10 rcV' a n rs) (hw : ∀ x ∈ rs, RcW ρ x.1 x.2) (hn : n ≤ 9223372036854775807) :
    Spec Tryz.prog 5 [.slice a n c] ρ [] (fun z ρ' L' => z = .bool true ∧ ρ.le ρ' ∧ L' = []) := by
  have hl := h.len
  refine spec_enter Tryz.func5 rfl rfl rfl fun u R => ?_
  simp only [argsE, List.cons_append, List.nil_append]
  repeat' (first | (refine tl_is (.func 21) ?_; refine qC rfl rfl (wakes12_spec _) ?_; rintro v ρ' L' hle ⟨rfl, hl1, rfl⟩ <;> (try simp only [kM, kN, kO])) | (refine iBu ?_; refine tl_y (y_buildN rfl) rfl rfl ?_) | (refine i_op ?_; first | (refine i_qq ?_; refine qQ ?_) | refine qEf ?_) | refine tl_nil ?_ | (refine i_tc ?_; refine qTc ?_) | (refine i_te ?_; refine qTe ?_) | intro _)
  refine tc_loop_g [(0, _), (13, _), (14, _)] (fun (ζ : (Nat) × (Hp)) => [(15, .int .i64 ζ.1), (2, .bool false)]) (fun (ζ : (Nat) × (Hp)) => ζ.2) (fun (ζ : (Nat) × (Hp)) => []) (fun (ζ : (Nat) × (Hp)) => ζ.1 ≤ n ∧ ρ.le ζ.2) (fun (ζ : (Nat) × (Hp)) => n - ζ.1) ((0, ρ')) (⟨Nat.zero_le _, hl1⟩) ev_le ev_le rfl tk ?_
  rintro ⟨k, ρ1⟩ hI
  try simp only [List.cons_append, List.nil_append, List.append_assoc, List.append_eq] at hI ⊢
  try dsimp only at hI ⊢
  obtain ⟨hk, hle0⟩ := hI
  by_cases hlt : k < n
  · obtain ⟨b, off, C, T, fr, e1, hb, hfit, hcc⟩ := (h.mono hle0).get (show k < rs.length by omega)
    obtain ⟨b', off', C', T', fr', e2, hb', hfit', hcc'⟩ := (h.mono hle0).get (show 0 < rs.length by omega)
    have hx := (hw _ (List.getElem_mem (show k < rs.length by omega))).mono hle0
    have hy := (hw _ (List.getElem_mem (show 0 < rs.length by omega))).mono hle0
    generalize rs[k]'(by omega) = x at *
    generalize rs[0]'(by omega) = y at *
    obtain ⟨v0, r0⟩ := x
    obtain ⟨w0, s0⟩ := y
    dsimp only at hx hy
    rw [e1] at e2
    cases e2
    cases hb.symm.trans hb'
    rw [e1]
    by_cases h8 : k = 8
    · repeat' (first | (refine iBu ?_; refine tl_y (y_buildN rfl) rfl rfl ?_) | (refine i_op ?_; first | (refine i_qq ?_; refine qQ ?_) | refine qEf ?_) | refine tl_nil ?_ | (refine i_tc ?_; refine qTc ?_) | (refine i_te ?_; refine qTe ?_) | intro _)
      exact qE (L' := []) (hle := hle0) ⟨rfl, hle0, rfl⟩
    · have f1 := fun ρ' (hle : ρ1.le ρ') => few12_spec ρ' v0 r0 (hx.mono hle)
      have f2 := fun ρ' (hle : ρ1.le ρ') => few12_spec ρ' w0 s0 (hy.mono hle)
      repeat' (first | (refine iBu ?_; refine tl_y (y_buildN rfl) rfl rfl ?_) | (refine i_op ?_; first | (refine i_qq ?_; refine qQ ?_) | refine qEf ?_) | refine tl_nil ?_ | (refine i_tc ?_; refine qTc ?_) | (refine i_te ?_; refine qTe ?_) | intro _)
      rename_i b4
      refine tc_cut_k R [] (fun (ζ : (Hp) × (RV) × (Rc) × (RV) × (Rc) × (Nat) × (Nat)) => [(0, .slice (some ⟨b, off, none⟩) n c), (2, .bool false), (4, .pointer (some ⟨b4, 0, none⟩)), (5, .pointer (some ⟨ζ.2.2.2.2.2.1, 0, none⟩)), (6, .pointer (some ⟨ζ.2.2.2.2.2.2, 0, none⟩)), (13, .slice (some ⟨b, off, none⟩) n c), (14, .int .i64 n), (15, .int .i64 k)]) (fun (ζ : (Hp) × (RV) × (Rc) × (RV) × (Rc) × (Nat) × (Nat)) => ζ.1) (fun (ζ : (Hp) × (RV) × (Rc) × (RV) × (Rc) × (Nat) × (Nat)) => [[(ζ.2.2.2.2.2.1, .cells ⟨recV ζ.2.1 ζ.2.2.1⟩ 30 (0, 0))], [(ζ.2.2.2.2.2.2, .cells ⟨recV ζ.2.2.2.1 ζ.2.2.2.2.1⟩ 30 (0, 0))], [(b4, .cells ⟨recV v0 r0⟩ 30 (0, 0))]]) (fun (ζ : (Hp) × (RV) × (Rc) × (RV) × (Rc) × (Nat) × (Nat)) => ρ1.le ζ.1 ∧ RcIn ζ.1 ζ.2.1 ζ.2.2.1 ∧ RcIn ζ.1 ζ.2.2.2.1 ζ.2.2.2.2.1 ∧ ζ.2.2.1.plain = fewR r0) ev_le ?_ ?_
      · refine tc_any (Stays _ _ ([[(b4, .cells ⟨recV v0 r0⟩ 30 (0, 0))]])) (stays_of (hT := tk) (Hp.le_refl _)) ?_
        all_goals refine rLd 0 ?_
        all_goals refine rMv 2 ?_
        all_goals refine rIa 3 ?_
        all_goals refine rLd 4 ?_
        all_goals (refine rStep3 (i := 1) (j := 6) (k := 7) ?_ ?_ ?_ <;> ((try refine qWant ?_); (first | (refine tl_is (.func 25) ?_; refine qC rfl rfl (f1 _ (Hp.le_refl _)) ?_; rintro v ρ' L' hle ⟨hl2, v, r, rfl, hr, hp, rfl⟩ <;> (try simp only [kM, kN, kO])) | (refine tl_is (.func 25) ?_; refine qC rfl rfl (f2 _ hl2) ?_; rintro v ρ' L' hle ⟨hl3, v2, r2, rfl, hr2, hp2, rfl⟩ <;> (try simp only [kM, kN, kO])) | (refine qEf ?_; try intro _)) <;> ((try simp only [kM, kN, kO]); refine tl_nil ?_; refine rNext ?_)))
        all_goals (first | (refine rStep3 (i := 5) (j := 6) (k := 7) ?_ ?_ ?_ <;> ((try refine qWant ?_); (first | (refine tl_is (.func 25) ?_; refine qC rfl rfl (f1 _ (Hp.le_refl _)) ?_; rintro v ρ' L' hle ⟨hl2, v, r, rfl, hr, hp, rfl⟩ <;> (try simp only [kM, kN, kO])) | (refine tl_is (.func 25) ?_; refine qC rfl rfl (f2 _ hl2) ?_; rintro v ρ' L' hle ⟨hl3, v2, r2, rfl, hr2, hp2, rfl⟩ <;> (try simp only [kM, kN, kO])) | (refine qEf ?_; try intro _)) <;> ((try simp only [kM, kN, kO]); refine tl_nil ?_; refine rNext ?_))) | (refine rStep2 (i := 1) (j := 7) ?_ ?_ <;> ((try refine qWant ?_); (first | (refine tl_is (.func 25) ?_; refine qC rfl rfl (f1 _ (Hp.le_refl _)) ?_; rintro v ρ' L' hle ⟨hl2, v, r, rfl, hr, hp, rfl⟩ <;> (try simp only [kM, kN, kO])) | (refine tl_is (.func 25) ?_; refine qC rfl rfl (f2 _ hl2) ?_; rintro v ρ' L' hle ⟨hl3, v2, r2, rfl, hr2, hp2, rfl⟩ <;> (try simp only [kM, kN, kO])) | (refine qEf ?_; try intro _)) <;> ((try simp only [kM, kN, kO]); refine tl_nil ?_; refine rNext ?_))) | (refine rStep2 (i := 1) (j := 6) ?_ ?_ <;> ((try refine qWant ?_); (first | (refine tl_is (.func 25) ?_; refine qC rfl rfl (f1 _ (Hp.le_refl _)) ?_; rintro v ρ' L' hle ⟨hl2, v, r, rfl, hr, hp, rfl⟩ <;> (try simp only [kM, kN, kO])) | (refine tl_is (.func 25) ?_; refine qC rfl rfl (f2 _ hl2) ?_; rintro v ρ' L' hle ⟨hl3, v2, r2, rfl, hr2, hp2, rfl⟩ <;> (try simp only [kM, kN, kO])) | (refine qEf ?_; try intro _)) <;> ((try simp only [kM, kN, kO]); refine tl_nil ?_; refine rNext ?_))))
        all_goals (first | (refine rStep2 (i := 6) (j := 7) ?_ ?_ <;> ((try refine qWant ?_); (first | (refine qEf ?_; try intro _)) <;> ((try simp only [kM, kN, kO]); refine tl_nil ?_; refine rNext ?_))) | (refine rStep2 (i := 5) (j := 7) ?_ ?_ <;> ((try refine qWant ?_); (first | (refine tl_is (.func 25) ?_; refine qC rfl rfl (f1 _ (Hp.le_refl _)) ?_; rintro v ρ' L' hle ⟨hl2, v, r, rfl, hr, hp, rfl⟩ <;> (try simp only [kM, kN, kO])) | (refine tl_is (.func 25) ?_; refine qC rfl rfl (f2 _ hl2) ?_; rintro v ρ' L' hle ⟨hl3, v2, r2, rfl, hr2, hp2, rfl⟩ <;> (try simp only [kM, kN, kO])) | (refine qEf ?_; try intro _)) <;> ((try simp only [kM, kN, kO]); refine tl_nil ?_; refine rNext ?_))) | (refine rStep2 (i := 5) (j := 6) ?_ ?_ <;> ((try refine qWant ?_); (first | (refine tl_is (.func 25) ?_; refine qC rfl rfl (f1 _ (Hp.le_refl _)) ?_; rintro v ρ' L' hle ⟨hl2, v, r, rfl, hr, hp, rfl⟩ <;> (try simp only [kM, kN, kO])) | (refine tl_is (.func 25) ?_; refine qC rfl rfl (f2 _ hl2) ?_; rintro v ρ' L' hle ⟨hl3, v2, r2, rfl, hr2, hp2, rfl⟩ <;> (try simp only [kM, kN, kO])) | (refine qEf ?_; try intro _)) <;> ((try simp only [kM, kN, kO]); refine tl_nil ?_; refine rNext ?_))) | (refine rStep (i := 1) ?_; ((try refine qWant ?_); (first | (refine tl_is (.func 25) ?_; refine qC rfl rfl (f1 _ (Hp.le_refl _)) ?_; rintro v ρ' L' hle ⟨hl2, v, r, rfl, hr, hp, rfl⟩ <;> (try simp only [kM, kN, kO])) | (refine tl_is (.func 25) ?_; refine qC rfl rfl (f2 _ hl2) ?_; rintro v ρ' L' hle ⟨hl3, v2, r2, rfl, hr2, hp2, rfl⟩ <;> (try simp only [kM, kN, kO])) | (refine qEf ?_; try intro _)) <;> ((try simp only [kM, kN, kO]); refine tl_nil ?_; refine rNext ?_))))
        all_goals (first | (refine rStep (i := 7) ?_; ((try refine qWant ?_); (first | (refine qEf ?_; try intro _)) <;> ((try simp only [kM, kN, kO]); refine tl_nil ?_; refine rNext ?_))) | (refine rStep (i := 6) ?_; ((try refine qWant ?_); (first | (refine qEf ?_; try intro _)) <;> ((try simp only [kM, kN, kO]); refine tl_nil ?_; refine rNext ?_))) | (refine rStep (i := 5) ?_; ((try refine qWant ?_); (first | (refine tl_is (.func 25) ?_; refine qC rfl rfl (f1 _ (Hp.le_refl _)) ?_; rintro v ρ' L' hle ⟨hl2, v, r, rfl, hr, hp, rfl⟩ <;> (try simp only [kM, kN, kO])) | (refine tl_is (.func 25) ?_; refine qC rfl rfl (f2 _ hl2) ?_; rintro v ρ' L' hle ⟨hl3, v2, r2, rfl, hr2, hp2, rfl⟩ <;> (try simp only [kM, kN, kO])) | (refine qEf ?_; try intro _)) <;> ((try simp only [kM, kN, kO]); refine tl_nil ?_; refine rNext ?_))))
        all_goals (refine rStep (i := 8) ?_; ((try refine qWant ?_); (first | (refine qEf ?_; try intro _)) <;> ((try simp only [kM, kN, kO]); refine tl_nil ?_; refine rNext ?_)))
        all_goals (refine rStep (i := 9) ?_; ((try refine qWant ?_); (first | (refine qEf ?_; try intro _)) <;> ((try simp only [kM, kN, kO]); refine tl_nil ?_; refine rNext ?_)))
        all_goals refine rDone ?_
        all_goals refine te_cut_g ((ρ', v, r, v2, r2, _, _)) (⟨Hp.le_trans hl2 hl3, hr.mono hl3, hr2, hp⟩) ev_le ev_le rfl tk inferInstance
      rintro ⟨ρ3, v, r, v2, r2, b5, b6⟩ ⟨hls, hr3, hr2, hp⟩
      simp only [List.cons_append, List.nil_append] at hls hr3 hr2 hp ⊢
      have hR := right12_spec _ v r hr3
      have hK := rcheck_spec _ v r hr3
      obtain ⟨d, hd⟩ : ∃ d : Bool, d = true ↔ r.plain = r2.plain := by
        by_cases e : r.plain = r2.plain
        · exact ⟨true, fun _ => e, fun _ => rfl⟩
        · exact ⟨false, by simp, fun h => absurd h e⟩
      have hd1 : ∀ b : Bool, (b = true ↔ r.plain = r2.plain) → b = d := fun b h => by rw [Bool.eq_iff_iff, h, hd]
      have g1 := fun ρ (hle : ρ3.le ρ) => recSameG_spec ρ v v2 r r2 (hr3.mono hle) (hr2.mono hle)
      have g2 := fun ρ (hle : ρ3.le ρ) => same12G_spec ρ v v2 r r2 (hr3.mono hle) (hr2.mono hle)
      obtain ⟨d0, hok⟩ : ∃ d0, recOk r = d0 := ⟨_, rfl⟩
      rw [hok] at hR hK
      repeat' (first | (refine tl_is (.func 26) ?_; refine qC rfl rfl (hR) ?_; rintro v ρ' L' hle ⟨rfl, rfl, rfl⟩ <;> (try simp only [kM, kN, kO])) | (refine tl_is (.func 27) ?_; refine qC rfl rfl (hK) ?_; rintro v ρ' L' hle ⟨rfl, rfl, rfl⟩ <;> (try simp only [kM, kN, kO])) | (refine iBu ?_; refine tl_y (y_buildN rfl) rfl rfl ?_) | (refine i_op ?_; first | (refine i_qq ?_; refine qQ ?_) | refine qEf ?_) | refine tl_nil ?_ | (refine i_tc ?_; refine qTc ?_) | (refine i_te ?_; refine qTe ?_) | intro _)
      refine tc_cut_k R [] (fun (ζ : (Hp)) => [(0, .slice (some ⟨b, off, none⟩) n c), (2, .bool false), (4, .pointer (some ⟨b4, 0, none⟩)), (5, .pointer (some ⟨b5, 0, none⟩)), (6, .pointer (some ⟨b6, 0, none⟩)), (7, .bool d0), (13, .slice (some ⟨b, off, none⟩) n c), (14, .int .i64 n), (15, .int .i64 k), (59, .bool false)]) (fun (ζ : (Hp)) => ζ) (fun (ζ : (Hp)) => [[(b5, .cells ⟨recV v r⟩ 30 (0, 0))], [(b6, .cells ⟨recV v2 r2⟩ 30 (0, 0))], [(b4, .cells ⟨recV v0 r0⟩ 30 (0, 0))]]) (fun (ζ : (Hp)) => ρ'.le ζ) ev_le ?_ ?_
      · cases d0 <;> cases d
        all_goals refine tc_any (Stays _ _ ([[(b5, .cells ⟨recV v r⟩ 30 (0, 0))], [(b6, .cells ⟨recV v2 r2⟩ 30 (0, 0))], [(b4, .cells ⟨recV v0 r0⟩ 30 (0, 0))]])) (stays_of (hT := tk) (Hp.le_refl _)) ?_
        all_goals refine rMv 0 ?_
        all_goals refine rCm 1 ?_
        all_goals refine rMv 2 ?_
        all_goals refine rCm 3 ?_
        all_goals refine rMv 4 ?_
        all_goals (first | refine wSkip 5 ?_ | refine wSkipU 5 ?_ | refine wMv 5 ?_ | (refine tr_guard (t := 36) rfl (fun hb => ?_) (fun hb => ?_) <;> (try simp only [kk] at hb) <;> first | refine wSkip 5 ?_ | refine wSkipU 5 ?_ | refine wMv 5 ?_))
        all_goals (first | refine wSkip 6 ?_ | refine wSkipU 6 ?_ | refine wUn 6 ?_ | (refine tr_guard (t := 36) rfl (fun hb => ?_) (fun hb => ?_) <;> (try simp only [kk] at hb) <;> first | refine wSkip 6 ?_ | refine wSkipU 6 ?_ | refine wUn 6 ?_))
        all_goals (first | refine wSkip 7 ?_ | refine wSkipU 7 ?_ | refine wMv 7 ?_ | (refine tr_guard (t := 36) rfl (fun hb => ?_) (fun hb => ?_) <;> (try simp only [kk] at hb) <;> first | refine wSkip 7 ?_ | refine wSkipU 7 ?_ | refine wMv 7 ?_))
        all_goals (first | refine wSkip 8 ?_ | refine wSkipU 8 ?_ | refine wMv 8 ?_ | (refine tr_guard (t := 39) rfl (fun hb => ?_) (fun hb => ?_) <;> (try simp only [kk] at hb) <;> first | refine wSkip 8 ?_ | refine wSkipU 8 ?_ | refine wMv 8 ?_))
        all_goals (first | refine wSkip 9 ?_ | refine wSkipU 9 ?_ | refine wCm 9 ?_ | (refine tr_guard (t := 39) rfl (fun hb => ?_) (fun hb => ?_) <;> (try simp only [kk] at hb) <;> first | refine wSkip 9 ?_ | refine wSkipU 9 ?_ | refine wCm 9 ?_))
        all_goals (first | refine wSkip 10 ?_ | refine wSkipU 10 ?_ | refine wPk 10 ?_ | (refine tr_guard (t := 36) rfl (fun hb => ?_) (fun hb => ?_) <;> (try simp only [kk] at hb) <;> first | refine wSkip 10 ?_ | refine wSkipU 10 ?_ | refine wPk 10 ?_))
        all_goals refine rPk 11 ?_
        all_goals refine rMv 12 ?_
        all_goals (first | refine wSkip 13 ?_ | refine wSkipU 13 ?_ | refine wLd 13 ?_ | (refine tr_guard (t := 44) rfl (fun hb => ?_) (fun hb => ?_) <;> (try simp only [kk] at hb) <;> first | refine wSkip 13 ?_ | refine wSkipU 13 ?_ | refine wLd 13 ?_))
        all_goals (first | refine wSkip 14 ?_ | refine wSkipU 14 ?_ | refine wLd 14 ?_ | (refine tr_guard (t := 44) rfl (fun hb => ?_) (fun hb => ?_) <;> (try simp only [kk] at hb) <;> first | refine wSkip 14 ?_ | refine wSkipU 14 ?_ | refine wLd 14 ?_))
        all_goals (first | refine wSkip 16 ?_ | refine wSkipU 16 ?_ | refine wLd 16 ?_ | (refine tr_guard (t := 44) rfl (fun hb => ?_) (fun hb => ?_) <;> (try simp only [kk] at hb) <;> first | refine wSkip 16 ?_ | refine wSkipU 16 ?_ | refine wLd 16 ?_))
        all_goals (first | refine wSkip 17 ?_ | refine wSkipU 17 ?_ | refine wLd 17 ?_ | (refine tr_guard (t := 44) rfl (fun hb => ?_) (fun hb => ?_) <;> (try simp only [kk] at hb) <;> first | refine wSkip 17 ?_ | refine wSkipU 17 ?_ | refine wLd 17 ?_))
        all_goals (first | refine wSkip 15 ?_ | refine wSkipU 15 ?_ | (refine rStep (i := 15) ?_; ((try refine qWant ?_); (first | (refine tl_is (.func 28) ?_; refine qC rfl rfl (g1 _ (by first | exact Hp.le_refl _ | assumption)) ?_; rintro v ρ' L' hle ⟨⟨q, rfl, hq⟩, rfl, rfl⟩ <;> (try simp only [kM, kN, kO]); (obtain rfl := hd1 q hq)) | (refine tl_is (.func 28) ?_; refine qC rfl rfl (recSameG_spec _ v v3 r r3 (hr3.mono hl4) hr4) ?_; rintro v ρ' L' hle ⟨⟨q, rfl, hq⟩, rfl, rfl⟩ <;> (try simp only [kM, kN, kO]); (obtain rfl : q = true := hq.2 (hp.trans hp4.symm))) | (refine qEf ?_; try intro _)) <;> ((try simp only [kM, kN, kO]); refine tl_nil ?_; refine rNext ?_))))
        all_goals (first | refine wSkip 18 ?_ | refine wSkipU 18 ?_ | (refine rStep (i := 18) ?_; ((try refine qWant ?_); (first | (refine tl_is (.func 24) ?_; refine qC rfl rfl (g2 _ (by first | exact Hp.le_refl _ | assumption)) ?_; rintro v ρ' L' hle ⟨⟨q, rfl, hq⟩, rfl, rfl⟩ <;> (try simp only [kM, kN, kO]); (obtain rfl := hd1 q hq)) | (refine qEf ?_; try intro _)) <;> ((try simp only [kM, kN, kO]); refine tl_nil ?_; refine rNext ?_))))
        all_goals (first | refine wSkip 19 ?_ | refine wSkipU 19 ?_ | refine wCm 19 ?_ | (refine tr_guard (t := 44) rfl (fun hb => ?_) (fun hb => ?_) <;> (try simp only [kk] at hb) <;> first | refine wSkip 19 ?_ | refine wSkipU 19 ?_ | refine wCm 19 ?_))
        all_goals refine rPk 20 ?_
        all_goals refine rMv 21 ?_
        all_goals (first | refine wSkip 22 ?_ | refine wSkipU 22 ?_ | refine wLd 22 ?_ | (refine tr_guard (t := 53) rfl (fun hb => ?_) (fun hb => ?_) <;> (try simp only [kk] at hb) <;> first | refine wSkip 22 ?_ | refine wSkipU 22 ?_ | refine wLd 22 ?_))
        all_goals (first | refine wSkip 23 ?_ | refine wSkipU 23 ?_ | refine wLd 23 ?_ | (refine tr_guard (t := 53) rfl (fun hb => ?_) (fun hb => ?_) <;> (try simp only [kk] at hb) <;> first | refine wSkip 23 ?_ | refine wSkipU 23 ?_ | refine wLd 23 ?_))
        all_goals (first | refine wSkip 24 ?_ | refine wSkipU 24 ?_ | (refine rStep (i := 24) ?_; ((try refine qWant ?_); (first | (refine tl_is (.func 25) ?_; refine qC rfl rfl (f1 _ hls) ?_; rintro v ρ' L' hle ⟨hl4, v3, r3, rfl, hr4, hp4, rfl⟩ <;> (try simp only [kM, kN, kO])) | (refine qEf ?_; try intro _)) <;> ((try simp only [kM, kN, kO]); refine tl_nil ?_; refine rNext ?_))))
        all_goals (first | refine wSkip 25 ?_ | refine wSkipU 25 ?_ | (refine rStep (i := 25) ?_; ((try refine qWant ?_); (first | (refine tl_is (.func 28) ?_; refine qC rfl rfl (g1 _ (by first | exact Hp.le_refl _ | assumption)) ?_; rintro v ρ' L' hle ⟨⟨q, rfl, hq⟩, rfl, rfl⟩ <;> (try simp only [kM, kN, kO]); (obtain rfl := hd1 q hq)) | (refine tl_is (.func 28) ?_; refine qC rfl rfl (recSameG_spec _ v v3 r r3 (hr3.mono hl4) hr4) ?_; rintro v ρ' L' hle ⟨⟨q, rfl, hq⟩, rfl, rfl⟩ <;> (try simp only [kM, kN, kO]); (obtain rfl : q = true := hq.2 (hp.trans hp4.symm))) | (refine qEf ?_; try intro _)) <;> ((try simp only [kM, kN, kO]); refine tl_nil ?_; refine rNext ?_))))
        all_goals refine rFull ?_
        all_goals (first | refine wSkip 26 ?_ | refine wSkipU 26 ?_ | refine wUn 26 ?_ | (refine tr_guard (t := 53) rfl (fun hb => ?_) (fun hb => ?_) <;> (try simp only [kk] at hb) <;> first | refine wSkip 26 ?_ | refine wSkipU 26 ?_ | refine wUn 26 ?_))
        all_goals refine rPk 27 ?_
        all_goals refine rDone ?_
        all_goals refine te_cut_g ((_)) (hl4) ev_le ev_le rfl tk inferInstance
      rintro ρ4 hle4
      simp only [List.cons_append, List.nil_append] at hle4 ⊢
      have hrr := hr3.mono hle4
      have hE := rencode_spec _ v r hrr
      have hB := fun ρ (hle : ρ4.le ρ) hL => bytes12_spec ρ v r (hrr.mono hle) hL
      have hl14 := Hp.le_trans hls hle4
      cases d0
      · rw [hok] at hE
        simp only [Bool.false_eq_true, if_false] at hE
        repeat' (first | (refine tl_is (.func 29) ?_; refine qC rfl rfl (hE) ?_; rintro v ρ' L' hle ⟨hl5, a5, n5, c5, rfl, hc5, hs5, rfl⟩ <;> (try simp only [kM, kN, kO])) | (refine iBu ?_; refine tl_y (y_buildN rfl) rfl rfl ?_) | (refine i_op ?_; first | (refine i_qq ?_; refine qQ ?_) | refine qEf ?_) | refine tl_nil ?_ | (refine i_tc ?_; refine qTc ?_) | (refine i_te ?_; refine qTe ?_) | intro _)
        have hn5 := hs5.len
        simp only [List.length_nil] at hn5
        subst hn5
        have hl15 := Hp.le_trans hl14 hl5
        refine tc_any (Stays _ _ ([[(b5, .cells ⟨recV v r⟩ 30 (0, 0))], [(b6, .cells ⟨recV v2 r2⟩ 30 (0, 0))], [(b4, .cells ⟨recV v0 r0⟩ 30 (0, 0))]])) (stays_of (hT := tk) (Hp.le_refl _)) ?_
        all_goals refine rMv 0 ?_
        all_goals refine rMv 1 ?_
        all_goals (first | refine wSkip 2 ?_ | refine wSkipU 2 ?_ | refine wMv 2 ?_ | (refine tr_guard (t := 66) rfl (fun hb => ?_) (fun hb => ?_) <;> (try simp only [kk] at hb) <;> first | refine wSkip 2 ?_ | refine wSkipU 2 ?_ | refine wMv 2 ?_))
        all_goals (first | refine wSkip 3 ?_ | refine wSkipU 3 ?_ | refine wCm 3 ?_ | (refine tr_guard (t := 66) rfl (fun hb => ?_) (fun hb => ?_) <;> (try simp only [kk] at hb) <;> first | refine wSkip 3 ?_ | refine wSkipU 3 ?_ | refine wCm 3 ?_))
        all_goals (first | refine wSkip 4 ?_ | refine wSkipU 4 ?_ | refine wMv 4 ?_ | (refine tr_guard (t := 66) rfl (fun hb => ?_) (fun hb => ?_) <;> (try simp only [kk] at hb) <;> first | refine wSkip 4 ?_ | refine wSkipU 4 ?_ | refine wMv 4 ?_))
        all_goals (first | refine wSkip 5 ?_ | refine wSkipU 5 ?_ | refine wMv 5 ?_ | (refine tr_guard (t := 69) rfl (fun hb => ?_) (fun hb => ?_) <;> (try simp only [kk] at hb) <;> first | refine wSkip 5 ?_ | refine wSkipU 5 ?_ | refine wMv 5 ?_))
        all_goals (first | refine wSkip 6 ?_ | refine wSkipU 6 ?_ | refine wLd 6 ?_ | (refine tr_guard (t := 69) rfl (fun hb => ?_) (fun hb => ?_) <;> (try simp only [kk] at hb) <;> first | refine wSkip 6 ?_ | refine wSkipU 6 ?_ | refine wLd 6 ?_))
        all_goals (first | refine wSkip 7 ?_ | refine wSkipU 7 ?_ | (refine rStep (i := 7) ?_; ((try refine qWant ?_); (first | (refine qEf ?_; try intro _)) <;> ((try simp only [kM, kN, kO]); refine tl_nil ?_; refine rNext ?_))))
        all_goals (first | refine wSkip 8 ?_ | refine wSkipU 8 ?_ | (refine rStep (i := 8) ?_; ((try refine qWant ?_); (first | (refine qEf ?_; try intro _)) <;> ((try simp only [kM, kN, kO]); refine tl_nil ?_; refine rNext ?_))))
        all_goals (first | refine wSkip 9 ?_ | refine wSkipU 9 ?_ | refine wUn 9 ?_ | (refine tr_guard (t := 69) rfl (fun hb => ?_) (fun hb => ?_) <;> (try simp only [kk] at hb) <;> first | refine wSkip 9 ?_ | refine wSkipU 9 ?_ | refine wUn 9 ?_))
        all_goals (first | refine wSkip 10 ?_ | refine wSkipU 10 ?_ | refine wPk 10 ?_ | (refine tr_guard (t := 66) rfl (fun hb => ?_) (fun hb => ?_) <;> (try simp only [kk] at hb) <;> first | refine wSkip 10 ?_ | refine wSkipU 10 ?_ | refine wPk 10 ?_))
        all_goals refine rPk 11 ?_
        all_goals refine rMv 12 ?_
        all_goals (first | refine wSkip 13 ?_ | refine wSkipU 13 ?_ | refine wMv 13 ?_ | (refine tr_guard (t := 77) rfl (fun hb => ?_) (fun hb => ?_) <;> (try simp only [kk] at hb) <;> first | refine wSkip 13 ?_ | refine wSkipU 13 ?_ | refine wMv 13 ?_))
        all_goals (first | refine wSkip 14 ?_ | refine wSkipU 14 ?_ | refine wUn 14 ?_ | (refine tr_guard (t := 77) rfl (fun hb => ?_) (fun hb => ?_) <;> (try simp only [kk] at hb) <;> first | refine wSkip 14 ?_ | refine wSkipU 14 ?_ | refine wUn 14 ?_))
        all_goals (first | refine wSkip 15 ?_ | refine wSkipU 15 ?_ | refine wMv 15 ?_ | (refine tr_guard (t := 77) rfl (fun hb => ?_) (fun hb => ?_) <;> (try simp only [kk] at hb) <;> first | refine wSkip 15 ?_ | refine wSkipU 15 ?_ | refine wMv 15 ?_))
        all_goals (first | refine wSkip 16 ?_ | refine wSkipU 16 ?_ | refine wMv 16 ?_ | (refine tr_guard (t := 80) rfl (fun hb => ?_) (fun hb => ?_) <;> (try simp only [kk] at hb) <;> first | refine wSkip 16 ?_ | refine wSkipU 16 ?_ | refine wMv 16 ?_))
        all_goals (first | refine wSkip 17 ?_ | refine wSkipU 17 ?_ | refine wCm 17 ?_ | (refine tr_guard (t := 80) rfl (fun hb => ?_) (fun hb => ?_) <;> (try simp only [kk] at hb) <;> first | refine wSkip 17 ?_ | refine wSkipU 17 ?_ | refine wCm 17 ?_))
        all_goals (first | refine wSkip 18 ?_ | refine wSkipU 18 ?_ | refine wMv 18 ?_ | (refine tr_guard (t := 80) rfl (fun hb => ?_) (fun hb => ?_) <;> (try simp only [kk] at hb) <;> first | refine wSkip 18 ?_ | refine wSkipU 18 ?_ | refine wMv 18 ?_))
        all_goals (first | refine wSkip 19 ?_ | refine wSkipU 19 ?_ | refine wMv 19 ?_ | (refine tr_guard (t := 83) rfl (fun hb => ?_) (fun hb => ?_) <;> (try simp only [kk] at hb) <;> first | refine wSkip 19 ?_ | refine wSkipU 19 ?_ | refine wMv 19 ?_))
        all_goals (first | refine wSkip 20 ?_ | refine wSkipU 20 ?_ | refine wBi 20 ?_ | (refine tr_guard (t := 83) rfl (fun hb => ?_) (fun hb => ?_) <;> (try simp only [kk] at hb) <;> first | refine wSkip 20 ?_ | refine wSkipU 20 ?_ | refine wBi 20 ?_))
        all_goals (first | refine wSkip 21 ?_ | refine wSkipU 21 ?_ | refine wCm 21 ?_ | (refine tr_guard (t := 83) rfl (fun hb => ?_) (fun hb => ?_) <;> (try simp only [kk] at hb) <;> first | refine wSkip 21 ?_ | refine wSkipU 21 ?_ | refine wCm 21 ?_))
        all_goals (first | refine wSkip 22 ?_ | refine wSkipU 22 ?_ | refine wPk 22 ?_ | (refine tr_guard (t := 80) rfl (fun hb => ?_) (fun hb => ?_) <;> (try simp only [kk] at hb) <;> first | refine wSkip 22 ?_ | refine wSkipU 22 ?_ | refine wPk 22 ?_))
        all_goals (first | refine wSkip 23 ?_ | refine wSkipU 23 ?_ | refine wPk 23 ?_ | (refine tr_guard (t := 77) rfl (fun hb => ?_) (fun hb => ?_) <;> (try simp only [kk] at hb) <;> first | refine wSkip 23 ?_ | refine wSkipU 23 ?_ | refine wPk 23 ?_))
        all_goals refine rPk 24 ?_
        all_goals refine rMv 25 ?_
        all_goals (first | refine wSkip 26 ?_ | refine wSkipU 26 ?_ | refine wLd 26 ?_ | (refine tr_guard (t := 90) rfl (fun hb => ?_) (fun hb => ?_) <;> (try simp only [kk] at hb) <;> first | refine wSkip 26 ?_ | refine wSkipU 26 ?_ | refine wLd 26 ?_))
        all_goals (first | refine wSkip 27 ?_ | refine wSkipU 27 ?_ | refine wLd 27 ?_ | (refine tr_guard (t := 90) rfl (fun hb => ?_) (fun hb => ?_) <;> (try simp only [kk] at hb) <;> first | refine wSkip 27 ?_ | refine wSkipU 27 ?_ | refine wLd 27 ?_))
        all_goals (first | refine wSkip 28 ?_ | refine wSkipU 28 ?_ | (refine rStep (i := 28) ?_; ((try refine qWant ?_); (first | (refine tl_is (.func 25) ?_; refine qC rfl rfl (f1 _ hl15) ?_; rintro v ρ' L' hle ⟨hl4, v3, r3, rfl, hr4, hp4, rfl⟩ <;> (try simp only [kM, kN, kO])) | (refine qEf ?_; try intro _)) <;> ((try simp only [kM, kN, kO]); refine tl_nil ?_; refine rNext ?_))))
        all_goals (first | refine wSkip 29 ?_ | refine wSkipU 29 ?_ | (refine rStep (i := 29) ?_; ((try refine qWant ?_); (first | (refine tl_is (.func 24) ?_; refine qC rfl rfl (same12G_spec _ v v3 r r3 (hrr.mono (Hp.le_trans hl5 hl4)) hr4) ?_; rintro v ρ' L' hle ⟨⟨q, rfl, hq⟩, rfl, rfl⟩ <;> (try simp only [kM, kN, kO]); (obtain rfl : q = true := hq.2 (hp.trans hp4.symm))) | (refine qEf ?_; try intro _)) <;> ((try simp only [kM, kN, kO]); refine tl_nil ?_; refine rNext ?_))))
        all_goals refine rFull ?_
        all_goals (first | refine wSkip 30 ?_ | refine wSkipU 30 ?_ | refine wUn 30 ?_ | (refine tr_guard (t := 90) rfl (fun hb => ?_) (fun hb => ?_) <;> (try simp only [kk] at hb) <;> first | refine wSkip 30 ?_ | refine wSkipU 30 ?_ | refine wUn 30 ?_))
        all_goals refine rPk 31 ?_
        all_goals refine rDone ?_
        all_goals (repeat' (first | (refine iBu ?_; refine tl_y (y_buildN rfl) rfl rfl ?_) | (refine i_op ?_; first | (refine i_qq ?_; refine qQ ?_) | refine qEf ?_) | refine tl_nil ?_ | (refine i_tc ?_; refine qTc ?_) | (refine i_te ?_; refine qTe ?_) | intro _))
        all_goals refine te_round_g (k + 1, _) (⟨hlt, Hp.le_trans hle0 (Hp.le_trans hl15 hl4)⟩) ev_le ev_le rfl tk inferInstance (by first | omega | (dsimp only; omega))
      · rw [hok] at hE
        simp only [if_true] at hE
        have hL := recOk_lay hok
        have hQ : ∀ ρ a a' n n' c c', SIn ρ u8c a n (recB r) → SIn ρ u8c a' n' (recB r) → Spec Tryz.prog 30 [.slice a n c, .slice a' n' c'] ρ [] (fun v ρ' L' => v = .bool true ∧ ρ' = ρ ∧ L' = []) := fun ρ a a' n n' c c' h h' => by
          have := bytesEq_spec ρ a a' n c n' c' _ _ h h'
          rwa [decide_eq_true rfl] at this
        generalize recB r = X at *
        repeat' (first | (refine tl_is (.func 29) ?_; refine qC rfl rfl (hE) ?_; rintro v ρ' L' hle ⟨hl5, a5, n5, c5, rfl, hc5, hs5, rfl⟩ <;> (try simp only [kM, kN, kO])) | (refine iBu ?_; refine tl_y (y_buildN rfl) rfl rfl ?_) | (refine i_op ?_; first | (refine i_qq ?_; refine qQ ?_) | refine qEf ?_) | refine tl_nil ?_ | (refine i_tc ?_; refine qTc ?_) | (refine i_te ?_; refine qTe ?_) | intro _)
        have hl15 := Hp.le_trans hl14 hl5
        refine tc_any (Stays _ _ ([[(b5, .cells ⟨recV v r⟩ 30 (0, 0))], [(b6, .cells ⟨recV v2 r2⟩ 30 (0, 0))], [(b4, .cells ⟨recV v0 r0⟩ 30 (0, 0))]])) (stays_of (hT := tk) (Hp.le_refl _)) ?_
        all_goals refine rMv 0 ?_
        all_goals refine rMv 1 ?_
        all_goals (first | refine wSkip 2 ?_ | refine wSkipU 2 ?_ | refine wMv 2 ?_ | (refine tr_guard (t := 66) rfl (fun hb => ?_) (fun hb => ?_) <;> (try simp only [kk] at hb) <;> first | refine wSkip 2 ?_ | refine wSkipU 2 ?_ | refine wMv 2 ?_))
        all_goals (first | refine wSkip 3 ?_ | refine wSkipU 3 ?_ | refine wCm 3 ?_ | (refine tr_guard (t := 66) rfl (fun hb => ?_) (fun hb => ?_) <;> (try simp only [kk] at hb) <;> first | refine wSkip 3 ?_ | refine wSkipU 3 ?_ | refine wCm 3 ?_))
        all_goals (first | refine wSkip 4 ?_ | refine wSkipU 4 ?_ | refine wMv 4 ?_ | (refine tr_guard (t := 66) rfl (fun hb => ?_) (fun hb => ?_) <;> (try simp only [kk] at hb) <;> first | refine wSkip 4 ?_ | refine wSkipU 4 ?_ | refine wMv 4 ?_))
        all_goals (first | refine wSkip 5 ?_ | refine wSkipU 5 ?_ | refine wMv 5 ?_ | (refine tr_guard (t := 69) rfl (fun hb => ?_) (fun hb => ?_) <;> (try simp only [kk] at hb) <;> first | refine wSkip 5 ?_ | refine wSkipU 5 ?_ | refine wMv 5 ?_))
        all_goals (first | refine wSkip 6 ?_ | refine wSkipU 6 ?_ | refine wLd 6 ?_ | (refine tr_guard (t := 69) rfl (fun hb => ?_) (fun hb => ?_) <;> (try simp only [kk] at hb) <;> first | refine wSkip 6 ?_ | refine wSkipU 6 ?_ | refine wLd 6 ?_))
        all_goals (first | refine wSkip 7 ?_ | refine wSkipU 7 ?_ | (refine rStep (i := 7) ?_; ((try refine qWant ?_); (first | (refine tl_is (.func 31) ?_; refine qC rfl rfl (hB _ (by first | exact hl5 | exact Hp.le_trans hl5 hl4) hL) ?_; rintro v ρ' L' hle ⟨hl6, a6, c6, rfl, hc6, hs6, rfl⟩ <;> (try simp only [kM, kN, kO])) | (refine qEf ?_; try intro _)) <;> ((try simp only [kM, kN, kO]); refine tl_nil ?_; refine rNext ?_))))
        all_goals (first | refine wSkip 8 ?_ | refine wSkipU 8 ?_ | (refine rStep (i := 8) ?_; ((try refine qWant ?_); (first | (refine tl_is (.func 30) ?_; refine qC rfl rfl (hQ _ _ _ _ _ _ _ (by first | exact hs5.mono hl6 | exact (hs5.mono hl6).mono hl4 | exact (hs5.mono hl4).mono hl6) (by first | exact hs6 | exact hs6.mono hl4)) ?_; rintro v ρ' L' hle ⟨rfl, rfl, rfl⟩ <;> (try simp only [kM, kN, kO])) | (refine qEf ?_; try intro _)) <;> ((try simp only [kM, kN, kO]); refine tl_nil ?_; refine rNext ?_))))
        all_goals (first | refine wSkip 9 ?_ | refine wSkipU 9 ?_ | refine wUn 9 ?_ | (refine tr_guard (t := 69) rfl (fun hb => ?_) (fun hb => ?_) <;> (try simp only [kk] at hb) <;> first | refine wSkip 9 ?_ | refine wSkipU 9 ?_ | refine wUn 9 ?_))
        all_goals (first | refine wSkip 10 ?_ | refine wSkipU 10 ?_ | refine wPk 10 ?_ | (refine tr_guard (t := 66) rfl (fun hb => ?_) (fun hb => ?_) <;> (try simp only [kk] at hb) <;> first | refine wSkip 10 ?_ | refine wSkipU 10 ?_ | refine wPk 10 ?_))
        all_goals refine rPk 11 ?_
        all_goals refine rMv 12 ?_
        all_goals (first | refine wSkip 13 ?_ | refine wSkipU 13 ?_ | refine wMv 13 ?_ | (refine tr_guard (t := 77) rfl (fun hb => ?_) (fun hb => ?_) <;> (try simp only [kk] at hb) <;> first | refine wSkip 13 ?_ | refine wSkipU 13 ?_ | refine wMv 13 ?_))
        all_goals (first | refine wSkip 14 ?_ | refine wSkipU 14 ?_ | refine wUn 14 ?_ | (refine tr_guard (t := 77) rfl (fun hb => ?_) (fun hb => ?_) <;> (try simp only [kk] at hb) <;> first | refine wSkip 14 ?_ | refine wSkipU 14 ?_ | refine wUn 14 ?_))
        all_goals (first | refine wSkip 15 ?_ | refine wSkipU 15 ?_ | refine wMv 15 ?_ | (refine tr_guard (t := 77) rfl (fun hb => ?_) (fun hb => ?_) <;> (try simp only [kk] at hb) <;> first | refine wSkip 15 ?_ | refine wSkipU 15 ?_ | refine wMv 15 ?_))
        all_goals (first | refine wSkip 16 ?_ | refine wSkipU 16 ?_ | refine wMv 16 ?_ | (refine tr_guard (t := 80) rfl (fun hb => ?_) (fun hb => ?_) <;> (try simp only [kk] at hb) <;> first | refine wSkip 16 ?_ | refine wSkipU 16 ?_ | refine wMv 16 ?_))
        all_goals (first | refine wSkip 17 ?_ | refine wSkipU 17 ?_ | refine wCm 17 ?_ | (refine tr_guard (t := 80) rfl (fun hb => ?_) (fun hb => ?_) <;> (try simp only [kk] at hb) <;> first | refine wSkip 17 ?_ | refine wSkipU 17 ?_ | refine wCm 17 ?_))
        all_goals (first | refine wSkip 18 ?_ | refine wSkipU 18 ?_ | refine wMv 18 ?_ | (refine tr_guard (t := 80) rfl (fun hb => ?_) (fun hb => ?_) <;> (try simp only [kk] at hb) <;> first | refine wSkip 18 ?_ | refine wSkipU 18 ?_ | refine wMv 18 ?_))
        all_goals (first | refine wSkip 19 ?_ | refine wSkipU 19 ?_ | refine wMv 19 ?_ | (refine tr_guard (t := 83) rfl (fun hb => ?_) (fun hb => ?_) <;> (try simp only [kk] at hb) <;> first | refine wSkip 19 ?_ | refine wSkipU 19 ?_ | refine wMv 19 ?_))
        all_goals (first | refine wSkip 20 ?_ | refine wSkipU 20 ?_ | refine wBi 20 ?_ | (refine tr_guard (t := 83) rfl (fun hb => ?_) (fun hb => ?_) <;> (try simp only [kk] at hb) <;> first | refine wSkip 20 ?_ | refine wSkipU 20 ?_ | refine wBi 20 ?_))
        all_goals (first | refine wSkip 21 ?_ | refine wSkipU 21 ?_ | refine wCm 21 ?_ | (refine tr_guard (t := 83) rfl (fun hb => ?_) (fun hb => ?_) <;> (try simp only [kk] at hb) <;> first | refine wSkip 21 ?_ | refine wSkipU 21 ?_ | refine wCm 21 ?_))
        all_goals (first | refine wSkip 22 ?_ | refine wSkipU 22 ?_ | refine wPk 22 ?_ | (refine tr_guard (t := 80) rfl (fun hb => ?_) (fun hb => ?_) <;> (try simp only [kk] at hb) <;> first | refine wSkip 22 ?_ | refine wSkipU 22 ?_ | refine wPk 22 ?_))
        all_goals (first | refine wSkip 23 ?_ | refine wSkipU 23 ?_ | refine wPk 23 ?_ | (refine tr_guard (t := 77) rfl (fun hb => ?_) (fun hb => ?_) <;> (try simp only [kk] at hb) <;> first | refine wSkip 23 ?_ | refine wSkipU 23 ?_ | refine wPk 23 ?_))
        all_goals refine rPk 24 ?_
        all_goals refine rMv 25 ?_
        all_goals (first | refine wSkip 26 ?_ | refine wSkipU 26 ?_ | refine wLd 26 ?_ | (refine tr_guard (t := 90) rfl (fun hb => ?_) (fun hb => ?_) <;> (try simp only [kk] at hb) <;> first | refine wSkip 26 ?_ | refine wSkipU 26 ?_ | refine wLd 26 ?_))
        all_goals (first | refine wSkip 27 ?_ | refine wSkipU 27 ?_ | refine wLd 27 ?_ | (refine tr_guard (t := 90) rfl (fun hb => ?_) (fun hb => ?_) <;> (try simp only [kk] at hb) <;> first | refine wSkip 27 ?_ | refine wSkipU 27 ?_ | refine wLd 27 ?_))
        all_goals (first | refine wSkip 28 ?_ | refine wSkipU 28 ?_ | (refine rStep (i := 28) ?_; ((try refine qWant ?_); (first | (refine tl_is (.func 25) ?_; refine qC rfl rfl (f1 _ (by first | exact hl15 | exact Hp.le_trans hl15 hl6)) ?_; rintro v ρ' L' hle ⟨hl4, v3, r3, rfl, hr4, hp4, rfl⟩ <;> (try simp only [kM, kN, kO])) | (refine qEf ?_; try intro _)) <;> ((try simp only [kM, kN, kO]); refine tl_nil ?_; refine rNext ?_))))
        all_goals (first | refine wSkip 29 ?_ | refine wSkipU 29 ?_ | (refine rStep (i := 29) ?_; ((try refine qWant ?_); (first | (refine tl_is (.func 24) ?_; refine qC rfl rfl (same12G_spec _ v v3 r r3 (by first | exact hrr.mono (Hp.le_trans hl5 hl4) | exact hrr.mono (Hp.le_trans hl5 (Hp.le_trans hl4 hl6)) | exact hrr.mono (Hp.le_trans hl5 (Hp.le_trans hl6 hl4))) (by first | exact hr4 | exact hr4.mono hl6)) ?_; rintro v ρ' L' hle ⟨⟨q, rfl, hq⟩, rfl, rfl⟩ <;> (try simp only [kM, kN, kO]); (obtain rfl : q = true := hq.2 (hp.trans hp4.symm))) | (refine qEf ?_; try intro _)) <;> ((try simp only [kM, kN, kO]); refine tl_nil ?_; refine rNext ?_))))
        all_goals refine rFull ?_
        all_goals (first | refine wSkip 30 ?_ | refine wSkipU 30 ?_ | refine wUn 30 ?_ | (refine tr_guard (t := 90) rfl (fun hb => ?_) (fun hb => ?_) <;> (try simp only [kk] at hb) <;> first | refine wSkip 30 ?_ | refine wSkipU 30 ?_ | refine wUn 30 ?_))
        all_goals refine rPk 31 ?_
        all_goals refine rDone ?_
        all_goals (repeat' (first | (refine iBu ?_; refine tl_y (y_buildN rfl) rfl rfl ?_) | (refine i_op ?_; first | (refine i_qq ?_; refine qQ ?_) | refine qEf ?_) | refine tl_nil ?_ | (refine i_tc ?_; refine qTc ?_) | (refine i_te ?_; refine qTe ?_) | intro _))
        all_goals refine te_round_g (k + 1, _) (⟨hlt, by first | exact Hp.le_trans hle0 (Hp.le_trans hl15 (Hp.le_trans hl6 hl4)) | exact Hp.le_trans hle0 (Hp.le_trans hl15 (Hp.le_trans hl4 hl6))⟩) ev_le ev_le rfl tk inferInstance (by first | omega | (dsimp only; omega))
  · repeat' (first | (refine iBu ?_; refine tl_y (y_buildN rfl) rfl rfl ?_) | (refine i_op ?_; first | (refine i_qq ?_; refine qQ ?_) | refine qEf ?_) | refine tl_nil ?_ | (refine i_tc ?_; refine qTc ?_) | (refine i_te ?_; refine qTe ?_) | intro _)
    exact qE (L' := []) (hle := hle0) ⟨rfl, hle0, rfl⟩
end Go.Proofs.E

