/- The law CkptMisses. Part 1 of 3. -/
import Derived.Test.YtkihjlnjdemnbaaG15
namespace Go.Proofs.E
open Go
set_option linter.unusedVariables false
set_option linter.unusedSimpArgs false
set_option linter.unusedSectionVars false
set_option maxRecDepth 4000
set_option maxHeartbeats 1000000
attribute [local irreducible] Yl TL TC TE Spec YSpec R1 Hp.le EnvLe TS TR YS Stays
-- BN
instance (priority := 1200) eqCkP {x y : CkP} : EqC Try.prog 8 74 (.agg ⟨ckPV x⟩) (.agg ⟨ckPV y⟩) (decide (x = y)) := by
  have h : EqC Try.prog 8 74 (.agg ⟨[.int .i64 x.page, .int .u64 x.since]⟩) (.agg ⟨[.int .i64 y.page, .int .u64 y.since]⟩) _ := inferInstance
  refine ⟨fun d w hd => ?_⟩
  rw [h.out d w hd]
  congr 1
  obtain ⟨t, i⟩ := x
  obtain ⟨t', i'⟩ := y
  simp only [CkP.mk.injEq, Bool.and_true, Bool.decide_and]
  have e : ((i : Int) == (i' : Int)) = decide (i = i') := by
    by_cases h : i = i'
    · subst h; simp
    · rw [decide_eq_false h]; simp only [beq_eq_false_iff_ne, ne_eq]; omega
  rw [e]
  by_cases h1 : t = t' <;> by_cases h2 : i = i' <;> simp [h1, h2]
end Go.Proofs.E

namespace Go.Proofs.E
open Go Go.RowKit
set_option linter.unusedVariables false
set_option linter.unusedSimpArgs false
set_option linter.unusedSectionVars false
set_option maxRecDepth 8000
/-! ## rosters that came in -/
structure RosW (ρ : Hp) (v : SV) (r : Ros) : Prop where
  at' : AW ρ 7 txV v r.txns
  tx : ∀ x ∈ r.txns, Tx.In ρ x
theorem RosW.in' {ρ v r} (h : RosW ρ v r) (hn : v.n ≤ 1000000) : RosIn ρ v r := ⟨⟨h.at'.at', hn, h.at'.cap⟩, h.tx⟩
theorem RosW.mono {ρ ρ' v r} (h : RosW ρ v r) (hle : ρ.le ρ') : RosW ρ' v r := ⟨h.at'.mono hle, fun x hx => (h.tx x hx).mono hle⟩
theorem sIn_ofA {ρ : Hp} {α : Type} {g : α → Value} {a : Option Addr} {n : Nat} {l : List α} (h : AIn ρ 1 (fun x => [g x]) a n l) : SIn ρ g a n l := by
  refine ⟨h.len, ?_⟩
  rcases h.out with h0 | ⟨b, off, C, T, fr, e1, e2, e3, e4⟩
  · exact .inl h0
  · right
    refine ⟨b, off, C, T, fr, e1, e2, ?_⟩
    have key : ∀ l : List α, (l.map (fun x => [g x])).flatten = l.map g := fun l => by
      induction l with
      | nil => rfl
      | cons a r ih => simp only [List.map_cons, List.flatten_cons, ih, List.singleton_append]
    have := key l
    rw [← this, ← e4]; simp
section
variable {H : Type} {enc : TypeId × Value → H} {w : World}
theorem opnS_left : OpnS enc Try.prog w 151 (fun cs (x : Lf) => cs = lfV x ∧ True) := fun fuel cs x h hw => by
  obtain ⟨hl, hf⟩ := opnS_fields Try.underlying151 h hw
  have hl : cs.length = 2 := by rw [hl]; kernel_rfl
  obtain ⟨c0, c1, rfl⟩ : ∃ c0 c1, cs = [c0, c1] := by
    match cs, hl with
    | [c0, c1], _ => exact ⟨c0, c1, rfl⟩
  obtain ⟨k, h0, k0, _⟩ := opnS_field h hw Try.underlying151 0 0 1 rfl rfl rfl (by kernel_rfl) (opn_int Try.underlying27).sized
  obtain ⟨f, h1, f0, f1⟩ := opnS_field h hw Try.underlying151 1 1 1 rfl rfl rfl (by kernel_rfl) (opn_int Try.underlying3).sized
  simp only [List.drop_zero, List.drop_succ_cons, List.take_succ_cons, List.take_zero, List.cons.injEq, and_true] at h0 h1
  subst h0; subst h1
  refine ⟨⟨k.toNat, f⟩, ?_, trivial⟩
  simp only [lfV, u64_back k0]
theorem opnS_u64 : OpnS enc Try.prog w 27 (fun cs (x : Nat) => cs = [u64c x] ∧ x < 18446744073709551616) := fun fuel cs x h hw => by
  obtain ⟨k, h0, k0, k1⟩ := (opn_int Try.underlying27).sized fuel cs x h hw
  refine ⟨k.toNat, by rw [h0]; simp only [u64c, u64_back k0], ?_⟩
  simp only [lo, hi] at k0 k1; omega
theorem opnS_txn : OpnS enc Try.prog w 119 (fun cs (x : Tx) => cs = txV x ∧ Tx.In (hpOf w) x) := fun fuel cs x h hw => by
  obtain ⟨hl, hf⟩ := opnS_fields Try.underlying119 h hw
  have hl : cs.length = 7 := by rw [hl]; kernel_rfl
  obtain ⟨c0, c1, c2, c3, c4, c5, c6, rfl⟩ : ∃ c0 c1 c2 c3 c4 c5 c6, cs = [c0, c1, c2, c3, c4, c5, c6] := by
    match cs, hl with
    | [c0, c1, c2, c3, c4, c5, c6], _ => exact ⟨c0, c1, c2, c3, c4, c5, c6, rfl⟩
  obtain ⟨k, h0, _⟩ := opnS_field h hw Try.underlying119 0 0 1 rfl rfl rfl (by kernel_rfl) (opn_int Try.underlying3).sized
  obtain ⟨s, h1, _⟩ := opnS_field h hw Try.underlying119 1 1 1 rfl rfl rfl (by kernel_rfl) (opn_int Try.underlying3).sized
  obtain ⟨f, h2, f0, _⟩ := opnS_field h hw Try.underlying119 2 2 1 rfl rfl rfl (by kernel_rfl) (opn_int Try.underlying27).sized
  obtain ⟨l, h3, l0, _⟩ := opnS_field h hw Try.underlying119 3 3 1 rfl rfl rfl (by kernel_rfl) (opn_int Try.underlying27).sized
  obtain ⟨u, h4, u0, _⟩ := opnS_field h hw Try.underlying119 4 4 1 rfl rfl rfl (by kernel_rfl) (opn_int Try.underlying27).sized
  obtain ⟨⟨sa, sn, sc, st⟩, h5, w5⟩ := opnS_field h hw Try.underlying119 5 5 1 rfl rfl rfl (by kernel_rfl) (opnS_slice (sz := 2) (by' := 16) Try.underlying117 (by kernel_rfl) (by decide) (by kernel_rfl) opnS_left)
  obtain ⟨⟨ma, mn, mc, ms⟩, h6, w6⟩ := opnS_field h hw Try.underlying119 6 6 1 rfl rfl rfl (by kernel_rfl) (opnS_slice (sz := 1) (by' := 8) Try.underlying48 (by kernel_rfl) (by decide) (by kernel_rfl) opnS_u64)
  obtain ⟨s1, s2, s3, _⟩ := aIn_ofW lfV_len h5
  obtain ⟨m1, m2, m3, _⟩ := aIn_ofW (g := fun x : Nat => [u64c x]) (fun _ => rfl) h6
  simp only [reachBytes] at w5 w6
  replace h5 := h5.cells
  replace h6 := h6.cells
  simp only [List.drop_zero, List.drop_succ_cons, List.take_succ_cons, List.take_zero, List.cons.injEq, and_true] at h0 h1 h2 h3 h4 h5 h6
  subst h0; subst h1; subst h2; subst h3; subst h4; subst h5; subst h6
  refine ⟨⟨k, s, f.toNat, l.toNat, u.toNat, st, ms, ⟨sa, sn, sc⟩, ⟨ma, mn, mc⟩⟩, ?_, ⟨s1, sIn_ofA m1, by dsimp only; omega, by dsimp only; omega, s3, m3⟩⟩
  simp only [txV, u64_back f0, u64_back l0, u64_back u0]
theorem opnS_roster : OpnS enc Try.prog w 47 (fun cs (x : SV × Ros) => cs = rosV x.1 x.2 ∧ RosW (hpOf w) x.1 x.2) := fun fuel cs x h hw => by
  obtain ⟨hl, hf⟩ := opnS_fields Try.underlying47 h hw
  have hl : cs.length = 2 := by rw [hl]; kernel_rfl
  obtain ⟨c0, c1, rfl⟩ : ∃ c0 c1, cs = [c0, c1] := by
    match cs, hl with
    | [c0, c1], _ => exact ⟨c0, c1, rfl⟩
  obtain ⟨k, h0, _⟩ := opnS_field h hw Try.underlying47 0 0 1 rfl rfl rfl (by kernel_rfl) (opn_int Try.underlying3).sized
  obtain ⟨⟨ta, tn, tc, ts⟩, h1, w1⟩ := opnS_field h hw Try.underlying47 1 1 1 rfl rfl rfl (by kernel_rfl) (opnS_slice (sz := 7) (by' := 88) Try.underlying45 (by kernel_rfl) (by decide) (by kernel_rfl) opnS_txn)
  obtain ⟨t1, t2, t3, _⟩ := aIn_ofW txV_len h1
  simp only [reachBytes] at w1
  replace h1 := h1.cells
  simp only [List.drop_zero, List.drop_succ_cons, List.take_succ_cons, List.take_zero, List.cons.injEq, and_true] at h0 h1
  subst h0; subst h1
  exact ⟨(⟨ta, tn, tc⟩, ⟨k, ts⟩), rfl, ⟨⟨t1, by dsimp only; omega, t3⟩, t2⟩⟩
end
end Go.Proofs.E

namespace Go.Proofs.E
open Go Go.RowKit
set_option linter.unusedVariables false
set_option linter.unusedSimpArgs false
set_option linter.unusedSectionVars false
section
variable {H : Type} {enc : TypeId × Value → H} {w : World}
theorem opnS_i64 : OpnS enc Try.prog w 3 (fun cs (x : Int) => cs = [i64c x] ∧ i64in x) := fun fuel cs x h hw => by
  obtain ⟨k, h0, k0, k1⟩ := (opn_int Try.underlying3).sized fuel cs x h hw
  refine ⟨k, h0, ?_⟩
  simp only [lo, hi] at k0 k1; omega
end
end Go.Proofs.E

namespace Go.Proofs.E
open Go
set_option linter.unusedVariables false
set_option linter.unusedSimpArgs false
set_option linter.unusedSectionVars false
set_option maxRecDepth 4000
set_option maxHeartbeats 1000000
attribute [local irreducible] Yl TL TC TE Spec YSpec R1 Hp.le EnvLe TS TR YS Stays
-- BN
instance (priority := 1200) eqCkT {x y : CkT} : EqC Try.prog 8 102 (.agg ⟨ckTV x⟩) (.agg ⟨ckTV y⟩) (decide (x = y)) := by
  have h : EqC Try.prog 8 102 (.agg ⟨[.int .i64 x.txn, .int .u64 x.first, .int .u64 x.last, .int .u64 x.undo, .int .i64 x.state]⟩) (.agg ⟨[.int .i64 y.txn, .int .u64 y.first, .int .u64 y.last, .int .u64 y.undo, .int .i64 y.state]⟩) _ := inferInstance
  refine ⟨fun d w hd => ?_⟩
  rw [h.out d w hd]
  congr 1
  obtain ⟨t, a, b, c, s⟩ := x
  obtain ⟨t', a', b', c', s'⟩ := y
  simp only [CkT.mk.injEq, Bool.and_true, Bool.decide_and]
  have e : ∀ i i' : Nat, ((i : Int) == (i' : Int)) = decide (i = i') := fun i i' => by
    by_cases h : i = i'
    · subst h; simp
    · rw [decide_eq_false h]; simp only [beq_eq_false_iff_ne, ne_eq]; omega
  rw [e, e, e]
  have e2 : ∀ i i' : Int, (i == i') = decide (i = i') := fun i i' => by
    by_cases h : i = i' <;> simp [h]
  rw [e2, e2]
instance (priority := 1200) eqStp {x y : Stp} : EqC Try.prog 8 100 (.agg ⟨stpV x⟩) (.agg ⟨stpV y⟩) (decide (x = y)) := by
  have h : EqC Try.prog 8 100 (.agg ⟨[.int .i64 x.kind, .int .i64 x.row.t, .int .u16 x.row.id, .int .i64 x.row.val, strV x.row.note, .int .i64 x.by']⟩) (.agg ⟨[.int .i64 y.kind, .int .i64 y.row.t, .int .u16 y.row.id, .int .i64 y.row.val, strV y.row.note, .int .i64 y.by']⟩) _ := inferInstance
  refine ⟨fun d w hd => ?_⟩
  rw [h.out d w hd]
  congr 1
  obtain ⟨k, ⟨t, i, v, n⟩, b⟩ := x
  obtain ⟨k', ⟨t', i', v', n'⟩, b'⟩ := y
  simp only [Stp.mk.injEq, Row.mk.injEq, Bool.and_true, Bool.decide_and]
  have e : ∀ i i' : Nat, ((i : Int) == (i' : Int)) = decide (i = i') := fun i i' => by
    by_cases h : i = i'
    · subst h; simp
    · rw [decide_eq_false h]; simp only [beq_eq_false_iff_ne, ne_eq]; omega
  rw [e]
  have e2 : ∀ i i' : Int, (i == i') = decide (i = i') := fun i i' => by
    by_cases h : i = i' <;> simp [h]
  rw [e2, e2, e2, e2]
  simp only [Bool.and_assoc]
theorem eqCKP_spec (ρ : Hp) (s s' : SV) (l m : List CkP) (h : AS ρ 2 ckPV s l) (h' : AS ρ 2 ckPV s' m) :
    Spec Try.prog 70 [.slice s.a s.n s.c, .slice s'.a s'.n s'.c] ρ [] (fun v ρ' L' => v = .bool (decide (l = m)) ∧ ρ' = ρ ∧ L' = []) := by
  have hl := h.at'.len
  have hm := h'.at'.len
  have hn := h.big
  refine spec_enter Try.func70 rfl rfl rfl fun u R => ?_
  simp only [argsE, List.cons_append, List.nil_append]
  by_cases hne : s.n = s'.n
  · repeat' (first | (refine iBu ?_; refine tl_y (y_buildN rfl) rfl rfl ?_) | (refine i_op ?_; first | (refine i_qq ?_; refine qQ ?_) | refine qEf ?_) | refine tl_nil ?_ | (refine i_tc ?_; refine qTc ?_) | (refine i_te ?_; refine qTe ?_) | intro _)
    refine tc_loop_g [(0, _), (1, _), (12, _)] (fun (ζ : (Nat)) => [(13, .int .i64 ζ), (4, .bool false)]) (fun (ζ : (Nat)) => ρ) (fun (ζ : (Nat)) => []) (fun (ζ : (Nat)) => ζ ≤ s.n ∧ l.take ζ = m.take ζ) (fun (ζ : (Nat)) => s.n - ζ) (0) (⟨Nat.zero_le _, rfl⟩) ev_le ev_le rfl tk ?_
    rintro k hI
    try simp only [List.cons_append, List.nil_append, List.append_assoc, List.append_eq] at hI ⊢
    try dsimp only at hI ⊢
    obtain ⟨hk, hpre⟩ := hI
    by_cases hlt : k < s.n
    · obtain ⟨b, off, C, T, fr, f1, hb, hfit, hc⟩ := h.at'.get (show k < l.length by omega)
      obtain ⟨b2, off2, C2, T2, fr2, f2, hb2, hfit2, hc2⟩ := h'.at'.get (show k < m.length by omega)
      have ht1 := List.take_succ_eq_append_getElem (show k < l.length by omega)
      have ht2 := List.take_succ_eq_append_getElem (show k < m.length by omega)
      have hf : l = m → l[k]'(by omega) = m[k]'(by omega) := fun e => by subst e; rfl
      generalize l[k]'(by omega) = x at *
      generalize m[k]'(by omega) = y at *
      rw [f1, f2]
      by_cases he : x = y
      · have hd : decide (x = y) = true := decide_eq_true he
        have hpre2 : l.take (k + 1) = m.take (k + 1) := by rw [ht1, ht2, hpre, he]
        repeat' (first | (refine iBu ?_; refine tl_y (y_buildN rfl) rfl rfl ?_) | (refine i_op ?_; first | (refine i_qq ?_; refine qQ ?_) | refine qEf ?_) | refine tl_nil ?_ | (refine i_tc ?_; refine qTc ?_) | (refine i_te ?_; refine qTe ?_) | intro _)
        refine tc_any (Stays _ _ _) stays_refl ?_
        all_goals refine rMv 0 ?_
        all_goals refine rFull ?_
        all_goals refine rMv 1 ?_
        all_goals refine rIa 2 ?_
        all_goals refine rLd 3 ?_
        all_goals refine rMv 4 ?_
        all_goals refine rMv 5 ?_
        all_goals refine rIa 6 ?_
        all_goals refine rLd 7 ?_
        all_goals refine rCm 8 ?_
        all_goals refine rDone ?_
        all_goals (try simp only [hd])
        all_goals (repeat' (first | (refine iBu ?_; refine tl_y (y_buildN rfl) rfl rfl ?_) | (refine i_op ?_; first | (refine i_qq ?_; refine qQ ?_) | refine qEf ?_) | refine tl_nil ?_ | (refine i_tc ?_; refine qTc ?_) | (refine i_te ?_; refine qTe ?_) | intro _))
        all_goals rw [← f1, ← f2]
        all_goals refine te_round_g (k + 1) (⟨hlt, hpre2⟩) ev_le ev_le rfl tk inferInstance (by first | omega | (dsimp only; omega))
      · have hd : decide (x = y) = false := decide_eq_false he
        rw [decide_eq_false (fun e => he (hf e))]
        repeat' (first | (refine iBu ?_; refine tl_y (y_buildN rfl) rfl rfl ?_) | (refine i_op ?_; first | (refine i_qq ?_; refine qQ ?_) | refine qEf ?_) | refine tl_nil ?_ | (refine i_tc ?_; refine qTc ?_) | (refine i_te ?_; refine qTe ?_) | intro _)
        refine tc_any (Stays _ _ _) stays_refl ?_
        all_goals refine rMv 0 ?_
        all_goals refine rFull ?_
        all_goals refine rMv 1 ?_
        all_goals refine rIa 2 ?_
        all_goals refine rLd 3 ?_
        all_goals refine rMv 4 ?_
        all_goals refine rMv 5 ?_
        all_goals refine rIa 6 ?_
        all_goals refine rLd 7 ?_
        all_goals refine rCm 8 ?_
        all_goals refine rDone ?_
        all_goals (try simp only [hd])
        all_goals (repeat' (first | (refine iBu ?_; refine tl_y (y_buildN rfl) rfl rfl ?_) | (refine i_op ?_; first | (refine i_qq ?_; refine qQ ?_) | refine qEf ?_) | refine tl_nil ?_ | (refine i_tc ?_; refine qTc ?_) | (refine i_te ?_; refine qTe ?_) | intro _))
        all_goals exact qE (L' := []) ⟨rfl, rfl, rfl⟩
    · have hk2 : k = s.n := by omega
      subst hk2
      rw [List.take_of_length_le (by omega), List.take_of_length_le (by omega)] at hpre
      rw [decide_eq_true hpre]
      repeat' (first | (refine iBu ?_; refine tl_y (y_buildN rfl) rfl rfl ?_) | (refine i_op ?_; first | (refine i_qq ?_; refine qQ ?_) | refine qEf ?_) | refine tl_nil ?_ | (refine i_tc ?_; refine qTc ?_) | (refine i_te ?_; refine qTe ?_) | intro _)
      exact qE ⟨rfl, rfl, rfl⟩
  · rw [decide_eq_false (fun e : l = m => hne (by rw [← hl, ← hm, e]))]
    repeat' (first | (refine iBu ?_; refine tl_y (y_buildN rfl) rfl rfl ?_) | (refine i_op ?_; first | (refine i_qq ?_; refine qQ ?_) | refine qEf ?_) | refine tl_nil ?_ | (refine i_tc ?_; refine qTc ?_) | (refine i_te ?_; refine qTe ?_) | intro _)
    exact qE ⟨rfl, rfl, rfl⟩
theorem eqCKT_spec (ρ : Hp) (s s' : SV) (l m : List CkT) (h : AS ρ 5 ckTV s l) (h' : AS ρ 5 ckTV s' m) :
    Spec Try.prog 69 [.slice s.a s.n s.c, .slice s'.a s'.n s'.c] ρ [] (fun v ρ' L' => v = .bool (decide (l = m)) ∧ ρ' = ρ ∧ L' = []) := by
  have hl := h.at'.len
  have hm := h'.at'.len
  have hn := h.big
  refine spec_enter Try.func69 rfl rfl rfl fun u R => ?_
  simp only [argsE, List.cons_append, List.nil_append]
  by_cases hne : s.n = s'.n
  · repeat' (first | (refine iBu ?_; refine tl_y (y_buildN rfl) rfl rfl ?_) | (refine i_op ?_; first | (refine i_qq ?_; refine qQ ?_) | refine qEf ?_) | refine tl_nil ?_ | (refine i_tc ?_; refine qTc ?_) | (refine i_te ?_; refine qTe ?_) | intro _)
    refine tc_loop_g [(0, _), (1, _), (12, _)] (fun (ζ : (Nat)) => [(13, .int .i64 ζ), (4, .bool false)]) (fun (ζ : (Nat)) => ρ) (fun (ζ : (Nat)) => []) (fun (ζ : (Nat)) => ζ ≤ s.n ∧ l.take ζ = m.take ζ) (fun (ζ : (Nat)) => s.n - ζ) (0) (⟨Nat.zero_le _, rfl⟩) ev_le ev_le rfl tk ?_
    rintro k hI
    try simp only [List.cons_append, List.nil_append, List.append_assoc, List.append_eq] at hI ⊢
    try dsimp only at hI ⊢
    obtain ⟨hk, hpre⟩ := hI
    by_cases hlt : k < s.n
    · obtain ⟨b, off, C, T, fr, f1, hb, hfit, hc⟩ := h.at'.get (show k < l.length by omega)
      obtain ⟨b2, off2, C2, T2, fr2, f2, hb2, hfit2, hc2⟩ := h'.at'.get (show k < m.length by omega)
      have ht1 := List.take_succ_eq_append_getElem (show k < l.length by omega)
      have ht2 := List.take_succ_eq_append_getElem (show k < m.length by omega)
      have hf : l = m → l[k]'(by omega) = m[k]'(by omega) := fun e => by subst e; rfl
      generalize l[k]'(by omega) = x at *
      generalize m[k]'(by omega) = y at *
      rw [f1, f2]
      by_cases he : x = y
      · have hd : decide (x = y) = true := decide_eq_true he
        have hpre2 : l.take (k + 1) = m.take (k + 1) := by rw [ht1, ht2, hpre, he]
        repeat' (first | (refine iBu ?_; refine tl_y (y_buildN rfl) rfl rfl ?_) | (refine i_op ?_; first | (refine i_qq ?_; refine qQ ?_) | refine qEf ?_) | refine tl_nil ?_ | (refine i_tc ?_; refine qTc ?_) | (refine i_te ?_; refine qTe ?_) | intro _)
        refine tc_any (Stays _ _ _) stays_refl ?_
        all_goals refine rMv 0 ?_
        all_goals refine rFull ?_
        all_goals refine rMv 1 ?_
        all_goals refine rIa 2 ?_
        all_goals refine rLd 3 ?_
        all_goals refine rMv 4 ?_
        all_goals refine rMv 5 ?_
        all_goals refine rIa 6 ?_
        all_goals refine rLd 7 ?_
        all_goals refine rCm 8 ?_
        all_goals refine rDone ?_
        all_goals (try simp only [hd])
        all_goals (repeat' (first | (refine iBu ?_; refine tl_y (y_buildN rfl) rfl rfl ?_) | (refine i_op ?_; first | (refine i_qq ?_; refine qQ ?_) | refine qEf ?_) | refine tl_nil ?_ | (refine i_tc ?_; refine qTc ?_) | (refine i_te ?_; refine qTe ?_) | intro _))
        all_goals rw [← f1, ← f2]
        all_goals refine te_round_g (k + 1) (⟨hlt, hpre2⟩) ev_le ev_le rfl tk inferInstance (by first | omega | (dsimp only; omega))
      · have hd : decide (x = y) = false := decide_eq_false he
        rw [decide_eq_false (fun e => he (hf e))]
        repeat' (first | (refine iBu ?_; refine tl_y (y_buildN rfl) rfl rfl ?_) | (refine i_op ?_; first | (refine i_qq ?_; refine qQ ?_) | refine qEf ?_) | refine tl_nil ?_ | (refine i_tc ?_; refine qTc ?_) | (refine i_te ?_; refine qTe ?_) | intro _)
        refine tc_any (Stays _ _ _) stays_refl ?_
        all_goals refine rMv 0 ?_
        all_goals refine rFull ?_
        all_goals refine rMv 1 ?_
        all_goals refine rIa 2 ?_
        all_goals refine rLd 3 ?_
        all_goals refine rMv 4 ?_
        all_goals refine rMv 5 ?_
        all_goals refine rIa 6 ?_
        all_goals refine rLd 7 ?_
        all_goals refine rCm 8 ?_
        all_goals refine rDone ?_
        all_goals (try simp only [hd])
        all_goals (repeat' (first | (refine iBu ?_; refine tl_y (y_buildN rfl) rfl rfl ?_) | (refine i_op ?_; first | (refine i_qq ?_; refine qQ ?_) | refine qEf ?_) | refine tl_nil ?_ | (refine i_tc ?_; refine qTc ?_) | (refine i_te ?_; refine qTe ?_) | intro _))
        all_goals exact qE (L' := []) ⟨rfl, rfl, rfl⟩
    · have hk2 : k = s.n := by omega
      subst hk2
      rw [List.take_of_length_le (by omega), List.take_of_length_le (by omega)] at hpre
      rw [decide_eq_true hpre]
      repeat' (first | (refine iBu ?_; refine tl_y (y_buildN rfl) rfl rfl ?_) | (refine i_op ?_; first | (refine i_qq ?_; refine qQ ?_) | refine qEf ?_) | refine tl_nil ?_ | (refine i_tc ?_; refine qTc ?_) | (refine i_te ?_; refine qTe ?_) | intro _)
      exact qE ⟨rfl, rfl, rfl⟩
  · rw [decide_eq_false (fun e : l = m => hne (by rw [← hl, ← hm, e]))]
    repeat' (first | (refine iBu ?_; refine tl_y (y_buildN rfl) rfl rfl ?_) | (refine i_op ?_; first | (refine i_qq ?_; refine qQ ?_) | refine qEf ?_) | refine tl_nil ?_ | (refine i_tc ?_; refine qTc ?_) | (refine i_te ?_; refine qTe ?_) | intro _)
    exact qE ⟨rfl, rfl, rfl⟩
theorem eqSTP_spec (ρ : Hp) (s s' : SV) (l m : List Stp) (h : AS ρ 6 stpV s l) (h' : AS ρ 6 stpV s' m) :
    Spec Try.prog 68 [.slice s.a s.n s.c, .slice s'.a s'.n s'.c] ρ [] (fun v ρ' L' => v = .bool (decide (l = m)) ∧ ρ' = ρ ∧ L' = []) := by
  have hl := h.at'.len
  have hm := h'.at'.len
  have hn := h.big
  refine spec_enter Try.func68 rfl rfl rfl fun u R => ?_
  simp only [argsE, List.cons_append, List.nil_append]
  by_cases hne : s.n = s'.n
  · repeat' (first | (refine iBu ?_; refine tl_y (y_buildN rfl) rfl rfl ?_) | (refine i_op ?_; first | (refine i_qq ?_; refine qQ ?_) | refine qEf ?_) | refine tl_nil ?_ | (refine i_tc ?_; refine qTc ?_) | (refine i_te ?_; refine qTe ?_) | intro _)
    refine tc_loop_g [(0, _), (1, _), (12, _)] (fun (ζ : (Nat)) => [(13, .int .i64 ζ), (4, .bool false)]) (fun (ζ : (Nat)) => ρ) (fun (ζ : (Nat)) => []) (fun (ζ : (Nat)) => ζ ≤ s.n ∧ l.take ζ = m.take ζ) (fun (ζ : (Nat)) => s.n - ζ) (0) (⟨Nat.zero_le _, rfl⟩) ev_le ev_le rfl tk ?_
    rintro k hI
    try simp only [List.cons_append, List.nil_append, List.append_assoc, List.append_eq] at hI ⊢
    try dsimp only at hI ⊢
    obtain ⟨hk, hpre⟩ := hI
    by_cases hlt : k < s.n
    · obtain ⟨b, off, C, T, fr, f1, hb, hfit, hc⟩ := h.at'.get (show k < l.length by omega)
      obtain ⟨b2, off2, C2, T2, fr2, f2, hb2, hfit2, hc2⟩ := h'.at'.get (show k < m.length by omega)
      have ht1 := List.take_succ_eq_append_getElem (show k < l.length by omega)
      have ht2 := List.take_succ_eq_append_getElem (show k < m.length by omega)
      have hf : l = m → l[k]'(by omega) = m[k]'(by omega) := fun e => by subst e; rfl
      generalize l[k]'(by omega) = x at *
      generalize m[k]'(by omega) = y at *
      rw [f1, f2]
      by_cases he : x = y
      · have hd : decide (x = y) = true := decide_eq_true he
        have hpre2 : l.take (k + 1) = m.take (k + 1) := by rw [ht1, ht2, hpre, he]
        repeat' (first | (refine iBu ?_; refine tl_y (y_buildN rfl) rfl rfl ?_) | (refine i_op ?_; first | (refine i_qq ?_; refine qQ ?_) | refine qEf ?_) | refine tl_nil ?_ | (refine i_tc ?_; refine qTc ?_) | (refine i_te ?_; refine qTe ?_) | intro _)
        refine tc_any (Stays _ _ _) stays_refl ?_
        all_goals refine rMv 0 ?_
        all_goals refine rFull ?_
        all_goals refine rMv 1 ?_
        all_goals refine rIa 2 ?_
        all_goals refine rLd 3 ?_
        all_goals refine rMv 4 ?_
        all_goals refine rMv 5 ?_
        all_goals refine rIa 6 ?_
        all_goals refine rLd 7 ?_
        all_goals refine rCm 8 ?_
        all_goals refine rDone ?_
        all_goals (try simp only [hd])
        all_goals (repeat' (first | (refine iBu ?_; refine tl_y (y_buildN rfl) rfl rfl ?_) | (refine i_op ?_; first | (refine i_qq ?_; refine qQ ?_) | refine qEf ?_) | refine tl_nil ?_ | (refine i_tc ?_; refine qTc ?_) | (refine i_te ?_; refine qTe ?_) | intro _))
        all_goals rw [← f1, ← f2]
        all_goals refine te_round_g (k + 1) (⟨hlt, hpre2⟩) ev_le ev_le rfl tk inferInstance (by first | omega | (dsimp only; omega))
      · have hd : decide (x = y) = false := decide_eq_false he
        rw [decide_eq_false (fun e => he (hf e))]
        repeat' (first | (refine iBu ?_; refine tl_y (y_buildN rfl) rfl rfl ?_) | (refine i_op ?_; first | (refine i_qq ?_; refine qQ ?_) | refine qEf ?_) | refine tl_nil ?_ | (refine i_tc ?_; refine qTc ?_) | (refine i_te ?_; refine qTe ?_) | intro _)
        refine tc_any (Stays _ _ _) stays_refl ?_
        all_goals refine rMv 0 ?_
        all_goals refine rFull ?_
        all_goals refine rMv 1 ?_
        all_goals refine rIa 2 ?_
        all_goals refine rLd 3 ?_
        all_goals refine rMv 4 ?_
        all_goals refine rMv 5 ?_
        all_goals refine rIa 6 ?_
        all_goals refine rLd 7 ?_
        all_goals refine rCm 8 ?_
        all_goals refine rDone ?_
        all_goals (try simp only [hd])
        all_goals (repeat' (first | (refine iBu ?_; refine tl_y (y_buildN rfl) rfl rfl ?_) | (refine i_op ?_; first | (refine i_qq ?_; refine qQ ?_) | refine qEf ?_) | refine tl_nil ?_ | (refine i_tc ?_; refine qTc ?_) | (refine i_te ?_; refine qTe ?_) | intro _))
        all_goals exact qE (L' := []) ⟨rfl, rfl, rfl⟩
    · have hk2 : k = s.n := by omega
      subst hk2
      rw [List.take_of_length_le (by omega), List.take_of_length_le (by omega)] at hpre
      rw [decide_eq_true hpre]
      repeat' (first | (refine iBu ?_; refine tl_y (y_buildN rfl) rfl rfl ?_) | (refine i_op ?_; first | (refine i_qq ?_; refine qQ ?_) | refine qEf ?_) | refine tl_nil ?_ | (refine i_tc ?_; refine qTc ?_) | (refine i_te ?_; refine qTe ?_) | intro _)
      exact qE ⟨rfl, rfl, rfl⟩
  · rw [decide_eq_false (fun e : l = m => hne (by rw [← hl, ← hm, e]))]
    repeat' (first | (refine iBu ?_; refine tl_y (y_buildN rfl) rfl rfl ?_) | (refine i_op ?_; first | (refine i_qq ?_; refine qQ ?_) | refine qEf ?_) | refine tl_nil ?_ | (refine i_tc ?_; refine qTc ?_) | (refine i_te ?_; refine qTe ?_) | intro _)
    exact qE ⟨rfl, rfl, rfl⟩
theorem eqIM0_spec (ρ : Hp) (a a' : Option Addr) (c c' : Nat) (f : Value) : Spec Try.prog 71 [.slice a 0 c, .slice a' 0 c', f] ρ [] (fun v ρ' L' => v = .bool true ∧ ρ' = ρ ∧ L' = []) := by
  refine spec_enter Try.func71 rfl rfl rfl fun u R => ?_
  simp only [argsE, List.cons_append, List.nil_append]
  repeat' (first | (refine iBu ?_; refine tl_y (y_buildN rfl) rfl rfl ?_) | (refine i_op ?_; first | (refine i_qq ?_; refine qQ ?_) | refine qEf ?_) | refine tl_nil ?_ | (refine i_tc ?_; refine qTc ?_) | (refine i_te ?_; refine qTe ?_) | intro _)
  refine tc_loop_g [(1, _), (2, _), (6, _), (15, _), (16, _)] (fun (ζ : (Nat)) => [(17, .int .i64 ζ)]) (fun (ζ : (Nat)) => ρ) (fun (ζ : (Nat)) => []) (fun (ζ : (Nat)) => ζ = 0) (fun (ζ : (Nat)) => 0) (0) (rfl) ev_le ev_le rfl tk ?_
  rintro k hI
  try simp only [List.cons_append, List.nil_append, List.append_assoc, List.append_eq] at hI ⊢
  try dsimp only at hI ⊢
  subst hI
  repeat' (first | (refine iBu ?_; refine tl_y (y_buildN rfl) rfl rfl ?_) | (refine i_op ?_; first | (refine i_qq ?_; refine qQ ?_) | refine qEf ?_) | refine tl_nil ?_ | (refine i_tc ?_; refine qTc ?_) | (refine i_te ?_; refine qTe ?_) | intro _)
  exact qE (L' := []) ⟨rfl, rfl, rfl⟩
theorem recSame_spec (ρ : Hp) (v v' : RV) (x : Rc) (h : RcIn ρ v x) (h' : RcIn ρ v' x) (hi : x.ims = []) : Spec Try.prog 32 [.agg ⟨recV v x⟩, .agg ⟨recV v' x⟩] ρ [] (fun z ρ' L' => z = .bool true ∧ ρ' = ρ ∧ L' = []) := by
  have h1 := eqSTP_spec ρ v.s v'.s x.steps x.steps h.s h'.s
  have h2 := eqCKT_spec ρ v.t v'.t x.txns x.txns h.t h'.t
  have h3 := eqCKP_spec ρ v.d v'.d x.dirty x.dirty h.d h'.d
  rw [decide_eq_true (rfl : x.steps = x.steps)] at h1
  rw [decide_eq_true (rfl : x.txns = x.txns)] at h2
  rw [decide_eq_true (rfl : x.dirty = x.dirty)] at h3
  have n1 := h.i.at'.len
  have n2 := h'.i.at'.len
  rw [hi] at n1 n2
  simp only [List.length_nil] at n1 n2
  have h4 := fun f => eqIM0_spec ρ v.i.a v'.i.a v.i.c v'.i.c f
  rw [show recV v x = [.int .i64 x.kind, .int .u64 x.lsn, .int .i64 x.txn, .int .u64 x.prev, .int .u64 x.next, .slice v.i.a 0 v.i.c, .slice v.s.a v.s.n v.s.c, .int .i64 x.nextTxn, .slice v.t.a v.t.n v.t.c, .slice v.d.a v.d.n v.d.c] by rw [n1]]
  rw [show recV v' x = [.int .i64 x.kind, .int .u64 x.lsn, .int .i64 x.txn, .int .u64 x.prev, .int .u64 x.next, .slice v'.i.a 0 v'.i.c, .slice v'.s.a v'.s.n v'.s.c, .int .i64 x.nextTxn, .slice v'.t.a v'.t.n v'.t.c, .slice v'.d.a v'.d.n v'.d.c] by rw [n2]]
  refine spec_enter Try.func32 rfl rfl rfl fun u R => ?_
  simp only [argsE, List.cons_append, List.nil_append]
  repeat' (first | (refine tl_is (.func 68) ?_; refine qC rfl rfl (h1) ?_; rintro v ρ' L' hle ⟨rfl, rfl, rfl⟩ <;> (try simp only [List.cons_append, List.nil_append, List.append_eq])) | (refine tl_is (.func 69) ?_; refine qC rfl rfl (h2) ?_; rintro v ρ' L' hle ⟨rfl, rfl, rfl⟩ <;> (try simp only [List.cons_append, List.nil_append, List.append_eq])) | (refine tl_is (.func 70) ?_; refine qC rfl rfl (h3) ?_; rintro v ρ' L' hle ⟨rfl, rfl, rfl⟩ <;> (try simp only [List.cons_append, List.nil_append, List.append_eq])) | (refine tl_is (.func 71) ?_; refine qC rfl rfl (h4 _) ?_; rintro v ρ' L' hle ⟨rfl, rfl, rfl⟩ <;> (try simp only [List.cons_append, List.nil_append, List.append_eq])) | (refine iBu ?_; refine tl_y (y_buildN rfl) rfl rfl ?_) | (refine i_op ?_; first | (refine i_qq ?_; refine qQ ?_) | refine qEf ?_) | refine tl_nil ?_ | (refine i_tc ?_; refine qTc ?_) | (refine i_te ?_; refine qTe ?_) | intro _)
  exact qE (L' := []) ⟨rfl, rfl, rfl⟩
end Go.Proofs.E

namespace Go.Proofs.E
open Go
set_option linter.unusedVariables false
set_option linter.unusedSimpArgs false
set_option linter.unusedSectionVars false
set_option maxRecDepth 4000
set_option maxHeartbeats 1000000
attribute [local irreducible] Yl TL TC TE Spec YSpec R1 Hp.le EnvLe TS TR YS Stays
-- BN
theorem cmpU64_spec (ρ : Hp) (x y : Nat) : Spec Try.prog 67 [.int .u64 x, .int .u64 y] ρ [] (fun v ρ' L' => v = .int .i64 (cmpI x y) ∧ ρ' = ρ ∧ L' = []) := by
  refine spec_enter Try.func67 rfl rfl rfl fun u R => ?_
  simp only [argsE, List.cons_append, List.nil_append]
  unfold cmpI
  split
  · repeat' (first | (refine tl_is (.func 97) ?_; refine qC rfl rfl (nanU64_spec _ _) ?_; rintro v ρ' L' hle ⟨rfl, rfl, rfl⟩ <;> (try simp only [List.cons_append, List.nil_append, List.append_eq])) | (refine iBu ?_; refine tl_y (y_buildN rfl) rfl rfl ?_) | (refine i_op ?_; first | (refine i_qq ?_; refine qQ ?_) | refine qEf ?_) | refine tl_nil ?_ | (refine i_tc ?_; refine qTc ?_) | (refine i_te ?_; refine qTe ?_) | intro _)
    exact qE ⟨rfl, rfl, rfl⟩
  · split
    · repeat' (first | (refine tl_is (.func 97) ?_; refine qC rfl rfl (nanU64_spec _ _) ?_; rintro v ρ' L' hle ⟨rfl, rfl, rfl⟩ <;> (try simp only [List.cons_append, List.nil_append, List.append_eq])) | (refine iBu ?_; refine tl_y (y_buildN rfl) rfl rfl ?_) | (refine i_op ?_; first | (refine i_qq ?_; refine qQ ?_) | refine qEf ?_) | refine tl_nil ?_ | (refine i_tc ?_; refine qTc ?_) | (refine i_te ?_; refine qTe ?_) | intro _)
      exact qE ⟨rfl, rfl, rfl⟩
    · repeat' (first | (refine tl_is (.func 97) ?_; refine qC rfl rfl (nanU64_spec _ _) ?_; rintro v ρ' L' hle ⟨rfl, rfl, rfl⟩ <;> (try simp only [List.cons_append, List.nil_append, List.append_eq])) | (refine iBu ?_; refine tl_y (y_buildN rfl) rfl rfl ?_) | (refine i_op ?_; first | (refine i_qq ?_; refine qQ ?_) | refine qEf ?_) | refine tl_nil ?_ | (refine i_tc ?_; refine qTc ?_) | (refine i_te ?_; refine qTe ?_) | intro _)
      exact qE ⟨rfl, rfl, rfl⟩
theorem least1_spec (ρ : Hp) (x y : Tx) : Spec Try.prog 66 [.agg ⟨txV x⟩, .agg ⟨txV y⟩] ρ [] (fun v ρ' L' => v = .int .i64 (cmpI x.first y.first) ∧ ρ' = ρ ∧ L' = []) := by
  refine spec_enter Try.func66 rfl rfl rfl fun u R => ?_
  simp only [argsE, List.cons_append, List.nil_append]
  repeat' (first | (refine tl_is (.func 67) ?_; refine qC rfl rfl (cmpU64_spec _ _ _) ?_; rintro v ρ' L' hle ⟨rfl, rfl, rfl⟩ <;> (try simp only [List.cons_append, List.nil_append, List.append_eq])) | (refine iBu ?_; refine tl_y (y_buildN rfl) rfl rfl ?_) | (refine i_op ?_; first | (refine i_qq ?_; refine qQ ?_) | refine qEf ?_) | refine tl_nil ?_ | (refine i_tc ?_; refine qTc ?_) | (refine i_te ?_; refine qTe ?_) | intro _)
  exact qE ⟨rfl, rfl, rfl⟩
theorem minTx_spec (ρ : Hp) (s : SV) (l : List Tx) (h : AS ρ 7 txV s l) (h0 : 0 < l.length) :
    Spec Try.prog 65 [.slice s.a s.n s.c, .func (.func 66) ⟨[]⟩ ⟨[]⟩] ρ [] (fun z ρ' L' => ρ' = ρ ∧ ∃ y, z = .agg ⟨txV y⟩ ∧ y ∈ l ∧ (∀ x ∈ l, y.first ≤ x.first) ∧ L' = []) := by
  have hl := h.at'.len
  have hn := h.big
  have hA := h.at'
  obtain ⟨b, off, C, T, fr, f1, hb, hfit, hc⟩ := hA.get h0
  have hm0 := List.getElem_mem h0
  have hle0 : ∀ x ∈ l.take 1, (l[0]'h0).first ≤ x.first := fun x hx => by
    rw [List.take_succ_eq_append_getElem h0] at hx
    simp at hx; rw [hx]; exact Nat.le_refl _
  generalize l[0]'h0 = y0 at *
  refine spec_enter Try.func65 rfl rfl rfl fun u R => ?_
  simp only [argsE, List.cons_append, List.nil_append]
  rw [f1]
  repeat' (first | (refine iBu ?_; refine tl_y (y_buildN rfl) rfl rfl ?_) | (refine i_op ?_; first | (refine i_qq ?_; refine qQ ?_) | refine qEf ?_) | refine tl_nil ?_ | (refine i_tc ?_; refine qTc ?_) | (refine i_te ?_; refine qTe ?_) | intro _)
  refine tc_loop_g [(0, _), (1, _), (4, _), (5, _)] (fun (ζ : (Nat) × (Tx)) => [(6, .int .i64 ζ.1)]) (fun (ζ : (Nat) × (Tx)) => ρ) (fun (ζ : (Nat) × (Tx)) => [[(_, .cells ⟨txV ζ.2⟩ 119 (0, 0))]]) (fun (ζ : (Nat) × (Tx)) => ζ.1 ≤ s.n ∧ 1 ≤ ζ.1 ∧ ζ.2 ∈ l ∧ ∀ x ∈ l.take ζ.1, ζ.2.first ≤ x.first) (fun (ζ : (Nat) × (Tx)) => s.n - ζ.1) ((1, y0)) (⟨by dsimp only; omega, Nat.le_refl _, hm0, hle0⟩) ev_le ev_le rfl tk ?_
  rintro ⟨k, y⟩ hI
  try simp only [List.cons_append, List.nil_append, List.append_assoc, List.append_eq] at hI ⊢
  try dsimp only at hI ⊢
  obtain ⟨hk, hk1, hy, hmin⟩ := hI
  by_cases hlt : k < s.n
  · obtain ⟨b2, off2, C2, T2, fr2, f2, hb2, hfit2, hc2⟩ := hA.get (show k < l.length by omega)
    have ht := List.take_succ_eq_append_getElem (show k < l.length by omega)
    have hmx := List.getElem_mem (show k < l.length by omega)
    generalize l[k]'(by omega) = x at *
    rw [f1] at f2
    cases f2
    rw [hb] at hb2
    cases hb2
    by_cases hxy : x.first < y.first
    · have hcm : cmpI (x.first : Int) y.first < 0 := by unfold cmpI; rw [if_pos (by omega)]; omega
      have hmin2 : ∀ z ∈ l.take (k + 1), x.first ≤ z.first := fun z hz => by
        rw [ht] at hz
        rcases List.mem_append.1 hz with hz | hz
        · have := hmin z hz; omega
        · rw [List.mem_singleton.1 hz]; exact Nat.le_refl _
      repeat' (first | (refine iBu ?_; refine tl_y (y_buildN rfl) rfl rfl ?_) | (refine i_op ?_; first | (refine i_qq ?_; refine qQ ?_) | refine qEf ?_) | refine tl_nil ?_ | (refine i_tc ?_; refine qTc ?_) | (refine i_te ?_; refine qTe ?_) | intro _)
      refine tc_any (Stays _ _ _) stays_refl ?_
      all_goals refine rMv 0 ?_
      all_goals refine rMv 1 ?_
      all_goals refine rMv 2 ?_
      all_goals refine rIa 3 ?_
      all_goals refine rLd 4 ?_
      all_goals refine rLd 5 ?_
      all_goals (refine rStep (i := 6) ?_; ((try refine qWant ?_); (first | (refine tl_is (.tmp 20) ?_; refine qC rfl rfl (least1_spec _ _ _) ?_; rintro v ρ' L' hle ⟨rfl, rfl, rfl⟩ <;> (try simp only [List.cons_append, List.nil_append, List.append_eq])) | (refine qEf ?_; try intro _)) <;> ((try simp only [List.cons_append, List.nil_append, List.append_eq]); refine tl_nil ?_; refine rNext ?_)))
      all_goals refine rFull ?_
      all_goals refine rCm 7 ?_
      all_goals refine rDone ?_
      all_goals (repeat' (first | (refine iBu ?_; refine tl_y (y_buildN rfl) rfl rfl ?_) | (refine i_op ?_; first | (refine i_qq ?_; refine qQ ?_) | refine qEf ?_) | refine tl_nil ?_ | (refine i_tc ?_; refine qTc ?_) | (refine i_te ?_; refine qTe ?_) | intro _))
      all_goals refine te_round_g (k + 1, x) (⟨hlt, by dsimp only; omega, hmx, hmin2⟩) ev_le ev_le rfl tk inferInstance (by first | omega | (dsimp only; omega))
    · have hcm : ¬ cmpI (x.first : Int) y.first < 0 := by unfold cmpI; rw [if_neg (by omega)]; split <;> omega
      have hmin2 : ∀ z ∈ l.take (k + 1), y.first ≤ z.first := fun z hz => by
        rw [ht] at hz
        rcases List.mem_append.1 hz with hz | hz
        · exact hmin z hz
        · rw [List.mem_singleton.1 hz]; omega
      repeat' (first | (refine iBu ?_; refine tl_y (y_buildN rfl) rfl rfl ?_) | (refine i_op ?_; first | (refine i_qq ?_; refine qQ ?_) | refine qEf ?_) | refine tl_nil ?_ | (refine i_tc ?_; refine qTc ?_) | (refine i_te ?_; refine qTe ?_) | intro _)
      refine tc_any (Stays _ _ _) stays_refl ?_
      all_goals refine rMv 0 ?_
      all_goals refine rMv 1 ?_
      all_goals refine rMv 2 ?_
      all_goals refine rIa 3 ?_
      all_goals refine rLd 4 ?_
      all_goals refine rLd 5 ?_
      all_goals (refine rStep (i := 6) ?_; ((try refine qWant ?_); (first | (refine tl_is (.tmp 20) ?_; refine qC rfl rfl (least1_spec _ _ _) ?_; rintro v ρ' L' hle ⟨rfl, rfl, rfl⟩ <;> (try simp only [List.cons_append, List.nil_append, List.append_eq])) | (refine qEf ?_; try intro _)) <;> ((try simp only [List.cons_append, List.nil_append, List.append_eq]); refine tl_nil ?_; refine rNext ?_)))
      all_goals refine rFull ?_
      all_goals refine rCm 7 ?_
      all_goals refine rDone ?_
      all_goals (repeat' (first | (refine iBu ?_; refine tl_y (y_buildN rfl) rfl rfl ?_) | (refine i_op ?_; first | (refine i_qq ?_; refine qQ ?_) | refine qEf ?_) | refine tl_nil ?_ | (refine i_tc ?_; refine qTc ?_) | (refine i_te ?_; refine qTe ?_) | intro _))
      all_goals refine te_round_g (k + 1, y) (⟨hlt, by dsimp only; omega, hy, hmin2⟩) ev_le ev_le rfl tk inferInstance (by first | omega | (dsimp only; omega))
  · have hk2 : k = l.length := by omega
    rw [hk2, List.take_length] at hmin
    repeat' (first | (refine iBu ?_; refine tl_y (y_buildN rfl) rfl rfl ?_) | (refine i_op ?_; first | (refine i_qq ?_; refine qQ ?_) | refine qEf ?_) | refine tl_nil ?_ | (refine i_tc ?_; refine qTc ?_) | (refine i_te ?_; refine qTe ?_) | intro _)
    exact qE (L' := []) ⟨rfl, y, rfl, hy, hmin, rfl⟩
/-- what Least says -/
structure LeastR (r : Ros) (n : Nat) : Prop where
  zero : rosOk r = false ∨ r.txns = [] → n = 0
  some' : rosOk r = true → r.txns ≠ [] → ∃ y ∈ r.txns, n = y.first
theorem leastRos_spec (ρ : Hp) (v : SV) (r : Ros) (h : RosIn ρ v r) : Spec Try.prog 31 [.agg ⟨rosV v r⟩] ρ [] (fun z ρ' L' => ρ' = ρ ∧ ∃ n, z = .int .u64 (n : Nat) ∧ LeastR r n ∧ L' = []) := by
  have hl := h.at'.at'.len
  have hck := roscheck_spec ρ v r h
  refine spec_enter Try.func31 rfl rfl rfl fun u R => ?_
  simp only [argsE, List.cons_append, List.nil_append]
  cases hok : rosOk r
  · rw [hok] at hck
    repeat' (first | (refine tl_is (.func 46) ?_; refine qC rfl rfl (hck) ?_; rintro v ρ' L' hle ⟨rfl, rfl, rfl⟩ <;> (try simp only [List.cons_append, List.nil_append, List.append_eq, if_false, Bool.false_eq_true])) | (refine iBu ?_; refine tl_y (y_buildN rfl) rfl rfl ?_) | (refine i_op ?_; first | (refine i_qq ?_; refine qQ ?_) | refine qEf ?_) | refine tl_nil ?_ | (refine i_tc ?_; refine qTc ?_) | (refine i_te ?_; refine qTe ?_) | intro _)
    exact qE ⟨rfl, 0, rfl, ⟨fun _ => rfl, fun e => nomatch hok.symm.trans e⟩, rfl⟩
  · rw [hok] at hck
    by_cases h0 : v.n = 0
    · have he : r.txns = [] := List.eq_nil_of_length_eq_zero (by omega)
      repeat' (first | (refine tl_is (.func 46) ?_; refine qC rfl rfl (hck) ?_; rintro v ρ' L' hle ⟨rfl, rfl, rfl⟩ <;> (try simp only [List.cons_append, List.nil_append, List.append_eq, if_true])) | (refine iBu ?_; refine tl_y (y_buildN rfl) rfl rfl ?_) | (refine i_op ?_; first | (refine i_qq ?_; refine qQ ?_) | refine qEf ?_) | refine tl_nil ?_ | (refine i_tc ?_; refine qTc ?_) | (refine i_te ?_; refine qTe ?_) | intro _)
      exact qE ⟨rfl, 0, rfl, ⟨fun _ => rfl, fun _ hne => absurd he hne⟩, rfl⟩
    · have hm := minTx_spec ρ v r.txns h.at' (by omega)
      repeat' (first | (refine tl_is (.func 46) ?_; refine qC rfl rfl (hck) ?_; rintro v ρ' L' hle ⟨rfl, rfl, rfl⟩ <;> (try simp only [List.cons_append, List.nil_append, List.append_eq, if_true])) | (refine tl_is (.func 65) ?_; refine qC rfl rfl (hm) ?_; rintro v ρ' L' hle ⟨rfl, y, rfl, hy, hmin, rfl⟩ <;> (try simp only [List.cons_append, List.nil_append, List.append_eq])) | (refine iBu ?_; refine tl_y (y_buildN rfl) rfl rfl ?_) | (refine i_op ?_; first | (refine i_qq ?_; refine qQ ?_) | refine qEf ?_) | refine tl_nil ?_ | (refine i_tc ?_; refine qTc ?_) | (refine i_te ?_; refine qTe ?_) | intro _)
      exact qE ⟨rfl, y.first, rfl, ⟨fun e => by
        rcases e with e | e
        · rw [hok] at e; cases e
        · rw [e] at hl; simp at hl; omega, fun _ _ => ⟨y, hy, rfl⟩⟩, rfl⟩
theorem txs_back {next : Int} : ∀ {l : List Tx} {last : Int}, txsB next last l = true → txsB next last ((l.map ckOf).map ofCk) = true
  | [], _, _ => rfl
  | x :: r, last, h => by
    rw [txsB, Bool.and_eq_true] at h
    simp only [List.map_cons]
    rw [txsB, Bool.and_eq_true]
    refine ⟨?_, txs_back h.2⟩
    have := h.1
    unfold txOk at this ⊢
    rw [Bool.and_eq_true] at this
    rw [Bool.and_eq_true, Bool.and_eq_true]
    exact ⟨this.1, rfl, rfl⟩
theorem ros_back {r : Ros} (h : rosOk r = true) : rosOk ⟨r.next, (r.txns.map ckOf).map ofCk⟩ = true := by
  unfold rosOk at h ⊢
  rw [Bool.and_eq_true, decide_eq_true_eq] at h ⊢
  exact ⟨⟨h.1.1, h.1.2.1, by simpa using h.1.2.2⟩, txs_back h.2⟩
theorem leastN_le {n : Nat} : ∀ {l : List Nat}, leastN n l ≤ n ∧ ∀ x ∈ l, leastN n l ≤ x := by
  intro l
  unfold leastN
  induction l generalizing n with
  | nil => simp
  | cons a r ih =>
    simp only [List.foldl_cons]
    obtain ⟨h1, h2⟩ := ih (n := min n a)
    refine ⟨by omega, fun x hx => ?_⟩
    rcases List.mem_cons.1 hx with rfl | hx
    · omega
    · exact h2 x hx
end Go.Proofs.E

namespace Go.Proofs.E
open Go
set_option linter.unusedVariables false
set_option linter.unusedSimpArgs false
set_option linter.unusedSectionVars false
set_option maxRecDepth 4000
set_option maxHeartbeats 1000000
attribute [local irreducible] Yl TL TC TE Spec YSpec R1 Hp.le EnvLe TS TR YS Stays
-- BN
theorem makeE_zero {r : Ros} {l : List CkP} {lsn : Nat} (h : makeE r l lsn = 0) : tblOk l = true ∧ rosOk r = true ∧ recOk (makeX r l lsn) = true := by
  unfold makeE at h
  cases h1 : tblOk l with
  | false => rw [h1] at h; simp at h
  | true =>
    cases h2 : rosOk r with
    | false => rw [h1, h2] at h; simp at h
    | true =>
      cases h3 : recOk (makeX r l lsn) with
      | false => rw [h1, h2, h3] at h; simp at h
      | true => exact ⟨rfl, rfl, rfl⟩
/-- what a checkpoint that was made says -/
structure BackR (r : Ros) (l : List CkP) (lsn : Nat) : Prop where
  is0 : isE (makeX r l lsn) = 0
  ros : readRos (makeX r l lsn) = ⟨r.next, (r.txns.map ckOf).map ofCk⟩
  e : readE (makeX r l lsn) = 0
  d : readD (makeX r l lsn) = l
  cut : cutN (makeX r l lsn) = leastN lsn (neededL (makeX r l lsn))
  again : makeE ⟨r.next, (r.txns.map ckOf).map ofCk⟩ l lsn = 0
  same : makeX ⟨r.next, (r.txns.map ckOf).map ofCk⟩ l lsn = makeX r l lsn
theorem back_of {r : Ros} {l : List CkP} {lsn : Nat} (h : makeE r l lsn = 0) : BackR r l lsn := by
  obtain ⟨h1, h2, h3⟩ := makeE_zero h
  have hb := ros_back h2
  have i0 : isE (makeX r l lsn) = 0 := by unfold isE; rw [h3]; rfl
  have e0 : fromE (makeX r l lsn).nextTxn (makeX r l lsn).txns = 0 := by unfold fromE; exact if_pos hb
  have e1 : readE (makeX r l lsn) = 0 := by unfold readE; rw [i0, if_pos rfl]; exact e0
  have hs : makeX ⟨r.next, (r.txns.map ckOf).map ofCk⟩ l lsn = makeX r l lsn := by
    unfold makeX
    have : ((r.txns.map ckOf).map ofCk).map ckOf = r.txns.map ckOf := by
      rw [List.map_map, List.map_map]
      apply List.map_congr_left
      intro x _
      rfl
    simp only [this]
  refine ⟨i0, ?_, e1, ?_, ?_, ?_, hs⟩
  · unfold readRos; rw [i0, if_pos rfl]
    unfold fromR; exact if_pos hb
  · unfold readD; rw [e1, if_pos rfl]; rfl
  · unfold cutN; rw [i0, if_pos rfl]; rfl
  · unfold makeE
    rw [h1, hb, hs, h3]; rfl
theorem zRc_bad : recOk zRc = false := by decide +kernel
end Go.Proofs.E

namespace Go.Proofs.E
open Go
set_option linter.unusedVariables false
set_option linter.unusedSimpArgs false
set_option linter.unusedSectionVars false
set_option maxRecDepth 4000
set_option maxHeartbeats 1000000
attribute [local irreducible] Yl TL TC TE Spec YSpec R1 Hp.le EnvLe TS TR YS Stays
/-! ## the plain law of Touch: by pages -/
theorem tblB_up {l : List CkP} {last last' : Int} (h : tblB last l = true) (hle : last' ≤ last) : tblB last' l = true := by
  cases l with
  | nil => rfl
  | cons p r =>
    rw [tblB, Bool.and_eq_true, decide_eq_true_eq] at h ⊢
    exact ⟨by omega, h.2⟩
theorem recP_cons {page : Int} {p : CkP} {r : List CkP} : recP page (p :: r) = if p.page = page then some p else recP page r := by
  unfold recP
  rw [List.find?_cons]
  by_cases h : p.page = page <;> simp [h]
theorem recP_low {l : List CkP} {last page : Int} (h : tblB last l = true) (hp : page ≤ last) : recP page l = none := by
  unfold recP
  rw [List.find?_eq_none]
  intro x hx
  obtain ⟨i, hi, rfl⟩ := List.mem_iff_getElem.1 hx
  have := ((tblB_lt h).1 i hi).1
  simp; omega
theorem recP_high {l : List CkP} {last page : Int} (h : tblB last l = true) (hp : 64 ≤ page) : recP page l = none := by
  unfold recP
  rw [List.find?_eq_none]
  intro x hx
  obtain ⟨i, hi, rfl⟩ := List.mem_iff_getElem.1 hx
  have := ((tblB_lt h).1 i hi).2.1
  simp; omega
theorem recP_page {l : List CkP} {page : Int} {p : CkP} (h : recP page l = some p) : p.page = page := by
  have := List.find?_some h
  simpa using this
theorem tbl_ext : ∀ {l1 l2 : List CkP} {last : Int}, tblB last l1 = true → tblB last l2 = true → (∀ page, recP page l1 = recP page l2) → l1 = l2
  | [], [], _, _, _, _ => rfl
  | [], q :: s, _, _, _, h => by
    have := h q.page
    rw [recP_cons, if_pos rfl] at this
    cases this
  | p :: r, [], _, _, _, h => by
    have := h p.page
    rw [recP_cons, if_pos rfl] at this
    cases this
  | p :: r, q :: s, last, h1, h2, h => by
    rw [tblB, Bool.and_eq_true, decide_eq_true_eq] at h1 h2
    have e1 := h p.page
    have e2 := h q.page
    rw [recP_cons, if_pos rfl, recP_cons] at e1
    rw [recP_cons, recP_cons, if_pos rfl] at e2
    have hpq : p = q := by
      by_cases hp : q.page = p.page
      · rw [if_pos hp] at e1; exact Option.some.inj e1
      · rw [if_neg hp] at e1
        rw [if_neg (fun e => hp e.symm)] at e2
        have a1 : q.page < p.page := by
          by_cases hh : q.page < p.page
          · exact hh
          · have := recP_low h2.2 (show p.page ≤ q.page by omega); rw [this] at e1; cases e1
        have := recP_low h1.2 (show q.page ≤ p.page by omega)
        rw [this] at e2; cases e2
    subst hpq
    have : r = s := tbl_ext h1.2 h2.2 (fun page => by
      by_cases hp : p.page = page
      · subst hp
        rw [recP_low h1.2 (Int.le_refl _), recP_low h2.2 (Int.le_refl _)]
      · have := h page
        rw [recP_cons, if_neg hp, recP_cons, if_neg hp] at this
        exact this)
    rw [this]
theorem recP_add {pg : Int} {lsn : Nat} {page : Int} : ∀ {l : List CkP} {last : Int}, tblB last l = true → recP page (addP pg lsn l) = if (recP page l).isSome then recP page l else if pg = page then some ⟨pg, lsn⟩ else none
  | [], _, _ => by
    rw [addP, recP_cons]
    by_cases h : pg = page <;> simp [h, recP]
  | p :: r, last, h => by
    rw [tblB, Bool.and_eq_true] at h
    rw [addP]
    split
    · rename_i hlt
      rw [recP_cons, recP_cons]
      by_cases hp : p.page = page
      · simp [hp]
      · simp only [if_neg hp]; rw [recP_add h.2]
    · split
      · rename_i h1 h2
        rw [recP_cons]
        by_cases hp : p.page = page
        · rw [if_pos hp]; rfl
        · rw [if_neg hp]
          have : ¬ pg = page := fun e => hp (by omega)
          rw [if_neg this]
          cases hh : recP page r <;> rfl
      · rename_i h1 h2
        rw [recP_cons]
        by_cases hp : pg = page
        · subst hp
          rw [if_pos rfl, if_pos rfl]
          have : recP pg (p :: r) = none := by
            rw [recP_cons, if_neg h2]
            exact recP_low h.2 (by omega)
          rw [this]; rfl
        · rw [if_neg hp, if_neg hp]
          cases hh : recP page (p :: r) <;> rfl
theorem touchI_tbl {lsn : Nat} (h1 : 1 ≤ lsn) (h2 : lsn ≤ 1099511627776) : ∀ {xs : List Im} {l : List CkP}, (∀ x ∈ xs, pageOk x.page = true) → tblOk l = true →
    tblOk (touchI lsn xs l) = true ∧ ∀ page, recP page (touchI lsn xs l) = if (recP page l).isSome then recP page l else if (xs.find? (fun x => decide (x.page = page))).isSome then some ⟨page, lsn⟩ else none
  | [], l, _, hl => by
    refine ⟨hl, fun page => ?_⟩
    rw [touchI]
    simp only [List.find?_nil, Option.isSome_none, Bool.false_eq_true, if_false]
    cases hh : recP page l <;> rfl
  | x :: r, l, hx, hl => by
    have hpx := hx x (by simp)
    unfold pageOk at hpx
    rw [decide_eq_true_eq] at hpx
    have ht : tblOk (addP x.page lsn l) = true := addP_tbl hpx.2 h1 h2 (by omega) hl
    obtain ⟨g1, g2⟩ := touchI_tbl h1 h2 (xs := r) (fun y hy => hx y (by simp [hy])) ht
    refine ⟨g1, fun page => ?_⟩
    rw [touchI, g2 page, recP_add (last := -1) hl, List.find?_cons]
    cases hh : recP page l with
    | some p => rfl
    | none =>
      simp only [Option.isSome_none, Bool.false_eq_true, if_false]
      by_cases hp : x.page = page
      · rw [decide_eq_true hp, if_pos hp]; subst hp; rfl
      · rw [decide_eq_false hp, if_neg hp]; rfl
theorem recOk_touch {r : Rc} (hok : recOk r = true) : (1 ≤ r.lsn ∧ r.lsn ≤ 1099511627776) ∧ ∀ x ∈ r.ims, pageOk x.page = true := by
  unfold recOk at hok
  simp only [Bool.and_eq_true, decide_eq_true_eq] at hok
  obtain ⟨_, hh, ha, hb⟩ := hok
  unfold headOk at hh
  rw [decide_eq_true_eq] at hh
  refine ⟨⟨hh.1, hh.2.1⟩, fun x hx => ?_⟩
  have him : ∃ b, imsOk b r.ims = true := by
    unfold bareOk at hb
    rw [decide_eq_true_eq] at hb
    rcases hb.2.1 with h0 | h2 | h5
    · rw [h0] at hx; cases hx
    · unfold askOk at ha; rw [if_pos h2, Bool.and_eq_true] at ha; exact ⟨true, ha.2⟩
    · unfold askOk at ha
      rw [if_neg (by omega), if_neg (by omega), if_neg (by omega), if_pos h5, Bool.and_eq_true] at ha; exact ⟨false, ha.2⟩
  obtain ⟨b, him⟩ := him
  unfold imsOk upB at him
  rw [Bool.and_eq_true] at him
  obtain ⟨j, hj, rfl⟩ := List.mem_iff_getElem.1 hx
  have := ((risesB_true him.2 (Nat.le_refl _)).2 j hj hj).1
  unfold imOk at this
  rw [Bool.and_eq_true] at this
  exact this.1
end Go.Proofs.E

namespace Go.Proofs.E
open Go
set_option linter.unusedVariables false
set_option linter.unusedSimpArgs false
set_option linter.unusedSectionVars false
set_option maxRecDepth 4000
set_option maxHeartbeats 1000000
attribute [local irreducible] Yl TL TC TE Spec YSpec R1 Hp.le EnvLe TS TR YS Stays
/-! ## the plain law of CkptMisses -/
theorem risesB_intro {α : Type} {most : Nat} {right : Nat → α → Bool} {lt : α → α → Bool} {l : List α} (h0 : l.length ≤ most) :
    ∀ {k : Nat}, k ≤ l.length → (∀ j (h : j < l.length), j < k → right j l[j] = true ∧ (0 < j → lt (l[j - 1]'(by omega)) l[j] = true)) → risesB most right lt l k = true
  | 0, _, _ => by rw [risesB]; exact decide_eq_true h0
  | k + 1, hk, h => by
    rw [risesB_succ (show k < l.length by omega), risesB_intro h0 (by omega) (fun j hj hjk => h j hj (by omega)), Bool.true_and]
    obtain ⟨h1, h2⟩ := h k (by omega) (by omega)
    rw [h1, Bool.true_and]
    by_cases hk0 : k = 0
    · rw [decide_eq_true hk0]; rfl
    · rw [h2 (by omega), Bool.or_true]
def tches (r : Rc) (p : Int) : Prop := (r.ims.find? (fun x => decide (x.page = p))).isSome = true
abbrev R0 : Ros := ⟨1, []⟩
theorem chg_ok {lsn : Nat} {l : List Int} (h1 : 2 ≤ lsn) (h2 : lsn ≤ 1099511627776) (hl : 0 < l.length) (h16 : l.length ≤ 6) (hp : ∀ x ∈ l, 0 ≤ x ∧ x < 6)
    (hr : ∀ i j (h : j < l.length) (hij : i < j), (l[i]'(by omega)) < l[j]) : recOk (chgR lsn l) = true := by
  have hims : imsOk true (l.map chgI) = true := by
    unfold imsOk upB
    rw [List.length_map, decide_eq_true (show l.length ≤ 16 by omega), Bool.true_and]
    refine risesB_intro (by simp) (by simp) (fun j hj _ => ?_)
    rw [List.length_map] at hj
    simp only [List.getElem_map]
    have hx := hp _ (List.getElem_mem hj)
    refine ⟨?_, fun h0 => decide_eq_true (hr (j - 1) j hj (by omega))⟩
    unfold imOk chgI pageOk
    have hc : contOk ⟨0, [], []⟩ = true := by decide +kernel
    dsimp only
    rw [hc, decide_eq_true (show 0 ≤ l[j] ∧ l[j] < 64 by omega)]
    rfl
  unfold recOk headOk askOk bareOk chgR
  dsimp only
  rw [hims]
  simp [hl]
  omega
theorem mark_ok {lsn : Nat} {d : List CkP} (h1 : 1 ≤ lsn) (h2 : lsn ≤ 1099511627776) (ht : tblOk d = true) (hs : ∀ p q, recP p d = some q → q.since < lsn) : makeE R0 d lsn = 0 := by
  have hd : ∀ x ∈ d, x.since < lsn := fun x hx => by
    obtain ⟨i, hi, rfl⟩ := List.mem_iff_getElem.1 hx
    obtain ⟨hA, hB⟩ := tblB_lt ht
    refine hs d[i].page d[i] ?_
    unfold recP
    rw [List.find?_eq_some_iff_getElem]
    refine ⟨by simp, i, hi, rfl, fun j hj => ?_⟩
    have := hB j i hi hj
    simp; omega
  have hu : upB (ckPOk lsn) CkP.page d d.length = true := by
    unfold upB
    obtain ⟨hA, hB⟩ := tblB_lt ht
    refine risesB_intro (Nat.le_refl _) (Nat.le_refl _) (fun j hj _ => ⟨?_, fun h0 => decide_eq_true (hB (j - 1) j hj (by omega))⟩)
    have := hA j hj
    have := hd _ (List.getElem_mem hj)
    unfold ckPOk
    simp [pageOk]
    omega
  have hro : rosOk R0 = true := by decide +kernel
  have hrec : recOk (makeX R0 d lsn) = true := by
    unfold recOk headOk askOk bareOk makeX
    dsimp only
    have : upB (ckTOk lsn 1) CkT.txn ([] : List CkT) 0 = true := by rfl
    simp [hu, this]
    omega
  unfold makeE
  rw [ht, hro, hrec]; rfl
end Go.Proofs.E

