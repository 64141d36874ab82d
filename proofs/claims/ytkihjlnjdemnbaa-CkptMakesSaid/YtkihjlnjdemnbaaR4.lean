/- The law CkptMakes. Part 4 of 4. -/
import Derived.Test.YtkihjlnjdemnbaaR3
import Derived.Test.YtkihjlnjdemnbaaRows
namespace Go.Proofs.E
open Go
set_option linter.unusedVariables false
set_option linter.unusedSimpArgs false
set_option linter.unusedSectionVars false
set_option maxRecDepth 4000
set_option maxHeartbeats 1000000
attribute [local irreducible] Yl TL TC TE Spec YSpec R1 Hp.le EnvLe TS TR YS Stays
-- BN
theorem makesLaw_spec (ρ : Hp) (v : SV) (r : Ros) (hr : RosW ρ v r) (a : Option Addr) (n c : Nat) (l : List CkP) (h : AIn ρ 2 ckPV a n l) (hc : n ≤ c) (hn : n ≤ 9223372036854775807)
    (a2 : Option Addr) (n2 c2 : Nat) (ls : List Nat) (h2 : SIn ρ u64c a2 n2 ls) (hP : ∀ x ∈ ls, x < 18446744073709551616) (hn2 : n2 ≤ 9223372036854775807) :
    Spec Try.prog 5 [.agg ⟨rosV v r⟩, .slice a n c, .slice a2 n2 c2] ρ [] (fun z ρ' L' => z = .bool true ∧ ρ.le ρ' ∧ L' = []) := by
  have hvn := hr.at'.big
  have hl2 := h2.len
  refine spec_enter Try.func5 rfl rfl rfl fun u R => ?_
  simp only [argsE, List.cons_append, List.nil_append]
  by_cases h20 : 20 < v.n
  · repeat' (first | (refine tl_is (.func 8) ?_; refine qC rfl rfl (wakes22_spec _) ?_; rintro v ρ' L' hle ⟨rfl, hl1, rfl⟩ <;> (try simp only [List.cons_append, List.nil_append, List.append_eq])) | (refine tl_is (.func 9) ?_; refine qC rfl rfl (few22_spec _ a n c l (h.mono hl1) hc hn) ?_; rintro v ρ' L' hle ⟨hl2, s, rfl, hs, rfl⟩ <;> (try simp only [List.cons_append, List.nil_append, List.append_eq])) | (refine iBu ?_; refine tl_y (y_buildN rfl) rfl rfl ?_) | (refine i_op ?_; first | (refine i_qq ?_; refine qQ ?_) | refine qEf ?_) | refine tl_nil ?_ | (refine i_tc ?_; refine qTc ?_) | (refine i_te ?_; refine qTe ?_) | intro _)
    exact qE (L' := []) ⟨rfl, Hp.le_trans hl1 hl2, rfl⟩
  · have hro := hr.in' (by omega)
    generalize hd : l.take 66 = d
    have hd66 : d.length ≤ 1000 := by rw [← hd, List.length_take]; omega
    repeat' (first | (refine tl_is (.func 8) ?_; refine qC rfl rfl (wakes22_spec _) ?_; rintro v ρ' L' hle ⟨rfl, hl1, rfl⟩ <;> (try simp only [List.cons_append, List.nil_append, List.append_eq])) | (refine tl_is (.func 9) ?_; refine qC rfl rfl (few22_spec _ a n c l (h.mono hl1) hc hn) ?_; rintro v ρ' L' hle ⟨hl2', s, rfl, hs, rfl⟩ <;> (try simp only [List.cons_append, List.nil_append, List.append_eq])) | (refine iBu ?_; refine tl_y (y_buildN rfl) rfl rfl ?_) | (refine i_op ?_; first | (refine i_qq ?_; refine qQ ?_) | refine qEf ?_) | refine tl_nil ?_ | (refine i_tc ?_; refine qTc ?_) | (refine i_te ?_; refine qTe ?_) | intro _)
    rename_i rb ρ1 hle1
    rw [hd] at hs
    have hz := Hp.le_trans hl1 hl2'
    refine tc_loop_g [(3, _), (7, _), (22, _), (23, _)] (fun (ζ : (Nat) × (Hp)) => [(24, .int .i64 ζ.1), (6, .bool false)]) (fun (ζ : (Nat) × (Hp)) => ζ.2) (fun (ζ : (Nat) × (Hp)) => [[(rb, .cells ⟨rosV v r⟩ 47 (0, 0))]]) (fun (ζ : (Nat) × (Hp)) => ζ.1 ≤ n2 ∧ ρ'.le ζ.2) (fun (ζ : (Nat) × (Hp)) => n2 - ζ.1) ((0, ρ')) (⟨Nat.zero_le _, Hp.le_refl _⟩) ev_le ev_le rfl tk ?_
    rintro ⟨k, ρ2⟩ hI
    try simp only [List.cons_append, List.nil_append, List.append_assoc, List.append_eq] at hI ⊢
    try dsimp only at hI ⊢
    obtain ⟨hk, hle2⟩ := hI
    have hzz := Hp.le_trans hz hle2
    by_cases hlt : k < n2
    · obtain ⟨b, off, C, T, fr, e1, hb, hcc⟩ := (h2.mono hzz).get (show k < ls.length by omega)
      generalize ls[k]'(by omega) = lsn at *
      have hM := make_spec ρ2 v r (hro.mono hzz) s d (hs.mono hle2) lsn
      have hR := fun ρ1 (h1 : ρ2.le ρ1) => right22_spec ρ1 s d ((hs.mono hle2).mono h1)
      rw [← tblOk_up] at hR
      have hi : (makeR r d lsn).ims = [] := by unfold makeR; split <;> rfl
      have hs0 : (makeR r d lsn).steps = [] := by unfold makeR; split <;> rfl
      rw [e1]
      cases ht : tblOk d
      · have hE : makeE r d lsn = 320 := by unfold makeE; rw [ht]; rfl
        have hm : makeR r d lsn = zRc := by unfold makeR; rw [if_neg (by rw [hE]; decide)]
        rw [hE, hm] at hM
        rw [ht] at hR
        repeat' (first | (refine tl_is (.func 21) ?_; refine qC rfl rfl (hM) ?_; rintro v ρ' L' hle ⟨hl3, v1, rfl, hR1, rfl⟩ <;> (try simp only [List.cons_append, List.nil_append, List.append_eq])) | (refine tl_is (.func 11) ?_; refine qC rfl rfl (hR _ hl3) ?_; rintro v ρ' L' hle ⟨rfl, rfl, rfl⟩ <;> (try simp only [List.cons_append, List.nil_append, List.append_eq])) | (refine tl_is (.func 23) ?_; refine qC rfl rfl (same12k_spec _ v1 zRV zRc hR1 RcIn.zero rfl rfl) ?_; rintro v ρ' L' hle ⟨rfl, rfl, rfl⟩ <;> (try simp only [List.cons_append, List.nil_append, List.append_eq])) | (refine iBu ?_; refine tl_y (y_buildN rfl) rfl rfl ?_) | (refine i_op ?_; first | (refine i_qq ?_; refine qQ ?_) | refine qEf ?_) | refine tl_nil ?_ | (refine i_tc ?_; refine qTc ?_) | (refine i_te ?_; refine qTe ?_) | (refine i_gd ?_; refine tl_guard rfl rfl (fun hb => ?_) (fun hb => ?_) <;> (try simp only [decide_eq_true_eq, decide_eq_false_iff_not, Bool.not_eq_true, Bool.not_eq_false, beq_iff_eq, bne_iff_ne, ne_eq, decide_eq_decide, Bool.not_eq_eq_eq_not, Bool.not_true, Bool.not_false, beq_eq_false_iff_ne, bne_eq_false_iff_eq, Bool.and_eq_true, Bool.or_eq_true, Bool.and_eq_false_imp, Bool.or_eq_false_iff, bq2, bqt, bqf] at hb)) | (refine i_cond ?_; refine tc_cond rfl (fun hb => ?_) (fun hb => ?_) <;> (try simp only [decide_eq_true_eq, decide_eq_false_iff_not, Bool.not_eq_true, Bool.not_eq_false, beq_iff_eq, bne_iff_ne, ne_eq, decide_eq_decide, Bool.not_eq_eq_eq_not, Bool.not_true, Bool.not_false, beq_eq_false_iff_ne, bne_eq_false_iff_eq, Bool.and_eq_true, Bool.or_eq_true, Bool.and_eq_false_imp, Bool.or_eq_false_iff, bq2, bqt, bqf] at hb)) | intro _)
        all_goals (try (exfalso; omega))
        all_goals (try exact qE (L' := []) ⟨rfl, hzz, rfl⟩ (hle := hzz))
        all_goals rw [← e1]
        all_goals refine te_round_g (k + 1, ρ') (⟨hlt, Hp.le_trans hle2 hl3⟩) ev_le ev_le rfl tk inferInstance (by first | omega | (dsimp only; omega))
      · have hM2 := fun ρ1 (h1 : ρ2.le ρ1) => make22_spec ρ1 v r ((hro.mono hzz).mono h1) s d ((hs.mono hle2).mono h1) hd66 lsn ht
        rw [ht] at hR
        generalize makeR r d lsn = X at *
        generalize makeE r d lsn = e at *
        repeat' (first | (refine tl_is (.func 21) ?_; refine qC rfl rfl (hM) ?_; rintro v ρ' L' hle ⟨hl3, v1, rfl, hR1, rfl⟩ <;> (try simp only [List.cons_append, List.nil_append, List.append_eq])) | (refine tl_is (.func 11) ?_; refine qC rfl rfl (hR _ hl3) ?_; rintro v ρ' L' hle ⟨rfl, rfl, rfl⟩ <;> (try simp only [List.cons_append, List.nil_append, List.append_eq])) | (refine tl_is (.func 22) ?_; refine qC rfl rfl (hM2 _ hl3) ?_; rintro v ρ' L' hle ⟨hl4, v2, rfl, hR2, rfl⟩ <;> (try simp only [List.cons_append, List.nil_append, List.append_eq])) | (refine tl_is (.func 23) ?_; refine qC rfl rfl (same12k_spec _ v1 v2 X (hR1.mono hl4) hR2 hi hs0) ?_; rintro v ρ' L' hle ⟨rfl, rfl, rfl⟩ <;> (try simp only [List.cons_append, List.nil_append, List.append_eq])) | (refine iBu ?_; refine tl_y (y_buildN rfl) rfl rfl ?_) | (refine i_op ?_; first | (refine i_qq ?_; refine qQ ?_) | refine qEf ?_) | refine tl_nil ?_ | (refine i_tc ?_; refine qTc ?_) | (refine i_te ?_; refine qTe ?_) | (refine i_gd ?_; refine tl_guard rfl rfl (fun hb => ?_) (fun hb => ?_) <;> (try simp only [decide_eq_true_eq, decide_eq_false_iff_not, Bool.not_eq_true, Bool.not_eq_false, beq_iff_eq, bne_iff_ne, ne_eq, decide_eq_decide, Bool.not_eq_eq_eq_not, Bool.not_true, Bool.not_false, beq_eq_false_iff_ne, bne_eq_false_iff_eq, Bool.and_eq_true, Bool.or_eq_true, Bool.and_eq_false_imp, Bool.or_eq_false_iff, bq2, bqt, bqf] at hb)) | (refine i_cond ?_; refine tc_cond rfl (fun hb => ?_) (fun hb => ?_) <;> (try simp only [decide_eq_true_eq, decide_eq_false_iff_not, Bool.not_eq_true, Bool.not_eq_false, beq_iff_eq, bne_iff_ne, ne_eq, decide_eq_decide, Bool.not_eq_eq_eq_not, Bool.not_true, Bool.not_false, beq_eq_false_iff_ne, bne_eq_false_iff_eq, Bool.and_eq_true, Bool.or_eq_true, Bool.and_eq_false_imp, Bool.or_eq_false_iff, bq2, bqt, bqf] at hb)) | intro _)
        all_goals (try (exfalso; omega))
        all_goals (try exact qE (L' := []) ⟨rfl, hzz, rfl⟩ (hle := hzz))
        all_goals rw [← e1]
        all_goals refine te_round_g (k + 1, ρ') (⟨hlt, Hp.le_trans hle2 (Hp.le_trans hl3 hl4)⟩) ev_le ev_le rfl tk inferInstance (by first | omega | (dsimp only; omega))
    · repeat' (first | (refine iBu ?_; refine tl_y (y_buildN rfl) rfl rfl ?_) | (refine i_op ?_; first | (refine i_qq ?_; refine qQ ?_) | refine qEf ?_) | refine tl_nil ?_ | (refine i_tc ?_; refine qTc ?_) | (refine i_te ?_; refine qTe ?_) | intro _)
      exact qE (L' := []) ⟨rfl, hzz, rfl⟩ (hle := hzz)
end Go.Proofs.E

namespace Go.Proofs.Ytkihjlnjdemnbaa.CkptMakesLaw
open Go Go.ChangeShapes Go.WideShapes Go.ChangeAt Go.RowKit Go.Proofs.E
set_option linter.unusedVariables false

theorem own : ownKnob Try.prog.godebug = none := by kernel_rfl
theorem laidOut : laidOutB Try.prog = true := by kernel_rfl

set_option maxRecDepth 100000 in
theorem lifted (os : Os) (started : os.Started) (H : Type) (enc : TypeId × Value → H) :
    ReturnsInHanded {} Try.checked os 5 .any (Rows.ckptMakesSpec.pre6 enc Try.prog Try.f5 Rows.ckptMakesRow.domain false) (Rows.ckptMakesSpec.post enc Try.prog Try.f5 false true false false) := by
  refine returnsInHanded_of_change_sized (C := Try.checked) own started (by kernel_rfl) Try.func5
    (ChangeSpec.witness6 (enc := enc) (C := Try.checked) false ⟨#[], #[.agg ⟨[.int .i64 0, .slice none 0 0]⟩, .slice none 0 0, .slice none 0 0], []⟩ 8 (by kernel_rfl) (by kernel_rfl) (by kernel_rfl) (by kernel_rfl)) ?_
  intro W base args ds gs before hval0 hW hcnd hsz0 _
  have hval : ∀ (j : Nat) t v, Try.f5.params[j]? = some t → args[j]? = some v → Value.okWide Try.prog W .any base t v := hval0
  have hW' := hW
  obtain ⟨p, q, hA0, hV, rfl, hfz, hnd⟩ := hW
  have hA : DataW.TrodAll enc Try.prog W 0 (fun _ => true) true Try.f5.params.toList args.toList ds p := hA0
  have hsz : (DataW.weightsEach Try.prog (Try.f5.params.toList ++ Rows.ckptMakesSpec.plain.varTypes Try.prog) (ds ++ gs)).all (· ≤ reachBytes) = true := hsz0
  rw [Try.params5] at hA hval hsz
  obtain ⟨v0, vs0, d0, ds0, p0, q0, hargs, rfl, rfl, h0, r0⟩ := trodAll_cons hA
  obtain ⟨v1, vs1, d1, ds1, p1, q1, rfl, rfl, rfl, h1, r1⟩ := trodAll_cons r0
  obtain ⟨v2, vs2, d2, ds2, p2, q2, rfl, rfl, rfl, h2, r2⟩ := trodAll_cons r1
  obtain ⟨rfl, rfl, rfl⟩ := trodAll_nil r2
  obtain rfl : args = #[v0, v1, v2] := by cases args; simp_all
  obtain ⟨rfl, rfl⟩ := trodVars_none hV
  have k0 := h0
  have k1 := h1
  have k2 := h2
  have lt0 : ∀ x ∈ p0, x.block < W.heap.size := by obtain ⟨m, hm⟩ := k0; exact DataW.trod_lt m _ _ _ hm
  have lt1 : ∀ x ∈ p1, x.block < W.heap.size := by obtain ⟨m, hm⟩ := k1; exact DataW.trod_lt m _ _ _ hm
  have lt2 : ∀ x ∈ p2, x.block < W.heap.size := by obtain ⟨m, hm⟩ := k2; exact DataW.trod_lt m _ _ _ hm
  obtain ⟨cs0, rfl, _⟩ := okWide_struct Try.underlying47 (hval 0 47 v0 rfl rfl)
  obtain ⟨o0, e0, ek0⟩ := opnS_roster _ _ _ h0.choose_spec (wts_of hsz (j := 0) rfl rfl)
  obtain rfl : cs0 = ⟨rosV o0.1 o0.2⟩ := by
    cases cs0; simp only [Value.cells] at e0; rw [e0]
  obtain ⟨a1, n1, c1, rfl⟩ := okWide_slice Try.underlying22 (hval 1 22 v1 rfl rfl)
  obtain ⟨s1, e1, b1⟩ := (opnS_slice (sz := 2) (by' := 16) Try.underlying22 (by kernel_rfl) (by decide) (by kernel_rfl) opnS_ckp) _ _ _ h1.choose_spec (wts_of hsz (j := 1) rfl rfl)
  simp only [reachBytes] at b1
  obtain ⟨⟨y1, m1, z1, x1⟩, ec1⟩ : ∃ s, s = s1 := ⟨s1, rfl⟩
  subst ec1
  have ec1 := e1.cells
  simp only [Value.cells, List.cons.injEq, Value.slice.injEq, and_true] at ec1
  obtain ⟨rfl, rfl, rfl⟩ := ec1
  obtain ⟨a2, n2, c2, rfl⟩ := okWide_slice Try.underlying48 (hval 2 48 v2 rfl rfl)
  obtain ⟨s2, e2, b2⟩ := (opnS_slice (sz := 1) (by' := 8) Try.underlying48 (by kernel_rfl) (by decide) (by kernel_rfl) opnS_u64) _ _ _ h2.choose_spec (wts_of hsz (j := 2) rfl rfl)
  simp only [reachBytes] at b2
  obtain ⟨⟨y2, m2, z2, x2⟩, ec2⟩ : ∃ s, s = s2 := ⟨s2, rfl⟩
  subst ec2
  have ec2 := e2.cells
  simp only [Value.cells, List.cons.injEq, Value.slice.injEq, and_true] at ec2
  obtain ⟨rfl, rfl, rfl⟩ := ec2
  clear hA0 hval0
  obtain ⟨hA1, hP1, hc1, hb1⟩ := aIn_ofW ckPV_len e1
  obtain ⟨hA2, hP2, hc2, hb2⟩ := aIn_ofW (g := fun x : Nat => [u64c x]) (fun _ => rfl) e2
  refine (Spec.law (makesLaw_spec (hpOf W) o0.1 o0.2 ek0 a1 n1 c1 x1 hA1 hc1 hb1 a2 n2 c2 x2 (sIn_ofA hA2) hP2 hb2)).mono fun e W' ⟨he, bel⟩ => ?_
  subst he
  exact ⟨_, rfl, _, _, _, [], _, [], hW', trodAll_mk1 (shut_bool Try.underlying4 _), (trodAll_cons_mk (Below.trod laidOut (by kernel_rfl) (of_decide_eq_true (by kernel_rfl)) k0 bel lt0) (trodAll_cons_mk (Below.trod laidOut (by kernel_rfl) (of_decide_eq_true (by kernel_rfl)) k1 bel lt1) (trodAll_cons_mk (Below.trod laidOut (by kernel_rfl) (of_decide_eq_true (by kernel_rfl)) k2 bel lt2) trodAll_mk0))), rfl, bel.frame _, fun h => by cases h⟩

theorem over : Rows.ckptMakesRow.holds Try.pinned (OpenSpec.ofChange Rows.ckptMakesSpec) :=
  OpenClaim.holds_of_wide 5 Try.f5 rfl rfl rfl rfl rfl rfl rfl ⟨rfl, rfl, rfl, rfl, rfl⟩ rfl rfl rfl rfl rfl (by kernel_rfl) Try.func5 (by kernel_rfl)
    (of_decide_eq_true (by kernel_rfl)) (by unfold Func.isWrapper; first | (rw [if_pos (by decide +kernel)]; kernel_rfl) | (rw [if_neg (by decide +kernel)]; exact ⟨rfl, rfl⟩))
    (fun os started H enc _ => lifted os started H enc)

theorem proved : Rows.CkptMakesSaid := over
end Go.Proofs.Ytkihjlnjdemnbaa.CkptMakesLaw

