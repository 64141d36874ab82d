/- Laws of analysis. Part 37 of 37. -/
import Derived.Test.YtkbiahafeoillaaGreatB36
import Derived.Test.YtkbiahafeoillaaGreatRows
namespace Go.Proofs.YtkbiahafeoillaaGreat.AnalysisFindsLaw
open Go Go.ChangeShapes Go.WideShapes Go.ChangeAt Go.RowKit Go.Proofs.E
set_option linter.unusedVariables false
theorem own : ownKnob Tryz.prog.godebug = none := by kernel_rfl
theorem laidOut : laidOutB Tryz.prog = true := by kernel_rfl
set_option maxRecDepth 100000 in
theorem lifted (os : Os) (started : os.Started) (H : Type) (enc : TypeId × Value → H) :
  ReturnsInHanded {} Tryz.checked os 8 .any (Rows.analysisFindsSpec.pre6 enc Tryz.prog Tryz.f8 Rows.analysisFindsRow.domain false) (Rows.analysisFindsSpec.post enc Tryz.prog Tryz.f8 false true false false) := by
 refine returnsInHanded_of_change_sized (C := Tryz.checked) own started (by kernel_rfl) Tryz.func8
  (ChangeSpec.witness6 (enc := enc) (C := Tryz.checked) false ⟨#[], #[.slice none 0 0, .int .i64 0], []⟩ 8 (by kernel_rfl) (by kernel_rfl) (by kernel_rfl) (by kernel_rfl)) ?_
 intro W base args ds gs before hval0 hW hcnd hsz0 _
 have hval : ∀ (j : Nat) t v, Tryz.f8.params[j]? = some t → args[j]? = some v → Value.okWide Tryz.prog W .any base t v := hval0
 have hW' := hW
 obtain ⟨p, q, hA0, hV, rfl, hfz, hnd⟩ := hW
 have hA : DataW.TrodAll enc Tryz.prog W 0 (fun _ => true) true Tryz.f8.params.toList args.toList ds p := hA0
 have hsz : (DataW.weightsEach Tryz.prog (Tryz.f8.params.toList ++ Rows.analysisFindsSpec.plain.varTypes Tryz.prog) (ds ++ gs)).all (· ≤ reachBytes) = true := hsz0
 rw [Tryz.params8] at hA hval hsz
 obtain ⟨v0, vs0, d0, ds0, p0, q0, hargs, rfl, rfl, h0, r0⟩ := trodAll_cons hA
 obtain ⟨v1, vs1, d1, ds1, p1, q1, rfl, rfl, rfl, h1, r1⟩ := trodAll_cons r0
 obtain ⟨rfl, rfl, rfl⟩ := trodAll_nil r1
 obtain rfl : args = #[v0, v1] := by cases args; simp_all
 obtain ⟨rfl, rfl⟩ := trodVars_none hV
 have k0 := h0
 have k1 := h1
 have lt0 : ∀ x ∈ p0, x.block < W.heap.size := by obtain ⟨m, hm⟩ := k0; exact DataW.trod_lt m _ _ _ hm
 have lt1 : ∀ x ∈ p1, x.block < W.heap.size := by obtain ⟨m, hm⟩ := k1; exact DataW.trod_lt m _ _ _ hm
 obtain ⟨a0, n0, c0, rfl⟩ := okWide_slice Tryz.underlying81 (hval 0 81 v0 rfl rfl)
 obtain ⟨s0, e0, b0⟩ := (Xc (sz := 13) (by' := 168) Tryz.underlying81 (by kernel_rfl) (by decide) (by kernel_rfl) opnS_deed23) _ _ _ h0.choose_spec (wts_of hsz (j := 0) rfl rfl)
 simp only [reachBytes] at b0
 obtain ⟨⟨y0, m0, z0, x0⟩, ec0⟩ : ∃ s, s = s0 := ⟨s0, rfl⟩
 subst ec0
 have ec0 := e0.cells
 simp only [Value.cells, List.cons.injEq, Value.slice.injEq, and_true] at ec0
 obtain ⟨rfl, rfl, rfl⟩ := ec0
 obtain ⟨a1, rfl, _, _, w1⟩ := open_int Tryz.underlying3 (hval 1 3 v1 rfl rfl) h1
 replace w1 := wf_bounds w1
 clear hA0 hval0
 obtain ⟨hA0, hP0, hc0, hb0⟩ := We (g := fdV) (fun _ => rfl) e0
 refine (Spec.law (findsLaw_spec (hpOf W) a0 n0 c0 x0 hA0 hP0 hb0 a1)).mono fun e W' ⟨he, bel⟩ => ?_
 subst he
 exact ⟨_, rfl, _, _, _, [], _, [], hW', trodAll_mk1 (shut_bool Tryz.underlying4 _), (trodAll_cons_mk (Below.trod laidOut (by kernel_rfl) (of_decide_eq_true (by kernel_rfl)) k0 bel lt0) (trodAll_cons_mk (Below.trod laidOut (by kernel_rfl) (of_decide_eq_true (by kernel_rfl)) k1 bel lt1) trodAll_mk0)), rfl, bel.frame _, fun h => by cases h⟩
theorem joinedA : (Rows.analysisFindsRow.inPlace == Tryz.checked.prog.inPlace 8) = true := by kernel_rfl
theorem joinedB : (Rows.analysisFindsRow.unfollowed == Tryz.checked.prog.unfollowed 8) = true := by kernel_rfl
theorem joinedC : (Rows.analysisFindsRow.recurses == Tryz.checked.prog.recurses 8) = true := by kernel_rfl
theorem joinedD : (Rows.analysisFindsRow.named == Tryz.checked.prog.varsNamed 8) = true := by kernel_rfl
theorem joined : joinedFacts Tryz.checked.prog 8 Tryz.f8 Rows.analysisFindsSpec Rows.analysisFindsRow = true := by
 unfold joinedFacts
 rw [joinedA, joinedB, joinedC, joinedD]
 kernel_rfl
theorem over : Rows.analysisFindsRow.holds Tryz.pinned (OpenSpec.ofChange Rows.analysisFindsSpec) :=
 OpenClaim.holds_of_wide 8 Tryz.f8 rfl rfl rfl rfl rfl rfl rfl ⟨rfl, rfl, rfl, rfl, rfl⟩ rfl rfl rfl rfl rfl (by kernel_rfl) Tryz.func8 joined
  (of_decide_eq_true (by kernel_rfl)) (by unfold Func.isWrapper; first | (rw [if_pos (by decide +kernel)]; kernel_rfl) | (rw [if_neg (by decide +kernel)]; exact ⟨rfl, rfl⟩))
  (fun os started H enc _ => lifted os started H enc)
theorem proved : Rows.AnalysisFindsSaid := over
end Go.Proofs.YtkbiahafeoillaaGreat.AnalysisFindsLaw
