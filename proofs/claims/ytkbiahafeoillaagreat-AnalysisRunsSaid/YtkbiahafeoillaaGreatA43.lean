/- Laws of analysis. Part 43 of 41. -/
import Derived.Test.YtkbiahafeoillaaGreatA42
import Derived.Test.YtkbiahafeoillaaGreatRows
namespace Go.Proofs.YtkbiahafeoillaaGreat.AnalysisStepsLaw
open Go Go.ChangeShapes Go.WideShapes Go.ChangeAt Go.RowKit Go.Proofs.E
set_option linter.unusedVariables false
theorem own : ownKnob Tryz.prog.godebug = none := by kernel_rfl
theorem laidOut : laidOutB Tryz.prog = true := by kernel_rfl
set_option maxRecDepth 100000 in
theorem lifted (os : Os) (started : os.Started) (H : Type) (enc : TypeId × Value → H) :
  ReturnsInHanded {} Tryz.checked os 6 .any (Rows.analysisStepsSpec.pre6 enc Tryz.prog Tryz.f6 Rows.analysisStepsRow.domain false) (Rows.analysisStepsSpec.post enc Tryz.prog Tryz.f6 false true false false) := by
 refine returnsInHanded_of_change_sized (C := Tryz.checked) own started (by kernel_rfl) Tryz.func6
  (ChangeSpec.witness6 (enc := enc) (C := Tryz.checked) false ⟨#[], #[.agg ⟨[.int .u64 0, .int .u64 0, .int .u64 0, .int .u64 0, .int .i64 0, .slice none 0 0, .slice none 0 0]⟩, .agg ⟨[.int .i64 0, .int .u64 0, .int .i64 0, .int .u64 0, .int .u64 0, .slice none 0 0, .slice none 0 0, .int .i64 0, .slice none 0 0, .slice none 0 0]⟩], []⟩ 8 (by kernel_rfl) (by kernel_rfl) (by kernel_rfl) (by kernel_rfl)) ?_
 intro W base args ds gs before hval0 hW hcnd hsz0 _
 have hval : ∀ (j : Nat) t v, Tryz.f6.params[j]? = some t → args[j]? = some v → Value.okWide Tryz.prog W .any base t v := hval0
 have hW' := hW
 obtain ⟨p, q, hA0, hV, rfl, hfz, hnd⟩ := hW
 have hA : DataW.TrodAll enc Tryz.prog W 0 (fun _ => true) true Tryz.f6.params.toList args.toList ds p := hA0
 have hsz : (DataW.weightsEach Tryz.prog (Tryz.f6.params.toList ++ Rows.analysisStepsSpec.plain.varTypes Tryz.prog) (ds ++ gs)).all (· ≤ reachBytes) = true := hsz0
 rw [Tryz.params6] at hA hval hsz
 obtain ⟨v0, vs0, d0, ds0, p0, q0, hargs, rfl, rfl, h0, r0⟩ := trodAll_cons hA
 obtain ⟨v1, vs1, d1, ds1, p1, q1, rfl, rfl, rfl, h1, r1⟩ := trodAll_cons r0
 obtain ⟨rfl, rfl, rfl⟩ := trodAll_nil r1
 obtain rfl : args = #[v0, v1] := by cases args; simp_all
 obtain ⟨rfl, rfl⟩ := trodVars_none hV
 have k0 := h0
 have k1 := h1
 have lt0 : ∀ x ∈ p0, x.block < W.heap.size := by obtain ⟨m, hm⟩ := k0; exact DataW.trod_lt m _ _ _ hm
 have lt1 : ∀ x ∈ p1, x.block < W.heap.size := by obtain ⟨m, hm⟩ := k1; exact DataW.trod_lt m _ _ _ hm
 obtain ⟨cs0, rfl, _⟩ := okWide_struct Tryz.underlying67 (hval 0 67 v0 rfl rfl)
 obtain ⟨o0, e0, ek0⟩ := opnS_an _ _ _ h0.choose_spec (wts_of hsz (j := 0) rfl rfl)
 obtain rfl : cs0 = ⟨anV o0⟩ := by
  cases cs0; simp only [Value.cells] at e0; rw [e0]
 obtain ⟨cs1, rfl, _⟩ := okWide_struct Tryz.underlying34 (hval 1 34 v1 rfl rfl)
 obtain ⟨o1, e1, ek1⟩ := opnS_rec _ _ _ h1.choose_spec (wts_of hsz (j := 1) rfl rfl)
 obtain rfl : cs1 = ⟨Yx o1.1 o1.2⟩ := by
  cases cs1; simp only [Value.cells] at e1; rw [e1]
 clear hA0 hval0
 refine (Spec.law (stepsLaw_spec (hpOf W) o0 ek0 o1.1 o1.2 ek1)).mono fun e W' ⟨he, bel⟩ => ?_
 subst he
 exact ⟨_, rfl, _, _, _, [], _, [], hW', trodAll_mk1 (shut_bool Tryz.underlying4 _), (trodAll_cons_mk (Below.trod laidOut (by kernel_rfl) (of_decide_eq_true (by kernel_rfl)) k0 bel lt0) (trodAll_cons_mk (Below.trod laidOut (by kernel_rfl) (of_decide_eq_true (by kernel_rfl)) k1 bel lt1) trodAll_mk0)), rfl, bel.frame _, fun h => by cases h⟩
theorem joinedA : (Rows.analysisStepsRow.inPlace == Tryz.checked.prog.inPlace 6) = true := by kernel_rfl
theorem joinedB : (Rows.analysisStepsRow.unfollowed == Tryz.checked.prog.unfollowed 6) = true := by kernel_rfl
theorem joinedC : (Rows.analysisStepsRow.recurses == Tryz.checked.prog.recurses 6) = true := by kernel_rfl
theorem joinedD : (Rows.analysisStepsRow.named == Tryz.checked.prog.varsNamed 6) = true := by kernel_rfl
theorem joined : joinedFacts Tryz.checked.prog 6 Tryz.f6 Rows.analysisStepsSpec Rows.analysisStepsRow = true := by
 unfold joinedFacts
 rw [joinedA, joinedB, joinedC, joinedD]
 kernel_rfl
theorem over : Rows.analysisStepsRow.holds Tryz.pinned (OpenSpec.ofChange Rows.analysisStepsSpec) :=
 OpenClaim.holds_of_wide 6 Tryz.f6 rfl rfl rfl rfl rfl rfl rfl ⟨rfl, rfl, rfl, rfl, rfl⟩ rfl rfl rfl rfl rfl (by kernel_rfl) Tryz.func6 joined
  (of_decide_eq_true (by kernel_rfl)) (by unfold Func.isWrapper; first | (rw [if_pos (by decide +kernel)]; kernel_rfl) | (rw [if_neg (by decide +kernel)]; exact ⟨rfl, rfl⟩))
  (fun os started H enc _ => lifted os started H enc)
theorem proved : Rows.AnalysisStepsSaid := over
end Go.Proofs.YtkbiahafeoillaaGreat.AnalysisStepsLaw
