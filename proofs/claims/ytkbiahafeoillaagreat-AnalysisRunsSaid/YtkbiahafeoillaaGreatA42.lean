/- Laws of analysis. Part 42 of 41. -/
import Derived.Test.YtkbiahafeoillaaGreatA41
import Derived.Test.YtkbiahafeoillaaGreatRows
namespace Go.Proofs.YtkbiahafeoillaaGreat.AnalysisBeginsLaw
open Go Go.ChangeShapes Go.WideShapes Go.ChangeAt Go.RowKit Go.Proofs.E
set_option linter.unusedVariables false
theorem own : ownKnob Tryz.prog.godebug = none := by kernel_rfl
theorem laidOut : laidOutB Tryz.prog = true := by kernel_rfl
set_option maxRecDepth 100000 in
theorem lifted (os : Os) (started : os.Started) (H : Type) (enc : TypeId × Value → H) :
  ReturnsInHanded {} Tryz.checked os 4 .any (Rows.analysisBeginsSpec.pre6 enc Tryz.prog Tryz.f4 Rows.analysisBeginsRow.domain false) (Rows.analysisBeginsSpec.post enc Tryz.prog Tryz.f4 false true false false) := by
 refine returnsInHanded_of_change_sized (C := Tryz.checked) own started (by kernel_rfl) Tryz.func4
  (ChangeSpec.witness6 (enc := enc) (C := Tryz.checked) false ⟨#[], #[.int .u64 0, .int .u64 0, .int .u64 0], []⟩ 8 (by kernel_rfl) (by kernel_rfl) (by kernel_rfl) (by kernel_rfl)) ?_
 intro W base args ds gs before hval0 hW hcnd hsz0 _
 have hval : ∀ (j : Nat) t v, Tryz.f4.params[j]? = some t → args[j]? = some v → Value.okWide Tryz.prog W .any base t v := hval0
 have hW' := hW
 obtain ⟨p, q, hA0, hV, rfl, hfz, hnd⟩ := hW
 have hA : DataW.TrodAll enc Tryz.prog W 0 (fun _ => true) true Tryz.f4.params.toList args.toList ds p := hA0
 have hsz : (DataW.weightsEach Tryz.prog (Tryz.f4.params.toList ++ Rows.analysisBeginsSpec.plain.varTypes Tryz.prog) (ds ++ gs)).all (· ≤ reachBytes) = true := hsz0
 rw [Tryz.params4] at hA hval hsz
 obtain ⟨v0, vs0, d0, ds0, p0, q0, hargs, rfl, rfl, h0, r0⟩ := trodAll_cons hA
 obtain ⟨v1, vs1, d1, ds1, p1, q1, rfl, rfl, rfl, h1, r1⟩ := trodAll_cons r0
 obtain ⟨v2, vs2, d2, ds2, p2, q2, rfl, rfl, rfl, h2, r2⟩ := trodAll_cons r1
 obtain ⟨rfl, rfl, rfl⟩ := trodAll_nil r2
 obtain rfl : args = #[v0, v1, v2] := by cases args; simp_all
 obtain ⟨rfl, rfl⟩ := trodVars_none hV
 have k0 := h0
 have k1 := h1
 have k2 := h2
 have lt0 : ∀ x ∈ p0, x.block < W.heap.size := by obtain ⟨m, hm⟩ := k0; exact DataW.trod_lt m _ _ _ hm
 have lt1 : ∀ x ∈ p1, x.block < W.heap.size := by obtain ⟨m, hm⟩ := k1; exact DataW.trod_lt m _ _ _ hm
 have lt2 : ∀ x ∈ p2, x.block < W.heap.size := by obtain ⟨m, hm⟩ := k2; exact DataW.trod_lt m _ _ _ hm
 obtain ⟨a0, rfl, _, _, w0⟩ := open_int Tryz.underlying28 (hval 0 28 v0 rfl rfl) h0
 replace w0 := wf_bounds w0
 obtain ⟨a1, rfl, _, _, w1⟩ := open_int Tryz.underlying28 (hval 1 28 v1 rfl rfl) h1
 replace w1 := wf_bounds w1
 obtain ⟨a2, rfl, _, _, w2⟩ := open_int Tryz.underlying28 (hval 2 28 v2 rfl rfl) h2
 replace w2 := wf_bounds w2
 clear hA0 hval0
 obtain ⟨b0, rfl⟩ : ∃ b0 : Nat, (b0 : Int) = a0 := ⟨a0.toNat, YQ w0.1⟩
 obtain ⟨b1, rfl⟩ : ∃ b1 : Nat, (b1 : Int) = a1 := ⟨a1.toNat, YQ w1.1⟩
 obtain ⟨b2, rfl⟩ : ∃ b2 : Nat, (b2 : Int) = a2 := ⟨a2.toNat, YQ w2.1⟩
 refine (Spec.law (begins_spec (hpOf W) b0 b1 b2)).mono fun e W' ⟨he, bel⟩ => ?_
 subst he
 exact ⟨_, rfl, _, _, _, [], _, [], hW', trodAll_mk1 (shut_bool Tryz.underlying4 _), (trodAll_cons_mk (Below.trod laidOut (by kernel_rfl) (of_decide_eq_true (by kernel_rfl)) k0 bel lt0) (trodAll_cons_mk (Below.trod laidOut (by kernel_rfl) (of_decide_eq_true (by kernel_rfl)) k1 bel lt1) (trodAll_cons_mk (Below.trod laidOut (by kernel_rfl) (of_decide_eq_true (by kernel_rfl)) k2 bel lt2) trodAll_mk0))), rfl, bel.frame _, fun h => by cases h⟩
theorem joinedA : (Rows.analysisBeginsRow.inPlace == Tryz.checked.prog.inPlace 4) = true := by kernel_rfl
theorem joinedB : (Rows.analysisBeginsRow.unfollowed == Tryz.checked.prog.unfollowed 4) = true := by kernel_rfl
theorem joinedC : (Rows.analysisBeginsRow.recurses == Tryz.checked.prog.recurses 4) = true := by kernel_rfl
theorem joinedD : (Rows.analysisBeginsRow.named == Tryz.checked.prog.varsNamed 4) = true := by kernel_rfl
theorem joined : joinedFacts Tryz.checked.prog 4 Tryz.f4 Rows.analysisBeginsSpec Rows.analysisBeginsRow = true := by
 unfold joinedFacts
 rw [joinedA, joinedB, joinedC, joinedD]
 kernel_rfl
theorem over : Rows.analysisBeginsRow.holds Tryz.pinned (OpenSpec.ofChange Rows.analysisBeginsSpec) :=
 OpenClaim.holds_of_wide 4 Tryz.f4 rfl rfl rfl rfl rfl rfl rfl ⟨rfl, rfl, rfl, rfl, rfl⟩ rfl rfl rfl rfl rfl (by kernel_rfl) Tryz.func4 joined
  (of_decide_eq_true (by kernel_rfl)) (by unfold Func.isWrapper; first | (rw [if_pos (by decide +kernel)]; kernel_rfl) | (rw [if_neg (by decide +kernel)]; exact ⟨rfl, rfl⟩))
  (fun os started H enc _ => lifted os started H enc)
theorem proved : Rows.AnalysisBeginsSaid := over
end Go.Proofs.YtkbiahafeoillaaGreat.AnalysisBeginsLaw
