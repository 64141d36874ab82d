/- Laws of RedoLast. Part 19 of 19. -/
import Derived.Test.YtpcfmhifkkpjpaaGreatB18
import Derived.Test.YtpcfmhifkkpjpaaGreatRows
namespace Go.Proofs.YtpcfmhifkkpjpaaGreat.RedoLastLaw
open Go Go.ChangeShapes Go.WideShapes Go.ChangeAt Go.RowKit Go.Proofs.E
set_option linter.unusedVariables false
theorem own : ownKnob Tryz.prog.godebug = none := by kernel_rfl
theorem laidOut : laidOutB Tryz.prog = true := by kernel_rfl
set_option maxRecDepth 100000 in
theorem lifted (os : Os) (started : os.Started) (H : Type) (enc : TypeId × Value → H) :
  ReturnsInHanded {} Tryz.checked os 9 .any (Rows.redoLastSpec.pre6 enc Tryz.prog Tryz.f9 Rows.redoLastRow.domain false) (Rows.redoLastSpec.post enc Tryz.prog Tryz.f9 false true false false) := by
 refine returnsInHanded_of_change_sized (C := Tryz.checked) own started (by kernel_rfl) Tryz.func9
  (ChangeSpec.witness6 (enc := enc) (C := Tryz.checked) false ⟨#[], #[.agg ⟨[.slice none 0 0, .slice none 0 0]⟩, .slice none 0 0], []⟩ 8 (by kernel_rfl) (by kernel_rfl) (by kernel_rfl) (by kernel_rfl)) ?_
 intro W base args ds gs before hval0 hW hcnd hsz0 _
 have hval : ∀ (j : Nat) t v, Tryz.f9.params[j]? = some t → args[j]? = some v → Value.okWide Tryz.prog W .any base t v := hval0
 have hW' := hW
 obtain ⟨p, q, hA0, hV, rfl, hfz, hnd⟩ := hW
 have hA : DataW.TrodAll enc Tryz.prog W 0 (fun _ => true) true Tryz.f9.params.toList args.toList ds p := hA0
 have hsz : (DataW.weightsEach Tryz.prog (Tryz.f9.params.toList ++ Rows.redoLastSpec.plain.varTypes Tryz.prog) (ds ++ gs)).all (· ≤ reachBytes) = true := hsz0
 rw [Tryz.params9] at hA hval hsz
 obtain ⟨v0, vs0, d0, ds0, p0, q0, hargs, rfl, rfl, h0, r0⟩ := trodAll_cons hA
 obtain ⟨v1, vs1, d1, ds1, p1, q1, rfl, rfl, rfl, h1, r1⟩ := trodAll_cons r0
 obtain ⟨rfl, rfl, rfl⟩ := trodAll_nil r1
 obtain rfl : args = #[v0, v1] := by cases args; simp_all
 obtain ⟨rfl, rfl⟩ := trodVars_none hV
 have k0 := h0
 have k1 := h1
 have lt0 : ∀ x ∈ p0, x.block < W.heap.size := by obtain ⟨m, hm⟩ := k0; exact DataW.trod_lt m _ _ _ hm
 have lt1 : ∀ x ∈ p1, x.block < W.heap.size := by obtain ⟨m, hm⟩ := k1; exact DataW.trod_lt m _ _ _ hm
 obtain ⟨cs0, rfl, _⟩ := okWide_struct Tryz.underlying75 (hval 0 75 v0 rfl rfl)
 obtain ⟨o0, e0, ek0⟩ := opnS_start24 _ _ _ h0.choose_spec (wts_of hsz (j := 0) rfl rfl)
 obtain rfl : cs0 = ⟨stA o0⟩ := by
  cases cs0; simp only [Value.cells] at e0; rw [e0]
 obtain ⟨a1, n1, c1, rfl⟩ := okWide_slice Tryz.underlying118 (hval 1 118 v1 rfl rfl)
 obtain ⟨s1, e1, b1⟩ := (XX (sz := 2) (by' := 32) Tryz.underlying118 (by kernel_rfl) (by decide) (by kernel_rfl) opnS_twist) _ _ _ h1.choose_spec (wts_of hsz (j := 1) rfl rfl)
 simp only [reachBytes] at b1
 obtain ⟨⟨y1, m1, z1, x1⟩, ec1⟩ : ∃ s, s = s1 := ⟨s1, rfl⟩
 subst ec1
 have ec1 := e1.cells
 simp only [Value.cells, List.cons.injEq, Value.slice.injEq, and_true] at ec1
 obtain ⟨rfl, rfl, rfl⟩ := ec1
 clear hA0 hval0
 obtain ⟨hA1, hP1, hc1, hb1⟩ := aIn_ofW (g := twV) (fun _ => rfl) e1
 refine (Spec.law (last24Law_spec (hpOf W) o0 ek0 a1 n1 c1 x1 hA1 hP1 hc1 hb1)).mono fun e W' ⟨he, bel⟩ => ?_
 subst he
 exact ⟨_, rfl, _, _, _, [], _, [], hW', trodAll_mk1 (shut_bool Tryz.underlying4 _), (trodAll_cons_mk (Below.trod laidOut (by kernel_rfl) (of_decide_eq_true (by kernel_rfl)) k0 bel lt0) (trodAll_cons_mk (Below.trod laidOut (by kernel_rfl) (of_decide_eq_true (by kernel_rfl)) k1 bel lt1) trodAll_mk0)), rfl, bel.frame _, fun h => by cases h⟩
theorem joinedA : (Rows.redoLastRow.inPlace == Tryz.checked.prog.inPlace 9) = true := by kernel_rfl
theorem joinedB : (Rows.redoLastRow.unfollowed == Tryz.checked.prog.unfollowed 9) = true := by kernel_rfl
theorem joinedC : (Rows.redoLastRow.recurses == Tryz.checked.prog.recurses 9) = true := by kernel_rfl
theorem joinedD : (Rows.redoLastRow.named == Tryz.checked.prog.varsNamed 9) = true := by kernel_rfl
theorem joined : joinedFacts Tryz.checked.prog 9 Tryz.f9 Rows.redoLastSpec Rows.redoLastRow = true := by
 unfold joinedFacts
 rw [joinedA, joinedB, joinedC, joinedD]
 kernel_rfl
theorem over : Rows.redoLastRow.holds Tryz.pinned (OpenSpec.ofChange Rows.redoLastSpec) :=
 OpenClaim.holds_of_wide 9 Tryz.f9 rfl rfl rfl rfl rfl rfl rfl ⟨rfl, rfl, rfl, rfl, rfl⟩ rfl rfl rfl rfl rfl (by kernel_rfl) Tryz.func9 joined
  (of_decide_eq_true (by kernel_rfl)) (by unfold Func.isWrapper; first | (rw [if_pos (by decide +kernel)]; kernel_rfl) | (rw [if_neg (by decide +kernel)]; exact ⟨rfl, rfl⟩))
  (fun os started H enc _ => lifted os started H enc)
theorem proved : Rows.RedoLastSaid := over
end Go.Proofs.YtpcfmhifkkpjpaaGreat.RedoLastLaw
