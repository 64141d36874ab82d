/- The law RingDoes. Part 17 of 17. -/
import Derived.Test.YtaacalchpindlaaO16
import Derived.Test.YtaacalchpindlaaRows
namespace Go.Proofs.Ytaacalchpindlaa.RingDoesLaw
open Go Go.ChangeShapes Go.WideShapes Go.ChangeAt Go.RowKit Go.Proofs.E
set_option linter.unusedVariables false
theorem own : ownKnob Try.prog.godebug = none := by kernel_rfl
theorem laidOut : laidOutB Try.prog = true := by kernel_rfl
set_option maxRecDepth 100000 in
theorem lifted (os : Os) (started : os.Started) (H : Type) (enc : TypeId × Value → H) :
  ReturnsInHanded {} Try.checked os 3 .any (Rows.ringDoesSpec.pre6 enc Try.prog Try.f3 Rows.ringDoesRow.domain false) (Rows.ringDoesSpec.post enc Try.prog Try.f3 false true false false) := by
 refine returnsInHanded_of_change_sized (C := Try.checked) own started (by kernel_rfl) Try.func3
  (ChangeSpec.witness6 (enc := enc) (C := Try.checked) false ⟨#[], #[.int .i64 0, .slice none 0 0], []⟩ 8 (by kernel_rfl) (by kernel_rfl) (by kernel_rfl) (by kernel_rfl)) ?_
 intro W base args ds gs before hval0 hW hcnd hsz0 _
 have hval : ∀ (j : Nat) t v, Try.f3.params[j]? = some t → args[j]? = some v → Value.okWide Try.prog W .any base t v := hval0
 have hW' := hW
 obtain ⟨p, q, hA0, hV, rfl, hfz, hnd⟩ := hW
 have hA : DataW.TrodAll enc Try.prog W 0 (fun _ => true) true Try.f3.params.toList args.toList ds p := hA0
 have hsz : (DataW.weightsEach Try.prog (Try.f3.params.toList ++ Rows.ringDoesSpec.plain.varTypes Try.prog) (ds ++ gs)).all (· ≤ reachBytes) = true := hsz0
 rw [Try.params3] at hA hval hsz
 obtain ⟨v0, vs0, d0, ds0, p0, q0, hargs, rfl, rfl, h0, r0⟩ := trodAll_cons hA
 obtain ⟨v1, vs1, d1, ds1, p1, q1, rfl, rfl, rfl, h1, r1⟩ := trodAll_cons r0
 obtain ⟨rfl, rfl, rfl⟩ := trodAll_nil r1
 obtain rfl : args = #[v0, v1] := by cases args; simp_all
 obtain ⟨rfl, rfl⟩ := trodVars_none hV
 have k0 := h0
 have k1 := h1
 have lt0 : ∀ x ∈ p0, x.block < W.heap.size := by obtain ⟨m, hm⟩ := k0; exact DataW.trod_lt m _ _ _ hm
 have lt1 : ∀ x ∈ p1, x.block < W.heap.size := by obtain ⟨m, hm⟩ := k1; exact DataW.trod_lt m _ _ _ hm
 obtain ⟨a0, rfl, _, _, w0⟩ := open_int Try.underlying3 (hval 0 3 v0 rfl rfl) h0
 replace w0 := wf_bounds w0
 obtain ⟨a1, n1, c1, rfl⟩ := okWide_slice Try.underlying22 (hval 1 22 v1 rfl rfl)
 have b1 := top_slice hsz (j := 1) rfl rfl Try.underlying22 k1 rfl
 have bb1 : Try.prog.bytesOf 42 = 88 := by kernel_rfl
 rw [bb1] at b1
 simp only [reachBytes] at b1
 obtain ⟨s1, e1⟩ := (opn_slice (sz := 5) Try.underlying22 (by kernel_rfl) (by decide) opn_event) _ _ _ h1.choose_spec
 obtain ⟨⟨y1, m1, z1, x1⟩, ec1⟩ : ∃ s, s = s1 := ⟨s1, rfl⟩
 subst ec1
 have ec1 := e1.cells
 simp only [Value.cells, List.cons.injEq, Value.slice.injEq, and_true] at ec1
 obtain ⟨rfl, rfl, rfl⟩ := ec1
 clear hA0 hval0
 obtain ⟨hA1, hP1, hc1, hb1⟩ := aIn_ofK (g := evC) (P := EvIn (hpOf W)) (fun x => rfl) e1
 refine (Spec.law (ringDoes_spec (hpOf W) a0 a1 n1 c1 x1 hA1 hP1 hb1)).mono fun e W' ⟨he, bel⟩ => ?_
 subst he
 exact ⟨_, rfl, _, _, _, [], _, [], hW', trodAll_mk1 (shut_bool Try.underlying4 _), (trodAll_cons_mk (Below.trod laidOut (by kernel_rfl) (of_decide_eq_true (by kernel_rfl)) k0 bel lt0) (trodAll_cons_mk (Below.trod laidOut (by kernel_rfl) (of_decide_eq_true (by kernel_rfl)) k1 bel lt1) trodAll_mk0)), rfl, bel.frame _, fun h => by cases h⟩
theorem joinedA : (Rows.ringDoesRow.inPlace == Try.checked.prog.inPlace 3) = true := by kernel_rfl
theorem joinedB : (Rows.ringDoesRow.unfollowed == Try.checked.prog.unfollowed 3) = true := by kernel_rfl
theorem joinedC : (Rows.ringDoesRow.recurses == Try.checked.prog.recurses 3) = true := by kernel_rfl
theorem joinedD : (Rows.ringDoesRow.named == Try.checked.prog.varsNamed 3) = true := by kernel_rfl
theorem joined : joinedFacts Try.checked.prog 3 Try.f3 Rows.ringDoesSpec Rows.ringDoesRow = true := by
 unfold joinedFacts
 rw [joinedA, joinedB, joinedC, joinedD]
 kernel_rfl
theorem over : Rows.ringDoesRow.holds Try.pinned (OpenSpec.ofChange Rows.ringDoesSpec) :=
 OpenClaim.holds_of_wide 3 Try.f3 rfl rfl rfl rfl rfl rfl rfl ⟨rfl, rfl, rfl, rfl, rfl⟩ rfl rfl rfl rfl rfl (by kernel_rfl) Try.func3 joined
  (of_decide_eq_true (by kernel_rfl)) (by unfold Func.isWrapper; first | (rw [if_pos (by decide +kernel)]; kernel_rfl) | (rw [if_neg (by decide +kernel)]; exact ⟨rfl, rfl⟩))
  (fun os started H enc _ => lifted os started H enc)
theorem proved : Rows.RingDoesSaid := over
end Go.Proofs.Ytaacalchpindlaa.RingDoesLaw
