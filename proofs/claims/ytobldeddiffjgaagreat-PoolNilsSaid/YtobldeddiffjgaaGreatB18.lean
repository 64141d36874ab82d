/- The law PoolNils. Part 18 of 18. -/
import Derived.Test.YtobldeddiffjgaaGreatB17
import Derived.Test.YtobldeddiffjgaaGreatRows
namespace Go.Proofs.YtobldeddiffjgaaGreat.PoolNilsLaw
open Go Go.ChangeShapes Go.WideShapes Go.ChangeAt Go.RowKit Go.Proofs.E
set_option linter.unusedVariables false
theorem own : ownKnob Tryz.prog.godebug = none := by kernel_rfl
theorem laidOut : laidOutB Tryz.prog = true := by kernel_rfl
set_option maxRecDepth 100000 in
theorem lifted (os : Os) (started : os.Started) (H : Type) (enc : TypeId × Value → H) :
  ReturnsInHanded {} Tryz.checked os 5 .any (Rows.poolNilsSpec.pre6 enc Tryz.prog Tryz.f5 Rows.poolNilsRow.domain false) (Rows.poolNilsSpec.post enc Tryz.prog Tryz.f5 false true false false) := by
 refine returnsInHanded_of_change_sized (C := Tryz.checked) own started (by kernel_rfl) Tryz.func5
  (ChangeSpec.witness6 (enc := enc) (C := Tryz.checked) false ⟨#[], #[.int .i64 0, .int .u64 0, .slice none 0 0], []⟩ 8 (by kernel_rfl) (by kernel_rfl) (by kernel_rfl) (by kernel_rfl)) ?_
 intro W base args ds gs before hval0 hW hcnd hsz0 _
 have hval : ∀ (j : Nat) t v, Tryz.f5.params[j]? = some t → args[j]? = some v → Value.okWide Tryz.prog W .any base t v := hval0
 have hW' := hW
 obtain ⟨p, q, hA0, hV, rfl, hfz, hnd⟩ := hW
 have hA : DataW.TrodAll enc Tryz.prog W 0 (fun _ => true) true Tryz.f5.params.toList args.toList ds p := hA0
 have hsz : (DataW.weightsEach Tryz.prog (Tryz.f5.params.toList ++ Rows.poolNilsSpec.plain.varTypes Tryz.prog) (ds ++ gs)).all (· ≤ reachBytes) = true := hsz0
 rw [Tryz.params5] at hA hval hsz
 obtain ⟨v0, vs0, d0, ds0, p0, q0, hargs, rfl, rfl, h0, r0⟩ := trodAll_cons hA
 obtain ⟨v1, vs1, d1, ds1, p1, q1, rfl, rfl, rfl, h1, r1⟩ := trodAll_cons r0
 obtain ⟨v2, vs2, d2, ds2, p2, q2, rfl, rfl, rfl, h2, r2⟩ := trodAll_cons r1
 obtain ⟨rfl, rfl, rfl⟩ := trodAll_nil r2
 obtain rfl : args = #[v0, v1, v2] := by cases args; simp_all
 obtain ⟨rfl, rfl⟩ := trodVars_none hV
 have k0 := h0
 have k1 := h1
 have k2 := h2
 have lt0 : ∀ x ∈ p0, x.block < W.heap.size := by obtain ⟨m, hm⟩ := k0; exact DataW.trod_lt m _ _ _ hm
 have lt1 : ∀ x ∈ p1, x.block < W.heap.size := by obtain ⟨m, hm⟩ := k1; exact DataW.trod_lt m _ _ _ hm
 have lt2 : ∀ x ∈ p2, x.block < W.heap.size := by obtain ⟨m, hm⟩ := k2; exact DataW.trod_lt m _ _ _ hm
 obtain ⟨a0, rfl, _, _, w0⟩ := open_int Tryz.underlying3 (hval 0 3 v0 rfl rfl) h0
 replace w0 := wf_bounds w0
 obtain ⟨a1, rfl, _, _, w1⟩ := open_int Tryz.underlying22 (hval 1 22 v1 rfl rfl) h1
 replace w1 := wf_bounds w1
 obtain ⟨a2, n2, c2, rfl⟩ := okWide_slice Tryz.underlying50 (hval 2 50 v2 rfl rfl)
 have b2 := top_slice hsz (j := 2) rfl rfl Tryz.underlying50 k2 rfl
 have bb2 : Tryz.prog.bytesOf 67 = 64 := by kernel_rfl
 rw [bb2] at b2
 simp only [reachBytes] at b2
 obtain ⟨s2, e2⟩ := (opn_slice (sz := 4) Tryz.underlying50 (by kernel_rfl) (by decide) opn_sheet) _ _ _ h2.choose_spec
 obtain ⟨⟨y2, m2, z2, x2⟩, ec2⟩ : ∃ s, s = s2 := ⟨s2, rfl⟩
 subst ec2
 have ec2 := e2.cells
 simp only [Value.cells, List.cons.injEq, Value.slice.injEq, and_true] at ec2
 obtain ⟨rfl, rfl, rfl⟩ := ec2
 clear hA0 hval0
 obtain ⟨b1, rfl⟩ : ∃ b1 : Nat, (b1 : Int) = a1 := ⟨a1.toNat, Int.toNat_of_nonneg w1.1⟩
 refine (Spec.law (poolNils_spec (hpOf W) a0 b1 a2 n2 c2)).mono fun e W' ⟨he, bel⟩ => ?_
 subst he
 exact ⟨_, rfl, _, _, _, [], _, [], hW', trodAll_mk1 (shut_bool Tryz.underlying4 _), (trodAll_cons_mk (Below.trod laidOut (by kernel_rfl) (of_decide_eq_true (by kernel_rfl)) k0 bel lt0) (trodAll_cons_mk (Below.trod laidOut (by kernel_rfl) (of_decide_eq_true (by kernel_rfl)) k1 bel lt1) (trodAll_cons_mk (Below.trod laidOut (by kernel_rfl) (of_decide_eq_true (by kernel_rfl)) k2 bel lt2) trodAll_mk0))), rfl, bel.frame _, fun h => by cases h⟩
theorem joinedA : (Rows.poolNilsRow.inPlace == Tryz.checked.prog.inPlace 5) = true := by kernel_rfl
theorem joinedB : (Rows.poolNilsRow.unfollowed == Tryz.checked.prog.unfollowed 5) = true := by kernel_rfl
theorem joinedC : (Rows.poolNilsRow.recurses == Tryz.checked.prog.recurses 5) = true := by kernel_rfl
theorem joinedD : (Rows.poolNilsRow.named == Tryz.checked.prog.varsNamed 5) = true := by kernel_rfl
theorem joined : joinedFacts Tryz.checked.prog 5 Tryz.f5 Rows.poolNilsSpec Rows.poolNilsRow = true := by
 unfold joinedFacts
 rw [joinedA, joinedB, joinedC, joinedD]
 kernel_rfl
theorem over : Rows.poolNilsRow.holds Tryz.pinned (OpenSpec.ofChange Rows.poolNilsSpec) :=
 OpenClaim.holds_of_wide 5 Tryz.f5 rfl rfl rfl rfl rfl rfl rfl ⟨rfl, rfl, rfl, rfl, rfl⟩ rfl rfl rfl rfl rfl (by kernel_rfl) Tryz.func5 joined
  (of_decide_eq_true (by kernel_rfl)) (by unfold Func.isWrapper; first | (rw [if_pos (by decide +kernel)]; kernel_rfl) | (rw [if_neg (by decide +kernel)]; exact ⟨rfl, rfl⟩))
  (fun os started H enc _ => lifted os started H enc)
theorem proved : Rows.PoolNilsSaid := over
end Go.Proofs.YtobldeddiffjgaaGreat.PoolNilsLaw
