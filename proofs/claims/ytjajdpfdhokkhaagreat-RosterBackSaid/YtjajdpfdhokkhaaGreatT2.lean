/- The law RosterBack. Part 2 of 2. -/
import Derived.Test.YtjajdpfdhokkhaaGreatT1
import Derived.Test.YtjajdpfdhokkhaaGreatRows
namespace Go.Proofs.YtjajdpfdhokkhaaGreat.RosterBackLaw
open Go Go.ChangeShapes Go.WideShapes Go.ChangeAt Go.RowKit Go.Proofs.E
set_option linter.unusedVariables false

theorem own : ownKnob Tryz.prog.godebug = none := by kernel_rfl
theorem laidOut : laidOutB Tryz.prog = true := by kernel_rfl

set_option maxRecDepth 100000 in
theorem lifted (os : Os) (started : os.Started) (H : Type) (enc : TypeId × Value → H) :
    ReturnsInHanded {} Tryz.checked os 8 .any (Rows.rosterBackSpec.pre6 enc Tryz.prog Tryz.f8 Rows.rosterBackRow.domain false) (Rows.rosterBackSpec.post enc Tryz.prog Tryz.f8 false true false false) := by
  refine returnsInHanded_of_change_sized (C := Tryz.checked) own started (by kernel_rfl) Tryz.func8
    (ChangeSpec.witness6 (enc := enc) (C := Tryz.checked) false ⟨#[], #[.agg ⟨[.int .i64 0, .slice none 0 0]⟩], []⟩ 8 (by kernel_rfl) (by kernel_rfl) (by kernel_rfl) (by kernel_rfl)) ?_
  intro W base args ds gs before hval0 hW hcnd hsz0 _
  have hval : ∀ (j : Nat) t v, Tryz.f8.params[j]? = some t → args[j]? = some v → Value.okWide Tryz.prog W .any base t v := hval0
  have hW' := hW
  obtain ⟨p, q, hA0, hV, rfl, hfz, hnd⟩ := hW
  have hA : DataW.TrodAll enc Tryz.prog W 0 (fun _ => true) true Tryz.f8.params.toList args.toList ds p := hA0
  have hsz : (DataW.weightsEach Tryz.prog (Tryz.f8.params.toList ++ Rows.rosterBackSpec.plain.varTypes Tryz.prog) (ds ++ gs)).all (· ≤ reachBytes) = true := hsz0
  rw [Tryz.params8] at hA hval hsz
  obtain ⟨v0, vs0, d0, ds0, p0, q0, hargs, rfl, rfl, h0, r0⟩ := trodAll_cons hA
  obtain ⟨rfl, rfl, rfl⟩ := trodAll_nil r0
  obtain rfl : args = #[v0] := by cases args; simp_all
  obtain ⟨rfl, rfl⟩ := trodVars_none hV
  have k0 := h0
  have lt0 : ∀ x ∈ p0, x.block < W.heap.size := by obtain ⟨m, hm⟩ := k0; exact DataW.trod_lt m _ _ _ hm
  obtain ⟨cs0, rfl, _⟩ := okWide_struct Tryz.underlying34 (hval 0 34 v0 rfl rfl)
  obtain ⟨o0, e0, ek0⟩ := opnS_roster _ _ _ h0.choose_spec (wts_of hsz (j := 0) rfl rfl)
  obtain rfl : cs0 = ⟨rosV o0.1 o0.2⟩ := by
    cases cs0; simp only [Value.cells] at e0; rw [e0]
  clear hA0 hval0
  refine (Spec.law (rosBack_spec (hpOf W) o0.1 o0.2 ek0)).mono fun e W' ⟨he, bel⟩ => ?_
  subst he
  exact ⟨_, rfl, _, _, _, [], _, [], hW', trodAll_mk1 (shut_bool Tryz.underlying4 _), (trodAll_cons_mk (Below.trod laidOut (by kernel_rfl) (of_decide_eq_true (by kernel_rfl)) k0 bel lt0) trodAll_mk0), rfl, bel.frame _, fun h => by cases h⟩

theorem joinedA : (Rows.rosterBackRow.inPlace == Tryz.checked.prog.inPlace 8) = true := by kernel_rfl
theorem joinedB : (Rows.rosterBackRow.unfollowed == Tryz.checked.prog.unfollowed 8) = true := by kernel_rfl
theorem joinedC : (Rows.rosterBackRow.recurses == Tryz.checked.prog.recurses 8) = true := by kernel_rfl
theorem joinedD : (Rows.rosterBackRow.named == Tryz.checked.prog.varsNamed 8) = true := by kernel_rfl
theorem joined : joinedFacts Tryz.checked.prog 8 Tryz.f8 Rows.rosterBackSpec Rows.rosterBackRow = true := by
  unfold joinedFacts
  rw [joinedA, joinedB, joinedC, joinedD]
  kernel_rfl

theorem over : Rows.rosterBackRow.holds Tryz.pinned (OpenSpec.ofChange Rows.rosterBackSpec) :=
  OpenClaim.holds_of_wide 8 Tryz.f8 rfl rfl rfl rfl rfl rfl rfl ⟨rfl, rfl, rfl, rfl, rfl⟩ rfl rfl rfl rfl rfl (by kernel_rfl) Tryz.func8 joined
    (of_decide_eq_true (by kernel_rfl)) (by unfold Func.isWrapper; first | (rw [if_pos (by decide +kernel)]; kernel_rfl) | (rw [if_neg (by decide +kernel)]; exact ⟨rfl, rfl⟩))
    (fun os started H enc _ => lifted os started H enc)

theorem proved : Rows.RosterBackSaid := over
end Go.Proofs.YtjajdpfdhokkhaaGreat.RosterBackLaw

