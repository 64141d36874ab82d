/- The law RosterFrom. Part 1 of 2. -/
import Derived.Test.YtjajdpfdhokkhaaGreatR16
namespace Go.Proofs.E
open Go
set_option linter.unusedVariables false
set_option linter.unusedSimpArgs false
set_option linter.unusedSectionVars false
set_option maxRecDepth 4000
set_option maxHeartbeats 1000000
attribute [local irreducible] Yl TL TC TE Spec YSpec R1 Hp.le EnvLe TS TR YS Stays
-- BN
theorem rosFrom_spec (ρ : Hp) (a0 : Option Addr) (n0 c0 : Nat) (xs : List Int) (h0 : AIn ρ 1 (fun x : Int => [i64c x]) a0 n0 xs) (hn0 : n0 ≤ 9223372036854775807) (a : Option Addr) (n c : Nat) (l : List CkT) (h : AIn ρ 5 ckTV a n l) (hc : n ≤ c) (hn : n ≤ 9223372036854775807) :
    Spec Tryz.prog 6 [.slice a0 n0 c0, .slice a n c] ρ [] (fun z ρ' L' => z = .bool true ∧ ρ.le ρ' ∧ L' = []) := by
  have hl := h.len
  have hl0 := h0.len
  refine spec_enter Tryz.func6 rfl rfl rfl fun u R => ?_
  simp only [argsE, List.cons_append, List.nil_append]
  have hmin : (min (n : Int) 9).toNat = min n 9 := by omega
  have hl2 : (l.take 9).length = min n 9 := by rw [List.length_take]; omega
  have hA : AIn ρ 5 ckTV a (min n 9) (l.take 9) := by
    have := h.take (hi' := min n 9) (by omega)
    rwa [show l.take (min n 9) = l.take 9 by rw [← hl, List.take_eq_take_min (i := 9), Nat.min_comm]] at this
  repeat' (first | (refine tl_is (.func 32) ?_; refine qC rfl rfl (wakes18_spec _) ?_; rintro v ρ' L' hle ⟨rfl, hl1, rfl⟩ <;> (try simp only [kM, kN, kO])) | (refine iBu ?_; refine tl_y (y_buildN rfl) rfl rfl ?_) | (refine i_op ?_; first | (refine i_qq ?_; refine qQ ?_) | refine qEf ?_) | refine tl_nil ?_ | (refine i_tc ?_; refine qTc ?_) | (refine i_te ?_; refine qTe ?_) | intro _)
  rename_i bx
  simp only [hmin]
  refine tl_app (n := 0) (xs := []) (sp := []) (ys := ((l.take 9).map ckTV).flatten) (m := min n 9) (sz := 5) rfl rfl (OwnS.zero' _ 5) (hR := rem_here') (hA.mono hl1).srcV (by rw [flatN_len ckTV_len, hl2]) (flat_oneG ckTV_one _) (by decide) rfl (by omega) (by omega) rfl (fun v' sp' hown' => ?_)
  simp only [Nat.zero_add, List.nil_append] at hown' ⊢
  refine tl_freeze (ownC v' (((l.take 9).map ckTV).flatten) sp' 81) (fun ρ3 hle3 hfz => ?_)
  obtain ⟨sa, sc, f1, hsc, hA2⟩ := hown'.aIn hl2 (fun x _ => ckTV_len x) hfz
  subst f1
  clear hfz
  generalize l.take 9 = d at *
  have hD : AS ρ3 5 ckTV ⟨sa, min n 9, sc⟩ d := ⟨hA2, by dsimp only; omega, hsc⟩
  have hl13 := Hp.le_trans hl1 hle3
  repeat' (first | (refine iBu ?_; refine tl_y (y_buildN rfl) rfl rfl ?_) | (refine i_op ?_; first | (refine i_qq ?_; refine qQ ?_) | refine qEf ?_) | refine tl_nil ?_ | (refine i_tc ?_; refine qTc ?_) | (refine i_te ?_; refine qTe ?_) | intro _)
  refine tc_loop_g [(1, _), (20, _), (21, _)] (fun (ζ : (Nat) × (Hp)) => [(22, .int .i64 ζ.1), (4, .bool false)]) (fun (ζ : (Nat) × (Hp)) => ζ.2) (fun (ζ : (Nat) × (Hp)) => []) (fun (ζ : (Nat) × (Hp)) => ζ.1 ≤ n0 ∧ ρ3.le ζ.2) (fun (ζ : (Nat) × (Hp)) => n0 - ζ.1) ((0, ρ3)) (⟨Nat.zero_le _, Hp.le_refl _⟩) ev_le ev_le rfl tk ?_
  rintro ⟨k, ρ1⟩ hI
  try simp only [List.cons_append, List.nil_append, List.append_assoc, List.append_eq] at hI ⊢
  try dsimp only at hI ⊢
  obtain ⟨hk, hle0⟩ := hI
  have hS0 := same18_spec ρ1 nilS nilS ⟨1, []⟩ ⟨1, []⟩ (rnew_in ρ1) (rnew_in ρ1)
  rw [decide_eq_true rfl] at hS0
  by_cases hlt : k < n0
  · obtain ⟨b, off, C, T, fr, e1, hb, hfit, hcc⟩ := (h0.mono (Hp.le_trans hl13 hle0)).get (show k < xs.length by omega)
    generalize xs[k]'(by omega) = nx at *
    have hcell : C[off + k * 1]? = some (.int .i64 nx) := by
      have := congrArg (fun l => l[0]?) hcc
      simp only [List.getElem?_take, List.getElem?_drop] at this
      simpa using this
    rw [e1]
    by_cases h10 : k = 10
    · repeat' (first | (refine tl_is (.func 35) ?_; refine qC rfl rfl (rnew_spec _) ?_; rintro v ρ' L' hle ⟨rfl, rfl, rfl⟩ <;> (try simp only [kM, kN, kO])) | (refine tl_is (.func 19) ?_; refine qC rfl rfl (hS0) ?_; rintro v ρ' L' hle ⟨rfl, rfl, rfl⟩ <;> (try simp only [kM, kN, kO])) | (refine iBu ?_; refine tl_y (y_buildN rfl) rfl rfl ?_) | (refine i_op ?_; first | (refine i_qq ?_; refine qQ ?_) | refine qEf ?_) | refine tl_nil ?_ | (refine i_tc ?_; refine qTc ?_) | (refine i_te ?_; refine qTe ?_) | intro _)
      exact qE (L' := []) (hle := Hp.le_trans hl13 hle0) ⟨rfl, Hp.le_trans hl13 hle0, rfl⟩
    · have f1 := from_ros_spec ρ1 nx ⟨sa, min n 9, sc⟩ d (hD.mono hle0)
      have f2 := fun ρ2 (hle : ρ1.le ρ2) => from18_spec ρ2 nx ⟨sa, min n 9, sc⟩ d ((hD.mono hle0).mono hle)
      generalize fromE nx d = e at *
      repeat' (first | (refine tl_is (.func 33) ?_; refine qC rfl rfl (f1) ?_; rintro v ρ' L' hle ⟨hl4, v1, rfl, hR1, rfl⟩ <;> (try simp only [kM, kN, kO])) | (refine tl_is (.func 34) ?_; refine qC rfl rfl (f2 _ hl4) ?_; rintro v ρ' L' hle ⟨hl5, v2, rfl, hR2, rfl⟩ <;> (try simp only [kM, kN, kO])) | (refine iBu ?_; refine tl_y (y_buildN rfl) rfl rfl ?_) | (refine i_op ?_; first | (refine i_qq ?_; refine qQ ?_) | refine qEf ?_) | refine tl_nil ?_ | (refine i_tc ?_; refine qTc ?_) | (refine i_te ?_; refine qTe ?_) | intro _)
      rename_i ρq _ _ _
      have hS := same18_spec _ v1 v2 _ _ (hR1.mono hl5) hR2
      rw [decide_eq_true rfl] at hS
      repeat' (first | (refine tl_is (.func 19) ?_; refine qC rfl rfl (hS) ?_; rintro v ρ' L' hle ⟨rfl, rfl, rfl⟩ <;> (try simp only [kM, kN, kO])) | (refine iBu ?_; refine tl_y (y_buildN rfl) rfl rfl ?_) | (refine i_op ?_; first | (refine i_qq ?_; refine qQ ?_) | refine qEf ?_) | refine tl_nil ?_ | (refine i_tc ?_; refine qTc ?_) | (refine i_te ?_; refine qTe ?_) | intro _)
      rw [← e1]
      refine te_round_g (k + 1, _) (⟨hlt, Hp.le_trans hle0 (Hp.le_trans hl4 hl5)⟩) ev_le ev_le rfl tk inferInstance (by first | omega | (dsimp only; omega))
  · repeat' (first | (refine tl_is (.func 35) ?_; refine qC rfl rfl (rnew_spec _) ?_; rintro v ρ' L' hle ⟨rfl, rfl, rfl⟩ <;> (try simp only [kM, kN, kO])) | (refine tl_is (.func 19) ?_; refine qC rfl rfl (hS0) ?_; rintro v ρ' L' hle ⟨rfl, rfl, rfl⟩ <;> (try simp only [kM, kN, kO])) | (refine iBu ?_; refine tl_y (y_buildN rfl) rfl rfl ?_) | (refine i_op ?_; first | (refine i_qq ?_; refine qQ ?_) | refine qEf ?_) | refine tl_nil ?_ | (refine i_tc ?_; refine qTc ?_) | (refine i_te ?_; refine qTe ?_) | intro _)
    exact qE (L' := []) (hle := Hp.le_trans hl13 hle0) ⟨rfl, Hp.le_trans hl13 hle0, rfl⟩
end Go.Proofs.E

