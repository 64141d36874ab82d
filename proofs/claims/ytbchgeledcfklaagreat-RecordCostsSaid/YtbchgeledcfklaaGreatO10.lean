/- The law RecordCosts. Part 10. -/
import Derived.Test.YtbchgeledcfklaaGreatO9
import Derived.Test.YtbchgeledcfklaaGreatRows

namespace Go.Proofs.E
open Go
set_option linter.unusedVariables false
set_option linter.unusedSimpArgs false
set_option linter.unusedSectionVars false
set_option maxRecDepth 4000
set_option maxHeartbeats 1000000
attribute [local irreducible] Yl TL TC TE Spec YSpec R1 Hp.le EnvLe TS TR YS Stays
-- BN
def unI (x : Im) : Im := ⟨x.page, nilCV, ztC, x.bv, x.b⟩
theorem flatMap_len2 {α : Type} (f g : α → List UInt8) : ∀ (l : List α), (∀ x ∈ l, (f x).length = (g x).length) → (l.flatMap f).length = (l.flatMap g).length
  | [], _ => rfl
  | x :: r, h => by
    rw [List.flatMap_cons, List.flatMap_cons, List.length_append, List.length_append, h x (by simp), flatMap_len2 f g r (fun y hy => h y (by simp [hy]))]
end Go.Proofs.E

namespace Go.Proofs.E
open Go
set_option linter.unusedVariables false
set_option linter.unusedSimpArgs false
set_option linter.unusedSectionVars false
set_option maxRecDepth 4000
set_option maxHeartbeats 1000000
attribute [local irreducible] Yl TL TC TE Spec YSpec R1 Hp.le EnvLe TS TR YS Stays
-- BN
theorem sects04_spec (ρ : Hp) (n : Nat) (hn : n ≤ 4611686018427387904) : Spec Tryz.prog 99 [.int .i64 n] ρ [] (fun v ρ' L' => v = .int .i64 (sectsB n : Nat) ∧ ρ' = ρ ∧ L' = []) := by
  refine spec_enter Tryz.func99 rfl rfl rfl fun u R => ?_
  simp only [argsE, List.cons_append, List.nil_append]
  have e : max 1 (IntKind.i64.wrap (((n : Int) + 51).tdiv 52)) = ((sectsB n : Nat) : Int) := by
    rw [Int.tdiv_eq_ediv_of_nonneg (by omega), wrap_id (by simp only [lo, hi]; omega)]
    unfold sectsB; omega
  repeat' (first | (refine iBu ?_; refine tl_y (y_buildN rfl) rfl rfl ?_) | (refine i_op ?_; first | (refine i_qq ?_; refine qQ ?_) | refine qEf ?_) | refine tl_nil ?_ | (refine i_tc ?_; refine qTc ?_) | (refine i_te ?_; refine qTe ?_) | intro _)
  rw [e]
  exact qE ⟨rfl, rfl, rfl⟩
theorem cost12_spec (ρ : Hp) (v : RV) (r : Rc) (h : RcIn ρ v r) (hL : LayOk r) : Spec Tryz.prog 32 [.agg ⟨recV v r⟩] ρ []
    (fun z ρ' L' => ρ.le ρ' ∧ z = .int .i64 (sectsB (recB r).length : Nat) ∧ L' = []) := by
  have hb := recB_le hL
  have hB := bytes12_spec ρ v r h hL
  refine spec_enter Tryz.func32 rfl rfl rfl fun u R => ?_
  simp only [argsE, List.cons_append, List.nil_append]
  repeat' (first | (refine tl_is (.func 38) ?_; refine qC rfl rfl (hB) ?_; rintro v ρ' L' hle ⟨hl1, a, c, rfl, hc, hs, rfl⟩ <;> (try simp only [kM, kN, kO])) | (refine tl_is (.func 99) ?_; refine qC rfl rfl (sects04_spec _ _ (by omega)) ?_; rintro v ρ' L' hle ⟨rfl, rfl, rfl⟩ <;> (try simp only [kM, kN, kO])) | (refine iBu ?_; refine tl_y (y_buildN rfl) rfl rfl ?_) | (refine i_op ?_; first | (refine i_qq ?_; refine qQ ?_) | refine qEf ?_) | refine tl_nil ?_ | (refine i_tc ?_; refine qTc ?_) | (refine i_te ?_; refine qTe ?_) | intro _)
  exact qE ⟨hl1, rfl, rfl⟩
def unR (l : List Im) : Rc := ⟨5, 0, 0, 0, 0, l.map unI, [], 0, [], []⟩
theorem unR_lay {l : List Im} (h1 : l.length ≤ 16) (h2 : ∀ x ∈ l, (0 ≤ x.page ∧ x.page < 64) ∧ contOk x.b = true) : LayOk (unR l) := by
  refine ⟨by simp [unR], by simp [unR], by simp [unR], by simp [unR], by simp [unR], by simp [unR], by simp [unR]; omega, ?_, by simp [unR], by simp [unR], by simp [unR], by simp [unR], by simp [unR], by simp [unR]⟩
  intro x hx
  obtain ⟨y, hy, rfl⟩ := List.mem_map.1 hx
  exact ⟨(h2 y hy).1, (h2 y hy).2, contOk_z⟩
theorem unR_len (l : List Im) : (recB (unR l)).length = (recB (undR l)).length := by
  unfold recB recHB recTB imsB listB
  simp only [unR, undR, show ¬ ((5 : Int) = 2) by decide, show ¬ ((5 : Int) = 3) by decide, show ¬ ((5 : Int) = 4) by decide, if_false, if_true, decide_false, List.length_append, List.length_cons, be_length, List.flatMap_map, List.length_map]
  rw [flatMap_len2 (fun a => imB false (unI a)) (fun a => imB false (undI a)) l (fun x _ => by simp [imB, unI, undI])]
theorem reserve12_spec (ρ : Hp) (v : RV) (r : Rc) (h : RcIn ρ v r) (hok : recOk r = true) : Spec Tryz.prog 33 [.agg ⟨recV v r⟩] ρ []
    (fun z ρ' L' => ρ.le ρ' ∧ z = .int .i64 (reserveN r : Nat) ∧ L' = []) := by
  have hF := recOk_facts hok
  unfold reserveN
  rw [hok, if_pos rfl]
  refine spec_enter Tryz.func33 rfl rfl rfl fun u R => ?_
  simp only [argsE, List.cons_append, List.nil_append]
  by_cases k1 : r.kind = 1
  · rw [if_pos k1]
    repeat' (first | (refine iBu ?_; refine tl_y (y_buildN rfl) rfl rfl ?_) | (refine i_op ?_; first | (refine i_qq ?_; refine qQ ?_) | refine qEf ?_) | refine tl_nil ?_ | (refine i_tc ?_; refine qTc ?_) | (refine i_te ?_; refine qTe ?_) | intro _)
    exact qE (L' := []) ⟨Hp.le_refl _, rfl, rfl⟩
  · rw [if_neg k1]
    by_cases k2 : r.kind = 2
    · rw [if_pos k2]
      have hA := h.i.at'
      have hl := hA.len
      have hil := hF.il
      have hlay := unR_lay hil (fun x hx => ⟨(hF.im x hx).1, (hF.im x hx).2.2⟩)
      repeat' (first | (refine iBu ?_; refine tl_y (y_buildN rfl) rfl rfl ?_) | (refine i_op ?_; first | (refine i_qq ?_; refine qQ ?_) | refine qEf ?_) | refine tl_nil ?_ | (refine i_tc ?_; refine qTc ?_) | (refine i_te ?_; refine qTe ?_) | intro _)
      rename_i rb ub
      refine tc_loop_g [(1, _), (2, _), (3, _), (11, _), (17, _), (18, _)] (fun (ζ : (Nat) × (Value) × (List Value)) => [(19, .int .i64 ζ.1)]) (fun (ζ : (Nat) × (Value) × (List Value)) => ρ) (fun (ζ : (Nat) × (Value) × (List Value)) => [[(ub, .cells ⟨[.int .i64 5, .int .u64 0, .int .i64 0, .int .u64 0, .int .u64 0, ζ.2.1, .slice none 0 0, .int .i64 0, .slice none 0 0, .slice none 0 0]⟩ 30 (0, 0))], ownC ζ.2.1 ((((r.ims.take ζ.1).map unI).map imV).flatten) ζ.2.2 68, [(rb, .cells ⟨recV v r⟩ 30 (0, 0))]]) (fun (ζ : (Nat) × (Value) × (List Value)) => ζ.1 ≤ v.i.n ∧ OwnS ζ.2.1 ζ.1 ((((r.ims.take ζ.1).map unI).map imV).flatten) ζ.2.2 7) (fun (ζ : (Nat) × (Value) × (List Value)) => v.i.n - ζ.1) ((0, .slice none 0 0, [])) (⟨Nat.zero_le _, OwnS.nil 7⟩) ev_le ev_le rfl tk ?_
      rintro ⟨k, vv, sp⟩ hI
      try simp only [List.cons_append, List.nil_append, List.append_assoc, List.append_eq] at hI ⊢
      try dsimp only at hI ⊢
      obtain ⟨hk, hown⟩ := hI
      obtain ⟨va, vc, rfl, _⟩ := hown.slice
      by_cases hlt : k < v.i.n
      · obtain ⟨b, off, C, T, fr, e1, hb, hfit, hc⟩ := hA.get (show k < r.ims.length by omega)
        have hx := List.take_succ_eq_append_getElem (show k < r.ims.length by omega)
        generalize r.ims[k]'(by omega) = x at *
        rw [e1]
        repeat' (first | (refine iBu ?_; refine tl_y (y_buildN rfl) rfl rfl ?_) | (refine i_op ?_; first | (refine i_qq ?_; refine qQ ?_) | refine qEf ?_) | refine tl_nil ?_ | (refine i_tc ?_; refine qTc ?_) | (refine i_te ?_; refine qTe ?_) | intro _)
        refine tl_buildSliceA (css := [imV (unI x)]) (sz := 7) rfl rfl rfl rfl (by simp) (by simp) rfl (fun bs => ?_)
        simp only [List.flatten_cons, List.flatten_nil, List.append_nil]
        refine tl_app (ys := imV (unI x)) (m := 1) rfl rfl hown (hR := by infer_instance) (SrcV.lit) rfl rfl (by decide) rfl (by omega) (by omega) rfl (fun v' sp' hown' => ?_)
        have hm : (((r.ims.take k).map unI).map imV).flatten ++ imV (unI x) = (((r.ims.take (k + 1)).map unI).map imV).flatten := by rw [hx]; simp
        rw [hm] at hown' ⊢
        obtain ⟨va', vc', rfl, _⟩ := hown'.slice
        repeat' (first | (refine iBu ?_; refine tl_y (y_buildN rfl) rfl rfl ?_) | (refine i_op ?_; first | (refine i_qq ?_; refine qQ ?_) | refine qEf ?_) | refine tl_nil ?_ | (refine i_tc ?_; refine qTc ?_) | (refine i_te ?_; refine qTe ?_) | intro _)
        rw [← e1]
        refine te_round_g (k + 1, _, sp') (⟨hlt, hown'⟩) ev_le ev_le rfl tk inferInstance (by first | omega | (dsimp only; omega))
      · have hk2 : k = r.ims.length := by omega
        rw [show r.ims.take k = r.ims by rw [hk2, List.take_length]] at hown ⊢
        refine tc_freeze (ownC (.slice va k vc) (((r.ims.map unI).map imV).flatten) sp 68) (fun ρ3 hle3 hfz => ?_)
        obtain ⟨sa, sc, e1, hsc, hA2⟩ := hown.aIn (by simp; omega) (fun x _ => imV_len x) hfz
        cases e1
        have hU : RcIn ρ3 ⟨⟨va, k, vc⟩, ⟨none, 0, 0⟩, ⟨none, 0, 0⟩, ⟨none, 0, 0⟩⟩ (unR r.ims) := ⟨⟨hA2, by dsimp only; omega, hsc⟩, fun x hx => by
          obtain ⟨y, hy, rfl⟩ := List.mem_map.1 hx
          exact ⟨CI.nil, ((h.im y hy).b).mono hle3⟩, AS.nil, AS.nil, AS.nil, by simp [unR]⟩
        have hla := cost12_spec ρ3 _ _ hU hlay
        rw [unR_len] at hla
        repeat' (first | (refine tl_is (.func 32) ?_; refine qC rfl rfl (hla) ?_; rintro v ρ' L' hle ⟨hl1, rfl, rfl⟩ <;> (try simp only [kM, kN, kO])) | (refine iBu ?_; refine tl_y (y_buildN rfl) rfl rfl ?_) | (refine i_op ?_; first | (refine i_qq ?_; refine qQ ?_) | refine qEf ?_) | refine tl_nil ?_ | (refine i_tc ?_; refine qTc ?_) | (refine i_te ?_; refine qTe ?_) | intro _)
        exact qE (L' := []) ⟨Hp.le_trans hle3 hl1, rfl, rfl⟩
    · rw [if_neg k2]
      by_cases k4 : r.kind = 4
      · rw [if_pos k4]
        have hA := h.s.at'
        have hl := hA.len
        have hsl := hF.sl
        have hU : ∀ ρ, RcIn ρ ⟨⟨none, 0, 0⟩, ⟨none, 0, 0⟩, ⟨none, 0, 0⟩, ⟨none, 0, 0⟩⟩ (undR []) := fun ρ => ⟨AS.nil, by simp [undR], AS.nil, AS.nil, AS.nil, by simp [undR]⟩
        have hla := fun ρ => bytes12_spec ρ _ _ (hU ρ) (undR_lay (l := []) (by simp) (by simp))
        rw [undR_nil] at hla
        repeat' (first | (refine iBu ?_; refine tl_y (y_buildN rfl) rfl rfl ?_) | (refine i_op ?_; first | (refine i_qq ?_; refine qQ ?_) | refine qEf ?_) | refine tl_nil ?_ | (refine i_tc ?_; refine qTc ?_) | (refine i_te ?_; refine qTe ?_) | intro _)
        refine tc_loop_g [(2, _), (3, _), (39, _), (40, _)] (fun (ζ : (Nat) × (Nat)) => [(41, .int .i64 ζ.1), (6, .int .i64 ζ.2)]) (fun (ζ : (Nat) × (Nat)) => ρ) (fun (ζ : (Nat) × (Nat)) => [[(_, .cells ⟨recV v r⟩ 30 (0, 0))]]) (fun (ζ : (Nat) × (Nat)) => ζ.1 ≤ v.s.n ∧ ζ.2 = pagesN (r.steps.take ζ.1)) (fun (ζ : (Nat) × (Nat)) => v.s.n - ζ.1) ((0, 0)) (⟨Nat.zero_le _, rfl⟩) ev_le ev_le rfl tk ?_
        rintro ⟨k, n⟩ hI
        try simp only [List.cons_append, List.nil_append, List.append_assoc, List.append_eq] at hI ⊢
        try dsimp only at hI ⊢
        obtain ⟨hk, hn⟩ := hI
        have hple := pagesN_le (r.steps.take k)
        have htl : (r.steps.take k).length ≤ 2 := by simp; omega
        by_cases hlt : k < v.s.n
        · obtain ⟨b, off, C, T, fr, e1, hb, hfit, hc⟩ := hA.get (show k < r.steps.length by omega)
          have hx := pagesN_succ r.steps k (by omega)
          generalize r.steps[k]'(by omega) = x at *
          rw [e1]
          unfold stepN at hx
          by_cases h34 : x.kind = 3 ∨ x.kind = 4
          · rw [if_pos h34] at hx
            rcases h34 with e | e
            all_goals (repeat' (first | (refine iBu ?_; refine tl_y (y_buildN rfl) rfl rfl ?_) | (refine i_op ?_; first | (refine i_qq ?_; refine qQ ?_) | refine qEf ?_) | refine tl_nil ?_ | (refine i_tc ?_; refine qTc ?_) | (refine i_te ?_; refine qTe ?_) | intro _))
            all_goals rw [← e1]
            all_goals refine te_round_g (k + 1, n + 12) (⟨hlt, by dsimp only; omega⟩) ev_le ev_le rfl tk inferInstance (by first | omega | (dsimp only; omega))
          · rw [if_neg h34] at hx
            repeat' (first | (refine iBu ?_; refine tl_y (y_buildN rfl) rfl rfl ?_) | (refine i_op ?_; first | (refine i_qq ?_; refine qQ ?_) | refine qEf ?_) | refine tl_nil ?_ | (refine i_tc ?_; refine qTc ?_) | (refine i_te ?_; refine qTe ?_) | intro _)
            rw [← e1]
            refine te_round_g (k + 1, n + 1) (⟨hlt, by dsimp only; omega⟩) ev_le ev_le rfl tk inferInstance (by first | omega | (dsimp only; omega))
        · rw [show r.steps.take k = r.steps by rw [show k = r.steps.length by omega, List.take_length]] at hn hple htl
          subst hn
          repeat' (first | (refine tl_is (.func 38) ?_; refine qC rfl rfl (hla _) ?_; rintro v ρ' L' hle ⟨hl1, a, c, rfl, hc, hs, rfl⟩ <;> (try simp only [kM, kN, kO])) | (rw [show ((30 : Nat) : Int) + min ((pagesN r.steps : Nat) : Int) 16 * 83 = ((30 + min (pagesN r.steps) 16 * 83 : Nat) : Int) by omega]; refine tl_is (.func 99) ?_; refine qC rfl rfl (sects04_spec _ _ (by omega)) ?_; rintro z1 ρ1 L1 hle0 ⟨rfl, rfl, rfl⟩; simp only [List.cons_append, List.nil_append]) | (refine iBu ?_; refine tl_y (y_buildN rfl) rfl rfl ?_) | (refine i_op ?_; first | (refine i_qq ?_; refine qQ ?_) | refine qEf ?_) | refine tl_nil ?_ | (refine i_tc ?_; refine qTc ?_) | (refine i_te ?_; refine qTe ?_) | intro _)
          exact qE (L' := []) ⟨hl1, rfl, rfl⟩
      · rw [if_neg k4]
        repeat' (first | (refine iBu ?_; refine tl_y (y_buildN rfl) rfl rfl ?_) | (refine i_op ?_; first | (refine i_qq ?_; refine qQ ?_) | refine qEf ?_) | refine tl_nil ?_ | (refine i_tc ?_; refine qTc ?_) | (refine i_te ?_; refine qTe ?_) | intro _)
        exact qE (L' := []) ⟨Hp.le_refl _, rfl, rfl⟩
end Go.Proofs.E

namespace Go.Proofs.E
open Go
set_option linter.unusedVariables false
set_option linter.unusedSimpArgs false
set_option linter.unusedSectionVars false
set_option maxRecDepth 4000
set_option maxHeartbeats 1000000
attribute [local irreducible] Yl TL TC TE Spec YSpec R1 Hp.le EnvLe TS TR YS Stays
-- BN
abbrev rcV (x : RV × Rc) : List Value := recV x.1 x.2
theorem costsLaw_spec (ρ : Hp) (a : Option Addr) (n c : Nat) (rs : List (RV × Rc)) (h : AIn ρ 10 rcV a n rs) (hw : ∀ x ∈ rs, RcW ρ x.1 x.2) (hn : n ≤ 9223372036854775807) :
    Spec Tryz.prog 5 [.slice a n c] ρ [] (fun z ρ' L' => z = .bool true ∧ ρ.le ρ' ∧ L' = []) := by
  have hl := h.len
  refine spec_enter Tryz.func5 rfl rfl rfl fun u R => ?_
  simp only [argsE, List.cons_append, List.nil_append]
  repeat' (first | (refine tl_is (.func 23) ?_; refine qC rfl rfl (wakes12_spec _) ?_; rintro v ρ' L' hle ⟨rfl, hl1, rfl⟩ <;> (try simp only [kM, kN, kO])) | (refine iBu ?_; refine tl_y (y_buildN rfl) rfl rfl ?_) | (refine i_op ?_; first | (refine i_qq ?_; refine qQ ?_) | refine qEf ?_) | refine tl_nil ?_ | (refine i_tc ?_; refine qTc ?_) | (refine i_te ?_; refine qTe ?_) | intro _)
  refine tc_loop_g [(12, _), (13, _)] (fun (ζ : (Nat) × (Hp)) => [(14, .int .i64 ζ.1), (2, .bool false)]) (fun (ζ : (Nat) × (Hp)) => ζ.2) (fun (ζ : (Nat) × (Hp)) => []) (fun (ζ : (Nat) × (Hp)) => ζ.1 ≤ n ∧ ρ.le ζ.2) (fun (ζ : (Nat) × (Hp)) => n - ζ.1) ((0, ρ')) (⟨Nat.zero_le _, hl1⟩) ev_le ev_le rfl tk ?_
  rintro ⟨k, ρ1⟩ hI
  try simp only [List.cons_append, List.nil_append, List.append_assoc, List.append_eq] at hI ⊢
  try dsimp only at hI ⊢
  obtain ⟨hk, hle0⟩ := hI
  by_cases hlt : k < n
  · obtain ⟨b, off, C, T, fr, e1, hb, hfit, hcc⟩ := (h.mono hle0).get (show k < rs.length by omega)
    have hx := (hw _ (List.getElem_mem (show k < rs.length by omega))).mono hle0
    generalize rs[k]'(by omega) = x at *
    obtain ⟨v0, r0⟩ := x
    dsimp only at hx
    have hfew := few12_spec ρ1 v0 r0 hx
    rw [e1]
    by_cases h8 : k = 8
    · repeat' (first | (refine iBu ?_; refine tl_y (y_buildN rfl) rfl rfl ?_) | (refine i_op ?_; first | (refine i_qq ?_; refine qQ ?_) | refine qEf ?_) | refine tl_nil ?_ | (refine i_tc ?_; refine qTc ?_) | (refine i_te ?_; refine qTe ?_) | intro _)
      exact qE (L' := []) (hle := hle0) ⟨rfl, hle0, rfl⟩
    · repeat' (first | (refine tl_is (.func 27) ?_; refine qC rfl rfl (hfew) ?_; rintro v ρ' L' hle ⟨hl2, v, r, rfl, hr, hp, rfl⟩ <;> (try simp only [kM, kN, kO])) | (refine iBu ?_; refine tl_y (y_buildN rfl) rfl rfl ?_) | (refine i_op ?_; first | (refine i_qq ?_; refine qQ ?_) | refine qEf ?_) | refine tl_nil ?_ | (refine i_tc ?_; refine qTc ?_) | (refine i_te ?_; refine qTe ?_) | intro _)
      have hC := rcost_spec _ v r hr
      have hV := fun ρ h => rreserve_spec ρ v r h
      have hR := fun ρ h => right12_spec ρ v r h
      have hU := fun ρ h => undoable_spec ρ v r h
      unfold errN at hC hV
      cases hok : recOk r
      · have c0 : costN r = 0 := by unfold costN; rw [hok]; rfl
        have v0' : reserveN r = 0 := by unfold reserveN; rw [hok]; rfl
        rw [hok, c0] at hC
        rw [hok, v0'] at hV
        rw [hok] at hR hU
        simp only [Bool.false_eq_true, if_false, Bool.false_and] at hC hV hU
        repeat' (first | (refine tl_is (.func 28) ?_; refine qC rfl rfl (hC) ?_; rintro v ρ' L' hle ⟨hl3, rfl, rfl⟩ <;> (try simp only [kM, kN, kO])) | (refine tl_is (.func 29) ?_; refine qC rfl rfl (hV _ (hr.mono hl3)) ?_; rintro v ρ' L' hle ⟨hl4, rfl, rfl⟩ <;> (try simp only [kM, kN, kO])) | (refine tl_is (.func 30) ?_; refine qC rfl rfl (hR _ (hr.mono (Hp.le_trans hl3 hl4))) ?_; rintro v ρ' L' hle ⟨rfl, rfl, rfl⟩ <;> (try simp only [kM, kN, kO])) | (refine tl_is (.func 31) ?_; refine qC rfl rfl (hU _ (hr.mono (Hp.le_trans hl3 hl4))) ?_; rintro v ρ' L' hle ⟨rfl, rfl, rfl⟩ <;> (try simp only [kM, kN, kO])) | (refine iBu ?_; refine tl_y (y_buildN rfl) rfl rfl ?_) | (refine i_op ?_; first | (refine i_qq ?_; refine qQ ?_) | refine qEf ?_) | refine tl_nil ?_ | (refine i_tc ?_; refine qTc ?_) | (refine i_te ?_; refine qTe ?_) | intro _)
        rw [← e1]
        refine te_round_g (k + 1, _) (⟨hlt, Hp.le_trans hle0 (Hp.le_trans hl2 (Hp.le_trans hl3 hl4))⟩) ev_le ev_le rfl tk inferInstance (by first | omega | (dsimp only; omega))
      · have hb := recB_le (recOk_lay hok)
        have c0 : costN r = sectsB (recB r).length := by unfold costN; rw [hok]; rfl
        rw [hok, c0] at hC
        rw [hok] at hV hR hU
        simp only [if_true, Bool.true_and] at hC hV hU
        have h1 := fun ρ h => cost12_spec ρ v r h (recOk_lay hok)
        have h2 := fun ρ h => reserve12_spec ρ v r h hok
        generalize sectsB (recB r).length = S1 at *
        generalize reserveN r = S2 at *
        repeat' (first | (refine tl_is (.func 28) ?_; refine qC rfl rfl (hC) ?_; rintro v ρ' L' hle ⟨hl3, rfl, rfl⟩ <;> (try simp only [kM, kN, kO])) | (refine tl_is (.func 29) ?_; refine qC rfl rfl (hV _ (hr.mono hl3)) ?_; rintro v ρ' L' hle ⟨hl4, rfl, rfl⟩ <;> (try simp only [kM, kN, kO])) | (refine tl_is (.func 30) ?_; refine qC rfl rfl (hR _ (hr.mono (Hp.le_trans hl3 hl4))) ?_; rintro v ρ' L' hle ⟨rfl, rfl, rfl⟩ <;> (try simp only [kM, kN, kO])) | (refine iBu ?_; refine tl_y (y_buildN rfl) rfl rfl ?_) | (refine i_op ?_; first | (refine i_qq ?_; refine qQ ?_) | refine qEf ?_) | refine tl_nil ?_ | (refine i_tc ?_; refine qTc ?_) | (refine i_te ?_; refine qTe ?_) | intro _)
        have hr4 := hr.mono (Hp.le_trans hl3 hl4)
        rcases (show r.kind = 2 ∨ r.kind = 4 ∨ ¬ (r.kind = 2 ∨ r.kind = 4) by omega) with k2 | k2 | k2
        all_goals first | rw [decide_eq_false k2] at hU | rw [decide_eq_true (show r.kind = 2 ∨ r.kind = 4 by omega)] at hU
        all_goals refine tc_any (Stays _ _ ([[(_, .cells ⟨recV v r⟩ 30 (0, 0))]])) (stays_of (hT := tk) (Hp.le_refl _)) ?_
        all_goals refine rMv 0 ?_
        all_goals refine rCm 1 ?_
        all_goals refine rMv 2 ?_
        all_goals (first | refine wSkip 3 ?_ | refine wSkipU 3 ?_ | refine wMv 3 ?_ | (refine tr_guard (t := 56) rfl (fun hb => ?_) (fun hb => ?_) <;> (try simp only [kk] at hb) <;> first | refine wSkip 3 ?_ | refine wSkipU 3 ?_ | refine wMv 3 ?_))
        all_goals (first | refine wSkip 4 ?_ | refine wSkipU 4 ?_ | refine wCm 4 ?_ | (refine tr_guard (t := 56) rfl (fun hb => ?_) (fun hb => ?_) <;> (try simp only [kk] at hb) <;> first | refine wSkip 4 ?_ | refine wSkipU 4 ?_ | refine wCm 4 ?_))
        all_goals refine rPk 5 ?_
        all_goals refine rMv 6 ?_
        all_goals (first | refine wSkip 7 ?_ | refine wSkipU 7 ?_ | refine wMv 7 ?_ | (refine tr_guard (t := 60) rfl (fun hb => ?_) (fun hb => ?_) <;> (try simp only [kk] at hb) <;> first | refine wSkip 7 ?_ | refine wSkipU 7 ?_ | refine wMv 7 ?_))
        all_goals (first | refine wSkip 8 ?_ | refine wSkipU 8 ?_ | refine wLd 8 ?_ | (refine tr_guard (t := 60) rfl (fun hb => ?_) (fun hb => ?_) <;> (try simp only [kk] at hb) <;> first | refine wSkip 8 ?_ | refine wSkipU 8 ?_ | refine wLd 8 ?_))
        all_goals (first | refine wSkip 9 ?_ | refine wSkipU 9 ?_ | (refine rStep (i := 9) ?_; ((try refine qWant ?_); (first | (refine tl_is (.func 32) ?_; refine qC rfl rfl (h1 _ hr4) ?_; rintro v ρ' L' hle ⟨hl5, rfl, rfl⟩ <;> (try simp only [kM, kN, kO])) | (refine qEf ?_; try intro _)) <;> ((try simp only [kM, kN, kO]); refine tl_nil ?_; refine rNext ?_))))
        all_goals (first | refine wSkip 10 ?_ | refine wSkipU 10 ?_ | refine wCm 10 ?_ | (refine tr_guard (t := 60) rfl (fun hb => ?_) (fun hb => ?_) <;> (try simp only [kk] at hb) <;> first | refine wSkip 10 ?_ | refine wSkipU 10 ?_ | refine wCm 10 ?_))
        all_goals refine rPk 11 ?_
        all_goals refine rMv 12 ?_
        all_goals (first | refine wSkip 13 ?_ | refine wSkipU 13 ?_ | refine wMv 13 ?_ | (refine tr_guard (t := 66) rfl (fun hb => ?_) (fun hb => ?_) <;> (try simp only [kk] at hb) <;> first | refine wSkip 13 ?_ | refine wSkipU 13 ?_ | refine wMv 13 ?_))
        all_goals (first | refine wSkip 14 ?_ | refine wSkipU 14 ?_ | refine wLd 14 ?_ | (refine tr_guard (t := 66) rfl (fun hb => ?_) (fun hb => ?_) <;> (try simp only [kk] at hb) <;> first | refine wSkip 14 ?_ | refine wSkipU 14 ?_ | refine wLd 14 ?_))
        all_goals (first | refine wSkip 15 ?_ | refine wSkipU 15 ?_ | (refine rStep (i := 15) ?_; ((try refine qWant ?_); (first | (refine tl_is (.func 33) ?_; refine qC rfl rfl (h2 _ (hr4.mono hl5)) ?_; rintro v ρ' L' hle ⟨hl6, rfl, rfl⟩ <;> (try simp only [kM, kN, kO])) | (refine qEf ?_; try intro _)) <;> ((try simp only [kM, kN, kO]); refine tl_nil ?_; refine rNext ?_))))
        all_goals (first | refine wSkip 16 ?_ | refine wSkipU 16 ?_ | refine wCm 16 ?_ | (refine tr_guard (t := 66) rfl (fun hb => ?_) (fun hb => ?_) <;> (try simp only [kk] at hb) <;> first | refine wSkip 16 ?_ | refine wSkipU 16 ?_ | refine wCm 16 ?_))
        all_goals refine rPk 17 ?_
        all_goals refine rMv 18 ?_
        all_goals (first | refine wSkip 19 ?_ | refine wSkipU 19 ?_ | refine wLd 19 ?_ | (refine tr_guard (t := 72) rfl (fun hb => ?_) (fun hb => ?_) <;> (try simp only [kk] at hb) <;> first | refine wSkip 19 ?_ | refine wSkipU 19 ?_ | refine wLd 19 ?_))
        all_goals (first | refine wSkip 21 ?_ | refine wSkipU 21 ?_ | refine wFa 21 ?_ | (refine tr_guard (t := 72) rfl (fun hb => ?_) (fun hb => ?_) <;> (try simp only [kk] at hb) <;> first | refine wSkip 21 ?_ | refine wSkipU 21 ?_ | refine wFa 21 ?_))
        all_goals (first | refine wSkip 22 ?_ | refine wSkipU 22 ?_ | refine wLd 22 ?_ | (refine tr_guard (t := 72) rfl (fun hb => ?_) (fun hb => ?_) <;> (try simp only [kk] at hb) <;> first | refine wSkip 22 ?_ | refine wSkipU 22 ?_ | refine wLd 22 ?_))
        all_goals (first | refine wSkip 23 ?_ | refine wSkipU 23 ?_ | refine wCm 23 ?_ | (refine tr_guard (t := 72) rfl (fun hb => ?_) (fun hb => ?_) <;> (try simp only [kk] at hb) <;> first | refine wSkip 23 ?_ | refine wSkipU 23 ?_ | refine wCm 23 ?_))
        all_goals (first | refine wSkip 20 ?_ | refine wSkipU 20 ?_ | (refine rStep (i := 20) ?_; ((try refine qWant ?_); (first | (refine tl_is (.func 31) ?_; refine qC rfl rfl (hU _ (hr4.mono (Hp.le_trans hl5 hl6))) ?_; rintro v ρ' L' hle ⟨rfl, rfl, rfl⟩ <;> (try simp only [kM, kN, kO])) | (refine qEf ?_; try intro _)) <;> ((try simp only [kM, kN, kO]); refine tl_nil ?_; refine rNext ?_))))
        all_goals refine rFull ?_
        all_goals (first | refine wSkip 24 ?_ | refine wSkipU 24 ?_ | refine wMv 24 ?_ | (refine tr_guard (t := 72) rfl (fun hb => ?_) (fun hb => ?_) <;> (try simp only [kk] at hb) <;> first | refine wSkip 24 ?_ | refine wSkipU 24 ?_ | refine wMv 24 ?_))
        all_goals (first | refine wSkip 25 ?_ | refine wSkipU 25 ?_ | refine wFa 25 ?_ | (refine tr_guard (t := 78) rfl (fun hb => ?_) (fun hb => ?_) <;> (try simp only [kk] at hb) <;> first | refine wSkip 25 ?_ | refine wSkipU 25 ?_ | refine wFa 25 ?_))
        all_goals (first | refine wSkip 26 ?_ | refine wSkipU 26 ?_ | refine wLd 26 ?_ | (refine tr_guard (t := 78) rfl (fun hb => ?_) (fun hb => ?_) <;> (try simp only [kk] at hb) <;> first | refine wSkip 26 ?_ | refine wSkipU 26 ?_ | refine wLd 26 ?_))
        all_goals (first | refine wSkip 27 ?_ | refine wSkipU 27 ?_ | refine wCm 27 ?_ | (refine tr_guard (t := 78) rfl (fun hb => ?_) (fun hb => ?_) <;> (try simp only [kk] at hb) <;> first | refine wSkip 27 ?_ | refine wSkipU 27 ?_ | refine wCm 27 ?_))
        all_goals (first | refine wSkip 28 ?_ | refine wSkipU 28 ?_ | refine wPk 28 ?_ | (refine tr_guard (t := 72) rfl (fun hb => ?_) (fun hb => ?_) <;> (try simp only [kk] at hb) <;> first | refine wSkip 28 ?_ | refine wSkipU 28 ?_ | refine wPk 28 ?_))
        all_goals (first | refine wSkip 29 ?_ | refine wSkipU 29 ?_ | refine wCm 29 ?_ | (refine tr_guard (t := 72) rfl (fun hb => ?_) (fun hb => ?_) <;> (try simp only [kk] at hb) <;> first | refine wSkip 29 ?_ | refine wSkipU 29 ?_ | refine wCm 29 ?_))
        all_goals refine rPk 30 ?_
        all_goals refine rDone ?_
        all_goals (repeat' (first | (refine iBu ?_; refine tl_y (y_buildN rfl) rfl rfl ?_) | (refine i_op ?_; first | (refine i_qq ?_; refine qQ ?_) | refine qEf ?_) | refine tl_nil ?_ | (refine i_tc ?_; refine qTc ?_) | (refine i_te ?_; refine qTe ?_) | intro _))
        all_goals rw [← e1]
        all_goals refine te_round_g (k + 1, _) (⟨hlt, Hp.le_trans hle0 (Hp.le_trans hl2 (Hp.le_trans (Hp.le_trans hl3 hl4) (Hp.le_trans hl5 hl6)))⟩) ev_le ev_le rfl tk inferInstance (by first | omega | (dsimp only; omega))
  · repeat' (first | (refine iBu ?_; refine tl_y (y_buildN rfl) rfl rfl ?_) | (refine i_op ?_; first | (refine i_qq ?_; refine qQ ?_) | refine qEf ?_) | refine tl_nil ?_ | (refine i_tc ?_; refine qTc ?_) | (refine i_te ?_; refine qTe ?_) | intro _)
    exact qE (L' := []) (hle := hle0) ⟨rfl, hle0, rfl⟩
end Go.Proofs.E

namespace Go.Proofs.YtbchgeledcfklaaGreat.RecordCostsLaw
open Go Go.ChangeShapes Go.WideShapes Go.ChangeAt Go.RowKit Go.Proofs.E
set_option linter.unusedVariables false

theorem own : ownKnob Tryz.prog.godebug = none := by kernel_rfl
theorem laidOut : laidOutB Tryz.prog = true := by kernel_rfl

set_option maxRecDepth 100000 in
theorem lifted (os : Os) (started : os.Started) (H : Type) (enc : TypeId × Value → H) :
    ReturnsInHanded {} Tryz.checked os 5 .any (Rows.recordCostsSpec.pre6 enc Tryz.prog Tryz.f5 Rows.recordCostsRow.domain false) (Rows.recordCostsSpec.post enc Tryz.prog Tryz.f5 false true false false) := by
  refine returnsInHanded_of_change_sized (C := Tryz.checked) own started (by kernel_rfl) Tryz.func5
    (ChangeSpec.witness6 (enc := enc) (C := Tryz.checked) false ⟨#[], #[.slice none 0 0], []⟩ 8 (by kernel_rfl) (by kernel_rfl) (by kernel_rfl) (by kernel_rfl)) ?_
  intro W base args ds gs before hval0 hW hcnd hsz0 _
  have hval : ∀ (j : Nat) t v, Tryz.f5.params[j]? = some t → args[j]? = some v → Value.okWide Tryz.prog W .any base t v := hval0
  have hW' := hW
  obtain ⟨p, q, hA0, hV, rfl, hfz, hnd⟩ := hW
  have hA : DataW.TrodAll enc Tryz.prog W 0 (fun _ => true) true Tryz.f5.params.toList args.toList ds p := hA0
  have hsz : (DataW.weightsEach Tryz.prog (Tryz.f5.params.toList ++ Rows.recordCostsSpec.plain.varTypes Tryz.prog) (ds ++ gs)).all (· ≤ reachBytes) = true := hsz0
  rw [Tryz.params5] at hA hval hsz
  obtain ⟨v0, vs0, d0, ds0, p0, q0, hargs, rfl, rfl, h0, r0⟩ := trodAll_cons hA
  obtain ⟨rfl, rfl, rfl⟩ := trodAll_nil r0
  obtain rfl : args = #[v0] := by cases args; simp_all
  obtain ⟨rfl, rfl⟩ := trodVars_none hV
  have k0 := h0
  have lt0 : ∀ x ∈ p0, x.block < W.heap.size := by obtain ⟨m, hm⟩ := k0; exact DataW.trod_lt m _ _ _ hm
  obtain ⟨a0, n0, c0, rfl⟩ := okWide_slice Tryz.underlying22 (hval 0 22 v0 rfl rfl)
  obtain ⟨s0, e0, b0⟩ := (opnS_slice (sz := 10) (by' := 144) Tryz.underlying22 (by kernel_rfl) (by decide) (by kernel_rfl) opnS_rec) _ _ _ h0.choose_spec (wts_of hsz (j := 0) rfl rfl)
  simp only [reachBytes] at b0
  obtain ⟨⟨y0, m0, z0, x0⟩, ec0⟩ : ∃ s, s = s0 := ⟨s0, rfl⟩
  subst ec0
  have ec0 := e0.cells
  simp only [Value.cells, List.cons.injEq, Value.slice.injEq, and_true] at ec0
  obtain ⟨rfl, rfl, rfl⟩ := ec0
  clear hA0 hval0
  obtain ⟨hA0, hP0, hc0, hb0⟩ := aIn_ofW (g := rcV) (fun _ => rfl) e0
  refine (Spec.law (costsLaw_spec (hpOf W) a0 n0 c0 x0 hA0 hP0 hb0)).mono fun e W' ⟨he, bel⟩ => ?_
  subst he
  exact ⟨_, rfl, _, _, _, [], _, [], hW', trodAll_mk1 (shut_bool Tryz.underlying4 _), (trodAll_cons_mk (Below.trod laidOut (by kernel_rfl) (of_decide_eq_true (by kernel_rfl)) k0 bel lt0) trodAll_mk0), rfl, bel.frame _, fun h => by cases h⟩

theorem joinedA : (Rows.recordCostsRow.inPlace == Tryz.checked.prog.inPlace 5) = true := by kernel_rfl
theorem joinedB : (Rows.recordCostsRow.unfollowed == Tryz.checked.prog.unfollowed 5) = true := by kernel_rfl
theorem joinedC : (Rows.recordCostsRow.recurses == Tryz.checked.prog.recurses 5) = true := by kernel_rfl
theorem joinedD : (Rows.recordCostsRow.named == Tryz.checked.prog.varsNamed 5) = true := by kernel_rfl
theorem joined : joinedFacts Tryz.checked.prog 5 Tryz.f5 Rows.recordCostsSpec Rows.recordCostsRow = true := by
  unfold joinedFacts
  rw [joinedA, joinedB, joinedC, joinedD]
  kernel_rfl

theorem over : Rows.recordCostsRow.holds Tryz.pinned (OpenSpec.ofChange Rows.recordCostsSpec) :=
  OpenClaim.holds_of_wide 5 Tryz.f5 rfl rfl rfl rfl rfl rfl rfl ⟨rfl, rfl, rfl, rfl, rfl⟩ rfl rfl rfl rfl rfl (by kernel_rfl) Tryz.func5 joined
    (of_decide_eq_true (by kernel_rfl)) (by unfold Func.isWrapper; first | (rw [if_pos (by decide +kernel)]; kernel_rfl) | (rw [if_neg (by decide +kernel)]; exact ⟨rfl, rfl⟩))
    (fun os started H enc _ => lifted os started H enc)

theorem proved : Rows.RecordCostsSaid := over
end Go.Proofs.YtbchgeledcfklaaGreat.RecordCostsLaw

