/- The law RecordBack. Part 1 of 1. -/
import Derived.Test.YtbchgeledcfklaaGreatI17
import Derived.Test.YtbchgeledcfklaaGreatRows
namespace Go.Proofs.E
open Go
set_option linter.unusedVariables false
set_option linter.unusedSimpArgs false
set_option linter.unusedSectionVars false
set_option maxRecDepth 4000
set_option maxHeartbeats 1000000
attribute [local irreducible] Yl TL TC TE Spec YSpec R1 Hp.le EnvLe TS TR YS Stays
-- BN
/-! ## records and bytes, forth and back -/
theorem dec_long {r : Rc} (h : recOk r = true) (hf : RcF r) (x : UInt8) : decOk (recB r ++ [x]) = false := by
  have := dec_fw h hf [x]
  unfold decOk
  rw [this]
  simp
theorem recB_pos (r : Rc) : 21 ≤ (recB r).length := by simp [recB, recHB, be_length]; omega
theorem dec_short {r : Rc} (h : recOk r = true) (hf : RcF r) : decOk ((recB r).take ((recB r).length - 1)) = false := by
  cases hd : decOk ((recB r).take ((recB r).length - 1)) with
  | false => rfl
  | true =>
    exfalso
    obtain ⟨g1, g2, g3, _, _⟩ := enc_dec hd
    have hp := recB_pos r
    have e : recB r = (recB r).take ((recB r).length - 1) ++ [(recB r)[(recB r).length - 1]'(by omega)] := by
      have := List.take_succ_eq_append_getElem (l := recB r) (i := (recB r).length - 1) (by omega)
      rw [← this, List.take_of_length_le (by omega)]
    rw [← g2] at e
    have h1 := dec_long g1 g3 ((recB r)[(recB r).length - 1]'(by omega))
    rw [← e] at h1
    rw [(dec_enc h hf).1] at h1
    cases h1
theorem recB_inj {r s : Rc} (h : recOk r = true) (hf : RcF r) (h' : recOk s = true) (hf' : RcF s) : recB r = recB s ↔ r.plain = s.plain := by
  constructor
  · intro e
    have h1 := (dec_enc h hf).2
    have h2 := (dec_enc h' hf').2
    rw [e] at h1
    exact h1.symm.trans h2
  · intro e
    rw [← recB_plain r, ← recB_plain s, e]
theorem rcF_of {ρ : Hp} {v : RV} {r : Rc} (h : RcIn ρ v r) (hs : ∀ s ∈ r.steps, StpF s) : RcF r := ⟨fun x hx => ⟨⟨(h.im x hx).b.row, (h.im x hx).b.kid⟩, ⟨(h.im x hx).a.row, (h.im x hx).a.kid⟩⟩, hs⟩
theorem few_stp {r r' : Rc} (hp : r'.plain = fewR r) (hs : ∀ s ∈ r.steps, StpF s) : ∀ s ∈ r'.steps, StpF s := by
  have e : r'.steps = (r.steps.take 3).map shortS := by have := congrArg Rc.steps hp; exact this
  rw [e]
  intro s hh
  obtain ⟨y, hy, rfl⟩ := List.mem_map.1 hh
  have f := hs y (List.mem_of_mem_take hy)
  exact ⟨⟨f.row.id, f.row.val⟩, f.by'⟩
theorem back12_spec (ρ : Hp) (v : RV) (r : Rc) (h : RcW ρ v r) (hst : ∀ s ∈ r.steps, StpF s) (v' : RV) (s : Rc) (h' : RcW ρ v' s) (hst' : ∀ x ∈ s.steps, StpF x) (a : Option Addr) (n c : Nat) (l : List UInt8) (hl : SIn ρ u8c a n l) (hc : n ≤ c) (hn : n ≤ 9223372036854775807) :
    Spec Tryz.prog 8 [.agg ⟨recV v r⟩, .agg ⟨recV v' s⟩, .slice a n c] ρ [] (fun z ρ' L' => z = .bool true ∧ ρ.le ρ' ∧ L' = []) := by
  obtain ⟨m, hm⟩ : ∃ m, m = min n 4000 := ⟨_, rfl⟩
  have hmt : (min (n : Int) 4000).toNat = m := by omega
  have hl4 := hl.take (hi' := m) (by omega)
  refine spec_enter Tryz.func8 rfl rfl rfl fun u R => ?_
  simp only [argsE, List.cons_append, List.nil_append]
  repeat' (first | (refine tl_is (.func 23) ?_; refine qC rfl rfl (wakes12_spec _) ?_; rintro v ρ' L' hle ⟨rfl, hl1, rfl⟩ <;> (try simp only [kM, kN, kO])) | (refine iBu ?_; refine tl_y (y_buildN rfl) rfl rfl ?_) | (refine i_op ?_; first | (refine i_qq ?_; refine qQ ?_) | refine qEf ?_) | refine tl_nil ?_ | (refine i_tc ?_; refine qTc ?_) | (refine i_te ?_; refine qTe ?_) | intro _)
  refine tc_cut_k R [] (fun (ζ : (Hp) × (RV) × (Rc) × (RV) × (Rc) × (Nat) × (Nat)) => [(2, .slice a n c), (6, .bool false), (7, .pointer (some ⟨ζ.2.2.2.2.2.1, 0, none⟩)), (8, .pointer (some ⟨ζ.2.2.2.2.2.2, 0, none⟩))]) (fun (ζ : (Hp) × (RV) × (Rc) × (RV) × (Rc) × (Nat) × (Nat)) => ζ.1) (fun (ζ : (Hp) × (RV) × (Rc) × (RV) × (Rc) × (Nat) × (Nat)) => [[(ζ.2.2.2.2.2.1, .cells ⟨recV ζ.2.1 ζ.2.2.1⟩ 30 (0, 0))], [(ζ.2.2.2.2.2.2, .cells ⟨recV ζ.2.2.2.1 ζ.2.2.2.2.1⟩ 30 (0, 0))]]) (fun (ζ : (Hp) × (RV) × (Rc) × (RV) × (Rc) × (Nat) × (Nat)) => ρ.le ζ.1 ∧ RcIn ζ.1 ζ.2.1 ζ.2.2.1 ∧ RcIn ζ.1 ζ.2.2.2.1 ζ.2.2.2.2.1 ∧ RcF ζ.2.2.1 ∧ RcF ζ.2.2.2.2.1) ev_le ?_ ?_
  · have f1 := fun ρ1 (hle : ρ.le ρ1) => few12_spec ρ1 v r (h.mono hle)
    have f2 := fun ρ1 (hle : ρ.le ρ1) => few12_spec ρ1 v' s (h'.mono hle)
    refine tc_any (Stays _ _ ([[(_, .cells ⟨recV v r⟩ 30 (0, 0))], [(_, .cells ⟨recV v' s⟩ 30 (0, 0))]])) (stays_of (hT := tk) (Hp.le_refl _)) ?_
    all_goals refine rLd 0 ?_
    all_goals refine rLd 2 ?_
    all_goals (refine rStep3 (i := 1) (j := 4) (k := 5) ?_ ?_ ?_ <;> ((try refine qWant ?_); (first | (refine tl_is (.func 27) ?_; refine qC rfl rfl (f1 _ hl1) ?_; rintro v ρ' L' hle ⟨hl2, v1, r1, rfl, hr1, hp1, rfl⟩ <;> (try simp only [kM, kN, kO])) | (refine tl_is (.func 27) ?_; refine qC rfl rfl (f2 _ (Hp.le_trans hl1 hl2)) ?_; rintro v ρ' L' hle ⟨hl3, v2, r2, rfl, hr2, hp2, rfl⟩ <;> (try simp only [kM, kN, kO])) | (refine qEf ?_; try intro _)) <;> ((try simp only [kM, kN, kO]); refine tl_nil ?_; refine rNext ?_)))
    all_goals (first | (refine rStep3 (i := 3) (j := 4) (k := 5) ?_ ?_ ?_ <;> ((try refine qWant ?_); (first | (refine tl_is (.func 27) ?_; refine qC rfl rfl (f1 _ hl1) ?_; rintro v ρ' L' hle ⟨hl2, v1, r1, rfl, hr1, hp1, rfl⟩ <;> (try simp only [kM, kN, kO])) | (refine tl_is (.func 27) ?_; refine qC rfl rfl (f2 _ (Hp.le_trans hl1 hl2)) ?_; rintro v ρ' L' hle ⟨hl3, v2, r2, rfl, hr2, hp2, rfl⟩ <;> (try simp only [kM, kN, kO])) | (refine qEf ?_; try intro _)) <;> ((try simp only [kM, kN, kO]); refine tl_nil ?_; refine rNext ?_))) | (refine rStep2 (i := 1) (j := 5) ?_ ?_ <;> ((try refine qWant ?_); (first | (refine tl_is (.func 27) ?_; refine qC rfl rfl (f1 _ hl1) ?_; rintro v ρ' L' hle ⟨hl2, v1, r1, rfl, hr1, hp1, rfl⟩ <;> (try simp only [kM, kN, kO])) | (refine tl_is (.func 27) ?_; refine qC rfl rfl (f2 _ (Hp.le_trans hl1 hl2)) ?_; rintro v ρ' L' hle ⟨hl3, v2, r2, rfl, hr2, hp2, rfl⟩ <;> (try simp only [kM, kN, kO])) | (refine qEf ?_; try intro _)) <;> ((try simp only [kM, kN, kO]); refine tl_nil ?_; refine rNext ?_))) | (refine rStep2 (i := 1) (j := 4) ?_ ?_ <;> ((try refine qWant ?_); (first | (refine tl_is (.func 27) ?_; refine qC rfl rfl (f1 _ hl1) ?_; rintro v ρ' L' hle ⟨hl2, v1, r1, rfl, hr1, hp1, rfl⟩ <;> (try simp only [kM, kN, kO])) | (refine tl_is (.func 27) ?_; refine qC rfl rfl (f2 _ (Hp.le_trans hl1 hl2)) ?_; rintro v ρ' L' hle ⟨hl3, v2, r2, rfl, hr2, hp2, rfl⟩ <;> (try simp only [kM, kN, kO])) | (refine qEf ?_; try intro _)) <;> ((try simp only [kM, kN, kO]); refine tl_nil ?_; refine rNext ?_))))
    all_goals (first | (refine rStep2 (i := 4) (j := 5) ?_ ?_ <;> ((try refine qWant ?_); (first | (refine qEf ?_; try intro _)) <;> ((try simp only [kM, kN, kO]); refine tl_nil ?_; refine rNext ?_))) | (refine rStep2 (i := 3) (j := 5) ?_ ?_ <;> ((try refine qWant ?_); (first | (refine tl_is (.func 27) ?_; refine qC rfl rfl (f1 _ hl1) ?_; rintro v ρ' L' hle ⟨hl2, v1, r1, rfl, hr1, hp1, rfl⟩ <;> (try simp only [kM, kN, kO])) | (refine tl_is (.func 27) ?_; refine qC rfl rfl (f2 _ (Hp.le_trans hl1 hl2)) ?_; rintro v ρ' L' hle ⟨hl3, v2, r2, rfl, hr2, hp2, rfl⟩ <;> (try simp only [kM, kN, kO])) | (refine qEf ?_; try intro _)) <;> ((try simp only [kM, kN, kO]); refine tl_nil ?_; refine rNext ?_))) | (refine rStep2 (i := 3) (j := 4) ?_ ?_ <;> ((try refine qWant ?_); (first | (refine tl_is (.func 27) ?_; refine qC rfl rfl (f1 _ hl1) ?_; rintro v ρ' L' hle ⟨hl2, v1, r1, rfl, hr1, hp1, rfl⟩ <;> (try simp only [kM, kN, kO])) | (refine tl_is (.func 27) ?_; refine qC rfl rfl (f2 _ (Hp.le_trans hl1 hl2)) ?_; rintro v ρ' L' hle ⟨hl3, v2, r2, rfl, hr2, hp2, rfl⟩ <;> (try simp only [kM, kN, kO])) | (refine qEf ?_; try intro _)) <;> ((try simp only [kM, kN, kO]); refine tl_nil ?_; refine rNext ?_))) | (refine rStep (i := 1) ?_; ((try refine qWant ?_); (first | (refine tl_is (.func 27) ?_; refine qC rfl rfl (f1 _ hl1) ?_; rintro v ρ' L' hle ⟨hl2, v1, r1, rfl, hr1, hp1, rfl⟩ <;> (try simp only [kM, kN, kO])) | (refine tl_is (.func 27) ?_; refine qC rfl rfl (f2 _ (Hp.le_trans hl1 hl2)) ?_; rintro v ρ' L' hle ⟨hl3, v2, r2, rfl, hr2, hp2, rfl⟩ <;> (try simp only [kM, kN, kO])) | (refine qEf ?_; try intro _)) <;> ((try simp only [kM, kN, kO]); refine tl_nil ?_; refine rNext ?_))))
    all_goals (first | (refine rStep (i := 5) ?_; ((try refine qWant ?_); (first | (refine qEf ?_; try intro _)) <;> ((try simp only [kM, kN, kO]); refine tl_nil ?_; refine rNext ?_))) | (refine rStep (i := 4) ?_; ((try refine qWant ?_); (first | (refine qEf ?_; try intro _)) <;> ((try simp only [kM, kN, kO]); refine tl_nil ?_; refine rNext ?_))) | (refine rStep (i := 3) ?_; ((try refine qWant ?_); (first | (refine tl_is (.func 27) ?_; refine qC rfl rfl (f1 _ hl1) ?_; rintro v ρ' L' hle ⟨hl2, v1, r1, rfl, hr1, hp1, rfl⟩ <;> (try simp only [kM, kN, kO])) | (refine tl_is (.func 27) ?_; refine qC rfl rfl (f2 _ (Hp.le_trans hl1 hl2)) ?_; rintro v ρ' L' hle ⟨hl3, v2, r2, rfl, hr2, hp2, rfl⟩ <;> (try simp only [kM, kN, kO])) | (refine qEf ?_; try intro _)) <;> ((try simp only [kM, kN, kO]); refine tl_nil ?_; refine rNext ?_))))
    all_goals (refine rStep (i := 6) ?_; ((try refine qWant ?_); (first | (refine qEf ?_; try intro _)) <;> ((try simp only [kM, kN, kO]); refine tl_nil ?_; refine rNext ?_)))
    all_goals (refine rStep (i := 7) ?_; ((try refine qWant ?_); (first | (refine qEf ?_; try intro _)) <;> ((try simp only [kM, kN, kO]); refine tl_nil ?_; refine rNext ?_)))
    all_goals refine rDone ?_
    all_goals refine te_cut_g ((ρ', v1, r1, v2, r2, _, _)) (⟨Hp.le_trans hl1 (Hp.le_trans hl2 hl3), hr1.mono hl3, hr2, rcF_of hr1 (few_stp hp1 hst), rcF_of hr2 (few_stp hp2 hst')⟩) ev_le ev_le rfl tk inferInstance
  · rintro ⟨ρ1, v1, r1, v2, r2, b7, b8⟩ ⟨hle1, hr1, hr2, hf1, hf2⟩
    simp only [List.cons_append, List.nil_append] at hle1 hr1 hr2 hf1 hf2 ⊢
    have hmc : m ≤ c := by omega
    have hm4 : m ≤ 4000 := by omega
    have hD := rdecode_spec ρ1 a m c _ (hl4.mono hle1) hmc (by omega)
    obtain ⟨d, hd⟩ : ∃ d, decOk (l.take m) = d := ⟨_, rfl⟩
    have hED : d = true → recOk (decR (l.take m)) = true ∧ recB (decR (l.take m)) = l.take m := fun e => ⟨(enc_dec (hd.trans e)).1, (enc_dec (hd.trans e)).2.1⟩
    rw [hd] at hD
    generalize decR (l.take m) = dr at *
    repeat' (first | (simp only [hmt]; refine tl_is (.func 24) ?_; refine qC rfl rfl hD ?_; rintro v0 ρ2 L2 hle0 ⟨hl2, v9, r9, rfl, hr9, hp9, rfl⟩; simp only [List.cons_append, List.nil_append]) | (refine iBu ?_; refine tl_y (y_buildN rfl) rfl rfl ?_) | (refine i_op ?_; first | (refine i_qq ?_; refine qQ ?_) | refine qEf ?_) | refine tl_nil ?_ | (refine i_tc ?_; refine qTc ?_) | (refine i_te ?_; refine qTe ?_) | intro _)
    refine tc_cut_k R [] (fun (ζ : (Hp)) => [(6, .bool false), (7, .pointer (some ⟨b7, 0, none⟩)), (8, .pointer (some ⟨b8, 0, none⟩))]) (fun (ζ : (Hp)) => ζ) (fun (ζ : (Hp)) => [[(b7, .cells ⟨recV v1 r1⟩ 30 (0, 0))], [(b8, .cells ⟨recV v2 r2⟩ 30 (0, 0))]]) (fun (ζ : (Hp)) => ρ1.le ζ) ev_le ?_ ?_
    · cases d
      · repeat' (first | (refine iBu ?_; refine tl_y (y_buildN rfl) rfl rfl ?_) | (refine i_op ?_; first | (refine i_qq ?_; refine qQ ?_) | refine qEf ?_) | refine tl_nil ?_ | (refine i_tc ?_; refine qTc ?_) | (refine i_te ?_; refine qTe ?_) | intro _)
        refine te_cut_g ((ρ2)) (hl2) ev_le ev_le rfl tk inferInstance
      · obtain ⟨g1, g2⟩ := hED rfl
        rw [← hp9, recOk_plain] at g1
        rw [← hp9, recB_plain] at g2
        have hE := rencode_spec ρ2 v9 r9 hr9
        simp only [g1, if_true] at hE
        rw [g2] at hE
        have hK := fun ρ (hle : ρ2.le ρ) => rcheck_spec ρ v9 r9 (hr9.mono hle)
        rw [g1] at hK
        repeat' (first | (refine tl_is (.func 36) ?_; refine qC rfl rfl (hE) ?_; rintro v ρ' L' hle ⟨hl3, a3, n3, c3, rfl, hc3, hs3, rfl⟩ <;> (try simp only [kM, kN, kO])) | (refine iBu ?_; refine tl_y (y_buildN rfl) rfl rfl ?_) | (refine i_op ?_; first | (refine i_qq ?_; refine qQ ?_) | refine qEf ?_) | refine tl_nil ?_ | (refine i_tc ?_; refine qTc ?_) | (refine i_te ?_; refine qTe ?_) | intro _)
        have hB := bytesEq_spec _ a3 a n3 c3 m c _ _ hs3 (hl4.mono (Hp.le_trans hle1 (Hp.le_trans hl2 hl3)))
        rw [decide_eq_true rfl] at hB
        repeat' (first | (refine tl_is (.func 37) ?_; refine qC rfl rfl (hB) ?_; rintro v ρ' L' hle ⟨rfl, rfl, rfl⟩ <;> (try simp only [kM, kN, kO])) | (refine tl_is (.func 34) ?_; refine qC rfl rfl (hK _ hl3) ?_; rintro v ρ' L' hle ⟨rfl, rfl, rfl⟩ <;> (try simp only [kM, kN, kO, if_true])) | (refine iBu ?_; refine tl_y (y_buildN rfl) rfl rfl ?_) | (refine i_op ?_; first | (refine i_qq ?_; refine qQ ?_) | refine qEf ?_) | refine tl_nil ?_ | (refine i_tc ?_; refine qTc ?_) | (refine i_te ?_; refine qTe ?_) | intro _)
        refine te_cut_g ((_)) (Hp.le_trans hl2 hl3) ev_le ev_le rfl tk inferInstance
    · rintro ρ3 hl3
      simp only [List.cons_append, List.nil_append]
      have hr13 := hr1.mono hl3
      have hE1 := rencode_spec ρ3 v1 r1 hr13
      cases hok : recOk r1
      · rw [hok] at hE1
        simp only [Bool.false_eq_true, if_false] at hE1
        repeat' (first | (refine tl_is (.func 36) ?_; refine qC rfl rfl (hE1) ?_; rintro v ρ' L' hle ⟨hl4, a4, n4, c4, rfl, hc4, hs4, rfl⟩ <;> (try simp only [kM, kN, kO])) | (refine iBu ?_; refine tl_y (y_buildN rfl) rfl rfl ?_) | (refine i_op ?_; first | (refine i_qq ?_; refine qQ ?_) | refine qEf ?_) | refine tl_nil ?_ | (refine i_tc ?_; refine qTc ?_) | (refine i_te ?_; refine qTe ?_) | intro _)
        have hn4 := hs4.len
        simp only [List.length_nil] at hn4
        subst hn4
        exact qE (L' := []) (hle := Hp.le_trans hle1 (Hp.le_trans hl3 hl4)) ⟨rfl, Hp.le_trans hle1 (Hp.le_trans hl3 hl4), rfl⟩
      · rw [hok] at hE1
        simp only [if_true] at hE1
        have hB4 := recB_le (recOk_lay hok)
        have hBp := recB_pos r1
        obtain ⟨q1, q2⟩ := dec_enc hok hf1
        have q3 := dec_short hok hf1
        have q4 := dec_long hok hf1 0
        have q5 := fun h => recB_inj hok hf1 h hf2
        generalize recB r1 = X at *
        repeat' (first | (refine tl_is (.func 36) ?_; refine qC rfl rfl (hE1) ?_; rintro v ρ' L' hle ⟨hl4, a4, n4, c4, rfl, hc4, hs4, rfl⟩ <;> (try simp only [kM, kN, kO])) | (refine iBu ?_; refine tl_y (y_buildN rfl) rfl rfl ?_) | (refine i_op ?_; first | (refine i_qq ?_; refine qQ ?_) | refine qEf ?_) | refine tl_nil ?_ | (refine i_tc ?_; refine qTc ?_) | (refine i_te ?_; refine qTe ?_) | intro _)
        have hn4 := hs4.len
        have hD1 := rdecode_spec _ a4 n4 c4 _ hs4 hc4 (by omega)
        rw [q1, q2] at hD1
        simp only [if_true] at hD1
        repeat' (first | (refine tl_is (.func 24) ?_; refine qC rfl rfl (hD1) ?_; rintro v ρ' L' hle ⟨hl5, v5, r5, rfl, hr5, hp5, rfl⟩ <;> (try simp only [kM, kN, kO])) | (refine iBu ?_; refine tl_y (y_buildN rfl) rfl rfl ?_) | (refine i_op ?_; first | (refine i_qq ?_; refine qQ ?_) | refine qEf ?_) | refine tl_nil ?_ | (refine i_tc ?_; refine qTc ?_) | (refine i_te ?_; refine qTe ?_) | intro _)
        have hS := recSameG_spec _ v5 v1 r5 r1 hr5 (hr13.mono (Hp.le_trans hl4 hl5))
        have hS1 : ∀ b : Bool, (b = true ↔ r5.plain = r1.plain) → b = true := fun b h => h.2 hp5
        have hs5 := hs4.mono hl5
        have ht1 : ((n4 : Int) - 1).toNat = n4 - 1 := by omega
        have hD2 := rdecode_spec _ a4 (n4 - 1) c4 _ (hs5.take (hi' := n4 - 1) (by omega)) (by omega) (by omega)
        rw [← hn4, q3, hn4] at hD2
        simp only [Bool.false_eq_true, if_false] at hD2
        repeat' (first | (refine tl_is (.func 35) ?_; refine qC rfl rfl (hS) ?_; rintro v ρ' L' hle ⟨⟨b, rfl, hb⟩, rfl, rfl⟩ <;> (try simp only [kM, kN, kO]); (obtain rfl := hS1 b hb)) | (simp only [ht1]; refine tl_is (.func 24) ?_; refine qC rfl rfl hD2 ?_; rintro v0 ρ6 L6 hle0 ⟨hl6, v6, r6, rfl, hr6, hp6, rfl⟩; simp only [List.cons_append, List.nil_append]) | (refine iBu ?_; refine tl_y (y_buildN rfl) rfl rfl ?_) | (refine i_op ?_; first | (refine i_qq ?_; refine qQ ?_) | refine qEf ?_) | refine tl_nil ?_ | (refine i_tc ?_; refine qTc ?_) | (refine i_te ?_; refine qTe ?_) | intro _)
        have hs6 := hs5.mono hl6
        repeat' (first | (refine tl_app (n := 0) (xs := []) (sp := []) (ys := X.map u8c) (m := n4) (sz := 1) rfl rfl (OwnS.zero _ 1) (hR := rem_here') (SIn.srcV hs6) (by simpa using hs6.len) (u8c_one _) (by decide) rfl (by omega) (by omega) rfl (fun v7 sp7 hown7 => ?_); simp only [Nat.zero_add, List.nil_append] at hown7 ⊢) | (refine tl_buildSlice_s rfl rfl rfl rfl (by simp) rfl rfl (fun bs => ?_); refine tl_app (ys := [u8c 0]) (m := 1) rfl rfl hown7 (hR := by infer_instance) SrcV.lit rfl rfl (by decide) rfl (by omega) (by omega) rfl (fun v8 sp8 hown8 => ?_); rw [show X.map u8c ++ [u8c 0] = (X ++ [0]).map u8c by simp] at hown8 ⊢; refine tl_freeze _ (h := Rem.here) (fun ρ8 hl8 hfz => ?_); obtain ⟨a8, c8, rfl, hc8, hs8⟩ := hown8.sIn hfz) | (refine iBu ?_; refine tl_y (y_buildN rfl) rfl rfl ?_) | (refine i_op ?_; first | (refine i_qq ?_; refine qQ ?_) | refine qEf ?_) | refine tl_nil ?_ | (refine i_tc ?_; refine qTc ?_) | (refine i_te ?_; refine qTe ?_) | intro _)
        have hD3 := rdecode_spec _ a8 (n4 + 1) c8 _ hs8 hc8 (by omega)
        rw [q4] at hD3
        simp only [Bool.false_eq_true, if_false] at hD3
        have hl48 := Hp.le_trans hl4 (Hp.le_trans hl5 (Hp.le_trans hl6 hl8))
        have hE2 := fun ρ h => rencode_spec ρ v2 r2 h
        cases hok2 : recOk r2
        · rw [hok2] at hE2
          simp only [Bool.false_eq_true, if_false] at hE2
          repeat' (first | (refine tl_is (.func 24) ?_; refine qC rfl rfl (hD3) ?_; rintro v ρ' L' hle ⟨hl9, v9, r9, rfl, hr9, hp9, rfl⟩ <;> (try simp only [kM, kN, kO])) | (refine tl_is (.func 36) ?_; refine qC rfl rfl (hE2 _ (hr2.mono (Hp.le_trans hl3 (Hp.le_trans hl48 hl9)))) ?_; rintro v ρ' L' hle ⟨hl10, a10, n10, c10, rfl, hc10, hs10, rfl⟩ <;> (try simp only [kM, kN, kO])) | (refine iBu ?_; refine tl_y (y_buildN rfl) rfl rfl ?_) | (refine i_op ?_; first | (refine i_qq ?_; refine qQ ?_) | refine qEf ?_) | refine tl_nil ?_ | (refine i_tc ?_; refine qTc ?_) | (refine i_te ?_; refine qTe ?_) | intro _)
          refine tc_any (Stays _ _ ([[(b7, .cells ⟨recV v1 r1⟩ 30 (0, 0))], [(b8, .cells ⟨recV v2 r2⟩ 30 (0, 0))]])) (stays_of (hT := tk) (Hp.le_refl _)) ?_
          all_goals refine rMv 0 ?_
          all_goals refine rCm 1 ?_
          all_goals refine rMv 2 ?_
          all_goals (first | refine wSkip 3 ?_ | refine wSkipU 3 ?_ | refine wMv 3 ?_ | (refine tr_guard (t := 110) rfl (fun hb => ?_) (fun hb => ?_) <;> (try simp only [kA, kB, kC, kD, kE, kF, kG, kH, kI, kJ, kK, kL] at hb) <;> first | refine wSkip 3 ?_ | refine wSkipU 3 ?_ | refine wMv 3 ?_))
          all_goals (first | refine wSkip 4 ?_ | refine wSkipU 4 ?_ | refine wMv 4 ?_ | (refine tr_guard (t := 110) rfl (fun hb => ?_) (fun hb => ?_) <;> (try simp only [kA, kB, kC, kD, kE, kF, kG, kH, kI, kJ, kK, kL] at hb) <;> first | refine wSkip 4 ?_ | refine wSkipU 4 ?_ | refine wMv 4 ?_))
          all_goals (first | refine wSkip 6 ?_ | refine wSkipU 6 ?_ | refine wLd 6 ?_ | (refine tr_guard (t := 110) rfl (fun hb => ?_) (fun hb => ?_) <;> (try simp only [kA, kB, kC, kD, kE, kF, kG, kH, kI, kJ, kK, kL] at hb) <;> first | refine wSkip 6 ?_ | refine wSkipU 6 ?_ | refine wLd 6 ?_))
          all_goals (first | refine wSkip 7 ?_ | refine wSkipU 7 ?_ | refine wLd 7 ?_ | (refine tr_guard (t := 110) rfl (fun hb => ?_) (fun hb => ?_) <;> (try simp only [kA, kB, kC, kD, kE, kF, kG, kH, kI, kJ, kK, kL] at hb) <;> first | refine wSkip 7 ?_ | refine wSkipU 7 ?_ | refine wLd 7 ?_))
          all_goals (first | refine wSkip 5 ?_ | refine wSkipU 5 ?_ | (refine rStep (i := 5) ?_; ((try refine qWant ?_); (first | (refine qEf ?_; try intro _)) <;> ((try simp only [kM, kN, kO]); refine tl_nil ?_; refine rNext ?_))))
          all_goals (first | refine wSkip 8 ?_ | refine wSkipU 8 ?_ | (refine rStep (i := 8) ?_; ((try refine qWant ?_); (first | (refine qEf ?_; try intro _)) <;> ((try simp only [kM, kN, kO]); refine tl_nil ?_; refine rNext ?_))))
          all_goals refine rFull ?_
          all_goals (first | refine wSkip 9 ?_ | refine wSkipU 9 ?_ | refine wCm 9 ?_ | (refine tr_guard (t := 110) rfl (fun hb => ?_) (fun hb => ?_) <;> (try simp only [kA, kB, kC, kD, kE, kF, kG, kH, kI, kJ, kK, kL] at hb) <;> first | refine wSkip 9 ?_ | refine wSkipU 9 ?_ | refine wCm 9 ?_))
          all_goals refine rPk 10 ?_
          all_goals refine rAs 11 ?_
          all_goals refine rDone ?_
          all_goals (repeat' (first | (refine iBu ?_; refine tl_y (y_buildN rfl) rfl rfl ?_) | (refine i_op ?_; first | (refine i_qq ?_; refine qQ ?_) | refine qEf ?_) | refine tl_nil ?_ | (refine i_tc ?_; refine qTc ?_) | (refine i_te ?_; refine qTe ?_) | intro _))
          all_goals exact qE (L' := []) (hle := Hp.le_trans hle1 (Hp.le_trans hl3 (Hp.le_trans hl48 (Hp.le_trans hl9 hl10)))) ⟨rfl, Hp.le_trans hle1 (Hp.le_trans hl3 (Hp.le_trans hl48 (Hp.le_trans hl9 hl10))), rfl⟩
        · rw [hok2] at hE2
          simp only [if_true] at hE2
          have q6 := q5 hok2
          repeat' (first | (refine tl_is (.func 24) ?_; refine qC rfl rfl (hD3) ?_; rintro v ρ' L' hle ⟨hl9, v9, r9, rfl, hr9, hp9, rfl⟩ <;> (try simp only [kM, kN, kO])) | (refine tl_is (.func 36) ?_; refine qC rfl rfl (hE2 _ (hr2.mono (Hp.le_trans hl3 (Hp.le_trans hl48 hl9)))) ?_; rintro v ρ' L' hle ⟨hl10, a10, n10, c10, rfl, hc10, hs10, rfl⟩ <;> (try simp only [kM, kN, kO])) | (refine iBu ?_; refine tl_y (y_buildN rfl) rfl rfl ?_) | (refine i_op ?_; first | (refine i_qq ?_; refine qQ ?_) | refine qEf ?_) | refine tl_nil ?_ | (refine i_tc ?_; refine qTc ?_) | (refine i_te ?_; refine qTe ?_) | intro _)
          have hl810 := Hp.le_trans hl9 hl10
          have hB := bytesEq_spec _ a4 a10 n4 c4 n10 c10 _ _ ((hs6.mono hl8).mono hl810) hs10
          have hS2 := recSameG_spec _ v1 v2 r1 r2 (hr13.mono (Hp.le_trans hl48 hl810)) (hr2.mono (Hp.le_trans hl3 (Hp.le_trans hl48 hl810)))
          have hfin : ∀ b : Bool, (b = true ↔ r1.plain = r2.plain) → decide (X = recB r2) = b := fun b h => by
            rw [Bool.eq_iff_iff, decide_eq_true_eq, q6, h]
          refine tc_any (Stays _ _ ([[(b7, .cells ⟨recV v1 r1⟩ 30 (0, 0))], [(b8, .cells ⟨recV v2 r2⟩ 30 (0, 0))]])) (stays_of (hT := tk) (Hp.le_refl _)) ?_
          all_goals refine rMv 0 ?_
          all_goals refine rCm 1 ?_
          all_goals refine rMv 2 ?_
          all_goals (first | refine wSkip 3 ?_ | refine wSkipU 3 ?_ | refine wMv 3 ?_ | (refine tr_guard (t := 110) rfl (fun hb => ?_) (fun hb => ?_) <;> (try simp only [kA, kB, kC, kD, kE, kF, kG, kH, kI, kJ, kK, kL] at hb) <;> first | refine wSkip 3 ?_ | refine wSkipU 3 ?_ | refine wMv 3 ?_))
          all_goals (first | refine wSkip 4 ?_ | refine wSkipU 4 ?_ | refine wMv 4 ?_ | (refine tr_guard (t := 110) rfl (fun hb => ?_) (fun hb => ?_) <;> (try simp only [kA, kB, kC, kD, kE, kF, kG, kH, kI, kJ, kK, kL] at hb) <;> first | refine wSkip 4 ?_ | refine wSkipU 4 ?_ | refine wMv 4 ?_))
          all_goals (first | refine wSkip 6 ?_ | refine wSkipU 6 ?_ | refine wLd 6 ?_ | (refine tr_guard (t := 110) rfl (fun hb => ?_) (fun hb => ?_) <;> (try simp only [kA, kB, kC, kD, kE, kF, kG, kH, kI, kJ, kK, kL] at hb) <;> first | refine wSkip 6 ?_ | refine wSkipU 6 ?_ | refine wLd 6 ?_))
          all_goals (first | refine wSkip 7 ?_ | refine wSkipU 7 ?_ | refine wLd 7 ?_ | (refine tr_guard (t := 110) rfl (fun hb => ?_) (fun hb => ?_) <;> (try simp only [kA, kB, kC, kD, kE, kF, kG, kH, kI, kJ, kK, kL] at hb) <;> first | refine wSkip 7 ?_ | refine wSkipU 7 ?_ | refine wLd 7 ?_))
          all_goals (first | refine wSkip 5 ?_ | refine wSkipU 5 ?_ | (refine rStep (i := 5) ?_; ((try refine qWant ?_); (first | (refine tl_is (.func 37) ?_; refine qC rfl rfl (hB) ?_; rintro v ρ' L' hle ⟨rfl, rfl, rfl⟩ <;> (try simp only [kM, kN, kO])) | (refine qEf ?_; try intro _)) <;> ((try simp only [kM, kN, kO]); refine tl_nil ?_; refine rNext ?_))))
          all_goals (first | refine wSkip 8 ?_ | refine wSkipU 8 ?_ | (refine rStep (i := 8) ?_; ((try refine qWant ?_); (first | (refine tl_is (.func 35) ?_; refine qC rfl rfl (hS2) ?_; rintro v ρ' L' hle ⟨⟨b, rfl, hb⟩, rfl, rfl⟩ <;> (try simp only [kM, kN, kO]); (have hbb := hfin b hb; rw [hbb]; clear hbb)) | (refine qEf ?_; try intro _)) <;> ((try simp only [kM, kN, kO]); refine tl_nil ?_; refine rNext ?_))))
          all_goals refine rFull ?_
          all_goals (first | refine wSkip 9 ?_ | refine wSkipU 9 ?_ | refine wCm 9 ?_ | (refine tr_guard (t := 110) rfl (fun hb => ?_) (fun hb => ?_) <;> (try simp only [kA, kB, kC, kD, kE, kF, kG, kH, kI, kJ, kK, kL] at hb) <;> first | refine wSkip 9 ?_ | refine wSkipU 9 ?_ | refine wCm 9 ?_))
          all_goals refine rPk 10 ?_
          all_goals refine rAs 11 ?_
          all_goals refine rDone ?_
          all_goals (repeat' (first | (refine iBu ?_; refine tl_y (y_buildN rfl) rfl rfl ?_) | (refine i_op ?_; first | (refine i_qq ?_; refine qQ ?_) | refine qEf ?_) | refine tl_nil ?_ | (refine i_tc ?_; refine qTc ?_) | (refine i_te ?_; refine qTe ?_) | intro _))
          all_goals exact qE (L' := []) (hle := Hp.le_trans hle1 (Hp.le_trans hl3 (Hp.le_trans hl48 (Hp.le_trans hl9 hl10)))) ⟨rfl, Hp.le_trans hle1 (Hp.le_trans hl3 (Hp.le_trans hl48 (Hp.le_trans hl9 hl10))), rfl⟩
end Go.Proofs.E

namespace Go.Proofs.YtbchgeledcfklaaGreat.RecordBackLaw
open Go Go.ChangeShapes Go.WideShapes Go.ChangeAt Go.RowKit Go.Proofs.E
set_option linter.unusedVariables false

theorem own : ownKnob Tryz.prog.godebug = none := by kernel_rfl
theorem laidOut : laidOutB Tryz.prog = true := by kernel_rfl

set_option maxRecDepth 100000 in
theorem lifted (os : Os) (started : os.Started) (H : Type) (enc : TypeId × Value → H) :
    ReturnsInHanded {} Tryz.checked os 8 .any (Rows.recordBackSpec.pre6 enc Tryz.prog Tryz.f8 Rows.recordBackRow.domain false) (Rows.recordBackSpec.post enc Tryz.prog Tryz.f8 false true false false) := by
  refine returnsInHanded_of_change_sized (C := Tryz.checked) own started (by kernel_rfl) Tryz.func8
    (ChangeSpec.witness6 (enc := enc) (C := Tryz.checked) false ⟨#[], #[.agg ⟨[.int .i64 0, .int .u64 0, .int .i64 0, .int .u64 0, .int .u64 0, .slice none 0 0, .slice none 0 0, .int .i64 0, .slice none 0 0, .slice none 0 0]⟩, .agg ⟨[.int .i64 0, .int .u64 0, .int .i64 0, .int .u64 0, .int .u64 0, .slice none 0 0, .slice none 0 0, .int .i64 0, .slice none 0 0, .slice none 0 0]⟩, .slice none 0 0], []⟩ 8 (by kernel_rfl) (by kernel_rfl) (by kernel_rfl) (by kernel_rfl)) ?_
  intro W base args ds gs before hval0 hW hcnd hsz0 _
  have hval : ∀ (j : Nat) t v, Tryz.f8.params[j]? = some t → args[j]? = some v → Value.okWide Tryz.prog W .any base t v := hval0
  have hW' := hW
  obtain ⟨p, q, hA0, hV, rfl, hfz, hnd⟩ := hW
  have hA : DataW.TrodAll enc Tryz.prog W 0 (fun _ => true) true Tryz.f8.params.toList args.toList ds p := hA0
  have hsz : (DataW.weightsEach Tryz.prog (Tryz.f8.params.toList ++ Rows.recordBackSpec.plain.varTypes Tryz.prog) (ds ++ gs)).all (· ≤ reachBytes) = true := hsz0
  rw [Tryz.params8] at hA hval hsz
  obtain ⟨v0, vs0, d0, ds0, p0, q0, hargs, rfl, rfl, h0, r0⟩ := trodAll_cons hA
  obtain ⟨v1, vs1, d1, ds1, p1, q1, rfl, rfl, rfl, h1, r1⟩ := trodAll_cons r0
  obtain ⟨v2, vs2, d2, ds2, p2, q2, rfl, rfl, rfl, h2, r2⟩ := trodAll_cons r1
  obtain ⟨rfl, rfl, rfl⟩ := trodAll_nil r2
  obtain rfl : args = #[v0, v1, v2] := by cases args; simp_all
  obtain ⟨rfl, rfl⟩ := trodVars_none hV
  have k0 := h0
  have k1 := h1
  have k2 := h2
  have lt0 : ∀ x ∈ p0, x.block < W.heap.size := by obtain ⟨m, hm⟩ := k0; exact DataW.trod_lt m _ _ _ hm
  have lt1 : ∀ x ∈ p1, x.block < W.heap.size := by obtain ⟨m, hm⟩ := k1; exact DataW.trod_lt m _ _ _ hm
  have lt2 : ∀ x ∈ p2, x.block < W.heap.size := by obtain ⟨m, hm⟩ := k2; exact DataW.trod_lt m _ _ _ hm
  obtain ⟨cs0, rfl, _⟩ := okWide_struct Tryz.underlying30 (hval 0 30 v0 rfl rfl)
  obtain ⟨o0, e0, ek0⟩ := opnS_rec2 _ _ _ h0.choose_spec (wts_of hsz (j := 0) rfl rfl)
  obtain rfl : cs0 = ⟨recV o0.1 o0.2⟩ := by
    cases cs0; simp only [Value.cells] at e0; rw [e0]
  obtain ⟨cs1, rfl, _⟩ := okWide_struct Tryz.underlying30 (hval 1 30 v1 rfl rfl)
  obtain ⟨o1, e1, ek1⟩ := opnS_rec2 _ _ _ h1.choose_spec (wts_of hsz (j := 1) rfl rfl)
  obtain rfl : cs1 = ⟨recV o1.1 o1.2⟩ := by
    cases cs1; simp only [Value.cells] at e1; rw [e1]
  obtain ⟨a2, n2, c2, rfl⟩ := okWide_slice Tryz.underlying44 (hval 2 44 v2 rfl rfl)
  have b2 := top_slice hsz (j := 2) rfl rfl Tryz.underlying44 k2 rfl
  have bb2 : Tryz.prog.bytesOf 5 = 1 := by kernel_rfl
  rw [bb2] at b2
  simp only [reachBytes] at b2
  obtain ⟨s2, e2⟩ := opn_bytes _ _ _ h2.choose_spec
  obtain ⟨⟨y2, m2, z2, x2⟩, ec2⟩ : ∃ s, s = s2 := ⟨s2, rfl⟩
  subst ec2
  have ec2 := e2.cells
  simp only [Value.cells, List.cons.injEq, Value.slice.injEq, and_true] at ec2
  obtain ⟨rfl, rfl, rfl⟩ := ec2
  clear hA0 hval0
  obtain ⟨hS, hc, hb⟩ := sIn_of e2
  refine (Spec.law (back12_spec (hpOf W) o0.1 o0.2 ek0.1 ek0.2 o1.1 o1.2 ek1.1 ek1.2 a2 n2 c2 x2 hS hc hb)).mono fun e W' ⟨he, bel⟩ => ?_
  subst he
  exact ⟨_, rfl, _, _, _, [], _, [], hW', trodAll_mk1 (shut_bool Tryz.underlying4 _), (trodAll_cons_mk (Below.trod laidOut (by kernel_rfl) (of_decide_eq_true (by kernel_rfl)) k0 bel lt0) (trodAll_cons_mk (Below.trod laidOut (by kernel_rfl) (of_decide_eq_true (by kernel_rfl)) k1 bel lt1) (trodAll_cons_mk (Below.trod laidOut (by kernel_rfl) (of_decide_eq_true (by kernel_rfl)) k2 bel lt2) trodAll_mk0))), rfl, bel.frame _, fun h => by cases h⟩

theorem joinedA : (Rows.recordBackRow.inPlace == Tryz.checked.prog.inPlace 8) = true := by kernel_rfl
theorem joinedB : (Rows.recordBackRow.unfollowed == Tryz.checked.prog.unfollowed 8) = true := by kernel_rfl
theorem joinedC : (Rows.recordBackRow.recurses == Tryz.checked.prog.recurses 8) = true := by kernel_rfl
theorem joinedD : (Rows.recordBackRow.named == Tryz.checked.prog.varsNamed 8) = true := by kernel_rfl
theorem joined : joinedFacts Tryz.checked.prog 8 Tryz.f8 Rows.recordBackSpec Rows.recordBackRow = true := by
  unfold joinedFacts
  rw [joinedA, joinedB, joinedC, joinedD]
  kernel_rfl

theorem over : Rows.recordBackRow.holds Tryz.pinned (OpenSpec.ofChange Rows.recordBackSpec) :=
  OpenClaim.holds_of_wide 8 Tryz.f8 rfl rfl rfl rfl rfl rfl rfl ⟨rfl, rfl, rfl, rfl, rfl⟩ rfl rfl rfl rfl rfl (by kernel_rfl) Tryz.func8 joined
    (of_decide_eq_true (by kernel_rfl)) (by unfold Func.isWrapper; first | (rw [if_pos (by decide +kernel)]; kernel_rfl) | (rw [if_neg (by decide +kernel)]; exact ⟨rfl, rfl⟩))
    (fun os started H enc _ => lifted os started H enc)

theorem proved : Rows.RecordBackSaid := over
end Go.Proofs.YtbchgeledcfklaaGreat.RecordBackLaw

