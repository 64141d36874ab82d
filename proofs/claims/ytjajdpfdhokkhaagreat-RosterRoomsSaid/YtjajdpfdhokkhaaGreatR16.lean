/- Rosters as data, and what their functions come to. Part 16 of 16. -/
import Derived.Test.YtjajdpfdhokkhaaGreatR15
namespace Go.Proofs.E
open Go
set_option linter.unusedVariables false
set_option linter.unusedSimpArgs false
set_option linter.unusedSectionVars false
set_option maxRecDepth 4000
set_option maxHeartbeats 1000000
attribute [local irreducible] Yl TL TC TE Spec YSpec R1 Hp.le EnvLe TS TR YS Stays
-- BN
/-! ## a roster that can be gone through -/
def fewT (t : TxP) : TxP := { t with stack := t.stack.take 60, marks := t.marks.take 9 }
def fewRP (p : RosP) : RosP := ⟨p.next, (p.txns.take 9).map fewT⟩
theorem sIn_take {α : Type} {ρ : Hp} {g : α → Value} {a : Option Addr} {n : Nat} {l : List α} (h : SIn ρ g a n l) (k : Nat) : SIn ρ g a (min n k) (l.take k) := by
  have := h.take (hi' := min n k) (by omega)
  rwa [show l.take (min n k) = l.take k by rw [← h.len, List.take_eq_take_min (i := k), Nat.min_comm]] at this
theorem aIn_take {α : Type} {ρ : Hp} {sz : Nat} {g : α → List Value} {a : Option Addr} {n : Nat} {l : List α} (h : AIn ρ sz g a n l) (k : Nat) : AIn ρ sz g a (min n k) (l.take k) := by
  have := h.take (hi' := min n k) (by omega)
  rwa [show l.take (min n k) = l.take k by rw [← h.len, List.take_eq_take_min (i := k), Nat.min_comm]] at this
theorem few18_spec (ρ : Hp) (v : SV) (r : Ros) (h : RosW ρ v r) : Spec Tryz.prog 36 [.agg ⟨rosV v r⟩] ρ []
    (fun z ρ' L' => ρ.le ρ' ∧ ∃ (v' : SV) (r' : Ros), z = .agg ⟨rosV v' r'⟩ ∧ RosIn ρ' v' r' ∧ r'.p = fewRP r.p ∧ L' = []) := by
  have hl := h.at'.at'.len
  refine spec_enter Tryz.func36 rfl rfl rfl fun u R => ?_
  simp only [argsE, List.cons_append, List.nil_append]
  have hpt : ∀ k (hk : k < r.txns.length), (r.p.txns.take (k + 1)).map fewT = (r.p.txns.take k).map fewT ++ [fewT (r.txns[k]'hk).p] := fun k hk => by
    rw [List.take_succ_eq_append_getElem (by simp [Ros.p]; exact hk), List.map_append]
    simp [Ros.p]
  have hfin : ∀ (k : Nat) (ρ1 : Hp) (acc : List Tx) (a : Option Addr) (c : Nat), AIn ρ1 7 txV a acc.length acc → acc.length ≤ c → acc.map Tx.p = (r.p.txns.take k).map fewT → (k = r.txns.length ∨ k = 9) → (∀ x ∈ acc, Tx.In ρ1 x) → k ≤ 9 → RosIn ρ1 ⟨a, acc.length, c⟩ ⟨r.next, acc⟩ ∧ (⟨r.next, acc⟩ : Ros).p = fewRP r.p := fun k ρ1 acc a c hA hc hm hk hin hk9 => by
    have hal : acc.length ≤ 9 := by
      have := congrArg List.length hm
      simp only [List.length_map, List.length_take] at this
      omega
    refine ⟨⟨⟨hA, by show acc.length ≤ 1000000; omega, hc⟩, hin⟩, ?_⟩
    unfold fewRP
    show (⟨r.next, acc.map Tx.p⟩ : RosP) = ⟨r.next, _⟩
    rw [hm]
    congr 2
    rcases hk with rfl | rfl
    · rw [List.take_of_length_le (by simp [Ros.p]), List.take_of_length_le (by simp [Ros.p]; omega)]
    · rfl
  repeat' (first | (refine iBu ?_; refine tl_y (y_buildN rfl) rfl rfl ?_) | (refine i_op ?_; first | (refine i_qq ?_; refine qQ ?_) | refine qEf ?_) | refine tl_nil ?_ | (refine i_tc ?_; refine qTc ?_) | (refine i_te ?_; refine qTe ?_) | intro _)
  rename_i b1 b2
  refine tc_loop_g [(1, _), (2, _), (7, _), (8, _)] (fun (ζ : (Nat) × (Value) × (List Value) × (Hp) × (List Tx)) => [(9, .int .i64 ζ.1), (3, ζ.2.1)]) (fun (ζ : (Nat) × (Value) × (List Value) × (Hp) × (List Tx)) => ζ.2.2.2.1) (fun (ζ : (Nat) × (Value) × (List Value) × (Hp) × (List Tx)) => [ownC ζ.2.1 ((ζ.2.2.2.2.map txV).flatten) ζ.2.2.1 72, [(b1, .cells ⟨rosV v r⟩ 34 (0, 0))]]) (fun (ζ : (Nat) × (Value) × (List Value) × (Hp) × (List Tx)) => ζ.1 ≤ v.n ∧ ζ.1 ≤ 9 ∧ ρ.le ζ.2.2.2.1 ∧ OwnS ζ.2.1 ζ.2.2.2.2.length ((ζ.2.2.2.2.map txV).flatten) ζ.2.2.1 7 ∧ ζ.2.2.2.2.map Tx.p = (r.p.txns.take ζ.1).map fewT ∧ (∀ x ∈ ζ.2.2.2.2, Tx.In ζ.2.2.2.1 x)) (fun (ζ : (Nat) × (Value) × (List Value) × (Hp) × (List Tx)) => v.n - ζ.1) ((0, .slice none 0 0, [], ρ, [])) (⟨Nat.zero_le _, Nat.zero_le _, Hp.le_refl _, OwnS.nil 7, by simp, by simp⟩) ev_le ev_le rfl tk ?_
  rintro ⟨k, vv, sp, ρ1, acc⟩ hI
  try simp only [List.cons_append, List.nil_append, List.append_assoc, List.append_eq] at hI ⊢
  try dsimp only at hI ⊢
  obtain ⟨hk, hk9, hle1, hown, hmp, hac⟩ := hI
  have hal : acc.length ≤ 9 := by
    have := congrArg List.length hmp
    simp only [List.length_map, List.length_take] at this
    omega
  obtain ⟨va, vc, rfl, _⟩ := hown.slice
  by_cases hlt : k < v.n
  · obtain ⟨b, off, C, T, fr, e1, hb, hfit, hc⟩ := (h.at'.at'.mono hle1).get (show k < r.txns.length by omega)
    have hx2 := hpt k (by omega)
    have hin := (h.tx _ (List.getElem_mem (show k < r.txns.length by omega))).mono hle1
    generalize r.txns[k]'(by omega) = x at *
    rw [e1]
    by_cases h8 : k = 9
    · subst h8
      repeat' (first | (refine iBu ?_; refine tl_y (y_buildN rfl) rfl rfl ?_) | (refine i_op ?_; first | (refine i_qq ?_; refine qQ ?_) | refine qEf ?_) | refine tl_nil ?_ | (refine i_tc ?_; refine qTc ?_) | (refine i_te ?_; refine qTe ?_) | intro _)
      refine te_freeze (ownC (.slice va acc.length vc) ((acc.map txV).flatten) sp 72) (fun ρ3 hle3 hfz => ?_)
      obtain ⟨sa, sc, f1, hsc, hA2⟩ := hown.aIn rfl (fun x _ => txV_len x) hfz
      cases f1
      obtain ⟨q1, q2⟩ := hfin 9 ρ3 acc va vc hA2 hsc hmp (.inr rfl) (fun y hy => (hac y hy).mono hle3) (by omega)
      exact qE (L' := []) (hle := Hp.le_trans hle1 hle3) ⟨Hp.le_trans hle1 hle3, ⟨va, acc.length, vc⟩, ⟨r.next, acc⟩, rfl, q1, q2, rfl⟩
    · have hS := aIn_take hin.s 60
      have hM := sIn_take hin.m 9
      have hSl := hS.len
      have hMl := hM.len
      have hm60 : (min (x.sv.n : Int) 60).toNat = min x.sv.n 60 := by omega
      have hm9 : (min (x.mv.n : Int) 9).toNat = min x.mv.n 9 := by omega
      have hxsc := hin.sc
      have hxmc := hin.mc
      have hpx : ∀ a1 c1 a2 c2, ({ x with stack := x.stack.take 60, marks := x.marks.take 9, sv := ⟨a1, min x.sv.n 60, c1⟩, mv := ⟨a2, min x.mv.n 9, c2⟩ } : Tx).p = fewT x.p := fun _ _ _ _ => rfl
      generalize hSS : x.stack.take 60 = SS at *
      generalize hMM : x.marks.take 9 = MM at *
      repeat' (first | (refine iBu ?_; refine tl_y (y_buildN rfl) rfl rfl ?_) | (refine i_op ?_; first | (refine i_qq ?_; refine qQ ?_) | refine qEf ?_) | refine tl_nil ?_ | (refine i_tc ?_; refine qTc ?_) | (refine i_te ?_; refine qTe ?_) | intro _)
      rename_i b5
      refine tc_phase 19 (Stays _ _ ([[(b5, .cells ⟨txV x⟩ 72 (0, 0))]])) (by decide +kernel) (stays_of (hT := tk) (Hp.le_refl _)) ?_
      simp only [List.take_succ_cons, List.take_zero]
      all_goals refine rFa 1 ?_
      all_goals refine rLd 2 ?_
      all_goals refine rFa 3 ?_
      all_goals refine rLd 4 ?_
      all_goals refine rBi 5 ?_
      all_goals refine rBi 6 ?_
      all_goals refine rSl 7 ?_
      all_goals refine rFa 10 ?_
      all_goals refine rLd 11 ?_
      all_goals refine rFa 12 ?_
      all_goals refine rLd 13 ?_
      all_goals refine rBi 14 ?_
      all_goals refine rBi 15 ?_
      all_goals refine rSl 16 ?_
      all_goals (refine rStep2 (i := 0) (j := 9) ?_ ?_ <;> ((try refine qWant ?_); (first | (refine qEf ?_; try intro _)) <;> ((try simp only [kM, kN, kO]); refine tl_nil ?_; refine rNext ?_)))
      all_goals (first | (refine rStep2 (i := 8) (j := 9) ?_ ?_ <;> ((try refine qWant ?_); (first | (simp only [hm60]; refine tl_app (n := 0) (xs := []) (sp := []) (ys := (SS.map lfV).flatten) (m := min x.sv.n 60) (sz := 2) rfl rfl (OwnS.zero _ 2) (hR := by repeat (first | exact rem_here' | apply rem_there')) hS.srcV (by rw [flatN_len lfV_len, hSl]) (flat_oneG (fun _ => rfl) _) (by decide) rfl (by omega) (by omega) rfl (fun v1 sp1 o1 => ?_); simp only [Nat.zero_add, List.nil_append] at o1 ⊢; obtain ⟨a1, c1, rfl, q1⟩ := o1.slice) | (simp only [hm9]; refine tl_app (n := 0) (xs := []) (sp := []) (ys := MM.map u64c) (m := min x.mv.n 9) (sz := 1) rfl rfl (OwnS.zero _ 1) (hR := by repeat (first | exact rem_here' | apply rem_there')) hM.srcV (by rw [List.length_map, hMl]; omega) (by simp [Value.oneCell']) (by decide) rfl (by omega) (by omega) rfl (fun v2 sp2 o2 => ?_); simp only [Nat.zero_add, List.nil_append] at o2 ⊢; obtain ⟨a2, c2, rfl, q2⟩ := o2.slice) | (refine qEf ?_; try intro _)) <;> ((try simp only [kM, kN, kO]); refine tl_nil ?_; refine rNext ?_))) | (refine rStep (i := 0) ?_; ((try refine qWant ?_); (first | (refine qEf ?_; try intro _)) <;> ((try simp only [kM, kN, kO]); refine tl_nil ?_; refine rNext ?_))))
      all_goals (first | refine rFa 18 ?_ | (refine rStep (i := 8) ?_; ((try refine qWant ?_); (first | (simp only [hm60]; refine tl_app (n := 0) (xs := []) (sp := []) (ys := (SS.map lfV).flatten) (m := min x.sv.n 60) (sz := 2) rfl rfl (OwnS.zero _ 2) (hR := by repeat (first | exact rem_here' | apply rem_there')) hS.srcV (by rw [flatN_len lfV_len, hSl]) (flat_oneG (fun _ => rfl) _) (by decide) rfl (by omega) (by omega) rfl (fun v1 sp1 o1 => ?_); simp only [Nat.zero_add, List.nil_append] at o1 ⊢; obtain ⟨a1, c1, rfl, q1⟩ := o1.slice) | (simp only [hm9]; refine tl_app (n := 0) (xs := []) (sp := []) (ys := MM.map u64c) (m := min x.mv.n 9) (sz := 1) rfl rfl (OwnS.zero _ 1) (hR := by repeat (first | exact rem_here' | apply rem_there')) hM.srcV (by rw [List.length_map, hMl]; omega) (by simp [Value.oneCell']) (by decide) rfl (by omega) (by omega) rfl (fun v2 sp2 o2 => ?_); simp only [Nat.zero_add, List.nil_append] at o2 ⊢; obtain ⟨a2, c2, rfl, q2⟩ := o2.slice) | (refine qEf ?_; try intro _)) <;> ((try simp only [kM, kN, kO]); refine tl_nil ?_; refine rNext ?_))))
      all_goals (first | refine rFa 18 ?_ | (refine rStep (i := 9) ?_; ((try refine qWant ?_); (first | (refine qEf ?_; try intro _)) <;> ((try simp only [kM, kN, kO]); refine tl_nil ?_; refine rNext ?_))))
      all_goals (refine rStep (i := 17) ?_; ((try refine qWant ?_); (first | (simp only [hm60]; refine tl_app (n := 0) (xs := []) (sp := []) (ys := (SS.map lfV).flatten) (m := min x.sv.n 60) (sz := 2) rfl rfl (OwnS.zero _ 2) (hR := by repeat (first | exact rem_here' | apply rem_there')) hS.srcV (by rw [flatN_len lfV_len, hSl]) (flat_oneG (fun _ => rfl) _) (by decide) rfl (by omega) (by omega) rfl (fun v1 sp1 o1 => ?_); simp only [Nat.zero_add, List.nil_append] at o1 ⊢; obtain ⟨a1, c1, rfl, q1⟩ := o1.slice) | (simp only [hm9]; refine tl_app (n := 0) (xs := []) (sp := []) (ys := MM.map u64c) (m := min x.mv.n 9) (sz := 1) rfl rfl (OwnS.zero _ 1) (hR := by repeat (first | exact rem_here' | apply rem_there')) hM.srcV (by rw [List.length_map, hMl]; omega) (by simp [Value.oneCell']) (by decide) rfl (by omega) (by omega) rfl (fun v2 sp2 o2 => ?_); simp only [Nat.zero_add, List.nil_append] at o2 ⊢; obtain ⟨a2, c2, rfl, q2⟩ := o2.slice) | (refine qEf ?_; try intro _)) <;> ((try simp only [kM, kN, kO]); refine tl_nil ?_; refine rNext ?_)))
      all_goals refine rDone ?_
      all_goals refine te_phase (fuel := 3) (m := [true, true, true, true, true, true, true, true, true, true, true, true, true, true, true, true, true, true, true, false, false, false]) (Stays _ _ ([])) rfl rfl (stays_of (hT := tk) (Hp.le_refl _)) ?_
      all_goals (refine rStep (i := 19) ?_; ((try refine qWant ?_); (first | (refine qEf ?_; try intro _)) <;> ((try simp only [kM, kN, kO]); refine tl_nil ?_; refine rNext ?_)))
      all_goals refine rFa 20 ?_
      all_goals (refine rStep (i := 21) ?_; ((try refine qWant ?_); (first | (refine qEf ?_; try intro _)) <;> ((try simp only [kM, kN, kO]); refine tl_nil ?_; refine rNext ?_)))
      all_goals refine rDone ?_
      all_goals (
        refine te_freeze (ownC (.slice a1 (min x.sv.n 60) c1) ((SS.map lfV).flatten) sp1 74) (h := by repeat (first | exact rem_here' | apply rem_there')) (fun ρ4 hle4 hf4 => ?_)
        refine te_freeze (ownC (.slice a2 (min x.mv.n 9) c2) (MM.map u64c) sp2 24) (h := by repeat (first | exact rem_here' | apply rem_there')) (fun ρ5 hle5 hf5 => ?_)
        rw [← hSl] at o1
        rw [← hMl] at o2
        have hx' : Tx.In ρ5 { x with stack := SS, marks := MM, sv := ⟨a1, SS.length, c1⟩, mv := ⟨a2, MM.length, c2⟩ } := OwnX.tin ⟨o1, o2⟩ (fun p hp => Hp.up hle5 (hf4 p (by rw [← hSl]; exact hp))) (fun p hp => hf5 p (by rw [← hMl]; exact hp)) (by dsimp only; omega) (by dsimp only; omega)
        have hp' := hpx a1 c1 a2 c2
        rw [← hSl, ← hMl] at hp'
        rw [← hSl, ← hMl]
        clear hf4 hf5
        generalize hy : ({ x with stack := SS, marks := MM, sv := ⟨a1, SS.length, c1⟩, mv := ⟨a2, MM.length, c2⟩ } : Tx) = y at *
        have hyV : [Value.int .i64 x.num, .int .i64 x.state, .int .u64 x.first, .int .u64 x.last, .int .u64 x.undo, .slice a1 SS.length c1, .slice a2 MM.length c2] = txV y := by rw [← hy]
        rw [hyV])
      all_goals (repeat' (first | (refine tl_buildSliceA (css := [txV y]) (sz := 7) rfl rfl rfl rfl (by simp) (by simp) rfl (fun bs => ?_); simp only [List.flatten_cons, List.flatten_nil, List.append_nil]) | (refine tl_app (ys := txV y) (m := 1) rfl rfl hown (hR := by repeat (first | exact rem_here' | apply rem_there')) SrcV.lit rfl rfl (by decide) rfl (by omega) (by omega) rfl (fun v3 sp3 hown3 => ?_)) | (refine iBu ?_; refine tl_y (y_buildN rfl) rfl rfl ?_) | (refine i_op ?_; first | (refine i_qq ?_; refine qQ ?_) | refine qEf ?_) | refine tl_nil ?_ | (refine i_tc ?_; refine qTc ?_) | (refine i_te ?_; refine qTe ?_) | intro _))
      all_goals (
        have hm : (acc.map txV).flatten ++ txV y = ((acc ++ [y]).map txV).flatten := by simp
        rw [hm] at hown3 ⊢
        have hmp2 : (acc ++ [y]).map Tx.p = (r.p.txns.take (k + 1)).map fewT := by rw [List.map_append, hmp, hx2, ← hp']; rfl
        have hac2 : ∀ z ∈ acc ++ [y], Tx.In ρ5 z := fun z hz => by
          rcases List.mem_append.1 hz with hz | hz
          · exact ((hac z hz).mono hle4).mono hle5
          · rw [List.mem_singleton.1 hz]; exact hx'
        rw [← e1])
      all_goals refine te_round_g (k + 1, v3, sp3, ρ5, acc ++ [y]) (⟨hlt, by dsimp only; omega, Hp.le_trans hle1 (Hp.le_trans hle4 hle5), by rw [List.length_append]; exact hown3, hmp2, hac2⟩) ev_le ev_le rfl tk inferInstance (by first | omega | (dsimp only; omega))
  · have hkn : k = r.txns.length := by omega
    repeat' (first | (refine iBu ?_; refine tl_y (y_buildN rfl) rfl rfl ?_) | (refine i_op ?_; first | (refine i_qq ?_; refine qQ ?_) | refine qEf ?_) | refine tl_nil ?_ | (refine i_tc ?_; refine qTc ?_) | (refine i_te ?_; refine qTe ?_) | intro _)
    refine te_freeze (ownC (.slice va acc.length vc) ((acc.map txV).flatten) sp 72) (fun ρ3 hle3 hfz => ?_)
    obtain ⟨sa, sc, f1, hsc, hA2⟩ := hown.aIn rfl (fun x _ => txV_len x) hfz
    cases f1
    obtain ⟨q1, q2⟩ := hfin k ρ3 acc va vc hA2 hsc hmp (.inl hkn) (fun y hy => (hac y hy).mono hle3) hk9
    exact qE (L' := []) (hle := Hp.le_trans hle1 hle3) ⟨Hp.le_trans hle1 hle3, ⟨va, acc.length, vc⟩, ⟨r.next, acc⟩, rfl, q1, q2, rfl⟩
end Go.Proofs.E

