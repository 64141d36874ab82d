/- The law CkptReads. Part 9 of 14. -/
import Derived.Test.YtjajdpfdhokkhaaGreatW8
namespace Go.Proofs.E
open Go
set_option linter.unusedVariables false
set_option linter.unusedSimpArgs false
set_option linter.unusedSectionVars false
set_option maxRecDepth 4000
set_option maxHeartbeats 1000000
attribute [local irreducible] Yl TL TC TE Spec YSpec R1 Hp.le EnvLe TS TR YS Stays
-- BN
abbrev flatP (l : List CkP) : List Value := (l.map ckPV).flatten
theorem flatP_one (l : List CkP) : (flatP l).all (·.oneCell') = true := by
  induction l with
  | nil => rfl
  | cons a r ih => simp only [flatP, List.map_cons, List.flatten_cons, List.all_append, Bool.and_eq_true]; exact ⟨rfl, ih⟩
theorem flatP_len (l : List CkP) : (flatP l).length = l.length * 2 := flatN_len ckPV_len l
theorem OwnS.zero' (b sz : Nat) : OwnS (.slice (some ⟨b, 0, none⟩) 0 0) 0 [] [] sz := ⟨.inr ⟨b, 0, rfl, by simp, by simp, Nat.le_refl _⟩⟩
theorem clonep_spec (ρ : Hp) (s : SV) (l : List CkP) (h : AS ρ 2 ckPV s l) : Spec Tryz.prog 73 [.slice s.a s.n s.c] ρ []
    (fun v ρ' L' => ρ' = ρ ∧ ∃ sp, OwnS v l.length (flatP l) sp 2 ∧ L' = [ownC v (flatP l) sp 125]) := by
  have hl := h.at'.len
  have hn := h.big
  have hA := h.at'
  obtain ⟨a, n, c⟩ := s
  dsimp only at hl hn hA ⊢
  cases a with
  | none =>
    have hl0 : l = [] := by
      by_cases h0 : 0 < l.length
      · obtain ⟨b, off, C, T, fr, h, _⟩ := hA.get h0
        cases h
      · exact List.eq_nil_of_length_eq_zero (by omega)
    subst hl0
    refine spec_enter Tryz.func73 rfl rfl rfl fun u R => ?_
    simp only [argsE, List.cons_append, List.nil_append]
    repeat' (first | (refine iBu ?_; refine tl_y (y_buildN rfl) rfl rfl ?_) | (refine i_op ?_; first | (refine i_qq ?_; refine qQ ?_) | refine qEf ?_) | refine tl_nil ?_ | (refine i_tc ?_; refine qTc ?_) | (refine i_te ?_; refine qTe ?_) | intro _)
    exact qE (L' := [[]]) ⟨rfl, [], OwnS.nil 2, rfl⟩
  | some ad =>
    refine spec_enter Tryz.func73 rfl rfl rfl fun u R => ?_
    simp only [argsE, List.cons_append, List.nil_append]
    repeat' (first | (refine iBu ?_; refine tl_y (y_buildN rfl) rfl rfl ?_) | (refine i_op ?_; first | (refine i_qq ?_; refine qQ ?_) | refine qEf ?_) | refine tl_nil ?_ | (refine i_tc ?_; refine qTc ?_) | (refine i_te ?_; refine qTe ?_) | intro _)
    rename_i bx
    refine tl_app (n := 0) (xs := []) (sp := []) (ys := flatP l) (sz := 2) rfl rfl (OwnS.zero' _ 2) (hR := rem_here') hA.srcV (by rw [flatP_len]; omega) (flatP_one l) (by decide) rfl (by omega) (by omega) rfl (fun v' sp' hown' => ?_)
    simp only [Nat.zero_add, List.nil_append] at hown' ⊢
    repeat' (first | (refine iBu ?_; refine tl_y (y_buildN rfl) rfl rfl ?_) | (refine i_op ?_; first | (refine i_qq ?_; refine qQ ?_) | refine qEf ?_) | refine tl_nil ?_ | (refine i_tc ?_; refine qTc ?_) | (refine i_te ?_; refine qTe ?_) | intro _)
    rw [← hl] at hown'
    exact qE ⟨rfl, sp', hown', rfl⟩
theorem insert_spec (ρ : Hp) (v : Value) (sp : List Value) (l : List CkP) (hl : l.length ≤ 1000000) (hown : OwnS v l.length (flatP l) sp 2) (i : Nat) (hi : i ≤ l.length) (bv : Nat) (p : CkP) :
    Spec Tryz.prog 152 [v, .int .i64 (i : Nat), .slice (some ⟨bv, 0, none⟩) 1 1] ρ [ownC v (flatP l) sp 125, [(bv, .cells ⟨ckPV p⟩ 125 (0, 0))]]
    (fun z ρ' L' => ρ' = ρ ∧ ∃ sp', OwnS z (l.length + 1) (flatP (l.take i ++ p :: l.drop i)) sp' 2 ∧ L' = [ownC z (flatP (l.take i ++ p :: l.drop i)) sp' 125]) := by
  obtain ⟨va, vc, rfl, hvc⟩ := hown.slice
  by_cases hin : i = l.length
  · have hm : flatP l ++ ckPV p = flatP (l.take i ++ p :: l.drop i) := by rw [hin]; simp [flatP]
    refine spec_enter Tryz.func152 rfl rfl rfl fun u R => ?_
    simp only [argsE, List.cons_append, List.nil_append]
    repeat' (first | (refine iBu ?_; refine tl_y (y_buildN rfl) rfl rfl ?_) | (refine i_op ?_; first | (refine i_qq ?_; refine qQ ?_) | refine qEf ?_) | refine tl_nil ?_ | (refine i_tc ?_; refine qTc ?_) | (refine i_te ?_; refine qTe ?_) | intro _)
    refine tl_app (ys := ckPV p) (m := 1) rfl rfl hown (hR := by infer_instance) SrcV.lit rfl rfl (by decide) rfl (by omega) (by omega) rfl (fun v' sp' hown' => ?_)
    rw [hm] at hown' ⊢
    repeat' (first | (refine iBu ?_; refine tl_y (y_buildN rfl) rfl rfl ?_) | (refine i_op ?_; first | (refine i_qq ?_; refine qQ ?_) | refine qEf ?_) | refine tl_nil ?_ | (refine i_tc ?_; refine qTc ?_) | (refine i_te ?_; refine qTe ?_) | intro _)
    exact qE ⟨rfl, sp', hown', rfl⟩
  · have hfl := flatP_len l
    have hA := flatN_take ckPV_len l i
    have hD := flatN_drop ckPV_len l i
    have hAl := flatP_len (l.take i)
    have hDl := flatP_len (l.drop i)
    rw [List.length_take, Nat.min_eq_left hi] at hAl
    rw [List.length_drop] at hDl
    have hsplit : flatP l = flatP (l.take i) ++ flatP (l.drop i) := by
      show (l.map ckPV).flatten = ((l.take i).map ckPV).flatten ++ ((l.drop i).map ckPV).flatten
      rw [← hA, ← hD, List.take_append_drop]
    have hfin : flatP (l.take i ++ p :: l.drop i) = (flatP (l.take i) ++ ckPV p) ++ flatP (l.drop i) := by simp [flatP]
    have hDone := flatP_one (l.drop i)
    rcases hown.out with ⟨e, _, e2, _⟩ | ⟨b, c, e, e1, e2, e3⟩
    · have := (Value.slice.inj e).2.1
      omega
    · cases e
      rw [hfin]
      generalize hAA : flatP (l.take i) = A at *
      generalize hDD : flatP (l.drop i) = D at *
      have hC : ∀ xs sp, ownC (.slice (some ⟨b, 0, none⟩) l.length vc) xs sp 125 = [(b, .cells ⟨xs ++ sp⟩ 125 (0, 0))] := fun _ _ => rfl
      rw [hC, hsplit]
      refine spec_enter Tryz.func152 rfl rfl rfl fun u R => ?_
      simp only [argsE, List.cons_append, List.nil_append]
      have t1 : ((i : Int) + 1).toNat = i + 1 := by omega
      have hAl2 : A.length = i * 2 := by omega
      have hn1 : ((l.length : Int) + 1 - i) = ((l.length + 1 - i : Nat) : Int) := by omega
      have hni : i + (l.length + 1 - i) = l.length + 1 := by omega
      have hp2 : (ckPV p).length = 2 := rfl
      have t2 : ((i : Int) + ((1 : Nat) : Int)).toNat = i + 1 := by omega
      have tn2 : ((l.length : Int) + ((1 : Nat) : Int)).toNat = l.length + 1 := by omega
      by_cases hroom : l.length + 1 ≤ vc
      · have hne : ¬ vc = i + 1 := by omega
        have hne2 : ¬ vc = i := by omega
        have tn1 : ((l.length : Int) + 1).toNat = l.length + 1 := by omega
        obtain ⟨X, Y, hXY, hXl⟩ : ∃ X Y : List Value, A ++ D ++ sp = X ++ Y ∧ X.length = (i + 1) * 2 := ⟨(A ++ D ++ sp).take ((i + 1) * 2), (A ++ D ++ sp).drop ((i + 1) * 2), (List.take_append_drop _ _).symm, by simp; omega⟩
        have hYl : D.length ≤ Y.length := by have := congrArg List.length hXY; simp only [List.length_append] at this; omega
        obtain ⟨X2, hX2, hX2l⟩ : ∃ X2 : List Value, X = A ++ X2 ∧ X2.length = 2 := by
          have h1 : X = (A ++ D ++ sp).take ((i + 1) * 2) := by rw [hXY, List.take_left' hXl]
          refine ⟨(D ++ sp).take 2, ?_, by simp; omega⟩
          rw [h1, List.append_assoc, List.take_append, List.take_of_length_le (by omega), hAl2, show (i + 1) * 2 - i * 2 = 2 by omega]
        have hsrc : ((X ++ Y).drop (i * 2)).take D.length = D := by rw [← hXY, List.append_assoc, List.drop_left' (by omega), List.take_left' rfl]
        have hst1 : stc (X ++ Y) ((i + 1) * 2) D = A ++ (X2 ++ (D ++ Y.drop D.length)) := by
          rw [← hXl, stc_end X Y D hYl, hX2]; simp only [List.append_assoc]
        have hst2 : stc (A ++ (X2 ++ (D ++ Y.drop D.length))) (i * 2) (ckPV p) = ((A ++ ckPV p) ++ D) ++ Y.drop D.length := by
          rw [← hAl2, stcN_mid (by rw [hX2l]; rfl)]; simp only [List.append_assoc]
        rw [hXY]
        repeat' (first | (refine iBu ?_; refine tl_y (y_buildN rfl) rfl rfl ?_) | (refine i_op ?_; first | (refine i_qq ?_; refine qQ ?_) | refine qEf ?_) | refine tl_nil ?_ | (refine i_tc ?_; refine qTc ?_) | (refine i_te ?_; refine qTe ?_) | intro _)
        simp only [tn1, t1, t2, tn2, if_neg hne, Option.map_some, addr_add, Nat.zero_add]
        refine tl_overlaps (sz := 2) (hF := inferInstance) (hF2 := inferInstance) rfl rfl (by have := congrArg List.length hXY; simp only [List.length_append] at this ⊢; show 2 ≠ _; omega) (by intro e; have := congrArg List.length e; simp only [List.length_append, List.length_nil] at this; omega) (fn := Tryz.f230) rfl rfl rfl rfl rfl rfl ?_
        repeat' (first | (refine iBu ?_; refine tl_y (y_buildN rfl) rfl rfl ?_) | (refine i_op ?_; first | (refine i_qq ?_; refine qQ ?_) | refine qEf ?_) | refine tl_nil ?_ | (refine i_tc ?_; refine qTc ?_) | (refine i_te ?_; refine qTe ?_) | intro _)
        refine tc_any (Stays _ _ ([])) (stays_of (hT := tk) (Hp.le_refl _)) ?_
        all_goals refine rMv 0 ?_
        all_goals refine rMv 1 ?_
        all_goals refine rMv 2 ?_
        all_goals refine rAd 3 ?_
        all_goals refine rSl 4 ?_
        all_goals refine rMv 5 ?_
        all_goals refine rMv 6 ?_
        all_goals refine rSl 7 ?_
        all_goals (refine rStep (i := 8) ?_; ((try refine qWant ?_); (first | (simp only [Int.toNat_natCast, t1, t2, tn2, if_neg hne, if_neg hne2, Option.map_some, addr_add, Nat.zero_add]; refine tl_copyN (ys := D) rfl rfl (Src.find (n := D.length) hsrc) (by omega) hDone (by simp only [List.length_append]; omega) rfl ?_) | (refine qEf ?_; try intro _)) <;> ((try simp only [kM, kN, kO]); refine tl_nil ?_; refine rNext ?_)))
        all_goals refine rDone ?_
        rw [hst1]
        repeat' (first | (refine iBu ?_; refine tl_y (y_buildN rfl) rfl rfl ?_) | (refine i_op ?_; first | (refine i_qq ?_; refine qQ ?_) | refine qEf ?_) | refine tl_nil ?_ | (refine i_tc ?_; refine qTc ?_) | (refine i_te ?_; refine qTe ?_) | intro _)
        simp only [Int.toNat_natCast, if_neg hne2, Option.map_some, addr_add, Nat.zero_add]
        refine tl_copyN (ys := ckPV p) rfl rfl (Src.find (n := 2) rfl) (by rw [hp2]; omega) rfl (by simp only [List.length_append, hp2, hX2l]; omega) rfl ?_
        rw [hst2]
        repeat' (first | (refine iBu ?_; refine tl_y (y_buildN rfl) rfl rfl ?_) | (refine i_op ?_; first | (refine i_qq ?_; refine qQ ?_) | refine qEf ?_) | refine tl_nil ?_ | (refine i_tc ?_; refine qTc ?_) | (refine i_te ?_; refine qTe ?_) | intro _)
        refine qE ⟨rfl, _, ⟨.inr ⟨b, vc, rfl, ?_, ?_, hroom⟩⟩, rfl⟩
        · simp only [List.length_append, hp2]; omega
        · have := congrArg List.length hXY
          simp only [List.length_append, List.length_drop, hp2] at this ⊢
          omega
      · have hne2 : ¬ vc = i := by omega
        repeat' (first | (refine iBu ?_; refine tl_y (y_buildN rfl) rfl rfl ?_) | (refine i_op ?_; first | (refine i_qq ?_; refine qQ ?_) | refine qEf ?_) | refine tl_nil ?_ | (refine i_tc ?_; refine qTc ?_) | (refine i_te ?_; refine qTe ?_) | intro _)
        simp only [Int.toNat_natCast]
        rw [show ((l.length : Int) + ((1 : Nat) : Int) - i) = ((l.length + 1 - i : Nat) : Int) by omega]
        refine tl_appZ (i := i) (n := l.length + 1 - i) (cap := vc) (b := b) (olds := A) (z := .agg ⟨[.int .i64 0, .int .u64 0]⟩) rfl rfl (Src.find (n := A.length) (by simp)) hAl2 (by omega) (by decide) rfl (by omega) (by omega) (by omega) rfl (fun b' c' ws hc' hws => ?_)
        rw [hni]
        have hwl : 2 + D.length ≤ ws.length := by omega
        have hst1 : stc (A ++ ws) (i * 2) (ckPV p) = (A ++ ckPV p) ++ ws.drop 2 := by rw [← hAl2, stc_end A ws (ckPV p) (by rw [hp2]; omega)]; rfl
        have hst2 : stc ((A ++ ckPV p) ++ ws.drop 2) ((i + 1) * 2) D = ((A ++ ckPV p) ++ D) ++ (ws.drop 2).drop D.length := by
          have : (A ++ ckPV p).length = (i + 1) * 2 := by rw [List.length_append, hp2]; omega
          rw [← this, stc_end (A ++ ckPV p) (ws.drop 2) D (by rw [List.length_drop]; omega)]
        have hnc : ¬ c' = i := by omega
        have hnc2 : ¬ c' = i + 1 := by omega
        repeat' (first | (refine iBu ?_; refine tl_y (y_buildN rfl) rfl rfl ?_) | (refine i_op ?_; first | (refine i_qq ?_; refine qQ ?_) | refine qEf ?_) | refine tl_nil ?_ | (refine i_tc ?_; refine qTc ?_) | (refine i_te ?_; refine qTe ?_) | intro _)
        simp only [Int.toNat_natCast, if_neg hnc, Option.map_some, addr_add, Nat.zero_add]
        refine tl_copyN (ys := ckPV p) rfl rfl (Src.find (n := 2) rfl) (by rw [hp2]; omega) rfl (by simp; omega) rfl ?_
        rw [hst1]
        repeat' (first | (refine iBu ?_; refine tl_y (y_buildN rfl) rfl rfl ?_) | (refine i_op ?_; first | (refine i_qq ?_; refine qQ ?_) | refine qEf ?_) | refine tl_nil ?_ | (refine i_tc ?_; refine qTc ?_) | (refine i_te ?_; refine qTe ?_) | intro _)
        refine tc_any (Stays _ _ ([])) (stays_of (hT := tk) (Hp.le_refl _)) ?_
        all_goals refine rMv 0 ?_
        all_goals refine rMv 1 ?_
        all_goals refine rMv 2 ?_
        all_goals refine rAd 3 ?_
        all_goals refine rSl 4 ?_
        all_goals refine rMv 5 ?_
        all_goals refine rMv 6 ?_
        all_goals refine rSl 7 ?_
        all_goals (refine rStep (i := 8) ?_; ((try refine qWant ?_); (first | (simp only [Int.toNat_natCast, t1, t2, if_neg hnc2, if_neg hne2, Option.map_some, addr_add, Nat.zero_add]; refine tl_copyN (ys := D) rfl rfl (Src.find (n := D.length) (by rw [List.append_assoc, List.drop_left' (by omega), List.take_left' rfl])) (by omega) hDone (by simp; omega) rfl ?_) | (refine qEf ?_; try intro _)) <;> ((try simp only [kM, kN, kO]); refine tl_nil ?_; refine rNext ?_)))
        all_goals refine rDone ?_
        rw [hst2]
        repeat' (first | (refine iBu ?_; refine tl_y (y_buildN rfl) rfl rfl ?_) | (refine i_op ?_; first | (refine i_qq ?_; refine qQ ?_) | refine qEf ?_) | refine tl_nil ?_ | (refine i_tc ?_; refine qTc ?_) | (refine i_te ?_; refine qTe ?_) | intro _)
        refine qE ⟨rfl, _, ⟨.inr ⟨b', c', rfl, ?_, ?_, by omega⟩⟩, rfl⟩
        · simp only [List.length_append, hp2]; omega
        · simp only [List.length_append, List.length_drop, hp2]; omega
theorem delete_spec (ρ : Hp) (v : Value) (sp : List Value) (l : List CkP) (hl : l.length ≤ 1000000) (hown : OwnS v l.length (flatP l) sp 2) (i : Nat) (hi : i < l.length) :
    Spec Tryz.prog 154 [v, .int .i64 (i : Nat), .int .i64 ((i : Nat) + 1)] ρ [ownC v (flatP l) sp 125]
    (fun z ρ' L' => ρ' = ρ ∧ ∃ sp', OwnS z (l.length - 1) (flatP (l.take i ++ l.drop (i + 1))) sp' 2 ∧ L' = [ownC z (flatP (l.take i ++ l.drop (i + 1))) sp' 125]) := by
  obtain ⟨va, vc, rfl, hvc⟩ := hown.slice
  have hfl := flatP_len l
  have hA := flatN_take ckPV_len l i
  have hD := flatN_drop ckPV_len l (i + 1)
  have hAl := flatP_len (l.take i)
  have hDl := flatP_len (l.drop (i + 1))
  rw [List.length_take, Nat.min_eq_left (by omega)] at hAl
  rw [List.length_drop] at hDl
  have hm : ∃ M : List Value, M.length = 2 ∧ flatP l = flatP (l.take i) ++ (M ++ flatP (l.drop (i + 1))) := by
    refine ⟨ckPV (l[i]'hi), rfl, ?_⟩
    have : l = l.take i ++ (l[i]'hi) :: l.drop (i + 1) := by rw [← List.drop_eq_getElem_cons hi, List.take_append_drop]
    have h2 : ∀ (A : List CkP) (x : CkP) (B : List CkP), flatP (A ++ x :: B) = flatP A ++ (ckPV x ++ flatP B) := fun A x B => by simp [flatP]
    exact (congrArg flatP this).trans (h2 _ _ _)
  obtain ⟨M, hM, hsplit⟩ := hm
  have hfin : flatP (l.take i ++ l.drop (i + 1)) = flatP (l.take i) ++ flatP (l.drop (i + 1)) := by simp [flatP]
  have hDone := flatP_one (l.drop (i + 1))
  rcases hown.out with ⟨e, _, e2, _⟩ | ⟨b, c, e, e1, e2, e3⟩
  · have := (Value.slice.inj e).2.1
    omega
  · cases e
    rw [hfin]
    generalize hAA : flatP (l.take i) = A at *
    generalize hDD : flatP (l.drop (i + 1)) = D at *
    have hC : ∀ xs sp, ownC (.slice (some ⟨b, 0, none⟩) l.length vc) xs sp 125 = [(b, .cells ⟨xs ++ sp⟩ 125 (0, 0))] := fun _ _ => rfl
    rw [hC, hsplit]
    have hAl2 : A.length = i * 2 := by omega
    have t1 : ((i : Int) + 1).toNat = i + 1 := by omega
    have hz : ∀ Z : List Value, Z.length = 2 → OwnS (.slice (some ⟨b, 0, none⟩) (l.length - 1) vc) (l.length - 1) (A ++ D) (Z ++ sp) 2 := fun Z hZ => ⟨.inr ⟨b, vc, rfl, by simp only [List.length_append]; omega, by simp only [List.length_append, hZ]; omega, by omega⟩⟩
    refine spec_enter Tryz.func154 rfl rfl rfl fun u R => ?_
    simp only [argsE, List.cons_append, List.nil_append]
    by_cases hend : i + 1 = l.length
    · have hD0 : D = [] := List.eq_nil_of_length_eq_zero (by omega)
      subst hD0
      have hlen0 : l.length - (i + 1) = 0 := by omega
      have hli : l.length - 1 = i := by omega
      have tl1 : l.length - i = 1 := by omega
      have hni : ¬ vc = i := by omega
      simp only [List.append_nil] at hz ⊢
      have hst : stc (A ++ M ++ sp) (i * 2) [.int .i64 0, .int .u64 0] = A ++ ([.int .i64 0, .int .u64 0] ++ sp) := by rw [← hAl2, List.append_assoc, stcN_mid (by rw [hM]; rfl)]
      repeat' (first | (refine iBu ?_; refine tl_y (y_buildN rfl) rfl rfl ?_) | (refine i_op ?_; first | (refine i_qq ?_; refine qQ ?_) | refine qEf ?_) | refine tl_nil ?_ | (refine i_tc ?_; refine qTc ?_) | (refine i_te ?_; refine qTe ?_) | intro _)
      refine tc_any (Stays _ _ ([])) (stays_of (hT := tk) (Hp.le_refl _)) ?_
      all_goals refine rMv 0 ?_
      all_goals refine rMv 1 ?_
      all_goals refine rSl 2 ?_
      all_goals refine rMv 3 ?_
      all_goals refine rMv 4 ?_
      all_goals refine rSl 5 ?_
      all_goals (refine rStep (i := 6) ?_; ((try refine qWant ?_); (first | (simp only [Int.toNat_natCast, t1, hlen0]; refine tl_y (y_append0 rfl rfl (by omega)) rfl rfl ?_) | (refine qEf ?_; try intro _)) <;> ((try simp only [kM, kN, kO]); refine tl_nil ?_; refine rNext ?_)))
      all_goals refine rFull ?_
      all_goals refine rAs 7 ?_
      all_goals refine rDone ?_
      repeat' (first | (refine iBu ?_; refine tl_y (y_buildN rfl) rfl rfl ?_) | (refine i_op ?_; first | (refine i_qq ?_; refine qQ ?_) | refine qEf ?_) | refine tl_nil ?_ | (refine i_tc ?_; refine qTc ?_) | (refine i_te ?_; refine qTe ?_) | intro _)
      simp only [Int.toNat_natCast, if_neg hni, Option.map_some, addr_add, Nat.zero_add, tl1]
      refine tl_clear1 (sz := 2) (zs := [.int .i64 0, .int .u64 0]) rfl rfl rfl (by simp only [List.length_append]; omega) ?_
      rw [hst]
      repeat' (first | (refine iBu ?_; refine tl_y (y_buildN rfl) rfl rfl ?_) | (refine i_op ?_; first | (refine i_qq ?_; refine qQ ?_) | refine qEf ?_) | refine tl_nil ?_ | (refine i_tc ?_; refine qTc ?_) | (refine i_te ?_; refine qTe ?_) | intro _)
      rw [← hli]
      exact qE (L' := [[(b, .cells ⟨A ++ ([.int .i64 0, .int .u64 0] ++ sp)⟩ 125 (0, 0))]]) ⟨rfl, _, hz _ rfl, rfl⟩
    · have hni : ¬ vc = i + 1 := by omega
      have hn1 : i + (l.length - (i + 1)) = l.length - 1 := by omega
      have hst1 : stc (A ++ (M ++ D) ++ sp) (i * 2) D = A ++ (D ++ ((M ++ D).drop D.length ++ sp)) := by
        have hx : A ++ (M ++ D) ++ sp = A ++ ((M ++ D).take D.length ++ ((M ++ D).drop D.length ++ sp)) := by
          rw [← List.append_assoc ((M ++ D).take D.length), List.take_append_drop, List.append_assoc]
        rw [hx, ← hAl2, stcN_mid (by rw [List.length_take, List.length_append]; omega)]
      have hZl : ((M ++ D).drop D.length).length = 2 := by rw [List.length_drop, List.length_append]; omega
      generalize hZZ : (M ++ D).drop D.length = Z at *
      have tn : ((l.length - 1 : Nat) : Int).toNat = l.length - 1 := by omega
      have tl1 : l.length - (l.length - 1) = 1 := by omega
      have hni2 : ¬ vc = l.length - 1 := by omega
      have hst2 : stc (A ++ (D ++ (Z ++ sp))) ((l.length - 1) * 2) [.int .i64 0, .int .u64 0] = A ++ D ++ ([.int .i64 0, .int .u64 0] ++ sp) := by
        have : (A ++ D).length = (l.length - 1) * 2 := by rw [List.length_append]; omega
        rw [← this, ← List.append_assoc, stcN_mid (by rw [hZl]; rfl)]
      repeat' (first | (refine iBu ?_; refine tl_y (y_buildN rfl) rfl rfl ?_) | (refine i_op ?_; first | (refine i_qq ?_; refine qQ ?_) | refine qEf ?_) | refine tl_nil ?_ | (refine i_tc ?_; refine qTc ?_) | (refine i_te ?_; refine qTe ?_) | intro _)
      refine tc_any (Stays _ _ ([])) (stays_of (hT := tk) (Hp.le_refl _)) ?_
      all_goals refine rMv 0 ?_
      all_goals refine rMv 1 ?_
      all_goals refine rSl 2 ?_
      all_goals refine rMv 3 ?_
      all_goals refine rMv 4 ?_
      all_goals refine rSl 5 ?_
      all_goals (refine rStep (i := 6) ?_; ((try refine qWant ?_); (first | (simp only [Int.toNat_natCast, t1, if_neg hni, Option.map_some, addr_add, Nat.zero_add]; refine tl_appIn (ys := D) (n := i) (m := l.length - (i + 1)) rfl rfl (Src.find (n := D.length) (by rw [← List.append_assoc, List.append_assoc, List.drop_left' (by rw [List.length_append]; omega), List.take_left' rfl])) hDl hDone (by omega) (by simp only [List.length_append]; omega) rfl ?_; rw [hst1, hn1]) | (refine qEf ?_; try intro _)) <;> ((try simp only [kM, kN, kO]); refine tl_nil ?_; refine rNext ?_)))
      all_goals refine rFull ?_
      all_goals refine rAs 7 ?_
      all_goals refine rDone ?_
      repeat' (first | (refine iBu ?_; refine tl_y (y_buildN rfl) rfl rfl ?_) | (refine i_op ?_; first | (refine i_qq ?_; refine qQ ?_) | refine qEf ?_) | refine tl_nil ?_ | (refine i_tc ?_; refine qTc ?_) | (refine i_te ?_; refine qTe ?_) | intro _)
      simp only [Int.toNat_natCast, tn, if_neg hni2, Option.map_some, addr_add, Nat.zero_add, tl1]
      refine tl_clear1 (sz := 2) (zs := [.int .i64 0, .int .u64 0]) rfl rfl rfl (by simp only [List.length_append]; omega) ?_
      rw [hst2]
      repeat' (first | (refine iBu ?_; refine tl_y (y_buildN rfl) rfl rfl ?_) | (refine i_op ?_; first | (refine i_qq ?_; refine qQ ?_) | refine qEf ?_) | refine tl_nil ?_ | (refine i_tc ?_; refine qTc ?_) | (refine i_te ?_; refine qTe ?_) | intro _)
      exact qE (L' := [[(b, .cells ⟨A ++ D ++ ([.int .i64 0, .int .u64 0] ++ sp)⟩ 125 (0, 0))]]) ⟨rfl, _, hz _ rfl, rfl⟩
end Go.Proofs.E

namespace Go.Proofs.E
open Go
set_option linter.unusedVariables false
set_option linter.unusedSimpArgs false
set_option linter.unusedSectionVars false
set_option maxRecDepth 4000
set_option maxHeartbeats 1000000
attribute [local irreducible] Yl TL TC TE Spec YSpec R1 Hp.le EnvLe TS TR YS Stays
-- BN
theorem at_own (ρ : Hp) (v : Value) (sp : List Value) (l : List CkP) (hl : l.length ≤ 1000000) (hown : OwnS v l.length (flatP l) sp 2) (page : Int) :
    Spec Tryz.prog 151 [v, .int .i64 page] ρ [ownC v (flatP l) sp 125] (fun z ρ' L' => ρ' = ρ ∧ ∃ i there, z = .tuple ⟨[.int .i64 (i : Nat), .bool there]⟩ ∧ AtR l page i there ∧ L' = [ownC v (flatP l) sp 125]) := by
  refine (Spec.thaw (C := [ownC v (flatP l) sp 125]) (L := []) (Post := fun z L' => ∃ i there, z = .tuple ⟨[.int .i64 (i : Nat), .bool there]⟩ ∧ AtR l page i there ∧ L' = []) (fun ρ1 hle hf => ?_)).mono ?_
  · obtain ⟨a, c, rfl, hc, hA⟩ := hown.aIn rfl (fun x _ => ckPV_len x) (by simpa using hf)
    exact at_spec ρ1 ⟨a, l.length, c⟩ l ⟨hA, hl, hc⟩ page
  · rintro z ρ' L' _ ⟨rfl, L2, ⟨i, there, rfl, h1, rfl⟩, rfl⟩
    exact ⟨rfl, i, there, rfl, h1, rfl⟩
/-! ### what the functions come to -/
def addP (page : Int) (lsn : Nat) : List CkP → List CkP
  | [] => [⟨page, lsn⟩]
  | p :: r => if p.page < page then p :: addP page lsn r else if p.page = page then p :: r else ⟨page, lsn⟩ :: p :: r
def touchI (lsn : Nat) : List Im → List CkP → List CkP
  | [], l => l
  | x :: r, l => touchI lsn r (addP x.page lsn l)
def touchP (r : Rc) (l : List CkP) : List CkP := touchI r.lsn r.ims l
def delP (page : Int) (l : List CkP) : List CkP := l.filter (fun p => decide (p.page ≠ page))
def recP (page : Int) (l : List CkP) : Option CkP := l.find? (fun p => decide (p.page = page))
theorem addP_in {page : Int} {lsn : Nat} : ∀ {l : List CkP} {i : Nat} (h : i < l.length), (∀ j (h : j < l.length), j < i → l[j].page < page) → l[i].page = page → addP page lsn l = l
  | p :: r, 0, h, _, he => by simp at he; simp [addP, he]
  | p :: r, i + 1, h, hlt, he => by
    have h0 := hlt 0 (by simp) (by omega)
    simp only [List.getElem_cons_zero] at h0
    rw [addP, if_pos h0, addP_in (i := i) (by simpa using h) (fun j hj hji => by have := hlt (j + 1) (by simpa using hj) (by omega); simpa using this) (by simpa using he)]
theorem addP_out {page : Int} {lsn : Nat} : ∀ {l : List CkP} {i : Nat} (h : i ≤ l.length), (∀ j (h : j < l.length), j < i → l[j].page < page) → (∀ j (h : j < l.length), i ≤ j → page < l[j].page) → addP page lsn l = l.take i ++ ⟨page, lsn⟩ :: l.drop i
  | [], 0, _, _, _ => rfl
  | p :: r, 0, _, _, hi => by
    have h0 := hi 0 (by simp) (by omega)
    simp only [List.getElem_cons_zero] at h0
    rw [addP, if_neg (by omega), if_neg (by omega)]; rfl
  | p :: r, i + 1, h, hlt, hi => by
    have h0 := hlt 0 (by simp) (by omega)
    simp only [List.getElem_cons_zero] at h0
    rw [addP, if_pos h0, addP_out (i := i) (by simpa using h) (fun j hj hji => by have := hlt (j + 1) (by simpa using hj) (by omega); simpa using this) (fun j hj hji => by have := hi (j + 1) (by simpa using hj) (by omega); simpa using this)]
    rfl
theorem addP_tbl {page : Int} {lsn : Nat} (h64 : page < 64) (h1 : 1 ≤ lsn) (h2 : lsn ≤ 1099511627776) : ∀ {l : List CkP} {last : Int}, last < page → tblB last l = true → tblB last (addP page lsn l) = true
  | [], last, hp, _ => by simp [addP, tblB]; omega
  | p :: r, last, hp, h => by
    rw [tblB, Bool.and_eq_true, decide_eq_true_eq] at h
    rw [addP]
    split
    · rw [tblB, Bool.and_eq_true, decide_eq_true_eq]
      exact ⟨h.1, addP_tbl h64 h1 h2 (by omega) h.2⟩
    · split
      · rw [tblB, Bool.and_eq_true, decide_eq_true_eq]; exact h
      · rw [tblB, Bool.and_eq_true, decide_eq_true_eq]
        refine ⟨by dsimp only; omega, ?_⟩
        rw [tblB, Bool.and_eq_true, decide_eq_true_eq]
        exact ⟨by dsimp only; omega, h.2⟩
theorem addP_len {page : Int} {lsn : Nat} : ∀ {l : List CkP}, (addP page lsn l).length ≤ l.length + 1
  | [] => by simp [addP]
  | p :: r => by
    rw [addP]
    have := addP_len (page := page) (lsn := lsn) (l := r)
    split
    · simp only [List.length_cons]; omega
    · split <;> simp
theorem AtR.add {l : List CkP} {page : Int} {lsn i : Nat} {there : Bool} (h : AtR l page i there) (ht : tblOk l = true) : addP page lsn l = if there then l else l.take i ++ ⟨page, lsn⟩ :: l.drop i := by
  cases there with
  | true =>
    obtain ⟨h1, h2⟩ := h.hit rfl
    rw [if_pos rfl]
    exact addP_in h1 (h.lo ht) h2
  | false =>
    rw [if_neg (by simp)]
    exact addP_out h.le (h.lo ht) (h.hi ht rfl)
theorem AtR.rec' {l : List CkP} {page : Int} {i : Nat} {there : Bool} (h : AtR l page i there) (ht : tblOk l = true) : recP page l = if there then l[i]? else none := by
  unfold recP
  cases there with
  | true =>
    obtain ⟨h1, h2⟩ := h.hit rfl
    rw [if_pos rfl, List.getElem?_eq_getElem h1, List.find?_eq_some_iff_getElem]
    refine ⟨by simpa using h2, i, h1, rfl, fun j hj => ?_⟩
    have := h.lo ht j (by omega) hj
    simp; omega
  | false =>
    rw [if_neg (by simp), List.find?_eq_none]
    intro p hp
    obtain ⟨j, hj, rfl⟩ := List.mem_iff_getElem.1 hp
    by_cases e : j < i
    · have := h.lo ht j hj e; simp; omega
    · have := h.hi ht rfl j hj (by omega); simp; omega
theorem AtR.del {l : List CkP} {page : Int} {i : Nat} (h : AtR l page i true) (ht : tblOk l = true) : delP page l = l.take i ++ l.drop (i + 1) := by
  obtain ⟨h1, h2⟩ := h.hit rfl
  have h3 := (tblB_lt ht).2
  unfold delP
  conv => lhs; rw [← List.take_append_drop i l, List.drop_eq_getElem_cons h1]
  rw [List.filter_append, List.filter_cons, if_neg (by simp [h2])]
  congr 1
  · rw [List.filter_eq_self]
    intro p hp
    obtain ⟨j, hj, rfl⟩ := List.mem_take_iff_getElem.1 hp
    have := h.lo ht j (by omega) (by omega)
    simp; omega
  · rw [List.filter_eq_self]
    intro p hp
    obtain ⟨j, hj, rfl⟩ := List.mem_drop_iff_getElem.1 hp
    have := h3 i (i + 1 + j) (by omega) (by omega)
    simp; omega
/-! ### with -/
abbrev pC (pb : Nat) (v : Value) : List (Nat × Obj) := [(pb, .cells ⟨[v]⟩ 28 (0, 0))]
theorem with_spec (ρ : Hp) (s : SV) (l : List CkP) (h : AS ρ 2 ckPV s l) (F : Nat) [hF : Fun Tryz.prog F] (cs : List Value) (X : SH) (e : Int) (l' : List CkP) (hl' : l'.length ≤ 1000000)
    (hdo : tblOk l = true → ∀ pb v sp, OwnS v l.length (flatP l) sp 2 → Spec Tryz.prog F (.pointer (some ⟨pb, 0, none⟩) :: cs) ρ ([pC pb v, ownC v (flatP l) sp 125] ++ X)
      (fun z ρ' L' => z = .int .i64 e ∧ ρ' = ρ ∧ ∃ v' sp', OwnS v' l'.length (flatP l') sp' 2 ∧ L' = [pC pb v', ownC v' (flatP l') sp' 125] ++ X)) :
    Spec Tryz.prog 149 [.slice s.a s.n s.c, .func (.func F) ⟨[]⟩ ⟨cs⟩] ρ X
      (fun z ρ' L' => ρ.le ρ' ∧ ∃ s' : SV, z = .tuple ⟨[.slice s'.a s'.n s'.c, .int .i64 (if tblOk l then e else 320)]⟩ ∧ AS ρ' 2 ckPV s' (if tblOk l = true ∧ e = 0 then l' else []) ∧ L' = X) := by
  have hl := h.at'.len
  have hn := h.big
  have hck := ckcheck_spec ρ s l h
  have hcl := clonep_spec ρ s l h
  refine spec_enter Tryz.func149 rfl rfl rfl fun u R => ?_
  simp only [argsE, List.cons_append, List.nil_append]
  cases hok : tblOk l
  · rw [hok] at hck
    simp only [Bool.false_eq_true, if_false, false_and] at hck ⊢
    repeat' (first | (refine tl_is (.func 157) ?_; refine qC rfl rfl (hck) ?_; rintro v ρ' L' hle ⟨rfl, rfl, rfl⟩ <;> (try simp only [kM, kN, kO])) | (refine iBu ?_; refine tl_y (y_buildN rfl) rfl rfl ?_) | (refine i_op ?_; first | (refine i_qq ?_; refine qQ ?_) | refine qEf ?_) | refine tl_nil ?_ | (refine i_tc ?_; refine qTc ?_) | (refine i_te ?_; refine qTe ?_) | intro _)
    exact qE (L' := X) ⟨Hp.le_refl _, nilS, rfl, AS.nil, rfl⟩
  · rw [hok] at hck
    simp only [if_true, true_and] at hck ⊢
    have hdo1 := hdo hok
    repeat' (first | (refine tl_is (.func 157) ?_; refine qC rfl rfl (hck) ?_; rintro v ρ' L' hle ⟨rfl, rfl, rfl⟩ <;> (try simp only [kM, kN, kO])) | (refine tl_is (.func 73) ?_; refine qC rfl rfl (hcl) ?_; rintro v ρ' L' hle ⟨rfl, sp, hown, rfl⟩ <;> (try simp only [kM, kN, kO])) | (refine iBu ?_; refine tl_y (y_buildN rfl) rfl rfl ?_) | (refine i_op ?_; first | (refine i_qq ?_; refine qQ ?_) | refine qEf ?_) | refine tl_nil ?_ | (refine i_tc ?_; refine qTc ?_) | (refine i_te ?_; refine qTe ?_) | intro _)
    obtain ⟨va, vc, rfl, hvc⟩ := hown.slice
    rename_i pb
    by_cases he : e = 0
    · subst he
      simp only [if_true]
      repeat' (first | (refine tl_is (.tmp 16) ?_; refine qC rfl rfl (hdo1 pb _ sp hown) ?_; rintro v ρ' L' hle ⟨rfl, rfl, v', sp', hown', rfl⟩ <;> (try simp only [kM, kN, kO])) | (refine iBu ?_; refine tl_y (y_buildN rfl) rfl rfl ?_) | (refine i_op ?_; first | (refine i_qq ?_; refine qQ ?_) | refine qEf ?_) | refine tl_nil ?_ | (refine i_tc ?_; refine qTc ?_) | (refine i_te ?_; refine qTe ?_) | intro _)
      refine te_freeze (ownC v' (flatP l') sp' 125) (fun ρ3 hle3 hfz => ?_)
      obtain ⟨sa, sc, e1, hsc, hA2⟩ := hown'.aIn rfl (fun x _ => ckPV_len x) hfz
      subst e1
      exact qE (L' := X) ⟨hle3, ⟨sa, l'.length, sc⟩, rfl, ⟨hA2, hl', hsc⟩, rfl⟩
    · simp only [he, if_false]
      repeat' (first | (refine tl_is (.tmp 16) ?_; refine qC rfl rfl (hdo1 pb _ sp hown) ?_; rintro v ρ' L' hle ⟨rfl, rfl, v', sp', hown', rfl⟩ <;> (try simp only [kM, kN, kO])) | (refine iBu ?_; refine tl_y (y_buildN rfl) rfl rfl ?_) | (refine i_op ?_; first | (refine i_qq ?_; refine qQ ?_) | refine qEf ?_) | refine tl_nil ?_ | (refine i_tc ?_; refine qTc ?_) | (refine i_te ?_; refine qTe ?_) | intro _)
      exact qE (L' := X) ⟨Hp.le_refl _, nilS, rfl, AS.nil, rfl⟩
abbrev recC (rb : Nat) (v : RV) (r : Rc) : List (Nat × Obj) := [(rb, .cells ⟨recV v r⟩ 30 (0, 0))]
theorem touchI_len {lsn : Nat} : ∀ {xs : List Im} {l : List CkP}, (touchI lsn xs l).length ≤ l.length + xs.length
  | [], l => by simp [touchI]
  | x :: r, l => by
    rw [touchI]
    have h1 := touchI_len (lsn := lsn) (xs := r) (l := addP x.page lsn l)
    have h2 := addP_len (page := x.page) (lsn := lsn) (l := l)
    simp only [List.length_cons]; omega
theorem touch1_spec (ρ : Hp) (l : List CkP) (hl : l.length ≤ 1000) (ht : tblOk l = true) (v : RV) (r : Rc) (h : RcIn ρ v r) (hi : v.i.n ≤ 1000) (pb rb : Nat) (vv : Value) (sp : List Value) (hown : OwnS vv l.length (flatP l) sp 2) :
    Spec Tryz.prog 150 [.pointer (some ⟨pb, 0, none⟩), .pointer (some ⟨rb, 0, none⟩)] ρ ([pC pb vv, ownC vv (flatP l) sp 125] ++ [recC rb v r])
      (fun z ρ' L' => z = .int .i64 (if recOk r then 0 else 220) ∧ ρ' = ρ ∧ ∃ v' sp', OwnS v' (if recOk r then touchP r l else l).length (flatP (if recOk r then touchP r l else l)) sp' 2 ∧ L' = [pC pb v', ownC v' (flatP (if recOk r then touchP r l else l)) sp' 125] ++ [recC rb v r]) := by
  have hck := rcheck_spec ρ v r h
  have hin := h.i.at'.len
  have hA := h.i.at'
  refine spec_enter Tryz.func150 rfl rfl rfl fun u R => ?_
  simp only [argsE, List.cons_append, List.nil_append]
  cases hok : recOk r
  · rw [hok] at hck
    simp only [Bool.false_eq_true, if_false] at hck ⊢
    repeat' (first | (refine tl_is (.func 27) ?_; refine qC rfl rfl (hck) ?_; rintro v ρ' L' hle ⟨rfl, rfl, rfl⟩ <;> (try simp only [kM, kN, kO])) | (refine iBu ?_; refine tl_y (y_buildN rfl) rfl rfl ?_) | (refine i_op ?_; first | (refine i_qq ?_; refine qQ ?_) | refine qEf ?_) | refine tl_nil ?_ | (refine i_tc ?_; refine qTc ?_) | (refine i_te ?_; refine qTe ?_) | intro _)
    exact qE (L' := [pC pb vv, ownC vv (flatP l) sp 125, recC rb v r]) ⟨rfl, rfl, vv, sp, hown, rfl⟩
  · rw [hok] at hck
    simp only [if_true] at hck ⊢
    have hfacts : (1 ≤ r.lsn ∧ r.lsn ≤ 1099511627776) ∧ (r.ims ≠ [] → ∀ x ∈ r.ims, pageOk x.page = true) := by
      unfold recOk at hok
      simp only [Bool.and_eq_true, decide_eq_true_eq] at hok
      obtain ⟨_, hh, ha, hb⟩ := hok
      unfold headOk at hh
      rw [decide_eq_true_eq] at hh
      refine ⟨⟨hh.1, hh.2.1⟩, fun hne x hx => ?_⟩
      have him : ∃ b, imsOk b r.ims = true := by
        unfold bareOk at hb
        rw [decide_eq_true_eq] at hb
        rcases hb.2.1 with h0 | h2 | h5
        · exact absurd h0 hne
        · unfold askOk at ha; rw [if_pos h2, Bool.and_eq_true] at ha; exact ⟨true, ha.2⟩
        · unfold askOk at ha
          rw [if_neg (by omega), if_neg (by omega), if_neg (by omega), if_pos h5, Bool.and_eq_true] at ha; exact ⟨false, ha.2⟩
      obtain ⟨b, him⟩ := him
      unfold imsOk upB at him
      rw [Bool.and_eq_true] at him
      obtain ⟨j, hj, rfl⟩ := List.mem_iff_getElem.1 hx
      have := ((risesB_true him.2 (Nat.le_refl _)).2 j hj hj).1
      unfold imOk at this
      rw [Bool.and_eq_true] at this
      exact this.1
    obtain ⟨⟨hl1, hl2⟩, hpg⟩ := hfacts
    unfold touchP
    generalize hQ : touchI r.lsn r.ims l = Q
    repeat' (first | (refine tl_is (.func 27) ?_; refine qC rfl rfl (hck) ?_; rintro v ρ' L' hle ⟨rfl, rfl, rfl⟩ <;> (try simp only [kM, kN, kO])) | (refine iBu ?_; refine tl_y (y_buildN rfl) rfl rfl ?_) | (refine i_op ?_; first | (refine i_qq ?_; refine qQ ?_) | refine qEf ?_) | refine tl_nil ?_ | (refine i_tc ?_; refine qTc ?_) | (refine i_te ?_; refine qTe ?_) | intro _)
    refine tc_loop_g [(0, _), (1, _), (3, _), (15, _), (16, _)] (fun (ζ : (Nat) × (Value) × (List Value) × (List CkP)) => [(17, .int .i64 ζ.1)]) (fun (ζ : (Nat) × (Value) × (List Value) × (List CkP)) => ρ') (fun (ζ : (Nat) × (Value) × (List Value) × (List CkP)) => [pC pb ζ.2.1, ownC ζ.2.1 (flatP ζ.2.2.2) ζ.2.2.1 125, recC rb v r]) (fun (ζ : (Nat) × (Value) × (List Value) × (List CkP)) => ζ.1 ≤ v.i.n ∧ OwnS ζ.2.1 ζ.2.2.2.length (flatP ζ.2.2.2) ζ.2.2.1 2 ∧ tblOk ζ.2.2.2 = true ∧ ζ.2.2.2.length ≤ 1000 + ζ.1 ∧ touchI r.lsn (r.ims.drop ζ.1) ζ.2.2.2 = Q) (fun (ζ : (Nat) × (Value) × (List Value) × (List CkP)) => v.i.n - ζ.1) ((0, vv, sp, l)) (⟨Nat.zero_le _, hown, ht, by omega, hQ⟩) ev_le ev_le rfl tk ?_
    rintro ⟨k, v1, sp1, l1⟩ hI
    try simp only [List.cons_append, List.nil_append, List.append_assoc, List.append_eq] at hI ⊢
    try dsimp only at hI ⊢
    obtain ⟨hk, hown1, ht1, hlen1, hq1⟩ := hI
    obtain ⟨va, vc, rfl, hvc⟩ := hown1.slice
    by_cases hlt : k < v.i.n
    · obtain ⟨b, off, C, T, fr, e1, hb, hfit, hc⟩ := hA.get (show k < r.ims.length by omega)
      have hmem := List.getElem_mem (show k < r.ims.length by omega)
      rw [List.drop_eq_getElem_cons (show k < r.ims.length by omega), touchI] at hq1
      generalize r.ims[k]'(by omega) = x at *
      have hpx := hpg (List.ne_nil_of_mem hmem) x hmem
      unfold pageOk at hpx
      rw [decide_eq_true_eq] at hpx
      have hat := at_own ρ' (.slice va l1.length vc) sp1 l1 (by omega) hown1 x.page
      rw [e1]
      repeat' (first | (refine iBu ?_; refine tl_y (y_buildN rfl) rfl rfl ?_) | (refine i_op ?_; first | (refine i_qq ?_; refine qQ ?_) | refine qEf ?_) | refine tl_nil ?_ | (refine i_tc ?_; refine qTc ?_) | (refine i_te ?_; refine qTe ?_) | intro _)
      rename_i xb
      refine tc_any (Stays _ _ ([pC pb (.slice va l1.length vc), [(xb, .cells ⟨imV x⟩ 128 (0, 0))]])) (stays_of (hT := tk) (Hp.le_refl _)) ?_
      all_goals refine rMv 0 ?_
      all_goals refine rNc 1 ?_
      all_goals refine rLd 2 ?_
      all_goals refine rFa 3 ?_
      all_goals refine rLd 4 ?_
      all_goals (refine rStep (i := 5) ?_; ((try refine qWant ?_); (first | (refine tl_is (.func 151) ?_; refine qC rfl rfl (hat) ?_; rintro v ρ' L' hle ⟨rfl, i, there, rfl, hAt, rfl⟩ <;> (try simp only [kM, kN, kO])) | (refine qEf ?_; try intro _)) <;> ((try simp only [kM, kN, kO]); refine tl_nil ?_; refine rNext ?_)))
      all_goals refine rFull ?_
      all_goals refine rMv 6 ?_
      all_goals refine rEx 7 ?_
      all_goals refine rEx 8 ?_
      all_goals refine rAs 9 ?_
      all_goals refine rAs 10 ?_
      all_goals refine rDone ?_
      have hadd := hAt.add (lsn := r.lsn) ht1
      have htb := addP_tbl (page := x.page) (lsn := r.lsn) hpx.2 hl1 hl2 (show (-1 : Int) < x.page by omega) ht1
      have hal := addP_len (page := x.page) (lsn := r.lsn) (l := l1)
      cases there
      · rw [if_neg (by simp)] at hadd
        repeat' (first | (refine iBu ?_; refine tl_y (y_buildN rfl) rfl rfl ?_) | (refine i_op ?_; first | (refine i_qq ?_; refine qQ ?_) | refine qEf ?_) | refine tl_nil ?_ | (refine i_tc ?_; refine qTc ?_) | (refine i_te ?_; refine qTe ?_) | intro _)
        refine tc_phase 13 (Stays _ _ ([pC pb (.slice va l1.length vc), [(xb, .cells ⟨imV x⟩ 128 (0, 0))], recC rb v r])) (by decide +kernel) (stays_of (hT := tk) (Hp.le_refl _)) ?_
        simp only [List.take_succ_cons, List.take_zero]
        all_goals refine rMv 0 ?_
        all_goals refine rMv 1 ?_
        all_goals refine rNc 2 ?_
        all_goals refine rLd 3 ?_
        all_goals refine rMv 4 ?_
        all_goals refine rFa 5 ?_
        all_goals refine rLd 6 ?_
        all_goals refine rFa 7 ?_
        all_goals refine rLd 8 ?_
        all_goals refine rBu 9 ?_ (y := fun _ _ => y_buildN rfl)
        all_goals (refine rStep (i := 10) ?_; ((try refine qWant ?_); (first | (refine tl_buildSliceA (css := [ckPV ⟨x.page, r.lsn⟩]) (sz := 2) rfl rfl rfl rfl (by simp) (by simp) rfl (fun bs => ?_); simp only [List.flatten_cons, List.flatten_nil, List.append_nil]) | (refine qEf ?_; try intro _)) <;> ((try simp only [kM, kN, kO]); refine tl_nil ?_; refine rNext ?_)))
        all_goals (refine rStep (i := 11) ?_; ((try refine qWant ?_); (first | (refine tl_is (.func 152) ?_; refine qC rfl rfl (insert_spec _ _ sp1 l1 (by omega) hown1 i hAt.le _ ⟨x.page, r.lsn⟩) ?_; rintro v ρ' L' hle ⟨rfl, sp2, hown2, rfl⟩ <;> (try simp only [kM, kN, kO])) | (obtain ⟨va2, vc2, rfl, hvc2⟩ := hown2.slice; refine qEf ?_) | (refine qEf ?_; try intro _)) <;> ((try simp only [kM, kN, kO]); refine tl_nil ?_; refine rNext ?_)))
        all_goals refine rNc 12 ?_
        all_goals refine rDone ?_
        all_goals refine te_phase (fuel := 1) (m := [true, true, true, true, true, true, true, true, true, true, true, true, true, false]) (Stays _ _ ([])) rfl rfl (stays_of (hT := tk) (Hp.le_refl _)) ?_
        all_goals (refine rStep (i := 13) ?_; ((try refine qWant ?_); (first | (obtain ⟨va2, vc2, rfl, hvc2⟩ := hown2.slice; refine qEf ?_) | (refine qEf ?_; try intro _)) <;> ((try simp only [kM, kN, kO]); refine tl_nil ?_; refine rNext ?_)))
        all_goals refine rDone ?_
        all_goals (repeat' (first | (refine iBu ?_; refine tl_y (y_buildN rfl) rfl rfl ?_) | (refine i_op ?_; first | (refine i_qq ?_; refine qQ ?_) | refine qEf ?_) | refine tl_nil ?_ | (refine i_tc ?_; refine qTc ?_) | (refine i_te ?_; refine qTe ?_) | intro _))
        rw [← hadd] at hown2 ⊢
        have hln : l1.length + 1 = (addP x.page r.lsn l1).length := by rw [hadd]; have := hAt.le; simp; omega
        rw [hln] at hown2 ⊢
        rw [← e1]
        refine te_round_g (k + 1, _, sp2, addP x.page r.lsn l1) (⟨hlt, hown2, htb, by dsimp only; omega, hq1⟩) ev_le ev_le rfl tk inferInstance (by first | omega | (dsimp only; omega))
      · rw [if_pos rfl] at hadd
        rw [hadd] at hq1
        repeat' (first | (refine iBu ?_; refine tl_y (y_buildN rfl) rfl rfl ?_) | (refine i_op ?_; first | (refine i_qq ?_; refine qQ ?_) | refine qEf ?_) | refine tl_nil ?_ | (refine i_tc ?_; refine qTc ?_) | (refine i_te ?_; refine qTe ?_) | intro _)
        rw [← e1]
        refine te_round_g (k + 1, _, sp1, l1) (⟨hlt, hown1, ht1, by dsimp only; omega, hq1⟩) ev_le ev_le rfl tk inferInstance (by first | omega | (dsimp only; omega))
    · have hk2 : k = r.ims.length := by omega
      rw [hk2, List.drop_length, touchI] at hq1
      subst hq1
      repeat' (first | (refine iBu ?_; refine tl_y (y_buildN rfl) rfl rfl ?_) | (refine i_op ?_; first | (refine i_qq ?_; refine qQ ?_) | refine qEf ?_) | refine tl_nil ?_ | (refine i_tc ?_; refine qTc ?_) | (refine i_te ?_; refine qTe ?_) | intro _)
      exact qE (L' := [pC pb (.slice va l1.length vc), ownC (.slice va l1.length vc) (flatP l1) sp1 125, recC rb v r]) ⟨rfl, rfl, _, sp1, hown1, rfl⟩
end Go.Proofs.E

namespace Go.Proofs.E
open Go
set_option linter.unusedVariables false
set_option linter.unusedSimpArgs false
set_option linter.unusedSectionVars false
set_option maxRecDepth 4000
set_option maxHeartbeats 1000000
attribute [local irreducible] Yl TL TC TE Spec YSpec R1 Hp.le EnvLe TS TR YS Stays
-- BN
def touchE (l : List CkP) (r : Rc) : Int := if tblOk l then (if recOk r then 0 else 220) else 320
def touchR (l : List CkP) (r : Rc) : List CkP := if tblOk l = true ∧ (if recOk r then (0 : Int) else 220) = 0 then (if recOk r then touchP r l else l) else []
theorem touch_spec (ρ : Hp) (s : SV) (l : List CkP) (h : AS ρ 2 ckPV s l) (hb : l.length ≤ 1000) (v : RV) (r : Rc) (hr : RcIn ρ v r) (hi : v.i.n ≤ 1000) :
    Spec Tryz.prog 67 [.slice s.a s.n s.c, .agg ⟨recV v r⟩] ρ [] (fun z ρ' L' => ρ.le ρ' ∧ ∃ s' : SV, z = .tuple ⟨[.slice s'.a s'.n s'.c, .int .i64 (touchE l r)]⟩ ∧ AS ρ' 2 ckPV s' (touchR l r) ∧ L' = []) := by
  have hin := hr.i.at'.len
  have hlen : (if recOk r then touchP r l else l).length ≤ 1000000 := by
    have := touchI_len (lsn := r.lsn) (xs := r.ims) (l := l)
    split
    · unfold touchP; omega
    · omega
  have hw := fun rb => with_spec ρ s l h 150 [.pointer (some ⟨rb, 0, none⟩)] [recC rb v r] (if recOk r then 0 else 220) (if recOk r then touchP r l else l) hlen (fun ht pb vv sp hown => touch1_spec ρ l hb ht v r hr hi pb rb vv sp hown)
  refine spec_enter Tryz.func67 rfl rfl rfl fun u R => ?_
  simp only [argsE, List.cons_append, List.nil_append]
  repeat' (first | (refine tl_is (.func 149) ?_; refine qC rfl rfl (hw _) ?_; rintro v ρ' L' hle ⟨hle1, s', rfl, hs', rfl⟩ <;> (try simp only [kM, kN, kO])) | (refine iBu ?_; refine tl_y (y_buildN rfl) rfl rfl ?_) | (refine i_op ?_; first | (refine i_qq ?_; refine qQ ?_) | refine qEf ?_) | refine tl_nil ?_ | (refine i_tc ?_; refine qTc ?_) | (refine i_te ?_; refine qTe ?_) | intro _)
  exact qE (L' := []) ⟨hle1, s', rfl, hs', rfl⟩
def cleanE1 (page : Int) (l : List CkP) : Int := if (recP page l).isSome then 0 else 4
theorem clean1_spec (ρ : Hp) (l : List CkP) (hl : l.length ≤ 1000) (ht : tblOk l = true) (page : Int) (pb nb : Nat) (vv : Value) (sp : List Value) (hown : OwnS vv l.length (flatP l) sp 2) :
    Spec Tryz.prog 153 [.pointer (some ⟨pb, 0, none⟩), .pointer (some ⟨nb, 0, none⟩)] ρ ([pC pb vv, ownC vv (flatP l) sp 125] ++ numC nb page)
      (fun z ρ' L' => z = .int .i64 (cleanE1 page l) ∧ ρ' = ρ ∧ ∃ v' sp', OwnS v' (delP page l).length (flatP (delP page l)) sp' 2 ∧ L' = [pC pb v', ownC v' (flatP (delP page l)) sp' 125] ++ numC nb page) := by
  have hat := at_own ρ vv sp l (by omega) hown page
  obtain ⟨va, vc, rfl, hvc⟩ := hown.slice
  refine spec_enter Tryz.func153 rfl rfl rfl fun u R => ?_
  simp only [argsE, List.cons_append, List.nil_append]
  repeat' (first | (refine iBu ?_; refine tl_y (y_buildN rfl) rfl rfl ?_) | (refine i_op ?_; first | (refine i_qq ?_; refine qQ ?_) | refine qEf ?_) | refine tl_nil ?_ | (refine i_tc ?_; refine qTc ?_) | (refine i_te ?_; refine qTe ?_) | intro _)
  refine tc_any (Stays _ _ ([pC pb (.slice va l.length vc), [(nb, .cells ⟨[.int .i64 page]⟩ 3 (0, 0))]])) (stays_of (hT := tk) (Hp.le_refl _)) ?_
  all_goals refine rMv 0 ?_
  all_goals refine rNc 1 ?_
  all_goals refine rLd 2 ?_
  all_goals refine rLd 3 ?_
  all_goals (refine rStep (i := 4) ?_; ((try refine qWant ?_); (first | (refine tl_is (.func 151) ?_; refine qC rfl rfl (hat) ?_; rintro v ρ' L' hle ⟨rfl, i, there, rfl, hAt, rfl⟩ <;> (try simp only [kM, kN, kO])) | (refine qEf ?_; try intro _)) <;> ((try simp only [kM, kN, kO]); refine tl_nil ?_; refine rNext ?_)))
  all_goals refine rFull ?_
  all_goals refine rMv 5 ?_
  all_goals refine rEx 6 ?_
  all_goals refine rEx 7 ?_
  all_goals refine rAs 8 ?_
  all_goals refine rAs 9 ?_
  all_goals refine rDone ?_
  have hrec := hAt.rec' ht
  unfold cleanE1
  cases there
  · rw [if_neg (by simp)] at hrec
    rw [hrec]
    have hd : delP page l = l := by
      unfold delP
      rw [List.filter_eq_self]
      intro p hp
      have := List.find?_eq_none.1 hrec p hp
      simpa using this
    rw [hd]
    repeat' (first | (refine iBu ?_; refine tl_y (y_buildN rfl) rfl rfl ?_) | (refine i_op ?_; first | (refine i_qq ?_; refine qQ ?_) | refine qEf ?_) | refine tl_nil ?_ | (refine i_tc ?_; refine qTc ?_) | (refine i_te ?_; refine qTe ?_) | intro _)
    exact qE (L' := [pC pb (.slice va l.length vc), ownC (.slice va l.length vc) (flatP l) sp 125, [(nb, .cells ⟨[.int .i64 page]⟩ 3 (0, 0))]]) ⟨rfl, rfl, _, sp, hown, rfl⟩
  · rw [if_pos rfl] at hrec
    obtain ⟨h1, h2⟩ := hAt.hit rfl
    rw [hrec, List.getElem?_eq_getElem h1]
    have hdel := hAt.del ht
    have hdl : l.length - 1 = (delP page l).length := by rw [hdel]; simp; omega
    repeat' (first | (refine tl_is (.func 154) ?_; refine qC rfl rfl (delete_spec _ _ sp l (by omega) hown i h1) ?_; rintro v ρ' L' hle ⟨rfl, sp2, hown2, rfl⟩ <;> (try simp only [kM, kN, kO])) | (obtain ⟨va2, vc2, rfl, hvc2⟩ := hown2.slice; refine qEf ?_) | (refine iBu ?_; refine tl_y (y_buildN rfl) rfl rfl ?_) | (refine i_op ?_; first | (refine i_qq ?_; refine qQ ?_) | refine qEf ?_) | refine tl_nil ?_ | (refine i_tc ?_; refine qTc ?_) | (refine i_te ?_; refine qTe ?_) | intro _)
    rw [← hdel, hdl] at hown2
    rw [← hdel, hdl]
    exact qE (L' := [pC pb (.slice va2 (delP page l).length vc2), ownC (.slice va2 (delP page l).length vc2) (flatP (delP page l)) sp2 125, [(nb, .cells ⟨[.int .i64 page]⟩ 3 (0, 0))]]) ⟨rfl, rfl, _, sp2, hown2, rfl⟩
def cleanE (page : Int) (l : List CkP) : Int := if tblOk l then cleanE1 page l else 320
def cleanR (page : Int) (l : List CkP) : List CkP := if tblOk l = true ∧ cleanE1 page l = 0 then delP page l else []
theorem clean_spec (ρ : Hp) (s : SV) (l : List CkP) (h : AS ρ 2 ckPV s l) (hb : l.length ≤ 1000) (page : Int) :
    Spec Tryz.prog 69 [.slice s.a s.n s.c, .int .i64 page] ρ [] (fun z ρ' L' => ρ.le ρ' ∧ ∃ s' : SV, z = .tuple ⟨[.slice s'.a s'.n s'.c, .int .i64 (cleanE page l)]⟩ ∧ AS ρ' 2 ckPV s' (cleanR page l) ∧ L' = []) := by
  have hlen : (delP page l).length ≤ 1000000 := by have := List.length_filter_le (fun p : CkP => decide (p.page ≠ page)) l; unfold delP; omega
  have hw := fun nb => with_spec ρ s l h 153 [.pointer (some ⟨nb, 0, none⟩)] (numC nb page) (cleanE1 page l) (delP page l) hlen (fun ht pb vv sp hown => clean1_spec ρ l hb ht page pb nb vv sp hown)
  refine spec_enter Tryz.func69 rfl rfl rfl fun u R => ?_
  simp only [argsE, List.cons_append, List.nil_append]
  repeat' (first | (refine tl_is (.func 149) ?_; refine qC rfl rfl (hw _) ?_; rintro v ρ' L' hle ⟨hle1, s', rfl, hs', rfl⟩ <;> (try simp only [kM, kN, kO])) | (refine iBu ?_; refine tl_y (y_buildN rfl) rfl rfl ?_) | (refine i_op ?_; first | (refine i_qq ?_; refine qQ ?_) | refine qEf ?_) | refine tl_nil ?_ | (refine i_tc ?_; refine qTc ?_) | (refine i_te ?_; refine qTe ?_) | intro _)
  exact qE (L' := []) ⟨hle1, s', rfl, hs', rfl⟩
def redoI (r : Rc) (page : Int) : Option Im := if recOk r then r.ims.find? (fun x => decide (x.page = page)) else none
def contO (o : Option Im) : List Value := match o with | some x => contV x.a.kind x.av | none => contV 0 ⟨none, 0, 0, none, 0, 0⟩
theorem idx_find {l : List Im} {page : Int} : (idxI (fun x : Im => decide (x.page = page)) l = -1 ∧ l.find? (fun x => decide (x.page = page)) = none) ∨ ∃ i, ∃ h : i < l.length, idxI (fun x : Im => decide (x.page = page)) l = (i : Int) ∧ l.find? (fun x => decide (x.page = page)) = some l[i] := by
  unfold idxI
  cases hf : l.findIdx? (fun x : Im => decide (x.page = page)) with
  | none =>
    left
    rw [List.findIdx?_eq_none_iff] at hf
    exact ⟨rfl, List.find?_eq_none.2 (fun x hx => by rw [hf x hx]; simp)⟩
  | some i =>
    right
    obtain ⟨h1, h2, h3⟩ := List.findIdx?_eq_some_iff_getElem.1 hf
    exact ⟨i, h1, rfl, List.find?_eq_some_iff_getElem.2 ⟨h2, i, h1, rfl, fun j hj => by have := h3 j hj; simpa using this⟩⟩
theorem redoes_spec (ρ : Hp) (v : RV) (r : Rc) (h : RcIn ρ v r) (page : Int) : Spec Tryz.prog 156 [.agg ⟨recV v r⟩, .int .i64 page] ρ []
    (fun z ρ' L' => z = .tuple ⟨[.agg ⟨contO (redoI r page)⟩, .bool (redoI r page).isSome]⟩ ∧ ρ' = ρ ∧ L' = []) := by
  have hck := rcheck_spec ρ v r h
  have hidx := fun nb => idxIm_spec ρ v.i.a v.i.n v.i.c r.ims h.i.at' h.i.big nb page
  have hin := h.i.at'.len
  have hn := h.i.big
  refine spec_enter Tryz.func156 rfl rfl rfl fun u R => ?_
  simp only [argsE, List.cons_append, List.nil_append]
  unfold redoI
  rcases idx_find (l := r.ims) (page := page) with ⟨e1, e2⟩ | ⟨i, hi, e1, e2⟩
  · rw [e1] at hidx
    rw [e2]
    have : (if recOk r = true then none else none : Option Im) = none := by split <;> rfl
    rw [this]
    repeat' (first | (refine tl_is (.func 232) ?_; refine qC rfl rfl (hidx _) ?_; rintro v ρ' L' hle ⟨rfl, rfl, rfl⟩ <;> (try simp only [kM, kN, kO])) | (refine iBu ?_; refine tl_y (y_buildN rfl) rfl rfl ?_) | (refine i_op ?_; first | (refine i_qq ?_; refine qQ ?_) | refine qEf ?_) | refine tl_nil ?_ | (refine i_tc ?_; refine qTc ?_) | (refine i_te ?_; refine qTe ?_) | intro _)
    exact qE ⟨rfl, rfl, rfl⟩
  · rw [e1] at hidx
    rw [e2]
    cases hok : recOk r
    · rw [hok] at hck
      repeat' (first | (refine tl_is (.func 232) ?_; refine qC rfl rfl (hidx _) ?_; rintro v ρ' L' hle ⟨rfl, rfl, rfl⟩ <;> (try simp only [kM, kN, kO])) | (refine tl_is (.func 27) ?_; refine qC rfl rfl (hck) ?_; rintro v ρ' L' hle ⟨rfl, rfl, rfl⟩ <;> (try simp only [kM, kN, kO, if_false, Bool.false_eq_true])) | (refine iBu ?_; refine tl_y (y_buildN rfl) rfl rfl ?_) | (refine i_op ?_; first | (refine i_qq ?_; refine qQ ?_) | refine qEf ?_) | refine tl_nil ?_ | (refine i_tc ?_; refine qTc ?_) | (refine i_te ?_; refine qTe ?_) | intro _)
      exact qE ⟨rfl, rfl, rfl⟩
    · rw [hok] at hck
      obtain ⟨b, off, C, T, fr, f1, hb, hfit, hc⟩ := h.i.at'.get hi
      have hsub : List.take 3 (List.drop (off + i * 7 + 4) C) = contV r.ims[i].a.kind r.ims[i].av := by
        have := congrArg (fun l => (l.drop 4).take 3) hc
        simp only [List.drop_take, List.take_take, List.drop_drop] at this
        exact this
      rw [if_pos rfl]
      generalize r.ims[i] = x at *
      rw [show recV v r = [.int .i64 r.kind, .int .u64 r.lsn, .int .i64 r.txn, .int .u64 r.prev, .int .u64 r.next, .slice (some ⟨b, off, none⟩) v.i.n v.i.c, .slice v.s.a v.s.n v.s.c, .int .i64 r.nextTxn, .slice v.t.a v.t.n v.t.c, .slice v.d.a v.d.n v.d.c] by rw [← f1]]
      rw [show recV v r = [.int .i64 r.kind, .int .u64 r.lsn, .int .i64 r.txn, .int .u64 r.prev, .int .u64 r.next, .slice (some ⟨b, off, none⟩) v.i.n v.i.c, .slice v.s.a v.s.n v.s.c, .int .i64 r.nextTxn, .slice v.t.a v.t.n v.t.c, .slice v.d.a v.d.n v.d.c] by rw [← f1]] at hck
      rw [f1] at hidx
      repeat' (first | (refine tl_is (.func 232) ?_; refine qC rfl rfl (hidx _) ?_; rintro v ρ' L' hle ⟨rfl, rfl, rfl⟩ <;> (try simp only [kM, kN, kO])) | (refine tl_is (.func 27) ?_; refine qC rfl rfl (hck) ?_; rintro v ρ' L' hle ⟨rfl, rfl, rfl⟩ <;> (try simp only [kM, kN, kO, if_true])) | (refine iBu ?_; refine tl_y (y_buildN rfl) rfl rfl ?_) | (refine i_op ?_; first | (refine i_qq ?_; refine qQ ?_) | refine qEf ?_) | refine tl_nil ?_ | (refine i_tc ?_; refine qTc ?_) | (refine i_te ?_; refine qTe ?_) | intro _)
      exact qE ⟨rfl, rfl, rfl⟩
end Go.Proofs.E

namespace Go.Proofs.E
open Go
set_option linter.unusedVariables false
set_option linter.unusedSimpArgs false
set_option linter.unusedSectionVars false
set_option maxRecDepth 4000
set_option maxHeartbeats 1000000
attribute [local irreducible] Yl TL TC TE Spec YSpec R1 Hp.le EnvLe TS TR YS Stays
-- BN
def needsB (l : List CkP) (r : Rc) (page : Int) : Bool := (redoI r page).isSome && (tblOk l && (match recP page l with | some p => decide (p.since ≤ r.lsn) | none => false))
theorem needs_spec (ρ : Hp) (s : SV) (l : List CkP) (h : AS ρ 2 ckPV s l) (v : RV) (r : Rc) (hr : RcIn ρ v r) (page : Int) :
    Spec Tryz.prog 71 [.slice s.a s.n s.c, .agg ⟨recV v r⟩, .int .i64 page] ρ [] (fun z ρ' L' => z = .bool (needsB l r page) ∧ ρ' = ρ ∧ L' = []) := by
  have hl := h.at'.len
  have hn := h.big
  have hat := at_spec ρ s l h page
  have hck := ckcheck_spec ρ s l h
  have hre := redoes_spec ρ v r hr page
  unfold needsB
  have hone : (contO (redoI r page)).all (·.oneCell') = true := by unfold contO; split <;> rfl
  have hlen3 : (contO (redoI r page)).length = 3 := by unfold contO; split <;> rfl
  generalize contO (redoI r page) = co at *
  generalize hb1 : (redoI r page).isSome = b1 at *
  obtain ⟨c0, c1, c2, rfl⟩ : ∃ c0 c1 c2, co = [c0, c1, c2] := by
    match co, hlen3 with
    | [c0, c1, c2], _ => exact ⟨c0, c1, c2, rfl⟩
  refine spec_enter Tryz.func71 rfl rfl rfl fun u R => ?_
  simp only [argsE, List.cons_append, List.nil_append]
  repeat' (first | (refine tl_is (.func 156) ?_; refine qC rfl rfl (hre) ?_; rintro v ρ' L' hle ⟨rfl, rfl, rfl⟩ <;> (try simp only [kM, kN, kO])) | (refine tl_is (.func 151) ?_; refine qC rfl rfl (hat) ?_; rintro v ρ' L' hle ⟨rfl, i, there, rfl, hAt, rfl⟩ <;> (try simp only [kM, kN, kO])) | (refine iBu ?_; refine tl_y (y_buildN rfl) rfl rfl ?_) | (refine i_op ?_; first | (refine i_qq ?_; refine qQ ?_) | refine qEf ?_) | refine tl_nil ?_ | (refine i_tc ?_; refine qTc ?_) | (refine i_te ?_; refine qTe ?_) | intro _)
  cases b1
  · rw [Bool.false_and]
    repeat' (first | (refine iBu ?_; refine tl_y (y_buildN rfl) rfl rfl ?_) | (refine i_op ?_; first | (refine i_qq ?_; refine qQ ?_) | refine qEf ?_) | refine tl_nil ?_ | (refine i_tc ?_; refine qTc ?_) | (refine i_te ?_; refine qTe ?_) | intro _)
    refine tc_any (Stays _ _ _) stays_refl ?_
    all_goals refine rMv 0 ?_
    all_goals refine rMv 1 ?_
    all_goals (first | refine wSkip 2 ?_ | refine wSkipU 2 ?_ | refine wMv 2 ?_ | (refine tr_guard (t := 24) rfl (fun hb => ?_) (fun hb => ?_) <;> (try simp only [kk] at hb) <;> first | refine wSkip 2 ?_ | refine wSkipU 2 ?_ | refine wMv 2 ?_))
    all_goals refine rPk 3 ?_
    all_goals refine rMv 4 ?_
    all_goals (first | refine wSkip 5 ?_ | refine wSkipU 5 ?_ | refine wMv 5 ?_ | (refine tr_guard (t := 27) rfl (fun hb => ?_) (fun hb => ?_) <;> (try simp only [kk] at hb) <;> first | refine wSkip 5 ?_ | refine wSkipU 5 ?_ | refine wMv 5 ?_))
    all_goals (first | refine wSkip 6 ?_ | refine wSkipU 6 ?_ | refine wMv 6 ?_ | (refine tr_guard (t := 27) rfl (fun hb => ?_) (fun hb => ?_) <;> (try simp only [kk] at hb) <;> first | refine wSkip 6 ?_ | refine wSkipU 6 ?_ | refine wMv 6 ?_))
    all_goals (first | refine wSkip 7 ?_ | refine wSkipU 7 ?_ | refine wIa 7 ?_ | (refine tr_guard (t := 27) rfl (fun hb => ?_) (fun hb => ?_) <;> (try simp only [kk] at hb) <;> first | refine wSkip 7 ?_ | refine wSkipU 7 ?_ | refine wIa 7 ?_))
    all_goals (first | refine wSkip 8 ?_ | refine wSkipU 8 ?_ | refine wFa 8 ?_ | (refine tr_guard (t := 27) rfl (fun hb => ?_) (fun hb => ?_) <;> (try simp only [kk] at hb) <;> first | refine wSkip 8 ?_ | refine wSkipU 8 ?_ | refine wFa 8 ?_))
    all_goals (first | refine wSkip 9 ?_ | refine wSkipU 9 ?_ | refine wLd 9 ?_ | (refine tr_guard (t := 27) rfl (fun hb => ?_) (fun hb => ?_) <;> (try simp only [kk] at hb) <;> first | refine wSkip 9 ?_ | refine wSkipU 9 ?_ | refine wLd 9 ?_))
    all_goals (first | refine wSkip 10 ?_ | refine wSkipU 10 ?_ | refine wFa 10 ?_ | (refine tr_guard (t := 27) rfl (fun hb => ?_) (fun hb => ?_) <;> (try simp only [kk] at hb) <;> first | refine wSkip 10 ?_ | refine wSkipU 10 ?_ | refine wFa 10 ?_))
    all_goals (first | refine wSkip 11 ?_ | refine wSkipU 11 ?_ | refine wLd 11 ?_ | (refine tr_guard (t := 27) rfl (fun hb => ?_) (fun hb => ?_) <;> (try simp only [kk] at hb) <;> first | refine wSkip 11 ?_ | refine wSkipU 11 ?_ | refine wLd 11 ?_))
    all_goals (first | refine wSkip 12 ?_ | refine wSkipU 12 ?_ | refine wCm 12 ?_ | (refine tr_guard (t := 27) rfl (fun hb => ?_) (fun hb => ?_) <;> (try simp only [kk] at hb) <;> first | refine wSkip 12 ?_ | refine wSkipU 12 ?_ | refine wCm 12 ?_))
    all_goals refine rPk 13 ?_
    all_goals refine rMv 14 ?_
    all_goals (first | refine wSkip 15 ?_ | refine wSkipU 15 ?_ | refine wMv 15 ?_ | (refine tr_guard (t := 37) rfl (fun hb => ?_) (fun hb => ?_) <;> (try simp only [kk] at hb) <;> first | refine wSkip 15 ?_ | refine wSkipU 15 ?_ | refine wMv 15 ?_))
    all_goals (first | refine wSkip 16 ?_ | refine wSkipU 16 ?_ | (refine rStep (i := 16) ?_; ((try refine qWant ?_); (first | (refine qEf ?_; try intro _)) <;> ((try simp only [kM, kN, kO]); refine tl_nil ?_; refine rNext ?_))))
    all_goals refine rFull ?_
    all_goals (first | refine wSkip 17 ?_ | refine wSkipU 17 ?_ | refine wCm 17 ?_ | (refine tr_guard (t := 37) rfl (fun hb => ?_) (fun hb => ?_) <;> (try simp only [kk] at hb) <;> first | refine wSkip 17 ?_ | refine wSkipU 17 ?_ | refine wCm 17 ?_))
    all_goals refine rPk 18 ?_
    all_goals refine rAs 19 ?_
    all_goals refine rDone ?_
    all_goals (repeat' (first | (refine iBu ?_; refine tl_y (y_buildN rfl) rfl rfl ?_) | (refine i_op ?_; first | (refine i_qq ?_; refine qQ ?_) | refine qEf ?_) | refine tl_nil ?_ | (refine i_tc ?_; refine qTc ?_) | (refine i_te ?_; refine qTe ?_) | intro _))
    all_goals exact qE ⟨rfl, rfl, rfl⟩
  · rw [Bool.true_and]
    cases there
    · have hz : (tblOk l && (match recP page l with | some p => decide (p.since ≤ r.lsn) | none => false)) = false := by
        cases ht : tblOk l with
        | false => rfl
        | true => rw [hAt.rec' ht, if_neg (by simp)]; rfl
      rw [hz]
      repeat' (first | (refine iBu ?_; refine tl_y (y_buildN rfl) rfl rfl ?_) | (refine i_op ?_; first | (refine i_qq ?_; refine qQ ?_) | refine qEf ?_) | refine tl_nil ?_ | (refine i_tc ?_; refine qTc ?_) | (refine i_te ?_; refine qTe ?_) | intro _)
      refine tc_any (Stays _ _ _) stays_refl ?_
      all_goals refine rMv 0 ?_
      all_goals refine rMv 1 ?_
      all_goals (first | refine wSkip 2 ?_ | refine wSkipU 2 ?_ | refine wMv 2 ?_ | (refine tr_guard (t := 24) rfl (fun hb => ?_) (fun hb => ?_) <;> (try simp only [kk] at hb) <;> first | refine wSkip 2 ?_ | refine wSkipU 2 ?_ | refine wMv 2 ?_))
      all_goals refine rPk 3 ?_
      all_goals refine rMv 4 ?_
      all_goals (first | refine wSkip 5 ?_ | refine wSkipU 5 ?_ | refine wMv 5 ?_ | (refine tr_guard (t := 27) rfl (fun hb => ?_) (fun hb => ?_) <;> (try simp only [kk] at hb) <;> first | refine wSkip 5 ?_ | refine wSkipU 5 ?_ | refine wMv 5 ?_))
      all_goals (first | refine wSkip 6 ?_ | refine wSkipU 6 ?_ | refine wMv 6 ?_ | (refine tr_guard (t := 27) rfl (fun hb => ?_) (fun hb => ?_) <;> (try simp only [kk] at hb) <;> first | refine wSkip 6 ?_ | refine wSkipU 6 ?_ | refine wMv 6 ?_))
      all_goals (first | refine wSkip 7 ?_ | refine wSkipU 7 ?_ | refine wIa 7 ?_ | (refine tr_guard (t := 27) rfl (fun hb => ?_) (fun hb => ?_) <;> (try simp only [kk] at hb) <;> first | refine wSkip 7 ?_ | refine wSkipU 7 ?_ | refine wIa 7 ?_))
      all_goals (first | refine wSkip 8 ?_ | refine wSkipU 8 ?_ | refine wFa 8 ?_ | (refine tr_guard (t := 27) rfl (fun hb => ?_) (fun hb => ?_) <;> (try simp only [kk] at hb) <;> first | refine wSkip 8 ?_ | refine wSkipU 8 ?_ | refine wFa 8 ?_))
      all_goals (first | refine wSkip 9 ?_ | refine wSkipU 9 ?_ | refine wLd 9 ?_ | (refine tr_guard (t := 27) rfl (fun hb => ?_) (fun hb => ?_) <;> (try simp only [kk] at hb) <;> first | refine wSkip 9 ?_ | refine wSkipU 9 ?_ | refine wLd 9 ?_))
      all_goals (first | refine wSkip 10 ?_ | refine wSkipU 10 ?_ | refine wFa 10 ?_ | (refine tr_guard (t := 27) rfl (fun hb => ?_) (fun hb => ?_) <;> (try simp only [kk] at hb) <;> first | refine wSkip 10 ?_ | refine wSkipU 10 ?_ | refine wFa 10 ?_))
      all_goals (first | refine wSkip 11 ?_ | refine wSkipU 11 ?_ | refine wLd 11 ?_ | (refine tr_guard (t := 27) rfl (fun hb => ?_) (fun hb => ?_) <;> (try simp only [kk] at hb) <;> first | refine wSkip 11 ?_ | refine wSkipU 11 ?_ | refine wLd 11 ?_))
      all_goals (first | refine wSkip 12 ?_ | refine wSkipU 12 ?_ | refine wCm 12 ?_ | (refine tr_guard (t := 27) rfl (fun hb => ?_) (fun hb => ?_) <;> (try simp only [kk] at hb) <;> first | refine wSkip 12 ?_ | refine wSkipU 12 ?_ | refine wCm 12 ?_))
      all_goals refine rPk 13 ?_
      all_goals refine rMv 14 ?_
      all_goals (first | refine wSkip 15 ?_ | refine wSkipU 15 ?_ | refine wMv 15 ?_ | (refine tr_guard (t := 37) rfl (fun hb => ?_) (fun hb => ?_) <;> (try simp only [kk] at hb) <;> first | refine wSkip 15 ?_ | refine wSkipU 15 ?_ | refine wMv 15 ?_))
      all_goals (first | refine wSkip 16 ?_ | refine wSkipU 16 ?_ | (refine rStep (i := 16) ?_; ((try refine qWant ?_); (first | (refine qEf ?_; try intro _)) <;> ((try simp only [kM, kN, kO]); refine tl_nil ?_; refine rNext ?_))))
      all_goals refine rFull ?_
      all_goals (first | refine wSkip 17 ?_ | refine wSkipU 17 ?_ | refine wCm 17 ?_ | (refine tr_guard (t := 37) rfl (fun hb => ?_) (fun hb => ?_) <;> (try simp only [kk] at hb) <;> first | refine wSkip 17 ?_ | refine wSkipU 17 ?_ | refine wCm 17 ?_))
      all_goals refine rPk 18 ?_
      all_goals refine rAs 19 ?_
      all_goals refine rDone ?_
      all_goals (repeat' (first | (refine iBu ?_; refine tl_y (y_buildN rfl) rfl rfl ?_) | (refine i_op ?_; first | (refine i_qq ?_; refine qQ ?_) | refine qEf ?_) | refine tl_nil ?_ | (refine i_tc ?_; refine qTc ?_) | (refine i_te ?_; refine qTe ?_) | intro _))
      all_goals exact qE ⟨rfl, rfl, rfl⟩
    · obtain ⟨h1, h2⟩ := hAt.hit rfl
      obtain ⟨b, off, C, T, fr, e1, hb, hfit, hc⟩ := h.at'.get h1
      have hrec : tblOk l = true → recP page l = some l[i] := fun ht => by rw [hAt.rec' ht, if_pos rfl, List.getElem?_eq_getElem h1]
      generalize l[i]'h1 = x at *
      have hce : C[off + i * 2 + 1]? = some (.int .u64 x.since) := by
        have := congrArg (fun l => l[1]?) hc
        simp only [List.getElem?_take, List.getElem?_drop] at this
        simpa using this
      have hpost : (tblOk l && (match recP page l with | some p => decide (p.since ≤ r.lsn) | none => false)) = (decide (x.since ≤ r.lsn) && tblOk l) := by
        cases ht : tblOk l with
        | false => simp
        | true => rw [hrec ht]; simp
      rw [hpost]
      rw [e1] at hck ⊢
      by_cases hle : x.since ≤ r.lsn
      · rw [decide_eq_true hle, Bool.true_and]
        cases ht : tblOk l
        · rw [ht] at hck
          repeat' (first | (refine iBu ?_; refine tl_y (y_buildN rfl) rfl rfl ?_) | (refine i_op ?_; first | (refine i_qq ?_; refine qQ ?_) | refine qEf ?_) | refine tl_nil ?_ | (refine i_tc ?_; refine qTc ?_) | (refine i_te ?_; refine qTe ?_) | intro _)
          refine tc_any (Stays _ _ _) stays_refl ?_
          all_goals refine rMv 0 ?_
          all_goals refine rMv 1 ?_
          all_goals (first | refine wSkip 2 ?_ | refine wSkipU 2 ?_ | refine wMv 2 ?_ | (refine tr_guard (t := 24) rfl (fun hb => ?_) (fun hb => ?_) <;> (try simp only [kk] at hb) <;> first | refine wSkip 2 ?_ | refine wSkipU 2 ?_ | refine wMv 2 ?_))
          all_goals refine rPk 3 ?_
          all_goals refine rMv 4 ?_
          all_goals (first | refine wSkip 5 ?_ | refine wSkipU 5 ?_ | refine wMv 5 ?_ | (refine tr_guard (t := 27) rfl (fun hb => ?_) (fun hb => ?_) <;> (try simp only [kk] at hb) <;> first | refine wSkip 5 ?_ | refine wSkipU 5 ?_ | refine wMv 5 ?_))
          all_goals (first | refine wSkip 6 ?_ | refine wSkipU 6 ?_ | refine wMv 6 ?_ | (refine tr_guard (t := 27) rfl (fun hb => ?_) (fun hb => ?_) <;> (try simp only [kk] at hb) <;> first | refine wSkip 6 ?_ | refine wSkipU 6 ?_ | refine wMv 6 ?_))
          all_goals (first | refine wSkip 7 ?_ | refine wSkipU 7 ?_ | refine wIa 7 ?_ | (refine tr_guard (t := 27) rfl (fun hb => ?_) (fun hb => ?_) <;> (try simp only [kk] at hb) <;> first | refine wSkip 7 ?_ | refine wSkipU 7 ?_ | refine wIa 7 ?_))
          all_goals (first | refine wSkip 8 ?_ | refine wSkipU 8 ?_ | refine wFa 8 ?_ | (refine tr_guard (t := 27) rfl (fun hb => ?_) (fun hb => ?_) <;> (try simp only [kk] at hb) <;> first | refine wSkip 8 ?_ | refine wSkipU 8 ?_ | refine wFa 8 ?_))
          all_goals (first | refine wSkip 9 ?_ | refine wSkipU 9 ?_ | refine wLd 9 ?_ | (refine tr_guard (t := 27) rfl (fun hb => ?_) (fun hb => ?_) <;> (try simp only [kk] at hb) <;> first | refine wSkip 9 ?_ | refine wSkipU 9 ?_ | refine wLd 9 ?_))
          all_goals (first | refine wSkip 10 ?_ | refine wSkipU 10 ?_ | refine wFa 10 ?_ | (refine tr_guard (t := 27) rfl (fun hb => ?_) (fun hb => ?_) <;> (try simp only [kk] at hb) <;> first | refine wSkip 10 ?_ | refine wSkipU 10 ?_ | refine wFa 10 ?_))
          all_goals (first | refine wSkip 11 ?_ | refine wSkipU 11 ?_ | refine wLd 11 ?_ | (refine tr_guard (t := 27) rfl (fun hb => ?_) (fun hb => ?_) <;> (try simp only [kk] at hb) <;> first | refine wSkip 11 ?_ | refine wSkipU 11 ?_ | refine wLd 11 ?_))
          all_goals (first | refine wSkip 12 ?_ | refine wSkipU 12 ?_ | refine wCm 12 ?_ | (refine tr_guard (t := 27) rfl (fun hb => ?_) (fun hb => ?_) <;> (try simp only [kk] at hb) <;> first | refine wSkip 12 ?_ | refine wSkipU 12 ?_ | refine wCm 12 ?_))
          all_goals refine rPk 13 ?_
          all_goals refine rMv 14 ?_
          all_goals (first | refine wSkip 15 ?_ | refine wSkipU 15 ?_ | refine wMv 15 ?_ | (refine tr_guard (t := 37) rfl (fun hb => ?_) (fun hb => ?_) <;> (try simp only [kk] at hb) <;> first | refine wSkip 15 ?_ | refine wSkipU 15 ?_ | refine wMv 15 ?_))
          all_goals (first | refine wSkip 16 ?_ | refine wSkipU 16 ?_ | (refine rStep (i := 16) ?_; ((try refine qWant ?_); (first | (refine tl_is (.func 157) ?_; refine qC rfl rfl (hck) ?_; rintro v ρ' L' hle ⟨rfl, rfl, rfl⟩ <;> (try simp only [kM, kN, kO, if_false, Bool.false_eq_true])) | (refine qEf ?_; try intro _)) <;> ((try simp only [kM, kN, kO]); refine tl_nil ?_; refine rNext ?_))))
          all_goals refine rFull ?_
          all_goals (first | refine wSkip 17 ?_ | refine wSkipU 17 ?_ | refine wCm 17 ?_ | (refine tr_guard (t := 37) rfl (fun hb => ?_) (fun hb => ?_) <;> (try simp only [kk] at hb) <;> first | refine wSkip 17 ?_ | refine wSkipU 17 ?_ | refine wCm 17 ?_))
          all_goals refine rPk 18 ?_
          all_goals refine rAs 19 ?_
          all_goals refine rDone ?_
          all_goals (repeat' (first | (refine iBu ?_; refine tl_y (y_buildN rfl) rfl rfl ?_) | (refine i_op ?_; first | (refine i_qq ?_; refine qQ ?_) | refine qEf ?_) | refine tl_nil ?_ | (refine i_tc ?_; refine qTc ?_) | (refine i_te ?_; refine qTe ?_) | intro _))
          all_goals exact qE ⟨rfl, rfl, rfl⟩
        · rw [ht] at hck
          repeat' (first | (refine iBu ?_; refine tl_y (y_buildN rfl) rfl rfl ?_) | (refine i_op ?_; first | (refine i_qq ?_; refine qQ ?_) | refine qEf ?_) | refine tl_nil ?_ | (refine i_tc ?_; refine qTc ?_) | (refine i_te ?_; refine qTe ?_) | intro _)
          refine tc_any (Stays _ _ _) stays_refl ?_
          all_goals refine rMv 0 ?_
          all_goals refine rMv 1 ?_
          all_goals (first | refine wSkip 2 ?_ | refine wSkipU 2 ?_ | refine wMv 2 ?_ | (refine tr_guard (t := 24) rfl (fun hb => ?_) (fun hb => ?_) <;> (try simp only [kk] at hb) <;> first | refine wSkip 2 ?_ | refine wSkipU 2 ?_ | refine wMv 2 ?_))
          all_goals refine rPk 3 ?_
          all_goals refine rMv 4 ?_
          all_goals (first | refine wSkip 5 ?_ | refine wSkipU 5 ?_ | refine wMv 5 ?_ | (refine tr_guard (t := 27) rfl (fun hb => ?_) (fun hb => ?_) <;> (try simp only [kk] at hb) <;> first | refine wSkip 5 ?_ | refine wSkipU 5 ?_ | refine wMv 5 ?_))
          all_goals (first | refine wSkip 6 ?_ | refine wSkipU 6 ?_ | refine wMv 6 ?_ | (refine tr_guard (t := 27) rfl (fun hb => ?_) (fun hb => ?_) <;> (try simp only [kk] at hb) <;> first | refine wSkip 6 ?_ | refine wSkipU 6 ?_ | refine wMv 6 ?_))
          all_goals (first | refine wSkip 7 ?_ | refine wSkipU 7 ?_ | refine wIa 7 ?_ | (refine tr_guard (t := 27) rfl (fun hb => ?_) (fun hb => ?_) <;> (try simp only [kk] at hb) <;> first | refine wSkip 7 ?_ | refine wSkipU 7 ?_ | refine wIa 7 ?_))
          all_goals (first | refine wSkip 8 ?_ | refine wSkipU 8 ?_ | refine wFa 8 ?_ | (refine tr_guard (t := 27) rfl (fun hb => ?_) (fun hb => ?_) <;> (try simp only [kk] at hb) <;> first | refine wSkip 8 ?_ | refine wSkipU 8 ?_ | refine wFa 8 ?_))
          all_goals (first | refine wSkip 9 ?_ | refine wSkipU 9 ?_ | refine wLd 9 ?_ | (refine tr_guard (t := 27) rfl (fun hb => ?_) (fun hb => ?_) <;> (try simp only [kk] at hb) <;> first | refine wSkip 9 ?_ | refine wSkipU 9 ?_ | refine wLd 9 ?_))
          all_goals (first | refine wSkip 10 ?_ | refine wSkipU 10 ?_ | refine wFa 10 ?_ | (refine tr_guard (t := 27) rfl (fun hb => ?_) (fun hb => ?_) <;> (try simp only [kk] at hb) <;> first | refine wSkip 10 ?_ | refine wSkipU 10 ?_ | refine wFa 10 ?_))
          all_goals (first | refine wSkip 11 ?_ | refine wSkipU 11 ?_ | refine wLd 11 ?_ | (refine tr_guard (t := 27) rfl (fun hb => ?_) (fun hb => ?_) <;> (try simp only [kk] at hb) <;> first | refine wSkip 11 ?_ | refine wSkipU 11 ?_ | refine wLd 11 ?_))
          all_goals (first | refine wSkip 12 ?_ | refine wSkipU 12 ?_ | refine wCm 12 ?_ | (refine tr_guard (t := 27) rfl (fun hb => ?_) (fun hb => ?_) <;> (try simp only [kk] at hb) <;> first | refine wSkip 12 ?_ | refine wSkipU 12 ?_ | refine wCm 12 ?_))
          all_goals refine rPk 13 ?_
          all_goals refine rMv 14 ?_
          all_goals (first | refine wSkip 15 ?_ | refine wSkipU 15 ?_ | refine wMv 15 ?_ | (refine tr_guard (t := 37) rfl (fun hb => ?_) (fun hb => ?_) <;> (try simp only [kk] at hb) <;> first | refine wSkip 15 ?_ | refine wSkipU 15 ?_ | refine wMv 15 ?_))
          all_goals (first | refine wSkip 16 ?_ | refine wSkipU 16 ?_ | (refine rStep (i := 16) ?_; ((try refine qWant ?_); (first | (refine tl_is (.func 157) ?_; refine qC rfl rfl (hck) ?_; rintro v ρ' L' hle ⟨rfl, rfl, rfl⟩ <;> (try simp only [kM, kN, kO, if_true])) | (refine qEf ?_; try intro _)) <;> ((try simp only [kM, kN, kO]); refine tl_nil ?_; refine rNext ?_))))
          all_goals refine rFull ?_
          all_goals (first | refine wSkip 17 ?_ | refine wSkipU 17 ?_ | refine wCm 17 ?_ | (refine tr_guard (t := 37) rfl (fun hb => ?_) (fun hb => ?_) <;> (try simp only [kk] at hb) <;> first | refine wSkip 17 ?_ | refine wSkipU 17 ?_ | refine wCm 17 ?_))
          all_goals refine rPk 18 ?_
          all_goals refine rAs 19 ?_
          all_goals refine rDone ?_
          all_goals (repeat' (first | (refine iBu ?_; refine tl_y (y_buildN rfl) rfl rfl ?_) | (refine i_op ?_; first | (refine i_qq ?_; refine qQ ?_) | refine qEf ?_) | refine tl_nil ?_ | (refine i_tc ?_; refine qTc ?_) | (refine i_te ?_; refine qTe ?_) | intro _))
          all_goals exact qE ⟨rfl, rfl, rfl⟩
      · rw [decide_eq_false hle, Bool.false_and]
        repeat' (first | (refine iBu ?_; refine tl_y (y_buildN rfl) rfl rfl ?_) | (refine i_op ?_; first | (refine i_qq ?_; refine qQ ?_) | refine qEf ?_) | refine tl_nil ?_ | (refine i_tc ?_; refine qTc ?_) | (refine i_te ?_; refine qTe ?_) | intro _)
        refine tc_any (Stays _ _ _) stays_refl ?_
        all_goals refine rMv 0 ?_
        all_goals refine rMv 1 ?_
        all_goals (first | refine wSkip 2 ?_ | refine wSkipU 2 ?_ | refine wMv 2 ?_ | (refine tr_guard (t := 24) rfl (fun hb => ?_) (fun hb => ?_) <;> (try simp only [kk] at hb) <;> first | refine wSkip 2 ?_ | refine wSkipU 2 ?_ | refine wMv 2 ?_))
        all_goals refine rPk 3 ?_
        all_goals refine rMv 4 ?_
        all_goals (first | refine wSkip 5 ?_ | refine wSkipU 5 ?_ | refine wMv 5 ?_ | (refine tr_guard (t := 27) rfl (fun hb => ?_) (fun hb => ?_) <;> (try simp only [kk] at hb) <;> first | refine wSkip 5 ?_ | refine wSkipU 5 ?_ | refine wMv 5 ?_))
        all_goals (first | refine wSkip 6 ?_ | refine wSkipU 6 ?_ | refine wMv 6 ?_ | (refine tr_guard (t := 27) rfl (fun hb => ?_) (fun hb => ?_) <;> (try simp only [kk] at hb) <;> first | refine wSkip 6 ?_ | refine wSkipU 6 ?_ | refine wMv 6 ?_))
        all_goals (first | refine wSkip 7 ?_ | refine wSkipU 7 ?_ | refine wIa 7 ?_ | (refine tr_guard (t := 27) rfl (fun hb => ?_) (fun hb => ?_) <;> (try simp only [kk] at hb) <;> first | refine wSkip 7 ?_ | refine wSkipU 7 ?_ | refine wIa 7 ?_))
        all_goals (first | refine wSkip 8 ?_ | refine wSkipU 8 ?_ | refine wFa 8 ?_ | (refine tr_guard (t := 27) rfl (fun hb => ?_) (fun hb => ?_) <;> (try simp only [kk] at hb) <;> first | refine wSkip 8 ?_ | refine wSkipU 8 ?_ | refine wFa 8 ?_))
        all_goals (first | refine wSkip 9 ?_ | refine wSkipU 9 ?_ | refine wLd 9 ?_ | (refine tr_guard (t := 27) rfl (fun hb => ?_) (fun hb => ?_) <;> (try simp only [kk] at hb) <;> first | refine wSkip 9 ?_ | refine wSkipU 9 ?_ | refine wLd 9 ?_))
        all_goals (first | refine wSkip 10 ?_ | refine wSkipU 10 ?_ | refine wFa 10 ?_ | (refine tr_guard (t := 27) rfl (fun hb => ?_) (fun hb => ?_) <;> (try simp only [kk] at hb) <;> first | refine wSkip 10 ?_ | refine wSkipU 10 ?_ | refine wFa 10 ?_))
        all_goals (first | refine wSkip 11 ?_ | refine wSkipU 11 ?_ | refine wLd 11 ?_ | (refine tr_guard (t := 27) rfl (fun hb => ?_) (fun hb => ?_) <;> (try simp only [kk] at hb) <;> first | refine wSkip 11 ?_ | refine wSkipU 11 ?_ | refine wLd 11 ?_))
        all_goals (first | refine wSkip 12 ?_ | refine wSkipU 12 ?_ | refine wCm 12 ?_ | (refine tr_guard (t := 27) rfl (fun hb => ?_) (fun hb => ?_) <;> (try simp only [kk] at hb) <;> first | refine wSkip 12 ?_ | refine wSkipU 12 ?_ | refine wCm 12 ?_))
        all_goals refine rPk 13 ?_
        all_goals refine rMv 14 ?_
        all_goals (first | refine wSkip 15 ?_ | refine wSkipU 15 ?_ | refine wMv 15 ?_ | (refine tr_guard (t := 37) rfl (fun hb => ?_) (fun hb => ?_) <;> (try simp only [kk] at hb) <;> first | refine wSkip 15 ?_ | refine wSkipU 15 ?_ | refine wMv 15 ?_))
        all_goals (first | refine wSkip 16 ?_ | refine wSkipU 16 ?_ | (refine rStep (i := 16) ?_; ((try refine qWant ?_); (first | (refine qEf ?_; try intro _)) <;> ((try simp only [kM, kN, kO]); refine tl_nil ?_; refine rNext ?_))))
        all_goals refine rFull ?_
        all_goals (first | refine wSkip 17 ?_ | refine wSkipU 17 ?_ | refine wCm 17 ?_ | (refine tr_guard (t := 37) rfl (fun hb => ?_) (fun hb => ?_) <;> (try simp only [kk] at hb) <;> first | refine wSkip 17 ?_ | refine wSkipU 17 ?_ | refine wCm 17 ?_))
        all_goals refine rPk 18 ?_
        all_goals refine rAs 19 ?_
        all_goals refine rDone ?_
        all_goals (repeat' (first | (refine iBu ?_; refine tl_y (y_buildN rfl) rfl rfl ?_) | (refine i_op ?_; first | (refine i_qq ?_; refine qQ ?_) | refine qEf ?_) | refine tl_nil ?_ | (refine i_tc ?_; refine qTc ?_) | (refine i_te ?_; refine qTe ?_) | intro _))
        all_goals exact qE ⟨rfl, rfl, rfl⟩
def makeX (r : Ros) (l : List CkP) (lsn : Nat) : Rc := ⟨9, lsn, 0, 0, 0, [], [], r.next, r.txns.map ckOf, l⟩
def zRc : Rc := ⟨0, 0, 0, 0, 0, [], [], 0, [], []⟩
def zRV : RV := ⟨nilS, nilS, nilS, nilS⟩
theorem RcIn.zero {ρ : Hp} : RcIn ρ zRV zRc := ⟨AS.nil, by simp [zRc], AS.nil, AS.nil, AS.nil, by simp [zRc]⟩
def makeE (r : Ros) (l : List CkP) (lsn : Nat) : Int := if tblOk l then (if rosOk r then (if recOk (makeX r l lsn) then 0 else 2) else 280) else 320
def makeR (r : Ros) (l : List CkP) (lsn : Nat) : Rc := if makeE r l lsn = 0 then makeX r l lsn else zRc
abbrev rosC (rb : Nat) (v : SV) (r : Ros) : List (Nat × Obj) := [(rb, .cells ⟨rosV v r⟩ 34 (0, 0))]
theorem make1_spec (ρ : Hp) (l : List CkP) (v : SV) (r : Ros) (h : RosIn ρ v r) (pb rb : Nat) (vv : Value) (sp : List Value) (hown : OwnS vv l.length (flatP l) sp 2) :
    Spec Tryz.prog 155 [.pointer (some ⟨pb, 0, none⟩), .pointer (some ⟨rb, 0, none⟩)] ρ ([pC pb vv, ownC vv (flatP l) sp 125] ++ [rosC rb v r])
      (fun z ρ' L' => z = .int .i64 (if rosOk r then 0 else 280) ∧ ρ' = ρ ∧ ∃ v' sp', OwnS v' l.length (flatP l) sp' 2 ∧ L' = [pC pb v', ownC v' (flatP l) sp' 125] ++ [rosC rb v r]) := by
  have hck := roscheck_spec ρ v r h
  refine spec_enter Tryz.func155 rfl rfl rfl fun u R => ?_
  simp only [argsE, List.cons_append, List.nil_append]
  repeat' (first | (refine tl_is (.func 42) ?_; refine qC rfl rfl (hck) ?_; rintro v ρ' L' hle ⟨rfl, rfl, rfl⟩ <;> (try simp only [kM, kN, kO])) | (refine iBu ?_; refine tl_y (y_buildN rfl) rfl rfl ?_) | (refine i_op ?_; first | (refine i_qq ?_; refine qQ ?_) | refine qEf ?_) | refine tl_nil ?_ | (refine i_tc ?_; refine qTc ?_) | (refine i_te ?_; refine qTe ?_) | intro _)
  exact qE (L' := [pC pb vv, ownC vv (flatP l) sp 125, rosC rb v r]) ⟨rfl, rfl, vv, sp, hown, rfl⟩
theorem make_spec (ρ : Hp) (v : SV) (r : Ros) (hr : RosIn ρ v r) (s : SV) (l : List CkP) (h : AS ρ 2 ckPV s l) (lsn : Nat) :
    Spec Tryz.prog 70 [.agg ⟨rosV v r⟩, .slice s.a s.n s.c, .int .u64 lsn] ρ [] (fun z ρ' L' => ρ.le ρ' ∧ ∃ v', z = .tuple ⟨[.agg ⟨recV v' (makeR r l lsn)⟩, .int .i64 (makeE r l lsn)]⟩ ∧ RcIn ρ' v' (makeR r l lsn) ∧ L' = []) := by
  have hl := h.at'.len
  have hn := h.big
  have hw := fun rb => with_spec ρ s l h 155 [.pointer (some ⟨rb, 0, none⟩)] [rosC rb v r] (if rosOk r then 0 else 280) l (by omega) (fun ht pb vv sp hown => make1_spec ρ l v r hr pb rb vv sp hown)
  unfold makeR makeE
  refine spec_enter Tryz.func70 rfl rfl rfl fun u R => ?_
  simp only [argsE, List.cons_append, List.nil_append]
  cases ht : tblOk l
  · simp only [ht, Bool.false_eq_true, if_false, false_and] at hw ⊢
    repeat' (first | (refine tl_is (.func 149) ?_; refine qC rfl rfl (hw _) ?_; rintro v ρ' L' hle ⟨hle1, s', rfl, hs', rfl⟩ <;> (try simp only [kM, kN, kO])) | (refine iBu ?_; refine tl_y (y_buildN rfl) rfl rfl ?_) | (refine i_op ?_; first | (refine i_qq ?_; refine qQ ?_) | refine qEf ?_) | refine tl_nil ?_ | (refine i_tc ?_; refine qTc ?_) | (refine i_te ?_; refine qTe ?_) | intro _)
    exact qE (L' := []) ⟨hle1, zRV, rfl, RcIn.zero, rfl⟩
  · cases hro : rosOk r
    · simp only [ht, hro, if_true, Bool.false_eq_true, if_false] at hw ⊢
      repeat' (first | (refine tl_is (.func 149) ?_; refine qC rfl rfl (hw _) ?_; rintro v ρ' L' hle ⟨hle1, s', rfl, hs', rfl⟩ <;> (try simp only [kM, kN, kO])) | (refine iBu ?_; refine tl_y (y_buildN rfl) rfl rfl ?_) | (refine i_op ?_; first | (refine i_qq ?_; refine qQ ?_) | refine qEf ?_) | refine tl_nil ?_ | (refine i_tc ?_; refine qTc ?_) | (refine i_te ?_; refine qTe ?_) | intro _)
      exact qE (L' := []) ⟨hle1, zRV, rfl, RcIn.zero, rfl⟩
    · simp only [ht, hro, if_true, and_self] at hw ⊢
      have hckpt := fun ρ1 (h : RosIn ρ1 v r) => rosckpt_spec ρ1 v r h
      simp only [hro, if_true] at hckpt
      repeat' (first | (refine tl_is (.func 149) ?_; refine qC rfl rfl (hw _) ?_; rintro v ρ' L' hle ⟨hle1, s', rfl, hs', rfl⟩ <;> (try simp only [kM, kN, kO])) | (refine iBu ?_; refine tl_y (y_buildN rfl) rfl rfl ?_) | (refine i_op ?_; first | (refine i_qq ?_; refine qQ ?_) | refine qEf ?_) | refine tl_nil ?_ | (refine i_tc ?_; refine qTc ?_) | (refine i_te ?_; refine qTe ?_) | intro _)
      rename_i rb cb
      have hr1 := hr.mono hle1
      refine tc_any (Stays _ _ ([rosC rb v r])) (stays_of (hT := tk) (Hp.le_refl _)) ?_
      all_goals refine rMv 0 ?_
      all_goals refine rFa 1 ?_
      all_goals refine rLd 2 ?_
      all_goals refine rLd 3 ?_
      all_goals refine rMv 5 ?_
      all_goals (refine rStep2 (i := 4) (j := 7) ?_ ?_ <;> ((try refine qWant ?_); (first | (refine tl_is (.func 41) ?_; refine qC rfl rfl (hckpt _ hr1) ?_; rintro v ρ' L' hle ⟨hle2, s2, rfl, hs2, rfl⟩ <;> (try simp only [kM, kN, kO])) | (refine qEf ?_; try intro _)) <;> ((try simp only [kM, kN, kO]); refine tl_nil ?_; refine rNext ?_)))
      all_goals (first | refine rBu 6 ?_ (y := fun _ _ => y_buildN rfl) | (refine rStep (i := 4) ?_; ((try refine qWant ?_); (first | (refine tl_is (.func 41) ?_; refine qC rfl rfl (hckpt _ hr1) ?_; rintro v ρ' L' hle ⟨hle2, s2, rfl, hs2, rfl⟩ <;> (try simp only [kM, kN, kO])) | (refine qEf ?_; try intro _)) <;> ((try simp only [kM, kN, kO]); refine tl_nil ?_; refine rNext ?_))))
      all_goals (first | refine rBu 6 ?_ (y := fun _ _ => y_buildN rfl) | (refine rStep (i := 7) ?_; ((try refine qWant ?_); (first | (refine qEf ?_; try intro _)) <;> ((try simp only [kM, kN, kO]); refine tl_nil ?_; refine rNext ?_))))
      all_goals (refine rStep (i := 8) ?_; ((try refine qWant ?_); (first | (refine qEf ?_; try intro _)) <;> ((try simp only [kM, kN, kO]); refine tl_nil ?_; refine rNext ?_)))
      all_goals refine rDone ?_
      all_goals (
        have hX : RcIn ρ' ⟨nilS, nilS, s2, s'⟩ (makeX r l lsn) := ⟨AS.nil, by simp [makeX], AS.nil, hs2, hs'.mono hle2, by simp [makeX]⟩
        have hck := rcheck_spec _ _ _ hX
        cases hok : recOk (makeX r l lsn)
        · simp only [hok, Bool.false_eq_true, if_false] at hck ⊢
          repeat' (first | (refine tl_is (.func 27) ?_; refine qC rfl rfl (hck) ?_; rintro v ρ' L' hle ⟨rfl, rfl, rfl⟩ <;> (try simp only [kM, kN, kO])) | (refine iBu ?_; refine tl_y (y_buildN rfl) rfl rfl ?_) | (refine i_op ?_; first | (refine i_qq ?_; refine qQ ?_) | refine qEf ?_) | refine tl_nil ?_ | (refine i_tc ?_; refine qTc ?_) | (refine i_te ?_; refine qTe ?_) | intro _)
          exact qE (L' := []) ⟨Hp.le_trans hle1 hle2, zRV, rfl, RcIn.zero, rfl⟩
        · simp only [hok, if_true] at hck ⊢
          repeat' (first | (refine tl_is (.func 27) ?_; refine qC rfl rfl (hck) ?_; rintro v ρ' L' hle ⟨rfl, rfl, rfl⟩ <;> (try simp only [kM, kN, kO])) | (refine iBu ?_; refine tl_y (y_buildN rfl) rfl rfl ?_) | (refine i_op ?_; first | (refine i_qq ?_; refine qQ ?_) | refine qEf ?_) | refine tl_nil ?_ | (refine i_tc ?_; refine qTc ?_) | (refine i_te ?_; refine qTe ?_) | intro _)
          exact qE (L' := []) ⟨Hp.le_trans hle1 hle2, _, rfl, hX, rfl⟩)
def isE (x : Rc) : Int := if recOk x then (if x.kind = 9 then 0 else 2) else 220
theorem is_spec (ρ : Hp) (v : RV) (r : Rc) (h : RcIn ρ v r) : Spec Tryz.prog 72 [.agg ⟨recV v r⟩] ρ [] (fun z ρ' L' => z = .int .i64 (isE r) ∧ ρ' = ρ ∧ L' = []) := by
  have hck := rcheck_spec ρ v r h
  unfold isE
  refine spec_enter Tryz.func72 rfl rfl rfl fun u R => ?_
  simp only [argsE, List.cons_append, List.nil_append]
  cases hok : recOk r
  · rw [hok] at hck
    repeat' (first | (refine tl_is (.func 27) ?_; refine qC rfl rfl (hck) ?_; rintro v ρ' L' hle ⟨rfl, rfl, rfl⟩ <;> (try simp only [kM, kN, kO, if_false, Bool.false_eq_true])) | (refine iBu ?_; refine tl_y (y_buildN rfl) rfl rfl ?_) | (refine i_op ?_; first | (refine i_qq ?_; refine qQ ?_) | refine qEf ?_) | refine tl_nil ?_ | (refine i_tc ?_; refine qTc ?_) | (refine i_te ?_; refine qTe ?_) | intro _)
    exact qE ⟨rfl, rfl, rfl⟩
  · rw [hok] at hck
    by_cases h9 : r.kind = 9
    · rw [if_pos h9]
      repeat' (first | (refine tl_is (.func 27) ?_; refine qC rfl rfl (hck) ?_; rintro v ρ' L' hle ⟨rfl, rfl, rfl⟩ <;> (try simp only [kM, kN, kO, if_true])) | (refine iBu ?_; refine tl_y (y_buildN rfl) rfl rfl ?_) | (refine i_op ?_; first | (refine i_qq ?_; refine qQ ?_) | refine qEf ?_) | refine tl_nil ?_ | (refine i_tc ?_; refine qTc ?_) | (refine i_te ?_; refine qTe ?_) | intro _)
      exact qE ⟨rfl, rfl, rfl⟩
    · rw [if_neg h9]
      repeat' (first | (refine tl_is (.func 27) ?_; refine qC rfl rfl (hck) ?_; rintro v ρ' L' hle ⟨rfl, rfl, rfl⟩ <;> (try simp only [kM, kN, kO, if_true])) | (refine iBu ?_; refine tl_y (y_buildN rfl) rfl rfl ?_) | (refine i_op ?_; first | (refine i_qq ?_; refine qQ ?_) | refine qEf ?_) | refine tl_nil ?_ | (refine i_tc ?_; refine qTc ?_) | (refine i_te ?_; refine qTe ?_) | intro _)
      exact qE ⟨rfl, rfl, rfl⟩
def readRos (x : Rc) : Ros := if isE x = 0 then fromR x.nextTxn x.txns else ⟨0, []⟩
def readE (x : Rc) : Int := if isE x = 0 then fromE x.nextTxn x.txns else isE x
def readD (x : Rc) : List CkP := if readE x = 0 then x.dirty else []
theorem read_ck_spec (ρ : Hp) (v : RV) (r : Rc) (h : RcIn ρ v r) : Spec Tryz.prog 15 [.agg ⟨recV v r⟩] ρ []
    (fun z ρ' L' => ρ.le ρ' ∧ ∃ s s', z = .tuple ⟨[.agg ⟨rosV s (readRos r)⟩, .slice s'.a s'.n s'.c, .int .i64 (readE r)]⟩ ∧ RosIn ρ' s (readRos r) ∧ AS ρ' 2 ckPV s' (readD r) ∧ L' = []) := by
  have his := is_spec ρ v r h
  have hfr := from_ros_spec ρ r.nextTxn v.t r.txns h.t
  refine spec_enter Tryz.func15 rfl rfl rfl fun u R => ?_
  simp only [argsE, List.cons_append, List.nil_append]
  by_cases h0 : isE r = 0
  · have e1 : readRos r = fromR r.nextTxn r.txns := by unfold readRos; rw [if_pos h0]
    have e2 : readE r = fromE r.nextTxn r.txns := by unfold readE; rw [if_pos h0]
    rw [h0] at his
    by_cases h2 : fromE r.nextTxn r.txns = 0
    · have e3 : readD r = r.dirty := by unfold readD; rw [e2, if_pos h2]
      rw [e1, e2, e3, h2]
      rw [h2] at hfr
      have hcl := fun ρ1 (h : AS ρ1 2 ckPV v.d r.dirty) => clonep_spec ρ1 v.d r.dirty h
      repeat' (first | (refine tl_is (.func 72) ?_; refine qC rfl rfl (his) ?_; rintro v ρ' L' hle ⟨rfl, rfl, rfl⟩ <;> (try simp only [kM, kN, kO])) | (refine tl_is (.func 33) ?_; refine qC rfl rfl (hfr) ?_; rintro v ρ' L' hle ⟨hle1, s, rfl, hs, rfl⟩ <;> (try simp only [kM, kN, kO])) | (refine iBu ?_; refine tl_y (y_buildN rfl) rfl rfl ?_) | (refine i_op ?_; first | (refine i_qq ?_; refine qQ ?_) | refine qEf ?_) | refine tl_nil ?_ | (refine i_tc ?_; refine qTc ?_) | (refine i_te ?_; refine qTe ?_) | intro _)
      rename_i b1 b2 x1 x2 b6
      have hd1 := h.d.mono hle1
      refine tc_any (Stays _ _ ([[(b1, .cells ⟨recV v r⟩ 30 (0, 0))], [(b6, .cells ⟨rosV s (fromR r.nextTxn r.txns)⟩ 34 (0, 0))]])) (stays_of (hT := tk) (Hp.le_refl _)) ?_
      all_goals refine rLd 0 ?_
      all_goals refine rFa 1 ?_
      all_goals refine rLd 2 ?_
      all_goals (refine rStep (i := 3) ?_; ((try refine qWant ?_); (first | (refine tl_is (.func 73) ?_; refine qC rfl rfl (hcl _ hd1) ?_; rintro v ρ' L' hle ⟨rfl, sp, hown, rfl⟩ <;> (try simp only [kM, kN, kO])) | (refine qEf ?_; try intro _)) <;> ((try simp only [kM, kN, kO]); refine tl_nil ?_; refine rNext ?_)))
      all_goals (refine rStep (i := 4) ?_; ((try refine qWant ?_); (first | (refine qEf ?_; try intro _)) <;> ((try simp only [kM, kN, kO]); refine tl_nil ?_; refine rNext ?_)))
      all_goals refine rFull ?_
      all_goals refine rAs 5 ?_
      all_goals refine rAs 6 ?_
      all_goals refine rDone ?_
      all_goals (repeat' (first | (refine iBu ?_; refine tl_y (y_buildN rfl) rfl rfl ?_) | (refine i_op ?_; first | (refine i_qq ?_; refine qQ ?_) | refine qEf ?_) | refine tl_nil ?_ | (refine i_tc ?_; refine qTc ?_) | (refine i_te ?_; refine qTe ?_) | intro _))
      all_goals refine te_freeze (ownC v (flatP r.dirty) sp 125) (fun ρ3 hle3 hfz => ?_)
      all_goals obtain ⟨sa, sc, f1, hsc, hA2⟩ := hown.aIn rfl (fun x _ => ckPV_len x) hfz
      all_goals subst f1
      all_goals exact qE (L' := []) ⟨Hp.le_trans hle1 hle3, s, ⟨sa, r.dirty.length, sc⟩, rfl, hs.mono hle3, ⟨hA2, by have := h.d.at'.len; have := h.d.big; dsimp only; omega, hsc⟩, rfl⟩
    · have e3 : readD r = [] := by unfold readD; rw [e2, if_neg h2]
      have e4 : fromR r.nextTxn r.txns = ⟨0, []⟩ := by
        unfold fromE at h2; unfold fromR
        split at h2
        · exact absurd rfl h2
        · rename_i hh; rw [if_neg hh]
      rw [e1, e2, e3, e4]
      repeat' (first | (refine tl_is (.func 72) ?_; refine qC rfl rfl (his) ?_; rintro v ρ' L' hle ⟨rfl, rfl, rfl⟩ <;> (try simp only [kM, kN, kO])) | (refine tl_is (.func 33) ?_; refine qC rfl rfl (hfr) ?_; rintro v ρ' L' hle ⟨hle1, s, rfl, hs, rfl⟩ <;> (try simp only [kM, kN, kO])) | (refine iBu ?_; refine tl_y (y_buildN rfl) rfl rfl ?_) | (refine i_op ?_; first | (refine i_qq ?_; refine qQ ?_) | refine qEf ?_) | refine tl_nil ?_ | (refine i_tc ?_; refine qTc ?_) | (refine i_te ?_; refine qTe ?_) | intro _)
      exact qE (L' := []) ⟨hle1, nilS, nilS, rfl, RosIn.nil, AS.nil, rfl⟩
  · have e1 : readRos r = ⟨0, []⟩ := by unfold readRos; rw [if_neg h0]
    have e2 : readE r = isE r := by unfold readE; rw [if_neg h0]
    have e3 : readD r = [] := by unfold readD; rw [e2, if_neg h0]
    rw [e1, e2, e3]
    repeat' (first | (refine tl_is (.func 72) ?_; refine qC rfl rfl (his) ?_; rintro v ρ' L' hle ⟨rfl, rfl, rfl⟩ <;> (try simp only [kM, kN, kO])) | (refine iBu ?_; refine tl_y (y_buildN rfl) rfl rfl ?_) | (refine i_op ?_; first | (refine i_qq ?_; refine qQ ?_) | refine qEf ?_) | refine tl_nil ?_ | (refine i_tc ?_; refine qTc ?_) | (refine i_te ?_; refine qTe ?_) | intro _)
    exact qE (L' := []) ⟨Hp.le_refl _, nilS, nilS, rfl, RosIn.nil, AS.nil, rfl⟩
end Go.Proofs.E

namespace Go.Proofs.E
open Go
set_option linter.unusedVariables false
set_option linter.unusedSimpArgs false
set_option linter.unusedSectionVars false
set_option maxRecDepth 4000
set_option maxHeartbeats 1000000
attribute [local irreducible] Yl TL TC TE Spec YSpec R1 Hp.le EnvLe TS TR YS Stays
-- BN
def leastN (n : Nat) (l : List Nat) : Nat := l.foldl min n
theorem least_spec (ρ : Hp) (n0 : Nat) (a : Option Addr) (n c : Nat) (l : List Nat) (h : SIn ρ u64c a n l) (hn : n ≤ 10000000) :
    Spec Tryz.prog 76 [.int .u64 n0, .slice a n c] ρ [] (fun z ρ' L' => z = .int .u64 (leastN n0 l) ∧ ρ' = ρ ∧ L' = []) := by
  have hl := h.len
  generalize hq : leastN n0 l = q
  unfold leastN at hq
  refine spec_enter Tryz.func76 rfl rfl rfl fun u R => ?_
  simp only [argsE, List.cons_append, List.nil_append]
  repeat' (first | (refine iBu ?_; refine tl_y (y_buildN rfl) rfl rfl ?_) | (refine i_op ?_; first | (refine i_qq ?_; refine qQ ?_) | refine qEf ?_) | refine tl_nil ?_ | (refine i_tc ?_; refine qTc ?_) | (refine i_te ?_; refine qTe ?_) | intro _)
  refine tc_loop_g [(4, _), (7, _), (8, _)] (fun (ζ : (Nat) × (Nat)) => [(9, .int .i64 ζ.1), (0, .int .u64 ζ.2)]) (fun (ζ : (Nat) × (Nat)) => ρ) (fun (ζ : (Nat) × (Nat)) => []) (fun (ζ : (Nat) × (Nat)) => ζ.1 ≤ n ∧ (l.drop ζ.1).foldl min ζ.2 = q) (fun (ζ : (Nat) × (Nat)) => n - ζ.1) ((0, n0)) (⟨Nat.zero_le _, hq⟩) ev_le ev_le rfl tk ?_
  rintro ⟨k, m⟩ hI
  try simp only [List.cons_append, List.nil_append, List.append_assoc, List.append_eq] at hI ⊢
  try dsimp only at hI ⊢
  obtain ⟨hk, hok⟩ := hI
  by_cases hlt : k < n
  · obtain ⟨b, off, C, T, fr, e1, hb, hc⟩ := h.get (show k < l.length by omega)
    rw [List.drop_eq_getElem_cons (show k < l.length by omega), List.foldl_cons] at hok
    generalize l[k]'(by omega) = y at *
    rw [e1]
    have hmin : min (m : Int) (y : Int) = ((min m y : Nat) : Int) := by omega
    repeat' (first | (refine iBu ?_; refine tl_y (y_buildN rfl) rfl rfl ?_) | (refine i_op ?_; first | (refine i_qq ?_; refine qQ ?_) | refine qEf ?_) | refine tl_nil ?_ | (refine i_tc ?_; refine qTc ?_) | (refine i_te ?_; refine qTe ?_) | intro _)
    rw [← e1]
    try simp only [hmin]
    refine te_round_g (k + 1, min m y) (⟨hlt, hok⟩) ev_le ev_le rfl tk inferInstance (by first | omega | (dsimp only; omega))
  · have hk2 : k = l.length := by omega
    rw [hk2, List.drop_length, List.foldl_nil] at hok
    subst hok
    repeat' (first | (refine iBu ?_; refine tl_y (y_buildN rfl) rfl rfl ?_) | (refine i_op ?_; first | (refine i_qq ?_; refine qQ ?_) | refine qEf ?_) | refine tl_nil ?_ | (refine i_tc ?_; refine qTc ?_) | (refine i_te ?_; refine qTe ?_) | intro _)
    exact qE ⟨rfl, rfl, rfl⟩
end Go.Proofs.E

namespace Go.Proofs.E
open Go
set_option linter.unusedVariables false
set_option linter.unusedSimpArgs false
set_option linter.unusedSectionVars false
set_option maxRecDepth 4000
set_option maxHeartbeats 1000000
attribute [local irreducible] Yl TL TC TE Spec YSpec R1 Hp.le EnvLe TS TR YS Stays
-- BN
def neededL (r : Rc) : List Nat := r.txns.map CkT.first ++ r.dirty.map CkP.since
theorem pre_of {α : Type} {l : List α} {k : Nat} {y : α} (h : l[k]? = some y) : (l.take k ++ [y]) <+: l ∧ l.take (k + 1) = l.take k ++ [y] := by
  have hk : k < l.length := by
    rcases Nat.lt_or_ge k l.length with h1 | h1
    · exact h1
    · rw [List.getElem?_eq_none h1] at h; cases h
  have e : l.take (k + 1) = l.take k ++ [y] := by
    rw [List.take_succ_eq_append_getElem hk]
    rw [List.getElem?_eq_getElem hk] at h
    cases h; rfl
  exact ⟨by rw [← e]; exact List.take_prefix _ _, e⟩
theorem needed1_iter (ρ0 : Hp) (xb : Nat) (v : RV) (r : Rc) (h : RcIn ρ0 v r) : Iter Tryz.prog 158 [] [.pointer (some ⟨xb, 0, none⟩)] (fun n : Nat => [.int .u64 (n : Int)]) ρ0 [recC xb v r] (neededL r) := by
  intro l J Jx hY ρ Lj hl0 hJ
  have lt := h.t.at'.len
  have ld := h.d.at'.len
  have bt := h.t.big
  have bd := h.d.big
  refine spec_enter Tryz.func158 rfl rfl rfl fun u R => ?_
  simp only [argsE, List.cons_append, List.nil_append, List.append_assoc]
  repeat' (first | (refine iBu ?_; refine tl_y (y_buildN rfl) rfl rfl ?_) | (refine i_op ?_; first | (refine i_qq ?_; refine qQ ?_) | refine qEf ?_) | refine tl_nil ?_ | (refine i_tc ?_; refine qTc ?_) | (refine i_te ?_; refine qTe ?_) | intro _)
  refine tc_loop_g [(0, _), (1, _), (8, _), (9, _)] (fun (ζ : (Nat) × (Hp) × (SH)) => [(10, .int .i64 ζ.1)]) (fun (ζ : (Nat) × (Hp) × (SH)) => ζ.2.1) (fun (ζ : (Nat) × (Hp) × (SH)) => recC xb v r :: ζ.2.2) (fun (ζ : (Nat) × (Hp) × (SH)) => ζ.1 ≤ v.t.n ∧ ρ.le ζ.2.1 ∧ J ((neededL r).take ζ.1) ζ.2.1 ζ.2.2) (fun (ζ : (Nat) × (Hp) × (SH)) => v.t.n - ζ.1) ((0, ρ, Lj)) (⟨Nat.zero_le _, Hp.le_refl _, hJ⟩) ev_le ev_le rfl tk ?_
  rintro ⟨k, ρ1, L1⟩ hI
  try simp only [List.cons_append, List.nil_append, List.append_assoc, List.append_eq] at hI ⊢
  try dsimp only at hI ⊢
  obtain ⟨hk, hle1, hj⟩ := hI
  by_cases hlt : k < v.t.n
  · obtain ⟨b, off, C, T, fr, e1, hb, hfit, hc⟩ := (h.t.at'.mono (Hp.le_trans hl0 hle1)).get (show k < r.txns.length by omega)
    have hg : (neededL r)[k]? = some (r.txns[k]'(by omega)).first := by
      unfold neededL
      rw [List.getElem?_append_left (by simp; omega), List.getElem?_map, List.getElem?_eq_getElem (by omega)]; rfl
    generalize r.txns[k]'(by omega) = x at *
    obtain ⟨hpre, hts⟩ := pre_of hg
    have hy := hY _ _ ρ1 L1 hpre (Hp.le_trans hl0 hle1) hj
    rw [e1]
    repeat' (first | (refine tl_is (.tmp 14) ?_; refine qY rfl rfl (hy) ?_; rintro v ρ' L' hle ⟨Lj', rfl, ⟨rfl, hj'⟩ | ⟨rfl, hj'⟩⟩ <;> (try simp only [kM, kN, kO])) | (refine iBu ?_; refine tl_y (y_buildN rfl) rfl rfl ?_) | (refine i_op ?_; first | (refine i_qq ?_; refine qQ ?_) | refine qEf ?_) | refine tl_nil ?_ | (refine i_tc ?_; refine qTc ?_) | (refine i_te ?_; refine qTe ?_) | intro _)
    · repeat' (first | (refine iBu ?_; refine tl_y (y_buildN rfl) rfl rfl ?_) | (refine i_op ?_; first | (refine i_qq ?_; refine qQ ?_) | refine qEf ?_) | refine tl_nil ?_ | (refine i_tc ?_; refine qTc ?_) | (refine i_te ?_; refine qTe ?_) | intro _)
      rw [← e1]
      refine te_round_g (k + 1, ρ', Lj') (⟨hlt, Hp.le_trans hle1 hle, by dsimp only; rw [hts]; exact hj'⟩) ev_le ev_le rfl tk inferInstance (by first | omega | (dsimp only; omega))
    · repeat' (first | (refine iBu ?_; refine tl_y (y_buildN rfl) rfl rfl ?_) | (refine i_op ?_; first | (refine i_qq ?_; refine qQ ?_) | refine qEf ?_) | refine tl_nil ?_ | (refine i_tc ?_; refine qTc ?_) | (refine i_te ?_; refine qTe ?_) | intro _)
      exact qE (L' := recC xb v r :: Lj') ⟨Lj', rfl, .inr hj'⟩
  · obtain rfl : k = v.t.n := by omega
    repeat' (first | (refine iBu ?_; refine tl_y (y_buildN rfl) rfl rfl ?_) | (refine i_op ?_; first | (refine i_qq ?_; refine qQ ?_) | refine qEf ?_) | refine tl_nil ?_ | (refine i_tc ?_; refine qTc ?_) | (refine i_te ?_; refine qTe ?_) | intro _)
    refine tc_loop_g [(0, _), (21, _), (22, _)] (fun (ζ : (Nat) × (Hp) × (SH)) => [(23, .int .i64 ζ.1)]) (fun (ζ : (Nat) × (Hp) × (SH)) => ζ.2.1) (fun (ζ : (Nat) × (Hp) × (SH)) => recC xb v r :: ζ.2.2) (fun (ζ : (Nat) × (Hp) × (SH)) => ζ.1 ≤ v.d.n ∧ ρ.le ζ.2.1 ∧ J ((neededL r).take (v.t.n + ζ.1)) ζ.2.1 ζ.2.2) (fun (ζ : (Nat) × (Hp) × (SH)) => v.d.n - ζ.1) ((0, ρ1, L1)) (⟨Nat.zero_le _, hle1, hj⟩) ev_le ev_le rfl tk ?_
    rintro ⟨j, ρ2, L2⟩ hI
    try simp only [List.cons_append, List.nil_append, List.append_assoc, List.append_eq] at hI ⊢
    try dsimp only at hI ⊢
    obtain ⟨hj0, hle2, hj2⟩ := hI
    by_cases hlt2 : j < v.d.n
    · obtain ⟨b, off, C, T, fr, e1, hb, hfit, hc⟩ := (h.d.at'.mono (Hp.le_trans hl0 hle2)).get (show j < r.dirty.length by omega)
      have hg : (neededL r)[v.t.n + j]? = some (r.dirty[j]'(by omega)).since := by
        unfold neededL
        rw [List.getElem?_append_right (by simp; omega), List.getElem?_map]
        simp only [List.length_map]
        rw [show v.t.n + j - r.txns.length = j by omega, List.getElem?_eq_getElem (by omega)]; rfl
      generalize r.dirty[j]'(by omega) = x at *
      obtain ⟨hpre, hts⟩ := pre_of hg
      have hy := hY _ _ ρ2 L2 hpre (Hp.le_trans hl0 hle2) hj2
      rw [e1]
      repeat' (first | (refine tl_is (.tmp 27) ?_; refine qY rfl rfl (hy) ?_; rintro v ρ' L' hle ⟨Lj', rfl, ⟨rfl, hj'⟩ | ⟨rfl, hj'⟩⟩ <;> (try simp only [kM, kN, kO])) | (refine iBu ?_; refine tl_y (y_buildN rfl) rfl rfl ?_) | (refine i_op ?_; first | (refine i_qq ?_; refine qQ ?_) | refine qEf ?_) | refine tl_nil ?_ | (refine i_tc ?_; refine qTc ?_) | (refine i_te ?_; refine qTe ?_) | intro _)
      · repeat' (first | (refine iBu ?_; refine tl_y (y_buildN rfl) rfl rfl ?_) | (refine i_op ?_; first | (refine i_qq ?_; refine qQ ?_) | refine qEf ?_) | refine tl_nil ?_ | (refine i_tc ?_; refine qTc ?_) | (refine i_te ?_; refine qTe ?_) | intro _)
        rw [← e1]
        refine te_round_g (j + 1, ρ', Lj') (⟨hlt2, Hp.le_trans hle2 hle, by dsimp only; rw [← Nat.add_assoc, hts]; exact hj'⟩) ev_le ev_le rfl tk inferInstance (by first | omega | (dsimp only; omega))
      · repeat' (first | (refine iBu ?_; refine tl_y (y_buildN rfl) rfl rfl ?_) | (refine i_op ?_; first | (refine i_qq ?_; refine qQ ?_) | refine qEf ?_) | refine tl_nil ?_ | (refine i_tc ?_; refine qTc ?_) | (refine i_te ?_; refine qTe ?_) | intro _)
        exact qE (L' := recC xb v r :: Lj') ⟨Lj', rfl, .inr hj'⟩
    · have hk2 : v.t.n + j = (neededL r).length := by unfold neededL; simp; omega
      rw [hk2, List.take_length] at hj2
      repeat' (first | (refine iBu ?_; refine tl_y (y_buildN rfl) rfl rfl ?_) | (refine i_op ?_; first | (refine i_qq ?_; refine qQ ?_) | refine qEf ?_) | refine tl_nil ?_ | (refine i_tc ?_; refine qTc ?_) | (refine i_te ?_; refine qTe ?_) | intro _)
      exact qE (L' := recC xb v r :: L2) ⟨L2, rfl, .inl hj2⟩
theorem needed_spec (ρ : Hp) (v : RV) (r : Rc) : Spec Tryz.prog 75 [.agg ⟨recV v r⟩] ρ [] (fun z ρ' L' => ρ' = ρ ∧ ∃ xb, z = .func (.func 158) ⟨[]⟩ ⟨[.pointer (some ⟨xb, 0, none⟩)]⟩ ∧ L' = [recC xb v r]) := by
  refine spec_enter Tryz.func75 rfl rfl rfl fun u R => ?_
  simp only [argsE, List.cons_append, List.nil_append]
  repeat' (first | (refine iBu ?_; refine tl_y (y_buildN rfl) rfl rfl ?_) | (refine i_op ?_; first | (refine i_qq ?_; refine qQ ?_) | refine qEf ?_) | refine tl_nil ?_ | (refine i_tc ?_; refine qTc ?_) | (refine i_te ?_; refine qTe ?_) | intro _)
  rename_i xb
  exact qE (L' := [recC xb v r]) ⟨rfl, xb, rfl, rfl⟩
def cutN (r : Rc) : Nat := if isE r = 0 then leastN r.lsn (neededL r) else 0
theorem cut_spec (ρ : Hp) (v : RV) (r : Rc) (h : RcIn ρ v r) : Spec Tryz.prog 17 [.agg ⟨recV v r⟩] ρ [] (fun z ρ' L' => ρ.le ρ' ∧ z = .tuple ⟨[.int .u64 (cutN r), .int .i64 (isE r)]⟩ ∧ L' = []) := by
  have his := is_spec ρ v r h
  have lt := h.t.at'.len
  have ld := h.d.at'.len
  have bt := h.t.big
  have bd := h.d.big
  have hnl : (neededL r).length = r.txns.length + r.dirty.length := by unfold neededL; simp
  unfold cutN
  refine spec_enter Tryz.func17 rfl rfl rfl fun u R => ?_
  simp only [argsE, List.cons_append, List.nil_append]
  by_cases h0 : isE r = 0
  · rw [if_pos h0, h0]
    rw [h0] at his
    repeat' (first | (refine tl_is (.func 72) ?_; refine qC rfl rfl (his) ?_; rintro v ρ' L' hle ⟨rfl, rfl, rfl⟩ <;> (try simp only [kM, kN, kO])) | (refine tl_is (.func 75) ?_; refine qC rfl rfl (needed_spec _ v r) ?_; rintro v ρ' L' hle ⟨rfl, xb, rfl, rfl⟩ <;> (try simp only [kM, kN, kO])) | (refine iBu ?_; refine tl_y (y_buildN rfl) rfl rfl ?_) | (refine i_op ?_; first | (refine i_qq ?_; refine qQ ?_) | refine qEf ?_) | refine tl_nil ?_ | (refine i_tc ?_; refine qTc ?_) | (refine i_te ?_; refine qTe ?_) | intro _)
    rename_i rb sb x1
    have hI := needed1_iter ρ' xb v r h
    refine tc_rangeFunc (S := [recC xb v r]) (L0 := [[(sb, .cells ⟨[.slice none 0 0]⟩ 70 (0, 0))], ownC (.slice none 0 0) [] [] 24]) (R := recC rb v r :: R) (R0 := [(sb, .cells ⟨[.slice none 0 0]⟩ 70 (0, 0))] :: recC rb v r :: R) rfl rfl hI (Hp.le_refl _) (fun _ => rfl) rfl
      (fun pre ρ2 Lu => ρ'.le ρ2 ∧ ∃ v sp, OwnS v pre.length (pre.map u64c) sp 1 ∧ Lu = [[(sb, .cells ⟨[v]⟩ 70 (0, 0))], ownC v (pre.map u64c) sp 24]) (fun _ _ _ => False) ?k1 ?k2 ⟨Hp.le_refl _, _, [], OwnS.nil 1, rfl⟩ ?round ?done ?stop
    case k1 => exact tk
    case k2 => exact take_cons' rem_here' (take_cons' rem_nil' take_nil')
    case stop => rintro D0 c ρ' Lu _ hf; exact hf.elim
    case round =>
      rintro l tm r' pre y ρ2 Lu u R' hpre hle' ⟨hle2, v', sp, hown, rfl⟩ hr hrec
      simp only [envP, List.cons_append, List.nil_append]
      have hlen := hpre.length_le
      simp only [List.length_append, List.length_singleton] at hlen
      repeat' (first | (refine iBu ?_; refine tl_y (y_buildN rfl) rfl rfl ?_) | (refine i_op ?_; first | (refine i_qq ?_; refine qQ ?_) | refine qEf ?_) | refine tl_nil ?_ | (refine i_tc ?_; refine qTc ?_) | (refine i_te ?_; refine qTe ?_) | intro _)
      refine te_begin rfl hr (fun r' hb hrec' => ?_)
      repeat' (first | (refine tl_buildSlice_s rfl rfl rfl rfl (by simp) rfl rfl (fun _ => ?_)) | (refine tl_append (ys := [u64c y]) rfl rfl hown (Src.find (n := 1) rfl) rfl rfl (by decide) rfl (by omega) (by omega) rfl (fun v' sp' hown' => ?_); obtain ⟨a', cap', rfl, hvl⟩ := hown'.len) | (refine iBu ?_; refine tl_y (y_buildN rfl) rfl rfl ?_) | (refine i_op ?_; first | (refine i_qq ?_; refine qQ ?_) | refine qEf ?_) | refine tl_nil ?_ | (refine i_tc ?_; refine qTc ?_) | (refine i_te ?_; refine qTe ?_) | intro _)
      refine te_front [(l, .loop r')] ?_
      have hm : pre.map u64c ++ [u64c y] = (pre ++ [y]).map u64c := by simp
      rw [hm] at hown' ⊢
      refine te_next (Lu := [[(sb, .cells ⟨[.slice a' (pre.length + 1) cap']⟩ 70 (0, 0))], ownC (.slice a' (pre.length + 1) cap') ((pre ++ [y]).map u64c) sp' 24]) rfl (Hp.le_refl _) ⟨hrec'.tmps.trans hrec.tmps, hrec'.params.trans hrec.params, hrec'.assign.trans hrec.assign, hrec'.body.trans hrec.body⟩ tk tk inferInstance ?_
      exact ⟨hle2, .slice a' (pre.length + 1) cap', sp', by simpa using hown', rfl⟩
    case done =>
      rintro D0 ρ2 Lu hle' ⟨hle2, v', sp, hown, rfl⟩
      simp only [List.cons_append, List.nil_append]
      obtain ⟨a', cap', rfl, hvl⟩ := hown.slice
      refine te_freeze (ownC (.slice a' (neededL r).length cap') ((neededL r).map u64c) sp 24) (fun ρ3 hle3 hfz => ?_)
      obtain ⟨sa, sc, f1, hsc, hS⟩ := hown.sIn hfz
      cases f1
      repeat' (first | (refine tl_is (.func 76) ?_; refine qC rfl rfl (least_spec _ r.lsn _ _ _ (neededL r) hS (by omega)) ?_; rintro v ρ' L' hle ⟨rfl, rfl, rfl⟩ <;> (try simp only [kM, kN, kO])) | (refine iBu ?_; refine tl_y (y_buildN rfl) rfl rfl ?_) | (refine i_op ?_; first | (refine i_qq ?_; refine qQ ?_) | refine qEf ?_) | refine tl_nil ?_ | (refine i_tc ?_; refine qTc ?_) | (refine i_te ?_; refine qTe ?_) | intro _)
      exact te_end_d rfl rfl rfl inferInstance (res2 rfl (r1_tmp rfl) (r1_tmp rfl)) (Hp.le_trans hle2 hle3) tk (by infer_instance) ⟨Hp.le_trans hle2 hle3, rfl, rfl⟩
  · rw [if_neg h0]
    repeat' (first | (refine tl_is (.func 72) ?_; refine qC rfl rfl (his) ?_; rintro v ρ' L' hle ⟨rfl, rfl, rfl⟩ <;> (try simp only [kM, kN, kO])) | (refine iBu ?_; refine tl_y (y_buildN rfl) rfl rfl ?_) | (refine i_op ?_; first | (refine i_qq ?_; refine qQ ?_) | refine qEf ?_) | refine tl_nil ?_ | (refine i_tc ?_; refine qTc ?_) | (refine i_te ?_; refine qTe ?_) | intro _)
    exact qE ⟨Hp.le_refl _, rfl, rfl⟩
end Go.Proofs.E

