/- The law RosterTells. Part 1 of 2. -/
import Derived.Test.YtjajdpfdhokkhaaGreatR16
namespace Go.Proofs.E
open Go
set_option linter.unusedVariables false
set_option linter.unusedSimpArgs false

/-! ## a range over a function -/
section
variable {x : Cx} {Q : Exit → Act → World → Prop} {E : Env} {ρ ρ0 : Hp} {L : SH} {l : Nat} {r : Loop}
theorem te_cut_e {Y : Type} {S : Y → LS} {I : Y → Prop} {Lm G R : SH} (y' : Y) (hL : (S y').L = Lm ++ R) (hI : I y') (hE : EnvLe (S y').E E) (hρ : (S y').ρ = ρ) (k : Take L Lm G) (e : Ends G R) :
    TE x .normal (Exit.then (fun a w => ∃ y', Ok x.D x.N (S y').E a ∧ Sat x.u (S y').ρ (S y').L w ∧ I y') Q) E ρ L :=
  fun a w ha hw => ⟨y', ha.le hE, by rw [hρ, hL]; exact hw.ends k e, hI⟩

end
end Go.Proofs.E

namespace Go.Proofs.E
open Go
set_option linter.unusedVariables false
set_option linter.unusedSimpArgs false

/-! ## loops: what turns is named, what stays is found -/
section
variable {x : Cx} {Q : Exit → Act → World → Prop} {E : Env} {ρ : Hp} {L : SH}
def KCG (x : Cx) {Y : Type} (C : Env) (M : Y → Env) (ρf : Y → Hp) (Lf : Y → SH) (R : SH) (I : Y → Prop) : Act → World → Prop := fun a w => ∃ y', Ok x.D x.N (M y' ++ C) a ∧ Sat x.u (ρf y') (Lf y' ++ R) w ∧ I y'
theorem tc_cut_k {y z : Code} {Y : Type} (R : SH) (C : Env) (M : Y → Env) (ρf : Y → Hp) (Lf : Y → SH) (I : Y → Prop) (hC : EnvLe C E)
    (h : TC x y (Exit.then (KCG x C M ρf Lf R I) Q) E ρ L)
    (k : ∀ y', I y' → TC x z Q (M y' ++ C) (ρf y') (Lf y' ++ R)) : TC x y (Exit.then (KC x z Q) Q) E ρ L := fun a w ha hw =>
  wpIn_mono (h a w ha hw) fun e a w q => by
    cases e <;> first | exact q | exact (let ⟨y', h1, h2, h3⟩ := q; k y' h3 a w h1 h2)
theorem te_cut_g {Y : Type} {C : Env} {M : Y → Env} {ρf : Y → Hp} {Lf : Y → SH} {R G : SH} {I : Y → Prop} (y' : Y) (hI : I y') (hM : EnvLe (M y') E) (hC : EnvLe C E) (hρ : ρf y' = ρ) (k : Take L (Lf y') G) (e : Ends G R) :
    TE x .normal (Exit.then (KCG x C M ρf Lf R I) Q) E ρ L :=
  te_cut_e (S := fun y => ⟨M y ++ C, ρf y, Lf y ++ R⟩) (Lm := Lf y') (R := R) y' rfl hI (hM.app hC) hρ k e
end
end Go.Proofs.E

namespace Go.Proofs.E
open Go
set_option linter.unusedVariables false
set_option linter.unusedSimpArgs false
set_option linter.unusedSectionVars false
set_option maxRecDepth 4000
set_option maxHeartbeats 1000000
attribute [local irreducible] Yl TL TC TE Spec YSpec R1 Hp.le EnvLe TS TR YS Stays
-- BN
def ckOf (x : Tx) : CkT := ⟨x.num, x.first, x.last, x.undo, x.state⟩
end Go.Proofs.E

namespace Go.Proofs.E
open Go
set_option linter.unusedVariables false
set_option linter.unusedSimpArgs false
set_option linter.unusedSectionVars false
set_option maxRecDepth 4000
set_option maxHeartbeats 1000000
attribute [local irreducible] Yl TL TC TE Spec YSpec R1 Hp.le EnvLe TS TR YS Stays
-- BN
theorem rosckpt_spec (ρ : Hp) (v : SV) (r : Ros) (h : RosIn ρ v r) : Spec Tryz.prog 41 [.agg ⟨rosV v r⟩] ρ []
    (fun z ρ' L' => ρ.le ρ' ∧ ∃ s : SV, z = .slice s.a s.n s.c ∧ AS ρ' 5 ckTV s (if rosOk r then r.txns.map ckOf else []) ∧ L' = []) := by
  have hl := h.at'.at'.len
  have hn := h.at'.big
  have hA := h.at'.at'
  have hck := roscheck_spec ρ v r h
  refine spec_enter Tryz.func41 rfl rfl rfl fun u R => ?_
  simp only [argsE, List.cons_append, List.nil_append]
  cases hok : rosOk r
  · rw [hok] at hck
    repeat' (first | (refine tl_is (.func 42) ?_; refine qC rfl rfl (hck) ?_; rintro v ρ' L' hle ⟨rfl, rfl, rfl⟩ <;> (try simp only [kM, kN, kO, if_false, Bool.false_eq_true])) | (refine iBu ?_; refine tl_y (y_buildN rfl) rfl rfl ?_) | (refine i_op ?_; first | (refine i_qq ?_; refine qQ ?_) | refine qEf ?_) | refine tl_nil ?_ | (refine i_tc ?_; refine qTc ?_) | (refine i_te ?_; refine qTe ?_) | intro _)
    exact qE ⟨Hp.le_refl _, nilS, rfl, AS.nil, rfl⟩
  · rw [hok] at hck
    simp only [if_true]
    repeat' (first | (refine tl_is (.func 42) ?_; refine qC rfl rfl (hck) ?_; rintro v ρ' L' hle ⟨rfl, rfl, rfl⟩ <;> (try simp only [kM, kN, kO, if_true])) | (refine iBu ?_; refine tl_y (y_buildN rfl) rfl rfl ?_) | (refine i_op ?_; first | (refine i_qq ?_; refine qQ ?_) | refine qEf ?_) | refine tl_nil ?_ | (refine i_tc ?_; refine qTc ?_) | (refine i_te ?_; refine qTe ?_) | intro _)
    refine tc_loop_g [(2, _), (10, _), (11, _)] (fun (ζ : (Nat) × (Value) × (List Value)) => [(12, .int .i64 ζ.1), (3, ζ.2.1)]) (fun (ζ : (Nat) × (Value) × (List Value)) => ρ') (fun (ζ : (Nat) × (Value) × (List Value)) => [ownC ζ.2.1 ((((r.txns.take ζ.1).map ckOf).map ckTV).flatten) ζ.2.2 81]) (fun (ζ : (Nat) × (Value) × (List Value)) => ζ.1 ≤ v.n ∧ OwnS ζ.2.1 ζ.1 ((((r.txns.take ζ.1).map ckOf).map ckTV).flatten) ζ.2.2 5) (fun (ζ : (Nat) × (Value) × (List Value)) => v.n - ζ.1) ((0, .slice none 0 0, [])) (⟨Nat.zero_le _, OwnS.nil 5⟩) ev_le ev_le rfl tk ?_
    rintro ⟨k, vv, sp⟩ hI
    try simp only [List.cons_append, List.nil_append, List.append_assoc, List.append_eq] at hI ⊢
    try dsimp only at hI ⊢
    obtain ⟨hk, hown⟩ := hI
    by_cases hlt : k < v.n
    · obtain ⟨b, off, C, T, fr, e1, hb, hfit, hc⟩ := hA.get (show k < r.txns.length by omega)
      have hx := List.take_succ_eq_append_getElem (show k < r.txns.length by omega)
      generalize r.txns[k]'(by omega) = x at *
      rw [e1]
      repeat' (first | (refine iBu ?_; refine tl_y (y_buildN rfl) rfl rfl ?_) | (refine i_op ?_; first | (refine i_qq ?_; refine qQ ?_) | refine qEf ?_) | refine tl_nil ?_ | (refine i_tc ?_; refine qTc ?_) | (refine i_te ?_; refine qTe ?_) | intro _)
      refine tl_buildSliceA (css := [ckTV (ckOf x)]) (sz := 5) rfl rfl rfl rfl (by simp) (by simp) rfl (fun bs => ?_)
      simp only [List.flatten_cons, List.flatten_nil, List.append_nil]
      refine tl_app (ys := ckTV (ckOf x)) (m := 1) rfl rfl hown (hR := by infer_instance) (SrcV.lit) rfl rfl (by decide) rfl (by omega) (by omega) rfl (fun v' sp' hown' => ?_)
      have hm : (((r.txns.take k).map ckOf).map ckTV).flatten ++ ckTV (ckOf x) = (((r.txns.take (k + 1)).map ckOf).map ckTV).flatten := by rw [hx]; simp
      rw [hm] at hown' ⊢
      repeat' (first | (refine iBu ?_; refine tl_y (y_buildN rfl) rfl rfl ?_) | (refine i_op ?_; first | (refine i_qq ?_; refine qQ ?_) | refine qEf ?_) | refine tl_nil ?_ | (refine i_tc ?_; refine qTc ?_) | (refine i_te ?_; refine qTe ?_) | intro _)
      rw [← e1]
      refine te_round_g (k + 1, v', sp') (⟨hlt, hown'⟩) ev_le ev_le rfl tk inferInstance (by first | omega | (dsimp only; omega))
    · have hk2 : k = r.txns.length := by omega
      rw [show r.txns.take k = r.txns by rw [hk2, List.take_length]] at hown ⊢
      repeat' (first | (refine iBu ?_; refine tl_y (y_buildN rfl) rfl rfl ?_) | (refine i_op ?_; first | (refine i_qq ?_; refine qQ ?_) | refine qEf ?_) | refine tl_nil ?_ | (refine i_tc ?_; refine qTc ?_) | (refine i_te ?_; refine qTe ?_) | intro _)
      refine te_freeze (ownC vv (((r.txns.map ckOf).map ckTV).flatten) sp 81) (fun ρ3 hle3 hfz => ?_)
      obtain ⟨sa, sc, e1, hsc, hA2⟩ := hown.aIn (by simp; omega) (fun x _ => ckTV_len x) hfz
      subst e1
      exact qE ⟨hle3, ⟨sa, k, sc⟩, rfl, ⟨hA2, by dsimp only; omega, hsc⟩, rfl⟩
end Go.Proofs.E

namespace Go.Proofs.E
open Go
set_option linter.unusedVariables false
set_option linter.unusedSimpArgs false
set_option linter.unusedSectionVars false
set_option maxRecDepth 4000
set_option maxHeartbeats 1000000
attribute [local irreducible] Yl TL TC TE Spec YSpec R1 Hp.le EnvLe TS TR YS Stays
-- BN
theorem ckpt18_spec (ρ : Hp) (v : SV) (r : Ros) (h : RosIn ρ v r) : Spec Tryz.prog 52 [.agg ⟨rosV v r⟩] ρ []
    (fun z ρ' L' => ρ.le ρ' ∧ ∃ s : SV, z = .slice s.a s.n s.c ∧ AS ρ' 5 ckTV s (r.txns.map ckOf) ∧ L' = []) := by
  have hl := h.at'.at'.len
  have hn := h.at'.big
  have hA := h.at'.at'
  refine spec_enter Tryz.func52 rfl rfl rfl fun u R => ?_
  simp only [argsE, List.cons_append, List.nil_append]
  repeat' (first | (refine iBu ?_; refine tl_y (y_buildN rfl) rfl rfl ?_) | (refine i_op ?_; first | (refine i_qq ?_; refine qQ ?_) | refine qEf ?_) | refine tl_nil ?_ | (refine i_tc ?_; refine qTc ?_) | (refine i_te ?_; refine qTe ?_) | intro _)
  refine tc_loop_g [(2, _), (7, _), (8, _)] (fun (ζ : (Nat) × (Value) × (List Value)) => [(9, .int .i64 ζ.1), (3, ζ.2.1)]) (fun (ζ : (Nat) × (Value) × (List Value)) => ρ) (fun (ζ : (Nat) × (Value) × (List Value)) => [ownC ζ.2.1 ((((r.txns.take ζ.1).map ckOf).map ckTV).flatten) ζ.2.2 81]) (fun (ζ : (Nat) × (Value) × (List Value)) => ζ.1 ≤ v.n ∧ OwnS ζ.2.1 ζ.1 ((((r.txns.take ζ.1).map ckOf).map ckTV).flatten) ζ.2.2 5) (fun (ζ : (Nat) × (Value) × (List Value)) => v.n - ζ.1) ((0, .slice none 0 0, [])) (⟨Nat.zero_le _, OwnS.nil 5⟩) ev_le ev_le rfl tk ?_
  rintro ⟨k, vv, sp⟩ hI
  try simp only [List.cons_append, List.nil_append, List.append_assoc, List.append_eq] at hI ⊢
  try dsimp only at hI ⊢
  obtain ⟨hk, hown⟩ := hI
  by_cases hlt : k < v.n
  · obtain ⟨b, off, C, T, fr, e1, hb, hfit, hc⟩ := hA.get (show k < r.txns.length by omega)
    have hx := List.take_succ_eq_append_getElem (show k < r.txns.length by omega)
    generalize r.txns[k]'(by omega) = x at *
    rw [e1]
    repeat' (first | (refine iBu ?_; refine tl_y (y_buildN rfl) rfl rfl ?_) | (refine i_op ?_; first | (refine i_qq ?_; refine qQ ?_) | refine qEf ?_) | refine tl_nil ?_ | (refine i_tc ?_; refine qTc ?_) | (refine i_te ?_; refine qTe ?_) | intro _)
    refine tl_buildSliceA (css := [ckTV (ckOf x)]) (sz := 5) rfl rfl rfl rfl (by simp) (by simp) rfl (fun bs => ?_)
    simp only [List.flatten_cons, List.flatten_nil, List.append_nil]
    refine tl_app (ys := ckTV (ckOf x)) (m := 1) rfl rfl hown (hR := by infer_instance) (SrcV.lit) rfl rfl (by decide) rfl (by omega) (by omega) rfl (fun v' sp' hown' => ?_)
    have hm : (((r.txns.take k).map ckOf).map ckTV).flatten ++ ckTV (ckOf x) = (((r.txns.take (k + 1)).map ckOf).map ckTV).flatten := by rw [hx]; simp
    rw [hm] at hown' ⊢
    repeat' (first | (refine iBu ?_; refine tl_y (y_buildN rfl) rfl rfl ?_) | (refine i_op ?_; first | (refine i_qq ?_; refine qQ ?_) | refine qEf ?_) | refine tl_nil ?_ | (refine i_tc ?_; refine qTc ?_) | (refine i_te ?_; refine qTe ?_) | intro _)
    rw [← e1]
    refine te_round_g (k + 1, v', sp') (⟨hlt, hown'⟩) ev_le ev_le rfl tk inferInstance (by first | omega | (dsimp only; omega))
  · have hk2 : k = r.txns.length := by omega
    rw [show r.txns.take k = r.txns by rw [hk2, List.take_length]] at hown ⊢
    repeat' (first | (refine iBu ?_; refine tl_y (y_buildN rfl) rfl rfl ?_) | (refine i_op ?_; first | (refine i_qq ?_; refine qQ ?_) | refine qEf ?_) | refine tl_nil ?_ | (refine i_tc ?_; refine qTc ?_) | (refine i_te ?_; refine qTe ?_) | intro _)
    refine te_freeze (ownC vv (((r.txns.map ckOf).map ckTV).flatten) sp 81) (fun ρ3 hle3 hfz => ?_)
    obtain ⟨sa, sc, e1, hsc, hA2⟩ := hown.aIn (by simp; omega) (fun x _ => ckTV_len x) hfz
    subst e1
    exact qE ⟨hle3, ⟨sa, k, sc⟩, rfl, ⟨hA2, by dsimp only; omega, hsc⟩, rfl⟩
end Go.Proofs.E

namespace Go.Proofs.E
open Go
set_option linter.unusedVariables false
set_option linter.unusedSimpArgs false
set_option linter.unusedSectionVars false
set_option maxRecDepth 4000
set_option maxHeartbeats 1000000
attribute [local irreducible] Yl TL TC TE Spec YSpec R1 Hp.le EnvLe TS TR YS Stays
-- BN
theorem eqLF_spec (ρ : Hp) (a a' : Option Addr) (n n' c c' : Nat) (l m : List Lf) (h : AIn ρ 2 lfV a n l) (h' : AIn ρ 2 lfV a' n' m) (hn : n ≤ 200000000000000) :
    Spec Tryz.prog 132 [.slice a n c, .slice a' n' c'] ρ [] (fun v ρ' L' => v = .bool (decide (l = m)) ∧ ρ' = ρ ∧ L' = []) := by
  have hl := h.len
  have hm := h'.len
  refine spec_enter Tryz.func132 rfl rfl rfl fun u R => ?_
  simp only [argsE, List.cons_append, List.nil_append]
  by_cases hne : n = n'
  · repeat' (first | (refine iBu ?_; refine tl_y (y_buildN rfl) rfl rfl ?_) | (refine i_op ?_; first | (refine i_qq ?_; refine qQ ?_) | refine qEf ?_) | refine tl_nil ?_ | (refine i_tc ?_; refine qTc ?_) | (refine i_te ?_; refine qTe ?_) | intro _)
    refine tc_loop_g [(0, _), (1, _), (12, _)] (fun (ζ : (Nat)) => [(13, .int .i64 ζ), (4, .bool false)]) (fun (ζ : (Nat)) => ρ) (fun (ζ : (Nat)) => []) (fun (ζ : (Nat)) => ζ ≤ n ∧ l.take ζ = m.take ζ) (fun (ζ : (Nat)) => n - ζ) (0) (⟨Nat.zero_le _, rfl⟩) ev_le ev_le rfl tk ?_
    rintro k hI
    try simp only [List.cons_append, List.nil_append, List.append_assoc, List.append_eq] at hI ⊢
    try dsimp only at hI ⊢
    obtain ⟨hk, hpre⟩ := hI
    by_cases hlt : k < n
    · obtain ⟨b, off, C, T, fr, f1, hb, hfit, hc⟩ := h.get (show k < l.length by omega)
      obtain ⟨b2, off2, C2, T2, fr2, f2, hb2, hfit2, hc2⟩ := h'.get (show k < m.length by omega)
      have ht1 := List.take_succ_eq_append_getElem (show k < l.length by omega)
      have ht2 := List.take_succ_eq_append_getElem (show k < m.length by omega)
      have hf : l = m → l[k]'(by omega) = m[k]'(by omega) := fun e => by subst e; rfl
      generalize l[k]'(by omega) = x at *
      generalize m[k]'(by omega) = y at *
      rw [f1, f2]
      by_cases he : x = y
      · have hd : decide (x = y) = true := decide_eq_true he
        have hpre2 : l.take (k + 1) = m.take (k + 1) := by rw [ht1, ht2, hpre, he]
        repeat' (first | (refine iBu ?_; refine tl_y (y_buildN rfl) rfl rfl ?_) | (refine i_op ?_; first | (refine i_qq ?_; refine qQ ?_) | refine qEf ?_) | refine tl_nil ?_ | (refine i_tc ?_; refine qTc ?_) | (refine i_te ?_; refine qTe ?_) | intro _)
        refine tc_any (Stays _ _ _) stays_refl ?_
        all_goals refine rMv 0 ?_
        all_goals refine rFull ?_
        all_goals refine rMv 1 ?_
        all_goals refine rIa 2 ?_
        all_goals refine rLd 3 ?_
        all_goals refine rMv 4 ?_
        all_goals refine rMv 5 ?_
        all_goals refine rIa 6 ?_
        all_goals refine rLd 7 ?_
        all_goals refine rCm 8 ?_
        all_goals refine rDone ?_
        all_goals (try simp only [hd])
        all_goals (repeat' (first | (refine iBu ?_; refine tl_y (y_buildN rfl) rfl rfl ?_) | (refine i_op ?_; first | (refine i_qq ?_; refine qQ ?_) | refine qEf ?_) | refine tl_nil ?_ | (refine i_tc ?_; refine qTc ?_) | (refine i_te ?_; refine qTe ?_) | intro _))
        all_goals rw [← f1, ← f2]
        all_goals refine te_round_g (k + 1) (⟨hlt, hpre2⟩) ev_le ev_le rfl tk inferInstance (by first | omega | (dsimp only; omega))
      · have hd : decide (x = y) = false := decide_eq_false he
        rw [decide_eq_false (fun e => he (hf e))]
        repeat' (first | (refine iBu ?_; refine tl_y (y_buildN rfl) rfl rfl ?_) | (refine i_op ?_; first | (refine i_qq ?_; refine qQ ?_) | refine qEf ?_) | refine tl_nil ?_ | (refine i_tc ?_; refine qTc ?_) | (refine i_te ?_; refine qTe ?_) | intro _)
        refine tc_any (Stays _ _ _) stays_refl ?_
        all_goals refine rMv 0 ?_
        all_goals refine rFull ?_
        all_goals refine rMv 1 ?_
        all_goals refine rIa 2 ?_
        all_goals refine rLd 3 ?_
        all_goals refine rMv 4 ?_
        all_goals refine rMv 5 ?_
        all_goals refine rIa 6 ?_
        all_goals refine rLd 7 ?_
        all_goals refine rCm 8 ?_
        all_goals refine rDone ?_
        all_goals (try simp only [hd])
        all_goals (repeat' (first | (refine iBu ?_; refine tl_y (y_buildN rfl) rfl rfl ?_) | (refine i_op ?_; first | (refine i_qq ?_; refine qQ ?_) | refine qEf ?_) | refine tl_nil ?_ | (refine i_tc ?_; refine qTc ?_) | (refine i_te ?_; refine qTe ?_) | intro _))
        all_goals exact qE (L' := []) ⟨rfl, rfl, rfl⟩
    · have hk2 : k = n := by omega
      subst hk2
      rw [List.take_of_length_le (by omega), List.take_of_length_le (by omega)] at hpre
      rw [decide_eq_true hpre]
      repeat' (first | (refine iBu ?_; refine tl_y (y_buildN rfl) rfl rfl ?_) | (refine i_op ?_; first | (refine i_qq ?_; refine qQ ?_) | refine qEf ?_) | refine tl_nil ?_ | (refine i_tc ?_; refine qTc ?_) | (refine i_te ?_; refine qTe ?_) | intro _)
      exact qE ⟨rfl, rfl, rfl⟩
  · rw [decide_eq_false (fun e : l = m => hne (by rw [← hl, ← hm, e]))]
    repeat' (first | (refine iBu ?_; refine tl_y (y_buildN rfl) rfl rfl ?_) | (refine i_op ?_; first | (refine i_qq ?_; refine qQ ?_) | refine qEf ?_) | refine tl_nil ?_ | (refine i_tc ?_; refine qTc ?_) | (refine i_te ?_; refine qTe ?_) | intro _)
    exact qE ⟨rfl, rfl, rfl⟩
theorem eqU64_spec (ρ : Hp) (a a' : Option Addr) (n n' c c' : Nat) (l m : List Nat) (h : SIn ρ u64c a n l) (h' : SIn ρ u64c a' n' m) (hn : n ≤ 200000000000000) :
    Spec Tryz.prog 133 [.slice a n c, .slice a' n' c'] ρ [] (fun v ρ' L' => v = .bool (decide (l = m)) ∧ ρ' = ρ ∧ L' = []) := by
  have hl := h.len
  have hm := h'.len
  refine spec_enter Tryz.func133 rfl rfl rfl fun u R => ?_
  simp only [argsE, List.cons_append, List.nil_append]
  by_cases hne : n = n'
  · repeat' (first | (refine iBu ?_; refine tl_y (y_buildN rfl) rfl rfl ?_) | (refine i_op ?_; first | (refine i_qq ?_; refine qQ ?_) | refine qEf ?_) | refine tl_nil ?_ | (refine i_tc ?_; refine qTc ?_) | (refine i_te ?_; refine qTe ?_) | intro _)
    refine tc_loop_g [(0, _), (1, _), (12, _)] (fun (ζ : (Nat)) => [(13, .int .i64 ζ), (4, .bool false)]) (fun (ζ : (Nat)) => ρ) (fun (ζ : (Nat)) => []) (fun (ζ : (Nat)) => ζ ≤ n ∧ l.take ζ = m.take ζ) (fun (ζ : (Nat)) => n - ζ) (0) (⟨Nat.zero_le _, rfl⟩) ev_le ev_le rfl tk ?_
    rintro k hI
    try simp only [List.cons_append, List.nil_append, List.append_assoc, List.append_eq] at hI ⊢
    try dsimp only at hI ⊢
    obtain ⟨hk, hpre⟩ := hI
    by_cases hlt : k < n
    · obtain ⟨b, off, C, T, fr, f1, hb, hc⟩ := h.get (show k < l.length by omega)
      obtain ⟨b2, off2, C2, T2, fr2, f2, hb2, hc2⟩ := h'.get (show k < m.length by omega)
      have ht1 := List.take_succ_eq_append_getElem (show k < l.length by omega)
      have ht2 := List.take_succ_eq_append_getElem (show k < m.length by omega)
      have hf : l = m → l[k]'(by omega) = m[k]'(by omega) := fun e => by subst e; rfl
      generalize l[k]'(by omega) = x at *
      generalize m[k]'(by omega) = y at *
      rw [f1, f2]
      by_cases he : x = y
      · have hd : decide (x = y) = true := decide_eq_true he
        have hpre2 : l.take (k + 1) = m.take (k + 1) := by rw [ht1, ht2, hpre, he]
        repeat' (first | (refine iBu ?_; refine tl_y (y_buildN rfl) rfl rfl ?_) | (refine i_op ?_; first | (refine i_qq ?_; refine qQ ?_) | refine qEf ?_) | refine tl_nil ?_ | (refine i_tc ?_; refine qTc ?_) | (refine i_te ?_; refine qTe ?_) | intro _)
        refine tc_any (Stays _ _ _) stays_refl ?_
        all_goals refine rMv 0 ?_
        all_goals refine rFull ?_
        all_goals refine rMv 1 ?_
        all_goals refine rIa 2 ?_
        all_goals refine rLd 3 ?_
        all_goals refine rMv 4 ?_
        all_goals refine rMv 5 ?_
        all_goals refine rIa 6 ?_
        all_goals refine rLd 7 ?_
        all_goals refine rCm 8 ?_
        all_goals refine rDone ?_
        all_goals (try simp only [hd])
        all_goals (repeat' (first | (refine iBu ?_; refine tl_y (y_buildN rfl) rfl rfl ?_) | (refine i_op ?_; first | (refine i_qq ?_; refine qQ ?_) | refine qEf ?_) | refine tl_nil ?_ | (refine i_tc ?_; refine qTc ?_) | (refine i_te ?_; refine qTe ?_) | intro _))
        all_goals rw [← f1, ← f2]
        all_goals refine te_round_g (k + 1) (⟨hlt, hpre2⟩) ev_le ev_le rfl tk inferInstance (by first | omega | (dsimp only; omega))
      · have hd : decide (x = y) = false := decide_eq_false he
        rw [decide_eq_false (fun e => he (hf e))]
        repeat' (first | (refine iBu ?_; refine tl_y (y_buildN rfl) rfl rfl ?_) | (refine i_op ?_; first | (refine i_qq ?_; refine qQ ?_) | refine qEf ?_) | refine tl_nil ?_ | (refine i_tc ?_; refine qTc ?_) | (refine i_te ?_; refine qTe ?_) | intro _)
        refine tc_any (Stays _ _ _) stays_refl ?_
        all_goals refine rMv 0 ?_
        all_goals refine rFull ?_
        all_goals refine rMv 1 ?_
        all_goals refine rIa 2 ?_
        all_goals refine rLd 3 ?_
        all_goals refine rMv 4 ?_
        all_goals refine rMv 5 ?_
        all_goals refine rIa 6 ?_
        all_goals refine rLd 7 ?_
        all_goals refine rCm 8 ?_
        all_goals refine rDone ?_
        all_goals (try simp only [hd])
        all_goals (repeat' (first | (refine iBu ?_; refine tl_y (y_buildN rfl) rfl rfl ?_) | (refine i_op ?_; first | (refine i_qq ?_; refine qQ ?_) | refine qEf ?_) | refine tl_nil ?_ | (refine i_tc ?_; refine qTc ?_) | (refine i_te ?_; refine qTe ?_) | intro _))
        all_goals exact qE (L' := []) ⟨rfl, rfl, rfl⟩
    · have hk2 : k = n := by omega
      subst hk2
      rw [List.take_of_length_le (by omega), List.take_of_length_le (by omega)] at hpre
      rw [decide_eq_true hpre]
      repeat' (first | (refine iBu ?_; refine tl_y (y_buildN rfl) rfl rfl ?_) | (refine i_op ?_; first | (refine i_qq ?_; refine qQ ?_) | refine qEf ?_) | refine tl_nil ?_ | (refine i_tc ?_; refine qTc ?_) | (refine i_te ?_; refine qTe ?_) | intro _)
      exact qE ⟨rfl, rfl, rfl⟩
  · rw [decide_eq_false (fun e : l = m => hne (by rw [← hl, ← hm, e]))]
    repeat' (first | (refine iBu ?_; refine tl_y (y_buildN rfl) rfl rfl ?_) | (refine i_op ?_; first | (refine i_qq ?_; refine qQ ?_) | refine qEf ?_) | refine tl_nil ?_ | (refine i_tc ?_; refine qTc ?_) | (refine i_te ?_; refine qTe ?_) | intro _)
    exact qE ⟨rfl, rfl, rfl⟩
theorem rsame1_spec (ρ : Hp) (x y : Tx) (hx : Tx.In ρ x) (hy : Tx.In ρ y) : Spec Tryz.prog 131 [.agg ⟨txV x⟩, .agg ⟨txV y⟩] ρ [] (fun z ρ' L' => z = .bool (decide (x.p = y.p)) ∧ ρ' = ρ ∧ L' = []) := by
  have h1 := eqLF_spec ρ x.sv.a y.sv.a x.sv.n y.sv.n x.sv.c y.sv.c x.stack y.stack hx.s hy.s hx.sb
  have h2 := eqU64_spec ρ x.mv.a y.mv.a x.mv.n y.mv.n x.mv.c y.mv.c x.marks y.marks hx.m hy.m hx.mb
  have hp : decide (x.p = y.p) = (decide (x.num = y.num ∧ x.state = y.state ∧ x.first = y.first ∧ x.last = y.last ∧ x.undo = y.undo) && (decide (x.stack = y.stack) && decide (x.marks = y.marks))) := by
    simp only [Tx.p, TxP.mk.injEq]
    rw [Bool.eq_iff_iff]
    simp only [Bool.and_eq_true, decide_eq_true_eq, and_assoc]
  rw [hp]
  refine spec_enter Tryz.func131 rfl rfl rfl fun u R => ?_
  simp only [argsE, List.cons_append, List.nil_append]
  by_cases e : x.num = y.num ∧ x.state = y.state ∧ x.first = y.first ∧ x.last = y.last ∧ x.undo = y.undo
  · rw [decide_eq_true e, Bool.true_and]
    obtain ⟨g1, g2, g3, g4, g5⟩ := e
    by_cases e6 : x.stack = y.stack
    · rw [decide_eq_true e6, Bool.true_and]
      rw [decide_eq_true e6] at h1
      generalize decide (x.marks = y.marks) = q at *
      repeat' (first | (refine tl_is (.func 132) ?_; refine qC rfl rfl (h1) ?_; rintro v ρ' L' hle ⟨rfl, rfl, rfl⟩ <;> (try simp only [kM, kN, kO])) | (refine tl_is (.func 133) ?_; refine qC rfl rfl (h2) ?_; rintro v ρ' L' hle ⟨rfl, rfl, rfl⟩ <;> (try simp only [kM, kN, kO])) | (refine iBu ?_; refine tl_y (y_buildN rfl) rfl rfl ?_) | (refine i_op ?_; first | (refine i_qq ?_; refine qQ ?_) | refine qEf ?_) | refine tl_nil ?_ | (refine i_tc ?_; refine qTc ?_) | (refine i_te ?_; refine qTe ?_) | intro _)
      exact qE (L' := []) ⟨rfl, rfl, rfl⟩
    · rw [decide_eq_false e6, Bool.false_and]
      rw [decide_eq_false e6] at h1
      repeat' (first | (refine tl_is (.func 132) ?_; refine qC rfl rfl (h1) ?_; rintro v ρ' L' hle ⟨rfl, rfl, rfl⟩ <;> (try simp only [kM, kN, kO])) | (refine iBu ?_; refine tl_y (y_buildN rfl) rfl rfl ?_) | (refine i_op ?_; first | (refine i_qq ?_; refine qQ ?_) | refine qEf ?_) | refine tl_nil ?_ | (refine i_tc ?_; refine qTc ?_) | (refine i_te ?_; refine qTe ?_) | intro _)
      exact qE (L' := []) ⟨rfl, rfl, rfl⟩
  · rw [decide_eq_false e, Bool.false_and]
    repeat' (first | (refine iBu ?_; refine tl_y (y_buildN rfl) rfl rfl ?_) | (refine i_op ?_; first | (refine i_qq ?_; refine qQ ?_) | refine qEf ?_) | refine tl_nil ?_ | (refine i_tc ?_; refine qTc ?_) | (refine i_te ?_; refine qTe ?_) | (refine i_gd ?_; refine tl_guard rfl rfl (fun hb => ?_) (fun hb => ?_) <;> (try simp only [decide_eq_true_eq, decide_eq_false_iff_not, Bool.not_eq_true, Bool.not_eq_false, beq_iff_eq, bne_iff_ne, ne_eq, decide_eq_decide, Bool.not_eq_eq_eq_not, Bool.not_true, Bool.not_false, beq_eq_false_iff_ne, bne_eq_false_iff_eq, Bool.and_eq_true, Bool.or_eq_true, Bool.and_eq_false_imp, Bool.or_eq_false_iff, bq2, bqt, bqf] at hb)) | (refine i_cond ?_; refine tc_cond rfl (fun hb => ?_) (fun hb => ?_) <;> (try simp only [decide_eq_true_eq, decide_eq_false_iff_not, Bool.not_eq_true, Bool.not_eq_false, beq_iff_eq, bne_iff_ne, ne_eq, decide_eq_decide, Bool.not_eq_eq_eq_not, Bool.not_true, Bool.not_false, beq_eq_false_iff_ne, bne_eq_false_iff_eq, Bool.and_eq_true, Bool.or_eq_true, Bool.and_eq_false_imp, Bool.or_eq_false_iff, bq2, bqt, bqf] at hb)) | intro _)
    all_goals first | (exfalso; omega) | skip
    all_goals (refine qF (L' := []) ?_; exact ⟨by first | rfl | (congr 1; simp; omega) | (congr 1; simp), rfl, rfl⟩)
theorem rsameE_spec (ρ : Hp) (s s' : SV) (l m : List Tx) (h : AS ρ 7 txV s l) (h' : AS ρ 7 txV s' m) (hi : ∀ x ∈ l, Tx.In ρ x) (hi' : ∀ x ∈ m, Tx.In ρ x) :
    Spec Tryz.prog 130 [.slice s.a s.n s.c, .slice s'.a s'.n s'.c, .func (.func 131) ⟨[]⟩ ⟨[]⟩] ρ [] (fun v ρ' L' => v = .bool (decide (l.map Tx.p = m.map Tx.p)) ∧ ρ' = ρ ∧ L' = []) := by
  have hl := h.at'.len
  have hm := h'.at'.len
  have hn := h.big
  refine spec_enter Tryz.func130 rfl rfl rfl fun u R => ?_
  simp only [argsE, List.cons_append, List.nil_append]
  by_cases hne : s.n = s'.n
  · repeat' (first | (refine iBu ?_; refine tl_y (y_buildN rfl) rfl rfl ?_) | (refine i_op ?_; first | (refine i_qq ?_; refine qQ ?_) | refine qEf ?_) | refine tl_nil ?_ | (refine i_tc ?_; refine qTc ?_) | (refine i_te ?_; refine qTe ?_) | intro _)
    refine tc_loop_g [(1, _), (2, _), (15, _), (16, _)] (fun (ζ : (Nat)) => [(17, .int .i64 ζ), (6, .bool false)]) (fun (ζ : (Nat)) => ρ) (fun (ζ : (Nat)) => []) (fun (ζ : (Nat)) => ζ ≤ s.n ∧ (l.map Tx.p).take ζ = (m.map Tx.p).take ζ) (fun (ζ : (Nat)) => s.n - ζ) (0) (⟨Nat.zero_le _, rfl⟩) ev_le ev_le rfl tk ?_
    rintro k hI
    try simp only [List.cons_append, List.nil_append, List.append_assoc, List.append_eq] at hI ⊢
    try dsimp only at hI ⊢
    obtain ⟨hk, hpre⟩ := hI
    by_cases hlt : k < s.n
    · obtain ⟨b, off, C, T, fr, f1, hb, hfit, hc⟩ := h.at'.get (show k < l.length by omega)
      obtain ⟨b2, off2, C2, T2, fr2, f2, hb2, hfit2, hc2⟩ := h'.at'.get (show k < m.length by omega)
      have ht1 := map_take_suc Tx.p l k (by omega)
      have ht2 := map_take_suc Tx.p m k (by omega)
      have hf : l.map Tx.p = m.map Tx.p → (l[k]'(by omega)).p = (m[k]'(by omega)).p := fun e => by
        have g1 : (l.map Tx.p)[k]? = some (l[k]'(by omega)).p := by simp [show k < l.length by omega]
        have g2 : (m.map Tx.p)[k]? = some (m[k]'(by omega)).p := by simp [show k < m.length by omega]
        rw [e, g2] at g1
        exact (Option.some.inj g1).symm
      have hs1 := rsame1_spec ρ (l[k]'(by omega)) (m[k]'(by omega)) (hi _ (List.getElem_mem _)) (hi' _ (List.getElem_mem _))
      generalize l[k]'(by omega) = x at *
      generalize m[k]'(by omega) = y at *
      rw [f1, f2]
      by_cases he : x.p = y.p
      · have hpre2 : (l.map Tx.p).take (k + 1) = (m.map Tx.p).take (k + 1) := by rw [ht1, ht2, hpre, he]
        rw [decide_eq_true he] at hs1
        repeat' (first | (refine tl_is (.tmp 26) ?_; refine qC rfl rfl (hs1) ?_; rintro v ρ' L' hle ⟨rfl, rfl, rfl⟩ <;> (try simp only [kM, kN, kO])) | (refine iBu ?_; refine tl_y (y_buildN rfl) rfl rfl ?_) | (refine i_op ?_; first | (refine i_qq ?_; refine qQ ?_) | refine qEf ?_) | refine tl_nil ?_ | (refine i_tc ?_; refine qTc ?_) | (refine i_te ?_; refine qTe ?_) | intro _)
        rw [← f1, ← f2]
        refine te_round_g (k + 1) (⟨hlt, hpre2⟩) ev_le ev_le rfl tk inferInstance (by first | omega | (dsimp only; omega))
      · rw [decide_eq_false (fun e => he (hf e))]
        rw [decide_eq_false he] at hs1
        repeat' (first | (refine tl_is (.tmp 26) ?_; refine qC rfl rfl (hs1) ?_; rintro v ρ' L' hle ⟨rfl, rfl, rfl⟩ <;> (try simp only [kM, kN, kO])) | (refine iBu ?_; refine tl_y (y_buildN rfl) rfl rfl ?_) | (refine i_op ?_; first | (refine i_qq ?_; refine qQ ?_) | refine qEf ?_) | refine tl_nil ?_ | (refine i_tc ?_; refine qTc ?_) | (refine i_te ?_; refine qTe ?_) | intro _)
        exact qE (L' := []) ⟨rfl, rfl, rfl⟩
    · have hk2 : k = s.n := by omega
      subst hk2
      rw [List.take_of_length_le (by simp; omega), List.take_of_length_le (by simp; omega)] at hpre
      rw [decide_eq_true hpre]
      repeat' (first | (refine iBu ?_; refine tl_y (y_buildN rfl) rfl rfl ?_) | (refine i_op ?_; first | (refine i_qq ?_; refine qQ ?_) | refine qEf ?_) | refine tl_nil ?_ | (refine i_tc ?_; refine qTc ?_) | (refine i_te ?_; refine qTe ?_) | intro _)
      exact qE ⟨rfl, rfl, rfl⟩
  · rw [decide_eq_false (fun e : l.map Tx.p = m.map Tx.p => hne (by have := congrArg List.length e; simp at this; omega))]
    repeat' (first | (refine iBu ?_; refine tl_y (y_buildN rfl) rfl rfl ?_) | (refine i_op ?_; first | (refine i_qq ?_; refine qQ ?_) | refine qEf ?_) | refine tl_nil ?_ | (refine i_tc ?_; refine qTc ?_) | (refine i_te ?_; refine qTe ?_) | intro _)
    exact qE ⟨rfl, rfl, rfl⟩
theorem rsame_spec (ρ : Hp) (v v' : SV) (x y : Ros) (hx : RosIn ρ v x) (hy : RosIn ρ v' y) : Spec Tryz.prog 49 [.agg ⟨rosV v x⟩, .agg ⟨rosV v' y⟩] ρ [] (fun z ρ' L' => z = .bool (decide (x.p = y.p)) ∧ ρ' = ρ ∧ L' = []) := by
  have h1 := rsameE_spec ρ v v' x.txns y.txns hx.at' hy.at' hx.tx hy.tx
  have hp : decide (x.p = y.p) = (decide (x.next = y.next) && decide (x.txns.map Tx.p = y.txns.map Tx.p)) := by
    simp only [Ros.p, RosP.mk.injEq]
    rw [Bool.eq_iff_iff]
    simp only [Bool.and_eq_true, decide_eq_true_eq]
  rw [hp]
  generalize decide (x.txns.map Tx.p = y.txns.map Tx.p) = q at *
  refine spec_enter Tryz.func49 rfl rfl rfl fun u R => ?_
  simp only [argsE, List.cons_append, List.nil_append]
  by_cases e : x.next = y.next
  · rw [decide_eq_true e, Bool.true_and]
    repeat' (first | (refine tl_is (.func 130) ?_; refine qC rfl rfl (h1) ?_; rintro v ρ' L' hle ⟨rfl, rfl, rfl⟩ <;> (try simp only [kM, kN, kO])) | (refine iBu ?_; refine tl_y (y_buildN rfl) rfl rfl ?_) | (refine i_op ?_; first | (refine i_qq ?_; refine qQ ?_) | refine qEf ?_) | refine tl_nil ?_ | (refine i_tc ?_; refine qTc ?_) | (refine i_te ?_; refine qTe ?_) | intro _)
    exact qE (L' := []) ⟨rfl, rfl, rfl⟩
  · rw [decide_eq_false e, Bool.false_and]
    repeat' (first | (refine iBu ?_; refine tl_y (y_buildN rfl) rfl rfl ?_) | (refine i_op ?_; first | (refine i_qq ?_; refine qQ ?_) | refine qEf ?_) | refine tl_nil ?_ | (refine i_tc ?_; refine qTc ?_) | (refine i_te ?_; refine qTe ?_) | intro _)
    exact qE (L' := []) ⟨rfl, rfl, rfl⟩
end Go.Proofs.E

namespace Go.Proofs.E
open Go
set_option linter.unusedVariables false
set_option linter.unusedSimpArgs false
set_option linter.unusedSectionVars false
set_option maxRecDepth 4000
set_option maxHeartbeats 1000000
attribute [local irreducible] Yl TL TC TE Spec YSpec R1 Hp.le EnvLe TS TR YS Stays
-- BN
/-! ## what the document says that a roster tells -/
theorem findT_take (l : List TxP) (num : Int) (k : Nat) (h : k < l.length) (hn : ∀ t ∈ l.take k, t.num ≠ num) : (l[k].num = num → l.find? (fun t => decide (t.num = num)) = some l[k]) ∧ (l[k].num ≠ num → ∀ t ∈ l.take (k + 1), t.num ≠ num) := by
  constructor
  · intro e
    rw [List.find?_eq_some_iff_getElem]
    refine ⟨by simpa using e, k, h, rfl, fun j hj => ?_⟩
    have := hn l[j] (List.mem_take_iff_getElem.2 ⟨j, by omega, rfl⟩)
    simpa using this
  · intro e t ht
    rw [List.take_succ_eq_append_getElem h] at ht
    rcases List.mem_append.1 ht with ht | ht
    · exact hn t ht
    · rw [List.mem_singleton.1 ht]; exact e
theorem find18_spec (ρ : Hp) (v : SV) (ro : Ros) (h : RosIn ρ v ro) (num : Int) : Spec Tryz.prog 53 [.agg ⟨rosV v ro⟩, .int .i64 num] ρ []
    (fun z ρ' L' => ρ' = ρ ∧ ∃ x b, z = .tuple ⟨[.agg ⟨txV x⟩, .bool b]⟩ ∧ Tx.In ρ' x ∧ FindR (findT ro.p num) x b ∧ L' = []) := by
  have hl := h.at'.at'.len
  have hA := h.at'.at'
  have hbig := h.at'.big
  refine spec_enter Tryz.func53 rfl rfl rfl fun u R => ?_
  simp only [argsE, List.cons_append, List.nil_append]
  repeat' (first | (refine iBu ?_; refine tl_y (y_buildN rfl) rfl rfl ?_) | (refine i_op ?_; first | (refine i_qq ?_; refine qQ ?_) | refine qEf ?_) | refine tl_nil ?_ | (refine i_tc ?_; refine qTc ?_) | (refine i_te ?_; refine qTe ?_) | intro _)
  refine tc_loop_g [(1, _), (4, _), (9, _), (10, _)] (fun (ζ : (Nat)) => [(11, .int .i64 ζ), (5, .bool false)]) (fun (ζ : (Nat)) => ρ) (fun (ζ : (Nat)) => [[(_, .cells ⟨txV zX⟩ 72 (0, 0))]]) (fun (ζ : (Nat)) => ζ ≤ v.n ∧ ∀ t ∈ ro.p.txns.take ζ, t.num ≠ num) (fun (ζ : (Nat)) => v.n - ζ) (0) (⟨Nat.zero_le _, by simp⟩) ev_le ev_le rfl tk ?_
  rintro k hI
  try simp only [List.cons_append, List.nil_append, List.append_assoc, List.append_eq] at hI ⊢
  try dsimp only at hI ⊢
  obtain ⟨hk, hno⟩ := hI
  by_cases hlt : k < v.n
  · obtain ⟨b, off, C, T, fr, e1, hb, hfit, hc⟩ := hA.get (show k < ro.txns.length by omega)
    have hf := findT_take ro.p.txns num k (by simp [Ros.p]; omega) hno
    have hpk : ro.p.txns[k]'(by simp [Ros.p]; omega) = (ro.txns[k]'(by omega)).p := by simp [Ros.p]
    rw [hpk] at hf
    have hin := h.tx _ (List.getElem_mem (show k < ro.txns.length by omega))
    generalize ro.txns[k]'(by omega) = x at *
    rw [e1]
    by_cases he : x.num = num
    · have hfs : findT ro.p num = some x.p := hf.1 he
      rw [hfs]
      repeat' (first | (refine iBu ?_; refine tl_y (y_buildN rfl) rfl rfl ?_) | (refine i_op ?_; first | (refine i_qq ?_; refine qQ ?_) | refine qEf ?_) | refine tl_nil ?_ | (refine i_tc ?_; refine qTc ?_) | (refine i_te ?_; refine qTe ?_) | intro _)
      exact qE (L' := []) ⟨rfl, x, true, rfl, hin, .inl ⟨_, rfl, rfl, rfl⟩, rfl⟩
    · have hno2 := hf.2 he
      repeat' (first | (refine iBu ?_; refine tl_y (y_buildN rfl) rfl rfl ?_) | (refine i_op ?_; first | (refine i_qq ?_; refine qQ ?_) | refine qEf ?_) | refine tl_nil ?_ | (refine i_tc ?_; refine qTc ?_) | (refine i_te ?_; refine qTe ?_) | intro _)
      rw [← e1]
      refine te_round_g (k + 1) (⟨hlt, hno2⟩) ev_le ev_le rfl tk inferInstance (by first | omega | (dsimp only; omega))
  · have hfn : findT ro.p num = none := by
      unfold findT
      rw [List.find?_eq_none]
      intro t ht
      rw [List.take_of_length_le (by simp [Ros.p]; omega)] at hno
      simpa using hno t ht
    rw [hfn]
    repeat' (first | (refine iBu ?_; refine tl_y (y_buildN rfl) rfl rfl ?_) | (refine i_op ?_; first | (refine i_qq ?_; refine qQ ?_) | refine qEf ?_) | refine tl_nil ?_ | (refine i_tc ?_; refine qTc ?_) | (refine i_te ?_; refine qTe ?_) | intro _)
    exact qE (L' := []) ⟨rfl, zX, false, rfl, zX_in _, .inr ⟨rfl, rfl, rfl⟩, rfl⟩
theorem find18_some (ρ : Hp) (v : SV) (ro : Ros) (h : RosIn ρ v ro) (num : Int) {t : TxP} (ho : findT ro.p num = some t) : Spec Tryz.prog 53 [.agg ⟨rosV v ro⟩, .int .i64 num] ρ []
    (fun z ρ' L' => ρ' = ρ ∧ ∃ x, z = .tuple ⟨[.agg ⟨txV x⟩, .bool true]⟩ ∧ Tx.In ρ' x ∧ x.p = t ∧ L' = []) := by
  refine (find18_spec ρ v ro h num).mono ?_
  rintro z ρ' L' _ ⟨h1, x, b, h2, h3, ⟨t', h4, h5, h6⟩ | ⟨h4, _⟩, h7⟩
  · rw [ho] at h4
    cases h4
    exact ⟨h1, x, by rw [h2, h5], h3, h6, h7⟩
  · rw [ho] at h4; cases h4
theorem find18_none (ρ : Hp) (v : SV) (ro : Ros) (h : RosIn ρ v ro) (num : Int) (ho : findT ro.p num = none) : Spec Tryz.prog 53 [.agg ⟨rosV v ro⟩, .int .i64 num] ρ []
    (fun z ρ' L' => ρ' = ρ ∧ z = .tuple ⟨[.agg ⟨txV zX⟩, .bool false]⟩ ∧ L' = []) := by
  refine (find18_spec ρ v ro h num).mono ?_
  rintro z ρ' L' _ ⟨h1, x, b, h2, h3, ⟨t', h4, h5, h6⟩ | ⟨h4, h5, h6⟩, h7⟩
  · rw [ho] at h4; cases h4
  · exact ⟨h1, by rw [h2, h5, h6], h7⟩
theorem live18_some (ρ : Hp) (v : SV) (ro : Ros) (h : RosIn ρ v ro) (num : Int) {t : TxP} (ho : findT ro.p num = some t) : Spec Tryz.prog 136 [.agg ⟨rosV v ro⟩, .int .i64 num] ρ []
    (fun z ρ' L' => ρ' = ρ ∧ ∃ x, z = .tuple ⟨[.agg ⟨txV x⟩, .int .i64 (if t.state = 1 then 0 else 2)]⟩ ∧ Tx.In ρ' x ∧ x.p = t ∧ L' = []) := by
  have hf := find18_some ρ v ro h num ho
  refine spec_enter Tryz.func136 rfl rfl rfl fun u R => ?_
  simp only [argsE, List.cons_append, List.nil_append]
  by_cases hs : t.state = 1
  · simp only [if_pos hs]
    repeat' (first | (refine tl_is (.func 53) ?_; refine qC rfl rfl (hf) ?_; rintro v ρ' L' hle ⟨rfl, x, rfl, hx, hp, rfl⟩ <;> (try simp only [kM, kN, kO]); have hst : x.state = t.state := congrArg TxP.state hp) | (refine iBu ?_; refine tl_y (y_buildN rfl) rfl rfl ?_) | (refine i_op ?_; first | (refine i_qq ?_; refine qQ ?_) | refine qEf ?_) | refine tl_nil ?_ | (refine i_tc ?_; refine qTc ?_) | (refine i_te ?_; refine qTe ?_) | intro _)
    exact qE (L' := []) ⟨rfl, x, rfl, hx, hp, rfl⟩
  · simp only [if_neg hs]
    repeat' (first | (refine tl_is (.func 53) ?_; refine qC rfl rfl (hf) ?_; rintro v ρ' L' hle ⟨rfl, x, rfl, hx, hp, rfl⟩ <;> (try simp only [kM, kN, kO]); have hst : x.state = t.state := congrArg TxP.state hp) | (refine iBu ?_; refine tl_y (y_buildN rfl) rfl rfl ?_) | (refine i_op ?_; first | (refine i_qq ?_; refine qQ ?_) | refine qEf ?_) | refine tl_nil ?_ | (refine i_tc ?_; refine qTc ?_) | (refine i_te ?_; refine qTe ?_) | intro _)
    exact qE (L' := []) ⟨rfl, x, rfl, hx, hp, rfl⟩
theorem live18_none (ρ : Hp) (v : SV) (ro : Ros) (h : RosIn ρ v ro) (num : Int) (ho : findT ro.p num = none) : Spec Tryz.prog 136 [.agg ⟨rosV v ro⟩, .int .i64 num] ρ []
    (fun z ρ' L' => ρ' = ρ ∧ z = .tuple ⟨[.agg ⟨txV zX⟩, .int .i64 4]⟩ ∧ L' = []) := by
  have hf := find18_none ρ v ro h num ho
  refine spec_enter Tryz.func136 rfl rfl rfl fun u R => ?_
  simp only [argsE, List.cons_append, List.nil_append]
  repeat' (first | (refine tl_is (.func 53) ?_; refine qC rfl rfl (hf) ?_; rintro v ρ' L' hle ⟨rfl, rfl, rfl⟩ <;> (try simp only [kM, kN, kO])) | (refine iBu ?_; refine tl_y (y_buildN rfl) rfl rfl ?_) | (refine i_op ?_; first | (refine i_qq ?_; refine qQ ?_) | refine qEf ?_) | refine tl_nil ?_ | (refine i_tc ?_; refine qTc ?_) | (refine i_te ?_; refine qTe ?_) | intro _)
  exact qE (L' := []) ⟨rfl, rfl, rfl⟩
theorem where18_spec (ρ : Hp) (v : SV) (ro : Ros) (h : RosIn ρ v ro) (num n : Int) (hn : i64in n) : Spec Tryz.prog 56 [.agg ⟨rosV v ro⟩, .int .i64 num, .int .i64 n] ρ []
    (fun z ρ' L' => z = .tuple ⟨[.int .u64 (if askE (whereF n) (findT ro.p num) = 0 then whereV ro.p num n else 0 : Nat), .int .i64 (askE (whereF n) (findT ro.p num))]⟩ ∧ ρ' = ρ ∧ L' = []) := by
  unfold whereV
  refine spec_enter Tryz.func56 rfl rfl rfl fun u R => ?_
  simp only [argsE, List.cons_append, List.nil_append]
  cases ho : findT ro.p num with
  | none =>
    have hf := live18_none ρ v ro h num ho
    dsimp only [askE]
    repeat' (first | (refine tl_is (.func 136) ?_; refine qC rfl rfl (hf) ?_; rintro v ρ' L' hle ⟨rfl, rfl, rfl⟩ <;> (try simp only [kM, kN, kO])) | (refine iBu ?_; refine tl_y (y_buildN rfl) rfl rfl ?_) | (refine i_op ?_; first | (refine i_qq ?_; refine qQ ?_) | refine qEf ?_) | refine tl_nil ?_ | (refine i_tc ?_; refine qTc ?_) | (refine i_te ?_; refine qTe ?_) | intro _)
    exact qE (L' := []) ⟨rfl, rfl, rfl⟩
  | some t =>
    have hf := live18_some ρ v ro h num ho
    dsimp only [askE]
    by_cases hs : t.state = 1
    · simp only [if_pos hs] at hf ⊢
      by_cases h1 : n < 1 ∨ (t.marks.length : Int) < n
      · have hw : whereF n t = 4 := if_pos h1
        rw [hw]
        by_cases h2 : n < 1
        · repeat' (first | (refine tl_is (.func 136) ?_; refine qC rfl rfl (hf) ?_; rintro v ρ' L' hle ⟨rfl, x, rfl, hx, hp, rfl⟩ <;> (try simp only [kM, kN, kO])) | (refine iBu ?_; refine tl_y (y_buildN rfl) rfl rfl ?_) | (refine i_op ?_; first | (refine i_qq ?_; refine qQ ?_) | refine qEf ?_) | refine tl_nil ?_ | (refine i_tc ?_; refine qTc ?_) | (refine i_te ?_; refine qTe ?_) | intro _)
          exact qE (L' := []) ⟨rfl, rfl, rfl⟩
        · have h3 : (t.marks.length : Int) < n := by omega
          repeat' (first | (refine tl_is (.func 136) ?_; refine qC rfl rfl (hf) ?_; rintro v ρ' L' hle ⟨rfl, x, rfl, hx, hp, rfl⟩ <;> (try simp only [kM, kN, kO]); have hml : t.marks.length = x.mv.n := (by rw [← hp]; exact hx.m.len)) | (refine iBu ?_; refine tl_y (y_buildN rfl) rfl rfl ?_) | (refine i_op ?_; first | (refine i_qq ?_; refine qQ ?_) | refine qEf ?_) | refine tl_nil ?_ | (refine i_tc ?_; refine qTc ?_) | (refine i_te ?_; refine qTe ?_) | intro _)
          exact qE (L' := []) ⟨rfl, rfl, rfl⟩
      · have hw : whereF n t = 0 := if_neg h1
        rw [hw]
        simp only [if_true]
        repeat' (first | (refine tl_is (.func 136) ?_; refine qC rfl rfl (hf) ?_; rintro v ρ' L' hle ⟨rfl, x, rfl, hx, hp, rfl⟩ <;> (try simp only [kM, kN, kO]); have hml : t.marks.length = x.mv.n := (by rw [← hp]; exact hx.m.len)) | (refine iBu ?_; refine tl_y (y_buildN rfl) rfl rfl ?_) | (refine i_op ?_; first | (refine i_qq ?_; refine qQ ?_) | refine qEf ?_) | refine tl_nil ?_ | (refine i_tc ?_; refine qTc ?_) | (refine i_te ?_; refine qTe ?_) | intro _)
        have hlx := hx.m.len
        obtain ⟨b, off, C, T, fr, e1, hb, hcm⟩ := hx.m.get (show (n - 1).toNat < x.marks.length by omega)
        have hwN : whereN n t = x.marks[(n - 1).toNat]'(by omega) := by
          unfold whereN
          subst hp
          exact getD_get (l := x.marks) (by omega)
        rw [hwN]
        generalize x.marks[(n - 1).toNat]'(by omega) = y at *
        rw [e1]
        repeat' (first | (refine iBu ?_; refine tl_y (y_buildN rfl) rfl rfl ?_) | (refine i_op ?_; first | (refine i_qq ?_; refine qQ ?_) | refine qEf ?_) | refine tl_nil ?_ | (refine i_tc ?_; refine qTc ?_) | (refine i_te ?_; refine qTe ?_) | intro _)
        exact qE (L' := []) ⟨rfl, rfl, rfl⟩
    · simp only [if_neg hs] at hf ⊢
      repeat' (first | (refine tl_is (.func 136) ?_; refine qC rfl rfl (hf) ?_; rintro v ρ' L' hle ⟨rfl, x, rfl, hx, hp, rfl⟩ <;> (try simp only [kM, kN, kO])) | (refine iBu ?_; refine tl_y (y_buildN rfl) rfl rfl ?_) | (refine i_op ?_; first | (refine i_qq ?_; refine qQ ?_) | refine qEf ?_) | refine tl_nil ?_ | (refine i_tc ?_; refine qTc ?_) | (refine i_te ?_; refine qTe ?_) | intro _)
      exact qE (L' := []) ⟨rfl, rfl, rfl⟩
theorem least18_spec (ρ : Hp) (v : SV) (ro : Ros) (h : RosIn ρ v ro) : Spec Tryz.prog 50 [.agg ⟨rosV v ro⟩] ρ [] (fun z ρ' L' => z = .int .u64 (leastP ro.p : Nat) ∧ ρ' = ρ ∧ L' = []) := by
  have hl := h.at'.at'.len
  have hA := h.at'.at'
  have hbig := h.at'.big
  refine spec_enter Tryz.func50 rfl rfl rfl fun u R => ?_
  simp only [argsE, List.cons_append, List.nil_append]
  unfold leastP
  generalize hq : leastF 0 ro.p.txns = q
  repeat' (first | (refine iBu ?_; refine tl_y (y_buildN rfl) rfl rfl ?_) | (refine i_op ?_; first | (refine i_qq ?_; refine qQ ?_) | refine qEf ?_) | refine tl_nil ?_ | (refine i_tc ?_; refine qTc ?_) | (refine i_te ?_; refine qTe ?_) | intro _)
  refine tc_loop_g [(2, _), (7, _), (8, _)] (fun (ζ : (Nat) × (Nat)) => [(9, .int .i64 ζ.1), (3, .int .u64 ζ.2)]) (fun (ζ : (Nat) × (Nat)) => ρ) (fun (ζ : (Nat) × (Nat)) => []) (fun (ζ : (Nat) × (Nat)) => ζ.1 ≤ v.n ∧ leastF ζ.2 (ro.p.txns.drop ζ.1) = q) (fun (ζ : (Nat) × (Nat)) => v.n - ζ.1) ((0, 0)) (⟨Nat.zero_le _, hq⟩) ev_le ev_le rfl tk ?_
  rintro ⟨k, n⟩ hI
  try simp only [List.cons_append, List.nil_append, List.append_assoc, List.append_eq] at hI ⊢
  try dsimp only at hI ⊢
  obtain ⟨hk, hI⟩ := hI
  by_cases hlt : k < v.n
  · obtain ⟨b, off, C, T, fr, e1, hb, hfit, hc⟩ := hA.get (show k < ro.txns.length by omega)
    have hd : ro.p.txns.drop k = (ro.txns[k]'(by omega)).p :: ro.p.txns.drop (k + 1) := by
      rw [List.drop_eq_getElem_cons (show k < ro.p.txns.length by simp [Ros.p]; omega)]
      simp [Ros.p]
    rw [hd, leastF] at hI
    generalize ro.txns[k]'(by omega) = x at *
    rw [e1]
    by_cases h0 : n = 0
    · rw [if_pos (.inl h0)] at hI
      repeat' (first | (refine iBu ?_; refine tl_y (y_buildN rfl) rfl rfl ?_) | (refine i_op ?_; first | (refine i_qq ?_; refine qQ ?_) | refine qEf ?_) | refine tl_nil ?_ | (refine i_tc ?_; refine qTc ?_) | (refine i_te ?_; refine qTe ?_) | intro _)
      rw [← e1]
      refine te_round_g (k + 1, x.first) (⟨hlt, hI⟩) ev_le ev_le rfl tk inferInstance (by first | omega | (dsimp only; omega))
    · by_cases h1 : x.first < n
      · rw [if_pos (.inr h1)] at hI
        repeat' (first | (refine iBu ?_; refine tl_y (y_buildN rfl) rfl rfl ?_) | (refine i_op ?_; first | (refine i_qq ?_; refine qQ ?_) | refine qEf ?_) | refine tl_nil ?_ | (refine i_tc ?_; refine qTc ?_) | (refine i_te ?_; refine qTe ?_) | intro _)
        rw [← e1]
        refine te_round_g (k + 1, x.first) (⟨hlt, hI⟩) ev_le ev_le rfl tk inferInstance (by first | omega | (dsimp only; omega))
      · rw [if_neg (show ¬ (n = 0 ∨ x.p.first < n) by show ¬ (n = 0 ∨ x.first < n); omega)] at hI
        repeat' (first | (refine iBu ?_; refine tl_y (y_buildN rfl) rfl rfl ?_) | (refine i_op ?_; first | (refine i_qq ?_; refine qQ ?_) | refine qEf ?_) | refine tl_nil ?_ | (refine i_tc ?_; refine qTc ?_) | (refine i_te ?_; refine qTe ?_) | intro _)
        rw [← e1]
        refine te_round_g (k + 1, n) (⟨hlt, hI⟩) ev_le ev_le rfl tk inferInstance (by first | omega | (dsimp only; omega))
  · rw [List.drop_of_length_le (by simp [Ros.p]; omega), leastF] at hI
    subst hI
    repeat' (first | (refine iBu ?_; refine tl_y (y_buildN rfl) rfl rfl ?_) | (refine i_op ?_; first | (refine i_qq ?_; refine qQ ?_) | refine qEf ?_) | refine tl_nil ?_ | (refine i_tc ?_; refine qTc ?_) | (refine i_te ?_; refine qTe ?_) | intro _)
    exact qE (L' := []) ⟨rfl, rfl, rfl⟩
theorem reserved18_spec (ρ : Hp) (v : SV) (ro : Ros) (h : RosIn ρ v ro) (hok : rosOk ro = true) : Spec Tryz.prog 51 [.agg ⟨rosV v ro⟩] ρ [] (fun z ρ' L' => z = .int .i64 (resN ro.p) ∧ ρ' = ρ ∧ L' = []) := by
  have hl := h.at'.at'.len
  have hA := h.at'.at'
  have hbig := h.at'.big
  have hG : RosG ro.p := rosG_iff.1 (by rw [rosOk_p]; exact hok)
  have hgs : ∀ t ∈ ro.p.txns, TxG t := fun t ht => (hG.tx t ht).2.2
  have h8 := hG.len
  have hpl : ro.p.txns.length = ro.txns.length := by simp [Ros.p]
  refine spec_enter Tryz.func51 rfl rfl rfl fun u R => ?_
  simp only [argsE, List.cons_append, List.nil_append]
  repeat' (first | (refine iBu ?_; refine tl_y (y_buildN rfl) rfl rfl ?_) | (refine i_op ?_; first | (refine i_qq ?_; refine qQ ?_) | refine qEf ?_) | refine tl_nil ?_ | (refine i_tc ?_; refine qTc ?_) | (refine i_te ?_; refine qTe ?_) | intro _)
  refine tc_loop_g [(2, _), (9, _), (10, _)] (fun (ζ : (Nat) × (Int)) => [(11, .int .i64 ζ.1), (3, .int .i64 ζ.2)]) (fun (ζ : (Nat) × (Int)) => ρ) (fun (ζ : (Nat) × (Int)) => []) (fun (ζ : (Nat) × (Int)) => ζ.1 ≤ v.n ∧ ζ.2 = (resL (ro.p.txns.take ζ.1)).sum) (fun (ζ : (Nat) × (Int)) => v.n - ζ.1) ((0, 0)) (⟨Nat.zero_le _, by simp [resL]⟩) ev_le ev_le rfl tk ?_
  rintro ⟨k, n⟩ hI
  try simp only [List.cons_append, List.nil_append, List.append_assoc, List.append_eq] at hI ⊢
  try dsimp only at hI ⊢
  obtain ⟨hk, hn⟩ := hI
  have hnb := resL_len (l := ro.p.txns.take k) (fun t ht => hgs t (List.mem_of_mem_take ht))
  have hsb := sum_bound (l := resL (ro.p.txns.take k)) (resL_in (fun t ht => hgs t (List.mem_of_mem_take ht)))
  rw [List.length_take] at hnb
  by_cases hlt : k < v.n
  · obtain ⟨b, off, C, T, fr, e1, hb, hfit, hc⟩ := hA.get (show k < ro.txns.length by omega)
    have hx2 := resL_take ro.p.txns k (by omega)
    have hpk : ro.p.txns[k]'(by omega) = (ro.txns[k]'(by omega)).p := by simp [Ros.p]
    have hin := h.tx _ (List.getElem_mem (show k < ro.txns.length by omega))
    have hxg : TxG (ro.txns[k]'(by omega)).p := hgs _ (by rw [← hpk]; exact List.getElem_mem _)
    rw [hpk] at hx2
    generalize ro.txns[k]'(by omega) = x at *
    have hsl : x.stack.length ≤ 1099511627776 := hxg.sl
    have hs1 := hin.s.len
    have hcs : ∀ y ∈ x.stack.map Lf.cost, 0 ≤ y ∧ y ≤ 400 := fun y hy => by
      obtain ⟨s, hs, rfl⟩ := List.mem_map.1 hy
      have := hxg.st s hs; omega
    have hx3 : (resL (ro.p.txns.take (k + 1))).sum = n + (x.stack.map Lf.cost).sum + 1 + (if x.state = 1 then 1 else 0) := by
      rw [hx2, List.sum_append, ← hn]
      unfold costL
      simp only [Tx.p, List.sum_cons, List.sum_append]
      split <;> simp <;> omega
    rw [← hn] at hsb
    rw [e1]
    repeat' (first | (refine iBu ?_; refine tl_y (y_buildN rfl) rfl rfl ?_) | (refine i_op ?_; first | (refine i_qq ?_; refine qQ ?_) | refine qEf ?_) | refine tl_nil ?_ | (refine i_tc ?_; refine qTc ?_) | (refine i_te ?_; refine qTe ?_) | intro _)
    refine tc_loop_g [(2, _), (5, _), (9, _), (10, _), (11, _), (12, _), (13, _), (14, _), (15, _), (16, _), (17, _)] (fun (ζ : (Nat) × (Int)) => [(18, .int .i64 ζ.1), (3, .int .i64 ζ.2)]) (fun (ζ : (Nat) × (Int)) => ρ) (fun (ζ : (Nat) × (Int)) => []) (fun (ζ : (Nat) × (Int)) => ζ.1 ≤ x.sv.n ∧ ζ.2 = n + ((x.stack.map Lf.cost).take ζ.1).sum) (fun (ζ : (Nat) × (Int)) => x.sv.n - ζ.1) ((0, n)) (⟨Nat.zero_le _, by simp⟩) ev_le ev_le rfl tk ?_
    rintro ⟨j, m⟩ hI
    try simp only [List.cons_append, List.nil_append, List.append_assoc, List.append_eq] at hI ⊢
    try dsimp only at hI ⊢
    obtain ⟨hj, hm⟩ := hI
    have hcb := sum_bound (l := (x.stack.map Lf.cost).take j) (fun y hy => hcs y (List.mem_of_mem_take hy))
    rw [List.length_take, List.length_map] at hcb
    by_cases hlt2 : j < x.sv.n
    · obtain ⟨b2, off2, C2, T2, fr2, f1, hb2, hfit2, hc2⟩ := hin.s.get (show j < x.stack.length by omega)
      have hy := sum_take (x.stack.map Lf.cost) j (by simp; omega)
      rw [List.getElem_map] at hy
      have hyb := hxg.st _ (List.getElem_mem (show j < x.stack.length by omega))
      have hyc : 1 ≤ (x.stack[j]'(by omega)).cost ∧ (x.stack[j]'(by omega)).cost ≤ 400 := ⟨hyb.2.2.1, hyb.2.2.2⟩
      clear hyb
      generalize x.stack[j]'(by omega) = y at *
      rw [f1]
      repeat' (first | (refine iBu ?_; refine tl_y (y_buildN rfl) rfl rfl ?_) | (refine i_op ?_; first | (refine i_qq ?_; refine qQ ?_) | refine qEf ?_) | refine tl_nil ?_ | (refine i_tc ?_; refine qTc ?_) | (refine i_te ?_; refine qTe ?_) | intro _)
      rw [← f1]
      refine te_round_g (j + 1, m + y.cost) (⟨hlt2, by dsimp only; rw [hy]; omega⟩) ev_le ev_le rfl tk inferInstance (by first | omega | (dsimp only; omega))
    · rw [List.take_of_length_le (by simp; omega)] at hm hcb
      by_cases hst : x.state = 1
      · rw [if_pos hst] at hx3
        repeat' (first | (refine iBu ?_; refine tl_y (y_buildN rfl) rfl rfl ?_) | (refine i_op ?_; first | (refine i_qq ?_; refine qQ ?_) | refine qEf ?_) | refine tl_nil ?_ | (refine i_tc ?_; refine qTc ?_) | (refine i_te ?_; refine qTe ?_) | intro _)
        rw [← e1]
        refine te_round_g (k + 1, m + 1 + 1) (⟨hlt, by dsimp only; rw [hx3]; omega⟩) ev_le ev_le rfl tk inferInstance (by first | omega | (dsimp only; omega))
      · rw [if_neg hst] at hx3
        repeat' (first | (refine iBu ?_; refine tl_y (y_buildN rfl) rfl rfl ?_) | (refine i_op ?_; first | (refine i_qq ?_; refine qQ ?_) | refine qEf ?_) | refine tl_nil ?_ | (refine i_tc ?_; refine qTc ?_) | (refine i_te ?_; refine qTe ?_) | intro _)
        rw [← e1]
        refine te_round_g (k + 1, m + 1) (⟨hlt, by dsimp only; rw [hx3]; omega⟩) ev_le ev_le rfl tk inferInstance (by first | omega | (dsimp only; omega))
  · rw [List.take_of_length_le (by rw [hpl]; omega)] at hn
    unfold resN
    rw [← hn]
    repeat' (first | (refine iBu ?_; refine tl_y (y_buildN rfl) rfl rfl ?_) | (refine i_op ?_; first | (refine i_qq ?_; refine qQ ?_) | refine qEf ?_) | refine tl_nil ?_ | (refine i_tc ?_; refine qTc ?_) | (refine i_te ?_; refine qTe ?_) | intro _)
    exact qE (L' := []) ⟨rfl, rfl, rfl⟩
end Go.Proofs.E

namespace Go.Proofs.E
open Go
set_option linter.unusedVariables false
set_option linter.unusedSimpArgs false
set_option linter.unusedSectionVars false
set_option maxRecDepth 4000
set_option maxHeartbeats 1000000
attribute [local irreducible] Yl TL TC TE Spec YSpec R1 Hp.le EnvLe TS TR YS Stays
-- BN
theorem rsame_true (ρ : Hp) (v v' : SV) (x y : Ros) (hx : RosIn ρ v x) (hy : RosIn ρ v' y) (h : x.p = y.p) : Spec Tryz.prog 49 [.agg ⟨rosV v x⟩, .agg ⟨rosV v' y⟩] ρ [] (fun z ρ' L' => z = .bool true ∧ ρ' = ρ ∧ L' = []) := by
  have := rsame_spec ρ v v' x y hx hy
  rw [decide_eq_true h] at this
  exact this
theorem sameTx_true (ρ : Hp) (x y : Tx) (hx : Tx.In ρ x) (hy : Tx.In ρ y) (h : x.p = y.p) : Spec Tryz.prog 54 [.agg ⟨txV x⟩, .agg ⟨txV y⟩] ρ [] (fun z ρ' L' => z = .bool true ∧ ρ' = ρ ∧ L' = []) := by
  have := sameTx18_spec ρ x y hx hy
  rw [decide_eq_true h] at this
  exact this
theorem rfind_some (ρ : Hp) (v : SV) (ro : Ros) (h : RosIn ρ v ro) (num : Int) {t : TxP} (hok : rosOk ro = true) (ho : findT ro.p num = some t) : Spec Tryz.prog 47 [.agg ⟨rosV v ro⟩, .int .i64 num] ρ []
    (fun z ρ' L' => ρ' = ρ ∧ ∃ x, z = .tuple ⟨[.agg ⟨txV x⟩, .bool true]⟩ ∧ Tx.In ρ' x ∧ x.p = t ∧ L' = []) := by
  refine (rfind_spec ρ v ro h num).mono ?_
  rintro z ρ' L' _ ⟨h1, x, b, h2, h3, ⟨t', h4, h5, h6⟩ | ⟨h4, _⟩, h7⟩
  · rw [if_pos hok, ho] at h4
    cases h4
    exact ⟨h1, x, by rw [h2, h5], h3, h6, h7⟩
  · rw [if_pos hok, ho] at h4; cases h4
theorem rfind_none (ρ : Hp) (v : SV) (ro : Ros) (h : RosIn ρ v ro) (num : Int) (ho : rosOk ro = false ∨ findT ro.p num = none) : Spec Tryz.prog 47 [.agg ⟨rosV v ro⟩, .int .i64 num] ρ []
    (fun z ρ' L' => ρ' = ρ ∧ z = .tuple ⟨[.agg ⟨txV zX⟩, .bool false]⟩ ∧ L' = []) := by
  have hno : (if rosOk ro then findT ro.p num else none) = none := by
    rcases ho with e | e
    · rw [e]; rfl
    · rw [e]; split <;> rfl
  refine (rfind_spec ρ v ro h num).mono ?_
  rintro z ρ' L' _ ⟨h1, x, b, h2, h3, ⟨t', h4, h5, h6⟩ | ⟨h4, h5, h6⟩, h7⟩
  · rw [hno] at h4; cases h4
  · exact ⟨h1, by rw [h2, h5, h6], h7⟩
abbrev rosX (x : SV × Ros) : List Value := rosV x.1 x.2
theorem rosTells_spec (ρ : Hp) (a : Option Addr) (n c : Nat) (l : List (SV × Ros)) (h : AIn ρ 2 rosX a n l) (hw : ∀ x ∈ l, RosW ρ x.1 x.2) (hn : n ≤ 9223372036854775807) (a1 : Option Addr) (n1 c1 : Nat) (ns : List Int) (h1 : AIn ρ 1 (fun x : Int => [i64c x]) a1 n1 ns) (hi1 : ∀ x ∈ ns, i64in x) (hn1 : n1 ≤ 9223372036854775807) (a2 : Option Addr) (n2 c2 : Nat) (ps : List Int) (h2 : AIn ρ 1 (fun x : Int => [i64c x]) a2 n2 ps) (hi2 : ∀ x ∈ ps, i64in x) (hn2 : n2 ≤ 9223372036854775807) :
    Spec Tryz.prog 10 [.slice a n c, .slice a1 n1 c1, .slice a2 n2 c2] ρ [] (fun z ρ' L' => z = .bool true ∧ ρ.le ρ' ∧ L' = []) := by
  have hl := h.len
  have hl1 := h1.len
  have hl2 := h2.len
  refine spec_enter Tryz.func10 rfl rfl rfl fun u R => ?_
  simp only [argsE, List.cons_append, List.nil_append]
  repeat' (first | (refine tl_is (.func 32) ?_; refine qC rfl rfl (wakes18_spec _) ?_; rintro v ρ' L' hle ⟨rfl, hz1, rfl⟩ <;> (try simp only [kM, kN, kO])) | (refine iBu ?_; refine tl_y (y_buildN rfl) rfl rfl ?_) | (refine i_op ?_; first | (refine i_qq ?_; refine qQ ?_) | refine qEf ?_) | refine tl_nil ?_ | (refine i_tc ?_; refine qTc ?_) | (refine i_te ?_; refine qTe ?_) | intro _)
  refine tc_loop_g [(0, _), (1, _), (2, _), (32, _), (33, _)] (fun (ζ : (Nat) × (Hp)) => [(34, .int .i64 ζ.1), (6, .bool false)]) (fun (ζ : (Nat) × (Hp)) => ζ.2) (fun (ζ : (Nat) × (Hp)) => []) (fun (ζ : (Nat) × (Hp)) => ζ.1 ≤ n ∧ ρ.le ζ.2) (fun (ζ : (Nat) × (Hp)) => n - ζ.1) ((0, ρ')) (⟨Nat.zero_le _, hz1⟩) ev_le ev_le rfl tk ?_
  rintro ⟨k, ρ1⟩ hI
  try simp only [List.cons_append, List.nil_append, List.append_assoc, List.append_eq] at hI ⊢
  try dsimp only at hI ⊢
  obtain ⟨hk, hle0⟩ := hI
  by_cases hlt : k < n
  · obtain ⟨b, off, C, T, fr, e1, hb, hfit, hcc⟩ := (h.mono hle0).get (show k < l.length by omega)
    obtain ⟨b', off', C', T', fr', e1', hb', hfit0, hcc0⟩ := (h.mono hle0).get (show 0 < l.length by omega)
    rw [e1] at e1'
    cases e1'
    rw [hb] at hb'
    cases hb'
    have hwx := (hw _ (List.getElem_mem (show k < l.length by omega))).mono hle0
    have hw0 := (hw _ (List.getElem_mem (show 0 < l.length by omega))).mono hle0
    generalize l[k]'(by omega) = x at *
    generalize l[0]'(by omega) = x0 at *
    obtain ⟨vx, rx⟩ := x
    obtain ⟨v0, r0⟩ := x0
    dsimp only at hwx hw0
    have hfx := fun ρ2 (hh : ρ1.le ρ2) => few18_spec ρ2 vx rx (hwx.mono hh)
    have hf0 := fun ρ2 (hh : ρ1.le ρ2) => few18_spec ρ2 v0 r0 (hw0.mono hh)
    rw [e1]
    by_cases h6 : k = 6
    · repeat' (first | (refine iBu ?_; refine tl_y (y_buildN rfl) rfl rfl ?_) | (refine i_op ?_; first | (refine i_qq ?_; refine qQ ?_) | refine qEf ?_) | refine tl_nil ?_ | (refine i_tc ?_; refine qTc ?_) | (refine i_te ?_; refine qTe ?_) | intro _)
      exact qE (L' := []) (hle := hle0) ⟨rfl, hle0, rfl⟩
    repeat' (first | (refine iBu ?_; refine tl_y (y_buildN rfl) rfl rfl ?_) | (refine i_op ?_; first | (refine i_qq ?_; refine qQ ?_) | refine qEf ?_) | refine tl_nil ?_ | (refine i_tc ?_; refine qTc ?_) | (refine i_te ?_; refine qTe ?_) | intro _)
    rename_i b8
    refine tc_cut_k R [(0, _), (1, _), (2, _), (6, _), (8, _), (32, _), (33, _), (34, _)] (fun (ζ : (Hp) × (Nat) × (Nat) × (SV) × (Ros) × (SV) × (Ros)) => [(9, .pointer (some ⟨ζ.2.1, 0, none⟩)), (10, .pointer (some ⟨ζ.2.2.1, 0, none⟩))]) (fun (ζ : (Hp) × (Nat) × (Nat) × (SV) × (Ros) × (SV) × (Ros)) => ζ.1) (fun (ζ : (Hp) × (Nat) × (Nat) × (SV) × (Ros) × (SV) × (Ros)) => [[(ζ.2.1, .cells ⟨rosV ζ.2.2.2.1 ζ.2.2.2.2.1⟩ 34 (0, 0))], [(ζ.2.2.1, .cells ⟨rosV ζ.2.2.2.2.2.1 ζ.2.2.2.2.2.2⟩ 34 (0, 0))], [(b8, .cells ⟨rosV vx rx⟩ 34 (0, 0))]]) (fun (ζ : (Hp) × (Nat) × (Nat) × (SV) × (Ros) × (SV) × (Ros)) => ρ1.le ζ.1 ∧ RosIn ζ.1 ζ.2.2.2.1 ζ.2.2.2.2.1 ∧ ζ.2.2.2.2.1.p = fewRP rx.p ∧ RosIn ζ.1 ζ.2.2.2.2.2.1 ζ.2.2.2.2.2.2) ev_le ?_ ?_
    · refine tc_any (Stays _ _ ([[(b8, .cells ⟨rosV vx rx⟩ 34 (0, 0))]])) (stays_of (hT := tk) (Hp.le_refl _)) ?_
      all_goals refine rLd 0 ?_
      all_goals refine rMv 2 ?_
      all_goals refine rIa 3 ?_
      all_goals refine rLd 4 ?_
      all_goals (refine rStep3 (i := 1) (j := 6) (k := 7) ?_ ?_ ?_ <;> ((try refine qWant ?_); (first | (refine tl_is (.func 36) ?_; refine qC rfl rfl (hfx _ (Hp.le_refl _)) ?_; rintro v ρ' L' hle ⟨hz2, v1, r1, rfl, hR1, hp1, rfl⟩ <;> (try simp only [kM, kN, kO])) | (refine tl_is (.func 36) ?_; refine qC rfl rfl (hf0 _ hz2) ?_; rintro v ρ' L' hle ⟨hz3, v2, r2, rfl, hR2, hp2, rfl⟩ <;> (try simp only [kM, kN, kO])) | (refine qEf ?_; try intro _)) <;> ((try simp only [kM, kN, kO]); refine tl_nil ?_; refine rNext ?_)))
      all_goals (first | (refine rStep3 (i := 5) (j := 6) (k := 7) ?_ ?_ ?_ <;> ((try refine qWant ?_); (first | (refine tl_is (.func 36) ?_; refine qC rfl rfl (hfx _ (Hp.le_refl _)) ?_; rintro v ρ' L' hle ⟨hz2, v1, r1, rfl, hR1, hp1, rfl⟩ <;> (try simp only [kM, kN, kO])) | (refine tl_is (.func 36) ?_; refine qC rfl rfl (hf0 _ hz2) ?_; rintro v ρ' L' hle ⟨hz3, v2, r2, rfl, hR2, hp2, rfl⟩ <;> (try simp only [kM, kN, kO])) | (refine qEf ?_; try intro _)) <;> ((try simp only [kM, kN, kO]); refine tl_nil ?_; refine rNext ?_))) | (refine rStep2 (i := 1) (j := 7) ?_ ?_ <;> ((try refine qWant ?_); (first | (refine tl_is (.func 36) ?_; refine qC rfl rfl (hfx _ (Hp.le_refl _)) ?_; rintro v ρ' L' hle ⟨hz2, v1, r1, rfl, hR1, hp1, rfl⟩ <;> (try simp only [kM, kN, kO])) | (refine tl_is (.func 36) ?_; refine qC rfl rfl (hf0 _ hz2) ?_; rintro v ρ' L' hle ⟨hz3, v2, r2, rfl, hR2, hp2, rfl⟩ <;> (try simp only [kM, kN, kO])) | (refine qEf ?_; try intro _)) <;> ((try simp only [kM, kN, kO]); refine tl_nil ?_; refine rNext ?_))) | (refine rStep2 (i := 1) (j := 6) ?_ ?_ <;> ((try refine qWant ?_); (first | (refine tl_is (.func 36) ?_; refine qC rfl rfl (hfx _ (Hp.le_refl _)) ?_; rintro v ρ' L' hle ⟨hz2, v1, r1, rfl, hR1, hp1, rfl⟩ <;> (try simp only [kM, kN, kO])) | (refine tl_is (.func 36) ?_; refine qC rfl rfl (hf0 _ hz2) ?_; rintro v ρ' L' hle ⟨hz3, v2, r2, rfl, hR2, hp2, rfl⟩ <;> (try simp only [kM, kN, kO])) | (refine qEf ?_; try intro _)) <;> ((try simp only [kM, kN, kO]); refine tl_nil ?_; refine rNext ?_))))
      all_goals (first | (refine rStep2 (i := 6) (j := 7) ?_ ?_ <;> ((try refine qWant ?_); (first | (refine qEf ?_; try intro _)) <;> ((try simp only [kM, kN, kO]); refine tl_nil ?_; refine rNext ?_))) | (refine rStep2 (i := 5) (j := 7) ?_ ?_ <;> ((try refine qWant ?_); (first | (refine tl_is (.func 36) ?_; refine qC rfl rfl (hfx _ (Hp.le_refl _)) ?_; rintro v ρ' L' hle ⟨hz2, v1, r1, rfl, hR1, hp1, rfl⟩ <;> (try simp only [kM, kN, kO])) | (refine tl_is (.func 36) ?_; refine qC rfl rfl (hf0 _ hz2) ?_; rintro v ρ' L' hle ⟨hz3, v2, r2, rfl, hR2, hp2, rfl⟩ <;> (try simp only [kM, kN, kO])) | (refine qEf ?_; try intro _)) <;> ((try simp only [kM, kN, kO]); refine tl_nil ?_; refine rNext ?_))) | (refine rStep2 (i := 5) (j := 6) ?_ ?_ <;> ((try refine qWant ?_); (first | (refine tl_is (.func 36) ?_; refine qC rfl rfl (hfx _ (Hp.le_refl _)) ?_; rintro v ρ' L' hle ⟨hz2, v1, r1, rfl, hR1, hp1, rfl⟩ <;> (try simp only [kM, kN, kO])) | (refine tl_is (.func 36) ?_; refine qC rfl rfl (hf0 _ hz2) ?_; rintro v ρ' L' hle ⟨hz3, v2, r2, rfl, hR2, hp2, rfl⟩ <;> (try simp only [kM, kN, kO])) | (refine qEf ?_; try intro _)) <;> ((try simp only [kM, kN, kO]); refine tl_nil ?_; refine rNext ?_))) | (refine rStep (i := 1) ?_; ((try refine qWant ?_); (first | (refine tl_is (.func 36) ?_; refine qC rfl rfl (hfx _ (Hp.le_refl _)) ?_; rintro v ρ' L' hle ⟨hz2, v1, r1, rfl, hR1, hp1, rfl⟩ <;> (try simp only [kM, kN, kO])) | (refine tl_is (.func 36) ?_; refine qC rfl rfl (hf0 _ hz2) ?_; rintro v ρ' L' hle ⟨hz3, v2, r2, rfl, hR2, hp2, rfl⟩ <;> (try simp only [kM, kN, kO])) | (refine qEf ?_; try intro _)) <;> ((try simp only [kM, kN, kO]); refine tl_nil ?_; refine rNext ?_))))
      all_goals (first | (refine rStep (i := 7) ?_; ((try refine qWant ?_); (first | (refine qEf ?_; try intro _)) <;> ((try simp only [kM, kN, kO]); refine tl_nil ?_; refine rNext ?_))) | (refine rStep (i := 6) ?_; ((try refine qWant ?_); (first | (refine qEf ?_; try intro _)) <;> ((try simp only [kM, kN, kO]); refine tl_nil ?_; refine rNext ?_))) | (refine rStep (i := 5) ?_; ((try refine qWant ?_); (first | (refine tl_is (.func 36) ?_; refine qC rfl rfl (hfx _ (Hp.le_refl _)) ?_; rintro v ρ' L' hle ⟨hz2, v1, r1, rfl, hR1, hp1, rfl⟩ <;> (try simp only [kM, kN, kO])) | (refine tl_is (.func 36) ?_; refine qC rfl rfl (hf0 _ hz2) ?_; rintro v ρ' L' hle ⟨hz3, v2, r2, rfl, hR2, hp2, rfl⟩ <;> (try simp only [kM, kN, kO])) | (refine qEf ?_; try intro _)) <;> ((try simp only [kM, kN, kO]); refine tl_nil ?_; refine rNext ?_))))
      all_goals (refine rStep (i := 8) ?_; ((try refine qWant ?_); (first | (refine qEf ?_; try intro _)) <;> ((try simp only [kM, kN, kO]); refine tl_nil ?_; refine rNext ?_)))
      all_goals (refine rStep (i := 9) ?_; ((try refine qWant ?_); (first | (refine qEf ?_; try intro _)) <;> ((try simp only [kM, kN, kO]); refine tl_nil ?_; refine rNext ?_)))
      all_goals refine rDone ?_
      all_goals refine te_cut_g ((_, _, _, v1, r1, v2, r2)) (⟨Hp.le_trans hz2 hz3, hR1.mono hz3, hp1, hR2⟩) ev_le ev_le rfl tk inferInstance
    rintro ⟨ρ2, b9, b10, v1, r1, v2, r2⟩ ⟨hz13, hRc, hp1, hR2⟩
    simp only [List.cons_append, List.nil_append] at hz13 hRc hp1 hR2 ⊢
    have hz03 := Hp.le_trans hle0 hz13
    have hS := rsame_spec _ v1 v2 r1 r2 hRc hR2
    have hS18 := same18_spec _ v1 v2 r1 r2 hRc hR2
    have hRi := right18_spec _ v1 r1 hRc
    have hCk := roscheck_spec _ v1 r1 hRc
    have hLe := fun ρ4 (hh : RosIn ρ4 v1 r1) => rleast_spec ρ4 v1 r1 hh
    have hRe := fun ρ4 (hh : RosIn ρ4 v1 r1) => reserved_spec ρ4 v1 r1 hh
    have hCp := fun ρ4 (hh : RosIn ρ4 v1 r1) => rosckpt_spec ρ4 v1 r1 hh
    have hWh := fun ρ4 (hh : RosIn ρ4 v1 r1) num m hm => where_spec ρ4 v1 r1 hh num m hm
    have hbig := hRc.at'.big
    have hlr := hRc.at'.at'.len
    generalize decide (r1.p = r2.p) = q at hS hS18
    rcases Bool.eq_false_or_eq_true (rosOk r1) with hok | hok
    all_goals simp only [hok, if_true, if_false, Bool.false_eq_true] at hRi hCk hLe hRe hCp

    · repeat' (first | (refine tl_is (.func 48) ?_; refine qC rfl rfl (hRi) ?_; rintro v ρ' L' hle ⟨rfl, rfl, rfl⟩ <;> (try simp only [kM, kN, kO])) | (refine tl_is (.func 42) ?_; refine qC rfl rfl (hCk) ?_; rintro v ρ' L' hle ⟨rfl, rfl, rfl⟩ <;> (try simp only [kM, kN, kO])) | (refine iBu ?_; refine tl_y (y_buildN rfl) rfl rfl ?_) | (refine i_op ?_; first | (refine i_qq ?_; refine qQ ?_) | refine qEf ?_) | refine tl_nil ?_ | (refine i_tc ?_; refine qTc ?_) | (refine i_te ?_; refine qTe ?_) | intro _)
      refine tc_cut_k R [(0, _), (1, _), (2, _), (6, _), (8, _), (9, _), (10, _), (11, _), (12, _), (32, _), (33, _), (34, _)] (fun (ζ : (Hp)) => [(78, .bool false)]) (fun (ζ : (Hp)) => ζ) (fun (ζ : (Hp)) => [[(b9, .cells ⟨rosV v1 r1⟩ 34 (0, 0))], [(b10, .cells ⟨rosV v2 r2⟩ 34 (0, 0))], [(b8, .cells ⟨rosV vx rx⟩ 34 (0, 0))]]) (fun (ζ : (Hp)) => ρ'.le ζ) ev_le ?_ ?_
      · cases q
        all_goals refine tc_any (Stays _ _ ([[(b9, .cells ⟨rosV v1 r1⟩ 34 (0, 0))], [(b10, .cells ⟨rosV v2 r2⟩ 34 (0, 0))], [(b8, .cells ⟨rosV vx rx⟩ 34 (0, 0))]])) (stays_of (hT := tk) (Hp.le_refl _)) ?_
        all_goals refine rMv 0 ?_
        all_goals refine rCm 1 ?_
        all_goals refine rMv 2 ?_
        all_goals refine rCm 3 ?_
        all_goals refine rMv 4 ?_
        all_goals (first | refine wSkip 5 ?_ | refine wSkipU 5 ?_ | refine wMv 5 ?_ | (refine tr_guard (t := 55) rfl (fun hb => ?_) (fun hb => ?_) <;> (try simp only [kk] at hb) <;> first | refine wSkip 5 ?_ | refine wSkipU 5 ?_ | refine wMv 5 ?_))
        all_goals (first | refine wSkip 6 ?_ | refine wSkipU 6 ?_ | refine wUn 6 ?_ | (refine tr_guard (t := 55) rfl (fun hb => ?_) (fun hb => ?_) <;> (try simp only [kk] at hb) <;> first | refine wSkip 6 ?_ | refine wSkipU 6 ?_ | refine wUn 6 ?_))
        all_goals (first | refine wSkip 7 ?_ | refine wSkipU 7 ?_ | refine wMv 7 ?_ | (refine tr_guard (t := 55) rfl (fun hb => ?_) (fun hb => ?_) <;> (try simp only [kk] at hb) <;> first | refine wSkip 7 ?_ | refine wSkipU 7 ?_ | refine wMv 7 ?_))
        all_goals (first | refine wSkip 8 ?_ | refine wSkipU 8 ?_ | refine wMv 8 ?_ | (refine tr_guard (t := 58) rfl (fun hb => ?_) (fun hb => ?_) <;> (try simp only [kk] at hb) <;> first | refine wSkip 8 ?_ | refine wSkipU 8 ?_ | refine wMv 8 ?_))
        all_goals (first | refine wSkip 9 ?_ | refine wSkipU 9 ?_ | refine wCm 9 ?_ | (refine tr_guard (t := 58) rfl (fun hb => ?_) (fun hb => ?_) <;> (try simp only [kk] at hb) <;> first | refine wSkip 9 ?_ | refine wSkipU 9 ?_ | refine wCm 9 ?_))
        all_goals (first | refine wSkip 10 ?_ | refine wSkipU 10 ?_ | refine wPk 10 ?_ | (refine tr_guard (t := 55) rfl (fun hb => ?_) (fun hb => ?_) <;> (try simp only [kk] at hb) <;> first | refine wSkip 10 ?_ | refine wSkipU 10 ?_ | refine wPk 10 ?_))
        all_goals refine rPk 11 ?_
        all_goals refine rMv 12 ?_
        all_goals (first | refine wSkip 13 ?_ | refine wSkipU 13 ?_ | refine wLd 13 ?_ | (refine tr_guard (t := 63) rfl (fun hb => ?_) (fun hb => ?_) <;> (try simp only [kk] at hb) <;> first | refine wSkip 13 ?_ | refine wSkipU 13 ?_ | refine wLd 13 ?_))
        all_goals (first | refine wSkip 14 ?_ | refine wSkipU 14 ?_ | refine wLd 14 ?_ | (refine tr_guard (t := 63) rfl (fun hb => ?_) (fun hb => ?_) <;> (try simp only [kk] at hb) <;> first | refine wSkip 14 ?_ | refine wSkipU 14 ?_ | refine wLd 14 ?_))
        all_goals (first | refine wSkip 16 ?_ | refine wSkipU 16 ?_ | refine wLd 16 ?_ | (refine tr_guard (t := 63) rfl (fun hb => ?_) (fun hb => ?_) <;> (try simp only [kk] at hb) <;> first | refine wSkip 16 ?_ | refine wSkipU 16 ?_ | refine wLd 16 ?_))
        all_goals (first | refine wSkip 17 ?_ | refine wSkipU 17 ?_ | refine wLd 17 ?_ | (refine tr_guard (t := 63) rfl (fun hb => ?_) (fun hb => ?_) <;> (try simp only [kk] at hb) <;> first | refine wSkip 17 ?_ | refine wSkipU 17 ?_ | refine wLd 17 ?_))
        all_goals (first | refine wSkip 15 ?_ | refine wSkipU 15 ?_ | (refine rStep (i := 15) ?_; ((try refine qWant ?_); (first | (refine tl_is (.func 49) ?_; refine qC rfl rfl (hS) ?_; rintro v ρ' L' hle ⟨rfl, rfl, rfl⟩ <;> (try simp only [kM, kN, kO])) | (refine tl_is (.func 49) ?_; refine qC rfl rfl ((rsame_true _ v1 v3 r1 r3 (hRc.mono hz4) hR3 (hp1.trans hp3.symm))) ?_; rintro v ρ' L' hle ⟨rfl, rfl, rfl⟩ <;> (try simp only [kM, kN, kO])) | (refine qEf ?_; try intro _)) <;> ((try simp only [kM, kN, kO]); refine tl_nil ?_; refine rNext ?_))))
        all_goals (first | refine wSkip 18 ?_ | refine wSkipU 18 ?_ | (refine rStep (i := 18) ?_; ((try refine qWant ?_); (first | (refine tl_is (.func 19) ?_; refine qC rfl rfl (hS18) ?_; rintro v ρ' L' hle ⟨rfl, rfl, rfl⟩ <;> (try simp only [kM, kN, kO])) | (refine qEf ?_; try intro _)) <;> ((try simp only [kM, kN, kO]); refine tl_nil ?_; refine rNext ?_))))
        all_goals (first | refine wSkip 19 ?_ | refine wSkipU 19 ?_ | refine wCm 19 ?_ | (refine tr_guard (t := 63) rfl (fun hb => ?_) (fun hb => ?_) <;> (try simp only [kk] at hb) <;> first | refine wSkip 19 ?_ | refine wSkipU 19 ?_ | refine wCm 19 ?_))
        all_goals refine rPk 20 ?_
        all_goals refine rMv 21 ?_
        all_goals (first | refine wSkip 22 ?_ | refine wSkipU 22 ?_ | refine wLd 22 ?_ | (refine tr_guard (t := 72) rfl (fun hb => ?_) (fun hb => ?_) <;> (try simp only [kk] at hb) <;> first | refine wSkip 22 ?_ | refine wSkipU 22 ?_ | refine wLd 22 ?_))
        all_goals (first | refine wSkip 23 ?_ | refine wSkipU 23 ?_ | refine wLd 23 ?_ | (refine tr_guard (t := 72) rfl (fun hb => ?_) (fun hb => ?_) <;> (try simp only [kk] at hb) <;> first | refine wSkip 23 ?_ | refine wSkipU 23 ?_ | refine wLd 23 ?_))
        all_goals (first | refine wSkip 24 ?_ | refine wSkipU 24 ?_ | (refine rStep (i := 24) ?_; ((try refine qWant ?_); (first | (refine tl_is (.func 36) ?_; refine qC rfl rfl (hfx _ hz13) ?_; rintro v ρ' L' hle ⟨hz4, v3, r3, rfl, hR3, hp3, rfl⟩ <;> (try simp only [kM, kN, kO])) | (refine qEf ?_; try intro _)) <;> ((try simp only [kM, kN, kO]); refine tl_nil ?_; refine rNext ?_))))
        all_goals (first | refine wSkip 25 ?_ | refine wSkipU 25 ?_ | (refine rStep (i := 25) ?_; ((try refine qWant ?_); (first | (refine tl_is (.func 49) ?_; refine qC rfl rfl (hS) ?_; rintro v ρ' L' hle ⟨rfl, rfl, rfl⟩ <;> (try simp only [kM, kN, kO])) | (refine tl_is (.func 49) ?_; refine qC rfl rfl ((rsame_true _ v1 v3 r1 r3 (hRc.mono hz4) hR3 (hp1.trans hp3.symm))) ?_; rintro v ρ' L' hle ⟨rfl, rfl, rfl⟩ <;> (try simp only [kM, kN, kO])) | (refine qEf ?_; try intro _)) <;> ((try simp only [kM, kN, kO]); refine tl_nil ?_; refine rNext ?_))))
        all_goals refine rFull ?_
        all_goals (first | refine wSkip 26 ?_ | refine wSkipU 26 ?_ | refine wUn 26 ?_ | (refine tr_guard (t := 72) rfl (fun hb => ?_) (fun hb => ?_) <;> (try simp only [kk] at hb) <;> first | refine wSkip 26 ?_ | refine wSkipU 26 ?_ | refine wUn 26 ?_))
        all_goals refine rPk 27 ?_
        all_goals refine rDone ?_
        all_goals refine te_cut_g ((_)) (hz4) ev_le ev_le rfl tk inferInstance
      rintro ρ3 hz4
      simp only [List.cons_append, List.nil_append] at hz4 ⊢
      have hA4 := hRc.mono hz4
      have hL18 := fun ρ4 (hh : RosIn ρ4 v1 r1) => least18_spec ρ4 v1 r1 hh
      have hR18 := fun ρ4 (hh : RosIn ρ4 v1 r1) => reserved18_spec ρ4 v1 r1 hh hok
      have hC18 := fun ρ4 (hh : RosIn ρ4 v1 r1) => ckpt18_spec ρ4 v1 r1 hh
      generalize leastP r1.p = le at *
      generalize resN r1.p = rs at *
      repeat' (first | (refine iBu ?_; refine tl_y (y_buildN rfl) rfl rfl ?_) | (refine i_op ?_; first | (refine i_qq ?_; refine qQ ?_) | refine qEf ?_) | refine tl_nil ?_ | (refine i_tc ?_; refine qTc ?_) | (refine i_te ?_; refine qTe ?_) | intro _)
      refine tc_cut_k R [(0, _), (1, _), (2, _), (6, _), (9, _), (11, _), (32, _), (33, _), (34, _)] (fun (ζ : (Hp) × (SV)) => [(13, .int .u64 le), (14, .int .i64 rs), (15, .slice ζ.2.a ζ.2.n ζ.2.c)]) (fun (ζ : (Hp) × (SV)) => ζ.1) (fun (ζ : (Hp) × (SV)) => [[(b9, .cells ⟨rosV v1 r1⟩ 34 (0, 0))]]) (fun (ζ : (Hp) × (SV)) => ρ3.le ζ.1 ∧ AS ζ.1 5 ckTV ζ.2 (r1.txns.map ckOf)) ev_le ?_ ?_
      · refine tc_any (Stays _ _ ([[(b9, .cells ⟨rosV v1 r1⟩ 34 (0, 0))]])) (stays_of (hT := tk) (Hp.le_refl _)) ?_
        all_goals refine rLd 0 ?_
        all_goals refine rLd 2 ?_
        all_goals refine rLd 4 ?_
        all_goals (refine rStep (i := 1) ?_; ((try refine qWant ?_); (first | (refine tl_is (.func 50) ?_; refine qC rfl rfl (hL18 _ hA4) ?_; rintro v ρ' L' hle ⟨rfl, rfl, rfl⟩ <;> (try simp only [kM, kN, kO])) | (refine qEf ?_; try intro _)) <;> ((try simp only [kM, kN, kO]); refine tl_nil ?_; refine rNext ?_)))
        all_goals (refine rStep (i := 3) ?_; ((try refine qWant ?_); (first | (refine tl_is (.func 51) ?_; refine qC rfl rfl (hR18 _ hA4) ?_; rintro v ρ' L' hle ⟨rfl, rfl, rfl⟩ <;> (try simp only [kM, kN, kO])) | (refine qEf ?_; try intro _)) <;> ((try simp only [kM, kN, kO]); refine tl_nil ?_; refine rNext ?_)))
        all_goals (refine rStep (i := 5) ?_; ((try refine qWant ?_); (first | (refine tl_is (.func 52) ?_; refine qC rfl rfl (hC18 _ hA4) ?_; rintro v ρ' L' hle ⟨hz5, s5, rfl, hs5, rfl⟩ <;> (try simp only [kM, kN, kO])) | (refine qEf ?_; try intro _)) <;> ((try simp only [kM, kN, kO]); refine tl_nil ?_; refine rNext ?_)))
        all_goals refine rFull ?_
        all_goals refine rAs 6 ?_
        all_goals refine rAs 7 ?_
        all_goals refine rAs 8 ?_
        all_goals refine rDone ?_
        all_goals refine te_cut_g ((_, s5)) (⟨hz5, hs5⟩) ev_le ev_le rfl tk inferInstance
      rintro ⟨ρ5, s5⟩ ⟨hz5, hs5⟩
      simp only [List.cons_append, List.nil_append] at hz5 hs5 ⊢
      repeat' (first | (refine tl_is (.func 41) ?_; refine qC rfl rfl (hCp _ (hA4.mono hz5)) ?_; rintro v ρ' L' hle ⟨hz6, s6, rfl, hs6, rfl⟩ <;> (try simp only [kM, kN, kO])) | (refine iBu ?_; refine tl_y (y_buildN rfl) rfl rfl ?_) | (refine i_op ?_; first | (refine i_qq ?_; refine qQ ?_) | refine qEf ?_) | refine tl_nil ?_ | (refine i_tc ?_; refine qTc ?_) | (refine i_te ?_; refine qTe ?_) | intro _)
      have hA6 := (hA4.mono hz5).mono hz6
      have n5 := hs5.at'.len
      have n6 := hs6.at'.len
      have b5 := hs5.big
      simp only [List.length_map] at n5 n6
      repeat' (first | (refine tl_is (.func 43) ?_; refine qC rfl rfl (hLe _ hA6) ?_; rintro v ρ' L' hle ⟨rfl, rfl, rfl⟩ <;> (try simp only [kM, kN, kO])) | (refine tl_is (.func 44) ?_; refine qC rfl rfl (hRe _ hA6) ?_; rintro v ρ' L' hle ⟨hz7, rfl, rfl⟩ <;> (try simp only [kM, kN, kO])) | (refine iBu ?_; refine tl_y (y_buildN rfl) rfl rfl ?_) | (refine i_op ?_; first | (refine i_qq ?_; refine qQ ?_) | refine qEf ?_) | refine tl_nil ?_ | (refine i_tc ?_; refine qTc ?_) | (refine i_te ?_; refine qTe ?_) | intro _)
      have hA7 := hA6.mono hz7
      have hc5 := hs5.mono (Hp.le_trans hz6 hz7)
      have hc6 := hs6.mono hz7
      have hz07 := Hp.le_trans hz03 (Hp.le_trans hz4 (Hp.le_trans hz5 (Hp.le_trans hz6 hz7)))
      refine tc_loop_g [(0, _), (1, _), (2, _), (9, _), (11, _), (15, _), (16, _), (32, _), (33, _), (34, _), (106, _)] (fun (ζ : (Nat)) => [(107, .int .i64 ζ), (6, .bool false)]) (fun (ζ : (Nat)) => ρ') (fun (ζ : (Nat)) => []) (fun (ζ : (Nat)) => ζ ≤ s5.n) (fun (ζ : (Nat)) => s5.n - ζ) (0) (Nat.zero_le _) ev_le ev_le rfl tk ?_
      rintro j hI
      try simp only [List.cons_append, List.nil_append, List.append_assoc, List.append_eq] at hI ⊢
      try dsimp only at hI ⊢
      by_cases hlt1 : j < s5.n
      · obtain ⟨b3, off3, C3, T3, fr3, f3, hb3, hfit3, hc3⟩ := hc5.at'.get (show j < (r1.txns.map ckOf).length by simp; omega)
        obtain ⟨b4, off4, C4, T4, fr4, f4, hb4, hfit4, hc4⟩ := hc6.at'.get (show j < (r1.txns.map ckOf).length by simp; omega)
        simp only [List.getElem_map] at hc3 hc4
        generalize r1.txns[j]'(by omega) = y at *
        have hdx : decide (ckOf y = ckOf y) = true := decide_eq_true rfl
        rw [f3, f4]
        repeat' (first | (refine iBu ?_; refine tl_y (y_buildN rfl) rfl rfl ?_) | (refine i_op ?_; first | (refine i_qq ?_; refine qQ ?_) | refine qEf ?_) | refine tl_nil ?_ | (refine i_tc ?_; refine qTc ?_) | (refine i_te ?_; refine qTe ?_) | intro _)
        refine tc_any (Stays _ _ _) stays_refl ?_
        all_goals refine rMv 0 ?_
        all_goals refine rFull ?_
        all_goals refine rMv 1 ?_
        all_goals refine rIa 2 ?_
        all_goals refine rLd 3 ?_
        all_goals refine rMv 4 ?_
        all_goals refine rMv 5 ?_
        all_goals refine rIa 6 ?_
        all_goals refine rLd 7 ?_
        all_goals refine rCm 8 ?_
        all_goals refine rDone ?_
        all_goals (repeat' (first | (refine iBu ?_; refine tl_y (y_buildN rfl) rfl rfl ?_) | (refine i_op ?_; first | (refine i_qq ?_; refine qQ ?_) | refine qEf ?_) | refine tl_nil ?_ | (refine i_tc ?_; refine qTc ?_) | (refine i_te ?_; refine qTe ?_) | intro _))
        all_goals rw [← f3, ← f4]
        all_goals refine te_round_g (j + 1) (hlt1) ev_le ev_le rfl tk inferInstance (by first | omega | (dsimp only; omega))
      repeat' (first | (refine iBu ?_; refine tl_y (y_buildN rfl) rfl rfl ?_) | (refine i_op ?_; first | (refine i_qq ?_; refine qQ ?_) | refine qEf ?_) | refine tl_nil ?_ | (refine i_tc ?_; refine qTc ?_) | (refine i_te ?_; refine qTe ?_) | intro _)
      refine tc_loop_g [(0, _), (1, _), (2, _), (9, _), (11, _), (32, _), (33, _), (34, _), (120, _), (121, _)] (fun (ζ : (Nat) × (Hp)) => [(122, .int .i64 ζ.1), (6, .bool false)]) (fun (ζ : (Nat) × (Hp)) => ζ.2) (fun (ζ : (Nat) × (Hp)) => []) (fun (ζ : (Nat) × (Hp)) => ζ.1 ≤ n1 ∧ Hp.le ρ' ζ.2) (fun (ζ : (Nat) × (Hp)) => n1 - ζ.1) ((0, ρ')) (⟨Nat.zero_le _, Hp.le_refl _⟩) ev_le ev_le rfl tk ?_
      rintro ⟨j2, ρa⟩ hI
      try simp only [List.cons_append, List.nil_append, List.append_assoc, List.append_eq] at hI ⊢
      try dsimp only at hI ⊢
      obtain ⟨hj2, hza⟩ := hI
      by_cases hlt2 : j2 < n1
      · obtain ⟨b3, off3, C3, T3, fr3, f3, hb3, hfit3, hc3⟩ := (h1.mono (Hp.le_trans hz07 hza)).get (show j2 < ns.length by omega)
        generalize ns[j2]'(by omega) = nm at *
        have hcell3 : C3[off3 + j2 * 1]? = some (.int .i64 nm) := by
          have := congrArg (fun l => l[0]?) hc3
          simp only [List.getElem?_take, List.getElem?_drop] at this
          simpa using this
        rw [f3]
        by_cases h8 : j2 = 8
        · repeat' (first | (refine iBu ?_; refine tl_y (y_buildN rfl) rfl rfl ?_) | (refine i_op ?_; first | (refine i_qq ?_; refine qQ ?_) | refine qEf ?_) | refine tl_nil ?_ | (refine i_tc ?_; refine qTc ?_) | (refine i_te ?_; refine qTe ?_) | intro _)
          rw [← e1]
          refine te_round_g (k + 1, _) (⟨hlt, Hp.le_trans hz07 hza⟩) ev_le ev_le rfl tk inferInstance (by first | omega | (dsimp only; omega))
        have hAa := hA7.mono hza
        cases ho : findT r1.p nm with
        | some t =>
          repeat' (first | (refine tl_is (.func 47) ?_; refine qC rfl rfl (rfind_some _ v1 r1 hAa nm hok ho) ?_; rintro v ρ' L' hle ⟨rfl, xa, rfl, hxa, hpa, rfl⟩ <;> (try simp only [kM, kN, kO])) | (refine tl_is (.func 53) ?_; refine qC rfl rfl (find18_some _ v1 r1 hAa nm ho) ?_; rintro v ρ' L' hle ⟨rfl, xb, rfl, hxb, hpb, rfl⟩ <;> (try simp only [kM, kN, kO])) | (refine tl_is (.func 54) ?_; refine qC rfl rfl (sameTx_true _ xa xb hxa hxb (hpa.trans hpb.symm)) ?_; rintro v ρ' L' hle ⟨rfl, rfl, rfl⟩ <;> (try simp only [kM, kN, kO])) | (refine iBu ?_; refine tl_y (y_buildN rfl) rfl rfl ?_) | (refine i_op ?_; first | (refine i_qq ?_; refine qQ ?_) | refine qEf ?_) | refine tl_nil ?_ | (refine i_tc ?_; refine qTc ?_) | (refine i_te ?_; refine qTe ?_) | intro _)
          refine tc_loop_g [(0, _), (1, _), (2, _), (9, _), (11, _), (18, _), (19, _), (32, _), (33, _), (34, _), (120, _), (121, _), (122, _), (152, _), (153, _)] (fun (ζ : (Nat) × (Hp)) => [(154, .int .i64 ζ.1), (6, .bool false)]) (fun (ζ : (Nat) × (Hp)) => ζ.2) (fun (ζ : (Nat) × (Hp)) => []) (fun (ζ : (Nat) × (Hp)) => ζ.1 ≤ n2 ∧ Hp.le ρ' ζ.2) (fun (ζ : (Nat) × (Hp)) => n2 - ζ.1) ((0, ρ')) (⟨Nat.zero_le _, Hp.le_refl _⟩) ev_le ev_le rfl tk ?_
          rintro ⟨j3, ρb⟩ hI
          try simp only [List.cons_append, List.nil_append, List.append_assoc, List.append_eq] at hI ⊢
          try dsimp only at hI ⊢
          obtain ⟨hj3, hzb⟩ := hI
          by_cases hlt3 : j3 < n2
          · obtain ⟨b5, off5, C5, T5, fr5, f5, hb5, hfit5, hc5⟩ := (h2.mono (Hp.le_trans hz07 (Hp.le_trans hza hzb))).get (show j3 < ps.length by omega)
            have hpi := hi2 _ (List.getElem_mem (show j3 < ps.length by omega))
            generalize ps[j3]'(by omega) = pl at *
            have hcell5 : C5[off5 + j3 * 1]? = some (.int .i64 pl) := by
              have := congrArg (fun l => l[0]?) hc5
              simp only [List.getElem?_take, List.getElem?_drop] at this
              simpa using this
            have hw1 := hWh _ (hAa.mono hzb) nm pl hpi
            have hw2 := fun ρ4 (hh : RosIn ρ4 v1 r1) => where18_spec ρ4 v1 r1 hh nm pl hpi
            have hE : whereE r1.p nm pl = askE (whereF pl) (findT r1.p nm) := by unfold whereE asksE; rw [rosOk_p, hok]; rfl
            rw [hE] at hw1
            clear hE
            generalize (if askE (whereF pl) (findT r1.p nm) = 0 then whereV r1.p nm pl else 0) = wv at *
            generalize askE (whereF pl) (findT r1.p nm) = we at *
            rw [f5]
            by_cases h66 : j3 < 6
            · repeat' (first | (refine tl_is (.func 55) ?_; refine qC rfl rfl (hw1) ?_; rintro v ρ' L' hle ⟨hz9, rfl, rfl⟩ <;> (try simp only [kM, kN, kO])) | (refine tl_is (.func 56) ?_; refine qC rfl rfl (hw2 _ ((hAa.mono hzb).mono hz9)) ?_; rintro v ρ' L' hle ⟨rfl, rfl, rfl⟩ <;> (try simp only [kM, kN, kO])) | (refine iBu ?_; refine tl_y (y_buildN rfl) rfl rfl ?_) | (refine i_op ?_; first | (refine i_qq ?_; refine qQ ?_) | refine qEf ?_) | refine tl_nil ?_ | (refine i_tc ?_; refine qTc ?_) | (refine i_te ?_; refine qTe ?_) | intro _)
              rw [← f5]
              refine te_round_g (j3 + 1, _) (⟨hlt3, Hp.le_trans hzb hz9⟩) ev_le ev_le rfl tk inferInstance (by first | omega | (dsimp only; omega))
            · repeat' (first | (refine tl_is (.func 55) ?_; refine qC rfl rfl (hw1) ?_; rintro v ρ' L' hle ⟨hz9, rfl, rfl⟩ <;> (try simp only [kM, kN, kO])) | (refine tl_is (.func 56) ?_; refine qC rfl rfl (hw2 _ ((hAa.mono hzb).mono hz9)) ?_; rintro v ρ' L' hle ⟨rfl, rfl, rfl⟩ <;> (try simp only [kM, kN, kO])) | (refine iBu ?_; refine tl_y (y_buildN rfl) rfl rfl ?_) | (refine i_op ?_; first | (refine i_qq ?_; refine qQ ?_) | refine qEf ?_) | refine tl_nil ?_ | (refine i_tc ?_; refine qTc ?_) | (refine i_te ?_; refine qTe ?_) | intro _)
              rw [← f5]
              refine te_round_g (j3 + 1, _) (⟨hlt3, Hp.le_trans hzb hz9⟩) ev_le ev_le rfl tk inferInstance (by first | omega | (dsimp only; omega))
          · repeat' (first | (refine iBu ?_; refine tl_y (y_buildN rfl) rfl rfl ?_) | (refine i_op ?_; first | (refine i_qq ?_; refine qQ ?_) | refine qEf ?_) | refine tl_nil ?_ | (refine i_tc ?_; refine qTc ?_) | (refine i_te ?_; refine qTe ?_) | intro _)
            rw [← f3]
            refine te_round_g (j2 + 1, _) (⟨hlt2, Hp.le_trans hza hzb⟩) ev_le ev_le rfl tk inferInstance (by first | omega | (dsimp only; omega))
        | none =>
          repeat' (first | (refine tl_is (.func 47) ?_; refine qC rfl rfl (rfind_none _ v1 r1 hAa nm (.inr ho)) ?_; rintro v ρ' L' hle ⟨rfl, rfl, rfl⟩ <;> (try simp only [kM, kN, kO])) | (refine tl_is (.func 53) ?_; refine qC rfl rfl (find18_none _ v1 r1 hAa nm ho) ?_; rintro v ρ' L' hle ⟨rfl, rfl, rfl⟩ <;> (try simp only [kM, kN, kO])) | (refine tl_is (.func 54) ?_; refine qC rfl rfl (sameTx_true _ zX zX (zX_in _) (zX_in _) rfl) ?_; rintro v ρ' L' hle ⟨rfl, rfl, rfl⟩ <;> (try simp only [kM, kN, kO])) | (refine iBu ?_; refine tl_y (y_buildN rfl) rfl rfl ?_) | (refine i_op ?_; first | (refine i_qq ?_; refine qQ ?_) | refine qEf ?_) | refine tl_nil ?_ | (refine i_tc ?_; refine qTc ?_) | (refine i_te ?_; refine qTe ?_) | intro _)
          refine tc_loop_g [(0, _), (1, _), (2, _), (9, _), (11, _), (18, _), (19, _), (32, _), (33, _), (34, _), (120, _), (121, _), (122, _), (152, _), (153, _)] (fun (ζ : (Nat) × (Hp)) => [(154, .int .i64 ζ.1), (6, .bool false)]) (fun (ζ : (Nat) × (Hp)) => ζ.2) (fun (ζ : (Nat) × (Hp)) => []) (fun (ζ : (Nat) × (Hp)) => ζ.1 ≤ n2 ∧ Hp.le ρ' ζ.2) (fun (ζ : (Nat) × (Hp)) => n2 - ζ.1) ((0, ρ')) (⟨Nat.zero_le _, Hp.le_refl _⟩) ev_le ev_le rfl tk ?_
          rintro ⟨j3, ρb⟩ hI
          try simp only [List.cons_append, List.nil_append, List.append_assoc, List.append_eq] at hI ⊢
          try dsimp only at hI ⊢
          obtain ⟨hj3, hzb⟩ := hI
          by_cases hlt3 : j3 < n2
          · obtain ⟨b5, off5, C5, T5, fr5, f5, hb5, hfit5, hc5⟩ := (h2.mono (Hp.le_trans hz07 (Hp.le_trans hza hzb))).get (show j3 < ps.length by omega)
            have hpi := hi2 _ (List.getElem_mem (show j3 < ps.length by omega))
            generalize ps[j3]'(by omega) = pl at *
            have hcell5 : C5[off5 + j3 * 1]? = some (.int .i64 pl) := by
              have := congrArg (fun l => l[0]?) hc5
              simp only [List.getElem?_take, List.getElem?_drop] at this
              simpa using this
            have hw1 := hWh _ (hAa.mono hzb) nm pl hpi
            have hw2 := fun ρ4 (hh : RosIn ρ4 v1 r1) => where18_spec ρ4 v1 r1 hh nm pl hpi
            have hE : whereE r1.p nm pl = askE (whereF pl) (findT r1.p nm) := by unfold whereE asksE; rw [rosOk_p, hok]; rfl
            rw [hE] at hw1
            clear hE
            generalize (if askE (whereF pl) (findT r1.p nm) = 0 then whereV r1.p nm pl else 0) = wv at *
            generalize askE (whereF pl) (findT r1.p nm) = we at *
            rw [f5]
            by_cases h66 : j3 < 6
            · repeat' (first | (refine tl_is (.func 55) ?_; refine qC rfl rfl (hw1) ?_; rintro v ρ' L' hle ⟨hz9, rfl, rfl⟩ <;> (try simp only [kM, kN, kO])) | (refine tl_is (.func 56) ?_; refine qC rfl rfl (hw2 _ ((hAa.mono hzb).mono hz9)) ?_; rintro v ρ' L' hle ⟨rfl, rfl, rfl⟩ <;> (try simp only [kM, kN, kO])) | (refine iBu ?_; refine tl_y (y_buildN rfl) rfl rfl ?_) | (refine i_op ?_; first | (refine i_qq ?_; refine qQ ?_) | refine qEf ?_) | refine tl_nil ?_ | (refine i_tc ?_; refine qTc ?_) | (refine i_te ?_; refine qTe ?_) | intro _)
              rw [← f5]
              refine te_round_g (j3 + 1, _) (⟨hlt3, Hp.le_trans hzb hz9⟩) ev_le ev_le rfl tk inferInstance (by first | omega | (dsimp only; omega))
            · repeat' (first | (refine tl_is (.func 55) ?_; refine qC rfl rfl (hw1) ?_; rintro v ρ' L' hle ⟨hz9, rfl, rfl⟩ <;> (try simp only [kM, kN, kO])) | (refine tl_is (.func 56) ?_; refine qC rfl rfl (hw2 _ ((hAa.mono hzb).mono hz9)) ?_; rintro v ρ' L' hle ⟨rfl, rfl, rfl⟩ <;> (try simp only [kM, kN, kO])) | (refine iBu ?_; refine tl_y (y_buildN rfl) rfl rfl ?_) | (refine i_op ?_; first | (refine i_qq ?_; refine qQ ?_) | refine qEf ?_) | refine tl_nil ?_ | (refine i_tc ?_; refine qTc ?_) | (refine i_te ?_; refine qTe ?_) | intro _)
              rw [← f5]
              refine te_round_g (j3 + 1, _) (⟨hlt3, Hp.le_trans hzb hz9⟩) ev_le ev_le rfl tk inferInstance (by first | omega | (dsimp only; omega))
          · repeat' (first | (refine iBu ?_; refine tl_y (y_buildN rfl) rfl rfl ?_) | (refine i_op ?_; first | (refine i_qq ?_; refine qQ ?_) | refine qEf ?_) | refine tl_nil ?_ | (refine i_tc ?_; refine qTc ?_) | (refine i_te ?_; refine qTe ?_) | intro _)
            rw [← f3]
            refine te_round_g (j2 + 1, _) (⟨hlt2, Hp.le_trans hza hzb⟩) ev_le ev_le rfl tk inferInstance (by first | omega | (dsimp only; omega))
      · repeat' (first | (refine iBu ?_; refine tl_y (y_buildN rfl) rfl rfl ?_) | (refine i_op ?_; first | (refine i_qq ?_; refine qQ ?_) | refine qEf ?_) | refine tl_nil ?_ | (refine i_tc ?_; refine qTc ?_) | (refine i_te ?_; refine qTe ?_) | intro _)
        rw [← e1]
        refine te_round_g (k + 1, _) (⟨hlt, Hp.le_trans hz07 hza⟩) ev_le ev_le rfl tk inferInstance (by first | omega | (dsimp only; omega))
    · repeat' (first | (refine tl_is (.func 48) ?_; refine qC rfl rfl (hRi) ?_; rintro v ρ' L' hle ⟨rfl, rfl, rfl⟩ <;> (try simp only [kM, kN, kO])) | (refine tl_is (.func 42) ?_; refine qC rfl rfl (hCk) ?_; rintro v ρ' L' hle ⟨rfl, rfl, rfl⟩ <;> (try simp only [kM, kN, kO])) | (refine iBu ?_; refine tl_y (y_buildN rfl) rfl rfl ?_) | (refine i_op ?_; first | (refine i_qq ?_; refine qQ ?_) | refine qEf ?_) | refine tl_nil ?_ | (refine i_tc ?_; refine qTc ?_) | (refine i_te ?_; refine qTe ?_) | intro _)
      refine tc_cut_k R [(0, _), (1, _), (2, _), (6, _), (8, _), (9, _), (10, _), (11, _), (12, _), (32, _), (33, _), (34, _)] (fun (ζ : (Hp)) => [(78, .bool false)]) (fun (ζ : (Hp)) => ζ) (fun (ζ : (Hp)) => [[(b9, .cells ⟨rosV v1 r1⟩ 34 (0, 0))], [(b10, .cells ⟨rosV v2 r2⟩ 34 (0, 0))], [(b8, .cells ⟨rosV vx rx⟩ 34 (0, 0))]]) (fun (ζ : (Hp)) => ρ'.le ζ) ev_le ?_ ?_
      · cases q
        all_goals refine tc_any (Stays _ _ ([[(b9, .cells ⟨rosV v1 r1⟩ 34 (0, 0))], [(b10, .cells ⟨rosV v2 r2⟩ 34 (0, 0))], [(b8, .cells ⟨rosV vx rx⟩ 34 (0, 0))]])) (stays_of (hT := tk) (Hp.le_refl _)) ?_
        all_goals refine rMv 0 ?_
        all_goals refine rCm 1 ?_
        all_goals refine rMv 2 ?_
        all_goals refine rCm 3 ?_
        all_goals refine rMv 4 ?_
        all_goals (first | refine wSkip 5 ?_ | refine wSkipU 5 ?_ | refine wMv 5 ?_ | (refine tr_guard (t := 55) rfl (fun hb => ?_) (fun hb => ?_) <;> (try simp only [kk] at hb) <;> first | refine wSkip 5 ?_ | refine wSkipU 5 ?_ | refine wMv 5 ?_))
        all_goals (first | refine wSkip 6 ?_ | refine wSkipU 6 ?_ | refine wUn 6 ?_ | (refine tr_guard (t := 55) rfl (fun hb => ?_) (fun hb => ?_) <;> (try simp only [kk] at hb) <;> first | refine wSkip 6 ?_ | refine wSkipU 6 ?_ | refine wUn 6 ?_))
        all_goals (first | refine wSkip 7 ?_ | refine wSkipU 7 ?_ | refine wMv 7 ?_ | (refine tr_guard (t := 55) rfl (fun hb => ?_) (fun hb => ?_) <;> (try simp only [kk] at hb) <;> first | refine wSkip 7 ?_ | refine wSkipU 7 ?_ | refine wMv 7 ?_))
        all_goals (first | refine wSkip 8 ?_ | refine wSkipU 8 ?_ | refine wMv 8 ?_ | (refine tr_guard (t := 58) rfl (fun hb => ?_) (fun hb => ?_) <;> (try simp only [kk] at hb) <;> first | refine wSkip 8 ?_ | refine wSkipU 8 ?_ | refine wMv 8 ?_))
        all_goals (first | refine wSkip 9 ?_ | refine wSkipU 9 ?_ | refine wCm 9 ?_ | (refine tr_guard (t := 58) rfl (fun hb => ?_) (fun hb => ?_) <;> (try simp only [kk] at hb) <;> first | refine wSkip 9 ?_ | refine wSkipU 9 ?_ | refine wCm 9 ?_))
        all_goals (first | refine wSkip 10 ?_ | refine wSkipU 10 ?_ | refine wPk 10 ?_ | (refine tr_guard (t := 55) rfl (fun hb => ?_) (fun hb => ?_) <;> (try simp only [kk] at hb) <;> first | refine wSkip 10 ?_ | refine wSkipU 10 ?_ | refine wPk 10 ?_))
        all_goals refine rPk 11 ?_
        all_goals refine rMv 12 ?_
        all_goals (first | refine wSkip 13 ?_ | refine wSkipU 13 ?_ | refine wLd 13 ?_ | (refine tr_guard (t := 63) rfl (fun hb => ?_) (fun hb => ?_) <;> (try simp only [kk] at hb) <;> first | refine wSkip 13 ?_ | refine wSkipU 13 ?_ | refine wLd 13 ?_))
        all_goals (first | refine wSkip 14 ?_ | refine wSkipU 14 ?_ | refine wLd 14 ?_ | (refine tr_guard (t := 63) rfl (fun hb => ?_) (fun hb => ?_) <;> (try simp only [kk] at hb) <;> first | refine wSkip 14 ?_ | refine wSkipU 14 ?_ | refine wLd 14 ?_))
        all_goals (first | refine wSkip 16 ?_ | refine wSkipU 16 ?_ | refine wLd 16 ?_ | (refine tr_guard (t := 63) rfl (fun hb => ?_) (fun hb => ?_) <;> (try simp only [kk] at hb) <;> first | refine wSkip 16 ?_ | refine wSkipU 16 ?_ | refine wLd 16 ?_))
        all_goals (first | refine wSkip 17 ?_ | refine wSkipU 17 ?_ | refine wLd 17 ?_ | (refine tr_guard (t := 63) rfl (fun hb => ?_) (fun hb => ?_) <;> (try simp only [kk] at hb) <;> first | refine wSkip 17 ?_ | refine wSkipU 17 ?_ | refine wLd 17 ?_))
        all_goals (first | refine wSkip 15 ?_ | refine wSkipU 15 ?_ | (refine rStep (i := 15) ?_; ((try refine qWant ?_); (first | (refine tl_is (.func 49) ?_; refine qC rfl rfl (hS) ?_; rintro v ρ' L' hle ⟨rfl, rfl, rfl⟩ <;> (try simp only [kM, kN, kO])) | (refine tl_is (.func 49) ?_; refine qC rfl rfl ((rsame_true _ v1 v3 r1 r3 (hRc.mono hz4) hR3 (hp1.trans hp3.symm))) ?_; rintro v ρ' L' hle ⟨rfl, rfl, rfl⟩ <;> (try simp only [kM, kN, kO])) | (refine qEf ?_; try intro _)) <;> ((try simp only [kM, kN, kO]); refine tl_nil ?_; refine rNext ?_))))
        all_goals (first | refine wSkip 18 ?_ | refine wSkipU 18 ?_ | (refine rStep (i := 18) ?_; ((try refine qWant ?_); (first | (refine tl_is (.func 19) ?_; refine qC rfl rfl (hS18) ?_; rintro v ρ' L' hle ⟨rfl, rfl, rfl⟩ <;> (try simp only [kM, kN, kO])) | (refine qEf ?_; try intro _)) <;> ((try simp only [kM, kN, kO]); refine tl_nil ?_; refine rNext ?_))))
        all_goals (first | refine wSkip 19 ?_ | refine wSkipU 19 ?_ | refine wCm 19 ?_ | (refine tr_guard (t := 63) rfl (fun hb => ?_) (fun hb => ?_) <;> (try simp only [kk] at hb) <;> first | refine wSkip 19 ?_ | refine wSkipU 19 ?_ | refine wCm 19 ?_))
        all_goals refine rPk 20 ?_
        all_goals refine rMv 21 ?_
        all_goals (first | refine wSkip 22 ?_ | refine wSkipU 22 ?_ | refine wLd 22 ?_ | (refine tr_guard (t := 72) rfl (fun hb => ?_) (fun hb => ?_) <;> (try simp only [kk] at hb) <;> first | refine wSkip 22 ?_ | refine wSkipU 22 ?_ | refine wLd 22 ?_))
        all_goals (first | refine wSkip 23 ?_ | refine wSkipU 23 ?_ | refine wLd 23 ?_ | (refine tr_guard (t := 72) rfl (fun hb => ?_) (fun hb => ?_) <;> (try simp only [kk] at hb) <;> first | refine wSkip 23 ?_ | refine wSkipU 23 ?_ | refine wLd 23 ?_))
        all_goals (first | refine wSkip 24 ?_ | refine wSkipU 24 ?_ | (refine rStep (i := 24) ?_; ((try refine qWant ?_); (first | (refine tl_is (.func 36) ?_; refine qC rfl rfl (hfx _ hz13) ?_; rintro v ρ' L' hle ⟨hz4, v3, r3, rfl, hR3, hp3, rfl⟩ <;> (try simp only [kM, kN, kO])) | (refine qEf ?_; try intro _)) <;> ((try simp only [kM, kN, kO]); refine tl_nil ?_; refine rNext ?_))))
        all_goals (first | refine wSkip 25 ?_ | refine wSkipU 25 ?_ | (refine rStep (i := 25) ?_; ((try refine qWant ?_); (first | (refine tl_is (.func 49) ?_; refine qC rfl rfl (hS) ?_; rintro v ρ' L' hle ⟨rfl, rfl, rfl⟩ <;> (try simp only [kM, kN, kO])) | (refine tl_is (.func 49) ?_; refine qC rfl rfl ((rsame_true _ v1 v3 r1 r3 (hRc.mono hz4) hR3 (hp1.trans hp3.symm))) ?_; rintro v ρ' L' hle ⟨rfl, rfl, rfl⟩ <;> (try simp only [kM, kN, kO])) | (refine qEf ?_; try intro _)) <;> ((try simp only [kM, kN, kO]); refine tl_nil ?_; refine rNext ?_))))
        all_goals refine rFull ?_
        all_goals (first | refine wSkip 26 ?_ | refine wSkipU 26 ?_ | refine wUn 26 ?_ | (refine tr_guard (t := 72) rfl (fun hb => ?_) (fun hb => ?_) <;> (try simp only [kk] at hb) <;> first | refine wSkip 26 ?_ | refine wSkipU 26 ?_ | refine wUn 26 ?_))
        all_goals refine rPk 27 ?_
        all_goals refine rDone ?_
        all_goals refine te_cut_g ((_)) (hz4) ev_le ev_le rfl tk inferInstance
      rintro ρ3 hz4
      simp only [List.cons_append, List.nil_append] at hz4 ⊢
      have hA4 := hRc.mono hz4
      repeat' (first | (refine tl_is (.func 41) ?_; refine qC rfl rfl (hCp _ hA4) ?_; rintro v ρ' L' hle ⟨hz6, s6, rfl, hs6, rfl⟩ <;> (try simp only [kM, kN, kO])) | (refine iBu ?_; refine tl_y (y_buildN rfl) rfl rfl ?_) | (refine i_op ?_; first | (refine i_qq ?_; refine qQ ?_) | refine qEf ?_) | refine tl_nil ?_ | (refine i_tc ?_; refine qTc ?_) | (refine i_te ?_; refine qTe ?_) | intro _)
      have n6 := hs6.at'.len
      simp only [List.length_nil] at n6
      have hA6 := hA4.mono hz6
      repeat' (first | (refine tl_is (.func 43) ?_; refine qC rfl rfl (hLe _ hA6) ?_; rintro v ρ' L' hle ⟨rfl, rfl, rfl⟩ <;> (try simp only [kM, kN, kO])) | (refine tl_is (.func 44) ?_; refine qC rfl rfl (hRe _ hA6) ?_; rintro v ρ' L' hle ⟨hz7, rfl, rfl⟩ <;> (try simp only [kM, kN, kO])) | (refine iBu ?_; refine tl_y (y_buildN rfl) rfl rfl ?_) | (refine i_op ?_; first | (refine i_qq ?_; refine qQ ?_) | refine qEf ?_) | refine tl_nil ?_ | (refine i_tc ?_; refine qTc ?_) | (refine i_te ?_; refine qTe ?_) | intro _)
      have hA7 := hA6.mono hz7
      have hz07 := Hp.le_trans hz03 (Hp.le_trans hz4 (Hp.le_trans hz6 hz7))
      refine tc_loop_g [(0, _), (1, _), (2, _), (9, _), (11, _), (15, _), (16, _), (32, _), (33, _), (34, _), (106, _)] (fun (ζ : (Nat)) => [(107, .int .i64 ζ), (6, .bool false)]) (fun (ζ : (Nat)) => ρ') (fun (ζ : (Nat)) => []) (fun (ζ : (Nat)) => ζ ≤ 0) (fun (ζ : (Nat)) => 0 - ζ) (0) (Nat.zero_le _) ev_le ev_le rfl tk ?_
      rintro j hI
      try simp only [List.cons_append, List.nil_append, List.append_assoc, List.append_eq] at hI ⊢
      try dsimp only at hI ⊢
      by_cases hlt1 : j < 0
      · omega
      repeat' (first | (refine iBu ?_; refine tl_y (y_buildN rfl) rfl rfl ?_) | (refine i_op ?_; first | (refine i_qq ?_; refine qQ ?_) | refine qEf ?_) | refine tl_nil ?_ | (refine i_tc ?_; refine qTc ?_) | (refine i_te ?_; refine qTe ?_) | intro _)
      refine tc_loop_g [(0, _), (1, _), (2, _), (9, _), (11, _), (32, _), (33, _), (34, _), (120, _), (121, _)] (fun (ζ : (Nat) × (Hp)) => [(122, .int .i64 ζ.1), (6, .bool false)]) (fun (ζ : (Nat) × (Hp)) => ζ.2) (fun (ζ : (Nat) × (Hp)) => []) (fun (ζ : (Nat) × (Hp)) => ζ.1 ≤ n1 ∧ Hp.le ρ' ζ.2) (fun (ζ : (Nat) × (Hp)) => n1 - ζ.1) ((0, ρ')) (⟨Nat.zero_le _, Hp.le_refl _⟩) ev_le ev_le rfl tk ?_
      rintro ⟨j2, ρa⟩ hI
      try simp only [List.cons_append, List.nil_append, List.append_assoc, List.append_eq] at hI ⊢
      try dsimp only at hI ⊢
      obtain ⟨hj2, hza⟩ := hI
      by_cases hlt2 : j2 < n1
      · obtain ⟨b3, off3, C3, T3, fr3, f3, hb3, hfit3, hc3⟩ := (h1.mono (Hp.le_trans hz07 hza)).get (show j2 < ns.length by omega)
        generalize ns[j2]'(by omega) = nm at *
        have hcell3 : C3[off3 + j2 * 1]? = some (.int .i64 nm) := by
          have := congrArg (fun l => l[0]?) hc3
          simp only [List.getElem?_take, List.getElem?_drop] at this
          simpa using this
        rw [f3]
        by_cases h8 : j2 = 8
        · repeat' (first | (refine iBu ?_; refine tl_y (y_buildN rfl) rfl rfl ?_) | (refine i_op ?_; first | (refine i_qq ?_; refine qQ ?_) | refine qEf ?_) | refine tl_nil ?_ | (refine i_tc ?_; refine qTc ?_) | (refine i_te ?_; refine qTe ?_) | intro _)
          rw [← e1]
          refine te_round_g (k + 1, _) (⟨hlt, Hp.le_trans hz07 hza⟩) ev_le ev_le rfl tk inferInstance (by first | omega | (dsimp only; omega))
        have hAa := hA7.mono hza
        repeat' (first | (refine tl_is (.func 47) ?_; refine qC rfl rfl (rfind_none _ v1 r1 hAa nm (.inl hok)) ?_; rintro v ρ' L' hle ⟨rfl, rfl, rfl⟩ <;> (try simp only [kM, kN, kO])) | (refine tl_is (.func 54) ?_; refine qC rfl rfl (sameTx_true _ zX zX (zX_in _) (zX_in _) rfl) ?_; rintro v ρ' L' hle ⟨rfl, rfl, rfl⟩ <;> (try simp only [kM, kN, kO])) | (refine iBu ?_; refine tl_y (y_buildN rfl) rfl rfl ?_) | (refine i_op ?_; first | (refine i_qq ?_; refine qQ ?_) | refine qEf ?_) | refine tl_nil ?_ | (refine i_tc ?_; refine qTc ?_) | (refine i_te ?_; refine qTe ?_) | intro _)
        refine tc_loop_g [(0, _), (1, _), (2, _), (9, _), (11, _), (18, _), (19, _), (32, _), (33, _), (34, _), (120, _), (121, _), (122, _), (152, _), (153, _)] (fun (ζ : (Nat) × (Hp)) => [(154, .int .i64 ζ.1), (6, .bool false)]) (fun (ζ : (Nat) × (Hp)) => ζ.2) (fun (ζ : (Nat) × (Hp)) => []) (fun (ζ : (Nat) × (Hp)) => ζ.1 ≤ n2 ∧ Hp.le ρ' ζ.2) (fun (ζ : (Nat) × (Hp)) => n2 - ζ.1) ((0, ρ')) (⟨Nat.zero_le _, Hp.le_refl _⟩) ev_le ev_le rfl tk ?_
        rintro ⟨j3, ρb⟩ hI
        try simp only [List.cons_append, List.nil_append, List.append_assoc, List.append_eq] at hI ⊢
        try dsimp only at hI ⊢
        obtain ⟨hj3, hzb⟩ := hI
        by_cases hlt3 : j3 < n2
        · obtain ⟨b5, off5, C5, T5, fr5, f5, hb5, hfit5, hc5⟩ := (h2.mono (Hp.le_trans hz07 (Hp.le_trans hza hzb))).get (show j3 < ps.length by omega)
          have hpi := hi2 _ (List.getElem_mem (show j3 < ps.length by omega))
          generalize ps[j3]'(by omega) = pl at *
          have hcell5 : C5[off5 + j3 * 1]? = some (.int .i64 pl) := by
            have := congrArg (fun l => l[0]?) hc5
            simp only [List.getElem?_take, List.getElem?_drop] at this
            simpa using this
          have hw1 := hWh _ (hAa.mono hzb) nm pl hpi
          have hE : whereE r1.p nm pl = 280 := by unfold whereE asksE; rw [rosOk_p, hok]; rfl
          rw [hE] at hw1
          simp only [show ¬ ((280 : Int) = 0) by decide, if_false] at hw1
          rw [f5]
          by_cases h66 : j3 < 6
          · repeat' (first | (refine tl_is (.func 55) ?_; refine qC rfl rfl (hw1) ?_; rintro v ρ' L' hle ⟨hz9, rfl, rfl⟩ <;> (try simp only [kM, kN, kO])) | (refine iBu ?_; refine tl_y (y_buildN rfl) rfl rfl ?_) | (refine i_op ?_; first | (refine i_qq ?_; refine qQ ?_) | refine qEf ?_) | refine tl_nil ?_ | (refine i_tc ?_; refine qTc ?_) | (refine i_te ?_; refine qTe ?_) | intro _)
            rw [← f5]
            refine te_round_g (j3 + 1, _) (⟨hlt3, Hp.le_trans hzb hz9⟩) ev_le ev_le rfl tk inferInstance (by first | omega | (dsimp only; omega))
          · repeat' (first | (refine tl_is (.func 55) ?_; refine qC rfl rfl (hw1) ?_; rintro v ρ' L' hle ⟨hz9, rfl, rfl⟩ <;> (try simp only [kM, kN, kO])) | (refine iBu ?_; refine tl_y (y_buildN rfl) rfl rfl ?_) | (refine i_op ?_; first | (refine i_qq ?_; refine qQ ?_) | refine qEf ?_) | refine tl_nil ?_ | (refine i_tc ?_; refine qTc ?_) | (refine i_te ?_; refine qTe ?_) | intro _)
            rw [← f5]
            refine te_round_g (j3 + 1, _) (⟨hlt3, Hp.le_trans hzb hz9⟩) ev_le ev_le rfl tk inferInstance (by first | omega | (dsimp only; omega))
        · repeat' (first | (refine iBu ?_; refine tl_y (y_buildN rfl) rfl rfl ?_) | (refine i_op ?_; first | (refine i_qq ?_; refine qQ ?_) | refine qEf ?_) | refine tl_nil ?_ | (refine i_tc ?_; refine qTc ?_) | (refine i_te ?_; refine qTe ?_) | intro _)
          rw [← f3]
          refine te_round_g (j2 + 1, _) (⟨hlt2, Hp.le_trans hza hzb⟩) ev_le ev_le rfl tk inferInstance (by first | omega | (dsimp only; omega))
      · repeat' (first | (refine iBu ?_; refine tl_y (y_buildN rfl) rfl rfl ?_) | (refine i_op ?_; first | (refine i_qq ?_; refine qQ ?_) | refine qEf ?_) | refine tl_nil ?_ | (refine i_tc ?_; refine qTc ?_) | (refine i_te ?_; refine qTe ?_) | intro _)
        rw [← e1]
        refine te_round_g (k + 1, _) (⟨hlt, Hp.le_trans hz07 hza⟩) ev_le ev_le rfl tk inferInstance (by first | omega | (dsimp only; omega))
  · repeat' (first | (refine iBu ?_; refine tl_y (y_buildN rfl) rfl rfl ?_) | (refine i_op ?_; first | (refine i_qq ?_; refine qQ ?_) | refine qEf ?_) | refine tl_nil ?_ | (refine i_tc ?_; refine qTc ?_) | (refine i_te ?_; refine qTe ?_) | intro _)
    exact qE (L' := []) (hle := hle0) ⟨rfl, hle0, rfl⟩
end Go.Proofs.E

