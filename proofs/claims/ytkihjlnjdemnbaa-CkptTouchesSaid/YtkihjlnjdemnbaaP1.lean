/- The law CkptTouches. Part 1 of 2. -/
import Derived.Test.YtkihjlnjdemnbaaG19
namespace Go.Proofs.E
open Go
set_option linter.unusedVariables false
set_option linter.unusedSimpArgs false
set_option linter.unusedSectionVars false
set_option maxRecDepth 4000
set_option maxHeartbeats 1000000
attribute [local irreducible] Yl TL TC TE Spec YSpec R1 Hp.le EnvLe TS TR YS Stays
-- BN
/-! ## the document's tables -/
theorem redoes12_spec (ρ : Hp) (v : RV) (r : Rc) (h : RcIn ρ v r) (page : Int) : Spec Try.prog 41 [.agg ⟨recV v r⟩, .int .i64 page] ρ []
    (fun z ρ' L' => z = .tuple ⟨[.agg ⟨contO (r.ims.find? (fun x => decide (x.page = page)))⟩, .bool (r.ims.find? (fun x => decide (x.page = page))).isSome]⟩ ∧ ρ' = ρ ∧ L' = []) := by
  have hl := h.i.at'.len
  have hn := h.i.big
  have hA := h.i.at'
  generalize hq : r.ims.find? (fun x => decide (x.page = page)) = q
  refine spec_enter Try.func41 rfl rfl rfl fun u R => ?_
  simp only [argsE, List.cons_append, List.nil_append]
  repeat' (first | (refine iBu ?_; refine tl_y (y_buildN rfl) rfl rfl ?_) | (refine i_op ?_; first | (refine i_qq ?_; refine qQ ?_) | refine qEf ?_) | refine tl_nil ?_ | (refine i_tc ?_; refine qTc ?_) | (refine i_te ?_; refine qTe ?_) | intro _)
  rename_i b2 b4
  refine tc_loop_g [(1, _), (4, _), (9, _), (10, _)] (fun (ζ : (Nat)) => [(11, .int .i64 ζ), (5, .bool false)]) (fun (ζ : (Nat)) => ρ) (fun (ζ : (Nat)) => [[(b4, .cells ⟨[.int .i64 0, .slice none 0 0, .slice none 0 0]⟩ 67 (0, 0))]]) (fun (ζ : (Nat)) => ζ ≤ v.i.n ∧ (r.ims.drop ζ).find? (fun x => decide (x.page = page)) = q) (fun (ζ : (Nat)) => v.i.n - ζ) (0) (⟨Nat.zero_le _, hq⟩) ev_le ev_le rfl tk ?_
  rintro k hI
  try simp only [List.cons_append, List.nil_append, List.append_assoc, List.append_eq] at hI ⊢
  try dsimp only at hI ⊢
  obtain ⟨hk, hok⟩ := hI
  by_cases hlt : k < v.i.n
  · obtain ⟨b, off, C, T, fr, e1, hb, hfit, hc⟩ := hA.get (show k < r.ims.length by omega)
    rw [List.drop_eq_getElem_cons (show k < r.ims.length by omega), List.find?_cons] at hok
    generalize r.ims[k]'(by omega) = x at *
    rw [e1]
    by_cases hx : x.page = page
    · rw [decide_eq_true hx] at hok
      subst hok
      repeat' (first | (refine iBu ?_; refine tl_y (y_buildN rfl) rfl rfl ?_) | (refine i_op ?_; first | (refine i_qq ?_; refine qQ ?_) | refine qEf ?_) | refine tl_nil ?_ | (refine i_tc ?_; refine qTc ?_) | (refine i_te ?_; refine qTe ?_) | intro _)
      exact qE (L' := []) ⟨rfl, rfl, rfl⟩
    · rw [decide_eq_false hx] at hok
      repeat' (first | (refine iBu ?_; refine tl_y (y_buildN rfl) rfl rfl ?_) | (refine i_op ?_; first | (refine i_qq ?_; refine qQ ?_) | refine qEf ?_) | refine tl_nil ?_ | (refine i_tc ?_; refine qTc ?_) | (refine i_te ?_; refine qTe ?_) | intro _)
      rw [← e1]
      refine te_round_g (k + 1) (⟨hlt, hok⟩) ev_le ev_le rfl tk inferInstance (by first | omega | (dsimp only; omega))
  · have hk2 : k = r.ims.length := by omega
    rw [hk2, List.drop_length, List.find?_nil] at hok
    subst hok
    repeat' (first | (refine iBu ?_; refine tl_y (y_buildN rfl) rfl rfl ?_) | (refine i_op ?_; first | (refine i_qq ?_; refine qQ ?_) | refine qEf ?_) | refine tl_nil ?_ | (refine i_tc ?_; refine qTc ?_) | (refine i_te ?_; refine qTe ?_) | intro _)
    exact qE (L' := []) ⟨rfl, rfl, rfl⟩
def recN (page : Int) (l : List CkP) : Nat := match recP page l with | some p => p.since | none => 0
theorem rec22_spec (ρ : Hp) (s : SV) (l : List CkP) (h : AS ρ 2 ckPV s l) (page : Int) : Spec Try.prog 42 [.slice s.a s.n s.c, .int .i64 page] ρ [] (fun z ρ' L' => z = .int .u64 (recN page l) ∧ ρ' = ρ ∧ L' = []) := by
  have hl := h.at'.len
  have hn := h.big
  have hA := h.at'
  unfold recN recP
  generalize hq : l.find? (fun p => decide (p.page = page)) = q
  refine spec_enter Try.func42 rfl rfl rfl fun u R => ?_
  simp only [argsE, List.cons_append, List.nil_append]
  repeat' (first | (refine iBu ?_; refine tl_y (y_buildN rfl) rfl rfl ?_) | (refine i_op ?_; first | (refine i_qq ?_; refine qQ ?_) | refine qEf ?_) | refine tl_nil ?_ | (refine i_tc ?_; refine qTc ?_) | (refine i_te ?_; refine qTe ?_) | intro _)
  refine tc_loop_g [(1, _), (7, _), (8, _)] (fun (ζ : (Nat)) => [(9, .int .i64 ζ), (4, .int .u64 0)]) (fun (ζ : (Nat)) => ρ) (fun (ζ : (Nat)) => []) (fun (ζ : (Nat)) => ζ ≤ s.n ∧ (l.drop ζ).find? (fun p => decide (p.page = page)) = q) (fun (ζ : (Nat)) => s.n - ζ) (0) (⟨Nat.zero_le _, hq⟩) ev_le ev_le rfl tk ?_
  rintro k hI
  try simp only [List.cons_append, List.nil_append, List.append_assoc, List.append_eq] at hI ⊢
  try dsimp only at hI ⊢
  obtain ⟨hk, hok⟩ := hI
  by_cases hlt : k < s.n
  · obtain ⟨b, off, C, T, fr, e1, hb, hfit, hc⟩ := hA.get (show k < l.length by omega)
    rw [List.drop_eq_getElem_cons (show k < l.length by omega), List.find?_cons] at hok
    generalize l[k]'(by omega) = x at *
    rw [e1]
    by_cases hx : x.page = page
    · rw [decide_eq_true hx] at hok
      subst hok
      repeat' (first | (refine iBu ?_; refine tl_y (y_buildN rfl) rfl rfl ?_) | (refine i_op ?_; first | (refine i_qq ?_; refine qQ ?_) | refine qEf ?_) | refine tl_nil ?_ | (refine i_tc ?_; refine qTc ?_) | (refine i_te ?_; refine qTe ?_) | intro _)
      exact qE (L' := []) ⟨rfl, rfl, rfl⟩
    · rw [decide_eq_false hx] at hok
      repeat' (first | (refine iBu ?_; refine tl_y (y_buildN rfl) rfl rfl ?_) | (refine i_op ?_; first | (refine i_qq ?_; refine qQ ?_) | refine qEf ?_) | refine tl_nil ?_ | (refine i_tc ?_; refine qTc ?_) | (refine i_te ?_; refine qTe ?_) | intro _)
      rw [← e1]
      refine te_round_g (k + 1) (⟨hlt, hok⟩) ev_le ev_le rfl tk inferInstance (by first | omega | (dsimp only; omega))
  · have hk2 : k = l.length := by omega
    rw [hk2, List.drop_length, List.find?_nil] at hok
    subst hok
    repeat' (first | (refine iBu ?_; refine tl_y (y_buildN rfl) rfl rfl ?_) | (refine i_op ?_; first | (refine i_qq ?_; refine qQ ?_) | refine qEf ?_) | refine tl_nil ?_ | (refine i_tc ?_; refine qTc ?_) | (refine i_te ?_; refine qTe ?_) | intro _)
    exact qE (L' := []) ⟨rfl, rfl, rfl⟩
/-- a table, part by part -/
def pRight (p : CkP) : Bool := decide (0 ≤ p.page ∧ p.page < 64 ∧ 1 ≤ p.since ∧ p.since ≤ 1099511627776)
theorem tblOk_up {l : List CkP} : tblOk l = upB pRight CkP.page l l.length := by
  have key : ∀ (l : List CkP) (last : Int), tblB last l = true ↔ (∀ i (h : i < l.length), last < l[i].page ∧ l[i].page < 64 ∧ 1 ≤ l[i].since ∧ l[i].since ≤ 1099511627776) ∧ ∀ i (h : i < l.length), 0 < i → (l[i - 1]'(by omega)).page < l[i].page := by
    intro l
    induction l with
    | nil => intro last; simp [tblB]
    | cons p r ih =>
      intro last
      rw [tblB, Bool.and_eq_true, decide_eq_true_eq, ih p.page]
      constructor
      · rintro ⟨h0, h1, h2⟩
        refine ⟨fun i hi => ?_, fun i hi h0i => ?_⟩
        · cases i with
          | zero => exact h0
          | succ i => have := h1 i (by simpa using hi); simp only [List.getElem_cons_succ]; omega
        · cases i with
          | zero => omega
          | succ i =>
            cases i with
            | zero => have := h1 0 (by simpa using hi); simpa using this.1
            | succ i => have := h2 (i + 1) (by simpa using hi) (by omega); simpa using this
      · rintro ⟨h1, h2⟩
        have h0 := h1 0 (by simp)
        have hup : ∀ i (hi : i < r.length), p.page < r[i].page := by
          intro i hi
          induction i with
          | zero => have := h2 1 (by simp only [List.length_cons]; omega) (by omega); simpa using this
          | succ i ihi =>
            have e1 := ihi (by omega)
            have := h2 (i + 2) (by simp only [List.length_cons]; omega) (by omega)
            simp only [List.getElem_cons_succ, show i + 2 - 1 = i + 1 by omega] at this
            omega
        refine ⟨by simpa using h0, fun i hi => ?_, fun i hi h0i => ?_⟩
        · have := h1 (i + 1) (by simp only [List.length_cons]; omega)
          simp only [List.getElem_cons_succ] at this
          exact ⟨hup i hi, this.2⟩
        · have := h2 (i + 1) (by simp only [List.length_cons]; omega) (by omega)
          obtain ⟨j, rfl⟩ : ∃ j, i = j + 1 := ⟨i - 1, by omega⟩
          simpa using this
  have key2 : ∀ (k : Nat), k ≤ l.length → (risesB l.length (fun _ x => pRight x) (fun y x => decide (y.page < x.page)) l k = true ↔ (∀ i (h : i < l.length), i < k → pRight l[i] = true) ∧ ∀ i (h : i < l.length), i < k → 0 < i → (l[i - 1]'(by omega)).page < l[i].page) := by
    intro k
    induction k with
    | zero => intro _; rw [risesB]; simp
    | succ k ih =>
      intro hk
      rw [risesB_succ (show k < l.length by omega), Bool.and_eq_true, ih (by omega), Bool.and_eq_true]
      constructor
      · rintro ⟨⟨h1, h2⟩, h3, h4⟩
        refine ⟨fun i hi hik => ?_, fun i hi hik h0 => ?_⟩
        · by_cases e : i = k
          · subst e; exact h3
          · exact h1 i hi (by omega)
        · by_cases e : i = k
          · subst e
            rw [decide_eq_false (by omega), Bool.false_or, decide_eq_true_eq] at h4
            exact h4
          · exact h2 i hi (by omega) h0
      · rintro ⟨h1, h2⟩
        refine ⟨⟨fun i hi hik => h1 i hi (by omega), fun i hi hik h0 => h2 i hi (by omega) h0⟩, h1 k (by omega) (by omega), ?_⟩
        by_cases e : k = 0
        · rw [decide_eq_true e, Bool.true_or]
        · rw [decide_eq_false e, Bool.false_or, decide_eq_true_eq]
          exact h2 k (by omega) (by omega) (by omega)
  rw [Bool.eq_iff_iff]
  unfold tblOk upB
  rw [key, key2 _ (Nat.le_refl _)]
  unfold pRight
  constructor
  · rintro ⟨h1, h2⟩
    exact ⟨fun i hi _ => by have := h1 i hi; rw [decide_eq_true_eq]; omega, fun i hi _ h0 => h2 i hi h0⟩
  · rintro ⟨h1, h2⟩
    refine ⟨fun i hi => ?_, fun i hi h0 => h2 i hi hi h0⟩
    have := h1 i hi hi
    rw [decide_eq_true_eq] at this
    omega
end Go.Proofs.E

namespace Go.Proofs.E
open Go
set_option linter.unusedVariables false
set_option linter.unusedSimpArgs false
set_option linter.unusedSectionVars false
set_option maxRecDepth 4000
set_option maxHeartbeats 1000000
attribute [local irreducible] Yl TL TC TE Spec YSpec R1 Hp.le EnvLe TS TR YS Stays
-- BN
theorem right22_spec (ρ : Hp) (s : SV) (l : List CkP) (h : AS ρ 2 ckPV s l)   :
    Spec Try.prog 11 [.slice s.a s.n s.c] ρ [] (fun z ρ' L' => z = .bool (upB pRight CkP.page l l.length) ∧ ρ' = ρ ∧ L' = []) := by
  have hl := h.at'.len
  have hn := h.big
  have hA := h.at'
  generalize hR : pRight = rt
  unfold upB
  generalize hm : l.length = mo
  have hrt : ∀ x, rt x = pRight x := fun x => by rw [hR]
  refine spec_enter Try.func11 rfl rfl rfl fun u R => ?_
  simp only [argsE, List.cons_append, List.nil_append]
  repeat' (first | (refine iBu ?_; refine tl_y (y_buildN rfl) rfl rfl ?_) | (refine i_op ?_; first | (refine i_qq ?_; refine qQ ?_) | refine qEf ?_) | refine tl_nil ?_ | (refine i_tc ?_; refine qTc ?_) | (refine i_te ?_; refine qTe ?_) | intro _)
  refine tc_loop_g [(0, _), (5, _), (6, _)] (fun (ζ : (Nat)) => [(7, .int .i64 ζ), (2, .bool false)]) (fun (ζ : (Nat)) => ρ) (fun (ζ : (Nat)) => []) (fun (ζ : (Nat)) => ζ ≤ s.n ∧ risesB mo (fun _ x => rt x) (fun y x => decide (CkP.page y < CkP.page x)) l ζ = true) (fun (ζ : (Nat)) => s.n - ζ) (0) (⟨Nat.zero_le _, by rw [risesB]; simp [hm]⟩) ev_le ev_le rfl tk ?_
  rintro k hI
  try simp only [List.cons_append, List.nil_append, List.append_assoc, List.append_eq] at hI ⊢
  try dsimp only at hI ⊢
  obtain ⟨hk, hok⟩ := hI
  by_cases hlt : k < s.n
  · obtain ⟨b, off, C, T, fr, e1, hb0, hfit, hc⟩ := hA.get (show k < l.length by omega)
    have hs := risesB_succ (most := mo) (right := fun _ x => rt x) (lt := fun y x => decide (CkP.page y < CkP.page x)) (show k < l.length by omega)
    have hfin0 := fun (e : risesB mo (fun _ x => rt x) (fun y x => decide (CkP.page y < CkP.page x)) l (k + 1) = false) => risesB_false' e (show k + 1 ≤ mo by omega)
    rw [hok, Bool.true_and] at hs
    have hw := hrt l[k]
    skip
    rw [e1]
    by_cases hk0 : k = 0
    · have hfin : (rt l[k] && (decide (k = 0) || decide (CkP.page (l[k - 1]'(by omega)) < CkP.page l[k]))) = false → risesB mo (fun _ x => rt x) (fun y x => decide (CkP.page y < CkP.page x)) l mo = false := fun e => hfin0 (by rw [hs]; exact e)
      rw [decide_eq_true hk0, Bool.true_or, Bool.and_true] at hs hfin
      generalize l[k] = x at *
      unfold pRight at hw
      generalize hQQ : risesB mo (fun _ x => rt x) (fun y x => decide (CkP.page y < CkP.page x)) l mo = q at *
      clear hfin0 hrt hR
      repeat' (first | (refine iBu ?_; refine tl_y (y_buildN rfl) rfl rfl ?_) | (refine i_op ?_; first | (refine i_qq ?_; refine qQ ?_) | refine qEf ?_) | refine tl_nil ?_ | (refine i_tc ?_; refine qTc ?_) | (refine i_te ?_; refine qTe ?_) | intro _)
      refine tc_any (Stays _ _ _) stays_refl ?_
      all_goals refine rFa 0 ?_
      all_goals refine rFull ?_
      all_goals refine rLd 1 ?_
      all_goals refine rCm 2 ?_
      all_goals refine rMv 3 ?_
      all_goals (first | refine wSkip 4 ?_ | refine wSkipU 4 ?_ | refine wFa 4 ?_ | (refine tr_guard (t := 15) rfl (fun hb => ?_) (fun hb => ?_) <;> (try simp only [decide_eq_true_eq, decide_eq_false_iff_not, Bool.not_eq_true, Bool.not_eq_false, beq_iff_eq, bne_iff_ne, ne_eq, Bool.not_eq_eq_eq_not, Bool.not_true, Bool.not_false, beq_eq_false_iff_ne, bne_eq_false_iff_eq] at hb) <;> first | refine wSkip 4 ?_ | refine wSkipU 4 ?_ | refine wFa 4 ?_))
      all_goals (first | refine wSkip 5 ?_ | refine wSkipU 5 ?_ | refine wLd 5 ?_ | (refine tr_guard (t := 15) rfl (fun hb => ?_) (fun hb => ?_) <;> (try simp only [decide_eq_true_eq, decide_eq_false_iff_not, Bool.not_eq_true, Bool.not_eq_false, beq_iff_eq, bne_iff_ne, ne_eq, Bool.not_eq_eq_eq_not, Bool.not_true, Bool.not_false, beq_eq_false_iff_ne, bne_eq_false_iff_eq] at hb) <;> first | refine wSkip 5 ?_ | refine wSkipU 5 ?_ | refine wLd 5 ?_))
      all_goals (first | refine wSkip 6 ?_ | refine wSkipU 6 ?_ | refine wCm 6 ?_ | (refine tr_guard (t := 15) rfl (fun hb => ?_) (fun hb => ?_) <;> (try simp only [decide_eq_true_eq, decide_eq_false_iff_not, Bool.not_eq_true, Bool.not_eq_false, beq_iff_eq, bne_iff_ne, ne_eq, Bool.not_eq_eq_eq_not, Bool.not_true, Bool.not_false, beq_eq_false_iff_ne, bne_eq_false_iff_eq] at hb) <;> first | refine wSkip 6 ?_ | refine wSkipU 6 ?_ | refine wCm 6 ?_))
      all_goals refine rPk 7 ?_
      all_goals refine rMv 8 ?_
      all_goals (first | refine wSkip 9 ?_ | refine wSkipU 9 ?_ | refine wFa 9 ?_ | (refine tr_guard (t := 20) rfl (fun hb => ?_) (fun hb => ?_) <;> (try simp only [decide_eq_true_eq, decide_eq_false_iff_not, Bool.not_eq_true, Bool.not_eq_false, beq_iff_eq, bne_iff_ne, ne_eq, Bool.not_eq_eq_eq_not, Bool.not_true, Bool.not_false, beq_eq_false_iff_ne, bne_eq_false_iff_eq] at hb) <;> first | refine wSkip 9 ?_ | refine wSkipU 9 ?_ | refine wFa 9 ?_))
      all_goals (first | refine wSkip 10 ?_ | refine wSkipU 10 ?_ | refine wLd 10 ?_ | (refine tr_guard (t := 20) rfl (fun hb => ?_) (fun hb => ?_) <;> (try simp only [decide_eq_true_eq, decide_eq_false_iff_not, Bool.not_eq_true, Bool.not_eq_false, beq_iff_eq, bne_iff_ne, ne_eq, Bool.not_eq_eq_eq_not, Bool.not_true, Bool.not_false, beq_eq_false_iff_ne, bne_eq_false_iff_eq] at hb) <;> first | refine wSkip 10 ?_ | refine wSkipU 10 ?_ | refine wLd 10 ?_))
      all_goals (first | refine wSkip 11 ?_ | refine wSkipU 11 ?_ | refine wCm 11 ?_ | (refine tr_guard (t := 20) rfl (fun hb => ?_) (fun hb => ?_) <;> (try simp only [decide_eq_true_eq, decide_eq_false_iff_not, Bool.not_eq_true, Bool.not_eq_false, beq_iff_eq, bne_iff_ne, ne_eq, Bool.not_eq_eq_eq_not, Bool.not_true, Bool.not_false, beq_eq_false_iff_ne, bne_eq_false_iff_eq] at hb) <;> first | refine wSkip 11 ?_ | refine wSkipU 11 ?_ | refine wCm 11 ?_))
      all_goals refine rPk 12 ?_
      all_goals refine rMv 13 ?_
      all_goals (first | refine wSkip 14 ?_ | refine wSkipU 14 ?_ | refine wFa 14 ?_ | (refine tr_guard (t := 25) rfl (fun hb => ?_) (fun hb => ?_) <;> (try simp only [decide_eq_true_eq, decide_eq_false_iff_not, Bool.not_eq_true, Bool.not_eq_false, beq_iff_eq, bne_iff_ne, ne_eq, Bool.not_eq_eq_eq_not, Bool.not_true, Bool.not_false, beq_eq_false_iff_ne, bne_eq_false_iff_eq] at hb) <;> first | refine wSkip 14 ?_ | refine wSkipU 14 ?_ | refine wFa 14 ?_))
      all_goals (first | refine wSkip 15 ?_ | refine wSkipU 15 ?_ | refine wLd 15 ?_ | (refine tr_guard (t := 25) rfl (fun hb => ?_) (fun hb => ?_) <;> (try simp only [decide_eq_true_eq, decide_eq_false_iff_not, Bool.not_eq_true, Bool.not_eq_false, beq_iff_eq, bne_iff_ne, ne_eq, Bool.not_eq_eq_eq_not, Bool.not_true, Bool.not_false, beq_eq_false_iff_ne, bne_eq_false_iff_eq] at hb) <;> first | refine wSkip 15 ?_ | refine wSkipU 15 ?_ | refine wLd 15 ?_))
      all_goals (first | refine wSkip 16 ?_ | refine wSkipU 16 ?_ | refine wCm 16 ?_ | (refine tr_guard (t := 25) rfl (fun hb => ?_) (fun hb => ?_) <;> (try simp only [decide_eq_true_eq, decide_eq_false_iff_not, Bool.not_eq_true, Bool.not_eq_false, beq_iff_eq, bne_iff_ne, ne_eq, Bool.not_eq_eq_eq_not, Bool.not_true, Bool.not_false, beq_eq_false_iff_ne, bne_eq_false_iff_eq] at hb) <;> first | refine wSkip 16 ?_ | refine wSkipU 16 ?_ | refine wCm 16 ?_))
      all_goals refine rPk 17 ?_
      all_goals refine rMv 18 ?_
      all_goals (first | refine wSkip 19 ?_ | refine wSkipU 19 ?_ | refine wMv 19 ?_ | (refine tr_guard (t := 30) rfl (fun hb => ?_) (fun hb => ?_) <;> (try simp only [decide_eq_true_eq, decide_eq_false_iff_not, Bool.not_eq_true, Bool.not_eq_false, beq_iff_eq, bne_iff_ne, ne_eq, Bool.not_eq_eq_eq_not, Bool.not_true, Bool.not_false, beq_eq_false_iff_ne, bne_eq_false_iff_eq] at hb) <;> first | refine wSkip 19 ?_ | refine wSkipU 19 ?_ | refine wMv 19 ?_))
      all_goals (first | refine wSkip 20 ?_ | refine wSkipU 20 ?_ | refine wCm 20 ?_ | (refine tr_guard (t := 30) rfl (fun hb => ?_) (fun hb => ?_) <;> (try simp only [decide_eq_true_eq, decide_eq_false_iff_not, Bool.not_eq_true, Bool.not_eq_false, beq_iff_eq, bne_iff_ne, ne_eq, Bool.not_eq_eq_eq_not, Bool.not_true, Bool.not_false, beq_eq_false_iff_ne, bne_eq_false_iff_eq] at hb) <;> first | refine wSkip 20 ?_ | refine wSkipU 20 ?_ | refine wCm 20 ?_))
      all_goals (first | refine wSkip 21 ?_ | refine wSkipU 21 ?_ | refine wMv 21 ?_ | (refine tr_guard (t := 30) rfl (fun hb => ?_) (fun hb => ?_) <;> (try simp only [decide_eq_true_eq, decide_eq_false_iff_not, Bool.not_eq_true, Bool.not_eq_false, beq_iff_eq, bne_iff_ne, ne_eq, Bool.not_eq_eq_eq_not, Bool.not_true, Bool.not_false, beq_eq_false_iff_ne, bne_eq_false_iff_eq] at hb) <;> first | refine wSkip 21 ?_ | refine wSkipU 21 ?_ | refine wMv 21 ?_))
      all_goals (first | refine wSkip 22 ?_ | refine wSkipU 22 ?_ | refine wMv 22 ?_ | (refine tr_guard (t := 33) rfl (fun hb => ?_) (fun hb => ?_) <;> (try simp only [decide_eq_true_eq, decide_eq_false_iff_not, Bool.not_eq_true, Bool.not_eq_false, beq_iff_eq, bne_iff_ne, ne_eq, Bool.not_eq_eq_eq_not, Bool.not_true, Bool.not_false, beq_eq_false_iff_ne, bne_eq_false_iff_eq] at hb) <;> first | refine wSkip 22 ?_ | refine wSkipU 22 ?_ | refine wMv 22 ?_))
      all_goals (first | refine wSkip 23 ?_ | refine wSkipU 23 ?_ | refine wMv 23 ?_ | (refine tr_guard (t := 33) rfl (fun hb => ?_) (fun hb => ?_) <;> (try simp only [decide_eq_true_eq, decide_eq_false_iff_not, Bool.not_eq_true, Bool.not_eq_false, beq_iff_eq, bne_iff_ne, ne_eq, Bool.not_eq_eq_eq_not, Bool.not_true, Bool.not_false, beq_eq_false_iff_ne, bne_eq_false_iff_eq] at hb) <;> first | refine wSkip 23 ?_ | refine wSkipU 23 ?_ | refine wMv 23 ?_))
      all_goals (first | refine wSkip 24 ?_ | refine wSkipU 24 ?_ | refine wSb 24 ?_ | (refine tr_guard (t := 33) rfl (fun hb => ?_) (fun hb => ?_) <;> (try simp only [decide_eq_true_eq, decide_eq_false_iff_not, Bool.not_eq_true, Bool.not_eq_false, beq_iff_eq, bne_iff_ne, ne_eq, Bool.not_eq_eq_eq_not, Bool.not_true, Bool.not_false, beq_eq_false_iff_ne, bne_eq_false_iff_eq] at hb) <;> first | refine wSkip 24 ?_ | refine wSkipU 24 ?_ | refine wSb 24 ?_))
      all_goals (first | refine wSkip 25 ?_ | refine wSkipU 25 ?_ | refine wIa 25 ?_ | (refine tr_guard (t := 33) rfl (fun hb => ?_) (fun hb => ?_) <;> (try simp only [decide_eq_true_eq, decide_eq_false_iff_not, Bool.not_eq_true, Bool.not_eq_false, beq_iff_eq, bne_iff_ne, ne_eq, Bool.not_eq_eq_eq_not, Bool.not_true, Bool.not_false, beq_eq_false_iff_ne, bne_eq_false_iff_eq] at hb) <;> first | refine wSkip 25 ?_ | refine wSkipU 25 ?_ | refine wIa 25 ?_))
      all_goals (first | refine wSkip 26 ?_ | refine wSkipU 26 ?_ | refine wFa 26 ?_ | (refine tr_guard (t := 33) rfl (fun hb => ?_) (fun hb => ?_) <;> (try simp only [decide_eq_true_eq, decide_eq_false_iff_not, Bool.not_eq_true, Bool.not_eq_false, beq_iff_eq, bne_iff_ne, ne_eq, Bool.not_eq_eq_eq_not, Bool.not_true, Bool.not_false, beq_eq_false_iff_ne, bne_eq_false_iff_eq] at hb) <;> first | refine wSkip 26 ?_ | refine wSkipU 26 ?_ | refine wFa 26 ?_))
      all_goals (first | refine wSkip 27 ?_ | refine wSkipU 27 ?_ | refine wLd 27 ?_ | (refine tr_guard (t := 33) rfl (fun hb => ?_) (fun hb => ?_) <;> (try simp only [decide_eq_true_eq, decide_eq_false_iff_not, Bool.not_eq_true, Bool.not_eq_false, beq_iff_eq, bne_iff_ne, ne_eq, Bool.not_eq_eq_eq_not, Bool.not_true, Bool.not_false, beq_eq_false_iff_ne, bne_eq_false_iff_eq] at hb) <;> first | refine wSkip 27 ?_ | refine wSkipU 27 ?_ | refine wLd 27 ?_))
      all_goals (first | refine wSkip 28 ?_ | refine wSkipU 28 ?_ | refine wFa 28 ?_ | (refine tr_guard (t := 33) rfl (fun hb => ?_) (fun hb => ?_) <;> (try simp only [decide_eq_true_eq, decide_eq_false_iff_not, Bool.not_eq_true, Bool.not_eq_false, beq_iff_eq, bne_iff_ne, ne_eq, Bool.not_eq_eq_eq_not, Bool.not_true, Bool.not_false, beq_eq_false_iff_ne, bne_eq_false_iff_eq] at hb) <;> first | refine wSkip 28 ?_ | refine wSkipU 28 ?_ | refine wFa 28 ?_))
      all_goals (first | refine wSkip 29 ?_ | refine wSkipU 29 ?_ | refine wLd 29 ?_ | (refine tr_guard (t := 33) rfl (fun hb => ?_) (fun hb => ?_) <;> (try simp only [decide_eq_true_eq, decide_eq_false_iff_not, Bool.not_eq_true, Bool.not_eq_false, beq_iff_eq, bne_iff_ne, ne_eq, Bool.not_eq_eq_eq_not, Bool.not_true, Bool.not_false, beq_eq_false_iff_ne, bne_eq_false_iff_eq] at hb) <;> first | refine wSkip 29 ?_ | refine wSkipU 29 ?_ | refine wLd 29 ?_))
      all_goals (first | refine wSkip 30 ?_ | refine wSkipU 30 ?_ | refine wCm 30 ?_ | (refine tr_guard (t := 33) rfl (fun hb => ?_) (fun hb => ?_) <;> (try simp only [decide_eq_true_eq, decide_eq_false_iff_not, Bool.not_eq_true, Bool.not_eq_false, beq_iff_eq, bne_iff_ne, ne_eq, Bool.not_eq_eq_eq_not, Bool.not_true, Bool.not_false, beq_eq_false_iff_ne, bne_eq_false_iff_eq] at hb) <;> first | refine wSkip 30 ?_ | refine wSkipU 30 ?_ | refine wCm 30 ?_))
      all_goals (first | refine wSkip 31 ?_ | refine wSkipU 31 ?_ | refine wPk 31 ?_ | (refine tr_guard (t := 30) rfl (fun hb => ?_) (fun hb => ?_) <;> (try simp only [decide_eq_true_eq, decide_eq_false_iff_not, Bool.not_eq_true, Bool.not_eq_false, beq_iff_eq, bne_iff_ne, ne_eq, Bool.not_eq_eq_eq_not, Bool.not_true, Bool.not_false, beq_eq_false_iff_ne, bne_eq_false_iff_eq] at hb) <;> first | refine wSkip 31 ?_ | refine wSkipU 31 ?_ | refine wPk 31 ?_))
      all_goals refine rPk 32 ?_
      all_goals refine rDone ?_
      all_goals (repeat' (first | (refine iBu ?_; refine tl_y (y_buildN rfl) rfl rfl ?_) | (refine i_op ?_; first | (refine i_qq ?_; refine qQ ?_) | refine qEf ?_) | refine tl_nil ?_ | (refine i_tc ?_; refine qTc ?_) | (refine i_te ?_; refine qTe ?_) | (refine i_gd ?_; refine tl_guard rfl rfl (fun hb => ?_) (fun hb => ?_) <;> (try simp only [decide_eq_true_eq, decide_eq_false_iff_not, Bool.not_eq_true, Bool.not_eq_false, beq_iff_eq, bne_iff_ne, ne_eq, decide_eq_decide, Bool.not_eq_eq_eq_not, Bool.not_true, Bool.not_false, beq_eq_false_iff_ne, bne_eq_false_iff_eq, Bool.and_eq_true, Bool.or_eq_true, Bool.and_eq_false_imp, Bool.or_eq_false_iff, bq2, bqt, bqf] at hb)) | (refine i_cond ?_; refine tc_cond rfl (fun hb => ?_) (fun hb => ?_) <;> (try simp only [decide_eq_true_eq, decide_eq_false_iff_not, Bool.not_eq_true, Bool.not_eq_false, beq_iff_eq, bne_iff_ne, ne_eq, decide_eq_decide, Bool.not_eq_eq_eq_not, Bool.not_true, Bool.not_false, beq_eq_false_iff_ne, bne_eq_false_iff_eq, Bool.and_eq_true, Bool.or_eq_true, Bool.and_eq_false_imp, Bool.or_eq_false_iff, bq2, bqt, bqf] at hb)) | intro _))
      all_goals (try (rw [hfin (by rw [hw]; (first | (simp [*]; done) | (simp [*]; omega) | (simp_all; done) | (simp_all; omega)))]; refine qF (L' := []) ?_; exact ⟨by first | rfl | rw [Bool.and_false], rfl, rfl⟩))
      all_goals rw [← e1]
      all_goals refine te_round_g (k + 1) (⟨hlt, by rw [hs, hw]; (first | (simp [*]; done) | (simp [*]; omega) | (simp_all; done) | (simp_all; omega))⟩) ev_le ev_le rfl tk inferInstance (by first | omega | (dsimp only; omega))
    · have hd : decide (k = 0) = false := decide_eq_false hk0
      obtain ⟨b2, off2, C2, T2, fr2, f1, hb2, hfit2, hc2⟩ := hA.get (show k - 1 < l.length by omega)
      rw [e1] at f1
      cases f1
      rw [hb0] at hb2
      cases hb2
      have ek : ((k : Int) - 1).toNat = k - 1 := by omega
      have hfin : (rt l[k] && (decide (k = 0) || decide (CkP.page (l[k - 1]'(by omega)) < CkP.page l[k]))) = false → risesB mo (fun _ x => rt x) (fun y x => decide (CkP.page y < CkP.page x)) l mo = false := fun e => hfin0 (by rw [hs]; exact e)
      rw [hd, Bool.false_or] at hs hfin
      have hcy : C[off + ((k : Int) - 1).toNat * 2]? = some (.int .i64 (CkP.page (l[k - 1]'(by omega)))) := by
        have := congrArg (fun l => l[0]?) hc2
        rw [ek]
        simp only [List.getElem?_take, List.getElem?_drop] at this
        simpa using this
      clear hc2 hfit2
      generalize l[k] = x at *
      generalize l[k - 1]'(by omega) = y at *
      unfold pRight at hw
      generalize hQQ : risesB mo (fun _ x => rt x) (fun y x => decide (CkP.page y < CkP.page x)) l mo = q at *
      clear hfin0 hrt hR
      repeat' (first | (refine iBu ?_; refine tl_y (y_buildN rfl) rfl rfl ?_) | (refine i_op ?_; first | (refine i_qq ?_; refine qQ ?_) | refine qEf ?_) | refine tl_nil ?_ | (refine i_tc ?_; refine qTc ?_) | (refine i_te ?_; refine qTe ?_) | intro _)
      refine tc_any (Stays _ _ _) stays_refl ?_
      all_goals refine rFa 0 ?_
      all_goals refine rFull ?_
      all_goals refine rLd 1 ?_
      all_goals refine rCm 2 ?_
      all_goals refine rMv 3 ?_
      all_goals (first | refine wSkip 4 ?_ | refine wSkipU 4 ?_ | refine wFa 4 ?_ | (refine tr_guard (t := 15) rfl (fun hb => ?_) (fun hb => ?_) <;> (try simp only [decide_eq_true_eq, decide_eq_false_iff_not, Bool.not_eq_true, Bool.not_eq_false, beq_iff_eq, bne_iff_ne, ne_eq, Bool.not_eq_eq_eq_not, Bool.not_true, Bool.not_false, beq_eq_false_iff_ne, bne_eq_false_iff_eq] at hb) <;> first | refine wSkip 4 ?_ | refine wSkipU 4 ?_ | refine wFa 4 ?_))
      all_goals (first | refine wSkip 5 ?_ | refine wSkipU 5 ?_ | refine wLd 5 ?_ | (refine tr_guard (t := 15) rfl (fun hb => ?_) (fun hb => ?_) <;> (try simp only [decide_eq_true_eq, decide_eq_false_iff_not, Bool.not_eq_true, Bool.not_eq_false, beq_iff_eq, bne_iff_ne, ne_eq, Bool.not_eq_eq_eq_not, Bool.not_true, Bool.not_false, beq_eq_false_iff_ne, bne_eq_false_iff_eq] at hb) <;> first | refine wSkip 5 ?_ | refine wSkipU 5 ?_ | refine wLd 5 ?_))
      all_goals (first | refine wSkip 6 ?_ | refine wSkipU 6 ?_ | refine wCm 6 ?_ | (refine tr_guard (t := 15) rfl (fun hb => ?_) (fun hb => ?_) <;> (try simp only [decide_eq_true_eq, decide_eq_false_iff_not, Bool.not_eq_true, Bool.not_eq_false, beq_iff_eq, bne_iff_ne, ne_eq, Bool.not_eq_eq_eq_not, Bool.not_true, Bool.not_false, beq_eq_false_iff_ne, bne_eq_false_iff_eq] at hb) <;> first | refine wSkip 6 ?_ | refine wSkipU 6 ?_ | refine wCm 6 ?_))
      all_goals refine rPk 7 ?_
      all_goals refine rMv 8 ?_
      all_goals (first | refine wSkip 9 ?_ | refine wSkipU 9 ?_ | refine wFa 9 ?_ | (refine tr_guard (t := 20) rfl (fun hb => ?_) (fun hb => ?_) <;> (try simp only [decide_eq_true_eq, decide_eq_false_iff_not, Bool.not_eq_true, Bool.not_eq_false, beq_iff_eq, bne_iff_ne, ne_eq, Bool.not_eq_eq_eq_not, Bool.not_true, Bool.not_false, beq_eq_false_iff_ne, bne_eq_false_iff_eq] at hb) <;> first | refine wSkip 9 ?_ | refine wSkipU 9 ?_ | refine wFa 9 ?_))
      all_goals (first | refine wSkip 10 ?_ | refine wSkipU 10 ?_ | refine wLd 10 ?_ | (refine tr_guard (t := 20) rfl (fun hb => ?_) (fun hb => ?_) <;> (try simp only [decide_eq_true_eq, decide_eq_false_iff_not, Bool.not_eq_true, Bool.not_eq_false, beq_iff_eq, bne_iff_ne, ne_eq, Bool.not_eq_eq_eq_not, Bool.not_true, Bool.not_false, beq_eq_false_iff_ne, bne_eq_false_iff_eq] at hb) <;> first | refine wSkip 10 ?_ | refine wSkipU 10 ?_ | refine wLd 10 ?_))
      all_goals (first | refine wSkip 11 ?_ | refine wSkipU 11 ?_ | refine wCm 11 ?_ | (refine tr_guard (t := 20) rfl (fun hb => ?_) (fun hb => ?_) <;> (try simp only [decide_eq_true_eq, decide_eq_false_iff_not, Bool.not_eq_true, Bool.not_eq_false, beq_iff_eq, bne_iff_ne, ne_eq, Bool.not_eq_eq_eq_not, Bool.not_true, Bool.not_false, beq_eq_false_iff_ne, bne_eq_false_iff_eq] at hb) <;> first | refine wSkip 11 ?_ | refine wSkipU 11 ?_ | refine wCm 11 ?_))
      all_goals refine rPk 12 ?_
      all_goals refine rMv 13 ?_
      all_goals (first | refine wSkip 14 ?_ | refine wSkipU 14 ?_ | refine wFa 14 ?_ | (refine tr_guard (t := 25) rfl (fun hb => ?_) (fun hb => ?_) <;> (try simp only [decide_eq_true_eq, decide_eq_false_iff_not, Bool.not_eq_true, Bool.not_eq_false, beq_iff_eq, bne_iff_ne, ne_eq, Bool.not_eq_eq_eq_not, Bool.not_true, Bool.not_false, beq_eq_false_iff_ne, bne_eq_false_iff_eq] at hb) <;> first | refine wSkip 14 ?_ | refine wSkipU 14 ?_ | refine wFa 14 ?_))
      all_goals (first | refine wSkip 15 ?_ | refine wSkipU 15 ?_ | refine wLd 15 ?_ | (refine tr_guard (t := 25) rfl (fun hb => ?_) (fun hb => ?_) <;> (try simp only [decide_eq_true_eq, decide_eq_false_iff_not, Bool.not_eq_true, Bool.not_eq_false, beq_iff_eq, bne_iff_ne, ne_eq, Bool.not_eq_eq_eq_not, Bool.not_true, Bool.not_false, beq_eq_false_iff_ne, bne_eq_false_iff_eq] at hb) <;> first | refine wSkip 15 ?_ | refine wSkipU 15 ?_ | refine wLd 15 ?_))
      all_goals (first | refine wSkip 16 ?_ | refine wSkipU 16 ?_ | refine wCm 16 ?_ | (refine tr_guard (t := 25) rfl (fun hb => ?_) (fun hb => ?_) <;> (try simp only [decide_eq_true_eq, decide_eq_false_iff_not, Bool.not_eq_true, Bool.not_eq_false, beq_iff_eq, bne_iff_ne, ne_eq, Bool.not_eq_eq_eq_not, Bool.not_true, Bool.not_false, beq_eq_false_iff_ne, bne_eq_false_iff_eq] at hb) <;> first | refine wSkip 16 ?_ | refine wSkipU 16 ?_ | refine wCm 16 ?_))
      all_goals refine rPk 17 ?_
      all_goals refine rMv 18 ?_
      all_goals (first | refine wSkip 19 ?_ | refine wSkipU 19 ?_ | refine wMv 19 ?_ | (refine tr_guard (t := 30) rfl (fun hb => ?_) (fun hb => ?_) <;> (try simp only [decide_eq_true_eq, decide_eq_false_iff_not, Bool.not_eq_true, Bool.not_eq_false, beq_iff_eq, bne_iff_ne, ne_eq, Bool.not_eq_eq_eq_not, Bool.not_true, Bool.not_false, beq_eq_false_iff_ne, bne_eq_false_iff_eq] at hb) <;> first | refine wSkip 19 ?_ | refine wSkipU 19 ?_ | refine wMv 19 ?_))
      all_goals (first | refine wSkip 20 ?_ | refine wSkipU 20 ?_ | refine wCm 20 ?_ | (refine tr_guard (t := 30) rfl (fun hb => ?_) (fun hb => ?_) <;> (try simp only [decide_eq_true_eq, decide_eq_false_iff_not, Bool.not_eq_true, Bool.not_eq_false, beq_iff_eq, bne_iff_ne, ne_eq, Bool.not_eq_eq_eq_not, Bool.not_true, Bool.not_false, beq_eq_false_iff_ne, bne_eq_false_iff_eq] at hb) <;> first | refine wSkip 20 ?_ | refine wSkipU 20 ?_ | refine wCm 20 ?_))
      all_goals (first | refine wSkip 21 ?_ | refine wSkipU 21 ?_ | refine wMv 21 ?_ | (refine tr_guard (t := 30) rfl (fun hb => ?_) (fun hb => ?_) <;> (try simp only [decide_eq_true_eq, decide_eq_false_iff_not, Bool.not_eq_true, Bool.not_eq_false, beq_iff_eq, bne_iff_ne, ne_eq, Bool.not_eq_eq_eq_not, Bool.not_true, Bool.not_false, beq_eq_false_iff_ne, bne_eq_false_iff_eq] at hb) <;> first | refine wSkip 21 ?_ | refine wSkipU 21 ?_ | refine wMv 21 ?_))
      all_goals (first | refine wSkip 22 ?_ | refine wSkipU 22 ?_ | refine wMv 22 ?_ | (refine tr_guard (t := 33) rfl (fun hb => ?_) (fun hb => ?_) <;> (try simp only [decide_eq_true_eq, decide_eq_false_iff_not, Bool.not_eq_true, Bool.not_eq_false, beq_iff_eq, bne_iff_ne, ne_eq, Bool.not_eq_eq_eq_not, Bool.not_true, Bool.not_false, beq_eq_false_iff_ne, bne_eq_false_iff_eq] at hb) <;> first | refine wSkip 22 ?_ | refine wSkipU 22 ?_ | refine wMv 22 ?_))
      all_goals (first | refine wSkip 23 ?_ | refine wSkipU 23 ?_ | refine wMv 23 ?_ | (refine tr_guard (t := 33) rfl (fun hb => ?_) (fun hb => ?_) <;> (try simp only [decide_eq_true_eq, decide_eq_false_iff_not, Bool.not_eq_true, Bool.not_eq_false, beq_iff_eq, bne_iff_ne, ne_eq, Bool.not_eq_eq_eq_not, Bool.not_true, Bool.not_false, beq_eq_false_iff_ne, bne_eq_false_iff_eq] at hb) <;> first | refine wSkip 23 ?_ | refine wSkipU 23 ?_ | refine wMv 23 ?_))
      all_goals (first | refine wSkip 24 ?_ | refine wSkipU 24 ?_ | refine wSb 24 ?_ | (refine tr_guard (t := 33) rfl (fun hb => ?_) (fun hb => ?_) <;> (try simp only [decide_eq_true_eq, decide_eq_false_iff_not, Bool.not_eq_true, Bool.not_eq_false, beq_iff_eq, bne_iff_ne, ne_eq, Bool.not_eq_eq_eq_not, Bool.not_true, Bool.not_false, beq_eq_false_iff_ne, bne_eq_false_iff_eq] at hb) <;> first | refine wSkip 24 ?_ | refine wSkipU 24 ?_ | refine wSb 24 ?_))
      all_goals (first | refine wSkip 25 ?_ | refine wSkipU 25 ?_ | refine wIa 25 ?_ | (refine tr_guard (t := 33) rfl (fun hb => ?_) (fun hb => ?_) <;> (try simp only [decide_eq_true_eq, decide_eq_false_iff_not, Bool.not_eq_true, Bool.not_eq_false, beq_iff_eq, bne_iff_ne, ne_eq, Bool.not_eq_eq_eq_not, Bool.not_true, Bool.not_false, beq_eq_false_iff_ne, bne_eq_false_iff_eq] at hb) <;> first | refine wSkip 25 ?_ | refine wSkipU 25 ?_ | refine wIa 25 ?_))
      all_goals (first | refine wSkip 26 ?_ | refine wSkipU 26 ?_ | refine wFa 26 ?_ | (refine tr_guard (t := 33) rfl (fun hb => ?_) (fun hb => ?_) <;> (try simp only [decide_eq_true_eq, decide_eq_false_iff_not, Bool.not_eq_true, Bool.not_eq_false, beq_iff_eq, bne_iff_ne, ne_eq, Bool.not_eq_eq_eq_not, Bool.not_true, Bool.not_false, beq_eq_false_iff_ne, bne_eq_false_iff_eq] at hb) <;> first | refine wSkip 26 ?_ | refine wSkipU 26 ?_ | refine wFa 26 ?_))
      all_goals (first | refine wSkip 27 ?_ | refine wSkipU 27 ?_ | refine wLd 27 ?_ | (refine tr_guard (t := 33) rfl (fun hb => ?_) (fun hb => ?_) <;> (try simp only [decide_eq_true_eq, decide_eq_false_iff_not, Bool.not_eq_true, Bool.not_eq_false, beq_iff_eq, bne_iff_ne, ne_eq, Bool.not_eq_eq_eq_not, Bool.not_true, Bool.not_false, beq_eq_false_iff_ne, bne_eq_false_iff_eq] at hb) <;> first | refine wSkip 27 ?_ | refine wSkipU 27 ?_ | refine wLd 27 ?_))
      all_goals (first | refine wSkip 28 ?_ | refine wSkipU 28 ?_ | refine wFa 28 ?_ | (refine tr_guard (t := 33) rfl (fun hb => ?_) (fun hb => ?_) <;> (try simp only [decide_eq_true_eq, decide_eq_false_iff_not, Bool.not_eq_true, Bool.not_eq_false, beq_iff_eq, bne_iff_ne, ne_eq, Bool.not_eq_eq_eq_not, Bool.not_true, Bool.not_false, beq_eq_false_iff_ne, bne_eq_false_iff_eq] at hb) <;> first | refine wSkip 28 ?_ | refine wSkipU 28 ?_ | refine wFa 28 ?_))
      all_goals (first | refine wSkip 29 ?_ | refine wSkipU 29 ?_ | refine wLd 29 ?_ | (refine tr_guard (t := 33) rfl (fun hb => ?_) (fun hb => ?_) <;> (try simp only [decide_eq_true_eq, decide_eq_false_iff_not, Bool.not_eq_true, Bool.not_eq_false, beq_iff_eq, bne_iff_ne, ne_eq, Bool.not_eq_eq_eq_not, Bool.not_true, Bool.not_false, beq_eq_false_iff_ne, bne_eq_false_iff_eq] at hb) <;> first | refine wSkip 29 ?_ | refine wSkipU 29 ?_ | refine wLd 29 ?_))
      all_goals (first | refine wSkip 30 ?_ | refine wSkipU 30 ?_ | refine wCm 30 ?_ | (refine tr_guard (t := 33) rfl (fun hb => ?_) (fun hb => ?_) <;> (try simp only [decide_eq_true_eq, decide_eq_false_iff_not, Bool.not_eq_true, Bool.not_eq_false, beq_iff_eq, bne_iff_ne, ne_eq, Bool.not_eq_eq_eq_not, Bool.not_true, Bool.not_false, beq_eq_false_iff_ne, bne_eq_false_iff_eq] at hb) <;> first | refine wSkip 30 ?_ | refine wSkipU 30 ?_ | refine wCm 30 ?_))
      all_goals (first | refine wSkip 31 ?_ | refine wSkipU 31 ?_ | refine wPk 31 ?_ | (refine tr_guard (t := 30) rfl (fun hb => ?_) (fun hb => ?_) <;> (try simp only [decide_eq_true_eq, decide_eq_false_iff_not, Bool.not_eq_true, Bool.not_eq_false, beq_iff_eq, bne_iff_ne, ne_eq, Bool.not_eq_eq_eq_not, Bool.not_true, Bool.not_false, beq_eq_false_iff_ne, bne_eq_false_iff_eq] at hb) <;> first | refine wSkip 31 ?_ | refine wSkipU 31 ?_ | refine wPk 31 ?_))
      all_goals refine rPk 32 ?_
      all_goals refine rDone ?_
      all_goals (repeat' (first | (refine iBu ?_; refine tl_y (y_buildN rfl) rfl rfl ?_) | (refine i_op ?_; first | (refine i_qq ?_; refine qQ ?_) | refine qEf ?_) | refine tl_nil ?_ | (refine i_tc ?_; refine qTc ?_) | (refine i_te ?_; refine qTe ?_) | (refine i_gd ?_; refine tl_guard rfl rfl (fun hb => ?_) (fun hb => ?_) <;> (try simp only [decide_eq_true_eq, decide_eq_false_iff_not, Bool.not_eq_true, Bool.not_eq_false, beq_iff_eq, bne_iff_ne, ne_eq, decide_eq_decide, Bool.not_eq_eq_eq_not, Bool.not_true, Bool.not_false, beq_eq_false_iff_ne, bne_eq_false_iff_eq, Bool.and_eq_true, Bool.or_eq_true, Bool.and_eq_false_imp, Bool.or_eq_false_iff, bq2, bqt, bqf] at hb)) | (refine i_cond ?_; refine tc_cond rfl (fun hb => ?_) (fun hb => ?_) <;> (try simp only [decide_eq_true_eq, decide_eq_false_iff_not, Bool.not_eq_true, Bool.not_eq_false, beq_iff_eq, bne_iff_ne, ne_eq, decide_eq_decide, Bool.not_eq_eq_eq_not, Bool.not_true, Bool.not_false, beq_eq_false_iff_ne, bne_eq_false_iff_eq, Bool.and_eq_true, Bool.or_eq_true, Bool.and_eq_false_imp, Bool.or_eq_false_iff, bq2, bqt, bqf] at hb)) | intro _))
      all_goals (try (rw [hfin (by rw [hw]; (first | (simp [*]; done) | (simp [*]; omega) | (simp_all; done) | (simp_all; omega)))]; refine qF (L' := []) ?_; exact ⟨by first | rfl | rw [Bool.and_false], rfl, rfl⟩))
      all_goals rw [← e1]
      all_goals refine te_round_g (k + 1) (⟨hlt, by rw [hs, hw]; (first | (simp [*]; done) | (simp [*]; omega) | (simp_all; done) | (simp_all; omega))⟩) ev_le ev_le rfl tk inferInstance (by first | omega | (dsimp only; omega))
  · have hk2 : k = mo := by omega
    rw [hk2] at hok
    rw [hok]
    repeat' (first | (refine iBu ?_; refine tl_y (y_buildN rfl) rfl rfl ?_) | (refine i_op ?_; first | (refine i_qq ?_; refine qQ ?_) | refine qEf ?_) | refine tl_nil ?_ | (refine i_tc ?_; refine qTc ?_) | (refine i_te ?_; refine qTe ?_) | (refine i_gd ?_; refine tl_guard rfl rfl (fun hb => ?_) (fun hb => ?_) <;> (try simp only [decide_eq_true_eq, decide_eq_false_iff_not, Bool.not_eq_true, Bool.not_eq_false, beq_iff_eq, bne_iff_ne, ne_eq, decide_eq_decide, Bool.not_eq_eq_eq_not, Bool.not_true, Bool.not_false, beq_eq_false_iff_ne, bne_eq_false_iff_eq, Bool.and_eq_true, Bool.or_eq_true, Bool.and_eq_false_imp, Bool.or_eq_false_iff, bq2, bqt, bqf] at hb)) | (refine i_cond ?_; refine tc_cond rfl (fun hb => ?_) (fun hb => ?_) <;> (try simp only [decide_eq_true_eq, decide_eq_false_iff_not, Bool.not_eq_true, Bool.not_eq_false, beq_iff_eq, bne_iff_ne, ne_eq, decide_eq_decide, Bool.not_eq_eq_eq_not, Bool.not_true, Bool.not_false, beq_eq_false_iff_ne, bne_eq_false_iff_eq, Bool.and_eq_true, Bool.or_eq_true, Bool.and_eq_false_imp, Bool.or_eq_false_iff, bq2, bqt, bqf] at hb)) | intro _)
    all_goals (refine qF (L' := []) ?_; exact ⟨rfl, rfl, rfl⟩)
end Go.Proofs.E

namespace Go.Proofs.E
open Go
set_option linter.unusedVariables false
set_option linter.unusedSimpArgs false
set_option linter.unusedSectionVars false
set_option maxRecDepth 4000
set_option maxHeartbeats 1000000
attribute [local irreducible] Yl TL TC TE Spec YSpec R1 Hp.le EnvLe TS TR YS Stays
-- BN
theorem recP_since {l : List CkP} (ht : tblOk l = true) {page : Int} {p : CkP} (h : recP page l = some p) : 1 ≤ p.since := by
  obtain ⟨i, hi, rfl⟩ := List.mem_iff_getElem.1 (List.mem_of_find?_eq_some h)
  exact ((tblB_lt ht).1 i hi).2.2.1
theorem needs22_spec (ρ : Hp) (s : SV) (l : List CkP) (h : AS ρ 2 ckPV s l) (v : RV) (r : Rc) (hr : RcIn ρ v r) (page : Int) :
    Spec Try.prog 20 [.slice s.a s.n s.c, .agg ⟨recV v r⟩, .int .i64 page] ρ [] (fun z ρ' L' => z = .bool (needsB l r page) ∧ ρ' = ρ ∧ L' = []) := by
  have hd := right22_spec ρ s l h
  rw [← tblOk_up] at hd
  have hrr := right12_spec ρ v r hr
  have hre := redoes12_spec ρ v r hr page
  have hrc := rec22_spec ρ s l h page
  refine spec_enter Try.func20 rfl rfl rfl fun u R => ?_
  simp only [argsE, List.cons_append, List.nil_append]
  cases ht : tblOk l
  · rw [ht] at hd
    have hz : needsB l r page = false := by unfold needsB; rw [ht]; simp
    rw [hz]
    repeat' (first | (refine tl_is (.func 11) ?_; refine qC rfl rfl (hd) ?_; rintro v ρ' L' hle ⟨rfl, rfl, rfl⟩ <;> (try simp only [List.cons_append, List.nil_append, List.append_eq])) | (refine iBu ?_; refine tl_y (y_buildN rfl) rfl rfl ?_) | (refine i_op ?_; first | (refine i_qq ?_; refine qQ ?_) | refine qEf ?_) | refine tl_nil ?_ | (refine i_tc ?_; refine qTc ?_) | (refine i_te ?_; refine qTe ?_) | intro _)
    exact qE ⟨rfl, rfl, rfl⟩
  · rw [ht] at hd
    cases hk : recOk r
    · rw [hk] at hrr
      have hz : needsB l r page = false := by unfold needsB redoI; rw [hk]; simp
      rw [hz]
      repeat' (first | (refine tl_is (.func 11) ?_; refine qC rfl rfl (hd) ?_; rintro v ρ' L' hle ⟨rfl, rfl, rfl⟩ <;> (try simp only [List.cons_append, List.nil_append, List.append_eq])) | (refine tl_is (.func 14) ?_; refine qC rfl rfl (hrr) ?_; rintro v ρ' L' hle ⟨rfl, rfl, rfl⟩ <;> (try simp only [List.cons_append, List.nil_append, List.append_eq])) | (refine iBu ?_; refine tl_y (y_buildN rfl) rfl rfl ?_) | (refine i_op ?_; first | (refine i_qq ?_; refine qQ ?_) | refine qEf ?_) | refine tl_nil ?_ | (refine i_tc ?_; refine qTc ?_) | (refine i_te ?_; refine qTe ?_) | intro _)
      exact qE ⟨rfl, rfl, rfl⟩
    · rw [hk] at hrr
      have hpost : needsB l r page = ((r.ims.find? (fun x => decide (x.page = page))).isSome && decide (0 < recN page l ∧ recN page l ≤ r.lsn)) := by
        unfold needsB redoI recN
        rw [hk, ht, if_pos rfl, Bool.true_and]
        congr 1
        cases hp : recP page l with
        | none => simp
        | some p =>
          have := recP_since ht hp
          simp only
          exact decide_eq_decide.2 (by omega)
      rw [hpost]
      have hone : (contO (r.ims.find? (fun x => decide (x.page = page)))).all (·.oneCell') = true := by unfold contO; split <;> rfl
      have hlen3 : (contO (r.ims.find? (fun x => decide (x.page = page)))).length = 3 := by unfold contO; split <;> rfl
      generalize contO (r.ims.find? (fun x => decide (x.page = page))) = co at *
      generalize (r.ims.find? (fun x => decide (x.page = page))).isSome = b1 at *
      obtain ⟨c0, c1, c2, rfl⟩ : ∃ c0 c1 c2, co = [c0, c1, c2] := by
        match co, hlen3 with
        | [c0, c1, c2], _ => exact ⟨c0, c1, c2, rfl⟩
      generalize recN page l = n at *
      cases b1
      · rw [Bool.false_and]
        repeat' (first | (refine tl_is (.func 11) ?_; refine qC rfl rfl (hd) ?_; rintro v ρ' L' hle ⟨rfl, rfl, rfl⟩ <;> (try simp only [List.cons_append, List.nil_append, List.append_eq])) | (refine tl_is (.func 14) ?_; refine qC rfl rfl (hrr) ?_; rintro v ρ' L' hle ⟨rfl, rfl, rfl⟩ <;> (try simp only [List.cons_append, List.nil_append, List.append_eq])) | (refine tl_is (.func 41) ?_; refine qC rfl rfl (hre) ?_; rintro v ρ' L' hle ⟨rfl, rfl, rfl⟩ <;> (try simp only [List.cons_append, List.nil_append, List.append_eq])) | (refine tl_is (.func 42) ?_; refine qC rfl rfl (hrc) ?_; rintro v ρ' L' hle ⟨rfl, rfl, rfl⟩ <;> (try simp only [List.cons_append, List.nil_append, List.append_eq])) | (refine iBu ?_; refine tl_y (y_buildN rfl) rfl rfl ?_) | (refine i_op ?_; first | (refine i_qq ?_; refine qQ ?_) | refine qEf ?_) | refine tl_nil ?_ | (refine i_tc ?_; refine qTc ?_) | (refine i_te ?_; refine qTe ?_) | intro _)
        exact qE ⟨rfl, rfl, rfl⟩
      · rw [Bool.true_and]
        repeat' (first | (refine tl_is (.func 11) ?_; refine qC rfl rfl (hd) ?_; rintro v ρ' L' hle ⟨rfl, rfl, rfl⟩ <;> (try simp only [List.cons_append, List.nil_append, List.append_eq])) | (refine tl_is (.func 14) ?_; refine qC rfl rfl (hrr) ?_; rintro v ρ' L' hle ⟨rfl, rfl, rfl⟩ <;> (try simp only [List.cons_append, List.nil_append, List.append_eq])) | (refine tl_is (.func 41) ?_; refine qC rfl rfl (hre) ?_; rintro v ρ' L' hle ⟨rfl, rfl, rfl⟩ <;> (try simp only [List.cons_append, List.nil_append, List.append_eq])) | (refine tl_is (.func 42) ?_; refine qC rfl rfl (hrc) ?_; rintro v ρ' L' hle ⟨rfl, rfl, rfl⟩ <;> (try simp only [List.cons_append, List.nil_append, List.append_eq])) | (refine iBu ?_; refine tl_y (y_buildN rfl) rfl rfl ?_) | (refine i_op ?_; first | (refine i_qq ?_; refine qQ ?_) | refine qEf ?_) | refine tl_nil ?_ | (refine i_tc ?_; refine qTc ?_) | (refine i_te ?_; refine qTe ?_) | (refine i_gd ?_; refine tl_guard rfl rfl (fun hb => ?_) (fun hb => ?_) <;> (try simp only [decide_eq_true_eq, decide_eq_false_iff_not, Bool.not_eq_true, Bool.not_eq_false, beq_iff_eq, bne_iff_ne, ne_eq, decide_eq_decide, Bool.not_eq_eq_eq_not, Bool.not_true, Bool.not_false, beq_eq_false_iff_ne, bne_eq_false_iff_eq, Bool.and_eq_true, Bool.or_eq_true, Bool.and_eq_false_imp, Bool.or_eq_false_iff, bq2, bqt, bqf] at hb)) | (refine i_cond ?_; refine tc_cond rfl (fun hb => ?_) (fun hb => ?_) <;> (try simp only [decide_eq_true_eq, decide_eq_false_iff_not, Bool.not_eq_true, Bool.not_eq_false, beq_iff_eq, bne_iff_ne, ne_eq, decide_eq_decide, Bool.not_eq_eq_eq_not, Bool.not_true, Bool.not_false, beq_eq_false_iff_ne, bne_eq_false_iff_eq, Bool.and_eq_true, Bool.or_eq_true, Bool.and_eq_false_imp, Bool.or_eq_false_iff, bq2, bqt, bqf] at hb)) | intro _)
        all_goals (refine qF (L' := []) ?_; exact ⟨bool_eq (by (try simp [*]); first | done | omega | (intros; omega) | (constructor <;> intros <;> (try simp_all) <;> omega)), rfl, rfl⟩)
abbrev rcV (x : RV × Rc) : List Value := recV x.1 x.2
end Go.Proofs.E

namespace Go.Proofs.E
open Go
set_option linter.unusedVariables false
set_option linter.unusedSimpArgs false
set_option linter.unusedSectionVars false
set_option maxRecDepth 4000
set_option maxHeartbeats 1000000
attribute [local irreducible] Yl TL TC TE Spec YSpec R1 Hp.le EnvLe TS TR YS Stays
-- BN
instance (priority := 1200) eqCkP {x y : CkP} : EqC Try.prog 8 74 (.agg ⟨ckPV x⟩) (.agg ⟨ckPV y⟩) (decide (x = y)) := by
  have h : EqC Try.prog 8 74 (.agg ⟨[.int .i64 x.page, .int .u64 x.since]⟩) (.agg ⟨[.int .i64 y.page, .int .u64 y.since]⟩) _ := inferInstance
  refine ⟨fun d w hd => ?_⟩
  rw [h.out d w hd]
  congr 1
  obtain ⟨t, i⟩ := x
  obtain ⟨t', i'⟩ := y
  simp only [CkP.mk.injEq, Bool.and_true, Bool.decide_and]
  have e : ((i : Int) == (i' : Int)) = decide (i = i') := by
    by_cases h : i = i'
    · subst h; simp
    · rw [decide_eq_false h]; simp only [beq_eq_false_iff_ne, ne_eq]; omega
  rw [e]
  by_cases h1 : t = t' <;> by_cases h2 : i = i' <;> simp [h1, h2]
theorem same22_spec (ρ : Hp) (s s' : SV) (l m : List CkP) (h : AS ρ 2 ckPV s l) (h' : AS ρ 2 ckPV s' m) :
    Spec Try.prog 16 [.slice s.a s.n s.c, .slice s'.a s'.n s'.c] ρ [] (fun v ρ' L' => v = .bool (decide (l = m)) ∧ ρ' = ρ ∧ L' = []) := by
  have hl := h.at'.len
  have hm := h'.at'.len
  have hn := h.big
  refine spec_enter Try.func16 rfl rfl rfl fun u R => ?_
  simp only [argsE, List.cons_append, List.nil_append]
  by_cases hne : s.n = s'.n
  · repeat' (first | (refine iBu ?_; refine tl_y (y_buildN rfl) rfl rfl ?_) | (refine i_op ?_; first | (refine i_qq ?_; refine qQ ?_) | refine qEf ?_) | refine tl_nil ?_ | (refine i_tc ?_; refine qTc ?_) | (refine i_te ?_; refine qTe ?_) | intro _)
    refine tc_loop_g [(0, _), (1, _), (12, _)] (fun (ζ : (Nat)) => [(13, .int .i64 ζ), (4, .bool false)]) (fun (ζ : (Nat)) => ρ) (fun (ζ : (Nat)) => []) (fun (ζ : (Nat)) => ζ ≤ s.n ∧ l.take ζ = m.take ζ) (fun (ζ : (Nat)) => s.n - ζ) (0) (⟨Nat.zero_le _, rfl⟩) ev_le ev_le rfl tk ?_
    rintro k hI
    try simp only [List.cons_append, List.nil_append, List.append_assoc, List.append_eq] at hI ⊢
    try dsimp only at hI ⊢
    obtain ⟨hk, hpre⟩ := hI
    by_cases hlt : k < s.n
    · obtain ⟨b, off, C, T, fr, f1, hb, hfit, hc⟩ := h.at'.get (show k < l.length by omega)
      obtain ⟨b2, off2, C2, T2, fr2, f2, hb2, hfit2, hc2⟩ := h'.at'.get (show k < m.length by omega)
      have ht1 := List.take_succ_eq_append_getElem (show k < l.length by omega)
      have ht2 := List.take_succ_eq_append_getElem (show k < m.length by omega)
      have hf : l = m → l[k]'(by omega) = m[k]'(by omega) := fun e => by subst e; rfl
      generalize l[k]'(by omega) = x at *
      generalize m[k]'(by omega) = y at *
      rw [f1, f2]
      by_cases he : x = y
      · have hd : decide (x = y) = true := decide_eq_true he
        have hpre2 : l.take (k + 1) = m.take (k + 1) := by rw [ht1, ht2, hpre, he]
        repeat' (first | (refine iBu ?_; refine tl_y (y_buildN rfl) rfl rfl ?_) | (refine i_op ?_; first | (refine i_qq ?_; refine qQ ?_) | refine qEf ?_) | refine tl_nil ?_ | (refine i_tc ?_; refine qTc ?_) | (refine i_te ?_; refine qTe ?_) | intro _)
        refine tc_any (Stays _ _ _) stays_refl ?_
        all_goals refine rMv 0 ?_
        all_goals refine rFull ?_
        all_goals refine rMv 1 ?_
        all_goals refine rIa 2 ?_
        all_goals refine rLd 3 ?_
        all_goals refine rMv 4 ?_
        all_goals refine rMv 5 ?_
        all_goals refine rIa 6 ?_
        all_goals refine rLd 7 ?_
        all_goals refine rCm 8 ?_
        all_goals refine rDone ?_
        all_goals (try simp only [hd])
        all_goals (repeat' (first | (refine iBu ?_; refine tl_y (y_buildN rfl) rfl rfl ?_) | (refine i_op ?_; first | (refine i_qq ?_; refine qQ ?_) | refine qEf ?_) | refine tl_nil ?_ | (refine i_tc ?_; refine qTc ?_) | (refine i_te ?_; refine qTe ?_) | intro _))
        all_goals rw [← f1, ← f2]
        all_goals refine te_round_g (k + 1) (⟨hlt, hpre2⟩) ev_le ev_le rfl tk inferInstance (by first | omega | (dsimp only; omega))
      · have hd : decide (x = y) = false := decide_eq_false he
        rw [decide_eq_false (fun e => he (hf e))]
        repeat' (first | (refine iBu ?_; refine tl_y (y_buildN rfl) rfl rfl ?_) | (refine i_op ?_; first | (refine i_qq ?_; refine qQ ?_) | refine qEf ?_) | refine tl_nil ?_ | (refine i_tc ?_; refine qTc ?_) | (refine i_te ?_; refine qTe ?_) | intro _)
        refine tc_any (Stays _ _ _) stays_refl ?_
        all_goals refine rMv 0 ?_
        all_goals refine rFull ?_
        all_goals refine rMv 1 ?_
        all_goals refine rIa 2 ?_
        all_goals refine rLd 3 ?_
        all_goals refine rMv 4 ?_
        all_goals refine rMv 5 ?_
        all_goals refine rIa 6 ?_
        all_goals refine rLd 7 ?_
        all_goals refine rCm 8 ?_
        all_goals refine rDone ?_
        all_goals (try simp only [hd])
        all_goals (repeat' (first | (refine iBu ?_; refine tl_y (y_buildN rfl) rfl rfl ?_) | (refine i_op ?_; first | (refine i_qq ?_; refine qQ ?_) | refine qEf ?_) | refine tl_nil ?_ | (refine i_tc ?_; refine qTc ?_) | (refine i_te ?_; refine qTe ?_) | intro _))
        all_goals exact qE (L' := []) ⟨rfl, rfl, rfl⟩
    · have hk2 : k = s.n := by omega
      subst hk2
      rw [List.take_of_length_le (by omega), List.take_of_length_le (by omega)] at hpre
      rw [decide_eq_true hpre]
      repeat' (first | (refine iBu ?_; refine tl_y (y_buildN rfl) rfl rfl ?_) | (refine i_op ?_; first | (refine i_qq ?_; refine qQ ?_) | refine qEf ?_) | refine tl_nil ?_ | (refine i_tc ?_; refine qTc ?_) | (refine i_te ?_; refine qTe ?_) | intro _)
      exact qE ⟨rfl, rfl, rfl⟩
  · rw [decide_eq_false (fun e : l = m => hne (by rw [← hl, ← hm, e]))]
    repeat' (first | (refine iBu ?_; refine tl_y (y_buildN rfl) rfl rfl ?_) | (refine i_op ?_; first | (refine i_qq ?_; refine qQ ?_) | refine qEf ?_) | refine tl_nil ?_ | (refine i_tc ?_; refine qTc ?_) | (refine i_te ?_; refine qTe ?_) | intro _)
    exact qE ⟨rfl, rfl, rfl⟩
def pgF (g : Int → Option Nat) : Nat → Int → List CkP
  | 0, _ => []
  | m + 1, p => (match g p with | some v => [⟨p, v⟩] | none => []) ++ pgF g m (p + 1)
def touchG (d : List CkP) (r : Rc) (p : Int) : Option Nat := if 0 < recN p d then some (recN p d) else if (r.ims.find? (fun x => decide (x.page = p))).isSome then some r.lsn else none
theorem pgF_len {g : Int → Option Nat} : ∀ {m : Nat} {p : Int}, (pgF g m p).length ≤ m
  | 0, p => by simp [pgF]
  | m + 1, p => by
    rw [pgF, List.length_append]
    have := pgF_len (g := g) (m := m) (p := p + 1)
    split <;> simp <;> omega
theorem touch22_spec (ρ : Hp) (s : SV) (l : List CkP) (h : AS ρ 2 ckPV s l) (v : RV) (r : Rc) (hr : RcIn ρ v r) :
    Spec Try.prog 15 [.slice s.a s.n s.c, .agg ⟨recV v r⟩] ρ [] (fun z ρ' L' => ρ.le ρ' ∧ ∃ s' : SV, z = .slice s'.a s'.n s'.c ∧ AS ρ' 2 ckPV s' (pgF (touchG l r) 64 0) ∧ L' = []) := by
  generalize hq : pgF (touchG l r) 64 0 = q
  refine spec_enter Try.func15 rfl rfl rfl fun u R => ?_
  simp only [argsE, List.cons_append, List.nil_append]
  repeat' (first | (refine iBu ?_; refine tl_y (y_buildN rfl) rfl rfl ?_) | (refine i_op ?_; first | (refine i_qq ?_; refine qQ ?_) | refine qEf ?_) | refine tl_nil ?_ | (refine i_tc ?_; refine qTc ?_) | (refine i_te ?_; refine qTe ?_) | intro _)
  rename_i rb
  refine tc_loop_g [(0, _), (3, _), (4, _)] (fun (ζ : (Nat) × (Value) × (List Value) × (List CkP)) => [(10, .int .i64 ζ.1), (5, ζ.2.1)]) (fun (ζ : (Nat) × (Value) × (List Value) × (List CkP)) => ρ) (fun (ζ : (Nat) × (Value) × (List Value) × (List CkP)) => [recC rb v r, ownC ζ.2.1 (flatP ζ.2.2.2) ζ.2.2.1 74]) (fun (ζ : (Nat) × (Value) × (List Value) × (List CkP)) => ζ.1 ≤ 64 ∧ OwnS ζ.2.1 ζ.2.2.2.length (flatP ζ.2.2.2) ζ.2.2.1 2 ∧ ζ.2.2.2.length ≤ ζ.1 ∧ ζ.2.2.2 ++ pgF (touchG l r) (64 - ζ.1) ζ.1 = q) (fun (ζ : (Nat) × (Value) × (List Value) × (List CkP)) => 64 - ζ.1) ((0, .slice none 0 0, [], [])) (⟨by decide, OwnS.nil 2, Nat.le_refl _, hq⟩) ev_le ev_le rfl tk ?_
  rintro ⟨k, vv, sp, acc⟩ hI
  try simp only [List.cons_append, List.nil_append, List.append_assoc, List.append_eq] at hI ⊢
  try dsimp only at hI ⊢
  obtain ⟨hk, hown, hal, hok⟩ := hI
  by_cases hlt : k < 64
  · have hre := redoes12_spec ρ v r hr k
    have hrc := rec22_spec ρ s l h k
    have hone : (contO (r.ims.find? (fun x => decide (x.page = (k : Int))))).all (·.oneCell') = true := by unfold contO; split <;> rfl
    have hlen3 : (contO (r.ims.find? (fun x => decide (x.page = (k : Int))))).length = 3 := by unfold contO; split <;> rfl
    rw [show 64 - k = (64 - (k + 1)) + 1 by omega, pgF, touchG] at hok
    generalize contO (r.ims.find? (fun x => decide (x.page = (k : Int)))) = co at *
    generalize (r.ims.find? (fun x => decide (x.page = (k : Int)))).isSome = b1 at *
    obtain ⟨c0, c1, c2, rfl⟩ : ∃ c0 c1 c2, co = [c0, c1, c2] := by
      match co, hlen3 with
      | [c0, c1, c2], _ => exact ⟨c0, c1, c2, rfl⟩
    have hcast : ((k + 1 : Nat) : Int) = (k : Int) + 1 := by omega
    generalize recN k l = n at *
    obtain ⟨va, vc, rfl, hvc⟩ := hown.slice
    have happ : ∀ p : CkP, flatP acc ++ ckPV p = flatP (acc ++ [p]) := fun p => by simp [flatP]
    by_cases hn : 0 < n
    · rw [if_pos hn] at hok
      simp only [List.append_assoc] at hok
      repeat' (first | (refine tl_is (.func 41) ?_; refine qC rfl rfl (hre) ?_; rintro v ρ' L' hle ⟨rfl, rfl, rfl⟩ <;> (try simp only [List.cons_append, List.nil_append, List.append_eq])) | (refine tl_is (.func 42) ?_; refine qC rfl rfl (hrc) ?_; rintro v ρ' L' hle ⟨rfl, rfl, rfl⟩ <;> (try simp only [List.cons_append, List.nil_append, List.append_eq])) | (refine iBu ?_; refine tl_y (y_buildN rfl) rfl rfl ?_) | (refine i_op ?_; first | (refine i_qq ?_; refine qQ ?_) | refine qEf ?_) | refine tl_nil ?_ | (refine i_tc ?_; refine qTc ?_) | (refine i_te ?_; refine qTe ?_) | intro _)
      refine tl_buildSliceA (css := [ckPV ⟨k, n⟩]) (sz := 2) rfl rfl rfl rfl (by simp) (by simp) rfl (fun bs => ?_)
      simp only [List.flatten_cons, List.flatten_nil, List.append_nil]
      refine tl_app (ys := ckPV ⟨k, n⟩) (m := 1) rfl rfl hown (hR := by infer_instance) (SrcV.lit) rfl rfl (by decide) rfl (by omega) (by omega) rfl (fun v' sp' hown' => ?_)
      rw [happ] at hown' ⊢
      rw [show acc.length + 1 = (acc ++ [(⟨k, n⟩ : CkP)]).length by simp] at hown'
      repeat' (first | (refine iBu ?_; refine tl_y (y_buildN rfl) rfl rfl ?_) | (refine i_op ?_; first | (refine i_qq ?_; refine qQ ?_) | refine qEf ?_) | refine tl_nil ?_ | (refine i_tc ?_; refine qTc ?_) | (refine i_te ?_; refine qTe ?_) | intro _)
      refine te_round_g (k + 1, v', sp', acc ++ [⟨k, n⟩]) (⟨hlt, hown', by simp; omega, by dsimp only; rw [hcast, List.append_assoc]; exact hok⟩) ev_le ev_le rfl tk inferInstance (by first | omega | (dsimp only; omega))
    · rw [if_neg hn] at hok
      cases b1
      · simp only [Bool.false_eq_true, if_false, List.nil_append] at hok
        repeat' (first | (refine tl_is (.func 41) ?_; refine qC rfl rfl (hre) ?_; rintro v ρ' L' hle ⟨rfl, rfl, rfl⟩ <;> (try simp only [List.cons_append, List.nil_append, List.append_eq])) | (refine tl_is (.func 42) ?_; refine qC rfl rfl (hrc) ?_; rintro v ρ' L' hle ⟨rfl, rfl, rfl⟩ <;> (try simp only [List.cons_append, List.nil_append, List.append_eq])) | (refine iBu ?_; refine tl_y (y_buildN rfl) rfl rfl ?_) | (refine i_op ?_; first | (refine i_qq ?_; refine qQ ?_) | refine qEf ?_) | refine tl_nil ?_ | (refine i_tc ?_; refine qTc ?_) | (refine i_te ?_; refine qTe ?_) | intro _)
        refine te_round_g (k + 1, _, sp, acc) (⟨hlt, hown, by dsimp only; omega, by dsimp only; rw [hcast]; exact hok⟩) ev_le ev_le rfl tk inferInstance (by first | omega | (dsimp only; omega))
      · simp only [if_true] at hok
        repeat' (first | (refine tl_is (.func 41) ?_; refine qC rfl rfl (hre) ?_; rintro v ρ' L' hle ⟨rfl, rfl, rfl⟩ <;> (try simp only [List.cons_append, List.nil_append, List.append_eq])) | (refine tl_is (.func 42) ?_; refine qC rfl rfl (hrc) ?_; rintro v ρ' L' hle ⟨rfl, rfl, rfl⟩ <;> (try simp only [List.cons_append, List.nil_append, List.append_eq])) | (refine iBu ?_; refine tl_y (y_buildN rfl) rfl rfl ?_) | (refine i_op ?_; first | (refine i_qq ?_; refine qQ ?_) | refine qEf ?_) | refine tl_nil ?_ | (refine i_tc ?_; refine qTc ?_) | (refine i_te ?_; refine qTe ?_) | intro _)
        refine tl_buildSliceA (css := [ckPV ⟨k, r.lsn⟩]) (sz := 2) rfl rfl rfl rfl (by simp) (by simp) rfl (fun bs => ?_)
        simp only [List.flatten_cons, List.flatten_nil, List.append_nil]
        refine tl_app (ys := ckPV ⟨k, r.lsn⟩) (m := 1) rfl rfl hown (hR := by infer_instance) (SrcV.lit) rfl rfl (by decide) rfl (by omega) (by omega) rfl (fun v' sp' hown' => ?_)
        rw [happ] at hown' ⊢
        rw [show acc.length + 1 = (acc ++ [(⟨k, r.lsn⟩ : CkP)]).length by simp] at hown'
        repeat' (first | (refine iBu ?_; refine tl_y (y_buildN rfl) rfl rfl ?_) | (refine i_op ?_; first | (refine i_qq ?_; refine qQ ?_) | refine qEf ?_) | refine tl_nil ?_ | (refine i_tc ?_; refine qTc ?_) | (refine i_te ?_; refine qTe ?_) | intro _)
        refine te_round_g (k + 1, v', sp', acc ++ [⟨k, r.lsn⟩]) (⟨hlt, hown', by simp; omega, by dsimp only; rw [hcast, List.append_assoc]; exact hok⟩) ev_le ev_le rfl tk inferInstance (by first | omega | (dsimp only; omega))
  · obtain rfl : k = 64 := by omega
    rw [show 64 - 64 = 0 by rfl, pgF, List.append_nil] at hok
    subst hok
    repeat' (first | (refine iBu ?_; refine tl_y (y_buildN rfl) rfl rfl ?_) | (refine i_op ?_; first | (refine i_qq ?_; refine qQ ?_) | refine qEf ?_) | refine tl_nil ?_ | (refine i_tc ?_; refine qTc ?_) | (refine i_te ?_; refine qTe ?_) | intro _)
    refine te_freeze (ownC vv (flatP acc) sp 74) (fun ρ3 hle3 hfz => ?_)
    obtain ⟨sa, sc, f1, hsc, hA2⟩ := hown.aIn rfl (fun x _ => ckPV_len x) hfz
    subst f1
    exact qE (L' := []) ⟨hle3, ⟨sa, acc.length, sc⟩, rfl, ⟨hA2, by dsimp only; omega, hsc⟩, rfl⟩
def clean22E (page : Int) (l : List CkP) : Int := if recN page l = 0 then 4 else 0
def clean22R (page : Int) (l : List CkP) : List CkP := if recN page l = 0 then [] else delP page l
theorem clean22_spec (ρ : Hp) (s : SV) (l : List CkP) (h : AS ρ 2 ckPV s l) (page : Int) :
    Spec Try.prog 18 [.slice s.a s.n s.c, .int .i64 page] ρ [] (fun z ρ' L' => ρ.le ρ' ∧ ∃ s' : SV, z = .tuple ⟨[.slice s'.a s'.n s'.c, .int .i64 (clean22E page l)]⟩ ∧ AS ρ' 2 ckPV s' (clean22R page l) ∧ L' = []) := by
  have hl := h.at'.len
  have hn := h.big
  have hA := h.at'
  have hrc := rec22_spec ρ s l h page
  unfold clean22E clean22R
  generalize recN page l = n at *
  refine spec_enter Try.func18 rfl rfl rfl fun u R => ?_
  simp only [argsE, List.cons_append, List.nil_append]
  by_cases h0 : n = 0
  · rw [if_pos h0, if_pos h0]
    repeat' (first | (refine tl_is (.func 42) ?_; refine qC rfl rfl (hrc) ?_; rintro v ρ' L' hle ⟨rfl, rfl, rfl⟩ <;> (try simp only [List.cons_append, List.nil_append, List.append_eq])) | (refine iBu ?_; refine tl_y (y_buildN rfl) rfl rfl ?_) | (refine i_op ?_; first | (refine i_qq ?_; refine qQ ?_) | refine qEf ?_) | refine tl_nil ?_ | (refine i_tc ?_; refine qTc ?_) | (refine i_te ?_; refine qTe ?_) | intro _)
    exact qE (L' := []) ⟨Hp.le_refl _, nilS, rfl, AS.nil, rfl⟩
  · rw [if_neg h0, if_neg h0]
    generalize hq : delP page l = q
    repeat' (first | (refine tl_is (.func 42) ?_; refine qC rfl rfl (hrc) ?_; rintro v ρ' L' hle ⟨rfl, rfl, rfl⟩ <;> (try simp only [List.cons_append, List.nil_append, List.append_eq])) | (refine iBu ?_; refine tl_y (y_buildN rfl) rfl rfl ?_) | (refine i_op ?_; first | (refine i_qq ?_; refine qQ ?_) | refine qEf ?_) | refine tl_nil ?_ | (refine i_tc ?_; refine qTc ?_) | (refine i_te ?_; refine qTe ?_) | intro _)
    refine tc_loop_g [(1, _), (4, _), (5, _), (13, _), (14, _)] (fun (ζ : (Nat) × (Value) × (List Value) × (List CkP)) => [(15, .int .i64 ζ.1), (6, ζ.2.1)]) (fun (ζ : (Nat) × (Value) × (List Value) × (List CkP)) => ρ') (fun (ζ : (Nat) × (Value) × (List Value) × (List CkP)) => [ownC ζ.2.1 (flatP ζ.2.2.2) ζ.2.2.1 74]) (fun (ζ : (Nat) × (Value) × (List Value) × (List CkP)) => ζ.1 ≤ s.n ∧ OwnS ζ.2.1 ζ.2.2.2.length (flatP ζ.2.2.2) ζ.2.2.1 2 ∧ ζ.2.2.2.length ≤ ζ.1 ∧ ζ.2.2.2 ++ delP page (l.drop ζ.1) = q) (fun (ζ : (Nat) × (Value) × (List Value) × (List CkP)) => s.n - ζ.1) ((0, .slice none 0 0, [], [])) (⟨Nat.zero_le _, OwnS.nil 2, Nat.le_refl _, hq⟩) ev_le ev_le rfl tk ?_
    rintro ⟨k, vv, sp, acc⟩ hI
    try simp only [List.cons_append, List.nil_append, List.append_assoc, List.append_eq] at hI ⊢
    try dsimp only at hI ⊢
    obtain ⟨hk, hown, hal, hok⟩ := hI
    have happ : ∀ p : CkP, flatP acc ++ ckPV p = flatP (acc ++ [p]) := fun p => by simp [flatP]
    by_cases hlt : k < s.n
    · obtain ⟨b, off, C, T, fr, e1, hb, hfit, hc⟩ := hA.get (show k < l.length by omega)
      rw [List.drop_eq_getElem_cons (show k < l.length by omega), delP, List.filter_cons] at hok
      generalize l[k]'(by omega) = x at *
      obtain ⟨va, vc, rfl, hvc⟩ := hown.slice
      rw [e1]
      by_cases hx : x.page = page
      · rw [if_neg (by simp [hx])] at hok
        repeat' (first | (refine iBu ?_; refine tl_y (y_buildN rfl) rfl rfl ?_) | (refine i_op ?_; first | (refine i_qq ?_; refine qQ ?_) | refine qEf ?_) | refine tl_nil ?_ | (refine i_tc ?_; refine qTc ?_) | (refine i_te ?_; refine qTe ?_) | intro _)
        rw [← e1]
        refine te_round_g (k + 1, _, sp, acc) (⟨hlt, hown, by dsimp only; omega, hok⟩) ev_le ev_le rfl tk inferInstance (by first | omega | (dsimp only; omega))
      · rw [if_pos (by simp [hx])] at hok
        repeat' (first | (refine iBu ?_; refine tl_y (y_buildN rfl) rfl rfl ?_) | (refine i_op ?_; first | (refine i_qq ?_; refine qQ ?_) | refine qEf ?_) | refine tl_nil ?_ | (refine i_tc ?_; refine qTc ?_) | (refine i_te ?_; refine qTe ?_) | intro _)
        refine tl_buildSliceA (css := [ckPV x]) (sz := 2) rfl rfl rfl rfl (by simp) (by simp) rfl (fun bs => ?_)
        simp only [List.flatten_cons, List.flatten_nil, List.append_nil]
        refine tl_app (ys := ckPV x) (m := 1) rfl rfl hown (hR := by infer_instance) (SrcV.lit) rfl rfl (by decide) rfl (by omega) (by omega) rfl (fun v' sp' hown' => ?_)
        rw [happ] at hown' ⊢
        rw [show acc.length + 1 = (acc ++ [x]).length by simp] at hown'
        repeat' (first | (refine iBu ?_; refine tl_y (y_buildN rfl) rfl rfl ?_) | (refine i_op ?_; first | (refine i_qq ?_; refine qQ ?_) | refine qEf ?_) | refine tl_nil ?_ | (refine i_tc ?_; refine qTc ?_) | (refine i_te ?_; refine qTe ?_) | intro _)
        rw [← e1]
        refine te_round_g (k + 1, v', sp', acc ++ [x]) (⟨hlt, hown', by simp; omega, by dsimp only; rw [List.append_assoc]; exact hok⟩) ev_le ev_le rfl tk inferInstance (by first | omega | (dsimp only; omega))
    · have hk2 : k = l.length := by omega
      rw [hk2, List.drop_length] at hok
      simp only [delP, List.filter_nil, List.append_nil] at hok
      subst hok
      repeat' (first | (refine iBu ?_; refine tl_y (y_buildN rfl) rfl rfl ?_) | (refine i_op ?_; first | (refine i_qq ?_; refine qQ ?_) | refine qEf ?_) | refine tl_nil ?_ | (refine i_tc ?_; refine qTc ?_) | (refine i_te ?_; refine qTe ?_) | intro _)
      refine te_freeze (ownC vv (flatP acc) sp 74) (fun ρ3 hle3 hfz => ?_)
      obtain ⟨sa, sc, f1, hsc, hA2⟩ := hown.aIn rfl (fun x _ => ckPV_len x) hfz
      subst f1
      exact qE (L' := []) ⟨hle3, ⟨sa, acc.length, sc⟩, rfl, ⟨hA2, by dsimp only; omega, hsc⟩, rfl⟩
end Go.Proofs.E

namespace Go.Proofs.E
open Go
set_option linter.unusedVariables false
set_option linter.unusedSimpArgs false
set_option linter.unusedSectionVars false
set_option maxRecDepth 4000
set_option maxHeartbeats 1000000
attribute [local irreducible] Yl TL TC TE Spec YSpec R1 Hp.le EnvLe TS TR YS Stays
/-! ## the plain law of Touch: by pages -/
theorem tblB_up {l : List CkP} {last last' : Int} (h : tblB last l = true) (hle : last' ≤ last) : tblB last' l = true := by
  cases l with
  | nil => rfl
  | cons p r =>
    rw [tblB, Bool.and_eq_true, decide_eq_true_eq] at h ⊢
    exact ⟨by omega, h.2⟩
theorem recP_cons {page : Int} {p : CkP} {r : List CkP} : recP page (p :: r) = if p.page = page then some p else recP page r := by
  unfold recP
  rw [List.find?_cons]
  by_cases h : p.page = page <;> simp [h]
theorem recP_low {l : List CkP} {last page : Int} (h : tblB last l = true) (hp : page ≤ last) : recP page l = none := by
  unfold recP
  rw [List.find?_eq_none]
  intro x hx
  obtain ⟨i, hi, rfl⟩ := List.mem_iff_getElem.1 hx
  have := ((tblB_lt h).1 i hi).1
  simp; omega
theorem recP_high {l : List CkP} {last page : Int} (h : tblB last l = true) (hp : 64 ≤ page) : recP page l = none := by
  unfold recP
  rw [List.find?_eq_none]
  intro x hx
  obtain ⟨i, hi, rfl⟩ := List.mem_iff_getElem.1 hx
  have := ((tblB_lt h).1 i hi).2.1
  simp; omega
theorem recP_page {l : List CkP} {page : Int} {p : CkP} (h : recP page l = some p) : p.page = page := by
  have := List.find?_some h
  simpa using this
theorem tbl_ext : ∀ {l1 l2 : List CkP} {last : Int}, tblB last l1 = true → tblB last l2 = true → (∀ page, recP page l1 = recP page l2) → l1 = l2
  | [], [], _, _, _, _ => rfl
  | [], q :: s, _, _, _, h => by
    have := h q.page
    rw [recP_cons, if_pos rfl] at this
    cases this
  | p :: r, [], _, _, _, h => by
    have := h p.page
    rw [recP_cons, if_pos rfl] at this
    cases this
  | p :: r, q :: s, last, h1, h2, h => by
    rw [tblB, Bool.and_eq_true, decide_eq_true_eq] at h1 h2
    have e1 := h p.page
    have e2 := h q.page
    rw [recP_cons, if_pos rfl, recP_cons] at e1
    rw [recP_cons, recP_cons, if_pos rfl] at e2
    have hpq : p = q := by
      by_cases hp : q.page = p.page
      · rw [if_pos hp] at e1; exact Option.some.inj e1
      · rw [if_neg hp] at e1
        rw [if_neg (fun e => hp e.symm)] at e2
        have a1 : q.page < p.page := by
          by_cases hh : q.page < p.page
          · exact hh
          · have := recP_low h2.2 (show p.page ≤ q.page by omega); rw [this] at e1; cases e1
        have := recP_low h1.2 (show q.page ≤ p.page by omega)
        rw [this] at e2; cases e2
    subst hpq
    have : r = s := tbl_ext h1.2 h2.2 (fun page => by
      by_cases hp : p.page = page
      · subst hp
        rw [recP_low h1.2 (Int.le_refl _), recP_low h2.2 (Int.le_refl _)]
      · have := h page
        rw [recP_cons, if_neg hp, recP_cons, if_neg hp] at this
        exact this)
    rw [this]
theorem recP_add {pg : Int} {lsn : Nat} {page : Int} : ∀ {l : List CkP} {last : Int}, tblB last l = true → recP page (addP pg lsn l) = if (recP page l).isSome then recP page l else if pg = page then some ⟨pg, lsn⟩ else none
  | [], _, _ => by
    rw [addP, recP_cons]
    by_cases h : pg = page <;> simp [h, recP]
  | p :: r, last, h => by
    rw [tblB, Bool.and_eq_true] at h
    rw [addP]
    split
    · rename_i hlt
      rw [recP_cons, recP_cons]
      by_cases hp : p.page = page
      · simp [hp]
      · simp only [if_neg hp]; rw [recP_add h.2]
    · split
      · rename_i h1 h2
        rw [recP_cons]
        by_cases hp : p.page = page
        · rw [if_pos hp]; rfl
        · rw [if_neg hp]
          have : ¬ pg = page := fun e => hp (by omega)
          rw [if_neg this]
          cases hh : recP page r <;> rfl
      · rename_i h1 h2
        rw [recP_cons]
        by_cases hp : pg = page
        · subst hp
          rw [if_pos rfl, if_pos rfl]
          have : recP pg (p :: r) = none := by
            rw [recP_cons, if_neg h2]
            exact recP_low h.2 (by omega)
          rw [this]; rfl
        · rw [if_neg hp, if_neg hp]
          cases hh : recP page (p :: r) <;> rfl
theorem touchI_tbl {lsn : Nat} (h1 : 1 ≤ lsn) (h2 : lsn ≤ 1099511627776) : ∀ {xs : List Im} {l : List CkP}, (∀ x ∈ xs, pageOk x.page = true) → tblOk l = true →
    tblOk (touchI lsn xs l) = true ∧ ∀ page, recP page (touchI lsn xs l) = if (recP page l).isSome then recP page l else if (xs.find? (fun x => decide (x.page = page))).isSome then some ⟨page, lsn⟩ else none
  | [], l, _, hl => by
    refine ⟨hl, fun page => ?_⟩
    rw [touchI]
    simp only [List.find?_nil, Option.isSome_none, Bool.false_eq_true, if_false]
    cases hh : recP page l <;> rfl
  | x :: r, l, hx, hl => by
    have hpx := hx x (by simp)
    unfold pageOk at hpx
    rw [decide_eq_true_eq] at hpx
    have ht : tblOk (addP x.page lsn l) = true := addP_tbl hpx.2 h1 h2 (by omega) hl
    obtain ⟨g1, g2⟩ := touchI_tbl h1 h2 (xs := r) (fun y hy => hx y (by simp [hy])) ht
    refine ⟨g1, fun page => ?_⟩
    rw [touchI, g2 page, recP_add (last := -1) hl, List.find?_cons]
    cases hh : recP page l with
    | some p => rfl
    | none =>
      simp only [Option.isSome_none, Bool.false_eq_true, if_false]
      by_cases hp : x.page = page
      · rw [decide_eq_true hp, if_pos hp]; subst hp; rfl
      · rw [decide_eq_false hp, if_neg hp]; rfl
theorem pgF_rec {g : Int → Option Nat} {page : Int} : ∀ {m : Nat} {p : Int}, recP page (pgF g m p) = if p ≤ page ∧ page < p + m then (g page).map (fun v => ⟨page, v⟩) else none
  | 0, p => by rw [pgF, if_neg (by omega)]; rfl
  | m + 1, p => by
    rw [pgF]
    by_cases hp : p = page
    · subst hp
      rw [if_pos (by omega)]
      cases hg : g p with
      | some v => simp only [List.cons_append, List.nil_append]; rw [recP_cons, if_pos rfl]; rfl
      | none =>
        simp only [List.nil_append]
        rw [pgF_rec, if_neg (by omega)]; rfl
    · have hfin : recP page (pgF g m (p + 1)) = if p ≤ page ∧ page < p + ((m + 1 : Nat) : Int) then (g page).map (fun v => ⟨page, v⟩) else none := by
        rw [pgF_rec]
        by_cases h2 : p + 1 ≤ page ∧ page < p + 1 + m
        · rw [if_pos h2, if_pos (by omega)]
        · rw [if_neg h2, if_neg (by omega)]
      cases g p with
      | some v => simp only [List.cons_append, List.nil_append]; rw [recP_cons, if_neg hp]; exact hfin
      | none => exact hfin
theorem pgF_tbl {g : Int → Option Nat} : ∀ {m : Nat} {p last : Int}, last < p → p + m ≤ 64 → (∀ q v, g q = some v → 1 ≤ v ∧ v ≤ 1099511627776) → tblB last (pgF g m p) = true
  | 0, _, _, _, _, _ => rfl
  | m + 1, p, last, h1, h2, hg => by
    rw [pgF]
    cases hgp : g p with
    | some v =>
      simp only [List.cons_append, List.nil_append]
      rw [tblB, Bool.and_eq_true, decide_eq_true_eq]
      have := hg p v hgp
      exact ⟨⟨h1, by dsimp only; omega, this⟩, pgF_tbl (by dsimp only; omega) (by omega) hg⟩
    | none =>
      simp only [List.nil_append]
      exact pgF_tbl (by omega) (by omega) hg
theorem recOk_touch {r : Rc} (hok : recOk r = true) : (1 ≤ r.lsn ∧ r.lsn ≤ 1099511627776) ∧ ∀ x ∈ r.ims, pageOk x.page = true := by
  unfold recOk at hok
  simp only [Bool.and_eq_true, decide_eq_true_eq] at hok
  obtain ⟨_, hh, ha, hb⟩ := hok
  unfold headOk at hh
  rw [decide_eq_true_eq] at hh
  refine ⟨⟨hh.1, hh.2.1⟩, fun x hx => ?_⟩
  have him : ∃ b, imsOk b r.ims = true := by
    unfold bareOk at hb
    rw [decide_eq_true_eq] at hb
    rcases hb.2.1 with h0 | h2 | h5
    · rw [h0] at hx; cases hx
    · unfold askOk at ha; rw [if_pos h2, Bool.and_eq_true] at ha; exact ⟨true, ha.2⟩
    · unfold askOk at ha
      rw [if_neg (by omega), if_neg (by omega), if_neg (by omega), if_pos h5, Bool.and_eq_true] at ha; exact ⟨false, ha.2⟩
  obtain ⟨b, him⟩ := him
  unfold imsOk upB at him
  rw [Bool.and_eq_true] at him
  obtain ⟨j, hj, rfl⟩ := List.mem_iff_getElem.1 hx
  have := ((risesB_true him.2 (Nat.le_refl _)).2 j hj hj).1
  unfold imOk at this
  rw [Bool.and_eq_true] at this
  exact this.1
theorem recP_fits {l : List CkP} (ht : tblOk l = true) {page : Int} {p : CkP} (h : recP page l = some p) : (1 ≤ p.since ∧ p.since ≤ 1099511627776) ∧ (0 ≤ page ∧ page < 64) := by
  have hp := recP_page h
  obtain ⟨i, hi, e⟩ := List.mem_iff_getElem.1 (List.mem_of_find?_eq_some h)
  have := (tblB_lt ht).1 i hi
  rw [e] at this
  exact ⟨this.2.2, by omega⟩
theorem touch_same {l : List CkP} {r : Rc} (ht : tblOk l = true) (hr : recOk r = true) : tblOk (touchP r l) = true ∧ pgF (touchG l r) 64 0 = touchP r l := by
  obtain ⟨⟨h1, h2⟩, hpg⟩ := recOk_touch hr
  obtain ⟨g1, g2⟩ := touchI_tbl h1 h2 hpg ht
  refine ⟨g1, ?_⟩
  have hg : ∀ q v, touchG l r q = some v → 1 ≤ v ∧ v ≤ 1099511627776 := fun q v hv => by
    unfold touchG at hv
    split at hv
    · cases hv
      rename_i h0
      unfold recN at h0 ⊢
      cases hp : recP q l with
      | none => rw [hp] at h0; simp at h0
      | some p => exact (recP_fits ht hp).1
    · split at hv
      · cases hv; exact ⟨h1, h2⟩
      · cases hv
  refine tbl_ext (last := -1) (pgF_tbl (by omega) (by omega) hg) g1 (fun page => ?_)
  show _ = recP page (touchI r.lsn r.ims l)
  rw [pgF_rec, g2 page]
  cases hp : recP page l with
  | some p =>
    obtain ⟨f1, f2⟩ := recP_fits ht hp
    have hpp := recP_page hp
    rw [if_pos (by omega)]
    unfold touchG recN
    rw [hp]
    simp only
    rw [if_pos (by omega)]
    simp only [Option.map_some, Option.isSome_some, if_true]
    congr 1
    cases p; simp_all
  | none =>
    simp only [Option.isSome_none, Bool.false_eq_true, if_false]
    by_cases hr2 : 0 ≤ page ∧ page < 64
    · rw [if_pos (by omega)]
      unfold touchG recN
      rw [hp]
      simp only [Nat.lt_irrefl, if_false]
      split <;> rfl
    · rw [if_neg (by omega)]
      have : (r.ims.find? (fun x => decide (x.page = page))).isSome = false := by
        rw [Option.isSome_eq_false_iff, Option.isNone_iff_eq_none, List.find?_eq_none]
        intro x hx
        have := hpg x hx
        unfold pageOk at this
        rw [decide_eq_true_eq] at this
        simp; omega
      rw [this]; rfl
end Go.Proofs.E

namespace Go.Proofs.E
open Go
set_option linter.unusedVariables false
set_option linter.unusedSimpArgs false
set_option linter.unusedSectionVars false
set_option maxRecDepth 4000
set_option maxHeartbeats 1000000
attribute [local irreducible] Yl TL TC TE Spec YSpec R1 Hp.le EnvLe TS TR YS Stays
-- BN
theorem same22_eq (ρ : Hp) (s s' : SV) (l m : List CkP) (e : l = m) (h : AS ρ 2 ckPV s l) (h' : AS ρ 2 ckPV s' m) :
    Spec Try.prog 16 [.slice s.a s.n s.c, .slice s'.a s'.n s'.c] ρ [] (fun v ρ' L' => v = .bool true ∧ ρ' = ρ ∧ L' = []) := by
  have := same22_spec ρ s s' l m h h'
  rwa [decide_eq_true e] at this
theorem clean_both {l : List CkP} (ht : tblOk l = true) (page : Int) : clean22E page l = cleanE page l ∧ clean22R page l = cleanR page l := by
  unfold clean22E cleanE cleanE1 clean22R cleanR cleanE1 recN
  rw [ht]
  cases hp : recP page l with
  | none => simp
  | some p =>
    have := recP_since ht hp
    have h0 : ¬ p.since = 0 := by omega
    simp [h0]
theorem few_all {l : List CkP} (h : l.length ≤ 66) : l.take 66 = l := List.take_of_length_le h
theorem touchesLaw_spec (ρ : Hp) (a : Option Addr) (n c : Nat) (l : List CkP) (h : AIn ρ 2 ckPV a n l) (hc : n ≤ c) (hn : n ≤ 9223372036854775807)
    (a' : Option Addr) (n' c' : Nat) (rs : List (RV × Rc)) (h' : AIn ρ 10 rcV a' n' rs) (hw : ∀ x ∈ rs, RcW ρ x.1 x.2) (hn' : n' ≤ 9223372036854775807)
    (pa : Option Addr) (pn pc : Nat) (pl : List Int) (hp : SIn ρ i64c pa pn pl) (hpn : pn ≤ 9223372036854775807) :
    Spec Try.prog 3 [.slice a n c, .slice a' n' c', .slice pa pn pc] ρ [] (fun z ρ' L' => z = .bool true ∧ ρ.le ρ' ∧ L' = []) := by
  have hl' := h'.len
  have hpl := hp.len
  refine spec_enter Try.func3 rfl rfl rfl fun u R => ?_
  simp only [argsE, List.cons_append, List.nil_append]
  repeat' (first | (refine tl_is (.func 8) ?_; refine qC rfl rfl (wakes22_spec _) ?_; rintro v ρ' L' hle ⟨rfl, hl1, rfl⟩ <;> (try simp only [List.cons_append, List.nil_append, List.append_eq])) | (refine tl_is (.func 9) ?_; refine qC rfl rfl (few22_spec _ a n c l (h.mono hl1) hc hn) ?_; rintro v ρ' L' hle ⟨hl2, s0, rfl, hs0, rfl⟩ <;> (try simp only [List.cons_append, List.nil_append, List.append_eq])) | (refine iBu ?_; refine tl_y (y_buildN rfl) rfl rfl ?_) | (refine i_op ?_; first | (refine i_qq ?_; refine qQ ?_) | refine qEf ?_) | refine tl_nil ?_ | (refine i_tc ?_; refine qTc ?_) | (refine i_te ?_; refine qTe ?_) | intro _)
  refine tc_loop_g [(2, _), (26, _), (27, _)] (fun (ζ : (Nat) × (Hp) × (SV) × (List CkP)) => [(28, .int .i64 ζ.1), (6, .bool false), (7, .slice ζ.2.2.1.a ζ.2.2.1.n ζ.2.2.1.c)]) (fun (ζ : (Nat) × (Hp) × (SV) × (List CkP)) => ζ.2.1) (fun (ζ : (Nat) × (Hp) × (SV) × (List CkP)) => []) (fun (ζ : (Nat) × (Hp) × (SV) × (List CkP)) => ζ.1 ≤ n' ∧ ρ.le ζ.2.1 ∧ AS ζ.2.1 2 ckPV ζ.2.2.1 ζ.2.2.2 ∧ ζ.2.2.2.length ≤ 66) (fun (ζ : (Nat) × (Hp) × (SV) × (List CkP)) => n' - ζ.1) ((0, ρ', s0, l.take 66)) (⟨Nat.zero_le _, Hp.le_trans hl1 hl2, hs0, by rw [List.length_take]; omega⟩) ev_le ev_le rfl tk ?_
  rintro ⟨k, ρ1, s, d⟩ hI
  try simp only [List.cons_append, List.nil_append, List.append_assoc, List.append_eq] at hI ⊢
  try dsimp only at hI ⊢
  obtain ⟨hk, hle0, hs, hd66⟩ := hI
  by_cases hlt : k < n'
  · obtain ⟨b, off, C, T, fr, e1, hb, hfit, hcc⟩ := (h'.mono hle0).get (show k < rs.length by omega)
    have hx := (hw _ (List.getElem_mem (show k < rs.length by omega))).mono hle0
    generalize rs[k]'(by omega) = x at *
    obtain ⟨v, r⟩ := x
    dsimp only at hx
    have hov := over22_spec ρ1 v r hx
    rw [e1]
    by_cases h20 : k = 20
    · repeat' (first | (refine iBu ?_; refine tl_y (y_buildN rfl) rfl rfl ?_) | (refine i_op ?_; first | (refine i_qq ?_; refine qQ ?_) | refine qEf ?_) | refine tl_nil ?_ | (refine i_tc ?_; refine qTc ?_) | (refine i_te ?_; refine qTe ?_) | intro _)
      exact qE (L' := []) ⟨rfl, hle0, rfl⟩
    · cases ho : overB r
      · rw [ho] at hov
        obtain ⟨hin, hi17, _⟩ := hx.in' ho
        have hR := right22_spec ρ1 s d hs
        rw [← tblOk_up] at hR
        have hC := ckcheck_spec ρ1 s d hs
        have hF := few22_spec ρ1 s.a s.n s.c d hs.at' hs.cap (by have := hs.big; omega)
        rw [few_all hd66] at hF
        have hT := fun ρ2 (hle : ρ1.le ρ2) => touch_spec ρ2 s d (hs.mono hle) (by omega) v r (hin.mono hle) (by omega)
        have hR2 := fun ρ2 (hle : ρ1.le ρ2) => right12_spec ρ2 v r (hin.mono hle)
        unfold touchE touchR at hT
        cases ht : tblOk d
        · simp only [ht, Bool.false_eq_true, if_false, false_and] at hR hC hT
          repeat' (first | (refine tl_is (.func 10) ?_; refine qC rfl rfl (hov) ?_; rintro v ρ' L' hle ⟨rfl, rfl, rfl⟩ <;> (try simp only [List.cons_append, List.nil_append, List.append_eq])) | (refine tl_is (.func 11) ?_; refine qC rfl rfl (hR) ?_; rintro v ρ' L' hle ⟨rfl, rfl, rfl⟩ <;> (try simp only [List.cons_append, List.nil_append, List.append_eq])) | (refine tl_is (.func 12) ?_; refine qC rfl rfl (hC) ?_; rintro v ρ' L' hle ⟨rfl, rfl, rfl⟩ <;> (try simp only [List.cons_append, List.nil_append, List.append_eq])) | (refine tl_is (.func 9) ?_; refine qC rfl rfl (hF) ?_; rintro v ρ' L' hle ⟨hl3, s2, rfl, hs2, rfl⟩ <;> (try simp only [List.cons_append, List.nil_append, List.append_eq])) | (refine tl_is (.func 13) ?_; refine qC rfl rfl (hT _ hl3) ?_; rintro v ρ' L' hle ⟨hl4, s3, rfl, hs3, rfl⟩ <;> (try simp only [List.cons_append, List.nil_append, List.append_eq])) | (refine iBu ?_; refine tl_y (y_buildN rfl) rfl rfl ?_) | (refine i_op ?_; first | (refine i_qq ?_; refine qQ ?_) | refine qEf ?_) | refine tl_nil ?_ | (refine i_tc ?_; refine qTc ?_) | (refine i_te ?_; refine qTe ?_) | intro _)
          have h30 := hs3.at'.len
          simp only [List.length_nil] at h30
          refine qF (L' := []) ?_ (hle := Hp.le_trans hle0 (Hp.le_trans hl3 hl4))
          exact ⟨bool_eq (by simp; omega), Hp.le_trans hle0 (Hp.le_trans hl3 hl4), rfl⟩
        · simp only [ht, if_true, true_and] at hR hC hT
          cases hrk : recOk r
          · simp only [hrk, Bool.false_eq_true, if_false, show ¬ ((220 : Int) = 0) by decide] at hT hR2
            repeat' (first | (refine tl_is (.func 10) ?_; refine qC rfl rfl (hov) ?_; rintro v ρ' L' hle ⟨rfl, rfl, rfl⟩ <;> (try simp only [List.cons_append, List.nil_append, List.append_eq])) | (refine tl_is (.func 11) ?_; refine qC rfl rfl (hR) ?_; rintro v ρ' L' hle ⟨rfl, rfl, rfl⟩ <;> (try simp only [List.cons_append, List.nil_append, List.append_eq])) | (refine tl_is (.func 12) ?_; refine qC rfl rfl (hC) ?_; rintro v ρ' L' hle ⟨rfl, rfl, rfl⟩ <;> (try simp only [List.cons_append, List.nil_append, List.append_eq])) | (refine tl_is (.func 9) ?_; refine qC rfl rfl (hF) ?_; rintro v ρ' L' hle ⟨hl3, s2, rfl, hs2, rfl⟩ <;> (try simp only [List.cons_append, List.nil_append, List.append_eq])) | (refine tl_is (.func 13) ?_; refine qC rfl rfl (hT _ hl3) ?_; rintro v ρ' L' hle ⟨hl4, s3, rfl, hs3, rfl⟩ <;> (try simp only [List.cons_append, List.nil_append, List.append_eq])) | (refine tl_is (.func 14) ?_; refine qC rfl rfl (hR2 _ (Hp.le_trans hl3 hl4)) ?_; rintro v ρ' L' hle ⟨rfl, rfl, rfl⟩ <;> (try simp only [List.cons_append, List.nil_append, List.append_eq])) | (refine iBu ?_; refine tl_y (y_buildN rfl) rfl rfl ?_) | (refine i_op ?_; first | (refine i_qq ?_; refine qQ ?_) | refine qEf ?_) | refine tl_nil ?_ | (refine i_tc ?_; refine qTc ?_) | (refine i_te ?_; refine qTe ?_) | intro _)
            have h30 := hs3.at'.len
            simp only [List.length_nil] at h30
            repeat' (first | (refine iBu ?_; refine tl_y (y_buildN rfl) rfl rfl ?_) | (refine i_op ?_; first | (refine i_qq ?_; refine qQ ?_) | refine qEf ?_) | refine tl_nil ?_ | (refine i_tc ?_; refine qTc ?_) | (refine i_te ?_; refine qTe ?_) | (refine i_gd ?_; refine tl_guard rfl rfl (fun hb => ?_) (fun hb => ?_) <;> (try simp only [decide_eq_true_eq, decide_eq_false_iff_not, Bool.not_eq_true, Bool.not_eq_false, beq_iff_eq, bne_iff_ne, ne_eq, decide_eq_decide, Bool.not_eq_eq_eq_not, Bool.not_true, Bool.not_false, beq_eq_false_iff_ne, bne_eq_false_iff_eq, Bool.and_eq_true, Bool.or_eq_true, Bool.and_eq_false_imp, Bool.or_eq_false_iff, bq2, bqt, bqf] at hb)) | (refine i_cond ?_; refine tc_cond rfl (fun hb => ?_) (fun hb => ?_) <;> (try simp only [decide_eq_true_eq, decide_eq_false_iff_not, Bool.not_eq_true, Bool.not_eq_false, beq_iff_eq, bne_iff_ne, ne_eq, decide_eq_decide, Bool.not_eq_eq_eq_not, Bool.not_true, Bool.not_false, beq_eq_false_iff_ne, bne_eq_false_iff_eq, Bool.and_eq_true, Bool.or_eq_true, Bool.and_eq_false_imp, Bool.or_eq_false_iff, bq2, bqt, bqf] at hb)) | intro _)
            all_goals first | (exfalso; omega) | skip
            rw [← e1]
            refine te_round_g (k + 1, _, s, d) (⟨hlt, Hp.le_trans hle0 (Hp.le_trans hl3 hl4), hs.mono (Hp.le_trans hl3 hl4), hd66⟩) ev_le ev_le rfl tk inferInstance (by first | omega | (dsimp only; omega))
          · simp only [hrk, if_true] at hT hR2
            obtain ⟨htt, hsame⟩ := touch_same ht hrk
            have hT2 := fun ρ2 s2 (hle : ρ1.le ρ2) (h : AS ρ2 2 ckPV s2 d) => touch22_spec ρ2 s2 d h v r (hin.mono hle)
            rw [hsame] at hT2
            have ht64 : (touchP r d).length ≤ 64 := by rw [← hsame]; exact pgF_len
            generalize touchP r d = t at *
            have hle4 : ∀ {a b c : Hp}, a.le b → b.le c → a.le c := fun h k => Hp.le_trans h k
            repeat' (first | (refine tl_is (.func 10) ?_; refine qC rfl rfl (hov) ?_; rintro v ρ' L' hle ⟨rfl, rfl, rfl⟩ <;> (try simp only [List.cons_append, List.nil_append, List.append_eq])) | (refine tl_is (.func 11) ?_; refine qC rfl rfl (hR) ?_; rintro v ρ' L' hle ⟨rfl, rfl, rfl⟩ <;> (try simp only [List.cons_append, List.nil_append, List.append_eq])) | (refine tl_is (.func 12) ?_; refine qC rfl rfl (hC) ?_; rintro v ρ' L' hle ⟨rfl, rfl, rfl⟩ <;> (try simp only [List.cons_append, List.nil_append, List.append_eq])) | (refine tl_is (.func 9) ?_; refine qC rfl rfl (hF) ?_; rintro v ρ' L' hle ⟨hl3, s2, rfl, hs2, rfl⟩ <;> (try simp only [List.cons_append, List.nil_append, List.append_eq])) | (refine tl_is (.func 13) ?_; refine qC rfl rfl (hT _ hl3) ?_; rintro v ρ' L' hle ⟨hl4, s3, rfl, hs3, rfl⟩ <;> (try simp only [List.cons_append, List.nil_append, List.append_eq])) | (refine tl_is (.func 14) ?_; refine qC rfl rfl (hR2 _ (Hp.le_trans hl3 hl4)) ?_; rintro v ρ' L' hle ⟨rfl, rfl, rfl⟩ <;> (try simp only [List.cons_append, List.nil_append, List.append_eq])) | (refine tl_is (.func 15) ?_; refine qC rfl rfl (hT2 _ s2 (Hp.le_trans hl3 hl4) (hs2.mono hl4)) ?_; rintro v ρ' L' hle ⟨hl5, s4, rfl, hs4, rfl⟩ <;> (try simp only [List.cons_append, List.nil_append, List.append_eq])) | (refine tl_is (.func 16) ?_; refine qC rfl rfl (same22_eq _ s3 s4 t t rfl (hs3.mono hl5) hs4) ?_; rintro v ρ' L' hle ⟨rfl, rfl, rfl⟩ <;> (try simp only [List.cons_append, List.nil_append, List.append_eq])) | (refine tl_is (.func 16) ?_; refine qC rfl rfl (same22_eq _ s s2 d d rfl (hs.mono (Hp.le_trans hl3 (Hp.le_trans hl4 hl5))) (hs2.mono (Hp.le_trans hl4 hl5))) ?_; rintro v ρ' L' hle ⟨rfl, rfl, rfl⟩ <;> (try simp only [List.cons_append, List.nil_append, List.append_eq])) | (refine iBu ?_; refine tl_y (y_buildN rfl) rfl rfl ?_) | (refine i_op ?_; first | (refine i_qq ?_; refine qQ ?_) | refine qEf ?_) | refine tl_nil ?_ | (refine i_tc ?_; refine qTc ?_) | (refine i_te ?_; refine qTe ?_) | intro _)
            have hl15 := Hp.le_trans hl3 (Hp.le_trans hl4 hl5)
            have hin5 := hin.mono hl15
            have hs15 := hs.mono hl15
            have hs25 := hs2.mono (Hp.le_trans hl4 hl5)
            have hs35 := hs3.mono hl5
            have hle05 := Hp.le_trans hle0 hl15
            refine tc_loop_g [(2, _), (7, _), (9, _), (12, _), (13, _), (15, _), (26, _), (27, _), (28, _), (99, _), (100, _)] (fun (ζ : (Nat) × (Hp)) => [(101, .int .i64 ζ.1), (6, .bool false)]) (fun (ζ : (Nat) × (Hp)) => ζ.2) (fun (ζ : (Nat) × (Hp)) => [[(_, .cells ⟨recV v r⟩ 32 (0, 0))]]) (fun (ζ : (Nat) × (Hp)) => ζ.1 ≤ pn ∧ ρ'.le ζ.2) (fun (ζ : (Nat) × (Hp)) => pn - ζ.1) ((0, ρ')) (⟨Nat.zero_le _, Hp.le_refl _⟩) ev_le ev_le rfl tk ?_
            rintro ⟨j, ρ2⟩ hI
            try simp only [List.cons_append, List.nil_append, List.append_assoc, List.append_eq] at hI ⊢
            try dsimp only at hI ⊢
            obtain ⟨hj, hle2⟩ := hI
            have hF5 := few22_spec ρ2 s4.a s4.n s4.c t (hs4.mono hle2).at' hs4.cap (by have := hs4.big; omega)
            rw [few_all (by omega)] at hF5
            by_cases hltj : j < pn
            · obtain ⟨b', off', C', T', fr', f1, hb', hc'⟩ := (hp.mono (Hp.le_trans hle05 hle2)).get (show j < pl.length by omega)
              generalize pl[j]'(by omega) = pg at *
              obtain ⟨hce, hcr⟩ := clean_both htt pg
              have hCl := clean_spec ρ2 s3 t (hs35.mono hle2) (by omega) pg
              have hCr := fun ρ3 (hle : ρ2.le ρ3) => clean22_spec ρ3 s4 t ((hs4.mono hle2).mono hle) pg
              rw [hce, hcr] at hCr
              by_cases h12 : j = 12
              · rw [f1]
                repeat' (first | (refine tl_is (.func 9) ?_; refine qC rfl rfl (hF5) ?_; rintro v ρ' L' hle ⟨hl9, s5, rfl, hs5, rfl⟩ <;> (try simp only [List.cons_append, List.nil_append, List.append_eq])) | (refine iBu ?_; refine tl_y (y_buildN rfl) rfl rfl ?_) | (refine i_op ?_; first | (refine i_qq ?_; refine qQ ?_) | refine qEf ?_) | refine tl_nil ?_ | (refine i_tc ?_; refine qTc ?_) | (refine i_te ?_; refine qTe ?_) | intro _)
                rw [← f1, ← e1]
                refine te_round_g (k + 1, _, s5, t) (⟨hlt, Hp.le_trans hle05 (Hp.le_trans hle2 hl9), hs5, by dsimp only; omega⟩) ev_le ev_le rfl tk inferInstance (by first | omega | (dsimp only; omega))
              · rw [f1]
                repeat' (first | (refine tl_is (.func 17) ?_; refine qC rfl rfl (hCl) ?_; rintro v ρ' L' hle ⟨hl6, s6, rfl, hs6, rfl⟩ <;> (try simp only [List.cons_append, List.nil_append, List.append_eq])) | (refine tl_is (.func 18) ?_; refine qC rfl rfl (hCr _ hl6) ?_; rintro v ρ' L' hle ⟨hl7, s7, rfl, hs7, rfl⟩ <;> (try simp only [List.cons_append, List.nil_append, List.append_eq])) | (refine iBu ?_; refine tl_y (y_buildN rfl) rfl rfl ?_) | (refine i_op ?_; first | (refine i_qq ?_; refine qQ ?_) | refine qEf ?_) | refine tl_nil ?_ | (refine i_tc ?_; refine qTc ?_) | (refine i_te ?_; refine qTe ?_) | intro _)
                have hl67 := Hp.le_trans hle2 (Hp.le_trans hl6 hl7)
                have g1 := same22_eq _ s6 s7 _ _ rfl (hs6.mono hl7) hs7
                have g2 := same22_eq _ s3 s4 t t rfl (hs35.mono hl67) (hs4.mono hl67)
                have g3 := needs_spec _ s3 t (hs35.mono hl67) v r (hin5.mono hl67) pg
                have g4 := needs22_spec _ s4 t (hs4.mono hl67) v r (hin5.mono hl67) pg
                have g5 := needs_spec _ s d (hs15.mono hl67) v r (hin5.mono hl67) pg
                have g6 := needs22_spec _ s2 d (hs25.mono hl67) v r (hin5.mono hl67) pg
                refine tc_any (Stays _ _ ([[(_, .cells ⟨recV v r⟩ 32 (0, 0))]])) (stays_of (hT := tk) (Hp.le_refl _)) ?_
                all_goals refine rMv 0 ?_
                all_goals refine rMv 1 ?_
                all_goals refine rCm 2 ?_
                all_goals refine rMv 3 ?_
                all_goals (first | refine wSkip 4 ?_ | refine wSkipU 4 ?_ | refine wMv 4 ?_ | (refine tr_guard (t := 123) rfl (fun hb => ?_) (fun hb => ?_) <;> (try simp only [decide_eq_true_eq, decide_eq_false_iff_not, Bool.not_eq_true, Bool.not_eq_false, beq_iff_eq, bne_iff_ne, ne_eq, Bool.not_eq_eq_eq_not, Bool.not_true, Bool.not_false, beq_eq_false_iff_ne, bne_eq_false_iff_eq] at hb) <;> first | refine wSkip 4 ?_ | refine wSkipU 4 ?_ | refine wMv 4 ?_))
                all_goals (first | refine wSkip 5 ?_ | refine wSkipU 5 ?_ | refine wMv 5 ?_ | (refine tr_guard (t := 123) rfl (fun hb => ?_) (fun hb => ?_) <;> (try simp only [decide_eq_true_eq, decide_eq_false_iff_not, Bool.not_eq_true, Bool.not_eq_false, beq_iff_eq, bne_iff_ne, ne_eq, Bool.not_eq_eq_eq_not, Bool.not_true, Bool.not_false, beq_eq_false_iff_ne, bne_eq_false_iff_eq] at hb) <;> first | refine wSkip 5 ?_ | refine wSkipU 5 ?_ | refine wMv 5 ?_))
                all_goals (first | refine wSkip 6 ?_ | refine wSkipU 6 ?_ | (refine rStep (i := 6) ?_; ((try refine qWant ?_); (first | (refine tl_is (.func 16) ?_; refine qC rfl rfl (g1) ?_; rintro v ρ' L' hle ⟨rfl, rfl, rfl⟩ <;> (try simp only [List.cons_append, List.nil_append, List.append_eq])) | (refine tl_is (.func 16) ?_; refine qC rfl rfl (g2) ?_; rintro v ρ' L' hle ⟨rfl, rfl, rfl⟩ <;> (try simp only [List.cons_append, List.nil_append, List.append_eq])) | (refine qEf ?_; try intro _)) <;> ((try simp only [List.cons_append, List.nil_append, List.append_eq]); refine tl_nil ?_; refine rNext ?_))))
                all_goals (first | refine wSkip 7 ?_ | refine wSkipU 7 ?_ | refine wUn 7 ?_ | (refine tr_guard (t := 123) rfl (fun hb => ?_) (fun hb => ?_) <;> (try simp only [decide_eq_true_eq, decide_eq_false_iff_not, Bool.not_eq_true, Bool.not_eq_false, beq_iff_eq, bne_iff_ne, ne_eq, Bool.not_eq_eq_eq_not, Bool.not_true, Bool.not_false, beq_eq_false_iff_ne, bne_eq_false_iff_eq] at hb) <;> first | refine wSkip 7 ?_ | refine wSkipU 7 ?_ | refine wUn 7 ?_))
                all_goals refine rPk 8 ?_
                all_goals refine rMv 9 ?_
                all_goals (first | refine wSkip 10 ?_ | refine wSkipU 10 ?_ | refine wMv 10 ?_ | (refine tr_guard (t := 129) rfl (fun hb => ?_) (fun hb => ?_) <;> (try simp only [decide_eq_true_eq, decide_eq_false_iff_not, Bool.not_eq_true, Bool.not_eq_false, beq_iff_eq, bne_iff_ne, ne_eq, Bool.not_eq_eq_eq_not, Bool.not_true, Bool.not_false, beq_eq_false_iff_ne, bne_eq_false_iff_eq] at hb) <;> first | refine wSkip 10 ?_ | refine wSkipU 10 ?_ | refine wMv 10 ?_))
                all_goals (first | refine wSkip 11 ?_ | refine wSkipU 11 ?_ | refine wMv 11 ?_ | (refine tr_guard (t := 129) rfl (fun hb => ?_) (fun hb => ?_) <;> (try simp only [decide_eq_true_eq, decide_eq_false_iff_not, Bool.not_eq_true, Bool.not_eq_false, beq_iff_eq, bne_iff_ne, ne_eq, Bool.not_eq_eq_eq_not, Bool.not_true, Bool.not_false, beq_eq_false_iff_ne, bne_eq_false_iff_eq] at hb) <;> first | refine wSkip 11 ?_ | refine wSkipU 11 ?_ | refine wMv 11 ?_))
                all_goals (first | refine wSkip 12 ?_ | refine wSkipU 12 ?_ | (refine rStep (i := 12) ?_; ((try refine qWant ?_); (first | (refine tl_is (.func 16) ?_; refine qC rfl rfl (g1) ?_; rintro v ρ' L' hle ⟨rfl, rfl, rfl⟩ <;> (try simp only [List.cons_append, List.nil_append, List.append_eq])) | (refine tl_is (.func 16) ?_; refine qC rfl rfl (g2) ?_; rintro v ρ' L' hle ⟨rfl, rfl, rfl⟩ <;> (try simp only [List.cons_append, List.nil_append, List.append_eq])) | (refine qEf ?_; try intro _)) <;> ((try simp only [List.cons_append, List.nil_append, List.append_eq]); refine tl_nil ?_; refine rNext ?_))))
                all_goals (first | refine wSkip 13 ?_ | refine wSkipU 13 ?_ | refine wUn 13 ?_ | (refine tr_guard (t := 129) rfl (fun hb => ?_) (fun hb => ?_) <;> (try simp only [decide_eq_true_eq, decide_eq_false_iff_not, Bool.not_eq_true, Bool.not_eq_false, beq_iff_eq, bne_iff_ne, ne_eq, Bool.not_eq_eq_eq_not, Bool.not_true, Bool.not_false, beq_eq_false_iff_ne, bne_eq_false_iff_eq] at hb) <;> first | refine wSkip 13 ?_ | refine wSkipU 13 ?_ | refine wUn 13 ?_))
                all_goals refine rPk 14 ?_
                all_goals refine rMv 15 ?_
                all_goals (first | refine wSkip 16 ?_ | refine wSkipU 16 ?_ | refine wMv 16 ?_ | (refine tr_guard (t := 135) rfl (fun hb => ?_) (fun hb => ?_) <;> (try simp only [decide_eq_true_eq, decide_eq_false_iff_not, Bool.not_eq_true, Bool.not_eq_false, beq_iff_eq, bne_iff_ne, ne_eq, Bool.not_eq_eq_eq_not, Bool.not_true, Bool.not_false, beq_eq_false_iff_ne, bne_eq_false_iff_eq] at hb) <;> first | refine wSkip 16 ?_ | refine wSkipU 16 ?_ | refine wMv 16 ?_))
                all_goals (first | refine wSkip 17 ?_ | refine wSkipU 17 ?_ | refine wLd 17 ?_ | (refine tr_guard (t := 135) rfl (fun hb => ?_) (fun hb => ?_) <;> (try simp only [decide_eq_true_eq, decide_eq_false_iff_not, Bool.not_eq_true, Bool.not_eq_false, beq_iff_eq, bne_iff_ne, ne_eq, Bool.not_eq_eq_eq_not, Bool.not_true, Bool.not_false, beq_eq_false_iff_ne, bne_eq_false_iff_eq] at hb) <;> first | refine wSkip 17 ?_ | refine wSkipU 17 ?_ | refine wLd 17 ?_))
                all_goals (first | refine wSkip 18 ?_ | refine wSkipU 18 ?_ | refine wMv 18 ?_ | (refine tr_guard (t := 135) rfl (fun hb => ?_) (fun hb => ?_) <;> (try simp only [decide_eq_true_eq, decide_eq_false_iff_not, Bool.not_eq_true, Bool.not_eq_false, beq_iff_eq, bne_iff_ne, ne_eq, Bool.not_eq_eq_eq_not, Bool.not_true, Bool.not_false, beq_eq_false_iff_ne, bne_eq_false_iff_eq] at hb) <;> first | refine wSkip 18 ?_ | refine wSkipU 18 ?_ | refine wMv 18 ?_))
                all_goals (first | refine wSkip 20 ?_ | refine wSkipU 20 ?_ | refine wMv 20 ?_ | (refine tr_guard (t := 135) rfl (fun hb => ?_) (fun hb => ?_) <;> (try simp only [decide_eq_true_eq, decide_eq_false_iff_not, Bool.not_eq_true, Bool.not_eq_false, beq_iff_eq, bne_iff_ne, ne_eq, Bool.not_eq_eq_eq_not, Bool.not_true, Bool.not_false, beq_eq_false_iff_ne, bne_eq_false_iff_eq] at hb) <;> first | refine wSkip 20 ?_ | refine wSkipU 20 ?_ | refine wMv 20 ?_))
                all_goals (first | refine wSkip 21 ?_ | refine wSkipU 21 ?_ | refine wLd 21 ?_ | (refine tr_guard (t := 135) rfl (fun hb => ?_) (fun hb => ?_) <;> (try simp only [decide_eq_true_eq, decide_eq_false_iff_not, Bool.not_eq_true, Bool.not_eq_false, beq_iff_eq, bne_iff_ne, ne_eq, Bool.not_eq_eq_eq_not, Bool.not_true, Bool.not_false, beq_eq_false_iff_ne, bne_eq_false_iff_eq] at hb) <;> first | refine wSkip 21 ?_ | refine wSkipU 21 ?_ | refine wLd 21 ?_))
                all_goals (first | refine wSkip 22 ?_ | refine wSkipU 22 ?_ | refine wMv 22 ?_ | (refine tr_guard (t := 135) rfl (fun hb => ?_) (fun hb => ?_) <;> (try simp only [decide_eq_true_eq, decide_eq_false_iff_not, Bool.not_eq_true, Bool.not_eq_false, beq_iff_eq, bne_iff_ne, ne_eq, Bool.not_eq_eq_eq_not, Bool.not_true, Bool.not_false, beq_eq_false_iff_ne, bne_eq_false_iff_eq] at hb) <;> first | refine wSkip 22 ?_ | refine wSkipU 22 ?_ | refine wMv 22 ?_))
                all_goals (first | refine wSkip 19 ?_ | refine wSkipU 19 ?_ | (refine rStep (i := 19) ?_; ((try refine qWant ?_); (first | (refine tl_is (.func 19) ?_; refine qC rfl rfl (g3) ?_; rintro v ρ' L' hle ⟨rfl, rfl, rfl⟩ <;> (try simp only [List.cons_append, List.nil_append, List.append_eq])) | (refine tl_is (.func 19) ?_; refine qC rfl rfl (g5) ?_; rintro v ρ' L' hle ⟨rfl, rfl, rfl⟩ <;> (try simp only [List.cons_append, List.nil_append, List.append_eq])) | (refine qEf ?_; try intro _)) <;> ((try simp only [List.cons_append, List.nil_append, List.append_eq]); refine tl_nil ?_; refine rNext ?_))))
                all_goals (first | refine wSkip 23 ?_ | refine wSkipU 23 ?_ | (refine rStep (i := 23) ?_; ((try refine qWant ?_); (first | (refine tl_is (.func 20) ?_; refine qC rfl rfl (g4) ?_; rintro v ρ' L' hle ⟨rfl, rfl, rfl⟩ <;> (try simp only [List.cons_append, List.nil_append, List.append_eq])) | (refine tl_is (.func 20) ?_; refine qC rfl rfl (g6) ?_; rintro v ρ' L' hle ⟨rfl, rfl, rfl⟩ <;> (try simp only [List.cons_append, List.nil_append, List.append_eq])) | (refine qEf ?_; try intro _)) <;> ((try simp only [List.cons_append, List.nil_append, List.append_eq]); refine tl_nil ?_; refine rNext ?_))))
                all_goals (first | refine wSkip 24 ?_ | refine wSkipU 24 ?_ | refine wCm 24 ?_ | (refine tr_guard (t := 135) rfl (fun hb => ?_) (fun hb => ?_) <;> (try simp only [decide_eq_true_eq, decide_eq_false_iff_not, Bool.not_eq_true, Bool.not_eq_false, beq_iff_eq, bne_iff_ne, ne_eq, Bool.not_eq_eq_eq_not, Bool.not_true, Bool.not_false, beq_eq_false_iff_ne, bne_eq_false_iff_eq] at hb) <;> first | refine wSkip 24 ?_ | refine wSkipU 24 ?_ | refine wCm 24 ?_))
                all_goals refine rPk 25 ?_
                all_goals refine rMv 26 ?_
                all_goals (first | refine wSkip 27 ?_ | refine wSkipU 27 ?_ | refine wMv 27 ?_ | (refine tr_guard (t := 146) rfl (fun hb => ?_) (fun hb => ?_) <;> (try simp only [decide_eq_true_eq, decide_eq_false_iff_not, Bool.not_eq_true, Bool.not_eq_false, beq_iff_eq, bne_iff_ne, ne_eq, Bool.not_eq_eq_eq_not, Bool.not_true, Bool.not_false, beq_eq_false_iff_ne, bne_eq_false_iff_eq] at hb) <;> first | refine wSkip 27 ?_ | refine wSkipU 27 ?_ | refine wMv 27 ?_))
                all_goals (first | refine wSkip 28 ?_ | refine wSkipU 28 ?_ | refine wLd 28 ?_ | (refine tr_guard (t := 146) rfl (fun hb => ?_) (fun hb => ?_) <;> (try simp only [decide_eq_true_eq, decide_eq_false_iff_not, Bool.not_eq_true, Bool.not_eq_false, beq_iff_eq, bne_iff_ne, ne_eq, Bool.not_eq_eq_eq_not, Bool.not_true, Bool.not_false, beq_eq_false_iff_ne, bne_eq_false_iff_eq] at hb) <;> first | refine wSkip 28 ?_ | refine wSkipU 28 ?_ | refine wLd 28 ?_))
                all_goals (first | refine wSkip 29 ?_ | refine wSkipU 29 ?_ | refine wMv 29 ?_ | (refine tr_guard (t := 146) rfl (fun hb => ?_) (fun hb => ?_) <;> (try simp only [decide_eq_true_eq, decide_eq_false_iff_not, Bool.not_eq_true, Bool.not_eq_false, beq_iff_eq, bne_iff_ne, ne_eq, Bool.not_eq_eq_eq_not, Bool.not_true, Bool.not_false, beq_eq_false_iff_ne, bne_eq_false_iff_eq] at hb) <;> first | refine wSkip 29 ?_ | refine wSkipU 29 ?_ | refine wMv 29 ?_))
                all_goals (first | refine wSkip 31 ?_ | refine wSkipU 31 ?_ | refine wMv 31 ?_ | (refine tr_guard (t := 146) rfl (fun hb => ?_) (fun hb => ?_) <;> (try simp only [decide_eq_true_eq, decide_eq_false_iff_not, Bool.not_eq_true, Bool.not_eq_false, beq_iff_eq, bne_iff_ne, ne_eq, Bool.not_eq_eq_eq_not, Bool.not_true, Bool.not_false, beq_eq_false_iff_ne, bne_eq_false_iff_eq] at hb) <;> first | refine wSkip 31 ?_ | refine wSkipU 31 ?_ | refine wMv 31 ?_))
                all_goals (first | refine wSkip 32 ?_ | refine wSkipU 32 ?_ | refine wLd 32 ?_ | (refine tr_guard (t := 146) rfl (fun hb => ?_) (fun hb => ?_) <;> (try simp only [decide_eq_true_eq, decide_eq_false_iff_not, Bool.not_eq_true, Bool.not_eq_false, beq_iff_eq, bne_iff_ne, ne_eq, Bool.not_eq_eq_eq_not, Bool.not_true, Bool.not_false, beq_eq_false_iff_ne, bne_eq_false_iff_eq] at hb) <;> first | refine wSkip 32 ?_ | refine wSkipU 32 ?_ | refine wLd 32 ?_))
                all_goals (first | refine wSkip 33 ?_ | refine wSkipU 33 ?_ | refine wMv 33 ?_ | (refine tr_guard (t := 146) rfl (fun hb => ?_) (fun hb => ?_) <;> (try simp only [decide_eq_true_eq, decide_eq_false_iff_not, Bool.not_eq_true, Bool.not_eq_false, beq_iff_eq, bne_iff_ne, ne_eq, Bool.not_eq_eq_eq_not, Bool.not_true, Bool.not_false, beq_eq_false_iff_ne, bne_eq_false_iff_eq] at hb) <;> first | refine wSkip 33 ?_ | refine wSkipU 33 ?_ | refine wMv 33 ?_))
                all_goals (first | refine wSkip 30 ?_ | refine wSkipU 30 ?_ | (refine rStep (i := 30) ?_; ((try refine qWant ?_); (first | (refine tl_is (.func 19) ?_; refine qC rfl rfl (g3) ?_; rintro v ρ' L' hle ⟨rfl, rfl, rfl⟩ <;> (try simp only [List.cons_append, List.nil_append, List.append_eq])) | (refine tl_is (.func 19) ?_; refine qC rfl rfl (g5) ?_; rintro v ρ' L' hle ⟨rfl, rfl, rfl⟩ <;> (try simp only [List.cons_append, List.nil_append, List.append_eq])) | (refine qEf ?_; try intro _)) <;> ((try simp only [List.cons_append, List.nil_append, List.append_eq]); refine tl_nil ?_; refine rNext ?_))))
                all_goals (first | refine wSkip 34 ?_ | refine wSkipU 34 ?_ | (refine rStep (i := 34) ?_; ((try refine qWant ?_); (first | (refine tl_is (.func 20) ?_; refine qC rfl rfl (g4) ?_; rintro v ρ' L' hle ⟨rfl, rfl, rfl⟩ <;> (try simp only [List.cons_append, List.nil_append, List.append_eq])) | (refine tl_is (.func 20) ?_; refine qC rfl rfl (g6) ?_; rintro v ρ' L' hle ⟨rfl, rfl, rfl⟩ <;> (try simp only [List.cons_append, List.nil_append, List.append_eq])) | (refine qEf ?_; try intro _)) <;> ((try simp only [List.cons_append, List.nil_append, List.append_eq]); refine tl_nil ?_; refine rNext ?_))))
                all_goals refine rFull ?_
                all_goals (first | refine wSkip 35 ?_ | refine wSkipU 35 ?_ | refine wCm 35 ?_ | (refine tr_guard (t := 146) rfl (fun hb => ?_) (fun hb => ?_) <;> (try simp only [decide_eq_true_eq, decide_eq_false_iff_not, Bool.not_eq_true, Bool.not_eq_false, beq_iff_eq, bne_iff_ne, ne_eq, Bool.not_eq_eq_eq_not, Bool.not_true, Bool.not_false, beq_eq_false_iff_ne, bne_eq_false_iff_eq] at hb) <;> first | refine wSkip 35 ?_ | refine wSkipU 35 ?_ | refine wCm 35 ?_))
                all_goals refine rPk 36 ?_
                all_goals refine rDone ?_
                all_goals (repeat' (first | (refine iBu ?_; refine tl_y (y_buildN rfl) rfl rfl ?_) | (refine i_op ?_; first | (refine i_qq ?_; refine qQ ?_) | refine qEf ?_) | refine tl_nil ?_ | (refine i_tc ?_; refine qTc ?_) | (refine i_te ?_; refine qTe ?_) | intro _))
                all_goals rw [← f1]
                all_goals refine te_round_g (j + 1, _) (⟨hltj, hl67⟩) ev_le ev_le rfl tk inferInstance (by first | omega | (dsimp only; omega))
            · repeat' (first | (refine tl_is (.func 9) ?_; refine qC rfl rfl (hF5) ?_; rintro v ρ' L' hle ⟨hl9, s5, rfl, hs5, rfl⟩ <;> (try simp only [List.cons_append, List.nil_append, List.append_eq])) | (refine iBu ?_; refine tl_y (y_buildN rfl) rfl rfl ?_) | (refine i_op ?_; first | (refine i_qq ?_; refine qQ ?_) | refine qEf ?_) | refine tl_nil ?_ | (refine i_tc ?_; refine qTc ?_) | (refine i_te ?_; refine qTe ?_) | intro _)
              rw [← e1]
              refine te_round_g (k + 1, _, s5, t) (⟨hlt, Hp.le_trans hle05 (Hp.le_trans hle2 hl9), hs5, by dsimp only; omega⟩) ev_le ev_le rfl tk inferInstance (by first | omega | (dsimp only; omega))
      · rw [ho] at hov
        repeat' (first | (refine tl_is (.func 10) ?_; refine qC rfl rfl (hov) ?_; rintro v ρ' L' hle ⟨rfl, rfl, rfl⟩ <;> (try simp only [List.cons_append, List.nil_append, List.append_eq])) | (refine iBu ?_; refine tl_y (y_buildN rfl) rfl rfl ?_) | (refine i_op ?_; first | (refine i_qq ?_; refine qQ ?_) | refine qEf ?_) | refine tl_nil ?_ | (refine i_tc ?_; refine qTc ?_) | (refine i_te ?_; refine qTe ?_) | intro _)
        rw [← e1]
        refine te_round_g (k + 1, _, s, d) (⟨hlt, hle0, hs, hd66⟩) ev_le ev_le rfl tk inferInstance (by first | omega | (dsimp only; omega))
  · repeat' (first | (refine iBu ?_; refine tl_y (y_buildN rfl) rfl rfl ?_) | (refine i_op ?_; first | (refine i_qq ?_; refine qQ ?_) | refine qEf ?_) | refine tl_nil ?_ | (refine i_tc ?_; refine qTc ?_) | (refine i_te ?_; refine qTe ?_) | intro _)
    exact qE (L' := []) ⟨rfl, hle0, rfl⟩
end Go.Proofs.E

namespace Go.Proofs.E
open Go Go.RowKit
set_option linter.unusedVariables false
set_option linter.unusedSimpArgs false
set_option linter.unusedSectionVars false
set_option maxRecDepth 8000
/-! ## rosters that came in -/
structure RosW (ρ : Hp) (v : SV) (r : Ros) : Prop where
  at' : AW ρ 7 txV v r.txns
  tx : ∀ x ∈ r.txns, Tx.In ρ x
theorem RosW.in' {ρ v r} (h : RosW ρ v r) (hn : v.n ≤ 1000000) : RosIn ρ v r := ⟨⟨h.at'.at', hn, h.at'.cap⟩, h.tx⟩
theorem RosW.mono {ρ ρ' v r} (h : RosW ρ v r) (hle : ρ.le ρ') : RosW ρ' v r := ⟨h.at'.mono hle, fun x hx => (h.tx x hx).mono hle⟩
theorem sIn_ofA {ρ : Hp} {α : Type} {g : α → Value} {a : Option Addr} {n : Nat} {l : List α} (h : AIn ρ 1 (fun x => [g x]) a n l) : SIn ρ g a n l := by
  refine ⟨h.len, ?_⟩
  rcases h.out with h0 | ⟨b, off, C, T, fr, e1, e2, e3, e4⟩
  · exact .inl h0
  · right
    refine ⟨b, off, C, T, fr, e1, e2, ?_⟩
    have key : ∀ l : List α, (l.map (fun x => [g x])).flatten = l.map g := fun l => by
      induction l with
      | nil => rfl
      | cons a r ih => simp only [List.map_cons, List.flatten_cons, ih, List.singleton_append]
    have := key l
    rw [← this, ← e4]; simp
end Go.Proofs.E

namespace Go.Proofs.E
open Go Go.RowKit
set_option linter.unusedVariables false
set_option linter.unusedSimpArgs false
set_option linter.unusedSectionVars false
section
variable {H : Type} {enc : TypeId × Value → H} {w : World}
theorem opnS_i64 : OpnS enc Try.prog w 3 (fun cs (x : Int) => cs = [i64c x] ∧ i64in x) := fun fuel cs x h hw => by
  obtain ⟨k, h0, k0, k1⟩ := (opn_int Try.underlying3).sized fuel cs x h hw
  refine ⟨k, h0, ?_⟩
  simp only [lo, hi] at k0 k1; omega
end
end Go.Proofs.E

