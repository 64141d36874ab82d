/- The law RecordCosts. Part 1 of 9. -/
import Derived.Test.YtbchgeledcfklaaGreatJ9
namespace Go.Proofs.E
open Go
set_option linter.unusedVariables false
set_option linter.unusedSimpArgs false
set_option linter.unusedSectionVars false
set_option maxRecDepth 4000
set_option maxHeartbeats 1000000
attribute [local irreducible] Yl TL TC TE Spec YSpec R1 Hp.le EnvLe TS TR YS Stays
theorem images_spec (ρ : Hp) (s : SV) (l : List Im) (h : AS ρ 7 imV s l) (him : ∀ x ∈ l, Im.In ρ x) (before : Bool) :
    Spec Tryz.prog 179 [.slice s.a s.n s.c, .bool before] ρ [] (fun v ρ' L' => v = .bool (imsOk before l) ∧ ρ' = ρ ∧ L' = []) := by
  have hl := h.at'.len
  have hr := fun bx => risesIm_spec ρ s.a s.n s.c l h.at' h.big bx before him
  refine spec_enter Tryz.func179 rfl rfl rfl fun u R => ?_
  simp only [argsE, List.cons_append, List.nil_append]
  unfold imsOk
  by_cases h16 : s.n ≤ 16
  · rw [decide_eq_true (show l.length ≤ 16 by omega), Bool.true_and]
    repeat' (first | (refine tl_is (.func 233) ?_; refine qC rfl rfl (hr _) ?_; rintro v ρ' L' hle ⟨rfl, rfl, rfl⟩ <;> (try simp only [kM, kN, kO])) | (refine i_op ?_; first | (refine i_qq ?_; refine qQ ?_) | refine qEf ?_) | refine tl_nil ?_ | (refine i_tc ?_; refine qTc ?_) | (refine i_te ?_; refine qTe ?_) | intro _)
    exact qE (L' := []) ⟨rfl, rfl, rfl⟩
  · rw [decide_eq_false (show ¬ l.length ≤ 16 by omega), Bool.false_and]
    repeat' (first | (refine i_op ?_; first | (refine i_qq ?_; refine qQ ?_) | refine qEf ?_) | refine tl_nil ?_ | (refine i_tc ?_; refine qTc ?_) | (refine i_te ?_; refine qTe ?_) | intro _)
    exact qE (L' := []) ⟨rfl, rfl, rfl⟩
theorem rowV_only (r : Row) : decide (r = ⟨r.t, r.id, 0, []⟩) = decide (r.val = 0 ∧ r.note = []) := by
  obtain ⟨t, i, v, n⟩ := r
  simp
theorem step_spec (ρ : Hp) (s : Stp) : Spec Tryz.prog 182 [.agg ⟨stpV s⟩] ρ [] (fun v ρ' L' => v = .bool (stepOk s) ∧ ρ' = ρ ∧ L' = []) := by
  obtain ⟨kind, row, bb⟩ := s
  have hck := checkRow_spec ρ row
  have ho := rowV_only row
  unfold stepOk onlyOk
  dsimp only
  generalize hP : decide (row.val = 0 ∧ row.note = []) = P at *
  generalize hQ : rowOk row = Q at *
  refine spec_enter Tryz.func182 rfl rfl rfl fun u R => ?_
  simp only [argsE, List.cons_append, List.nil_append]
  cases P <;> cases Q
  all_goals (repeat' (first | (refine iBu ?_; refine tl_y (v := .agg ⟨rowV ⟨row.t, row.id, 0, []⟩⟩) (y_build rfl rfl) rfl rfl ?_) | (refine iCm ?_; refine tl_y (y_eqc_l rfl rfl ho) rfl rfl ?_) | (refine tl_is (.func 238) ?_; refine qC rfl rfl (hck) ?_; rintro v ρ' L' hle ⟨rfl, rfl, rfl⟩ <;> (try simp only [kM, kN, kO])) | (refine i_op ?_; first | (refine i_qq ?_; refine qQ ?_) | refine qEf ?_) | refine tl_nil ?_ | (refine i_tc ?_; refine qTc ?_) | (refine i_te ?_; refine qTe ?_) | (refine i_gd ?_; refine tl_guard rfl rfl (fun hb => ?_) (fun hb => ?_) <;> (try simp only [decide_eq_true_eq, decide_eq_false_iff_not, Bool.not_eq_true, Bool.not_eq_false, beq_iff_eq, bne_iff_ne, ne_eq, decide_eq_decide, Bool.not_eq_eq_eq_not, Bool.not_true, Bool.not_false, beq_eq_false_iff_ne, bne_eq_false_iff_eq, Bool.and_eq_true, Bool.or_eq_true, Bool.and_eq_false_imp, Bool.or_eq_false_iff] at hb)) | (refine i_cond ?_; refine tc_cond rfl (fun hb => ?_) (fun hb => ?_) <;> (try simp only [decide_eq_true_eq, decide_eq_false_iff_not, Bool.not_eq_true, Bool.not_eq_false, beq_iff_eq, bne_iff_ne, ne_eq, decide_eq_decide, Bool.not_eq_eq_eq_not, Bool.not_true, Bool.not_false, beq_eq_false_iff_ne, bne_eq_false_iff_eq, Bool.and_eq_true, Bool.or_eq_true, Bool.and_eq_false_imp, Bool.or_eq_false_iff] at hb)) | intro _))
  all_goals (refine qF (L' := []) ?_; exact ⟨bool_eq (by clear ho hck; (repeat' split) <;> simp_all <;> omega), rfl, rfl⟩)
end Go.Proofs.E

namespace Go.Proofs.E
open Go
set_option linter.unusedVariables false
set_option linter.unusedSimpArgs false
set_option linter.unusedSectionVars false
set_option maxRecDepth 4000
set_option maxHeartbeats 1000000
attribute [local irreducible] Yl TL TC TE Spec YSpec R1 Hp.le EnvLe TS TR YS Stays
/-! ## the first one that is so -/
def idxI {α : Type} (p : α → Bool) (l : List α) : Int := match l.findIdx? p with | some i => (i : Int) | none => -1
theorem idx_found {α : Type} {p : α → Bool} {l : List α} {k : Nat} (h : k < l.length) (hp : p l[k] = true) (hn : ∀ x ∈ l.take k, p x = false) : l.findIdx? p = some k := by
  rw [List.findIdx?_eq_some_iff_getElem]
  refine ⟨h, hp, fun j hj => ?_⟩
  have := hn l[j] (List.mem_take_iff_getElem.2 ⟨j, by omega, rfl⟩)
  simp [this]
theorem idx_none {α : Type} {p : α → Bool} {l : List α} (hn : ∀ x ∈ l, p x = false) : l.findIdx? p = none := by
  rw [List.findIdx?_eq_none_iff]
  exact hn
theorem take_more {α : Type} {p : α → Prop} {l : List α} {k : Nat} (h : k < l.length) (hp : p l[k]) (hn : ∀ x ∈ l.take k, p x) : ∀ x ∈ l.take (k + 1), p x := fun x hx => by
  rw [List.take_succ_eq_append_getElem h] at hx
  rcases List.mem_append.1 hx with hx | hx
  · exact hn x hx
  · rw [List.mem_singleton.1 hx]; exact hp
theorem done1_spec (ρ : Hp) (s : Stp) : Spec Tryz.prog 181 [.agg ⟨stpV s⟩] ρ [] (fun v ρ' L' => v = .bool (!stepOk s) ∧ ρ' = ρ ∧ L' = []) := by
  refine spec_enter Tryz.func181 rfl rfl rfl fun u R => ?_
  simp only [argsE, List.cons_append, List.nil_append]
  repeat' (first | (refine tl_is (.func 182) ?_; refine qC rfl rfl (step_spec _ s) ?_; rintro v ρ' L' hle ⟨rfl, rfl, rfl⟩ <;> (try simp only [kM, kN, kO])) | (refine i_op ?_; first | (refine i_qq ?_; refine qQ ?_) | refine qEf ?_) | refine tl_nil ?_ | (refine i_tc ?_; refine qTc ?_) | (refine i_te ?_; refine qTe ?_) | intro _)
  exact qE ⟨rfl, rfl, rfl⟩
theorem idxStp_spec (ρ : Hp) (a : Option Addr) (n c : Nat) (l : List Stp) (h : AIn ρ 6 stpV a n l) (hn : n ≤ 1000000)  :
    Spec Tryz.prog 237 [.slice a n c, .func (.func 181) ⟨[]⟩ ⟨[]⟩] ρ [] (fun z ρ' L' => z = .int .i64 (idxI (fun s : Stp => !stepOk s) l) ∧ ρ' = ρ ∧ L' = []) := by
  have hl := h.len
  generalize hP : (fun s : Stp => !stepOk s) = pp
  refine spec_enter Tryz.func237 rfl rfl rfl fun u R => ?_
  simp only [argsE, List.cons_append, List.nil_append]
  repeat' (first | (refine i_op ?_; first | (refine i_qq ?_; refine qQ ?_) | refine qEf ?_) | refine tl_nil ?_ | (refine i_tc ?_; refine qTc ?_) | (refine i_te ?_; refine qTe ?_) | intro _)
  refine tc_loop_g [(0, _), (1, _), (7, _)] (fun (ζ : (Nat)) => [(8, .int .i64 ζ), (4, .int .i64 0)]) (fun (ζ : (Nat)) => ρ) (fun (ζ : (Nat)) => []) (fun (ζ : (Nat)) => ζ ≤ n ∧ ∀ x ∈ l.take ζ, pp x = false) (fun (ζ : (Nat)) => n - ζ) (0) (⟨Nat.zero_le _, by simp⟩) ev_le ev_le rfl tk ?_
  rintro k hI
  try simp only [List.cons_append, List.nil_append, List.append_assoc, List.append_eq] at hI ⊢
  try dsimp only at hI ⊢
  obtain ⟨hk, hok⟩ := hI
  by_cases hlt : k < n
  · obtain ⟨b, off, C, T, fr, rfl, hb, hfit, hc⟩ := h.get (show k < l.length by omega)
    have hf := fun (e : pp l[k] = true) => idx_found (p := pp) (show k < l.length by omega) e hok
    have ht := fun (e : pp l[k] = false) => take_more (p := fun x => pp x = false) (show k < l.length by omega) e hok
    have hp : pp l[k] = (fun s : Stp => !stepOk s) l[k] := by rw [hP]
    cases hx : pp l[k]
    · have hok2 := ht hx
      rw [hx] at hp
      generalize l[k] = x at *
      repeat' (first | (refine tl_is (.tmp 11) ?_; refine qC rfl rfl (done1_spec _ _) ?_; rintro v ρ' L' hle ⟨rfl, rfl, rfl⟩ <;> (try simp only [kM, kN, kO, ← hp, Bool.not_true, Bool.not_false])) | (refine i_op ?_; first | (refine i_qq ?_; refine qQ ?_) | refine qEf ?_) | refine tl_nil ?_ | (refine i_tc ?_; refine qTc ?_) | (refine i_te ?_; refine qTe ?_) | intro _)
      refine te_round_g (k + 1) (⟨hlt, hok2⟩) ev_le ev_le rfl tk inferInstance (by first | omega | (dsimp only; omega))
    · have e := hf hx
      rw [hx] at hp
      have e2 : idxI pp l = (k : Int) := by unfold idxI; rw [e]
      rw [e2]
      generalize l[k] = x at *
      repeat' (first | (refine tl_is (.tmp 11) ?_; refine qC rfl rfl (done1_spec _ _) ?_; rintro v ρ' L' hle ⟨rfl, rfl, rfl⟩ <;> (try simp only [kM, kN, kO, ← hp, Bool.not_true, Bool.not_false])) | (refine i_op ?_; first | (refine i_qq ?_; refine qQ ?_) | refine qEf ?_) | refine tl_nil ?_ | (refine i_tc ?_; refine qTc ?_) | (refine i_te ?_; refine qTe ?_) | intro _)
      exact qE (L' := []) ⟨rfl, rfl, rfl⟩
  · have hk2 : k = l.length := by omega
    rw [hk2, List.take_length] at hok
    have e2 : idxI pp l = -1 := by unfold idxI; rw [idx_none hok]
    rw [e2]
    repeat' (first | (refine i_op ?_; first | (refine i_qq ?_; refine qQ ?_) | refine qEf ?_) | refine tl_nil ?_ | (refine i_tc ?_; refine qTc ?_) | (refine i_te ?_; refine qTe ?_) | intro _)
    exact qE (L' := []) ⟨rfl, rfl, rfl⟩
theorem contains_spec (ρ : Hp) (a : Option Addr) (n c : Nat) (l : List Stp) (h : AIn ρ 6 stpV a n l) (hn : n ≤ 1000000) :
    Spec Tryz.prog 180 [.slice a n c, .func (.func 181) ⟨[]⟩ ⟨[]⟩] ρ [] (fun z ρ' L' => z = .bool (!(l.all stepOk)) ∧ ρ' = ρ ∧ L' = []) := by
  have hi := idxStp_spec ρ a n c l h hn
  have e : decide (0 ≤ idxI (fun s => !stepOk s) l) = !(l.all stepOk) := by
    unfold idxI
    cases hf : l.findIdx? (fun s => !stepOk s) with
    | none =>
      rw [List.findIdx?_eq_none_iff] at hf
      have : l.all stepOk = true := List.all_eq_true.2 (fun x hx => by have := hf x hx; simpa using this)
      rw [this]; rfl
    | some i =>
      obtain ⟨h1, h2, _⟩ := List.findIdx?_eq_some_iff_getElem.1 hf
      have : l.all stepOk = false := by
        rw [List.all_eq_false]
        exact ⟨_, List.getElem_mem h1, by simpa using h2⟩
      rw [this]; simp
  rw [← e]
  generalize idxI (fun s => !stepOk s) l = q at *
  refine spec_enter Tryz.func180 rfl rfl rfl fun u R => ?_
  simp only [argsE, List.cons_append, List.nil_append]
  repeat' (first | (refine tl_is (.func 237) ?_; refine qC rfl rfl (hi) ?_; rintro v ρ' L' hle ⟨rfl, rfl, rfl⟩ <;> (try simp only [kM, kN, kO])) | (refine i_op ?_; first | (refine i_qq ?_; refine qQ ?_) | refine qEf ?_) | refine tl_nil ?_ | (refine i_tc ?_; refine qTc ?_) | (refine i_te ?_; refine qTe ?_) | intro _)
  refine qF (L' := []) ?_
  exact ⟨bool_eq (by simp), rfl, rfl⟩
abbrev nilS : SV := ⟨none, 0, 0⟩
theorem bare_spec (ρ : Hp) (v : RV) (r : Rc) (hi : v.i.n ≤ 1000000) (hs : v.s.n ≤ 1000000) (ht : v.t.n ≤ 1000000) (hd : v.d.n ≤ 1000000) : Spec Tryz.prog 106 [.agg ⟨recV v r⟩] ρ []
    (fun z ρ' L' => z = .bool (decide (r.next = 0 ∧ v.i.n = 0 ∧ v.s.n = 0 ∧ v.t.n = 0 ∧ v.d.n = 0 ∧ r.nextTxn = 0)) ∧ ρ' = ρ ∧ L' = []) := by
  refine spec_enter Tryz.func106 rfl rfl rfl fun u R => ?_
  simp only [argsE, List.cons_append, List.nil_append]
  repeat' (first | (refine i_op ?_; first | (refine i_qq ?_; refine qQ ?_) | refine qEf ?_) | refine tl_nil ?_ | (refine i_tc ?_; refine qTc ?_) | (refine i_te ?_; refine qTe ?_) | (refine i_gd ?_; refine tl_guard rfl rfl (fun hb => ?_) (fun hb => ?_) <;> (try simp only [decide_eq_true_eq, decide_eq_false_iff_not, Bool.not_eq_true, Bool.not_eq_false, beq_iff_eq, bne_iff_ne, ne_eq, decide_eq_decide, Bool.not_eq_eq_eq_not, Bool.not_true, Bool.not_false, beq_eq_false_iff_ne, bne_eq_false_iff_eq, Bool.and_eq_true, Bool.or_eq_true, Bool.and_eq_false_imp, Bool.or_eq_false_iff] at hb)) | (refine i_cond ?_; refine tc_cond rfl (fun hb => ?_) (fun hb => ?_) <;> (try simp only [decide_eq_true_eq, decide_eq_false_iff_not, Bool.not_eq_true, Bool.not_eq_false, beq_iff_eq, bne_iff_ne, ne_eq, decide_eq_decide, Bool.not_eq_eq_eq_not, Bool.not_true, Bool.not_false, beq_eq_false_iff_ne, bne_eq_false_iff_eq, Bool.and_eq_true, Bool.or_eq_true, Bool.and_eq_false_imp, Bool.or_eq_false_iff] at hb)) | intro _)
  all_goals (refine qF (L' := []) ?_; exact ⟨bool_eq (by (try simp [*]); first | done | omega | (intros; omega) | (constructor <;> intros <;> (try simp_all) <;> omega)), rfl, rfl⟩)
theorem aplain_spec (ρ : Hp) (ab : Nat) (v : RV) (r : Rc) : Spec Tryz.prog 100 [.pointer (some ⟨ab, 0, none⟩)] ρ [askC ab v r] (fun z ρ' L' => z = .bool true ∧ ρ' = ρ ∧ L' = [askC ab v r]) := by
  refine spec_enter Tryz.func100 rfl rfl rfl fun u R => ?_
  simp only [argsE, List.cons_append, List.nil_append]
  repeat' (first | (refine i_op ?_; first | (refine i_qq ?_; refine qQ ?_) | refine qEf ?_) | refine tl_nil ?_ | (refine i_tc ?_; refine qTc ?_) | (refine i_te ?_; refine qTe ?_) | intro _)
  exact qE (L' := [askC ab v r]) ⟨rfl, rfl, rfl⟩
theorem achange_spec (ρ : Hp) (ab : Nat) (v : RV) (r : Rc) (h : RcIn ρ v r) : Spec Tryz.prog 101 [.pointer (some ⟨ab, 0, none⟩)] ρ [askC ab v r]
    (fun z ρ' L' => z = .bool (decide (0 < r.ims.length) && imsOk true r.ims) ∧ ρ' = ρ ∧ L' = [askC ab { v with i := nilS } r]) := by
  have hl := h.i.at'.len
  have him := images_spec ρ v.i r.ims h.i h.im true
  refine spec_enter Tryz.func101 rfl rfl rfl fun u R => ?_
  simp only [argsE, List.cons_append, List.nil_append]
  by_cases h0 : 0 < v.i.n
  · rw [decide_eq_true (show 0 < r.ims.length by omega), Bool.true_and]
    repeat' (first | (refine tl_is (.func 179) ?_; refine qC rfl rfl (him) ?_; rintro v ρ' L' hle ⟨rfl, rfl, rfl⟩ <;> (try simp only [kM, kN, kO])) | (refine i_op ?_; first | (refine i_qq ?_; refine qQ ?_) | refine qEf ?_) | refine tl_nil ?_ | (refine i_tc ?_; refine qTc ?_) | (refine i_te ?_; refine qTe ?_) | intro _)
    exact qE (L' := [askC ab { v with i := nilS } r]) ⟨rfl, rfl, rfl⟩
  · rw [decide_eq_false (show ¬ 0 < r.ims.length by omega), Bool.false_and]
    repeat' (first | (refine i_op ?_; first | (refine i_qq ?_; refine qQ ?_) | refine qEf ?_) | refine tl_nil ?_ | (refine i_tc ?_; refine qTc ?_) | (refine i_te ?_; refine qTe ?_) | intro _)
    exact qE (L' := [askC ab { v with i := nilS } r]) ⟨rfl, rfl, rfl⟩
theorem anested_spec (ρ : Hp) (ab : Nat) (v : RV) (r : Rc) : Spec Tryz.prog 102 [.pointer (some ⟨ab, 0, none⟩)] ρ [askC ab v r]
    (fun z ρ' L' => z = .bool (decide (r.next < r.prev)) ∧ ρ' = ρ ∧ L' = [askC ab v { r with next := 0 }]) := by
  refine spec_enter Tryz.func102 rfl rfl rfl fun u R => ?_
  simp only [argsE, List.cons_append, List.nil_append]
  repeat' (first | (refine i_op ?_; first | (refine i_qq ?_; refine qQ ?_) | refine qEf ?_) | refine tl_nil ?_ | (refine i_tc ?_; refine qTc ?_) | (refine i_te ?_; refine qTe ?_) | intro _)
  refine qF (L' := [askC ab v { r with next := 0 }]) ?_
  exact ⟨bool_eq (by simp), rfl, rfl⟩
theorem adone_spec (ρ : Hp) (ab : Nat) (v : RV) (r : Rc) (h : RcIn ρ v r) : Spec Tryz.prog 103 [.pointer (some ⟨ab, 0, none⟩)] ρ [askC ab v r]
    (fun z ρ' L' => z = .bool (decide (r.next < r.prev) && (decide (0 < r.steps.length ∧ r.steps.length ≤ 2) && r.steps.all stepOk)) ∧ ρ' = ρ ∧ L' = [askC ab { v with s := nilS } { r with next := 0 }]) := by
  have hl := h.s.at'.len
  have hco := contains_spec ρ v.s.a v.s.n v.s.c r.steps h.s.at' h.s.big
  have hne := anested_spec ρ ab { v with s := nilS } r
  rw [hl]
  generalize r.steps.all stepOk = q at *
  refine spec_enter Tryz.func103 rfl rfl rfl fun u R => ?_
  simp only [argsE, List.cons_append, List.nil_append]
  repeat' (first | (refine tl_is (.func 102) ?_; refine qC rfl rfl (hne) ?_; rintro v ρ' L' hle ⟨rfl, rfl, rfl⟩ <;> (try simp only [kM, kN, kO])) | (refine tl_is (.func 180) ?_; refine qC rfl rfl (hco) ?_; rintro v ρ' L' hle ⟨rfl, rfl, rfl⟩ <;> (try simp only [kM, kN, kO])) | (refine i_op ?_; first | (refine i_qq ?_; refine qQ ?_) | refine qEf ?_) | refine tl_nil ?_ | (refine i_tc ?_; refine qTc ?_) | (refine i_te ?_; refine qTe ?_) | (refine i_gd ?_; refine tl_guard rfl rfl (fun hb => ?_) (fun hb => ?_) <;> (try simp only [decide_eq_true_eq, decide_eq_false_iff_not, Bool.not_eq_true, Bool.not_eq_false, beq_iff_eq, bne_iff_ne, ne_eq, decide_eq_decide, Bool.not_eq_eq_eq_not, Bool.not_true, Bool.not_false, beq_eq_false_iff_ne, bne_eq_false_iff_eq, Bool.and_eq_true, Bool.or_eq_true, Bool.and_eq_false_imp, Bool.or_eq_false_iff] at hb)) | (refine i_cond ?_; refine tc_cond rfl (fun hb => ?_) (fun hb => ?_) <;> (try simp only [decide_eq_true_eq, decide_eq_false_iff_not, Bool.not_eq_true, Bool.not_eq_false, beq_iff_eq, bne_iff_ne, ne_eq, decide_eq_decide, Bool.not_eq_eq_eq_not, Bool.not_true, Bool.not_false, beq_eq_false_iff_ne, bne_eq_false_iff_eq, Bool.and_eq_true, Bool.or_eq_true, Bool.and_eq_false_imp, Bool.or_eq_false_iff] at hb)) | intro _)
  all_goals (refine qF (L' := [askC ab { v with s := nilS } { r with next := 0 }]) ?_; exact ⟨bool_eq (by (try simp [*]); first | done | omega | (intros; omega) | (constructor <;> intros <;> (try simp_all) <;> omega)), rfl, rfl⟩)
theorem aundone_spec (ρ : Hp) (ab : Nat) (v : RV) (r : Rc) (h : RcIn ρ v r) : Spec Tryz.prog 104 [.pointer (some ⟨ab, 0, none⟩)] ρ [askC ab v r]
    (fun z ρ' L' => z = .bool (decide (r.next < r.lsn) && imsOk false r.ims) ∧ ρ' = ρ ∧ L' = [askC ab { v with i := nilS } { r with next := 0 }]) := by
  have him := images_spec ρ v.i r.ims h.i h.im false
  generalize imsOk false r.ims = q at *
  refine spec_enter Tryz.func104 rfl rfl rfl fun u R => ?_
  simp only [argsE, List.cons_append, List.nil_append]
  repeat' (first | (refine i_op ?_; first | (refine i_qq ?_; refine qQ ?_) | refine qEf ?_) | refine tl_nil ?_ | (refine i_tc ?_; refine qTc ?_) | (refine i_te ?_; refine qTe ?_) | intro _)
  refine tc_any (Stays _ _ _) stays_refl ?_
  all_goals refine rMv 0 ?_
  all_goals refine rFull ?_
  all_goals refine rNc 1 ?_
  all_goals refine rFa 2 ?_
  all_goals refine rFa 3 ?_
  all_goals refine rLd 4 ?_
  all_goals refine rMv 5 ?_
  all_goals refine rNc 6 ?_
  all_goals refine rFa 7 ?_
  all_goals refine rFa 8 ?_
  all_goals refine rLd 9 ?_
  all_goals refine rAs 10 ?_
  all_goals refine rAs 11 ?_
  all_goals refine rDone ?_
  all_goals (repeat' (first | (refine tl_is (.func 179) ?_; refine qC rfl rfl (him) ?_; rintro v ρ' L' hle ⟨rfl, rfl, rfl⟩ <;> (try simp only [kM, kN, kO])) | (refine i_op ?_; first | (refine i_qq ?_; refine qQ ?_) | refine qEf ?_) | refine tl_nil ?_ | (refine i_tc ?_; refine qTc ?_) | (refine i_te ?_; refine qTe ?_) | (refine i_gd ?_; refine tl_guard rfl rfl (fun hb => ?_) (fun hb => ?_) <;> (try simp only [decide_eq_true_eq, decide_eq_false_iff_not, Bool.not_eq_true, Bool.not_eq_false, beq_iff_eq, bne_iff_ne, ne_eq, decide_eq_decide, Bool.not_eq_eq_eq_not, Bool.not_true, Bool.not_false, beq_eq_false_iff_ne, bne_eq_false_iff_eq, Bool.and_eq_true, Bool.or_eq_true, Bool.and_eq_false_imp, Bool.or_eq_false_iff] at hb)) | (refine i_cond ?_; refine tc_cond rfl (fun hb => ?_) (fun hb => ?_) <;> (try simp only [decide_eq_true_eq, decide_eq_false_iff_not, Bool.not_eq_true, Bool.not_eq_false, beq_iff_eq, bne_iff_ne, ne_eq, decide_eq_decide, Bool.not_eq_eq_eq_not, Bool.not_true, Bool.not_false, beq_eq_false_iff_ne, bne_eq_false_iff_eq, Bool.and_eq_true, Bool.or_eq_true, Bool.and_eq_false_imp, Bool.or_eq_false_iff] at hb)) | intro _))
  all_goals (refine qF (L' := [askC ab { v with i := nilS } { r with next := 0 }]) ?_; exact ⟨bool_eq (by (try simp [*]); first | done | omega | (intros; omega) | (constructor <;> intros <;> (try simp_all) <;> omega)), rfl, rfl⟩)
theorem ackpt_spec (ρ : Hp) (ab : Nat) (v : RV) (r : Rc) (h : RcIn ρ v r) : Spec Tryz.prog 105 [.pointer (some ⟨ab, 0, none⟩)] ρ [askC ab v r]
    (fun z ρ' L' => z = .bool (decide (1 ≤ r.nextTxn ∧ r.nextTxn ≤ 1073741824 ∧ r.txns.length ≤ 8) && (upB (ckTOk r.lsn r.nextTxn) CkT.txn r.txns r.txns.length && upB (ckPOk r.lsn) CkP.page r.dirty r.dirty.length)) ∧ ρ' = ρ ∧
      L' = [askC ab { v with t := nilS, d := nilS } { r with nextTxn := 0 }]) := by
  have hl := h.t.at'.len
  have ht := fun nb pb => risesCkT_spec ρ v.t.a v.t.n v.t.c r.txns h.t.at' h.t.big nb pb ab r.nextTxn { v with t := nilS, d := nilS } { r with nextTxn := 0 }
  have hd := fun pb => risesCkP_spec ρ v.d.a v.d.n v.d.c r.dirty h.d.at' h.d.big pb ab { v with t := nilS, d := nilS } { r with nextTxn := 0 }
  dsimp only at ht hd
  generalize upB (ckTOk r.lsn r.nextTxn) CkT.txn r.txns r.txns.length = q1 at *
  generalize upB (ckPOk r.lsn) CkP.page r.dirty r.dirty.length = q2 at *
  rw [hl]
  refine spec_enter Tryz.func105 rfl rfl rfl fun u R => ?_
  simp only [argsE, List.cons_append, List.nil_append]
  repeat' (first | (refine i_op ?_; first | (refine i_qq ?_; refine qQ ?_) | refine qEf ?_) | refine tl_nil ?_ | (refine i_tc ?_; refine qTc ?_) | (refine i_te ?_; refine qTe ?_) | intro _)
  rename_i pb
  refine tc_any (Stays _ _ ([ptrC pb ab, askC ab v r])) (stays_of (hT := tk) (Hp.le_refl _)) ?_
  all_goals refine rLd 0 ?_
  all_goals refine rNc 1 ?_
  all_goals refine rFa 2 ?_
  all_goals refine rFa 3 ?_
  all_goals refine rLd 4 ?_
  all_goals refine rLd 5 ?_
  all_goals refine rNc 6 ?_
  all_goals refine rFa 7 ?_
  all_goals refine rFa 8 ?_
  all_goals refine rLd 9 ?_
  all_goals refine rLd 10 ?_
  all_goals refine rNc 11 ?_
  all_goals refine rFa 12 ?_
  all_goals refine rFa 13 ?_
  all_goals refine rLd 14 ?_
  all_goals (refine rStep (i := 15) ?_; ((try refine qWant ?_); (first | (refine qEf ?_; try intro _)) <;> ((try simp only [kM, kN, kO]); refine tl_nil ?_; refine rNext ?_)))
  all_goals refine rAs 16 ?_
  all_goals refine rAs 17 ?_
  all_goals (refine rStep (i := 18) ?_; ((try refine qWant ?_); (first | (refine qEf ?_; try intro _)) <;> ((try simp only [kM, kN, kO]); refine tl_nil ?_; refine rNext ?_)))
  all_goals refine rDone ?_
  all_goals (repeat' (first | (refine i_op ?_; first | (refine i_qq ?_; refine qQ ?_) | refine qEf ?_) | refine tl_nil ?_ | (refine i_tc ?_; refine qTc ?_) | (refine i_te ?_; refine qTe ?_) | intro _))
  refine tc_any (Stays _ _ ([ptrC pb ab])) (stays_of (hT := tk) (Hp.le_refl _)) ?_
  all_goals refine rLd 0 ?_
  all_goals refine rLd 1 ?_
  all_goals refine rLd 2 ?_
  all_goals refine rNc 3 ?_
  all_goals refine rFa 4 ?_
  all_goals refine rFa 5 ?_
  all_goals (refine rStep (i := 6) ?_; ((try refine qWant ?_); (first | (refine qEf ?_; try intro _)) <;> ((try simp only [kM, kN, kO]); refine tl_nil ?_; refine rNext ?_)))
  all_goals refine rNc 7 ?_
  all_goals refine rFa 8 ?_
  all_goals refine rFa 9 ?_
  all_goals (refine rStep (i := 10) ?_; ((try refine qWant ?_); (first | (refine qEf ?_; try intro _)) <;> ((try simp only [kM, kN, kO]); refine tl_nil ?_; refine rNext ?_)))
  all_goals refine rNc 11 ?_
  all_goals refine rFa 12 ?_
  all_goals refine rFa 13 ?_
  all_goals (refine rStep (i := 14) ?_; ((try refine qWant ?_); (first | (refine qEf ?_; try intro _)) <;> ((try simp only [kM, kN, kO]); refine tl_nil ?_; refine rNext ?_)))
  all_goals refine rDone ?_
  all_goals (repeat' (first | (refine tl_is (.func 183) ?_; refine qC rfl rfl (ht _ _) ?_; rintro v ρ' L' hle ⟨rfl, rfl, rfl⟩ <;> (try simp only [kM, kN, kO])) | (refine tl_is (.func 186) ?_; refine qC rfl rfl (hd _) ?_; rintro v ρ' L' hle ⟨rfl, rfl, rfl⟩ <;> (try simp only [kM, kN, kO])) | (refine i_op ?_; first | (refine i_qq ?_; refine qQ ?_) | refine qEf ?_) | refine tl_nil ?_ | (refine i_tc ?_; refine qTc ?_) | (refine i_te ?_; refine qTe ?_) | (refine i_gd ?_; refine tl_guard rfl rfl (fun hb => ?_) (fun hb => ?_) <;> (try simp only [decide_eq_true_eq, decide_eq_false_iff_not, Bool.not_eq_true, Bool.not_eq_false, beq_iff_eq, bne_iff_ne, ne_eq, decide_eq_decide, Bool.not_eq_eq_eq_not, Bool.not_true, Bool.not_false, beq_eq_false_iff_ne, bne_eq_false_iff_eq, Bool.and_eq_true, Bool.or_eq_true, Bool.and_eq_false_imp, Bool.or_eq_false_iff] at hb)) | (refine i_cond ?_; refine tc_cond rfl (fun hb => ?_) (fun hb => ?_) <;> (try simp only [decide_eq_true_eq, decide_eq_false_iff_not, Bool.not_eq_true, Bool.not_eq_false, beq_iff_eq, bne_iff_ne, ne_eq, decide_eq_decide, Bool.not_eq_eq_eq_not, Bool.not_true, Bool.not_false, beq_eq_false_iff_ne, bne_eq_false_iff_eq, Bool.and_eq_true, Bool.or_eq_true, Bool.and_eq_false_imp, Bool.or_eq_false_iff] at hb)) | intro _))
  all_goals (refine qF (L' := [askC ab { v with t := nilS, d := nilS } { r with nextTxn := 0 }]) ?_; exact ⟨bool_eq (by (try simp [*]); first | done | omega | (intros; omega) | (constructor <;> intros <;> (try simp_all) <;> omega)), rfl, rfl⟩)
end Go.Proofs.E

namespace Go.Proofs.E
open Go
set_option linter.unusedVariables false
set_option linter.unusedSimpArgs false
set_option linter.unusedSectionVars false
set_option maxRecDepth 4000
set_option maxHeartbeats 1000000
attribute [local irreducible] Yl TL TC TE Spec YSpec R1 Hp.le EnvLe TS TR YS Stays
-- BN
structure BareR (v' : RV) (r' r : Rc) : Prop where
  i : v'.i.n ≤ 1000000
  s : v'.s.n ≤ 1000000
  t : v'.t.n ≤ 1000000
  d : v'.d.n ≤ 1000000
  eq : decide (r'.next = 0 ∧ v'.i.n = 0 ∧ v'.s.n = 0 ∧ v'.t.n = 0 ∧ v'.d.n = 0 ∧ r'.nextTxn = 0) = bareOk r
def askF (k : Int) : Nat := if k = 2 then 101 else if k = 3 then 102 else if k = 4 then 103 else if k = 5 then 104 else if k = 9 then 105 else 100
theorem ask_spec (ρ : Hp) (ab : Nat) (v : RV) (r : Rc) (h : RcIn ρ v r) (hk : 1 ≤ r.kind ∧ r.kind ≤ 9) : Fun Tryz.prog (askF r.kind) ∧ Spec Tryz.prog (askF r.kind) [.pointer (some ⟨ab, 0, none⟩)] ρ [askC ab v r]
    (fun z ρ' L' => z = .bool (askOk r) ∧ ρ' = ρ ∧ ∃ v' r', BareR v' r' r ∧ L' = [askC ab v' r']) := by
  have li := h.i.at'.len
  have ls := h.s.at'.len
  have lt := h.t.at'.len
  have ld := h.d.at'.len
  have bi := h.i.big
  have bs := h.s.big
  have bt := h.t.big
  have bd := h.d.big
  have z0 : nilS.n = 0 := rfl
  have ei : r.ims = [] ↔ v.i.n = 0 := by rw [← li]; exact List.length_eq_zero_iff.symm
  have es : r.steps = [] ↔ v.s.n = 0 := by rw [← ls]; exact List.length_eq_zero_iff.symm
  have et : r.txns = [] ↔ v.t.n = 0 := by rw [← lt]; exact List.length_eq_zero_iff.symm
  have ed : r.dirty = [] ↔ v.d.n = 0 := by rw [← ld]; exact List.length_eq_zero_iff.symm
  unfold askF askOk
  have hb : ∀ (v' : RV) (r' : Rc), (v'.i.n ≤ 1000000 ∧ v'.s.n ≤ 1000000 ∧ v'.t.n ≤ 1000000 ∧ v'.d.n ≤ 1000000) → ((r'.next = 0 ∧ v'.i.n = 0 ∧ v'.s.n = 0 ∧ v'.t.n = 0 ∧ v'.d.n = 0 ∧ r'.nextTxn = 0) ↔
      ((r.next = 0 ∨ r.kind = 3 ∨ r.kind = 4 ∨ r.kind = 5) ∧ (v.i.n = 0 ∨ r.kind = 2 ∨ r.kind = 5) ∧ (v.s.n = 0 ∨ r.kind = 4) ∧ ((v.t.n = 0 ∧ v.d.n = 0 ∧ r.nextTxn = 0) ∨ r.kind = 9))) → BareR v' r' r := fun v' r' h1 h2 =>
    ⟨h1.1, h1.2.1, h1.2.2.1, h1.2.2.2, by unfold bareOk; apply decide_eq_decide.2; rw [ei, es, et, ed]; exact h2⟩
  by_cases k2 : r.kind = 2
  · rw [if_pos k2, if_pos k2]
    refine ⟨inferInstance, (achange_spec ρ ab v r h).mono ?_⟩
    rintro z ρ' L' _ ⟨rfl, rfl, rfl⟩
    exact ⟨rfl, rfl, _, _, hb { v with i := nilS } r (by dsimp only; omega) (by dsimp only; omega), rfl⟩
  · rw [if_neg k2, if_neg k2]
    by_cases k3 : r.kind = 3
    · rw [if_pos k3, if_pos k3]
      refine ⟨inferInstance, (anested_spec ρ ab v r).mono ?_⟩
      rintro z ρ' L' _ ⟨rfl, rfl, rfl⟩
      exact ⟨rfl, rfl, _, _, hb v { r with next := 0 } (by omega) (by dsimp only; omega), rfl⟩
    · rw [if_neg k3, if_neg k3]
      by_cases k4 : r.kind = 4
      · rw [if_pos k4, if_pos k4]
        refine ⟨inferInstance, (adone_spec ρ ab v r h).mono ?_⟩
        rintro z ρ' L' _ ⟨rfl, rfl, rfl⟩
        exact ⟨rfl, rfl, _, _, hb { v with s := nilS } { r with next := 0 } (by dsimp only; omega) (by dsimp only; omega), rfl⟩
      · rw [if_neg k4, if_neg k4]
        by_cases k5 : r.kind = 5
        · rw [if_pos k5, if_pos k5]
          refine ⟨inferInstance, (aundone_spec ρ ab v r h).mono ?_⟩
          rintro z ρ' L' _ ⟨rfl, rfl, rfl⟩
          exact ⟨rfl, rfl, _, _, hb { v with i := nilS } { r with next := 0 } (by dsimp only; omega) (by dsimp only; omega), rfl⟩
        · rw [if_neg k5, if_neg k5]
          by_cases k9 : r.kind = 9
          · rw [if_pos k9, if_pos k9]
            refine ⟨inferInstance, (ackpt_spec ρ ab v r h).mono ?_⟩
            rintro z ρ' L' _ ⟨rfl, rfl, rfl⟩
            exact ⟨rfl, rfl, _, _, hb { v with t := nilS, d := nilS } { r with nextTxn := 0 } (by dsimp only; omega) (by dsimp only; omega), rfl⟩
          · rw [if_neg k9, if_neg k9]
            refine ⟨inferInstance, (aplain_spec ρ ab v r).mono ?_⟩
            rintro z ρ' L' _ ⟨rfl, rfl, rfl⟩
            exact ⟨rfl, rfl, _, _, hb v r (by omega) (by omega), rfl⟩
theorem askF_chain {f : Nat → Option Value} {k : Int} (hk : 1 ≤ k ∧ k ≤ 9) : (if k = 9 then f 105 else if k = 8 then f 100 else if k = 7 then f 100 else if k = 6 then f 100 else if k = 5 then f 104 else
    if k = 4 then f 103 else if k = 3 then f 102 else if k = 2 then f 101 else if k = 1 then f 100 else none) = f (askF k) := by
  unfold askF
  rcases (show k = 1 ∨ k = 2 ∨ k = 3 ∨ k = 4 ∨ k = 5 ∨ k = 6 ∨ k = 7 ∨ k = 8 ∨ k = 9 by omega) with e | e | e | e | e | e | e | e | e <;> subst e <;> rfl
theorem rcheck_spec (ρ : Hp) (v : RV) (r : Rc) (h : RcIn ρ v r) : Spec Tryz.prog 34 [.agg ⟨recV v r⟩] ρ [] (fun z ρ' L' => z = .int .i64 (if recOk r then 0 else 220) ∧ ρ' = ρ ∧ L' = []) := by
  have hnil : IntKeys .i64 [] := by intro e he; simp at he
  have hg0 : ∀ k : Int, mget [] k = none := fun _ => rfl
  refine spec_enter Tryz.func34 rfl rfl rfl fun u R => ?_
  simp only [argsE, List.cons_append, List.nil_append]
  repeat' (first | (refine tl_insert rfl rfl rfl hnil (fun es1 ck1 i1 j1 => ?_)) | (refine tl_insert rfl rfl rfl i1 (fun es2 ck2 i2 j2 => ?_)) | (refine tl_insert rfl rfl rfl i2 (fun es3 ck3 i3 j3 => ?_)) | (refine tl_insert rfl rfl rfl i3 (fun es4 ck4 i4 j4 => ?_)) | (refine tl_insert rfl rfl rfl i4 (fun es5 ck5 i5 j5 => ?_)) | (refine tl_insert rfl rfl rfl i5 (fun es6 ck6 i6 j6 => ?_)) | (refine tl_insert rfl rfl rfl i6 (fun es7 ck7 i7 j7 => ?_)) | (refine tl_insert rfl rfl rfl i7 (fun es8 ck8 i8 j8 => ?_)) | (refine iBu ?_; refine tl_y (y_buildN rfl) rfl rfl ?_) | (refine i_op ?_; first | (refine i_qq ?_; refine qQ ?_) | refine qEf ?_) | refine tl_nil ?_ | (refine i_tc ?_; refine qTc ?_) | (refine i_te ?_; refine qTe ?_) | intro _)
  rename_i rb ab mb
  refine tl_insert rfl rfl rfl i8 (fun es9 ck9 i9 j9 => ?_)
  have hg := j9 r.kind
  rw [j8, j7, j6, j5, j4, j3, j2, j1, hg0] at hg
  clear j1 j2 j3 j4 j5 j6 j7 j8 j9 i1 i2 i3 i4 i5 i6 i7 i8
  by_cases hk : 1 ≤ r.kind ∧ r.kind ≤ 9
  · obtain ⟨hF, hS⟩ := ask_spec ρ ab v r h hk
    have hgF : mget es9 r.kind = some (Value.func (.func (askF r.kind)) ⟨[.pointer (some ⟨ab, 0, none⟩)]⟩ ⟨[]⟩) := by
      rw [hg]
      exact askF_chain (f := fun F => some (Value.func (.func F) ⟨[.pointer (some ⟨ab, 0, none⟩)]⟩ ⟨[]⟩)) hk
    clear hg
    generalize askF r.kind = F at *
    repeat' (first | (refine tl_is (.tmp 90) ?_; refine qC rfl rfl (hS) ?_; rintro v ρ' L' hle ⟨rfl, rfl, v', r', hB, rfl⟩ <;> (try simp only [kM, kN, kO])) | (refine tl_is (.func 106) ?_; refine qC rfl rfl (bare_spec _ v' r' hB.i hB.s hB.t hB.d) ?_; rintro v ρ' L' hle ⟨rfl, rfl, rfl⟩ <;> (try simp only [kM, kN, kO, hB.eq])) | (refine iBu ?_; refine tl_y (y_buildN rfl) rfl rfl ?_) | (refine i_op ?_; first | (refine i_qq ?_; refine qQ ?_) | refine qEf ?_) | refine tl_nil ?_ | (refine i_tc ?_; refine qTc ?_) | (refine i_te ?_; refine qTe ?_) | (refine i_gd ?_; refine tl_guard rfl rfl (fun hb => ?_) (fun hb => ?_) <;> (try simp only [decide_eq_true_eq, decide_eq_false_iff_not, Bool.not_eq_true, Bool.not_eq_false, beq_iff_eq, bne_iff_ne, ne_eq, decide_eq_decide, Bool.not_eq_eq_eq_not, Bool.not_true, Bool.not_false, beq_eq_false_iff_ne, bne_eq_false_iff_eq, Bool.and_eq_true, Bool.or_eq_true, Bool.and_eq_false_imp, Bool.or_eq_false_iff, bq2, bqt, bqf] at hb)) | (refine i_cond ?_; refine tc_cond rfl (fun hb => ?_) (fun hb => ?_) <;> (try simp only [decide_eq_true_eq, decide_eq_false_iff_not, Bool.not_eq_true, Bool.not_eq_false, beq_iff_eq, bne_iff_ne, ne_eq, decide_eq_decide, Bool.not_eq_eq_eq_not, Bool.not_true, Bool.not_false, beq_eq_false_iff_ne, bne_eq_false_iff_eq, Bool.and_eq_true, Bool.or_eq_true, Bool.and_eq_false_imp, Bool.or_eq_false_iff, bq2, bqt, bqf] at hb)) | intro _)
    all_goals (refine qF (L' := []) ?_; refine ⟨?_, rfl, rfl⟩)
    all_goals first | (have hh : headOk r = false := decide_eq_false (by omega); simp only [recOk, hh, Bool.false_and, Bool.and_false, Bool.false_eq_true, if_false]) | (have hh : headOk r = true := decide_eq_true (by omega); have h9 : decide (1 ≤ r.kind ∧ r.kind ≤ 9) = true := decide_eq_true hk; simp [recOk, hh, h9, *])
  · have hgN : mget es9 r.kind = none := by
      rw [hg]
      simp only [show ¬ r.kind = 9 by omega, show ¬ r.kind = 8 by omega, show ¬ r.kind = 7 by omega, show ¬ r.kind = 6 by omega, show ¬ r.kind = 5 by omega, show ¬ r.kind = 4 by omega, show ¬ r.kind = 3 by omega, show ¬ r.kind = 2 by omega, show ¬ r.kind = 1 by omega, if_false]
    clear hg
    have e0 : recOk r = false := by simp [recOk, hk]
    rw [e0]
    repeat' (first | (refine iBu ?_; refine tl_y (y_buildN rfl) rfl rfl ?_) | (refine i_op ?_; first | (refine i_qq ?_; refine qQ ?_) | refine qEf ?_) | refine tl_nil ?_ | (refine i_tc ?_; refine qTc ?_) | (refine i_te ?_; refine qTe ?_) | (refine i_gd ?_; refine tl_guard rfl rfl (fun hb => ?_) (fun hb => ?_) <;> (try simp only [decide_eq_true_eq, decide_eq_false_iff_not, Bool.not_eq_true, Bool.not_eq_false, beq_iff_eq, bne_iff_ne, ne_eq, decide_eq_decide, Bool.not_eq_eq_eq_not, Bool.not_true, Bool.not_false, beq_eq_false_iff_ne, bne_eq_false_iff_eq, Bool.and_eq_true, Bool.or_eq_true, Bool.and_eq_false_imp, Bool.or_eq_false_iff, bq2, bqt, bqf] at hb)) | (refine i_cond ?_; refine tc_cond rfl (fun hb => ?_) (fun hb => ?_) <;> (try simp only [decide_eq_true_eq, decide_eq_false_iff_not, Bool.not_eq_true, Bool.not_eq_false, beq_iff_eq, bne_iff_ne, ne_eq, decide_eq_decide, Bool.not_eq_eq_eq_not, Bool.not_true, Bool.not_false, beq_eq_false_iff_ne, bne_eq_false_iff_eq, Bool.and_eq_true, Bool.or_eq_true, Bool.and_eq_false_imp, Bool.or_eq_false_iff, bq2, bqt, bqf] at hb)) | intro _)
    all_goals (refine qF (L' := []) ?_; exact ⟨rfl, rfl, rfl⟩)
end Go.Proofs.E

namespace Go.Proofs.E
open Go
set_option linter.unusedVariables false
set_option linter.unusedSimpArgs false
set_option linter.unusedSectionVars false
set_option maxRecDepth 4000
set_option maxHeartbeats 1000000
attribute [local irreducible] Yl TL TC TE Spec YSpec R1 Hp.le EnvLe TS TR YS Stays
structure CW (ρ : Hp) (v : CV) (c : Cont) : Prop where
  r : AIn ρ 4 rowV v.ra v.rn c.rows
  k : AIn ρ 3 kidV v.ka v.kn c.kids
  rb : v.rn ≤ 140737488355328
  kb : v.kn ≤ 140737488355328
  rc : v.rn ≤ v.rc
  kc : v.kn ≤ v.kc
  row : ∀ r ∈ c.rows, RowFit r
  kid : ∀ k ∈ c.kids, k.id < 65536
structure AW (ρ : Hp) (sz : Nat) {α : Type} (g : α → List Value) (s : SV) (l : List α) : Prop where
  at' : AIn ρ sz g s.a s.n l
  big : s.n ≤ 140737488355328
  cap : s.n ≤ s.c
structure RcW (ρ : Hp) (v : RV) (r : Rc) : Prop where
  i : AW ρ 7 imV v.i r.ims
  im : ∀ x ∈ r.ims, CW ρ x.bv x.b ∧ CW ρ x.av x.a
  s : AW ρ 6 stpV v.s r.steps
  t : AW ρ 5 ckTV v.t r.txns
  d : AW ρ 2 ckPV v.d r.dirty
  sf : ∀ s ∈ r.steps, RowFit s.row
theorem CW.mono {ρ ρ' v c} (h : CW ρ v c) (hle : ρ.le ρ') : CW ρ' v c := ⟨h.r.mono hle, h.k.mono hle, h.rb, h.kb, h.rc, h.kc, h.row, h.kid⟩
theorem AW.mono {ρ ρ' : Hp} {sz : Nat} {α : Type} {g : α → List Value} {s : SV} {l : List α} (h : AW ρ sz g s l) (hle : ρ.le ρ') : AW ρ' sz g s l := ⟨h.at'.mono hle, h.big, h.cap⟩
theorem RcW.mono {ρ ρ' v r} (h : RcW ρ v r) (hle : ρ.le ρ') : RcW ρ' v r := ⟨h.i.mono hle, fun x hx => ⟨(h.im x hx).1.mono hle, (h.im x hx).2.mono hle⟩, h.s.mono hle, h.t.mono hle, h.d.mono hle, h.sf⟩
end Go.Proofs.E

namespace Go.Proofs.E
open Go Go.RowKit
set_option linter.unusedVariables false
set_option linter.unusedSimpArgs false
set_option linter.unusedSectionVars false
set_option maxRecDepth 8000
/-! ## records that came in: how they are read -/
theorem rsw_flat {α : Type} {sz : Nat} {g : α → List Value} {C : List Value} {off : Nat} : ∀ (l : List α) (k : Nat), k ≤ l.length → (∀ i (h : i < l.length), (C.drop (off + i * sz)).take sz = g l[i]) → (C.drop off).take (k * sz) = ((l.take k).map g).flatten
  | l, 0, _, _ => by simp
  | l, k + 1, hk, h => by
    have ih := rsw_flat l k (by omega) h
    rw [show l.take (k + 1) = l.take k ++ [l[k]'(by omega)] from List.take_succ_eq_append_getElem (by omega), Nat.add_mul, Nat.one_mul, List.take_add, ih, List.drop_drop, h k (by omega)]
    simp only [List.map_append, List.flatten_append, List.map_cons, List.map_nil, List.flatten_cons, List.flatten_nil, List.append_nil]
theorem aIn_ofW {ρ : Hp} {α : Type} {sz : Nat} {g : α → List Value} {P : α → Prop} {cs : List Value} {s : Option Addr × Nat × Nat × List α} (hg : ∀ x, (g x).length = sz) (h : RS ρ sz (fun cs x => cs = g x ∧ P x) cs s) : AIn ρ sz g s.1 s.2.1 s.2.2.2 ∧ (∀ x ∈ s.2.2.2, P x) ∧ s.2.1 ≤ s.2.2.1 ∧ s.2.1 ≤ 9223372036854775807 := by
  obtain ⟨a, n, c, ks⟩ := s
  obtain ⟨h1, h2, h3, h4, h5⟩ := h
  dsimp only at h1 h2 h3 h4 h5 ⊢
  refine ⟨⟨h4, ?_, fun x _ => hg x⟩, fun x hx => ?_, h2, by omega⟩
  · by_cases h0 : n = 0
    · exact .inl h0
    · right
      obtain ⟨b, off, C, T, fr, e1, e2, e3, e4⟩ := h5 0 (by omega)
      have same : ∀ i (h : i < ks.length), off + i * sz + sz ≤ C.length ∧ (C.drop (off + i * sz)).take sz = g ks[i] := fun i hi => by
        obtain ⟨b', off', C', T', fr', f1, f2, f3, f4⟩ := h5 i hi
        rw [e1] at f1
        cases f1
        rw [e2] at f2
        cases f2
        exact ⟨f3, f4.1⟩
      refine ⟨b, off, C, T, fr, e1, e2, ?_, ?_⟩
      · have := (same (n - 1) (by omega)).1
        have e : n * sz = (n - 1) * sz + sz := by
          obtain ⟨m, rfl⟩ : ∃ m, n = m + 1 := ⟨n - 1, by omega⟩
          rw [Nat.add_mul]; simp
        omega
      · have := rsw_flat (sz := sz) (g := g) ks n (by omega) (fun i hi => (same i hi).2)
        rw [this, List.take_of_length_le (by omega)]
  · obtain ⟨i, hi, rfl⟩ := List.mem_iff_getElem.1 hx
    obtain ⟨_, _, _, _, _, _, _, _, f⟩ := h5 i hi
    exact f.2
section
variable {H : Type} {enc : TypeId × Value → H} {w : World}
theorem opnS_str : OpnS enc Tryz.prog w 9 (fun cs (l : List UInt8) => cs = [strV l]) := Opn.sized (fun fuel cs x h => by
  obtain ⟨s, rfl, _, _⟩ := DataW.trod_string Tryz.underlying9 h
  obtain ⟨⟨l⟩⟩ := s
  exact ⟨l, rfl⟩)
theorem opnS_key : OpnS enc Tryz.prog w 58 (fun cs (k : Int × Nat) => cs = keyV k.1 k.2 ∧ k.2 < 65536) := Opn.sized (fun fuel cs x h => by
  obtain ⟨hl, hf⟩ := opn_fields Tryz.underlying58 h
  have hl : cs.length = 2 := by rw [hl]; kernel_rfl
  obtain ⟨c0, c1, rfl⟩ : ∃ c0 c1, cs = [c0, c1] := by
    match cs, hl with
    | [c0, c1], _ => exact ⟨c0, c1, rfl⟩
  obtain ⟨t, h0, _⟩ := opn_field h Tryz.underlying58 0 0 1 rfl rfl rfl (by kernel_rfl) (opn_int Tryz.underlying3)
  obtain ⟨i, h1, i0, i1⟩ := opn_field h Tryz.underlying58 1 1 1 rfl rfl rfl (by kernel_rfl) (opn_int Tryz.underlying56)
  simp only [List.drop_zero, List.drop_succ_cons, List.take_succ_cons, List.take_zero, List.cons.injEq, and_true] at h0 h1
  subst h0; subst h1
  simp only [lo, hi] at i0 i1
  refine ⟨(t, i.toNat), ?_, by dsimp only; omega⟩
  have : ((i.toNat : Nat) : Int) = i := by omega
  simp only [keyV, this])
theorem opnS_row : OpnS enc Tryz.prog w 60 (fun cs (r : Row) => cs = rowV r ∧ RowFit r) := fun fuel cs x h hw => by
  obtain ⟨hl, hf⟩ := opnS_fields Tryz.underlying60 h hw
  have hl : cs.length = 4 := by rw [hl]; kernel_rfl
  obtain ⟨c0, c1, c2, c3, rfl⟩ : ∃ c0 c1 c2 c3, cs = [c0, c1, c2, c3] := by
    match cs, hl with
    | [c0, c1, c2, c3], _ => exact ⟨c0, c1, c2, c3, rfl⟩
  obtain ⟨⟨t, i⟩, h0, hi0⟩ := opnS_field h hw Tryz.underlying60 0 0 2 rfl rfl rfl (by kernel_rfl) opnS_key
  obtain ⟨v, h1, v0, v1⟩ := opnS_field h hw Tryz.underlying60 1 2 1 rfl rfl rfl (by kernel_rfl) (opn_int Tryz.underlying2).sized
  obtain ⟨s, h2⟩ := opnS_field h hw Tryz.underlying60 2 3 1 rfl rfl rfl (by kernel_rfl) opnS_str
  simp only [List.drop_zero, List.drop_succ_cons, List.take_succ_cons, List.take_zero, List.cons.injEq, and_true, keyV] at h0 h1 h2
  obtain ⟨rfl, rfl⟩ := h0
  subst h1; subst h2
  simp only [lo, hi] at v0 v1
  exact ⟨⟨t, i, v, s⟩, rfl, ⟨hi0, v0, v1⟩⟩
theorem opnS_kid : OpnS enc Tryz.prog w 164 (fun cs (k : Kid) => cs = kidV k ∧ k.id < 65536) := fun fuel cs x h hw => by
  obtain ⟨hl, hf⟩ := opnS_fields Tryz.underlying164 h hw
  have hl : cs.length = 3 := by rw [hl]; kernel_rfl
  obtain ⟨c0, c1, c2, rfl⟩ : ∃ c0 c1 c2, cs = [c0, c1, c2] := by
    match cs, hl with
    | [c0, c1, c2], _ => exact ⟨c0, c1, c2, rfl⟩
  obtain ⟨⟨t, i⟩, h0, hi0⟩ := opnS_field h hw Tryz.underlying164 0 0 2 rfl rfl rfl (by kernel_rfl) opnS_key
  obtain ⟨v, h1, _⟩ := opnS_field h hw Tryz.underlying164 1 2 1 rfl rfl rfl (by kernel_rfl) (opn_int Tryz.underlying3).sized
  simp only [List.drop_zero, List.drop_succ_cons, List.take_succ_cons, List.take_zero, List.cons.injEq, and_true, keyV] at h0 h1
  obtain ⟨rfl, rfl⟩ := h0
  subst h1
  exact ⟨⟨t, i, v⟩, rfl, hi0⟩
theorem opnS_cont : OpnS enc Tryz.prog w 66 (fun cs (x : CV × Cont) => cs = contV x.2.kind x.1 ∧ CW (hpOf w) x.1 x.2) := fun fuel cs x h hw => by
  obtain ⟨hl, hf⟩ := opnS_fields Tryz.underlying66 h hw
  have hl : cs.length = 3 := by rw [hl]; kernel_rfl
  obtain ⟨c0, c1, c2, rfl⟩ : ∃ c0 c1 c2, cs = [c0, c1, c2] := by
    match cs, hl with
    | [c0, c1, c2], _ => exact ⟨c0, c1, c2, rfl⟩
  obtain ⟨k, h0, _⟩ := opnS_field h hw Tryz.underlying66 0 0 1 rfl rfl rfl (by kernel_rfl) (opn_int Tryz.underlying3).sized
  obtain ⟨⟨ra, rn, rc, rows⟩, h1, w1⟩ := opnS_field h hw Tryz.underlying66 1 1 1 rfl rfl rfl (by kernel_rfl) (opnS_slice (sz := 4) (by' := 40) Tryz.underlying63 (by kernel_rfl) (by decide) (by kernel_rfl) opnS_row)
  obtain ⟨⟨ka, kn, kc, kids⟩, h2, w2⟩ := opnS_field h hw Tryz.underlying66 2 2 1 rfl rfl rfl (by kernel_rfl) (opnS_slice (sz := 3) (by' := 24) Tryz.underlying64 (by kernel_rfl) (by decide) (by kernel_rfl) opnS_kid)
  obtain ⟨g1, g2, g3, _⟩ := aIn_ofW rowV_len h1
  obtain ⟨k1, k2, k3, _⟩ := aIn_ofW kidV_len h2
  simp only [reachBytes] at w1 w2
  replace h1 := h1.cells
  replace h2 := h2.cells
  simp only [List.drop_zero, List.drop_succ_cons, List.take_succ_cons, List.take_zero, List.cons.injEq, and_true] at h0 h1 h2
  subst h0; subst h1; subst h2
  exact ⟨(⟨ra, rn, rc, ka, kn, kc⟩, ⟨k, rows, kids⟩), rfl, ⟨g1, k1, by dsimp only; omega, by dsimp only; omega, g3, k3, g2, k2⟩⟩
theorem opnS_image : OpnS enc Tryz.prog w 68 (fun cs (x : Im) => cs = imV x ∧ (CW (hpOf w) x.bv x.b ∧ CW (hpOf w) x.av x.a)) := fun fuel cs x h hw => by
  obtain ⟨hl, hf⟩ := opnS_fields Tryz.underlying68 h hw
  have hl : cs.length = 7 := by rw [hl]; kernel_rfl
  obtain ⟨c0, c1, c2, c3, c4, c5, c6, rfl⟩ : ∃ c0 c1 c2 c3 c4 c5 c6, cs = [c0, c1, c2, c3, c4, c5, c6] := by
    match cs, hl with
    | [c0, c1, c2, c3, c4, c5, c6], _ => exact ⟨c0, c1, c2, c3, c4, c5, c6, rfl⟩
  obtain ⟨k, h0, _⟩ := opnS_field h hw Tryz.underlying68 0 0 1 rfl rfl rfl (by kernel_rfl) (opn_int Tryz.underlying3).sized
  obtain ⟨⟨bv, b⟩, h1, w1⟩ := opnS_field h hw Tryz.underlying68 1 1 3 rfl rfl rfl (by kernel_rfl) opnS_cont
  obtain ⟨⟨av, a⟩, h2, w2⟩ := opnS_field h hw Tryz.underlying68 2 4 3 rfl rfl rfl (by kernel_rfl) opnS_cont
  simp only [List.drop_zero, List.drop_succ_cons, List.take_succ_cons, List.take_zero, List.cons.injEq, and_true, contV] at h0 h1 h2
  obtain ⟨rfl, rfl, rfl⟩ := h1
  obtain ⟨rfl, rfl, rfl⟩ := h2
  subst h0
  exact ⟨⟨k, bv, b, av, a⟩, rfl, w1, w2⟩
theorem opnS_step : OpnS enc Tryz.prog w 62 (fun cs (x : Stp) => cs = stpV x ∧ RowFit x.row) := fun fuel cs x h hw => by
  obtain ⟨hl, hf⟩ := opnS_fields Tryz.underlying62 h hw
  have hl : cs.length = 6 := by rw [hl]; kernel_rfl
  obtain ⟨c0, c1, c2, c3, c4, c5, rfl⟩ : ∃ c0 c1 c2 c3 c4 c5, cs = [c0, c1, c2, c3, c4, c5] := by
    match cs, hl with
    | [c0, c1, c2, c3, c4, c5], _ => exact ⟨c0, c1, c2, c3, c4, c5, rfl⟩
  obtain ⟨k, h0, _⟩ := opnS_field h hw Tryz.underlying62 0 0 1 rfl rfl rfl (by kernel_rfl) (opn_int Tryz.underlying3).sized
  obtain ⟨r, h1, w1⟩ := opnS_field h hw Tryz.underlying62 1 1 4 rfl rfl rfl (by kernel_rfl) opnS_row
  obtain ⟨b, h2, _⟩ := opnS_field h hw Tryz.underlying62 2 5 1 rfl rfl rfl (by kernel_rfl) (opn_int Tryz.underlying2).sized
  simp only [List.drop_zero, List.drop_succ_cons, List.take_succ_cons, List.take_zero, List.cons.injEq, and_true, rowV] at h0 h1 h2
  obtain ⟨rfl, rfl, rfl, rfl⟩ := h1
  subst h0; subst h2
  exact ⟨⟨k, r, b⟩, rfl, w1⟩
theorem u64_back {i : Int} (h : lo .u64 ≤ i) : ((i.toNat : Nat) : Int) = i := by simp only [lo] at h; omega
theorem opnS_ckt : OpnS enc Tryz.prog w 95 (fun cs (x : CkT) => cs = ckTV x ∧ True) := fun fuel cs x h hw => by
  obtain ⟨hl, hf⟩ := opnS_fields Tryz.underlying95 h hw
  have hl : cs.length = 5 := by rw [hl]; kernel_rfl
  obtain ⟨c0, c1, c2, c3, c4, rfl⟩ : ∃ c0 c1 c2 c3 c4, cs = [c0, c1, c2, c3, c4] := by
    match cs, hl with
    | [c0, c1, c2, c3, c4], _ => exact ⟨c0, c1, c2, c3, c4, rfl⟩
  obtain ⟨k, h0, _⟩ := opnS_field h hw Tryz.underlying95 0 0 1 rfl rfl rfl (by kernel_rfl) (opn_int Tryz.underlying3).sized
  obtain ⟨f, h1, f0, f1⟩ := opnS_field h hw Tryz.underlying95 1 1 1 rfl rfl rfl (by kernel_rfl) (opn_int Tryz.underlying24).sized
  obtain ⟨l, h2, l0, l1⟩ := opnS_field h hw Tryz.underlying95 2 2 1 rfl rfl rfl (by kernel_rfl) (opn_int Tryz.underlying24).sized
  obtain ⟨u, h3, u0, u1⟩ := opnS_field h hw Tryz.underlying95 3 3 1 rfl rfl rfl (by kernel_rfl) (opn_int Tryz.underlying24).sized
  obtain ⟨s, h4, _⟩ := opnS_field h hw Tryz.underlying95 4 4 1 rfl rfl rfl (by kernel_rfl) (opn_int Tryz.underlying3).sized
  simp only [List.drop_zero, List.drop_succ_cons, List.take_succ_cons, List.take_zero, List.cons.injEq, and_true] at h0 h1 h2 h3 h4
  subst h0; subst h1; subst h2; subst h3; subst h4
  refine ⟨⟨k, f.toNat, l.toNat, u.toNat, s⟩, ?_, trivial⟩
  simp only [ckTV, u64_back f0, u64_back l0, u64_back u0]
theorem opnS_ckp : OpnS enc Tryz.prog w 120 (fun cs (x : CkP) => cs = ckPV x ∧ True) := fun fuel cs x h hw => by
  obtain ⟨hl, hf⟩ := opnS_fields Tryz.underlying120 h hw
  have hl : cs.length = 2 := by rw [hl]; kernel_rfl
  obtain ⟨c0, c1, rfl⟩ : ∃ c0 c1, cs = [c0, c1] := by
    match cs, hl with
    | [c0, c1], _ => exact ⟨c0, c1, rfl⟩
  obtain ⟨k, h0, _⟩ := opnS_field h hw Tryz.underlying120 0 0 1 rfl rfl rfl (by kernel_rfl) (opn_int Tryz.underlying3).sized
  obtain ⟨f, h1, f0, f1⟩ := opnS_field h hw Tryz.underlying120 1 1 1 rfl rfl rfl (by kernel_rfl) (opn_int Tryz.underlying24).sized
  simp only [List.drop_zero, List.drop_succ_cons, List.take_succ_cons, List.take_zero, List.cons.injEq, and_true] at h0 h1
  subst h0; subst h1
  refine ⟨⟨k, f.toNat⟩, ?_, trivial⟩
  simp only [ckPV, u64_back f0]
theorem opnS_rec : OpnS enc Tryz.prog w 30 (fun cs (x : RV × Rc) => cs = recV x.1 x.2 ∧ RcW (hpOf w) x.1 x.2) := fun fuel cs x h hw => by
  obtain ⟨hl, hf⟩ := opnS_fields Tryz.underlying30 h hw
  have hl : cs.length = 10 := by rw [hl]; kernel_rfl
  obtain ⟨c0, c1, c2, c3, c4, c5, c6, c7, c8, c9, rfl⟩ : ∃ c0 c1 c2 c3 c4 c5 c6 c7 c8 c9, cs = [c0, c1, c2, c3, c4, c5, c6, c7, c8, c9] := by
    match cs, hl with
    | [c0, c1, c2, c3, c4, c5, c6, c7, c8, c9], _ => exact ⟨c0, c1, c2, c3, c4, c5, c6, c7, c8, c9, rfl⟩
  obtain ⟨k, h0, _⟩ := opnS_field h hw Tryz.underlying30 0 0 1 rfl rfl rfl (by kernel_rfl) (opn_int Tryz.underlying3).sized
  obtain ⟨l, h1, l0, _⟩ := opnS_field h hw Tryz.underlying30 1 1 1 rfl rfl rfl (by kernel_rfl) (opn_int Tryz.underlying24).sized
  obtain ⟨t, h2, _⟩ := opnS_field h hw Tryz.underlying30 2 2 1 rfl rfl rfl (by kernel_rfl) (opn_int Tryz.underlying3).sized
  obtain ⟨p, h3, p0, _⟩ := opnS_field h hw Tryz.underlying30 3 3 1 rfl rfl rfl (by kernel_rfl) (opn_int Tryz.underlying24).sized
  obtain ⟨n, h4, n0, _⟩ := opnS_field h hw Tryz.underlying30 4 4 1 rfl rfl rfl (by kernel_rfl) (opn_int Tryz.underlying24).sized
  obtain ⟨⟨ia, inn, ic, ims⟩, h5, w5⟩ := opnS_field h hw Tryz.underlying30 5 5 1 rfl rfl rfl (by kernel_rfl) (opnS_slice (sz := 7) (by' := 120) Tryz.underlying25 (by kernel_rfl) (by decide) (by kernel_rfl) opnS_image)
  obtain ⟨⟨sa, sn, sc, steps⟩, h6, w6⟩ := opnS_field h hw Tryz.underlying30 6 6 1 rfl rfl rfl (by kernel_rfl) (opnS_slice (sz := 6) (by' := 56) Tryz.underlying26 (by kernel_rfl) (by decide) (by kernel_rfl) opnS_step)
  obtain ⟨x7, h7, _⟩ := opnS_field h hw Tryz.underlying30 7 7 1 rfl rfl rfl (by kernel_rfl) (opn_int Tryz.underlying3).sized
  obtain ⟨⟨ta, tn, tc, txns⟩, h8, w8⟩ := opnS_field h hw Tryz.underlying30 8 8 1 rfl rfl rfl (by kernel_rfl) (opnS_slice (sz := 5) (by' := 40) Tryz.underlying27 (by kernel_rfl) (by decide) (by kernel_rfl) opnS_ckt)
  obtain ⟨⟨da, dn, dc, dirty⟩, h9, w9⟩ := opnS_field h hw Tryz.underlying30 9 9 1 rfl rfl rfl (by kernel_rfl) (opnS_slice (sz := 2) (by' := 16) Tryz.underlying28 (by kernel_rfl) (by decide) (by kernel_rfl) opnS_ckp)
  obtain ⟨i1, i2, i3, _⟩ := aIn_ofW imV_len h5
  obtain ⟨s1, s2, s3, _⟩ := aIn_ofW stpV_len h6
  obtain ⟨t1, t2, t3, _⟩ := aIn_ofW ckTV_len h8
  obtain ⟨d1, d2, d3, _⟩ := aIn_ofW ckPV_len h9
  simp only [reachBytes] at w5 w6 w8 w9
  replace h5 := h5.cells
  replace h6 := h6.cells
  replace h8 := h8.cells
  replace h9 := h9.cells
  simp only [List.drop_zero, List.drop_succ_cons, List.take_succ_cons, List.take_zero, List.cons.injEq, and_true] at h0 h1 h2 h3 h4 h5 h6 h7 h8 h9
  subst h0; subst h1; subst h2; subst h3; subst h4; subst h5; subst h6; subst h7; subst h8; subst h9
  refine ⟨(⟨⟨ia, inn, ic⟩, ⟨sa, sn, sc⟩, ⟨ta, tn, tc⟩, ⟨da, dn, dc⟩⟩, ⟨k, l.toNat, t, p.toNat, n.toNat, ims, steps, x7, txns, dirty⟩), ?_, ⟨⟨i1, by dsimp only; omega, i3⟩, i2, ⟨s1, by dsimp only; omega, s3⟩, ⟨t1, by dsimp only; omega, t3⟩, ⟨d1, by dsimp only; omega, d3⟩, s2⟩⟩
  simp only [recV, u64_back l0, u64_back p0, u64_back n0]
end
end Go.Proofs.E

namespace Go.Proofs.E
open Go
set_option linter.unusedVariables false
set_option linter.unusedSimpArgs false
set_option linter.unusedSectionVars false
set_option maxRecDepth 4000
set_option maxHeartbeats 1000000
attribute [local irreducible] Yl TL TC TE Spec YSpec R1 Hp.le EnvLe TS TR YS Stays
-- BN
instance (priority := 1200) eqCkP {x y : CkP} : EqC Tryz.prog 8 120 (.agg ⟨ckPV x⟩) (.agg ⟨ckPV y⟩) (decide (x = y)) := by
  have h : EqC Tryz.prog 8 120 (.agg ⟨[.int .i64 x.page, .int .u64 x.since]⟩) (.agg ⟨[.int .i64 y.page, .int .u64 y.since]⟩) _ := inferInstance
  refine ⟨fun d w hd => ?_⟩
  rw [h.out d w hd]
  congr 1
  obtain ⟨t, i⟩ := x
  obtain ⟨t', i'⟩ := y
  simp only [CkP.mk.injEq, Bool.and_true, Bool.decide_and]
  have e : ((i : Int) == (i' : Int)) = decide (i = i') := by
    by_cases h : i = i'
    · subst h; simp
    · rw [decide_eq_false h]; simp only [beq_eq_false_iff_ne, ne_eq]; omega
  rw [e]
  by_cases h1 : t = t' <;> by_cases h2 : i = i' <;> simp [h1, h2]
end Go.Proofs.E

namespace Go.Proofs.E
open Go
set_option linter.unusedVariables false
set_option linter.unusedSimpArgs false
set_option linter.unusedSectionVars false
set_option maxRecDepth 4000
set_option maxHeartbeats 1000000
attribute [local irreducible] Yl TL TC TE Spec YSpec R1 Hp.le EnvLe TS TR YS Stays
-- BN
instance (priority := 1200) eqCkT {x y : CkT} : EqC Tryz.prog 8 95 (.agg ⟨ckTV x⟩) (.agg ⟨ckTV y⟩) (decide (x = y)) := by
  have h : EqC Tryz.prog 8 95 (.agg ⟨[.int .i64 x.txn, .int .u64 x.first, .int .u64 x.last, .int .u64 x.undo, .int .i64 x.state]⟩) (.agg ⟨[.int .i64 y.txn, .int .u64 y.first, .int .u64 y.last, .int .u64 y.undo, .int .i64 y.state]⟩) _ := inferInstance
  refine ⟨fun d w hd => ?_⟩
  rw [h.out d w hd]
  congr 1
  obtain ⟨t, a, b, c, s⟩ := x
  obtain ⟨t', a', b', c', s'⟩ := y
  simp only [CkT.mk.injEq, Bool.and_true, Bool.decide_and]
  have e : ∀ i i' : Nat, ((i : Int) == (i' : Int)) = decide (i = i') := fun i i' => by
    by_cases h : i = i'
    · subst h; simp
    · rw [decide_eq_false h]; simp only [beq_eq_false_iff_ne, ne_eq]; omega
  rw [e, e, e]
  have e2 : ∀ i i' : Int, (i == i') = decide (i = i') := fun i i' => by
    by_cases h : i = i' <;> simp [h]
  rw [e2, e2]
instance (priority := 1200) eqStp {x y : Stp} : EqC Tryz.prog 8 62 (.agg ⟨stpV x⟩) (.agg ⟨stpV y⟩) (decide (x = y)) := by
  have h : EqC Tryz.prog 8 62 (.agg ⟨[.int .i64 x.kind, .int .i64 x.row.t, .int .u16 x.row.id, .int .i64 x.row.val, strV x.row.note, .int .i64 x.by']⟩) (.agg ⟨[.int .i64 y.kind, .int .i64 y.row.t, .int .u16 y.row.id, .int .i64 y.row.val, strV y.row.note, .int .i64 y.by']⟩) _ := inferInstance
  refine ⟨fun d w hd => ?_⟩
  rw [h.out d w hd]
  congr 1
  obtain ⟨k, ⟨t, i, v, n⟩, b⟩ := x
  obtain ⟨k', ⟨t', i', v', n'⟩, b'⟩ := y
  simp only [Stp.mk.injEq, Row.mk.injEq, Bool.and_true, Bool.decide_and]
  have e : ∀ i i' : Nat, ((i : Int) == (i' : Int)) = decide (i = i') := fun i i' => by
    by_cases h : i = i'
    · subst h; simp
    · rw [decide_eq_false h]; simp only [beq_eq_false_iff_ne, ne_eq]; omega
  rw [e]
  have e2 : ∀ i i' : Int, (i == i') = decide (i = i') := fun i i' => by
    by_cases h : i = i' <;> simp [h]
  rw [e2, e2, e2, e2]
  simp only [Bool.and_assoc]
theorem eqCKP_spec (ρ : Hp) (s s' : SV) (l m : List CkP) (h : AS ρ 2 ckPV s l) (h' : AS ρ 2 ckPV s' m) :
    Spec Tryz.prog 109 [.slice s.a s.n s.c, .slice s'.a s'.n s'.c] ρ [] (fun v ρ' L' => v = .bool (decide (l = m)) ∧ ρ' = ρ ∧ L' = []) := by
  have hl := h.at'.len
  have hm := h'.at'.len
  have hn := h.big
  refine spec_enter Tryz.func109 rfl rfl rfl fun u R => ?_
  simp only [argsE, List.cons_append, List.nil_append]
  by_cases hne : s.n = s'.n
  · repeat' (first | (refine iBu ?_; refine tl_y (y_buildN rfl) rfl rfl ?_) | (refine i_op ?_; first | (refine i_qq ?_; refine qQ ?_) | refine qEf ?_) | refine tl_nil ?_ | (refine i_tc ?_; refine qTc ?_) | (refine i_te ?_; refine qTe ?_) | intro _)
    refine tc_loop_g [(0, _), (1, _), (12, _)] (fun (ζ : (Nat)) => [(13, .int .i64 ζ), (4, .bool false)]) (fun (ζ : (Nat)) => ρ) (fun (ζ : (Nat)) => []) (fun (ζ : (Nat)) => ζ ≤ s.n ∧ l.take ζ = m.take ζ) (fun (ζ : (Nat)) => s.n - ζ) (0) (⟨Nat.zero_le _, rfl⟩) ev_le ev_le rfl tk ?_
    rintro k hI
    try simp only [List.cons_append, List.nil_append, List.append_assoc, List.append_eq] at hI ⊢
    try dsimp only at hI ⊢
    obtain ⟨hk, hpre⟩ := hI
    by_cases hlt : k < s.n
    · obtain ⟨b, off, C, T, fr, f1, hb, hfit, hc⟩ := h.at'.get (show k < l.length by omega)
      obtain ⟨b2, off2, C2, T2, fr2, f2, hb2, hfit2, hc2⟩ := h'.at'.get (show k < m.length by omega)
      have ht1 := List.take_succ_eq_append_getElem (show k < l.length by omega)
      have ht2 := List.take_succ_eq_append_getElem (show k < m.length by omega)
      have hf : l = m → l[k]'(by omega) = m[k]'(by omega) := fun e => by subst e; rfl
      generalize l[k]'(by omega) = x at *
      generalize m[k]'(by omega) = y at *
      rw [f1, f2]
      by_cases he : x = y
      · have hd : decide (x = y) = true := decide_eq_true he
        have hpre2 : l.take (k + 1) = m.take (k + 1) := by rw [ht1, ht2, hpre, he]
        repeat' (first | (refine iBu ?_; refine tl_y (y_buildN rfl) rfl rfl ?_) | (refine i_op ?_; first | (refine i_qq ?_; refine qQ ?_) | refine qEf ?_) | refine tl_nil ?_ | (refine i_tc ?_; refine qTc ?_) | (refine i_te ?_; refine qTe ?_) | intro _)
        refine tc_any (Stays _ _ _) stays_refl ?_
        all_goals refine rMv 0 ?_
        all_goals refine rFull ?_
        all_goals refine rMv 1 ?_
        all_goals refine rIa 2 ?_
        all_goals refine rLd 3 ?_
        all_goals refine rMv 4 ?_
        all_goals refine rMv 5 ?_
        all_goals refine rIa 6 ?_
        all_goals refine rLd 7 ?_
        all_goals refine rCm 8 ?_
        all_goals refine rDone ?_
        all_goals (try simp only [hd])
        all_goals (repeat' (first | (refine iBu ?_; refine tl_y (y_buildN rfl) rfl rfl ?_) | (refine i_op ?_; first | (refine i_qq ?_; refine qQ ?_) | refine qEf ?_) | refine tl_nil ?_ | (refine i_tc ?_; refine qTc ?_) | (refine i_te ?_; refine qTe ?_) | intro _))
        all_goals rw [← f1, ← f2]
        all_goals refine te_round_g (k + 1) (⟨hlt, hpre2⟩) ev_le ev_le rfl tk inferInstance (by first | omega | (dsimp only; omega))
      · have hd : decide (x = y) = false := decide_eq_false he
        rw [decide_eq_false (fun e => he (hf e))]
        repeat' (first | (refine iBu ?_; refine tl_y (y_buildN rfl) rfl rfl ?_) | (refine i_op ?_; first | (refine i_qq ?_; refine qQ ?_) | refine qEf ?_) | refine tl_nil ?_ | (refine i_tc ?_; refine qTc ?_) | (refine i_te ?_; refine qTe ?_) | intro _)
        refine tc_any (Stays _ _ _) stays_refl ?_
        all_goals refine rMv 0 ?_
        all_goals refine rFull ?_
        all_goals refine rMv 1 ?_
        all_goals refine rIa 2 ?_
        all_goals refine rLd 3 ?_
        all_goals refine rMv 4 ?_
        all_goals refine rMv 5 ?_
        all_goals refine rIa 6 ?_
        all_goals refine rLd 7 ?_
        all_goals refine rCm 8 ?_
        all_goals refine rDone ?_
        all_goals (try simp only [hd])
        all_goals (repeat' (first | (refine iBu ?_; refine tl_y (y_buildN rfl) rfl rfl ?_) | (refine i_op ?_; first | (refine i_qq ?_; refine qQ ?_) | refine qEf ?_) | refine tl_nil ?_ | (refine i_tc ?_; refine qTc ?_) | (refine i_te ?_; refine qTe ?_) | intro _))
        all_goals exact qE (L' := []) ⟨rfl, rfl, rfl⟩
    · have hk2 : k = s.n := by omega
      subst hk2
      rw [List.take_of_length_le (by omega), List.take_of_length_le (by omega)] at hpre
      rw [decide_eq_true hpre]
      repeat' (first | (refine iBu ?_; refine tl_y (y_buildN rfl) rfl rfl ?_) | (refine i_op ?_; first | (refine i_qq ?_; refine qQ ?_) | refine qEf ?_) | refine tl_nil ?_ | (refine i_tc ?_; refine qTc ?_) | (refine i_te ?_; refine qTe ?_) | intro _)
      exact qE ⟨rfl, rfl, rfl⟩
  · rw [decide_eq_false (fun e : l = m => hne (by rw [← hl, ← hm, e]))]
    repeat' (first | (refine iBu ?_; refine tl_y (y_buildN rfl) rfl rfl ?_) | (refine i_op ?_; first | (refine i_qq ?_; refine qQ ?_) | refine qEf ?_) | refine tl_nil ?_ | (refine i_tc ?_; refine qTc ?_) | (refine i_te ?_; refine qTe ?_) | intro _)
    exact qE ⟨rfl, rfl, rfl⟩
theorem eqCKT_spec (ρ : Hp) (s s' : SV) (l m : List CkT) (h : AS ρ 5 ckTV s l) (h' : AS ρ 5 ckTV s' m) :
    Spec Tryz.prog 108 [.slice s.a s.n s.c, .slice s'.a s'.n s'.c] ρ [] (fun v ρ' L' => v = .bool (decide (l = m)) ∧ ρ' = ρ ∧ L' = []) := by
  have hl := h.at'.len
  have hm := h'.at'.len
  have hn := h.big
  refine spec_enter Tryz.func108 rfl rfl rfl fun u R => ?_
  simp only [argsE, List.cons_append, List.nil_append]
  by_cases hne : s.n = s'.n
  · repeat' (first | (refine iBu ?_; refine tl_y (y_buildN rfl) rfl rfl ?_) | (refine i_op ?_; first | (refine i_qq ?_; refine qQ ?_) | refine qEf ?_) | refine tl_nil ?_ | (refine i_tc ?_; refine qTc ?_) | (refine i_te ?_; refine qTe ?_) | intro _)
    refine tc_loop_g [(0, _), (1, _), (12, _)] (fun (ζ : (Nat)) => [(13, .int .i64 ζ), (4, .bool false)]) (fun (ζ : (Nat)) => ρ) (fun (ζ : (Nat)) => []) (fun (ζ : (Nat)) => ζ ≤ s.n ∧ l.take ζ = m.take ζ) (fun (ζ : (Nat)) => s.n - ζ) (0) (⟨Nat.zero_le _, rfl⟩) ev_le ev_le rfl tk ?_
    rintro k hI
    try simp only [List.cons_append, List.nil_append, List.append_assoc, List.append_eq] at hI ⊢
    try dsimp only at hI ⊢
    obtain ⟨hk, hpre⟩ := hI
    by_cases hlt : k < s.n
    · obtain ⟨b, off, C, T, fr, f1, hb, hfit, hc⟩ := h.at'.get (show k < l.length by omega)
      obtain ⟨b2, off2, C2, T2, fr2, f2, hb2, hfit2, hc2⟩ := h'.at'.get (show k < m.length by omega)
      have ht1 := List.take_succ_eq_append_getElem (show k < l.length by omega)
      have ht2 := List.take_succ_eq_append_getElem (show k < m.length by omega)
      have hf : l = m → l[k]'(by omega) = m[k]'(by omega) := fun e => by subst e; rfl
      generalize l[k]'(by omega) = x at *
      generalize m[k]'(by omega) = y at *
      rw [f1, f2]
      by_cases he : x = y
      · have hd : decide (x = y) = true := decide_eq_true he
        have hpre2 : l.take (k + 1) = m.take (k + 1) := by rw [ht1, ht2, hpre, he]
        repeat' (first | (refine iBu ?_; refine tl_y (y_buildN rfl) rfl rfl ?_) | (refine i_op ?_; first | (refine i_qq ?_; refine qQ ?_) | refine qEf ?_) | refine tl_nil ?_ | (refine i_tc ?_; refine qTc ?_) | (refine i_te ?_; refine qTe ?_) | intro _)
        refine tc_any (Stays _ _ _) stays_refl ?_
        all_goals refine rMv 0 ?_
        all_goals refine rFull ?_
        all_goals refine rMv 1 ?_
        all_goals refine rIa 2 ?_
        all_goals refine rLd 3 ?_
        all_goals refine rMv 4 ?_
        all_goals refine rMv 5 ?_
        all_goals refine rIa 6 ?_
        all_goals refine rLd 7 ?_
        all_goals refine rCm 8 ?_
        all_goals refine rDone ?_
        all_goals (try simp only [hd])
        all_goals (repeat' (first | (refine iBu ?_; refine tl_y (y_buildN rfl) rfl rfl ?_) | (refine i_op ?_; first | (refine i_qq ?_; refine qQ ?_) | refine qEf ?_) | refine tl_nil ?_ | (refine i_tc ?_; refine qTc ?_) | (refine i_te ?_; refine qTe ?_) | intro _))
        all_goals rw [← f1, ← f2]
        all_goals refine te_round_g (k + 1) (⟨hlt, hpre2⟩) ev_le ev_le rfl tk inferInstance (by first | omega | (dsimp only; omega))
      · have hd : decide (x = y) = false := decide_eq_false he
        rw [decide_eq_false (fun e => he (hf e))]
        repeat' (first | (refine iBu ?_; refine tl_y (y_buildN rfl) rfl rfl ?_) | (refine i_op ?_; first | (refine i_qq ?_; refine qQ ?_) | refine qEf ?_) | refine tl_nil ?_ | (refine i_tc ?_; refine qTc ?_) | (refine i_te ?_; refine qTe ?_) | intro _)
        refine tc_any (Stays _ _ _) stays_refl ?_
        all_goals refine rMv 0 ?_
        all_goals refine rFull ?_
        all_goals refine rMv 1 ?_
        all_goals refine rIa 2 ?_
        all_goals refine rLd 3 ?_
        all_goals refine rMv 4 ?_
        all_goals refine rMv 5 ?_
        all_goals refine rIa 6 ?_
        all_goals refine rLd 7 ?_
        all_goals refine rCm 8 ?_
        all_goals refine rDone ?_
        all_goals (try simp only [hd])
        all_goals (repeat' (first | (refine iBu ?_; refine tl_y (y_buildN rfl) rfl rfl ?_) | (refine i_op ?_; first | (refine i_qq ?_; refine qQ ?_) | refine qEf ?_) | refine tl_nil ?_ | (refine i_tc ?_; refine qTc ?_) | (refine i_te ?_; refine qTe ?_) | intro _))
        all_goals exact qE (L' := []) ⟨rfl, rfl, rfl⟩
    · have hk2 : k = s.n := by omega
      subst hk2
      rw [List.take_of_length_le (by omega), List.take_of_length_le (by omega)] at hpre
      rw [decide_eq_true hpre]
      repeat' (first | (refine iBu ?_; refine tl_y (y_buildN rfl) rfl rfl ?_) | (refine i_op ?_; first | (refine i_qq ?_; refine qQ ?_) | refine qEf ?_) | refine tl_nil ?_ | (refine i_tc ?_; refine qTc ?_) | (refine i_te ?_; refine qTe ?_) | intro _)
      exact qE ⟨rfl, rfl, rfl⟩
  · rw [decide_eq_false (fun e : l = m => hne (by rw [← hl, ← hm, e]))]
    repeat' (first | (refine iBu ?_; refine tl_y (y_buildN rfl) rfl rfl ?_) | (refine i_op ?_; first | (refine i_qq ?_; refine qQ ?_) | refine qEf ?_) | refine tl_nil ?_ | (refine i_tc ?_; refine qTc ?_) | (refine i_te ?_; refine qTe ?_) | intro _)
    exact qE ⟨rfl, rfl, rfl⟩
theorem eqSTP_spec (ρ : Hp) (s s' : SV) (l m : List Stp) (h : AS ρ 6 stpV s l) (h' : AS ρ 6 stpV s' m) :
    Spec Tryz.prog 107 [.slice s.a s.n s.c, .slice s'.a s'.n s'.c] ρ [] (fun v ρ' L' => v = .bool (decide (l = m)) ∧ ρ' = ρ ∧ L' = []) := by
  have hl := h.at'.len
  have hm := h'.at'.len
  have hn := h.big
  refine spec_enter Tryz.func107 rfl rfl rfl fun u R => ?_
  simp only [argsE, List.cons_append, List.nil_append]
  by_cases hne : s.n = s'.n
  · repeat' (first | (refine iBu ?_; refine tl_y (y_buildN rfl) rfl rfl ?_) | (refine i_op ?_; first | (refine i_qq ?_; refine qQ ?_) | refine qEf ?_) | refine tl_nil ?_ | (refine i_tc ?_; refine qTc ?_) | (refine i_te ?_; refine qTe ?_) | intro _)
    refine tc_loop_g [(0, _), (1, _), (12, _)] (fun (ζ : (Nat)) => [(13, .int .i64 ζ), (4, .bool false)]) (fun (ζ : (Nat)) => ρ) (fun (ζ : (Nat)) => []) (fun (ζ : (Nat)) => ζ ≤ s.n ∧ l.take ζ = m.take ζ) (fun (ζ : (Nat)) => s.n - ζ) (0) (⟨Nat.zero_le _, rfl⟩) ev_le ev_le rfl tk ?_
    rintro k hI
    try simp only [List.cons_append, List.nil_append, List.append_assoc, List.append_eq] at hI ⊢
    try dsimp only at hI ⊢
    obtain ⟨hk, hpre⟩ := hI
    by_cases hlt : k < s.n
    · obtain ⟨b, off, C, T, fr, f1, hb, hfit, hc⟩ := h.at'.get (show k < l.length by omega)
      obtain ⟨b2, off2, C2, T2, fr2, f2, hb2, hfit2, hc2⟩ := h'.at'.get (show k < m.length by omega)
      have ht1 := List.take_succ_eq_append_getElem (show k < l.length by omega)
      have ht2 := List.take_succ_eq_append_getElem (show k < m.length by omega)
      have hf : l = m → l[k]'(by omega) = m[k]'(by omega) := fun e => by subst e; rfl
      generalize l[k]'(by omega) = x at *
      generalize m[k]'(by omega) = y at *
      rw [f1, f2]
      by_cases he : x = y
      · have hd : decide (x = y) = true := decide_eq_true he
        have hpre2 : l.take (k + 1) = m.take (k + 1) := by rw [ht1, ht2, hpre, he]
        repeat' (first | (refine iBu ?_; refine tl_y (y_buildN rfl) rfl rfl ?_) | (refine i_op ?_; first | (refine i_qq ?_; refine qQ ?_) | refine qEf ?_) | refine tl_nil ?_ | (refine i_tc ?_; refine qTc ?_) | (refine i_te ?_; refine qTe ?_) | intro _)
        refine tc_any (Stays _ _ _) stays_refl ?_
        all_goals refine rMv 0 ?_
        all_goals refine rFull ?_
        all_goals refine rMv 1 ?_
        all_goals refine rIa 2 ?_
        all_goals refine rLd 3 ?_
        all_goals refine rMv 4 ?_
        all_goals refine rMv 5 ?_
        all_goals refine rIa 6 ?_
        all_goals refine rLd 7 ?_
        all_goals refine rCm 8 ?_
        all_goals refine rDone ?_
        all_goals (try simp only [hd])
        all_goals (repeat' (first | (refine iBu ?_; refine tl_y (y_buildN rfl) rfl rfl ?_) | (refine i_op ?_; first | (refine i_qq ?_; refine qQ ?_) | refine qEf ?_) | refine tl_nil ?_ | (refine i_tc ?_; refine qTc ?_) | (refine i_te ?_; refine qTe ?_) | intro _))
        all_goals rw [← f1, ← f2]
        all_goals refine te_round_g (k + 1) (⟨hlt, hpre2⟩) ev_le ev_le rfl tk inferInstance (by first | omega | (dsimp only; omega))
      · have hd : decide (x = y) = false := decide_eq_false he
        rw [decide_eq_false (fun e => he (hf e))]
        repeat' (first | (refine iBu ?_; refine tl_y (y_buildN rfl) rfl rfl ?_) | (refine i_op ?_; first | (refine i_qq ?_; refine qQ ?_) | refine qEf ?_) | refine tl_nil ?_ | (refine i_tc ?_; refine qTc ?_) | (refine i_te ?_; refine qTe ?_) | intro _)
        refine tc_any (Stays _ _ _) stays_refl ?_
        all_goals refine rMv 0 ?_
        all_goals refine rFull ?_
        all_goals refine rMv 1 ?_
        all_goals refine rIa 2 ?_
        all_goals refine rLd 3 ?_
        all_goals refine rMv 4 ?_
        all_goals refine rMv 5 ?_
        all_goals refine rIa 6 ?_
        all_goals refine rLd 7 ?_
        all_goals refine rCm 8 ?_
        all_goals refine rDone ?_
        all_goals (try simp only [hd])
        all_goals (repeat' (first | (refine iBu ?_; refine tl_y (y_buildN rfl) rfl rfl ?_) | (refine i_op ?_; first | (refine i_qq ?_; refine qQ ?_) | refine qEf ?_) | refine tl_nil ?_ | (refine i_tc ?_; refine qTc ?_) | (refine i_te ?_; refine qTe ?_) | intro _))
        all_goals exact qE (L' := []) ⟨rfl, rfl, rfl⟩
    · have hk2 : k = s.n := by omega
      subst hk2
      rw [List.take_of_length_le (by omega), List.take_of_length_le (by omega)] at hpre
      rw [decide_eq_true hpre]
      repeat' (first | (refine iBu ?_; refine tl_y (y_buildN rfl) rfl rfl ?_) | (refine i_op ?_; first | (refine i_qq ?_; refine qQ ?_) | refine qEf ?_) | refine tl_nil ?_ | (refine i_tc ?_; refine qTc ?_) | (refine i_te ?_; refine qTe ?_) | intro _)
      exact qE ⟨rfl, rfl, rfl⟩
  · rw [decide_eq_false (fun e : l = m => hne (by rw [← hl, ← hm, e]))]
    repeat' (first | (refine iBu ?_; refine tl_y (y_buildN rfl) rfl rfl ?_) | (refine i_op ?_; first | (refine i_qq ?_; refine qQ ?_) | refine qEf ?_) | refine tl_nil ?_ | (refine i_tc ?_; refine qTc ?_) | (refine i_te ?_; refine qTe ?_) | intro _)
    exact qE ⟨rfl, rfl, rfl⟩
end Go.Proofs.E

namespace Go.Proofs.E
open Go
set_option linter.unusedVariables false
set_option linter.unusedSimpArgs false
set_option linter.unusedSectionVars false
set_option maxRecDepth 4000
set_option maxHeartbeats 1000000
attribute [local irreducible] Yl TL TC TE Spec YSpec R1 Hp.le EnvLe TS TR YS Stays
/-! ## record: a record's bytes as data -/
def imB (two : Bool) (x : Im) : List UInt8 := tB x.page :: ((if two then contB x.b else []) ++ contB x.a)
def stpB (s : Stp) : List UInt8 := tB s.kind :: (if s.kind = 2 ∨ s.kind = 3 then rowB s.row else tB s.row.t :: (be 2 s.row.id ++ (if s.kind = 1 then be 8 (vN s.by') else [])))
def ckTB (t : CkT) : List UInt8 := be 4 t.txn.toNat ++ (be 8 t.first ++ (be 8 t.last ++ (be 8 t.undo ++ [tB t.state])))
def ckPB (p : CkP) : List UInt8 := tB p.page :: be 8 p.since
def listB {α : Type} (f : α → List UInt8) (l : List α) : List UInt8 := UInt8.ofNat l.length :: l.flatMap f
def recHB (r : Rc) : List UInt8 := tB r.kind :: (be 8 r.lsn ++ (be 4 r.txn.toNat ++ be 8 r.prev))
def imsB (r : Rc) : List UInt8 := listB (imB (decide (r.kind = 2))) r.ims
def recTB (r : Rc) : List UInt8 :=
  if r.kind = 2 then imsB r else if r.kind = 3 then be 8 r.next else if r.kind = 4 then be 8 r.next ++ listB stpB r.steps else if r.kind = 5 then be 8 r.next ++ imsB r
  else if r.kind = 9 then be 4 r.nextTxn.toNat ++ (listB ckTB r.txns ++ listB ckPB r.dirty) else []
def recB (r : Rc) : List UInt8 := recHB r ++ recTB r
/-- what a record is that its bytes can be laid -/
structure LayOk (r : Rc) : Prop where
  kind : 0 ≤ r.kind ∧ r.kind < 256
  lsn : r.lsn < 18446744073709551616
  prev : r.prev < 18446744073709551616
  next : r.next < 18446744073709551616
  txn : 0 ≤ r.txn ∧ r.txn < 4294967296
  nextTxn : 0 ≤ r.nextTxn ∧ r.nextTxn < 4294967296
  il : r.ims.length ≤ 16
  im : ∀ x ∈ r.ims, (0 ≤ x.page ∧ x.page < 64) ∧ contOk x.a = true ∧ contOk x.b = true
  sl : r.steps.length ≤ 2
  st : ∀ s ∈ r.steps, stepOk s = true
  tl : r.txns.length ≤ 8
  tx : ∀ t ∈ r.txns, (0 ≤ t.txn ∧ t.txn < 4294967296) ∧ t.first < 18446744073709551616 ∧ t.last < 18446744073709551616 ∧ t.undo < 18446744073709551616 ∧ 0 ≤ t.state ∧ t.state < 256
  dl : r.dirty.length ≤ 64
  di : ∀ p ∈ r.dirty, (0 ≤ p.page ∧ p.page < 64) ∧ p.since < 18446744073709551616
abbrev wrC (wb : Nat) (v : RV) (r : Rc) (w : Value) : List (Nat × Obj) := [(wb, .cells ⟨[.int .i64 r.kind, .int .u64 r.lsn, .int .i64 r.txn, .int .u64 r.prev, .int .u64 r.next, .slice v.i.a v.i.n v.i.c, .slice v.s.a v.s.n v.s.c, .int .i64 r.nextTxn, .slice v.t.a v.t.n v.t.c, .slice v.d.a v.d.n v.d.c, w]⟩ 218 (0, 0))]
abbrev OwnB (w : Value) (l : List UInt8) (sp : List Value) : Prop := OwnS w l.length (l.map u8c) sp 1
abbrev bytC (w : Value) (l : List UInt8) (sp : List Value) : List (Nat × Obj) := ownC w (l.map u8c) sp 5
/-- what a writer's function comes to: these bytes are laid -/
abbrev WrP (ρ : Hp) (wb : Nat) (v : RV) (r : Rc) (l : List UInt8) (z : Value) (ρ' : Hp) (L' : List (List (Nat × Obj))) : Prop :=
  z = .tuple ⟨[]⟩ ∧ ρ.le ρ' ∧ ∃ w' sp', OwnB w' l sp' ∧ L' = [bytC w' l sp', wrC wb v r w']
theorem put32_spec (ρ : Hp) (a : Option Addr) (n c : Nat) (l : List UInt8) (h : SIn ρ u8c a n l) (x : Nat) (hx : x < 4294967296) (hn : n ≤ 1000000) :
    Spec Tryz.prog 226 [.slice a n c, .int .u32 x] ρ [] (fun v ρ' L' => ρ' = ρ ∧ ∃ sp, OwnS v (n + 4) ((l ++ be 4 x).map u8c) sp 1 ∧ L' = [ownC v ((l ++ be 4 x).map u8c) sp 5]) := by
  have hw : IntKind.u64.wrap (x : Int) = x := wrap_id (by simp only [lo, hi]; omega)
  have hs := stand_spec ρ a n c l h x 4 (by omega) (by omega) (by omega) hn
  refine spec_enter Tryz.func226 rfl rfl rfl fun u R => ?_
  simp only [argsE, List.cons_append, List.nil_append]
  repeat' (first | (refine iCv ?_; refine tl_y (y_conv rfl) rfl rfl ?_; rw [hw]) | (refine tl_is (.func 254) ?_; refine qC rfl rfl (hs) ?_; rintro v ρ' L' hle ⟨rfl, sp, hown, rfl⟩ <;> (try simp only [kM, kN, kO])) | (refine i_op ?_; first | (refine i_qq ?_; refine qQ ?_) | refine qEf ?_) | refine tl_nil ?_ | (refine i_tc ?_; refine qTc ?_) | (refine i_te ?_; refine qTe ?_) | intro _)
  exact qE ⟨rfl, sp, hown, rfl⟩
theorem flatMap_app {α : Type} (f : α → List UInt8) (l : List α) : ∀ k (h : k < l.length), (l.take (k + 1)).flatMap f = (l.take k).flatMap f ++ f (l[k]'h) := fun k h => flatMap_take_succ f l k h
theorem wbytes_spec (ρ : Hp) (wb : Nat) (v : RV) (r : Rc) (w : Value) (l : List UInt8) (sp : List Value) (hown : OwnB w l sp) (hn : l.length ≤ 100000) (a : Option Addr) (m c : Nat) (ns : List Int) (h : SIn ρ (fun x : Int => Value.int .i64 x) a m ns) (hb : ∀ x ∈ ns, 0 ≤ x ∧ x < 256) (hm : m ≤ 10) :
    Spec Tryz.prog 168 [.pointer (some ⟨wb, 0, none⟩), .slice a m c] ρ [bytC w l sp, wrC wb v r w] (WrP ρ wb v r (l ++ ns.map tB)) := by
  have hl := h.len
  refine spec_enter Tryz.func168 rfl rfl rfl fun u R => ?_
  simp only [argsE, List.cons_append, List.nil_append]
  repeat' (first | (refine i_op ?_; first | (refine i_qq ?_; refine qQ ?_) | refine qEf ?_) | refine tl_nil ?_ | (refine i_tc ?_; refine qTc ?_) | (refine i_te ?_; refine qTe ?_) | intro _)
  rw [show bytC w l sp = bytC w (l ++ (ns.take 0).map tB) sp by simp]
  refine tc_loop_g [(0, _), (6, _), (7, _)] (fun (ζ : (Nat) × (Value) × (List Value)) => [(8, .int .i64 ζ.1)]) (fun (ζ : (Nat) × (Value) × (List Value)) => ρ) (fun (ζ : (Nat) × (Value) × (List Value)) => [bytC ζ.2.1 (l ++ (ns.take ζ.1).map tB) ζ.2.2, wrC wb v r ζ.2.1]) (fun (ζ : (Nat) × (Value) × (List Value)) => ζ.1 ≤ m ∧ OwnB ζ.2.1 (l ++ (ns.take ζ.1).map tB) ζ.2.2) (fun (ζ : (Nat) × (Value) × (List Value)) => m - ζ.1) ((0, w, sp)) (⟨Nat.zero_le _, by simpa using hown⟩) ev_le ev_le rfl tk ?_
  rintro ⟨k, w1, sp1⟩ hI
  try simp only [List.cons_append, List.nil_append, List.append_assoc, List.append_eq] at hI ⊢
  try dsimp only at hI ⊢
  obtain ⟨hk, hown1⟩ := hI
  by_cases hlt : k < m
  · obtain ⟨b, off, C, T, fr, e1, hbb, hcc⟩ := h.get (show k < ns.length by omega)
    have hts := List.take_succ_eq_append_getElem (show k < ns.length by omega)
    have hx := hb _ (List.getElem_mem (show k < ns.length by omega))
    generalize ns[k]'(by omega) = x at *
    have hxl : (l ++ (ns.take k).map tB).length ≤ 100010 := by simp; omega
    have hmm : (l ++ (ns.take k).map tB).map u8c ++ [u8c (tB x)] = (l ++ (ns.take (k + 1)).map tB).map u8c := by rw [hts]; simp
    have hll : (l ++ (ns.take k).map tB).length + 1 = (l ++ (ns.take (k + 1)).map tB).length := by rw [hts]; simp; omega
    have hxB := tB_eq hx.1 hx.2
    generalize hX : l ++ (ns.take k).map tB = X at *
    obtain ⟨va, vc, rfl, _⟩ := hown1.slice
    rw [e1]
    repeat' (first | (refine tl_buildSlice_s rfl rfl rfl rfl (by simp) rfl rfl (fun _ => ?_); simp only [hxB]) | (refine tl_app (ys := [u8c (tB x)]) (m := 1) rfl rfl hown1 (hR := by infer_instance) SrcV.lit rfl rfl (by decide) rfl (by omega) (by omega) rfl (fun v' sp' hown' => ?_); rw [hmm] at hown' ⊢; rw [hll] at hown'; obtain ⟨va', vc', rfl, _⟩ := hown'.slice) | (refine i_op ?_; first | (refine i_qq ?_; refine qQ ?_) | refine qEf ?_) | refine tl_nil ?_ | (refine i_tc ?_; refine qTc ?_) | (refine i_te ?_; refine qTe ?_) | intro _)
    rw [← e1]
    refine te_round_g (k + 1, _, sp') (⟨hlt, hown'⟩) ev_le ev_le rfl tk inferInstance (by first | omega | (dsimp only; omega))
  · have hk2 : k = m := by omega
    rw [show ns.take k = ns by rw [hk2, ← hl, List.take_length]] at hown1 ⊢
    repeat' (first | (refine i_op ?_; first | (refine i_qq ?_; refine qQ ?_) | refine qEf ?_) | refine tl_nil ?_ | (refine i_tc ?_; refine qTc ?_) | (refine i_te ?_; refine qTe ?_) | intro _)
    exact qE ⟨rfl, Hp.le_refl _, w1, sp1, hown1, rfl⟩
theorem wlongs_spec (ρ : Hp) (wb : Nat) (v : RV) (r : Rc) (w : Value) (l : List UInt8) (sp : List Value) (hown : OwnB w l sp) (hn : l.length ≤ 100000) (a : Option Addr) (m c : Nat) (ns : List Nat) (h : SIn ρ (fun x : Nat => Value.int .u64 (x : Int)) a m ns) (hb : ∀ x ∈ ns, x < 18446744073709551616) (hm : m ≤ 10) :
    Spec Tryz.prog 169 [.pointer (some ⟨wb, 0, none⟩), .slice a m c] ρ [bytC w l sp, wrC wb v r w] (WrP ρ wb v r (l ++ ns.flatMap (be 8))) := by
  have hl := h.len
  refine spec_enter Tryz.func169 rfl rfl rfl fun u R => ?_
  simp only [argsE, List.cons_append, List.nil_append]
  repeat' (first | (refine i_op ?_; first | (refine i_qq ?_; refine qQ ?_) | refine qEf ?_) | refine tl_nil ?_ | (refine i_tc ?_; refine qTc ?_) | (refine i_te ?_; refine qTe ?_) | intro _)
  rw [show bytC w l sp = bytC w (l ++ (ns.take 0).flatMap (be 8)) sp by simp]
  refine tc_loop_g [(0, _), (6, _), (7, _)] (fun (ζ : (Nat) × (Hp) × (Value) × (List Value)) => [(8, .int .i64 ζ.1)]) (fun (ζ : (Nat) × (Hp) × (Value) × (List Value)) => ζ.2.1) (fun (ζ : (Nat) × (Hp) × (Value) × (List Value)) => [bytC ζ.2.2.1 (l ++ (ns.take ζ.1).flatMap (be 8)) ζ.2.2.2, wrC wb v r ζ.2.2.1]) (fun (ζ : (Nat) × (Hp) × (Value) × (List Value)) => ζ.1 ≤ m ∧ ρ.le ζ.2.1 ∧ OwnB ζ.2.2.1 (l ++ (ns.take ζ.1).flatMap (be 8)) ζ.2.2.2) (fun (ζ : (Nat) × (Hp) × (Value) × (List Value)) => m - ζ.1) ((0, ρ, w, sp)) (⟨Nat.zero_le _, Hp.le_refl _, by simpa using hown⟩) ev_le ev_le rfl tk ?_
  rintro ⟨k, ρ1, w1, sp1⟩ hI
  try simp only [List.cons_append, List.nil_append, List.append_assoc, List.append_eq] at hI ⊢
  try dsimp only at hI ⊢
  obtain ⟨hk, hle1, hown1⟩ := hI
  by_cases hlt : k < m
  · obtain ⟨b, off, C, T, fr, e1, hbb, hcc⟩ := (h.mono hle1).get (show k < ns.length by omega)
    have hts := flatMap_app (be 8) ns k (by omega)
    have hx := hb _ (List.getElem_mem (show k < ns.length by omega))
    have hfl := flatMap_le (be 8) 8 (ns.take k) (fun x _ => Nat.le_of_eq (be_length 8 x))
    have htl : (ns.take k).length ≤ 10 := by simp; omega
    generalize ns[k]'(by omega) = x at *
    have hxl : (l ++ (ns.take k).flatMap (be 8)).length ≤ 100080 := by simp only [List.length_append]; omega
    have hmm : l ++ (ns.take k).flatMap (be 8) ++ be 8 x = l ++ (ns.take (k + 1)).flatMap (be 8) := by rw [hts]; simp
    have hll : (l ++ (ns.take k).flatMap (be 8)).length + 8 = (l ++ (ns.take (k + 1)).flatMap (be 8)).length := by rw [hts]; simp [be_length]; omega
    generalize hX : l ++ (ns.take k).flatMap (be 8) = X at *
    obtain ⟨va, vc, rfl, _⟩ := hown1.slice
    rw [e1]
    repeat' (first | (refine tl_is (.func 225) ?_; refine tl_freeze (ownC (.slice va X.length vc) (X.map u8c) sp1 5) (h := by repeat (first | exact rem_here' | apply rem_there')) (fun ρ2 hle2 hfz => ?_); obtain ⟨a1, c1, f1, hc1, hs1⟩ := hown1.sIn hfz; cases f1; refine qC rfl rfl (put64_spec _ va _ vc _ hs1 x hx (by omega)) ?_; rintro v' ρ3 L3 hle3 ⟨rfl, sp3, hown3, rfl⟩; simp only [List.cons_append, List.nil_append]; rw [hmm, hll] at hown3; rw [hmm]; obtain ⟨va', vc', rfl, _⟩ := hown3.slice) | (refine i_op ?_; first | (refine i_qq ?_; refine qQ ?_) | refine qEf ?_) | refine tl_nil ?_ | (refine i_tc ?_; refine qTc ?_) | (refine i_te ?_; refine qTe ?_) | intro _)
    rw [← e1]
    refine te_round_g (k + 1, ρ3, _, sp3) (⟨hlt, Hp.le_trans hle1 hle2, hown3⟩) ev_le ev_le rfl tk inferInstance (by first | omega | (dsimp only; omega))
  · have hk2 : k = m := by omega
    rw [show ns.take k = ns by rw [hk2, ← hl, List.take_length]] at hown1 ⊢
    repeat' (first | (refine i_op ?_; first | (refine i_qq ?_; refine qQ ?_) | refine qEf ?_) | refine tl_nil ?_ | (refine i_tc ?_; refine qTc ?_) | (refine i_te ?_; refine qTe ?_) | intro _)
    exact qE ⟨rfl, hle1, w1, sp1, hown1, rfl⟩
theorem wtxn_spec (ρ : Hp) (wb : Nat) (v : RV) (r : Rc) (w : Value) (l : List UInt8) (sp : List Value) (hown : OwnB w l sp) (hn : l.length ≤ 100000) (x : Int) (h0 : 0 ≤ x ∧ x < 4294967296) :
    Spec Tryz.prog 170 [.pointer (some ⟨wb, 0, none⟩), .int .i64 x] ρ [bytC w l sp, wrC wb v r w] (WrP ρ wb v r (l ++ be 4 x.toNat)) := by
  have hll : l.length + 4 = (l ++ be 4 x.toNat).length := by simp [be_length]
  obtain ⟨va, vc, rfl, _⟩ := hown.slice
  obtain ⟨y, rfl⟩ : ∃ y : Nat, x = y := ⟨x.toNat, by omega⟩
  simp only [Int.toNat_natCast] at hll ⊢
  refine spec_enter Tryz.func170 rfl rfl rfl fun u R => ?_
  simp only [argsE, List.cons_append, List.nil_append]
  repeat' (first | (refine tl_is (.func 226) ?_; refine tl_freeze (ownC (.slice va l.length vc) (l.map u8c) sp 5) (h := by repeat (first | exact rem_here' | apply rem_there')) (fun ρ2 hle2 hfz => ?_); obtain ⟨a1, c1, f1, hc1, hs1⟩ := hown.sIn hfz; cases f1; refine qC rfl rfl (put32_spec _ va _ vc _ hs1 y (by omega) (by omega)) ?_; rintro v' ρ3 L3 hle3 ⟨rfl, sp3, hown3, rfl⟩; simp only [List.cons_append, List.nil_append]; rw [hll] at hown3; obtain ⟨va', vc', rfl, _⟩ := hown3.slice) | (refine i_op ?_; first | (refine i_qq ?_; refine qQ ?_) | refine qEf ?_) | refine tl_nil ?_ | (refine i_tc ?_; refine qTc ?_) | (refine i_te ?_; refine qTe ?_) | intro _)
  exact qE ⟨rfl, hle2, _, sp3, hown3, rfl⟩
theorem wcontent_spec (ρ : Hp) (wb : Nat) (v : RV) (r : Rc) (w : Value) (l : List UInt8) (sp : List Value) (hown : OwnB w l sp) (hn : l.length ≤ 100000) (cv : CV) (c : Cont) (h : CI ρ cv c) (hok : contOk c = true) :
    Spec Tryz.prog 227 [.pointer (some ⟨wb, 0, none⟩), .agg ⟨contV c.kind cv⟩] ρ [bytC w l sp, wrC wb v r w] (WrP ρ wb v r (l ++ contB c)) := by
  have hce := contE_spec ρ cv c h.cin (fun r hr => (h.row r hr).id) h.kid
  rw [if_pos hok, if_pos hok] at hce
  have h82 := contB_len hok
  obtain ⟨va, vc, rfl, _⟩ := hown.slice
  refine spec_enter Tryz.func227 rfl rfl rfl fun u R => ?_
  simp only [argsE, List.cons_append, List.nil_append]
  repeat' (first | (refine tl_is (.func 255) ?_; refine qC rfl rfl (hce) ?_; rintro v ρ' L' hle ⟨hle1, a1, n1, c1, rfl, hc1, hs1, rfl⟩ <;> (try simp only [kM, kN, kO])) | (have hn1 := hs1.len; refine tl_app (ys := (contB c).map u8c) (m := n1) (sz := 1) rfl rfl hown (hR := by infer_instance) (SIn.srcV hs1) (by simpa using hs1.len) (u8c_one _) (by decide) rfl (by omega) (by omega) rfl (fun v' sp' hown' => ?_); rw [← List.map_append] at hown' ⊢; rw [← hs1.len, ← List.length_append] at hown'; obtain ⟨va', vc', rfl, _⟩ := hown'.slice) | (refine i_op ?_; first | (refine i_qq ?_; refine qQ ?_) | refine qEf ?_) | refine tl_nil ?_ | (refine i_tc ?_; refine qTc ?_) | (refine i_te ?_; refine qTe ?_) | intro _)
  exact qE ⟨rfl, hle1, _, sp', hown', rfl⟩
theorem sIn_lit {α : Type} {g : α → Value} {ρ : Hp} {b : Nat} {l : List α} {T : TypeId} {fr : Nat × Nat} (h : ρ b = some (.cells ⟨l.map g⟩ T fr)) : SIn ρ g (some ⟨b, 0, none⟩) l.length l :=
  ⟨rfl, .inr ⟨b, 0, _, T, fr, rfl, h, by rw [List.drop_zero, List.take_of_length_le (by simp)]⟩⟩
abbrev iV (x : Int) : Value := .int .i64 x
abbrev lV (x : Nat) : Value := .int .u64 (x : Int)
theorem wbyte_spec (ρ : Hp) (wb : Nat) (v : RV) (r : Rc) (w : Value) (l : List UInt8) (sp : List Value) (hown : OwnB w l sp) (hn : l.length ≤ 100000) (b : Nat) (x : Int) {T : TypeId} {fr : Nat × Nat} (h : ρ b = some (.cells ⟨[.int .i64 x]⟩ T fr)) (hb : 0 ≤ x ∧ x < 256) :
    Spec Tryz.prog 168 [.pointer (some ⟨wb, 0, none⟩), .slice (some ⟨b, 0, none⟩) 1 1] ρ [bytC w l sp, wrC wb v r w] (WrP ρ wb v r (l ++ [tB x])) :=
  wbytes_spec ρ wb v r w l sp hown hn _ 1 1 [x] (sIn_lit (l := [x]) (g := iV) h) (fun y hy => by rw [List.mem_singleton.1 hy]; exact hb) (by decide)
theorem wlong_spec (ρ : Hp) (wb : Nat) (v : RV) (r : Rc) (w : Value) (l : List UInt8) (sp : List Value) (hown : OwnB w l sp) (hn : l.length ≤ 100000) (b : Nat) (x : Nat) {T : TypeId} {fr : Nat × Nat} (h : ρ b = some (.cells ⟨[.int .u64 (x : Int)]⟩ T fr)) (hb : x < 18446744073709551616) :
    Spec Tryz.prog 169 [.pointer (some ⟨wb, 0, none⟩), .slice (some ⟨b, 0, none⟩) 1 1] ρ [bytC w l sp, wrC wb v r w] (WrP ρ wb v r (l ++ be 8 x)) := by
  have := wlongs_spec ρ wb v r w l sp hown hn _ 1 1 [x] (sIn_lit (l := [x]) (g := lV) h) (fun y hy => by rw [List.mem_singleton.1 hy]; exact hb) (by decide)
  simpa only [List.flatMap_cons, List.flatMap_nil, List.append_nil] using this
theorem wlong3_spec (ρ : Hp) (wb : Nat) (v : RV) (r : Rc) (w : Value) (l : List UInt8) (sp : List Value) (hown : OwnB w l sp) (hn : l.length ≤ 100000) (b : Nat) (x y z : Nat) {T : TypeId} {fr : Nat × Nat} (h : ρ b = some (.cells ⟨[.int .u64 (x : Int), .int .u64 (y : Int), .int .u64 (z : Int)]⟩ T fr)) (hx : x < 18446744073709551616) (hy : y < 18446744073709551616) (hz : z < 18446744073709551616) :
    Spec Tryz.prog 169 [.pointer (some ⟨wb, 0, none⟩), .slice (some ⟨b, 0, none⟩) 3 3] ρ [bytC w l sp, wrC wb v r w] (WrP ρ wb v r (l ++ (be 8 x ++ (be 8 y ++ be 8 z)))) := by
  have := wlongs_spec ρ wb v r w l sp hown hn _ 3 3 [x, y, z] (sIn_lit (l := [x, y, z]) (g := lV) h) (fun q hq => by simp at hq; rcases hq with rfl | rfl | rfl <;> assumption) (by decide)
  simpa only [List.flatMap_cons, List.flatMap_nil, List.append_nil] using this
theorem wnested_spec (ρ : Hp) (wb : Nat) (v : RV) (r : Rc) (w : Value) (l : List UInt8) (sp : List Value) (hown : OwnB w l sp) (hn : l.length ≤ 90000) (h0 : r.next < 18446744073709551616) :
    Spec Tryz.prog 172 [.pointer (some ⟨wb, 0, none⟩)] ρ [bytC w l sp, wrC wb v r w] (WrP ρ wb v r (l ++ be 8 r.next)) := by
  have hρ := Hp.le_refl ρ
  refine spec_enter Tryz.func172 rfl rfl rfl fun u R => ?_
  simp only [argsE, List.cons_append, List.nil_append]
  repeat' (first | (refine tl_buildSlice_s rfl rfl rfl rfl (by simp) rfl rfl (fun bs => ?_); refine tl_freeze _ (h := Rem.here) (fun ρz hlz hfz => ?_); have hbs := hfz _ (List.mem_singleton.2 rfl); clear hfz; have hρ := Hp.le_trans hρ hlz; clear hlz; (try simp only [List.nil_append])) | (refine tl_is (.func 169) ?_; refine qC rfl rfl (wlong_spec _ wb v r w l sp hown (by omega) _ r.next hbs h0) ?_; rintro v ρ' L' hle ⟨rfl, hl1, w1, sp1, hown, rfl⟩ <;> (try simp only [kM, kN, kO])) | (refine i_op ?_; first | (refine i_qq ?_; refine qQ ?_) | refine qEf ?_) | refine tl_nil ?_ | (refine i_tc ?_; refine qTc ?_) | (refine i_te ?_; refine qTe ?_) | intro _)
  exact qE ⟨rfl, Hp.le_trans hρ hl1, w1, sp1, hown, rfl⟩
end Go.Proofs.E

namespace Go.Proofs.E
open Go
set_option linter.unusedVariables false
set_option linter.unusedSimpArgs false
set_option linter.unusedSectionVars false
set_option maxRecDepth 4000
set_option maxHeartbeats 1000000
attribute [local irreducible] Yl TL TC TE Spec YSpec R1 Hp.le EnvLe TS TR YS Stays
theorem imB_len {two : Bool} {x : Im} (ha : contOk x.a = true) (hb : contOk x.b = true) : (imB two x).length ≤ 165 := by
  have h1 := contB_len ha
  have h2 := contB_len hb
  cases two <;> simp [imB] <;> omega
theorem wimages_spec (ρ : Hp) (wb : Nat) (v : RV) (r : Rc) (w : Value) (l : List UInt8) (sp : List Value) (hown : OwnB w l sp) (hn : l.length ≤ 80000) (h : RcIn ρ v r) (hL : LayOk r) :
    Spec Tryz.prog 171 [.pointer (some ⟨wb, 0, none⟩)] ρ [bytC w l sp, wrC wb v r w] (WrP ρ wb v r (l ++ imsB r)) := by
  have hρ := Hp.le_refl ρ
  have hA := h.i.at'
  have hl := hA.len
  have hil := hL.il
  refine spec_enter Tryz.func171 rfl rfl rfl fun u R => ?_
  simp only [argsE, List.cons_append, List.nil_append]
  repeat' (first | (refine tl_buildSlice_s rfl rfl rfl rfl (by simp) rfl rfl (fun bs => ?_); refine tl_freeze _ (h := Rem.here) (fun ρz hlz hfz => ?_); have hbs := hfz _ (List.mem_singleton.2 rfl); clear hfz; have hρ := Hp.le_trans hρ hlz; clear hlz; (try simp only [List.nil_append])) | (refine tl_is (.func 168) ?_; refine qC rfl rfl (wbyte_spec _ wb v r w l sp hown (by omega) _ (v.i.n : Int) hbs (by omega)) ?_; rintro v ρ' L' hle ⟨rfl, hl1, w1, sp1, hown, rfl⟩ <;> (try simp only [kM, kN, kO]); have hρ := Hp.le_trans hρ hl1; clear hl1) | (refine i_op ?_; first | (refine i_qq ?_; refine qQ ?_) | refine qEf ?_) | refine tl_nil ?_ | (refine i_tc ?_; refine qTc ?_) | (refine i_te ?_; refine qTe ?_) | intro _)
  obtain ⟨B, hB⟩ : ∃ B, l ++ [tB (v.i.n : Int)] = B := ⟨_, rfl⟩
  rw [hB] at hown ⊢
  have hBl : B.length ≤ 80001 := by rw [← hB]; simp; omega
  have hfin : B ++ r.ims.flatMap (imB (decide (r.kind = 2))) = l ++ imsB r := by rw [← hB]; simp [imsB, listB, hl, tB]
  generalize hf : imB (decide (r.kind = 2)) = f at *
  rw [show bytC w1 B sp1 = bytC w1 (B ++ (r.ims.take 0).flatMap f) sp1 by simp]
  refine tc_loop_g [(0, _), (17, _), (18, _)] (fun (ζ : (Nat) × (Hp) × (Value) × (List Value)) => [(19, .int .i64 ζ.1)]) (fun (ζ : (Nat) × (Hp) × (Value) × (List Value)) => ζ.2.1) (fun (ζ : (Nat) × (Hp) × (Value) × (List Value)) => [bytC ζ.2.2.1 (B ++ (r.ims.take ζ.1).flatMap f) ζ.2.2.2, wrC wb v r ζ.2.2.1]) (fun (ζ : (Nat) × (Hp) × (Value) × (List Value)) => ζ.1 ≤ v.i.n ∧ ρ.le ζ.2.1 ∧ OwnB ζ.2.2.1 (B ++ (r.ims.take ζ.1).flatMap f) ζ.2.2.2) (fun (ζ : (Nat) × (Hp) × (Value) × (List Value)) => v.i.n - ζ.1) ((0, ρ', w1, sp1)) (⟨Nat.zero_le _, hρ, by simpa using hown⟩) ev_le ev_le rfl tk ?_
  rintro ⟨k, ρ1, w2, sp2⟩ hI
  try simp only [List.cons_append, List.nil_append, List.append_assoc, List.append_eq] at hI ⊢
  try dsimp only at hI ⊢
  obtain ⟨hk, hle1, hown⟩ := hI
  clear hρ
  by_cases hlt : k < v.i.n
  · obtain ⟨b, off, C, T, fr, e1, hbb, hfit, hcc⟩ := (hA.mono hle1).get (show k < r.ims.length by omega)
    have hts := flatMap_app f r.ims k (by omega)
    have hmem := List.getElem_mem (show k < r.ims.length by omega)
    have hin := (h.im _ hmem).mono hle1
    obtain ⟨hp, ha, hb⟩ := hL.im _ hmem
    have hfl := flatMap_le f 165 (r.ims.take k) (fun x hx => by
      rw [← hf]; exact imB_len (hL.im x (List.mem_of_mem_take hx)).2.1 (hL.im x (List.mem_of_mem_take hx)).2.2)
    have htl : (r.ims.take k).length ≤ 16 := by simp; omega
    generalize r.ims[k]'(by omega) = x at *
    have hxl : (B ++ (r.ims.take k).flatMap f).length ≤ 83000 := by simp only [List.length_append]; omega
    have hmm : B ++ (r.ims.take k).flatMap f ++ f x = B ++ (r.ims.take (k + 1)).flatMap f := by rw [hts]; simp
    generalize hX : B ++ (r.ims.take k).flatMap f = X at *
    have hρ := Hp.le_refl ρ1
    have h82 := contB_len hb
    have h83 := contB_len ha
    rw [e1]
    by_cases h2 : r.kind = 2
    · have hfx : f x = tB x.page :: (contB x.b ++ contB x.a) := by rw [← hf, h2]; rfl
      repeat' (first | (refine tl_buildSlice_s rfl rfl rfl rfl (by simp) rfl rfl (fun bs => ?_); refine tl_freeze _ (h := Rem.here) (fun ρz hlz hfz => ?_); have hbs := hfz _ (List.mem_singleton.2 rfl); clear hfz; have hρ := Hp.le_trans hρ hlz; clear hlz; (try simp only [List.nil_append])) | (refine tl_is (.func 168) ?_; refine qC rfl rfl (wbyte_spec _ wb v r w2 X sp2 hown (by omega) _ x.page hbs (by omega)) ?_; rintro v ρ' L' hle ⟨rfl, hl1, w3, sp3, hown, rfl⟩ <;> (try simp only [kM, kN, kO]); have hρ := Hp.le_trans hρ hl1; clear hl1) | (refine tl_is (.func 227) ?_; refine qC rfl rfl ((wcontent_spec _ wb v r w3 _ sp3 hown (by simp only [List.length_append, List.length_cons, List.length_nil, List.length_map, be_length]; omega) x.bv x.b (hin.b.mono hρ) hb)) ?_; rintro v ρ' L' hle ⟨rfl, hl1, w4, sp4, hown, rfl⟩ <;> (try simp only [kM, kN, kO]); have hρ := Hp.le_trans hρ hl1; clear hl1) | (refine tl_is (.func 227) ?_; refine qC rfl rfl ((wcontent_spec _ wb v r w4 _ sp4 hown (by simp only [List.length_append, List.length_cons, List.length_nil, List.length_map, be_length]; omega) x.av x.a (hin.a.mono hρ) ha)) ?_; rintro v ρ' L' hle ⟨rfl, hl1, w5, sp5, hown, rfl⟩ <;> (try simp only [kM, kN, kO]); have hρ := Hp.le_trans hρ hl1; clear hl1) | (refine i_op ?_; first | (refine i_qq ?_; refine qQ ?_) | refine qEf ?_) | refine tl_nil ?_ | (refine i_tc ?_; refine qTc ?_) | (refine i_te ?_; refine qTe ?_) | intro _)
      rw [← e1]
      have e2 : X ++ [tB x.page] ++ contB x.b ++ contB x.a = B ++ (r.ims.take (k + 1)).flatMap f := by rw [← hmm, hfx]; simp
      rw [e2] at hown ⊢
      refine te_round_g (k + 1, _, w5, sp5) (⟨hlt, Hp.le_trans hle1 hρ, hown⟩) ev_le ev_le rfl tk inferInstance (by first | omega | (dsimp only; omega))
    · have hfx : f x = tB x.page :: contB x.a := by rw [← hf, decide_eq_false h2]; rfl
      repeat' (first | (refine tl_buildSlice_s rfl rfl rfl rfl (by simp) rfl rfl (fun bs => ?_); refine tl_freeze _ (h := Rem.here) (fun ρz hlz hfz => ?_); have hbs := hfz _ (List.mem_singleton.2 rfl); clear hfz; have hρ := Hp.le_trans hρ hlz; clear hlz; (try simp only [List.nil_append])) | (refine tl_is (.func 168) ?_; refine qC rfl rfl (wbyte_spec _ wb v r w2 X sp2 hown (by omega) _ x.page hbs (by omega)) ?_; rintro v ρ' L' hle ⟨rfl, hl1, w3, sp3, hown, rfl⟩ <;> (try simp only [kM, kN, kO]); have hρ := Hp.le_trans hρ hl1; clear hl1) | (refine tl_is (.func 227) ?_; refine qC rfl rfl ((wcontent_spec _ wb v r w3 _ sp3 hown (by simp only [List.length_append, List.length_cons, List.length_nil, List.length_map, be_length]; omega) x.av x.a (hin.a.mono hρ) ha)) ?_; rintro v ρ' L' hle ⟨rfl, hl1, w5, sp5, hown, rfl⟩ <;> (try simp only [kM, kN, kO]); have hρ := Hp.le_trans hρ hl1; clear hl1) | (refine i_op ?_; first | (refine i_qq ?_; refine qQ ?_) | refine qEf ?_) | refine tl_nil ?_ | (refine i_tc ?_; refine qTc ?_) | (refine i_te ?_; refine qTe ?_) | intro _)
      rw [← e1]
      have e2 : X ++ [tB x.page] ++ contB x.a = B ++ (r.ims.take (k + 1)).flatMap f := by rw [← hmm, hfx]; simp
      rw [e2] at hown ⊢
      refine te_round_g (k + 1, _, w5, sp5) (⟨hlt, Hp.le_trans hle1 hρ, hown⟩) ev_le ev_le rfl tk inferInstance (by first | omega | (dsimp only; omega))
  · rw [show r.ims.take k = r.ims by rw [show k = r.ims.length by omega, List.take_length], hfin] at hown ⊢
    repeat' (first | (refine i_op ?_; first | (refine i_qq ?_; refine qQ ?_) | refine qEf ?_) | refine tl_nil ?_ | (refine i_tc ?_; refine qTc ?_) | (refine i_te ?_; refine qTe ?_) | intro _)
    exact qE ⟨rfl, hle1, w2, sp2, hown, rfl⟩
theorem wundone_spec (ρ : Hp) (wb : Nat) (v : RV) (r : Rc) (w : Value) (l : List UInt8) (sp : List Value) (hown : OwnB w l sp) (hn : l.length ≤ 70000) (h : RcIn ρ v r) (hL : LayOk r) :
    Spec Tryz.prog 174 [.pointer (some ⟨wb, 0, none⟩)] ρ [bytC w l sp, wrC wb v r w] (WrP ρ wb v r (l ++ (be 8 r.next ++ imsB r))) := by
  refine spec_enter Tryz.func174 rfl rfl rfl fun u R => ?_
  simp only [argsE, List.cons_append, List.nil_append]
  repeat' (first | (refine tl_is (.func 172) ?_; refine qC rfl rfl (wnested_spec _ wb v r w l sp hown (by omega) hL.next) ?_; rintro v ρ' L' hle ⟨rfl, hl1, w1, sp1, hown, rfl⟩ <;> (try simp only [kM, kN, kO])) | (refine tl_is (.func 171) ?_; refine qC rfl rfl (wimages_spec _ wb v r w1 _ sp1 hown (by simp only [List.length_append, List.length_cons, List.length_nil, List.length_map, be_length]; omega) (h.mono hl1) hL) ?_; rintro v ρ' L' hle ⟨rfl, hl2, w2, sp2, hown, rfl⟩ <;> (try simp only [kM, kN, kO])) | (refine i_op ?_; first | (refine i_qq ?_; refine qQ ?_) | refine qEf ?_) | refine tl_nil ?_ | (refine i_tc ?_; refine qTc ?_) | (refine i_te ?_; refine qTe ?_) | intro _)
  rw [List.append_assoc] at hown ⊢
  exact qE ⟨rfl, Hp.le_trans hl1 hl2, w2, sp2, hown, rfl⟩
end Go.Proofs.E

namespace Go.Proofs.E
open Go
set_option linter.unusedVariables false
set_option linter.unusedSimpArgs false
set_option linter.unusedSectionVars false
set_option maxRecDepth 4000
set_option maxHeartbeats 1000000
attribute [local irreducible] Yl TL TC TE Spec YSpec R1 Hp.le EnvLe TS TR YS Stays
/-! ## record: what bytes say, as data -/
def rdN (k : Nat) (s : RS3) : Nat × RS3 := ((numR k s.1 s.2.1).1, (numR k s.1 s.2.1).2.1, (numR k s.1 s.2.1).2.2, s.2.2)
def okS (s : RS3) : Bool := !s.2.2 && decide (s.2.1 = 0)
def skipS (n : Int) (s : RS3) : RS3 := ((rawR n.toNat s.1 s.2.1).2.1, (rawR n.toNat s.1 s.2.1).2.2, s.2.2)
def tkT {α : Type} (t : List UInt8 → α × Int × Int) (z : α) (s : RS3) : α × RS3 := if okS s then (if (t s.1).2.2 = 0 then ((t s.1).1, skipS (t s.1).2.1 s) else (z, s.1, s.2.1, true)) else (z, s)
abbrev ztC : Cont := ⟨0, [], []⟩
abbrev ztR : Row := ⟨0, 0, 0, []⟩
abbrev nilCV : CV := ⟨none, 0, 0, none, 0, 0⟩
def imDb (two : Bool) (s : RS3) : Cont × RS3 := if two then tkT takeContR ztC s else (ztC, s)
def imDa (two : Bool) (p : Nat) (s : RS3) : Im × RS3 := (⟨p, nilCV, (imDb two s).1, nilCV, (tkT takeContR ztC (imDb two s).2).1⟩, (tkT takeContR ztC (imDb two s).2).2)
def imD (two : Bool) (s : RS3) : Im × RS3 := imDa two (rdN 1 s).1 (rdN 1 s).2
def stpDr (k : Nat) (s : RS3) : Stp × RS3 := (⟨k, (tkT takeRowR ztR s).1, 0⟩, (tkT takeRowR ztR s).2)
def stpDb (k t i : Nat) (s : RS3) : Stp × RS3 := if k = 1 then (⟨k, ⟨t, i, 0, []⟩, i64N (rdN 8 s).1⟩, (rdN 8 s).2) else (⟨k, ⟨t, i, 0, []⟩, 0⟩, s)
def stpDi (k t : Nat) (s : RS3) : Stp × RS3 := stpDb k t (rdN 2 s).1 (rdN 2 s).2
def stpDt (k : Nat) (s : RS3) : Stp × RS3 := if k = 2 ∨ k = 3 then stpDr k s else stpDi k (rdN 1 s).1 (rdN 1 s).2
def stpD (s : RS3) : Stp × RS3 := stpDt (rdN 1 s).1 (rdN 1 s).2
def ckTe (t f l u : Nat) (s : RS3) : CkT × RS3 := (⟨t, f, l, u, (rdN 1 s).1⟩, (rdN 1 s).2)
def ckTu (t f l : Nat) (s : RS3) : CkT × RS3 := ckTe t f l (rdN 8 s).1 (rdN 8 s).2
def ckTl (t f : Nat) (s : RS3) : CkT × RS3 := ckTu t f (rdN 8 s).1 (rdN 8 s).2
def ckTf (t : Nat) (s : RS3) : CkT × RS3 := ckTl t (rdN 8 s).1 (rdN 8 s).2
def ckTD (s : RS3) : CkT × RS3 := ckTf (rdN 4 s).1 (rdN 4 s).2
def ckPr (p : Nat) (s : RS3) : CkP × RS3 := (⟨p, (rdN 8 s).1⟩, (rdN 8 s).2)
def ckPD (s : RS3) : CkP × RS3 := ckPr (rdN 1 s).1 (rdN 1 s).2
def manyS {α : Type} (f : RS3 → α × RS3) : Nat → RS3 → List α × RS3
  | 0, s => ([], s)
  | n + 1, s => if okS s then ((f s).1 :: (manyS f n (f s).2).1, (manyS f n (f s).2).2) else ([], s)
def manyD {α : Type} (f : RS3 → α × RS3) (s : RS3) : List α × RS3 := manyS f (rdN 1 s).1 (rdN 1 s).2
def hdP (k l t : Nat) (s : RS3) : Rc × RS3 := (⟨k, l, t, (rdN 8 s).1, 0, [], [], 0, [], []⟩, (rdN 8 s).2)
def hdT (k l : Nat) (s : RS3) : Rc × RS3 := hdP k l (rdN 4 s).1 (rdN 4 s).2
def hdL (k : Nat) (s : RS3) : Rc × RS3 := hdT k (rdN 8 s).1 (rdN 8 s).2
def headD (s : RS3) : Rc × RS3 := hdL (rdN 1 s).1 (rdN 1 s).2
def chD (r : Rc) (s : RS3) : Rc × RS3 := ({ r with ims := (manyD (imD (decide (r.kind = 2))) s).1 }, (manyD (imD (decide (r.kind = 2))) s).2)
def neD (r : Rc) (s : RS3) : Rc × RS3 := ({ r with next := (rdN 8 s).1 }, (rdN 8 s).2)
def doD (r : Rc) (s : RS3) : Rc × RS3 := ({ r with steps := (manyD stpD s).1 }, (manyD stpD s).2)
def cxD (r : Rc) (s : RS3) : Rc × RS3 := ({ r with nextTxn := (rdN 4 s).1 }, (rdN 4 s).2)
def ctD (r : Rc) (s : RS3) : Rc × RS3 := ({ r with txns := (manyD ckTD s).1 }, (manyD ckTD s).2)
def cdD (r : Rc) (s : RS3) : Rc × RS3 := ({ r with dirty := (manyD ckPD s).1 }, (manyD ckPD s).2)
abbrev thenD (f g : Rc → RS3 → Rc × RS3) (r : Rc) (s : RS3) : Rc × RS3 := g (f r s).1 (f r s).2
def tailD (r : Rc) (s : RS3) : Rc × RS3 :=
  if r.kind = 2 then chD r s else if r.kind = 3 then neD r s else if r.kind = 4 then thenD neD doD r s else if r.kind = 5 then thenD neD chD r s
  else if r.kind = 9 then thenD (thenD cxD ctD) cdD r s else (r, s)
def decD (l : List UInt8) : Rc × RS3 := tailD (headD (l, 0, false)).1 (headD (l, 0, false)).2
def decOk (l : List UInt8) : Bool := okS (decD l).2 && (decide ((decD l).2.1.length = 0) && recOk (decD l).1)
def zeroRc : Rc := ⟨0, 0, 0, 0, 0, [], [], 0, [], []⟩
def decR (l : List UInt8) : Rc := if decOk l then (decD l).1 else zeroRc
/-! ## forth and back -/
abbrev FwB {α : Type} (f : RS3 → α × RS3) (enc : α → List UInt8) (x : α) : Prop := ∀ rest, f (enc x ++ rest, 0, false) = (x, rest, 0, false)
theorem rdN_fw {k x : Nat} (h : x < 256 ^ k) (rest : List UInt8) : rdN k (be k x ++ rest, 0, false) = (x, rest, 0, false) := by
  unfold rdN
  simp only [numR_app (be_length k x), unbe_be, Nat.mod_eq_of_lt h]
theorem tkC_fw {c : Cont} (h : contOk c = true) (hf : IdFit c) (rest : List UInt8) : tkT takeContR ztC (contB c ++ rest, 0, false) = (c, rest, 0, false) := by
  unfold tkT
  rw [if_pos (show okS (contB c ++ rest, 0, false) = true from rfl)]
  simp only [takeCont_back h hf rest, if_true, skipS, Int.toNat_natCast]
  unfold rawR
  rw [if_neg (by simp), if_neg (by simp), List.drop_left' rfl]
theorem tkR_fw {c : Row} (h : rowOk c = true) (hf : RowFit c) (rest : List UInt8) : tkT takeRowR ztR (rowB c ++ rest, 0, false) = (c, rest, 0, false) := by
  unfold tkT
  rw [if_pos (show okS (rowB c ++ rest, 0, false) = true from rfl)]
  simp only [takeRow_back h hf rest, if_true, skipS, Int.toNat_natCast]
  unfold rawR
  rw [if_neg (by simp), if_neg (by simp), List.drop_left' rfl]
theorem manyS_fw {α : Type} {f : RS3 → α × RS3} {enc : α → List UInt8} : ∀ (xs : List α), (∀ x ∈ xs, FwB f enc x) → ∀ rest, manyS f xs.length (xs.flatMap enc ++ rest, 0, false) = (xs, rest, 0, false)
  | [], _, rest => rfl
  | x :: xs, h, rest => by
    rw [List.length_cons, manyS, if_pos (by rfl), List.flatMap_cons, List.append_assoc, h x (by simp)]
    simp only [manyS_fw xs (fun y hy => h y (by simp [hy])) rest]
theorem manyD_fw {α : Type} {f : RS3 → α × RS3} {enc : α → List UInt8} {xs : List α} (hl : xs.length ≤ 255) (h : ∀ x ∈ xs, FwB f enc x) : FwB (manyD f) (listB enc) xs := by
  intro rest
  unfold manyD listB
  have e : (UInt8.ofNat xs.length :: xs.flatMap enc) ++ rest = be 1 xs.length ++ (xs.flatMap enc ++ rest) := by rw [be_one]; simp
  rw [e, rdN_fw (by omega)]
  exact manyS_fw xs h rest
end Go.Proofs.E

namespace Go.Proofs.E
open Go
set_option linter.unusedVariables false
set_option linter.unusedSimpArgs false
set_option linter.unusedSectionVars false
set_option maxRecDepth 4000
set_option maxHeartbeats 1000000
attribute [local irreducible] Yl TL TC TE Spec YSpec R1 Hp.le EnvLe TS TR YS Stays
abbrev Im.plain (x : Im) : Im := ⟨x.page, nilCV, x.b, nilCV, x.a⟩
abbrev Rc.plain (r : Rc) : Rc := { r with ims := r.ims.map Im.plain }
theorem imD_fw {two : Bool} {x : Im} (hp : 0 ≤ x.page ∧ x.page < 64) (ha : contOk x.a = true) (hb : contOk x.b = true) (fa : IdFit x.a) (fb : IdFit x.b) (h0 : two = false → x.b = ztC) : FwB (imD two) (imB two) x.plain := by
  intro rest
  have e : imB two x.plain ++ rest = be 1 x.page.toNat ++ ((if two then contB x.b else []) ++ (contB x.a ++ rest)) := by
    rw [be_one]; simp [imB, tB]
  unfold imD
  rw [e, rdN_fw (by omega)]
  unfold imDa
  have e2 : imDb two ((if two then contB x.b else []) ++ (contB x.a ++ rest), 0, false) = (x.b, contB x.a ++ rest, 0, false) := by
    unfold imDb
    cases two
    · rw [h0 rfl]; rfl
    · simp only [if_true]; exact tkC_fw hb fb _
  simp only [e2, tkC_fw ha fa rest, Prod.mk.injEq, and_true]
  have : ((x.page.toNat : Nat) : Int) = x.page := by omega
  rw [this]
structure StpF (s : Stp) : Prop where
  row : RowFit s.row
  by' : i64in s.by'
theorem stpD_fw {s : Stp} (hs : stepOk s = true) (hf : StpF s) : FwB stpD stpB s := by
  intro rest
  obtain ⟨k, ⟨t, id, val, note⟩, b⟩ := s
  obtain ⟨⟨hid, hval⟩, hby⟩ := hf
  dsimp only at hid hval hby
  have hk : k = 1 ∨ k = 2 ∨ k = 3 ∨ k = 4 := by
    unfold stepOk at hs
    dsimp only at hs
    by_cases h1 : k = 1 <;> by_cases h2 : k = 2 <;> by_cases h3 : k = 3 <;> by_cases h4 : k = 4 <;> simp_all
  have hlead : ∀ X, stpD (tB k :: X, 0, false) = stpDt k.toNat (X, 0, false) := fun X => by
    unfold stpD
    have e : tB k :: X = be 1 k.toNat ++ X := by rw [be_one]; rfl
    rw [e, rdN_fw (by omega)]
  unfold stpB
  rw [List.cons_append, hlead]
  have hkk : ((k.toNat : Nat) : Int) = k := by omega
  by_cases h23 : k = 2 ∨ k = 3
  · have hok : b = 0 ∧ rowOk ⟨t, id, val, note⟩ = true := by
      unfold stepOk at hs
      dsimp only at hs
      rw [if_neg (by omega), if_neg (by omega), if_pos h23, Bool.and_eq_true, decide_eq_true_eq] at hs
      exact hs
    rw [if_pos h23]
    unfold stpDt stpDr
    rw [if_pos (by omega), tkR_fw hok.2 ⟨hid, hval⟩]
    simp only [hkk, hok.1]
  · rw [if_neg h23]
    have hon : onlyOk ⟨k, ⟨t, id, val, note⟩, b⟩ = true ∧ (k ≠ 1 → b = 0) := by
      unfold stepOk at hs
      dsimp only at hs
      by_cases h1 : k = 1
      · rw [if_pos h1] at hs; exact ⟨hs, fun h => absurd h1 h⟩
      · rw [if_neg h1, if_pos (by omega), Bool.and_eq_true, decide_eq_true_eq] at hs
        exact ⟨hs.1, fun _ => hs.2⟩
    obtain ⟨hon, hb0⟩ := hon
    unfold onlyOk at hon
    rw [Bool.and_eq_true, decide_eq_true_eq, decide_eq_true_eq] at hon
    obtain ⟨⟨g1, g2⟩, g3, g4⟩ := hon
    dsimp only at g1 g2 g3 g4
    subst g1 g2
    unfold stpDt
    rw [if_neg (by omega)]
    have e : tB t :: (be 2 id ++ (if k = 1 then be 8 (vN b) else [])) ++ rest = be 1 t.toNat ++ (be 2 id ++ ((if k = 1 then be 8 (vN b) else []) ++ rest)) := by rw [be_one]; simp [tB]
    dsimp only
    rw [e, rdN_fw (by omega)]
    unfold stpDi
    rw [rdN_fw (by omega)]
    unfold stpDb
    have htt : ((t.toNat : Nat) : Int) = t := by omega
    by_cases h1 : k = 1
    · rw [if_pos h1, if_pos (by omega), rdN_fw (by have := vN_lt b; omega)]
      simp only [hkk, htt, i64N_vN hby]
    · rw [if_neg h1, if_neg (by omega)]
      simp only [hkk, htt, hb0 h1, List.nil_append]
structure CkTF (t : CkT) : Prop where
  txn : 0 ≤ t.txn ∧ t.txn < 4294967296
  first : t.first < 18446744073709551616
  last : t.last < 18446744073709551616
  undo : t.undo < 18446744073709551616
  state : 0 ≤ t.state ∧ t.state < 256
theorem ckTD_fw {t : CkT} (h : CkTF t) : FwB ckTD ckTB t := by
  intro rest
  obtain ⟨n, f, l, u, e⟩ := t
  obtain ⟨h1, h2, h3, h4, h5⟩ := h
  dsimp only at h1 h2 h3 h4 h5
  have e0 : ckTB ⟨n, f, l, u, e⟩ ++ rest = be 4 n.toNat ++ (be 8 f ++ (be 8 l ++ (be 8 u ++ (be 1 e.toNat ++ rest)))) := by rw [be_one]; simp [ckTB, tB]
  rw [e0]
  unfold ckTD ckTf ckTl ckTu ckTe
  rw [rdN_fw (by omega)]
  simp only [rdN_fw (k := 8) (x := f) (by omega), rdN_fw (k := 8) (x := l) (by omega), rdN_fw (k := 8) (x := u) (by omega), rdN_fw (k := 1) (x := e.toNat) (by omega)]
  rw [show ((n.toNat : Nat) : Int) = n by omega, show ((e.toNat : Nat) : Int) = e by omega]
structure CkPF (p : CkP) : Prop where
  page : 0 ≤ p.page ∧ p.page < 256
  since : p.since < 18446744073709551616
theorem ckPD_fw {p : CkP} (h : CkPF p) : FwB ckPD ckPB p := by
  intro rest
  obtain ⟨n, f⟩ := p
  obtain ⟨h1, h2⟩ := h
  dsimp only at h1 h2
  have e0 : ckPB ⟨n, f⟩ ++ rest = be 1 n.toNat ++ (be 8 f ++ rest) := by rw [be_one]; simp [ckPB, tB]
  rw [e0]
  unfold ckPD ckPr
  rw [rdN_fw (by omega)]
  simp only [rdN_fw (k := 8) (x := f) (by omega)]
  rw [show ((n.toNat : Nat) : Int) = n by omega]
end Go.Proofs.E

namespace Go.Proofs.E
open Go Go.RowKit
set_option linter.unusedVariables false
set_option linter.unusedSimpArgs false
set_option linter.unusedSectionVars false
set_option maxRecDepth 8000
section
variable {H : Type} {enc : TypeId × Value → H} {w : World}
end
end Go.Proofs.E

namespace Go.Proofs.E
open Go Go.RowKit
set_option linter.unusedVariables false
set_option linter.unusedSimpArgs false
set_option linter.unusedSectionVars false
/-! ## what the laws of this chapter are handed -/
end Go.Proofs.E

