/- Tables of layer 22, records of layer 12 and rosters of layer 18 as data, and what their functions come to. Part 12 of 20. -/
import Derived.Test.YtkihjlnjdemnbaaG11
namespace Go.Proofs.E
open Go
set_option linter.unusedVariables false
set_option linter.unusedSimpArgs false
set_option linter.unusedSectionVars false
set_option maxRecDepth 4000
set_option maxHeartbeats 1000000
attribute [local irreducible] Yl TL TC TE Spec YSpec R1 Hp.le EnvLe TS TR YS Stays
/-! ## the first one that is so -/
def idxI {α : Type} (p : α → Bool) (l : List α) : Int := match l.findIdx? p with | some i => (i : Int) | none => -1
theorem idx_found {α : Type} {p : α → Bool} {l : List α} {k : Nat} (h : k < l.length) (hp : p l[k] = true) (hn : ∀ x ∈ l.take k, p x = false) : l.findIdx? p = some k := by
  rw [List.findIdx?_eq_some_iff_getElem]
  refine ⟨h, hp, fun j hj => ?_⟩
  have := hn l[j] (List.mem_take_iff_getElem.2 ⟨j, by omega, rfl⟩)
  simp [this]
theorem idx_none {α : Type} {p : α → Bool} {l : List α} (hn : ∀ x ∈ l, p x = false) : l.findIdx? p = none := by
  rw [List.findIdx?_eq_none_iff]
  exact hn
theorem take_more {α : Type} {p : α → Prop} {l : List α} {k : Nat} (h : k < l.length) (hp : p l[k]) (hn : ∀ x ∈ l.take k, p x) : ∀ x ∈ l.take (k + 1), p x := fun x hx => by
  rw [List.take_succ_eq_append_getElem h] at hx
  rcases List.mem_append.1 hx with hx | hx
  · exact hn x hx
  · rw [List.mem_singleton.1 hx]; exact hp
theorem done1_spec (ρ : Hp) (s : Stp) : Spec Try.prog 88 [.agg ⟨stpV s⟩] ρ [] (fun v ρ' L' => v = .bool (!stepOk s) ∧ ρ' = ρ ∧ L' = []) := by
  refine spec_enter Try.func88 rfl rfl rfl fun u R => ?_
  simp only [argsE, List.cons_append, List.nil_append]
  repeat' (first | (refine tl_is (.func 89) ?_; refine qC rfl rfl (step_spec _ s) ?_; rintro v ρ' L' hle ⟨rfl, rfl, rfl⟩ <;> (try simp only [List.cons_append, List.nil_append, List.append_eq])) | (refine i_op ?_; first | (refine i_qq ?_; refine qQ ?_) | refine qEf ?_) | refine tl_nil ?_ | (refine i_tc ?_; refine qTc ?_) | (refine i_te ?_; refine qTe ?_) | intro _)
  exact qE ⟨rfl, rfl, rfl⟩
abbrev numC (nb : Nat) (n : Int) : SH := [[(nb, .cells ⟨[.int .i64 n]⟩ 3 (0, 0))]]
theorem redoes1_spec (ρ : Hp) (nb : Nat) (n : Int) (x : Im) : Spec Try.prog 57 [.agg ⟨imV x⟩, .pointer (some ⟨nb, 0, none⟩)] ρ (numC nb n) (fun v ρ' L' => v = .bool (decide (x.page = n)) ∧ ρ' = ρ ∧ L' = numC nb n) := by
  refine spec_enter Try.func57 rfl rfl rfl fun u R => ?_
  simp only [argsE, List.cons_append, List.nil_append]
  repeat' (first | (refine i_op ?_; first | (refine i_qq ?_; refine qQ ?_) | refine qEf ?_) | refine tl_nil ?_ | (refine i_tc ?_; refine qTc ?_) | (refine i_te ?_; refine qTe ?_) | intro _)
  refine qF (L' := numC nb n) ?_
  exact ⟨bool_eq (by simp), rfl, rfl⟩
theorem idxStp_spec (ρ : Hp) (a : Option Addr) (n c : Nat) (l : List Stp) (h : AIn ρ 6 stpV a n l) (hn : n ≤ 1000000)  :
    Spec Try.prog 110 [.slice a n c, .func (.func 88) ⟨[]⟩ ⟨[]⟩] ρ [] (fun z ρ' L' => z = .int .i64 (idxI (fun s : Stp => !stepOk s) l) ∧ ρ' = ρ ∧ L' = []) := by
  have hl := h.len
  generalize hP : (fun s : Stp => !stepOk s) = pp
  refine spec_enter Try.func110 rfl rfl rfl fun u R => ?_
  simp only [argsE, List.cons_append, List.nil_append]
  repeat' (first | (refine i_op ?_; first | (refine i_qq ?_; refine qQ ?_) | refine qEf ?_) | refine tl_nil ?_ | (refine i_tc ?_; refine qTc ?_) | (refine i_te ?_; refine qTe ?_) | intro _)
  refine tc_loop_g [(0, _), (1, _), (7, _)] (fun (ζ : (Nat)) => [(8, .int .i64 ζ), (4, .int .i64 0)]) (fun (ζ : (Nat)) => ρ) (fun (ζ : (Nat)) => []) (fun (ζ : (Nat)) => ζ ≤ n ∧ ∀ x ∈ l.take ζ, pp x = false) (fun (ζ : (Nat)) => n - ζ) (0) (⟨Nat.zero_le _, by simp⟩) ev_le ev_le rfl tk ?_
  rintro k hI
  try simp only [List.cons_append, List.nil_append, List.append_assoc, List.append_eq] at hI ⊢
  try dsimp only at hI ⊢
  obtain ⟨hk, hok⟩ := hI
  by_cases hlt : k < n
  · obtain ⟨b, off, C, T, fr, rfl, hb, hfit, hc⟩ := h.get (show k < l.length by omega)
    have hf := fun (e : pp l[k] = true) => idx_found (p := pp) (show k < l.length by omega) e hok
    have ht := fun (e : pp l[k] = false) => take_more (p := fun x => pp x = false) (show k < l.length by omega) e hok
    have hp : pp l[k] = (fun s : Stp => !stepOk s) l[k] := by rw [hP]
    cases hx : pp l[k]
    · have hok2 := ht hx
      rw [hx] at hp
      generalize l[k] = x at *
      repeat' (first | (refine tl_is (.tmp 11) ?_; refine qC rfl rfl (done1_spec _ _) ?_; rintro v ρ' L' hle ⟨rfl, rfl, rfl⟩ <;> (try simp only [List.cons_append, List.nil_append, List.append_eq, ← hp, Bool.not_true, Bool.not_false])) | (refine i_op ?_; first | (refine i_qq ?_; refine qQ ?_) | refine qEf ?_) | refine tl_nil ?_ | (refine i_tc ?_; refine qTc ?_) | (refine i_te ?_; refine qTe ?_) | intro _)
      refine te_round_g (k + 1) (⟨hlt, hok2⟩) ev_le ev_le rfl tk inferInstance (by first | omega | (dsimp only; omega))
    · have e := hf hx
      rw [hx] at hp
      have e2 : idxI pp l = (k : Int) := by unfold idxI; rw [e]
      rw [e2]
      generalize l[k] = x at *
      repeat' (first | (refine tl_is (.tmp 11) ?_; refine qC rfl rfl (done1_spec _ _) ?_; rintro v ρ' L' hle ⟨rfl, rfl, rfl⟩ <;> (try simp only [List.cons_append, List.nil_append, List.append_eq, ← hp, Bool.not_true, Bool.not_false])) | (refine i_op ?_; first | (refine i_qq ?_; refine qQ ?_) | refine qEf ?_) | refine tl_nil ?_ | (refine i_tc ?_; refine qTc ?_) | (refine i_te ?_; refine qTe ?_) | intro _)
      exact qE (L' := []) ⟨rfl, rfl, rfl⟩
  · have hk2 : k = l.length := by omega
    rw [hk2, List.take_length] at hok
    have e2 : idxI pp l = -1 := by unfold idxI; rw [idx_none hok]
    rw [e2]
    repeat' (first | (refine i_op ?_; first | (refine i_qq ?_; refine qQ ?_) | refine qEf ?_) | refine tl_nil ?_ | (refine i_tc ?_; refine qTc ?_) | (refine i_te ?_; refine qTe ?_) | intro _)
    exact qE (L' := []) ⟨rfl, rfl, rfl⟩
theorem idxIm_spec (ρ : Hp) (a : Option Addr) (n c : Nat) (l : List Im) (h : AIn ρ 7 imV a n l) (hn : n ≤ 1000000) (nb : Nat) (num : Int) :
    Spec Try.prog 56 [.slice a n c, .func (.func 57) ⟨[]⟩ ⟨[.pointer (some ⟨nb, 0, none⟩)]⟩] ρ (numC nb num) (fun z ρ' L' => z = .int .i64 (idxI (fun x : Im => decide (x.page = num)) l) ∧ ρ' = ρ ∧ L' = (numC nb num)) := by
  have hl := h.len
  generalize hP : (fun x : Im => decide (x.page = num)) = pp
  refine spec_enter Try.func56 rfl rfl rfl fun u R => ?_
  simp only [argsE, List.cons_append, List.nil_append]
  repeat' (first | (refine i_op ?_; first | (refine i_qq ?_; refine qQ ?_) | refine qEf ?_) | refine tl_nil ?_ | (refine i_tc ?_; refine qTc ?_) | (refine i_te ?_; refine qTe ?_) | intro _)
  refine tc_loop_g [(0, _), (1, _), (7, _)] (fun (ζ : (Nat)) => [(8, .int .i64 ζ), (4, .int .i64 0)]) (fun (ζ : (Nat)) => ρ) (fun (ζ : (Nat)) => (numC nb num)) (fun (ζ : (Nat)) => ζ ≤ n ∧ ∀ x ∈ l.take ζ, pp x = false) (fun (ζ : (Nat)) => n - ζ) (0) (⟨Nat.zero_le _, by simp⟩) ev_le ev_le rfl tk ?_
  rintro k hI
  try simp only [List.cons_append, List.nil_append, List.append_assoc, List.append_eq] at hI ⊢
  try dsimp only at hI ⊢
  obtain ⟨hk, hok⟩ := hI
  by_cases hlt : k < n
  · obtain ⟨b, off, C, T, fr, rfl, hb, hfit, hc⟩ := h.get (show k < l.length by omega)
    have hf := fun (e : pp l[k] = true) => idx_found (p := pp) (show k < l.length by omega) e hok
    have ht := fun (e : pp l[k] = false) => take_more (p := fun x => pp x = false) (show k < l.length by omega) e hok
    have hp : pp l[k] = (fun x : Im => decide (x.page = num)) l[k] := by rw [hP]
    cases hx : pp l[k]
    · have hok2 := ht hx
      rw [hx] at hp
      generalize l[k] = x at *
      repeat' (first | (refine tl_is (.tmp 11) ?_; refine qC rfl rfl (redoes1_spec _ nb num _) ?_; rintro v ρ' L' hle ⟨rfl, rfl, rfl⟩ <;> (try simp only [List.cons_append, List.nil_append, List.append_eq, ← hp, Bool.not_true, Bool.not_false])) | (refine i_op ?_; first | (refine i_qq ?_; refine qQ ?_) | refine qEf ?_) | refine tl_nil ?_ | (refine i_tc ?_; refine qTc ?_) | (refine i_te ?_; refine qTe ?_) | intro _)
      refine te_round_g (k + 1) (⟨hlt, hok2⟩) ev_le ev_le rfl tk inferInstance (by first | omega | (dsimp only; omega))
    · have e := hf hx
      rw [hx] at hp
      have e2 : idxI pp l = (k : Int) := by unfold idxI; rw [e]
      rw [e2]
      generalize l[k] = x at *
      repeat' (first | (refine tl_is (.tmp 11) ?_; refine qC rfl rfl (redoes1_spec _ nb num _) ?_; rintro v ρ' L' hle ⟨rfl, rfl, rfl⟩ <;> (try simp only [List.cons_append, List.nil_append, List.append_eq, ← hp, Bool.not_true, Bool.not_false])) | (refine i_op ?_; first | (refine i_qq ?_; refine qQ ?_) | refine qEf ?_) | refine tl_nil ?_ | (refine i_tc ?_; refine qTc ?_) | (refine i_te ?_; refine qTe ?_) | intro _)
      exact qE (L' := (numC nb num)) ⟨rfl, rfl, rfl⟩
  · have hk2 : k = l.length := by omega
    rw [hk2, List.take_length] at hok
    have e2 : idxI pp l = -1 := by unfold idxI; rw [idx_none hok]
    rw [e2]
    repeat' (first | (refine i_op ?_; first | (refine i_qq ?_; refine qQ ?_) | refine qEf ?_) | refine tl_nil ?_ | (refine i_tc ?_; refine qTc ?_) | (refine i_te ?_; refine qTe ?_) | intro _)
    exact qE (L' := (numC nb num)) ⟨rfl, rfl, rfl⟩
theorem contains_spec (ρ : Hp) (a : Option Addr) (n c : Nat) (l : List Stp) (h : AIn ρ 6 stpV a n l) (hn : n ≤ 1000000) :
    Spec Try.prog 87 [.slice a n c, .func (.func 88) ⟨[]⟩ ⟨[]⟩] ρ [] (fun z ρ' L' => z = .bool (!(l.all stepOk)) ∧ ρ' = ρ ∧ L' = []) := by
  have hi := idxStp_spec ρ a n c l h hn
  have e : decide (0 ≤ idxI (fun s => !stepOk s) l) = !(l.all stepOk) := by
    unfold idxI
    cases hf : l.findIdx? (fun s => !stepOk s) with
    | none =>
      rw [List.findIdx?_eq_none_iff] at hf
      have : l.all stepOk = true := List.all_eq_true.2 (fun x hx => by have := hf x hx; simpa using this)
      rw [this]; rfl
    | some i =>
      obtain ⟨h1, h2, _⟩ := List.findIdx?_eq_some_iff_getElem.1 hf
      have : l.all stepOk = false := by
        rw [List.all_eq_false]
        exact ⟨_, List.getElem_mem h1, by simpa using h2⟩
      rw [this]; simp
  rw [← e]
  generalize idxI (fun s => !stepOk s) l = q at *
  refine spec_enter Try.func87 rfl rfl rfl fun u R => ?_
  simp only [argsE, List.cons_append, List.nil_append]
  repeat' (first | (refine tl_is (.func 110) ?_; refine qC rfl rfl (hi) ?_; rintro v ρ' L' hle ⟨rfl, rfl, rfl⟩ <;> (try simp only [List.cons_append, List.nil_append, List.append_eq])) | (refine i_op ?_; first | (refine i_qq ?_; refine qQ ?_) | refine qEf ?_) | refine tl_nil ?_ | (refine i_tc ?_; refine qTc ?_) | (refine i_te ?_; refine qTe ?_) | intro _)
  refine qF (L' := []) ?_
  exact ⟨bool_eq (by simp), rfl, rfl⟩
abbrev nilS : SV := ⟨none, 0, 0⟩
theorem bare_spec (ρ : Hp) (v : RV) (r : Rc) (hi : v.i.n ≤ 1000000) (hs : v.s.n ≤ 1000000) (ht : v.t.n ≤ 1000000) (hd : v.d.n ≤ 1000000) : Spec Try.prog 64 [.agg ⟨recV v r⟩] ρ []
    (fun z ρ' L' => z = .bool (decide (r.next = 0 ∧ v.i.n = 0 ∧ v.s.n = 0 ∧ v.t.n = 0 ∧ v.d.n = 0 ∧ r.nextTxn = 0)) ∧ ρ' = ρ ∧ L' = []) := by
  refine spec_enter Try.func64 rfl rfl rfl fun u R => ?_
  simp only [argsE, List.cons_append, List.nil_append]
  repeat' (first | (refine i_op ?_; first | (refine i_qq ?_; refine qQ ?_) | refine qEf ?_) | refine tl_nil ?_ | (refine i_tc ?_; refine qTc ?_) | (refine i_te ?_; refine qTe ?_) | (refine i_gd ?_; refine tl_guard rfl rfl (fun hb => ?_) (fun hb => ?_) <;> (try simp only [decide_eq_true_eq, decide_eq_false_iff_not, Bool.not_eq_true, Bool.not_eq_false, beq_iff_eq, bne_iff_ne, ne_eq, decide_eq_decide, Bool.not_eq_eq_eq_not, Bool.not_true, Bool.not_false, beq_eq_false_iff_ne, bne_eq_false_iff_eq, Bool.and_eq_true, Bool.or_eq_true, Bool.and_eq_false_imp, Bool.or_eq_false_iff] at hb)) | (refine i_cond ?_; refine tc_cond rfl (fun hb => ?_) (fun hb => ?_) <;> (try simp only [decide_eq_true_eq, decide_eq_false_iff_not, Bool.not_eq_true, Bool.not_eq_false, beq_iff_eq, bne_iff_ne, ne_eq, decide_eq_decide, Bool.not_eq_eq_eq_not, Bool.not_true, Bool.not_false, beq_eq_false_iff_ne, bne_eq_false_iff_eq, Bool.and_eq_true, Bool.or_eq_true, Bool.and_eq_false_imp, Bool.or_eq_false_iff] at hb)) | intro _)
  all_goals (refine qF (L' := []) ?_; exact ⟨bool_eq (by (try simp [*]); first | done | omega | (intros; omega) | (constructor <;> intros <;> (try simp_all) <;> omega)), rfl, rfl⟩)
theorem aplain_spec (ρ : Hp) (ab : Nat) (v : RV) (r : Rc) : Spec Try.prog 58 [.pointer (some ⟨ab, 0, none⟩)] ρ [askC ab v r] (fun z ρ' L' => z = .bool true ∧ ρ' = ρ ∧ L' = [askC ab v r]) := by
  refine spec_enter Try.func58 rfl rfl rfl fun u R => ?_
  simp only [argsE, List.cons_append, List.nil_append]
  repeat' (first | (refine i_op ?_; first | (refine i_qq ?_; refine qQ ?_) | refine qEf ?_) | refine tl_nil ?_ | (refine i_tc ?_; refine qTc ?_) | (refine i_te ?_; refine qTe ?_) | intro _)
  exact qE (L' := [askC ab v r]) ⟨rfl, rfl, rfl⟩
theorem achange_spec (ρ : Hp) (ab : Nat) (v : RV) (r : Rc) (h : RcIn ρ v r) : Spec Try.prog 59 [.pointer (some ⟨ab, 0, none⟩)] ρ [askC ab v r]
    (fun z ρ' L' => z = .bool (decide (0 < r.ims.length) && imsOk true r.ims) ∧ ρ' = ρ ∧ L' = [askC ab { v with i := nilS } r]) := by
  have hl := h.i.at'.len
  have him := images_spec ρ v.i r.ims h.i h.im true
  refine spec_enter Try.func59 rfl rfl rfl fun u R => ?_
  simp only [argsE, List.cons_append, List.nil_append]
  by_cases h0 : 0 < v.i.n
  · rw [decide_eq_true (show 0 < r.ims.length by omega), Bool.true_and]
    repeat' (first | (refine tl_is (.func 86) ?_; refine qC rfl rfl (him) ?_; rintro v ρ' L' hle ⟨rfl, rfl, rfl⟩ <;> (try simp only [List.cons_append, List.nil_append, List.append_eq])) | (refine i_op ?_; first | (refine i_qq ?_; refine qQ ?_) | refine qEf ?_) | refine tl_nil ?_ | (refine i_tc ?_; refine qTc ?_) | (refine i_te ?_; refine qTe ?_) | intro _)
    exact qE (L' := [askC ab { v with i := nilS } r]) ⟨rfl, rfl, rfl⟩
  · rw [decide_eq_false (show ¬ 0 < r.ims.length by omega), Bool.false_and]
    repeat' (first | (refine i_op ?_; first | (refine i_qq ?_; refine qQ ?_) | refine qEf ?_) | refine tl_nil ?_ | (refine i_tc ?_; refine qTc ?_) | (refine i_te ?_; refine qTe ?_) | intro _)
    exact qE (L' := [askC ab { v with i := nilS } r]) ⟨rfl, rfl, rfl⟩
theorem anested_spec (ρ : Hp) (ab : Nat) (v : RV) (r : Rc) : Spec Try.prog 60 [.pointer (some ⟨ab, 0, none⟩)] ρ [askC ab v r]
    (fun z ρ' L' => z = .bool (decide (r.next < r.prev)) ∧ ρ' = ρ ∧ L' = [askC ab v { r with next := 0 }]) := by
  refine spec_enter Try.func60 rfl rfl rfl fun u R => ?_
  simp only [argsE, List.cons_append, List.nil_append]
  repeat' (first | (refine i_op ?_; first | (refine i_qq ?_; refine qQ ?_) | refine qEf ?_) | refine tl_nil ?_ | (refine i_tc ?_; refine qTc ?_) | (refine i_te ?_; refine qTe ?_) | intro _)
  refine qF (L' := [askC ab v { r with next := 0 }]) ?_
  exact ⟨bool_eq (by simp), rfl, rfl⟩
theorem adone_spec (ρ : Hp) (ab : Nat) (v : RV) (r : Rc) (h : RcIn ρ v r) : Spec Try.prog 61 [.pointer (some ⟨ab, 0, none⟩)] ρ [askC ab v r]
    (fun z ρ' L' => z = .bool (decide (r.next < r.prev) && (decide (0 < r.steps.length ∧ r.steps.length ≤ 2) && r.steps.all stepOk)) ∧ ρ' = ρ ∧ L' = [askC ab { v with s := nilS } { r with next := 0 }]) := by
  have hl := h.s.at'.len
  have hco := contains_spec ρ v.s.a v.s.n v.s.c r.steps h.s.at' h.s.big
  have hne := anested_spec ρ ab { v with s := nilS } r
  rw [hl]
  generalize r.steps.all stepOk = q at *
  refine spec_enter Try.func61 rfl rfl rfl fun u R => ?_
  simp only [argsE, List.cons_append, List.nil_append]
  repeat' (first | (refine tl_is (.func 60) ?_; refine qC rfl rfl (hne) ?_; rintro v ρ' L' hle ⟨rfl, rfl, rfl⟩ <;> (try simp only [List.cons_append, List.nil_append, List.append_eq])) | (refine tl_is (.func 87) ?_; refine qC rfl rfl (hco) ?_; rintro v ρ' L' hle ⟨rfl, rfl, rfl⟩ <;> (try simp only [List.cons_append, List.nil_append, List.append_eq])) | (refine i_op ?_; first | (refine i_qq ?_; refine qQ ?_) | refine qEf ?_) | refine tl_nil ?_ | (refine i_tc ?_; refine qTc ?_) | (refine i_te ?_; refine qTe ?_) | (refine i_gd ?_; refine tl_guard rfl rfl (fun hb => ?_) (fun hb => ?_) <;> (try simp only [decide_eq_true_eq, decide_eq_false_iff_not, Bool.not_eq_true, Bool.not_eq_false, beq_iff_eq, bne_iff_ne, ne_eq, decide_eq_decide, Bool.not_eq_eq_eq_not, Bool.not_true, Bool.not_false, beq_eq_false_iff_ne, bne_eq_false_iff_eq, Bool.and_eq_true, Bool.or_eq_true, Bool.and_eq_false_imp, Bool.or_eq_false_iff] at hb)) | (refine i_cond ?_; refine tc_cond rfl (fun hb => ?_) (fun hb => ?_) <;> (try simp only [decide_eq_true_eq, decide_eq_false_iff_not, Bool.not_eq_true, Bool.not_eq_false, beq_iff_eq, bne_iff_ne, ne_eq, decide_eq_decide, Bool.not_eq_eq_eq_not, Bool.not_true, Bool.not_false, beq_eq_false_iff_ne, bne_eq_false_iff_eq, Bool.and_eq_true, Bool.or_eq_true, Bool.and_eq_false_imp, Bool.or_eq_false_iff] at hb)) | intro _)
  all_goals (refine qF (L' := [askC ab { v with s := nilS } { r with next := 0 }]) ?_; exact ⟨bool_eq (by (try simp [*]); first | done | omega | (intros; omega) | (constructor <;> intros <;> (try simp_all) <;> omega)), rfl, rfl⟩)
theorem aundone_spec (ρ : Hp) (ab : Nat) (v : RV) (r : Rc) (h : RcIn ρ v r) : Spec Try.prog 62 [.pointer (some ⟨ab, 0, none⟩)] ρ [askC ab v r]
    (fun z ρ' L' => z = .bool (decide (r.next < r.lsn) && imsOk false r.ims) ∧ ρ' = ρ ∧ L' = [askC ab { v with i := nilS } { r with next := 0 }]) := by
  have him := images_spec ρ v.i r.ims h.i h.im false
  generalize imsOk false r.ims = q at *
  refine spec_enter Try.func62 rfl rfl rfl fun u R => ?_
  simp only [argsE, List.cons_append, List.nil_append]
  repeat' (first | (refine i_op ?_; first | (refine i_qq ?_; refine qQ ?_) | refine qEf ?_) | refine tl_nil ?_ | (refine i_tc ?_; refine qTc ?_) | (refine i_te ?_; refine qTe ?_) | intro _)
  refine tc_any (Stays _ _ _) stays_refl ?_
  all_goals refine rMv 0 ?_
  all_goals refine rFull ?_
  all_goals refine rNc 1 ?_
  all_goals refine rFa 2 ?_
  all_goals refine rFa 3 ?_
  all_goals refine rLd 4 ?_
  all_goals refine rMv 5 ?_
  all_goals refine rNc 6 ?_
  all_goals refine rFa 7 ?_
  all_goals refine rFa 8 ?_
  all_goals refine rLd 9 ?_
  all_goals refine rAs 10 ?_
  all_goals refine rAs 11 ?_
  all_goals refine rDone ?_
  all_goals (repeat' (first | (refine tl_is (.func 86) ?_; refine qC rfl rfl (him) ?_; rintro v ρ' L' hle ⟨rfl, rfl, rfl⟩ <;> (try simp only [List.cons_append, List.nil_append, List.append_eq])) | (refine i_op ?_; first | (refine i_qq ?_; refine qQ ?_) | refine qEf ?_) | refine tl_nil ?_ | (refine i_tc ?_; refine qTc ?_) | (refine i_te ?_; refine qTe ?_) | (refine i_gd ?_; refine tl_guard rfl rfl (fun hb => ?_) (fun hb => ?_) <;> (try simp only [decide_eq_true_eq, decide_eq_false_iff_not, Bool.not_eq_true, Bool.not_eq_false, beq_iff_eq, bne_iff_ne, ne_eq, decide_eq_decide, Bool.not_eq_eq_eq_not, Bool.not_true, Bool.not_false, beq_eq_false_iff_ne, bne_eq_false_iff_eq, Bool.and_eq_true, Bool.or_eq_true, Bool.and_eq_false_imp, Bool.or_eq_false_iff] at hb)) | (refine i_cond ?_; refine tc_cond rfl (fun hb => ?_) (fun hb => ?_) <;> (try simp only [decide_eq_true_eq, decide_eq_false_iff_not, Bool.not_eq_true, Bool.not_eq_false, beq_iff_eq, bne_iff_ne, ne_eq, decide_eq_decide, Bool.not_eq_eq_eq_not, Bool.not_true, Bool.not_false, beq_eq_false_iff_ne, bne_eq_false_iff_eq, Bool.and_eq_true, Bool.or_eq_true, Bool.and_eq_false_imp, Bool.or_eq_false_iff] at hb)) | intro _))
  all_goals (refine qF (L' := [askC ab { v with i := nilS } { r with next := 0 }]) ?_; exact ⟨bool_eq (by (try simp [*]); first | done | omega | (intros; omega) | (constructor <;> intros <;> (try simp_all) <;> omega)), rfl, rfl⟩)
theorem ackpt_spec (ρ : Hp) (ab : Nat) (v : RV) (r : Rc) (h : RcIn ρ v r) : Spec Try.prog 63 [.pointer (some ⟨ab, 0, none⟩)] ρ [askC ab v r]
    (fun z ρ' L' => z = .bool (decide (1 ≤ r.nextTxn ∧ r.nextTxn ≤ 1073741824 ∧ r.txns.length ≤ 8) && (upB (ckTOk r.lsn r.nextTxn) CkT.txn r.txns r.txns.length && upB (ckPOk r.lsn) CkP.page r.dirty r.dirty.length)) ∧ ρ' = ρ ∧
      L' = [askC ab { v with t := nilS, d := nilS } { r with nextTxn := 0 }]) := by
  have hl := h.t.at'.len
  have ht := fun nb pb => risesCkT_spec ρ v.t.a v.t.n v.t.c r.txns h.t.at' h.t.big nb pb ab r.nextTxn { v with t := nilS, d := nilS } { r with nextTxn := 0 }
  have hd := fun pb => risesCkP_spec ρ v.d.a v.d.n v.d.c r.dirty h.d.at' h.d.big pb ab { v with t := nilS, d := nilS } { r with nextTxn := 0 }
  dsimp only at ht hd
  generalize upB (ckTOk r.lsn r.nextTxn) CkT.txn r.txns r.txns.length = q1 at *
  generalize upB (ckPOk r.lsn) CkP.page r.dirty r.dirty.length = q2 at *
  rw [hl]
  refine spec_enter Try.func63 rfl rfl rfl fun u R => ?_
  simp only [argsE, List.cons_append, List.nil_append]
  repeat' (first | (refine i_op ?_; first | (refine i_qq ?_; refine qQ ?_) | refine qEf ?_) | refine tl_nil ?_ | (refine i_tc ?_; refine qTc ?_) | (refine i_te ?_; refine qTe ?_) | intro _)
  rename_i pb
  refine tc_any (Stays _ _ ([ptrC pb ab, askC ab v r])) (stays_of (hT := tk) (Hp.le_refl _)) ?_
  all_goals refine rLd 0 ?_
  all_goals refine rNc 1 ?_
  all_goals refine rFa 2 ?_
  all_goals refine rFa 3 ?_
  all_goals refine rLd 4 ?_
  all_goals refine rLd 5 ?_
  all_goals refine rNc 6 ?_
  all_goals refine rFa 7 ?_
  all_goals refine rFa 8 ?_
  all_goals refine rLd 9 ?_
  all_goals refine rLd 10 ?_
  all_goals refine rNc 11 ?_
  all_goals refine rFa 12 ?_
  all_goals refine rFa 13 ?_
  all_goals refine rLd 14 ?_
  all_goals (refine rStep (i := 15) ?_; ((try refine qWant ?_); (first | (refine qEf ?_; try intro _)) <;> ((try simp only [List.cons_append, List.nil_append, List.append_eq]); refine tl_nil ?_; refine rNext ?_)))
  all_goals refine rAs 16 ?_
  all_goals refine rAs 17 ?_
  all_goals (refine rStep (i := 18) ?_; ((try refine qWant ?_); (first | (refine qEf ?_; try intro _)) <;> ((try simp only [List.cons_append, List.nil_append, List.append_eq]); refine tl_nil ?_; refine rNext ?_)))
  all_goals refine rDone ?_
  all_goals (repeat' (first | (refine i_op ?_; first | (refine i_qq ?_; refine qQ ?_) | refine qEf ?_) | refine tl_nil ?_ | (refine i_tc ?_; refine qTc ?_) | (refine i_te ?_; refine qTe ?_) | intro _))
  refine tc_any (Stays _ _ ([ptrC pb ab])) (stays_of (hT := tk) (Hp.le_refl _)) ?_
  all_goals refine rLd 0 ?_
  all_goals refine rLd 1 ?_
  all_goals refine rLd 2 ?_
  all_goals refine rNc 3 ?_
  all_goals refine rFa 4 ?_
  all_goals refine rFa 5 ?_
  all_goals (refine rStep (i := 6) ?_; ((try refine qWant ?_); (first | (refine qEf ?_; try intro _)) <;> ((try simp only [List.cons_append, List.nil_append, List.append_eq]); refine tl_nil ?_; refine rNext ?_)))
  all_goals refine rNc 7 ?_
  all_goals refine rFa 8 ?_
  all_goals refine rFa 9 ?_
  all_goals (refine rStep (i := 10) ?_; ((try refine qWant ?_); (first | (refine qEf ?_; try intro _)) <;> ((try simp only [List.cons_append, List.nil_append, List.append_eq]); refine tl_nil ?_; refine rNext ?_)))
  all_goals refine rNc 11 ?_
  all_goals refine rFa 12 ?_
  all_goals refine rFa 13 ?_
  all_goals (refine rStep (i := 14) ?_; ((try refine qWant ?_); (first | (refine qEf ?_; try intro _)) <;> ((try simp only [List.cons_append, List.nil_append, List.append_eq]); refine tl_nil ?_; refine rNext ?_)))
  all_goals refine rDone ?_
  all_goals (repeat' (first | (refine tl_is (.func 90) ?_; refine qC rfl rfl (ht _ _) ?_; rintro v ρ' L' hle ⟨rfl, rfl, rfl⟩ <;> (try simp only [List.cons_append, List.nil_append, List.append_eq])) | (refine tl_is (.func 93) ?_; refine qC rfl rfl (hd _) ?_; rintro v ρ' L' hle ⟨rfl, rfl, rfl⟩ <;> (try simp only [List.cons_append, List.nil_append, List.append_eq])) | (refine i_op ?_; first | (refine i_qq ?_; refine qQ ?_) | refine qEf ?_) | refine tl_nil ?_ | (refine i_tc ?_; refine qTc ?_) | (refine i_te ?_; refine qTe ?_) | (refine i_gd ?_; refine tl_guard rfl rfl (fun hb => ?_) (fun hb => ?_) <;> (try simp only [decide_eq_true_eq, decide_eq_false_iff_not, Bool.not_eq_true, Bool.not_eq_false, beq_iff_eq, bne_iff_ne, ne_eq, decide_eq_decide, Bool.not_eq_eq_eq_not, Bool.not_true, Bool.not_false, beq_eq_false_iff_ne, bne_eq_false_iff_eq, Bool.and_eq_true, Bool.or_eq_true, Bool.and_eq_false_imp, Bool.or_eq_false_iff] at hb)) | (refine i_cond ?_; refine tc_cond rfl (fun hb => ?_) (fun hb => ?_) <;> (try simp only [decide_eq_true_eq, decide_eq_false_iff_not, Bool.not_eq_true, Bool.not_eq_false, beq_iff_eq, bne_iff_ne, ne_eq, decide_eq_decide, Bool.not_eq_eq_eq_not, Bool.not_true, Bool.not_false, beq_eq_false_iff_ne, bne_eq_false_iff_eq, Bool.and_eq_true, Bool.or_eq_true, Bool.and_eq_false_imp, Bool.or_eq_false_iff] at hb)) | intro _))
  all_goals (refine qF (L' := [askC ab { v with t := nilS, d := nilS } { r with nextTxn := 0 }]) ?_; exact ⟨bool_eq (by (try simp [*]); first | done | omega | (intros; omega) | (constructor <;> intros <;> (try simp_all) <;> omega)), rfl, rfl⟩)
end Go.Proofs.E

