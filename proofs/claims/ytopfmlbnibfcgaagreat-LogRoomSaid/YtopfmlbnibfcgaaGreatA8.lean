/- The law LogRoom. Part 8 of 16. -/
import Derived.Test.YtopfmlbnibfcgaaGreatA7
namespace Go.Proofs.E
open Go
set_option linter.unusedVariables false
set_option linter.unusedSimpArgs false
set_option linter.unusedSectionVars false
set_option maxRecDepth 4000
set_option maxHeartbeats 1000000
attribute [local irreducible] Yl TL TC TE Spec ZN R1 Hp.le EnvLe TS TR YS Zp
theorem images_spec (ρ : Hp) (s : SV) (l : List Im) (h : AS ρ 7 imV s l) (him : ∀ x ∈ l, Im.In ρ x) (before : Bool) :
  Spec Tryz.prog 248 [.slice s.a s.n s.c, .bool before] ρ [] (fun v ρ' L' => v = .bool (imsOk before l) ∧ ρ' = ρ ∧ L' = []) := by
 have hl := h.at'.len
 have hr := fun bx => risesIm_spec ρ s.a s.n s.c l h.at' h.big bx before him
 refine Za Tryz.func248 rfl rfl rfl fun u R => ?_
 simp only [Zf, kA]
 unfold imsOk
 by_cases h16 : s.n ≤ 16
 ·rw [decide_eq_true (show l.length ≤ 16 by omega), Bool.true_and]
  repeat' (first | (refine Zb (.func 282) ?_; refine qR rfl rfl (hr _) ?_; try simp only [kA]) | refine zW ?_ | intro _)
  exact qE (L' := []) ⟨rfl, rfl, rfl⟩
 ·rw [decide_eq_false (show ¬ l.length ≤ 16 by omega), Bool.false_and]
  repeat' (first | refine zW ?_ | intro _)
  exact qE (L' := []) ⟨rfl, rfl, rfl⟩
theorem rowV_only (r : Row) : decide (r = ⟨r.t, r.id, 0, []⟩) = decide (r.val = 0 ∧ r.note = []) := by
 obtain ⟨t, i, v, n⟩ := r
 simp
theorem step_spec (ρ : Hp) (s : Stp) : Spec Tryz.prog 251 [.agg ⟨YQ s⟩] ρ [] (fun v ρ' L' => v = .bool (YN s) ∧ ρ' = ρ ∧ L' = []) := by
 obtain ⟨kind, row, bb⟩ := s
 have hck := checkRow_spec ρ row
 have ho := rowV_only row
 unfold YN onlyOk
 dsimp only
 generalize hP : decide (row.val = 0 ∧ row.note = []) = P at *
 generalize hQ : YZ row = Q at *
 refine Za Tryz.func251 rfl rfl rfl fun u R => ?_
 simp only [Zf, kA]
 cases P <;> cases Q
 all_goals (repeat' (first | (refine iBu ?_; refine tl_y (v := .agg ⟨Yi ⟨row.t, row.id, 0, []⟩⟩) (y_build rfl rfl) rfl rfl ?_) | (refine iCm ?_; refine tl_y (y_eqc_l rfl rfl ho) rfl rfl ?_) | (refine Zb (.func 286) ?_; refine qR rfl rfl (hck) ?_; try simp only [kA]) | refine zW ?_ | (refine i_gd ?_; refine YF rfl rfl (fun hb => ?_) (fun hb => ?_) <;> (try simp only [decide_eq_true_eq, decide_eq_false_iff_not, Bool.not_eq_true, Bool.not_eq_false, beq_iff_eq, bne_iff_ne, ne_eq, decide_eq_decide, Bool.not_eq_eq_eq_not, Bool.not_true, Bool.not_false, beq_eq_false_iff_ne, bne_eq_false_iff_eq, Bool.and_eq_true, Bool.or_eq_true, Bool.and_eq_false_imp, Bool.or_eq_false_iff] at hb)) | (refine XF ?_; refine Xe rfl (fun hb => ?_) (fun hb => ?_) <;> (try simp only [decide_eq_true_eq, decide_eq_false_iff_not, Bool.not_eq_true, Bool.not_eq_false, beq_iff_eq, bne_iff_ne, ne_eq, decide_eq_decide, Bool.not_eq_eq_eq_not, Bool.not_true, Bool.not_false, beq_eq_false_iff_ne, bne_eq_false_iff_eq, Bool.and_eq_true, Bool.or_eq_true, Bool.and_eq_false_imp, Bool.or_eq_false_iff] at hb)) | intro _))
 all_goals (refine qF (L' := []) ?_; exact ⟨XY (by clear ho hck; (repeat' split) <;> simp_all <;> omega), rfl, rfl⟩)
end Go.Proofs.E
namespace Go.Proofs.E
open Go
set_option linter.unusedVariables false
set_option linter.unusedSimpArgs false
set_option linter.unusedSectionVars false
set_option maxRecDepth 4000
set_option maxHeartbeats 1000000
attribute [local irreducible] Yl TL TC TE Spec ZN R1 Hp.le EnvLe TS TR YS Zp TP QP
def idxI {α : Type} (p : α → Bool) (l : List α) : Int := match l.findIdx? p with | some i => (i : Int) | none => -1
theorem idx_found {α : Type} {p : α → Bool} {l : List α} {k : Nat} (h : k < l.length) (hp : p l[k] = true) (hn : ∀ x ∈ l.take k, p x = false) : l.findIdx? p = some k := by
 rw [List.findIdx?_eq_some_iff_getElem]
 refine ⟨h, hp, fun j hj => ?_⟩
 have := hn l[j] (List.mem_take_iff_getElem.2 ⟨j, by omega, rfl⟩)
 simp [this]
theorem idx_none {α : Type} {p : α → Bool} {l : List α} (hn : ∀ x ∈ l, p x = false) : l.findIdx? p = none := by
 rw [List.findIdx?_eq_none_iff]
 exact hn
theorem take_more {α : Type} {p : α → Prop} {l : List α} {k : Nat} (h : k < l.length) (hp : p l[k]) (hn : ∀ x ∈ l.take k, p x) : ∀ x ∈ l.take (k + 1), p x := fun x hx => by
 rw [List.take_succ_eq_append_getElem h] at hx
 rcases List.mem_append.1 hx with hx | hx
 ·exact hn x hx
 ·rw [List.mem_singleton.1 hx]; exact hp
theorem done1_spec (ρ : Hp) (s : Stp) : Spec Tryz.prog 250 [.agg ⟨YQ s⟩] ρ [] (fun v ρ' L' => v = .bool (!YN s) ∧ ρ' = ρ ∧ L' = []) := by
 refine Za Tryz.func250 rfl rfl rfl fun u R => ?_
 simp only [Zf, kA]
 repeat' (first | (refine Zb (.func 251) ?_; refine qR rfl rfl (step_spec _ s) ?_; try simp only [kA]) | refine zW ?_ | intro _)
 exact qE ⟨rfl, rfl, rfl⟩
theorem idxStp_spec (ρ : Hp) (a : Option Addr) (n c : Nat) (l : List Stp) (h : AIn ρ 6 YQ a n l) (hn : n ≤ 1000000)  :
  Spec Tryz.prog 285 [.slice a n c, .func (.func 250) ⟨[]⟩ ⟨[]⟩] ρ [] (fun z ρ' L' => z = .int .i64 (idxI (fun s : Stp => !YN s) l) ∧ ρ' = ρ ∧ L' = []) := by
 have hl := h.len
 generalize hP : (fun s : Stp => !YN s) = pp
 refine Za Tryz.func285 rfl rfl rfl fun u R => ?_
 simp only [Zf, kA]
 repeat' (first | refine zW ?_ | intro _)
 refine Zm [(0, _), (1, _), (7, _)] (fun (ζ : (Nat)) => [(8, .int .i64 ζ), (4, .int .i64 0)]) (fun (ζ : (Nat)) => ρ) (fun (ζ : (Nat)) => []) (fun (ζ : (Nat)) => ζ ≤ n ∧ ∀ x ∈ l.take ζ, pp x = false) (fun (ζ : (Nat)) => n - ζ) (0) (⟨Nat.zero_le _, by simp⟩) Zc Zc rfl tk ?_
 rintro k hI
 try simp only [kA, List.append_assoc] at hI ⊢
 try dsimp only at hI ⊢
 obtain ⟨hk, hok⟩ := hI
 by_cases hlt : k < n
 ·obtain ⟨b, off, C, T, fr, rfl, hb, hfit, hc⟩ := h.get (show k < l.length by omega)
  have hf := fun (e : pp l[k] = true) => idx_found (p := pp) (show k < l.length by omega) e hok
  have ht := fun (e : pp l[k] = false) => take_more (p := fun x => pp x = false) (show k < l.length by omega) e hok
  have hp : pp l[k] = (fun s : Stp => !YN s) l[k] := by rw [hP]
  cases hx : pp l[k]
  ·have hok2 := ht hx
   rw [hx] at hp
   generalize l[k] = x at *
   repeat' (first | (refine Zb (.tmp 11) ?_; refine qR rfl rfl (done1_spec _ _) ?_; try simp only [kA, ← hp, Bool.not_true, Bool.not_false]) | refine zW ?_ | intro _)
   refine Zi (k + 1) (⟨hlt, hok2⟩) Zc Zc rfl tk inferInstance (by first | omega | (dsimp only; omega))
  ·have e := hf hx
   rw [hx] at hp
   have e2 : idxI pp l = (k : Int) := by unfold idxI; rw [e]
   rw [e2]
   generalize l[k] = x at *
   repeat' (first | (refine Zb (.tmp 11) ?_; refine qR rfl rfl (done1_spec _ _) ?_; try simp only [kA, ← hp, Bool.not_true, Bool.not_false]) | refine zW ?_ | intro _)
   exact qE (L' := []) ⟨rfl, rfl, rfl⟩
 ·have hk2 : k = l.length := by omega
  rw [hk2, List.take_length] at hok
  have e2 : idxI pp l = -1 := by unfold idxI; rw [idx_none hok]
  rw [e2]
  repeat' (first | refine zW ?_ | intro _)
  exact qE (L' := []) ⟨rfl, rfl, rfl⟩
theorem contains_spec (ρ : Hp) (a : Option Addr) (n c : Nat) (l : List Stp) (h : AIn ρ 6 YQ a n l) (hn : n ≤ 1000000) :
  Spec Tryz.prog 249 [.slice a n c, .func (.func 250) ⟨[]⟩ ⟨[]⟩] ρ [] (fun z ρ' L' => z = .bool (!(l.all YN)) ∧ ρ' = ρ ∧ L' = []) := by
 have hi := idxStp_spec ρ a n c l h hn
 have e : decide (0 ≤ idxI (fun s => !YN s) l) = !(l.all YN) := by
  unfold idxI
  cases hf : l.findIdx? (fun s => !YN s) with
  | none =>
   rw [List.findIdx?_eq_none_iff] at hf
   have : l.all YN = true := List.all_eq_true.2 (fun x hx => by have := hf x hx; simpa using this)
   rw [this]; rfl
  | some i =>
   obtain ⟨h1, h2, _⟩ := List.findIdx?_eq_some_iff_getElem.1 hf
   have : l.all YN = false := by
    rw [List.all_eq_false]
    exact ⟨_, List.getElem_mem h1, by simpa using h2⟩
   rw [this]; simp
 rw [← e]
 generalize idxI (fun s => !YN s) l = q at *
 refine Za Tryz.func249 rfl rfl rfl fun u R => ?_
 simp only [Zf, kA]
 repeat' (first | (refine Zb (.func 285) ?_; refine qR rfl rfl (hi) ?_; try simp only [kA]) | refine zW ?_ | intro _)
 refine qF (L' := []) ?_
 exact ⟨XY (by simp), rfl, rfl⟩
abbrev nilS : SV := ⟨none, 0, 0⟩
theorem bare_spec (ρ : Hp) (v : RV) (r : Rc) (hi : v.i.n ≤ 1000000) (hs : v.s.n ≤ 1000000) (ht : v.t.n ≤ 1000000) (hd : v.d.n ≤ 1000000) : Spec Tryz.prog 211 [.agg ⟨Wt v r⟩] ρ []
  (fun z ρ' L' => z = .bool (decide (r.next = 0 ∧ v.i.n = 0 ∧ v.s.n = 0 ∧ v.t.n = 0 ∧ v.d.n = 0 ∧ r.nextTxn = 0)) ∧ ρ' = ρ ∧ L' = []) := by
 refine Za Tryz.func211 rfl rfl rfl fun u R => ?_
 simp only [Zf, kA]
 repeat' (first | refine zW ?_ | (refine i_gd ?_; refine YF rfl rfl (fun hb => ?_) (fun hb => ?_) <;> (try simp only [decide_eq_true_eq, decide_eq_false_iff_not, Bool.not_eq_true, Bool.not_eq_false, beq_iff_eq, bne_iff_ne, ne_eq, decide_eq_decide, Bool.not_eq_eq_eq_not, Bool.not_true, Bool.not_false, beq_eq_false_iff_ne, bne_eq_false_iff_eq, Bool.and_eq_true, Bool.or_eq_true, Bool.and_eq_false_imp, Bool.or_eq_false_iff] at hb)) | (refine XF ?_; refine Xe rfl (fun hb => ?_) (fun hb => ?_) <;> (try simp only [decide_eq_true_eq, decide_eq_false_iff_not, Bool.not_eq_true, Bool.not_eq_false, beq_iff_eq, bne_iff_ne, ne_eq, decide_eq_decide, Bool.not_eq_eq_eq_not, Bool.not_true, Bool.not_false, beq_eq_false_iff_ne, bne_eq_false_iff_eq, Bool.and_eq_true, Bool.or_eq_true, Bool.and_eq_false_imp, Bool.or_eq_false_iff] at hb)) | intro _)
 all_goals (refine qF (L' := []) ?_; exact ⟨XY (by (try simp [*]); first | done | omega | (intros; omega) | (constructor <;> intros <;> (try simp_all) <;> omega)), rfl, rfl⟩)
theorem aplain_spec (ρ : Hp) (ab : Nat) (v : RV) (r : Rc) : Spec Tryz.prog 205 [.pointer (some ⟨ab, 0, none⟩)] ρ [Xy ab v r] (fun z ρ' L' => z = .bool true ∧ ρ' = ρ ∧ L' = [Xy ab v r]) := by
 refine Za Tryz.func205 rfl rfl rfl fun u R => ?_
 simp only [Zf, kA]
 repeat' (first | refine zW ?_ | intro _)
 exact qE (L' := [Xy ab v r]) ⟨rfl, rfl, rfl⟩
theorem achange_spec (ρ : Hp) (ab : Nat) (v : RV) (r : Rc) (h : RcIn ρ v r) : Spec Tryz.prog 206 [.pointer (some ⟨ab, 0, none⟩)] ρ [Xy ab v r]
  (fun z ρ' L' => z = .bool (decide (0 < r.ims.length) && imsOk true r.ims) ∧ ρ' = ρ ∧ L' = [Xy ab { v with i := nilS } r]) := by
 have hl := h.i.at'.len
 have him := images_spec ρ v.i r.ims h.i h.im true
 refine Za Tryz.func206 rfl rfl rfl fun u R => ?_
 simp only [Zf, kA]
 by_cases h0 : 0 < v.i.n
 ·rw [decide_eq_true (show 0 < r.ims.length by omega), Bool.true_and]
  repeat' (first | (refine Zb (.func 248) ?_; refine qR rfl rfl (him) ?_; try simp only [kA]) | refine zW ?_ | intro _)
  exact qE (L' := [Xy ab { v with i := nilS } r]) ⟨rfl, rfl, rfl⟩
 ·rw [decide_eq_false (show ¬ 0 < r.ims.length by omega), Bool.false_and]
  repeat' (first | refine zW ?_ | intro _)
  exact qE (L' := [Xy ab { v with i := nilS } r]) ⟨rfl, rfl, rfl⟩
theorem anested_spec (ρ : Hp) (ab : Nat) (v : RV) (r : Rc) : Spec Tryz.prog 207 [.pointer (some ⟨ab, 0, none⟩)] ρ [Xy ab v r]
  (fun z ρ' L' => z = .bool (decide (r.next < r.prev)) ∧ ρ' = ρ ∧ L' = [Xy ab v { r with next := 0 }]) := by
 refine Za Tryz.func207 rfl rfl rfl fun u R => ?_
 simp only [Zf, kA]
 repeat' (first | refine zW ?_ | intro _)
 refine qF (L' := [Xy ab v { r with next := 0 }]) ?_
 exact ⟨XY (by simp), rfl, rfl⟩
theorem adone_spec (ρ : Hp) (ab : Nat) (v : RV) (r : Rc) (h : RcIn ρ v r) : Spec Tryz.prog 208 [.pointer (some ⟨ab, 0, none⟩)] ρ [Xy ab v r]
  (fun z ρ' L' => z = .bool (decide (r.next < r.prev) && (decide (0 < r.steps.length ∧ r.steps.length ≤ 2) && r.steps.all YN)) ∧ ρ' = ρ ∧ L' = [Xy ab { v with s := nilS } { r with next := 0 }]) := by
 have hl := h.s.at'.len
 have hco := contains_spec ρ v.s.a v.s.n v.s.c r.steps h.s.at' h.s.big
 have hne := anested_spec ρ ab { v with s := nilS } r
 rw [hl]
 generalize r.steps.all YN = q at *
 refine Za Tryz.func208 rfl rfl rfl fun u R => ?_
 simp only [Zf, kA]
 repeat' (first | (refine Zb (.func 207) ?_; refine qR rfl rfl (hne) ?_; try simp only [kA]) | (refine Zb (.func 249) ?_; refine qR rfl rfl (hco) ?_; try simp only [kA]) | refine zW ?_ | (refine i_gd ?_; refine YF rfl rfl (fun hb => ?_) (fun hb => ?_) <;> (try simp only [decide_eq_true_eq, decide_eq_false_iff_not, Bool.not_eq_true, Bool.not_eq_false, beq_iff_eq, bne_iff_ne, ne_eq, decide_eq_decide, Bool.not_eq_eq_eq_not, Bool.not_true, Bool.not_false, beq_eq_false_iff_ne, bne_eq_false_iff_eq, Bool.and_eq_true, Bool.or_eq_true, Bool.and_eq_false_imp, Bool.or_eq_false_iff] at hb)) | (refine XF ?_; refine Xe rfl (fun hb => ?_) (fun hb => ?_) <;> (try simp only [decide_eq_true_eq, decide_eq_false_iff_not, Bool.not_eq_true, Bool.not_eq_false, beq_iff_eq, bne_iff_ne, ne_eq, decide_eq_decide, Bool.not_eq_eq_eq_not, Bool.not_true, Bool.not_false, beq_eq_false_iff_ne, bne_eq_false_iff_eq, Bool.and_eq_true, Bool.or_eq_true, Bool.and_eq_false_imp, Bool.or_eq_false_iff] at hb)) | intro _)
 all_goals (refine qF (L' := [Xy ab { v with s := nilS } { r with next := 0 }]) ?_; exact ⟨XY (by (try simp [*]); first | done | omega | (intros; omega) | (constructor <;> intros <;> (try simp_all) <;> omega)), rfl, rfl⟩)
theorem aundone_spec (ρ : Hp) (ab : Nat) (v : RV) (r : Rc) (h : RcIn ρ v r) : Spec Tryz.prog 209 [.pointer (some ⟨ab, 0, none⟩)] ρ [Xy ab v r]
  (fun z ρ' L' => z = .bool (decide (r.next < r.lsn) && imsOk false r.ims) ∧ ρ' = ρ ∧ L' = [Xy ab { v with i := nilS } { r with next := 0 }]) := by
 have him := images_spec ρ v.i r.ims h.i h.im false
 generalize imsOk false r.ims = q at *
 refine Za Tryz.func209 rfl rfl rfl fun u R => ?_
 simp only [Zf, kA]
 repeat' (first | refine zW ?_ | intro _)
 refine tpZ [0] (.f [1,2,3,4,5,6,7,8,9,10,11] .o) ?_
 repeat' (refine iT ?_; first | refine rA ?_)
 all_goals (repeat' (first | (refine Zb (.func 248) ?_; refine qR rfl rfl (him) ?_; try simp only [kA]) | refine zW ?_ | (refine i_gd ?_; refine YF rfl rfl (fun hb => ?_) (fun hb => ?_) <;> (try simp only [decide_eq_true_eq, decide_eq_false_iff_not, Bool.not_eq_true, Bool.not_eq_false, beq_iff_eq, bne_iff_ne, ne_eq, decide_eq_decide, Bool.not_eq_eq_eq_not, Bool.not_true, Bool.not_false, beq_eq_false_iff_ne, bne_eq_false_iff_eq, Bool.and_eq_true, Bool.or_eq_true, Bool.and_eq_false_imp, Bool.or_eq_false_iff] at hb)) | (refine XF ?_; refine Xe rfl (fun hb => ?_) (fun hb => ?_) <;> (try simp only [decide_eq_true_eq, decide_eq_false_iff_not, Bool.not_eq_true, Bool.not_eq_false, beq_iff_eq, bne_iff_ne, ne_eq, decide_eq_decide, Bool.not_eq_eq_eq_not, Bool.not_true, Bool.not_false, beq_eq_false_iff_ne, bne_eq_false_iff_eq, Bool.and_eq_true, Bool.or_eq_true, Bool.and_eq_false_imp, Bool.or_eq_false_iff] at hb)) | intro _))
 all_goals (refine qF (L' := [Xy ab { v with i := nilS } { r with next := 0 }]) ?_; exact ⟨XY (by (try simp [*]); first | done | omega | (intros; omega) | (constructor <;> intros <;> (try simp_all) <;> omega)), rfl, rfl⟩)
theorem ackpt_spec (ρ : Hp) (ab : Nat) (v : RV) (r : Rc) (h : RcIn ρ v r) : Spec Tryz.prog 210 [.pointer (some ⟨ab, 0, none⟩)] ρ [Xy ab v r]
  (fun z ρ' L' => z = .bool (decide (1 ≤ r.nextTxn ∧ r.nextTxn ≤ 1073741824 ∧ r.txns.length ≤ 8) && (upB (ckTOk r.lsn r.nextTxn) CkT.txn r.txns r.txns.length && upB (ckPOk r.lsn) CkP.page r.dirty r.dirty.length)) ∧ ρ' = ρ ∧
   L' = [Xy ab { v with t := nilS, d := nilS } { r with nextTxn := 0 }]) := by
 have hl := h.t.at'.len
 have ht := fun nb pb => risesCkT_spec ρ v.t.a v.t.n v.t.c r.txns h.t.at' h.t.big nb pb ab r.nextTxn { v with t := nilS, d := nilS } { r with nextTxn := 0 }
 have hd := fun pb => risesCkP_spec ρ v.d.a v.d.n v.d.c r.dirty h.d.at' h.d.big pb ab { v with t := nilS, d := nilS } { r with nextTxn := 0 }
 dsimp only at ht hd
 generalize upB (ckTOk r.lsn r.nextTxn) CkT.txn r.txns r.txns.length = q1 at *
 generalize upB (ckPOk r.lsn) CkP.page r.dirty r.dirty.length = q2 at *
 rw [hl]
 refine Za Tryz.func210 rfl rfl rfl fun u R => ?_
 simp only [Zf, kA]
 repeat' (first | refine zW ?_ | intro _)
 rename_i pb
 refine tpA [0,1,2,3,4,5,6,7,8,9,10,11,12,13,14] (.e 15 [16,17] (.e 18 [] .o)) ([ptrC pb ab, Xy ab v r]) ?_
 repeat' (refine iT ?_; first | refine rA ?_ | ((refine iE ?_; refine rE ?_) <;> ((try refine Zr ?_); (first | (refine qEf ?_; try intro _)) <;> ((try simp only [kA]); refine Zj ?_; refine rN ?_))))
 all_goals (repeat' (first | refine zW ?_ | intro _))
 refine tpA [0,1,2,3,4,5] (.e 6 [7,8,9] (.e 10 [11,12,13] (.e 14 [] .o))) ([ptrC pb ab]) ?_
 repeat' (refine iT ?_; first | refine rA ?_ | ((refine iE ?_; refine rE ?_) <;> ((try refine Zr ?_); (first | (refine qEf ?_; try intro _)) <;> ((try simp only [kA]); refine Zj ?_; refine rN ?_))))
 all_goals (repeat' (first | (refine Zb (.func 252) ?_; refine qR rfl rfl (ht _ _) ?_; try simp only [kA]) | (refine Zb (.func 255) ?_; refine qR rfl rfl (hd _) ?_; try simp only [kA]) | refine zW ?_ | (refine i_gd ?_; refine YF rfl rfl (fun hb => ?_) (fun hb => ?_) <;> (try simp only [decide_eq_true_eq, decide_eq_false_iff_not, Bool.not_eq_true, Bool.not_eq_false, beq_iff_eq, bne_iff_ne, ne_eq, decide_eq_decide, Bool.not_eq_eq_eq_not, Bool.not_true, Bool.not_false, beq_eq_false_iff_ne, bne_eq_false_iff_eq, Bool.and_eq_true, Bool.or_eq_true, Bool.and_eq_false_imp, Bool.or_eq_false_iff] at hb)) | (refine XF ?_; refine Xe rfl (fun hb => ?_) (fun hb => ?_) <;> (try simp only [decide_eq_true_eq, decide_eq_false_iff_not, Bool.not_eq_true, Bool.not_eq_false, beq_iff_eq, bne_iff_ne, ne_eq, decide_eq_decide, Bool.not_eq_eq_eq_not, Bool.not_true, Bool.not_false, beq_eq_false_iff_ne, bne_eq_false_iff_eq, Bool.and_eq_true, Bool.or_eq_true, Bool.and_eq_false_imp, Bool.or_eq_false_iff] at hb)) | intro _))
 all_goals (refine qF (L' := [Xy ab { v with t := nilS, d := nilS } { r with nextTxn := 0 }]) ?_; exact ⟨XY (by (try simp [*]); first | done | omega | (intros; omega) | (constructor <;> intros <;> (try simp_all) <;> omega)), rfl, rfl⟩)
end Go.Proofs.E
namespace Go.Proofs.E
open Go
set_option linter.unusedVariables false
set_option linter.unusedSimpArgs false
set_option linter.unusedSectionVars false
set_option maxRecDepth 4000
set_option maxHeartbeats 1000000
attribute [local irreducible] Yl TL TC TE Spec ZN R1 Hp.le EnvLe TS TR YS Zp
structure BareR (v' : RV) (r' r : Rc) : Prop where
 i : v'.i.n ≤ 1000000
 s : v'.s.n ≤ 1000000
 t : v'.t.n ≤ 1000000
 d : v'.d.n ≤ 1000000
 eq : decide (r'.next = 0 ∧ v'.i.n = 0 ∧ v'.s.n = 0 ∧ v'.t.n = 0 ∧ v'.d.n = 0 ∧ r'.nextTxn = 0) = bareOk r
def askF (k : Int) : Nat := if k = 2 then 206 else if k = 3 then 207 else if k = 4 then 208 else if k = 5 then 209 else if k = 9 then 210 else 205
theorem ask_spec (ρ : Hp) (ab : Nat) (v : RV) (r : Rc) (h : RcIn ρ v r) (hk : 1 ≤ r.kind ∧ r.kind ≤ 9) : ZK Tryz.prog (askF r.kind) ∧ Spec Tryz.prog (askF r.kind) [.pointer (some ⟨ab, 0, none⟩)] ρ [Xy ab v r]
  (fun z ρ' L' => z = .bool (askOk r) ∧ ρ' = ρ ∧ ∃ v' r', BareR v' r' r ∧ L' = [Xy ab v' r']) := by
 have li := h.i.at'.len
 have ls := h.s.at'.len
 have lt := h.t.at'.len
 have ld := h.d.at'.len
 have bi := h.i.big
 have bs := h.s.big
 have bt := h.t.big
 have bd := h.d.big
 have z0 : nilS.n = 0 := rfl
 have ei : r.ims = [] ↔ v.i.n = 0 := by rw [← li]; exact List.length_eq_zero_iff.symm
 have es : r.steps = [] ↔ v.s.n = 0 := by rw [← ls]; exact List.length_eq_zero_iff.symm
 have et : r.txns = [] ↔ v.t.n = 0 := by rw [← lt]; exact List.length_eq_zero_iff.symm
 have ed : r.dirty = [] ↔ v.d.n = 0 := by rw [← ld]; exact List.length_eq_zero_iff.symm
 unfold askF askOk
 have hb : ∀ (v' : RV) (r' : Rc), (v'.i.n ≤ 1000000 ∧ v'.s.n ≤ 1000000 ∧ v'.t.n ≤ 1000000 ∧ v'.d.n ≤ 1000000) → ((r'.next = 0 ∧ v'.i.n = 0 ∧ v'.s.n = 0 ∧ v'.t.n = 0 ∧ v'.d.n = 0 ∧ r'.nextTxn = 0) ↔
   ((r.next = 0 ∨ r.kind = 3 ∨ r.kind = 4 ∨ r.kind = 5) ∧ (v.i.n = 0 ∨ r.kind = 2 ∨ r.kind = 5) ∧ (v.s.n = 0 ∨ r.kind = 4) ∧ ((v.t.n = 0 ∧ v.d.n = 0 ∧ r.nextTxn = 0) ∨ r.kind = 9))) → BareR v' r' r := fun v' r' h1 h2 =>
  ⟨h1.1, h1.2.1, h1.2.2.1, h1.2.2.2, by unfold bareOk; apply decide_eq_decide.2; rw [ei, es, et, ed]; exact h2⟩
 by_cases k2 : r.kind = 2
 ·rw [if_pos k2, if_pos k2]
  refine ⟨inferInstance, (achange_spec ρ ab v r h).mono ?_⟩
  rintro z ρ' L' _ ⟨rfl, rfl, rfl⟩
  exact ⟨rfl, rfl, _, _, hb { v with i := nilS } r (by dsimp only; omega) (by dsimp only; omega), rfl⟩
 ·rw [if_neg k2, if_neg k2]
  by_cases k3 : r.kind = 3
  ·rw [if_pos k3, if_pos k3]
   refine ⟨inferInstance, (anested_spec ρ ab v r).mono ?_⟩
   rintro z ρ' L' _ ⟨rfl, rfl, rfl⟩
   exact ⟨rfl, rfl, _, _, hb v { r with next := 0 } (by omega) (by dsimp only; omega), rfl⟩
  ·rw [if_neg k3, if_neg k3]
   by_cases k4 : r.kind = 4
   ·rw [if_pos k4, if_pos k4]
    refine ⟨inferInstance, (adone_spec ρ ab v r h).mono ?_⟩
    rintro z ρ' L' _ ⟨rfl, rfl, rfl⟩
    exact ⟨rfl, rfl, _, _, hb { v with s := nilS } { r with next := 0 } (by dsimp only; omega) (by dsimp only; omega), rfl⟩
   ·rw [if_neg k4, if_neg k4]
    by_cases k5 : r.kind = 5
    ·rw [if_pos k5, if_pos k5]
     refine ⟨inferInstance, (aundone_spec ρ ab v r h).mono ?_⟩
     rintro z ρ' L' _ ⟨rfl, rfl, rfl⟩
     exact ⟨rfl, rfl, _, _, hb { v with i := nilS } { r with next := 0 } (by dsimp only; omega) (by dsimp only; omega), rfl⟩
    ·rw [if_neg k5, if_neg k5]
     by_cases k9 : r.kind = 9
     ·rw [if_pos k9, if_pos k9]
      refine ⟨inferInstance, (ackpt_spec ρ ab v r h).mono ?_⟩
      rintro z ρ' L' _ ⟨rfl, rfl, rfl⟩
      exact ⟨rfl, rfl, _, _, hb { v with t := nilS, d := nilS } { r with nextTxn := 0 } (by dsimp only; omega) (by dsimp only; omega), rfl⟩
     ·rw [if_neg k9, if_neg k9]
      refine ⟨inferInstance, (aplain_spec ρ ab v r).mono ?_⟩
      rintro z ρ' L' _ ⟨rfl, rfl, rfl⟩
      exact ⟨rfl, rfl, _, _, hb v r (by omega) (by omega), rfl⟩
theorem askF_chain {f : Nat → Option Value} {k : Int} (hk : 1 ≤ k ∧ k ≤ 9) : (if k = 9 then f 210 else if k = 8 then f 205 else if k = 7 then f 205 else if k = 6 then f 205 else if k = 5 then f 209 else
  if k = 4 then f 208 else if k = 3 then f 207 else if k = 2 then f 206 else if k = 1 then f 205 else none) = f (askF k) := by
 unfold askF
 rcases (show k = 1 ∨ k = 2 ∨ k = 3 ∨ k = 4 ∨ k = 5 ∨ k = 6 ∨ k = 7 ∨ k = 8 ∨ k = 9 by omega) with e | e | e | e | e | e | e | e | e <;> subst e <;> rfl
theorem rcheck_spec (ρ : Hp) (v : RV) (r : Rc) (h : RcIn ρ v r) : Spec Tryz.prog 150 [.agg ⟨Wt v r⟩] ρ [] (fun z ρ' L' => z = .int .i64 (if Yr r then 0 else 220) ∧ ρ' = ρ ∧ L' = []) := by
 have hnil : Yu .i64 [] := by intro e he; simp at he
 have hg0 : ∀ k : Int, YM [] k = none := fun _ => rfl
 refine Za Tryz.func150 rfl rfl rfl fun u R => ?_
 simp only [Zf, kA]
 repeat' (first | (refine ZM rfl rfl rfl hnil (fun es1 ck1 i1 j1 => ?_)) | (refine ZM rfl rfl rfl i1 (fun es2 ck2 i2 j2 => ?_)) | (refine ZM rfl rfl rfl i2 (fun es3 ck3 i3 j3 => ?_)) | (refine ZM rfl rfl rfl i3 (fun es4 ck4 i4 j4 => ?_)) | (refine ZM rfl rfl rfl i4 (fun es5 ck5 i5 j5 => ?_)) | (refine ZM rfl rfl rfl i5 (fun es6 ck6 i6 j6 => ?_)) | (refine ZM rfl rfl rfl i6 (fun es7 ck7 i7 j7 => ?_)) | (refine ZM rfl rfl rfl i7 (fun es8 ck8 i8 j8 => ?_)) | refine zV ?_ | intro _)
 rename_i rb ab mb
 refine ZM rfl rfl rfl i8 (fun es9 ck9 i9 j9 => ?_)
 have hg := j9 r.kind
 rw [j8, j7, j6, j5, j4, j3, j2, j1, hg0] at hg
 clear j1 j2 j3 j4 j5 j6 j7 j8 j9 i1 i2 i3 i4 i5 i6 i7 i8
 by_cases hk : 1 ≤ r.kind ∧ r.kind ≤ 9
 ·obtain ⟨hF, hS⟩ := ask_spec ρ ab v r h hk
  have hgF : YM es9 r.kind = some (Value.func (.func (askF r.kind)) ⟨[.pointer (some ⟨ab, 0, none⟩)]⟩ ⟨[]⟩) := by
   rw [hg]
   exact askF_chain (f := fun F => some (Value.func (.func F) ⟨[.pointer (some ⟨ab, 0, none⟩)]⟩ ⟨[]⟩)) hk
  clear hg
  generalize askF r.kind = F at *
  repeat' (first | (refine Zb (.tmp 90) ?_; refine qC rfl rfl (hS) ?_; rintro v ρ' L' hle ⟨rfl, rfl, v', r', hB, rfl⟩ <;> (try simp only [kA])) | (refine Zb (.func 211) ?_; refine qR rfl rfl (bare_spec _ v' r' hB.i hB.s hB.t hB.d) ?_; try simp only [kA, hB.eq]) | refine zV ?_ | (refine i_gd ?_; refine YF rfl rfl (fun hb => ?_) (fun hb => ?_) <;> (try simp only [decide_eq_true_eq, decide_eq_false_iff_not, Bool.not_eq_true, Bool.not_eq_false, beq_iff_eq, bne_iff_ne, ne_eq, decide_eq_decide, Bool.not_eq_eq_eq_not, Bool.not_true, Bool.not_false, beq_eq_false_iff_ne, bne_eq_false_iff_eq, Bool.and_eq_true, Bool.or_eq_true, Bool.and_eq_false_imp, Bool.or_eq_false_iff, bq2, bqt, bqf] at hb)) | (refine XF ?_; refine Xe rfl (fun hb => ?_) (fun hb => ?_) <;> (try simp only [decide_eq_true_eq, decide_eq_false_iff_not, Bool.not_eq_true, Bool.not_eq_false, beq_iff_eq, bne_iff_ne, ne_eq, decide_eq_decide, Bool.not_eq_eq_eq_not, Bool.not_true, Bool.not_false, beq_eq_false_iff_ne, bne_eq_false_iff_eq, Bool.and_eq_true, Bool.or_eq_true, Bool.and_eq_false_imp, Bool.or_eq_false_iff, bq2, bqt, bqf] at hb)) | intro _)
  all_goals (refine qF (L' := []) ?_; refine ⟨?_, rfl, rfl⟩)
  all_goals first | (have hh : headOk r = false := decide_eq_false (by omega); simp only [Yr, hh, Bool.false_and, Bool.and_false, Bool.false_eq_true, if_false]) | (have hh : headOk r = true := decide_eq_true (by omega); have h9 : decide (1 ≤ r.kind ∧ r.kind ≤ 9) = true := decide_eq_true hk; simp [Yr, hh, h9, *])
 ·have hgN : YM es9 r.kind = none := by
   rw [hg]
   simp only [show ¬ r.kind = 9 by omega, show ¬ r.kind = 8 by omega, show ¬ r.kind = 7 by omega, show ¬ r.kind = 6 by omega, show ¬ r.kind = 5 by omega, show ¬ r.kind = 4 by omega, show ¬ r.kind = 3 by omega, show ¬ r.kind = 2 by omega, show ¬ r.kind = 1 by omega, if_false]
  clear hg
  have e0 : Yr r = false := by simp [Yr, hk]
  rw [e0]
  repeat' (first | refine zV ?_ | (refine i_gd ?_; refine YF rfl rfl (fun hb => ?_) (fun hb => ?_) <;> (try simp only [decide_eq_true_eq, decide_eq_false_iff_not, Bool.not_eq_true, Bool.not_eq_false, beq_iff_eq, bne_iff_ne, ne_eq, decide_eq_decide, Bool.not_eq_eq_eq_not, Bool.not_true, Bool.not_false, beq_eq_false_iff_ne, bne_eq_false_iff_eq, Bool.and_eq_true, Bool.or_eq_true, Bool.and_eq_false_imp, Bool.or_eq_false_iff, bq2, bqt, bqf] at hb)) | (refine XF ?_; refine Xe rfl (fun hb => ?_) (fun hb => ?_) <;> (try simp only [decide_eq_true_eq, decide_eq_false_iff_not, Bool.not_eq_true, Bool.not_eq_false, beq_iff_eq, bne_iff_ne, ne_eq, decide_eq_decide, Bool.not_eq_eq_eq_not, Bool.not_true, Bool.not_false, beq_eq_false_iff_ne, bne_eq_false_iff_eq, Bool.and_eq_true, Bool.or_eq_true, Bool.and_eq_false_imp, Bool.or_eq_false_iff, bq2, bqt, bqf] at hb)) | intro _)
  all_goals (refine qF (L' := []) ?_; exact ⟨rfl, rfl, rfl⟩)
def layF (k : Int) : Nat := if k = 2 then 218 else if k = 3 then 219 else if k = 4 then 220 else if k = 5 then 221 else 222
theorem lay_spec (wb : Nat) (v : RV) (r : Rc) (hL : LayOk r) (hk : r.kind = 2 ∨ r.kind = 3 ∨ r.kind = 4 ∨ r.kind = 5 ∨ r.kind = 9) : ZK Tryz.prog (layF r.kind) ∧ ∀ (ρ : Hp) (w : Value) (l : List UInt8) (sp : List Value), OwnB w l sp → l.length ≤ 60000 → RcIn ρ v r →
  Spec Tryz.prog (layF r.kind) [.pointer (some ⟨wb, 0, none⟩)] ρ [XP w l sp, wrC wb v r w] (WrP ρ wb v r (l ++ recTB r)) := by
 unfold layF recTB
 rcases hk with e | e | e | e | e
 ·rw [if_pos e, if_pos e]
  exact ⟨inferInstance, fun ρ w l sp hown hn h => wimages_spec ρ wb v r w l sp hown (by omega) h hL⟩
 ·rw [if_neg (by omega), if_pos e, if_neg (by omega), if_pos e]
  exact ⟨inferInstance, fun ρ w l sp hown hn h => wnested_spec ρ wb v r w l sp hown (by omega) hL.next⟩
 ·rw [if_neg (by omega), if_neg (by omega), if_pos e, if_neg (by omega), if_neg (by omega), if_pos e]
  exact ⟨inferInstance, fun ρ w l sp hown hn h => wdone_spec ρ wb v r w l sp hown (by omega) h hL⟩
 ·rw [if_neg (by omega), if_neg (by omega), if_neg (by omega), if_pos e, if_neg (by omega), if_neg (by omega), if_neg (by omega), if_pos e]
  exact ⟨inferInstance, fun ρ w l sp hown hn h => wundone_spec ρ wb v r w l sp hown (by omega) h hL⟩
 ·rw [if_neg (by omega), if_neg (by omega), if_neg (by omega), if_neg (by omega), if_neg (by omega), if_neg (by omega), if_neg (by omega), if_neg (by omega), if_pos e]
  exact ⟨inferInstance, fun ρ w l sp hown hn h => wckpt_spec ρ wb v r w l sp hown (by omega) h hL⟩
theorem layF_chain {f : Nat → Option Value} {k : Int} (hk : k = 2 ∨ k = 3 ∨ k = 4 ∨ k = 5 ∨ k = 9) : (if k = 9 then f 222 else if k = 5 then f 221 else if k = 4 then f 220 else if k = 3 then f 219 else if k = 2 then f 218 else none) = f (layF k) := by
 unfold layF
 rcases hk with e | e | e | e | e <;> subst e <;> rfl
theorem recTB_none {r : Rc} (hk : ¬ (r.kind = 2 ∨ r.kind = 3 ∨ r.kind = 4 ∨ r.kind = 5 ∨ r.kind = 9)) : recTB r = [] := by
 unfold recTB
 rw [if_neg (by omega), if_neg (by omega), if_neg (by omega), if_neg (by omega), if_neg (by omega)]
theorem rlaid_spec (ρ : Hp) (v : RV) (r : Rc) (h : RcIn ρ v r) (hL : LayOk r) : Spec Tryz.prog 153 [.agg ⟨Wt v r⟩] ρ []
  (fun z ρ' L' => ρ.le ρ' ∧ ∃ a c, z = .slice a (Xa r).length c ∧ (Xa r).length ≤ c ∧ SIn ρ' Zo a (Xa r).length (Xa r) ∧ L' = []) := by
 have hρ := Hp.le_refl ρ
 have hnil : Yu .i64 [] := by intro e he; simp at he
 have hg0 : ∀ k : Int, YM [] k = none := fun _ => rfl
 have k1 := hL.kind
 have k2 := hL.lsn
 have k3 := hL.txn
 have k4 := hL.prev
 refine Za Tryz.func153 rfl rfl rfl fun u R => ?_
 simp only [Zf, kA]
 repeat' (first | (refine Zl rfl rfl rfl rfl (by simp) rfl rfl (fun bs => ?_); refine ZJ _ (h := Rem.here) (fun ρz hlz hfz => ?_); have hbs := hfz _ (List.mem_singleton.2 rfl); clear hfz; have hρ := Hp.le_trans hρ hlz; clear hlz; (try simp only [List.nil_append])) | (rename_i rb wb; refine Zb (.func 215) ?_; refine tl_call rfl rfl (YA _ _ v r (.slice none 0 0) [] [] (OwnS.nil 1) (by decide) _ r.kind hbs k1) (Wl rem_nil' (Wl Zz take_nil')) rfl ?_; rintro z1 ρ1 L1 hle0 ⟨rfl, hl1, w1, sp1, hown, rfl⟩; simp only [kA] at hown ⊢; have hρ := Hp.le_trans hρ hl1; clear hl1) | (refine Zb (.func 216) ?_; refine qC rfl rfl ((wlong_spec _ _ v r w1 _ sp1 hown (by (try simp only [List.length_append, List.length_cons, List.length_nil, List.length_map, Zh]) <;> omega) _ r.lsn hbs k2)) ?_; rintro v ρ' L' hle ⟨rfl, hl1, w2, sp2, hown, rfl⟩ <;> (try simp only [kA]); have hρ := Hp.le_trans hρ hl1; clear hl1) | (refine Zb (.func 217) ?_; refine qC rfl rfl ((wtxn_spec _ _ v r w2 _ sp2 hown (by (try simp only [List.length_append, List.length_cons, List.length_nil, List.length_map, Zh]) <;> omega) r.txn k3)) ?_; rintro v ρ' L' hle ⟨rfl, hl1, w3, sp3, hown, rfl⟩ <;> (try simp only [kA]); have hρ := Hp.le_trans hρ hl1; clear hl1) | (refine Zb (.func 216) ?_; refine qC rfl rfl ((wlong_spec _ _ v r w3 _ sp3 hown (by (try simp only [List.length_append, List.length_cons, List.length_nil, List.length_map, Zh]) <;> omega) _ r.prev hbs k4)) ?_; rintro v ρ' L' hle ⟨rfl, hl1, w4, sp4, hown, rfl⟩ <;> (try simp only [kA]); have hρ := Hp.le_trans hρ hl1; clear hl1) | (refine ZM rfl rfl rfl hnil (fun es1 ck1 i1 j1 => ?_)) | (refine ZM rfl rfl rfl i1 (fun es2 ck2 i2 j2 => ?_)) | (refine ZM rfl rfl rfl i2 (fun es3 ck3 i3 j3 => ?_)) | (refine ZM rfl rfl rfl i3 (fun es4 ck4 i4 j4 => ?_)) | refine zV ?_ | intro _)
 rename_i mb
 refine ZM rfl rfl rfl i4 (fun es5 ck5 i5 j5 => ?_)
 have hg := j5 r.kind
 rw [j4, j3, j2, j1, hg0] at hg
 clear j1 j2 j3 j4 j5 i1 i2 i3 i4
 have hH : tB r.kind :: (be 8 r.lsn ++ be 4 r.txn.toNat ++ be 8 r.prev) = recHB r := by simp [recHB]
 have hHl : (recHB r).length ≤ 100 := by simp [recHB, Zh]
 simp only [kA, hH] at hown ⊢
 by_cases hk : r.kind = 2 ∨ r.kind = 3 ∨ r.kind = 4 ∨ r.kind = 5 ∨ r.kind = 9
 ·obtain ⟨hF, hS⟩ := lay_spec wb v r hL hk
  have hS := fun ρ (hle : Hp.le _ ρ) => hS ρ w4 _ sp4 hown (by omega) (h.mono hle)
  have hgF : YM es5 r.kind = some (Value.func (.func (layF r.kind)) ⟨[.pointer (some ⟨wb, 0, none⟩)]⟩ ⟨[]⟩) := by
   rw [hg]
   exact layF_chain (f := fun F => some (Value.func (.func F) ⟨[.pointer (some ⟨wb, 0, none⟩)]⟩ ⟨[]⟩)) hk
  clear hg
  generalize layF r.kind = F at *
  repeat' (first | (refine Zb (.tmp 46) ?_; refine qC rfl rfl (hS _ hρ) ?_; rintro v ρ' L' hle ⟨rfl, hl1, w5, sp5, hown, rfl⟩ <;> (try simp only [kA]); have hρ := Hp.le_trans hρ hl1; clear hl1) | refine zV ?_ | intro _)
  have hB : recHB r ++ recTB r = Xa r := rfl
  rw [hB] at hown ⊢
  obtain ⟨va, vc, rfl, _⟩ := hown.slice
  repeat' (first | refine zV ?_ | intro _)
  refine Yb (XP (.slice va (Xa r).length vc) (Xa r) sp5) (h := by repeat (first | exact Zz | apply ZE)) (fun ρ6 hle6 hfz => ?_)
  obtain ⟨a6, c6, e6, hc6, hs6⟩ := hown.sIn hfz
  cases e6
  exact qE ⟨Hp.le_trans hρ hle6, va, vc, rfl, hc6, hs6, rfl⟩
 ·have hgN : YM es5 r.kind = none := by
   rw [hg]
   simp only [show ¬ r.kind = 9 by omega, show ¬ r.kind = 5 by omega, show ¬ r.kind = 4 by omega, show ¬ r.kind = 3 by omega, show ¬ r.kind = 2 by omega, if_false]
  clear hg
  have hB : recHB r = Xa r := by unfold Xa; rw [recTB_none hk, List.append_nil]
  rw [hB] at hown ⊢
  obtain ⟨va, vc, rfl, _⟩ := hown.slice
  repeat' (first | refine zV ?_ | intro _)
  refine Yb (XP (.slice va (Xa r).length vc) (Xa r) sp4) (h := by repeat (first | exact Zz | apply ZE)) (fun ρ6 hle6 hfz => ?_)
  obtain ⟨a6, c6, e6, hc6, hs6⟩ := hown.sIn hfz
  cases e6
  exact qE ⟨Hp.le_trans hρ hle6, va, vc, rfl, hc6, hs6, rfl⟩
theorem XK {k : Nat} {x rest : List UInt8} (h : x.length = k) : ZW k (x ++ rest) 0 = (Ym x, rest, 0) := by
 unfold ZW
 rw [if_neg (by simp), if_neg (by simp; omega), List.take_left' h, List.drop_left' h]
theorem unbe_one (b : UInt8) : Ym [b] = b.toNat := by simp [Ym]
theorem tB_toNat {t : Int} (h0 : 0 ≤ t) (h1 : t < 256) : ((tB t).toNat : Int) = t := by
 obtain ⟨n, rfl⟩ : ∃ n : Nat, t = n := ⟨t.toNat, by omega⟩
 simp only [tB, Int.toNat_natCast, UInt8.toNat_ofNat']
 have e : (2 : Nat) ^ 8 = 256 := by decide
 rw [e]; omega
theorem rowR_back {r : Row} (hr : YZ r = true) (hf : Xs r) (rest : List UInt8) : XR (ZR r ++ rest) 0 false = (r, rest, 0, false) := by
 obtain ⟨h0, h3, h8⟩ := rowOk_iff hr
 obtain ⟨hid, hval⟩ := hf
 obtain ⟨t, id, val, note⟩ := r
 dsimp only at h0 h3 h8 hid hval
 have e0 : ZR ⟨t, id, val, note⟩ ++ rest = [tB t] ++ (be 2 id ++ (be 8 (vN val) ++ ([UInt8.ofNat note.length] ++ (note ++ rest)))) := by simp [ZR, keyB]
 have e1 : ZW 1 (ZR ⟨t, id, val, note⟩ ++ rest) 0 = ((tB t).toNat, be 2 id ++ (be 8 (vN val) ++ ([UInt8.ofNat note.length] ++ (note ++ rest))), 0) := by rw [e0, XK (k := 1) (x := [tB t]) rfl, unbe_one]
 have e2 := XK (k := 2) (x := be 2 id) (rest := be 8 (vN val) ++ ([UInt8.ofNat note.length] ++ (note ++ rest))) (Zh _ _)
 have e3 := XK (k := 8) (x := be 8 (vN val)) (rest := [UInt8.ofNat note.length] ++ (note ++ rest)) (Zh _ _)
 have e4 := XK (k := 1) (x := [UInt8.ofNat note.length]) (rest := note ++ rest) rfl
 rw [WE, Nat.mod_eq_of_lt (by omega)] at e2
 rw [WE, Nat.mod_eq_of_lt (by have := vN_lt val; omega)] at e3
 have hlen : (UInt8.ofNat note.length).toNat = note.length := by
  rw [UInt8.toNat_ofNat']
  have e : (2 : Nat) ^ 8 = 256 := by decide
  rw [e]; omega
 rw [unbe_one, hlen] at e4
 have e5 : WB note.length (note ++ rest) 0 = (note, rest, 0) := by
  unfold WB
  rw [if_neg (by simp), if_neg (by simp), List.take_left' rfl, List.drop_left' rfl]
 have ht := tB_toNat h0 (by omega : t < 256)
 unfold XR
 simp only [e1, e2, e3, e4, e5]
 have hb1 : Xg false 0 (decide (((tB t).toNat : Int) < 3)) = false := by rw [ht, decide_eq_true h3]; rfl
 have hb2 : Xg false 0 (decide ((note.length : Int) ≤ 8)) = false := by rw [decide_eq_true (by omega)]; rfl
 simp only [hb1, hb2, Bool.not_false, decide_true, Bool.and_self, if_true]
 rw [ht, i64N_vN hval]
theorem kidRB_back {k : Kid} (hid : k.id < 65536) (ht : 0 ≤ k.t ∧ k.t < 3) (hp : 0 < k.page ∧ k.page < 64) (rest : List UInt8) : Xv (Xf k ++ rest) 0 false = (k, rest, 0, false) := by
 obtain ⟨t, id, page⟩ := k
 dsimp only at hid ht hp
 have e0 : Xf ⟨t, id, page⟩ ++ rest = [tB t] ++ (be 2 id ++ ([tB page] ++ rest)) := by simp [Xf, keyB]
 have e1 : ZW 1 (Xf ⟨t, id, page⟩ ++ rest) 0 = ((tB t).toNat, be 2 id ++ ([tB page] ++ rest), 0) := by rw [e0, XK (k := 1) (x := [tB t]) rfl, unbe_one]
 have e2 := XK (k := 2) (x := be 2 id) (rest := [tB page] ++ rest) (Zh _ _)
 have e3 := XK (k := 1) (x := [tB page]) (rest := rest) rfl
 rw [WE, Nat.mod_eq_of_lt (by omega)] at e2
 rw [unbe_one] at e3
 unfold Xv kidR
 simp only [e1, e2, e3, tB_toNat ht.1 (by omega : t < 256), tB_toNat (by omega : 0 ≤ page) (by omega : page < 256)]
theorem manyTo_back {α : Type} {f : List UInt8 → Int → Bool → α × ZX} {enc : α → List UInt8} : ∀ (xs : List α), (∀ x ∈ xs, ∀ rest, f (enc x ++ rest) 0 false = (x, rest, 0, false)) → ∀ rest, Xj f xs.length (xs.flatMap enc ++ rest) 0 false = (xs, rest, 0, false)
 | [], _, rest => rfl
 | x :: xs, h, rest => by
  rw [List.length_cons, Xj, if_pos (by decide), List.flatMap_cons, List.append_assoc, h x (by simp)]
  dsimp only
  rw [manyTo_back xs (fun y hy => h y (by simp [hy]))]
theorem manyR_back {α : Type} {f : List UInt8 → Int → Bool → α × ZX} {enc : α → List UInt8} {xs : List α} (hl : xs.length ≤ 4) (h : ∀ x ∈ xs, ∀ rest, f (enc x ++ rest) 0 false = (x, rest, 0, false)) (rest : List UInt8) :
  YE f (UInt8.ofNat xs.length :: (xs.flatMap enc ++ rest)) 0 false = (xs, rest, 0, false) := by
 have hlen : (UInt8.ofNat xs.length).toNat = xs.length := by
  rw [UInt8.toNat_ofNat']
  have e : (2 : Nat) ^ 8 = 256 := by decide
  rw [e]; omega
 have e1 : ZW 1 (UInt8.ofNat xs.length :: (xs.flatMap enc ++ rest)) 0 = (xs.length, xs.flatMap enc ++ rest, 0) := by
  have := XK (k := 1) (x := [UInt8.ofNat xs.length]) (rest := xs.flatMap enc ++ rest) rfl
  rw [unbe_one, hlen] at this
  exact this
 unfold YE
 simp only [e1]
 have hb : Xg false 0 (decide ((xs.length : Int) ≤ 4)) = false := by rw [decide_eq_true (by omega)]; rfl
 rw [hb]
 exact manyTo_back xs h rest
structure IdFit (c : XX) : Prop where
 row : ∀ r ∈ c.rows, Xs r
 kid : ∀ k ∈ c.kids, k.id < 65536
theorem contB_form {c : XX} (h : ZG c = true) : (c.kind = 0 ∧ c = ⟨0, [], []⟩ ∧ Yj c = [0]) ∨ (c.kind = 1 ∧ c.kids = [] ∧ Yj c = 1 :: (UInt8.ofNat c.rows.length :: c.rows.flatMap ZR)) ∨ (c.kind = 2 ∧ c.rows = [] ∧ Yj c = 2 :: (UInt8.ofNat c.kids.length :: c.kids.flatMap Xf)) := by
 have hF := (Wx h).kind
 obtain ⟨kind, rows, kids⟩ := c
 dsimp only at hF ⊢
 rcases hF with ⟨rfl, rfl, rfl⟩ | ⟨rfl, rfl⟩ | ⟨rfl, rfl, _⟩
 ·exact .inl ⟨rfl, rfl, by simp [Yj, cntB]; rfl⟩
 ·exact .inr (.inl ⟨rfl, rfl, by simp [Yj, cntB]; rfl⟩)
 ·exact .inr (.inr ⟨rfl, rfl, by simp [Yj, cntB]; rfl⟩)
theorem contentR_back {c : XX} (h : ZG c = true) (hf : IdFit c) (rest : List UInt8) : Yp (Yj c ++ rest) = (c, rest, 0, false) := by
 have hF := Wx h
 have hrb : ∀ r ∈ c.rows, ∀ rest, XR (ZR r ++ rest) 0 false = (r, rest, 0, false) := fun r hr rest => rowR_back (hF.row r hr) (hf.row r hr) rest
 have hkb : ∀ k ∈ c.kids, ∀ rest, Xv (Xf k ++ rest) 0 false = (k, rest, 0, false) := fun k hk rest => kidRB_back (hf.kid k hk) (hF.kid k hk).1 (hF.kid k hk).2 rest
 have hrl := hF.rl
 have hkl := hF.kl
 rcases contB_form h with ⟨hk, rfl, e⟩ | ⟨hk, hks, e⟩ | ⟨hk, hrs, e⟩
 ·rw [e]
  have e1 : ZW 1 ([0] ++ rest) 0 = (0, rest, 0) := by rw [XK (k := 1) (x := [0]) rfl]; rfl
  unfold Yp contE
  simp only [e1]
  rfl
 ·obtain ⟨kind, rows, kids⟩ := c
  dsimp only at hk hks
  subst hk; subst hks
  rw [e]
  have e1 : ZW 1 (1 :: (UInt8.ofNat rows.length :: rows.flatMap ZR) ++ rest) 0 = (1, UInt8.ofNat rows.length :: (rows.flatMap ZR ++ rest), 0) := by
   have := XK (k := 1) (x := [1]) (rest := UInt8.ofNat rows.length :: (rows.flatMap ZR ++ rest)) rfl
   exact this
  have hb : Xg false 0 (decide (((1 : Nat) : Int) ≤ 2)) = false := rfl
  unfold Yp contE
  simp only [e1, hb, Ww, manyR_back hrl hrb rest, Bool.not_false, decide_true, Bool.and_self, if_true]
  have hn : Xg false 0 (ZG ⟨((1 : Nat) : Int), rows, []⟩) = false := by rw [show ZG ⟨((1 : Nat) : Int), rows, []⟩ = true from h]; rfl
  rw [hn]; rfl
 ·obtain ⟨kind, rows, kids⟩ := c
  dsimp only at hk hrs
  subst hk; subst hrs
  rw [e]
  have e1 : ZW 1 (2 :: (UInt8.ofNat kids.length :: kids.flatMap Xf) ++ rest) 0 = (2, UInt8.ofNat kids.length :: (kids.flatMap Xf ++ rest), 0) := by
   have := XK (k := 1) (x := [2]) (rest := UInt8.ofNat kids.length :: (kids.flatMap Xf ++ rest)) rfl
   exact this
  have hb : Xg false 0 (decide (((2 : Nat) : Int) ≤ 2)) = false := rfl
  unfold Yp contE
  simp only [e1, hb, Ww, manyR_back hkl hkb rest, Bool.not_false, decide_true, Bool.and_self, if_true, show ¬ ((2 : Nat) = 1) by decide, if_false]
  have hn : Xg false 0 (ZG ⟨((2 : Nat) : Int), [], kids⟩) = false := by rw [show ZG ⟨((2 : Nat) : Int), [], kids⟩ = true from h]; rfl
  rw [hn]; rfl
theorem takeCont_back {c : XX} (h : ZG c = true) (hf : IdFit c) (rest : List UInt8) : Zy (Yj c ++ rest) = (c, (((Yj c).length : Nat) : Int), 0) := by
 unfold Zy
 simp only [contentR_back h hf rest]
 simp [takenN, takenE]
theorem takeRow_back {r : Row} (h : YZ r = true) (hf : Xs r) (rest : List UInt8) : ZT (ZR r ++ rest) = (r, (((ZR r).length : Nat) : Int), 0) := by
 unfold ZT
 simp only [rowR_back h hf rest]
 simp [takenN, takenE]
def rdN (k : Nat) (s : ZX) : Nat × ZX := ((ZW k s.1 s.2.1).1, (ZW k s.1 s.2.1).2.1, (ZW k s.1 s.2.1).2.2, s.2.2)
def okS (s : ZX) : Bool := !s.2.2 && decide (s.2.1 = 0)
def skipS (n : Int) (s : ZX) : ZX := ((WB n.toNat s.1 s.2.1).2.1, (WB n.toNat s.1 s.2.1).2.2, s.2.2)
def tkT {α : Type} (t : List UInt8 → α × Int × Int) (z : α) (s : ZX) : α × ZX := if okS s then (if (t s.1).2.2 = 0 then ((t s.1).1, skipS (t s.1).2.1 s) else (z, s.1, s.2.1, true)) else (z, s)
abbrev ztC : XX := ⟨0, [], []⟩
abbrev ztR : Row := ⟨0, 0, 0, []⟩
abbrev nilCV : CV := ⟨none, 0, 0, none, 0, 0⟩
def imDb (two : Bool) (s : ZX) : XX × ZX := if two then tkT Zy ztC s else (ztC, s)
def imDa (two : Bool) (p : Nat) (s : ZX) : Im × ZX := (⟨p, nilCV, (imDb two s).1, nilCV, (tkT Zy ztC (imDb two s).2).1⟩, (tkT Zy ztC (imDb two s).2).2)
def imD (two : Bool) (s : ZX) : Im × ZX := imDa two (rdN 1 s).1 (rdN 1 s).2
def stpDr (k : Nat) (s : ZX) : Stp × ZX := (⟨k, (tkT ZT ztR s).1, 0⟩, (tkT ZT ztR s).2)
def stpDb (k t i : Nat) (s : ZX) : Stp × ZX := if k = 1 then (⟨k, ⟨t, i, 0, []⟩, i64N (rdN 8 s).1⟩, (rdN 8 s).2) else (⟨k, ⟨t, i, 0, []⟩, 0⟩, s)
def stpDi (k t : Nat) (s : ZX) : Stp × ZX := stpDb k t (rdN 2 s).1 (rdN 2 s).2
def stpDt (k : Nat) (s : ZX) : Stp × ZX := if k = 2 ∨ k = 3 then stpDr k s else stpDi k (rdN 1 s).1 (rdN 1 s).2
def stpD (s : ZX) : Stp × ZX := stpDt (rdN 1 s).1 (rdN 1 s).2
def ckTe (t f l u : Nat) (s : ZX) : CkT × ZX := (⟨t, f, l, u, (rdN 1 s).1⟩, (rdN 1 s).2)
def ckTu (t f l : Nat) (s : ZX) : CkT × ZX := ckTe t f l (rdN 8 s).1 (rdN 8 s).2
def ckTl (t f : Nat) (s : ZX) : CkT × ZX := ckTu t f (rdN 8 s).1 (rdN 8 s).2
def ckTf (t : Nat) (s : ZX) : CkT × ZX := ckTl t (rdN 8 s).1 (rdN 8 s).2
def ckTD (s : ZX) : CkT × ZX := ckTf (rdN 4 s).1 (rdN 4 s).2
def ckPr (p : Nat) (s : ZX) : CkP × ZX := (⟨p, (rdN 8 s).1⟩, (rdN 8 s).2)
def ckPD (s : ZX) : CkP × ZX := ckPr (rdN 1 s).1 (rdN 1 s).2
def YR {α : Type} (f : ZX → α × ZX) : Nat → ZX → List α × ZX
 | 0, s => ([], s)
 | n + 1, s => if okS s then ((f s).1 :: (YR f n (f s).2).1, (YR f n (f s).2).2) else ([], s)
def Ys {α : Type} (f : ZX → α × ZX) (s : ZX) : List α × ZX := YR f (rdN 1 s).1 (rdN 1 s).2
def hdP (k l t : Nat) (s : ZX) : Rc × ZX := (⟨k, l, t, (rdN 8 s).1, 0, [], [], 0, [], []⟩, (rdN 8 s).2)
def hdT (k l : Nat) (s : ZX) : Rc × ZX := hdP k l (rdN 4 s).1 (rdN 4 s).2
def hdL (k : Nat) (s : ZX) : Rc × ZX := hdT k (rdN 8 s).1 (rdN 8 s).2
def headD (s : ZX) : Rc × ZX := hdL (rdN 1 s).1 (rdN 1 s).2
def chD (r : Rc) (s : ZX) : Rc × ZX := ({ r with ims := (Ys (imD (decide (r.kind = 2))) s).1 }, (Ys (imD (decide (r.kind = 2))) s).2)
def neD (r : Rc) (s : ZX) : Rc × ZX := ({ r with next := (rdN 8 s).1 }, (rdN 8 s).2)
def doD (r : Rc) (s : ZX) : Rc × ZX := ({ r with steps := (Ys stpD s).1 }, (Ys stpD s).2)
def cxD (r : Rc) (s : ZX) : Rc × ZX := ({ r with nextTxn := (rdN 4 s).1 }, (rdN 4 s).2)
def ctD (r : Rc) (s : ZX) : Rc × ZX := ({ r with txns := (Ys ckTD s).1 }, (Ys ckTD s).2)
def cdD (r : Rc) (s : ZX) : Rc × ZX := ({ r with dirty := (Ys ckPD s).1 }, (Ys ckPD s).2)
abbrev thenD (f g : Rc → ZX → Rc × ZX) (r : Rc) (s : ZX) : Rc × ZX := g (f r s).1 (f r s).2
def tailD (r : Rc) (s : ZX) : Rc × ZX :=
 if r.kind = 2 then chD r s else if r.kind = 3 then neD r s else if r.kind = 4 then thenD neD doD r s else if r.kind = 5 then thenD neD chD r s
 else if r.kind = 9 then thenD (thenD cxD ctD) cdD r s else (r, s)
def decD (l : List UInt8) : Rc × ZX := tailD (headD (l, 0, false)).1 (headD (l, 0, false)).2
def decOk (l : List UInt8) : Bool := okS (decD l).2 && (decide ((decD l).2.1.length = 0) && Yr (decD l).1)
def zeroRc : Rc := ⟨0, 0, 0, 0, 0, [], [], 0, [], []⟩
def decR (l : List UInt8) : Rc := if decOk l then (decD l).1 else zeroRc
abbrev FwB {α : Type} (f : ZX → α × ZX) (enc : α → List UInt8) (x : α) : Prop := ∀ rest, f (enc x ++ rest, 0, false) = (x, rest, 0, false)
abbrev BkB {α : Type} (f : ZX → α × ZX) (enc : α → List UInt8) (fit : α → Prop) : Prop := ∀ {s : ZX} {x : α} {l' : List UInt8}, f s = (x, l', 0, false) → s = (enc x ++ l', 0, false) ∧ fit x
theorem Xu {k x : Nat} (h : x < 256 ^ k) (rest : List UInt8) : rdN k (be k x ++ rest, 0, false) = (x, rest, 0, false) := by
 unfold rdN
 simp only [XK (Zh k x), WE, Nat.mod_eq_of_lt h]
theorem Xt {k : Nat} {s : ZX} {x : Nat} {l' : List UInt8} (h : rdN k s = (x, l', 0, false)) : s = (be k x ++ l', 0, false) ∧ x < 256 ^ k := by
 obtain ⟨l, st, bad⟩ := s
 unfold rdN at h
 simp only [Prod.mk.injEq] at h
 obtain ⟨h1, h2, h3, h4⟩ := h
 have hb := XG k l st
 obtain ⟨rfl, hl, e⟩ := XM h3
 rw [e] at h1 h2 hb
 dsimp only at h1 h2 hb
 subst h1 h2 h4
 exact ⟨by rw [be_take hl, List.take_append_drop], hb⟩
theorem tkC_fw {c : XX} (h : ZG c = true) (hf : IdFit c) (rest : List UInt8) : tkT Zy ztC (Yj c ++ rest, 0, false) = (c, rest, 0, false) := by
 unfold tkT
 rw [if_pos (show okS (Yj c ++ rest, 0, false) = true from rfl)]
 simp only [takeCont_back h hf rest, if_true, skipS, Int.toNat_natCast]
 unfold WB
 rw [if_neg (by simp), if_neg (by simp), List.drop_left' rfl]
theorem tkR_fw {c : Row} (h : YZ c = true) (hf : Xs c) (rest : List UInt8) : tkT ZT ztR (ZR c ++ rest, 0, false) = (c, rest, 0, false) := by
 unfold tkT
 rw [if_pos (show okS (ZR c ++ rest, 0, false) = true from rfl)]
 simp only [takeRow_back h hf rest, if_true, skipS, Int.toNat_natCast]
 unfold WB
 rw [if_neg (by simp), if_neg (by simp), List.drop_left' rfl]
theorem skipS_bk {n : Nat} {s : ZX} {l' : List UInt8} (hn : n ≤ s.1.length) (h : skipS n s = (l', 0, false)) : s = (s.1.take n ++ l', 0, false) := by
 obtain ⟨l, st, bad⟩ := s
 unfold skipS at h
 simp only [Prod.mk.injEq, Int.toNat_natCast] at h
 obtain ⟨h2, h3, h4⟩ := h
 obtain ⟨rfl, hl, e⟩ := rawR_zero h3
 rw [e] at h2
 dsimp only at h2
 subst h2 h4
 dsimp only
 rw [List.take_append_drop]
theorem tkC_bk : BkB (tkT Zy ztC) Yj (fun c => ZG c = true ∧ ContFit c) := by
 intro s x l' h
 unfold tkT at h
 split at h
 ·split at h
  ·rename_i h0
   obtain ⟨n, e1, hn, g1, g2, g3⟩ := takeCont_ok h0
   simp only [Prod.mk.injEq] at h
   obtain ⟨h1, h2⟩ := h
   rw [e1] at h2
   subst h1
   refine ⟨?_, g1, g3⟩
   rw [g2]
   exact skipS_bk hn h2
  ·simp only [Prod.mk.injEq] at h
   exact absurd h.2.2.2 (by decide)
 ·rename_i h0
  simp only [Prod.mk.injEq] at h
  rw [h.2] at h0
  exact absurd rfl h0
theorem tkR_bk : BkB (tkT ZT ztR) ZR (fun c => YZ c = true ∧ Xs c) := by
 intro s x l' h
 unfold tkT at h
 split at h
 ·split at h
  ·rename_i h0
   obtain ⟨n, e1, hn, g1, g2, g3⟩ := takeRow_ok h0
   simp only [Prod.mk.injEq] at h
   obtain ⟨h1, h2⟩ := h
   rw [e1] at h2
   subst h1
   refine ⟨?_, g1, g3⟩
   rw [g2]
   exact skipS_bk hn h2
  ·simp only [Prod.mk.injEq] at h
   exact absurd h.2.2.2 (by decide)
 ·rename_i h0
  simp only [Prod.mk.injEq] at h
  rw [h.2] at h0
  exact absurd rfl h0
theorem manyS_fw {α : Type} {f : ZX → α × ZX} {enc : α → List UInt8} : ∀ (xs : List α), (∀ x ∈ xs, FwB f enc x) → ∀ rest, YR f xs.length (xs.flatMap enc ++ rest, 0, false) = (xs, rest, 0, false)
 | [], _, rest => rfl
 | x :: xs, h, rest => by
  rw [List.length_cons, YR, if_pos (by rfl), List.flatMap_cons, List.append_assoc, h x (by simp)]
  simp only [manyS_fw xs (fun y hy => h y (by simp [hy])) rest]
theorem manyS_bk {α : Type} {f : ZX → α × ZX} {enc : α → List UInt8} {fit : α → Prop} (hf : BkB f enc fit) : ∀ {n : Nat} {s : ZX} {xs : List α} {l' : List UInt8}, YR f n s = (xs, l', 0, false) → s = (xs.flatMap enc ++ l', 0, false) ∧ xs.length = n ∧ ∀ x ∈ xs, fit x
 | 0, s, xs, l', h => by
  rw [YR] at h
  simp only [Prod.mk.injEq] at h
  obtain ⟨rfl, rfl⟩ := h
  exact ⟨rfl, rfl, by simp⟩
 | n + 1, s, xs, l', h => by
  rw [YR] at h
  split at h
  ·simp only [Prod.mk.injEq] at h
   obtain ⟨rfl, h2⟩ := h
   obtain ⟨g1, g2, g3⟩ := manyS_bk hf (n := n) (s := (f s).2) (xs := (YR f n (f s).2).1) (l' := l') (by rw [← h2])
   obtain ⟨k1, k2⟩ := hf (s := s) (x := (f s).1) (l' := (YR f n (f s).2).1.flatMap enc ++ l') (by rw [← g1])
   refine ⟨?_, by simp [g2], ?_⟩
   ·rw [List.flatMap_cons, List.append_assoc]; exact k1
   ·intro y hy
    rcases List.mem_cons.1 hy with rfl | hy
    ·exact k2
    ·exact g3 y hy
  ·rename_i h0
   simp only [Prod.mk.injEq] at h
   rw [h.2] at h0
   exact absurd (by rfl) h0
theorem manyD_fw {α : Type} {f : ZX → α × ZX} {enc : α → List UInt8} {xs : List α} (hl : xs.length ≤ 255) (h : ∀ x ∈ xs, FwB f enc x) : FwB (Ys f) (YL enc) xs := by
 intro rest
 unfold Ys YL
 have e : (UInt8.ofNat xs.length :: xs.flatMap enc) ++ rest = be 1 xs.length ++ (xs.flatMap enc ++ rest) := by rw [XD]; simp
 rw [e, Xu (by omega)]
 exact manyS_fw xs h rest
theorem manyD_bk {α : Type} {f : ZX → α × ZX} {enc : α → List UInt8} {fit : α → Prop} (hf : BkB f enc fit) : BkB (Ys f) (YL enc) (fun xs => xs.length ≤ 255 ∧ ∀ x ∈ xs, fit x) := by
 intro s xs l' h
 unfold Ys at h
 obtain ⟨g1, g2, g3⟩ := manyS_bk hf h
 obtain ⟨k1, k2⟩ := Xt (s := s) (k := 1) (x := (rdN 1 s).1) (l' := xs.flatMap enc ++ l') (by rw [← g1])
 refine ⟨?_, by omega, g3⟩
 rw [k1, ← g2, XD]
 simp [YL]
abbrev Im.plain (x : Im) : Im := ⟨x.page, nilCV, x.b, nilCV, x.a⟩
abbrev Rc.plain (r : Rc) : Rc := { r with ims := r.ims.map Im.plain }
theorem imD_fw {two : Bool} {x : Im} (hp : 0 ≤ x.page ∧ x.page < 64) (ha : ZG x.a = true) (hb : ZG x.b = true) (fa : IdFit x.a) (fb : IdFit x.b) (h0 : two = false → x.b = ztC) : FwB (imD two) (imB two) x.plain := by
 intro rest
 have e : imB two x.plain ++ rest = be 1 x.page.toNat ++ ((if two then Yj x.b else []) ++ (Yj x.a ++ rest)) := by
  rw [XD]; simp [imB, tB]
 unfold imD
 rw [e, Xu (by omega)]
 unfold imDa
 have e2 : imDb two ((if two then Yj x.b else []) ++ (Yj x.a ++ rest), 0, false) = (x.b, Yj x.a ++ rest, 0, false) := by
  unfold imDb
  cases two
  ·rw [h0 rfl]; rfl
  ·simp only [if_true]; exact tkC_fw hb fb _
 simp only [e2, tkC_fw ha fa rest, Prod.mk.injEq, and_true]
 have : ((x.page.toNat : Nat) : Int) = x.page := by omega
 rw [this]
structure ImP (two : Bool) (x : Im) : Prop where
 eq : x = x.plain
 page : 0 ≤ x.page
 a : ZG x.a = true ∧ ContFit x.a
 b : two = true → ZG x.b = true ∧ ContFit x.b
 z : two = false → x.b = ztC
theorem imD_bk {two : Bool} : BkB (imD two) (imB two) (ImP two) := by
 intro s x l' h
 unfold imD imDa at h
 simp only [Prod.mk.injEq] at h
 obtain ⟨h1, h2⟩ := h
 obtain ⟨a1, a2⟩ := tkC_bk (s := (imDb two (rdN 1 s).2).2) (x := (tkT Zy ztC (imDb two (rdN 1 s).2).2).1) (l' := l') (by rw [← h2])
 have hb : (rdN 1 s).2 = ((if two then Yj (imDb two (rdN 1 s).2).1 else []) ++ (Yj (tkT Zy ztC (imDb two (rdN 1 s).2).2).1 ++ l'), 0, false) ∧ (two = true → ZG (imDb two (rdN 1 s).2).1 = true ∧ ContFit (imDb two (rdN 1 s).2).1) ∧ (two = false → (imDb two (rdN 1 s).2).1 = ztC) := by
  generalize (tkT Zy ztC (imDb two (rdN 1 s).2).2).1 = ca at *
  unfold imDb at a1 ⊢
  cases two
  ·exact ⟨by simpa using a1, by simp, fun _ => rfl⟩
  ·simp only [if_true] at a1 ⊢
   obtain ⟨b1, b2⟩ := tkC_bk (s := (rdN 1 s).2) (x := (tkT Zy ztC (rdN 1 s).2).1) (l' := Yj ca ++ l') (by rw [← a1])
   exact ⟨b1, fun _ => b2, by simp⟩
 obtain ⟨hb1, hb2, hb3⟩ := hb
 obtain ⟨p1, p2⟩ := Xt (k := 1) (s := s) (x := (rdN 1 s).1) (by rw [← hb1])
 generalize (tkT Zy ztC (imDb two (rdN 1 s).2).2).1 = ca at *
 generalize (imDb two (rdN 1 s).2).1 = cb at *
 generalize (rdN 1 s).1 = p at *
 subst h1
 refine ⟨?_, ⟨rfl, by dsimp only; omega, a2, hb2, hb3⟩⟩
 rw [p1, XD]
 simp [imB, tB]
structure StpF (s : Stp) : Prop where
 row : Xs s.row
 by' : i64in s.by'
theorem stpD_fw {s : Stp} (hs : YN s = true) (hf : StpF s) : FwB stpD Wu s := by
 intro rest
 obtain ⟨k, ⟨t, id, val, note⟩, b⟩ := s
 obtain ⟨⟨hid, hval⟩, hby⟩ := hf
 dsimp only at hid hval hby
 have hk : k = 1 ∨ k = 2 ∨ k = 3 ∨ k = 4 := by
  unfold YN at hs
  dsimp only at hs
  by_cases h1 : k = 1 <;> by_cases h2 : k = 2 <;> by_cases h3 : k = 3 <;> by_cases h4 : k = 4 <;> simp_all
 have hlead : ∀ X, stpD (tB k :: X, 0, false) = stpDt k.toNat (X, 0, false) := fun X => by
  unfold stpD
  have e : tB k :: X = be 1 k.toNat ++ X := by rw [XD]; rfl
  rw [e, Xu (by omega)]
 unfold Wu
 rw [List.cons_append, hlead]
 have hkk : ((k.toNat : Nat) : Int) = k := by omega
 by_cases h23 : k = 2 ∨ k = 3
 ·have hok : b = 0 ∧ YZ ⟨t, id, val, note⟩ = true := by
   unfold YN at hs
   dsimp only at hs
   rw [if_neg (by omega), if_neg (by omega), if_pos h23, Bool.and_eq_true, decide_eq_true_eq] at hs
   exact hs
  rw [if_pos h23]
  unfold stpDt stpDr
  rw [if_pos (by omega), tkR_fw hok.2 ⟨hid, hval⟩]
  simp only [hkk, hok.1]
 ·rw [if_neg h23]
  have hon : onlyOk ⟨k, ⟨t, id, val, note⟩, b⟩ = true ∧ (k ≠ 1 → b = 0) := by
   unfold YN at hs
   dsimp only at hs
   by_cases h1 : k = 1
   ·rw [if_pos h1] at hs; exact ⟨hs, fun h => absurd h1 h⟩
   ·rw [if_neg h1, if_pos (by omega), Bool.and_eq_true, decide_eq_true_eq] at hs
    exact ⟨hs.1, fun _ => hs.2⟩
  obtain ⟨hon, hb0⟩ := hon
  unfold onlyOk at hon
  rw [Bool.and_eq_true, decide_eq_true_eq, decide_eq_true_eq] at hon
  obtain ⟨⟨g1, g2⟩, g3, g4⟩ := hon
  dsimp only at g1 g2 g3 g4
  subst g1 g2
  unfold stpDt
  rw [if_neg (by omega)]
  have e : tB t :: (be 2 id ++ (if k = 1 then be 8 (vN b) else [])) ++ rest = be 1 t.toNat ++ (be 2 id ++ ((if k = 1 then be 8 (vN b) else []) ++ rest)) := by rw [XD]; simp [tB]
  dsimp only
  rw [e, Xu (by omega)]
  unfold stpDi
  rw [Xu (by omega)]
  unfold stpDb
  have htt : ((t.toNat : Nat) : Int) = t := by omega
  by_cases h1 : k = 1
  ·rw [if_pos h1, if_pos (by omega), Xu (by have := vN_lt b; omega)]
   simp only [hkk, htt, i64N_vN hby]
  ·rw [if_neg h1, if_neg (by omega)]
   simp only [hkk, htt, hb0 h1, List.nil_append]
theorem stpD_bk : BkB stpD Wu StpF := by
 intro s x l' h
 unfold stpD at h
 have main : ∀ (k : Nat) (s : ZX), k < 256 → stpDt k s = (x, l', 0, false) → x.kind = k ∧ StpF x ∧ s = ((if x.kind = 2 ∨ x.kind = 3 then ZR x.row else tB x.row.t :: (be 2 x.row.id ++ (if x.kind = 1 then be 8 (vN x.by') else []))) ++ l', 0, false) := by
  intro k s hk h
  unfold stpDt at h
  split at h
  ·rename_i h23
   unfold stpDr at h
   simp only [Prod.mk.injEq] at h
   obtain ⟨rfl, h2⟩ := h
   obtain ⟨k1, k2⟩ := tkR_bk (s := s) (x := (tkT ZT ztR s).1) (l' := l') (by rw [← h2])
   refine ⟨rfl, ⟨k2.2, by dsimp only; omega⟩, ?_⟩
   dsimp only
   rw [if_pos (by omega)]
   exact k1
  ·rename_i h23
   unfold stpDi stpDb at h
   split at h
   ·rename_i h1
    simp only [Prod.mk.injEq] at h
    obtain ⟨rfl, h2⟩ := h
    obtain ⟨k1, k2⟩ := Xt (k := 8) (s := (rdN 2 (rdN 1 s).2).2) (x := (rdN 8 (rdN 2 (rdN 1 s).2).2).1) (l' := l') (by rw [← h2])
    obtain ⟨m1, m2⟩ := Xt (k := 2) (s := (rdN 1 s).2) (x := (rdN 2 (rdN 1 s).2).1) (by rw [← k1])
    obtain ⟨n1, n2⟩ := Xt (k := 1) (s := s) (x := (rdN 1 s).1) (by rw [← m1])
    refine ⟨rfl, ⟨⟨by dsimp only; omega, by dsimp only; omega⟩, i64N_fit _⟩, ?_⟩
    dsimp only
    rw [if_neg (by omega), if_pos (by omega), vN_i64N (by omega)]
    refine n1.trans ?_
    simp [XD, tB]
   ·rename_i h1
    simp only [Prod.mk.injEq] at h
    obtain ⟨rfl, h2⟩ := h
    obtain ⟨m1, m2⟩ := Xt (k := 2) (s := (rdN 1 s).2) (x := (rdN 2 (rdN 1 s).2).1) (l' := l') (by rw [← h2])
    obtain ⟨n1, n2⟩ := Xt (k := 1) (s := s) (x := (rdN 1 s).1) (by rw [← m1])
    refine ⟨rfl, ⟨⟨by dsimp only; omega, by dsimp only; omega⟩, by dsimp only; omega⟩, ?_⟩
    dsimp only
    rw [if_neg (by omega), if_neg (by omega)]
    refine n1.trans ?_
    simp [XD, tB]
 have hlt : (rdN 1 s).1 < 256 := by
  have := XG 1 s.1 s.2.1
  simpa [rdN] using this
 obtain ⟨g1, g2, g3⟩ := main _ _ hlt h
 obtain ⟨n1, n2⟩ := Xt (k := 1) (s := s) (x := (rdN 1 s).1) (by rw [← g3])
 refine ⟨?_, g2⟩
 rw [n1]
 unfold Wu
 rw [show tB x.kind = UInt8.ofNat (rdN 1 s).1 by rw [g1]; rfl]
 simp [XD]
structure CkTF (t : CkT) : Prop where
 txn : 0 ≤ t.txn ∧ t.txn < 4294967296
 first : t.first < 18446744073709551616
 last : t.last < 18446744073709551616
 undo : t.undo < 18446744073709551616
 state : 0 ≤ t.state ∧ t.state < 256
theorem ckTD_fw {t : CkT} (h : CkTF t) : FwB ckTD Wv t := by
 intro rest
 obtain ⟨n, f, l, u, e⟩ := t
 obtain ⟨h1, h2, h3, h4, h5⟩ := h
 dsimp only at h1 h2 h3 h4 h5
 have e0 : Wv ⟨n, f, l, u, e⟩ ++ rest = be 4 n.toNat ++ (be 8 f ++ (be 8 l ++ (be 8 u ++ (be 1 e.toNat ++ rest)))) := by rw [XD]; simp [Wv, tB]
 rw [e0]
 unfold ckTD ckTf ckTl ckTu ckTe
 rw [Xu (by omega)]
 simp only [Xu (k := 8) (x := f) (by omega), Xu (k := 8) (x := l) (by omega), Xu (k := 8) (x := u) (by omega), Xu (k := 1) (x := e.toNat) (by omega)]
 rw [show ((n.toNat : Nat) : Int) = n by omega, show ((e.toNat : Nat) : Int) = e by omega]
theorem ckTD_bk : BkB ckTD Wv CkTF := by
 intro s x l' h
 unfold ckTD ckTf ckTl ckTu ckTe at h
 simp only [Prod.mk.injEq] at h
 obtain ⟨rfl, h2⟩ := h
 generalize hs1 : rdN 4 s = s1 at *
 generalize hs2 : rdN 8 s1.2 = s2 at *
 generalize hs3 : rdN 8 s2.2 = s3 at *
 generalize hs4 : rdN 8 s3.2 = s4 at *
 generalize hs5 : rdN 1 s4.2 = s5 at *
 obtain ⟨x5, y5⟩ := s5
 dsimp only at h2
 subst h2
 obtain ⟨k5, b5⟩ := Xt hs5
 obtain ⟨x4, y4⟩ := s4
 dsimp only at k5
 subst k5
 obtain ⟨k4, b4⟩ := Xt hs4
 obtain ⟨x3, y3⟩ := s3
 dsimp only at k4
 subst k4
 obtain ⟨k3, b3⟩ := Xt hs3
 obtain ⟨x2, y2⟩ := s2
 dsimp only at k3
 subst k3
 obtain ⟨k2, b2⟩ := Xt hs2
 obtain ⟨x1, y1⟩ := s1
 dsimp only at k2
 subst k2
 obtain ⟨k1, b1⟩ := Xt hs1
 refine ⟨?_, ⟨by dsimp only; omega, by dsimp only; omega, by dsimp only; omega, by dsimp only; omega, by dsimp only; omega⟩⟩
 rw [k1]
 simp [Wv, tB, XD]
structure CkPF (p : CkP) : Prop where
 page : 0 ≤ p.page ∧ p.page < 256
 since : p.since < 18446744073709551616
theorem ckPD_fw {p : CkP} (h : CkPF p) : FwB ckPD ckPB p := by
 intro rest
 obtain ⟨n, f⟩ := p
 obtain ⟨h1, h2⟩ := h
 dsimp only at h1 h2
 have e0 : ckPB ⟨n, f⟩ ++ rest = be 1 n.toNat ++ (be 8 f ++ rest) := by rw [XD]; simp [ckPB, tB]
 rw [e0]
 unfold ckPD ckPr
 rw [Xu (by omega)]
 simp only [Xu (k := 8) (x := f) (by omega)]
 rw [show ((n.toNat : Nat) : Int) = n by omega]
theorem ckPD_bk : BkB ckPD ckPB CkPF := by
 intro s x l' h
 unfold ckPD ckPr at h
 simp only [Prod.mk.injEq] at h
 obtain ⟨rfl, h2⟩ := h
 generalize hs1 : rdN 1 s = s1 at *
 generalize hs2 : rdN 8 s1.2 = s2 at *
 obtain ⟨x2, y2⟩ := s2
 dsimp only at h2
 subst h2
 obtain ⟨k2, b2⟩ := Xt hs2
 obtain ⟨x1, y1⟩ := s1
 dsimp only at k2
 subst k2
 obtain ⟨k1, b1⟩ := Xt hs1
 refine ⟨?_, ⟨by dsimp only; omega, by dsimp only; omega⟩⟩
 rw [k1]
 simp [ckPB, tB, XD]
structure RcF (r : Rc) : Prop where
 im : ∀ x ∈ r.ims, IdFit x.b ∧ IdFit x.a
 st : ∀ s ∈ r.steps, StpF s
theorem up_all {α : Type} {right : α → Bool} {by' : α → Int} {l : List α} (h : upB right by' l l.length = true) : ∀ i (hi : i < l.length), right l[i] = true ∧ (i = 0 ∨ by' (l[i - 1]'(by omega)) < by' l[i]) := by
 intro i hi
 obtain ⟨h1, h2⟩ := (risesB_true h (Nat.le_refl _)).2 i hi hi
 refine ⟨h1, ?_⟩
 rcases h2 with h2 | h2
 ·exact .inl h2
 ·exact .inr (of_decide_eq_true h2)
theorem up_mem {α : Type} {right : α → Bool} {by' : α → Int} {l : List α} (h : upB right by' l l.length = true) : ∀ x ∈ l, right x = true := by
 intro x hx
 obtain ⟨i, hi, rfl⟩ := List.mem_iff_getElem.1 hx
 exact (up_all h i hi).1
theorem ckP_len {lsn : Nat} {l : List CkP} (h : upB (ckPOk lsn) CkP.page l l.length = true) : l.length ≤ 64 := by
 have hp : ∀ i (hi : i < l.length), 0 ≤ l[i].page ∧ l[i].page < 64 := fun i hi => by
  have := (up_all h i hi).1
  unfold ckPOk pageOk at this
  rw [Bool.and_eq_true, decide_eq_true_eq] at this
  exact this.1
 have hi : ∀ i (hi : i < l.length), (i : Int) ≤ l[i].page := by
  intro i
  induction i with
  | zero => intro hi; exact (hp 0 hi).1
  | succ i ih =>
   intro hi
   have h1 := ih (by omega)
   have h2 := (up_all h (i + 1) hi).2
   simp only [Nat.add_sub_cancel] at h2
   omega
 rcases Nat.lt_or_ge 64 l.length with hl | hl
 ·have := hi 64 hl
  have := hp 64 hl
  omega
 ·exact hl
structure RecOk (r : Rc) : Prop where
 kind : 1 ≤ r.kind ∧ r.kind ≤ 9
 lsn : 1 ≤ r.lsn ∧ r.lsn ≤ 1099511627776 ∧ r.prev < r.lsn
 txn : 0 ≤ r.txn ∧ r.txn ≤ 1073741824
 next : r.next ≤ r.lsn
 n0 : r.next = 0 ∨ r.kind = 3 ∨ r.kind = 4 ∨ r.kind = 5
 i0 : r.ims = [] ∨ r.kind = 2 ∨ r.kind = 5
 s0 : r.steps = [] ∨ r.kind = 4
 c0 : (r.txns = [] ∧ r.dirty = [] ∧ r.nextTxn = 0) ∨ r.kind = 9
 il : r.ims.length ≤ 16
 im : ∀ x ∈ r.ims, (0 ≤ x.page ∧ x.page < 64) ∧ ZG x.a = true ∧ ZG x.b = true
 i5 : r.kind = 5 → ∀ x ∈ r.ims, x.b = ztC
 sl : r.steps.length ≤ 2
 st : ∀ s ∈ r.steps, YN s = true
 nt : 0 ≤ r.nextTxn ∧ r.nextTxn ≤ 1073741824
 tl : r.txns.length ≤ 8
 tx : ∀ t ∈ r.txns, ckTOk r.lsn r.nextTxn t = true
 dl : r.dirty.length ≤ 64
 di : ∀ p ∈ r.dirty, ckPOk r.lsn p = true
theorem ims_facts {b : Bool} {l : List Im} (h : imsOk b l = true) : l.length ≤ 16 ∧ (∀ x ∈ l, (0 ≤ x.page ∧ x.page < 64) ∧ ZG x.a = true ∧ ZG x.b = true) ∧ (b = false → ∀ x ∈ l, x.b = ztC) := by
 unfold imsOk at h
 rw [Bool.and_eq_true, decide_eq_true_eq] at h
 obtain ⟨h1, h2⟩ := h
 have h3 := up_mem h2
 have h4 : ∀ x ∈ l, (0 ≤ x.page ∧ x.page < 64) ∧ ZG x.a = true ∧ ZG x.b = true ∧ (b = true ∨ x.b.kind = 0) := fun x hx => by
  have := h3 x hx
  unfold imOk pageOk at this
  rw [Bool.and_eq_true, Bool.and_eq_true, Bool.and_eq_true, Bool.or_eq_true, decide_eq_true_eq, decide_eq_true_eq] at this
  exact this
 refine ⟨h1, fun x hx => ⟨(h4 x hx).1, (h4 x hx).2.1, (h4 x hx).2.2.1⟩, fun hb x hx => ?_⟩
 obtain ⟨_, _, g3, g4⟩ := h4 x hx
 have g5 : x.b.kind = 0 := by
  rcases g4 with g4 | g4
  ·rw [hb] at g4; cases g4
  ·exact g4
 rcases contB_form g3 with e | e | e
 ·exact e.2.1
 ·omega
 ·omega
theorem recOk_facts {r : Rc} (h : Yr r = true) : RecOk r := by
 unfold Yr headOk bareOk at h
 rw [Bool.and_eq_true, Bool.and_eq_true, Bool.and_eq_true, decide_eq_true_eq, decide_eq_true_eq, decide_eq_true_eq] at h
 obtain ⟨hk, ⟨h1, h2, h3, h4, h5, h6, h7⟩, ha, b1, b2, b3, b4⟩ := h
 unfold askOk at ha
 obtain ⟨k, lsn, txn, prev, next, ims, steps, nt, txns, dirty⟩ := r
 dsimp only at *
 by_cases k2 : k = 2
 ·rw [if_pos k2, Bool.and_eq_true] at ha
  obtain ⟨f1, f2, f3⟩ := ims_facts ha.2
  obtain rfl : steps = [] := by rcases b3 with b3 | b3 <;> first | exact b3 | omega
  obtain ⟨rfl, rfl, rfl⟩ : txns = [] ∧ dirty = [] ∧ nt = 0 := by rcases b4 with b4 | b4 <;> first | exact b4 | omega
  exact ⟨hk, ⟨h1, h2, h3⟩, ⟨h4, h5⟩, by dsimp only; omega, b1, b2, b3, b4, f1, f2, fun e => by dsimp only at e; omega, by simp, by simp, by simp, by simp, by simp, by simp, by simp⟩
 ·rw [if_neg k2] at ha
  by_cases k3 : k = 3
  ·rw [if_pos k3, decide_eq_true_eq] at ha
   obtain rfl : ims = [] := by rcases b2 with b2 | b2 <;> first | exact b2 | omega
   obtain rfl : steps = [] := by rcases b3 with b3 | b3 <;> first | exact b3 | omega
   obtain ⟨rfl, rfl, rfl⟩ : txns = [] ∧ dirty = [] ∧ nt = 0 := by rcases b4 with b4 | b4 <;> first | exact b4 | omega
   exact ⟨hk, ⟨h1, h2, h3⟩, ⟨h4, h5⟩, by dsimp only; omega, b1, b2, b3, b4, by simp, by simp, by simp, by simp, by simp, by simp, by simp, by simp, by simp, by simp⟩
  ·rw [if_neg k3] at ha
   by_cases k4 : k = 4
   ·rw [if_pos k4, Bool.and_eq_true, Bool.and_eq_true, decide_eq_true_eq, decide_eq_true_eq] at ha
    obtain rfl : ims = [] := by rcases b2 with b2 | b2 <;> first | exact b2 | omega
    obtain ⟨rfl, rfl, rfl⟩ : txns = [] ∧ dirty = [] ∧ nt = 0 := by rcases b4 with b4 | b4 <;> first | exact b4 | omega
    exact ⟨hk, ⟨h1, h2, h3⟩, ⟨h4, h5⟩, by dsimp only; omega, b1, b2, b3, b4, by simp, by simp, by simp, ha.2.1.2, List.all_eq_true.1 ha.2.2, by simp, by simp, by simp, by simp, by simp⟩
   ·rw [if_neg k4] at ha
    by_cases k5 : k = 5
    ·rw [if_pos k5, Bool.and_eq_true, decide_eq_true_eq] at ha
     obtain ⟨f1, f2, f3⟩ := ims_facts ha.2
     obtain rfl : steps = [] := by rcases b3 with b3 | b3 <;> first | exact b3 | omega
     obtain ⟨rfl, rfl, rfl⟩ : txns = [] ∧ dirty = [] ∧ nt = 0 := by rcases b4 with b4 | b4 <;> first | exact b4 | omega
     exact ⟨hk, ⟨h1, h2, h3⟩, ⟨h4, h5⟩, by dsimp only; omega, b1, b2, b3, b4, f1, f2, fun _ => f3 rfl, by simp, by simp, by simp, by simp, by simp, by simp, by simp⟩
    ·rw [if_neg k5] at ha
     obtain rfl : ims = [] := by rcases b2 with b2 | b2 <;> first | exact b2 | omega
     obtain rfl : steps = [] := by rcases b3 with b3 | b3 <;> first | exact b3 | omega
     by_cases k9 : k = 9
     ·rw [if_pos k9, Bool.and_eq_true, Bool.and_eq_true, decide_eq_true_eq] at ha
      obtain ⟨⟨a1, a2, a3⟩, a4, a5⟩ := ha
      exact ⟨hk, ⟨h1, h2, h3⟩, ⟨h4, h5⟩, by dsimp only; omega, b1, b2, b3, b4, by simp, by simp, by simp, by simp, by simp, ⟨by dsimp only; omega, a2⟩, a3, up_mem a4, ckP_len a5, up_mem a5⟩
     ·obtain ⟨rfl, rfl, rfl⟩ : txns = [] ∧ dirty = [] ∧ nt = 0 := by rcases b4 with b4 | b4 <;> first | exact b4 | omega
      exact ⟨hk, ⟨h1, h2, h3⟩, ⟨h4, h5⟩, by dsimp only; omega, b1, b2, b3, b4, by simp, by simp, by simp, by simp, by simp, by simp, by simp, by simp, by simp, by simp⟩
theorem ckT_facts {lsn : Nat} {next : Int} {t : CkT} (h : ckTOk lsn next t = true) (hl : lsn ≤ 1099511627776) (hn : next ≤ 1073741824) : CkTF t := by
 unfold ckTOk at h
 rw [decide_eq_true_eq] at h
 obtain ⟨a1, a2, a3, a4, a5, a6, a7, a8⟩ := h
 exact ⟨by omega, by omega, by omega, by omega, by omega⟩
theorem ckP_facts {lsn : Nat} {p : CkP} (h : ckPOk lsn p = true) (hl : lsn ≤ 1099511627776) : CkPF p ∧ p.page < 64 := by
 unfold ckPOk pageOk at h
 rw [Bool.and_eq_true, decide_eq_true_eq, decide_eq_true_eq] at h
 obtain ⟨⟨a1, a2⟩, a3, a4⟩ := h
 exact ⟨⟨by omega, by omega⟩, by omega⟩
theorem recOk_lay {r : Rc} (h : Yr r = true) : LayOk r := by
 have f := recOk_facts h
 have l1 := f.lsn
 have l2 := f.next
 have l3 := f.txn
 have l4 := f.nt
 have l5 := f.kind
 exact ⟨by omega, by omega, by omega, by omega, by omega, by omega, f.il, f.im, f.sl, f.st, f.tl, fun t ht => by
   have g := ckT_facts (f.tx t ht) l1.2.1 l4.2
   exact ⟨g.txn, g.first, g.last, g.undo, g.state.1, g.state.2⟩, f.dl, fun p hp => by
   obtain ⟨g, g2⟩ := ckP_facts (f.di p hp) l1.2.1
   exact ⟨⟨g.page.1, g2⟩, g.since⟩⟩
theorem headD_fw {k lsn prev : Nat} {txn : Nat} (h1 : k < 256) (h2 : lsn < 18446744073709551616) (h3 : txn < 4294967296) (h4 : prev < 18446744073709551616) (rest : List UInt8) :
  headD (be 1 k ++ (be 8 lsn ++ (be 4 txn ++ (be 8 prev ++ rest))), 0, false) = (⟨k, lsn, txn, prev, 0, [], [], 0, [], []⟩, rest, 0, false) := by
 unfold headD hdL hdT hdP
 rw [Xu (by omega)]
 simp only [Xu (k := 8) (x := lsn) (by omega), Xu (k := 4) (x := txn) (by omega), Xu (k := 8) (x := prev) (by omega)]
theorem dec_fw {r : Rc} (h : Yr r = true) (hf : RcF r) (rest : List UInt8) : decD (Xa r ++ rest) = (r.plain, rest, 0, false) := by
 obtain ⟨f1, f2, f3, f4, n0, i0, s0, c0, f5, f6, f7, f8, f9, f10, f11, f12, f13, f14⟩ := recOk_facts h
 obtain ⟨q1, q2⟩ := hf
 obtain ⟨k, lsn, txn, prev, next, ims, steps, nt, txns, dirty⟩ := r
 dsimp only at *
 have e : Xa ⟨k, lsn, txn, prev, next, ims, steps, nt, txns, dirty⟩ ++ rest = be 1 k.toNat ++ (be 8 lsn ++ (be 4 txn.toNat ++ (be 8 prev ++ (recTB ⟨k, lsn, txn, prev, next, ims, steps, nt, txns, dirty⟩ ++ rest)))) := by
  rw [XD]; simp [Xa, recHB, tB]
 unfold decD
 rw [e, headD_fw (by omega) (by omega) (by omega) (by omega)]
 rw [show ((k.toNat : Nat) : Int) = k by omega, show ((txn.toNat : Nat) : Int) = txn by omega]
 unfold tailD recTB imsB
 dsimp only
 have hI : ∀ two : Bool, (two = false → ∀ x ∈ ims, x.b = ztC) → ∀ X, Ys (imD two) (YL (imB two) ims ++ X, 0, false) = (ims.map Im.plain, X, 0, false) := fun two h0 X => by
  have := manyD_fw (f := imD two) (enc := imB two) (xs := ims.map Im.plain) (by simp; omega) (fun x hx => by
   obtain ⟨y, hy, rfl⟩ := List.mem_map.1 hx
   exact imD_fw (f6 y hy).1 (f6 y hy).2.1 (f6 y hy).2.2 (q1 y hy).2 (q1 y hy).1 (fun h => h0 h y hy)) X
  have e : YL (imB two) ims = YL (imB two) (ims.map Im.plain) := by unfold YL; rw [List.length_map, List.flatMap_map]; rfl
  rw [e]
  exact this
 by_cases k2 : k = 2
 ·rw [if_pos k2, if_pos k2]
  obtain rfl : steps = [] := by rcases s0 with e | e <;> first | exact e | omega
  obtain ⟨rfl, rfl, rfl⟩ : txns = [] ∧ dirty = [] ∧ nt = 0 := by rcases c0 with e | e <;> first | exact e | omega
  obtain rfl : next = 0 := by omega
  unfold chD
  dsimp only
  rw [hI _ (fun e => by simp [k2] at e)]
 ·rw [if_neg k2, if_neg k2]
  by_cases k3 : k = 3
  ·rw [if_pos k3, if_pos k3]
   obtain rfl : ims = [] := by rcases i0 with e | e <;> first | exact e | omega
   obtain rfl : steps = [] := by rcases s0 with e | e <;> first | exact e | omega
   obtain ⟨rfl, rfl, rfl⟩ : txns = [] ∧ dirty = [] ∧ nt = 0 := by rcases c0 with e | e <;> first | exact e | omega
   unfold neD
   rw [Xu (k := 8) (x := next) (by omega)]
   rfl
  ·rw [if_neg k3, if_neg k3]
   by_cases k4 : k = 4
   ·rw [if_pos k4, if_pos k4]
    obtain rfl : ims = [] := by rcases i0 with e | e <;> first | exact e | omega
    obtain ⟨rfl, rfl, rfl⟩ : txns = [] ∧ dirty = [] ∧ nt = 0 := by rcases c0 with e | e <;> first | exact e | omega
    unfold thenD neD doD
    rw [List.append_assoc, Xu (k := 8) (x := next) (by omega)]
    dsimp only
    rw [manyD_fw (by omega) (fun s hs => stpD_fw (f9 s hs) (q2 s hs))]
    rfl
   ·rw [if_neg k4, if_neg k4]
    by_cases k5 : k = 5
    ·rw [if_pos k5, if_pos k5]
     obtain rfl : steps = [] := by rcases s0 with e | e <;> first | exact e | omega
     obtain ⟨rfl, rfl, rfl⟩ : txns = [] ∧ dirty = [] ∧ nt = 0 := by rcases c0 with e | e <;> first | exact e | omega
     unfold thenD neD chD
     rw [List.append_assoc, Xu (k := 8) (x := next) (by omega)]
     dsimp only
     rw [hI _ (fun _ => f7 k5)]
    ·rw [if_neg k5, if_neg k5]
     obtain rfl : ims = [] := by rcases i0 with e | e <;> first | exact e | omega
     obtain rfl : steps = [] := by rcases s0 with e | e <;> first | exact e | omega
     obtain rfl : next = 0 := by omega
     by_cases k9 : k = 9
     ·rw [if_pos k9, if_pos k9]
      unfold thenD cxD ctD cdD
      rw [List.append_assoc, Xu (k := 4) (x := nt.toNat) (by omega)]
      dsimp only
      rw [List.append_assoc, manyD_fw (by omega) (fun t ht => ckTD_fw (ckT_facts (f12 t ht) f2.2.1 f10.2))]
      dsimp only
      rw [manyD_fw (by omega) (fun p hp => ckPD_fw (ckP_facts (f14 p hp) f2.2.1).1)]
      dsimp only
      rw [show ((nt.toNat : Nat) : Int) = nt by omega]
      rfl
     ·rw [if_neg k9, if_neg k9]
      obtain ⟨rfl, rfl, rfl⟩ : txns = [] ∧ dirty = [] ∧ nt = 0 := by rcases c0 with e | e <;> first | exact e | omega
      rfl
theorem ContFit.id' {c : XX} (h : ContFit c) : IdFit c := ⟨h.row, fun k hk => (h.kid k hk).id⟩
theorem headD_bk {s : ZX} {r : Rc} {l' : List UInt8} (h : headD s = (r, l', 0, false)) : s = (recHB r ++ l', 0, false) ∧ r = ⟨r.kind, r.lsn, r.txn, r.prev, 0, [], [], 0, [], []⟩ := by
 unfold headD hdL hdT hdP at h
 simp only [Prod.mk.injEq] at h
 obtain ⟨rfl, h2⟩ := h
 generalize hs1 : rdN 1 s = s1 at *
 generalize hs2 : rdN 8 s1.2 = s2 at *
 generalize hs3 : rdN 4 s2.2 = s3 at *
 generalize hs4 : rdN 8 s3.2 = s4 at *
 obtain ⟨x4, y4⟩ := s4
 dsimp only at h2
 subst h2
 obtain ⟨k4, b4⟩ := Xt hs4
 obtain ⟨x3, y3⟩ := s3
 dsimp only at k4
 subst k4
 obtain ⟨k3, b3⟩ := Xt hs3
 obtain ⟨x2, y2⟩ := s2
 dsimp only at k3
 subst k3
 obtain ⟨k2, b2⟩ := Xt hs2
 obtain ⟨x1, y1⟩ := s1
 dsimp only at k2
 subst k2
 obtain ⟨k1, b1⟩ := Xt hs1
 refine ⟨?_, rfl⟩
 rw [k1]
 simp [recHB, tB, XD]
theorem chD_bk {r0 : Rc} {s : ZX} {r : Rc} {l' : List UInt8} (h : chD r0 s = (r, l', 0, false)) : s = (imsB r ++ l', 0, false) ∧ r = { r0 with ims := r.ims } ∧ r.ims = r.ims.map Im.plain ∧ ∀ x ∈ r.ims, IdFit x.b ∧ IdFit x.a := by
 unfold chD at h
 simp only [Prod.mk.injEq] at h
 obtain ⟨rfl, h2⟩ := h
 obtain ⟨g1, g2, g3⟩ := manyD_bk (f := imD (decide (r0.kind = 2))) imD_bk (s := s) (x := (Ys (imD (decide (r0.kind = 2))) s).1) (l' := l') (by rw [← h2])
 generalize (Ys (imD (decide (r0.kind = 2))) s).1 = xs at *
 refine ⟨g1, rfl, ?_, fun x hx => ?_⟩
 ·dsimp only
  have : ∀ (l : List Im), (∀ x ∈ l, x = x.plain) → l = l.map Im.plain := by
   intro l
   induction l with
   | nil => intro _; rfl
   | cons a r ih => intro h; rw [List.map_cons, ← h a (by simp), ← ih (fun x hx => h x (by simp [hx]))]
  exact this xs (fun x hx => (g3 x hx).eq)
 ·have f := g3 x hx
  refine ⟨?_, f.a.2.id'⟩
  cases hb : decide (r0.kind = 2)
  ·rw [f.z hb]; exact ⟨by simp, by simp⟩
  ·exact (f.b hb).2.id'
theorem neD_bk {r0 : Rc} {s : ZX} {r : Rc} {l' : List UInt8} (h : neD r0 s = (r, l', 0, false)) : s = (be 8 r.next ++ l', 0, false) ∧ r = { r0 with next := r.next } := by
 unfold neD at h
 simp only [Prod.mk.injEq] at h
 obtain ⟨rfl, h2⟩ := h
 obtain ⟨g1, g2⟩ := Xt (k := 8) (s := s) (x := (rdN 8 s).1) (l' := l') (by rw [← h2])
 exact ⟨g1, rfl⟩
theorem doD_bk {r0 : Rc} {s : ZX} {r : Rc} {l' : List UInt8} (h : doD r0 s = (r, l', 0, false)) : s = (YL Wu r.steps ++ l', 0, false) ∧ r = { r0 with steps := r.steps } ∧ ∀ x ∈ r.steps, StpF x := by
 unfold doD at h
 simp only [Prod.mk.injEq] at h
 obtain ⟨rfl, h2⟩ := h
 obtain ⟨g1, g2, g3⟩ := manyD_bk (f := stpD) stpD_bk (s := s) (x := (Ys stpD s).1) (l' := l') (by rw [← h2])
 exact ⟨g1, rfl, g3⟩
theorem cxD_bk {r0 : Rc} {s : ZX} {r : Rc} {l' : List UInt8} (h : cxD r0 s = (r, l', 0, false)) : s = (be 4 r.nextTxn.toNat ++ l', 0, false) ∧ r = { r0 with nextTxn := r.nextTxn } := by
 unfold cxD at h
 simp only [Prod.mk.injEq] at h
 obtain ⟨rfl, h2⟩ := h
 obtain ⟨g1, g2⟩ := Xt (k := 4) (s := s) (x := (rdN 4 s).1) (l' := l') (by rw [← h2])
 exact ⟨g1, rfl⟩
theorem ctD_bk {r0 : Rc} {s : ZX} {r : Rc} {l' : List UInt8} (h : ctD r0 s = (r, l', 0, false)) : s = (YL Wv r.txns ++ l', 0, false) ∧ r = { r0 with txns := r.txns } := by
 unfold ctD at h
 simp only [Prod.mk.injEq] at h
 obtain ⟨rfl, h2⟩ := h
 obtain ⟨g1, g2⟩ := manyD_bk (f := ckTD) ckTD_bk (s := s) (x := (Ys ckTD s).1) (l' := l') (by rw [← h2])
 exact ⟨g1, rfl⟩
theorem cdD_bk {r0 : Rc} {s : ZX} {r : Rc} {l' : List UInt8} (h : cdD r0 s = (r, l', 0, false)) : s = (YL ckPB r.dirty ++ l', 0, false) ∧ r = { r0 with dirty := r.dirty } := by
 unfold cdD at h
 simp only [Prod.mk.injEq] at h
 obtain ⟨rfl, h2⟩ := h
 obtain ⟨g1, g2⟩ := manyD_bk (f := ckPD) ckPD_bk (s := s) (x := (Ys ckPD s).1) (l' := l') (by rw [← h2])
 exact ⟨g1, rfl⟩
theorem pair_eq {α : Type} {p : α × ZX} {l : List UInt8} (h : p.2 = (l, 0, false)) : p = (p.1, l, 0, false) := by rw [← h]
theorem tailD_bk {k : Int} {lsn : Nat} {txn : Int} {prev : Nat} {s : ZX} {r : Rc} {l' : List UInt8} (h : tailD ⟨k, lsn, txn, prev, 0, [], [], 0, [], []⟩ s = (r, l', 0, false)) : s = (recTB r ++ l', 0, false) ∧ (r.kind = k ∧ r.lsn = lsn ∧ r.txn = txn ∧ r.prev = prev) ∧ r = r.plain ∧ RcF r := by
 unfold tailD at h
 dsimp only at h
 have fin : ∀ r : Rc, r.ims = r.ims.map Im.plain → r = r.plain := fun r e => by
  obtain ⟨k, lsn, txn, prev, next, ims, steps, nt, txns, dirty⟩ := r
  dsimp only [Rc.plain] at e ⊢
  rw [← e]
 unfold recTB
 by_cases k2 : k = 2
 ·rw [if_pos k2] at h
  obtain ⟨g1, g2, g3, g4⟩ := chD_bk h
  rw [g2]; dsimp only; rw [if_pos k2]
  rw [g2] at g1 g3 g4
  exact ⟨g1, ⟨rfl, rfl, rfl, rfl⟩, fin _ g3, ⟨g4, by simp⟩⟩
 ·rw [if_neg k2] at h
  by_cases k3 : k = 3
  ·rw [if_pos k3] at h
   obtain ⟨g1, g2⟩ := neD_bk h
   rw [g2]; dsimp only; rw [if_neg k2, if_pos k3]
   exact ⟨g1, ⟨rfl, rfl, rfl, rfl⟩, fin _ rfl, ⟨by simp, by simp⟩⟩
  ·rw [if_neg k3] at h
   by_cases k4 : k = 4
   ·rw [if_pos k4] at h
    obtain ⟨g1, g2, g3⟩ := doD_bk h
    obtain ⟨f1, f2⟩ := neD_bk (pair_eq g1)
    rw [f2] at g2
    generalize (neD ⟨k, lsn, txn, prev, 0, [], [], 0, [], []⟩ s).1 = r1 at *
    rw [g2]; dsimp only; rw [if_neg k2, if_neg k3, if_pos k4]
    exact ⟨by rw [f1, List.append_assoc], ⟨rfl, rfl, rfl, rfl⟩, fin _ rfl, ⟨by simp, g3⟩⟩
   ·rw [if_neg k4] at h
    by_cases k5 : k = 5
    ·rw [if_pos k5] at h
     obtain ⟨g1, g2, g3, g4⟩ := chD_bk h
     obtain ⟨f1, f2⟩ := neD_bk (pair_eq g1)
     rw [f2] at g2
     generalize (neD ⟨k, lsn, txn, prev, 0, [], [], 0, [], []⟩ s).1 = r1 at *
     rw [g2]; dsimp only; rw [if_neg k2, if_neg k3, if_neg k4, if_pos k5]
     have e : imsB r = imsB { (⟨k, lsn, txn, prev, r1.next, [], [], 0, [], []⟩ : Rc) with ims := r.ims } := by rw [← g2]
     dsimp only at e
     exact ⟨by rw [f1, List.append_assoc, e], ⟨rfl, rfl, rfl, rfl⟩, fin _ g3, ⟨g4, by simp⟩⟩
    ·rw [if_neg k5] at h
     by_cases k9 : k = 9
     ·rw [if_pos k9] at h
      obtain ⟨g1, g2⟩ := cdD_bk h
      obtain ⟨f1, f2⟩ := ctD_bk (pair_eq g1)
      obtain ⟨e1, e2⟩ := cxD_bk (pair_eq f1)
      generalize (thenD cxD ctD ⟨k, lsn, txn, prev, 0, [], [], 0, [], []⟩ s).1 = r2 at *
      generalize (cxD ⟨k, lsn, txn, prev, 0, [], [], 0, [], []⟩ s).1 = r1 at *
      obtain ⟨n1, hn⟩ : ∃ n : Int, r1 = { (⟨k, lsn, txn, prev, 0, [], [], 0, [], []⟩ : Rc) with nextTxn := n } := ⟨_, e2⟩
      subst hn
      obtain ⟨t1, ht⟩ : ∃ t, r2 = { (⟨k, lsn, txn, prev, 0, [], [], n1, [], []⟩ : Rc) with txns := t } := ⟨_, f2⟩
      subst ht
      obtain ⟨d1, hd⟩ : ∃ d, r = { (⟨k, lsn, txn, prev, 0, [], [], n1, t1, []⟩ : Rc) with dirty := d } := ⟨_, g2⟩
      subst hd
      dsimp only at e1 ⊢
      rw [if_neg k2, if_neg k3, if_neg k4, if_neg k5, if_pos k9]
      exact ⟨by rw [e1]; simp, ⟨rfl, rfl, rfl, rfl⟩, fin _ rfl, ⟨by simp, by simp⟩⟩
     ·rw [if_neg k9] at h
      simp only [Prod.mk.injEq] at h
      obtain ⟨rfl, rfl⟩ := h
      dsimp only; rw [if_neg k2, if_neg k3, if_neg k4, if_neg k5, if_neg k9]
      exact ⟨rfl, ⟨rfl, rfl, rfl, rfl⟩, fin _ rfl, ⟨by simp, by simp⟩⟩
theorem dec_bk {l l' : List UInt8} {r : Rc} (h : decD l = (r, l', 0, false)) : l = Xa r ++ l' ∧ r = r.plain ∧ RcF r := by
 unfold decD at h
 have hh : ∃ r0 s0, headD (l, 0, false) = (r0, s0) := ⟨_, _, rfl⟩
 obtain ⟨r0, s0, e0⟩ := hh
 rw [e0] at h
 dsimp only at h
 have hr0 : ∃ k lsn txn prev, r0 = ⟨k, lsn, txn, prev, 0, [], [], 0, [], []⟩ := by
  unfold headD hdL hdT hdP at e0
  simp only [Prod.mk.injEq] at e0
  exact ⟨_, _, _, _, e0.1.symm⟩
 obtain ⟨k, lsn, txn, prev, rfl⟩ := hr0
 obtain ⟨g1, ⟨g2, g3, g4, g5⟩, g6, g7⟩ := tailD_bk h
 subst g1
 obtain ⟨f1, f2⟩ := headD_bk e0
 simp only [Prod.mk.injEq] at f1
 refine ⟨?_, g6, g7⟩
 rw [f1.1]
 unfold Xa recHB
 rw [g2, g3, g4, g5]
 simp
theorem recB_plain (r : Rc) : Xa r.plain = Xa r := by
 unfold Xa recTB imsB YL
 dsimp only [Rc.plain]
 rw [List.length_map, List.flatMap_map]
 rfl
theorem up_map {α β : Type} (g : α → β) (right : β → Bool) (by' : β → Int) (l : List α) : ∀ k, upB right by' (l.map g) k = upB (fun x => right (g x)) (fun x => by' (g x)) l k := by
 intro k
 unfold upB
 rw [List.length_map]
 generalize l.length = m
 induction k with
 | zero => simp [ZP]
 | succ k ih =>
  rw [ZP, ZP, ih]
  simp only [List.getElem?_map]
  cases l[k]? with
  | none => rfl
  | some x => cases l[k - 1]? <;> rfl
theorem recOk_plain (r : Rc) : Yr r.plain = Yr r := by
 unfold Yr headOk askOk bareOk imsOk
 dsimp only [Rc.plain]
 simp only [List.length_map, up_map, List.map_eq_nil_iff]
 rfl
theorem dec_enc {r : Rc} (h : Yr r = true) (hf : RcF r) : decOk (Xa r) = true ∧ decR (Xa r) = r.plain := by
 have := dec_fw h hf []
 rw [List.append_nil] at this
 have e : decOk (Xa r) = true := by
  unfold decOk
  rw [this]
  simp only [recOk_plain, h]
  rfl
 refine ⟨e, ?_⟩
 unfold decR
 rw [if_pos e, this]
theorem okS_iff {s : ZX} (h : okS s = true) : s.2 = (0, false) := by
 obtain ⟨l, st, bad⟩ := s
 unfold okS at h
 rw [Bool.and_eq_true, decide_eq_true_eq] at h
 obtain ⟨h1, h2⟩ := h
 cases bad
 ·dsimp only at h2; rw [h2]
 ·cases h1
theorem enc_dec {l : List UInt8} (h : decOk l = true) : Yr (decR l) = true ∧ Xa (decR l) = l ∧ RcF (decR l) ∧ decR l = (decR l).plain ∧ decD l = (decR l, [], 0, false) := by
 unfold decR
 rw [if_pos h]
 unfold decOk at h
 rw [Bool.and_eq_true, Bool.and_eq_true, decide_eq_true_eq] at h
 obtain ⟨h1, h2, h3⟩ := h
 have e : decD l = ((decD l).1, [], 0, false) := by
  have g1 := okS_iff h1
  have g2 := List.eq_nil_of_length_eq_zero h2
  rw [← g2, ← g1]
 obtain ⟨k1, k2, k3⟩ := dec_bk e
 rw [List.append_nil] at k1
 exact ⟨h3, k1.symm, k3, k2, e⟩
def sectsB (n : Nat) : Nat := max 1 ((n + 51) / 52)
theorem rsects_spec (ρ : Hp) (n : Nat) (hn : n ≤ 4611686018427387904) : Spec Tryz.prog 62 [.int .i64 n] ρ [] (fun v ρ' L' => v = .int .i64 (sectsB n : Nat) ∧ ρ' = ρ ∧ L' = []) := by
 refine Za Tryz.func62 rfl rfl rfl fun u R => ?_
 simp only [Zf, kA]
 have e : max 1 (IntKind.i64.wrap (((n : Int) + 52 - 1).tdiv 52)) = ((sectsB n : Nat) : Int) := by
  rw [Int.tdiv_eq_ediv_of_nonneg (by omega), Wh (by simp only [lo, hi]; omega)]
  unfold sectsB; omega
 repeat' (first | refine zV ?_ | intro _)
 rw [e]
 exact qE ⟨rfl, rfl, rfl⟩
theorem listB_le {α : Type} (f : α → List UInt8) (m : Nat) (l : List α) (h : ∀ x ∈ l, (f x).length ≤ m) : (YL f l).length ≤ 1 + l.length * m := by
 have := Yn f m l h
 unfold YL
 rw [List.length_cons]; omega
theorem recB_le {r : Rc} (h : LayOk r) : (Xa r).length ≤ 4000 := by
 have h1 : (recHB r).length = 21 := by simp [recHB, Zh]
 have h2 : (imsB r).length ≤ 1 + r.ims.length * 165 := listB_le _ 165 r.ims (fun x hx => imB_len (h.im x hx).2.1 (h.im x hx).2.2)
 have h3 : (YL Wu r.steps).length ≤ 1 + r.steps.length * 21 := listB_le _ 21 r.steps (fun x hx => stpB_len (h.st x hx))
 have h4 : (YL Wv r.txns).length ≤ 1 + r.txns.length * 29 := listB_le _ 29 r.txns (fun x hx => Nat.le_of_eq (ckTB_len x))
 have h5 : (YL ckPB r.dirty).length ≤ 1 + r.dirty.length * 9 := listB_le _ 9 r.dirty (fun x hx => Nat.le_of_eq (ckPB_len x))
 have a1 := h.il
 have a2 := h.sl
 have a3 := h.tl
 have a4 := h.dl
 have h6 : (recTB r).length ≤ 3900 := by
  unfold recTB
  split
  ·omega
  ·split
   ·rw [Zh]; omega
   ·split
    ·rw [List.length_append, Zh]; omega
    ·split
     ·rw [List.length_append, Zh]; omega
     ·split
      ·rw [List.length_append, List.length_append, Zh]; omega
      ·simp
 unfold Xa
 rw [List.length_append]; omega
theorem rencode_spec (ρ : Hp) (v : RV) (r : Rc) (h : RcIn ρ v r) : Spec Tryz.prog 89 [.agg ⟨Wt v r⟩] ρ []
  (fun z ρ' L' => ρ.le ρ' ∧ ∃ a n c, z = .tuple ⟨[.slice a n c, .int .i64 (if Yr r then 0 else 220)]⟩ ∧ n ≤ c ∧ SIn ρ' Zo a n (if Yr r then Xa r else []) ∧ L' = []) := by
 have hck := rcheck_spec ρ v r h
 refine Za Tryz.func89 rfl rfl rfl fun u R => ?_
 simp only [Zf, kA]
 cases hok : Yr r
 ·rw [hok] at hck
  repeat' (first | (refine Zb (.func 150) ?_; refine qR rfl rfl (hck) ?_; try simp only [kA, if_false, Bool.false_eq_true]) | refine zV ?_ | intro _)
  exact qE ⟨Hp.le_refl _, none, 0, 0, rfl, Nat.le_refl _, SIn.nil, rfl⟩
 ·rw [hok] at hck
  have hla := rlaid_spec ρ v r h (recOk_lay hok)
  repeat' (first | (refine Zb (.func 150) ?_; refine qR rfl rfl (hck) ?_; try simp only [kA, if_true]) | (refine Zb (.func 153) ?_; refine qC rfl rfl (hla) ?_; rintro v ρ' L' hle ⟨hle1, a, c, rfl, hc, hs, rfl⟩ <;> (try simp only [kA])) | refine zV ?_ | intro _)
  exact qE ⟨hle1, a, _, c, rfl, hc, hs, rfl⟩
def Xz (r : Rc) : Nat := if Yr r then sectsB (Xa r).length else 0
def errN (r : Rc) : Int := if Yr r then 0 else 220
theorem rcost_spec (ρ : Hp) (v : RV) (r : Rc) (h : RcIn ρ v r) : Spec Tryz.prog 87 [.agg ⟨Wt v r⟩] ρ []
  (fun z ρ' L' => ρ.le ρ' ∧ z = .tuple ⟨[.int .i64 (Xz r : Nat), .int .i64 (errN r)]⟩ ∧ L' = []) := by
 have hck := rcheck_spec ρ v r h
 unfold Xz errN
 refine Za Tryz.func87 rfl rfl rfl fun u R => ?_
 simp only [Zf, kA]
 cases hok : Yr r
 ·rw [hok] at hck
  repeat' (first | (refine Zb (.func 150) ?_; refine qR rfl rfl (hck) ?_; try simp only [kA, if_false, Bool.false_eq_true]) | refine zV ?_ | intro _)
  exact qE ⟨Hp.le_refl _, rfl, rfl⟩
 ·rw [hok] at hck
  have hla := rlaid_spec ρ v r h (recOk_lay hok)
  have hb := recB_le (recOk_lay hok)
  repeat' (first | (refine Zb (.func 150) ?_; refine qR rfl rfl (hck) ?_; try simp only [kA, if_true]) | (refine Zb (.func 153) ?_; refine qC rfl rfl (hla) ?_; rintro v ρ' L' hle ⟨hle1, a, c, rfl, hc, hs, rfl⟩ <;> (try simp only [kA])) | (refine Zb (.func 62) ?_; refine qR rfl rfl (rsects_spec _ _ (by omega)) ?_; try simp only [kA]) | refine zV ?_ | intro _)
  exact qE ⟨hle1, rfl, rfl⟩
structure Lf where
 lsn : Nat
 cost : Int
deriving DecidableEq
abbrev lfV (x : Lf) : List Value := [.int .u64 x.lsn, .int .i64 x.cost]
abbrev u64c (n : Nat) : Value := .int .u64 n
structure Tx where
 num : Int
 state : Int
 first : Nat
 last : Nat
 undo : Nat
 stack : List Lf
 marks : List Nat
 sv : SV
 mv : SV
abbrev txV (x : Tx) : List Value := [.int .i64 x.num, .int .i64 x.state, .int .u64 x.first, .int .u64 x.last, .int .u64 x.undo, .slice x.sv.a x.sv.n x.sv.c, .slice x.mv.a x.mv.n x.mv.c]
structure Tx.In (ρ : Hp) (x : Tx) : Prop where
 s : AIn ρ 2 lfV x.sv.a x.sv.n x.stack
 m : SIn ρ u64c x.mv.a x.mv.n x.marks
 sb : x.sv.n ≤ 200000000000000
 mb : x.mv.n ≤ 200000000000000
 sc : x.sv.n ≤ x.sv.c
 mc : x.mv.n ≤ x.mv.c
theorem Tx.In.mono {ρ ρ' x} (h : Tx.In ρ x) (hle : ρ.le ρ') : Tx.In ρ' x := ⟨h.s.mono hle, h.m.mono hle, h.sb, h.mb, h.sc, h.mc⟩
structure Ros where
 next : Int
 txns : List Tx
structure RosIn (ρ : Hp) (v : SV) (r : Ros) : Prop where
 at' : AS ρ 7 txV v r.txns
 tx : ∀ x ∈ r.txns, Tx.In ρ x
theorem RosIn.mono {ρ ρ' v r} (h : RosIn ρ v r) (hle : ρ.le ρ') : RosIn ρ' v r := ⟨h.at'.mono hle, fun x hx => (h.tx x hx).mono hle⟩
def tblB : Int → List CkP → Bool
 | _, [] => true
 | last, p :: r => decide (last < p.page ∧ p.page < 64 ∧ 1 ≤ p.since ∧ p.since ≤ 1099511627776) && tblB p.page r
def tblOk (d : List CkP) : Bool := tblB (-1) d
theorem RosIn.nil {ρ : Hp} : RosIn ρ nilS ⟨0, []⟩ := ⟨AS.nil, by simp⟩
structure AtR (l : List CkP) (page : Int) (i : Nat) (there : Bool) : Prop where
 le : i ≤ l.length
 hit : there = true → ∃ h : i < l.length, l[i].page = page
 lo : tblOk l = true → ∀ j (h : j < l.length), j < i → l[j].page < page
 hi : tblOk l = true → there = false → ∀ j (h : j < l.length), i ≤ j → page < l[j].page
def addP (page : Int) (lsn : Nat) : List CkP → List CkP
 | [] => [⟨page, lsn⟩]
 | p :: r => if p.page < page then p :: addP page lsn r else if p.page = page then p :: r else ⟨page, lsn⟩ :: p :: r
theorem addP_in {page : Int} {lsn : Nat} : ∀ {l : List CkP} {i : Nat} (h : i < l.length), (∀ j (h : j < l.length), j < i → l[j].page < page) → l[i].page = page → addP page lsn l = l
 | p :: r, 0, h, _, he => by simp at he; simp [addP, he]
 | p :: r, i + 1, h, hlt, he => by
  have h0 := hlt 0 (by simp) (by omega)
  simp only [List.getElem_cons_zero] at h0
  rw [addP, if_pos h0, addP_in (i := i) (by simpa using h) (fun j hj hji => by have := hlt (j + 1) (by simpa using hj) (by omega); simpa using this) (by simpa using he)]
theorem addP_out {page : Int} {lsn : Nat} : ∀ {l : List CkP} {i : Nat} (h : i ≤ l.length), (∀ j (h : j < l.length), j < i → l[j].page < page) → (∀ j (h : j < l.length), i ≤ j → page < l[j].page) → addP page lsn l = l.take i ++ ⟨page, lsn⟩ :: l.drop i
 | [], 0, _, _, _ => rfl
 | p :: r, 0, _, _, hi => by
  have h0 := hi 0 (by simp) (by omega)
  simp only [List.getElem_cons_zero] at h0
  rw [addP, if_neg (by omega), if_neg (by omega)]; rfl
 | p :: r, i + 1, h, hlt, hi => by
  have h0 := hlt 0 (by simp) (by omega)
  simp only [List.getElem_cons_zero] at h0
  rw [addP, if_pos h0, addP_out (i := i) (by simpa using h) (fun j hj hji => by have := hlt (j + 1) (by simpa using hj) (by omega); simpa using this) (fun j hj hji => by have := hi (j + 1) (by simpa using hj) (by omega); simpa using this)]
  rfl
theorem AtR.add {l : List CkP} {page : Int} {lsn i : Nat} {there : Bool} (h : AtR l page i there) (ht : tblOk l = true) : addP page lsn l = if there then l else l.take i ++ ⟨page, lsn⟩ :: l.drop i := by
 cases there with
 | true =>
  obtain ⟨h1, h2⟩ := h.hit rfl
  rw [if_pos rfl]
  exact addP_in h1 (h.lo ht) h2
 | false =>
  rw [if_neg (by simp)]
  exact addP_out h.le (h.lo ht) (h.hi ht rfl)
def zRc : Rc := ⟨0, 0, 0, 0, 0, [], [], 0, [], []⟩
def zRV : RV := ⟨nilS, nilS, nilS, nilS⟩
theorem RcIn.zero {ρ : Hp} : RcIn ρ zRV zRc := ⟨AS.nil, by simp [zRc], AS.nil, AS.nil, AS.nil, by simp [zRc]⟩
abbrev i64c (i : Int) : Value := .int .i64 i
structure CW (ρ : Hp) (v : CV) (c : XX) : Prop where
 r : AIn ρ 4 Yi v.ra v.rn c.rows
 k : AIn ρ 3 Xi v.ka v.kn c.kids
 rb : v.rn ≤ 140737488355328
 kb : v.kn ≤ 140737488355328
 rc : v.rn ≤ v.rc
 kc : v.kn ≤ v.kc
 row : ∀ r ∈ c.rows, Xs r
 kid : ∀ k ∈ c.kids, k.id < 65536
structure AW (ρ : Hp) (sz : Nat) {α : Type} (g : α → List Value) (s : SV) (l : List α) : Prop where
 at' : AIn ρ sz g s.a s.n l
 big : s.n ≤ 140737488355328
 cap : s.n ≤ s.c
structure RcW (ρ : Hp) (v : RV) (r : Rc) : Prop where
 i : AW ρ 7 imV v.i r.ims
 im : ∀ x ∈ r.ims, CW ρ x.bv x.b ∧ CW ρ x.av x.a
 s : AW ρ 6 YQ v.s r.steps
 t : AW ρ 5 YB v.t r.txns
 d : AW ρ 2 YK v.d r.dirty
 sf : ∀ s ∈ r.steps, Xs s.row
theorem CW.mono {ρ ρ' v c} (h : CW ρ v c) (hle : ρ.le ρ') : CW ρ' v c := ⟨h.r.mono hle, h.k.mono hle, h.rb, h.kb, h.rc, h.kc, h.row, h.kid⟩
theorem AW.mono {ρ ρ' : Hp} {sz : Nat} {α : Type} {g : α → List Value} {s : SV} {l : List α} (h : AW ρ sz g s l) (hle : ρ.le ρ') : AW ρ' sz g s l := ⟨h.at'.mono hle, h.big, h.cap⟩
theorem RcW.mono {ρ ρ' v r} (h : RcW ρ v r) (hle : ρ.le ρ') : RcW ρ' v r := ⟨h.i.mono hle, fun x hx => ⟨(h.im x hx).1.mono hle, (h.im x hx).2.mono hle⟩, h.s.mono hle, h.t.mono hle, h.d.mono hle, h.sf⟩
theorem OwnS.pos {v n xs sp sz} (h : OwnS v n xs sp sz) (h0 : 0 < n) : ∃ b cap, v = .slice (some ⟨b, 0, none⟩) n cap := by
 rcases h.out with ⟨_, h2, _⟩ | ⟨b, cap, h1, _⟩
 ·omega
 ·exact ⟨b, cap, h1⟩
def shortR (r : Row) : Row := ⟨r.t, r.id, r.val, r.note.take 9⟩
def fewC (c : XX) : XX := ⟨c.kind, (c.rows.take 5).map shortR, c.kids.take 5⟩
theorem take_min9 (l : List UInt8) : l.take (min (l.length : Int) 9).toNat = l.take 9 := by
 by_cases h : l.length ≤ 9
 ·rw [show (min (l.length : Int) 9).toNat = l.length by omega, List.take_of_length_le (Nat.le_refl _), List.take_of_length_le h]
 ·rw [show (min (l.length : Int) 9).toNat = 9 by omega]
structure CInW (ρ : Hp) (v : CV) (rows : List Row) (kids : List Kid) : Prop where
 r : AIn ρ 4 Yi v.ra v.rn rows
 k : AIn ρ 3 Xi v.ka v.kn kids
 rb : v.rn ≤ 9223372036854775807
 kb : v.kn ≤ 9223372036854775807
 rc : v.rn ≤ v.rc
 kc : v.kn ≤ v.kc
theorem CInW.mono {ρ ρ' v rows kids} (h : CInW ρ v rows kids) (hle : ρ.le ρ') : CInW ρ' v rows kids := ⟨h.r.mono hle, h.k.mono hle, h.rb, h.kb, h.rc, h.kc⟩
theorem flatK_one (l : List Kid) : ((l.map Xi).flatten).all (·.oneCell') = true := by
 induction l with
 | nil => rfl
 | cons k r ih => simp only [List.map_cons, List.flatten_cons, List.all_append, ih, Bool.and_true]; rfl
theorem flatR_one (l : List Row) : ((l.map Yi).flatten).all (·.oneCell') = true := by
 induction l with
 | nil => rfl
 | cons k r ih => simp only [List.map_cons, List.flatten_cons, List.all_append, ih, Bool.and_true]; rfl
theorem take_five {α : Type} (l : List α) (n m : Nat) (h : l.length = n) (hm : m = min n 5) : l.take m = l.take 5 := by
 by_cases h5 : n ≤ 5
 ·rw [show m = n by omega, List.take_of_length_le (by omega), List.take_of_length_le (by omega)]
 ·rw [show m = 5 by omega]
theorem row_get {sp : List Value} : ∀ (acc : List Row) (k : Nat) (r : Row), acc[k]? = some r → ((acc.map Yi).flatten ++ sp)[0 + k * 4 + 3]? = some (strV r.note)
 | [], k, r, h => by cases h
 | a :: t, 0, r, h => by cases h; rfl
 | a :: t, k + 1, r, h => by
  have ih := row_get (sp := sp) t k r (by simpa using h)
  rw [show 0 + (k + 1) * 4 + 3 = (0 + k * 4 + 3) + 4 by omega]
  simpa only [List.map_cons, List.flatten_cons, Yi, kA, List.getElem?_cons_succ] using ih
theorem row_set {sp : List Value} (s : List UInt8) : ∀ (acc : List Row) (k : Nat) (r : Row), acc[k]? = some r → ((acc.map Yi).flatten ++ sp).set (0 + k * 4 + 3) (strV s) = ((acc.set k ⟨r.t, r.id, r.val, s⟩).map Yi).flatten ++ sp
 | [], k, r, h => by cases h
 | a :: t, 0, r, h => by cases h; rfl
 | a :: t, k + 1, r, h => by
  have ih := row_set (sp := sp) s t k r (by simpa using h)
  rw [show 0 + (k + 1) * 4 + 3 = (0 + k * 4 + 3) + 4 by omega]
  simp only [List.map_cons, List.flatten_cons, Yi, kA, List.set_cons_succ]
  rw [ih]
theorem row_setL {sp : List Value} (s : List UInt8) {acc : List Row} {k : Nat} {r : Row} (h : acc[k]? = some r) : SetL ((acc.map Yi).flatten ++ sp) (0 + k * 4 + 3) (strV s) (((acc.set k ⟨r.t, r.id, r.val, s⟩).map Yi).flatten ++ sp) := by
 have h1 := row_get (sp := sp) acc k r h
 have hlt : 0 + k * 4 + 3 < ((acc.map Yi).flatten ++ sp).length := by
  rcases Nat.lt_or_ge (0 + k * 4 + 3) ((acc.map Yi).flatten ++ sp).length with hh | hh
  ·exact hh
  ·rw [List.getElem?_eq_none hh] at h1; cases h1
 refine ⟨hlt, ?_⟩
 rw [← row_set s acc k r h, List.set_eq_take_append_cons_drop, if_pos hlt]
 simp [stc]
theorem set_step (RS : List Row) (k : Nat) (h : k < RS.length) : ((RS.take k).map shortR ++ RS.drop k).set k (shortR RS[k]) = (RS.take (k + 1)).map shortR ++ RS.drop (k + 1) := by
 rw [List.set_append_right _ _ (by simp; omega), List.drop_eq_getElem_cons h, List.take_succ_eq_append_getElem h]
 rw [show k - ((RS.take k).map shortR).length = 0 by simp; omega]
 simp only [List.set_cons_zero, List.map_append, List.map_cons, List.map_nil, List.append_assoc, kA]
theorem get_step (RS : List Row) (k : Nat) (h : k < RS.length) : ((RS.take k).map shortR ++ RS.drop k)[k]? = some RS[k] := by
 rw [List.getElem?_append_right (by simp; omega), List.drop_eq_getElem_cons h]
 simp [show k - min k RS.length = 0 by omega]
instance (priority := 1200) eqCkP {x y : CkP} : EqC Tryz.prog 8 149 (.agg ⟨YK x⟩) (.agg ⟨YK y⟩) (decide (x = y)) := by
 have h : EqC Tryz.prog 8 149 (.agg ⟨[.int .i64 x.page, .int .u64 x.since]⟩) (.agg ⟨[.int .i64 y.page, .int .u64 y.since]⟩) _ := inferInstance
 refine ⟨fun d w hd => ?_⟩
 rw [h.out d w hd]
 congr 1
 obtain ⟨t, i⟩ := x
 obtain ⟨t', i'⟩ := y
 simp only [CkP.mk.injEq, Bool.and_true, Bool.decide_and]
 have e : ((i : Int) == (i' : Int)) = decide (i = i') := by
  by_cases h : i = i'
  ·subst h; simp
  ·rw [decide_eq_false h]; simp only [beq_eq_false_iff_ne, ne_eq]; omega
 rw [e]
 by_cases h1 : t = t' <;> by_cases h2 : i = i' <;> simp [h1, h2]
end Go.Proofs.E
