/- Laws of RedoLast. Part 9 of 19. -/
import Derived.Test.YtpcfmhifkkpjpaaGreatB8
namespace Go.Proofs.E
open Go
set_option linter.unusedVariables false
set_option linter.unusedSimpArgs false
set_option linter.unusedSectionVars false
set_option maxRecDepth 4000
set_option maxHeartbeats 1000000
attribute [local irreducible] Yl TL TC TE Spec ZK R1 Hp.le EnvLe TS TR YS Zp
theorem images_spec (ρ : Hp) (s : SV) (l : List Im) (h : AS ρ 7 imV s l) (him : ∀ x ∈ l, Im.In ρ x) (before : Bool) :
  Spec Tryz.prog 281 [.slice s.a s.n s.c, .bool before] ρ [] (fun v ρ' L' => v = .bool (imsOk before l) ∧ ρ' = ρ ∧ L' = []) := by
 have hl := h.at'.len
 have hr := fun bx => risesIm_spec ρ s.a s.n s.c l h.at' h.big bx before him
 refine Za Tryz.func281 rfl rfl rfl fun u R => ?_
 simp only [Zg, kA]
 unfold imsOk
 by_cases h16 : s.n ≤ 16
 ·rw [decide_eq_true (show l.length ≤ 16 by omega), Bool.true_and]
  repeat' (first | (refine Zb (.func 327) ?_; refine qR rfl rfl (hr _) ?_; try simp only [kA]) | refine zW ?_ | intro _)
  exact qE (L' := []) ⟨rfl, rfl, rfl⟩
 ·rw [decide_eq_false (show ¬ l.length ≤ 16 by omega), Bool.false_and]
  repeat' (first | refine zW ?_ | intro _)
  exact qE (L' := []) ⟨rfl, rfl, rfl⟩
theorem rowV_only (r : Row) : decide (r = ⟨r.t, r.id, 0, []⟩) = decide (r.val = 0 ∧ r.note = []) := by
 obtain ⟨t, i, v, n⟩ := r
 simp
theorem step_spec (ρ : Hp) (s : Stp) : Spec Tryz.prog 284 [.agg ⟨stpV s⟩] ρ [] (fun v ρ' L' => v = .bool (YV s) ∧ ρ' = ρ ∧ L' = []) := by
 obtain ⟨kind, row, bb⟩ := s
 have hck := checkRow_spec ρ row
 have ho := rowV_only row
 unfold YV onlyOk
 dsimp only
 generalize hP : decide (row.val = 0 ∧ row.note = []) = P at *
 generalize hQ : Xq row = Q at *
 refine Za Tryz.func284 rfl rfl rfl fun u R => ?_
 simp only [Zg, kA]
 cases P <;> cases Q
 all_goals (repeat' (first | (refine iBu ?_; refine tl_y (v := .agg ⟨Yu ⟨row.t, row.id, 0, []⟩⟩) (Vj rfl rfl) rfl rfl ?_) | (refine iCm ?_; refine tl_y (y_eqc_l rfl rfl ho) rfl rfl ?_) | (refine Zb (.func 318) ?_; refine qR rfl rfl (hck) ?_; try simp only [kA]) | refine zW ?_ | (refine Wu ?_; refine ZT rfl rfl (fun hb => ?_) (fun hb => ?_) <;> (try simp only [decide_eq_true_eq, decide_eq_false_iff_not, Bool.not_eq_true, Bool.not_eq_false, beq_iff_eq, bne_iff_ne, ne_eq, decide_eq_decide, Bool.not_eq_eq_eq_not, Bool.not_true, Bool.not_false, beq_eq_false_iff_ne, bne_eq_false_iff_eq, Bool.and_eq_true, Bool.or_eq_true, Bool.and_eq_false_imp, Bool.or_eq_false_iff] at hb)) | (refine YB ?_; refine Yd rfl (fun hb => ?_) (fun hb => ?_) <;> (try simp only [decide_eq_true_eq, decide_eq_false_iff_not, Bool.not_eq_true, Bool.not_eq_false, beq_iff_eq, bne_iff_ne, ne_eq, decide_eq_decide, Bool.not_eq_eq_eq_not, Bool.not_true, Bool.not_false, beq_eq_false_iff_ne, bne_eq_false_iff_eq, Bool.and_eq_true, Bool.or_eq_true, Bool.and_eq_false_imp, Bool.or_eq_false_iff] at hb)) | intro _))
 all_goals (refine qF (L' := []) ?_; exact ⟨Xc (by clear ho hck; (repeat' split) <;> simp_all <;> omega), rfl, rfl⟩)
end Go.Proofs.E
namespace Go.Proofs.E
open Go
set_option linter.unusedVariables false
set_option linter.unusedSimpArgs false
set_option linter.unusedSectionVars false
set_option maxRecDepth 4000
set_option maxHeartbeats 1000000
attribute [local irreducible] Yl TL TC TE Spec ZK R1 Hp.le EnvLe TS TR YS Zp TP QP
def idxI {α : Type} (p : α → Bool) (l : List α) : Int := match l.findIdx? p with | some i => (i : Int) | none => -1
theorem idx_found {α : Type} {p : α → Bool} {l : List α} {k : Nat} (h : k < l.length) (hp : p l[k] = true) (hn : ∀ x ∈ l.take k, p x = false) : l.findIdx? p = some k := by
 rw [List.findIdx?_eq_some_iff_getElem]
 refine ⟨h, hp, fun j hj => ?_⟩
 have := hn l[j] (List.mem_take_iff_getElem.2 ⟨j, by omega, rfl⟩)
 simp [this]
theorem idx_none {α : Type} {p : α → Bool} {l : List α} (hn : ∀ x ∈ l, p x = false) : l.findIdx? p = none := by
 rw [List.findIdx?_eq_none_iff]
 exact hn
theorem take_more {α : Type} {p : α → Prop} {l : List α} {k : Nat} (h : k < l.length) (hp : p l[k]) (hn : ∀ x ∈ l.take k, p x) : ∀ x ∈ l.take (k + 1), p x := fun x hx => by
 rw [List.take_succ_eq_append_getElem h] at hx
 rcases List.mem_append.1 hx with hx | hx
 ·exact hn x hx
 ·rw [List.mem_singleton.1 hx]; exact hp
theorem done1_spec (ρ : Hp) (s : Stp) : Spec Tryz.prog 283 [.agg ⟨stpV s⟩] ρ [] (fun v ρ' L' => v = .bool (!YV s) ∧ ρ' = ρ ∧ L' = []) := by
 refine Za Tryz.func283 rfl rfl rfl fun u R => ?_
 simp only [Zg, kA]
 repeat' (first | (refine Zb (.func 284) ?_; refine qR rfl rfl (step_spec _ s) ?_; try simp only [kA]) | refine zW ?_ | intro _)
 exact qE ⟨rfl, rfl, rfl⟩
abbrev numC (nb : Nat) (n : Int) : SH := [[(nb, .cells ⟨[.int .i64 n]⟩ 3 (0, 0))]]
theorem redoes1_spec (ρ : Hp) (nb : Nat) (n : Int) (x : Im) : Spec Tryz.prog 146 [.agg ⟨imV x⟩, .pointer (some ⟨nb, 0, none⟩)] ρ (numC nb n) (fun v ρ' L' => v = .bool (decide (x.page = n)) ∧ ρ' = ρ ∧ L' = numC nb n) := by
 refine Za Tryz.func146 rfl rfl rfl fun u R => ?_
 simp only [Zg, kA]
 repeat' (first | refine zW ?_ | intro _)
 refine qF (L' := numC nb n) ?_
 exact ⟨Xc (by simp), rfl, rfl⟩
theorem idxStp_spec (ρ : Hp) (a : Option Addr) (n c : Nat) (l : List Stp) (h : AIn ρ 6 stpV a n l) (hn : n ≤ 1000000)  :
  Spec Tryz.prog 330 [.slice a n c, .func (.func 283) ⟨[]⟩ ⟨[]⟩] ρ [] (fun z ρ' L' => z = .int .i64 (idxI (fun s : Stp => !YV s) l) ∧ ρ' = ρ ∧ L' = []) := by
 have hl := h.len
 generalize hP : (fun s : Stp => !YV s) = pp
 refine Za Tryz.func330 rfl rfl rfl fun u R => ?_
 simp only [Zg, kA]
 repeat' (first | refine zW ?_ | intro _)
 refine Zl [(0, _), (1, _), (7, _)] (fun (ζ : (Nat)) => [(8, .int .i64 ζ), (4, .int .i64 0)]) (fun (ζ : (Nat)) => ρ) (fun (ζ : (Nat)) => []) (fun (ζ : (Nat)) => ζ ≤ n ∧ ∀ x ∈ l.take ζ, pp x = false) (fun (ζ : (Nat)) => n - ζ) (0) (⟨Nat.zero_le _, by simp⟩) Zc Zc rfl tk ?_
 rintro k hI
 try simp only [kA, List.append_assoc] at hI ⊢
 try dsimp only at hI ⊢
 obtain ⟨hk, hok⟩ := hI
 by_cases hlt : k < n
 ·obtain ⟨b, off, C, T, fr, rfl, hb, hfit, hc⟩ := h.get (show k < l.length by omega)
  have hf := fun (e : pp l[k] = true) => idx_found (p := pp) (show k < l.length by omega) e hok
  have ht := fun (e : pp l[k] = false) => take_more (p := fun x => pp x = false) (show k < l.length by omega) e hok
  have hp : pp l[k] = (fun s : Stp => !YV s) l[k] := by rw [hP]
  cases hx : pp l[k]
  ·have hok2 := ht hx
   rw [hx] at hp
   generalize l[k] = x at *
   repeat' (first | (refine Zb (.tmp 11) ?_; refine qR rfl rfl (done1_spec _ _) ?_; try simp only [kA, ← hp, Bool.not_true, Bool.not_false]) | refine zW ?_ | intro _)
   refine Zf (k + 1) (⟨hlt, hok2⟩) Zc Zc rfl tk inferInstance (by first | omega | (dsimp only; omega))
  ·have e := hf hx
   rw [hx] at hp
   have e2 : idxI pp l = (k : Int) := by unfold idxI; rw [e]
   rw [e2]
   generalize l[k] = x at *
   repeat' (first | (refine Zb (.tmp 11) ?_; refine qR rfl rfl (done1_spec _ _) ?_; try simp only [kA, ← hp, Bool.not_true, Bool.not_false]) | refine zW ?_ | intro _)
   exact qE (L' := []) ⟨rfl, rfl, rfl⟩
 ·have hk2 : k = l.length := by omega
  rw [hk2, List.take_length] at hok
  have e2 : idxI pp l = -1 := by unfold idxI; rw [idx_none hok]
  rw [e2]
  repeat' (first | refine zW ?_ | intro _)
  exact qE (L' := []) ⟨rfl, rfl, rfl⟩
theorem idxIm_spec (ρ : Hp) (a : Option Addr) (n c : Nat) (l : List Im) (h : AIn ρ 7 imV a n l) (hn : n ≤ 1000000) (nb : Nat) (num : Int) :
  Spec Tryz.prog 145 [.slice a n c, .func (.func 146) ⟨[]⟩ ⟨[.pointer (some ⟨nb, 0, none⟩)]⟩] ρ (numC nb num) (fun z ρ' L' => z = .int .i64 (idxI (fun x : Im => decide (x.page = num)) l) ∧ ρ' = ρ ∧ L' = (numC nb num)) := by
 have hl := h.len
 generalize hP : (fun x : Im => decide (x.page = num)) = pp
 refine Za Tryz.func145 rfl rfl rfl fun u R => ?_
 simp only [Zg, kA]
 repeat' (first | refine zW ?_ | intro _)
 refine Zl [(0, _), (1, _), (7, _)] (fun (ζ : (Nat)) => [(8, .int .i64 ζ), (4, .int .i64 0)]) (fun (ζ : (Nat)) => ρ) (fun (ζ : (Nat)) => (numC nb num)) (fun (ζ : (Nat)) => ζ ≤ n ∧ ∀ x ∈ l.take ζ, pp x = false) (fun (ζ : (Nat)) => n - ζ) (0) (⟨Nat.zero_le _, by simp⟩) Zc Zc rfl tk ?_
 rintro k hI
 try simp only [kA, List.append_assoc] at hI ⊢
 try dsimp only at hI ⊢
 obtain ⟨hk, hok⟩ := hI
 by_cases hlt : k < n
 ·obtain ⟨b, off, C, T, fr, rfl, hb, hfit, hc⟩ := h.get (show k < l.length by omega)
  have hf := fun (e : pp l[k] = true) => idx_found (p := pp) (show k < l.length by omega) e hok
  have ht := fun (e : pp l[k] = false) => take_more (p := fun x => pp x = false) (show k < l.length by omega) e hok
  have hp : pp l[k] = (fun x : Im => decide (x.page = num)) l[k] := by rw [hP]
  cases hx : pp l[k]
  ·have hok2 := ht hx
   rw [hx] at hp
   generalize l[k] = x at *
   repeat' (first | (refine Zb (.tmp 11) ?_; refine qR rfl rfl (redoes1_spec _ nb num _) ?_; try simp only [kA, ← hp, Bool.not_true, Bool.not_false]) | refine zW ?_ | intro _)
   refine Zf (k + 1) (⟨hlt, hok2⟩) Zc Zc rfl tk inferInstance (by first | omega | (dsimp only; omega))
  ·have e := hf hx
   rw [hx] at hp
   have e2 : idxI pp l = (k : Int) := by unfold idxI; rw [e]
   rw [e2]
   generalize l[k] = x at *
   repeat' (first | (refine Zb (.tmp 11) ?_; refine qR rfl rfl (redoes1_spec _ nb num _) ?_; try simp only [kA, ← hp, Bool.not_true, Bool.not_false]) | refine zW ?_ | intro _)
   exact qE (L' := (numC nb num)) ⟨rfl, rfl, rfl⟩
 ·have hk2 : k = l.length := by omega
  rw [hk2, List.take_length] at hok
  have e2 : idxI pp l = -1 := by unfold idxI; rw [idx_none hok]
  rw [e2]
  repeat' (first | refine zW ?_ | intro _)
  exact qE (L' := (numC nb num)) ⟨rfl, rfl, rfl⟩
theorem contains_spec (ρ : Hp) (a : Option Addr) (n c : Nat) (l : List Stp) (h : AIn ρ 6 stpV a n l) (hn : n ≤ 1000000) :
  Spec Tryz.prog 282 [.slice a n c, .func (.func 283) ⟨[]⟩ ⟨[]⟩] ρ [] (fun z ρ' L' => z = .bool (!(l.all YV)) ∧ ρ' = ρ ∧ L' = []) := by
 have hi := idxStp_spec ρ a n c l h hn
 have e : decide (0 ≤ idxI (fun s => !YV s) l) = !(l.all YV) := by
  unfold idxI
  cases hf : l.findIdx? (fun s => !YV s) with
  | none =>
   rw [List.findIdx?_eq_none_iff] at hf
   have : l.all YV = true := List.all_eq_true.2 (fun x hx => by have := hf x hx; simpa using this)
   rw [this]; rfl
  | some i =>
   obtain ⟨h1, h2, _⟩ := List.findIdx?_eq_some_iff_getElem.1 hf
   have : l.all YV = false := by
    rw [List.all_eq_false]
    exact ⟨_, List.getElem_mem h1, by simpa using h2⟩
   rw [this]; simp
 rw [← e]
 generalize idxI (fun s => !YV s) l = q at *
 refine Za Tryz.func282 rfl rfl rfl fun u R => ?_
 simp only [Zg, kA]
 repeat' (first | (refine Zb (.func 330) ?_; refine qR rfl rfl (hi) ?_; try simp only [kA]) | refine zW ?_ | intro _)
 refine qF (L' := []) ?_
 exact ⟨Xc (by simp), rfl, rfl⟩
abbrev nilS : SV := ⟨none, 0, 0⟩
theorem bare_spec (ρ : Hp) (v : RV) (r : Rc) (hi : v.i.n ≤ 1000000) (hs : v.s.n ≤ 1000000) (ht : v.t.n ≤ 1000000) (hd : v.d.n ≤ 1000000) : Spec Tryz.prog 215 [.agg ⟨Xw v r⟩] ρ []
  (fun z ρ' L' => z = .bool (decide (r.next = 0 ∧ v.i.n = 0 ∧ v.s.n = 0 ∧ v.t.n = 0 ∧ v.d.n = 0 ∧ r.nextTxn = 0)) ∧ ρ' = ρ ∧ L' = []) := by
 refine Za Tryz.func215 rfl rfl rfl fun u R => ?_
 simp only [Zg, kA]
 repeat' (first | refine zW ?_ | (refine Wu ?_; refine ZT rfl rfl (fun hb => ?_) (fun hb => ?_) <;> (try simp only [decide_eq_true_eq, decide_eq_false_iff_not, Bool.not_eq_true, Bool.not_eq_false, beq_iff_eq, bne_iff_ne, ne_eq, decide_eq_decide, Bool.not_eq_eq_eq_not, Bool.not_true, Bool.not_false, beq_eq_false_iff_ne, bne_eq_false_iff_eq, Bool.and_eq_true, Bool.or_eq_true, Bool.and_eq_false_imp, Bool.or_eq_false_iff] at hb)) | (refine YB ?_; refine Yd rfl (fun hb => ?_) (fun hb => ?_) <;> (try simp only [decide_eq_true_eq, decide_eq_false_iff_not, Bool.not_eq_true, Bool.not_eq_false, beq_iff_eq, bne_iff_ne, ne_eq, decide_eq_decide, Bool.not_eq_eq_eq_not, Bool.not_true, Bool.not_false, beq_eq_false_iff_ne, bne_eq_false_iff_eq, Bool.and_eq_true, Bool.or_eq_true, Bool.and_eq_false_imp, Bool.or_eq_false_iff] at hb)) | intro _)
 all_goals (refine qF (L' := []) ?_; exact ⟨Xc (by (try simp [*]); first | done | omega | (intros; omega) | (constructor <;> intros <;> (try simp_all) <;> omega)), rfl, rfl⟩)
theorem aplain_spec (ρ : Hp) (ab : Nat) (v : RV) (r : Rc) : Spec Tryz.prog 209 [.pointer (some ⟨ab, 0, none⟩)] ρ [XT ab v r] (fun z ρ' L' => z = .bool true ∧ ρ' = ρ ∧ L' = [XT ab v r]) := by
 refine Za Tryz.func209 rfl rfl rfl fun u R => ?_
 simp only [Zg, kA]
 repeat' (first | refine zW ?_ | intro _)
 exact qE (L' := [XT ab v r]) ⟨rfl, rfl, rfl⟩
theorem achange_spec (ρ : Hp) (ab : Nat) (v : RV) (r : Rc) (h : RcIn ρ v r) : Spec Tryz.prog 210 [.pointer (some ⟨ab, 0, none⟩)] ρ [XT ab v r]
  (fun z ρ' L' => z = .bool (decide (0 < r.ims.length) && imsOk true r.ims) ∧ ρ' = ρ ∧ L' = [XT ab { v with i := nilS } r]) := by
 have hl := h.i.at'.len
 have him := images_spec ρ v.i r.ims h.i h.im true
 refine Za Tryz.func210 rfl rfl rfl fun u R => ?_
 simp only [Zg, kA]
 by_cases h0 : 0 < v.i.n
 ·rw [decide_eq_true (show 0 < r.ims.length by omega), Bool.true_and]
  repeat' (first | (refine Zb (.func 281) ?_; refine qR rfl rfl (him) ?_; try simp only [kA]) | refine zW ?_ | intro _)
  exact qE (L' := [XT ab { v with i := nilS } r]) ⟨rfl, rfl, rfl⟩
 ·rw [decide_eq_false (show ¬ 0 < r.ims.length by omega), Bool.false_and]
  repeat' (first | refine zW ?_ | intro _)
  exact qE (L' := [XT ab { v with i := nilS } r]) ⟨rfl, rfl, rfl⟩
theorem anested_spec (ρ : Hp) (ab : Nat) (v : RV) (r : Rc) : Spec Tryz.prog 211 [.pointer (some ⟨ab, 0, none⟩)] ρ [XT ab v r]
  (fun z ρ' L' => z = .bool (decide (r.next < r.prev)) ∧ ρ' = ρ ∧ L' = [XT ab v { r with next := 0 }]) := by
 refine Za Tryz.func211 rfl rfl rfl fun u R => ?_
 simp only [Zg, kA]
 repeat' (first | refine zW ?_ | intro _)
 refine qF (L' := [XT ab v { r with next := 0 }]) ?_
 exact ⟨Xc (by simp), rfl, rfl⟩
theorem adone_spec (ρ : Hp) (ab : Nat) (v : RV) (r : Rc) (h : RcIn ρ v r) : Spec Tryz.prog 212 [.pointer (some ⟨ab, 0, none⟩)] ρ [XT ab v r]
  (fun z ρ' L' => z = .bool (decide (r.next < r.prev) && (decide (0 < r.steps.length ∧ r.steps.length ≤ 2) && r.steps.all YV)) ∧ ρ' = ρ ∧ L' = [XT ab { v with s := nilS } { r with next := 0 }]) := by
 have hl := h.s.at'.len
 have hco := contains_spec ρ v.s.a v.s.n v.s.c r.steps h.s.at' h.s.big
 have hne := anested_spec ρ ab { v with s := nilS } r
 rw [hl]
 generalize r.steps.all YV = q at *
 refine Za Tryz.func212 rfl rfl rfl fun u R => ?_
 simp only [Zg, kA]
 repeat' (first | (refine Zb (.func 211) ?_; refine qR rfl rfl (hne) ?_; try simp only [kA]) | (refine Zb (.func 282) ?_; refine qR rfl rfl (hco) ?_; try simp only [kA]) | refine zW ?_ | (refine Wu ?_; refine ZT rfl rfl (fun hb => ?_) (fun hb => ?_) <;> (try simp only [decide_eq_true_eq, decide_eq_false_iff_not, Bool.not_eq_true, Bool.not_eq_false, beq_iff_eq, bne_iff_ne, ne_eq, decide_eq_decide, Bool.not_eq_eq_eq_not, Bool.not_true, Bool.not_false, beq_eq_false_iff_ne, bne_eq_false_iff_eq, Bool.and_eq_true, Bool.or_eq_true, Bool.and_eq_false_imp, Bool.or_eq_false_iff] at hb)) | (refine YB ?_; refine Yd rfl (fun hb => ?_) (fun hb => ?_) <;> (try simp only [decide_eq_true_eq, decide_eq_false_iff_not, Bool.not_eq_true, Bool.not_eq_false, beq_iff_eq, bne_iff_ne, ne_eq, decide_eq_decide, Bool.not_eq_eq_eq_not, Bool.not_true, Bool.not_false, beq_eq_false_iff_ne, bne_eq_false_iff_eq, Bool.and_eq_true, Bool.or_eq_true, Bool.and_eq_false_imp, Bool.or_eq_false_iff] at hb)) | intro _)
 all_goals (refine qF (L' := [XT ab { v with s := nilS } { r with next := 0 }]) ?_; exact ⟨Xc (by (try simp [*]); first | done | omega | (intros; omega) | (constructor <;> intros <;> (try simp_all) <;> omega)), rfl, rfl⟩)
theorem aundone_spec (ρ : Hp) (ab : Nat) (v : RV) (r : Rc) (h : RcIn ρ v r) : Spec Tryz.prog 213 [.pointer (some ⟨ab, 0, none⟩)] ρ [XT ab v r]
  (fun z ρ' L' => z = .bool (decide (r.next < r.lsn) && imsOk false r.ims) ∧ ρ' = ρ ∧ L' = [XT ab { v with i := nilS } { r with next := 0 }]) := by
 have him := images_spec ρ v.i r.ims h.i h.im false
 generalize imsOk false r.ims = q at *
 refine Za Tryz.func213 rfl rfl rfl fun u R => ?_
 simp only [Zg, kA]
 repeat' (first | refine zW ?_ | intro _)
 refine tpZ [0] (.f [1,2,3,4,5,6,7,8,9,10,11] .o) ?_
 repeat' (refine iT ?_; first | refine rA ?_)
 all_goals (repeat' (first | (refine Zb (.func 281) ?_; refine qR rfl rfl (him) ?_; try simp only [kA]) | refine zW ?_ | (refine Wu ?_; refine ZT rfl rfl (fun hb => ?_) (fun hb => ?_) <;> (try simp only [decide_eq_true_eq, decide_eq_false_iff_not, Bool.not_eq_true, Bool.not_eq_false, beq_iff_eq, bne_iff_ne, ne_eq, decide_eq_decide, Bool.not_eq_eq_eq_not, Bool.not_true, Bool.not_false, beq_eq_false_iff_ne, bne_eq_false_iff_eq, Bool.and_eq_true, Bool.or_eq_true, Bool.and_eq_false_imp, Bool.or_eq_false_iff] at hb)) | (refine YB ?_; refine Yd rfl (fun hb => ?_) (fun hb => ?_) <;> (try simp only [decide_eq_true_eq, decide_eq_false_iff_not, Bool.not_eq_true, Bool.not_eq_false, beq_iff_eq, bne_iff_ne, ne_eq, decide_eq_decide, Bool.not_eq_eq_eq_not, Bool.not_true, Bool.not_false, beq_eq_false_iff_ne, bne_eq_false_iff_eq, Bool.and_eq_true, Bool.or_eq_true, Bool.and_eq_false_imp, Bool.or_eq_false_iff] at hb)) | intro _))
 all_goals (refine qF (L' := [XT ab { v with i := nilS } { r with next := 0 }]) ?_; exact ⟨Xc (by (try simp [*]); first | done | omega | (intros; omega) | (constructor <;> intros <;> (try simp_all) <;> omega)), rfl, rfl⟩)
theorem ackpt_spec (ρ : Hp) (ab : Nat) (v : RV) (r : Rc) (h : RcIn ρ v r) : Spec Tryz.prog 214 [.pointer (some ⟨ab, 0, none⟩)] ρ [XT ab v r]
  (fun z ρ' L' => z = .bool (decide (1 ≤ r.nextTxn ∧ r.nextTxn ≤ 1073741824 ∧ r.txns.length ≤ 8) && (upB (ckTOk r.lsn r.nextTxn) CkT.txn r.txns r.txns.length && upB (WW r.lsn) CkP.page r.dirty r.dirty.length)) ∧ ρ' = ρ ∧
   L' = [XT ab { v with t := nilS, d := nilS } { r with nextTxn := 0 }]) := by
 have hl := h.t.at'.len
 have ht := fun nb pb => risesCkT_spec ρ v.t.a v.t.n v.t.c r.txns h.t.at' h.t.big nb pb ab r.nextTxn { v with t := nilS, d := nilS } { r with nextTxn := 0 }
 have hd := fun pb => risesCkP_spec ρ v.d.a v.d.n v.d.c r.dirty h.d.at' h.d.big pb ab { v with t := nilS, d := nilS } { r with nextTxn := 0 }
 dsimp only at ht hd
 generalize upB (ckTOk r.lsn r.nextTxn) CkT.txn r.txns r.txns.length = q1 at *
 generalize upB (WW r.lsn) CkP.page r.dirty r.dirty.length = q2 at *
 rw [hl]
 refine Za Tryz.func214 rfl rfl rfl fun u R => ?_
 simp only [Zg, kA]
 repeat' (first | refine zW ?_ | intro _)
 rename_i pb
 refine tpA [0,1,2,3,4,5,6,7,8,9,10,11,12,13,14] (.e 15 [16,17] (.e 18 [] .o)) ([ptrC pb ab, XT ab v r]) ?_
 repeat' (refine iT ?_; first | refine rA ?_ | ((refine iE ?_; refine rE ?_) <;> ((try refine Zn ?_); (first | (refine Yj ?_; try intro _)) <;> ((try simp only [kA]); refine Zi ?_; refine rN ?_))))
 all_goals (repeat' (first | refine zW ?_ | intro _))
 refine tpA [0,1,2,3,4,5] (.e 6 [7,8,9] (.e 10 [11,12,13] (.e 14 [] .o))) ([ptrC pb ab]) ?_
 repeat' (refine iT ?_; first | refine rA ?_ | ((refine iE ?_; refine rE ?_) <;> ((try refine Zn ?_); (first | (refine Yj ?_; try intro _)) <;> ((try simp only [kA]); refine Zi ?_; refine rN ?_))))
 all_goals (repeat' (first | (refine Zb (.func 285) ?_; refine qR rfl rfl (ht _ _) ?_; try simp only [kA]) | (refine Zb (.func 288) ?_; refine qR rfl rfl (hd _) ?_; try simp only [kA]) | refine zW ?_ | (refine Wu ?_; refine ZT rfl rfl (fun hb => ?_) (fun hb => ?_) <;> (try simp only [decide_eq_true_eq, decide_eq_false_iff_not, Bool.not_eq_true, Bool.not_eq_false, beq_iff_eq, bne_iff_ne, ne_eq, decide_eq_decide, Bool.not_eq_eq_eq_not, Bool.not_true, Bool.not_false, beq_eq_false_iff_ne, bne_eq_false_iff_eq, Bool.and_eq_true, Bool.or_eq_true, Bool.and_eq_false_imp, Bool.or_eq_false_iff] at hb)) | (refine YB ?_; refine Yd rfl (fun hb => ?_) (fun hb => ?_) <;> (try simp only [decide_eq_true_eq, decide_eq_false_iff_not, Bool.not_eq_true, Bool.not_eq_false, beq_iff_eq, bne_iff_ne, ne_eq, decide_eq_decide, Bool.not_eq_eq_eq_not, Bool.not_true, Bool.not_false, beq_eq_false_iff_ne, bne_eq_false_iff_eq, Bool.and_eq_true, Bool.or_eq_true, Bool.and_eq_false_imp, Bool.or_eq_false_iff] at hb)) | intro _))
 all_goals (refine qF (L' := [XT ab { v with t := nilS, d := nilS } { r with nextTxn := 0 }]) ?_; exact ⟨Xc (by (try simp [*]); first | done | omega | (intros; omega) | (constructor <;> intros <;> (try simp_all) <;> omega)), rfl, rfl⟩)
end Go.Proofs.E
namespace Go.Proofs.E
open Go
set_option linter.unusedVariables false
set_option linter.unusedSimpArgs false
set_option linter.unusedSectionVars false
set_option maxRecDepth 4000
set_option maxHeartbeats 1000000
attribute [local irreducible] Yl TL TC TE Spec ZK R1 Hp.le EnvLe TS TR YS Zp
structure BareR (v' : RV) (r' r : Rc) : Prop where
 i : v'.i.n ≤ 1000000
 s : v'.s.n ≤ 1000000
 t : v'.t.n ≤ 1000000
 d : v'.d.n ≤ 1000000
 eq : decide (r'.next = 0 ∧ v'.i.n = 0 ∧ v'.s.n = 0 ∧ v'.t.n = 0 ∧ v'.d.n = 0 ∧ r'.nextTxn = 0) = bareOk r
def askF (k : Int) : Nat := if k = 2 then 210 else if k = 3 then 211 else if k = 4 then 212 else if k = 5 then 213 else if k = 9 then 214 else 209
theorem ask_spec (ρ : Hp) (ab : Nat) (v : RV) (r : Rc) (h : RcIn ρ v r) (hk : 1 ≤ r.kind ∧ r.kind ≤ 9) : ZJ Tryz.prog (askF r.kind) ∧ Spec Tryz.prog (askF r.kind) [.pointer (some ⟨ab, 0, none⟩)] ρ [XT ab v r]
  (fun z ρ' L' => z = .bool (askOk r) ∧ ρ' = ρ ∧ ∃ v' r', BareR v' r' r ∧ L' = [XT ab v' r']) := by
 have li := h.i.at'.len
 have ls := h.s.at'.len
 have lt := h.t.at'.len
 have ld := h.d.at'.len
 have bi := h.i.big
 have bs := h.s.big
 have bt := h.t.big
 have bd := h.d.big
 have z0 : nilS.n = 0 := rfl
 have ei : r.ims = [] ↔ v.i.n = 0 := by rw [← li]; exact List.length_eq_zero_iff.symm
 have es : r.steps = [] ↔ v.s.n = 0 := by rw [← ls]; exact List.length_eq_zero_iff.symm
 have et : r.txns = [] ↔ v.t.n = 0 := by rw [← lt]; exact List.length_eq_zero_iff.symm
 have ed : r.dirty = [] ↔ v.d.n = 0 := by rw [← ld]; exact List.length_eq_zero_iff.symm
 unfold askF askOk
 have hb : ∀ (v' : RV) (r' : Rc), (v'.i.n ≤ 1000000 ∧ v'.s.n ≤ 1000000 ∧ v'.t.n ≤ 1000000 ∧ v'.d.n ≤ 1000000) → ((r'.next = 0 ∧ v'.i.n = 0 ∧ v'.s.n = 0 ∧ v'.t.n = 0 ∧ v'.d.n = 0 ∧ r'.nextTxn = 0) ↔
   ((r.next = 0 ∨ r.kind = 3 ∨ r.kind = 4 ∨ r.kind = 5) ∧ (v.i.n = 0 ∨ r.kind = 2 ∨ r.kind = 5) ∧ (v.s.n = 0 ∨ r.kind = 4) ∧ ((v.t.n = 0 ∧ v.d.n = 0 ∧ r.nextTxn = 0) ∨ r.kind = 9))) → BareR v' r' r := fun v' r' h1 h2 =>
  ⟨h1.1, h1.2.1, h1.2.2.1, h1.2.2.2, by unfold bareOk; apply decide_eq_decide.2; rw [ei, es, et, ed]; exact h2⟩
 by_cases k2 : r.kind = 2
 ·rw [if_pos k2, if_pos k2]
  refine ⟨inferInstance, (achange_spec ρ ab v r h).mono ?_⟩
  rintro z ρ' L' _ ⟨rfl, rfl, rfl⟩
  exact ⟨rfl, rfl, _, _, hb { v with i := nilS } r (by dsimp only; omega) (by dsimp only; omega), rfl⟩
 ·rw [if_neg k2, if_neg k2]
  by_cases k3 : r.kind = 3
  ·rw [if_pos k3, if_pos k3]
   refine ⟨inferInstance, (anested_spec ρ ab v r).mono ?_⟩
   rintro z ρ' L' _ ⟨rfl, rfl, rfl⟩
   exact ⟨rfl, rfl, _, _, hb v { r with next := 0 } (by omega) (by dsimp only; omega), rfl⟩
  ·rw [if_neg k3, if_neg k3]
   by_cases k4 : r.kind = 4
   ·rw [if_pos k4, if_pos k4]
    refine ⟨inferInstance, (adone_spec ρ ab v r h).mono ?_⟩
    rintro z ρ' L' _ ⟨rfl, rfl, rfl⟩
    exact ⟨rfl, rfl, _, _, hb { v with s := nilS } { r with next := 0 } (by dsimp only; omega) (by dsimp only; omega), rfl⟩
   ·rw [if_neg k4, if_neg k4]
    by_cases k5 : r.kind = 5
    ·rw [if_pos k5, if_pos k5]
     refine ⟨inferInstance, (aundone_spec ρ ab v r h).mono ?_⟩
     rintro z ρ' L' _ ⟨rfl, rfl, rfl⟩
     exact ⟨rfl, rfl, _, _, hb { v with i := nilS } { r with next := 0 } (by dsimp only; omega) (by dsimp only; omega), rfl⟩
    ·rw [if_neg k5, if_neg k5]
     by_cases k9 : r.kind = 9
     ·rw [if_pos k9, if_pos k9]
      refine ⟨inferInstance, (ackpt_spec ρ ab v r h).mono ?_⟩
      rintro z ρ' L' _ ⟨rfl, rfl, rfl⟩
      exact ⟨rfl, rfl, _, _, hb { v with t := nilS, d := nilS } { r with nextTxn := 0 } (by dsimp only; omega) (by dsimp only; omega), rfl⟩
     ·rw [if_neg k9, if_neg k9]
      refine ⟨inferInstance, (aplain_spec ρ ab v r).mono ?_⟩
      rintro z ρ' L' _ ⟨rfl, rfl, rfl⟩
      exact ⟨rfl, rfl, _, _, hb v r (by omega) (by omega), rfl⟩
theorem askF_chain {f : Nat → Option Value} {k : Int} (hk : 1 ≤ k ∧ k ≤ 9) : (if k = 9 then f 214 else if k = 8 then f 209 else if k = 7 then f 209 else if k = 6 then f 209 else if k = 5 then f 213 else
  if k = 4 then f 212 else if k = 3 then f 211 else if k = 2 then f 210 else if k = 1 then f 209 else none) = f (askF k) := by
 unfold askF
 rcases (show k = 1 ∨ k = 2 ∨ k = 3 ∨ k = 4 ∨ k = 5 ∨ k = 6 ∨ k = 7 ∨ k = 8 ∨ k = 9 by omega) with e | e | e | e | e | e | e | e | e <;> subst e <;> rfl
theorem rcheck_spec (ρ : Hp) (v : RV) (r : Rc) (h : RcIn ρ v r) : Spec Tryz.prog 139 [.agg ⟨Xw v r⟩] ρ [] (fun z ρ' L' => z = .int .i64 (if ZP r then 0 else 220) ∧ ρ' = ρ ∧ L' = []) := by
 have hnil : Yq .i64 [] := by intro e he; simp at he
 have hg0 : ∀ k : Int, YC [] k = none := fun _ => rfl
 refine Za Tryz.func139 rfl rfl rfl fun u R => ?_
 simp only [Zg, kA]
 repeat' (first | (refine Yp rfl rfl rfl hnil (fun es1 ck1 i1 j1 => ?_)) | (refine Yp rfl rfl rfl i1 (fun es2 ck2 i2 j2 => ?_)) | (refine Yp rfl rfl rfl i2 (fun es3 ck3 i3 j3 => ?_)) | (refine Yp rfl rfl rfl i3 (fun es4 ck4 i4 j4 => ?_)) | (refine Yp rfl rfl rfl i4 (fun es5 ck5 i5 j5 => ?_)) | (refine Yp rfl rfl rfl i5 (fun es6 ck6 i6 j6 => ?_)) | (refine Yp rfl rfl rfl i6 (fun es7 ck7 i7 j7 => ?_)) | (refine Yp rfl rfl rfl i7 (fun es8 ck8 i8 j8 => ?_)) | refine zV ?_ | intro _)
 rename_i rb ab mb
 refine Yp rfl rfl rfl i8 (fun es9 ck9 i9 j9 => ?_)
 have hg := j9 r.kind
 rw [j8, j7, j6, j5, j4, j3, j2, j1, hg0] at hg
 clear j1 j2 j3 j4 j5 j6 j7 j8 j9 i1 i2 i3 i4 i5 i6 i7 i8
 by_cases hk : 1 ≤ r.kind ∧ r.kind ≤ 9
 ·obtain ⟨hF, hS⟩ := ask_spec ρ ab v r h hk
  have hgF : YC es9 r.kind = some (Value.func (.func (askF r.kind)) ⟨[.pointer (some ⟨ab, 0, none⟩)]⟩ ⟨[]⟩) := by
   rw [hg]
   exact askF_chain (f := fun F => some (Value.func (.func F) ⟨[.pointer (some ⟨ab, 0, none⟩)]⟩ ⟨[]⟩)) hk
  clear hg
  generalize askF r.kind = F at *
  repeat' (first | (refine Zb (.tmp 90) ?_; refine qC rfl rfl (hS) ?_; rintro v ρ' L' hle ⟨rfl, rfl, v', r', hB, rfl⟩ <;> (try simp only [kA])) | (refine Zb (.func 215) ?_; refine qR rfl rfl (bare_spec _ v' r' hB.i hB.s hB.t hB.d) ?_; try simp only [kA, hB.eq]) | refine zV ?_ | (refine Wu ?_; refine ZT rfl rfl (fun hb => ?_) (fun hb => ?_) <;> (try simp only [decide_eq_true_eq, decide_eq_false_iff_not, Bool.not_eq_true, Bool.not_eq_false, beq_iff_eq, bne_iff_ne, ne_eq, decide_eq_decide, Bool.not_eq_eq_eq_not, Bool.not_true, Bool.not_false, beq_eq_false_iff_ne, bne_eq_false_iff_eq, Bool.and_eq_true, Bool.or_eq_true, Bool.and_eq_false_imp, Bool.or_eq_false_iff, bq2, bqt, bqf] at hb)) | (refine YB ?_; refine Yd rfl (fun hb => ?_) (fun hb => ?_) <;> (try simp only [decide_eq_true_eq, decide_eq_false_iff_not, Bool.not_eq_true, Bool.not_eq_false, beq_iff_eq, bne_iff_ne, ne_eq, decide_eq_decide, Bool.not_eq_eq_eq_not, Bool.not_true, Bool.not_false, beq_eq_false_iff_ne, bne_eq_false_iff_eq, Bool.and_eq_true, Bool.or_eq_true, Bool.and_eq_false_imp, Bool.or_eq_false_iff, bq2, bqt, bqf] at hb)) | intro _)
  all_goals (refine qF (L' := []) ?_; refine ⟨?_, rfl, rfl⟩)
  all_goals first | (have hh : headOk r = false := decide_eq_false (by omega); simp only [ZP, hh, Bool.false_and, Bool.and_false, Bool.false_eq_true, if_false]) | (have hh : headOk r = true := decide_eq_true (by omega); have h9 : decide (1 ≤ r.kind ∧ r.kind ≤ 9) = true := decide_eq_true hk; simp [ZP, hh, h9, *])
 ·have hgN : YC es9 r.kind = none := by
   rw [hg]
   simp only [show ¬ r.kind = 9 by omega, show ¬ r.kind = 8 by omega, show ¬ r.kind = 7 by omega, show ¬ r.kind = 6 by omega, show ¬ r.kind = 5 by omega, show ¬ r.kind = 4 by omega, show ¬ r.kind = 3 by omega, show ¬ r.kind = 2 by omega, show ¬ r.kind = 1 by omega, if_false]
  clear hg
  have e0 : ZP r = false := by simp [ZP, hk]
  rw [e0]
  repeat' (first | refine zV ?_ | (refine Wu ?_; refine ZT rfl rfl (fun hb => ?_) (fun hb => ?_) <;> (try simp only [decide_eq_true_eq, decide_eq_false_iff_not, Bool.not_eq_true, Bool.not_eq_false, beq_iff_eq, bne_iff_ne, ne_eq, decide_eq_decide, Bool.not_eq_eq_eq_not, Bool.not_true, Bool.not_false, beq_eq_false_iff_ne, bne_eq_false_iff_eq, Bool.and_eq_true, Bool.or_eq_true, Bool.and_eq_false_imp, Bool.or_eq_false_iff, bq2, bqt, bqf] at hb)) | (refine YB ?_; refine Yd rfl (fun hb => ?_) (fun hb => ?_) <;> (try simp only [decide_eq_true_eq, decide_eq_false_iff_not, Bool.not_eq_true, Bool.not_eq_false, beq_iff_eq, bne_iff_ne, ne_eq, decide_eq_decide, Bool.not_eq_eq_eq_not, Bool.not_true, Bool.not_false, beq_eq_false_iff_ne, bne_eq_false_iff_eq, Bool.and_eq_true, Bool.or_eq_true, Bool.and_eq_false_imp, Bool.or_eq_false_iff, bq2, bqt, bqf] at hb)) | intro _)
  all_goals (refine qF (L' := []) ?_; exact ⟨rfl, rfl, rfl⟩)
def layF (k : Int) : Nat := if k = 2 then 264 else if k = 3 then 265 else if k = 4 then 266 else if k = 5 then 267 else 268
theorem lay_spec (wb : Nat) (v : RV) (r : Rc) (hL : LayOk r) (hk : r.kind = 2 ∨ r.kind = 3 ∨ r.kind = 4 ∨ r.kind = 5 ∨ r.kind = 9) : ZJ Tryz.prog (layF r.kind) ∧ ∀ (ρ : Hp) (w : Value) (l : List UInt8) (sp : List Value), OwnB w l sp → l.length ≤ 60000 → RcIn ρ v r →
  Spec Tryz.prog (layF r.kind) [.pointer (some ⟨wb, 0, none⟩)] ρ [Wf w l sp, wrC wb v r w] (WrP ρ wb v r (l ++ recTB r)) := by
 unfold layF recTB
 rcases hk with e | e | e | e | e
 ·rw [if_pos e, if_pos e]
  exact ⟨inferInstance, fun ρ w l sp hown hn h => wimages_spec ρ wb v r w l sp hown (by omega) h hL⟩
 ·rw [if_neg (by omega), if_pos e, if_neg (by omega), if_pos e]
  exact ⟨inferInstance, fun ρ w l sp hown hn h => wnested_spec ρ wb v r w l sp hown (by omega) hL.next⟩
 ·rw [if_neg (by omega), if_neg (by omega), if_pos e, if_neg (by omega), if_neg (by omega), if_pos e]
  exact ⟨inferInstance, fun ρ w l sp hown hn h => wdone_spec ρ wb v r w l sp hown (by omega) h hL⟩
 ·rw [if_neg (by omega), if_neg (by omega), if_neg (by omega), if_pos e, if_neg (by omega), if_neg (by omega), if_neg (by omega), if_pos e]
  exact ⟨inferInstance, fun ρ w l sp hown hn h => wundone_spec ρ wb v r w l sp hown (by omega) h hL⟩
 ·rw [if_neg (by omega), if_neg (by omega), if_neg (by omega), if_neg (by omega), if_neg (by omega), if_neg (by omega), if_neg (by omega), if_neg (by omega), if_pos e]
  exact ⟨inferInstance, fun ρ w l sp hown hn h => wckpt_spec ρ wb v r w l sp hown (by omega) h hL⟩
theorem layF_chain {f : Nat → Option Value} {k : Int} (hk : k = 2 ∨ k = 3 ∨ k = 4 ∨ k = 5 ∨ k = 9) : (if k = 9 then f 268 else if k = 5 then f 267 else if k = 4 then f 266 else if k = 3 then f 265 else if k = 2 then f 264 else none) = f (layF k) := by
 unfold layF
 rcases hk with e | e | e | e | e <;> subst e <;> rfl
theorem recTB_none {r : Rc} (hk : ¬ (r.kind = 2 ∨ r.kind = 3 ∨ r.kind = 4 ∨ r.kind = 5 ∨ r.kind = 9)) : recTB r = [] := by
 unfold recTB
 rw [if_neg (by omega), if_neg (by omega), if_neg (by omega), if_neg (by omega), if_neg (by omega)]
theorem rlaid_spec (ρ : Hp) (v : RV) (r : Rc) (h : RcIn ρ v r) (hL : LayOk r) : Spec Tryz.prog 190 [.agg ⟨Xw v r⟩] ρ []
  (fun z ρ' L' => ρ.le ρ' ∧ ∃ a c, z = .slice a (WB r).length c ∧ (WB r).length ≤ c ∧ SIn ρ' Zr a (WB r).length (WB r) ∧ L' = []) := by
 have hρ := Hp.le_refl ρ
 have hnil : Yq .i64 [] := by intro e he; simp at he
 have hg0 : ∀ k : Int, YC [] k = none := fun _ => rfl
 have k1 := hL.kind
 have k2 := hL.lsn
 have k3 := hL.txn
 have k4 := hL.prev
 refine Za Tryz.func190 rfl rfl rfl fun u R => ?_
 simp only [Zg, kA]
 repeat' (first | (refine Zs rfl rfl rfl rfl (by simp) rfl rfl (fun bs => ?_); refine ZA _ (h := Rem.here) (fun ρz hlz hfz => ?_); have hbs := hfz _ (List.mem_singleton.2 rfl); clear hfz; have hρ := Hp.le_trans hρ hlz; clear hlz; (try simp only [List.nil_append])) | (rename_i rb wb; refine Zb (.func 261) ?_; refine tl_call rfl rfl (YX _ _ v r (.slice none 0 0) [] [] (OwnS.nil 1) (by decide) _ r.kind hbs k1) (take_cons' rem_nil' (take_cons' Zz take_nil')) rfl ?_; rintro z1 ρ1 L1 hle0 ⟨rfl, hl1, w1, sp1, hown, rfl⟩; simp only [kA] at hown ⊢; have hρ := Hp.le_trans hρ hl1; clear hl1) | (refine Zb (.func 262) ?_; refine qC rfl rfl ((wlong_spec _ _ v r w1 _ sp1 hown (by (try simp only [List.length_append, List.length_cons, List.length_nil, List.length_map, Zj]) <;> omega) _ r.lsn hbs k2)) ?_; rintro v ρ' L' hle ⟨rfl, hl1, w2, sp2, hown, rfl⟩ <;> (try simp only [kA]); have hρ := Hp.le_trans hρ hl1; clear hl1) | (refine Zb (.func 263) ?_; refine qC rfl rfl ((wtxn_spec _ _ v r w2 _ sp2 hown (by (try simp only [List.length_append, List.length_cons, List.length_nil, List.length_map, Zj]) <;> omega) r.txn k3)) ?_; rintro v ρ' L' hle ⟨rfl, hl1, w3, sp3, hown, rfl⟩ <;> (try simp only [kA]); have hρ := Hp.le_trans hρ hl1; clear hl1) | (refine Zb (.func 262) ?_; refine qC rfl rfl ((wlong_spec _ _ v r w3 _ sp3 hown (by (try simp only [List.length_append, List.length_cons, List.length_nil, List.length_map, Zj]) <;> omega) _ r.prev hbs k4)) ?_; rintro v ρ' L' hle ⟨rfl, hl1, w4, sp4, hown, rfl⟩ <;> (try simp only [kA]); have hρ := Hp.le_trans hρ hl1; clear hl1) | (refine Yp rfl rfl rfl hnil (fun es1 ck1 i1 j1 => ?_)) | (refine Yp rfl rfl rfl i1 (fun es2 ck2 i2 j2 => ?_)) | (refine Yp rfl rfl rfl i2 (fun es3 ck3 i3 j3 => ?_)) | (refine Yp rfl rfl rfl i3 (fun es4 ck4 i4 j4 => ?_)) | refine zV ?_ | intro _)
 rename_i mb
 refine Yp rfl rfl rfl i4 (fun es5 ck5 i5 j5 => ?_)
 have hg := j5 r.kind
 rw [j4, j3, j2, j1, hg0] at hg
 clear j1 j2 j3 j4 j5 i1 i2 i3 i4
 have hH : tB r.kind :: (be 8 r.lsn ++ be 4 r.txn.toNat ++ be 8 r.prev) = recHB r := by simp [recHB]
 have hHl : (recHB r).length ≤ 100 := by simp [recHB, Zj]
 simp only [kA, hH] at hown ⊢
 by_cases hk : r.kind = 2 ∨ r.kind = 3 ∨ r.kind = 4 ∨ r.kind = 5 ∨ r.kind = 9
 ·obtain ⟨hF, hS⟩ := lay_spec wb v r hL hk
  have hS := fun ρ (hle : Hp.le _ ρ) => hS ρ w4 _ sp4 hown (by omega) (h.mono hle)
  have hgF : YC es5 r.kind = some (Value.func (.func (layF r.kind)) ⟨[.pointer (some ⟨wb, 0, none⟩)]⟩ ⟨[]⟩) := by
   rw [hg]
   exact layF_chain (f := fun F => some (Value.func (.func F) ⟨[.pointer (some ⟨wb, 0, none⟩)]⟩ ⟨[]⟩)) hk
  clear hg
  generalize layF r.kind = F at *
  repeat' (first | (refine Zb (.tmp 46) ?_; refine qC rfl rfl (hS _ hρ) ?_; rintro v ρ' L' hle ⟨rfl, hl1, w5, sp5, hown, rfl⟩ <;> (try simp only [kA]); have hρ := Hp.le_trans hρ hl1; clear hl1) | refine zV ?_ | intro _)
  have hB : recHB r ++ recTB r = WB r := rfl
  rw [hB] at hown ⊢
  obtain ⟨va, vc, rfl, _⟩ := hown.slice
  repeat' (first | refine zV ?_ | intro _)
  refine YG (Wf (.slice va (WB r).length vc) (WB r) sp5) (h := by repeat (first | exact Zz | apply ZE)) (fun ρ6 hle6 hfz => ?_)
  obtain ⟨a6, c6, e6, hc6, hs6⟩ := hown.sIn hfz
  cases e6
  exact qE ⟨Hp.le_trans hρ hle6, va, vc, rfl, hc6, hs6, rfl⟩
 ·have hgN : YC es5 r.kind = none := by
   rw [hg]
   simp only [show ¬ r.kind = 9 by omega, show ¬ r.kind = 5 by omega, show ¬ r.kind = 4 by omega, show ¬ r.kind = 3 by omega, show ¬ r.kind = 2 by omega, if_false]
  clear hg
  have hB : recHB r = WB r := by unfold WB; rw [recTB_none hk, List.append_nil]
  rw [hB] at hown ⊢
  obtain ⟨va, vc, rfl, _⟩ := hown.slice
  repeat' (first | refine zV ?_ | intro _)
  refine YG (Wf (.slice va (WB r).length vc) (WB r) sp4) (h := by repeat (first | exact Zz | apply ZE)) (fun ρ6 hle6 hfz => ?_)
  obtain ⟨a6, c6, e6, hc6, hs6⟩ := hown.sIn hfz
  cases e6
  exact qE ⟨Hp.le_trans hρ hle6, va, vc, rfl, hc6, hs6, rfl⟩
theorem Wm {k : Nat} {x rest : List UInt8} (h : x.length = k) : Yr k (x ++ rest) 0 = (Ye x, rest, 0) := by
 unfold Yr
 rw [if_neg (by simp), if_neg (by simp; omega), List.take_left' h, List.drop_left' h]
theorem unbe_one (b : UInt8) : Ye [b] = b.toNat := by simp [Ye]
theorem tB_toNat {t : Int} (h0 : 0 ≤ t) (h1 : t < 256) : ((tB t).toNat : Int) = t := by
 obtain ⟨n, rfl⟩ : ∃ n : Nat, t = n := ⟨t.toNat, by omega⟩
 simp only [tB, Int.toNat_natCast, UInt8.toNat_ofNat']
 have e : (2 : Nat) ^ 8 = 256 := by decide
 rw [e]; omega
theorem rowR_back {r : Row} (hr : Xq r = true) (hf : WU r) (rest : List UInt8) : WD (Yc r ++ rest) 0 false = (r, rest, 0, false) := by
 obtain ⟨h0, h3, h8⟩ := rowOk_iff hr
 obtain ⟨hid, hval⟩ := hf
 obtain ⟨t, id, val, note⟩ := r
 dsimp only at h0 h3 h8 hid hval
 have e0 : Yc ⟨t, id, val, note⟩ ++ rest = [tB t] ++ (be 2 id ++ (be 8 (vN val) ++ ([UInt8.ofNat note.length] ++ (note ++ rest)))) := by simp [Yc, keyB]
 have e1 : Yr 1 (Yc ⟨t, id, val, note⟩ ++ rest) 0 = ((tB t).toNat, be 2 id ++ (be 8 (vN val) ++ ([UInt8.ofNat note.length] ++ (note ++ rest))), 0) := by rw [e0, Wm (k := 1) (x := [tB t]) rfl, unbe_one]
 have e2 := Wm (k := 2) (x := be 2 id) (rest := be 8 (vN val) ++ ([UInt8.ofNat note.length] ++ (note ++ rest))) (Zj _ _)
 have e3 := Wm (k := 8) (x := be 8 (vN val)) (rest := [UInt8.ofNat note.length] ++ (note ++ rest)) (Zj _ _)
 have e4 := Wm (k := 1) (x := [UInt8.ofNat note.length]) (rest := note ++ rest) rfl
 rw [Wx, Nat.mod_eq_of_lt (by omega)] at e2
 rw [Wx, Nat.mod_eq_of_lt (by have := vN_lt val; omega)] at e3
 have hlen : (UInt8.ofNat note.length).toNat = note.length := by
  rw [UInt8.toNat_ofNat']
  have e : (2 : Nat) ^ 8 = 256 := by decide
  rw [e]; omega
 rw [unbe_one, hlen] at e4
 have e5 : rawR note.length (note ++ rest) 0 = (note, rest, 0) := by
  unfold rawR
  rw [if_neg (by simp), if_neg (by simp), List.take_left' rfl, List.drop_left' rfl]
 have ht := tB_toNat h0 (by omega : t < 256)
 unfold WD
 simp only [e1, e2, e3, e4, e5]
 have hb1 : XF false 0 (decide (((tB t).toNat : Int) < 3)) = false := by rw [ht, decide_eq_true h3]; rfl
 have hb2 : XF false 0 (decide ((note.length : Int) ≤ 8)) = false := by rw [decide_eq_true (by omega)]; rfl
 simp only [hb1, hb2, Bool.not_false, decide_true, Bool.and_self, if_true]
 rw [ht, i64N_vN hval]
theorem kidRB_back {k : Kid} (hid : k.id < 65536) (ht : 0 ≤ k.t ∧ k.t < 3) (hp : 0 < k.page ∧ k.page < 64) (rest : List UInt8) : XP (XE k ++ rest) 0 false = (k, rest, 0, false) := by
 obtain ⟨t, id, page⟩ := k
 dsimp only at hid ht hp
 have e0 : XE ⟨t, id, page⟩ ++ rest = [tB t] ++ (be 2 id ++ ([tB page] ++ rest)) := by simp [XE, keyB]
 have e1 : Yr 1 (XE ⟨t, id, page⟩ ++ rest) 0 = ((tB t).toNat, be 2 id ++ ([tB page] ++ rest), 0) := by rw [e0, Wm (k := 1) (x := [tB t]) rfl, unbe_one]
 have e2 := Wm (k := 2) (x := be 2 id) (rest := [tB page] ++ rest) (Zj _ _)
 have e3 := Wm (k := 1) (x := [tB page]) (rest := rest) rfl
 rw [Wx, Nat.mod_eq_of_lt (by omega)] at e2
 rw [unbe_one] at e3
 unfold XP kidR
 simp only [e1, e2, e3, tB_toNat ht.1 (by omega : t < 256), tB_toNat (by omega : 0 ≤ page) (by omega : page < 256)]
theorem manyTo_back {α : Type} {f : List UInt8 → Int → Bool → α × RS3} {enc : α → List UInt8} : ∀ (xs : List α), (∀ x ∈ xs, ∀ rest, f (enc x ++ rest) 0 false = (x, rest, 0, false)) → ∀ rest, XG f xs.length (xs.flatMap enc ++ rest) 0 false = (xs, rest, 0, false)
 | [], _, rest => rfl
 | x :: xs, h, rest => by
  rw [List.length_cons, XG, if_pos (by decide), List.flatMap_cons, List.append_assoc, h x (by simp)]
  dsimp only
  rw [manyTo_back xs (fun y hy => h y (by simp [hy]))]
theorem manyR_back {α : Type} {f : List UInt8 → Int → Bool → α × RS3} {enc : α → List UInt8} {xs : List α} (hl : xs.length ≤ 4) (h : ∀ x ∈ xs, ∀ rest, f (enc x ++ rest) 0 false = (x, rest, 0, false)) (rest : List UInt8) :
  Xg f (UInt8.ofNat xs.length :: (xs.flatMap enc ++ rest)) 0 false = (xs, rest, 0, false) := by
 have hlen : (UInt8.ofNat xs.length).toNat = xs.length := by
  rw [UInt8.toNat_ofNat']
  have e : (2 : Nat) ^ 8 = 256 := by decide
  rw [e]; omega
 have e1 : Yr 1 (UInt8.ofNat xs.length :: (xs.flatMap enc ++ rest)) 0 = (xs.length, xs.flatMap enc ++ rest, 0) := by
  have := Wm (k := 1) (x := [UInt8.ofNat xs.length]) (rest := xs.flatMap enc ++ rest) rfl
  rw [unbe_one, hlen] at this
  exact this
 unfold Xg
 simp only [e1]
 have hb : XF false 0 (decide ((xs.length : Int) ≤ 4)) = false := by rw [decide_eq_true (by omega)]; rfl
 rw [hb]
 exact manyTo_back xs h rest
structure IdFit (c : Yi) : Prop where
 row : ∀ r ∈ c.rows, WU r
 kid : ∀ k ∈ c.kids, k.id < 65536
theorem contB_form {c : Yi} (h : ZB c = true) : (c.kind = 0 ∧ c = ⟨0, [], []⟩ ∧ Yz c = [0]) ∨ (c.kind = 1 ∧ c.kids = [] ∧ Yz c = 1 :: (UInt8.ofNat c.rows.length :: c.rows.flatMap Yc)) ∨ (c.kind = 2 ∧ c.rows = [] ∧ Yz c = 2 :: (UInt8.ofNat c.kids.length :: c.kids.flatMap XE)) := by
 have hF := (WY h).kind
 obtain ⟨kind, rows, kids⟩ := c
 dsimp only at hF ⊢
 rcases hF with ⟨rfl, rfl, rfl⟩ | ⟨rfl, rfl⟩ | ⟨rfl, rfl, _⟩
 ·exact .inl ⟨rfl, rfl, by simp [Yz, cntB]; rfl⟩
 ·exact .inr (.inl ⟨rfl, rfl, by simp [Yz, cntB]; rfl⟩)
 ·exact .inr (.inr ⟨rfl, rfl, by simp [Yz, cntB]; rfl⟩)
theorem contentR_back {c : Yi} (h : ZB c = true) (hf : IdFit c) (rest : List UInt8) : YK (Yz c ++ rest) = (c, rest, 0, false) := by
 have hF := WY h
 have hrb : ∀ r ∈ c.rows, ∀ rest, WD (Yc r ++ rest) 0 false = (r, rest, 0, false) := fun r hr rest => rowR_back (hF.row r hr) (hf.row r hr) rest
 have hkb : ∀ k ∈ c.kids, ∀ rest, XP (XE k ++ rest) 0 false = (k, rest, 0, false) := fun k hk rest => kidRB_back (hf.kid k hk) (hF.kid k hk).1 (hF.kid k hk).2 rest
 have hrl := hF.rl
 have hkl := hF.kl
 rcases contB_form h with ⟨hk, rfl, e⟩ | ⟨hk, hks, e⟩ | ⟨hk, hrs, e⟩
 ·rw [e]
  have e1 : Yr 1 ([0] ++ rest) 0 = (0, rest, 0) := by rw [Wm (k := 1) (x := [0]) rfl]; rfl
  unfold YK contE
  simp only [e1]
  rfl
 ·obtain ⟨kind, rows, kids⟩ := c
  dsimp only at hk hks
  subst hk; subst hks
  rw [e]
  have e1 : Yr 1 (1 :: (UInt8.ofNat rows.length :: rows.flatMap Yc) ++ rest) 0 = (1, UInt8.ofNat rows.length :: (rows.flatMap Yc ++ rest), 0) := by
   have := Wm (k := 1) (x := [1]) (rest := UInt8.ofNat rows.length :: (rows.flatMap Yc ++ rest)) rfl
   exact this
  have hb : XF false 0 (decide (((1 : Nat) : Int) ≤ 2)) = false := rfl
  unfold YK contE
  simp only [e1, hb, WX, manyR_back hrl hrb rest, Bool.not_false, decide_true, Bool.and_self, if_true]
  have hn : XF false 0 (ZB ⟨((1 : Nat) : Int), rows, []⟩) = false := by rw [show ZB ⟨((1 : Nat) : Int), rows, []⟩ = true from h]; rfl
  rw [hn]; rfl
 ·obtain ⟨kind, rows, kids⟩ := c
  dsimp only at hk hrs
  subst hk; subst hrs
  rw [e]
  have e1 : Yr 1 (2 :: (UInt8.ofNat kids.length :: kids.flatMap XE) ++ rest) 0 = (2, UInt8.ofNat kids.length :: (kids.flatMap XE ++ rest), 0) := by
   have := Wm (k := 1) (x := [2]) (rest := UInt8.ofNat kids.length :: (kids.flatMap XE ++ rest)) rfl
   exact this
  have hb : XF false 0 (decide (((2 : Nat) : Int) ≤ 2)) = false := rfl
  unfold YK contE
  simp only [e1, hb, WX, manyR_back hkl hkb rest, Bool.not_false, decide_true, Bool.and_self, if_true, show ¬ ((2 : Nat) = 1) by decide, if_false]
  have hn : XF false 0 (ZB ⟨((2 : Nat) : Int), [], kids⟩) = false := by rw [show ZB ⟨((2 : Nat) : Int), [], kids⟩ = true from h]; rfl
  rw [hn]; rfl
theorem takeCont_back {c : Yi} (h : ZB c = true) (hf : IdFit c) (rest : List UInt8) : ZV (Yz c ++ rest) = (c, (((Yz c).length : Nat) : Int), 0) := by
 unfold ZV
 simp only [contentR_back h hf rest]
 simp [takenN, takenE]
abbrev ztC : Yi := ⟨0, [], []⟩
abbrev nilCV : CV := ⟨none, 0, 0, none, 0, 0⟩
abbrev Im.plain (x : Im) : Im := ⟨x.page, nilCV, x.b, nilCV, x.a⟩
abbrev Rc.plain (r : Rc) : Rc := { r with ims := r.ims.map Im.plain }
structure CkTF (t : CkT) : Prop where
 txn : 0 ≤ t.txn ∧ t.txn < 4294967296
 first : t.first < 18446744073709551616
 last : t.last < 18446744073709551616
 undo : t.undo < 18446744073709551616
 state : 0 ≤ t.state ∧ t.state < 256
structure CkPF (p : CkP) : Prop where
 page : 0 ≤ p.page ∧ p.page < 256
 since : p.since < 18446744073709551616
theorem up_all {α : Type} {right : α → Bool} {by' : α → Int} {l : List α} (h : upB right by' l l.length = true) : ∀ i (hi : i < l.length), right l[i] = true ∧ (i = 0 ∨ by' (l[i - 1]'(by omega)) < by' l[i]) := by
 intro i hi
 obtain ⟨h1, h2⟩ := (Wo h (Nat.le_refl _)).2 i hi hi
 refine ⟨h1, ?_⟩
 rcases h2 with h2 | h2
 ·exact .inl h2
 ·exact .inr (of_decide_eq_true h2)
theorem up_mem {α : Type} {right : α → Bool} {by' : α → Int} {l : List α} (h : upB right by' l l.length = true) : ∀ x ∈ l, right x = true := by
 intro x hx
 obtain ⟨i, hi, rfl⟩ := List.mem_iff_getElem.1 hx
 exact (up_all h i hi).1
theorem ckP_len {lsn : Nat} {l : List CkP} (h : upB (WW lsn) CkP.page l l.length = true) : l.length ≤ 64 := by
 have hp : ∀ i (hi : i < l.length), 0 ≤ l[i].page ∧ l[i].page < 64 := fun i hi => by
  have := (up_all h i hi).1
  unfold WW pageOk at this
  rw [Bool.and_eq_true, decide_eq_true_eq] at this
  exact this.1
 have hi : ∀ i (hi : i < l.length), (i : Int) ≤ l[i].page := by
  intro i
  induction i with
  | zero => intro hi; exact (hp 0 hi).1
  | succ i ih =>
   intro hi
   have h1 := ih (by omega)
   have h2 := (up_all h (i + 1) hi).2
   simp only [Nat.add_sub_cancel] at h2
   omega
 rcases Nat.lt_or_ge 64 l.length with hl | hl
 ·have := hi 64 hl
  have := hp 64 hl
  omega
 ·exact hl
structure RecOk (r : Rc) : Prop where
 kind : 1 ≤ r.kind ∧ r.kind ≤ 9
 lsn : 1 ≤ r.lsn ∧ r.lsn ≤ 1099511627776 ∧ r.prev < r.lsn
 txn : 0 ≤ r.txn ∧ r.txn ≤ 1073741824
 next : r.next ≤ r.lsn
 n0 : r.next = 0 ∨ r.kind = 3 ∨ r.kind = 4 ∨ r.kind = 5
 i0 : r.ims = [] ∨ r.kind = 2 ∨ r.kind = 5
 s0 : r.steps = [] ∨ r.kind = 4
 c0 : (r.txns = [] ∧ r.dirty = [] ∧ r.nextTxn = 0) ∨ r.kind = 9
 il : r.ims.length ≤ 16
 im : ∀ x ∈ r.ims, (0 ≤ x.page ∧ x.page < 64) ∧ ZB x.a = true ∧ ZB x.b = true
 i5 : r.kind = 5 → ∀ x ∈ r.ims, x.b = ztC
 sl : r.steps.length ≤ 2
 st : ∀ s ∈ r.steps, YV s = true
 nt : 0 ≤ r.nextTxn ∧ r.nextTxn ≤ 1073741824
 tl : r.txns.length ≤ 8
 tx : ∀ t ∈ r.txns, ckTOk r.lsn r.nextTxn t = true
 dl : r.dirty.length ≤ 64
 di : ∀ p ∈ r.dirty, WW r.lsn p = true
theorem ims_facts {b : Bool} {l : List Im} (h : imsOk b l = true) : l.length ≤ 16 ∧ (∀ x ∈ l, (0 ≤ x.page ∧ x.page < 64) ∧ ZB x.a = true ∧ ZB x.b = true) ∧ (b = false → ∀ x ∈ l, x.b = ztC) := by
 unfold imsOk at h
 rw [Bool.and_eq_true, decide_eq_true_eq] at h
 obtain ⟨h1, h2⟩ := h
 have h3 := up_mem h2
 have h4 : ∀ x ∈ l, (0 ≤ x.page ∧ x.page < 64) ∧ ZB x.a = true ∧ ZB x.b = true ∧ (b = true ∨ x.b.kind = 0) := fun x hx => by
  have := h3 x hx
  unfold imOk pageOk at this
  rw [Bool.and_eq_true, Bool.and_eq_true, Bool.and_eq_true, Bool.or_eq_true, decide_eq_true_eq, decide_eq_true_eq] at this
  exact this
 refine ⟨h1, fun x hx => ⟨(h4 x hx).1, (h4 x hx).2.1, (h4 x hx).2.2.1⟩, fun hb x hx => ?_⟩
 obtain ⟨_, _, g3, g4⟩ := h4 x hx
 have g5 : x.b.kind = 0 := by
  rcases g4 with g4 | g4
  ·rw [hb] at g4; cases g4
  ·exact g4
 rcases contB_form g3 with e | e | e
 ·exact e.2.1
 ·omega
 ·omega
theorem Xy {r : Rc} (h : ZP r = true) : RecOk r := by
 unfold ZP headOk bareOk at h
 rw [Bool.and_eq_true, Bool.and_eq_true, Bool.and_eq_true, decide_eq_true_eq, decide_eq_true_eq, decide_eq_true_eq] at h
 obtain ⟨hk, ⟨h1, h2, h3, h4, h5, h6, h7⟩, ha, b1, b2, b3, b4⟩ := h
 unfold askOk at ha
 obtain ⟨k, lsn, txn, prev, next, ims, steps, nt, txns, dirty⟩ := r
 dsimp only at *
 by_cases k2 : k = 2
 ·rw [if_pos k2, Bool.and_eq_true] at ha
  obtain ⟨f1, f2, f3⟩ := ims_facts ha.2
  obtain rfl : steps = [] := by rcases b3 with b3 | b3 <;> first | exact b3 | omega
  obtain ⟨rfl, rfl, rfl⟩ : txns = [] ∧ dirty = [] ∧ nt = 0 := by rcases b4 with b4 | b4 <;> first | exact b4 | omega
  exact ⟨hk, ⟨h1, h2, h3⟩, ⟨h4, h5⟩, by dsimp only; omega, b1, b2, b3, b4, f1, f2, fun e => by dsimp only at e; omega, by simp, by simp, by simp, by simp, by simp, by simp, by simp⟩
 ·rw [if_neg k2] at ha
  by_cases k3 : k = 3
  ·rw [if_pos k3, decide_eq_true_eq] at ha
   obtain rfl : ims = [] := by rcases b2 with b2 | b2 <;> first | exact b2 | omega
   obtain rfl : steps = [] := by rcases b3 with b3 | b3 <;> first | exact b3 | omega
   obtain ⟨rfl, rfl, rfl⟩ : txns = [] ∧ dirty = [] ∧ nt = 0 := by rcases b4 with b4 | b4 <;> first | exact b4 | omega
   exact ⟨hk, ⟨h1, h2, h3⟩, ⟨h4, h5⟩, by dsimp only; omega, b1, b2, b3, b4, by simp, by simp, by simp, by simp, by simp, by simp, by simp, by simp, by simp, by simp⟩
  ·rw [if_neg k3] at ha
   by_cases k4 : k = 4
   ·rw [if_pos k4, Bool.and_eq_true, Bool.and_eq_true, decide_eq_true_eq, decide_eq_true_eq] at ha
    obtain rfl : ims = [] := by rcases b2 with b2 | b2 <;> first | exact b2 | omega
    obtain ⟨rfl, rfl, rfl⟩ : txns = [] ∧ dirty = [] ∧ nt = 0 := by rcases b4 with b4 | b4 <;> first | exact b4 | omega
    exact ⟨hk, ⟨h1, h2, h3⟩, ⟨h4, h5⟩, by dsimp only; omega, b1, b2, b3, b4, by simp, by simp, by simp, ha.2.1.2, List.all_eq_true.1 ha.2.2, by simp, by simp, by simp, by simp, by simp⟩
   ·rw [if_neg k4] at ha
    by_cases k5 : k = 5
    ·rw [if_pos k5, Bool.and_eq_true, decide_eq_true_eq] at ha
     obtain ⟨f1, f2, f3⟩ := ims_facts ha.2
     obtain rfl : steps = [] := by rcases b3 with b3 | b3 <;> first | exact b3 | omega
     obtain ⟨rfl, rfl, rfl⟩ : txns = [] ∧ dirty = [] ∧ nt = 0 := by rcases b4 with b4 | b4 <;> first | exact b4 | omega
     exact ⟨hk, ⟨h1, h2, h3⟩, ⟨h4, h5⟩, by dsimp only; omega, b1, b2, b3, b4, f1, f2, fun _ => f3 rfl, by simp, by simp, by simp, by simp, by simp, by simp, by simp⟩
    ·rw [if_neg k5] at ha
     obtain rfl : ims = [] := by rcases b2 with b2 | b2 <;> first | exact b2 | omega
     obtain rfl : steps = [] := by rcases b3 with b3 | b3 <;> first | exact b3 | omega
     by_cases k9 : k = 9
     ·rw [if_pos k9, Bool.and_eq_true, Bool.and_eq_true, decide_eq_true_eq] at ha
      obtain ⟨⟨a1, a2, a3⟩, a4, a5⟩ := ha
      exact ⟨hk, ⟨h1, h2, h3⟩, ⟨h4, h5⟩, by dsimp only; omega, b1, b2, b3, b4, by simp, by simp, by simp, by simp, by simp, ⟨by dsimp only; omega, a2⟩, a3, up_mem a4, ckP_len a5, up_mem a5⟩
     ·obtain ⟨rfl, rfl, rfl⟩ : txns = [] ∧ dirty = [] ∧ nt = 0 := by rcases b4 with b4 | b4 <;> first | exact b4 | omega
      exact ⟨hk, ⟨h1, h2, h3⟩, ⟨h4, h5⟩, by dsimp only; omega, b1, b2, b3, b4, by simp, by simp, by simp, by simp, by simp, by simp, by simp, by simp, by simp, by simp⟩
theorem ckT_facts {lsn : Nat} {next : Int} {t : CkT} (h : ckTOk lsn next t = true) (hl : lsn ≤ 1099511627776) (hn : next ≤ 1073741824) : CkTF t := by
 unfold ckTOk at h
 rw [decide_eq_true_eq] at h
 obtain ⟨a1, a2, a3, a4, a5, a6, a7, a8⟩ := h
 exact ⟨by omega, by omega, by omega, by omega, by omega⟩
theorem ckP_facts {lsn : Nat} {p : CkP} (h : WW lsn p = true) (hl : lsn ≤ 1099511627776) : CkPF p ∧ p.page < 64 := by
 unfold WW pageOk at h
 rw [Bool.and_eq_true, decide_eq_true_eq, decide_eq_true_eq] at h
 obtain ⟨⟨a1, a2⟩, a3, a4⟩ := h
 exact ⟨⟨by omega, by omega⟩, by omega⟩
theorem recOk_lay {r : Rc} (h : ZP r = true) : LayOk r := by
 have f := Xy h
 have l1 := f.lsn
 have l2 := f.next
 have l3 := f.txn
 have l4 := f.nt
 have l5 := f.kind
 exact ⟨by omega, by omega, by omega, by omega, by omega, by omega, f.il, f.im, f.sl, f.st, f.tl, fun t ht => by
   have g := ckT_facts (f.tx t ht) l1.2.1 l4.2
   exact ⟨g.txn, g.first, g.last, g.undo, g.state.1, g.state.2⟩, f.dl, fun p hp => by
   obtain ⟨g, g2⟩ := ckP_facts (f.di p hp) l1.2.1
   exact ⟨⟨g.page.1, g2⟩, g.since⟩⟩
theorem ContFit.id' {c : Yi} (h : ContFit c) : IdFit c := ⟨h.row, fun k hk => (h.kid k hk).id⟩
def sectsB (n : Nat) : Nat := max 1 ((n + 51) / 52)
theorem rsects_spec (ρ : Hp) (n : Nat) (hn : n ≤ 4611686018427387904) : Spec Tryz.prog 83 [.int .i64 n] ρ [] (fun v ρ' L' => v = .int .i64 (sectsB n : Nat) ∧ ρ' = ρ ∧ L' = []) := by
 refine Za Tryz.func83 rfl rfl rfl fun u R => ?_
 simp only [Zg, kA]
 have e : max 1 (IntKind.i64.wrap (((n : Int) + 52 - 1).tdiv 52)) = ((sectsB n : Nat) : Int) := by
  rw [Int.tdiv_eq_ediv_of_nonneg (by omega), Wy (by simp only [lo, hi]; omega)]
  unfold sectsB; omega
 repeat' (first | refine zV ?_ | intro _)
 rw [e]
 exact qE ⟨rfl, rfl, rfl⟩
theorem listB_le {α : Type} (f : α → List UInt8) (m : Nat) (l : List α) (h : ∀ x ∈ l, (f x).length ≤ m) : (Wl f l).length ≤ 1 + l.length * m := by
 have := YE f m l h
 unfold Wl
 rw [List.length_cons]; omega
theorem recB_le {r : Rc} (h : LayOk r) : (WB r).length ≤ 4000 := by
 have h1 : (recHB r).length = 21 := by simp [recHB, Zj]
 have h2 : (imsB r).length ≤ 1 + r.ims.length * 165 := listB_le _ 165 r.ims (fun x hx => imB_len (h.im x hx).2.1 (h.im x hx).2.2)
 have h3 : (Wl stpB r.steps).length ≤ 1 + r.steps.length * 21 := listB_le _ 21 r.steps (fun x hx => stpB_len (h.st x hx))
 have h4 : (Wl ckTB r.txns).length ≤ 1 + r.txns.length * 29 := listB_le _ 29 r.txns (fun x hx => Nat.le_of_eq (ckTB_len x))
 have h5 : (Wl ckPB r.dirty).length ≤ 1 + r.dirty.length * 9 := listB_le _ 9 r.dirty (fun x hx => Nat.le_of_eq (ckPB_len x))
 have a1 := h.il
 have a2 := h.sl
 have a3 := h.tl
 have a4 := h.dl
 have h6 : (recTB r).length ≤ 3900 := by
  unfold recTB
  split
  ·omega
  ·split
   ·rw [Zj]; omega
   ·split
    ·rw [List.length_append, Zj]; omega
    ·split
     ·rw [List.length_append, Zj]; omega
     ·split
      ·rw [List.length_append, List.length_append, Zj]; omega
      ·simp
 unfold WB
 rw [List.length_append]; omega
theorem rencode_spec (ρ : Hp) (v : RV) (r : Rc) (h : RcIn ρ v r) : Spec Tryz.prog 109 [.agg ⟨Xw v r⟩] ρ []
  (fun z ρ' L' => ρ.le ρ' ∧ ∃ a n c, z = .tuple ⟨[.slice a n c, .int .i64 (if ZP r then 0 else 220)]⟩ ∧ n ≤ c ∧ SIn ρ' Zr a n (if ZP r then WB r else []) ∧ L' = []) := by
 have hck := rcheck_spec ρ v r h
 refine Za Tryz.func109 rfl rfl rfl fun u R => ?_
 simp only [Zg, kA]
 cases hok : ZP r
 ·rw [hok] at hck
  repeat' (first | (refine Zb (.func 139) ?_; refine qR rfl rfl (hck) ?_; try simp only [kA, if_false, Bool.false_eq_true]) | refine zV ?_ | intro _)
  exact qE ⟨Hp.le_refl _, none, 0, 0, rfl, Nat.le_refl _, SIn.nil, rfl⟩
 ·rw [hok] at hck
  have hla := rlaid_spec ρ v r h (recOk_lay hok)
  repeat' (first | (refine Zb (.func 139) ?_; refine qR rfl rfl (hck) ?_; try simp only [kA, if_true]) | (refine Zb (.func 190) ?_; refine qC rfl rfl (hla) ?_; rintro v ρ' L' hle ⟨hle1, a, c, rfl, hc, hs, rfl⟩ <;> (try simp only [kA])) | refine zV ?_ | intro _)
  exact qE ⟨hle1, a, _, c, rfl, hc, hs, rfl⟩
def WZ (r : Rc) : Nat := if ZP r then sectsB (WB r).length else 0
def errN (r : Rc) : Int := if ZP r then 0 else 220
theorem rcost_spec (ρ : Hp) (v : RV) (r : Rc) (h : RcIn ρ v r) : Spec Tryz.prog 107 [.agg ⟨Xw v r⟩] ρ []
  (fun z ρ' L' => ρ.le ρ' ∧ z = .tuple ⟨[.int .i64 (WZ r : Nat), .int .i64 (errN r)]⟩ ∧ L' = []) := by
 have hck := rcheck_spec ρ v r h
 unfold WZ errN
 refine Za Tryz.func107 rfl rfl rfl fun u R => ?_
 simp only [Zg, kA]
 cases hok : ZP r
 ·rw [hok] at hck
  repeat' (first | (refine Zb (.func 139) ?_; refine qR rfl rfl (hck) ?_; try simp only [kA, if_false, Bool.false_eq_true]) | refine zV ?_ | intro _)
  exact qE ⟨Hp.le_refl _, rfl, rfl⟩
 ·rw [hok] at hck
  have hla := rlaid_spec ρ v r h (recOk_lay hok)
  have hb := recB_le (recOk_lay hok)
  repeat' (first | (refine Zb (.func 139) ?_; refine qR rfl rfl (hck) ?_; try simp only [kA, if_true]) | (refine Zb (.func 190) ?_; refine qC rfl rfl (hla) ?_; rintro v ρ' L' hle ⟨hle1, a, c, rfl, hc, hs, rfl⟩ <;> (try simp only [kA])) | (refine Zb (.func 83) ?_; refine qR rfl rfl (rsects_spec _ _ (by omega)) ?_; try simp only [kA]) | refine zV ?_ | intro _)
  exact qE ⟨hle1, rfl, rfl⟩
end Go.Proofs.E
namespace Go.Proofs.E
open Go
set_option linter.unusedVariables false
set_option linter.unusedSimpArgs false
set_option linter.unusedSectionVars false
set_option maxRecDepth 4000
set_option maxHeartbeats 1000000
attribute [local irreducible] Yl TL TC TE Spec ZK R1 Hp.le EnvLe TS TR YS Zp TP QP
abbrev Blk := List UInt8
abbrev Xi := List (Blk × Option Blk)
def Xf (s : Xi) : List Value := (s.map fun p => p.1.map Zr).flatten
structure SecsOk (s : Xi) : Prop where
 len : s.length ≤ 2048
 pos : 0 < s.length
 held : ∀ p ∈ s, p.1.length = 64
 cached : ∀ p ∈ s, ∀ c, p.2 = some c → c.length = 64
def bv (b : Blk) : Value := .agg ⟨b.map Zr⟩
structure MapOk (s : Xi) (es : List MapEntry) : Prop where
 keys : Yq .i64 es
 get : ∀ j : Int, YC es j = if 0 ≤ j then ((s[j.toNat]?).bind (·.2)).map bv else none
structure HB where
 b : Nat
 cap : Nat
 sp : List Value
def dO (hb : HB) (mb n : Nat) (ops armed failing : Int) (dead : Bool) : Obj := .cells ⟨[.slice (some ⟨hb.b, 0, none⟩) n hb.cap, .map (some mb), .int .i64 ops, .int .i64 armed, .int .i64 failing, .bool dead]⟩ 153 (0, 0)
set_option maxHeartbeats 400000 in
set_option maxHeartbeats 400000 in
theorem lives_dead (ρ : Hp) (b : Nat) (hb : HB) (mb n : Nat) (ops armed failing : Int) : Spec Tryz.prog 129 [.pointer (some ⟨b, 0, none⟩)] ρ [[(b, dO hb mb n ops armed failing true)]] (fun v ρ' L' => v = .int .i64 9 ∧ ρ' = ρ ∧ L' = [[(b, dO hb mb n ops armed failing true)]]) := by
 refine Za Tryz.func129 rfl rfl rfl fun u R => ?_
 simp only [Zg, kA, dO]
 repeat' (first | refine zW ?_ | intro _)
 exact te_end rfl rfl rfl (by exact res1 rfl (ZW rfl)) (Hp.le_refl _) (by infer_instance) (by infer_instance) ⟨rfl, rfl, rfl⟩
set_option maxHeartbeats 400000 in
theorem lives_ok (ρ : Hp) (b : Nat) (hb : HB) (mb n : Nat) (ops armed failing : Int) : Spec Tryz.prog 129 [.pointer (some ⟨b, 0, none⟩)] ρ [[(b, dO hb mb n ops armed failing false)]] (fun v ρ' L' => v = .int .i64 0 ∧ ρ' = ρ ∧ L' = [[(b, dO hb mb n ops armed failing false)]]) := by
 refine Za Tryz.func129 rfl rfl rfl fun u R => ?_
 simp only [Zg, kA, dO]
 repeat' (first | refine zW ?_ | intro _)
 exact te_end rfl rfl rfl (by exact res1 rfl (ZW rfl)) (Hp.le_refl _) (by infer_instance) (by infer_instance) ⟨rfl, rfl, rfl⟩
theorem counts_dO4 (ρ : Hp) (b : Nat) (hb : HB) (mb n : Nat) (ops armed failing : Int) (dead : Bool) (h1 : -1 ≤ failing) (h2 : failing ≤ 9223372036854775807) :
  Spec Tryz.prog 300 [.pointer (some ⟨b, 4, none⟩)] ρ [[(b, dO hb mb n ops armed failing dead)]] (fun v ρ' L' => v = .bool (failing == 0) ∧ ρ' = ρ ∧ L' = [[(b, dO hb mb n ops armed (max (failing-1) (-1)) dead)]]) := by
 refine Za Tryz.func300 rfl rfl rfl fun u R => ?_
 simp only [Zg, kA, dO]
 repeat' (first | refine zW ?_ | intro _)
 exact qE ⟨rfl, rfl, rfl⟩
theorem counts_dO3 (ρ : Hp) (b : Nat) (hb : HB) (mb n : Nat) (ops armed failing : Int) (dead : Bool) (h1 : -1 ≤ armed) (h2 : armed ≤ 9223372036854775807) :
  Spec Tryz.prog 300 [.pointer (some ⟨b, 3, none⟩)] ρ [[(b, dO hb mb n ops armed failing dead)]] (fun v ρ' L' => v = .bool (armed == 0) ∧ ρ' = ρ ∧ L' = [[(b, dO hb mb n ops (max (armed-1) (-1)) failing dead)]]) := by
 refine Za Tryz.func300 rfl rfl rfl fun u R => ?_
 simp only [Zg, kA, dO]
 repeat' (first | refine zW ?_ | intro _)
 exact qE ⟨rfl, rfl, rfl⟩
theorem does_dead (ρ : Hp) (b : Nat) (hb : HB) (mb n : Nat) (ops armed failing i : Int) (d l : Value) : Spec Tryz.prog 231 [.pointer (some ⟨b, 0, none⟩), .int .i64 i, d, l] ρ [[(b, dO hb mb n ops armed failing true)]]
  (fun v ρ' L' => v = .int .i64 9 ∧ ρ' = ρ ∧ L' = [[(b, dO hb mb n ops armed failing true)]]) := by
 refine Za Tryz.func231 rfl rfl rfl fun u R => ?_
 simp only [Zg, kA]
 repeat' (first | (refine Zb (.func 129) ?_; refine qR rfl rfl (lives_dead _ _ _ _ _ _ _ _) ?_; try simp only [kA]) | refine zW ?_ | intro _)
 exact qE ⟨rfl, rfl, rfl⟩
theorem does_arg (ρ : Hp) (b : Nat) (hb : HB) (mb n : Nat) (ops armed failing i : Int) (d l : Value) (hi : i < 0 ∨ (n : Int) ≤ i) : Spec Tryz.prog 231 [.pointer (some ⟨b, 0, none⟩), .int .i64 i, d, l] ρ [[(b, dO hb mb n ops armed failing false)]]
  (fun v ρ' L' => v = .int .i64 2 ∧ ρ' = ρ ∧ L' = [[(b, dO hb mb n ops armed failing false)]]) := by
 refine Za Tryz.func231 rfl rfl rfl fun u R => ?_
 simp only [Zg, kA]
 by_cases h0 : i < 0
 ·repeat' (first | (refine Zb (.func 129) ?_; refine qR rfl rfl (lives_ok _ _ _ _ _ _ _ _) ?_; try simp only [kA, dO]) | refine zW ?_ | intro _)
  exact qE ⟨rfl, rfl, rfl⟩
 ·repeat' (first | (refine Zb (.func 129) ?_; refine qR rfl rfl (lives_ok _ _ _ _ _ _ _ _) ?_; try simp only [kA, dO]) | refine zW ?_ | intro _)
  exact qE ⟨rfl, rfl, rfl⟩
theorem does_ok_r (ρ : Hp) (b : Nat) (hb : HB) (mb n : Nat) (ops armed failing i : Int) (kd : Nat) (cd : List Value) (X : SH) (Post : Value → Hp → SH → Prop) (h0 : 0 ≤ i) (h1 : i < n) (hf : failing ≠ 0) (hf1 : -1 ≤ failing) (hf2 : failing ≤ 9223372036854775807) [hF : ZJ Tryz.prog kd]
  (hd : Spec Tryz.prog kd cd ρ ([(b, dO hb mb n (IntKind.i64.wrap (ops + 1)) armed (max (failing - 1) (-1)) false)] :: X) Post) :
  Spec Tryz.prog 231 [.pointer (some ⟨b, 0, none⟩), .int .i64 i, .func (.func kd) ⟨[]⟩ ⟨cd⟩, .nilFunc] ρ ([(b, dO hb mb n ops armed failing false)] :: X) (fun v ρ' L' => v = .int .i64 0 ∧ ∃ v0, Post v0 ρ' L') := by
 refine Za Tryz.func231 rfl rfl rfl fun u R => ?_
 simp only [Zg, kA]
 repeat' (first | (refine Zb (.func 129) ?_; refine qC rfl rfl (lives_ok _ _ _ _ _ _ _ _) ?_; rintro v ρ' L' hle ⟨rfl, rfl, rfl⟩ <;> (try simp only [kA, dO])) | refine zW ?_ | intro _)
 have hfb : (failing == 0) = false := by simpa using hf
 refine tpA [0,1,2,4,5] (.e 3 [] (.f [6,7,8,9,10,11,12,13,14] .o)) ([]) ?_
 repeat' (refine iT ?_; first | refine rA ?_ | ((refine iE ?_; refine rE ?_) <;> ((try refine Zn ?_); (first | (refine Zb (.func 300) ?_; refine qC rfl rfl (counts_dO4 _ _ _ _ _ _ _ _ _ hf1 hf2) ?_; rintro v ρ' L' hle ⟨rfl, rfl, rfl⟩ <;> (try simp only [kA, dO, hfb])) | (refine Yj ?_; try intro _)) <;> ((try simp only [kA]); refine Zi ?_; refine rN ?_))))
 unfold dO at hd
 repeat' (first | (refine Zb (.tmp 65) ?_; refine tl_call rfl rfl hd tk rfl ?_; rintro v ρ' L' hle hp) | refine zW ?_ | intro _)
 exact qE ⟨rfl, _, hp⟩
theorem does_ok_w (ρ : Hp) (b : Nat) (hb : HB) (mb n : Nat) (ops armed failing i : Int) (kd kl : Nat) (cd cl : List Value) (X : SH) (Post : Value → Hp → SH → Prop) (h0 : 0 ≤ i) (h1 : i < n) (hf : failing ≠ 0) (hf1 : -1 ≤ failing) (hf2 : failing ≤ 9223372036854775807)
  (ha : armed ≠ 0) (ha1 : -1 ≤ armed) (ha2 : armed ≤ 9223372036854775807) [hF : ZJ Tryz.prog kd]
  (hd : Spec Tryz.prog kd cd ρ ([(b, dO hb mb n (IntKind.i64.wrap (ops + 1)) (max (armed - 1) (-1)) (max (failing - 1) (-1)) false)] :: X) Post) :
  Spec Tryz.prog 231 [.pointer (some ⟨b, 0, none⟩), .int .i64 i, .func (.func kd) ⟨[]⟩ ⟨cd⟩, .func (.func kl) ⟨[]⟩ ⟨cl⟩] ρ ([(b, dO hb mb n ops armed failing false)] :: X) (fun v ρ' L' => v = .int .i64 0 ∧ ∃ v0, Post v0 ρ' L') := by
 refine Za Tryz.func231 rfl rfl rfl fun u R => ?_
 simp only [Zg, kA]
 repeat' (first | (refine Zb (.func 129) ?_; refine qC rfl rfl (lives_ok _ _ _ _ _ _ _ _) ?_; rintro v ρ' L' hle ⟨rfl, rfl, rfl⟩ <;> (try simp only [kA, dO])) | refine zW ?_ | intro _)
 have hfb : (failing == 0) = false := by simpa using hf
 refine tpA [0,1,2,4,5] (.e 3 [] (.f [6,7,8,9,10,11,12,13,14] .o)) ([]) ?_
 repeat' (refine iT ?_; first | refine rA ?_ | ((refine iE ?_; refine rE ?_) <;> ((try refine Zn ?_); (first | (refine Zb (.func 300) ?_; refine qC rfl rfl (counts_dO4 _ _ _ _ _ _ _ _ _ hf1 hf2) ?_; rintro v ρ' L' hle ⟨rfl, rfl, rfl⟩ <;> (try simp only [kA, dO, hfb])) | (refine Yj ?_; try intro _)) <;> ((try simp only [kA]); refine Zi ?_; refine rN ?_))))
 unfold dO at hd
 repeat' (first | (refine Zb (.func 300) ?_; refine qC rfl rfl (counts_dO3 _ _ _ _ _ _ _ _ _ ha1 ha2) ?_; rintro v ρ' L' hle ⟨rfl, rfl, rfl⟩ <;> (try simp only [kA, dO])) | (refine Zb (.tmp 65) ?_; refine tl_call rfl rfl hd tk rfl ?_; rintro v ρ' L' hle hp) | refine zW ?_ | intro _)
 exact qE ⟨rfl, _, hp⟩
theorem does_fail_r (ρ : Hp) (b : Nat) (hb : HB) (mb n : Nat) (ops armed i : Int) (d : Value) (h0 : 0 ≤ i) (h1 : i < n) :
  Spec Tryz.prog 231 [.pointer (some ⟨b, 0, none⟩), .int .i64 i, d, .nilFunc] ρ [[(b, dO hb mb n ops armed 0 false)]] (fun v ρ' L' => v = .int .i64 8 ∧ ρ' = ρ ∧ L' = [[(b, dO hb mb n (IntKind.i64.wrap (ops + 1)) armed (-1) false)]]) := by
 refine Za Tryz.func231 rfl rfl rfl fun u R => ?_
 simp only [Zg, kA]
 repeat' (first | (refine Zb (.func 129) ?_; refine qR rfl rfl (lives_ok _ _ _ _ _ _ _ _) ?_; try simp only [kA, dO]) | refine zW ?_ | intro _)
 refine tpA [0,1,2,4,5] (.e 3 [] (.f [6,7,8,9,10,11,12,13,14] .o)) ([]) ?_
 repeat' (refine iT ?_; first | refine rA ?_ | ((refine iE ?_; refine rE ?_) <;> ((try refine Zn ?_); (first | (refine Zb (.func 300) ?_; refine qR rfl rfl (counts_dO4 _ _ _ _ _ _ _ 0 _ (by decide) (by decide)) ?_; try simp only [kA, dO]) | (refine Yj ?_; try intro _)) <;> ((try simp only [kA]); refine Zi ?_; refine rN ?_))))
 repeat' (first | refine zW ?_ | intro _)
 exact qE ⟨rfl, rfl, rfl⟩
theorem does_fail_w (ρ : Hp) (b : Nat) (hb : HB) (mb n : Nat) (ops armed i : Int) (d : Value) (kl : Nat) (cl : List Value) (h0 : 0 ≤ i) (h1 : i < n) (ha : armed ≠ 0) :
  Spec Tryz.prog 231 [.pointer (some ⟨b, 0, none⟩), .int .i64 i, d, .func (.func kl) ⟨[]⟩ ⟨cl⟩] ρ [[(b, dO hb mb n ops armed 0 false)]] (fun v ρ' L' => v = .int .i64 8 ∧ ρ' = ρ ∧ L' = [[(b, dO hb mb n (IntKind.i64.wrap (ops + 1)) armed (-1) false)]]) := by
 refine Za Tryz.func231 rfl rfl rfl fun u R => ?_
 simp only [Zg, kA]
 repeat' (first | (refine Zb (.func 129) ?_; refine qR rfl rfl (lives_ok _ _ _ _ _ _ _ _) ?_; try simp only [kA, dO]) | refine zW ?_ | intro _)
 refine tpA [0,1,2,4,5] (.e 3 [] (.f [6,7,8,9,10,11,12,13,14] .o)) ([]) ?_
 repeat' (refine iT ?_; first | refine rA ?_ | ((refine iE ?_; refine rE ?_) <;> ((try refine Zn ?_); (first | (refine Zb (.func 300) ?_; refine qR rfl rfl (counts_dO4 _ _ _ _ _ _ _ 0 _ (by decide) (by decide)) ?_; try simp only [kA, dO]) | (refine Yj ?_; try intro _)) <;> ((try simp only [kA]); refine Zi ?_; refine rN ?_))))
 repeat' (first | refine zW ?_ | intro _)
 exact qE ⟨rfl, rfl, rfl⟩
theorem does_dies (ρ : Hp) (b : Nat) (hb : HB) (mb n : Nat) (ops failing i : Int) (d : Value) (kl : Nat) (cl : List Value) (X : SH) (Post : Value → Hp → SH → Prop) (h0 : 0 ≤ i) (h1 : i < n) (hf1 : -1 ≤ failing) (hf2 : failing ≤ 9223372036854775807) [hF : ZJ Tryz.prog kl]
  (hd : Spec Tryz.prog kl cl ρ ([(b, dO hb mb n (IntKind.i64.wrap (ops + 1)) 0 (max (failing - 1) (-1)) true)] :: X) Post) :
  Spec Tryz.prog 231 [.pointer (some ⟨b, 0, none⟩), .int .i64 i, d, .func (.func kl) ⟨[]⟩ ⟨cl⟩] ρ ([(b, dO hb mb n ops 0 failing false)] :: X) (fun v ρ' L' => v = .int .i64 9 ∧ ∃ v0, Post v0 ρ' L') := by
 refine Za Tryz.func231 rfl rfl rfl fun u R => ?_
 simp only [Zg, kA]
 repeat' (first | (refine Zb (.func 129) ?_; refine qC rfl rfl (lives_ok _ _ _ _ _ _ _ _) ?_; rintro v ρ' L' hle ⟨rfl, rfl, rfl⟩ <;> (try simp only [kA, dO])) | refine zW ?_ | intro _)
 refine tpA [0,1,2,4,5] (.e 3 [] (.f [6,7,8,9,10,11,12,13,14] .o)) ([]) ?_
 repeat' (refine iT ?_; first | refine rA ?_ | ((refine iE ?_; refine rE ?_) <;> ((try refine Zn ?_); (first | (refine Zb (.func 300) ?_; refine qC rfl rfl (counts_dO4 _ _ _ _ _ _ _ _ _ hf1 hf2) ?_; rintro v ρ' L' hle ⟨rfl, rfl, rfl⟩ <;> (try simp only [kA, dO])) | (refine Yj ?_; try intro _)) <;> ((try simp only [kA]); refine Zi ?_; refine rN ?_))))
 unfold dO at hd
 repeat' (first | (refine Zb (.tmp 55) ?_; refine tl_call rfl rfl hd tk rfl ?_; rintro v ρ' L' hle hp) | refine zW ?_ | intro _)
 exact qE ⟨rfl, _, hp⟩
end Go.Proofs.E
namespace Go.Proofs.E
open Go
set_option linter.unusedVariables false
set_option linter.unusedSimpArgs false
set_option linter.unusedSectionVars false
set_option maxRecDepth 4000
set_option maxHeartbeats 1000000
attribute [local irreducible] Yl TL TC TE Spec ZK R1 Hp.le EnvLe TS TR YS Zp
theorem heldC_length {s : Xi} (h : ∀ p ∈ s, p.1.length = 64) : (Xf s).length = s.length * 64 := by
 induction s with
 | nil => rfl
 | cons p r ih =>
  have h1 := h p (by simp)
  have h2 := ih (fun q hq => h q (by simp [hq]))
  simp only [Xf, List.map_cons, List.flatten_cons, List.length_append, List.length_map, List.length_cons] at *
  omega
theorem heldC_take : ∀ {s : Xi} {i : Nat} (h : ∀ p ∈ s, p.1.length = 64) (hi : i < s.length), ((Xf s).drop (i * 64)).take 64 = (s[i].1).map Zr
 | [], i, h, hi => by simp at hi
 | p :: r, 0, h, hi => by
  have h1 := h p (by simp)
  simp only [Xf, List.map_cons, List.flatten_cons, Nat.zero_mul, List.drop_zero, List.getElem_cons_zero]
  rw [List.take_append_of_le_length (by simp [h1]), List.take_of_length_le (by simp [h1])]
 | p :: r, i + 1, h, hi => by
  have h1 := h p (by simp)
  have ih := heldC_take (s := r) (i := i) (fun q hq => h q (by simp [hq])) (by simpa using hi)
  simp only [Xf, List.map_cons, List.flatten_cons, List.getElem_cons_succ] at ih ⊢
  have e : (i + 1) * 64 = (p.1.map Zr).length + i * 64 := by simp [h1]; omega
  rw [e, ← List.drop_drop, List.drop_left]
  exact ih
theorem stc_heldC : ∀ {s : Xi} {i : Nat} {b : Blk} (x : Option Blk) (h : ∀ p ∈ s, p.1.length = 64) (hb : b.length = 64) (hi : i < s.length), stc (Xf s) (i * 64) (b.map Zr) = Xf (s.set i (b, x))
 | [], i, b, x, h, hb, hi => by simp at hi
 | p :: r, 0, b, x, h, hb, hi => by
  have h1 := h p (by simp)
  simp only [stc, Xf, List.map_cons, List.flatten_cons, Nat.zero_mul, List.take_zero, List.nil_append, Nat.zero_add, List.set_cons_zero]
  congr 1
  have e : (b.map Zr).length = (p.1.map Zr).length := by simp [hb, h1]
  rw [e, List.drop_left]
 | p :: r, i + 1, b, x, h, hb, hi => by
  have h1 := h p (by simp)
  have ih := stc_heldC (s := r) (i := i) (b := b) x (fun q hq => h q (by simp [hq])) hb (by simpa using hi)
  simp only [stc, Xf, List.map_cons, List.flatten_cons, List.set_cons_succ] at ih ⊢
  have e : (i + 1) * 64 = (p.1.map Zr).length + i * 64 := by simp [h1]; omega
  rw [e, List.take_length_add_append, Nat.add_assoc, ← List.drop_drop, List.drop_left, ← ih]
  simp
theorem heldC_take' {s : Xi} {i : Nat} (sp : List Value) (h : ∀ p ∈ s, p.1.length = 64) (hi : i < s.length) : ((Xf s ++ sp).drop (i * 64)).take 64 = (s[i].1).map Zr := by
 have hl := heldC_length h
 rw [List.drop_append_of_le_length (by omega), List.take_append_of_le_length (by simp; omega)]
 exact heldC_take h hi
theorem stc_heldC' {s : Xi} {i : Nat} {b : Blk} (sp : List Value) (x : Option Blk) (h : ∀ p ∈ s, p.1.length = 64) (hb : b.length = 64) (hi : i < s.length) : stc (Xf s ++ sp) (i * 64) (b.map Zr) = Xf (s.set i (b, x)) ++ sp := by
 have hl := heldC_length h
 rw [← stc_heldC x h hb hi]
 unfold stc
 rw [List.take_append_of_le_length (by omega), List.drop_append_of_le_length (by simp; omega)]
 simp
theorem heldC_length' {s : Xi} (sp : List Value) (h : ∀ p ∈ s, p.1.length = 64) : (Xf s ++ sp).length = s.length * 64 + sp.length := by
 rw [List.length_append, heldC_length h]
def putC (s : Xi) (i : Nat) (b : Blk) : Xi := s.set i ((s[i]?.getD ([], none)).1, some b)
theorem XM {s : Xi} {i b} : (putC s i b).length = s.length := by simp [putC]
theorem heldC_putC {s : Xi} {i : Nat} {b : Blk} (hi : i < s.length) : Xf (putC s i b) = Xf s := by
 unfold Xf putC
 rw [List.map_set]
 congr 1
 apply List.ext_getElem? ; intro j
 rw [List.getElem?_set]
 by_cases e : i = j
 ·subst e; simp [hi]
 ·simp [e]
theorem SecsOk.putC {s : Xi} {i : Nat} {b : Blk} (h : SecsOk s) (hb : b.length = 64) (hi : i < s.length) : SecsOk (putC s i b) := by
 have hm : ∀ p ∈ E.putC s i b, p ∈ s ∨ p = (s[i].1, some b) := fun p hp => by
  unfold E.putC at hp
  rcases List.mem_or_eq_of_mem_set hp with h1 | h1
  ·exact .inl h1
  ·right; rw [h1]; simp [hi]
 refine ⟨by rw [XM]; exact h.len, by rw [XM]; exact h.pos, fun p hp => ?_, fun p hp c hc => ?_⟩
 ·rcases hm p hp with h1 | rfl
  ·exact h.held p h1
  ·exact h.held s[i] (List.getElem_mem hi)
 ·rcases hm p hp with h1 | rfl
  ·exact h.cached p h1 c hc
  ·simp only [Option.some.injEq] at hc; subst hc; exact hb
theorem MapOk.put {s : Xi} {es es' : List MapEntry} {i : Int} {b : Blk} (h : MapOk s es) (h0 : 0 ≤ i) (hi : i < s.length) (hk : Yq .i64 es') (hg : ∀ j, YC es' j = if j = i then some (bv b) else YC es j) : MapOk (putC s i.toNat b) es' := by
 refine ⟨hk, fun j => ?_⟩
 rw [hg]
 by_cases e : j = i
 ·subst e
  have : j.toNat < s.length := by omega
  simp [putC, h0, this]
 ·rw [if_neg e, h.get]
  by_cases h1 : 0 ≤ j
  ·have hne : i.toNat ≠ j.toNat := by omega
   simp only [h1, if_true, putC]
   rw [List.getElem?_set_ne hne]
  ·simp [h1]
def says1 (p : Blk × Option Blk) : Blk := p.2.getD p.1
theorem MapOk.at {s : Xi} {es : List MapEntry} (h : MapOk s es) {i : Nat} (hi : i < s.length) : YC es i = (s[i].2).map bv := by
 rw [h.get]; simp [hi]
def YD (s : Xi) : Prop := ∀ p ∈ s, p.2 = none
theorem MapOk.empty {s : Xi} (h : YD s) : MapOk s [] := by
 refine ⟨fun e he => by simp at he, fun j => ?_⟩
 by_cases h1 : 0 ≤ j
 ·simp only [h1, if_true, YC, List.find?_nil, Option.map_none]
  cases hs : s[j.toNat]? with
  | none => simp
  | some p => simp [h p (List.mem_of_getElem? hs)]
 ·simp [YC, h1]
structure DS where
 secs : Xi
 ops : Int
 armed : Int
 failing : Int
 dead : Bool
structure DS.Ok (D : DS) : Prop where
 secs : SecsOk D.secs
 a1 : -1 ≤ D.armed
 a2 : D.armed ≤ 9223372036854775807
 f1 : -1 ≤ D.failing
 f2 : D.failing ≤ 9223372036854775807
def Wd (b : Nat) (hb : HB) (mb : Nat) (es : List MapEntry) (ck : Nat) (D : DS) : SH := [[(b, dO hb mb D.secs.length D.ops D.armed D.failing D.dead)], [(hb.b, .cells ⟨Xf D.secs ++ hb.sp⟩ 157 (0, 0))], [(mb, .map ⟨es⟩ ck)]]
def cnt (n : Int) : Int := max (n - 1) (-1)
def DS.tick (D : DS) : DS := { D with ops := IntKind.i64.wrap (D.ops + 1), failing := cnt D.failing }
theorem write1 (ρ : Hp) (b : Nat) (hb : HB) (mb xb pb ib n : Nat) (ops armed failing i : Int) (dead : Bool) (es : List MapEntry) (ck : Nat) (blk : Blk) (hb64 : blk.length = 64) (hk : Yq .i64 es) :
  Spec Tryz.prog 230 [.pointer (some ⟨xb, 0, none⟩), .pointer (some ⟨pb, 0, none⟩), .pointer (some ⟨ib, 0, none⟩)] ρ
   [[(b, dO hb mb n ops armed failing dead)], [(mb, .map ⟨es⟩ ck)], [(xb, .cells ⟨blk.map Zr⟩ 157 (0, 0))], [(pb, .cells ⟨[.pointer (some ⟨b, 0, none⟩)]⟩ 26 (0, 0))], [(ib, .cells ⟨[.int .i64 i]⟩ 3 (0, 0))]]
   (fun v ρ' L' => v = .tuple ⟨[]⟩ ∧ ρ' = ρ ∧ ∃ es' ck', Yq .i64 es' ∧ (∀ j, YC es' j = if j = i then some (bv blk) else YC es j) ∧
    L' = [[(b, dO hb mb n ops armed failing dead)], [(mb, .map ⟨es'⟩ ck')], [(xb, .cells ⟨blk.map Zr⟩ 157 (0, 0))], [(pb, .cells ⟨[.pointer (some ⟨b, 0, none⟩)]⟩ 26 (0, 0))], [(ib, .cells ⟨[.int .i64 i]⟩ 3 (0, 0))]]) := by
 refine Za Tryz.func230 rfl rfl rfl fun u R => ?_
 simp only [Zg, kA, dO]
 have hl : (blk.map Zr).length = 64 := by simpa using hb64
 repeat' (first | refine zW ?_ | intro _)
 refine tc_draw 6 (by decide +kernel) (by decide +kernel) ?_
 repeat' (first | (refine jLd ?_; refine sLd ?_) | (refine jFa ?_; refine sFa ?_) | (refine jNc ?_; refine sNc ?_) | (refine j_gd ?_; first | refine sWant ?_ | refine sSkip ?_ | refine sSkipU ?_))
 all_goals refine ts_nil ?_
 refine Xx rfl rfl rfl hk (fun es' ck' h1 h2 => ?_)
 repeat' (first | refine zW ?_ | intro _)
 exact qE ⟨rfl, rfl, es', ck', h1, h2, rfl⟩
def DS.write (D : DS) (i : Int) (blk : Blk) : DS × Int :=
 if D.dead then (D, 9) else if i < 0 ∨ (D.secs.length : Int) ≤ i then (D, 2)
 else if D.armed = 0 then ({ D.tick with dead := true, secs := putC D.secs i.toNat blk }, 9)
 else if D.failing = 0 then (D.tick, 8)
 else ({ D.tick with armed := cnt D.armed, secs := putC D.secs i.toNat blk }, 0)
theorem dwrite_spec (ρ : Hp) (b : Nat) (hb : HB) (mb : Nat) (es : List MapEntry) (ck : Nat) (D : DS) (i : Int) (blk : Blk) (hb64 : blk.length = 64) (hD : D.Ok) (hm : MapOk D.secs es) :
  Spec Tryz.prog 162 [.pointer (some ⟨b, 0, none⟩), .int .i64 i, bv blk] ρ (Wd b hb mb es ck D)
   (fun v ρ' L' => v = .int .i64 (D.write i blk).2 ∧ ρ' = ρ ∧ ∃ es' ck', MapOk (D.write i blk).1.secs es' ∧ L' = Wd b hb mb es' ck' (D.write i blk).1) := by
 obtain ⟨s, ops, armed, failing, dead⟩ := D
 obtain ⟨hs, a1, a2, f1, f2⟩ := hD
 dsimp only at hs a1 a2 f1 f2 hm
 have hl : (blk.map Zr).length = 64 := by simpa using hb64
 have hk := hm.keys
 cases dead with
 | true =>
  have he : DS.write ⟨s, ops, armed, failing, true⟩ i blk = (⟨s, ops, armed, failing, true⟩, 9) := by simp [DS.write]
  simp only [he]
  refine Za Tryz.func162 rfl rfl rfl fun u R => ?_
  simp only [Zg, kA, Wd, bv]
  repeat' (first | (refine Zb (.func 231) ?_; refine qR rfl rfl (does_dead _ _ _ _ _ _ _ _ _ _ _) ?_; try simp only [kA]) | refine zW ?_ | intro _)
  exact qE ⟨rfl, rfl, es, ck, hm, rfl⟩
 | false =>
  by_cases hi : i < 0 ∨ (s.length : Int) ≤ i
  ·have he : DS.write ⟨s, ops, armed, failing, false⟩ i blk = (⟨s, ops, armed, failing, false⟩, 2) := by simp [DS.write, hi]
   simp only [he]
   refine Za Tryz.func162 rfl rfl rfl fun u R => ?_
   simp only [Zg, kA, Wd, bv]
   repeat' (first | (refine Zb (.func 231) ?_; refine qR rfl rfl (does_arg _ _ _ _ _ _ _ _ _ _ _ hi) ?_; try simp only [kA]) | refine zW ?_ | intro _)
   exact qE ⟨rfl, rfl, es, ck, hm, rfl⟩
  ·have hi0 : 0 ≤ i := by omega
   have hi1 : i < s.length := by omega
   have hlen : (putC s i.toNat blk).length = s.length := XM
   have hheld : Xf (putC s i.toNat blk) = Xf s := heldC_putC (by omega)
   by_cases ha : armed = 0
   ·subst ha
    have he : DS.write ⟨s, ops, 0, failing, false⟩ i blk = (⟨putC s i.toNat blk, IntKind.i64.wrap (ops + 1), 0, cnt failing, true⟩, 9) := by simp [DS.write, hi, DS.tick]
    simp only [he]
    refine Za Tryz.func162 rfl rfl rfl fun u R => ?_
    simp only [Zg, kA, Wd, bv, hlen, hheld]
    repeat' (first | (refine Zb (.func 231) ?_; refine qC rfl rfl (does_dies _ _ _ _ _ _ _ _ _ _ _ _ _ hi0 hi1 f1 f2 (write1 _ _ _ _ _ _ _ _ _ _ _ _ _ _ _ blk hb64 hk)) ?_; rintro v ρ' L' hle ⟨rfl, v0, h0, rfl, es', ck', h1, h2, rfl⟩ <;> (try simp only [kA])) | refine zW ?_ | intro _)
    exact qE ⟨rfl, rfl, es', ck', hm.put hi0 hi1 h1 h2, rfl⟩
   ·by_cases hf : failing = 0
    ·subst hf
     have he : DS.write ⟨s, ops, armed, 0, false⟩ i blk = (⟨s, IntKind.i64.wrap (ops + 1), armed, -1, false⟩, 8) := by simp [DS.write, hi, DS.tick, ha, cnt]
     simp only [he]
     refine Za Tryz.func162 rfl rfl rfl fun u R => ?_
     simp only [Zg, kA, Wd, bv]
     repeat' (first | (refine Zb (.func 231) ?_; refine qR rfl rfl (does_fail_w _ _ _ _ _ _ _ _ _ _ _ hi0 hi1 ha) ?_; try simp only [kA]) | refine zW ?_ | intro _)
     exact qE ⟨rfl, rfl, es, ck, hm, rfl⟩
    ·have he : DS.write ⟨s, ops, armed, failing, false⟩ i blk = (⟨putC s i.toNat blk, IntKind.i64.wrap (ops + 1), cnt armed, cnt failing, false⟩, 0) := by simp [DS.write, hi, DS.tick, ha, hf]
     simp only [he]
     refine Za Tryz.func162 rfl rfl rfl fun u R => ?_
     simp only [Zg, kA, Wd, bv, hlen, hheld]
     repeat' (first | (refine Zb (.func 231) ?_; refine qC rfl rfl (does_ok_w _ _ _ _ _ _ _ _ _ _ _ _ _ _ _ hi0 hi1 hf f1 f2 ha a1 a2 (write1 _ _ _ _ _ _ _ _ _ _ _ _ _ _ _ blk hb64 hk)) ?_; rintro v ρ' L' hle ⟨rfl, v0, h0, rfl, es', ck', h1, h2, rfl⟩ <;> (try simp only [kA])) | refine zW ?_ | intro _)
     exact qE ⟨rfl, rfl, es', ck', hm.put hi0 hi1 h1 h2, rfl⟩
end Go.Proofs.E
namespace Go.Proofs.E
open Go
set_option linter.unusedVariables false
set_option linter.unusedSimpArgs false
set_option linter.unusedSectionVars false
set_option maxRecDepth 4000
set_option maxHeartbeats 1000000
attribute [local irreducible] Yl TL TC TE Spec ZK R1 Hp.le EnvLe TS TR YS Zp TP QP
theorem read1 (ρ : Hp) (b : Nat) (hb : HB) (mb pb ib rb : Nat) (s : Xi) (ops armed failing : Int) (i : Nat) (dead : Bool) (es : List MapEntry) (ck : Nat) (r : List Value) (hr : r.length = 64) (hs : SecsOk s) (hm : MapOk s es) (hi : i < s.length) :
  Spec Tryz.prog 238 [.pointer (some ⟨pb, 0, none⟩), .pointer (some ⟨ib, 0, none⟩), .pointer (some ⟨rb, 0, none⟩)] ρ
   [[(b, dO hb mb s.length ops armed failing dead)], [(hb.b, .cells ⟨Xf s ++ hb.sp⟩ 157 (0, 0))], [(mb, .map ⟨es⟩ ck)], [(pb, .cells ⟨[.pointer (some ⟨b, 0, none⟩)]⟩ 26 (0, 0))], [(ib, .cells ⟨[.int .i64 i]⟩ 3 (0, 0))], [(rb, .cells ⟨r⟩ 157 (0, 0))]]
   (fun v ρ' L' => v = .tuple ⟨[]⟩ ∧ ρ' = ρ ∧ L' = [[(b, dO hb mb s.length ops armed failing dead)], [(hb.b, .cells ⟨Xf s ++ hb.sp⟩ 157 (0, 0))], [(mb, .map ⟨es⟩ ck)], [(pb, .cells ⟨[.pointer (some ⟨b, 0, none⟩)]⟩ 26 (0, 0))], [(ib, .cells ⟨[.int .i64 i]⟩ 3 (0, 0))], [(rb, .cells ⟨(says1 s[i]).map Zr⟩ 157 (0, 0))]]) := by
 have hk := hm.keys
 have hat := hm.at hi
 have hh : (s[i].1.map Zr).length = 64 := by simpa using hs.held s[i] (List.getElem_mem hi)
 have ht : ((Xf s ++ hb.sp).drop (0 + i * 64)).take 64 = (s[i].1).map Zr := by rw [Nat.zero_add]; exact heldC_take' hb.sp hs.held hi
 have hlen := heldC_length' hb.sp hs.held
 have o1 := ZY
 cases hc : s[i].2 with
 | none =>
  have hsay : says1 s[i] = s[i].1 := by simp [says1, hc]
  rw [hc] at hat
  simp only [Option.map_none] at hat
  have hone := ZY s[i].1
  refine Za Tryz.func238 rfl rfl rfl fun u R => ?_
  simp only [Zg, kA, dO, hsay]
  repeat' (first | refine zW ?_ | intro _)
  refine tpZ [0,1,2,3,4,5,6,7,8] (.e 9 [] (.e 10 [] (.f [11] .o))) ?_
  repeat' (refine iT ?_; first | refine rA ?_ | ((refine iE ?_; refine rE ?_) <;> ((try refine Zn ?_); (first | (refine Yj ?_; try intro _)) <;> ((try simp only [kA]); refine Zi ?_; refine rN ?_))))
  repeat' (first | refine zW ?_ | intro _)
  refine tc_draw 7 (by decide +kernel) (by decide +kernel) ?_
  repeat' (first | (refine jLd ?_; refine sLd ?_) | (refine jFa ?_; refine sFa ?_) | (refine jNc ?_; refine sNc ?_) | (refine jIa ?_; refine sIa ?_) | (refine j_gd ?_; first | refine sWant ?_ | refine sSkip ?_ | refine sSkipU ?_))
  all_goals refine ts_nil ?_
  repeat' (first | refine zW ?_ | intro _)
  exact qE ⟨rfl, rfl, rfl⟩
 | some c =>
  have hsay : says1 s[i] = c := by simp [says1, hc]
  have hcl : (c.map Zr).length = 64 := by simpa using hs.cached s[i] (List.getElem_mem hi) c hc
  rw [hc] at hat
  simp only [Option.map_some] at hat
  have hone := ZY c
  refine Za Tryz.func238 rfl rfl rfl fun u R => ?_
  simp only [Zg, kA, dO, hsay]
  repeat' (first | refine zW ?_ | intro _)
  refine tpZ [0,1,2,3,4,5,6,7,8] (.e 9 [] (.e 10 [] (.f [11] .o))) ?_
  repeat' (refine iT ?_; first | refine rA ?_ | ((refine iE ?_; refine rE ?_) <;> ((try refine Zn ?_); (first | (refine Yj ?_; try intro _)) <;> ((try simp only [kA]); refine Zi ?_; refine rN ?_))))
  repeat' (first | refine zW ?_ | intro _)
  exact qE ⟨rfl, rfl, rfl⟩
def YQ : Blk := List.replicate 64 0
theorem zblk_cells : List.replicate 64 (Value.int .u8 0) = YQ.map Zr := by rfl
def DS.read (D : DS) (i : Int) : DS × Blk × Int :=
 if D.dead then (D, YQ, 9) else if i < 0 ∨ (D.secs.length : Int) ≤ i then (D, YQ, 2)
 else if D.failing = 0 then (D.tick, YQ, 8)
 else (D.tick, says1 (D.secs[i.toNat]?.getD (YQ, none)), 0)
theorem dread_spec (ρ : Hp) (b : Nat) (hb : HB) (mb : Nat) (es : List MapEntry) (ck : Nat) (D : DS) (i : Int) (hD : D.Ok) (hm : MapOk D.secs es) :
  Spec Tryz.prog 173 [.pointer (some ⟨b, 0, none⟩), .int .i64 i] ρ (Wd b hb mb es ck D)
   (fun v ρ' L' => v = .tuple ⟨[bv (D.read i).2.1, .int .i64 (D.read i).2.2]⟩ ∧ ρ' = ρ ∧ L' = Wd b hb mb es ck (D.read i).1) := by
 obtain ⟨s, ops, armed, failing, dead⟩ := D
 obtain ⟨hs, a1, a2, f1, f2⟩ := hD
 dsimp only at hs a1 a2 f1 f2 hm
 have hz0 : (List.replicate 64 (Value.int .u8 0)).length = 64 := by rfl
 have hz64 : (List.replicate 64 (Value.int .u8 0)).all (·.oneCell') = true := by rfl
 cases dead with
 | true =>
  have he : DS.read ⟨s, ops, armed, failing, true⟩ i = (⟨s, ops, armed, failing, true⟩, YQ, 9) := by simp [DS.read]
  simp only [he]
  refine Za Tryz.func173 rfl rfl rfl fun u R => ?_
  simp only [Zg, kA, Wd, bv, ← zblk_cells]
  repeat' (first | (refine Zb (.func 231) ?_; refine qR rfl rfl (does_dead _ _ _ _ _ _ _ _ _ _ _) ?_; try simp only [kA]) | refine zW ?_ | intro _)
  exact qE ⟨rfl, rfl, rfl⟩
 | false =>
  by_cases hi : i < 0 ∨ (s.length : Int) ≤ i
  ·have he : DS.read ⟨s, ops, armed, failing, false⟩ i = (⟨s, ops, armed, failing, false⟩, YQ, 2) := by simp [DS.read, hi]
   simp only [he]
   refine Za Tryz.func173 rfl rfl rfl fun u R => ?_
   simp only [Zg, kA, Wd, bv, ← zblk_cells]
   repeat' (first | (refine Zb (.func 231) ?_; refine qR rfl rfl (does_arg _ _ _ _ _ _ _ _ _ _ _ hi) ?_; try simp only [kA]) | refine zW ?_ | intro _)
   exact qE ⟨rfl, rfl, rfl⟩
  ·have hi0 : 0 ≤ i := by omega
   have hi1 : i < s.length := by omega
   by_cases hf : failing = 0
   ·subst hf
    have he : DS.read ⟨s, ops, armed, 0, false⟩ i = (⟨s, IntKind.i64.wrap (ops + 1), armed, -1, false⟩, YQ, 8) := by simp [DS.read, hi, DS.tick, cnt]
    simp only [he]
    refine Za Tryz.func173 rfl rfl rfl fun u R => ?_
    simp only [Zg, kA, Wd, bv, ← zblk_cells]
    repeat' (first | (refine Zb (.func 231) ?_; refine qR rfl rfl (does_fail_r _ _ _ _ _ _ _ _ _ hi0 hi1) ?_; try simp only [kA]) | refine zW ?_ | intro _)
    exact qE ⟨rfl, rfl, rfl⟩
   ·obtain ⟨k, rfl⟩ : ∃ k : Nat, i = k := ⟨i.toNat, by omega⟩
    have hk : k < s.length := by omega
    have hsay : (says1 s[k]).length = 64 := by
     unfold says1
     cases hc : s[k].2 with
     | none => exact hs.held s[k] (List.getElem_mem hk)
     | some c => exact hs.cached s[k] (List.getElem_mem hk) c hc
    have hsl : ((says1 s[k]).map Zr).length = 64 := by simpa using hsay
    have hone := ZY (says1 s[k])
    have he : DS.read ⟨s, ops, armed, failing, false⟩ (k : Int) = (⟨s, IntKind.i64.wrap (ops + 1), armed, cnt failing, false⟩, says1 s[k], 0) := by simp [DS.read, hi, DS.tick, hf, hk]
    simp only [he]
    refine Za Tryz.func173 rfl rfl rfl fun u R => ?_
    simp only [Zg, kA, Wd, bv]
    repeat' (first | (refine Zb (.func 231) ?_; refine qC rfl rfl (does_ok_r _ _ _ _ _ _ _ _ _ _ _ _ _ hi0 hi1 hf f1 f2 (read1 _ _ _ _ _ _ _ _ _ _ _ _ _ _ _ _ hz0 hs hm hk)) ?_; rintro v ρ' L' hle ⟨rfl, v0, h0, rfl, rfl⟩ <;> (try simp only [kA])) | refine zW ?_ | intro _)
    exact qE ⟨rfl, rfl, rfl⟩
end Go.Proofs.E
namespace Go.Proofs.E
open Go
set_option linter.unusedVariables false
set_option linter.unusedSimpArgs false
set_option linter.unusedSectionVars false
set_option maxRecDepth 4000
set_option maxHeartbeats 1000000
attribute [local irreducible] Yl TL TC TE Spec ZK R1 Hp.le EnvLe TS TR YS Zp
def isP (s : Xi) (i : Nat) : Bool := ((s[i]?).bind (·.2)).isSome
def YI (s : Xi) (k : Nat) : List Nat := (List.range k).filter (isP s)
def pend (s : Xi) : List Nat := YI s s.length
theorem pendTo_succ_t {s : Xi} {k : Nat} (h : isP s k = true) : YI s (k + 1) = YI s k ++ [k] := by simp [YI, List.range_succ, h]
theorem pendTo_succ_f {s : Xi} {k : Nat} (h : isP s k = false) : YI s (k + 1) = YI s k := by simp [YI, List.range_succ, h]
theorem pendTo_pre {s : Xi} {k m : Nat} (h : k ≤ m) : YI s k <+: YI s m := by
 induction m with
 | zero =>
  have : k = 0 := by omega
  subst this; exact List.prefix_refl _
 | succ m ih =>
  by_cases e : k = m + 1
  ·subst e; exact List.prefix_refl _
  ·refine (ih (by omega)).trans ?_
   cases hp : isP s m
   ·rw [pendTo_succ_f hp]; exact List.prefix_refl _
   ·rw [pendTo_succ_t hp]; exact List.prefix_append _ _
def natE (i : Nat) : List Value := [.int .i64 i]
theorem pending1_iter (ρ0 : Hp) (b : Nat) (hb : HB) (mb bx : Nat) (s : Xi) (ops armed failing : Int) (dead : Bool) (es : List MapEntry) (ck : Nat) (hm : MapOk s es) (hs : SecsOk s) :
  Iter Tryz.prog 280 [] [.pointer (some ⟨bx, 0, none⟩)] natE ρ0
   [[(bx, .cells ⟨[.pointer (some ⟨b, 0, none⟩)]⟩ 26 (0, 0))], [(b, dO hb mb s.length ops armed failing dead)], [(mb, .map ⟨es⟩ ck)]] (pend s) := by
 intro l J Jx hY ρ Lj hle hJ
 refine Za Tryz.func280 rfl rfl rfl fun u R => ?_
 simp only [Zg, kA, dO]
 have hk := hm.keys
 have hlen := hs.len
 repeat' (first | refine zW ?_ | intro _)
 refine tc_loop_e (fun (y : Nat × Hp × SH) => ⟨[(0, .func (.yield l) ⟨[]⟩ ⟨[]⟩), (1, .pointer (some ⟨bx, 0, none⟩)), (10, .int .i64 s.length), (11, .int .i64 y.1)], y.2.1,
   [[(bx, .cells ⟨[.pointer (some ⟨b, 0, none⟩)]⟩ 26 (0, 0))], [(b, dO hb mb s.length ops armed failing dead)], [(mb, .map ⟨es⟩ ck)]] ++ y.2.2 ++ R⟩)
  (fun y => y.1 ≤ s.length ∧ ρ.le y.2.1 ∧ J (YI s y.1) y.2.1 y.2.2) (fun y => s.length - y.1) (0, ρ, Lj) rfl ⟨by simp, Hp.le_refl _, hJ⟩
  Zc rfl tk inferInstance ?_
 rintro ⟨k, ρ1, L1⟩ ⟨h1, h2, h3⟩
 dsimp only at h1 h2 h3 ⊢
 simp only [kA, dO]
 by_cases hlt : k < s.length
 ·have hat := hm.at hlt
  cases hc : s[k].2 with
  | none =>
   rw [hc] at hat
   simp only [Option.map_none] at hat
   have hp : isP s k = false := by simp [isP, hlt, hc]
   repeat' (first | refine zW ?_ | intro _)
   refine te_round_e (Lm := [_, _, _] ++ L1) (R := R) (k + 1, ρ1, L1) rfl ⟨by omega, h2, by dsimp only; rw [pendTo_succ_f hp]; exact h3⟩ Zc rfl tk inferInstance (by dsimp only; omega)
  | some c =>
   rw [hc] at hat
   simp only [Option.map_some] at hat
   have hp : isP s k = true := by simp [isP, hlt, hc]
   have hsub := pendTo_succ_t hp
   have hpre : YI s k ++ [k] <+: pend s := by rw [← hsub]; exact pendTo_pre (by omega)
   have hone := ZY c
   have hcl : (c.map Zr).length = 64 := by simpa using hs.cached s[k] (List.getElem_mem hlt) c hc
   have hy := hY (YI s k) k ρ1 L1 hpre (Hp.le_trans hle h2) h3
   unfold dO at hy
   repeat' (first | (refine Zb (.tmp 25) ?_; refine qY rfl rfl (hy) ?_; rintro v ρ' L' hle ⟨Lj', rfl, ⟨rfl, hj⟩ | ⟨rfl, hj⟩⟩ <;> (try simp only [kA])) | refine zW ?_ | intro _)
   ·refine te_round_e (Lm := [_, _, _] ++ Lj') (R := R) (k + 1, ρ', Lj') rfl ⟨by omega, Hp.le_trans h2 hle, by dsimp only; rw [hsub]; exact hj⟩ Zc rfl tk inferInstance (by dsimp only; omega)
   ·exact te_end rfl rfl rfl (res0 rfl) (Hp.le_trans h2 hle) tk (by infer_instance) ⟨Lj', rfl, .inr hj⟩
 ·have hk2 : k = s.length := by omega
  subst hk2
  repeat' (first | refine zW ?_ | intro _)
  exact te_end rfl rfl rfl (res0 rfl) h2 tk (by infer_instance) ⟨L1, rfl, .inl h3⟩
theorem pending_spec (ρ : Hp) (b : Nat) : Spec Tryz.prog 205 [.pointer (some ⟨b, 0, none⟩)] ρ [] (fun v ρ' L' => ∃ bx, v = .func (.func 280) ⟨[]⟩ ⟨[.pointer (some ⟨bx, 0, none⟩)]⟩ ∧ ρ' = ρ ∧ L' = [[(bx, .cells ⟨[.pointer (some ⟨b, 0, none⟩)]⟩ 26 (0, 0))]]) := by
 refine Za Tryz.func205 rfl rfl rfl fun u R => ?_
 simp only [Zg, kA]
 repeat' (first | refine zW ?_ | intro _)
 exact qE ⟨_, rfl, rfl, rfl⟩
theorem pendTo_length (s : Xi) (k : Nat) : (YI s k).length ≤ k := by
 unfold YI
 refine Nat.le_trans (List.length_filter_le _ _) (by simp)
theorem pend_length {s : Xi} (h : SecsOk s) : (pend s).length ≤ 2048 := Nat.le_trans (pendTo_length s _) h.len
theorem filter_range_pre (p : Nat → Bool) : ∀ (n : Nat) (pre : List Nat) (y : Nat), (pre ++ [y]) <+: (List.range n).filter p → pre = (List.range y).filter p ∧ p y = true ∧ y < n
 | 0, pre, y, h => by simp at h
 | n + 1, pre, y, h => by
  rw [List.range_succ, List.filter_append] at h
  cases hp : p n with
  | false =>
   have h' : (pre ++ [y]) <+: (List.range n).filter p := by simpa [hp] using h
   obtain ⟨h1, h2, h3⟩ := filter_range_pre p n pre y h'
   exact ⟨h1, h2, by omega⟩
  | true =>
   have h' : (pre ++ [y]) <+: (List.range n).filter p ++ [n] := by simpa [hp] using h
   by_cases hl : (pre ++ [y]).length ≤ ((List.range n).filter p).length
   ·have h2 : (pre ++ [y]) <+: (List.range n).filter p := List.prefix_of_prefix_length_le h' (List.prefix_append _ _) hl
    obtain ⟨h1, h2, h3⟩ := filter_range_pre p n pre y h2
    exact ⟨h1, h2, by omega⟩
   ·have hlen := h'.length_le
    have he : pre ++ [y] = (List.range n).filter p ++ [n] := h'.eq_of_length (by simp at hl hlen ⊢; omega)
    obtain ⟨h1, h2⟩ := List.append_inj' he rfl
    simp only [List.cons.injEq, and_true] at h2
    subst h2
    exact ⟨h1, hp, by omega⟩
def setAfter (keep : Nat → Bool) (s : Xi) (m : Nat) : Xi := s.mapIdx fun i p => if isP s i && decide ((YI s i).length < m) && keep (YI s i).length then (p.2.getD p.1, p.2) else p
def settled (keep : Nat → Bool) (s : Xi) : Xi := (setAfter keep s (pend s).length).map fun p => (p.1, none)
theorem Wa {keep s m} : (setAfter keep s m).length = s.length := by simp [setAfter]
theorem ZX {keep s} : (settled keep s).length = s.length := by simp [settled, Wa]
theorem setAfter_zero {keep : Nat → Bool} {s : Xi} : setAfter keep s 0 = s := by
 unfold setAfter
 apply List.ext_getElem (by simp)
 intro i h1 h2
 simp
theorem heldC_settled {keep s} : Xf (settled keep s) = Xf (setAfter keep s (pend s).length) := by simp [Xf, settled, Function.comp_def]
theorem pendTo_lt {s : Xi} {i j : Nat} (h : i < j) (hp : isP s i = true) : (YI s i).length < (YI s j).length := by
 have := (pendTo_pre (s := s) (k := i + 1) (m := j) (by omega)).length_le
 rw [pendTo_succ_t hp] at this
 simp at this; omega
theorem setAfter_succ {keep : Nat → Bool} {s : Xi} {y : Nat} {h c : Blk} (hy : s[y]? = some (h, some c)) :
  setAfter keep s ((YI s y).length + 1) = if keep (YI s y).length then (setAfter keep s (YI s y).length).set y (c, some c) else setAfter keep s (YI s y).length := by
 have hlt : y < s.length := (List.getElem?_eq_some_iff.1 hy).1
 have hyv : s[y] = (h, some c) := (List.getElem?_eq_some_iff.1 hy).2
 have hpy : isP s y = true := by simp [isP, hy]
 have key : ∀ i, i < s.length → i ≠ y → isP s i = true → ((YI s i).length < (YI s y).length + 1 ↔ (YI s i).length < (YI s y).length) := by
  intro i hi hne hp
  rcases Nat.lt_trichotomy i y with h1 | h1 | h1
  ·have := pendTo_lt h1 hp; omega
  ·exact absurd h1 hne
  ·have := pendTo_lt h1 hpy; omega
 apply List.ext_getElem
 ·split <;> simp [setAfter]
 ·intro i h1 h2
  have hi : i < s.length := by simpa [setAfter] using h1
  by_cases e : i = y
  ·subst e
   split
   ·rename_i hk
    simp [setAfter, hpy, hk, hyv]
   ·rename_i hk
    simp [setAfter, hpy, hk]
  ·have hne : y ≠ i := fun h => e h.symm
   have : ∀ (q : Xi) (hq : i < q.length) (v : Blk × Option Blk) (hq2 : i < (q.set y v).length), (q.set y v)[i] = q[i] := fun q hq v hq2 => by rw [List.getElem_set_ne hne]
   cases hp : isP s i with
   | false => split <;> simp [setAfter, hp, List.getElem_set_ne hne]
   | true =>
    have hk := key i hi e hp
    split <;> simp [setAfter, hp, List.getElem_set_ne hne, hk]
theorem SecsOk.setAfter {keep : Nat → Bool} {s : Xi} {m : Nat} (h : SecsOk s) : SecsOk (setAfter keep s m) := by
 have hm : ∀ p ∈ E.setAfter keep s m, ∃ q ∈ s, p.2 = q.2 ∧ (p.1 = q.1 ∨ q.2 = some p.1) := by
  intro p hp
  obtain ⟨i, hi, rfl⟩ := List.mem_iff_getElem.1 hp
  have hi' : i < s.length := by simpa [E.setAfter] using hi
  refine ⟨s[i], List.getElem_mem hi', ?_⟩
  simp only [E.setAfter, List.getElem_mapIdx]
  split
  ·refine ⟨rfl, ?_⟩
   cases hc : s[i].2 with
   | none => exact .inl rfl
   | some c => exact .inr rfl
  ·exact ⟨rfl, .inl rfl⟩
 refine ⟨by rw [Wa]; exact h.len, by rw [Wa]; exact h.pos, fun p hp => ?_, fun p hp c hc => ?_⟩
 ·obtain ⟨q, hq, h1, h2 | h2⟩ := hm p hp
  ·rw [h2]; exact h.held q hq
  ·exact h.cached q hq _ h2
 ·obtain ⟨q, hq, h1, h2⟩ := hm p hp
  exact h.cached q hq c (by rw [← h1]; exact hc)
theorem SecsOk.settled {keep : Nat → Bool} {s : Xi} (h : SecsOk s) : SecsOk (settled keep s) := by
 have h1 := h.setAfter (keep := keep) (m := (pend s).length)
 refine ⟨by rw [ZX]; exact h.len, by rw [ZX]; exact h.pos, fun p hp => ?_, fun p hp c hc => ?_⟩
 ·obtain ⟨q, hq, rfl⟩ := List.mem_map.1 hp
  exact h1.held q hq
 ·obtain ⟨q, hq, rfl⟩ := List.mem_map.1 hp
  cases hc
theorem Yf {keep s} : YD (settled keep s) := fun p hp => by
 obtain ⟨q, hq, rfl⟩ := List.mem_map.1 hp
 rfl
theorem settle_spec (ρ : Hp) (b : Nat) (hb : HB) (mb : Nat) (es : List MapEntry) (ck : Nat) (s : Xi) (ops armed failing : Int) (dead : Bool) (kf : Nat) (kc : List Value) (Xk : SH) (keep : Nat → Bool) [hkF : ZJ Tryz.prog kf]
  (hK : ∀ nth, nth < 2048 → Spec Tryz.prog kf ([.int .i64 (nth : Nat)] ++ kc) ρ Xk (fun v ρ' L' => v = .bool (keep nth) ∧ ρ' = ρ ∧ L' = Xk)) (hs : SecsOk s) (hm : MapOk s es) :
  Spec Tryz.prog 130 [.pointer (some ⟨b, 0, none⟩), .func (.func kf) ⟨[]⟩ ⟨kc⟩] ρ ([[(b, dO hb mb s.length ops armed failing dead)], [(hb.b, .cells ⟨Xf s ++ hb.sp⟩ 157 (0, 0))], [(mb, .map ⟨es⟩ ck)]] ++ Xk)
   (fun v ρ' L' => v = .tuple ⟨[]⟩ ∧ ρ.le ρ' ∧ ∃ mb' ck', L' = [[(b, dO hb mb' s.length ops armed failing dead)], [(hb.b, .cells ⟨Xf (settled keep s) ++ hb.sp⟩ 157 (0, 0))], [(mb', .map ⟨[]⟩ ck')]] ++ Xk) := by
 rw [heldC_settled]
 have hpl := pend_length hs
 have hk := hm.keys
 refine Za Tryz.func130 rfl rfl rfl fun u R => ?_
 simp only [Zg, kA, dO]
 repeat' (first | (refine Zb (.func 205) ?_; refine qC rfl rfl (pending_spec _ _) ?_; rintro v ρ' L' hle ⟨bx, rfl, rfl, rfl⟩ <;> (try simp only [kA])) | refine zW ?_ | intro _)
 rename_i bd bk bn
 refine Vh (S := [[(bx, .cells ⟨[.pointer (some ⟨b, 0, none⟩)]⟩ 26 (0, 0))], [(b, dO hb mb s.length ops armed failing dead)], [(mb, .map ⟨es⟩ ck)]])
  (L0 := [[(bd, .cells ⟨[.pointer (some ⟨b, 0, none⟩)]⟩ 26 (0, 0))], [(bk, .cells ⟨[.func (.func kf) ⟨[]⟩ ⟨kc⟩]⟩ 230 (0, 0))], [(bn, .cells ⟨[.int .i64 (0 : Nat)]⟩ 3 (0, 0))], [(hb.b, .cells ⟨Xf (setAfter keep s 0) ++ hb.sp⟩ 157 (0, 0))]] ++ Xk) (R := R) (R0 := ?r0) rfl rfl (pending1_iter ρ' b hb mb bx s ops armed failing dead es ck hm hs) (Hp.le_refl _) (fun _ => rfl) rfl
  (fun pre ρ1 Lu => ρ1 = ρ' ∧ Lu = [[(bd, .cells ⟨[.pointer (some ⟨b, 0, none⟩)]⟩ 26 (0, 0))], [(bk, .cells ⟨[.func (.func kf) ⟨[]⟩ ⟨kc⟩]⟩ 230 (0, 0))], [(bn, .cells ⟨[.int .i64 (pre.length : Nat)]⟩ 3 (0, 0))], [(hb.b, .cells ⟨Xf (setAfter keep s pre.length) ++ hb.sp⟩ 157 (0, 0))]] ++ Xk) (fun _ _ _ => False) ?k1 ?k2 ⟨rfl, rfl⟩ ?round ?done ?stop
 case k1 => unfold dO; exact tk
 case k2 => rw [setAfter_zero]; exact tk
 case stop => rintro D0 c ρ' Lu _ hf; exact hf.elim
 case round =>
  rintro l tm r pre y ρ1 Lu u R' hpre hle' ⟨rfl, rfl⟩ hr hrec
  simp only [envP, natE, kA]
  have hlen := hpre.length_le
  simp only [List.length_append, List.length_singleton] at hlen
  obtain ⟨hpe, hpy, hy⟩ := filter_range_pre _ _ _ _ hpre
  repeat' (first | refine zW ?_ | intro _)
  refine te_begin rfl hr (fun r' hbz hrec' => ?_)
  have hpl2 : (YI s y).length = pre.length := by rw [hpe]; rfl
  obtain ⟨hd0, c, hsy⟩ : ∃ h c, s[y]? = some (h, some c) := by
   simp only [isP, Option.isSome_iff_exists] at hpy
   obtain ⟨c, hc⟩ := hpy
   rw [List.getElem?_eq_getElem hy] at hc ⊢
   simp only [Option.bind_some] at hc
   exact ⟨s[y].1, c, by rw [← hc]⟩
  have hsv : s[y] = (hd0, some c) := (List.getElem?_eq_some_iff.1 hsy).2
  have hat := hm.at hy
  rw [hsv] at hat
  simp only [Option.map_some] at hat
  have hc64 : c.length = 64 := hs.cached s[y] (List.getElem_mem hy) c (by rw [hsv])
  have hcl : (c.map Zr).length = 64 := by simpa using hc64
  have hone := ZY c
  have hsa := hs.setAfter (keep := keep) (m := pre.length)
  have hhl : (Xf (setAfter keep s pre.length) ++ hb.sp).length = s.length * 64 + hb.sp.length := by rw [heldC_length' _ hsa.held, Wa]
  have hnext := setAfter_succ (keep := keep) hsy
  rw [hpl2] at hnext
  have hst := stc_heldC' hb.sp (s := setAfter keep s pre.length) (i := y) (b := c) (some c) hsa.held hc64 (by rw [Wa]; exact hy)
  repeat' (first | (refine Zb (.tmp 9) ?_; refine qC rfl rfl (hK pre.length (by omega)) ?_; rintro v ρ' L' hle ⟨rfl, rfl, hx⟩ <;> (try simp only [kA, hx])) | refine zW ?_ | intro _)
  cases hkp : keep pre.length with
  | false =>
   rw [hkp] at hnext
   simp only [Bool.false_eq_true, if_false] at hnext
   repeat' (first | refine zW ?_ | intro _)
   refine ZH [(l, .loop r')] ?_
   refine WH (Lu := [[(bd, .cells ⟨[.pointer (some ⟨b, 0, none⟩)]⟩ 26 (0, 0))], [(bk, .cells ⟨[.func (.func kf) ⟨[]⟩ ⟨kc⟩]⟩ 230 (0, 0))], [(bn, .cells ⟨[.int .i64 (pre.length + 1 : Nat)]⟩ 3 (0, 0))], [(hb.b, .cells ⟨Xf (setAfter keep s pre.length) ++ hb.sp⟩ 157 (0, 0))]] ++ Xk) rfl (Hp.le_refl _) ⟨hrec'.tmps.trans hrec.tmps, hrec'.params.trans hrec.params, hrec'.assign.trans hrec.assign, hrec'.body.trans hrec.body⟩ tk tk inferInstance ?_
   refine ⟨rfl, ?_⟩
   simp [hnext]
  | true =>
   rw [hkp] at hnext
   simp only [if_true] at hnext
   rw [← hnext] at hst
   repeat' (first | refine zW ?_ | intro _)
   refine tc_draw 12 (by decide +kernel) (by decide +kernel) ?_
   repeat' (first | (refine jMv ?_; refine sMv ?_) | (refine jLd ?_; refine sLd ?_) | (refine jFa ?_; refine sFa ?_) | (refine jNc ?_; refine sNc ?_) | (refine jIa ?_; refine sIa ?_) | (refine jLu ?_; refine sLu ?_) | (refine j_gd ?_; first | refine sWant ?_ | refine sSkip ?_ | refine sSkipU ?_))
   all_goals refine ts_nil ?_
   repeat' (first | refine zW ?_ | intro _)
   rw [Nat.zero_add, hst]
   refine ZH [(l, .loop r')] ?_
   refine WH (Lu := [[(bd, .cells ⟨[.pointer (some ⟨b, 0, none⟩)]⟩ 26 (0, 0))], [(bk, .cells ⟨[.func (.func kf) ⟨[]⟩ ⟨kc⟩]⟩ 230 (0, 0))], [(bn, .cells ⟨[.int .i64 (pre.length + 1 : Nat)]⟩ 3 (0, 0))], [(hb.b, .cells ⟨Xf (setAfter keep s (pre.length + 1)) ++ hb.sp⟩ 157 (0, 0))]] ++ Xk) rfl (Hp.le_refl _) ⟨hrec'.tmps.trans hrec.tmps, hrec'.params.trans hrec.params, hrec'.assign.trans hrec.assign, hrec'.body.trans hrec.body⟩ tk tk inferInstance ?_
   refine ⟨rfl, ?_⟩
   simp
 case done =>
  rintro D0 ρ1 Lu hle' ⟨rfl, rfl⟩
  simp only [kA, dO]
  repeat' (first | refine zW ?_ | intro _)
  exact XD rfl rfl rfl inferInstance (res0 rfl) (Hp.le_refl _) tk (by infer_instance) ⟨rfl, Hp.le_refl _, _, _, rfl⟩
end Go.Proofs.E
