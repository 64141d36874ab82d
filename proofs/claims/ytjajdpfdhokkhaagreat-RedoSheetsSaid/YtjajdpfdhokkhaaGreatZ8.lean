/- The law RedoSheets. Part 8 of 12. -/
import Derived.Test.YtjajdpfdhokkhaaGreatZ7
namespace Go.Proofs.E
open Go
set_option linter.unusedVariables false
set_option linter.unusedSimpArgs false
set_option linter.unusedSectionVars false
set_option maxRecDepth 4000
set_option maxHeartbeats 1000000
attribute [local irreducible] Yl TL TC TE Spec Xn R1 Hp.le EnvLe TS TR YS Zq
theorem images_spec (ρ : Hp) (s : SV) (l : List Im) (h : AS ρ 7 imV s l) (him : ∀ x ∈ l, Im.In ρ x) (before : Bool) :
  Spec Tryz.prog 180 [.slice s.a s.n s.c, .bool before] ρ [] (fun v ρ' L' => v = .bool (imsOk before l) ∧ ρ' = ρ ∧ L' = []) := by
 have hl := h.at'.len
 have hr := fun bx => risesIm_spec ρ s.a s.n s.c l h.at' h.big bx before him
 refine Zf Tryz.func180 rfl rfl rfl fun u R => ?_
 simp only [ZG, List.cons_append, List.nil_append]
 unfold imsOk
 by_cases h16 : s.n ≤ 16
 ·rw [decide_eq_true (show l.length ≤ 16 by omega), Bool.true_and]
  repeat' (first | (refine Zd (.func 248) ?_; refine qC rfl rfl (hr _) ?_; rintro v ρ' L' hle ⟨rfl, rfl, rfl⟩ <;> (try simp only [kM, kN, kO])) | (refine Zj ?_; first | (refine Zi ?_; refine qQ ?_) | refine Zo ?_) | refine Zc ?_ | (refine Zh ?_; refine Zz ?_) | (refine Zg ?_; refine Zy ?_) | intro _)
  exact qE (L' := []) ⟨rfl, rfl, rfl⟩
 ·rw [decide_eq_false (show ¬ l.length ≤ 16 by omega), Bool.false_and]
  repeat' (first | (refine Zj ?_; first | (refine Zi ?_; refine qQ ?_) | refine Zo ?_) | refine Zc ?_ | (refine Zh ?_; refine Zz ?_) | (refine Zg ?_; refine Zy ?_) | intro _)
  exact qE (L' := []) ⟨rfl, rfl, rfl⟩
theorem rowV_only (r : Row) : decide (r = ⟨r.t, r.id, 0, []⟩) = decide (r.val = 0 ∧ r.note = []) := by
 obtain ⟨t, i, v, n⟩ := r
 simp
theorem step_spec (ρ : Hp) (s : Stp) : Spec Tryz.prog 183 [.agg ⟨stpV s⟩] ρ [] (fun v ρ' L' => v = .bool (Yn s) ∧ ρ' = ρ ∧ L' = []) := by
 obtain ⟨kind, row, bb⟩ := s
 have hck := checkRow_spec ρ row
 have ho := rowV_only row
 unfold Yn onlyOk
 dsimp only
 generalize hP : decide (row.val = 0 ∧ row.note = []) = P at *
 generalize hQ : YJ row = Q at *
 refine Zf Tryz.func183 rfl rfl rfl fun u R => ?_
 simp only [ZG, List.cons_append, List.nil_append]
 cases P <;> cases Q
 all_goals (repeat' (first | (refine iBu ?_; refine ZC (v := .agg ⟨Yx ⟨row.t, row.id, 0, []⟩⟩) (YW rfl rfl) rfl rfl ?_) | (refine iCm ?_; refine ZC (y_eqc_l rfl rfl ho) rfl rfl ?_) | (refine Zd (.func 253) ?_; refine qC rfl rfl (hck) ?_; rintro v ρ' L' hle ⟨rfl, rfl, rfl⟩ <;> (try simp only [kM, kN, kO])) | (refine Zj ?_; first | (refine Zi ?_; refine qQ ?_) | refine Zo ?_) | refine Zc ?_ | (refine Zh ?_; refine Zz ?_) | (refine Zg ?_; refine Zy ?_) | (refine YO ?_; refine ZI rfl rfl (fun hb => ?_) (fun hb => ?_) <;> (try simp only [decide_eq_true_eq, decide_eq_false_iff_not, Bool.not_eq_true, Bool.not_eq_false, beq_iff_eq, bne_iff_ne, ne_eq, decide_eq_decide, Bool.not_eq_eq_eq_not, Bool.not_true, Bool.not_false, beq_eq_false_iff_ne, bne_eq_false_iff_eq, Bool.and_eq_true, Bool.or_eq_true, Bool.and_eq_false_imp, Bool.or_eq_false_iff] at hb)) | (refine Ya ?_; refine ZO rfl (fun hb => ?_) (fun hb => ?_) <;> (try simp only [decide_eq_true_eq, decide_eq_false_iff_not, Bool.not_eq_true, Bool.not_eq_false, beq_iff_eq, bne_iff_ne, ne_eq, decide_eq_decide, Bool.not_eq_eq_eq_not, Bool.not_true, Bool.not_false, beq_eq_false_iff_ne, bne_eq_false_iff_eq, Bool.and_eq_true, Bool.or_eq_true, Bool.and_eq_false_imp, Bool.or_eq_false_iff] at hb)) | intro _))
 all_goals (refine qF (L' := []) ?_; exact ⟨Yi (by clear ho hck; (repeat' split) <;> simp_all <;> omega), rfl, rfl⟩)
def idxI {α : Type} (p : α → Bool) (l : List α) : Int := match l.findIdx? p with | some i => (i : Int) | none => -1
theorem idx_found {α : Type} {p : α → Bool} {l : List α} {k : Nat} (h : k < l.length) (hp : p l[k] = true) (hn : ∀ x ∈ l.take k, p x = false) : l.findIdx? p = some k := by
 rw [List.findIdx?_eq_some_iff_getElem]
 refine ⟨h, hp, fun j hj => ?_⟩
 have := hn l[j] (List.mem_take_iff_getElem.2 ⟨j, by omega, rfl⟩)
 simp [this]
theorem idx_none {α : Type} {p : α → Bool} {l : List α} (hn : ∀ x ∈ l, p x = false) : l.findIdx? p = none := by
 rw [List.findIdx?_eq_none_iff]
 exact hn
theorem take_more {α : Type} {p : α → Prop} {l : List α} {k : Nat} (h : k < l.length) (hp : p l[k]) (hn : ∀ x ∈ l.take k, p x) : ∀ x ∈ l.take (k + 1), p x := fun x hx => by
 rw [List.take_succ_eq_append_getElem h] at hx
 rcases List.mem_append.1 hx with hx | hx
 ·exact hn x hx
 ·rw [List.mem_singleton.1 hx]; exact hp
theorem done1_spec (ρ : Hp) (s : Stp) : Spec Tryz.prog 182 [.agg ⟨stpV s⟩] ρ [] (fun v ρ' L' => v = .bool (!Yn s) ∧ ρ' = ρ ∧ L' = []) := by
 refine Zf Tryz.func182 rfl rfl rfl fun u R => ?_
 simp only [ZG, List.cons_append, List.nil_append]
 repeat' (first | (refine Zd (.func 183) ?_; refine qC rfl rfl (step_spec _ s) ?_; rintro v ρ' L' hle ⟨rfl, rfl, rfl⟩ <;> (try simp only [kM, kN, kO])) | (refine Zj ?_; first | (refine Zi ?_; refine qQ ?_) | refine Zo ?_) | refine Zc ?_ | (refine Zh ?_; refine Zz ?_) | (refine Zg ?_; refine Zy ?_) | intro _)
 exact qE ⟨rfl, rfl, rfl⟩
abbrev numC (nb : Nat) (n : Int) : SH := [[(nb, .cells ⟨[.int .i64 n]⟩ 3 (0, 0))]]
theorem redoes1_spec (ρ : Hp) (nb : Nat) (n : Int) (x : Im) : Spec Tryz.prog 233 [.agg ⟨imV x⟩, .pointer (some ⟨nb, 0, none⟩)] ρ (numC nb n) (fun v ρ' L' => v = .bool (decide (x.page = n)) ∧ ρ' = ρ ∧ L' = numC nb n) := by
 refine Zf Tryz.func233 rfl rfl rfl fun u R => ?_
 simp only [ZG, List.cons_append, List.nil_append]
 repeat' (first | (refine Zj ?_; first | (refine Zi ?_; refine qQ ?_) | refine Zo ?_) | refine Zc ?_ | (refine Zh ?_; refine Zz ?_) | (refine Zg ?_; refine Zy ?_) | intro _)
 refine qF (L' := numC nb n) ?_
 exact ⟨Yi (by simp), rfl, rfl⟩
theorem idxStp_spec (ρ : Hp) (a : Option Addr) (n c : Nat) (l : List Stp) (h : AIn ρ 6 stpV a n l) (hn : n ≤ 1000000)  :
  Spec Tryz.prog 252 [.slice a n c, .func (.func 182) ⟨[]⟩ ⟨[]⟩] ρ [] (fun z ρ' L' => z = .int .i64 (idxI (fun s : Stp => !Yn s) l) ∧ ρ' = ρ ∧ L' = []) := by
 have hl := h.len
 generalize hP : (fun s : Stp => !Yn s) = pp
 refine Zf Tryz.func252 rfl rfl rfl fun u R => ?_
 simp only [ZG, List.cons_append, List.nil_append]
 repeat' (first | (refine Zj ?_; first | (refine Zi ?_; refine qQ ?_) | refine Zo ?_) | refine Zc ?_ | (refine Zh ?_; refine Zz ?_) | (refine Zg ?_; refine Zy ?_) | intro _)
 refine ZL [(0, _), (1, _), (7, _)] (fun (ζ : (Nat)) => [(8, .int .i64 ζ), (4, .int .i64 0)]) (fun (ζ : (Nat)) => ρ) (fun (ζ : (Nat)) => []) (fun (ζ : (Nat)) => ζ ≤ n ∧ ∀ x ∈ l.take ζ, pp x = false) (fun (ζ : (Nat)) => n - ζ) (0) (⟨Nat.zero_le _, by simp⟩) Zn Zn rfl tk ?_
 rintro k hI
 try simp only [List.cons_append, List.nil_append, List.append_assoc, List.append_eq] at hI ⊢
 try dsimp only at hI ⊢
 obtain ⟨hk, hok⟩ := hI
 by_cases hlt : k < n
 ·obtain ⟨b, off, C, T, fr, rfl, hb, hfit, hc⟩ := h.get (show k < l.length by omega)
  have hf := fun (e : pp l[k] = true) => idx_found (p := pp) (show k < l.length by omega) e hok
  have ht := fun (e : pp l[k] = false) => take_more (p := fun x => pp x = false) (show k < l.length by omega) e hok
  have hp : pp l[k] = (fun s : Stp => !Yn s) l[k] := by rw [hP]
  cases hx : pp l[k]
  ·have hok2 := ht hx
   rw [hx] at hp
   generalize l[k] = x at *
   repeat' (first | (refine Zd (.tmp 11) ?_; refine qC rfl rfl (done1_spec _ _) ?_; rintro v ρ' L' hle ⟨rfl, rfl, rfl⟩ <;> (try simp only [kM, kN, kO, ← hp, Bool.not_true, Bool.not_false])) | (refine Zj ?_; first | (refine Zi ?_; refine qQ ?_) | refine Zo ?_) | refine Zc ?_ | (refine Zh ?_; refine Zz ?_) | (refine Zg ?_; refine Zy ?_) | intro _)
   refine Zu (k + 1) (⟨hlt, hok2⟩) Zn Zn rfl tk inferInstance (by first | omega | (dsimp only; omega))
  ·have e := hf hx
   rw [hx] at hp
   have e2 : idxI pp l = (k : Int) := by unfold idxI; rw [e]
   rw [e2]
   generalize l[k] = x at *
   repeat' (first | (refine Zd (.tmp 11) ?_; refine qC rfl rfl (done1_spec _ _) ?_; rintro v ρ' L' hle ⟨rfl, rfl, rfl⟩ <;> (try simp only [kM, kN, kO, ← hp, Bool.not_true, Bool.not_false])) | (refine Zj ?_; first | (refine Zi ?_; refine qQ ?_) | refine Zo ?_) | refine Zc ?_ | (refine Zh ?_; refine Zz ?_) | (refine Zg ?_; refine Zy ?_) | intro _)
   exact qE (L' := []) ⟨rfl, rfl, rfl⟩
 ·have hk2 : k = l.length := by omega
  rw [hk2, List.take_length] at hok
  have e2 : idxI pp l = -1 := by unfold idxI; rw [idx_none hok]
  rw [e2]
  repeat' (first | (refine Zj ?_; first | (refine Zi ?_; refine qQ ?_) | refine Zo ?_) | refine Zc ?_ | (refine Zh ?_; refine Zz ?_) | (refine Zg ?_; refine Zy ?_) | intro _)
  exact qE (L' := []) ⟨rfl, rfl, rfl⟩
theorem idxIm_spec (ρ : Hp) (a : Option Addr) (n c : Nat) (l : List Im) (h : AIn ρ 7 imV a n l) (hn : n ≤ 1000000) (nb : Nat) (num : Int) :
  Spec Tryz.prog 232 [.slice a n c, .func (.func 233) ⟨[]⟩ ⟨[.pointer (some ⟨nb, 0, none⟩)]⟩] ρ (numC nb num) (fun z ρ' L' => z = .int .i64 (idxI (fun x : Im => decide (x.page = num)) l) ∧ ρ' = ρ ∧ L' = (numC nb num)) := by
 have hl := h.len
 generalize hP : (fun x : Im => decide (x.page = num)) = pp
 refine Zf Tryz.func232 rfl rfl rfl fun u R => ?_
 simp only [ZG, List.cons_append, List.nil_append]
 repeat' (first | (refine Zj ?_; first | (refine Zi ?_; refine qQ ?_) | refine Zo ?_) | refine Zc ?_ | (refine Zh ?_; refine Zz ?_) | (refine Zg ?_; refine Zy ?_) | intro _)
 refine ZL [(0, _), (1, _), (7, _)] (fun (ζ : (Nat)) => [(8, .int .i64 ζ), (4, .int .i64 0)]) (fun (ζ : (Nat)) => ρ) (fun (ζ : (Nat)) => (numC nb num)) (fun (ζ : (Nat)) => ζ ≤ n ∧ ∀ x ∈ l.take ζ, pp x = false) (fun (ζ : (Nat)) => n - ζ) (0) (⟨Nat.zero_le _, by simp⟩) Zn Zn rfl tk ?_
 rintro k hI
 try simp only [List.cons_append, List.nil_append, List.append_assoc, List.append_eq] at hI ⊢
 try dsimp only at hI ⊢
 obtain ⟨hk, hok⟩ := hI
 by_cases hlt : k < n
 ·obtain ⟨b, off, C, T, fr, rfl, hb, hfit, hc⟩ := h.get (show k < l.length by omega)
  have hf := fun (e : pp l[k] = true) => idx_found (p := pp) (show k < l.length by omega) e hok
  have ht := fun (e : pp l[k] = false) => take_more (p := fun x => pp x = false) (show k < l.length by omega) e hok
  have hp : pp l[k] = (fun x : Im => decide (x.page = num)) l[k] := by rw [hP]
  cases hx : pp l[k]
  ·have hok2 := ht hx
   rw [hx] at hp
   generalize l[k] = x at *
   repeat' (first | (refine Zd (.tmp 11) ?_; refine qC rfl rfl (redoes1_spec _ nb num _) ?_; rintro v ρ' L' hle ⟨rfl, rfl, rfl⟩ <;> (try simp only [kM, kN, kO, ← hp, Bool.not_true, Bool.not_false])) | (refine Zj ?_; first | (refine Zi ?_; refine qQ ?_) | refine Zo ?_) | refine Zc ?_ | (refine Zh ?_; refine Zz ?_) | (refine Zg ?_; refine Zy ?_) | intro _)
   refine Zu (k + 1) (⟨hlt, hok2⟩) Zn Zn rfl tk inferInstance (by first | omega | (dsimp only; omega))
  ·have e := hf hx
   rw [hx] at hp
   have e2 : idxI pp l = (k : Int) := by unfold idxI; rw [e]
   rw [e2]
   generalize l[k] = x at *
   repeat' (first | (refine Zd (.tmp 11) ?_; refine qC rfl rfl (redoes1_spec _ nb num _) ?_; rintro v ρ' L' hle ⟨rfl, rfl, rfl⟩ <;> (try simp only [kM, kN, kO, ← hp, Bool.not_true, Bool.not_false])) | (refine Zj ?_; first | (refine Zi ?_; refine qQ ?_) | refine Zo ?_) | refine Zc ?_ | (refine Zh ?_; refine Zz ?_) | (refine Zg ?_; refine Zy ?_) | intro _)
   exact qE (L' := (numC nb num)) ⟨rfl, rfl, rfl⟩
 ·have hk2 : k = l.length := by omega
  rw [hk2, List.take_length] at hok
  have e2 : idxI pp l = -1 := by unfold idxI; rw [idx_none hok]
  rw [e2]
  repeat' (first | (refine Zj ?_; first | (refine Zi ?_; refine qQ ?_) | refine Zo ?_) | refine Zc ?_ | (refine Zh ?_; refine Zz ?_) | (refine Zg ?_; refine Zy ?_) | intro _)
  exact qE (L' := (numC nb num)) ⟨rfl, rfl, rfl⟩
theorem contains_spec (ρ : Hp) (a : Option Addr) (n c : Nat) (l : List Stp) (h : AIn ρ 6 stpV a n l) (hn : n ≤ 1000000) :
  Spec Tryz.prog 181 [.slice a n c, .func (.func 182) ⟨[]⟩ ⟨[]⟩] ρ [] (fun z ρ' L' => z = .bool (!(l.all Yn)) ∧ ρ' = ρ ∧ L' = []) := by
 have hi := idxStp_spec ρ a n c l h hn
 have e : decide (0 ≤ idxI (fun s => !Yn s) l) = !(l.all Yn) := by
  unfold idxI
  cases hf : l.findIdx? (fun s => !Yn s) with
  | none =>
   rw [List.findIdx?_eq_none_iff] at hf
   have : l.all Yn = true := List.all_eq_true.2 (fun x hx => by have := hf x hx; simpa using this)
   rw [this]; rfl
  | some i =>
   obtain ⟨h1, h2, _⟩ := List.findIdx?_eq_some_iff_getElem.1 hf
   have : l.all Yn = false := by
    rw [List.all_eq_false]
    exact ⟨_, List.getElem_mem h1, by simpa using h2⟩
   rw [this]; simp
 rw [← e]
 generalize idxI (fun s => !Yn s) l = q at *
 refine Zf Tryz.func181 rfl rfl rfl fun u R => ?_
 simp only [ZG, List.cons_append, List.nil_append]
 repeat' (first | (refine Zd (.func 252) ?_; refine qC rfl rfl (hi) ?_; rintro v ρ' L' hle ⟨rfl, rfl, rfl⟩ <;> (try simp only [kM, kN, kO])) | (refine Zj ?_; first | (refine Zi ?_; refine qQ ?_) | refine Zo ?_) | refine Zc ?_ | (refine Zh ?_; refine Zz ?_) | (refine Zg ?_; refine Zy ?_) | intro _)
 refine qF (L' := []) ?_
 exact ⟨Yi (by simp), rfl, rfl⟩
abbrev nilS : SV := ⟨none, 0, 0⟩
theorem bare_spec (ρ : Hp) (v : RV) (r : Rc) (hi : v.i.n ≤ 1000000) (hs : v.s.n ≤ 1000000) (ht : v.t.n ≤ 1000000) (hd : v.d.n ≤ 1000000) : Spec Tryz.prog 105 [.agg ⟨Xo v r⟩] ρ []
  (fun z ρ' L' => z = .bool (decide (r.next = 0 ∧ v.i.n = 0 ∧ v.s.n = 0 ∧ v.t.n = 0 ∧ v.d.n = 0 ∧ r.nextTxn = 0)) ∧ ρ' = ρ ∧ L' = []) := by
 refine Zf Tryz.func105 rfl rfl rfl fun u R => ?_
 simp only [ZG, List.cons_append, List.nil_append]
 repeat' (first | (refine Zj ?_; first | (refine Zi ?_; refine qQ ?_) | refine Zo ?_) | refine Zc ?_ | (refine Zh ?_; refine Zz ?_) | (refine Zg ?_; refine Zy ?_) | (refine YO ?_; refine ZI rfl rfl (fun hb => ?_) (fun hb => ?_) <;> (try simp only [decide_eq_true_eq, decide_eq_false_iff_not, Bool.not_eq_true, Bool.not_eq_false, beq_iff_eq, bne_iff_ne, ne_eq, decide_eq_decide, Bool.not_eq_eq_eq_not, Bool.not_true, Bool.not_false, beq_eq_false_iff_ne, bne_eq_false_iff_eq, Bool.and_eq_true, Bool.or_eq_true, Bool.and_eq_false_imp, Bool.or_eq_false_iff] at hb)) | (refine Ya ?_; refine ZO rfl (fun hb => ?_) (fun hb => ?_) <;> (try simp only [decide_eq_true_eq, decide_eq_false_iff_not, Bool.not_eq_true, Bool.not_eq_false, beq_iff_eq, bne_iff_ne, ne_eq, decide_eq_decide, Bool.not_eq_eq_eq_not, Bool.not_true, Bool.not_false, beq_eq_false_iff_ne, bne_eq_false_iff_eq, Bool.and_eq_true, Bool.or_eq_true, Bool.and_eq_false_imp, Bool.or_eq_false_iff] at hb)) | intro _)
 all_goals (refine qF (L' := []) ?_; exact ⟨Yi (by (try simp [*]); first | done | omega | (intros; omega) | (constructor <;> intros <;> (try simp_all) <;> omega)), rfl, rfl⟩)
theorem aplain_spec (ρ : Hp) (ab : Nat) (v : RV) (r : Rc) : Spec Tryz.prog 99 [.pointer (some ⟨ab, 0, none⟩)] ρ [YH ab v r] (fun z ρ' L' => z = .bool true ∧ ρ' = ρ ∧ L' = [YH ab v r]) := by
 refine Zf Tryz.func99 rfl rfl rfl fun u R => ?_
 simp only [ZG, List.cons_append, List.nil_append]
 repeat' (first | (refine Zj ?_; first | (refine Zi ?_; refine qQ ?_) | refine Zo ?_) | refine Zc ?_ | (refine Zh ?_; refine Zz ?_) | (refine Zg ?_; refine Zy ?_) | intro _)
 exact qE (L' := [YH ab v r]) ⟨rfl, rfl, rfl⟩
theorem achange_spec (ρ : Hp) (ab : Nat) (v : RV) (r : Rc) (h : RcIn ρ v r) : Spec Tryz.prog 100 [.pointer (some ⟨ab, 0, none⟩)] ρ [YH ab v r]
  (fun z ρ' L' => z = .bool (decide (0 < r.ims.length) && imsOk true r.ims) ∧ ρ' = ρ ∧ L' = [YH ab { v with i := nilS } r]) := by
 have hl := h.i.at'.len
 have him := images_spec ρ v.i r.ims h.i h.im true
 refine Zf Tryz.func100 rfl rfl rfl fun u R => ?_
 simp only [ZG, List.cons_append, List.nil_append]
 by_cases h0 : 0 < v.i.n
 ·rw [decide_eq_true (show 0 < r.ims.length by omega), Bool.true_and]
  repeat' (first | (refine Zd (.func 180) ?_; refine qC rfl rfl (him) ?_; rintro v ρ' L' hle ⟨rfl, rfl, rfl⟩ <;> (try simp only [kM, kN, kO])) | (refine Zj ?_; first | (refine Zi ?_; refine qQ ?_) | refine Zo ?_) | refine Zc ?_ | (refine Zh ?_; refine Zz ?_) | (refine Zg ?_; refine Zy ?_) | intro _)
  exact qE (L' := [YH ab { v with i := nilS } r]) ⟨rfl, rfl, rfl⟩
 ·rw [decide_eq_false (show ¬ 0 < r.ims.length by omega), Bool.false_and]
  repeat' (first | (refine Zj ?_; first | (refine Zi ?_; refine qQ ?_) | refine Zo ?_) | refine Zc ?_ | (refine Zh ?_; refine Zz ?_) | (refine Zg ?_; refine Zy ?_) | intro _)
  exact qE (L' := [YH ab { v with i := nilS } r]) ⟨rfl, rfl, rfl⟩
theorem anested_spec (ρ : Hp) (ab : Nat) (v : RV) (r : Rc) : Spec Tryz.prog 101 [.pointer (some ⟨ab, 0, none⟩)] ρ [YH ab v r]
  (fun z ρ' L' => z = .bool (decide (r.next < r.prev)) ∧ ρ' = ρ ∧ L' = [YH ab v { r with next := 0 }]) := by
 refine Zf Tryz.func101 rfl rfl rfl fun u R => ?_
 simp only [ZG, List.cons_append, List.nil_append]
 repeat' (first | (refine Zj ?_; first | (refine Zi ?_; refine qQ ?_) | refine Zo ?_) | refine Zc ?_ | (refine Zh ?_; refine Zz ?_) | (refine Zg ?_; refine Zy ?_) | intro _)
 refine qF (L' := [YH ab v { r with next := 0 }]) ?_
 exact ⟨Yi (by simp), rfl, rfl⟩
theorem adone_spec (ρ : Hp) (ab : Nat) (v : RV) (r : Rc) (h : RcIn ρ v r) : Spec Tryz.prog 102 [.pointer (some ⟨ab, 0, none⟩)] ρ [YH ab v r]
  (fun z ρ' L' => z = .bool (decide (r.next < r.prev) && (decide (0 < r.steps.length ∧ r.steps.length ≤ 2) && r.steps.all Yn)) ∧ ρ' = ρ ∧ L' = [YH ab { v with s := nilS } { r with next := 0 }]) := by
 have hl := h.s.at'.len
 have hco := contains_spec ρ v.s.a v.s.n v.s.c r.steps h.s.at' h.s.big
 have hne := anested_spec ρ ab { v with s := nilS } r
 rw [hl]
 generalize r.steps.all Yn = q at *
 refine Zf Tryz.func102 rfl rfl rfl fun u R => ?_
 simp only [ZG, List.cons_append, List.nil_append]
 repeat' (first | (refine Zd (.func 101) ?_; refine qC rfl rfl (hne) ?_; rintro v ρ' L' hle ⟨rfl, rfl, rfl⟩ <;> (try simp only [kM, kN, kO])) | (refine Zd (.func 181) ?_; refine qC rfl rfl (hco) ?_; rintro v ρ' L' hle ⟨rfl, rfl, rfl⟩ <;> (try simp only [kM, kN, kO])) | (refine Zj ?_; first | (refine Zi ?_; refine qQ ?_) | refine Zo ?_) | refine Zc ?_ | (refine Zh ?_; refine Zz ?_) | (refine Zg ?_; refine Zy ?_) | (refine YO ?_; refine ZI rfl rfl (fun hb => ?_) (fun hb => ?_) <;> (try simp only [decide_eq_true_eq, decide_eq_false_iff_not, Bool.not_eq_true, Bool.not_eq_false, beq_iff_eq, bne_iff_ne, ne_eq, decide_eq_decide, Bool.not_eq_eq_eq_not, Bool.not_true, Bool.not_false, beq_eq_false_iff_ne, bne_eq_false_iff_eq, Bool.and_eq_true, Bool.or_eq_true, Bool.and_eq_false_imp, Bool.or_eq_false_iff] at hb)) | (refine Ya ?_; refine ZO rfl (fun hb => ?_) (fun hb => ?_) <;> (try simp only [decide_eq_true_eq, decide_eq_false_iff_not, Bool.not_eq_true, Bool.not_eq_false, beq_iff_eq, bne_iff_ne, ne_eq, decide_eq_decide, Bool.not_eq_eq_eq_not, Bool.not_true, Bool.not_false, beq_eq_false_iff_ne, bne_eq_false_iff_eq, Bool.and_eq_true, Bool.or_eq_true, Bool.and_eq_false_imp, Bool.or_eq_false_iff] at hb)) | intro _)
 all_goals (refine qF (L' := [YH ab { v with s := nilS } { r with next := 0 }]) ?_; exact ⟨Yi (by (try simp [*]); first | done | omega | (intros; omega) | (constructor <;> intros <;> (try simp_all) <;> omega)), rfl, rfl⟩)
theorem aundone_spec (ρ : Hp) (ab : Nat) (v : RV) (r : Rc) (h : RcIn ρ v r) : Spec Tryz.prog 103 [.pointer (some ⟨ab, 0, none⟩)] ρ [YH ab v r]
  (fun z ρ' L' => z = .bool (decide (r.next < r.lsn) && imsOk false r.ims) ∧ ρ' = ρ ∧ L' = [YH ab { v with i := nilS } { r with next := 0 }]) := by
 have him := images_spec ρ v.i r.ims h.i h.im false
 generalize imsOk false r.ims = q at *
 refine Zf Tryz.func103 rfl rfl rfl fun u R => ?_
 simp only [ZG, List.cons_append, List.nil_append]
 repeat' (first | (refine Zj ?_; first | (refine Zi ?_; refine qQ ?_) | refine Zo ?_) | refine Zc ?_ | (refine Zh ?_; refine Zz ?_) | (refine Zg ?_; refine Zy ?_) | intro _)
 refine ZJ (Zq _ _ _) Zx ?_
 all_goals (refine ZW 0 ?_; refine ZY ?_; refine rNc 1 ?_; refine rFa 2 ?_; refine rFa 3 ?_; refine rLd 4 ?_; refine ZW 5 ?_; refine rNc 6 ?_; refine rFa 7 ?_; refine rFa 8 ?_; refine rLd 9 ?_; refine rAs 10 ?_; refine rAs 11 ?_; refine ZT ?_)
 all_goals (repeat' (first | (refine Zd (.func 180) ?_; refine qC rfl rfl (him) ?_; rintro v ρ' L' hle ⟨rfl, rfl, rfl⟩ <;> (try simp only [kM, kN, kO])) | (refine Zj ?_; first | (refine Zi ?_; refine qQ ?_) | refine Zo ?_) | refine Zc ?_ | (refine Zh ?_; refine Zz ?_) | (refine Zg ?_; refine Zy ?_) | (refine YO ?_; refine ZI rfl rfl (fun hb => ?_) (fun hb => ?_) <;> (try simp only [decide_eq_true_eq, decide_eq_false_iff_not, Bool.not_eq_true, Bool.not_eq_false, beq_iff_eq, bne_iff_ne, ne_eq, decide_eq_decide, Bool.not_eq_eq_eq_not, Bool.not_true, Bool.not_false, beq_eq_false_iff_ne, bne_eq_false_iff_eq, Bool.and_eq_true, Bool.or_eq_true, Bool.and_eq_false_imp, Bool.or_eq_false_iff] at hb)) | (refine Ya ?_; refine ZO rfl (fun hb => ?_) (fun hb => ?_) <;> (try simp only [decide_eq_true_eq, decide_eq_false_iff_not, Bool.not_eq_true, Bool.not_eq_false, beq_iff_eq, bne_iff_ne, ne_eq, decide_eq_decide, Bool.not_eq_eq_eq_not, Bool.not_true, Bool.not_false, beq_eq_false_iff_ne, bne_eq_false_iff_eq, Bool.and_eq_true, Bool.or_eq_true, Bool.and_eq_false_imp, Bool.or_eq_false_iff] at hb)) | intro _))
 all_goals (refine qF (L' := [YH ab { v with i := nilS } { r with next := 0 }]) ?_; exact ⟨Yi (by (try simp [*]); first | done | omega | (intros; omega) | (constructor <;> intros <;> (try simp_all) <;> omega)), rfl, rfl⟩)
theorem ackpt_spec (ρ : Hp) (ab : Nat) (v : RV) (r : Rc) (h : RcIn ρ v r) : Spec Tryz.prog 104 [.pointer (some ⟨ab, 0, none⟩)] ρ [YH ab v r]
  (fun z ρ' L' => z = .bool (decide (1 ≤ r.nextTxn ∧ r.nextTxn ≤ 1073741824 ∧ r.txns.length ≤ 8) && (upB (ckTOk r.lsn r.nextTxn) CkT.txn r.txns r.txns.length && upB (ckPOk r.lsn) CkP.page r.dirty r.dirty.length)) ∧ ρ' = ρ ∧
   L' = [YH ab { v with t := nilS, d := nilS } { r with nextTxn := 0 }]) := by
 have hl := h.t.at'.len
 have ht := fun nb pb => risesCkT_spec ρ v.t.a v.t.n v.t.c r.txns h.t.at' h.t.big nb pb ab r.nextTxn { v with t := nilS, d := nilS } { r with nextTxn := 0 }
 have hd := fun pb => risesCkP_spec ρ v.d.a v.d.n v.d.c r.dirty h.d.at' h.d.big pb ab { v with t := nilS, d := nilS } { r with nextTxn := 0 }
 dsimp only at ht hd
 generalize upB (ckTOk r.lsn r.nextTxn) CkT.txn r.txns r.txns.length = q1 at *
 generalize upB (ckPOk r.lsn) CkP.page r.dirty r.dirty.length = q2 at *
 rw [hl]
 refine Zf Tryz.func104 rfl rfl rfl fun u R => ?_
 simp only [ZG, List.cons_append, List.nil_append]
 repeat' (first | (refine Zj ?_; first | (refine Zi ?_; refine qQ ?_) | refine Zo ?_) | refine Zc ?_ | (refine Zh ?_; refine Zz ?_) | (refine Zg ?_; refine Zy ?_) | intro _)
 rename_i pb
 refine ZJ (Zq _ _ ([ptrC pb ab, YH ab v r])) (Yc (hT := tk) (Hp.le_refl _)) ?_
 all_goals (refine rLd 0 ?_; refine rNc 1 ?_; refine rFa 2 ?_; refine rFa 3 ?_; refine rLd 4 ?_; refine rLd 5 ?_; refine rNc 6 ?_; refine rFa 7 ?_; refine rFa 8 ?_; refine rLd 9 ?_; refine rLd 10 ?_; refine rNc 11 ?_; refine rFa 12 ?_; refine rFa 13 ?_; refine rLd 14 ?_)
 all_goals (refine Zt (i := 15) ?_; ((try refine Zr ?_); (first | (refine Zo ?_; try intro _)) <;> ((try simp only [kM, kN, kO]); refine Zc ?_; refine Zs ?_)))
 all_goals (refine rAs 16 ?_; refine rAs 17 ?_)
 all_goals (refine Zt (i := 18) ?_; ((try refine Zr ?_); (first | (refine Zo ?_; try intro _)) <;> ((try simp only [kM, kN, kO]); refine Zc ?_; refine Zs ?_)))
 all_goals refine ZT ?_
 all_goals (repeat' (first | (refine Zj ?_; first | (refine Zi ?_; refine qQ ?_) | refine Zo ?_) | refine Zc ?_ | (refine Zh ?_; refine Zz ?_) | (refine Zg ?_; refine Zy ?_) | intro _))
 refine ZJ (Zq _ _ ([ptrC pb ab])) (Yc (hT := tk) (Hp.le_refl _)) ?_
 all_goals (refine rLd 0 ?_; refine rLd 1 ?_; refine rLd 2 ?_; refine rNc 3 ?_; refine rFa 4 ?_; refine rFa 5 ?_)
 all_goals (refine Zt (i := 6) ?_; ((try refine Zr ?_); (first | (refine Zo ?_; try intro _)) <;> ((try simp only [kM, kN, kO]); refine Zc ?_; refine Zs ?_)))
 all_goals (refine rNc 7 ?_; refine rFa 8 ?_; refine rFa 9 ?_)
 all_goals (refine Zt (i := 10) ?_; ((try refine Zr ?_); (first | (refine Zo ?_; try intro _)) <;> ((try simp only [kM, kN, kO]); refine Zc ?_; refine Zs ?_)))
 all_goals (refine rNc 11 ?_; refine rFa 12 ?_; refine rFa 13 ?_)
 all_goals (refine Zt (i := 14) ?_; ((try refine Zr ?_); (first | (refine Zo ?_; try intro _)) <;> ((try simp only [kM, kN, kO]); refine Zc ?_; refine Zs ?_)))
 all_goals refine ZT ?_
 all_goals (repeat' (first | (refine Zd (.func 184) ?_; refine qC rfl rfl (ht _ _) ?_; rintro v ρ' L' hle ⟨rfl, rfl, rfl⟩ <;> (try simp only [kM, kN, kO])) | (refine Zd (.func 187) ?_; refine qC rfl rfl (hd _) ?_; rintro v ρ' L' hle ⟨rfl, rfl, rfl⟩ <;> (try simp only [kM, kN, kO])) | (refine Zj ?_; first | (refine Zi ?_; refine qQ ?_) | refine Zo ?_) | refine Zc ?_ | (refine Zh ?_; refine Zz ?_) | (refine Zg ?_; refine Zy ?_) | (refine YO ?_; refine ZI rfl rfl (fun hb => ?_) (fun hb => ?_) <;> (try simp only [decide_eq_true_eq, decide_eq_false_iff_not, Bool.not_eq_true, Bool.not_eq_false, beq_iff_eq, bne_iff_ne, ne_eq, decide_eq_decide, Bool.not_eq_eq_eq_not, Bool.not_true, Bool.not_false, beq_eq_false_iff_ne, bne_eq_false_iff_eq, Bool.and_eq_true, Bool.or_eq_true, Bool.and_eq_false_imp, Bool.or_eq_false_iff] at hb)) | (refine Ya ?_; refine ZO rfl (fun hb => ?_) (fun hb => ?_) <;> (try simp only [decide_eq_true_eq, decide_eq_false_iff_not, Bool.not_eq_true, Bool.not_eq_false, beq_iff_eq, bne_iff_ne, ne_eq, decide_eq_decide, Bool.not_eq_eq_eq_not, Bool.not_true, Bool.not_false, beq_eq_false_iff_ne, bne_eq_false_iff_eq, Bool.and_eq_true, Bool.or_eq_true, Bool.and_eq_false_imp, Bool.or_eq_false_iff] at hb)) | intro _))
 all_goals (refine qF (L' := [YH ab { v with t := nilS, d := nilS } { r with nextTxn := 0 }]) ?_; exact ⟨Yi (by (try simp [*]); first | done | omega | (intros; omega) | (constructor <;> intros <;> (try simp_all) <;> omega)), rfl, rfl⟩)
structure BareR (v' : RV) (r' r : Rc) : Prop where
 i : v'.i.n ≤ 1000000
 s : v'.s.n ≤ 1000000
 t : v'.t.n ≤ 1000000
 d : v'.d.n ≤ 1000000
 eq : decide (r'.next = 0 ∧ v'.i.n = 0 ∧ v'.s.n = 0 ∧ v'.t.n = 0 ∧ v'.d.n = 0 ∧ r'.nextTxn = 0) = bareOk r
def askF (k : Int) : Nat := if k = 2 then 100 else if k = 3 then 101 else if k = 4 then 102 else if k = 5 then 103 else if k = 9 then 104 else 99
theorem ask_spec (ρ : Hp) (ab : Nat) (v : RV) (r : Rc) (h : RcIn ρ v r) (hk : 1 ≤ r.kind ∧ r.kind ≤ 9) : Fun Tryz.prog (askF r.kind) ∧ Spec Tryz.prog (askF r.kind) [.pointer (some ⟨ab, 0, none⟩)] ρ [YH ab v r]
  (fun z ρ' L' => z = .bool (askOk r) ∧ ρ' = ρ ∧ ∃ v' r', BareR v' r' r ∧ L' = [YH ab v' r']) := by
 have li := h.i.at'.len
 have ls := h.s.at'.len
 have lt := h.t.at'.len
 have ld := h.d.at'.len
 have bi := h.i.big
 have bs := h.s.big
 have bt := h.t.big
 have bd := h.d.big
 have z0 : nilS.n = 0 := rfl
 have ei : r.ims = [] ↔ v.i.n = 0 := by rw [← li]; exact List.length_eq_zero_iff.symm
 have es : r.steps = [] ↔ v.s.n = 0 := by rw [← ls]; exact List.length_eq_zero_iff.symm
 have et : r.txns = [] ↔ v.t.n = 0 := by rw [← lt]; exact List.length_eq_zero_iff.symm
 have ed : r.dirty = [] ↔ v.d.n = 0 := by rw [← ld]; exact List.length_eq_zero_iff.symm
 unfold askF askOk
 have hb : ∀ (v' : RV) (r' : Rc), (v'.i.n ≤ 1000000 ∧ v'.s.n ≤ 1000000 ∧ v'.t.n ≤ 1000000 ∧ v'.d.n ≤ 1000000) → ((r'.next = 0 ∧ v'.i.n = 0 ∧ v'.s.n = 0 ∧ v'.t.n = 0 ∧ v'.d.n = 0 ∧ r'.nextTxn = 0) ↔
   ((r.next = 0 ∨ r.kind = 3 ∨ r.kind = 4 ∨ r.kind = 5) ∧ (v.i.n = 0 ∨ r.kind = 2 ∨ r.kind = 5) ∧ (v.s.n = 0 ∨ r.kind = 4) ∧ ((v.t.n = 0 ∧ v.d.n = 0 ∧ r.nextTxn = 0) ∨ r.kind = 9))) → BareR v' r' r := fun v' r' h1 h2 =>
  ⟨h1.1, h1.2.1, h1.2.2.1, h1.2.2.2, by unfold bareOk; apply decide_eq_decide.2; rw [ei, es, et, ed]; exact h2⟩
 by_cases k2 : r.kind = 2
 ·rw [if_pos k2, if_pos k2]
  refine ⟨inferInstance, (achange_spec ρ ab v r h).mono ?_⟩
  rintro z ρ' L' _ ⟨rfl, rfl, rfl⟩
  exact ⟨rfl, rfl, _, _, hb { v with i := nilS } r (by dsimp only; omega) (by dsimp only; omega), rfl⟩
 ·rw [if_neg k2, if_neg k2]
  by_cases k3 : r.kind = 3
  ·rw [if_pos k3, if_pos k3]
   refine ⟨inferInstance, (anested_spec ρ ab v r).mono ?_⟩
   rintro z ρ' L' _ ⟨rfl, rfl, rfl⟩
   exact ⟨rfl, rfl, _, _, hb v { r with next := 0 } (by omega) (by dsimp only; omega), rfl⟩
  ·rw [if_neg k3, if_neg k3]
   by_cases k4 : r.kind = 4
   ·rw [if_pos k4, if_pos k4]
    refine ⟨inferInstance, (adone_spec ρ ab v r h).mono ?_⟩
    rintro z ρ' L' _ ⟨rfl, rfl, rfl⟩
    exact ⟨rfl, rfl, _, _, hb { v with s := nilS } { r with next := 0 } (by dsimp only; omega) (by dsimp only; omega), rfl⟩
   ·rw [if_neg k4, if_neg k4]
    by_cases k5 : r.kind = 5
    ·rw [if_pos k5, if_pos k5]
     refine ⟨inferInstance, (aundone_spec ρ ab v r h).mono ?_⟩
     rintro z ρ' L' _ ⟨rfl, rfl, rfl⟩
     exact ⟨rfl, rfl, _, _, hb { v with i := nilS } { r with next := 0 } (by dsimp only; omega) (by dsimp only; omega), rfl⟩
    ·rw [if_neg k5, if_neg k5]
     by_cases k9 : r.kind = 9
     ·rw [if_pos k9, if_pos k9]
      refine ⟨inferInstance, (ackpt_spec ρ ab v r h).mono ?_⟩
      rintro z ρ' L' _ ⟨rfl, rfl, rfl⟩
      exact ⟨rfl, rfl, _, _, hb { v with t := nilS, d := nilS } { r with nextTxn := 0 } (by dsimp only; omega) (by dsimp only; omega), rfl⟩
     ·rw [if_neg k9, if_neg k9]
      refine ⟨inferInstance, (aplain_spec ρ ab v r).mono ?_⟩
      rintro z ρ' L' _ ⟨rfl, rfl, rfl⟩
      exact ⟨rfl, rfl, _, _, hb v r (by omega) (by omega), rfl⟩
theorem askF_chain {f : Nat → Option Value} {k : Int} (hk : 1 ≤ k ∧ k ≤ 9) : (if k = 9 then f 104 else if k = 8 then f 99 else if k = 7 then f 99 else if k = 6 then f 99 else if k = 5 then f 103 else
  if k = 4 then f 102 else if k = 3 then f 101 else if k = 2 then f 100 else if k = 1 then f 99 else none) = f (askF k) := by
 unfold askF
 rcases (show k = 1 ∨ k = 2 ∨ k = 3 ∨ k = 4 ∨ k = 5 ∨ k = 6 ∨ k = 7 ∨ k = 8 ∨ k = 9 by omega) with e | e | e | e | e | e | e | e | e <;> subst e <;> rfl
theorem rcheck_spec (ρ : Hp) (v : RV) (r : Rc) (h : RcIn ρ v r) : Spec Tryz.prog 27 [.agg ⟨Xo v r⟩] ρ [] (fun z ρ' L' => z = .int .i64 (if Yo r then 0 else 220) ∧ ρ' = ρ ∧ L' = []) := by
 have hnil : YE .i64 [] := by intro e he; simp at he
 have hg0 : ∀ k : Int, YN [] k = none := fun _ => rfl
 refine Zf Tryz.func27 rfl rfl rfl fun u R => ?_
 simp only [ZG, List.cons_append, List.nil_append]
 repeat' (first | (refine YY rfl rfl rfl hnil (fun es1 ck1 i1 j1 => ?_)) | (refine YY rfl rfl rfl i1 (fun es2 ck2 i2 j2 => ?_)) | (refine YY rfl rfl rfl i2 (fun es3 ck3 i3 j3 => ?_)) | (refine YY rfl rfl rfl i3 (fun es4 ck4 i4 j4 => ?_)) | (refine YY rfl rfl rfl i4 (fun es5 ck5 i5 j5 => ?_)) | (refine YY rfl rfl rfl i5 (fun es6 ck6 i6 j6 => ?_)) | (refine YY rfl rfl rfl i6 (fun es7 ck7 i7 j7 => ?_)) | (refine YY rfl rfl rfl i7 (fun es8 ck8 i8 j8 => ?_)) | (refine iBu ?_; refine ZC (Ze rfl) rfl rfl ?_) | (refine Zj ?_; first | (refine Zi ?_; refine qQ ?_) | refine Zo ?_) | refine Zc ?_ | (refine Zh ?_; refine Zz ?_) | (refine Zg ?_; refine Zy ?_) | intro _)
 rename_i rb ab mb
 refine YY rfl rfl rfl i8 (fun es9 ck9 i9 j9 => ?_)
 have hg := j9 r.kind
 rw [j8, j7, j6, j5, j4, j3, j2, j1, hg0] at hg
 clear j1 j2 j3 j4 j5 j6 j7 j8 j9 i1 i2 i3 i4 i5 i6 i7 i8
 by_cases hk : 1 ≤ r.kind ∧ r.kind ≤ 9
 ·obtain ⟨hF, hS⟩ := ask_spec ρ ab v r h hk
  have hgF : YN es9 r.kind = some (Value.func (.func (askF r.kind)) ⟨[.pointer (some ⟨ab, 0, none⟩)]⟩ ⟨[]⟩) := by
   rw [hg]
   exact askF_chain (f := fun F => some (Value.func (.func F) ⟨[.pointer (some ⟨ab, 0, none⟩)]⟩ ⟨[]⟩)) hk
  clear hg
  generalize askF r.kind = F at *
  repeat' (first | (refine Zd (.tmp 90) ?_; refine qC rfl rfl (hS) ?_; rintro v ρ' L' hle ⟨rfl, rfl, v', r', hB, rfl⟩ <;> (try simp only [kM, kN, kO])) | (refine Zd (.func 105) ?_; refine qC rfl rfl (bare_spec _ v' r' hB.i hB.s hB.t hB.d) ?_; rintro v ρ' L' hle ⟨rfl, rfl, rfl⟩ <;> (try simp only [kM, kN, kO, hB.eq])) | (refine iBu ?_; refine ZC (Ze rfl) rfl rfl ?_) | (refine Zj ?_; first | (refine Zi ?_; refine qQ ?_) | refine Zo ?_) | refine Zc ?_ | (refine Zh ?_; refine Zz ?_) | (refine Zg ?_; refine Zy ?_) | (refine YO ?_; refine ZI rfl rfl (fun hb => ?_) (fun hb => ?_) <;> (try simp only [decide_eq_true_eq, decide_eq_false_iff_not, Bool.not_eq_true, Bool.not_eq_false, beq_iff_eq, bne_iff_ne, ne_eq, decide_eq_decide, Bool.not_eq_eq_eq_not, Bool.not_true, Bool.not_false, beq_eq_false_iff_ne, bne_eq_false_iff_eq, Bool.and_eq_true, Bool.or_eq_true, Bool.and_eq_false_imp, Bool.or_eq_false_iff, bq2, bqt, bqf] at hb)) | (refine Ya ?_; refine ZO rfl (fun hb => ?_) (fun hb => ?_) <;> (try simp only [decide_eq_true_eq, decide_eq_false_iff_not, Bool.not_eq_true, Bool.not_eq_false, beq_iff_eq, bne_iff_ne, ne_eq, decide_eq_decide, Bool.not_eq_eq_eq_not, Bool.not_true, Bool.not_false, beq_eq_false_iff_ne, bne_eq_false_iff_eq, Bool.and_eq_true, Bool.or_eq_true, Bool.and_eq_false_imp, Bool.or_eq_false_iff, bq2, bqt, bqf] at hb)) | intro _)
  all_goals (refine qF (L' := []) ?_; refine ⟨?_, rfl, rfl⟩)
  all_goals first | (have hh : headOk r = false := decide_eq_false (by omega); simp only [Yo, hh, Bool.false_and, Bool.and_false, Bool.false_eq_true, if_false]) | (have hh : headOk r = true := decide_eq_true (by omega); have h9 : decide (1 ≤ r.kind ∧ r.kind ≤ 9) = true := decide_eq_true hk; simp [Yo, hh, h9, *])
 ·have hgN : YN es9 r.kind = none := by
   rw [hg]
   simp only [show ¬ r.kind = 9 by omega, show ¬ r.kind = 8 by omega, show ¬ r.kind = 7 by omega, show ¬ r.kind = 6 by omega, show ¬ r.kind = 5 by omega, show ¬ r.kind = 4 by omega, show ¬ r.kind = 3 by omega, show ¬ r.kind = 2 by omega, show ¬ r.kind = 1 by omega, if_false]
  clear hg
  have e0 : Yo r = false := by simp [Yo, hk]
  rw [e0]
  repeat' (first | (refine iBu ?_; refine ZC (Ze rfl) rfl rfl ?_) | (refine Zj ?_; first | (refine Zi ?_; refine qQ ?_) | refine Zo ?_) | refine Zc ?_ | (refine Zh ?_; refine Zz ?_) | (refine Zg ?_; refine Zy ?_) | (refine YO ?_; refine ZI rfl rfl (fun hb => ?_) (fun hb => ?_) <;> (try simp only [decide_eq_true_eq, decide_eq_false_iff_not, Bool.not_eq_true, Bool.not_eq_false, beq_iff_eq, bne_iff_ne, ne_eq, decide_eq_decide, Bool.not_eq_eq_eq_not, Bool.not_true, Bool.not_false, beq_eq_false_iff_ne, bne_eq_false_iff_eq, Bool.and_eq_true, Bool.or_eq_true, Bool.and_eq_false_imp, Bool.or_eq_false_iff, bq2, bqt, bqf] at hb)) | (refine Ya ?_; refine ZO rfl (fun hb => ?_) (fun hb => ?_) <;> (try simp only [decide_eq_true_eq, decide_eq_false_iff_not, Bool.not_eq_true, Bool.not_eq_false, beq_iff_eq, bne_iff_ne, ne_eq, decide_eq_decide, Bool.not_eq_eq_eq_not, Bool.not_true, Bool.not_false, beq_eq_false_iff_ne, bne_eq_false_iff_eq, Bool.and_eq_true, Bool.or_eq_true, Bool.and_eq_false_imp, Bool.or_eq_false_iff, bq2, bqt, bqf] at hb)) | intro _)
  all_goals (refine qF (L' := []) ?_; exact ⟨rfl, rfl, rfl⟩)
structure Lf where
 lsn : Nat
 cost : Int
deriving DecidableEq
abbrev lfV (x : Lf) : List Value := [.int .u64 x.lsn, .int .i64 x.cost]
abbrev u64c (n : Nat) : Value := .int .u64 n
structure Tx where
 num : Int
 state : Int
 first : Nat
 last : Nat
 undo : Nat
 stack : List Lf
 marks : List Nat
 sv : SV
 mv : SV
abbrev txV (x : Tx) : List Value := [.int .i64 x.num, .int .i64 x.state, .int .u64 x.first, .int .u64 x.last, .int .u64 x.undo, .slice x.sv.a x.sv.n x.sv.c, .slice x.mv.a x.mv.n x.mv.c]
theorem txV_len (x : Tx) : (txV x).length = 7 := rfl
structure Tx.In (ρ : Hp) (x : Tx) : Prop where
 s : AIn ρ 2 lfV x.sv.a x.sv.n x.stack
 m : SIn ρ u64c x.mv.a x.mv.n x.marks
 sb : x.sv.n ≤ 200000000000000
 mb : x.mv.n ≤ 200000000000000
 sc : x.sv.n ≤ x.sv.c
 mc : x.mv.n ≤ x.mv.c
theorem Tx.In.mono {ρ ρ' x} (h : Tx.In ρ x) (hle : ρ.le ρ') : Tx.In ρ' x := ⟨h.s.mono hle, h.m.mono hle, h.sb, h.mb, h.sc, h.mc⟩
structure Ros where
 next : Int
 txns : List Tx
structure RosIn (ρ : Hp) (v : SV) (r : Ros) : Prop where
 at' : AS ρ 7 txV v r.txns
 tx : ∀ x ∈ r.txns, Tx.In ρ x
theorem RosIn.mono {ρ ρ' v r} (h : RosIn ρ v r) (hle : ρ.le ρ') : RosIn ρ' v r := ⟨h.at'.mono hle, fun x hx => (h.tx x hx).mono hle⟩
def tblB : Int → List CkP → Bool
 | _, [] => true
 | last, p :: r => decide (last < p.page ∧ p.page < 64 ∧ 1 ≤ p.since ∧ p.since ≤ 1099511627776) && tblB p.page r
def YF (d : List CkP) : Bool := tblB (-1) d
theorem ckcheck_spec (ρ : Hp) (s : SV) (l : List CkP) (h : AS ρ 2 YG s l) : Spec Tryz.prog 157 [.slice s.a s.n s.c] ρ [] (fun z ρ' L' => z = .int .i64 (if YF l then 0 else 320) ∧ ρ' = ρ ∧ L' = []) := by
 have hl := h.at'.len
 have hn := h.big
 have hA := h.at'
 generalize hq : YF l = q
 unfold YF at hq
 refine Zf Tryz.func157 rfl rfl rfl fun u R => ?_
 simp only [ZG, List.cons_append, List.nil_append]
 repeat' (first | (refine iBu ?_; refine ZC (Ze rfl) rfl rfl ?_) | (refine Zj ?_; first | (refine Zi ?_; refine qQ ?_) | refine Zo ?_) | refine Zc ?_ | (refine Zh ?_; refine Zz ?_) | (refine Zg ?_; refine Zy ?_) | intro _)
 refine ZL [(6, _), (7, _)] (fun (ζ : (Nat) × (Int)) => [(8, .int .i64 ζ.1), (2, .int .i64 0), (3, .int .i64 ζ.2)]) (fun (ζ : (Nat) × (Int)) => ρ) (fun (ζ : (Nat) × (Int)) => []) (fun (ζ : (Nat) × (Int)) => ζ.1 ≤ s.n ∧ tblB ζ.2 (l.drop ζ.1) = q) (fun (ζ : (Nat) × (Int)) => s.n - ζ.1) ((0, -1)) (⟨Nat.zero_le _, hq⟩) Zn Zn rfl tk ?_
 rintro ⟨k, last⟩ hI
 try simp only [List.cons_append, List.nil_append, List.append_assoc, List.append_eq] at hI ⊢
 try dsimp only at hI ⊢
 obtain ⟨hk, hok⟩ := hI
 by_cases hlt : k < s.n
 ·obtain ⟨b, off, C, T, fr, e1, hb, hfit, hc⟩ := hA.get (show k < l.length by omega)
  rw [List.drop_eq_getElem_cons (show k < l.length by omega), tblB] at hok
  generalize l[k]'(by omega) = y at *
  rw [e1]
  by_cases hy : last < y.page ∧ y.page < 64 ∧ 1 ≤ y.since ∧ y.since ≤ 1099511627776
  ·rw [decide_eq_true hy, Bool.true_and] at hok
   repeat' (first | (refine iBu ?_; refine ZC (Ze rfl) rfl rfl ?_) | (refine Zj ?_; first | (refine Zi ?_; refine qQ ?_) | refine Zo ?_) | refine Zc ?_ | (refine Zh ?_; refine Zz ?_) | (refine Zg ?_; refine Zy ?_) | intro _)
   rw [← e1]
   refine Zu (k + 1, y.page) (⟨hlt, hok⟩) Zn Zn rfl tk inferInstance (by first | omega | (dsimp only; omega))
  ·rw [decide_eq_false hy, Bool.false_and] at hok
   subst hok
   repeat' (first | (refine iBu ?_; refine ZC (Ze rfl) rfl rfl ?_) | (refine Zj ?_; first | (refine Zi ?_; refine qQ ?_) | refine Zo ?_) | refine Zc ?_ | (refine Zh ?_; refine Zz ?_) | (refine Zg ?_; refine Zy ?_) | (refine YO ?_; refine ZI rfl rfl (fun hb => ?_) (fun hb => ?_) <;> (try simp only [decide_eq_true_eq, decide_eq_false_iff_not, Bool.not_eq_true, Bool.not_eq_false, beq_iff_eq, bne_iff_ne, ne_eq, decide_eq_decide, Bool.not_eq_eq_eq_not, Bool.not_true, Bool.not_false, beq_eq_false_iff_ne, bne_eq_false_iff_eq, Bool.and_eq_true, Bool.or_eq_true, Bool.and_eq_false_imp, Bool.or_eq_false_iff, bq2, bqt, bqf] at hb)) | (refine Ya ?_; refine ZO rfl (fun hb => ?_) (fun hb => ?_) <;> (try simp only [decide_eq_true_eq, decide_eq_false_iff_not, Bool.not_eq_true, Bool.not_eq_false, beq_iff_eq, bne_iff_ne, ne_eq, decide_eq_decide, Bool.not_eq_eq_eq_not, Bool.not_true, Bool.not_false, beq_eq_false_iff_ne, bne_eq_false_iff_eq, Bool.and_eq_true, Bool.or_eq_true, Bool.and_eq_false_imp, Bool.or_eq_false_iff, bq2, bqt, bqf] at hb)) | intro _)
   all_goals first | exact qE ⟨rfl, rfl, rfl⟩ | (exfalso; omega)
 ·have hk2 : k = l.length := by omega
  rw [hk2, List.drop_length, tblB] at hok
  subst hok
  repeat' (first | (refine iBu ?_; refine ZC (Ze rfl) rfl rfl ?_) | (refine Zj ?_; first | (refine Zi ?_; refine qQ ?_) | refine Zo ?_) | refine Zc ?_ | (refine Zh ?_; refine Zz ?_) | (refine Zg ?_; refine Zy ?_) | intro _)
  exact qE ⟨rfl, rfl, rfl⟩
theorem RosIn.nil {ρ : Hp} : RosIn ρ nilS ⟨0, []⟩ := ⟨AS.nil, by simp⟩
theorem at1_spec (ρ : Hp) (p : CkP) (n : Int) : Spec Tryz.prog 229 [.agg ⟨YG p⟩, .int .i64 n] ρ [] (fun v ρ' L' => v = .int .i64 (cmpI p.page n) ∧ ρ' = ρ ∧ L' = []) := by
 refine Zf Tryz.func229 rfl rfl rfl fun u R => ?_
 simp only [ZG, List.cons_append, List.nil_append]
 repeat' (first | (refine Zd (.func 209) ?_; refine qC rfl rfl (cmpI_spec _ _ _) ?_; rintro v ρ' L' hle ⟨rfl, rfl, rfl⟩ <;> (try simp only [kM, kN, kO])) | (refine iBu ?_; refine ZC (Ze rfl) rfl rfl ?_) | (refine Zj ?_; first | (refine Zi ?_; refine qQ ?_) | refine Zo ?_) | refine Zc ?_ | (refine Zh ?_; refine Zz ?_) | (refine Zg ?_; refine Zy ?_) | intro _)
 exact qE ⟨rfl, rfl, rfl⟩
structure AtR (l : List CkP) (page : Int) (i : Nat) (there : Bool) : Prop where
 le : i ≤ l.length
 hit : there = true → ∃ h : i < l.length, l[i].page = page
 lo : YF l = true → ∀ j (h : j < l.length), j < i → l[j].page < page
 hi : YF l = true → there = false → ∀ j (h : j < l.length), i ≤ j → page < l[j].page
theorem tblB_lt : ∀ {l : List CkP} {last : Int}, tblB last l = true → (∀ j (h : j < l.length), last < l[j].page ∧ l[j].page < 64 ∧ 1 ≤ l[j].since ∧ l[j].since ≤ 1099511627776) ∧ ∀ i j (h : j < l.length) (hij : i < j), (l[i]'(by omega)).page < l[j].page
 | [], _, _ => ⟨fun j h => by simp at h, fun i j h => by simp at h⟩
 | p :: r, last, h => by
  rw [tblB, Bool.and_eq_true, decide_eq_true_eq] at h
  obtain ⟨⟨h1, h2, h3, h4⟩, h5⟩ := h
  obtain ⟨g1, g2⟩ := tblB_lt h5
  refine ⟨fun j hj => ?_, fun i j hj hij => ?_⟩
  ·cases j with
   | zero => exact ⟨h1, h2, h3, h4⟩
   | succ j =>
    have := g1 j (by simpa using hj)
    simp only [List.getElem_cons_succ]
    exact ⟨by omega, this.2⟩
  ·cases j with
   | zero => omega
   | succ j =>
    cases i with
    | zero => simp only [List.getElem_cons_succ, List.getElem_cons_zero]; exact (g1 j (by simpa using hj)).1
    | succ i => simp only [List.getElem_cons_succ]; exact g2 i j (by simpa using hj) (by omega)
theorem search_spec (ρ : Hp) (a : Option Addr) (n c : Nat) (l : List CkP) (h : AIn ρ 2 YG a n l) (hn : n ≤ 1000000) (page : Int) :
  Spec Tryz.prog 228 [.slice a n c, .int .i64 page, .func (.func 229) ⟨[]⟩ ⟨[]⟩] ρ []
  (fun v ρ' L' => ρ' = ρ ∧ ∃ i there, v = .tuple ⟨[.int .i64 (i : Nat), .bool there]⟩ ∧ AtR l page i there ∧ L' = []) := by
 have hl := h.len
 refine Zf Tryz.func228 rfl rfl rfl fun u R => ?_
 simp only [ZG, List.cons_append, List.nil_append]
 repeat' (first | (refine iBu ?_; refine ZC (Ze rfl) rfl rfl ?_) | (refine Zj ?_; first | (refine Zi ?_; refine qQ ?_) | refine Zo ?_) | refine Zc ?_ | (refine Zh ?_; refine Zz ?_) | (refine Zg ?_; refine Zy ?_) | intro _)
 refine ZL [(0, _), (1, _), (2, _), (6, _), (7, _), (8, _)] (fun (ζ : (Nat) × (Nat)) => [(9, .int .i64 ζ.1), (10, .int .i64 ζ.2)]) (fun (ζ : (Nat) × (Nat)) => ρ) (fun (ζ : (Nat) × (Nat)) => []) (fun (ζ : (Nat) × (Nat)) => ζ.1 ≤ ζ.2 ∧ ζ.2 ≤ n ∧ (YF l = true → (∀ k (h : k < l.length), k < ζ.1 → l[k].page < page) ∧ ∀ k (h : k < l.length), ζ.2 ≤ k → page ≤ l[k].page)) (fun (ζ : (Nat) × (Nat)) => ζ.2 - ζ.1) ((0, n)) (⟨Nat.zero_le _, Nat.le_refl _, fun _ => ⟨fun k _ h => by omega, fun k h1 h2 => by omega⟩⟩) Zn Zn rfl tk ?_
 rintro ⟨i, j⟩ hI
 try simp only [List.cons_append, List.nil_append, List.append_assoc, List.append_eq] at hI ⊢
 try dsimp only at hI ⊢
 obtain ⟨hij, hj, hok⟩ := hI
 by_cases hlt : i < j
 ·have hm : ((i : Int) + (j : Int)) / 2 ^ 1 = (((i + j) / 2 : Nat) : Int) := by omega
  obtain ⟨b, off, C, T, fr, e1, hb, hfit, hc⟩ := h.get (show (i + j) / 2 < l.length by omega)
  have hq : ∀ x : CkP, l[(i + j) / 2]'(by omega) = x → (x.page < page → YF l = true → (∀ k (h : k < l.length), k < (i + j) / 2 + 1 → l[k].page < page)) ∧ (page ≤ x.page → YF l = true → ∀ k (h : k < l.length), (i + j) / 2 ≤ k → page ≤ l[k].page) := fun x hx => by
   refine ⟨fun hp ht k hk hk2 => ?_, fun hp ht k hk hk2 => ?_⟩
   ·have hs := (tblB_lt ht).2 k ((i + j) / 2) (by omega)
    by_cases e : k = (i + j) / 2
    ·subst e; rw [hx]; exact hp
    ·have := hs (by omega); rw [hx] at this; omega
   ·have hs := (tblB_lt ht).2 ((i + j) / 2) k hk
    by_cases e : k = (i + j) / 2
    ·subst e; rw [hx]; exact hp
    ·have := hs (by omega); rw [hx] at this; omega
  generalize hX : l[(i + j) / 2]'(by omega) = x at *
  obtain ⟨q1, q2⟩ := hq x rfl
  rw [e1]
  by_cases hlp : x.page < page
  ·have hcm : cmpI x.page page < 0 := by unfold cmpI; rw [if_pos hlp]; omega
   repeat' (first | (refine iSr ?_; refine ZC (y_shr (c := 1) rfl rfl (by omega) (by simp [IntKind.bits])) rfl rfl ?_; rw [hm]) | (refine Zd (.tmp 24) ?_; refine qC rfl rfl (at1_spec _ _ _) ?_; rintro v ρ' L' hle ⟨rfl, rfl, rfl⟩ <;> (try simp only [kM, kN, kO])) | (refine iBu ?_; refine ZC (Ze rfl) rfl rfl ?_) | (refine Zj ?_; first | (refine Zi ?_; refine qQ ?_) | refine Zo ?_) | refine Zc ?_ | (refine Zh ?_; refine Zz ?_) | (refine Zg ?_; refine Zy ?_) | intro _)
   rw [← e1]
   have hs1 := q1 hlp
   refine Zu ((i + j) / 2 + 1, j) (⟨by omega, hj, fun ht => ⟨hs1 ht, (hok ht).2⟩⟩) Zn Zn rfl tk inferInstance (by first | omega | (dsimp only; omega))
  ·have hcm : ¬ cmpI x.page page < 0 := by unfold cmpI; rw [if_neg hlp]; split <;> omega
   repeat' (first | (refine iSr ?_; refine ZC (y_shr (c := 1) rfl rfl (by omega) (by simp [IntKind.bits])) rfl rfl ?_; rw [hm]) | (refine Zd (.tmp 24) ?_; refine qC rfl rfl (at1_spec _ _ _) ?_; rintro v ρ' L' hle ⟨rfl, rfl, rfl⟩ <;> (try simp only [kM, kN, kO])) | (refine iBu ?_; refine ZC (Ze rfl) rfl rfl ?_) | (refine Zj ?_; first | (refine Zi ?_; refine qQ ?_) | refine Zo ?_) | refine Zc ?_ | (refine Zh ?_; refine Zz ?_) | (refine Zg ?_; refine Zy ?_) | intro _)
   rw [← e1]
   have hs2 := q2 (by omega)
   refine Zu (i, (i + j) / 2) (⟨by omega, by omega, fun ht => ⟨(hok ht).1, hs2 ht⟩⟩) Zn Zn rfl tk inferInstance (by first | omega | (dsimp only; omega))
 ·obtain rfl : i = j := by omega
  by_cases hin : i < n
  ·obtain ⟨b, off, C, T, fr, e1, hb, hfit, hc⟩ := h.get (show i < l.length by omega)
   have hX : l[i]'(by omega) = l[i]'(by omega) := rfl
   generalize hx : l[i]'(by omega) = x at hc hX
   rw [e1]
   by_cases hp : x.page = page
   ·have hcm : cmpI x.page page = 0 := by unfold cmpI; rw [hp]; simp
    repeat' (first | (refine Zd (.tmp 40) ?_; refine qC rfl rfl (at1_spec _ _ _) ?_; rintro v ρ' L' hle ⟨rfl, rfl, rfl⟩ <;> (try simp only [kM, kN, kO, hcm])) | (refine iBu ?_; refine ZC (Ze rfl) rfl rfl ?_) | (refine Zj ?_; first | (refine Zi ?_; refine qQ ?_) | refine Zo ?_) | refine Zc ?_ | (refine Zh ?_; refine Zz ?_) | (refine Zg ?_; refine Zy ?_) | intro _)
    exact qE ⟨rfl, i, true, rfl, ⟨by omega, fun _ => ⟨by omega, by rw [hx]; exact hp⟩, fun ht => (hok ht).1, (fun _ e => nomatch e)⟩, rfl⟩
   ·have hcm : cmpI x.page page ≠ 0 := by unfold cmpI; split <;> (try split) <;> omega
    repeat' (first | (refine Zd (.tmp 40) ?_; refine qC rfl rfl (at1_spec _ _ _) ?_; rintro v ρ' L' hle ⟨rfl, rfl, rfl⟩ <;> (try simp only [kM, kN, kO])) | (refine iBu ?_; refine ZC (Ze rfl) rfl rfl ?_) | (refine Zj ?_; first | (refine Zi ?_; refine qQ ?_) | refine Zo ?_) | refine Zc ?_ | (refine Zh ?_; refine Zz ?_) | (refine Zg ?_; refine Zy ?_) | intro _)
    refine qE ⟨rfl, i, false, rfl, ⟨by omega, (fun e => nomatch e), fun ht => (hok ht).1, fun ht _ k hk hik => ?_⟩, rfl⟩
    have h1 := (hok ht).2 k hk hik
    by_cases e : i = k
    ·subst e; rw [hx]; rw [hx] at h1; omega
    ·have h2 := (tblB_lt ht).2 i k hk (by omega)
     have h3 := (hok ht).2 i (by omega) (Nat.le_refl _)
     omega
  ·repeat' (first | (refine iBu ?_; refine ZC (Ze rfl) rfl rfl ?_) | (refine Zj ?_; first | (refine Zi ?_; refine qQ ?_) | refine Zo ?_) | refine Zc ?_ | (refine Zh ?_; refine Zz ?_) | (refine Zg ?_; refine Zy ?_) | intro _)
   exact qE ⟨rfl, i, false, rfl, ⟨by omega, (fun e => nomatch e), fun ht => (hok ht).1, fun ht _ k hk hik => by omega⟩, rfl⟩
theorem at_spec (ρ : Hp) (s : SV) (l : List CkP) (h : AS ρ 2 YG s l) (page : Int) :
  Spec Tryz.prog 151 [.slice s.a s.n s.c, .int .i64 page] ρ [] (fun v ρ' L' => ρ' = ρ ∧ ∃ i there, v = .tuple ⟨[.int .i64 (i : Nat), .bool there]⟩ ∧ AtR l page i there ∧ L' = []) := by
 have hs := search_spec ρ s.a s.n s.c l h.at' h.big page
 refine Zf Tryz.func151 rfl rfl rfl fun u R => ?_
 simp only [ZG, List.cons_append, List.nil_append]
 repeat' (first | (refine Zd (.func 228) ?_; refine qC rfl rfl (hs) ?_; rintro v ρ' L' hle ⟨rfl, i, there, rfl, hA, rfl⟩ <;> (try simp only [kM, kN, kO])) | (refine iBu ?_; refine ZC (Ze rfl) rfl rfl ?_) | (refine Zj ?_; first | (refine Zi ?_; refine qQ ?_) | refine Zo ?_) | refine Zc ?_ | (refine Zh ?_; refine Zz ?_) | (refine Zg ?_; refine Zy ?_) | intro _)
 exact qE ⟨rfl, i, there, rfl, hA, rfl⟩
def addP (page : Int) (lsn : Nat) : List CkP → List CkP
 | [] => [⟨page, lsn⟩]
 | p :: r => if p.page < page then p :: addP page lsn r else if p.page = page then p :: r else ⟨page, lsn⟩ :: p :: r
def recP (page : Int) (l : List CkP) : Option CkP := l.find? (fun p => decide (p.page = page))
theorem addP_in {page : Int} {lsn : Nat} : ∀ {l : List CkP} {i : Nat} (h : i < l.length), (∀ j (h : j < l.length), j < i → l[j].page < page) → l[i].page = page → addP page lsn l = l
 | p :: r, 0, h, _, he => by simp at he; simp [addP, he]
 | p :: r, i + 1, h, hlt, he => by
  have h0 := hlt 0 (by simp) (by omega)
  simp only [List.getElem_cons_zero] at h0
  rw [addP, if_pos h0, addP_in (i := i) (by simpa using h) (fun j hj hji => by have := hlt (j + 1) (by simpa using hj) (by omega); simpa using this) (by simpa using he)]
theorem addP_out {page : Int} {lsn : Nat} : ∀ {l : List CkP} {i : Nat} (h : i ≤ l.length), (∀ j (h : j < l.length), j < i → l[j].page < page) → (∀ j (h : j < l.length), i ≤ j → page < l[j].page) → addP page lsn l = l.take i ++ ⟨page, lsn⟩ :: l.drop i
 | [], 0, _, _, _ => rfl
 | p :: r, 0, _, _, hi => by
  have h0 := hi 0 (by simp) (by omega)
  simp only [List.getElem_cons_zero] at h0
  rw [addP, if_neg (by omega), if_neg (by omega)]; rfl
 | p :: r, i + 1, h, hlt, hi => by
  have h0 := hlt 0 (by simp) (by omega)
  simp only [List.getElem_cons_zero] at h0
  rw [addP, if_pos h0, addP_out (i := i) (by simpa using h) (fun j hj hji => by have := hlt (j + 1) (by simpa using hj) (by omega); simpa using this) (fun j hj hji => by have := hi (j + 1) (by simpa using hj) (by omega); simpa using this)]
  rfl
theorem AtR.add {l : List CkP} {page : Int} {lsn i : Nat} {there : Bool} (h : AtR l page i there) (ht : YF l = true) : addP page lsn l = if there then l else l.take i ++ ⟨page, lsn⟩ :: l.drop i := by
 cases there with
 | true =>
  obtain ⟨h1, h2⟩ := h.hit rfl
  rw [if_pos rfl]
  exact addP_in h1 (h.lo ht) h2
 | false =>
  rw [if_neg (by simp)]
  exact addP_out h.le (h.lo ht) (h.hi ht rfl)
theorem AtR.rec' {l : List CkP} {page : Int} {i : Nat} {there : Bool} (h : AtR l page i there) (ht : YF l = true) : recP page l = if there then l[i]? else none := by
 unfold recP
 cases there with
 | true =>
  obtain ⟨h1, h2⟩ := h.hit rfl
  rw [if_pos rfl, List.getElem?_eq_getElem h1, List.find?_eq_some_iff_getElem]
  refine ⟨by simpa using h2, i, h1, rfl, fun j hj => ?_⟩
  have := h.lo ht j (by omega) hj
  simp; omega
 | false =>
  rw [if_neg (by simp), List.find?_eq_none]
  intro p hp
  obtain ⟨j, hj, rfl⟩ := List.mem_iff_getElem.1 hp
  by_cases e : j < i
  ·have := h.lo ht j hj e; simp; omega
  ·have := h.hi ht rfl j hj (by omega); simp; omega
abbrev recC (rb : Nat) (v : RV) (r : Rc) : List (Nat × Obj) := [(rb, .cells ⟨Xo v r⟩ 30 (0, 0))]
def redoI (r : Rc) (page : Int) : Option Im := if Yo r then r.ims.find? (fun x => decide (x.page = page)) else none
def contO (o : Option Im) : List Value := match o with | some x => contV x.a.kind x.av | none => contV 0 ⟨none, 0, 0, none, 0, 0⟩
theorem idx_find {l : List Im} {page : Int} : (idxI (fun x : Im => decide (x.page = page)) l = -1 ∧ l.find? (fun x => decide (x.page = page)) = none) ∨ ∃ i, ∃ h : i < l.length, idxI (fun x : Im => decide (x.page = page)) l = (i : Int) ∧ l.find? (fun x => decide (x.page = page)) = some l[i] := by
 unfold idxI
 cases hf : l.findIdx? (fun x : Im => decide (x.page = page)) with
 | none =>
  left
  rw [List.findIdx?_eq_none_iff] at hf
  exact ⟨rfl, List.find?_eq_none.2 (fun x hx => by rw [hf x hx]; simp)⟩
 | some i =>
  right
  obtain ⟨h1, h2, h3⟩ := List.findIdx?_eq_some_iff_getElem.1 hf
  exact ⟨i, h1, rfl, List.find?_eq_some_iff_getElem.2 ⟨h2, i, h1, rfl, fun j hj => by have := h3 j hj; simpa using this⟩⟩
theorem redoes_spec (ρ : Hp) (v : RV) (r : Rc) (h : RcIn ρ v r) (page : Int) : Spec Tryz.prog 156 [.agg ⟨Xo v r⟩, .int .i64 page] ρ []
  (fun z ρ' L' => z = .tuple ⟨[.agg ⟨contO (redoI r page)⟩, .bool (redoI r page).isSome]⟩ ∧ ρ' = ρ ∧ L' = []) := by
 have hck := rcheck_spec ρ v r h
 have hidx := fun nb => idxIm_spec ρ v.i.a v.i.n v.i.c r.ims h.i.at' h.i.big nb page
 have hin := h.i.at'.len
 have hn := h.i.big
 refine Zf Tryz.func156 rfl rfl rfl fun u R => ?_
 simp only [ZG, List.cons_append, List.nil_append]
 unfold redoI
 rcases idx_find (l := r.ims) (page := page) with ⟨e1, e2⟩ | ⟨i, hi, e1, e2⟩
 ·rw [e1] at hidx
  rw [e2]
  have : (if Yo r = true then none else none : Option Im) = none := by split <;> rfl
  rw [this]
  repeat' (first | (refine Zd (.func 232) ?_; refine qC rfl rfl (hidx _) ?_; rintro v ρ' L' hle ⟨rfl, rfl, rfl⟩ <;> (try simp only [kM, kN, kO])) | (refine iBu ?_; refine ZC (Ze rfl) rfl rfl ?_) | (refine Zj ?_; first | (refine Zi ?_; refine qQ ?_) | refine Zo ?_) | refine Zc ?_ | (refine Zh ?_; refine Zz ?_) | (refine Zg ?_; refine Zy ?_) | intro _)
  exact qE ⟨rfl, rfl, rfl⟩
 ·rw [e1] at hidx
  rw [e2]
  cases hok : Yo r
  ·rw [hok] at hck
   repeat' (first | (refine Zd (.func 232) ?_; refine qC rfl rfl (hidx _) ?_; rintro v ρ' L' hle ⟨rfl, rfl, rfl⟩ <;> (try simp only [kM, kN, kO])) | (refine Zd (.func 27) ?_; refine qC rfl rfl (hck) ?_; rintro v ρ' L' hle ⟨rfl, rfl, rfl⟩ <;> (try simp only [kM, kN, kO, if_false, Bool.false_eq_true])) | (refine iBu ?_; refine ZC (Ze rfl) rfl rfl ?_) | (refine Zj ?_; first | (refine Zi ?_; refine qQ ?_) | refine Zo ?_) | refine Zc ?_ | (refine Zh ?_; refine Zz ?_) | (refine Zg ?_; refine Zy ?_) | intro _)
   exact qE ⟨rfl, rfl, rfl⟩
  ·rw [hok] at hck
   obtain ⟨b, off, C, T, fr, f1, hb, hfit, hc⟩ := h.i.at'.get hi
   have hsub : List.take 3 (List.drop (off + i * 7 + 4) C) = contV r.ims[i].a.kind r.ims[i].av := by
    have := congrArg (fun l => (l.drop 4).take 3) hc
    simp only [List.drop_take, List.take_take, List.drop_drop] at this
    exact this
   rw [if_pos rfl]
   generalize r.ims[i] = x at *
   rw [show Xo v r = [.int .i64 r.kind, .int .u64 r.lsn, .int .i64 r.txn, .int .u64 r.prev, .int .u64 r.next, .slice (some ⟨b, off, none⟩) v.i.n v.i.c, .slice v.s.a v.s.n v.s.c, .int .i64 r.nextTxn, .slice v.t.a v.t.n v.t.c, .slice v.d.a v.d.n v.d.c] by rw [← f1]]
   rw [show Xo v r = [.int .i64 r.kind, .int .u64 r.lsn, .int .i64 r.txn, .int .u64 r.prev, .int .u64 r.next, .slice (some ⟨b, off, none⟩) v.i.n v.i.c, .slice v.s.a v.s.n v.s.c, .int .i64 r.nextTxn, .slice v.t.a v.t.n v.t.c, .slice v.d.a v.d.n v.d.c] by rw [← f1]] at hck
   rw [f1] at hidx
   repeat' (first | (refine Zd (.func 232) ?_; refine qC rfl rfl (hidx _) ?_; rintro v ρ' L' hle ⟨rfl, rfl, rfl⟩ <;> (try simp only [kM, kN, kO])) | (refine Zd (.func 27) ?_; refine qC rfl rfl (hck) ?_; rintro v ρ' L' hle ⟨rfl, rfl, rfl⟩ <;> (try simp only [kM, kN, kO, if_true])) | (refine iBu ?_; refine ZC (Ze rfl) rfl rfl ?_) | (refine Zj ?_; first | (refine Zi ?_; refine qQ ?_) | refine Zo ?_) | refine Zc ?_ | (refine Zh ?_; refine Zz ?_) | (refine Zg ?_; refine Zy ?_) | intro _)
   exact qE ⟨rfl, rfl, rfl⟩
def YA (l : List CkP) (r : Rc) (page : Int) : Bool := (redoI r page).isSome && (YF l && (match recP page l with | some p => decide (p.since ≤ r.lsn) | none => false))
theorem needs_spec (ρ : Hp) (s : SV) (l : List CkP) (h : AS ρ 2 YG s l) (v : RV) (r : Rc) (hr : RcIn ρ v r) (page : Int) :
  Spec Tryz.prog 71 [.slice s.a s.n s.c, .agg ⟨Xo v r⟩, .int .i64 page] ρ [] (fun z ρ' L' => z = .bool (YA l r page) ∧ ρ' = ρ ∧ L' = []) := by
 have hl := h.at'.len
 have hn := h.big
 have hat := at_spec ρ s l h page
 have hck := ckcheck_spec ρ s l h
 have hre := redoes_spec ρ v r hr page
 unfold YA
 have hone : (contO (redoI r page)).all (·.oneCell') = true := by unfold contO; split <;> rfl
 have hlen3 : (contO (redoI r page)).length = 3 := by unfold contO; split <;> rfl
 generalize contO (redoI r page) = co at *
 generalize hb1 : (redoI r page).isSome = b1 at *
 obtain ⟨c0, c1, c2, rfl⟩ : ∃ c0 c1 c2, co = [c0, c1, c2] := by
  match co, hlen3 with
  | [c0, c1, c2], _ => exact ⟨c0, c1, c2, rfl⟩
 refine Zf Tryz.func71 rfl rfl rfl fun u R => ?_
 simp only [ZG, List.cons_append, List.nil_append]
 repeat' (first | (refine Zd (.func 156) ?_; refine qC rfl rfl (hre) ?_; rintro v ρ' L' hle ⟨rfl, rfl, rfl⟩ <;> (try simp only [kM, kN, kO])) | (refine Zd (.func 151) ?_; refine qC rfl rfl (hat) ?_; rintro v ρ' L' hle ⟨rfl, i, there, rfl, hAt, rfl⟩ <;> (try simp only [kM, kN, kO])) | (refine iBu ?_; refine ZC (Ze rfl) rfl rfl ?_) | (refine Zj ?_; first | (refine Zi ?_; refine qQ ?_) | refine Zo ?_) | refine Zc ?_ | (refine Zh ?_; refine Zz ?_) | (refine Zg ?_; refine Zy ?_) | intro _)
 cases b1
 ·rw [Bool.false_and]
  repeat' (first | (refine iBu ?_; refine ZC (Ze rfl) rfl rfl ?_) | (refine Zj ?_; first | (refine Zi ?_; refine qQ ?_) | refine Zo ?_) | refine Zc ?_ | (refine Zh ?_; refine Zz ?_) | (refine Zg ?_; refine Zy ?_) | intro _)
  refine ZJ (Zq _ _ _) Zx ?_
  all_goals (refine ZW 0 ?_; refine ZW 1 ?_; (first | refine Zb 2 ?_ | refine Za 2 ?_ | refine ZD 2 ?_); refine rPk 3 ?_; refine ZW 4 ?_; (first | refine Zb 5 ?_ | refine Za 5 ?_ | refine ZD 5 ?_); (first | refine Zb 6 ?_ | refine Za 6 ?_ | refine ZD 6 ?_); (first | refine Zb 7 ?_ | refine Za 7 ?_ | refine wIa 7 ?_); (first | refine Zb 8 ?_ | refine Za 8 ?_ | refine ZV 8 ?_); (first | refine Zb 9 ?_ | refine Za 9 ?_ | refine ZX 9 ?_); (first | refine Zb 10 ?_ | refine Za 10 ?_ | refine ZV 10 ?_); (first | refine Zb 11 ?_ | refine Za 11 ?_ | refine ZX 11 ?_); (first | refine Zb 12 ?_ | refine Za 12 ?_ | refine wCm 12 ?_); refine rPk 13 ?_; refine ZW 14 ?_; (first | refine Zb 15 ?_ | refine Za 15 ?_ | refine ZD 15 ?_))
  all_goals (first | refine Zb 16 ?_ | refine Za 16 ?_ | (refine Zt (i := 16) ?_; ((try refine Zr ?_); (first | (refine Zo ?_; try intro _)) <;> ((try simp only [kM, kN, kO]); refine Zc ?_; refine Zs ?_))))
  all_goals (refine ZY ?_; (first | refine Zb 17 ?_ | refine Za 17 ?_ | refine wCm 17 ?_); refine rPk 18 ?_; refine rAs 19 ?_; refine ZT ?_)
  all_goals (repeat' (first | (refine iBu ?_; refine ZC (Ze rfl) rfl rfl ?_) | (refine Zj ?_; first | (refine Zi ?_; refine qQ ?_) | refine Zo ?_) | refine Zc ?_ | (refine Zh ?_; refine Zz ?_) | (refine Zg ?_; refine Zy ?_) | intro _))
  all_goals exact qE ⟨rfl, rfl, rfl⟩
 ·rw [Bool.true_and]
  cases there
  ·have hz : (YF l && (match recP page l with | some p => decide (p.since ≤ r.lsn) | none => false)) = false := by
    cases ht : YF l with
    | false => rfl
    | true => rw [hAt.rec' ht, if_neg (by simp)]; rfl
   rw [hz]
   repeat' (first | (refine iBu ?_; refine ZC (Ze rfl) rfl rfl ?_) | (refine Zj ?_; first | (refine Zi ?_; refine qQ ?_) | refine Zo ?_) | refine Zc ?_ | (refine Zh ?_; refine Zz ?_) | (refine Zg ?_; refine Zy ?_) | intro _)
   refine ZJ (Zq _ _ _) Zx ?_
   all_goals (refine ZW 0 ?_; refine ZW 1 ?_; (first | refine Zb 2 ?_ | refine Za 2 ?_ | refine ZD 2 ?_); refine rPk 3 ?_; refine ZW 4 ?_; (first | refine Zb 5 ?_ | refine Za 5 ?_ | refine ZD 5 ?_); (first | refine Zb 6 ?_ | refine Za 6 ?_ | refine ZD 6 ?_); (first | refine Zb 7 ?_ | refine Za 7 ?_ | refine wIa 7 ?_); (first | refine Zb 8 ?_ | refine Za 8 ?_ | refine ZV 8 ?_); (first | refine Zb 9 ?_ | refine Za 9 ?_ | refine ZX 9 ?_); (first | refine Zb 10 ?_ | refine Za 10 ?_ | refine ZV 10 ?_); (first | refine Zb 11 ?_ | refine Za 11 ?_ | refine ZX 11 ?_); (first | refine Zb 12 ?_ | refine Za 12 ?_ | refine wCm 12 ?_); refine rPk 13 ?_; refine ZW 14 ?_; (first | refine Zb 15 ?_ | refine Za 15 ?_ | refine ZD 15 ?_))
   all_goals (first | refine Zb 16 ?_ | refine Za 16 ?_ | (refine Zt (i := 16) ?_; ((try refine Zr ?_); (first | (refine Zo ?_; try intro _)) <;> ((try simp only [kM, kN, kO]); refine Zc ?_; refine Zs ?_))))
   all_goals (refine ZY ?_; (first | refine Zb 17 ?_ | refine Za 17 ?_ | refine wCm 17 ?_); refine rPk 18 ?_; refine rAs 19 ?_; refine ZT ?_)
   all_goals (repeat' (first | (refine iBu ?_; refine ZC (Ze rfl) rfl rfl ?_) | (refine Zj ?_; first | (refine Zi ?_; refine qQ ?_) | refine Zo ?_) | refine Zc ?_ | (refine Zh ?_; refine Zz ?_) | (refine Zg ?_; refine Zy ?_) | intro _))
   all_goals exact qE ⟨rfl, rfl, rfl⟩
  ·obtain ⟨h1, h2⟩ := hAt.hit rfl
   obtain ⟨b, off, C, T, fr, e1, hb, hfit, hc⟩ := h.at'.get h1
   have hrec : YF l = true → recP page l = some l[i] := fun ht => by rw [hAt.rec' ht, if_pos rfl, List.getElem?_eq_getElem h1]
   generalize l[i]'h1 = x at *
   have hce : C[off + i * 2 + 1]? = some (.int .u64 x.since) := by
    have := congrArg (fun l => l[1]?) hc
    simp only [List.getElem?_take, List.getElem?_drop] at this
    simpa using this
   have hpost : (YF l && (match recP page l with | some p => decide (p.since ≤ r.lsn) | none => false)) = (decide (x.since ≤ r.lsn) && YF l) := by
    cases ht : YF l with
    | false => simp
    | true => rw [hrec ht]; simp
   rw [hpost]
   rw [e1] at hck ⊢
   by_cases hle : x.since ≤ r.lsn
   ·rw [decide_eq_true hle, Bool.true_and]
    cases ht : YF l
    ·rw [ht] at hck
     repeat' (first | (refine iBu ?_; refine ZC (Ze rfl) rfl rfl ?_) | (refine Zj ?_; first | (refine Zi ?_; refine qQ ?_) | refine Zo ?_) | refine Zc ?_ | (refine Zh ?_; refine Zz ?_) | (refine Zg ?_; refine Zy ?_) | intro _)
     refine ZJ (Zq _ _ _) Zx ?_
     all_goals (refine ZW 0 ?_; refine ZW 1 ?_; (first | refine Zb 2 ?_ | refine Za 2 ?_ | refine ZD 2 ?_); refine rPk 3 ?_; refine ZW 4 ?_; (first | refine Zb 5 ?_ | refine Za 5 ?_ | refine ZD 5 ?_); (first | refine Zb 6 ?_ | refine Za 6 ?_ | refine ZD 6 ?_); (first | refine Zb 7 ?_ | refine Za 7 ?_ | refine wIa 7 ?_); (first | refine Zb 8 ?_ | refine Za 8 ?_ | refine ZV 8 ?_); (first | refine Zb 9 ?_ | refine Za 9 ?_ | refine ZX 9 ?_); (first | refine Zb 10 ?_ | refine Za 10 ?_ | refine ZV 10 ?_); (first | refine Zb 11 ?_ | refine Za 11 ?_ | refine ZX 11 ?_); (first | refine Zb 12 ?_ | refine Za 12 ?_ | refine wCm 12 ?_); refine rPk 13 ?_; refine ZW 14 ?_; (first | refine Zb 15 ?_ | refine Za 15 ?_ | refine ZD 15 ?_))
     all_goals (first | refine Zb 16 ?_ | refine Za 16 ?_ | (refine Zt (i := 16) ?_; ((try refine Zr ?_); (first | (refine Zd (.func 157) ?_; refine qC rfl rfl (hck) ?_; rintro v ρ' L' hle ⟨rfl, rfl, rfl⟩ <;> (try simp only [kM, kN, kO, if_false, Bool.false_eq_true])) | (refine Zo ?_; try intro _)) <;> ((try simp only [kM, kN, kO]); refine Zc ?_; refine Zs ?_))))
     all_goals (refine ZY ?_; (first | refine Zb 17 ?_ | refine Za 17 ?_ | refine wCm 17 ?_); refine rPk 18 ?_; refine rAs 19 ?_; refine ZT ?_)
     all_goals (repeat' (first | (refine iBu ?_; refine ZC (Ze rfl) rfl rfl ?_) | (refine Zj ?_; first | (refine Zi ?_; refine qQ ?_) | refine Zo ?_) | refine Zc ?_ | (refine Zh ?_; refine Zz ?_) | (refine Zg ?_; refine Zy ?_) | intro _))
     all_goals exact qE ⟨rfl, rfl, rfl⟩
    ·rw [ht] at hck
     repeat' (first | (refine iBu ?_; refine ZC (Ze rfl) rfl rfl ?_) | (refine Zj ?_; first | (refine Zi ?_; refine qQ ?_) | refine Zo ?_) | refine Zc ?_ | (refine Zh ?_; refine Zz ?_) | (refine Zg ?_; refine Zy ?_) | intro _)
     refine ZJ (Zq _ _ _) Zx ?_
     all_goals (refine ZW 0 ?_; refine ZW 1 ?_; (first | refine Zb 2 ?_ | refine Za 2 ?_ | refine ZD 2 ?_); refine rPk 3 ?_; refine ZW 4 ?_; (first | refine Zb 5 ?_ | refine Za 5 ?_ | refine ZD 5 ?_); (first | refine Zb 6 ?_ | refine Za 6 ?_ | refine ZD 6 ?_); (first | refine Zb 7 ?_ | refine Za 7 ?_ | refine wIa 7 ?_); (first | refine Zb 8 ?_ | refine Za 8 ?_ | refine ZV 8 ?_); (first | refine Zb 9 ?_ | refine Za 9 ?_ | refine ZX 9 ?_); (first | refine Zb 10 ?_ | refine Za 10 ?_ | refine ZV 10 ?_); (first | refine Zb 11 ?_ | refine Za 11 ?_ | refine ZX 11 ?_); (first | refine Zb 12 ?_ | refine Za 12 ?_ | refine wCm 12 ?_); refine rPk 13 ?_; refine ZW 14 ?_; (first | refine Zb 15 ?_ | refine Za 15 ?_ | refine ZD 15 ?_))
     all_goals (first | refine Zb 16 ?_ | refine Za 16 ?_ | (refine Zt (i := 16) ?_; ((try refine Zr ?_); (first | (refine Zd (.func 157) ?_; refine qC rfl rfl (hck) ?_; rintro v ρ' L' hle ⟨rfl, rfl, rfl⟩ <;> (try simp only [kM, kN, kO, if_true])) | (refine Zo ?_; try intro _)) <;> ((try simp only [kM, kN, kO]); refine Zc ?_; refine Zs ?_))))
     all_goals (refine ZY ?_; (first | refine Zb 17 ?_ | refine Za 17 ?_ | refine wCm 17 ?_); refine rPk 18 ?_; refine rAs 19 ?_; refine ZT ?_)
     all_goals (repeat' (first | (refine iBu ?_; refine ZC (Ze rfl) rfl rfl ?_) | (refine Zj ?_; first | (refine Zi ?_; refine qQ ?_) | refine Zo ?_) | refine Zc ?_ | (refine Zh ?_; refine Zz ?_) | (refine Zg ?_; refine Zy ?_) | intro _))
     all_goals exact qE ⟨rfl, rfl, rfl⟩
   ·rw [decide_eq_false hle, Bool.false_and]
    repeat' (first | (refine iBu ?_; refine ZC (Ze rfl) rfl rfl ?_) | (refine Zj ?_; first | (refine Zi ?_; refine qQ ?_) | refine Zo ?_) | refine Zc ?_ | (refine Zh ?_; refine Zz ?_) | (refine Zg ?_; refine Zy ?_) | intro _)
    refine ZJ (Zq _ _ _) Zx ?_
    all_goals (refine ZW 0 ?_; refine ZW 1 ?_; (first | refine Zb 2 ?_ | refine Za 2 ?_ | refine ZD 2 ?_); refine rPk 3 ?_; refine ZW 4 ?_; (first | refine Zb 5 ?_ | refine Za 5 ?_ | refine ZD 5 ?_); (first | refine Zb 6 ?_ | refine Za 6 ?_ | refine ZD 6 ?_); (first | refine Zb 7 ?_ | refine Za 7 ?_ | refine wIa 7 ?_); (first | refine Zb 8 ?_ | refine Za 8 ?_ | refine ZV 8 ?_); (first | refine Zb 9 ?_ | refine Za 9 ?_ | refine ZX 9 ?_); (first | refine Zb 10 ?_ | refine Za 10 ?_ | refine ZV 10 ?_); (first | refine Zb 11 ?_ | refine Za 11 ?_ | refine ZX 11 ?_); (first | refine Zb 12 ?_ | refine Za 12 ?_ | refine wCm 12 ?_); refine rPk 13 ?_; refine ZW 14 ?_; (first | refine Zb 15 ?_ | refine Za 15 ?_ | refine ZD 15 ?_))
    all_goals (first | refine Zb 16 ?_ | refine Za 16 ?_ | (refine Zt (i := 16) ?_; ((try refine Zr ?_); (first | (refine Zo ?_; try intro _)) <;> ((try simp only [kM, kN, kO]); refine Zc ?_; refine Zs ?_))))
    all_goals (refine ZY ?_; (first | refine Zb 17 ?_ | refine Za 17 ?_ | refine wCm 17 ?_); refine rPk 18 ?_; refine rAs 19 ?_; refine ZT ?_)
    all_goals (repeat' (first | (refine iBu ?_; refine ZC (Ze rfl) rfl rfl ?_) | (refine Zj ?_; first | (refine Zi ?_; refine qQ ?_) | refine Zo ?_) | refine Zc ?_ | (refine Zh ?_; refine Zz ?_) | (refine Zg ?_; refine Zy ?_) | intro _))
    all_goals exact qE ⟨rfl, rfl, rfl⟩
def zRc : Rc := ⟨0, 0, 0, 0, 0, [], [], 0, [], []⟩
def zRV : RV := ⟨nilS, nilS, nilS, nilS⟩
theorem RcIn.zero {ρ : Hp} : RcIn ρ zRV zRc := ⟨AS.nil, by simp [zRc], AS.nil, AS.nil, AS.nil, by simp [zRc]⟩
structure CW (ρ : Hp) (v : CV) (c : Cont) : Prop where
 r : AIn ρ 4 Yx v.ra v.rn c.rows
 k : AIn ρ 3 Xp v.ka v.kn c.kids
 rb : v.rn ≤ 140737488355328
 kb : v.kn ≤ 140737488355328
 rc : v.rn ≤ v.rc
 kc : v.kn ≤ v.kc
 row : ∀ r ∈ c.rows, RowFit r
 kid : ∀ k ∈ c.kids, k.id < 65536
structure AW (ρ : Hp) (sz : Nat) {α : Type} (g : α → List Value) (s : SV) (l : List α) : Prop where
 at' : AIn ρ sz g s.a s.n l
 big : s.n ≤ 140737488355328
 cap : s.n ≤ s.c
structure RcW (ρ : Hp) (v : RV) (r : Rc) : Prop where
 i : AW ρ 7 imV v.i r.ims
 im : ∀ x ∈ r.ims, CW ρ x.bv x.b ∧ CW ρ x.av x.a
 s : AW ρ 6 stpV v.s r.steps
 t : AW ρ 5 ckTV v.t r.txns
 d : AW ρ 2 YG v.d r.dirty
 sf : ∀ s ∈ r.steps, RowFit s.row
theorem CW.mono {ρ ρ' v c} (h : CW ρ v c) (hle : ρ.le ρ') : CW ρ' v c := ⟨h.r.mono hle, h.k.mono hle, h.rb, h.kb, h.rc, h.kc, h.row, h.kid⟩
theorem AW.mono {ρ ρ' : Hp} {sz : Nat} {α : Type} {g : α → List Value} {s : SV} {l : List α} (h : AW ρ sz g s l) (hle : ρ.le ρ') : AW ρ' sz g s l := ⟨h.at'.mono hle, h.big, h.cap⟩
theorem RcW.mono {ρ ρ' v r} (h : RcW ρ v r) (hle : ρ.le ρ') : RcW ρ' v r := ⟨h.i.mono hle, fun x hx => ⟨(h.im x hx).1.mono hle, (h.im x hx).2.mono hle⟩, h.s.mono hle, h.t.mono hle, h.d.mono hle, h.sf⟩
end Go.Proofs.E
namespace Go.Proofs.E
open Go Go.RowKit
set_option linter.unusedVariables false
set_option linter.unusedSimpArgs false
set_option linter.unusedSectionVars false
set_option maxRecDepth 8000
theorem rsw_flat {α : Type} {sz : Nat} {g : α → List Value} {C : List Value} {off : Nat} : ∀ (l : List α) (k : Nat), k ≤ l.length → (∀ i (h : i < l.length), (C.drop (off + i * sz)).take sz = g l[i]) → (C.drop off).take (k * sz) = ((l.take k).map g).flatten
 | l, 0, _, _ => by simp
 | l, k + 1, hk, h => by
  have ih := rsw_flat l k (by omega) h
  rw [show l.take (k + 1) = l.take k ++ [l[k]'(by omega)] from List.take_succ_eq_append_getElem (by omega), Nat.add_mul, Nat.one_mul, List.take_add, ih, List.drop_drop, h k (by omega)]
  simp only [List.map_append, List.flatten_append, List.map_cons, List.map_nil, List.flatten_cons, List.flatten_nil, List.append_nil]
theorem aIn_ofW {ρ : Hp} {α : Type} {sz : Nat} {g : α → List Value} {P : α → Prop} {cs : List Value} {s : Option Addr × Nat × Nat × List α} (hg : ∀ x, (g x).length = sz) (h : RS ρ sz (fun cs x => cs = g x ∧ P x) cs s) : AIn ρ sz g s.1 s.2.1 s.2.2.2 ∧ (∀ x ∈ s.2.2.2, P x) ∧ s.2.1 ≤ s.2.2.1 ∧ s.2.1 ≤ 9223372036854775807 := by
 obtain ⟨a, n, c, ks⟩ := s
 obtain ⟨h1, h2, h3, h4, h5⟩ := h
 dsimp only at h1 h2 h3 h4 h5 ⊢
 refine ⟨⟨h4, ?_, fun x _ => hg x⟩, fun x hx => ?_, h2, by omega⟩
 ·by_cases h0 : n = 0
  ·exact .inl h0
  ·right
   obtain ⟨b, off, C, T, fr, e1, e2, e3, e4⟩ := h5 0 (by omega)
   have same : ∀ i (h : i < ks.length), off + i * sz + sz ≤ C.length ∧ (C.drop (off + i * sz)).take sz = g ks[i] := fun i hi => by
    obtain ⟨b', off', C', T', fr', f1, f2, f3, f4⟩ := h5 i hi
    rw [e1] at f1
    cases f1
    rw [e2] at f2
    cases f2
    exact ⟨f3, f4.1⟩
   refine ⟨b, off, C, T, fr, e1, e2, ?_, ?_⟩
   ·have := (same (n - 1) (by omega)).1
    have e : n * sz = (n - 1) * sz + sz := by
     obtain ⟨m, rfl⟩ : ∃ m, n = m + 1 := ⟨n - 1, by omega⟩
     rw [Nat.add_mul]; simp
    omega
   ·have := rsw_flat (sz := sz) (g := g) ks n (by omega) (fun i hi => (same i hi).2)
    rw [this, List.take_of_length_le (by omega)]
 ·obtain ⟨i, hi, rfl⟩ := List.mem_iff_getElem.1 hx
  obtain ⟨_, _, _, _, _, _, _, _, f⟩ := h5 i hi
  exact f.2
section
variable {H : Type} {enc : TypeId × Value → H} {w : World}
theorem opnS_str : OpnS enc Tryz.prog w 9 (fun cs (l : List UInt8) => cs = [strV l]) := Opn.sized (fun fuel cs x h => by
 obtain ⟨s, rfl, _, _⟩ := DataW.trod_string Tryz.underlying9 h
 obtain ⟨⟨l⟩⟩ := s
 exact ⟨l, rfl⟩)
theorem opnS_key : OpnS enc Tryz.prog w 99 (fun cs (k : Int × Nat) => cs = keyV k.1 k.2 ∧ k.2 < 65536) := Opn.sized (fun fuel cs x h => by
 obtain ⟨hl, hf⟩ := opn_fields Tryz.underlying99 h
 have hl : cs.length = 2 := by rw [hl]; kernel_rfl
 obtain ⟨c0, c1, rfl⟩ : ∃ c0 c1, cs = [c0, c1] := by
  match cs, hl with
  | [c0, c1], _ => exact ⟨c0, c1, rfl⟩
 obtain ⟨t, h0, _⟩ := opn_field h Tryz.underlying99 0 0 1 rfl rfl rfl (by kernel_rfl) (Ym Tryz.underlying3)
 obtain ⟨i, h1, i0, i1⟩ := opn_field h Tryz.underlying99 1 1 1 rfl rfl rfl (by kernel_rfl) (Ym Tryz.underlying97)
 simp only [List.drop_zero, List.drop_succ_cons, List.take_succ_cons, List.take_zero, List.cons.injEq, and_true] at h0 h1
 subst h0; subst h1
 simp only [lo, hi] at i0 i1
 refine ⟨(t, i.toNat), ?_, by dsimp only; omega⟩
 have : ((i.toNat : Nat) : Int) = i := by omega
 simp only [keyV, this])
theorem opnS_row : OpnS enc Tryz.prog w 101 (fun cs (r : Row) => cs = Yx r ∧ RowFit r) := fun fuel cs x h hw => by
 obtain ⟨hl, hf⟩ := Yw Tryz.underlying101 h hw
 have hl : cs.length = 4 := by rw [hl]; kernel_rfl
 obtain ⟨c0, c1, c2, c3, rfl⟩ : ∃ c0 c1 c2 c3, cs = [c0, c1, c2, c3] := by
  match cs, hl with
  | [c0, c1, c2, c3], _ => exact ⟨c0, c1, c2, c3, rfl⟩
 obtain ⟨⟨t, i⟩, h0, hi0⟩ := ZF h hw Tryz.underlying101 0 0 2 rfl rfl rfl (by kernel_rfl) opnS_key
 obtain ⟨v, h1, v0, v1⟩ := ZF h hw Tryz.underlying101 1 2 1 rfl rfl rfl (by kernel_rfl) (Ym Tryz.underlying2).sized
 obtain ⟨s, h2⟩ := ZF h hw Tryz.underlying101 2 3 1 rfl rfl rfl (by kernel_rfl) opnS_str
 simp only [List.drop_zero, List.drop_succ_cons, List.take_succ_cons, List.take_zero, List.cons.injEq, and_true, keyV] at h0 h1 h2
 obtain ⟨rfl, rfl⟩ := h0
 subst h1; subst h2
 simp only [lo, hi] at v0 v1
 exact ⟨⟨t, i, v, s⟩, rfl, ⟨hi0, v0, v1⟩⟩
theorem opnS_kid : OpnS enc Tryz.prog w 224 (fun cs (k : Kid) => cs = Xp k ∧ k.id < 65536) := fun fuel cs x h hw => by
 obtain ⟨hl, hf⟩ := Yw Tryz.underlying224 h hw
 have hl : cs.length = 3 := by rw [hl]; kernel_rfl
 obtain ⟨c0, c1, c2, rfl⟩ : ∃ c0 c1 c2, cs = [c0, c1, c2] := by
  match cs, hl with
  | [c0, c1, c2], _ => exact ⟨c0, c1, c2, rfl⟩
 obtain ⟨⟨t, i⟩, h0, hi0⟩ := ZF h hw Tryz.underlying224 0 0 2 rfl rfl rfl (by kernel_rfl) opnS_key
 obtain ⟨v, h1, _⟩ := ZF h hw Tryz.underlying224 1 2 1 rfl rfl rfl (by kernel_rfl) (Ym Tryz.underlying3).sized
 simp only [List.drop_zero, List.drop_succ_cons, List.take_succ_cons, List.take_zero, List.cons.injEq, and_true, keyV] at h0 h1
 obtain ⟨rfl, rfl⟩ := h0
 subst h1
 exact ⟨⟨t, i, v⟩, rfl, hi0⟩
theorem opnS_cont : OpnS enc Tryz.prog w 110 (fun cs (x : CV × Cont) => cs = contV x.2.kind x.1 ∧ CW (hpOf w) x.1 x.2) := fun fuel cs x h hw => by
 obtain ⟨hl, hf⟩ := Yw Tryz.underlying110 h hw
 have hl : cs.length = 3 := by rw [hl]; kernel_rfl
 obtain ⟨c0, c1, c2, rfl⟩ : ∃ c0 c1 c2, cs = [c0, c1, c2] := by
  match cs, hl with
  | [c0, c1, c2], _ => exact ⟨c0, c1, c2, rfl⟩
 obtain ⟨k, h0, _⟩ := ZF h hw Tryz.underlying110 0 0 1 rfl rfl rfl (by kernel_rfl) (Ym Tryz.underlying3).sized
 obtain ⟨⟨ra, rn, rc, rows⟩, h1, w1⟩ := ZF h hw Tryz.underlying110 1 1 1 rfl rfl rfl (by kernel_rfl) (YL (sz := 4) (by' := 40) Tryz.underlying107 (by kernel_rfl) (by decide) (by kernel_rfl) opnS_row)
 obtain ⟨⟨ka, kn, kc, kids⟩, h2, w2⟩ := ZF h hw Tryz.underlying110 2 2 1 rfl rfl rfl (by kernel_rfl) (YL (sz := 3) (by' := 24) Tryz.underlying108 (by kernel_rfl) (by decide) (by kernel_rfl) opnS_kid)
 obtain ⟨g1, g2, g3, _⟩ := aIn_ofW rowV_len h1
 obtain ⟨k1, k2, k3, _⟩ := aIn_ofW kidV_len h2
 simp only [reachBytes] at w1 w2
 replace h1 := h1.cells
 replace h2 := h2.cells
 simp only [List.drop_zero, List.drop_succ_cons, List.take_succ_cons, List.take_zero, List.cons.injEq, and_true] at h0 h1 h2
 subst h0; subst h1; subst h2
 exact ⟨(⟨ra, rn, rc, ka, kn, kc⟩, ⟨k, rows, kids⟩), rfl, ⟨g1, k1, by dsimp only; omega, by dsimp only; omega, g3, k3, g2, k2⟩⟩
theorem opnS_image : OpnS enc Tryz.prog w 128 (fun cs (x : Im) => cs = imV x ∧ (CW (hpOf w) x.bv x.b ∧ CW (hpOf w) x.av x.a)) := fun fuel cs x h hw => by
 obtain ⟨hl, hf⟩ := Yw Tryz.underlying128 h hw
 have hl : cs.length = 7 := by rw [hl]; kernel_rfl
 obtain ⟨c0, c1, c2, c3, c4, c5, c6, rfl⟩ : ∃ c0 c1 c2 c3 c4 c5 c6, cs = [c0, c1, c2, c3, c4, c5, c6] := by
  match cs, hl with
  | [c0, c1, c2, c3, c4, c5, c6], _ => exact ⟨c0, c1, c2, c3, c4, c5, c6, rfl⟩
 obtain ⟨k, h0, _⟩ := ZF h hw Tryz.underlying128 0 0 1 rfl rfl rfl (by kernel_rfl) (Ym Tryz.underlying3).sized
 obtain ⟨⟨bv, b⟩, h1, w1⟩ := ZF h hw Tryz.underlying128 1 1 3 rfl rfl rfl (by kernel_rfl) opnS_cont
 obtain ⟨⟨av, a⟩, h2, w2⟩ := ZF h hw Tryz.underlying128 2 4 3 rfl rfl rfl (by kernel_rfl) opnS_cont
 simp only [List.drop_zero, List.drop_succ_cons, List.take_succ_cons, List.take_zero, List.cons.injEq, and_true, contV] at h0 h1 h2
 obtain ⟨rfl, rfl, rfl⟩ := h1
 obtain ⟨rfl, rfl, rfl⟩ := h2
 subst h0
 exact ⟨⟨k, bv, b, av, a⟩, rfl, w1, w2⟩
theorem opnS_step : OpnS enc Tryz.prog w 103 (fun cs (x : Stp) => cs = stpV x ∧ RowFit x.row) := fun fuel cs x h hw => by
 obtain ⟨hl, hf⟩ := Yw Tryz.underlying103 h hw
 have hl : cs.length = 6 := by rw [hl]; kernel_rfl
 obtain ⟨c0, c1, c2, c3, c4, c5, rfl⟩ : ∃ c0 c1 c2 c3 c4 c5, cs = [c0, c1, c2, c3, c4, c5] := by
  match cs, hl with
  | [c0, c1, c2, c3, c4, c5], _ => exact ⟨c0, c1, c2, c3, c4, c5, rfl⟩
 obtain ⟨k, h0, _⟩ := ZF h hw Tryz.underlying103 0 0 1 rfl rfl rfl (by kernel_rfl) (Ym Tryz.underlying3).sized
 obtain ⟨r, h1, w1⟩ := ZF h hw Tryz.underlying103 1 1 4 rfl rfl rfl (by kernel_rfl) opnS_row
 obtain ⟨b, h2, _⟩ := ZF h hw Tryz.underlying103 2 5 1 rfl rfl rfl (by kernel_rfl) (Ym Tryz.underlying2).sized
 simp only [List.drop_zero, List.drop_succ_cons, List.take_succ_cons, List.take_zero, List.cons.injEq, and_true, Yx] at h0 h1 h2
 obtain ⟨rfl, rfl, rfl, rfl⟩ := h1
 subst h0; subst h2
 exact ⟨⟨k, r, b⟩, rfl, w1⟩
theorem u64_back {i : Int} (h : lo .u64 ≤ i) : ((i.toNat : Nat) : Int) = i := by simp only [lo] at h; omega
theorem opnS_ckt : OpnS enc Tryz.prog w 81 (fun cs (x : CkT) => cs = ckTV x ∧ True) := fun fuel cs x h hw => by
 obtain ⟨hl, hf⟩ := Yw Tryz.underlying81 h hw
 have hl : cs.length = 5 := by rw [hl]; kernel_rfl
 obtain ⟨c0, c1, c2, c3, c4, rfl⟩ : ∃ c0 c1 c2 c3 c4, cs = [c0, c1, c2, c3, c4] := by
  match cs, hl with
  | [c0, c1, c2, c3, c4], _ => exact ⟨c0, c1, c2, c3, c4, rfl⟩
 obtain ⟨k, h0, _⟩ := ZF h hw Tryz.underlying81 0 0 1 rfl rfl rfl (by kernel_rfl) (Ym Tryz.underlying3).sized
 obtain ⟨f, h1, f0, f1⟩ := ZF h hw Tryz.underlying81 1 1 1 rfl rfl rfl (by kernel_rfl) (Ym Tryz.underlying24).sized
 obtain ⟨l, h2, l0, l1⟩ := ZF h hw Tryz.underlying81 2 2 1 rfl rfl rfl (by kernel_rfl) (Ym Tryz.underlying24).sized
 obtain ⟨u, h3, u0, u1⟩ := ZF h hw Tryz.underlying81 3 3 1 rfl rfl rfl (by kernel_rfl) (Ym Tryz.underlying24).sized
 obtain ⟨s, h4, _⟩ := ZF h hw Tryz.underlying81 4 4 1 rfl rfl rfl (by kernel_rfl) (Ym Tryz.underlying3).sized
 simp only [List.drop_zero, List.drop_succ_cons, List.take_succ_cons, List.take_zero, List.cons.injEq, and_true] at h0 h1 h2 h3 h4
 subst h0; subst h1; subst h2; subst h3; subst h4
 refine ⟨⟨k, f.toNat, l.toNat, u.toNat, s⟩, ?_, trivial⟩
 simp only [ckTV, u64_back f0, u64_back l0, u64_back u0]
theorem opnS_ckp : OpnS enc Tryz.prog w 125 (fun cs (x : CkP) => cs = YG x ∧ True) := fun fuel cs x h hw => by
 obtain ⟨hl, hf⟩ := Yw Tryz.underlying125 h hw
 have hl : cs.length = 2 := by rw [hl]; kernel_rfl
 obtain ⟨c0, c1, rfl⟩ : ∃ c0 c1, cs = [c0, c1] := by
  match cs, hl with
  | [c0, c1], _ => exact ⟨c0, c1, rfl⟩
 obtain ⟨k, h0, _⟩ := ZF h hw Tryz.underlying125 0 0 1 rfl rfl rfl (by kernel_rfl) (Ym Tryz.underlying3).sized
 obtain ⟨f, h1, f0, f1⟩ := ZF h hw Tryz.underlying125 1 1 1 rfl rfl rfl (by kernel_rfl) (Ym Tryz.underlying24).sized
 simp only [List.drop_zero, List.drop_succ_cons, List.take_succ_cons, List.take_zero, List.cons.injEq, and_true] at h0 h1
 subst h0; subst h1
 refine ⟨⟨k, f.toNat⟩, ?_, trivial⟩
 simp only [YG, u64_back f0]
theorem opnS_rec : OpnS enc Tryz.prog w 30 (fun cs (x : RV × Rc) => cs = Xo x.1 x.2 ∧ RcW (hpOf w) x.1 x.2) := fun fuel cs x h hw => by
 obtain ⟨hl, hf⟩ := Yw Tryz.underlying30 h hw
 have hl : cs.length = 10 := by rw [hl]; kernel_rfl
 obtain ⟨c0, c1, c2, c3, c4, c5, c6, c7, c8, c9, rfl⟩ : ∃ c0 c1 c2 c3 c4 c5 c6 c7 c8 c9, cs = [c0, c1, c2, c3, c4, c5, c6, c7, c8, c9] := by
  match cs, hl with
  | [c0, c1, c2, c3, c4, c5, c6, c7, c8, c9], _ => exact ⟨c0, c1, c2, c3, c4, c5, c6, c7, c8, c9, rfl⟩
 obtain ⟨k, h0, _⟩ := ZF h hw Tryz.underlying30 0 0 1 rfl rfl rfl (by kernel_rfl) (Ym Tryz.underlying3).sized
 obtain ⟨l, h1, l0, _⟩ := ZF h hw Tryz.underlying30 1 1 1 rfl rfl rfl (by kernel_rfl) (Ym Tryz.underlying24).sized
 obtain ⟨t, h2, _⟩ := ZF h hw Tryz.underlying30 2 2 1 rfl rfl rfl (by kernel_rfl) (Ym Tryz.underlying3).sized
 obtain ⟨p, h3, p0, _⟩ := ZF h hw Tryz.underlying30 3 3 1 rfl rfl rfl (by kernel_rfl) (Ym Tryz.underlying24).sized
 obtain ⟨n, h4, n0, _⟩ := ZF h hw Tryz.underlying30 4 4 1 rfl rfl rfl (by kernel_rfl) (Ym Tryz.underlying24).sized
 obtain ⟨⟨ia, inn, ic, ims⟩, h5, w5⟩ := ZF h hw Tryz.underlying30 5 5 1 rfl rfl rfl (by kernel_rfl) (YL (sz := 7) (by' := 120) Tryz.underlying25 (by kernel_rfl) (by decide) (by kernel_rfl) opnS_image)
 obtain ⟨⟨sa, sn, sc, steps⟩, h6, w6⟩ := ZF h hw Tryz.underlying30 6 6 1 rfl rfl rfl (by kernel_rfl) (YL (sz := 6) (by' := 56) Tryz.underlying26 (by kernel_rfl) (by decide) (by kernel_rfl) opnS_step)
 obtain ⟨x7, h7, _⟩ := ZF h hw Tryz.underlying30 7 7 1 rfl rfl rfl (by kernel_rfl) (Ym Tryz.underlying3).sized
 obtain ⟨⟨ta, tn, tc, txns⟩, h8, w8⟩ := ZF h hw Tryz.underlying30 8 8 1 rfl rfl rfl (by kernel_rfl) (YL (sz := 5) (by' := 40) Tryz.underlying27 (by kernel_rfl) (by decide) (by kernel_rfl) opnS_ckt)
 obtain ⟨⟨da, dn, dc, dirty⟩, h9, w9⟩ := ZF h hw Tryz.underlying30 9 9 1 rfl rfl rfl (by kernel_rfl) (YL (sz := 2) (by' := 16) Tryz.underlying28 (by kernel_rfl) (by decide) (by kernel_rfl) opnS_ckp)
 obtain ⟨i1, i2, i3, _⟩ := aIn_ofW imV_len h5
 obtain ⟨s1, s2, s3, _⟩ := aIn_ofW stpV_len h6
 obtain ⟨t1, t2, t3, _⟩ := aIn_ofW ckTV_len h8
 obtain ⟨d1, d2, d3, _⟩ := aIn_ofW ckPV_len h9
 simp only [reachBytes] at w5 w6 w8 w9
 replace h5 := h5.cells
 replace h6 := h6.cells
 replace h8 := h8.cells
 replace h9 := h9.cells
 simp only [List.drop_zero, List.drop_succ_cons, List.take_succ_cons, List.take_zero, List.cons.injEq, and_true] at h0 h1 h2 h3 h4 h5 h6 h7 h8 h9
 subst h0; subst h1; subst h2; subst h3; subst h4; subst h5; subst h6; subst h7; subst h8; subst h9
 refine ⟨(⟨⟨ia, inn, ic⟩, ⟨sa, sn, sc⟩, ⟨ta, tn, tc⟩, ⟨da, dn, dc⟩⟩, ⟨k, l.toNat, t, p.toNat, n.toNat, ims, steps, x7, txns, dirty⟩), ?_, ⟨⟨i1, by dsimp only; omega, i3⟩, i2, ⟨s1, by dsimp only; omega, s3⟩, ⟨t1, by dsimp only; omega, t3⟩, ⟨d1, by dsimp only; omega, d3⟩, s2⟩⟩
 simp only [Xo, u64_back l0, u64_back p0, u64_back n0]
end
end Go.Proofs.E
namespace Go.Proofs.E
open Go
set_option linter.unusedVariables false
set_option linter.unusedSimpArgs false
set_option linter.unusedSectionVars false
set_option maxRecDepth 4000
set_option maxHeartbeats 1000000
attribute [local irreducible] Yl TL TC TE Spec Xn R1 Hp.le EnvLe TS TR YS Zq
theorem rpage12_spec (ρ : Hp) (n : Int) : Spec Tryz.prog 177 [.int .i64 n] ρ [] (fun v ρ' L' => v = .bool (pageOk n) ∧ ρ' = ρ ∧ L' = []) := by
 refine Zf Tryz.func177 rfl rfl rfl fun u R => ?_
 simp only [ZG, List.cons_append, List.nil_append]
 repeat' (first | (refine iBu ?_; refine ZC (Ze rfl) rfl rfl ?_) | (refine Zj ?_; first | (refine Zi ?_; refine qQ ?_) | refine Zo ?_) | refine Zc ?_ | (refine Zh ?_; refine Zz ?_) | (refine Zg ?_; refine Zy ?_) | (refine YO ?_; refine ZI rfl rfl (fun hb => ?_) (fun hb => ?_) <;> (try simp only [decide_eq_true_eq, decide_eq_false_iff_not, Bool.not_eq_true, Bool.not_eq_false, beq_iff_eq, bne_iff_ne, ne_eq, decide_eq_decide, Bool.not_eq_eq_eq_not, Bool.not_true, Bool.not_false, beq_eq_false_iff_ne, bne_eq_false_iff_eq, Bool.and_eq_true, Bool.or_eq_true, Bool.and_eq_false_imp, Bool.or_eq_false_iff, bq2, bqt, bqf] at hb)) | (refine Ya ?_; refine ZO rfl (fun hb => ?_) (fun hb => ?_) <;> (try simp only [decide_eq_true_eq, decide_eq_false_iff_not, Bool.not_eq_true, Bool.not_eq_false, beq_iff_eq, bne_iff_ne, ne_eq, decide_eq_decide, Bool.not_eq_eq_eq_not, Bool.not_true, Bool.not_false, beq_eq_false_iff_ne, bne_eq_false_iff_eq, Bool.and_eq_true, Bool.or_eq_true, Bool.and_eq_false_imp, Bool.or_eq_false_iff, bq2, bqt, bqf] at hb)) | intro _)
 all_goals (refine qF (L' := []) ?_; exact ⟨Yi (by simp [pageOk]; (try omega)), rfl, rfl⟩)
theorem step12_spec (ρ : Hp) (s : Stp) (hf : RowFit s.row) : Spec Tryz.prog 179 [.agg ⟨stpV s⟩] ρ [] (fun v ρ' L' => v = .bool (Yn s) ∧ ρ' = ρ ∧ L' = []) := by
 obtain ⟨kind, row, bb⟩ := s
 have hck := Xd ρ row
 have ho := rowV_only row
 unfold Yn onlyOk
 dsimp only
 generalize hP : decide (row.val = 0 ∧ row.note = []) = P at *
 generalize hQ : YJ row = Q at *
 refine Zf Tryz.func179 rfl rfl rfl fun u R => ?_
 simp only [ZG, List.cons_append, List.nil_append]
 cases P <;> cases Q
 all_goals (repeat' (first | (refine iBu ?_; refine ZC (v := .agg ⟨Yx ⟨row.t, row.id, 0, []⟩⟩) (YW rfl rfl) rfl rfl ?_) | (refine iCm ?_; refine ZC (y_eqc_l rfl rfl ho) rfl rfl ?_) | (refine Zd (.func 247) ?_; refine qC rfl rfl (hck) ?_; rintro v ρ' L' hle ⟨rfl, rfl, rfl⟩ <;> (try simp only [kM, kN, kO])) | (refine iBu ?_; refine ZC (Ze rfl) rfl rfl ?_) | (refine Zj ?_; first | (refine Zi ?_; refine qQ ?_) | refine Zo ?_) | refine Zc ?_ | (refine Zh ?_; refine Zz ?_) | (refine Zg ?_; refine Zy ?_) | (refine YO ?_; refine ZI rfl rfl (fun hb => ?_) (fun hb => ?_) <;> (try simp only [decide_eq_true_eq, decide_eq_false_iff_not, Bool.not_eq_true, Bool.not_eq_false, beq_iff_eq, bne_iff_ne, ne_eq, decide_eq_decide, Bool.not_eq_eq_eq_not, Bool.not_true, Bool.not_false, beq_eq_false_iff_ne, bne_eq_false_iff_eq, Bool.and_eq_true, Bool.or_eq_true, Bool.and_eq_false_imp, Bool.or_eq_false_iff, bq2, bqt, bqf] at hb)) | (refine Ya ?_; refine ZO rfl (fun hb => ?_) (fun hb => ?_) <;> (try simp only [decide_eq_true_eq, decide_eq_false_iff_not, Bool.not_eq_true, Bool.not_eq_false, beq_iff_eq, bne_iff_ne, ne_eq, decide_eq_decide, Bool.not_eq_eq_eq_not, Bool.not_true, Bool.not_false, beq_eq_false_iff_ne, bne_eq_false_iff_eq, Bool.and_eq_true, Bool.or_eq_true, Bool.and_eq_false_imp, Bool.or_eq_false_iff, bq2, bqt, bqf] at hb)) | intro _))
 all_goals (refine qF (L' := []) ?_; exact ⟨Yi (by clear ho hck; (repeat' split) <;> simp_all <;> omega), rfl, rfl⟩)
theorem steps12_spec (ρ : Hp) (s : SV) (l : List Stp) (h : AS ρ 6 stpV s l) (hf : ∀ x ∈ l, RowFit x.row) : Spec Tryz.prog 96 [.slice s.a s.n s.c] ρ [] (fun v ρ' L' => v = .bool (decide (0 < l.length ∧ l.length ≤ 2) && l.all Yn) ∧ ρ' = ρ ∧ L' = []) := by
 have hl := h.at'.len
 have hn := h.big
 have hA := h.at'
 rw [hl]
 generalize hq : l.all Yn = q
 refine Zf Tryz.func96 rfl rfl rfl fun u R => ?_
 simp only [ZG, List.cons_append, List.nil_append]
 repeat' (first | (refine iBu ?_; refine ZC (Ze rfl) rfl rfl ?_) | (refine Zj ?_; first | (refine Zi ?_; refine qQ ?_) | refine Zo ?_) | refine Zc ?_ | (refine Zh ?_; refine Zz ?_) | (refine Zg ?_; refine Zy ?_) | intro _)
 refine ZL [(0, _), (5, _), (6, _)] (fun (ζ : (Nat)) => [(7, .int .i64 ζ), (2, .bool false)]) (fun (ζ : (Nat)) => ρ) (fun (ζ : (Nat)) => []) (fun (ζ : (Nat)) => ζ ≤ s.n ∧ (l.drop ζ).all Yn = q) (fun (ζ : (Nat)) => s.n - ζ) (0) (⟨Nat.zero_le _, hq⟩) Zn Zn rfl tk ?_
 rintro k hI
 try simp only [List.cons_append, List.nil_append, List.append_assoc, List.append_eq] at hI ⊢
 try dsimp only at hI ⊢
 obtain ⟨hk, hok⟩ := hI
 by_cases hlt : k < s.n
 ·obtain ⟨b, off, C, T, fr, e1, hb, hfit, hc⟩ := hA.get (show k < l.length by omega)
  have hmem := List.getElem_mem (show k < l.length by omega)
  rw [List.drop_eq_getElem_cons (show k < l.length by omega), List.all_cons] at hok
  generalize l[k]'(by omega) = x at *
  have hst := step12_spec ρ x (hf x hmem)
  rw [e1]
  cases hx : Yn x
  ·rw [hx, Bool.false_and] at hok
   rw [hx] at hst
   subst hok
   rw [Bool.and_false]
   repeat' (first | (refine Zd (.func 179) ?_; refine qC rfl rfl (hst) ?_; rintro v ρ' L' hle ⟨rfl, rfl, rfl⟩ <;> (try simp only [kM, kN, kO])) | (refine iBu ?_; refine ZC (Ze rfl) rfl rfl ?_) | (refine Zj ?_; first | (refine Zi ?_; refine qQ ?_) | refine Zo ?_) | refine Zc ?_ | (refine Zh ?_; refine Zz ?_) | (refine Zg ?_; refine Zy ?_) | intro _)
   exact qE (L' := []) ⟨rfl, rfl, rfl⟩
  ·rw [hx, Bool.true_and] at hok
   rw [hx] at hst
   repeat' (first | (refine Zd (.func 179) ?_; refine qC rfl rfl (hst) ?_; rintro v ρ' L' hle ⟨rfl, rfl, rfl⟩ <;> (try simp only [kM, kN, kO])) | (refine iBu ?_; refine ZC (Ze rfl) rfl rfl ?_) | (refine Zj ?_; first | (refine Zi ?_; refine qQ ?_) | refine Zo ?_) | refine Zc ?_ | (refine Zh ?_; refine Zz ?_) | (refine Zg ?_; refine Zy ?_) | intro _)
   rw [← e1]
   refine Zu (k + 1) (⟨hlt, hok⟩) Zn Zn rfl tk inferInstance (by first | omega | (dsimp only; omega))
 ·have hk2 : k = l.length := by omega
  rw [hk2, List.drop_length, List.all_nil] at hok
  subst hok
  rw [Bool.and_true]
  repeat' (first | (refine iBu ?_; refine ZC (Ze rfl) rfl rfl ?_) | (refine Zj ?_; first | (refine Zi ?_; refine qQ ?_) | refine Zo ?_) | refine Zc ?_ | (refine Zh ?_; refine Zz ?_) | (refine Zg ?_; refine Zy ?_) | (refine YO ?_; refine ZI rfl rfl (fun hb => ?_) (fun hb => ?_) <;> (try simp only [decide_eq_true_eq, decide_eq_false_iff_not, Bool.not_eq_true, Bool.not_eq_false, beq_iff_eq, bne_iff_ne, ne_eq, decide_eq_decide, Bool.not_eq_eq_eq_not, Bool.not_true, Bool.not_false, beq_eq_false_iff_ne, bne_eq_false_iff_eq, Bool.and_eq_true, Bool.or_eq_true, Bool.and_eq_false_imp, Bool.or_eq_false_iff, bq2, bqt, bqf] at hb)) | (refine Ya ?_; refine ZO rfl (fun hb => ?_) (fun hb => ?_) <;> (try simp only [decide_eq_true_eq, decide_eq_false_iff_not, Bool.not_eq_true, Bool.not_eq_false, beq_iff_eq, bne_iff_ne, ne_eq, decide_eq_decide, Bool.not_eq_eq_eq_not, Bool.not_true, Bool.not_false, beq_eq_false_iff_ne, bne_eq_false_iff_eq, Bool.and_eq_true, Bool.or_eq_true, Bool.and_eq_false_imp, Bool.or_eq_false_iff, bq2, bqt, bqf] at hb)) | intro _)
  all_goals (refine qF (L' := []) ?_; exact ⟨Yi (by (try simp [*]); first | done | omega | (intros; omega) | (constructor <;> intros <;> (try simp_all) <;> omega)), rfl, rfl⟩)
end Go.Proofs.E
