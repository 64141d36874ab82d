/- The law RecordReads. Part 9 of 21. -/
import Derived.Test.YtjajdpfdhokkhaaGreatV8
namespace Go.Proofs.E
open Go
set_option linter.unusedVariables false
set_option linter.unusedSimpArgs false
set_option linter.unusedSectionVars false
set_option maxRecDepth 4000
set_option maxHeartbeats 1000000
attribute [local irreducible] Yl TL TC TE Spec XW R1 Hp.le EnvLe TS TR YS Zv
theorem images_spec (ρ : Hp) (s : SV) (l : List Im) (h : AS ρ 7 imV s l) (him : ∀ x ∈ l, Im.In ρ x) (before : Bool) :
  Spec Tryz.prog 180 [.slice s.a s.n s.c, .bool before] ρ [] (fun v ρ' L' => v = .bool (imsOk before l) ∧ ρ' = ρ ∧ L' = []) := by
 have hl := h.at'.len
 have hr := fun bx => risesIm_spec ρ s.a s.n s.c l h.at' h.big bx before him
 refine Zf Tryz.func180 rfl rfl rfl fun u R => ?_
 simp only [Zx, List.cons_append, List.nil_append]
 unfold imsOk
 by_cases h16 : s.n ≤ 16
 ·rw [decide_eq_true (show l.length ≤ 16 by omega), Bool.true_and]
  repeat' (first | (refine Zc (.func 248) ?_; refine qC rfl rfl (hr _) ?_; rintro v ρ' L' hle ⟨rfl, rfl, rfl⟩ <;> (try simp only [kM, kN, kO])) | (refine Zj ?_; first | (refine Zg ?_; refine qQ ?_) | refine Zl ?_) | refine Za ?_ | (refine Zi ?_; refine Zq ?_) | (refine Zh ?_; refine Zp ?_) | intro _)
  exact qE (L' := []) ⟨rfl, rfl, rfl⟩
 ·rw [decide_eq_false (show ¬ l.length ≤ 16 by omega), Bool.false_and]
  repeat' (first | (refine Zj ?_; first | (refine Zg ?_; refine qQ ?_) | refine Zl ?_) | refine Za ?_ | (refine Zi ?_; refine Zq ?_) | (refine Zh ?_; refine Zp ?_) | intro _)
  exact qE (L' := []) ⟨rfl, rfl, rfl⟩
theorem rowV_only (r : Row) : decide (r = ⟨r.t, r.id, 0, []⟩) = decide (r.val = 0 ∧ r.note = []) := by
 obtain ⟨t, i, v, n⟩ := r
 simp
theorem step_spec (ρ : Hp) (s : Stp) : Spec Tryz.prog 183 [.agg ⟨XT s⟩] ρ [] (fun v ρ' L' => v = .bool (YF s) ∧ ρ' = ρ ∧ L' = []) := by
 obtain ⟨kind, row, bb⟩ := s
 have hck := checkRow_spec ρ row
 have ho := rowV_only row
 unfold YF onlyOk
 dsimp only
 generalize hP : decide (row.val = 0 ∧ row.note = []) = P at *
 generalize hQ : Yy row = Q at *
 refine Zf Tryz.func183 rfl rfl rfl fun u R => ?_
 simp only [Zx, List.cons_append, List.nil_append]
 cases P <;> cases Q
 all_goals (repeat' (first | (refine ZG ?_; refine Zn (v := .agg ⟨YY ⟨row.t, row.id, 0, []⟩⟩) (XY rfl rfl) rfl rfl ?_) | (refine iCm ?_; refine Zn (y_eqc_l rfl rfl ho) rfl rfl ?_) | (refine Zc (.func 253) ?_; refine qC rfl rfl (hck) ?_; rintro v ρ' L' hle ⟨rfl, rfl, rfl⟩ <;> (try simp only [kM, kN, kO])) | (refine Zj ?_; first | (refine Zg ?_; refine qQ ?_) | refine Zl ?_) | refine Za ?_ | (refine Zi ?_; refine Zq ?_) | (refine Zh ?_; refine Zp ?_) | (refine XO ?_; refine Yd rfl rfl (fun hb => ?_) (fun hb => ?_) <;> (try simp only [decide_eq_true_eq, decide_eq_false_iff_not, Bool.not_eq_true, Bool.not_eq_false, beq_iff_eq, bne_iff_ne, ne_eq, decide_eq_decide, Bool.not_eq_eq_eq_not, Bool.not_true, Bool.not_false, beq_eq_false_iff_ne, bne_eq_false_iff_eq, Bool.and_eq_true, Bool.or_eq_true, Bool.and_eq_false_imp, Bool.or_eq_false_iff] at hb)) | (refine Yx ?_; refine Yp rfl (fun hb => ?_) (fun hb => ?_) <;> (try simp only [decide_eq_true_eq, decide_eq_false_iff_not, Bool.not_eq_true, Bool.not_eq_false, beq_iff_eq, bne_iff_ne, ne_eq, decide_eq_decide, Bool.not_eq_eq_eq_not, Bool.not_true, Bool.not_false, beq_eq_false_iff_ne, bne_eq_false_iff_eq, Bool.and_eq_true, Bool.or_eq_true, Bool.and_eq_false_imp, Bool.or_eq_false_iff] at hb)) | intro _))
 all_goals (refine qF (L' := []) ?_; exact ⟨YI (by clear ho hck; (repeat' split) <;> simp_all <;> omega), rfl, rfl⟩)
def idxI {α : Type} (p : α → Bool) (l : List α) : Int := match l.findIdx? p with | some i => (i : Int) | none => -1
theorem idx_found {α : Type} {p : α → Bool} {l : List α} {k : Nat} (h : k < l.length) (hp : p l[k] = true) (hn : ∀ x ∈ l.take k, p x = false) : l.findIdx? p = some k := by
 rw [List.findIdx?_eq_some_iff_getElem]
 refine ⟨h, hp, fun j hj => ?_⟩
 have := hn l[j] (List.mem_take_iff_getElem.2 ⟨j, by omega, rfl⟩)
 simp [this]
theorem idx_none {α : Type} {p : α → Bool} {l : List α} (hn : ∀ x ∈ l, p x = false) : l.findIdx? p = none := by
 rw [List.findIdx?_eq_none_iff]
 exact hn
theorem take_more {α : Type} {p : α → Prop} {l : List α} {k : Nat} (h : k < l.length) (hp : p l[k]) (hn : ∀ x ∈ l.take k, p x) : ∀ x ∈ l.take (k + 1), p x := fun x hx => by
 rw [List.take_succ_eq_append_getElem h] at hx
 rcases List.mem_append.1 hx with hx | hx
 ·exact hn x hx
 ·rw [List.mem_singleton.1 hx]; exact hp
theorem done1_spec (ρ : Hp) (s : Stp) : Spec Tryz.prog 182 [.agg ⟨XT s⟩] ρ [] (fun v ρ' L' => v = .bool (!YF s) ∧ ρ' = ρ ∧ L' = []) := by
 refine Zf Tryz.func182 rfl rfl rfl fun u R => ?_
 simp only [Zx, List.cons_append, List.nil_append]
 repeat' (first | (refine Zc (.func 183) ?_; refine qC rfl rfl (step_spec _ s) ?_; rintro v ρ' L' hle ⟨rfl, rfl, rfl⟩ <;> (try simp only [kM, kN, kO])) | (refine Zj ?_; first | (refine Zg ?_; refine qQ ?_) | refine Zl ?_) | refine Za ?_ | (refine Zi ?_; refine Zq ?_) | (refine Zh ?_; refine Zp ?_) | intro _)
 exact qE ⟨rfl, rfl, rfl⟩
theorem idxStp_spec (ρ : Hp) (a : Option Addr) (n c : Nat) (l : List Stp) (h : AIn ρ 6 XT a n l) (hn : n ≤ 1000000)  :
  Spec Tryz.prog 252 [.slice a n c, .func (.func 182) ⟨[]⟩ ⟨[]⟩] ρ [] (fun z ρ' L' => z = .int .i64 (idxI (fun s : Stp => !YF s) l) ∧ ρ' = ρ ∧ L' = []) := by
 have hl := h.len
 generalize hP : (fun s : Stp => !YF s) = pp
 refine Zf Tryz.func252 rfl rfl rfl fun u R => ?_
 simp only [Zx, List.cons_append, List.nil_append]
 repeat' (first | (refine Zj ?_; first | (refine Zg ?_; refine qQ ?_) | refine Zl ?_) | refine Za ?_ | (refine Zi ?_; refine Zq ?_) | (refine Zh ?_; refine Zp ?_) | intro _)
 refine Zy [(0, _), (1, _), (7, _)] (fun (ζ : (Nat)) => [(8, .int .i64 ζ), (4, .int .i64 0)]) (fun (ζ : (Nat)) => ρ) (fun (ζ : (Nat)) => []) (fun (ζ : (Nat)) => ζ ≤ n ∧ ∀ x ∈ l.take ζ, pp x = false) (fun (ζ : (Nat)) => n - ζ) (0) (⟨Nat.zero_le _, by simp⟩) Zk Zk rfl tk ?_
 rintro k hI
 try simp only [List.cons_append, List.nil_append, List.append_assoc, List.append_eq] at hI ⊢
 try dsimp only at hI ⊢
 obtain ⟨hk, hok⟩ := hI
 by_cases hlt : k < n
 ·obtain ⟨b, off, C, T, fr, rfl, hb, hfit, hc⟩ := h.get (show k < l.length by omega)
  have hf := fun (e : pp l[k] = true) => idx_found (p := pp) (show k < l.length by omega) e hok
  have ht := fun (e : pp l[k] = false) => take_more (p := fun x => pp x = false) (show k < l.length by omega) e hok
  have hp : pp l[k] = (fun s : Stp => !YF s) l[k] := by rw [hP]
  cases hx : pp l[k]
  ·have hok2 := ht hx
   rw [hx] at hp
   generalize l[k] = x at *
   repeat' (first | (refine Zc (.tmp 11) ?_; refine qC rfl rfl (done1_spec _ _) ?_; rintro v ρ' L' hle ⟨rfl, rfl, rfl⟩ <;> (try simp only [kM, kN, kO, ← hp, Bool.not_true, Bool.not_false])) | (refine Zj ?_; first | (refine Zg ?_; refine qQ ?_) | refine Zl ?_) | refine Za ?_ | (refine Zi ?_; refine Zq ?_) | (refine Zh ?_; refine Zp ?_) | intro _)
   refine Zo (k + 1) (⟨hlt, hok2⟩) Zk Zk rfl tk inferInstance (by first | omega | (dsimp only; omega))
  ·have e := hf hx
   rw [hx] at hp
   have e2 : idxI pp l = (k : Int) := by unfold idxI; rw [e]
   rw [e2]
   generalize l[k] = x at *
   repeat' (first | (refine Zc (.tmp 11) ?_; refine qC rfl rfl (done1_spec _ _) ?_; rintro v ρ' L' hle ⟨rfl, rfl, rfl⟩ <;> (try simp only [kM, kN, kO, ← hp, Bool.not_true, Bool.not_false])) | (refine Zj ?_; first | (refine Zg ?_; refine qQ ?_) | refine Zl ?_) | refine Za ?_ | (refine Zi ?_; refine Zq ?_) | (refine Zh ?_; refine Zp ?_) | intro _)
   exact qE (L' := []) ⟨rfl, rfl, rfl⟩
 ·have hk2 : k = l.length := by omega
  rw [hk2, List.take_length] at hok
  have e2 : idxI pp l = -1 := by unfold idxI; rw [idx_none hok]
  rw [e2]
  repeat' (first | (refine Zj ?_; first | (refine Zg ?_; refine qQ ?_) | refine Zl ?_) | refine Za ?_ | (refine Zi ?_; refine Zq ?_) | (refine Zh ?_; refine Zp ?_) | intro _)
  exact qE (L' := []) ⟨rfl, rfl, rfl⟩
theorem contains_spec (ρ : Hp) (a : Option Addr) (n c : Nat) (l : List Stp) (h : AIn ρ 6 XT a n l) (hn : n ≤ 1000000) :
  Spec Tryz.prog 181 [.slice a n c, .func (.func 182) ⟨[]⟩ ⟨[]⟩] ρ [] (fun z ρ' L' => z = .bool (!(l.all YF)) ∧ ρ' = ρ ∧ L' = []) := by
 have hi := idxStp_spec ρ a n c l h hn
 have e : decide (0 ≤ idxI (fun s => !YF s) l) = !(l.all YF) := by
  unfold idxI
  cases hf : l.findIdx? (fun s => !YF s) with
  | none =>
   rw [List.findIdx?_eq_none_iff] at hf
   have : l.all YF = true := List.all_eq_true.2 (fun x hx => by have := hf x hx; simpa using this)
   rw [this]; rfl
  | some i =>
   obtain ⟨h1, h2, _⟩ := List.findIdx?_eq_some_iff_getElem.1 hf
   have : l.all YF = false := by
    rw [List.all_eq_false]
    exact ⟨_, List.getElem_mem h1, by simpa using h2⟩
   rw [this]; simp
 rw [← e]
 generalize idxI (fun s => !YF s) l = q at *
 refine Zf Tryz.func181 rfl rfl rfl fun u R => ?_
 simp only [Zx, List.cons_append, List.nil_append]
 repeat' (first | (refine Zc (.func 252) ?_; refine qC rfl rfl (hi) ?_; rintro v ρ' L' hle ⟨rfl, rfl, rfl⟩ <;> (try simp only [kM, kN, kO])) | (refine Zj ?_; first | (refine Zg ?_; refine qQ ?_) | refine Zl ?_) | refine Za ?_ | (refine Zi ?_; refine Zq ?_) | (refine Zh ?_; refine Zp ?_) | intro _)
 refine qF (L' := []) ?_
 exact ⟨YI (by simp), rfl, rfl⟩
abbrev Wq : SV := ⟨none, 0, 0⟩
theorem bare_spec (ρ : Hp) (v : RV) (r : Rc) (hi : v.i.n ≤ 1000000) (hs : v.s.n ≤ 1000000) (ht : v.t.n ≤ 1000000) (hd : v.d.n ≤ 1000000) : Spec Tryz.prog 105 [.agg ⟨Wv v r⟩] ρ []
  (fun z ρ' L' => z = .bool (decide (r.next = 0 ∧ v.i.n = 0 ∧ v.s.n = 0 ∧ v.t.n = 0 ∧ v.d.n = 0 ∧ r.nextTxn = 0)) ∧ ρ' = ρ ∧ L' = []) := by
 refine Zf Tryz.func105 rfl rfl rfl fun u R => ?_
 simp only [Zx, List.cons_append, List.nil_append]
 repeat' (first | (refine Zj ?_; first | (refine Zg ?_; refine qQ ?_) | refine Zl ?_) | refine Za ?_ | (refine Zi ?_; refine Zq ?_) | (refine Zh ?_; refine Zp ?_) | (refine XO ?_; refine Yd rfl rfl (fun hb => ?_) (fun hb => ?_) <;> (try simp only [decide_eq_true_eq, decide_eq_false_iff_not, Bool.not_eq_true, Bool.not_eq_false, beq_iff_eq, bne_iff_ne, ne_eq, decide_eq_decide, Bool.not_eq_eq_eq_not, Bool.not_true, Bool.not_false, beq_eq_false_iff_ne, bne_eq_false_iff_eq, Bool.and_eq_true, Bool.or_eq_true, Bool.and_eq_false_imp, Bool.or_eq_false_iff] at hb)) | (refine Yx ?_; refine Yp rfl (fun hb => ?_) (fun hb => ?_) <;> (try simp only [decide_eq_true_eq, decide_eq_false_iff_not, Bool.not_eq_true, Bool.not_eq_false, beq_iff_eq, bne_iff_ne, ne_eq, decide_eq_decide, Bool.not_eq_eq_eq_not, Bool.not_true, Bool.not_false, beq_eq_false_iff_ne, bne_eq_false_iff_eq, Bool.and_eq_true, Bool.or_eq_true, Bool.and_eq_false_imp, Bool.or_eq_false_iff] at hb)) | intro _)
 all_goals (refine qF (L' := []) ?_; exact ⟨YI (by (try simp [*]); first | done | omega | (intros; omega) | (constructor <;> intros <;> (try simp_all) <;> omega)), rfl, rfl⟩)
theorem aplain_spec (ρ : Hp) (ab : Nat) (v : RV) (r : Rc) : Spec Tryz.prog 99 [.pointer (some ⟨ab, 0, none⟩)] ρ [XB ab v r] (fun z ρ' L' => z = .bool true ∧ ρ' = ρ ∧ L' = [XB ab v r]) := by
 refine Zf Tryz.func99 rfl rfl rfl fun u R => ?_
 simp only [Zx, List.cons_append, List.nil_append]
 repeat' (first | (refine Zj ?_; first | (refine Zg ?_; refine qQ ?_) | refine Zl ?_) | refine Za ?_ | (refine Zi ?_; refine Zq ?_) | (refine Zh ?_; refine Zp ?_) | intro _)
 exact qE (L' := [XB ab v r]) ⟨rfl, rfl, rfl⟩
theorem achange_spec (ρ : Hp) (ab : Nat) (v : RV) (r : Rc) (h : RcIn ρ v r) : Spec Tryz.prog 100 [.pointer (some ⟨ab, 0, none⟩)] ρ [XB ab v r]
  (fun z ρ' L' => z = .bool (decide (0 < r.ims.length) && imsOk true r.ims) ∧ ρ' = ρ ∧ L' = [XB ab { v with i := Wq } r]) := by
 have hl := h.i.at'.len
 have him := images_spec ρ v.i r.ims h.i h.im true
 refine Zf Tryz.func100 rfl rfl rfl fun u R => ?_
 simp only [Zx, List.cons_append, List.nil_append]
 by_cases h0 : 0 < v.i.n
 ·rw [decide_eq_true (show 0 < r.ims.length by omega), Bool.true_and]
  repeat' (first | (refine Zc (.func 180) ?_; refine qC rfl rfl (him) ?_; rintro v ρ' L' hle ⟨rfl, rfl, rfl⟩ <;> (try simp only [kM, kN, kO])) | (refine Zj ?_; first | (refine Zg ?_; refine qQ ?_) | refine Zl ?_) | refine Za ?_ | (refine Zi ?_; refine Zq ?_) | (refine Zh ?_; refine Zp ?_) | intro _)
  exact qE (L' := [XB ab { v with i := Wq } r]) ⟨rfl, rfl, rfl⟩
 ·rw [decide_eq_false (show ¬ 0 < r.ims.length by omega), Bool.false_and]
  repeat' (first | (refine Zj ?_; first | (refine Zg ?_; refine qQ ?_) | refine Zl ?_) | refine Za ?_ | (refine Zi ?_; refine Zq ?_) | (refine Zh ?_; refine Zp ?_) | intro _)
  exact qE (L' := [XB ab { v with i := Wq } r]) ⟨rfl, rfl, rfl⟩
theorem anested_spec (ρ : Hp) (ab : Nat) (v : RV) (r : Rc) : Spec Tryz.prog 101 [.pointer (some ⟨ab, 0, none⟩)] ρ [XB ab v r]
  (fun z ρ' L' => z = .bool (decide (r.next < r.prev)) ∧ ρ' = ρ ∧ L' = [XB ab v { r with next := 0 }]) := by
 refine Zf Tryz.func101 rfl rfl rfl fun u R => ?_
 simp only [Zx, List.cons_append, List.nil_append]
 repeat' (first | (refine Zj ?_; first | (refine Zg ?_; refine qQ ?_) | refine Zl ?_) | refine Za ?_ | (refine Zi ?_; refine Zq ?_) | (refine Zh ?_; refine Zp ?_) | intro _)
 refine qF (L' := [XB ab v { r with next := 0 }]) ?_
 exact ⟨YI (by simp), rfl, rfl⟩
theorem adone_spec (ρ : Hp) (ab : Nat) (v : RV) (r : Rc) (h : RcIn ρ v r) : Spec Tryz.prog 102 [.pointer (some ⟨ab, 0, none⟩)] ρ [XB ab v r]
  (fun z ρ' L' => z = .bool (decide (r.next < r.prev) && (decide (0 < r.steps.length ∧ r.steps.length ≤ 2) && r.steps.all YF)) ∧ ρ' = ρ ∧ L' = [XB ab { v with s := Wq } { r with next := 0 }]) := by
 have hl := h.s.at'.len
 have hco := contains_spec ρ v.s.a v.s.n v.s.c r.steps h.s.at' h.s.big
 have hne := anested_spec ρ ab { v with s := Wq } r
 rw [hl]
 generalize r.steps.all YF = q at *
 refine Zf Tryz.func102 rfl rfl rfl fun u R => ?_
 simp only [Zx, List.cons_append, List.nil_append]
 repeat' (first | (refine Zc (.func 101) ?_; refine qC rfl rfl (hne) ?_; rintro v ρ' L' hle ⟨rfl, rfl, rfl⟩ <;> (try simp only [kM, kN, kO])) | (refine Zc (.func 181) ?_; refine qC rfl rfl (hco) ?_; rintro v ρ' L' hle ⟨rfl, rfl, rfl⟩ <;> (try simp only [kM, kN, kO])) | (refine Zj ?_; first | (refine Zg ?_; refine qQ ?_) | refine Zl ?_) | refine Za ?_ | (refine Zi ?_; refine Zq ?_) | (refine Zh ?_; refine Zp ?_) | (refine XO ?_; refine Yd rfl rfl (fun hb => ?_) (fun hb => ?_) <;> (try simp only [decide_eq_true_eq, decide_eq_false_iff_not, Bool.not_eq_true, Bool.not_eq_false, beq_iff_eq, bne_iff_ne, ne_eq, decide_eq_decide, Bool.not_eq_eq_eq_not, Bool.not_true, Bool.not_false, beq_eq_false_iff_ne, bne_eq_false_iff_eq, Bool.and_eq_true, Bool.or_eq_true, Bool.and_eq_false_imp, Bool.or_eq_false_iff] at hb)) | (refine Yx ?_; refine Yp rfl (fun hb => ?_) (fun hb => ?_) <;> (try simp only [decide_eq_true_eq, decide_eq_false_iff_not, Bool.not_eq_true, Bool.not_eq_false, beq_iff_eq, bne_iff_ne, ne_eq, decide_eq_decide, Bool.not_eq_eq_eq_not, Bool.not_true, Bool.not_false, beq_eq_false_iff_ne, bne_eq_false_iff_eq, Bool.and_eq_true, Bool.or_eq_true, Bool.and_eq_false_imp, Bool.or_eq_false_iff] at hb)) | intro _)
 all_goals (refine qF (L' := [XB ab { v with s := Wq } { r with next := 0 }]) ?_; exact ⟨YI (by (try simp [*]); first | done | omega | (intros; omega) | (constructor <;> intros <;> (try simp_all) <;> omega)), rfl, rfl⟩)
theorem aundone_spec (ρ : Hp) (ab : Nat) (v : RV) (r : Rc) (h : RcIn ρ v r) : Spec Tryz.prog 103 [.pointer (some ⟨ab, 0, none⟩)] ρ [XB ab v r]
  (fun z ρ' L' => z = .bool (decide (r.next < r.lsn) && imsOk false r.ims) ∧ ρ' = ρ ∧ L' = [XB ab { v with i := Wq } { r with next := 0 }]) := by
 have him := images_spec ρ v.i r.ims h.i h.im false
 generalize imsOk false r.ims = q at *
 refine Zf Tryz.func103 rfl rfl rfl fun u R => ?_
 simp only [Zx, List.cons_append, List.nil_append]
 repeat' (first | (refine Zj ?_; first | (refine Zg ?_; refine qQ ?_) | refine Zl ?_) | refine Za ?_ | (refine Zi ?_; refine Zq ?_) | (refine Zh ?_; refine Zp ?_) | intro _)
 refine ZI (Zv _ _ _) ZC ?_
 all_goals (refine Ye 0 ?_; refine Yi ?_; refine rNc 1 ?_; refine rFa 2 ?_; refine rFa 3 ?_; refine Yr 4 ?_; refine Ye 5 ?_; refine rNc 6 ?_; refine rFa 7 ?_; refine rFa 8 ?_; refine Yr 9 ?_; refine rAs 10 ?_; refine rAs 11 ?_; refine ZP ?_)
 all_goals (repeat' (first | (refine Zc (.func 180) ?_; refine qC rfl rfl (him) ?_; rintro v ρ' L' hle ⟨rfl, rfl, rfl⟩ <;> (try simp only [kM, kN, kO])) | (refine Zj ?_; first | (refine Zg ?_; refine qQ ?_) | refine Zl ?_) | refine Za ?_ | (refine Zi ?_; refine Zq ?_) | (refine Zh ?_; refine Zp ?_) | (refine XO ?_; refine Yd rfl rfl (fun hb => ?_) (fun hb => ?_) <;> (try simp only [decide_eq_true_eq, decide_eq_false_iff_not, Bool.not_eq_true, Bool.not_eq_false, beq_iff_eq, bne_iff_ne, ne_eq, decide_eq_decide, Bool.not_eq_eq_eq_not, Bool.not_true, Bool.not_false, beq_eq_false_iff_ne, bne_eq_false_iff_eq, Bool.and_eq_true, Bool.or_eq_true, Bool.and_eq_false_imp, Bool.or_eq_false_iff] at hb)) | (refine Yx ?_; refine Yp rfl (fun hb => ?_) (fun hb => ?_) <;> (try simp only [decide_eq_true_eq, decide_eq_false_iff_not, Bool.not_eq_true, Bool.not_eq_false, beq_iff_eq, bne_iff_ne, ne_eq, decide_eq_decide, Bool.not_eq_eq_eq_not, Bool.not_true, Bool.not_false, beq_eq_false_iff_ne, bne_eq_false_iff_eq, Bool.and_eq_true, Bool.or_eq_true, Bool.and_eq_false_imp, Bool.or_eq_false_iff] at hb)) | intro _))
 all_goals (refine qF (L' := [XB ab { v with i := Wq } { r with next := 0 }]) ?_; exact ⟨YI (by (try simp [*]); first | done | omega | (intros; omega) | (constructor <;> intros <;> (try simp_all) <;> omega)), rfl, rfl⟩)
theorem ackpt_spec (ρ : Hp) (ab : Nat) (v : RV) (r : Rc) (h : RcIn ρ v r) : Spec Tryz.prog 104 [.pointer (some ⟨ab, 0, none⟩)] ρ [XB ab v r]
  (fun z ρ' L' => z = .bool (decide (1 ≤ r.nextTxn ∧ r.nextTxn ≤ 1073741824 ∧ r.txns.length ≤ 8) && (upB (ckTOk r.lsn r.nextTxn) CkT.txn r.txns r.txns.length && upB (WE r.lsn) CkP.page r.dirty r.dirty.length)) ∧ ρ' = ρ ∧
   L' = [XB ab { v with t := Wq, d := Wq } { r with nextTxn := 0 }]) := by
 have hl := h.t.at'.len
 have ht := fun nb pb => risesCkT_spec ρ v.t.a v.t.n v.t.c r.txns h.t.at' h.t.big nb pb ab r.nextTxn { v with t := Wq, d := Wq } { r with nextTxn := 0 }
 have hd := fun pb => risesCkP_spec ρ v.d.a v.d.n v.d.c r.dirty h.d.at' h.d.big pb ab { v with t := Wq, d := Wq } { r with nextTxn := 0 }
 dsimp only at ht hd
 generalize upB (ckTOk r.lsn r.nextTxn) CkT.txn r.txns r.txns.length = q1 at *
 generalize upB (WE r.lsn) CkP.page r.dirty r.dirty.length = q2 at *
 rw [hl]
 refine Zf Tryz.func104 rfl rfl rfl fun u R => ?_
 simp only [Zx, List.cons_append, List.nil_append]
 repeat' (first | (refine Zj ?_; first | (refine Zg ?_; refine qQ ?_) | refine Zl ?_) | refine Za ?_ | (refine Zi ?_; refine Zq ?_) | (refine Zh ?_; refine Zp ?_) | intro _)
 rename_i pb
 refine ZI (Zv _ _ ([ptrC pb ab, XB ab v r])) (ZU (hT := tk) (Hp.le_refl _)) ?_
 all_goals (refine Yr 0 ?_; refine rNc 1 ?_; refine rFa 2 ?_; refine rFa 3 ?_; refine Yr 4 ?_; refine Yr 5 ?_; refine rNc 6 ?_; refine rFa 7 ?_; refine rFa 8 ?_; refine Yr 9 ?_; refine Yr 10 ?_; refine rNc 11 ?_; refine rFa 12 ?_; refine rFa 13 ?_; refine Yr 14 ?_)
 all_goals (refine Zt (i := 15) ?_; ((try refine Zr ?_); (first | (refine Zl ?_; try intro _)) <;> ((try simp only [kM, kN, kO]); refine Za ?_; refine Zs ?_)))
 all_goals (refine rAs 16 ?_; refine rAs 17 ?_)
 all_goals (refine Zt (i := 18) ?_; ((try refine Zr ?_); (first | (refine Zl ?_; try intro _)) <;> ((try simp only [kM, kN, kO]); refine Za ?_; refine Zs ?_)))
 all_goals refine ZP ?_
 all_goals (repeat' (first | (refine Zj ?_; first | (refine Zg ?_; refine qQ ?_) | refine Zl ?_) | refine Za ?_ | (refine Zi ?_; refine Zq ?_) | (refine Zh ?_; refine Zp ?_) | intro _))
 refine ZI (Zv _ _ ([ptrC pb ab])) (ZU (hT := tk) (Hp.le_refl _)) ?_
 all_goals (refine Yr 0 ?_; refine Yr 1 ?_; refine Yr 2 ?_; refine rNc 3 ?_; refine rFa 4 ?_; refine rFa 5 ?_)
 all_goals (refine Zt (i := 6) ?_; ((try refine Zr ?_); (first | (refine Zl ?_; try intro _)) <;> ((try simp only [kM, kN, kO]); refine Za ?_; refine Zs ?_)))
 all_goals (refine rNc 7 ?_; refine rFa 8 ?_; refine rFa 9 ?_)
 all_goals (refine Zt (i := 10) ?_; ((try refine Zr ?_); (first | (refine Zl ?_; try intro _)) <;> ((try simp only [kM, kN, kO]); refine Za ?_; refine Zs ?_)))
 all_goals (refine rNc 11 ?_; refine rFa 12 ?_; refine rFa 13 ?_)
 all_goals (refine Zt (i := 14) ?_; ((try refine Zr ?_); (first | (refine Zl ?_; try intro _)) <;> ((try simp only [kM, kN, kO]); refine Za ?_; refine Zs ?_)))
 all_goals refine ZP ?_
 all_goals (repeat' (first | (refine Zc (.func 184) ?_; refine qC rfl rfl (ht _ _) ?_; rintro v ρ' L' hle ⟨rfl, rfl, rfl⟩ <;> (try simp only [kM, kN, kO])) | (refine Zc (.func 187) ?_; refine qC rfl rfl (hd _) ?_; rintro v ρ' L' hle ⟨rfl, rfl, rfl⟩ <;> (try simp only [kM, kN, kO])) | (refine Zj ?_; first | (refine Zg ?_; refine qQ ?_) | refine Zl ?_) | refine Za ?_ | (refine Zi ?_; refine Zq ?_) | (refine Zh ?_; refine Zp ?_) | (refine XO ?_; refine Yd rfl rfl (fun hb => ?_) (fun hb => ?_) <;> (try simp only [decide_eq_true_eq, decide_eq_false_iff_not, Bool.not_eq_true, Bool.not_eq_false, beq_iff_eq, bne_iff_ne, ne_eq, decide_eq_decide, Bool.not_eq_eq_eq_not, Bool.not_true, Bool.not_false, beq_eq_false_iff_ne, bne_eq_false_iff_eq, Bool.and_eq_true, Bool.or_eq_true, Bool.and_eq_false_imp, Bool.or_eq_false_iff] at hb)) | (refine Yx ?_; refine Yp rfl (fun hb => ?_) (fun hb => ?_) <;> (try simp only [decide_eq_true_eq, decide_eq_false_iff_not, Bool.not_eq_true, Bool.not_eq_false, beq_iff_eq, bne_iff_ne, ne_eq, decide_eq_decide, Bool.not_eq_eq_eq_not, Bool.not_true, Bool.not_false, beq_eq_false_iff_ne, bne_eq_false_iff_eq, Bool.and_eq_true, Bool.or_eq_true, Bool.and_eq_false_imp, Bool.or_eq_false_iff] at hb)) | intro _))
 all_goals (refine qF (L' := [XB ab { v with t := Wq, d := Wq } { r with nextTxn := 0 }]) ?_; exact ⟨YI (by (try simp [*]); first | done | omega | (intros; omega) | (constructor <;> intros <;> (try simp_all) <;> omega)), rfl, rfl⟩)
structure BareR (v' : RV) (r' r : Rc) : Prop where
 i : v'.i.n ≤ 1000000
 s : v'.s.n ≤ 1000000
 t : v'.t.n ≤ 1000000
 d : v'.d.n ≤ 1000000
 eq : decide (r'.next = 0 ∧ v'.i.n = 0 ∧ v'.s.n = 0 ∧ v'.t.n = 0 ∧ v'.d.n = 0 ∧ r'.nextTxn = 0) = bareOk r
def askF (k : Int) : Nat := if k = 2 then 100 else if k = 3 then 101 else if k = 4 then 102 else if k = 5 then 103 else if k = 9 then 104 else 99
theorem ask_spec (ρ : Hp) (ab : Nat) (v : RV) (r : Rc) (h : RcIn ρ v r) (hk : 1 ≤ r.kind ∧ r.kind ≤ 9) : Yv Tryz.prog (askF r.kind) ∧ Spec Tryz.prog (askF r.kind) [.pointer (some ⟨ab, 0, none⟩)] ρ [XB ab v r]
  (fun z ρ' L' => z = .bool (askOk r) ∧ ρ' = ρ ∧ ∃ v' r', BareR v' r' r ∧ L' = [XB ab v' r']) := by
 have li := h.i.at'.len
 have ls := h.s.at'.len
 have lt := h.t.at'.len
 have ld := h.d.at'.len
 have bi := h.i.big
 have bs := h.s.big
 have bt := h.t.big
 have bd := h.d.big
 have z0 : Wq.n = 0 := rfl
 have ei : r.ims = [] ↔ v.i.n = 0 := by rw [← li]; exact List.length_eq_zero_iff.symm
 have es : r.steps = [] ↔ v.s.n = 0 := by rw [← ls]; exact List.length_eq_zero_iff.symm
 have et : r.txns = [] ↔ v.t.n = 0 := by rw [← lt]; exact List.length_eq_zero_iff.symm
 have ed : r.dirty = [] ↔ v.d.n = 0 := by rw [← ld]; exact List.length_eq_zero_iff.symm
 unfold askF askOk
 have hb : ∀ (v' : RV) (r' : Rc), (v'.i.n ≤ 1000000 ∧ v'.s.n ≤ 1000000 ∧ v'.t.n ≤ 1000000 ∧ v'.d.n ≤ 1000000) → ((r'.next = 0 ∧ v'.i.n = 0 ∧ v'.s.n = 0 ∧ v'.t.n = 0 ∧ v'.d.n = 0 ∧ r'.nextTxn = 0) ↔
   ((r.next = 0 ∨ r.kind = 3 ∨ r.kind = 4 ∨ r.kind = 5) ∧ (v.i.n = 0 ∨ r.kind = 2 ∨ r.kind = 5) ∧ (v.s.n = 0 ∨ r.kind = 4) ∧ ((v.t.n = 0 ∧ v.d.n = 0 ∧ r.nextTxn = 0) ∨ r.kind = 9))) → BareR v' r' r := fun v' r' h1 h2 =>
  ⟨h1.1, h1.2.1, h1.2.2.1, h1.2.2.2, by unfold bareOk; apply decide_eq_decide.2; rw [ei, es, et, ed]; exact h2⟩
 by_cases k2 : r.kind = 2
 ·rw [if_pos k2, if_pos k2]
  refine ⟨inferInstance, (achange_spec ρ ab v r h).mono ?_⟩
  rintro z ρ' L' _ ⟨rfl, rfl, rfl⟩
  exact ⟨rfl, rfl, _, _, hb { v with i := Wq } r (by dsimp only; omega) (by dsimp only; omega), rfl⟩
 ·rw [if_neg k2, if_neg k2]
  by_cases k3 : r.kind = 3
  ·rw [if_pos k3, if_pos k3]
   refine ⟨inferInstance, (anested_spec ρ ab v r).mono ?_⟩
   rintro z ρ' L' _ ⟨rfl, rfl, rfl⟩
   exact ⟨rfl, rfl, _, _, hb v { r with next := 0 } (by omega) (by dsimp only; omega), rfl⟩
  ·rw [if_neg k3, if_neg k3]
   by_cases k4 : r.kind = 4
   ·rw [if_pos k4, if_pos k4]
    refine ⟨inferInstance, (adone_spec ρ ab v r h).mono ?_⟩
    rintro z ρ' L' _ ⟨rfl, rfl, rfl⟩
    exact ⟨rfl, rfl, _, _, hb { v with s := Wq } { r with next := 0 } (by dsimp only; omega) (by dsimp only; omega), rfl⟩
   ·rw [if_neg k4, if_neg k4]
    by_cases k5 : r.kind = 5
    ·rw [if_pos k5, if_pos k5]
     refine ⟨inferInstance, (aundone_spec ρ ab v r h).mono ?_⟩
     rintro z ρ' L' _ ⟨rfl, rfl, rfl⟩
     exact ⟨rfl, rfl, _, _, hb { v with i := Wq } { r with next := 0 } (by dsimp only; omega) (by dsimp only; omega), rfl⟩
    ·rw [if_neg k5, if_neg k5]
     by_cases k9 : r.kind = 9
     ·rw [if_pos k9, if_pos k9]
      refine ⟨inferInstance, (ackpt_spec ρ ab v r h).mono ?_⟩
      rintro z ρ' L' _ ⟨rfl, rfl, rfl⟩
      exact ⟨rfl, rfl, _, _, hb { v with t := Wq, d := Wq } { r with nextTxn := 0 } (by dsimp only; omega) (by dsimp only; omega), rfl⟩
     ·rw [if_neg k9, if_neg k9]
      refine ⟨inferInstance, (aplain_spec ρ ab v r).mono ?_⟩
      rintro z ρ' L' _ ⟨rfl, rfl, rfl⟩
      exact ⟨rfl, rfl, _, _, hb v r (by omega) (by omega), rfl⟩
theorem askF_chain {f : Nat → Option Value} {k : Int} (hk : 1 ≤ k ∧ k ≤ 9) : (if k = 9 then f 104 else if k = 8 then f 99 else if k = 7 then f 99 else if k = 6 then f 99 else if k = 5 then f 103 else
  if k = 4 then f 102 else if k = 3 then f 101 else if k = 2 then f 100 else if k = 1 then f 99 else none) = f (askF k) := by
 unfold askF
 rcases (show k = 1 ∨ k = 2 ∨ k = 3 ∨ k = 4 ∨ k = 5 ∨ k = 6 ∨ k = 7 ∨ k = 8 ∨ k = 9 by omega) with e | e | e | e | e | e | e | e | e <;> subst e <;> rfl
theorem XV (ρ : Hp) (v : RV) (r : Rc) (h : RcIn ρ v r) : Spec Tryz.prog 27 [.agg ⟨Wv v r⟩] ρ [] (fun z ρ' L' => z = .int .i64 (if YM r then 0 else 220) ∧ ρ' = ρ ∧ L' = []) := by
 have hnil : Xe .i64 [] := by intro e he; simp at he
 have hg0 : ∀ k : Int, Xo [] k = none := fun _ => rfl
 refine Zf Tryz.func27 rfl rfl rfl fun u R => ?_
 simp only [Zx, List.cons_append, List.nil_append]
 repeat' (first | (refine Yh rfl rfl rfl hnil (fun es1 ck1 i1 j1 => ?_)) | (refine Yh rfl rfl rfl i1 (fun es2 ck2 i2 j2 => ?_)) | (refine Yh rfl rfl rfl i2 (fun es3 ck3 i3 j3 => ?_)) | (refine Yh rfl rfl rfl i3 (fun es4 ck4 i4 j4 => ?_)) | (refine Yh rfl rfl rfl i4 (fun es5 ck5 i5 j5 => ?_)) | (refine Yh rfl rfl rfl i5 (fun es6 ck6 i6 j6 => ?_)) | (refine Yh rfl rfl rfl i6 (fun es7 ck7 i7 j7 => ?_)) | (refine Yh rfl rfl rfl i7 (fun es8 ck8 i8 j8 => ?_)) | (refine ZG ?_; refine Zn (Ze rfl) rfl rfl ?_) | (refine Zj ?_; first | (refine Zg ?_; refine qQ ?_) | refine Zl ?_) | refine Za ?_ | (refine Zi ?_; refine Zq ?_) | (refine Zh ?_; refine Zp ?_) | intro _)
 rename_i rb ab mb
 refine Yh rfl rfl rfl i8 (fun es9 ck9 i9 j9 => ?_)
 have hg := j9 r.kind
 rw [j8, j7, j6, j5, j4, j3, j2, j1, hg0] at hg
 clear j1 j2 j3 j4 j5 j6 j7 j8 j9 i1 i2 i3 i4 i5 i6 i7 i8
 by_cases hk : 1 ≤ r.kind ∧ r.kind ≤ 9
 ·obtain ⟨hF, hS⟩ := ask_spec ρ ab v r h hk
  have hgF : Xo es9 r.kind = some (Value.func (.func (askF r.kind)) ⟨[.pointer (some ⟨ab, 0, none⟩)]⟩ ⟨[]⟩) := by
   rw [hg]
   exact askF_chain (f := fun F => some (Value.func (.func F) ⟨[.pointer (some ⟨ab, 0, none⟩)]⟩ ⟨[]⟩)) hk
  clear hg
  generalize askF r.kind = F at *
  repeat' (first | (refine Zc (.tmp 90) ?_; refine qC rfl rfl (hS) ?_; rintro v ρ' L' hle ⟨rfl, rfl, v', r', hB, rfl⟩ <;> (try simp only [kM, kN, kO])) | (refine Zc (.func 105) ?_; refine qC rfl rfl (bare_spec _ v' r' hB.i hB.s hB.t hB.d) ?_; rintro v ρ' L' hle ⟨rfl, rfl, rfl⟩ <;> (try simp only [kM, kN, kO, hB.eq])) | (refine ZG ?_; refine Zn (Ze rfl) rfl rfl ?_) | (refine Zj ?_; first | (refine Zg ?_; refine qQ ?_) | refine Zl ?_) | refine Za ?_ | (refine Zi ?_; refine Zq ?_) | (refine Zh ?_; refine Zp ?_) | (refine XO ?_; refine Yd rfl rfl (fun hb => ?_) (fun hb => ?_) <;> (try simp only [decide_eq_true_eq, decide_eq_false_iff_not, Bool.not_eq_true, Bool.not_eq_false, beq_iff_eq, bne_iff_ne, ne_eq, decide_eq_decide, Bool.not_eq_eq_eq_not, Bool.not_true, Bool.not_false, beq_eq_false_iff_ne, bne_eq_false_iff_eq, Bool.and_eq_true, Bool.or_eq_true, Bool.and_eq_false_imp, Bool.or_eq_false_iff, bq2, bqt, bqf] at hb)) | (refine Yx ?_; refine Yp rfl (fun hb => ?_) (fun hb => ?_) <;> (try simp only [decide_eq_true_eq, decide_eq_false_iff_not, Bool.not_eq_true, Bool.not_eq_false, beq_iff_eq, bne_iff_ne, ne_eq, decide_eq_decide, Bool.not_eq_eq_eq_not, Bool.not_true, Bool.not_false, beq_eq_false_iff_ne, bne_eq_false_iff_eq, Bool.and_eq_true, Bool.or_eq_true, Bool.and_eq_false_imp, Bool.or_eq_false_iff, bq2, bqt, bqf] at hb)) | intro _)
  all_goals (refine qF (L' := []) ?_; refine ⟨?_, rfl, rfl⟩)
  all_goals first | (have hh : headOk r = false := decide_eq_false (by omega); simp only [YM, hh, Bool.false_and, Bool.and_false, Bool.false_eq_true, if_false]) | (have hh : headOk r = true := decide_eq_true (by omega); have h9 : decide (1 ≤ r.kind ∧ r.kind ≤ 9) = true := decide_eq_true hk; simp [YM, hh, h9, *])
 ·have hgN : Xo es9 r.kind = none := by
   rw [hg]
   simp only [show ¬ r.kind = 9 by omega, show ¬ r.kind = 8 by omega, show ¬ r.kind = 7 by omega, show ¬ r.kind = 6 by omega, show ¬ r.kind = 5 by omega, show ¬ r.kind = 4 by omega, show ¬ r.kind = 3 by omega, show ¬ r.kind = 2 by omega, show ¬ r.kind = 1 by omega, if_false]
  clear hg
  have e0 : YM r = false := by simp [YM, hk]
  rw [e0]
  repeat' (first | (refine ZG ?_; refine Zn (Ze rfl) rfl rfl ?_) | (refine Zj ?_; first | (refine Zg ?_; refine qQ ?_) | refine Zl ?_) | refine Za ?_ | (refine Zi ?_; refine Zq ?_) | (refine Zh ?_; refine Zp ?_) | (refine XO ?_; refine Yd rfl rfl (fun hb => ?_) (fun hb => ?_) <;> (try simp only [decide_eq_true_eq, decide_eq_false_iff_not, Bool.not_eq_true, Bool.not_eq_false, beq_iff_eq, bne_iff_ne, ne_eq, decide_eq_decide, Bool.not_eq_eq_eq_not, Bool.not_true, Bool.not_false, beq_eq_false_iff_ne, bne_eq_false_iff_eq, Bool.and_eq_true, Bool.or_eq_true, Bool.and_eq_false_imp, Bool.or_eq_false_iff, bq2, bqt, bqf] at hb)) | (refine Yx ?_; refine Yp rfl (fun hb => ?_) (fun hb => ?_) <;> (try simp only [decide_eq_true_eq, decide_eq_false_iff_not, Bool.not_eq_true, Bool.not_eq_false, beq_iff_eq, bne_iff_ne, ne_eq, decide_eq_decide, Bool.not_eq_eq_eq_not, Bool.not_true, Bool.not_false, beq_eq_false_iff_ne, bne_eq_false_iff_eq, Bool.and_eq_true, Bool.or_eq_true, Bool.and_eq_false_imp, Bool.or_eq_false_iff, bq2, bqt, bqf] at hb)) | intro _)
  all_goals (refine qF (L' := []) ?_; exact ⟨rfl, rfl, rfl⟩)
structure Lf where
 lsn : Nat
 cost : Int
deriving DecidableEq
abbrev lfV (x : Lf) : List Value := [.int .u64 x.lsn, .int .i64 x.cost]
abbrev u64c (n : Nat) : Value := .int .u64 n
structure Tx where
 num : Int
 state : Int
 first : Nat
 last : Nat
 undo : Nat
 stack : List Lf
 marks : List Nat
 sv : SV
 mv : SV
abbrev txV (x : Tx) : List Value := [.int .i64 x.num, .int .i64 x.state, .int .u64 x.first, .int .u64 x.last, .int .u64 x.undo, .slice x.sv.a x.sv.n x.sv.c, .slice x.mv.a x.mv.n x.mv.c]
structure Tx.In (ρ : Hp) (x : Tx) : Prop where
 s : AIn ρ 2 lfV x.sv.a x.sv.n x.stack
 m : SIn ρ u64c x.mv.a x.mv.n x.marks
 sb : x.sv.n ≤ 200000000000000
 mb : x.mv.n ≤ 200000000000000
 sc : x.sv.n ≤ x.sv.c
 mc : x.mv.n ≤ x.mv.c
theorem Tx.In.mono {ρ ρ' x} (h : Tx.In ρ x) (hle : ρ.le ρ') : Tx.In ρ' x := ⟨h.s.mono hle, h.m.mono hle, h.sb, h.mb, h.sc, h.mc⟩
structure Ros where
 next : Int
 txns : List Tx
structure RosIn (ρ : Hp) (v : SV) (r : Ros) : Prop where
 at' : AS ρ 7 txV v r.txns
 tx : ∀ x ∈ r.txns, Tx.In ρ x
theorem RosIn.mono {ρ ρ' v r} (h : RosIn ρ v r) (hle : ρ.le ρ') : RosIn ρ' v r := ⟨h.at'.mono hle, fun x hx => (h.tx x hx).mono hle⟩
def tblB : Int → List CkP → Bool
 | _, [] => true
 | last, p :: r => decide (last < p.page ∧ p.page < 64 ∧ 1 ≤ p.since ∧ p.since ≤ 1099511627776) && tblB p.page r
def tblOk (d : List CkP) : Bool := tblB (-1) d
theorem RosIn.nil {ρ : Hp} : RosIn ρ Wq ⟨0, []⟩ := ⟨AS.nil, by simp⟩
structure AtR (l : List CkP) (page : Int) (i : Nat) (there : Bool) : Prop where
 le : i ≤ l.length
 hit : there = true → ∃ h : i < l.length, l[i].page = page
 lo : tblOk l = true → ∀ j (h : j < l.length), j < i → l[j].page < page
 hi : tblOk l = true → there = false → ∀ j (h : j < l.length), i ≤ j → page < l[j].page
def addP (page : Int) (lsn : Nat) : List CkP → List CkP
 | [] => [⟨page, lsn⟩]
 | p :: r => if p.page < page then p :: addP page lsn r else if p.page = page then p :: r else ⟨page, lsn⟩ :: p :: r
theorem addP_in {page : Int} {lsn : Nat} : ∀ {l : List CkP} {i : Nat} (h : i < l.length), (∀ j (h : j < l.length), j < i → l[j].page < page) → l[i].page = page → addP page lsn l = l
 | p :: r, 0, h, _, he => by simp at he; simp [addP, he]
 | p :: r, i + 1, h, hlt, he => by
  have h0 := hlt 0 (by simp) (by omega)
  simp only [List.getElem_cons_zero] at h0
  rw [addP, if_pos h0, addP_in (i := i) (by simpa using h) (fun j hj hji => by have := hlt (j + 1) (by simpa using hj) (by omega); simpa using this) (by simpa using he)]
theorem addP_out {page : Int} {lsn : Nat} : ∀ {l : List CkP} {i : Nat} (h : i ≤ l.length), (∀ j (h : j < l.length), j < i → l[j].page < page) → (∀ j (h : j < l.length), i ≤ j → page < l[j].page) → addP page lsn l = l.take i ++ ⟨page, lsn⟩ :: l.drop i
 | [], 0, _, _, _ => rfl
 | p :: r, 0, _, _, hi => by
  have h0 := hi 0 (by simp) (by omega)
  simp only [List.getElem_cons_zero] at h0
  rw [addP, if_neg (by omega), if_neg (by omega)]; rfl
 | p :: r, i + 1, h, hlt, hi => by
  have h0 := hlt 0 (by simp) (by omega)
  simp only [List.getElem_cons_zero] at h0
  rw [addP, if_pos h0, addP_out (i := i) (by simpa using h) (fun j hj hji => by have := hlt (j + 1) (by simpa using hj) (by omega); simpa using this) (fun j hj hji => by have := hi (j + 1) (by simpa using hj) (by omega); simpa using this)]
  rfl
theorem AtR.add {l : List CkP} {page : Int} {lsn i : Nat} {there : Bool} (h : AtR l page i there) (ht : tblOk l = true) : addP page lsn l = if there then l else l.take i ++ ⟨page, lsn⟩ :: l.drop i := by
 cases there with
 | true =>
  obtain ⟨h1, h2⟩ := h.hit rfl
  rw [if_pos rfl]
  exact addP_in h1 (h.lo ht) h2
 | false =>
  rw [if_neg (by simp)]
  exact addP_out h.le (h.lo ht) (h.hi ht rfl)
def zRc : Rc := ⟨0, 0, 0, 0, 0, [], [], 0, [], []⟩
def zRV : RV := ⟨Wq, Wq, Wq, Wq⟩
theorem RcIn.zero {ρ : Hp} : RcIn ρ zRV zRc := ⟨AS.nil, by simp [zRc], AS.nil, AS.nil, AS.nil, by simp [zRc]⟩
structure CW (ρ : Hp) (v : CV) (c : XQ) : Prop where
 r : AIn ρ 4 YY v.ra v.rn c.rows
 k : AIn ρ 3 Xs v.ka v.kn c.kids
 rb : v.rn ≤ 140737488355328
 kb : v.kn ≤ 140737488355328
 rc : v.rn ≤ v.rc
 kc : v.kn ≤ v.kc
 row : ∀ r ∈ c.rows, YC r
 kid : ∀ k ∈ c.kids, k.id < 65536
structure AW (ρ : Hp) (sz : Nat) {α : Type} (g : α → List Value) (s : SV) (l : List α) : Prop where
 at' : AIn ρ sz g s.a s.n l
 big : s.n ≤ 140737488355328
 cap : s.n ≤ s.c
structure RcW (ρ : Hp) (v : RV) (r : Rc) : Prop where
 i : AW ρ 7 imV v.i r.ims
 im : ∀ x ∈ r.ims, CW ρ x.bv x.b ∧ CW ρ x.av x.a
 s : AW ρ 6 XT v.s r.steps
 t : AW ρ 5 Xk v.t r.txns
 d : AW ρ 2 XF v.d r.dirty
 sf : ∀ s ∈ r.steps, YC s.row
theorem CW.mono {ρ ρ' v c} (h : CW ρ v c) (hle : ρ.le ρ') : CW ρ' v c := ⟨h.r.mono hle, h.k.mono hle, h.rb, h.kb, h.rc, h.kc, h.row, h.kid⟩
theorem AW.mono {ρ ρ' : Hp} {sz : Nat} {α : Type} {g : α → List Value} {s : SV} {l : List α} (h : AW ρ sz g s l) (hle : ρ.le ρ') : AW ρ' sz g s l := ⟨h.at'.mono hle, h.big, h.cap⟩
theorem RcW.mono {ρ ρ' v r} (h : RcW ρ v r) (hle : ρ.le ρ') : RcW ρ' v r := ⟨h.i.mono hle, fun x hx => ⟨(h.im x hx).1.mono hle, (h.im x hx).2.mono hle⟩, h.s.mono hle, h.t.mono hle, h.d.mono hle, h.sf⟩
end Go.Proofs.E
namespace Go.Proofs.E
open Go Go.RowKit
set_option linter.unusedVariables false
set_option linter.unusedSimpArgs false
set_option linter.unusedSectionVars false
set_option maxRecDepth 8000
theorem rsw_flat {α : Type} {sz : Nat} {g : α → List Value} {C : List Value} {off : Nat} : ∀ (l : List α) (k : Nat), k ≤ l.length → (∀ i (h : i < l.length), (C.drop (off + i * sz)).take sz = g l[i]) → (C.drop off).take (k * sz) = ((l.take k).map g).flatten
 | l, 0, _, _ => by simp
 | l, k + 1, hk, h => by
  have ih := rsw_flat l k (by omega) h
  rw [show l.take (k + 1) = l.take k ++ [l[k]'(by omega)] from List.take_succ_eq_append_getElem (by omega), Nat.add_mul, Nat.one_mul, List.take_add, ih, List.drop_drop, h k (by omega)]
  simp only [List.map_append, List.flatten_append, List.map_cons, List.map_nil, List.flatten_cons, List.flatten_nil, List.append_nil]
theorem aIn_ofW {ρ : Hp} {α : Type} {sz : Nat} {g : α → List Value} {P : α → Prop} {cs : List Value} {s : Option Addr × Nat × Nat × List α} (hg : ∀ x, (g x).length = sz) (h : RS ρ sz (fun cs x => cs = g x ∧ P x) cs s) : AIn ρ sz g s.1 s.2.1 s.2.2.2 ∧ (∀ x ∈ s.2.2.2, P x) ∧ s.2.1 ≤ s.2.2.1 ∧ s.2.1 ≤ 9223372036854775807 := by
 obtain ⟨a, n, c, ks⟩ := s
 obtain ⟨h1, h2, h3, h4, h5⟩ := h
 dsimp only at h1 h2 h3 h4 h5 ⊢
 refine ⟨⟨h4, ?_, fun x _ => hg x⟩, fun x hx => ?_, h2, by omega⟩
 ·by_cases h0 : n = 0
  ·exact .inl h0
  ·right
   obtain ⟨b, off, C, T, fr, e1, e2, e3, e4⟩ := h5 0 (by omega)
   have same : ∀ i (h : i < ks.length), off + i * sz + sz ≤ C.length ∧ (C.drop (off + i * sz)).take sz = g ks[i] := fun i hi => by
    obtain ⟨b', off', C', T', fr', f1, f2, f3, f4⟩ := h5 i hi
    rw [e1] at f1
    cases f1
    rw [e2] at f2
    cases f2
    exact ⟨f3, f4.1⟩
   refine ⟨b, off, C, T, fr, e1, e2, ?_, ?_⟩
   ·have := (same (n - 1) (by omega)).1
    have e : n * sz = (n - 1) * sz + sz := by
     obtain ⟨m, rfl⟩ : ∃ m, n = m + 1 := ⟨n - 1, by omega⟩
     rw [Nat.add_mul]; simp
    omega
   ·have := rsw_flat (sz := sz) (g := g) ks n (by omega) (fun i hi => (same i hi).2)
    rw [this, List.take_of_length_le (by omega)]
 ·obtain ⟨i, hi, rfl⟩ := List.mem_iff_getElem.1 hx
  obtain ⟨_, _, _, _, _, _, _, _, f⟩ := h5 i hi
  exact f.2
section
variable {H : Type} {enc : TypeId × Value → H} {w : World}
end
end Go.Proofs.E
namespace Go.Proofs.E
open Go
set_option linter.unusedVariables false
set_option linter.unusedSimpArgs false
set_option linter.unusedSectionVars false
set_option maxRecDepth 4000
set_option maxHeartbeats 1000000
attribute [local irreducible] Yl TL TC TE Spec XW R1 Hp.le EnvLe TS TR YS Zv
theorem rpage12_spec (ρ : Hp) (n : Int) : Spec Tryz.prog 177 [.int .i64 n] ρ [] (fun v ρ' L' => v = .bool (pageOk n) ∧ ρ' = ρ ∧ L' = []) := by
 refine Zf Tryz.func177 rfl rfl rfl fun u R => ?_
 simp only [Zx, List.cons_append, List.nil_append]
 repeat' (first | (refine ZG ?_; refine Zn (Ze rfl) rfl rfl ?_) | (refine Zj ?_; first | (refine Zg ?_; refine qQ ?_) | refine Zl ?_) | refine Za ?_ | (refine Zi ?_; refine Zq ?_) | (refine Zh ?_; refine Zp ?_) | (refine XO ?_; refine Yd rfl rfl (fun hb => ?_) (fun hb => ?_) <;> (try simp only [decide_eq_true_eq, decide_eq_false_iff_not, Bool.not_eq_true, Bool.not_eq_false, beq_iff_eq, bne_iff_ne, ne_eq, decide_eq_decide, Bool.not_eq_eq_eq_not, Bool.not_true, Bool.not_false, beq_eq_false_iff_ne, bne_eq_false_iff_eq, Bool.and_eq_true, Bool.or_eq_true, Bool.and_eq_false_imp, Bool.or_eq_false_iff, bq2, bqt, bqf] at hb)) | (refine Yx ?_; refine Yp rfl (fun hb => ?_) (fun hb => ?_) <;> (try simp only [decide_eq_true_eq, decide_eq_false_iff_not, Bool.not_eq_true, Bool.not_eq_false, beq_iff_eq, bne_iff_ne, ne_eq, decide_eq_decide, Bool.not_eq_eq_eq_not, Bool.not_true, Bool.not_false, beq_eq_false_iff_ne, bne_eq_false_iff_eq, Bool.and_eq_true, Bool.or_eq_true, Bool.and_eq_false_imp, Bool.or_eq_false_iff, bq2, bqt, bqf] at hb)) | intro _)
 all_goals (refine qF (L' := []) ?_; exact ⟨YI (by simp [pageOk]; (try omega)), rfl, rfl⟩)
theorem step12_spec (ρ : Hp) (s : Stp) (hf : YC s.row) : Spec Tryz.prog 179 [.agg ⟨XT s⟩] ρ [] (fun v ρ' L' => v = .bool (YF s) ∧ ρ' = ρ ∧ L' = []) := by
 obtain ⟨kind, row, bb⟩ := s
 have hck := Wj ρ row
 have ho := rowV_only row
 unfold YF onlyOk
 dsimp only
 generalize hP : decide (row.val = 0 ∧ row.note = []) = P at *
 generalize hQ : Yy row = Q at *
 refine Zf Tryz.func179 rfl rfl rfl fun u R => ?_
 simp only [Zx, List.cons_append, List.nil_append]
 cases P <;> cases Q
 all_goals (repeat' (first | (refine ZG ?_; refine Zn (v := .agg ⟨YY ⟨row.t, row.id, 0, []⟩⟩) (XY rfl rfl) rfl rfl ?_) | (refine iCm ?_; refine Zn (y_eqc_l rfl rfl ho) rfl rfl ?_) | (refine Zc (.func 247) ?_; refine qC rfl rfl (hck) ?_; rintro v ρ' L' hle ⟨rfl, rfl, rfl⟩ <;> (try simp only [kM, kN, kO])) | (refine ZG ?_; refine Zn (Ze rfl) rfl rfl ?_) | (refine Zj ?_; first | (refine Zg ?_; refine qQ ?_) | refine Zl ?_) | refine Za ?_ | (refine Zi ?_; refine Zq ?_) | (refine Zh ?_; refine Zp ?_) | (refine XO ?_; refine Yd rfl rfl (fun hb => ?_) (fun hb => ?_) <;> (try simp only [decide_eq_true_eq, decide_eq_false_iff_not, Bool.not_eq_true, Bool.not_eq_false, beq_iff_eq, bne_iff_ne, ne_eq, decide_eq_decide, Bool.not_eq_eq_eq_not, Bool.not_true, Bool.not_false, beq_eq_false_iff_ne, bne_eq_false_iff_eq, Bool.and_eq_true, Bool.or_eq_true, Bool.and_eq_false_imp, Bool.or_eq_false_iff, bq2, bqt, bqf] at hb)) | (refine Yx ?_; refine Yp rfl (fun hb => ?_) (fun hb => ?_) <;> (try simp only [decide_eq_true_eq, decide_eq_false_iff_not, Bool.not_eq_true, Bool.not_eq_false, beq_iff_eq, bne_iff_ne, ne_eq, decide_eq_decide, Bool.not_eq_eq_eq_not, Bool.not_true, Bool.not_false, beq_eq_false_iff_ne, bne_eq_false_iff_eq, Bool.and_eq_true, Bool.or_eq_true, Bool.and_eq_false_imp, Bool.or_eq_false_iff, bq2, bqt, bqf] at hb)) | intro _))
 all_goals (refine qF (L' := []) ?_; exact ⟨YI (by clear ho hck; (repeat' split) <;> simp_all <;> omega), rfl, rfl⟩)
theorem steps12_spec (ρ : Hp) (s : SV) (l : List Stp) (h : AS ρ 6 XT s l) (hf : ∀ x ∈ l, YC x.row) : Spec Tryz.prog 96 [.slice s.a s.n s.c] ρ [] (fun v ρ' L' => v = .bool (decide (0 < l.length ∧ l.length ≤ 2) && l.all YF) ∧ ρ' = ρ ∧ L' = []) := by
 have hl := h.at'.len
 have hn := h.big
 have hA := h.at'
 rw [hl]
 generalize hq : l.all YF = q
 refine Zf Tryz.func96 rfl rfl rfl fun u R => ?_
 simp only [Zx, List.cons_append, List.nil_append]
 repeat' (first | (refine ZG ?_; refine Zn (Ze rfl) rfl rfl ?_) | (refine Zj ?_; first | (refine Zg ?_; refine qQ ?_) | refine Zl ?_) | refine Za ?_ | (refine Zi ?_; refine Zq ?_) | (refine Zh ?_; refine Zp ?_) | intro _)
 refine Zy [(0, _), (5, _), (6, _)] (fun (ζ : (Nat)) => [(7, .int .i64 ζ), (2, .bool false)]) (fun (ζ : (Nat)) => ρ) (fun (ζ : (Nat)) => []) (fun (ζ : (Nat)) => ζ ≤ s.n ∧ (l.drop ζ).all YF = q) (fun (ζ : (Nat)) => s.n - ζ) (0) (⟨Nat.zero_le _, hq⟩) Zk Zk rfl tk ?_
 rintro k hI
 try simp only [List.cons_append, List.nil_append, List.append_assoc, List.append_eq] at hI ⊢
 try dsimp only at hI ⊢
 obtain ⟨hk, hok⟩ := hI
 by_cases hlt : k < s.n
 ·obtain ⟨b, off, C, T, fr, e1, hb, hfit, hc⟩ := hA.get (show k < l.length by omega)
  have hmem := List.getElem_mem (show k < l.length by omega)
  rw [List.drop_eq_getElem_cons (show k < l.length by omega), List.all_cons] at hok
  generalize l[k]'(by omega) = x at *
  have hst := step12_spec ρ x (hf x hmem)
  rw [e1]
  cases hx : YF x
  ·rw [hx, Bool.false_and] at hok
   rw [hx] at hst
   subst hok
   rw [Bool.and_false]
   repeat' (first | (refine Zc (.func 179) ?_; refine qC rfl rfl (hst) ?_; rintro v ρ' L' hle ⟨rfl, rfl, rfl⟩ <;> (try simp only [kM, kN, kO])) | (refine ZG ?_; refine Zn (Ze rfl) rfl rfl ?_) | (refine Zj ?_; first | (refine Zg ?_; refine qQ ?_) | refine Zl ?_) | refine Za ?_ | (refine Zi ?_; refine Zq ?_) | (refine Zh ?_; refine Zp ?_) | intro _)
   exact qE (L' := []) ⟨rfl, rfl, rfl⟩
  ·rw [hx, Bool.true_and] at hok
   rw [hx] at hst
   repeat' (first | (refine Zc (.func 179) ?_; refine qC rfl rfl (hst) ?_; rintro v ρ' L' hle ⟨rfl, rfl, rfl⟩ <;> (try simp only [kM, kN, kO])) | (refine ZG ?_; refine Zn (Ze rfl) rfl rfl ?_) | (refine Zj ?_; first | (refine Zg ?_; refine qQ ?_) | refine Zl ?_) | refine Za ?_ | (refine Zi ?_; refine Zq ?_) | (refine Zh ?_; refine Zp ?_) | intro _)
   rw [← e1]
   refine Zo (k + 1) (⟨hlt, hok⟩) Zk Zk rfl tk inferInstance (by first | omega | (dsimp only; omega))
 ·have hk2 : k = l.length := by omega
  rw [hk2, List.drop_length, List.all_nil] at hok
  subst hok
  rw [Bool.and_true]
  repeat' (first | (refine ZG ?_; refine Zn (Ze rfl) rfl rfl ?_) | (refine Zj ?_; first | (refine Zg ?_; refine qQ ?_) | refine Zl ?_) | refine Za ?_ | (refine Zi ?_; refine Zq ?_) | (refine Zh ?_; refine Zp ?_) | (refine XO ?_; refine Yd rfl rfl (fun hb => ?_) (fun hb => ?_) <;> (try simp only [decide_eq_true_eq, decide_eq_false_iff_not, Bool.not_eq_true, Bool.not_eq_false, beq_iff_eq, bne_iff_ne, ne_eq, decide_eq_decide, Bool.not_eq_eq_eq_not, Bool.not_true, Bool.not_false, beq_eq_false_iff_ne, bne_eq_false_iff_eq, Bool.and_eq_true, Bool.or_eq_true, Bool.and_eq_false_imp, Bool.or_eq_false_iff, bq2, bqt, bqf] at hb)) | (refine Yx ?_; refine Yp rfl (fun hb => ?_) (fun hb => ?_) <;> (try simp only [decide_eq_true_eq, decide_eq_false_iff_not, Bool.not_eq_true, Bool.not_eq_false, beq_iff_eq, bne_iff_ne, ne_eq, decide_eq_decide, Bool.not_eq_eq_eq_not, Bool.not_true, Bool.not_false, beq_eq_false_iff_ne, bne_eq_false_iff_eq, Bool.and_eq_true, Bool.or_eq_true, Bool.and_eq_false_imp, Bool.or_eq_false_iff, bq2, bqt, bqf] at hb)) | intro _)
  all_goals (refine qF (L' := []) ?_; exact ⟨YI (by (try simp [*]); first | done | omega | (intros; omega) | (constructor <;> intros <;> (try simp_all) <;> omega)), rfl, rfl⟩)
end Go.Proofs.E
