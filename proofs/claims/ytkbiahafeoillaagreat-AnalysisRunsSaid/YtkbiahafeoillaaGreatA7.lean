/- Laws of analysis. Part 7 of 41. -/
import Derived.Test.YtkbiahafeoillaaGreatA6
namespace Go.Proofs.E
open Go
set_option linter.unusedVariables false
set_option linter.unusedSimpArgs false
set_option linter.unusedSectionVars false
set_option maxRecDepth 4000
set_option maxHeartbeats 1000000
attribute [local irreducible] Yl TL TC TE Spec Xb R1 Hp.le EnvLe TS TR YS Zk
theorem images_spec (ρ : Hp) (s : SV) (l : List Im) (h : AS ρ 7 imV s l) (him : ∀ x ∈ l, Im.In ρ x) (before : Bool) :
  Spec Tryz.prog 135 [.slice s.a s.n s.c, .bool before] ρ [] (fun v ρ' L' => v = .bool (imsOk before l) ∧ ρ' = ρ ∧ L' = []) := by
 have hl := h.at'.len
 have hr := fun bx => risesIm_spec ρ s.a s.n s.c l h.at' h.big bx before him
 refine Zd Tryz.func135 rfl rfl rfl fun u R => ?_
 simp only [Zo, List.cons_append, List.nil_append]
 unfold imsOk
 by_cases h16 : s.n ≤ 16
 ·rw [decide_eq_true (show l.length ≤ 16 by omega), Bool.true_and]
  repeat' (first | (refine Zc (.func 169) ?_; refine qC rfl rfl (hr _) ?_; rintro v ρ' L' hle ⟨rfl, rfl, rfl⟩ <;> (try simp only [kM, kN, kO])) | refine zW ?_ | intro _)
  exact qE (L' := []) ⟨rfl, rfl, rfl⟩
 ·rw [decide_eq_false (show ¬ l.length ≤ 16 by omega), Bool.false_and]
  repeat' (first | refine zW ?_ | intro _)
  exact qE (L' := []) ⟨rfl, rfl, rfl⟩
theorem rowV_only (r : Row) : decide (r = ⟨r.t, r.id, 0, []⟩) = decide (r.val = 0 ∧ r.note = []) := by
 obtain ⟨t, i, v, n⟩ := r
 simp
theorem step_spec (ρ : Hp) (s : Stp) : Spec Tryz.prog 138 [.agg ⟨stpV s⟩] ρ [] (fun v ρ' L' => v = .bool (YM s) ∧ ρ' = ρ ∧ L' = []) := by
 obtain ⟨kind, row, bb⟩ := s
 have hck := checkRow_spec ρ row
 have ho := rowV_only row
 unfold YM onlyOk
 dsimp only
 generalize hP : decide (row.val = 0 ∧ row.note = []) = P at *
 generalize hQ : Xr row = Q at *
 refine Zd Tryz.func138 rfl rfl rfl fun u R => ?_
 simp only [Zo, List.cons_append, List.nil_append]
 cases P <;> cases Q
 all_goals (repeat' (first | (refine iBu ?_; refine tl_y (v := .agg ⟨rowV ⟨row.t, row.id, 0, []⟩⟩) (Wl rfl rfl) rfl rfl ?_) | (refine iCm ?_; refine tl_y (y_eqc_l rfl rfl ho) rfl rfl ?_) | (refine Zc (.func 174) ?_; refine qC rfl rfl (hck) ?_; rintro v ρ' L' hle ⟨rfl, rfl, rfl⟩ <;> (try simp only [kM, kN, kO])) | refine zW ?_ | (refine YL ?_; refine ZB rfl rfl (fun hb => ?_) (fun hb => ?_) <;> (try simp only [decide_eq_true_eq, decide_eq_false_iff_not, Bool.not_eq_true, Bool.not_eq_false, beq_iff_eq, bne_iff_ne, ne_eq, decide_eq_decide, Bool.not_eq_eq_eq_not, Bool.not_true, Bool.not_false, beq_eq_false_iff_ne, bne_eq_false_iff_eq, Bool.and_eq_true, Bool.or_eq_true, Bool.and_eq_false_imp, Bool.or_eq_false_iff] at hb)) | (refine ZS ?_; refine ZM rfl (fun hb => ?_) (fun hb => ?_) <;> (try simp only [decide_eq_true_eq, decide_eq_false_iff_not, Bool.not_eq_true, Bool.not_eq_false, beq_iff_eq, bne_iff_ne, ne_eq, decide_eq_decide, Bool.not_eq_eq_eq_not, Bool.not_true, Bool.not_false, beq_eq_false_iff_ne, bne_eq_false_iff_eq, Bool.and_eq_true, Bool.or_eq_true, Bool.and_eq_false_imp, Bool.or_eq_false_iff] at hb)) | intro _))
 all_goals (refine qF (L' := []) ?_; exact ⟨Ym (by clear ho hck; (repeat' split) <;> simp_all <;> omega), rfl, rfl⟩)
def YV {α : Type} (p : α → Bool) (l : List α) : Int := match l.findIdx? p with | some i => (i : Int) | none => -1
theorem Wh {α : Type} {p : α → Bool} {l : List α} {k : Nat} (h : k < l.length) (hp : p l[k] = true) (hn : ∀ x ∈ l.take k, p x = false) : l.findIdx? p = some k := by
 rw [List.findIdx?_eq_some_iff_getElem]
 refine ⟨h, hp, fun j hj => ?_⟩
 have := hn l[j] (List.mem_take_iff_getElem.2 ⟨j, by omega, rfl⟩)
 simp [this]
theorem WF {α : Type} {p : α → Bool} {l : List α} (hn : ∀ x ∈ l, p x = false) : l.findIdx? p = none := by
 rw [List.findIdx?_eq_none_iff]
 exact hn
theorem WD {α : Type} {p : α → Prop} {l : List α} {k : Nat} (h : k < l.length) (hp : p l[k]) (hn : ∀ x ∈ l.take k, p x) : ∀ x ∈ l.take (k + 1), p x := fun x hx => by
 rw [List.take_succ_eq_append_getElem h] at hx
 rcases List.mem_append.1 hx with hx | hx
 ·exact hn x hx
 ·rw [List.mem_singleton.1 hx]; exact hp
theorem done1_spec (ρ : Hp) (s : Stp) : Spec Tryz.prog 137 [.agg ⟨stpV s⟩] ρ [] (fun v ρ' L' => v = .bool (!YM s) ∧ ρ' = ρ ∧ L' = []) := by
 refine Zd Tryz.func137 rfl rfl rfl fun u R => ?_
 simp only [Zo, List.cons_append, List.nil_append]
 repeat' (first | (refine Zc (.func 138) ?_; refine qC rfl rfl (step_spec _ s) ?_; rintro v ρ' L' hle ⟨rfl, rfl, rfl⟩ <;> (try simp only [kM, kN, kO])) | refine zW ?_ | intro _)
 exact qE ⟨rfl, rfl, rfl⟩
abbrev numC (nb : Nat) (n : Int) : SH := [[(nb, .cells ⟨[.int .i64 n]⟩ 3 (0, 0))]]
theorem idxStp_spec (ρ : Hp) (a : Option Addr) (n c : Nat) (l : List Stp) (h : AIn ρ 6 stpV a n l) (hn : n ≤ 1000000)  :
  Spec Tryz.prog 173 [.slice a n c, .func (.func 137) ⟨[]⟩ ⟨[]⟩] ρ [] (fun z ρ' L' => z = .int .i64 (YV (fun s : Stp => !YM s) l) ∧ ρ' = ρ ∧ L' = []) := by
 have hl := h.len
 generalize hP : (fun s : Stp => !YM s) = pp
 refine Zd Tryz.func173 rfl rfl rfl fun u R => ?_
 simp only [Zo, List.cons_append, List.nil_append]
 repeat' (first | refine zW ?_ | intro _)
 refine Zq [(0, _), (1, _), (7, _)] (fun (ζ : (Nat)) => [(8, .int .i64 ζ), (4, .int .i64 0)]) (fun (ζ : (Nat)) => ρ) (fun (ζ : (Nat)) => []) (fun (ζ : (Nat)) => ζ ≤ n ∧ ∀ x ∈ l.take ζ, pp x = false) (fun (ζ : (Nat)) => n - ζ) (0) (⟨Nat.zero_le _, by simp⟩) Ze Ze rfl tk ?_
 rintro k hI
 try simp only [List.cons_append, List.nil_append, List.append_assoc, List.append_eq] at hI ⊢
 try dsimp only at hI ⊢
 obtain ⟨hk, hok⟩ := hI
 by_cases hlt : k < n
 ·obtain ⟨b, off, C, T, fr, rfl, hb, hfit, hc⟩ := h.get (show k < l.length by omega)
  have hf := fun (e : pp l[k] = true) => Wh (p := pp) (show k < l.length by omega) e hok
  have ht := fun (e : pp l[k] = false) => WD (p := fun x => pp x = false) (show k < l.length by omega) e hok
  have hp : pp l[k] = (fun s : Stp => !YM s) l[k] := by rw [hP]
  cases hx : pp l[k]
  ·have hok2 := ht hx
   rw [hx] at hp
   generalize l[k] = x at *
   repeat' (first | (refine Zc (.tmp 11) ?_; refine qC rfl rfl (done1_spec _ _) ?_; rintro v ρ' L' hle ⟨rfl, rfl, rfl⟩ <;> (try simp only [kM, kN, kO, ← hp, Bool.not_true, Bool.not_false])) | refine zW ?_ | intro _)
   refine Zg (k + 1) (⟨hlt, hok2⟩) Ze Ze rfl tk inferInstance (by first | omega | (dsimp only; omega))
  ·have e := hf hx
   rw [hx] at hp
   have e2 : YV pp l = (k : Int) := by unfold YV; rw [e]
   rw [e2]
   generalize l[k] = x at *
   repeat' (first | (refine Zc (.tmp 11) ?_; refine qC rfl rfl (done1_spec _ _) ?_; rintro v ρ' L' hle ⟨rfl, rfl, rfl⟩ <;> (try simp only [kM, kN, kO, ← hp, Bool.not_true, Bool.not_false])) | refine zW ?_ | intro _)
   exact qE (L' := []) ⟨rfl, rfl, rfl⟩
 ·have hk2 : k = l.length := by omega
  rw [hk2, List.take_length] at hok
  have e2 : YV pp l = -1 := by unfold YV; rw [WF hok]
  rw [e2]
  repeat' (first | refine zW ?_ | intro _)
  exact qE (L' := []) ⟨rfl, rfl, rfl⟩
theorem contains_spec (ρ : Hp) (a : Option Addr) (n c : Nat) (l : List Stp) (h : AIn ρ 6 stpV a n l) (hn : n ≤ 1000000) :
  Spec Tryz.prog 136 [.slice a n c, .func (.func 137) ⟨[]⟩ ⟨[]⟩] ρ [] (fun z ρ' L' => z = .bool (!(l.all YM)) ∧ ρ' = ρ ∧ L' = []) := by
 have hi := idxStp_spec ρ a n c l h hn
 have e : decide (0 ≤ YV (fun s => !YM s) l) = !(l.all YM) := by
  unfold YV
  cases hf : l.findIdx? (fun s => !YM s) with
  | none =>
   rw [List.findIdx?_eq_none_iff] at hf
   have : l.all YM = true := List.all_eq_true.2 (fun x hx => by have := hf x hx; simpa using this)
   rw [this]; rfl
  | some i =>
   obtain ⟨h1, h2, _⟩ := List.findIdx?_eq_some_iff_getElem.1 hf
   have : l.all YM = false := by
    rw [List.all_eq_false]
    exact ⟨_, List.getElem_mem h1, by simpa using h2⟩
   rw [this]; simp
 rw [← e]
 generalize YV (fun s => !YM s) l = q at *
 refine Zd Tryz.func136 rfl rfl rfl fun u R => ?_
 simp only [Zo, List.cons_append, List.nil_append]
 repeat' (first | (refine Zc (.func 173) ?_; refine qC rfl rfl (hi) ?_; rintro v ρ' L' hle ⟨rfl, rfl, rfl⟩ <;> (try simp only [kM, kN, kO])) | refine zW ?_ | intro _)
 refine qF (L' := []) ?_
 exact ⟨Ym (by simp), rfl, rfl⟩
abbrev Yw : SV := ⟨none, 0, 0⟩
theorem bare_spec (ρ : Hp) (v : RV) (r : Rc) (hi : v.i.n ≤ 1000000) (hs : v.s.n ≤ 1000000) (ht : v.t.n ≤ 1000000) (hd : v.d.n ≤ 1000000) : Spec Tryz.prog 92 [.agg ⟨Yx v r⟩] ρ []
  (fun z ρ' L' => z = .bool (decide (r.next = 0 ∧ v.i.n = 0 ∧ v.s.n = 0 ∧ v.t.n = 0 ∧ v.d.n = 0 ∧ r.nextTxn = 0)) ∧ ρ' = ρ ∧ L' = []) := by
 refine Zd Tryz.func92 rfl rfl rfl fun u R => ?_
 simp only [Zo, List.cons_append, List.nil_append]
 repeat' (first | refine zW ?_ | (refine YL ?_; refine ZB rfl rfl (fun hb => ?_) (fun hb => ?_) <;> (try simp only [decide_eq_true_eq, decide_eq_false_iff_not, Bool.not_eq_true, Bool.not_eq_false, beq_iff_eq, bne_iff_ne, ne_eq, decide_eq_decide, Bool.not_eq_eq_eq_not, Bool.not_true, Bool.not_false, beq_eq_false_iff_ne, bne_eq_false_iff_eq, Bool.and_eq_true, Bool.or_eq_true, Bool.and_eq_false_imp, Bool.or_eq_false_iff] at hb)) | (refine ZS ?_; refine ZM rfl (fun hb => ?_) (fun hb => ?_) <;> (try simp only [decide_eq_true_eq, decide_eq_false_iff_not, Bool.not_eq_true, Bool.not_eq_false, beq_iff_eq, bne_iff_ne, ne_eq, decide_eq_decide, Bool.not_eq_eq_eq_not, Bool.not_true, Bool.not_false, beq_eq_false_iff_ne, bne_eq_false_iff_eq, Bool.and_eq_true, Bool.or_eq_true, Bool.and_eq_false_imp, Bool.or_eq_false_iff] at hb)) | intro _)
 all_goals (refine qF (L' := []) ?_; exact ⟨Ym (by (try simp [*]); first | done | omega | (intros; omega) | (constructor <;> intros <;> (try simp_all) <;> omega)), rfl, rfl⟩)
theorem aplain_spec (ρ : Hp) (ab : Nat) (v : RV) (r : Rc) : Spec Tryz.prog 86 [.pointer (some ⟨ab, 0, none⟩)] ρ [XO ab v r] (fun z ρ' L' => z = .bool true ∧ ρ' = ρ ∧ L' = [XO ab v r]) := by
 refine Zd Tryz.func86 rfl rfl rfl fun u R => ?_
 simp only [Zo, List.cons_append, List.nil_append]
 repeat' (first | refine zW ?_ | intro _)
 exact qE (L' := [XO ab v r]) ⟨rfl, rfl, rfl⟩
theorem achange_spec (ρ : Hp) (ab : Nat) (v : RV) (r : Rc) (h : RcIn ρ v r) : Spec Tryz.prog 87 [.pointer (some ⟨ab, 0, none⟩)] ρ [XO ab v r]
  (fun z ρ' L' => z = .bool (decide (0 < r.ims.length) && imsOk true r.ims) ∧ ρ' = ρ ∧ L' = [XO ab { v with i := Yw } r]) := by
 have hl := h.i.at'.len
 have him := images_spec ρ v.i r.ims h.i h.im true
 refine Zd Tryz.func87 rfl rfl rfl fun u R => ?_
 simp only [Zo, List.cons_append, List.nil_append]
 by_cases h0 : 0 < v.i.n
 ·rw [decide_eq_true (show 0 < r.ims.length by omega), Bool.true_and]
  repeat' (first | (refine Zc (.func 135) ?_; refine qC rfl rfl (him) ?_; rintro v ρ' L' hle ⟨rfl, rfl, rfl⟩ <;> (try simp only [kM, kN, kO])) | refine zW ?_ | intro _)
  exact qE (L' := [XO ab { v with i := Yw } r]) ⟨rfl, rfl, rfl⟩
 ·rw [decide_eq_false (show ¬ 0 < r.ims.length by omega), Bool.false_and]
  repeat' (first | refine zW ?_ | intro _)
  exact qE (L' := [XO ab { v with i := Yw } r]) ⟨rfl, rfl, rfl⟩
theorem anested_spec (ρ : Hp) (ab : Nat) (v : RV) (r : Rc) : Spec Tryz.prog 88 [.pointer (some ⟨ab, 0, none⟩)] ρ [XO ab v r]
  (fun z ρ' L' => z = .bool (decide (r.next < r.prev)) ∧ ρ' = ρ ∧ L' = [XO ab v { r with next := 0 }]) := by
 refine Zd Tryz.func88 rfl rfl rfl fun u R => ?_
 simp only [Zo, List.cons_append, List.nil_append]
 repeat' (first | refine zW ?_ | intro _)
 refine qF (L' := [XO ab v { r with next := 0 }]) ?_
 exact ⟨Ym (by simp), rfl, rfl⟩
theorem adone_spec (ρ : Hp) (ab : Nat) (v : RV) (r : Rc) (h : RcIn ρ v r) : Spec Tryz.prog 89 [.pointer (some ⟨ab, 0, none⟩)] ρ [XO ab v r]
  (fun z ρ' L' => z = .bool (decide (r.next < r.prev) && (decide (0 < r.steps.length ∧ r.steps.length ≤ 2) && r.steps.all YM)) ∧ ρ' = ρ ∧ L' = [XO ab { v with s := Yw } { r with next := 0 }]) := by
 have hl := h.s.at'.len
 have hco := contains_spec ρ v.s.a v.s.n v.s.c r.steps h.s.at' h.s.big
 have hne := anested_spec ρ ab { v with s := Yw } r
 rw [hl]
 generalize r.steps.all YM = q at *
 refine Zd Tryz.func89 rfl rfl rfl fun u R => ?_
 simp only [Zo, List.cons_append, List.nil_append]
 repeat' (first | (refine Zc (.func 88) ?_; refine qC rfl rfl (hne) ?_; rintro v ρ' L' hle ⟨rfl, rfl, rfl⟩ <;> (try simp only [kM, kN, kO])) | (refine Zc (.func 136) ?_; refine qC rfl rfl (hco) ?_; rintro v ρ' L' hle ⟨rfl, rfl, rfl⟩ <;> (try simp only [kM, kN, kO])) | refine zW ?_ | (refine YL ?_; refine ZB rfl rfl (fun hb => ?_) (fun hb => ?_) <;> (try simp only [decide_eq_true_eq, decide_eq_false_iff_not, Bool.not_eq_true, Bool.not_eq_false, beq_iff_eq, bne_iff_ne, ne_eq, decide_eq_decide, Bool.not_eq_eq_eq_not, Bool.not_true, Bool.not_false, beq_eq_false_iff_ne, bne_eq_false_iff_eq, Bool.and_eq_true, Bool.or_eq_true, Bool.and_eq_false_imp, Bool.or_eq_false_iff] at hb)) | (refine ZS ?_; refine ZM rfl (fun hb => ?_) (fun hb => ?_) <;> (try simp only [decide_eq_true_eq, decide_eq_false_iff_not, Bool.not_eq_true, Bool.not_eq_false, beq_iff_eq, bne_iff_ne, ne_eq, decide_eq_decide, Bool.not_eq_eq_eq_not, Bool.not_true, Bool.not_false, beq_eq_false_iff_ne, bne_eq_false_iff_eq, Bool.and_eq_true, Bool.or_eq_true, Bool.and_eq_false_imp, Bool.or_eq_false_iff] at hb)) | intro _)
 all_goals (refine qF (L' := [XO ab { v with s := Yw } { r with next := 0 }]) ?_; exact ⟨Ym (by (try simp [*]); first | done | omega | (intros; omega) | (constructor <;> intros <;> (try simp_all) <;> omega)), rfl, rfl⟩)
theorem aundone_spec (ρ : Hp) (ab : Nat) (v : RV) (r : Rc) (h : RcIn ρ v r) : Spec Tryz.prog 90 [.pointer (some ⟨ab, 0, none⟩)] ρ [XO ab v r]
  (fun z ρ' L' => z = .bool (decide (r.next < r.lsn) && imsOk false r.ims) ∧ ρ' = ρ ∧ L' = [XO ab { v with i := Yw } { r with next := 0 }]) := by
 have him := images_spec ρ v.i r.ims h.i h.im false
 generalize imsOk false r.ims = q at *
 refine Zd Tryz.func90 rfl rfl rfl fun u R => ?_
 simp only [Zo, List.cons_append, List.nil_append]
 repeat' (first | refine zW ?_ | intro _)
 refine Zu (Zk _ _ _) Zp ?_
 all_goals (refine Zx 0 ?_; refine Zz ?_; refine rNc 1 ?_; refine ZN 2 ?_; refine ZN 3 ?_; refine ZQ 4 ?_; refine Zx 5 ?_; refine rNc 6 ?_; refine ZN 7 ?_; refine ZN 8 ?_; refine ZQ 9 ?_; refine rAs 10 ?_; refine rAs 11 ?_; refine Zv ?_)
 all_goals (repeat' (first | (refine Zc (.func 135) ?_; refine qC rfl rfl (him) ?_; rintro v ρ' L' hle ⟨rfl, rfl, rfl⟩ <;> (try simp only [kM, kN, kO])) | refine zW ?_ | (refine YL ?_; refine ZB rfl rfl (fun hb => ?_) (fun hb => ?_) <;> (try simp only [decide_eq_true_eq, decide_eq_false_iff_not, Bool.not_eq_true, Bool.not_eq_false, beq_iff_eq, bne_iff_ne, ne_eq, decide_eq_decide, Bool.not_eq_eq_eq_not, Bool.not_true, Bool.not_false, beq_eq_false_iff_ne, bne_eq_false_iff_eq, Bool.and_eq_true, Bool.or_eq_true, Bool.and_eq_false_imp, Bool.or_eq_false_iff] at hb)) | (refine ZS ?_; refine ZM rfl (fun hb => ?_) (fun hb => ?_) <;> (try simp only [decide_eq_true_eq, decide_eq_false_iff_not, Bool.not_eq_true, Bool.not_eq_false, beq_iff_eq, bne_iff_ne, ne_eq, decide_eq_decide, Bool.not_eq_eq_eq_not, Bool.not_true, Bool.not_false, beq_eq_false_iff_ne, bne_eq_false_iff_eq, Bool.and_eq_true, Bool.or_eq_true, Bool.and_eq_false_imp, Bool.or_eq_false_iff] at hb)) | intro _))
 all_goals (refine qF (L' := [XO ab { v with i := Yw } { r with next := 0 }]) ?_; exact ⟨Ym (by (try simp [*]); first | done | omega | (intros; omega) | (constructor <;> intros <;> (try simp_all) <;> omega)), rfl, rfl⟩)
theorem ackpt_spec (ρ : Hp) (ab : Nat) (v : RV) (r : Rc) (h : RcIn ρ v r) : Spec Tryz.prog 91 [.pointer (some ⟨ab, 0, none⟩)] ρ [XO ab v r]
  (fun z ρ' L' => z = .bool (decide (1 ≤ r.nextTxn ∧ r.nextTxn ≤ 1073741824 ∧ r.txns.length ≤ 8) && (upB (ckTOk r.lsn r.nextTxn) CkT.txn r.txns r.txns.length && upB (ckPOk r.lsn) Yq.page r.dirty r.dirty.length)) ∧ ρ' = ρ ∧
   L' = [XO ab { v with t := Yw, d := Yw } { r with nextTxn := 0 }]) := by
 have hl := h.t.at'.len
 have ht := fun nb pb => risesCkT_spec ρ v.t.a v.t.n v.t.c r.txns h.t.at' h.t.big nb pb ab r.nextTxn { v with t := Yw, d := Yw } { r with nextTxn := 0 }
 have hd := fun pb => risesCkP_spec ρ v.d.a v.d.n v.d.c r.dirty h.d.at' h.d.big pb ab { v with t := Yw, d := Yw } { r with nextTxn := 0 }
 dsimp only at ht hd
 generalize upB (ckTOk r.lsn r.nextTxn) CkT.txn r.txns r.txns.length = q1 at *
 generalize upB (ckPOk r.lsn) Yq.page r.dirty r.dirty.length = q2 at *
 rw [hl]
 refine Zd Tryz.func91 rfl rfl rfl fun u R => ?_
 simp only [Zo, List.cons_append, List.nil_append]
 repeat' (first | refine zW ?_ | intro _)
 rename_i pb
 refine Zu (Zk _ _ ([ptrC pb ab, XO ab v r])) (Zw (hT := tk) (Hp.le_refl _)) ?_
 all_goals (refine ZQ 0 ?_; refine rNc 1 ?_; refine ZN 2 ?_; refine ZN 3 ?_; refine ZQ 4 ?_; refine ZQ 5 ?_; refine rNc 6 ?_; refine ZN 7 ?_; refine ZN 8 ?_; refine ZQ 9 ?_; refine ZQ 10 ?_; refine rNc 11 ?_; refine ZN 12 ?_; refine ZN 13 ?_; refine ZQ 14 ?_)
 all_goals (refine Zj (i := 15) ?_; ((try refine Zh ?_); (first | (refine ZF ?_; try intro _)) <;> ((try simp only [kM, kN, kO]); refine Zf ?_; refine Zi ?_)))
 all_goals (refine rAs 16 ?_; refine rAs 17 ?_)
 all_goals (refine Zj (i := 18) ?_; ((try refine Zh ?_); (first | (refine ZF ?_; try intro _)) <;> ((try simp only [kM, kN, kO]); refine Zf ?_; refine Zi ?_)))
 all_goals refine Zv ?_
 all_goals (repeat' (first | refine zW ?_ | intro _))
 refine Zu (Zk _ _ ([ptrC pb ab])) (Zw (hT := tk) (Hp.le_refl _)) ?_
 all_goals (refine ZQ 0 ?_; refine ZQ 1 ?_; refine ZQ 2 ?_; refine rNc 3 ?_; refine ZN 4 ?_; refine ZN 5 ?_)
 all_goals (refine Zj (i := 6) ?_; ((try refine Zh ?_); (first | (refine ZF ?_; try intro _)) <;> ((try simp only [kM, kN, kO]); refine Zf ?_; refine Zi ?_)))
 all_goals (refine rNc 7 ?_; refine ZN 8 ?_; refine ZN 9 ?_)
 all_goals (refine Zj (i := 10) ?_; ((try refine Zh ?_); (first | (refine ZF ?_; try intro _)) <;> ((try simp only [kM, kN, kO]); refine Zf ?_; refine Zi ?_)))
 all_goals (refine rNc 11 ?_; refine ZN 12 ?_; refine ZN 13 ?_)
 all_goals (refine Zj (i := 14) ?_; ((try refine Zh ?_); (first | (refine ZF ?_; try intro _)) <;> ((try simp only [kM, kN, kO]); refine Zf ?_; refine Zi ?_)))
 all_goals refine Zv ?_
 all_goals (repeat' (first | (refine Zc (.func 139) ?_; refine qC rfl rfl (ht _ _) ?_; rintro v ρ' L' hle ⟨rfl, rfl, rfl⟩ <;> (try simp only [kM, kN, kO])) | (refine Zc (.func 142) ?_; refine qC rfl rfl (hd _) ?_; rintro v ρ' L' hle ⟨rfl, rfl, rfl⟩ <;> (try simp only [kM, kN, kO])) | refine zW ?_ | (refine YL ?_; refine ZB rfl rfl (fun hb => ?_) (fun hb => ?_) <;> (try simp only [decide_eq_true_eq, decide_eq_false_iff_not, Bool.not_eq_true, Bool.not_eq_false, beq_iff_eq, bne_iff_ne, ne_eq, decide_eq_decide, Bool.not_eq_eq_eq_not, Bool.not_true, Bool.not_false, beq_eq_false_iff_ne, bne_eq_false_iff_eq, Bool.and_eq_true, Bool.or_eq_true, Bool.and_eq_false_imp, Bool.or_eq_false_iff] at hb)) | (refine ZS ?_; refine ZM rfl (fun hb => ?_) (fun hb => ?_) <;> (try simp only [decide_eq_true_eq, decide_eq_false_iff_not, Bool.not_eq_true, Bool.not_eq_false, beq_iff_eq, bne_iff_ne, ne_eq, decide_eq_decide, Bool.not_eq_eq_eq_not, Bool.not_true, Bool.not_false, beq_eq_false_iff_ne, bne_eq_false_iff_eq, Bool.and_eq_true, Bool.or_eq_true, Bool.and_eq_false_imp, Bool.or_eq_false_iff] at hb)) | intro _))
 all_goals (refine qF (L' := [XO ab { v with t := Yw, d := Yw } { r with nextTxn := 0 }]) ?_; exact ⟨Ym (by (try simp [*]); first | done | omega | (intros; omega) | (constructor <;> intros <;> (try simp_all) <;> omega)), rfl, rfl⟩)
theorem XQ (ρ : Hp) (n : Int) : Spec Tryz.prog 187 [.int .i64 n] ρ [] (fun v ρ' L' => v = .bool (decide (0 ≤ n ∧ n < 3)) ∧ ρ' = ρ ∧ L' = []) := by
 refine Zd Tryz.func187 rfl rfl rfl fun u R => ?_
 simp only [Zo, List.cons_append, List.nil_append]
 by_cases h0 : 0 ≤ n
 ·by_cases h1 : n < 3
  ·rw [decide_eq_true ⟨h0, h1⟩]
   repeat' (first | refine zW ?_ | intro _)
   exact qE ⟨rfl, rfl, rfl⟩
  ·rw [decide_eq_false (fun h => h1 h.2)]
   repeat' (first | refine zW ?_ | intro _)
   exact qE ⟨rfl, rfl, rfl⟩
 ·rw [decide_eq_false (fun h => h0 h.1)]
  repeat' (first | refine zW ?_ | intro _)
  exact qE ⟨rfl, rfl, rfl⟩
theorem YC (ρ : Hp) (t : Int) (id : Nat) (h0 : 0 ≤ t) (h3 : t < 3) (hid : id < 65536) : Spec Tryz.prog 186 [.agg ⟨keyV t id⟩] ρ [] (fun v ρ' L' => v = .int .i64 (t * 65536 + id) ∧ ρ' = ρ ∧ L' = []) := by
 refine Zd Tryz.func186 rfl rfl rfl fun u R => ?_
 simp only [Zo, List.cons_append, List.nil_append]
 repeat' (first | refine zW ?_ | intro _)
 exact qE ⟨rfl, rfl, rfl⟩
theorem order_lt {t1 t2 : Int} {i1 i2 : Nat} (h1 : i1 < 65536) (h2 : i2 < 65536) : cmpK t1 i1 t2 i2 < 0 ↔ t1 * 65536 + i1 < t2 * 65536 + i2 := by
 rw [cmpK_lt]; omega
theorem Wr (ρ : Hp) (r : Row) : Spec Tryz.prog 164 [.agg ⟨rowV r⟩] ρ [] (fun v ρ' L' => v = .bool (Xr r) ∧ ρ' = ρ ∧ L' = []) := by
 obtain ⟨t, id, val, note⟩ := r
 refine Zd Tryz.func164 rfl rfl rfl fun u R => ?_
 simp only [Zo, List.cons_append, List.nil_append, Xr]
 by_cases h1 : 0 ≤ t ∧ t < 3
 ·have hd : decide (0 ≤ t ∧ t < 3) = true := decide_eq_true h1
  by_cases h2 : note.length ≤ 8
  ·rw [decide_eq_true ⟨h1, h2⟩]
   repeat' (first | (refine Zc (.func 187) ?_; refine qC rfl rfl (XQ _ _) ?_; rintro v ρ' L' hle ⟨rfl, rfl, rfl⟩ <;> (try simp only [kM, kN, kO, hd])) | refine zW ?_ | intro _)
   exact qE ⟨rfl, rfl, rfl⟩
  ·rw [decide_eq_false (fun h => h2 h.2)]
   repeat' (first | (refine Zc (.func 187) ?_; refine qC rfl rfl (XQ _ _) ?_; rintro v ρ' L' hle ⟨rfl, rfl, rfl⟩ <;> (try simp only [kM, kN, kO, hd])) | refine zW ?_ | intro _)
   exact qE ⟨rfl, rfl, rfl⟩
 ·have hd : decide (0 ≤ t ∧ t < 3) = false := decide_eq_false h1
  rw [decide_eq_false (fun h => h1 h.1)]
  repeat' (first | (refine Zc (.func 187) ?_; refine qC rfl rfl (XQ _ _) ?_; rintro v ρ' L' hle ⟨rfl, rfl, rfl⟩ <;> (try simp only [kM, kN, kO, hd])) | refine zW ?_ | intro _)
  exact qE ⟨rfl, rfl, rfl⟩
theorem risesB_split {α : Type} {most : Nat} {right : Nat → α → Bool} {lt : α → α → Bool} {l : List α} : ∀ k, ZC most right lt l k = (decide (l.length ≤ most) && ZC l.length right lt l k)
 | 0 => by simp [ZC]
 | k + 1 => by rw [ZC, risesB_split k, ZC, Bool.and_assoc]
theorem rowsR_spec (ρ : Hp) (a : Option Addr) (n c : Nat) (l : List Row) (h : AIn ρ 4 rowV a n l) (hn : n ≤ 1000000) (hid : ∀ r ∈ l, r.id < 65536) :
  Spec Tryz.prog 162 [.slice a n c] ρ [] (fun v ρ' L' => v = .bool (rowsOk l) ∧ ρ' = ρ ∧ L' = []) := by
 have hl := h.len
 unfold rowsOk
 rw [risesB_split, hl]
 refine Zd Tryz.func162 rfl rfl rfl fun u R => ?_
 simp only [Zo, List.cons_append, List.nil_append]
 generalize hrt : (fun (_ : Nat) (r : Row) => Xr r) = rt
 repeat' (first | refine zW ?_ | intro _)
 refine Zq [(0, _), (2, _), (5, _), (6, _)] (fun (ζ : (Nat)) => [(7, .int .i64 ζ)]) (fun (ζ : (Nat)) => ρ) (fun (ζ : (Nat)) => []) (fun (ζ : (Nat)) => ζ ≤ n ∧ ZC n rt ltR l ζ = true) (fun (ζ : (Nat)) => n - ζ) (0) (⟨Nat.zero_le _, by rw [ZC, hl]; exact decide_eq_true (Nat.le_refl _)⟩) Ze Ze rfl tk ?_
 rintro k hI
 try simp only [List.cons_append, List.nil_append, List.append_assoc, List.append_eq] at hI ⊢
 try dsimp only at hI ⊢
 obtain ⟨hk, hok⟩ := hI
 by_cases hlt : k < n
 ·obtain ⟨b, off, C, T, fr, rfl, hb, hfit, hc⟩ := h.get (show k < l.length by omega)
  have hs := YK (most := n) (right := rt) (lt := ltR) (show k < l.length by omega)
  rw [hok, Bool.true_and] at hs
  have hrk : rt k (l[k]'(by omega)) = Xr (l[k]'(by omega)) := by rw [← hrt]
  rw [hrk] at hs
  have hfin := fun (e : ZC n rt ltR l (k + 1) = false) => YF e (show k + 1 ≤ n by omega)
  have hmem : l[k]'(by omega) ∈ l := List.getElem_mem _
  have hidk := hid _ hmem
  cases hx : Xr (l[k]'(by omega))
  ·rw [hx, Bool.false_and] at hs
   rw [hfin hs, Bool.and_false]
   generalize l[k]'(by omega) = x at *
   repeat' (first | refine zW ?_ | intro _)
   refine Zu (Zk _ _ _) Zp ?_
   all_goals refine ZQ 0 ?_
   all_goals (refine Zj (i := 1) ?_; ((try refine Zh ?_); (first | (refine Zc (.func 164) ?_; refine qC rfl rfl (Wr _ x) ?_; rintro v ρ' L' hle ⟨rfl, rfl, rfl⟩ <;> (try simp only [kM, kN, kO, hx])) | (refine ZF ?_; try intro _)) <;> ((try simp only [kM, kN, kO]); refine Zf ?_; refine Zi ?_)))
   all_goals (refine rUn 2 ?_; refine Zx 3 ?_; (first | refine Zb 4 ?_ | refine Za 4 ?_ | refine ZI 4 ?_); (first | refine Zb 5 ?_ | refine Za 5 ?_ | refine Yg 5 ?_); (first | refine Zb 6 ?_ | refine Za 6 ?_ | refine ZI 6 ?_); (first | refine Zb 7 ?_ | refine Za 7 ?_ | refine ZI 7 ?_); (first | refine Zb 8 ?_ | refine Za 8 ?_ | refine ZI 8 ?_); (first | refine Zb 9 ?_ | refine Za 9 ?_ | refine wSb 9 ?_); (first | refine Zb 10 ?_ | refine Za 10 ?_ | refine wIa 10 ?_); (first | refine Zb 11 ?_ | refine Za 11 ?_ | refine ZE 11 ?_); (first | refine Zb 12 ?_ | refine Za 12 ?_ | refine ZL 12 ?_); (first | refine Zb 14 ?_ | refine Za 14 ?_ | refine ZE 14 ?_); (first | refine Zb 15 ?_ | refine Za 15 ?_ | refine ZL 15 ?_))
   all_goals (first | refine Zb 13 ?_ | refine Za 13 ?_ | (refine Zj (i := 13) ?_; ((try refine Zh ?_); (first | (refine ZF ?_; try intro _)) <;> ((try simp only [kM, kN, kO]); refine Zf ?_; refine Zi ?_))))
   all_goals (first | refine Zb 16 ?_ | refine Za 16 ?_ | (refine Zj (i := 16) ?_; ((try refine Zh ?_); (first | (refine ZF ?_; try intro _)) <;> ((try simp only [kM, kN, kO]); refine Zf ?_; refine Zi ?_))))
   all_goals (refine Zz ?_; (first | refine Zb 17 ?_ | refine Za 17 ?_ | refine Yg 17 ?_); (first | refine Zb 18 ?_ | refine Za 18 ?_ | refine wPk 18 ?_); refine Yj 19 ?_; refine Zv ?_)
   repeat' (first | refine zW ?_ | intro _)
   exact qE ⟨rfl, rfl, rfl⟩
  ·rw [hx, Bool.true_and] at hs
   by_cases hk0 : k = 0
   ·have hs' : ZC n rt ltR l (k + 1) = true := by rw [hs]; simp [hk0]
    generalize l[k]'(by omega) = x at *
    repeat' (first | refine zW ?_ | intro _)
    refine Zu (Zk _ _ _) Zp ?_
    all_goals refine ZQ 0 ?_
    all_goals (refine Zj (i := 1) ?_; ((try refine Zh ?_); (first | (refine Zc (.func 164) ?_; refine qC rfl rfl (Wr _ x) ?_; rintro v ρ' L' hle ⟨rfl, rfl, rfl⟩ <;> (try simp only [kM, kN, kO, hx])) | (refine ZF ?_; try intro _)) <;> ((try simp only [kM, kN, kO]); refine Zf ?_; refine Zi ?_)))
    all_goals (refine rUn 2 ?_; refine Zx 3 ?_; (first | refine Zb 4 ?_ | refine Za 4 ?_ | refine ZI 4 ?_); (first | refine Zb 5 ?_ | refine Za 5 ?_ | refine Yg 5 ?_); (first | refine Zb 6 ?_ | refine Za 6 ?_ | refine ZI 6 ?_); (first | refine Zb 7 ?_ | refine Za 7 ?_ | refine ZI 7 ?_); (first | refine Zb 8 ?_ | refine Za 8 ?_ | refine ZI 8 ?_); (first | refine Zb 9 ?_ | refine Za 9 ?_ | refine wSb 9 ?_); (first | refine Zb 10 ?_ | refine Za 10 ?_ | refine wIa 10 ?_); (first | refine Zb 11 ?_ | refine Za 11 ?_ | refine ZE 11 ?_); (first | refine Zb 12 ?_ | refine Za 12 ?_ | refine ZL 12 ?_); (first | refine Zb 14 ?_ | refine Za 14 ?_ | refine ZE 14 ?_); (first | refine Zb 15 ?_ | refine Za 15 ?_ | refine ZL 15 ?_))
    all_goals (first | refine Zb 13 ?_ | refine Za 13 ?_ | (refine Zj (i := 13) ?_; ((try refine Zh ?_); (first | (refine ZF ?_; try intro _)) <;> ((try simp only [kM, kN, kO]); refine Zf ?_; refine Zi ?_))))
    all_goals (first | refine Zb 16 ?_ | refine Za 16 ?_ | (refine Zj (i := 16) ?_; ((try refine Zh ?_); (first | (refine ZF ?_; try intro _)) <;> ((try simp only [kM, kN, kO]); refine Zf ?_; refine Zi ?_))))
    all_goals (refine Zz ?_; (first | refine Zb 17 ?_ | refine Za 17 ?_ | refine Yg 17 ?_); (first | refine Zb 18 ?_ | refine Za 18 ?_ | refine wPk 18 ?_); refine Yj 19 ?_; refine Zv ?_)
    repeat' (first | refine zW ?_ | intro _)
    refine Zg (k + 1) (⟨hlt, hs'⟩) Ze Ze rfl tk inferInstance (by first | omega | (dsimp only; omega))
   ·have hd : decide (k = 0) = false := decide_eq_false hk0
    rw [hd, Bool.false_or] at hs
    obtain ⟨b2, off2, C2, T2, fr2, f1, hb2, hfit2, hc2⟩ := h.get (show k - 1 < l.length by omega)
    cases f1
    rw [hb] at hb2
    cases hb2
    have ek : ((k : Int) - 1).toNat = k - 1 := by omega
    have hkey : List.take 2 (List.drop (off + ((k : Int) - 1).toNat * 4) C) = keyV (l[k - 1]'(by omega)).t (l[k - 1]'(by omega)).id := by
     rw [ek]
     have := congrArg (List.take 2) hc2
     rw [List.take_take] at this
     exact this
    have hfit3 : off + ((k : Int) - 1).toNat * 4 + 2 ≤ C.length := by rw [ek]; omega
    obtain ⟨g1, g2⟩ := XP hok (by omega)
    have hrp := (g2 (k - 1) (by omega) (by omega)).1
    have hrk1 : rt (k - 1) (l[k - 1]'(by omega)) = Xr (l[k - 1]'(by omega)) := by rw [← hrt]
    rw [hrk1] at hrp
    have hidp := hid _ (List.getElem_mem (show k - 1 < l.length by omega))
    clear hc2 hfit2 hrk hrk1
    generalize l[k]'(by omega) = x at *
    generalize l[k - 1]'(by omega) = y at *
    obtain ⟨y0, y3, _⟩ := rowOk_iff hrp
    obtain ⟨x0, x3, _⟩ := rowOk_iff hx
    have hor := order_lt (t1 := y.t) (t2 := x.t) hidp hidk
    unfold ltR at hs
    by_cases hcm : cmpK y.t y.id x.t x.id < 0
    ·rw [decide_eq_true hcm] at hs
     have hcm2 := hor.1 hcm
     repeat' (first | refine zW ?_ | intro _)
     refine Zu (Zk _ _ _) Zp ?_
     all_goals refine ZQ 0 ?_
     all_goals (refine Zj (i := 1) ?_; ((try refine Zh ?_); (first | (refine Zc (.func 164) ?_; refine qC rfl rfl (Wr _ x) ?_; rintro v ρ' L' hle ⟨rfl, rfl, rfl⟩ <;> (try simp only [kM, kN, kO, hx])) | (refine ZF ?_; try intro _)) <;> ((try simp only [kM, kN, kO]); refine Zf ?_; refine Zi ?_)))
     all_goals (refine rUn 2 ?_; refine Zx 3 ?_; (first | refine Zb 4 ?_ | refine Za 4 ?_ | refine ZI 4 ?_); (first | refine Zb 5 ?_ | refine Za 5 ?_ | refine Yg 5 ?_); (first | refine Zb 6 ?_ | refine Za 6 ?_ | refine ZI 6 ?_); (first | refine Zb 7 ?_ | refine Za 7 ?_ | refine ZI 7 ?_); (first | refine Zb 8 ?_ | refine Za 8 ?_ | refine ZI 8 ?_); (first | refine Zb 9 ?_ | refine Za 9 ?_ | refine wSb 9 ?_); (first | refine Zb 10 ?_ | refine Za 10 ?_ | refine wIa 10 ?_); (first | refine Zb 11 ?_ | refine Za 11 ?_ | refine ZE 11 ?_); (first | refine Zb 12 ?_ | refine Za 12 ?_ | refine ZL 12 ?_); (first | refine Zb 14 ?_ | refine Za 14 ?_ | refine ZE 14 ?_); (first | refine Zb 15 ?_ | refine Za 15 ?_ | refine ZL 15 ?_))
     all_goals (first | refine Zb 13 ?_ | refine Za 13 ?_ | (refine Zj (i := 13) ?_; ((try refine Zh ?_); (first | (refine Zc (.func 186) ?_; refine qC rfl rfl (YC _ y.t y.id y0 y3 hidp) ?_; rintro v ρ' L' hle ⟨rfl, rfl, rfl⟩ <;> (try simp only [kM, kN, kO])) | (refine Zc (.func 186) ?_; refine qC rfl rfl (YC _ x.t x.id x0 x3 hidk) ?_; rintro v ρ' L' hle ⟨rfl, rfl, rfl⟩ <;> (try simp only [kM, kN, kO])) | (refine ZF ?_; try intro _)) <;> ((try simp only [kM, kN, kO]); refine Zf ?_; refine Zi ?_))))
     all_goals (first | refine Zb 16 ?_ | refine Za 16 ?_ | (refine Zj (i := 16) ?_; ((try refine Zh ?_); (first | (refine Zc (.func 186) ?_; refine qC rfl rfl (YC _ y.t y.id y0 y3 hidp) ?_; rintro v ρ' L' hle ⟨rfl, rfl, rfl⟩ <;> (try simp only [kM, kN, kO])) | (refine Zc (.func 186) ?_; refine qC rfl rfl (YC _ x.t x.id x0 x3 hidk) ?_; rintro v ρ' L' hle ⟨rfl, rfl, rfl⟩ <;> (try simp only [kM, kN, kO])) | (refine ZF ?_; try intro _)) <;> ((try simp only [kM, kN, kO]); refine Zf ?_; refine Zi ?_))))
     all_goals (refine Zz ?_; (first | refine Zb 17 ?_ | refine Za 17 ?_ | refine Yg 17 ?_); (first | refine Zb 18 ?_ | refine Za 18 ?_ | refine wPk 18 ?_); refine Yj 19 ?_; refine Zv ?_)
     all_goals (repeat' (first | refine zW ?_ | intro _))
     all_goals refine Zg (k + 1) (⟨hlt, hs⟩) Ze Ze rfl tk inferInstance (by first | omega | (dsimp only; omega))
    ·rw [decide_eq_false hcm] at hs
     rw [hfin hs, Bool.and_false]
     have hcm2 : ¬ (y.t * 65536 + y.id < x.t * 65536 + x.id) := fun h => hcm (hor.2 h)
     repeat' (first | refine zW ?_ | intro _)
     refine Zu (Zk _ _ _) Zp ?_
     all_goals refine ZQ 0 ?_
     all_goals (refine Zj (i := 1) ?_; ((try refine Zh ?_); (first | (refine Zc (.func 164) ?_; refine qC rfl rfl (Wr _ x) ?_; rintro v ρ' L' hle ⟨rfl, rfl, rfl⟩ <;> (try simp only [kM, kN, kO, hx])) | (refine ZF ?_; try intro _)) <;> ((try simp only [kM, kN, kO]); refine Zf ?_; refine Zi ?_)))
     all_goals (refine rUn 2 ?_; refine Zx 3 ?_; (first | refine Zb 4 ?_ | refine Za 4 ?_ | refine ZI 4 ?_); (first | refine Zb 5 ?_ | refine Za 5 ?_ | refine Yg 5 ?_); (first | refine Zb 6 ?_ | refine Za 6 ?_ | refine ZI 6 ?_); (first | refine Zb 7 ?_ | refine Za 7 ?_ | refine ZI 7 ?_); (first | refine Zb 8 ?_ | refine Za 8 ?_ | refine ZI 8 ?_); (first | refine Zb 9 ?_ | refine Za 9 ?_ | refine wSb 9 ?_); (first | refine Zb 10 ?_ | refine Za 10 ?_ | refine wIa 10 ?_); (first | refine Zb 11 ?_ | refine Za 11 ?_ | refine ZE 11 ?_); (first | refine Zb 12 ?_ | refine Za 12 ?_ | refine ZL 12 ?_); (first | refine Zb 14 ?_ | refine Za 14 ?_ | refine ZE 14 ?_); (first | refine Zb 15 ?_ | refine Za 15 ?_ | refine ZL 15 ?_))
     all_goals (first | refine Zb 13 ?_ | refine Za 13 ?_ | (refine Zj (i := 13) ?_; ((try refine Zh ?_); (first | (refine Zc (.func 186) ?_; refine qC rfl rfl (YC _ y.t y.id y0 y3 hidp) ?_; rintro v ρ' L' hle ⟨rfl, rfl, rfl⟩ <;> (try simp only [kM, kN, kO])) | (refine Zc (.func 186) ?_; refine qC rfl rfl (YC _ x.t x.id x0 x3 hidk) ?_; rintro v ρ' L' hle ⟨rfl, rfl, rfl⟩ <;> (try simp only [kM, kN, kO])) | (refine ZF ?_; try intro _)) <;> ((try simp only [kM, kN, kO]); refine Zf ?_; refine Zi ?_))))
     all_goals (first | refine Zb 16 ?_ | refine Za 16 ?_ | (refine Zj (i := 16) ?_; ((try refine Zh ?_); (first | (refine Zc (.func 186) ?_; refine qC rfl rfl (YC _ y.t y.id y0 y3 hidp) ?_; rintro v ρ' L' hle ⟨rfl, rfl, rfl⟩ <;> (try simp only [kM, kN, kO])) | (refine Zc (.func 186) ?_; refine qC rfl rfl (YC _ x.t x.id x0 x3 hidk) ?_; rintro v ρ' L' hle ⟨rfl, rfl, rfl⟩ <;> (try simp only [kM, kN, kO])) | (refine ZF ?_; try intro _)) <;> ((try simp only [kM, kN, kO]); refine Zf ?_; refine Zi ?_))))
     all_goals (refine Zz ?_; (first | refine Zb 17 ?_ | refine Za 17 ?_ | refine Yg 17 ?_); (first | refine Zb 18 ?_ | refine Za 18 ?_ | refine wPk 18 ?_); refine Yj 19 ?_; refine Zv ?_)
     all_goals (repeat' (first | refine zW ?_ | intro _))
     all_goals exact qE ⟨rfl, rfl, rfl⟩
 ·have hk2 : k = n := by omega
  subst hk2
  rw [hok, Bool.and_true]
  by_cases h4 : k ≤ 4
  ·rw [decide_eq_true h4]
   repeat' (first | refine zW ?_ | intro _)
   exact qE ⟨rfl, rfl, rfl⟩
  ·rw [decide_eq_false h4]
   repeat' (first | refine zW ?_ | intro _)
   exact qE ⟨rfl, rfl, rfl⟩
end Go.Proofs.E
