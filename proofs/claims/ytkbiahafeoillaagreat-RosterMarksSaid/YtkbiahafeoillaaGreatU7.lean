/- The law RosterMarks. Part 7 of 20. -/
import Derived.Test.YtkbiahafeoillaaGreatU6
namespace Go.Proofs.E
open Go
set_option linter.unusedVariables false
set_option linter.unusedSimpArgs false
set_option linter.unusedSectionVars false
set_option maxRecDepth 4000
set_option maxHeartbeats 1000000
attribute [local irreducible] Yl TL TC TE Spec Wh R1 Hp.le EnvLe TS TR YS Zq
theorem images_spec (ρ : Hp) (s : SV) (l : List Im) (h : AS ρ 7 imV s l) (him : ∀ x ∈ l, Im.In ρ x) (before : Bool) :
  Spec Tryz.prog 135 [.slice s.a s.n s.c, .bool before] ρ [] (fun v ρ' L' => v = .bool (imsOk before l) ∧ ρ' = ρ ∧ L' = []) := by
 have hl := h.at'.len
 have hr := fun bx => risesIm_spec ρ s.a s.n s.c l h.at' h.big bx before him
 refine Zg Tryz.func135 rfl rfl rfl fun u R => ?_
 simp only [Zx, List.cons_append, List.nil_append]
 unfold imsOk
 by_cases h16 : s.n ≤ 16
 ·rw [decide_eq_true (show l.length ≤ 16 by omega), Bool.true_and]
  repeat' (first | (refine Ze (.func 169) ?_; refine qC rfl rfl (hr _) ?_; rintro v ρ' L' hle ⟨rfl, rfl, rfl⟩ <;> (try simp only [kM, kN, kO])) | (refine Zj ?_; first | (refine Zf ?_; refine qQ ?_) | refine Zm ?_) | refine Za ?_ | (refine Zi ?_; refine Zt ?_) | (refine Zh ?_; refine Zs ?_) | intro _)
  exact qE (L' := []) ⟨rfl, rfl, rfl⟩
 ·rw [decide_eq_false (show ¬ l.length ≤ 16 by omega), Bool.false_and]
  repeat' (first | (refine Zj ?_; first | (refine Zf ?_; refine qQ ?_) | refine Zm ?_) | refine Za ?_ | (refine Zi ?_; refine Zt ?_) | (refine Zh ?_; refine Zs ?_) | intro _)
  exact qE (L' := []) ⟨rfl, rfl, rfl⟩
theorem rowV_only (r : Row) : decide (r = ⟨r.t, r.id, 0, []⟩) = decide (r.val = 0 ∧ r.note = []) := by
 obtain ⟨t, i, v, n⟩ := r
 simp
theorem step_spec (ρ : Hp) (s : Stp) : Spec Tryz.prog 138 [.agg ⟨stpV s⟩] ρ [] (fun v ρ' L' => v = .bool (Yy s) ∧ ρ' = ρ ∧ L' = []) := by
 obtain ⟨kind, row, bb⟩ := s
 have hck := checkRow_spec ρ row
 have ho := rowV_only row
 unfold Yy onlyOk
 dsimp only
 generalize hP : decide (row.val = 0 ∧ row.note = []) = P at *
 generalize hQ : Xd row = Q at *
 refine Zg Tryz.func138 rfl rfl rfl fun u R => ?_
 simp only [Zx, List.cons_append, List.nil_append]
 cases P <;> cases Q
 all_goals (repeat' (first | (refine ZE ?_; refine Zn (v := .agg ⟨rowV ⟨row.t, row.id, 0, []⟩⟩) (y_build rfl rfl) rfl rfl ?_) | (refine iCm ?_; refine Zn (y_eqc_l rfl rfl ho) rfl rfl ?_) | (refine Ze (.func 174) ?_; refine qC rfl rfl (hck) ?_; rintro v ρ' L' hle ⟨rfl, rfl, rfl⟩ <;> (try simp only [kM, kN, kO])) | (refine Zj ?_; first | (refine Zf ?_; refine qQ ?_) | refine Zm ?_) | refine Za ?_ | (refine Zi ?_; refine Zt ?_) | (refine Zh ?_; refine Zs ?_) | (refine XM ?_; refine Ye rfl rfl (fun hb => ?_) (fun hb => ?_) <;> (try simp only [decide_eq_true_eq, decide_eq_false_iff_not, Bool.not_eq_true, Bool.not_eq_false, beq_iff_eq, bne_iff_ne, ne_eq, decide_eq_decide, Bool.not_eq_eq_eq_not, Bool.not_true, Bool.not_false, beq_eq_false_iff_ne, bne_eq_false_iff_eq, Bool.and_eq_true, Bool.or_eq_true, Bool.and_eq_false_imp, Bool.or_eq_false_iff] at hb)) | (refine YA ?_; refine Ym rfl (fun hb => ?_) (fun hb => ?_) <;> (try simp only [decide_eq_true_eq, decide_eq_false_iff_not, Bool.not_eq_true, Bool.not_eq_false, beq_iff_eq, bne_iff_ne, ne_eq, decide_eq_decide, Bool.not_eq_eq_eq_not, Bool.not_true, Bool.not_false, beq_eq_false_iff_ne, bne_eq_false_iff_eq, Bool.and_eq_true, Bool.or_eq_true, Bool.and_eq_false_imp, Bool.or_eq_false_iff] at hb)) | intro _))
 all_goals (refine qF (L' := []) ?_; exact ⟨Xn (by clear ho hck; (repeat' split) <;> simp_all <;> omega), rfl, rfl⟩)
def YV {α : Type} (p : α → Bool) (l : List α) : Int := match l.findIdx? p with | some i => (i : Int) | none => -1
theorem Wb {α : Type} {p : α → Bool} {l : List α} {k : Nat} (h : k < l.length) (hp : p l[k] = true) (hn : ∀ x ∈ l.take k, p x = false) : l.findIdx? p = some k := by
 rw [List.findIdx?_eq_some_iff_getElem]
 refine ⟨h, hp, fun j hj => ?_⟩
 have := hn l[j] (List.mem_take_iff_getElem.2 ⟨j, by omega, rfl⟩)
 simp [this]
theorem idx_none {α : Type} {p : α → Bool} {l : List α} (hn : ∀ x ∈ l, p x = false) : l.findIdx? p = none := by
 rw [List.findIdx?_eq_none_iff]
 exact hn
theorem take_more {α : Type} {p : α → Prop} {l : List α} {k : Nat} (h : k < l.length) (hp : p l[k]) (hn : ∀ x ∈ l.take k, p x) : ∀ x ∈ l.take (k + 1), p x := fun x hx => by
 rw [List.take_succ_eq_append_getElem h] at hx
 rcases List.mem_append.1 hx with hx | hx
 ·exact hn x hx
 ·rw [List.mem_singleton.1 hx]; exact hp
theorem done1_spec (ρ : Hp) (s : Stp) : Spec Tryz.prog 137 [.agg ⟨stpV s⟩] ρ [] (fun v ρ' L' => v = .bool (!Yy s) ∧ ρ' = ρ ∧ L' = []) := by
 refine Zg Tryz.func137 rfl rfl rfl fun u R => ?_
 simp only [Zx, List.cons_append, List.nil_append]
 repeat' (first | (refine Ze (.func 138) ?_; refine qC rfl rfl (step_spec _ s) ?_; rintro v ρ' L' hle ⟨rfl, rfl, rfl⟩ <;> (try simp only [kM, kN, kO])) | (refine Zj ?_; first | (refine Zf ?_; refine qQ ?_) | refine Zm ?_) | refine Za ?_ | (refine Zi ?_; refine Zt ?_) | (refine Zh ?_; refine Zs ?_) | intro _)
 exact qE ⟨rfl, rfl, rfl⟩
abbrev numC (nb : Nat) (n : Int) : SH := [[(nb, .cells ⟨[.int .i64 n]⟩ 3 (0, 0))]]
theorem idxStp_spec (ρ : Hp) (a : Option Addr) (n c : Nat) (l : List Stp) (h : AIn ρ 6 stpV a n l) (hn : n ≤ 1000000)  :
  Spec Tryz.prog 173 [.slice a n c, .func (.func 137) ⟨[]⟩ ⟨[]⟩] ρ [] (fun z ρ' L' => z = .int .i64 (YV (fun s : Stp => !Yy s) l) ∧ ρ' = ρ ∧ L' = []) := by
 have hl := h.len
 generalize hP : (fun s : Stp => !Yy s) = pp
 refine Zg Tryz.func173 rfl rfl rfl fun u R => ?_
 simp only [Zx, List.cons_append, List.nil_append]
 repeat' (first | (refine Zj ?_; first | (refine Zf ?_; refine qQ ?_) | refine Zm ?_) | refine Za ?_ | (refine Zi ?_; refine Zt ?_) | (refine Zh ?_; refine Zs ?_) | intro _)
 refine ZG [(0, _), (1, _), (7, _)] (fun (ζ : (Nat)) => [(8, .int .i64 ζ), (4, .int .i64 0)]) (fun (ζ : (Nat)) => ρ) (fun (ζ : (Nat)) => []) (fun (ζ : (Nat)) => ζ ≤ n ∧ ∀ x ∈ l.take ζ, pp x = false) (fun (ζ : (Nat)) => n - ζ) (0) (⟨Nat.zero_le _, by simp⟩) Zo Zo rfl tk ?_
 rintro k hI
 try simp only [List.cons_append, List.nil_append, List.append_assoc, List.append_eq] at hI ⊢
 try dsimp only at hI ⊢
 obtain ⟨hk, hok⟩ := hI
 by_cases hlt : k < n
 ·obtain ⟨b, off, C, T, fr, rfl, hb, hfit, hc⟩ := h.get (show k < l.length by omega)
  have hf := fun (e : pp l[k] = true) => Wb (p := pp) (show k < l.length by omega) e hok
  have ht := fun (e : pp l[k] = false) => take_more (p := fun x => pp x = false) (show k < l.length by omega) e hok
  have hp : pp l[k] = (fun s : Stp => !Yy s) l[k] := by rw [hP]
  cases hx : pp l[k]
  ·have hok2 := ht hx
   rw [hx] at hp
   generalize l[k] = x at *
   repeat' (first | (refine Ze (.tmp 11) ?_; refine qC rfl rfl (done1_spec _ _) ?_; rintro v ρ' L' hle ⟨rfl, rfl, rfl⟩ <;> (try simp only [kM, kN, kO, ← hp, Bool.not_true, Bool.not_false])) | (refine Zj ?_; first | (refine Zf ?_; refine qQ ?_) | refine Zm ?_) | refine Za ?_ | (refine Zi ?_; refine Zt ?_) | (refine Zh ?_; refine Zs ?_) | intro _)
   refine Zr (k + 1) (⟨hlt, hok2⟩) Zo Zo rfl tk inferInstance (by first | omega | (dsimp only; omega))
  ·have e := hf hx
   rw [hx] at hp
   have e2 : YV pp l = (k : Int) := by unfold YV; rw [e]
   rw [e2]
   generalize l[k] = x at *
   repeat' (first | (refine Ze (.tmp 11) ?_; refine qC rfl rfl (done1_spec _ _) ?_; rintro v ρ' L' hle ⟨rfl, rfl, rfl⟩ <;> (try simp only [kM, kN, kO, ← hp, Bool.not_true, Bool.not_false])) | (refine Zj ?_; first | (refine Zf ?_; refine qQ ?_) | refine Zm ?_) | refine Za ?_ | (refine Zi ?_; refine Zt ?_) | (refine Zh ?_; refine Zs ?_) | intro _)
   exact qE (L' := []) ⟨rfl, rfl, rfl⟩
 ·have hk2 : k = l.length := by omega
  rw [hk2, List.take_length] at hok
  have e2 : YV pp l = -1 := by unfold YV; rw [idx_none hok]
  rw [e2]
  repeat' (first | (refine Zj ?_; first | (refine Zf ?_; refine qQ ?_) | refine Zm ?_) | refine Za ?_ | (refine Zi ?_; refine Zt ?_) | (refine Zh ?_; refine Zs ?_) | intro _)
  exact qE (L' := []) ⟨rfl, rfl, rfl⟩
theorem contains_spec (ρ : Hp) (a : Option Addr) (n c : Nat) (l : List Stp) (h : AIn ρ 6 stpV a n l) (hn : n ≤ 1000000) :
  Spec Tryz.prog 136 [.slice a n c, .func (.func 137) ⟨[]⟩ ⟨[]⟩] ρ [] (fun z ρ' L' => z = .bool (!(l.all Yy)) ∧ ρ' = ρ ∧ L' = []) := by
 have hi := idxStp_spec ρ a n c l h hn
 have e : decide (0 ≤ YV (fun s => !Yy s) l) = !(l.all Yy) := by
  unfold YV
  cases hf : l.findIdx? (fun s => !Yy s) with
  | none =>
   rw [List.findIdx?_eq_none_iff] at hf
   have : l.all Yy = true := List.all_eq_true.2 (fun x hx => by have := hf x hx; simpa using this)
   rw [this]; rfl
  | some i =>
   obtain ⟨h1, h2, _⟩ := List.findIdx?_eq_some_iff_getElem.1 hf
   have : l.all Yy = false := by
    rw [List.all_eq_false]
    exact ⟨_, List.getElem_mem h1, by simpa using h2⟩
   rw [this]; simp
 rw [← e]
 generalize YV (fun s => !Yy s) l = q at *
 refine Zg Tryz.func136 rfl rfl rfl fun u R => ?_
 simp only [Zx, List.cons_append, List.nil_append]
 repeat' (first | (refine Ze (.func 173) ?_; refine qC rfl rfl (hi) ?_; rintro v ρ' L' hle ⟨rfl, rfl, rfl⟩ <;> (try simp only [kM, kN, kO])) | (refine Zj ?_; first | (refine Zf ?_; refine qQ ?_) | refine Zm ?_) | refine Za ?_ | (refine Zi ?_; refine Zt ?_) | (refine Zh ?_; refine Zs ?_) | intro _)
 refine qF (L' := []) ?_
 exact ⟨Xn (by simp), rfl, rfl⟩
abbrev YI : SV := ⟨none, 0, 0⟩
theorem bare_spec (ρ : Hp) (v : RV) (r : Rc) (hi : v.i.n ≤ 1000000) (hs : v.s.n ≤ 1000000) (ht : v.t.n ≤ 1000000) (hd : v.d.n ≤ 1000000) : Spec Tryz.prog 92 [.agg ⟨recV v r⟩] ρ []
  (fun z ρ' L' => z = .bool (decide (r.next = 0 ∧ v.i.n = 0 ∧ v.s.n = 0 ∧ v.t.n = 0 ∧ v.d.n = 0 ∧ r.nextTxn = 0)) ∧ ρ' = ρ ∧ L' = []) := by
 refine Zg Tryz.func92 rfl rfl rfl fun u R => ?_
 simp only [Zx, List.cons_append, List.nil_append]
 repeat' (first | (refine Zj ?_; first | (refine Zf ?_; refine qQ ?_) | refine Zm ?_) | refine Za ?_ | (refine Zi ?_; refine Zt ?_) | (refine Zh ?_; refine Zs ?_) | (refine XM ?_; refine Ye rfl rfl (fun hb => ?_) (fun hb => ?_) <;> (try simp only [decide_eq_true_eq, decide_eq_false_iff_not, Bool.not_eq_true, Bool.not_eq_false, beq_iff_eq, bne_iff_ne, ne_eq, decide_eq_decide, Bool.not_eq_eq_eq_not, Bool.not_true, Bool.not_false, beq_eq_false_iff_ne, bne_eq_false_iff_eq, Bool.and_eq_true, Bool.or_eq_true, Bool.and_eq_false_imp, Bool.or_eq_false_iff] at hb)) | (refine YA ?_; refine Ym rfl (fun hb => ?_) (fun hb => ?_) <;> (try simp only [decide_eq_true_eq, decide_eq_false_iff_not, Bool.not_eq_true, Bool.not_eq_false, beq_iff_eq, bne_iff_ne, ne_eq, decide_eq_decide, Bool.not_eq_eq_eq_not, Bool.not_true, Bool.not_false, beq_eq_false_iff_ne, bne_eq_false_iff_eq, Bool.and_eq_true, Bool.or_eq_true, Bool.and_eq_false_imp, Bool.or_eq_false_iff] at hb)) | intro _)
 all_goals (refine qF (L' := []) ?_; exact ⟨Xn (by (try simp [*]); first | done | omega | (intros; omega) | (constructor <;> intros <;> (try simp_all) <;> omega)), rfl, rfl⟩)
theorem aplain_spec (ρ : Hp) (ab : Nat) (v : RV) (r : Rc) : Spec Tryz.prog 86 [.pointer (some ⟨ab, 0, none⟩)] ρ [Yz ab v r] (fun z ρ' L' => z = .bool true ∧ ρ' = ρ ∧ L' = [Yz ab v r]) := by
 refine Zg Tryz.func86 rfl rfl rfl fun u R => ?_
 simp only [Zx, List.cons_append, List.nil_append]
 repeat' (first | (refine Zj ?_; first | (refine Zf ?_; refine qQ ?_) | refine Zm ?_) | refine Za ?_ | (refine Zi ?_; refine Zt ?_) | (refine Zh ?_; refine Zs ?_) | intro _)
 exact qE (L' := [Yz ab v r]) ⟨rfl, rfl, rfl⟩
theorem achange_spec (ρ : Hp) (ab : Nat) (v : RV) (r : Rc) (h : RcIn ρ v r) : Spec Tryz.prog 87 [.pointer (some ⟨ab, 0, none⟩)] ρ [Yz ab v r]
  (fun z ρ' L' => z = .bool (decide (0 < r.ims.length) && imsOk true r.ims) ∧ ρ' = ρ ∧ L' = [Yz ab { v with i := YI } r]) := by
 have hl := h.i.at'.len
 have him := images_spec ρ v.i r.ims h.i h.im true
 refine Zg Tryz.func87 rfl rfl rfl fun u R => ?_
 simp only [Zx, List.cons_append, List.nil_append]
 by_cases h0 : 0 < v.i.n
 ·rw [decide_eq_true (show 0 < r.ims.length by omega), Bool.true_and]
  repeat' (first | (refine Ze (.func 135) ?_; refine qC rfl rfl (him) ?_; rintro v ρ' L' hle ⟨rfl, rfl, rfl⟩ <;> (try simp only [kM, kN, kO])) | (refine Zj ?_; first | (refine Zf ?_; refine qQ ?_) | refine Zm ?_) | refine Za ?_ | (refine Zi ?_; refine Zt ?_) | (refine Zh ?_; refine Zs ?_) | intro _)
  exact qE (L' := [Yz ab { v with i := YI } r]) ⟨rfl, rfl, rfl⟩
 ·rw [decide_eq_false (show ¬ 0 < r.ims.length by omega), Bool.false_and]
  repeat' (first | (refine Zj ?_; first | (refine Zf ?_; refine qQ ?_) | refine Zm ?_) | refine Za ?_ | (refine Zi ?_; refine Zt ?_) | (refine Zh ?_; refine Zs ?_) | intro _)
  exact qE (L' := [Yz ab { v with i := YI } r]) ⟨rfl, rfl, rfl⟩
theorem anested_spec (ρ : Hp) (ab : Nat) (v : RV) (r : Rc) : Spec Tryz.prog 88 [.pointer (some ⟨ab, 0, none⟩)] ρ [Yz ab v r]
  (fun z ρ' L' => z = .bool (decide (r.next < r.prev)) ∧ ρ' = ρ ∧ L' = [Yz ab v { r with next := 0 }]) := by
 refine Zg Tryz.func88 rfl rfl rfl fun u R => ?_
 simp only [Zx, List.cons_append, List.nil_append]
 repeat' (first | (refine Zj ?_; first | (refine Zf ?_; refine qQ ?_) | refine Zm ?_) | refine Za ?_ | (refine Zi ?_; refine Zt ?_) | (refine Zh ?_; refine Zs ?_) | intro _)
 refine qF (L' := [Yz ab v { r with next := 0 }]) ?_
 exact ⟨Xn (by simp), rfl, rfl⟩
theorem adone_spec (ρ : Hp) (ab : Nat) (v : RV) (r : Rc) (h : RcIn ρ v r) : Spec Tryz.prog 89 [.pointer (some ⟨ab, 0, none⟩)] ρ [Yz ab v r]
  (fun z ρ' L' => z = .bool (decide (r.next < r.prev) && (decide (0 < r.steps.length ∧ r.steps.length ≤ 2) && r.steps.all Yy)) ∧ ρ' = ρ ∧ L' = [Yz ab { v with s := YI } { r with next := 0 }]) := by
 have hl := h.s.at'.len
 have hco := contains_spec ρ v.s.a v.s.n v.s.c r.steps h.s.at' h.s.big
 have hne := anested_spec ρ ab { v with s := YI } r
 rw [hl]
 generalize r.steps.all Yy = q at *
 refine Zg Tryz.func89 rfl rfl rfl fun u R => ?_
 simp only [Zx, List.cons_append, List.nil_append]
 repeat' (first | (refine Ze (.func 88) ?_; refine qC rfl rfl (hne) ?_; rintro v ρ' L' hle ⟨rfl, rfl, rfl⟩ <;> (try simp only [kM, kN, kO])) | (refine Ze (.func 136) ?_; refine qC rfl rfl (hco) ?_; rintro v ρ' L' hle ⟨rfl, rfl, rfl⟩ <;> (try simp only [kM, kN, kO])) | (refine Zj ?_; first | (refine Zf ?_; refine qQ ?_) | refine Zm ?_) | refine Za ?_ | (refine Zi ?_; refine Zt ?_) | (refine Zh ?_; refine Zs ?_) | (refine XM ?_; refine Ye rfl rfl (fun hb => ?_) (fun hb => ?_) <;> (try simp only [decide_eq_true_eq, decide_eq_false_iff_not, Bool.not_eq_true, Bool.not_eq_false, beq_iff_eq, bne_iff_ne, ne_eq, decide_eq_decide, Bool.not_eq_eq_eq_not, Bool.not_true, Bool.not_false, beq_eq_false_iff_ne, bne_eq_false_iff_eq, Bool.and_eq_true, Bool.or_eq_true, Bool.and_eq_false_imp, Bool.or_eq_false_iff] at hb)) | (refine YA ?_; refine Ym rfl (fun hb => ?_) (fun hb => ?_) <;> (try simp only [decide_eq_true_eq, decide_eq_false_iff_not, Bool.not_eq_true, Bool.not_eq_false, beq_iff_eq, bne_iff_ne, ne_eq, decide_eq_decide, Bool.not_eq_eq_eq_not, Bool.not_true, Bool.not_false, beq_eq_false_iff_ne, bne_eq_false_iff_eq, Bool.and_eq_true, Bool.or_eq_true, Bool.and_eq_false_imp, Bool.or_eq_false_iff] at hb)) | intro _)
 all_goals (refine qF (L' := [Yz ab { v with s := YI } { r with next := 0 }]) ?_; exact ⟨Xn (by (try simp [*]); first | done | omega | (intros; omega) | (constructor <;> intros <;> (try simp_all) <;> omega)), rfl, rfl⟩)
theorem aundone_spec (ρ : Hp) (ab : Nat) (v : RV) (r : Rc) (h : RcIn ρ v r) : Spec Tryz.prog 90 [.pointer (some ⟨ab, 0, none⟩)] ρ [Yz ab v r]
  (fun z ρ' L' => z = .bool (decide (r.next < r.lsn) && imsOk false r.ims) ∧ ρ' = ρ ∧ L' = [Yz ab { v with i := YI } { r with next := 0 }]) := by
 have him := images_spec ρ v.i r.ims h.i h.im false
 generalize imsOk false r.ims = q at *
 refine Zg Tryz.func90 rfl rfl rfl fun u R => ?_
 simp only [Zx, List.cons_append, List.nil_append]
 repeat' (first | (refine Zj ?_; first | (refine Zf ?_; refine qQ ?_) | refine Zm ?_) | refine Za ?_ | (refine Zi ?_; refine Zt ?_) | (refine Zh ?_; refine Zs ?_) | intro _)
 refine ZC (Zq _ _ _) ZF ?_
 all_goals (refine ZU 0 ?_; refine ZS ?_; refine rNc 1 ?_; refine ZY 2 ?_; refine ZY 3 ?_; refine Yf 4 ?_; refine ZU 5 ?_; refine rNc 6 ?_; refine ZY 7 ?_; refine ZY 8 ?_; refine Yf 9 ?_; refine rAs 10 ?_; refine rAs 11 ?_; refine ZH ?_)
 all_goals (repeat' (first | (refine Ze (.func 135) ?_; refine qC rfl rfl (him) ?_; rintro v ρ' L' hle ⟨rfl, rfl, rfl⟩ <;> (try simp only [kM, kN, kO])) | (refine Zj ?_; first | (refine Zf ?_; refine qQ ?_) | refine Zm ?_) | refine Za ?_ | (refine Zi ?_; refine Zt ?_) | (refine Zh ?_; refine Zs ?_) | (refine XM ?_; refine Ye rfl rfl (fun hb => ?_) (fun hb => ?_) <;> (try simp only [decide_eq_true_eq, decide_eq_false_iff_not, Bool.not_eq_true, Bool.not_eq_false, beq_iff_eq, bne_iff_ne, ne_eq, decide_eq_decide, Bool.not_eq_eq_eq_not, Bool.not_true, Bool.not_false, beq_eq_false_iff_ne, bne_eq_false_iff_eq, Bool.and_eq_true, Bool.or_eq_true, Bool.and_eq_false_imp, Bool.or_eq_false_iff] at hb)) | (refine YA ?_; refine Ym rfl (fun hb => ?_) (fun hb => ?_) <;> (try simp only [decide_eq_true_eq, decide_eq_false_iff_not, Bool.not_eq_true, Bool.not_eq_false, beq_iff_eq, bne_iff_ne, ne_eq, decide_eq_decide, Bool.not_eq_eq_eq_not, Bool.not_true, Bool.not_false, beq_eq_false_iff_ne, bne_eq_false_iff_eq, Bool.and_eq_true, Bool.or_eq_true, Bool.and_eq_false_imp, Bool.or_eq_false_iff] at hb)) | intro _))
 all_goals (refine qF (L' := [Yz ab { v with i := YI } { r with next := 0 }]) ?_; exact ⟨Xn (by (try simp [*]); first | done | omega | (intros; omega) | (constructor <;> intros <;> (try simp_all) <;> omega)), rfl, rfl⟩)
theorem ackpt_spec (ρ : Hp) (ab : Nat) (v : RV) (r : Rc) (h : RcIn ρ v r) : Spec Tryz.prog 91 [.pointer (some ⟨ab, 0, none⟩)] ρ [Yz ab v r]
  (fun z ρ' L' => z = .bool (decide (1 ≤ r.nextTxn ∧ r.nextTxn ≤ 1073741824 ∧ r.txns.length ≤ 8) && (upB (ckTOk r.lsn r.nextTxn) CkT.txn r.txns r.txns.length && upB (ckPOk r.lsn) CkP.page r.dirty r.dirty.length)) ∧ ρ' = ρ ∧
   L' = [Yz ab { v with t := YI, d := YI } { r with nextTxn := 0 }]) := by
 have hl := h.t.at'.len
 have ht := fun nb pb => risesCkT_spec ρ v.t.a v.t.n v.t.c r.txns h.t.at' h.t.big nb pb ab r.nextTxn { v with t := YI, d := YI } { r with nextTxn := 0 }
 have hd := fun pb => risesCkP_spec ρ v.d.a v.d.n v.d.c r.dirty h.d.at' h.d.big pb ab { v with t := YI, d := YI } { r with nextTxn := 0 }
 dsimp only at ht hd
 generalize upB (ckTOk r.lsn r.nextTxn) CkT.txn r.txns r.txns.length = q1 at *
 generalize upB (ckPOk r.lsn) CkP.page r.dirty r.dirty.length = q2 at *
 rw [hl]
 refine Zg Tryz.func91 rfl rfl rfl fun u R => ?_
 simp only [Zx, List.cons_append, List.nil_append]
 repeat' (first | (refine Zj ?_; first | (refine Zf ?_; refine qQ ?_) | refine Zm ?_) | refine Za ?_ | (refine Zi ?_; refine Zt ?_) | (refine Zh ?_; refine Zs ?_) | intro _)
 rename_i pb
 refine ZC (Zq _ _ ([XG pb ab, Yz ab v r])) (Zy (hT := tk) (Hp.le_refl _)) ?_
 all_goals (refine Yf 0 ?_; refine rNc 1 ?_; refine ZY 2 ?_; refine ZY 3 ?_; refine Yf 4 ?_; refine Yf 5 ?_; refine rNc 6 ?_; refine ZY 7 ?_; refine ZY 8 ?_; refine Yf 9 ?_; refine Yf 10 ?_; refine rNc 11 ?_; refine ZY 12 ?_; refine ZY 13 ?_; refine Yf 14 ?_)
 all_goals (refine Zp (i := 15) ?_; ((try refine Zk ?_); (first | (refine Zm ?_; try intro _)) <;> ((try simp only [kM, kN, kO]); refine Za ?_; refine Zl ?_)))
 all_goals (refine rAs 16 ?_; refine rAs 17 ?_)
 all_goals (refine Zp (i := 18) ?_; ((try refine Zk ?_); (first | (refine Zm ?_; try intro _)) <;> ((try simp only [kM, kN, kO]); refine Za ?_; refine Zl ?_)))
 all_goals refine ZH ?_
 all_goals (repeat' (first | (refine Zj ?_; first | (refine Zf ?_; refine qQ ?_) | refine Zm ?_) | refine Za ?_ | (refine Zi ?_; refine Zt ?_) | (refine Zh ?_; refine Zs ?_) | intro _))
 refine ZC (Zq _ _ ([XG pb ab])) (Zy (hT := tk) (Hp.le_refl _)) ?_
 all_goals (refine Yf 0 ?_; refine Yf 1 ?_; refine Yf 2 ?_; refine rNc 3 ?_; refine ZY 4 ?_; refine ZY 5 ?_)
 all_goals (refine Zp (i := 6) ?_; ((try refine Zk ?_); (first | (refine Zm ?_; try intro _)) <;> ((try simp only [kM, kN, kO]); refine Za ?_; refine Zl ?_)))
 all_goals (refine rNc 7 ?_; refine ZY 8 ?_; refine ZY 9 ?_)
 all_goals (refine Zp (i := 10) ?_; ((try refine Zk ?_); (first | (refine Zm ?_; try intro _)) <;> ((try simp only [kM, kN, kO]); refine Za ?_; refine Zl ?_)))
 all_goals (refine rNc 11 ?_; refine ZY 12 ?_; refine ZY 13 ?_)
 all_goals (refine Zp (i := 14) ?_; ((try refine Zk ?_); (first | (refine Zm ?_; try intro _)) <;> ((try simp only [kM, kN, kO]); refine Za ?_; refine Zl ?_)))
 all_goals refine ZH ?_
 all_goals (repeat' (first | (refine Ze (.func 139) ?_; refine qC rfl rfl (ht _ _) ?_; rintro v ρ' L' hle ⟨rfl, rfl, rfl⟩ <;> (try simp only [kM, kN, kO])) | (refine Ze (.func 142) ?_; refine qC rfl rfl (hd _) ?_; rintro v ρ' L' hle ⟨rfl, rfl, rfl⟩ <;> (try simp only [kM, kN, kO])) | (refine Zj ?_; first | (refine Zf ?_; refine qQ ?_) | refine Zm ?_) | refine Za ?_ | (refine Zi ?_; refine Zt ?_) | (refine Zh ?_; refine Zs ?_) | (refine XM ?_; refine Ye rfl rfl (fun hb => ?_) (fun hb => ?_) <;> (try simp only [decide_eq_true_eq, decide_eq_false_iff_not, Bool.not_eq_true, Bool.not_eq_false, beq_iff_eq, bne_iff_ne, ne_eq, decide_eq_decide, Bool.not_eq_eq_eq_not, Bool.not_true, Bool.not_false, beq_eq_false_iff_ne, bne_eq_false_iff_eq, Bool.and_eq_true, Bool.or_eq_true, Bool.and_eq_false_imp, Bool.or_eq_false_iff] at hb)) | (refine YA ?_; refine Ym rfl (fun hb => ?_) (fun hb => ?_) <;> (try simp only [decide_eq_true_eq, decide_eq_false_iff_not, Bool.not_eq_true, Bool.not_eq_false, beq_iff_eq, bne_iff_ne, ne_eq, decide_eq_decide, Bool.not_eq_eq_eq_not, Bool.not_true, Bool.not_false, beq_eq_false_iff_ne, bne_eq_false_iff_eq, Bool.and_eq_true, Bool.or_eq_true, Bool.and_eq_false_imp, Bool.or_eq_false_iff] at hb)) | intro _))
 all_goals (refine qF (L' := [Yz ab { v with t := YI, d := YI } { r with nextTxn := 0 }]) ?_; exact ⟨Xn (by (try simp [*]); first | done | omega | (intros; omega) | (constructor <;> intros <;> (try simp_all) <;> omega)), rfl, rfl⟩)
structure BareR (v' : RV) (r' r : Rc) : Prop where
 i : v'.i.n ≤ 1000000
 s : v'.s.n ≤ 1000000
 t : v'.t.n ≤ 1000000
 d : v'.d.n ≤ 1000000
 eq : decide (r'.next = 0 ∧ v'.i.n = 0 ∧ v'.s.n = 0 ∧ v'.t.n = 0 ∧ v'.d.n = 0 ∧ r'.nextTxn = 0) = bareOk r
def askF (k : Int) : Nat := if k = 2 then 87 else if k = 3 then 88 else if k = 4 then 89 else if k = 5 then 90 else if k = 9 then 91 else 86
theorem ask_spec (ρ : Hp) (ab : Nat) (v : RV) (r : Rc) (h : RcIn ρ v r) (hk : 1 ≤ r.kind ∧ r.kind ≤ 9) : Fun Tryz.prog (askF r.kind) ∧ Spec Tryz.prog (askF r.kind) [.pointer (some ⟨ab, 0, none⟩)] ρ [Yz ab v r]
  (fun z ρ' L' => z = .bool (askOk r) ∧ ρ' = ρ ∧ ∃ v' r', BareR v' r' r ∧ L' = [Yz ab v' r']) := by
 have li := h.i.at'.len
 have ls := h.s.at'.len
 have lt := h.t.at'.len
 have ld := h.d.at'.len
 have bi := h.i.big
 have bs := h.s.big
 have bt := h.t.big
 have bd := h.d.big
 have z0 : YI.n = 0 := rfl
 have ei : r.ims = [] ↔ v.i.n = 0 := by rw [← li]; exact List.length_eq_zero_iff.symm
 have es : r.steps = [] ↔ v.s.n = 0 := by rw [← ls]; exact List.length_eq_zero_iff.symm
 have et : r.txns = [] ↔ v.t.n = 0 := by rw [← lt]; exact List.length_eq_zero_iff.symm
 have ed : r.dirty = [] ↔ v.d.n = 0 := by rw [← ld]; exact List.length_eq_zero_iff.symm
 unfold askF askOk
 have hb : ∀ (v' : RV) (r' : Rc), (v'.i.n ≤ 1000000 ∧ v'.s.n ≤ 1000000 ∧ v'.t.n ≤ 1000000 ∧ v'.d.n ≤ 1000000) → ((r'.next = 0 ∧ v'.i.n = 0 ∧ v'.s.n = 0 ∧ v'.t.n = 0 ∧ v'.d.n = 0 ∧ r'.nextTxn = 0) ↔
   ((r.next = 0 ∨ r.kind = 3 ∨ r.kind = 4 ∨ r.kind = 5) ∧ (v.i.n = 0 ∨ r.kind = 2 ∨ r.kind = 5) ∧ (v.s.n = 0 ∨ r.kind = 4) ∧ ((v.t.n = 0 ∧ v.d.n = 0 ∧ r.nextTxn = 0) ∨ r.kind = 9))) → BareR v' r' r := fun v' r' h1 h2 =>
  ⟨h1.1, h1.2.1, h1.2.2.1, h1.2.2.2, by unfold bareOk; apply decide_eq_decide.2; rw [ei, es, et, ed]; exact h2⟩
 by_cases k2 : r.kind = 2
 ·rw [if_pos k2, if_pos k2]
  refine ⟨inferInstance, (achange_spec ρ ab v r h).mono ?_⟩
  rintro z ρ' L' _ ⟨rfl, rfl, rfl⟩
  exact ⟨rfl, rfl, _, _, hb { v with i := YI } r (by dsimp only; omega) (by dsimp only; omega), rfl⟩
 ·rw [if_neg k2, if_neg k2]
  by_cases k3 : r.kind = 3
  ·rw [if_pos k3, if_pos k3]
   refine ⟨inferInstance, (anested_spec ρ ab v r).mono ?_⟩
   rintro z ρ' L' _ ⟨rfl, rfl, rfl⟩
   exact ⟨rfl, rfl, _, _, hb v { r with next := 0 } (by omega) (by dsimp only; omega), rfl⟩
  ·rw [if_neg k3, if_neg k3]
   by_cases k4 : r.kind = 4
   ·rw [if_pos k4, if_pos k4]
    refine ⟨inferInstance, (adone_spec ρ ab v r h).mono ?_⟩
    rintro z ρ' L' _ ⟨rfl, rfl, rfl⟩
    exact ⟨rfl, rfl, _, _, hb { v with s := YI } { r with next := 0 } (by dsimp only; omega) (by dsimp only; omega), rfl⟩
   ·rw [if_neg k4, if_neg k4]
    by_cases k5 : r.kind = 5
    ·rw [if_pos k5, if_pos k5]
     refine ⟨inferInstance, (aundone_spec ρ ab v r h).mono ?_⟩
     rintro z ρ' L' _ ⟨rfl, rfl, rfl⟩
     exact ⟨rfl, rfl, _, _, hb { v with i := YI } { r with next := 0 } (by dsimp only; omega) (by dsimp only; omega), rfl⟩
    ·rw [if_neg k5, if_neg k5]
     by_cases k9 : r.kind = 9
     ·rw [if_pos k9, if_pos k9]
      refine ⟨inferInstance, (ackpt_spec ρ ab v r h).mono ?_⟩
      rintro z ρ' L' _ ⟨rfl, rfl, rfl⟩
      exact ⟨rfl, rfl, _, _, hb { v with t := YI, d := YI } { r with nextTxn := 0 } (by dsimp only; omega) (by dsimp only; omega), rfl⟩
     ·rw [if_neg k9, if_neg k9]
      refine ⟨inferInstance, (aplain_spec ρ ab v r).mono ?_⟩
      rintro z ρ' L' _ ⟨rfl, rfl, rfl⟩
      exact ⟨rfl, rfl, _, _, hb v r (by omega) (by omega), rfl⟩
theorem askF_chain {f : Nat → Option Value} {k : Int} (hk : 1 ≤ k ∧ k ≤ 9) : (if k = 9 then f 91 else if k = 8 then f 86 else if k = 7 then f 86 else if k = 6 then f 86 else if k = 5 then f 90 else
  if k = 4 then f 89 else if k = 3 then f 88 else if k = 2 then f 87 else if k = 1 then f 86 else none) = f (askF k) := by
 unfold askF
 rcases (show k = 1 ∨ k = 2 ∨ k = 3 ∨ k = 4 ∨ k = 5 ∨ k = 6 ∨ k = 7 ∨ k = 8 ∨ k = 9 by omega) with e | e | e | e | e | e | e | e | e <;> subst e <;> rfl
theorem rcheck_spec (ρ : Hp) (v : RV) (r : Rc) (h : RcIn ρ v r) : Spec Tryz.prog 52 [.agg ⟨recV v r⟩] ρ [] (fun z ρ' L' => z = .int .i64 (if Yp r then 0 else 220) ∧ ρ' = ρ ∧ L' = []) := by
 have hnil : YW .i64 [] := by intro e he; simp at he
 have hg0 : ∀ k : Int, Xh [] k = none := fun _ => rfl
 refine Zg Tryz.func52 rfl rfl rfl fun u R => ?_
 simp only [Zx, List.cons_append, List.nil_append]
 repeat' (first | (refine ZX rfl rfl rfl hnil (fun es1 ck1 i1 j1 => ?_)) | (refine ZX rfl rfl rfl i1 (fun es2 ck2 i2 j2 => ?_)) | (refine ZX rfl rfl rfl i2 (fun es3 ck3 i3 j3 => ?_)) | (refine ZX rfl rfl rfl i3 (fun es4 ck4 i4 j4 => ?_)) | (refine ZX rfl rfl rfl i4 (fun es5 ck5 i5 j5 => ?_)) | (refine ZX rfl rfl rfl i5 (fun es6 ck6 i6 j6 => ?_)) | (refine ZX rfl rfl rfl i6 (fun es7 ck7 i7 j7 => ?_)) | (refine ZX rfl rfl rfl i7 (fun es8 ck8 i8 j8 => ?_)) | (refine ZE ?_; refine Zn (Zd rfl) rfl rfl ?_) | (refine Zj ?_; first | (refine Zf ?_; refine qQ ?_) | refine Zm ?_) | refine Za ?_ | (refine Zi ?_; refine Zt ?_) | (refine Zh ?_; refine Zs ?_) | intro _)
 rename_i rb ab mb
 refine ZX rfl rfl rfl i8 (fun es9 ck9 i9 j9 => ?_)
 have hg := j9 r.kind
 rw [j8, j7, j6, j5, j4, j3, j2, j1, hg0] at hg
 clear j1 j2 j3 j4 j5 j6 j7 j8 j9 i1 i2 i3 i4 i5 i6 i7 i8
 by_cases hk : 1 ≤ r.kind ∧ r.kind ≤ 9
 ·obtain ⟨hF, hS⟩ := ask_spec ρ ab v r h hk
  have hgF : Xh es9 r.kind = some (Value.func (.func (askF r.kind)) ⟨[.pointer (some ⟨ab, 0, none⟩)]⟩ ⟨[]⟩) := by
   rw [hg]
   exact askF_chain (f := fun F => some (Value.func (.func F) ⟨[.pointer (some ⟨ab, 0, none⟩)]⟩ ⟨[]⟩)) hk
  clear hg
  generalize askF r.kind = F at *
  repeat' (first | (refine Ze (.tmp 90) ?_; refine qC rfl rfl (hS) ?_; rintro v ρ' L' hle ⟨rfl, rfl, v', r', hB, rfl⟩ <;> (try simp only [kM, kN, kO])) | (refine Ze (.func 92) ?_; refine qC rfl rfl (bare_spec _ v' r' hB.i hB.s hB.t hB.d) ?_; rintro v ρ' L' hle ⟨rfl, rfl, rfl⟩ <;> (try simp only [kM, kN, kO, hB.eq])) | (refine ZE ?_; refine Zn (Zd rfl) rfl rfl ?_) | (refine Zj ?_; first | (refine Zf ?_; refine qQ ?_) | refine Zm ?_) | refine Za ?_ | (refine Zi ?_; refine Zt ?_) | (refine Zh ?_; refine Zs ?_) | (refine XM ?_; refine Ye rfl rfl (fun hb => ?_) (fun hb => ?_) <;> (try simp only [decide_eq_true_eq, decide_eq_false_iff_not, Bool.not_eq_true, Bool.not_eq_false, beq_iff_eq, bne_iff_ne, ne_eq, decide_eq_decide, Bool.not_eq_eq_eq_not, Bool.not_true, Bool.not_false, beq_eq_false_iff_ne, bne_eq_false_iff_eq, Bool.and_eq_true, Bool.or_eq_true, Bool.and_eq_false_imp, Bool.or_eq_false_iff, bq2, bqt, bqf] at hb)) | (refine YA ?_; refine Ym rfl (fun hb => ?_) (fun hb => ?_) <;> (try simp only [decide_eq_true_eq, decide_eq_false_iff_not, Bool.not_eq_true, Bool.not_eq_false, beq_iff_eq, bne_iff_ne, ne_eq, decide_eq_decide, Bool.not_eq_eq_eq_not, Bool.not_true, Bool.not_false, beq_eq_false_iff_ne, bne_eq_false_iff_eq, Bool.and_eq_true, Bool.or_eq_true, Bool.and_eq_false_imp, Bool.or_eq_false_iff, bq2, bqt, bqf] at hb)) | intro _)
  all_goals (refine qF (L' := []) ?_; refine ⟨?_, rfl, rfl⟩)
  all_goals first | (have hh : headOk r = false := decide_eq_false (by omega); simp only [Yp, hh, Bool.false_and, Bool.and_false, Bool.false_eq_true, if_false]) | (have hh : headOk r = true := decide_eq_true (by omega); have h9 : decide (1 ≤ r.kind ∧ r.kind ≤ 9) = true := decide_eq_true hk; simp [Yp, hh, h9, *])
 ·have hgN : Xh es9 r.kind = none := by
   rw [hg]
   simp only [show ¬ r.kind = 9 by omega, show ¬ r.kind = 8 by omega, show ¬ r.kind = 7 by omega, show ¬ r.kind = 6 by omega, show ¬ r.kind = 5 by omega, show ¬ r.kind = 4 by omega, show ¬ r.kind = 3 by omega, show ¬ r.kind = 2 by omega, show ¬ r.kind = 1 by omega, if_false]
  clear hg
  have e0 : Yp r = false := by simp [Yp, hk]
  rw [e0]
  repeat' (first | (refine ZE ?_; refine Zn (Zd rfl) rfl rfl ?_) | (refine Zj ?_; first | (refine Zf ?_; refine qQ ?_) | refine Zm ?_) | refine Za ?_ | (refine Zi ?_; refine Zt ?_) | (refine Zh ?_; refine Zs ?_) | (refine XM ?_; refine Ye rfl rfl (fun hb => ?_) (fun hb => ?_) <;> (try simp only [decide_eq_true_eq, decide_eq_false_iff_not, Bool.not_eq_true, Bool.not_eq_false, beq_iff_eq, bne_iff_ne, ne_eq, decide_eq_decide, Bool.not_eq_eq_eq_not, Bool.not_true, Bool.not_false, beq_eq_false_iff_ne, bne_eq_false_iff_eq, Bool.and_eq_true, Bool.or_eq_true, Bool.and_eq_false_imp, Bool.or_eq_false_iff, bq2, bqt, bqf] at hb)) | (refine YA ?_; refine Ym rfl (fun hb => ?_) (fun hb => ?_) <;> (try simp only [decide_eq_true_eq, decide_eq_false_iff_not, Bool.not_eq_true, Bool.not_eq_false, beq_iff_eq, bne_iff_ne, ne_eq, decide_eq_decide, Bool.not_eq_eq_eq_not, Bool.not_true, Bool.not_false, beq_eq_false_iff_ne, bne_eq_false_iff_eq, Bool.and_eq_true, Bool.or_eq_true, Bool.and_eq_false_imp, Bool.or_eq_false_iff, bq2, bqt, bqf] at hb)) | intro _)
  all_goals (refine qF (L' := []) ?_; exact ⟨rfl, rfl, rfl⟩)
structure Lf where
 lsn : Nat
 cost : Int
deriving DecidableEq
abbrev lfV (x : Lf) : List Value := [.int .u64 x.lsn, .int .i64 x.cost]
theorem lfV_len (x : Lf) : (lfV x).length = 2 := rfl
abbrev Yj (n : Nat) : Value := .int .u64 n
structure Tx where
 num : Int
 state : Int
 first : Nat
 last : Nat
 undo : Nat
 stack : List Lf
 marks : List Nat
 sv : SV
 mv : SV
abbrev txV (x : Tx) : List Value := [.int .i64 x.num, .int .i64 x.state, .int .u64 x.first, .int .u64 x.last, .int .u64 x.undo, .slice x.sv.a x.sv.n x.sv.c, .slice x.mv.a x.mv.n x.mv.c]
theorem txV_len (x : Tx) : (txV x).length = 7 := rfl
theorem txV_one (x : Tx) : (txV x).all (·.oneCell') = true := rfl
structure Tx.In (ρ : Hp) (x : Tx) : Prop where
 s : AIn ρ 2 lfV x.sv.a x.sv.n x.stack
 m : SIn ρ Yj x.mv.a x.mv.n x.marks
 sb : x.sv.n ≤ 200000000000000
 mb : x.mv.n ≤ 200000000000000
 sc : x.sv.n ≤ x.sv.c
 mc : x.mv.n ≤ x.mv.c
theorem Tx.In.mono {ρ ρ' x} (h : Tx.In ρ x) (hle : ρ.le ρ') : Tx.In ρ' x := ⟨h.s.mono hle, h.m.mono hle, h.sb, h.mb, h.sc, h.mc⟩
structure Ros where
 next : Int
 txns : List Tx
abbrev Yx (v : SV) (r : Ros) : List Value := [.int .i64 r.next, .slice v.a v.n v.c]
structure RosIn (ρ : Hp) (v : SV) (r : Ros) : Prop where
 at' : AS ρ 7 txV v r.txns
 tx : ∀ x ∈ r.txns, Tx.In ρ x
theorem RosIn.mono {ρ ρ' v r} (h : RosIn ρ v r) (hle : ρ.le ρ') : RosIn ρ' v r := ⟨h.at'.mono hle, fun x hx => (h.tx x hx).mono hle⟩
def stackB (undo : Nat) : Nat → List Lf → Bool
 | _, [] => true
 | last, s :: r => decide (last < s.lsn ∧ s.lsn ≤ undo ∧ 1 ≤ s.cost ∧ s.cost ≤ 400) && stackB undo s.lsn r
def sortB (m : List Nat) : Bool := (List.range m.length).all (fun i => decide (i = 0 ∨ m.getD (i - 1) 0 ≤ m.getD i 0))
def marksB (x : Tx) : Bool := decide (x.marks.length = 0) || (decide (x.state = 1 ∧ x.marks.length ≤ 8) && (sortB x.marks && decide (x.first ≤ x.marks.getD 0 0 ∧ x.marks.getD (x.marks.length - 1) 0 ≤ x.undo)))
def txHead (next last : Int) (x : Tx) : Bool := decide (last < x.num ∧ x.num < next ∧ 1 ≤ x.state ∧ x.state ≤ 3 ∧ 1 ≤ x.first ∧ x.first ≤ x.undo ∧ x.undo ≤ x.last ∧ x.last ≤ 1099511627776)
def txOk (next last : Int) (x : Tx) : Bool := txHead next last x && (stackB x.undo x.first x.stack && marksB x)
def txsB (next : Int) : Int → List Tx → Bool
 | _, [] => true
 | last, x :: r => txOk next last x && txsB next x.num r
def XY (r : Ros) : Bool := decide (1 ≤ r.next ∧ r.next ≤ 1073741824 ∧ r.txns.length ≤ 8) && txsB r.next 0 r.txns
theorem Xe {α : Type} {l : List α} {i : Nat} {d : α} (h : i < l.length) : l.getD i d = l[i] := by simp [List.getD, h]
theorem nanU64_spec (ρ : Hp) (x : Int) : Spec Tryz.prog 134 [.int .u64 x] ρ [] (fun v ρ' L' => v = .bool false ∧ ρ' = ρ ∧ L' = []) := by
 refine Zg Tryz.func134 rfl rfl rfl fun u R => ?_
 simp only [Zx, List.cons_append, List.nil_append]
 repeat' (first | (refine ZE ?_; refine Zn (Zd rfl) rfl rfl ?_) | (refine Zj ?_; first | (refine Zf ?_; refine qQ ?_) | refine Zm ?_) | refine Za ?_ | (refine Zi ?_; refine Zt ?_) | (refine Zh ?_; refine Zs ?_) | intro _)
 exact qE ⟨rfl, rfl, rfl⟩
theorem lessU64_spec (ρ : Hp) (x y : Int) : Spec Tryz.prog 182 [.int .u64 x, .int .u64 y] ρ [] (fun v ρ' L' => v = .bool (decide (x < y)) ∧ ρ' = ρ ∧ L' = []) := by
 refine Zg Tryz.func182 rfl rfl rfl fun u R => ?_
 simp only [Zx, List.cons_append, List.nil_append]
 repeat' (first | (refine Ze (.func 134) ?_; refine qC rfl rfl (nanU64_spec _ _) ?_; rintro v ρ' L' hle ⟨rfl, rfl, rfl⟩ <;> (try simp only [kM, kN, kO])) | (refine ZE ?_; refine Zn (Zd rfl) rfl rfl ?_) | (refine Zj ?_; first | (refine Zf ?_; refine qQ ?_) | refine Zm ?_) | refine Za ?_ | (refine Zi ?_; refine Zt ?_) | (refine Zh ?_; refine Zs ?_) | intro _)
 exact qE ⟨rfl, rfl, rfl⟩
theorem sorted_spec (ρ : Hp) (a : Option Addr) (n c : Nat) (m : List Nat) (h : SIn ρ Yj a n m) (hn : n ≤ 8) :
  Spec Tryz.prog 154 [.slice a n c] ρ [] (fun v ρ' L' => v = .bool (sortB m) ∧ ρ' = ρ ∧ L' = []) := by
 have hl := h.len
 refine Zg Tryz.func154 rfl rfl rfl fun u R => ?_
 simp only [Zx, List.cons_append, List.nil_append]
 repeat' (first | (refine ZE ?_; refine Zn (Zd rfl) rfl rfl ?_) | (refine Zj ?_; first | (refine Zf ?_; refine qQ ?_) | refine Zm ?_) | refine Za ?_ | (refine Zi ?_; refine Zt ?_) | (refine Zh ?_; refine Zs ?_) | intro _)
 refine ZG [(0, _)] (fun (ζ : (Nat) × (Int)) => [(3, .int .i64 ζ.2), (2, .bool false)]) (fun (ζ : (Nat) × (Int)) => ρ) (fun (ζ : (Nat) × (Int)) => []) (fun (ζ : (Nat) × (Int)) => ζ.2 = (n : Int) - 1 - ζ.1 ∧ (∀ j, n - ζ.1 ≤ j → j < n → j = 0 ∨ m.getD (j - 1) 0 ≤ m.getD j 0) ∧ ζ.1 ≤ n) (fun (ζ : (Nat) × (Int)) => n + 1 - ζ.1) ((0, (n : Int) - 1)) (⟨by omega, fun j h1 h2 => by omega, Nat.zero_le _⟩) Zo Zo rfl tk ?_
 rintro ⟨k, i⟩ hI
 try simp only [List.cons_append, List.nil_append, List.append_assoc, List.append_eq] at hI ⊢
 try dsimp only at hI ⊢
 obtain ⟨rfl, hok, hk⟩ := hI
 by_cases hlt : k + 1 < n
 ·obtain ⟨b, off, C, T, fr, rfl, hb, hc⟩ := h.get (show n - 1 - k < m.length by omega)
  obtain ⟨b2, off2, C2, T2, fr2, f1, hb2, hc2⟩ := h.get (show n - 1 - k - 1 < m.length by omega)
  cases f1
  rw [hb] at hb2
  cases hb2
  have e1 : ((n : Int) - 1 - k).toNat = n - 1 - k := by omega
  have e2 : ((n : Int) - 1 - k - 1).toNat = n - 1 - k - 1 := by omega
  have g1 : m.getD (n - 1 - k) 0 = m[n - 1 - k]'(by omega) := Xe (by omega)
  have g2 : m.getD (n - 1 - k - 1) 0 = m[n - 1 - k - 1]'(by omega) := Xe (by omega)
  have hkey : sortB m = true → m.getD (n - 1 - k - 1) 0 ≤ m.getD (n - 1 - k) 0 := fun e => by
   have := List.all_eq_true.1 e (n - 1 - k) (List.mem_range.2 (by omega))
   have := of_decide_eq_true this
   omega
  generalize m[n - 1 - k]'(by omega) = y at *
  generalize m[n - 1 - k - 1]'(by omega) = x at *
  rw [← e1] at hc
  rw [← e2] at hc2
  by_cases hyx : (y : Int) < (x : Int)
  ·have hs : sortB m = false := by
    cases e : sortB m with
    | false => rfl
    | true => have := hkey e; omega
   have hd : decide ((y : Int) < (x : Int)) = true := decide_eq_true hyx
   rw [hs]
   repeat' (first | (refine ZE ?_; refine Zn (Zd rfl) rfl rfl ?_) | (refine Zj ?_; first | (refine Zf ?_; refine qQ ?_) | refine Zm ?_) | refine Za ?_ | (refine Zi ?_; refine Zt ?_) | (refine Zh ?_; refine Zs ?_) | intro _)
   refine ZC (Zq _ _ ([])) (Zy (hT := tk) (Hp.le_refl _)) ?_
   all_goals (refine ZU 0 ?_; refine ZU 1 ?_; refine rIa 2 ?_; refine Yf 3 ?_; refine ZU 4 ?_; refine ZU 5 ?_; refine rSb 6 ?_; refine rIa 7 ?_; refine Yf 8 ?_)
   all_goals (refine Zp (i := 9) ?_; ((try refine Zk ?_); (first | (refine Ze (.func 182) ?_; refine qC rfl rfl (lessU64_spec _ _ _) ?_; rintro v ρ' L' hle ⟨rfl, rfl, rfl⟩ <;> (try simp only [kM, kN, kO, hd])) | (refine Zm ?_; try intro _)) <;> ((try simp only [kM, kN, kO]); refine Za ?_; refine Zl ?_)))
   all_goals refine ZH ?_
   repeat' (first | (refine ZE ?_; refine Zn (Zd rfl) rfl rfl ?_) | (refine Zj ?_; first | (refine Zf ?_; refine qQ ?_) | refine Zm ?_) | refine Za ?_ | (refine Zi ?_; refine Zt ?_) | (refine Zh ?_; refine Zs ?_) | intro _)
   exact qE ⟨rfl, rfl, rfl⟩
  ·have hd : decide ((y : Int) < (x : Int)) = false := decide_eq_false hyx
   have hok2 : ∀ j, n - (k + 1) ≤ j → j < n → j = 0 ∨ m.getD (j - 1) 0 ≤ m.getD j 0 := fun j h1 h2 => by
    by_cases e : j = n - 1 - k
    ·right; rw [e]; omega
    ·exact hok j (by omega) h2
   repeat' (first | (refine ZE ?_; refine Zn (Zd rfl) rfl rfl ?_) | (refine Zj ?_; first | (refine Zf ?_; refine qQ ?_) | refine Zm ?_) | refine Za ?_ | (refine Zi ?_; refine Zt ?_) | (refine Zh ?_; refine Zs ?_) | intro _)
   refine ZC (Zq _ _ ([])) (Zy (hT := tk) (Hp.le_refl _)) ?_
   all_goals (refine ZU 0 ?_; refine ZU 1 ?_; refine rIa 2 ?_; refine Yf 3 ?_; refine ZU 4 ?_; refine ZU 5 ?_; refine rSb 6 ?_; refine rIa 7 ?_; refine Yf 8 ?_)
   all_goals (refine Zp (i := 9) ?_; ((try refine Zk ?_); (first | (refine Ze (.func 182) ?_; refine qC rfl rfl (lessU64_spec _ _ _) ?_; rintro v ρ' L' hle ⟨rfl, rfl, rfl⟩ <;> (try simp only [kM, kN, kO, hd])) | (refine Zm ?_; try intro _)) <;> ((try simp only [kM, kN, kO]); refine Za ?_; refine Zl ?_)))
   all_goals refine ZH ?_
   repeat' (first | (refine ZE ?_; refine Zn (Zd rfl) rfl rfl ?_) | (refine Zj ?_; first | (refine Zf ?_; refine qQ ?_) | refine Zm ?_) | refine Za ?_ | (refine Zi ?_; refine Zt ?_) | (refine Zh ?_; refine Zs ?_) | intro _)
   refine Zr (k + 1, (n : Int) - 1 - k - 1) (⟨by omega, hok2, by omega⟩) Zo Zo rfl tk inferInstance (by first | omega | (dsimp only; omega))
 ·have hs : sortB m = true := List.all_eq_true.2 (fun i hi => by
   have := List.mem_range.1 hi
   apply decide_eq_true
   by_cases e : i = 0
   ·exact .inl e
   ·exact hok i (by omega) (by omega))
  rw [hs]
  repeat' (first | (refine ZE ?_; refine Zn (Zd rfl) rfl rfl ?_) | (refine Zj ?_; first | (refine Zf ?_; refine qQ ?_) | refine Zm ?_) | refine Za ?_ | (refine Zi ?_; refine Zt ?_) | (refine Zh ?_; refine Zs ?_) | intro _)
  exact qE ⟨rfl, rfl, rfl⟩
theorem marks_spec (ρ : Hp) (x : Tx) (h : Tx.In ρ x) : Spec Tryz.prog 105 [.agg ⟨txV x⟩] ρ [] (fun v ρ' L' => v = .bool (marksB x) ∧ ρ' = ρ ∧ L' = []) := by
 have hl := h.m.len
 have hb := h.mb
 have hs := fun h8 => sorted_spec ρ x.mv.a x.mv.n x.mv.c x.marks h.m h8
 unfold marksB
 rw [hl]
 refine Zg Tryz.func105 rfl rfl rfl fun u R => ?_
 simp only [Zx, List.cons_append, List.nil_append]
 by_cases h0 : x.mv.n = 0
 ·rw [decide_eq_true h0, Bool.true_or]
  repeat' (first | (refine ZE ?_; refine Zn (Zd rfl) rfl rfl ?_) | (refine Zj ?_; first | (refine Zf ?_; refine qQ ?_) | refine Zm ?_) | refine Za ?_ | (refine Zi ?_; refine Zt ?_) | (refine Zh ?_; refine Zs ?_) | intro _)
  exact qE ⟨rfl, rfl, rfl⟩
 ·rw [decide_eq_false h0, Bool.false_or]
  obtain ⟨b, off, C, T, fr, e1, hb1, hc1⟩ := h.m.get (show 0 < x.marks.length by omega)
  obtain ⟨b2, off2, C2, T2, fr2, f1, hb2, hc2⟩ := h.m.get (show x.mv.n - 1 < x.marks.length by omega)
  rw [e1] at f1 hs
  cases f1
  rw [hb1] at hb2
  cases hb2
  have g1 : x.marks.getD 0 0 = x.marks[0]'(by omega) := Xe (by omega)
  have g2 : x.marks.getD (x.mv.n - 1) 0 = x.marks[x.mv.n - 1]'(by omega) := Xe (by omega)
  rw [g1, g2]
  generalize x.marks[0]'(by omega) = y at *
  generalize x.marks[x.mv.n - 1]'(by omega) = z at *
  have e2 : ((x.mv.n : Int) - 1).toNat = x.mv.n - 1 := by omega
  rw [← e2] at hc2
  by_cases h8 : x.mv.n ≤ 8
  ·have hs8 := hs h8
   generalize sortB x.marks = q at *
   have e3 : Value.slice x.mv.a x.mv.n x.mv.c = Value.slice (some ⟨b, off, none⟩) x.mv.n x.mv.c := by rw [e1]
   rw [show txV x = [.int .i64 x.num, .int .i64 x.state, .int .u64 x.first, .int .u64 x.last, .int .u64 x.undo, .slice x.sv.a x.sv.n x.sv.c, .slice (some ⟨b, off, none⟩) x.mv.n x.mv.c] by rw [← e1]]
   repeat' (first | (refine ZE ?_; refine Zn (Zd rfl) rfl rfl ?_) | (refine Zj ?_; first | (refine Zf ?_; refine qQ ?_) | refine Zm ?_) | refine Za ?_ | (refine Zi ?_; refine Zt ?_) | (refine Zh ?_; refine Zs ?_) | intro _)
   refine ZC (Zq _ _ _) ZF ?_
   all_goals (refine ZY 0 ?_; refine Yf 1 ?_; refine rCm 2 ?_; refine ZU 3 ?_)
   all_goals (first | refine Zc 4 ?_ | refine Zb 4 ?_ | refine ZI 4 ?_ | (refine ZB (t := 12) rfl (fun hb => ?_) (fun hb => ?_) <;> (try simp only [kk] at hb) <;> first | refine Zc 4 ?_ | refine Zb 4 ?_ | refine ZI 4 ?_))
   all_goals ((first | refine Zc 5 ?_ | refine Zb 5 ?_ | refine wCm 5 ?_); refine rPk 6 ?_; refine ZU 7 ?_)
   all_goals (first | refine Zc 8 ?_ | refine Zb 8 ?_ | refine wFa 8 ?_ | (refine ZB (t := 16) rfl (fun hb => ?_) (fun hb => ?_) <;> (try simp only [kk] at hb) <;> first | refine Zc 8 ?_ | refine Zb 8 ?_ | refine wFa 8 ?_))
   all_goals (first | refine Zc 9 ?_ | refine Zb 9 ?_ | refine wLd 9 ?_)
   all_goals (first | refine Zc 10 ?_ | refine Zb 10 ?_ | (refine Zp (i := 10) ?_; ((try refine Zk ?_); (first | (refine Ze (.func 154) ?_; refine qC rfl rfl (hs8) ?_; rintro v ρ' L' hle ⟨rfl, rfl, rfl⟩ <;> (try simp only [kM, kN, kO])) | (refine Zm ?_; try intro _)) <;> ((try simp only [kM, kN, kO]); refine Za ?_; refine Zl ?_))))
   all_goals (refine ZS ?_; refine rPk 11 ?_; refine ZU 12 ?_)
   all_goals (first | refine Zc 13 ?_ | refine Zb 13 ?_ | refine wFa 13 ?_ | (refine ZB (t := 21) rfl (fun hb => ?_) (fun hb => ?_) <;> (try simp only [kk] at hb) <;> first | refine Zc 13 ?_ | refine Zb 13 ?_ | refine wFa 13 ?_))
   all_goals ((first | refine Zc 14 ?_ | refine Zb 14 ?_ | refine wLd 14 ?_); (first | refine Zc 15 ?_ | refine Zb 15 ?_ | refine wIa 15 ?_); (first | refine Zc 16 ?_ | refine Zb 16 ?_ | refine wLd 16 ?_); (first | refine Zc 17 ?_ | refine Zb 17 ?_ | refine wFa 17 ?_); (first | refine Zc 18 ?_ | refine Zb 18 ?_ | refine wLd 18 ?_); (first | refine Zc 19 ?_ | refine Zb 19 ?_ | refine wCm 19 ?_); refine rPk 20 ?_; refine ZU 21 ?_)
   all_goals (first | refine Zc 22 ?_ | refine Zb 22 ?_ | refine wFa 22 ?_ | (refine ZB (t := 30) rfl (fun hb => ?_) (fun hb => ?_) <;> (try simp only [kk] at hb) <;> first | refine Zc 22 ?_ | refine Zb 22 ?_ | refine wFa 22 ?_))
   all_goals ((first | refine Zc 23 ?_ | refine Zb 23 ?_ | refine wLd 23 ?_); (first | refine Zc 24 ?_ | refine Zb 24 ?_ | refine ZI 24 ?_); (first | refine Zc 25 ?_ | refine Zb 25 ?_ | refine wSb 25 ?_); (first | refine Zc 26 ?_ | refine Zb 26 ?_ | refine wIa 26 ?_); (first | refine Zc 27 ?_ | refine Zb 27 ?_ | refine wLd 27 ?_); (first | refine Zc 28 ?_ | refine Zb 28 ?_ | refine wFa 28 ?_); (first | refine Zc 29 ?_ | refine Zb 29 ?_ | refine wLd 29 ?_); (first | refine Zc 30 ?_ | refine Zb 30 ?_ | refine wCm 30 ?_); refine rPk 31 ?_; refine rAs 32 ?_; refine ZH ?_)
   all_goals (repeat' (first | (refine ZE ?_; refine Zn (Zd rfl) rfl rfl ?_) | (refine Zj ?_; first | (refine Zf ?_; refine qQ ?_) | refine Zm ?_) | refine Za ?_ | (refine Zi ?_; refine Zt ?_) | (refine Zh ?_; refine Zs ?_) | intro _))
   all_goals (refine qF (L' := []) ?_; exact ⟨Xn (by (try simp [*]); first | done | omega | (intros; omega) | (constructor <;> intros <;> (try simp_all) <;> omega)), rfl, rfl⟩)
  ·repeat' (first | (refine ZE ?_; refine Zn (Zd rfl) rfl rfl ?_) | (refine Zj ?_; first | (refine Zf ?_; refine qQ ?_) | refine Zm ?_) | refine Za ?_ | (refine Zi ?_; refine Zt ?_) | (refine Zh ?_; refine Zs ?_) | intro _)
   refine ZC (Zq _ _ _) ZF ?_
   all_goals (refine ZY 0 ?_; refine Yf 1 ?_; refine rCm 2 ?_; refine ZU 3 ?_)
   all_goals (first | refine Zc 4 ?_ | refine Zb 4 ?_ | refine ZI 4 ?_ | (refine ZB (t := 12) rfl (fun hb => ?_) (fun hb => ?_) <;> (try simp only [kk] at hb) <;> first | refine Zc 4 ?_ | refine Zb 4 ?_ | refine ZI 4 ?_))
   all_goals ((first | refine Zc 5 ?_ | refine Zb 5 ?_ | refine wCm 5 ?_); refine rPk 6 ?_; refine ZU 7 ?_)
   all_goals (first | refine Zc 8 ?_ | refine Zb 8 ?_ | refine wFa 8 ?_ | (refine ZB (t := 16) rfl (fun hb => ?_) (fun hb => ?_) <;> (try simp only [kk] at hb) <;> first | refine Zc 8 ?_ | refine Zb 8 ?_ | refine wFa 8 ?_))
   all_goals (first | refine Zc 9 ?_ | refine Zb 9 ?_ | refine wLd 9 ?_)
   all_goals (first | refine Zc 10 ?_ | refine Zb 10 ?_ | (refine Zp (i := 10) ?_; ((try refine Zk ?_); (first | (refine Zm ?_; try intro _)) <;> ((try simp only [kM, kN, kO]); refine Za ?_; refine Zl ?_))))
   all_goals (refine ZS ?_; refine rPk 11 ?_; refine ZU 12 ?_)
   all_goals (first | refine Zc 13 ?_ | refine Zb 13 ?_ | refine wFa 13 ?_ | (refine ZB (t := 21) rfl (fun hb => ?_) (fun hb => ?_) <;> (try simp only [kk] at hb) <;> first | refine Zc 13 ?_ | refine Zb 13 ?_ | refine wFa 13 ?_))
   all_goals ((first | refine Zc 14 ?_ | refine Zb 14 ?_ | refine wLd 14 ?_); (first | refine Zc 15 ?_ | refine Zb 15 ?_ | refine wIa 15 ?_); (first | refine Zc 16 ?_ | refine Zb 16 ?_ | refine wLd 16 ?_); (first | refine Zc 17 ?_ | refine Zb 17 ?_ | refine wFa 17 ?_); (first | refine Zc 18 ?_ | refine Zb 18 ?_ | refine wLd 18 ?_); (first | refine Zc 19 ?_ | refine Zb 19 ?_ | refine wCm 19 ?_); refine rPk 20 ?_; refine ZU 21 ?_)
   all_goals (first | refine Zc 22 ?_ | refine Zb 22 ?_ | refine wFa 22 ?_ | (refine ZB (t := 30) rfl (fun hb => ?_) (fun hb => ?_) <;> (try simp only [kk] at hb) <;> first | refine Zc 22 ?_ | refine Zb 22 ?_ | refine wFa 22 ?_))
   all_goals ((first | refine Zc 23 ?_ | refine Zb 23 ?_ | refine wLd 23 ?_); (first | refine Zc 24 ?_ | refine Zb 24 ?_ | refine ZI 24 ?_); (first | refine Zc 25 ?_ | refine Zb 25 ?_ | refine wSb 25 ?_); (first | refine Zc 26 ?_ | refine Zb 26 ?_ | refine wIa 26 ?_); (first | refine Zc 27 ?_ | refine Zb 27 ?_ | refine wLd 27 ?_); (first | refine Zc 28 ?_ | refine Zb 28 ?_ | refine wFa 28 ?_); (first | refine Zc 29 ?_ | refine Zb 29 ?_ | refine wLd 29 ?_); (first | refine Zc 30 ?_ | refine Zb 30 ?_ | refine wCm 30 ?_); refine rPk 31 ?_; refine rAs 32 ?_; refine ZH ?_)
   all_goals (repeat' (first | (refine ZE ?_; refine Zn (Zd rfl) rfl rfl ?_) | (refine Zj ?_; first | (refine Zf ?_; refine qQ ?_) | refine Zm ?_) | refine Za ?_ | (refine Zi ?_; refine Zt ?_) | (refine Zh ?_; refine Zs ?_) | intro _))
   all_goals (refine qF (L' := []) ?_; exact ⟨Xn (by (try simp [*]); first | done | omega | (intros; omega) | (constructor <;> intros <;> (try simp_all) <;> omega)), rfl, rfl⟩)
theorem stack_spec (ρ : Hp) (x : Tx) (h : Tx.In ρ x) : Spec Tryz.prog 104 [.agg ⟨txV x⟩] ρ [] (fun v ρ' L' => v = .bool (stackB x.undo x.first x.stack) ∧ ρ' = ρ ∧ L' = []) := by
 have hl := h.s.len
 have hn := h.sb
 have hA := h.s
 generalize hq : stackB x.undo x.first x.stack = q
 refine Zg Tryz.func104 rfl rfl rfl fun u R => ?_
 simp only [Zx, List.cons_append, List.nil_append]
 repeat' (first | (refine ZE ?_; refine Zn (Zd rfl) rfl rfl ?_) | (refine Zj ?_; first | (refine Zf ?_; refine qQ ?_) | refine Zm ?_) | refine Za ?_ | (refine Zi ?_; refine Zt ?_) | (refine Zh ?_; refine Zs ?_) | intro _)
 rename_i bx
 refine ZG [(1, _), (9, _), (10, _)] (fun (ζ : (Nat) × (Nat)) => [(11, .int .i64 ζ.1), (2, .bool false), (3, .int .u64 ζ.2)]) (fun (ζ : (Nat) × (Nat)) => ρ) (fun (ζ : (Nat) × (Nat)) => [[(bx, .cells ⟨txV x⟩ 45 (0, 0))]]) (fun (ζ : (Nat) × (Nat)) => ζ.1 ≤ x.sv.n ∧ stackB x.undo ζ.2 (x.stack.drop ζ.1) = q) (fun (ζ : (Nat) × (Nat)) => x.sv.n - ζ.1) ((0, x.first)) (⟨Nat.zero_le _, hq⟩) Zo Zo rfl tk ?_
 rintro ⟨k, last⟩ hI
 try simp only [List.cons_append, List.nil_append, List.append_assoc, List.append_eq] at hI ⊢
 try dsimp only at hI ⊢
 obtain ⟨hk, hok⟩ := hI
 by_cases hlt : k < x.sv.n
 ·obtain ⟨b, off, C, T, fr, e1, hb, hfit, hc⟩ := hA.get (show k < x.stack.length by omega)
  rw [List.drop_eq_getElem_cons (show k < x.stack.length by omega), stackB] at hok
  generalize x.stack[k]'(by omega) = y at *
  rw [e1]
  by_cases hy : last < y.lsn ∧ y.lsn ≤ x.undo ∧ 1 ≤ y.cost ∧ y.cost ≤ 400
  ·rw [decide_eq_true hy, Bool.true_and] at hok
   repeat' (first | (refine ZE ?_; refine Zn (Zd rfl) rfl rfl ?_) | (refine Zj ?_; first | (refine Zf ?_; refine qQ ?_) | refine Zm ?_) | refine Za ?_ | (refine Zi ?_; refine Zt ?_) | (refine Zh ?_; refine Zs ?_) | intro _)
   rw [← e1]
   refine Zr (k + 1, y.lsn) (⟨hlt, hok⟩) Zo Zo rfl tk inferInstance (by first | omega | (dsimp only; omega))
  ·rw [decide_eq_false hy, Bool.false_and] at hok
   subst hok
   repeat' (first | (refine ZE ?_; refine Zn (Zd rfl) rfl rfl ?_) | (refine Zj ?_; first | (refine Zf ?_; refine qQ ?_) | refine Zm ?_) | refine Za ?_ | (refine Zi ?_; refine Zt ?_) | (refine Zh ?_; refine Zs ?_) | (refine XM ?_; refine Ye rfl rfl (fun hb => ?_) (fun hb => ?_) <;> (try simp only [decide_eq_true_eq, decide_eq_false_iff_not, Bool.not_eq_true, Bool.not_eq_false, beq_iff_eq, bne_iff_ne, ne_eq, decide_eq_decide, Bool.not_eq_eq_eq_not, Bool.not_true, Bool.not_false, beq_eq_false_iff_ne, bne_eq_false_iff_eq, Bool.and_eq_true, Bool.or_eq_true, Bool.and_eq_false_imp, Bool.or_eq_false_iff, bq2, bqt, bqf] at hb)) | (refine YA ?_; refine Ym rfl (fun hb => ?_) (fun hb => ?_) <;> (try simp only [decide_eq_true_eq, decide_eq_false_iff_not, Bool.not_eq_true, Bool.not_eq_false, beq_iff_eq, bne_iff_ne, ne_eq, decide_eq_decide, Bool.not_eq_eq_eq_not, Bool.not_true, Bool.not_false, beq_eq_false_iff_ne, bne_eq_false_iff_eq, Bool.and_eq_true, Bool.or_eq_true, Bool.and_eq_false_imp, Bool.or_eq_false_iff, bq2, bqt, bqf] at hb)) | intro _)
   all_goals first | exact qE ⟨rfl, rfl, rfl⟩ | (exfalso; omega)
 ·have hk2 : k = x.stack.length := by omega
  rw [hk2, List.drop_length, stackB] at hok
  subst hok
  repeat' (first | (refine ZE ?_; refine Zn (Zd rfl) rfl rfl ?_) | (refine Zj ?_; first | (refine Zf ?_; refine qQ ?_) | refine Zm ?_) | refine Za ?_ | (refine Zi ?_; refine Zt ?_) | (refine Zh ?_; refine Zs ?_) | intro _)
  exact qE ⟨rfl, rfl, rfl⟩
theorem XN (ρ : Hp) (v : SV) (r : Ros) (h : RosIn ρ v r) : Spec Tryz.prog 55 [.agg ⟨Yx v r⟩] ρ [] (fun z ρ' L' => z = .int .i64 (if XY r then 0 else 280) ∧ ρ' = ρ ∧ L' = []) := by
 have hl := h.at'.at'.len
 have hn := h.at'.big
 have hA := h.at'.at'
 generalize hq : XY r = q
 unfold XY at hq
 rw [hl] at hq
 refine Zg Tryz.func55 rfl rfl rfl fun u R => ?_
 simp only [Zx, List.cons_append, List.nil_append]
 have hh : ∀ b : Bool, b = decide (1 ≤ r.next ∧ r.next ≤ 1073741824 ∧ v.n ≤ 8) → (b && txsB r.next 0 r.txns) = q := fun b e => by rw [e]; exact hq
 obtain ⟨b0, hb0⟩ : ∃ b0, decide (1 ≤ r.next ∧ r.next ≤ 1073741824 ∧ v.n ≤ 8) = b0 := ⟨_, rfl⟩
 have hq0 := hh b0 hb0.symm
 cases b0
 all_goals simp only [decide_eq_true_eq, decide_eq_false_iff_not] at hb0
 all_goals (repeat' (first | (refine ZE ?_; refine Zn (Zd rfl) rfl rfl ?_) | (refine Zj ?_; first | (refine Zf ?_; refine qQ ?_) | refine Zm ?_) | refine Za ?_ | (refine Zi ?_; refine Zt ?_) | (refine Zh ?_; refine Zs ?_) | (refine XM ?_; refine Ye rfl rfl (fun hb => ?_) (fun hb => ?_) <;> (try simp only [decide_eq_true_eq, decide_eq_false_iff_not, Bool.not_eq_true, Bool.not_eq_false, beq_iff_eq, bne_iff_ne, ne_eq, decide_eq_decide, Bool.not_eq_eq_eq_not, Bool.not_true, Bool.not_false, beq_eq_false_iff_ne, bne_eq_false_iff_eq, Bool.and_eq_true, Bool.or_eq_true, Bool.and_eq_false_imp, Bool.or_eq_false_iff, bq2, bqt, bqf] at hb)) | (refine YA ?_; refine Ym rfl (fun hb => ?_) (fun hb => ?_) <;> (try simp only [decide_eq_true_eq, decide_eq_false_iff_not, Bool.not_eq_true, Bool.not_eq_false, beq_iff_eq, bne_iff_ne, ne_eq, decide_eq_decide, Bool.not_eq_eq_eq_not, Bool.not_true, Bool.not_false, beq_eq_false_iff_ne, bne_eq_false_iff_eq, Bool.and_eq_true, Bool.or_eq_true, Bool.and_eq_false_imp, Bool.or_eq_false_iff, bq2, bqt, bqf] at hb)) | intro _))
 all_goals (
  refine ZG [(1, _), (2, _), (22, _), (23, _)] (fun (ζ : (Nat) × (Int) × (Bool)) => [(24, .int .i64 ζ.1), (4, .int .i64 ζ.2.1), (3, .bool ζ.2.2)]) (fun (ζ : (Nat) × (Int) × (Bool)) => ρ) (fun (ζ : (Nat) × (Int) × (Bool)) => [[(_, .cells ⟨Yx v r⟩ 26 (0, 0))]]) (fun (ζ : (Nat) × (Int) × (Bool)) => ζ.1 ≤ v.n ∧ (ζ.2.2 && txsB r.next ζ.2.1 (r.txns.drop ζ.1)) = q) (fun (ζ : (Nat) × (Int) × (Bool)) => v.n - ζ.1) ((0, 0, _)) (⟨Nat.zero_le _, hq0⟩) Zo Zo rfl tk ?_
  rintro ⟨k, last, b⟩ hI
  try simp only [List.cons_append, List.nil_append, List.append_assoc, List.append_eq] at hI ⊢
  try dsimp only at hI ⊢
  obtain ⟨hk, hok⟩ := hI
  by_cases hlt : k < v.n
  ·obtain ⟨bb, off, C, T, fr, e1, hb, hfit, hc⟩ := hA.get (show k < r.txns.length by omega)
   have hmem := List.getElem_mem (show k < r.txns.length by omega)
   rw [List.drop_eq_getElem_cons (show k < r.txns.length by omega), txsB, txOk] at hok
   generalize r.txns[k]'(by omega) = x at *
   have hs := stack_spec ρ x (h.tx x hmem)
   have hm := marks_spec ρ x (h.tx x hmem)
   generalize stackB x.undo x.first x.stack = q1 at *
   generalize marksB x = q2 at *
   have hfin : ∀ b' : Bool, b' = (b && (txHead r.next last x && (q1 && q2))) → (b' && txsB r.next x.num (r.txns.drop (k + 1))) = q := fun b' e => by rw [e, Bool.and_assoc]; exact hok
   unfold txHead at hfin
   rw [e1]
   cases b
   ·repeat' (first | (refine ZE ?_; refine Zn (Zd rfl) rfl rfl ?_) | (refine Zj ?_; first | (refine Zf ?_; refine qQ ?_) | refine Zm ?_) | refine Za ?_ | (refine Zi ?_; refine Zt ?_) | (refine Zh ?_; refine Zs ?_) | intro _)
    rw [← e1]
    refine Zr (k + 1, x.num, false) (⟨hlt, hfin false rfl⟩) Zo Zo rfl tk inferInstance (by first | omega | (dsimp only; omega))
   ·repeat' (first | (refine Ze (.func 104) ?_; refine qC rfl rfl (hs) ?_; rintro v ρ' L' hle ⟨rfl, rfl, rfl⟩ <;> (try simp only [kM, kN, kO])) | (refine Ze (.func 105) ?_; refine qC rfl rfl (hm) ?_; rintro v ρ' L' hle ⟨rfl, rfl, rfl⟩ <;> (try simp only [kM, kN, kO])) | (refine ZE ?_; refine Zn (Zd rfl) rfl rfl ?_) | (refine Zj ?_; first | (refine Zf ?_; refine qQ ?_) | refine Zm ?_) | refine Za ?_ | (refine Zi ?_; refine Zt ?_) | (refine Zh ?_; refine Zs ?_) | (refine XM ?_; refine Ye rfl rfl (fun hb => ?_) (fun hb => ?_) <;> (try simp only [decide_eq_true_eq, decide_eq_false_iff_not, Bool.not_eq_true, Bool.not_eq_false, beq_iff_eq, bne_iff_ne, ne_eq, decide_eq_decide, Bool.not_eq_eq_eq_not, Bool.not_true, Bool.not_false, beq_eq_false_iff_ne, bne_eq_false_iff_eq, Bool.and_eq_true, Bool.or_eq_true, Bool.and_eq_false_imp, Bool.or_eq_false_iff, bq2, bqt, bqf] at hb)) | (refine YA ?_; refine Ym rfl (fun hb => ?_) (fun hb => ?_) <;> (try simp only [decide_eq_true_eq, decide_eq_false_iff_not, Bool.not_eq_true, Bool.not_eq_false, beq_iff_eq, bne_iff_ne, ne_eq, decide_eq_decide, Bool.not_eq_eq_eq_not, Bool.not_true, Bool.not_false, beq_eq_false_iff_ne, bne_eq_false_iff_eq, Bool.and_eq_true, Bool.or_eq_true, Bool.and_eq_false_imp, Bool.or_eq_false_iff, bq2, bqt, bqf] at hb)) | intro _)
    all_goals (try rw [← e1])
    all_goals refine Zr (k + 1, x.num, _) (?_) Zo Zo rfl tk inferInstance (by first | omega | (dsimp only; omega))
    all_goals exact ⟨hlt, hfin _ (by cases q1 <;> cases q2 <;> ((try simp only [Bool.true_and, Bool.and_true, Bool.and_false, Bool.false_and, Bool.or_true, Bool.true_or, Bool.or_false, Bool.false_or, Bool.not_true, Bool.not_false]) <;> first | rfl | contradiction | exact (decide_eq_true (by omega)).symm | exact (decide_eq_false (by omega)).symm | exact decide_eq_true (by omega) | exact decide_eq_false (by omega) | exact decide_eq_decide.2 (by omega) | (exfalso; omega) | (simp_all; done) | (simp_all; omega)))⟩
  ·have hk2 : k = r.txns.length := by omega
   rw [hk2, List.drop_length, txsB, Bool.and_true] at hok
   subst hok
   repeat' (first | (refine ZE ?_; refine Zn (Zd rfl) rfl rfl ?_) | (refine Zj ?_; first | (refine Zf ?_; refine qQ ?_) | refine Zm ?_) | refine Za ?_ | (refine Zi ?_; refine Zt ?_) | (refine Zh ?_; refine Zs ?_) | (refine XM ?_; refine Ye rfl rfl (fun hb => ?_) (fun hb => ?_) <;> (try simp only [decide_eq_true_eq, decide_eq_false_iff_not, Bool.not_eq_true, Bool.not_eq_false, beq_iff_eq, bne_iff_ne, ne_eq, decide_eq_decide, Bool.not_eq_eq_eq_not, Bool.not_true, Bool.not_false, beq_eq_false_iff_ne, bne_eq_false_iff_eq, Bool.and_eq_true, Bool.or_eq_true, Bool.and_eq_false_imp, Bool.or_eq_false_iff, bq2, bqt, bqf] at hb)) | (refine YA ?_; refine Ym rfl (fun hb => ?_) (fun hb => ?_) <;> (try simp only [decide_eq_true_eq, decide_eq_false_iff_not, Bool.not_eq_true, Bool.not_eq_false, beq_iff_eq, bne_iff_ne, ne_eq, decide_eq_decide, Bool.not_eq_eq_eq_not, Bool.not_true, Bool.not_false, beq_eq_false_iff_ne, bne_eq_false_iff_eq, Bool.and_eq_true, Bool.or_eq_true, Bool.and_eq_false_imp, Bool.or_eq_false_iff, bq2, bqt, bqf] at hb)) | intro _)
   all_goals (refine qF (L' := []) ?_; exact ⟨by simp [*], rfl, rfl⟩))
def tblB : Int → List CkP → Bool
 | _, [] => true
 | last, p :: r => decide (last < p.page ∧ p.page < 64 ∧ 1 ≤ p.since ∧ p.since ≤ 1099511627776) && tblB p.page r
def tblOk (d : List CkP) : Bool := tblB (-1) d
theorem RosIn.nil {ρ : Hp} : RosIn ρ YI ⟨0, []⟩ := ⟨AS.nil, by simp⟩
structure AtR (l : List CkP) (page : Int) (i : Nat) (there : Bool) : Prop where
 le : i ≤ l.length
 hit : there = true → ∃ h : i < l.length, l[i].page = page
 lo : tblOk l = true → ∀ j (h : j < l.length), j < i → l[j].page < page
 hi : tblOk l = true → there = false → ∀ j (h : j < l.length), i ≤ j → page < l[j].page
theorem OwnS.zero' (b sz : Nat) : OwnS (.slice (some ⟨b, 0, none⟩) 0 0) 0 [] [] sz := ⟨.inr ⟨b, 0, rfl, by simp, by simp, Nat.le_refl _⟩⟩
def addP (page : Int) (lsn : Nat) : List CkP → List CkP
 | [] => [⟨page, lsn⟩]
 | p :: r => if p.page < page then p :: addP page lsn r else if p.page = page then p :: r else ⟨page, lsn⟩ :: p :: r
theorem addP_in {page : Int} {lsn : Nat} : ∀ {l : List CkP} {i : Nat} (h : i < l.length), (∀ j (h : j < l.length), j < i → l[j].page < page) → l[i].page = page → addP page lsn l = l
 | p :: r, 0, h, _, he => by simp at he; simp [addP, he]
 | p :: r, i + 1, h, hlt, he => by
  have h0 := hlt 0 (by simp) (by omega)
  simp only [List.getElem_cons_zero] at h0
  rw [addP, if_pos h0, addP_in (i := i) (by simpa using h) (fun j hj hji => by have := hlt (j + 1) (by simpa using hj) (by omega); simpa using this) (by simpa using he)]
theorem addP_out {page : Int} {lsn : Nat} : ∀ {l : List CkP} {i : Nat} (h : i ≤ l.length), (∀ j (h : j < l.length), j < i → l[j].page < page) → (∀ j (h : j < l.length), i ≤ j → page < l[j].page) → addP page lsn l = l.take i ++ ⟨page, lsn⟩ :: l.drop i
 | [], 0, _, _, _ => rfl
 | p :: r, 0, _, _, hi => by
  have h0 := hi 0 (by simp) (by omega)
  simp only [List.getElem_cons_zero] at h0
  rw [addP, if_neg (by omega), if_neg (by omega)]; rfl
 | p :: r, i + 1, h, hlt, hi => by
  have h0 := hlt 0 (by simp) (by omega)
  simp only [List.getElem_cons_zero] at h0
  rw [addP, if_pos h0, addP_out (i := i) (by simpa using h) (fun j hj hji => by have := hlt (j + 1) (by simpa using hj) (by omega); simpa using this) (fun j hj hji => by have := hi (j + 1) (by simpa using hj) (by omega); simpa using this)]
  rfl
theorem AtR.add {l : List CkP} {page : Int} {lsn i : Nat} {there : Bool} (h : AtR l page i there) (ht : tblOk l = true) : addP page lsn l = if there then l else l.take i ++ ⟨page, lsn⟩ :: l.drop i := by
 cases there with
 | true =>
  obtain ⟨h1, h2⟩ := h.hit rfl
  rw [if_pos rfl]
  exact addP_in h1 (h.lo ht) h2
 | false =>
  rw [if_neg (by simp)]
  exact addP_out h.le (h.lo ht) (h.hi ht rfl)
abbrev recC (rb : Nat) (v : RV) (r : Rc) : List (Nat × Obj) := [(rb, .cells ⟨recV v r⟩ 34 (0, 0))]
end Go.Proofs.E
