/- Laws of analysis. Part 13 of 37. -/
import Derived.Test.YtkbiahafeoillaaGreatB12
namespace Go.Proofs.E
open Go
set_option linter.unusedVariables false
set_option linter.unusedSimpArgs false
set_option linter.unusedSectionVars false
set_option maxRecDepth 4000
set_option maxHeartbeats 1000000
attribute [local irreducible] Yl TL TC TE Spec YY R1 Hp.le EnvLe TS TR YS Zq
theorem images_spec (ρ : Hp) (s : SV) (l : List Im) (h : AS ρ 7 imV s l) (him : ∀ x ∈ l, Im.In ρ x) (before : Bool) :
  Spec Tryz.prog 135 [.slice s.a s.n s.c, .bool before] ρ [] (fun v ρ' L' => v = .bool (imsOk before l) ∧ ρ' = ρ ∧ L' = []) := by
 have hl := h.at'.len
 have hr := fun bx => risesIm_spec ρ s.a s.n s.c l h.at' h.big bx before him
 refine Zg Tryz.func135 rfl rfl rfl fun u R => ?_
 simp only [Zx, List.cons_append, List.nil_append]
 unfold imsOk
 by_cases h16 : s.n ≤ 16
 ·rw [decide_eq_true (show l.length ≤ 16 by omega), Bool.true_and]
  repeat' (first | (refine Ze (.func 169) ?_; refine qC rfl rfl (hr _) ?_; rintro v ρ' L' hle ⟨rfl, rfl, rfl⟩ <;> (try simp only [kM, kN, kO])) | (refine Zh ?_; first | (refine Zf ?_; refine qQ ?_) | refine Zm ?_) | refine Zb ?_ | (refine Zi ?_; refine Zr ?_) | (refine Zj ?_; refine Zs ?_) | intro _)
  exact qE (L' := []) ⟨rfl, rfl, rfl⟩
 ·rw [decide_eq_false (show ¬ l.length ≤ 16 by omega), Bool.false_and]
  repeat' (first | (refine Zh ?_; first | (refine Zf ?_; refine qQ ?_) | refine Zm ?_) | refine Zb ?_ | (refine Zi ?_; refine Zr ?_) | (refine Zj ?_; refine Zs ?_) | intro _)
  exact qE (L' := []) ⟨rfl, rfl, rfl⟩
theorem rowV_only (r : Row) : decide (r = ⟨r.t, r.id, 0, []⟩) = decide (r.val = 0 ∧ r.note = []) := by
 obtain ⟨t, i, v, n⟩ := r
 simp
theorem step_spec (ρ : Hp) (s : Stp) : Spec Tryz.prog 138 [.agg ⟨stpV s⟩] ρ [] (fun v ρ' L' => v = .bool (Xq s) ∧ ρ' = ρ ∧ L' = []) := by
 obtain ⟨kind, row, bb⟩ := s
 have hck := checkRow_spec ρ row
 have ho := rowV_only row
 unfold Xq onlyOk
 dsimp only
 generalize hP : decide (row.val = 0 ∧ row.note = []) = P at *
 generalize hQ : XN row = Q at *
 refine Zg Tryz.func138 rfl rfl rfl fun u R => ?_
 simp only [Zx, List.cons_append, List.nil_append]
 cases P <;> cases Q
 all_goals (repeat' (first | (refine Zz ?_; refine Zk (v := .agg ⟨rowV ⟨row.t, row.id, 0, []⟩⟩) (y_build rfl rfl) rfl rfl ?_) | (refine iCm ?_; refine Zk (y_eqc_l rfl rfl ho) rfl rfl ?_) | (refine Ze (.func 174) ?_; refine qC rfl rfl (hck) ?_; rintro v ρ' L' hle ⟨rfl, rfl, rfl⟩ <;> (try simp only [kM, kN, kO])) | (refine Zh ?_; first | (refine Zf ?_; refine qQ ?_) | refine Zm ?_) | refine Zb ?_ | (refine Zi ?_; refine Zr ?_) | (refine Zj ?_; refine Zs ?_) | (refine Xw ?_; refine ZR rfl rfl (fun hb => ?_) (fun hb => ?_) <;> (try simp only [decide_eq_true_eq, decide_eq_false_iff_not, Bool.not_eq_true, Bool.not_eq_false, beq_iff_eq, bne_iff_ne, ne_eq, decide_eq_decide, Bool.not_eq_eq_eq_not, Bool.not_true, Bool.not_false, beq_eq_false_iff_ne, bne_eq_false_iff_eq, Bool.and_eq_true, Bool.or_eq_true, Bool.and_eq_false_imp, Bool.or_eq_false_iff] at hb)) | (refine Ym ?_; refine Yb rfl (fun hb => ?_) (fun hb => ?_) <;> (try simp only [decide_eq_true_eq, decide_eq_false_iff_not, Bool.not_eq_true, Bool.not_eq_false, beq_iff_eq, bne_iff_ne, ne_eq, decide_eq_decide, Bool.not_eq_eq_eq_not, Bool.not_true, Bool.not_false, beq_eq_false_iff_ne, bne_eq_false_iff_eq, Bool.and_eq_true, Bool.or_eq_true, Bool.and_eq_false_imp, Bool.or_eq_false_iff] at hb)) | intro _))
 all_goals (refine qF (L' := []) ?_; exact ⟨YI (by clear ho hck; (repeat' split) <;> simp_all <;> omega), rfl, rfl⟩)
def YN {α : Type} (p : α → Bool) (l : List α) : Int := match l.findIdx? p with | some i => (i : Int) | none => -1
theorem XT {α : Type} {p : α → Bool} {l : List α} {k : Nat} (h : k < l.length) (hp : p l[k] = true) (hn : ∀ x ∈ l.take k, p x = false) : l.findIdx? p = some k := by
 rw [List.findIdx?_eq_some_iff_getElem]
 refine ⟨h, hp, fun j hj => ?_⟩
 have := hn l[j] (List.mem_take_iff_getElem.2 ⟨j, by omega, rfl⟩)
 simp [this]
theorem Wp {α : Type} {p : α → Bool} {l : List α} (hn : ∀ x ∈ l, p x = false) : l.findIdx? p = none := by
 rw [List.findIdx?_eq_none_iff]
 exact hn
theorem take_more {α : Type} {p : α → Prop} {l : List α} {k : Nat} (h : k < l.length) (hp : p l[k]) (hn : ∀ x ∈ l.take k, p x) : ∀ x ∈ l.take (k + 1), p x := fun x hx => by
 rw [List.take_succ_eq_append_getElem h] at hx
 rcases List.mem_append.1 hx with hx | hx
 ·exact hn x hx
 ·rw [List.mem_singleton.1 hx]; exact hp
theorem done1_spec (ρ : Hp) (s : Stp) : Spec Tryz.prog 137 [.agg ⟨stpV s⟩] ρ [] (fun v ρ' L' => v = .bool (!Xq s) ∧ ρ' = ρ ∧ L' = []) := by
 refine Zg Tryz.func137 rfl rfl rfl fun u R => ?_
 simp only [Zx, List.cons_append, List.nil_append]
 repeat' (first | (refine Ze (.func 138) ?_; refine qC rfl rfl (step_spec _ s) ?_; rintro v ρ' L' hle ⟨rfl, rfl, rfl⟩ <;> (try simp only [kM, kN, kO])) | (refine Zh ?_; first | (refine Zf ?_; refine qQ ?_) | refine Zm ?_) | refine Zb ?_ | (refine Zi ?_; refine Zr ?_) | (refine Zj ?_; refine Zs ?_) | intro _)
 exact qE ⟨rfl, rfl, rfl⟩
abbrev numC (nb : Nat) (n : Int) : SH := [[(nb, .cells ⟨[.int .i64 n]⟩ 3 (0, 0))]]
theorem idxStp_spec (ρ : Hp) (a : Option Addr) (n c : Nat) (l : List Stp) (h : AIn ρ 6 stpV a n l) (hn : n ≤ 1000000)  :
  Spec Tryz.prog 173 [.slice a n c, .func (.func 137) ⟨[]⟩ ⟨[]⟩] ρ [] (fun z ρ' L' => z = .int .i64 (YN (fun s : Stp => !Xq s) l) ∧ ρ' = ρ ∧ L' = []) := by
 have hl := h.len
 generalize hP : (fun s : Stp => !Xq s) = pp
 refine Zg Tryz.func173 rfl rfl rfl fun u R => ?_
 simp only [Zx, List.cons_append, List.nil_append]
 repeat' (first | (refine Zh ?_; first | (refine Zf ?_; refine qQ ?_) | refine Zm ?_) | refine Zb ?_ | (refine Zi ?_; refine Zr ?_) | (refine Zj ?_; refine Zs ?_) | intro _)
 refine ZC [(0, _), (1, _), (7, _)] (fun (ζ : (Nat)) => [(8, .int .i64 ζ), (4, .int .i64 0)]) (fun (ζ : (Nat)) => ρ) (fun (ζ : (Nat)) => []) (fun (ζ : (Nat)) => ζ ≤ n ∧ ∀ x ∈ l.take ζ, pp x = false) (fun (ζ : (Nat)) => n - ζ) (0) (⟨Nat.zero_le _, by simp⟩) Zl Zl rfl tk ?_
 rintro k hI
 try simp only [List.cons_append, List.nil_append, List.append_assoc, List.append_eq] at hI ⊢
 try dsimp only at hI ⊢
 obtain ⟨hk, hok⟩ := hI
 by_cases hlt : k < n
 ·obtain ⟨b, off, C, T, fr, rfl, hb, hfit, hc⟩ := h.get (show k < l.length by omega)
  have hf := fun (e : pp l[k] = true) => XT (p := pp) (show k < l.length by omega) e hok
  have ht := fun (e : pp l[k] = false) => take_more (p := fun x => pp x = false) (show k < l.length by omega) e hok
  have hp : pp l[k] = (fun s : Stp => !Xq s) l[k] := by rw [hP]
  cases hx : pp l[k]
  ·have hok2 := ht hx
   rw [hx] at hp
   generalize l[k] = x at *
   repeat' (first | (refine Ze (.tmp 11) ?_; refine qC rfl rfl (done1_spec _ _) ?_; rintro v ρ' L' hle ⟨rfl, rfl, rfl⟩ <;> (try simp only [kM, kN, kO, ← hp, Bool.not_true, Bool.not_false])) | (refine Zh ?_; first | (refine Zf ?_; refine qQ ?_) | refine Zm ?_) | refine Zb ?_ | (refine Zi ?_; refine Zr ?_) | (refine Zj ?_; refine Zs ?_) | intro _)
   refine Zp (k + 1) (⟨hlt, hok2⟩) Zl Zl rfl tk inferInstance (by first | omega | (dsimp only; omega))
  ·have e := hf hx
   rw [hx] at hp
   have e2 : YN pp l = (k : Int) := by unfold YN; rw [e]
   rw [e2]
   generalize l[k] = x at *
   repeat' (first | (refine Ze (.tmp 11) ?_; refine qC rfl rfl (done1_spec _ _) ?_; rintro v ρ' L' hle ⟨rfl, rfl, rfl⟩ <;> (try simp only [kM, kN, kO, ← hp, Bool.not_true, Bool.not_false])) | (refine Zh ?_; first | (refine Zf ?_; refine qQ ?_) | refine Zm ?_) | refine Zb ?_ | (refine Zi ?_; refine Zr ?_) | (refine Zj ?_; refine Zs ?_) | intro _)
   exact qE (L' := []) ⟨rfl, rfl, rfl⟩
 ·have hk2 : k = l.length := by omega
  rw [hk2, List.take_length] at hok
  have e2 : YN pp l = -1 := by unfold YN; rw [Wp hok]
  rw [e2]
  repeat' (first | (refine Zh ?_; first | (refine Zf ?_; refine qQ ?_) | refine Zm ?_) | refine Zb ?_ | (refine Zi ?_; refine Zr ?_) | (refine Zj ?_; refine Zs ?_) | intro _)
  exact qE (L' := []) ⟨rfl, rfl, rfl⟩
theorem contains_spec (ρ : Hp) (a : Option Addr) (n c : Nat) (l : List Stp) (h : AIn ρ 6 stpV a n l) (hn : n ≤ 1000000) :
  Spec Tryz.prog 136 [.slice a n c, .func (.func 137) ⟨[]⟩ ⟨[]⟩] ρ [] (fun z ρ' L' => z = .bool (!(l.all Xq)) ∧ ρ' = ρ ∧ L' = []) := by
 have hi := idxStp_spec ρ a n c l h hn
 have e : decide (0 ≤ YN (fun s => !Xq s) l) = !(l.all Xq) := by
  unfold YN
  cases hf : l.findIdx? (fun s => !Xq s) with
  | none =>
   rw [List.findIdx?_eq_none_iff] at hf
   have : l.all Xq = true := List.all_eq_true.2 (fun x hx => by have := hf x hx; simpa using this)
   rw [this]; rfl
  | some i =>
   obtain ⟨h1, h2, _⟩ := List.findIdx?_eq_some_iff_getElem.1 hf
   have : l.all Xq = false := by
    rw [List.all_eq_false]
    exact ⟨_, List.getElem_mem h1, by simpa using h2⟩
   rw [this]; simp
 rw [← e]
 generalize YN (fun s => !Xq s) l = q at *
 refine Zg Tryz.func136 rfl rfl rfl fun u R => ?_
 simp only [Zx, List.cons_append, List.nil_append]
 repeat' (first | (refine Ze (.func 173) ?_; refine qC rfl rfl (hi) ?_; rintro v ρ' L' hle ⟨rfl, rfl, rfl⟩ <;> (try simp only [kM, kN, kO])) | (refine Zh ?_; first | (refine Zf ?_; refine qQ ?_) | refine Zm ?_) | refine Zb ?_ | (refine Zi ?_; refine Zr ?_) | (refine Zj ?_; refine Zs ?_) | intro _)
 refine qF (L' := []) ?_
 exact ⟨YI (by simp), rfl, rfl⟩
abbrev Yz : SV := ⟨none, 0, 0⟩
theorem bare_spec (ρ : Hp) (v : RV) (r : Rc) (hi : v.i.n ≤ 1000000) (hs : v.s.n ≤ 1000000) (ht : v.t.n ≤ 1000000) (hd : v.d.n ≤ 1000000) : Spec Tryz.prog 92 [.agg ⟨YR v r⟩] ρ []
  (fun z ρ' L' => z = .bool (decide (r.next = 0 ∧ v.i.n = 0 ∧ v.s.n = 0 ∧ v.t.n = 0 ∧ v.d.n = 0 ∧ r.nextTxn = 0)) ∧ ρ' = ρ ∧ L' = []) := by
 refine Zg Tryz.func92 rfl rfl rfl fun u R => ?_
 simp only [Zx, List.cons_append, List.nil_append]
 repeat' (first | (refine Zh ?_; first | (refine Zf ?_; refine qQ ?_) | refine Zm ?_) | refine Zb ?_ | (refine Zi ?_; refine Zr ?_) | (refine Zj ?_; refine Zs ?_) | (refine Xw ?_; refine ZR rfl rfl (fun hb => ?_) (fun hb => ?_) <;> (try simp only [decide_eq_true_eq, decide_eq_false_iff_not, Bool.not_eq_true, Bool.not_eq_false, beq_iff_eq, bne_iff_ne, ne_eq, decide_eq_decide, Bool.not_eq_eq_eq_not, Bool.not_true, Bool.not_false, beq_eq_false_iff_ne, bne_eq_false_iff_eq, Bool.and_eq_true, Bool.or_eq_true, Bool.and_eq_false_imp, Bool.or_eq_false_iff] at hb)) | (refine Ym ?_; refine Yb rfl (fun hb => ?_) (fun hb => ?_) <;> (try simp only [decide_eq_true_eq, decide_eq_false_iff_not, Bool.not_eq_true, Bool.not_eq_false, beq_iff_eq, bne_iff_ne, ne_eq, decide_eq_decide, Bool.not_eq_eq_eq_not, Bool.not_true, Bool.not_false, beq_eq_false_iff_ne, bne_eq_false_iff_eq, Bool.and_eq_true, Bool.or_eq_true, Bool.and_eq_false_imp, Bool.or_eq_false_iff] at hb)) | intro _)
 all_goals (refine qF (L' := []) ?_; exact ⟨YI (by (try simp [*]); first | done | omega | (intros; omega) | (constructor <;> intros <;> (try simp_all) <;> omega)), rfl, rfl⟩)
theorem aplain_spec (ρ : Hp) (ab : Nat) (v : RV) (r : Rc) : Spec Tryz.prog 86 [.pointer (some ⟨ab, 0, none⟩)] ρ [XA ab v r] (fun z ρ' L' => z = .bool true ∧ ρ' = ρ ∧ L' = [XA ab v r]) := by
 refine Zg Tryz.func86 rfl rfl rfl fun u R => ?_
 simp only [Zx, List.cons_append, List.nil_append]
 repeat' (first | (refine Zh ?_; first | (refine Zf ?_; refine qQ ?_) | refine Zm ?_) | refine Zb ?_ | (refine Zi ?_; refine Zr ?_) | (refine Zj ?_; refine Zs ?_) | intro _)
 exact qE (L' := [XA ab v r]) ⟨rfl, rfl, rfl⟩
theorem achange_spec (ρ : Hp) (ab : Nat) (v : RV) (r : Rc) (h : RcIn ρ v r) : Spec Tryz.prog 87 [.pointer (some ⟨ab, 0, none⟩)] ρ [XA ab v r]
  (fun z ρ' L' => z = .bool (decide (0 < r.ims.length) && imsOk true r.ims) ∧ ρ' = ρ ∧ L' = [XA ab { v with i := Yz } r]) := by
 have hl := h.i.at'.len
 have him := images_spec ρ v.i r.ims h.i h.im true
 refine Zg Tryz.func87 rfl rfl rfl fun u R => ?_
 simp only [Zx, List.cons_append, List.nil_append]
 by_cases h0 : 0 < v.i.n
 ·rw [decide_eq_true (show 0 < r.ims.length by omega), Bool.true_and]
  repeat' (first | (refine Ze (.func 135) ?_; refine qC rfl rfl (him) ?_; rintro v ρ' L' hle ⟨rfl, rfl, rfl⟩ <;> (try simp only [kM, kN, kO])) | (refine Zh ?_; first | (refine Zf ?_; refine qQ ?_) | refine Zm ?_) | refine Zb ?_ | (refine Zi ?_; refine Zr ?_) | (refine Zj ?_; refine Zs ?_) | intro _)
  exact qE (L' := [XA ab { v with i := Yz } r]) ⟨rfl, rfl, rfl⟩
 ·rw [decide_eq_false (show ¬ 0 < r.ims.length by omega), Bool.false_and]
  repeat' (first | (refine Zh ?_; first | (refine Zf ?_; refine qQ ?_) | refine Zm ?_) | refine Zb ?_ | (refine Zi ?_; refine Zr ?_) | (refine Zj ?_; refine Zs ?_) | intro _)
  exact qE (L' := [XA ab { v with i := Yz } r]) ⟨rfl, rfl, rfl⟩
theorem anested_spec (ρ : Hp) (ab : Nat) (v : RV) (r : Rc) : Spec Tryz.prog 88 [.pointer (some ⟨ab, 0, none⟩)] ρ [XA ab v r]
  (fun z ρ' L' => z = .bool (decide (r.next < r.prev)) ∧ ρ' = ρ ∧ L' = [XA ab v { r with next := 0 }]) := by
 refine Zg Tryz.func88 rfl rfl rfl fun u R => ?_
 simp only [Zx, List.cons_append, List.nil_append]
 repeat' (first | (refine Zh ?_; first | (refine Zf ?_; refine qQ ?_) | refine Zm ?_) | refine Zb ?_ | (refine Zi ?_; refine Zr ?_) | (refine Zj ?_; refine Zs ?_) | intro _)
 refine qF (L' := [XA ab v { r with next := 0 }]) ?_
 exact ⟨YI (by simp), rfl, rfl⟩
theorem adone_spec (ρ : Hp) (ab : Nat) (v : RV) (r : Rc) (h : RcIn ρ v r) : Spec Tryz.prog 89 [.pointer (some ⟨ab, 0, none⟩)] ρ [XA ab v r]
  (fun z ρ' L' => z = .bool (decide (r.next < r.prev) && (decide (0 < r.steps.length ∧ r.steps.length ≤ 2) && r.steps.all Xq)) ∧ ρ' = ρ ∧ L' = [XA ab { v with s := Yz } { r with next := 0 }]) := by
 have hl := h.s.at'.len
 have hco := contains_spec ρ v.s.a v.s.n v.s.c r.steps h.s.at' h.s.big
 have hne := anested_spec ρ ab { v with s := Yz } r
 rw [hl]
 generalize r.steps.all Xq = q at *
 refine Zg Tryz.func89 rfl rfl rfl fun u R => ?_
 simp only [Zx, List.cons_append, List.nil_append]
 repeat' (first | (refine Ze (.func 88) ?_; refine qC rfl rfl (hne) ?_; rintro v ρ' L' hle ⟨rfl, rfl, rfl⟩ <;> (try simp only [kM, kN, kO])) | (refine Ze (.func 136) ?_; refine qC rfl rfl (hco) ?_; rintro v ρ' L' hle ⟨rfl, rfl, rfl⟩ <;> (try simp only [kM, kN, kO])) | (refine Zh ?_; first | (refine Zf ?_; refine qQ ?_) | refine Zm ?_) | refine Zb ?_ | (refine Zi ?_; refine Zr ?_) | (refine Zj ?_; refine Zs ?_) | (refine Xw ?_; refine ZR rfl rfl (fun hb => ?_) (fun hb => ?_) <;> (try simp only [decide_eq_true_eq, decide_eq_false_iff_not, Bool.not_eq_true, Bool.not_eq_false, beq_iff_eq, bne_iff_ne, ne_eq, decide_eq_decide, Bool.not_eq_eq_eq_not, Bool.not_true, Bool.not_false, beq_eq_false_iff_ne, bne_eq_false_iff_eq, Bool.and_eq_true, Bool.or_eq_true, Bool.and_eq_false_imp, Bool.or_eq_false_iff] at hb)) | (refine Ym ?_; refine Yb rfl (fun hb => ?_) (fun hb => ?_) <;> (try simp only [decide_eq_true_eq, decide_eq_false_iff_not, Bool.not_eq_true, Bool.not_eq_false, beq_iff_eq, bne_iff_ne, ne_eq, decide_eq_decide, Bool.not_eq_eq_eq_not, Bool.not_true, Bool.not_false, beq_eq_false_iff_ne, bne_eq_false_iff_eq, Bool.and_eq_true, Bool.or_eq_true, Bool.and_eq_false_imp, Bool.or_eq_false_iff] at hb)) | intro _)
 all_goals (refine qF (L' := [XA ab { v with s := Yz } { r with next := 0 }]) ?_; exact ⟨YI (by (try simp [*]); first | done | omega | (intros; omega) | (constructor <;> intros <;> (try simp_all) <;> omega)), rfl, rfl⟩)
theorem aundone_spec (ρ : Hp) (ab : Nat) (v : RV) (r : Rc) (h : RcIn ρ v r) : Spec Tryz.prog 90 [.pointer (some ⟨ab, 0, none⟩)] ρ [XA ab v r]
  (fun z ρ' L' => z = .bool (decide (r.next < r.lsn) && imsOk false r.ims) ∧ ρ' = ρ ∧ L' = [XA ab { v with i := Yz } { r with next := 0 }]) := by
 have him := images_spec ρ v.i r.ims h.i h.im false
 generalize imsOk false r.ims = q at *
 refine Zg Tryz.func90 rfl rfl rfl fun u R => ?_
 simp only [Zx, List.cons_append, List.nil_append]
 repeat' (first | (refine Zh ?_; first | (refine Zf ?_; refine qQ ?_) | refine Zm ?_) | refine Zb ?_ | (refine Zi ?_; refine Zr ?_) | (refine Zj ?_; refine Zs ?_) | intro _)
 refine ZB (Zq _ _ _) Zy ?_
 all_goals (refine ZI 0 ?_; refine ZK ?_; refine rNc 1 ?_; refine ZO 2 ?_; refine ZO 3 ?_; refine ZU 4 ?_; refine ZI 5 ?_; refine rNc 6 ?_; refine ZO 7 ?_; refine ZO 8 ?_; refine ZU 9 ?_; refine rAs 10 ?_; refine rAs 11 ?_; refine ZE ?_)
 all_goals (repeat' (first | (refine Ze (.func 135) ?_; refine qC rfl rfl (him) ?_; rintro v ρ' L' hle ⟨rfl, rfl, rfl⟩ <;> (try simp only [kM, kN, kO])) | (refine Zh ?_; first | (refine Zf ?_; refine qQ ?_) | refine Zm ?_) | refine Zb ?_ | (refine Zi ?_; refine Zr ?_) | (refine Zj ?_; refine Zs ?_) | (refine Xw ?_; refine ZR rfl rfl (fun hb => ?_) (fun hb => ?_) <;> (try simp only [decide_eq_true_eq, decide_eq_false_iff_not, Bool.not_eq_true, Bool.not_eq_false, beq_iff_eq, bne_iff_ne, ne_eq, decide_eq_decide, Bool.not_eq_eq_eq_not, Bool.not_true, Bool.not_false, beq_eq_false_iff_ne, bne_eq_false_iff_eq, Bool.and_eq_true, Bool.or_eq_true, Bool.and_eq_false_imp, Bool.or_eq_false_iff] at hb)) | (refine Ym ?_; refine Yb rfl (fun hb => ?_) (fun hb => ?_) <;> (try simp only [decide_eq_true_eq, decide_eq_false_iff_not, Bool.not_eq_true, Bool.not_eq_false, beq_iff_eq, bne_iff_ne, ne_eq, decide_eq_decide, Bool.not_eq_eq_eq_not, Bool.not_true, Bool.not_false, beq_eq_false_iff_ne, bne_eq_false_iff_eq, Bool.and_eq_true, Bool.or_eq_true, Bool.and_eq_false_imp, Bool.or_eq_false_iff] at hb)) | intro _))
 all_goals (refine qF (L' := [XA ab { v with i := Yz } { r with next := 0 }]) ?_; exact ⟨YI (by (try simp [*]); first | done | omega | (intros; omega) | (constructor <;> intros <;> (try simp_all) <;> omega)), rfl, rfl⟩)
theorem ackpt_spec (ρ : Hp) (ab : Nat) (v : RV) (r : Rc) (h : RcIn ρ v r) : Spec Tryz.prog 91 [.pointer (some ⟨ab, 0, none⟩)] ρ [XA ab v r]
  (fun z ρ' L' => z = .bool (decide (1 ≤ r.nextTxn ∧ r.nextTxn ≤ 1073741824 ∧ r.txns.length ≤ 8) && (upB (ckTOk r.lsn r.nextTxn) CkT.txn r.txns r.txns.length && upB (ckPOk r.lsn) Yp.page r.dirty r.dirty.length)) ∧ ρ' = ρ ∧
   L' = [XA ab { v with t := Yz, d := Yz } { r with nextTxn := 0 }]) := by
 have hl := h.t.at'.len
 have ht := fun nb pb => risesCkT_spec ρ v.t.a v.t.n v.t.c r.txns h.t.at' h.t.big nb pb ab r.nextTxn { v with t := Yz, d := Yz } { r with nextTxn := 0 }
 have hd := fun pb => risesCkP_spec ρ v.d.a v.d.n v.d.c r.dirty h.d.at' h.d.big pb ab { v with t := Yz, d := Yz } { r with nextTxn := 0 }
 dsimp only at ht hd
 generalize upB (ckTOk r.lsn r.nextTxn) CkT.txn r.txns r.txns.length = q1 at *
 generalize upB (ckPOk r.lsn) Yp.page r.dirty r.dirty.length = q2 at *
 rw [hl]
 refine Zg Tryz.func91 rfl rfl rfl fun u R => ?_
 simp only [Zx, List.cons_append, List.nil_append]
 repeat' (first | (refine Zh ?_; first | (refine Zf ?_; refine qQ ?_) | refine Zm ?_) | refine Zb ?_ | (refine Zi ?_; refine Zr ?_) | (refine Zj ?_; refine Zs ?_) | intro _)
 rename_i pb
 refine ZB (Zq _ _ ([ptrC pb ab, XA ab v r])) (ZG (hT := tk) (Hp.le_refl _)) ?_
 all_goals (refine ZU 0 ?_; refine rNc 1 ?_; refine ZO 2 ?_; refine ZO 3 ?_; refine ZU 4 ?_; refine ZU 5 ?_; refine rNc 6 ?_; refine ZO 7 ?_; refine ZO 8 ?_; refine ZU 9 ?_; refine ZU 10 ?_; refine rNc 11 ?_; refine ZO 12 ?_; refine ZO 13 ?_; refine ZU 14 ?_)
 all_goals (refine Zt (i := 15) ?_; ((try refine Zn ?_); (first | (refine Zm ?_; try intro _)) <;> ((try simp only [kM, kN, kO]); refine Zb ?_; refine Zo ?_)))
 all_goals (refine rAs 16 ?_; refine rAs 17 ?_)
 all_goals (refine Zt (i := 18) ?_; ((try refine Zn ?_); (first | (refine Zm ?_; try intro _)) <;> ((try simp only [kM, kN, kO]); refine Zb ?_; refine Zo ?_)))
 all_goals refine ZE ?_
 all_goals (repeat' (first | (refine Zh ?_; first | (refine Zf ?_; refine qQ ?_) | refine Zm ?_) | refine Zb ?_ | (refine Zi ?_; refine Zr ?_) | (refine Zj ?_; refine Zs ?_) | intro _))
 refine ZB (Zq _ _ ([ptrC pb ab])) (ZG (hT := tk) (Hp.le_refl _)) ?_
 all_goals (refine ZU 0 ?_; refine ZU 1 ?_; refine ZU 2 ?_; refine rNc 3 ?_; refine ZO 4 ?_; refine ZO 5 ?_)
 all_goals (refine Zt (i := 6) ?_; ((try refine Zn ?_); (first | (refine Zm ?_; try intro _)) <;> ((try simp only [kM, kN, kO]); refine Zb ?_; refine Zo ?_)))
 all_goals (refine rNc 7 ?_; refine ZO 8 ?_; refine ZO 9 ?_)
 all_goals (refine Zt (i := 10) ?_; ((try refine Zn ?_); (first | (refine Zm ?_; try intro _)) <;> ((try simp only [kM, kN, kO]); refine Zb ?_; refine Zo ?_)))
 all_goals (refine rNc 11 ?_; refine ZO 12 ?_; refine ZO 13 ?_)
 all_goals (refine Zt (i := 14) ?_; ((try refine Zn ?_); (first | (refine Zm ?_; try intro _)) <;> ((try simp only [kM, kN, kO]); refine Zb ?_; refine Zo ?_)))
 all_goals refine ZE ?_
 all_goals (repeat' (first | (refine Ze (.func 139) ?_; refine qC rfl rfl (ht _ _) ?_; rintro v ρ' L' hle ⟨rfl, rfl, rfl⟩ <;> (try simp only [kM, kN, kO])) | (refine Ze (.func 142) ?_; refine qC rfl rfl (hd _) ?_; rintro v ρ' L' hle ⟨rfl, rfl, rfl⟩ <;> (try simp only [kM, kN, kO])) | (refine Zh ?_; first | (refine Zf ?_; refine qQ ?_) | refine Zm ?_) | refine Zb ?_ | (refine Zi ?_; refine Zr ?_) | (refine Zj ?_; refine Zs ?_) | (refine Xw ?_; refine ZR rfl rfl (fun hb => ?_) (fun hb => ?_) <;> (try simp only [decide_eq_true_eq, decide_eq_false_iff_not, Bool.not_eq_true, Bool.not_eq_false, beq_iff_eq, bne_iff_ne, ne_eq, decide_eq_decide, Bool.not_eq_eq_eq_not, Bool.not_true, Bool.not_false, beq_eq_false_iff_ne, bne_eq_false_iff_eq, Bool.and_eq_true, Bool.or_eq_true, Bool.and_eq_false_imp, Bool.or_eq_false_iff] at hb)) | (refine Ym ?_; refine Yb rfl (fun hb => ?_) (fun hb => ?_) <;> (try simp only [decide_eq_true_eq, decide_eq_false_iff_not, Bool.not_eq_true, Bool.not_eq_false, beq_iff_eq, bne_iff_ne, ne_eq, decide_eq_decide, Bool.not_eq_eq_eq_not, Bool.not_true, Bool.not_false, beq_eq_false_iff_ne, bne_eq_false_iff_eq, Bool.and_eq_true, Bool.or_eq_true, Bool.and_eq_false_imp, Bool.or_eq_false_iff] at hb)) | intro _))
 all_goals (refine qF (L' := [XA ab { v with t := Yz, d := Yz } { r with nextTxn := 0 }]) ?_; exact ⟨YI (by (try simp [*]); first | done | omega | (intros; omega) | (constructor <;> intros <;> (try simp_all) <;> omega)), rfl, rfl⟩)
structure BareR (v' : RV) (r' r : Rc) : Prop where
 i : v'.i.n ≤ 1000000
 s : v'.s.n ≤ 1000000
 t : v'.t.n ≤ 1000000
 d : v'.d.n ≤ 1000000
 eq : decide (r'.next = 0 ∧ v'.i.n = 0 ∧ v'.s.n = 0 ∧ v'.t.n = 0 ∧ v'.d.n = 0 ∧ r'.nextTxn = 0) = bareOk r
def askF (k : Int) : Nat := if k = 2 then 87 else if k = 3 then 88 else if k = 4 then 89 else if k = 5 then 90 else if k = 9 then 91 else 86
theorem ask_spec (ρ : Hp) (ab : Nat) (v : RV) (r : Rc) (h : RcIn ρ v r) (hk : 1 ≤ r.kind ∧ r.kind ≤ 9) : Yk Tryz.prog (askF r.kind) ∧ Spec Tryz.prog (askF r.kind) [.pointer (some ⟨ab, 0, none⟩)] ρ [XA ab v r]
  (fun z ρ' L' => z = .bool (askOk r) ∧ ρ' = ρ ∧ ∃ v' r', BareR v' r' r ∧ L' = [XA ab v' r']) := by
 have li := h.i.at'.len
 have ls := h.s.at'.len
 have lt := h.t.at'.len
 have ld := h.d.at'.len
 have bi := h.i.big
 have bs := h.s.big
 have bt := h.t.big
 have bd := h.d.big
 have z0 : Yz.n = 0 := rfl
 have ei : r.ims = [] ↔ v.i.n = 0 := by rw [← li]; exact List.length_eq_zero_iff.symm
 have es : r.steps = [] ↔ v.s.n = 0 := by rw [← ls]; exact List.length_eq_zero_iff.symm
 have et : r.txns = [] ↔ v.t.n = 0 := by rw [← lt]; exact List.length_eq_zero_iff.symm
 have ed : r.dirty = [] ↔ v.d.n = 0 := by rw [← ld]; exact List.length_eq_zero_iff.symm
 unfold askF askOk
 have hb : ∀ (v' : RV) (r' : Rc), (v'.i.n ≤ 1000000 ∧ v'.s.n ≤ 1000000 ∧ v'.t.n ≤ 1000000 ∧ v'.d.n ≤ 1000000) → ((r'.next = 0 ∧ v'.i.n = 0 ∧ v'.s.n = 0 ∧ v'.t.n = 0 ∧ v'.d.n = 0 ∧ r'.nextTxn = 0) ↔
   ((r.next = 0 ∨ r.kind = 3 ∨ r.kind = 4 ∨ r.kind = 5) ∧ (v.i.n = 0 ∨ r.kind = 2 ∨ r.kind = 5) ∧ (v.s.n = 0 ∨ r.kind = 4) ∧ ((v.t.n = 0 ∧ v.d.n = 0 ∧ r.nextTxn = 0) ∨ r.kind = 9))) → BareR v' r' r := fun v' r' h1 h2 =>
  ⟨h1.1, h1.2.1, h1.2.2.1, h1.2.2.2, by unfold bareOk; apply decide_eq_decide.2; rw [ei, es, et, ed]; exact h2⟩
 by_cases k2 : r.kind = 2
 ·rw [if_pos k2, if_pos k2]
  refine ⟨inferInstance, (achange_spec ρ ab v r h).mono ?_⟩
  rintro z ρ' L' _ ⟨rfl, rfl, rfl⟩
  exact ⟨rfl, rfl, _, _, hb { v with i := Yz } r (by dsimp only; omega) (by dsimp only; omega), rfl⟩
 ·rw [if_neg k2, if_neg k2]
  by_cases k3 : r.kind = 3
  ·rw [if_pos k3, if_pos k3]
   refine ⟨inferInstance, (anested_spec ρ ab v r).mono ?_⟩
   rintro z ρ' L' _ ⟨rfl, rfl, rfl⟩
   exact ⟨rfl, rfl, _, _, hb v { r with next := 0 } (by omega) (by dsimp only; omega), rfl⟩
  ·rw [if_neg k3, if_neg k3]
   by_cases k4 : r.kind = 4
   ·rw [if_pos k4, if_pos k4]
    refine ⟨inferInstance, (adone_spec ρ ab v r h).mono ?_⟩
    rintro z ρ' L' _ ⟨rfl, rfl, rfl⟩
    exact ⟨rfl, rfl, _, _, hb { v with s := Yz } { r with next := 0 } (by dsimp only; omega) (by dsimp only; omega), rfl⟩
   ·rw [if_neg k4, if_neg k4]
    by_cases k5 : r.kind = 5
    ·rw [if_pos k5, if_pos k5]
     refine ⟨inferInstance, (aundone_spec ρ ab v r h).mono ?_⟩
     rintro z ρ' L' _ ⟨rfl, rfl, rfl⟩
     exact ⟨rfl, rfl, _, _, hb { v with i := Yz } { r with next := 0 } (by dsimp only; omega) (by dsimp only; omega), rfl⟩
    ·rw [if_neg k5, if_neg k5]
     by_cases k9 : r.kind = 9
     ·rw [if_pos k9, if_pos k9]
      refine ⟨inferInstance, (ackpt_spec ρ ab v r h).mono ?_⟩
      rintro z ρ' L' _ ⟨rfl, rfl, rfl⟩
      exact ⟨rfl, rfl, _, _, hb { v with t := Yz, d := Yz } { r with nextTxn := 0 } (by dsimp only; omega) (by dsimp only; omega), rfl⟩
     ·rw [if_neg k9, if_neg k9]
      refine ⟨inferInstance, (aplain_spec ρ ab v r).mono ?_⟩
      rintro z ρ' L' _ ⟨rfl, rfl, rfl⟩
      exact ⟨rfl, rfl, _, _, hb v r (by omega) (by omega), rfl⟩
theorem askF_chain {f : Nat → Option Value} {k : Int} (hk : 1 ≤ k ∧ k ≤ 9) : (if k = 9 then f 91 else if k = 8 then f 86 else if k = 7 then f 86 else if k = 6 then f 86 else if k = 5 then f 90 else
  if k = 4 then f 89 else if k = 3 then f 88 else if k = 2 then f 87 else if k = 1 then f 86 else none) = f (askF k) := by
 unfold askF
 rcases (show k = 1 ∨ k = 2 ∨ k = 3 ∨ k = 4 ∨ k = 5 ∨ k = 6 ∨ k = 7 ∨ k = 8 ∨ k = 9 by omega) with e | e | e | e | e | e | e | e | e <;> subst e <;> rfl
theorem XC (ρ : Hp) (v : RV) (r : Rc) (h : RcIn ρ v r) : Spec Tryz.prog 52 [.agg ⟨YR v r⟩] ρ [] (fun z ρ' L' => z = .int .i64 (if ZZ r then 0 else 220) ∧ ρ' = ρ ∧ L' = []) := by
 have hnil : YU .i64 [] := by intro e he; simp at he
 have hg0 : ∀ k : Int, Xe [] k = none := fun _ => rfl
 refine Zg Tryz.func52 rfl rfl rfl fun u R => ?_
 simp only [Zx, List.cons_append, List.nil_append]
 repeat' (first | (refine Yx rfl rfl rfl hnil (fun es1 ck1 i1 j1 => ?_)) | (refine Yx rfl rfl rfl i1 (fun es2 ck2 i2 j2 => ?_)) | (refine Yx rfl rfl rfl i2 (fun es3 ck3 i3 j3 => ?_)) | (refine Yx rfl rfl rfl i3 (fun es4 ck4 i4 j4 => ?_)) | (refine Yx rfl rfl rfl i4 (fun es5 ck5 i5 j5 => ?_)) | (refine Yx rfl rfl rfl i5 (fun es6 ck6 i6 j6 => ?_)) | (refine Yx rfl rfl rfl i6 (fun es7 ck7 i7 j7 => ?_)) | (refine Yx rfl rfl rfl i7 (fun es8 ck8 i8 j8 => ?_)) | (refine Zz ?_; refine Zk (Zc rfl) rfl rfl ?_) | (refine Zh ?_; first | (refine Zf ?_; refine qQ ?_) | refine Zm ?_) | refine Zb ?_ | (refine Zi ?_; refine Zr ?_) | (refine Zj ?_; refine Zs ?_) | intro _)
 rename_i rb ab mb
 refine Yx rfl rfl rfl i8 (fun es9 ck9 i9 j9 => ?_)
 have hg := j9 r.kind
 rw [j8, j7, j6, j5, j4, j3, j2, j1, hg0] at hg
 clear j1 j2 j3 j4 j5 j6 j7 j8 j9 i1 i2 i3 i4 i5 i6 i7 i8
 by_cases hk : 1 ≤ r.kind ∧ r.kind ≤ 9
 ·obtain ⟨hF, hS⟩ := ask_spec ρ ab v r h hk
  have hgF : Xe es9 r.kind = some (Value.func (.func (askF r.kind)) ⟨[.pointer (some ⟨ab, 0, none⟩)]⟩ ⟨[]⟩) := by
   rw [hg]
   exact askF_chain (f := fun F => some (Value.func (.func F) ⟨[.pointer (some ⟨ab, 0, none⟩)]⟩ ⟨[]⟩)) hk
  clear hg
  generalize askF r.kind = F at *
  repeat' (first | (refine Ze (.tmp 90) ?_; refine qC rfl rfl (hS) ?_; rintro v ρ' L' hle ⟨rfl, rfl, v', r', hB, rfl⟩ <;> (try simp only [kM, kN, kO])) | (refine Ze (.func 92) ?_; refine qC rfl rfl (bare_spec _ v' r' hB.i hB.s hB.t hB.d) ?_; rintro v ρ' L' hle ⟨rfl, rfl, rfl⟩ <;> (try simp only [kM, kN, kO, hB.eq])) | (refine Zz ?_; refine Zk (Zc rfl) rfl rfl ?_) | (refine Zh ?_; first | (refine Zf ?_; refine qQ ?_) | refine Zm ?_) | refine Zb ?_ | (refine Zi ?_; refine Zr ?_) | (refine Zj ?_; refine Zs ?_) | (refine Xw ?_; refine ZR rfl rfl (fun hb => ?_) (fun hb => ?_) <;> (try simp only [decide_eq_true_eq, decide_eq_false_iff_not, Bool.not_eq_true, Bool.not_eq_false, beq_iff_eq, bne_iff_ne, ne_eq, decide_eq_decide, Bool.not_eq_eq_eq_not, Bool.not_true, Bool.not_false, beq_eq_false_iff_ne, bne_eq_false_iff_eq, Bool.and_eq_true, Bool.or_eq_true, Bool.and_eq_false_imp, Bool.or_eq_false_iff, bq2, bqt, bqf] at hb)) | (refine Ym ?_; refine Yb rfl (fun hb => ?_) (fun hb => ?_) <;> (try simp only [decide_eq_true_eq, decide_eq_false_iff_not, Bool.not_eq_true, Bool.not_eq_false, beq_iff_eq, bne_iff_ne, ne_eq, decide_eq_decide, Bool.not_eq_eq_eq_not, Bool.not_true, Bool.not_false, beq_eq_false_iff_ne, bne_eq_false_iff_eq, Bool.and_eq_true, Bool.or_eq_true, Bool.and_eq_false_imp, Bool.or_eq_false_iff, bq2, bqt, bqf] at hb)) | intro _)
  all_goals (refine qF (L' := []) ?_; refine ⟨?_, rfl, rfl⟩)
  all_goals first | (have hh : headOk r = false := decide_eq_false (by omega); simp only [ZZ, hh, Bool.false_and, Bool.and_false, Bool.false_eq_true, if_false]) | (have hh : headOk r = true := decide_eq_true (by omega); have h9 : decide (1 ≤ r.kind ∧ r.kind ≤ 9) = true := decide_eq_true hk; simp [ZZ, hh, h9, *])
 ·have hgN : Xe es9 r.kind = none := by
   rw [hg]
   simp only [show ¬ r.kind = 9 by omega, show ¬ r.kind = 8 by omega, show ¬ r.kind = 7 by omega, show ¬ r.kind = 6 by omega, show ¬ r.kind = 5 by omega, show ¬ r.kind = 4 by omega, show ¬ r.kind = 3 by omega, show ¬ r.kind = 2 by omega, show ¬ r.kind = 1 by omega, if_false]
  clear hg
  have e0 : ZZ r = false := by simp [ZZ, hk]
  rw [e0]
  repeat' (first | (refine Zz ?_; refine Zk (Zc rfl) rfl rfl ?_) | (refine Zh ?_; first | (refine Zf ?_; refine qQ ?_) | refine Zm ?_) | refine Zb ?_ | (refine Zi ?_; refine Zr ?_) | (refine Zj ?_; refine Zs ?_) | (refine Xw ?_; refine ZR rfl rfl (fun hb => ?_) (fun hb => ?_) <;> (try simp only [decide_eq_true_eq, decide_eq_false_iff_not, Bool.not_eq_true, Bool.not_eq_false, beq_iff_eq, bne_iff_ne, ne_eq, decide_eq_decide, Bool.not_eq_eq_eq_not, Bool.not_true, Bool.not_false, beq_eq_false_iff_ne, bne_eq_false_iff_eq, Bool.and_eq_true, Bool.or_eq_true, Bool.and_eq_false_imp, Bool.or_eq_false_iff, bq2, bqt, bqf] at hb)) | (refine Ym ?_; refine Yb rfl (fun hb => ?_) (fun hb => ?_) <;> (try simp only [decide_eq_true_eq, decide_eq_false_iff_not, Bool.not_eq_true, Bool.not_eq_false, beq_iff_eq, bne_iff_ne, ne_eq, decide_eq_decide, Bool.not_eq_eq_eq_not, Bool.not_true, Bool.not_false, beq_eq_false_iff_ne, bne_eq_false_iff_eq, Bool.and_eq_true, Bool.or_eq_true, Bool.and_eq_false_imp, Bool.or_eq_false_iff, bq2, bqt, bqf] at hb)) | intro _)
  all_goals (refine qF (L' := []) ?_; exact ⟨rfl, rfl, rfl⟩)
structure Lf where
 lsn : Nat
 cost : Int
deriving DecidableEq
abbrev lfV (x : Lf) : List Value := [.int .u64 x.lsn, .int .i64 x.cost]
theorem lfV_len (x : Lf) : (lfV x).length = 2 := rfl
abbrev Yw (n : Nat) : Value := .int .u64 n
structure Tx where
 num : Int
 state : Int
 first : Nat
 last : Nat
 undo : Nat
 stack : List Lf
 marks : List Nat
 sv : SV
 mv : SV
abbrev txV (x : Tx) : List Value := [.int .i64 x.num, .int .i64 x.state, .int .u64 x.first, .int .u64 x.last, .int .u64 x.undo, .slice x.sv.a x.sv.n x.sv.c, .slice x.mv.a x.mv.n x.mv.c]
theorem txV_len (x : Tx) : (txV x).length = 7 := rfl
theorem txV_one (x : Tx) : (txV x).all (·.oneCell') = true := rfl
structure Tx.In (ρ : Hp) (x : Tx) : Prop where
 s : AIn ρ 2 lfV x.sv.a x.sv.n x.stack
 m : SIn ρ Yw x.mv.a x.mv.n x.marks
 sb : x.sv.n ≤ 200000000000000
 mb : x.mv.n ≤ 200000000000000
 sc : x.sv.n ≤ x.sv.c
 mc : x.mv.n ≤ x.mv.c
theorem Tx.In.mono {ρ ρ' x} (h : Tx.In ρ x) (hle : ρ.le ρ') : Tx.In ρ' x := ⟨h.s.mono hle, h.m.mono hle, h.sb, h.mb, h.sc, h.mc⟩
structure Ros where
 next : Int
 txns : List Tx
abbrev XI (v : SV) (r : Ros) : List Value := [.int .i64 r.next, .slice v.a v.n v.c]
structure RosIn (ρ : Hp) (v : SV) (r : Ros) : Prop where
 at' : AS ρ 7 txV v r.txns
 tx : ∀ x ∈ r.txns, Tx.In ρ x
theorem RosIn.mono {ρ ρ' v r} (h : RosIn ρ v r) (hle : ρ.le ρ') : RosIn ρ' v r := ⟨h.at'.mono hle, fun x hx => (h.tx x hx).mono hle⟩
def Wb (undo : Nat) : Nat → List Lf → Bool
 | _, [] => true
 | last, s :: r => decide (last < s.lsn ∧ s.lsn ≤ undo ∧ 1 ≤ s.cost ∧ s.cost ≤ 400) && Wb undo s.lsn r
def sortB (m : List Nat) : Bool := (List.range m.length).all (fun i => decide (i = 0 ∨ m.getD (i - 1) 0 ≤ m.getD i 0))
def Wq (x : Tx) : Bool := decide (x.marks.length = 0) || (decide (x.state = 1 ∧ x.marks.length ≤ 8) && (sortB x.marks && decide (x.first ≤ x.marks.getD 0 0 ∧ x.marks.getD (x.marks.length - 1) 0 ≤ x.undo)))
def txHead (next last : Int) (x : Tx) : Bool := decide (last < x.num ∧ x.num < next ∧ 1 ≤ x.state ∧ x.state ≤ 3 ∧ 1 ≤ x.first ∧ x.first ≤ x.undo ∧ x.undo ≤ x.last ∧ x.last ≤ 1099511627776)
def txOk (next last : Int) (x : Tx) : Bool := txHead next last x && (Wb x.undo x.first x.stack && Wq x)
def txsB (next : Int) : Int → List Tx → Bool
 | _, [] => true
 | last, x :: r => txOk next last x && txsB next x.num r
def XD (r : Ros) : Bool := decide (1 ≤ r.next ∧ r.next ≤ 1073741824 ∧ r.txns.length ≤ 8) && txsB r.next 0 r.txns
theorem Xz {α : Type} {l : List α} {i : Nat} {d : α} (h : i < l.length) : l.getD i d = l[i] := by simp [List.getD, h]
theorem nanU64_spec (ρ : Hp) (x : Int) : Spec Tryz.prog 134 [.int .u64 x] ρ [] (fun v ρ' L' => v = .bool false ∧ ρ' = ρ ∧ L' = []) := by
 refine Zg Tryz.func134 rfl rfl rfl fun u R => ?_
 simp only [Zx, List.cons_append, List.nil_append]
 repeat' (first | (refine Zz ?_; refine Zk (Zc rfl) rfl rfl ?_) | (refine Zh ?_; first | (refine Zf ?_; refine qQ ?_) | refine Zm ?_) | refine Zb ?_ | (refine Zi ?_; refine Zr ?_) | (refine Zj ?_; refine Zs ?_) | intro _)
 exact qE ⟨rfl, rfl, rfl⟩
theorem lessU64_spec (ρ : Hp) (x y : Int) : Spec Tryz.prog 182 [.int .u64 x, .int .u64 y] ρ [] (fun v ρ' L' => v = .bool (decide (x < y)) ∧ ρ' = ρ ∧ L' = []) := by
 refine Zg Tryz.func182 rfl rfl rfl fun u R => ?_
 simp only [Zx, List.cons_append, List.nil_append]
 repeat' (first | (refine Ze (.func 134) ?_; refine qC rfl rfl (nanU64_spec _ _) ?_; rintro v ρ' L' hle ⟨rfl, rfl, rfl⟩ <;> (try simp only [kM, kN, kO])) | (refine Zz ?_; refine Zk (Zc rfl) rfl rfl ?_) | (refine Zh ?_; first | (refine Zf ?_; refine qQ ?_) | refine Zm ?_) | refine Zb ?_ | (refine Zi ?_; refine Zr ?_) | (refine Zj ?_; refine Zs ?_) | intro _)
 exact qE ⟨rfl, rfl, rfl⟩
theorem sorted_spec (ρ : Hp) (a : Option Addr) (n c : Nat) (m : List Nat) (h : SIn ρ Yw a n m) (hn : n ≤ 8) :
  Spec Tryz.prog 154 [.slice a n c] ρ [] (fun v ρ' L' => v = .bool (sortB m) ∧ ρ' = ρ ∧ L' = []) := by
 have hl := h.len
 refine Zg Tryz.func154 rfl rfl rfl fun u R => ?_
 simp only [Zx, List.cons_append, List.nil_append]
 repeat' (first | (refine Zz ?_; refine Zk (Zc rfl) rfl rfl ?_) | (refine Zh ?_; first | (refine Zf ?_; refine qQ ?_) | refine Zm ?_) | refine Zb ?_ | (refine Zi ?_; refine Zr ?_) | (refine Zj ?_; refine Zs ?_) | intro _)
 refine ZC [(0, _)] (fun (ζ : (Nat) × (Int)) => [(3, .int .i64 ζ.2), (2, .bool false)]) (fun (ζ : (Nat) × (Int)) => ρ) (fun (ζ : (Nat) × (Int)) => []) (fun (ζ : (Nat) × (Int)) => ζ.2 = (n : Int) - 1 - ζ.1 ∧ (∀ j, n - ζ.1 ≤ j → j < n → j = 0 ∨ m.getD (j - 1) 0 ≤ m.getD j 0) ∧ ζ.1 ≤ n) (fun (ζ : (Nat) × (Int)) => n + 1 - ζ.1) ((0, (n : Int) - 1)) (⟨by omega, fun j h1 h2 => by omega, Nat.zero_le _⟩) Zl Zl rfl tk ?_
 rintro ⟨k, i⟩ hI
 try simp only [List.cons_append, List.nil_append, List.append_assoc, List.append_eq] at hI ⊢
 try dsimp only at hI ⊢
 obtain ⟨rfl, hok, hk⟩ := hI
 by_cases hlt : k + 1 < n
 ·obtain ⟨b, off, C, T, fr, rfl, hb, hc⟩ := h.get (show n - 1 - k < m.length by omega)
  obtain ⟨b2, off2, C2, T2, fr2, f1, hb2, hc2⟩ := h.get (show n - 1 - k - 1 < m.length by omega)
  cases f1
  rw [hb] at hb2
  cases hb2
  have e1 : ((n : Int) - 1 - k).toNat = n - 1 - k := by omega
  have e2 : ((n : Int) - 1 - k - 1).toNat = n - 1 - k - 1 := by omega
  have g1 : m.getD (n - 1 - k) 0 = m[n - 1 - k]'(by omega) := Xz (by omega)
  have g2 : m.getD (n - 1 - k - 1) 0 = m[n - 1 - k - 1]'(by omega) := Xz (by omega)
  have hkey : sortB m = true → m.getD (n - 1 - k - 1) 0 ≤ m.getD (n - 1 - k) 0 := fun e => by
   have := List.all_eq_true.1 e (n - 1 - k) (List.mem_range.2 (by omega))
   have := of_decide_eq_true this
   omega
  generalize m[n - 1 - k]'(by omega) = y at *
  generalize m[n - 1 - k - 1]'(by omega) = x at *
  rw [← e1] at hc
  rw [← e2] at hc2
  by_cases hyx : (y : Int) < (x : Int)
  ·have hs : sortB m = false := by
    cases e : sortB m with
    | false => rfl
    | true => have := hkey e; omega
   have hd : decide ((y : Int) < (x : Int)) = true := decide_eq_true hyx
   rw [hs]
   repeat' (first | (refine Zz ?_; refine Zk (Zc rfl) rfl rfl ?_) | (refine Zh ?_; first | (refine Zf ?_; refine qQ ?_) | refine Zm ?_) | refine Zb ?_ | (refine Zi ?_; refine Zr ?_) | (refine Zj ?_; refine Zs ?_) | intro _)
   refine ZB (Zq _ _ ([])) (ZG (hT := tk) (Hp.le_refl _)) ?_
   all_goals (refine ZI 0 ?_; refine ZI 1 ?_; refine rIa 2 ?_; refine ZU 3 ?_; refine ZI 4 ?_; refine ZI 5 ?_; refine rSb 6 ?_; refine rIa 7 ?_; refine ZU 8 ?_)
   all_goals (refine Zt (i := 9) ?_; ((try refine Zn ?_); (first | (refine Ze (.func 182) ?_; refine qC rfl rfl (lessU64_spec _ _ _) ?_; rintro v ρ' L' hle ⟨rfl, rfl, rfl⟩ <;> (try simp only [kM, kN, kO, hd])) | (refine Zm ?_; try intro _)) <;> ((try simp only [kM, kN, kO]); refine Zb ?_; refine Zo ?_)))
   all_goals refine ZE ?_
   repeat' (first | (refine Zz ?_; refine Zk (Zc rfl) rfl rfl ?_) | (refine Zh ?_; first | (refine Zf ?_; refine qQ ?_) | refine Zm ?_) | refine Zb ?_ | (refine Zi ?_; refine Zr ?_) | (refine Zj ?_; refine Zs ?_) | intro _)
   exact qE ⟨rfl, rfl, rfl⟩
  ·have hd : decide ((y : Int) < (x : Int)) = false := decide_eq_false hyx
   have hok2 : ∀ j, n - (k + 1) ≤ j → j < n → j = 0 ∨ m.getD (j - 1) 0 ≤ m.getD j 0 := fun j h1 h2 => by
    by_cases e : j = n - 1 - k
    ·right; rw [e]; omega
    ·exact hok j (by omega) h2
   repeat' (first | (refine Zz ?_; refine Zk (Zc rfl) rfl rfl ?_) | (refine Zh ?_; first | (refine Zf ?_; refine qQ ?_) | refine Zm ?_) | refine Zb ?_ | (refine Zi ?_; refine Zr ?_) | (refine Zj ?_; refine Zs ?_) | intro _)
   refine ZB (Zq _ _ ([])) (ZG (hT := tk) (Hp.le_refl _)) ?_
   all_goals (refine ZI 0 ?_; refine ZI 1 ?_; refine rIa 2 ?_; refine ZU 3 ?_; refine ZI 4 ?_; refine ZI 5 ?_; refine rSb 6 ?_; refine rIa 7 ?_; refine ZU 8 ?_)
   all_goals (refine Zt (i := 9) ?_; ((try refine Zn ?_); (first | (refine Ze (.func 182) ?_; refine qC rfl rfl (lessU64_spec _ _ _) ?_; rintro v ρ' L' hle ⟨rfl, rfl, rfl⟩ <;> (try simp only [kM, kN, kO, hd])) | (refine Zm ?_; try intro _)) <;> ((try simp only [kM, kN, kO]); refine Zb ?_; refine Zo ?_)))
   all_goals refine ZE ?_
   repeat' (first | (refine Zz ?_; refine Zk (Zc rfl) rfl rfl ?_) | (refine Zh ?_; first | (refine Zf ?_; refine qQ ?_) | refine Zm ?_) | refine Zb ?_ | (refine Zi ?_; refine Zr ?_) | (refine Zj ?_; refine Zs ?_) | intro _)
   refine Zp (k + 1, (n : Int) - 1 - k - 1) (⟨by omega, hok2, by omega⟩) Zl Zl rfl tk inferInstance (by first | omega | (dsimp only; omega))
 ·have hs : sortB m = true := List.all_eq_true.2 (fun i hi => by
   have := List.mem_range.1 hi
   apply decide_eq_true
   by_cases e : i = 0
   ·exact .inl e
   ·exact hok i (by omega) (by omega))
  rw [hs]
  repeat' (first | (refine Zz ?_; refine Zk (Zc rfl) rfl rfl ?_) | (refine Zh ?_; first | (refine Zf ?_; refine qQ ?_) | refine Zm ?_) | refine Zb ?_ | (refine Zi ?_; refine Zr ?_) | (refine Zj ?_; refine Zs ?_) | intro _)
  exact qE ⟨rfl, rfl, rfl⟩
theorem marks_spec (ρ : Hp) (x : Tx) (h : Tx.In ρ x) : Spec Tryz.prog 105 [.agg ⟨txV x⟩] ρ [] (fun v ρ' L' => v = .bool (Wq x) ∧ ρ' = ρ ∧ L' = []) := by
 have hl := h.m.len
 have hb := h.mb
 have hs := fun h8 => sorted_spec ρ x.mv.a x.mv.n x.mv.c x.marks h.m h8
 unfold Wq
 rw [hl]
 refine Zg Tryz.func105 rfl rfl rfl fun u R => ?_
 simp only [Zx, List.cons_append, List.nil_append]
 by_cases h0 : x.mv.n = 0
 ·rw [decide_eq_true h0, Bool.true_or]
  repeat' (first | (refine Zz ?_; refine Zk (Zc rfl) rfl rfl ?_) | (refine Zh ?_; first | (refine Zf ?_; refine qQ ?_) | refine Zm ?_) | refine Zb ?_ | (refine Zi ?_; refine Zr ?_) | (refine Zj ?_; refine Zs ?_) | intro _)
  exact qE ⟨rfl, rfl, rfl⟩
 ·rw [decide_eq_false h0, Bool.false_or]
  obtain ⟨b, off, C, T, fr, e1, hb1, hc1⟩ := h.m.get (show 0 < x.marks.length by omega)
  obtain ⟨b2, off2, C2, T2, fr2, f1, hb2, hc2⟩ := h.m.get (show x.mv.n - 1 < x.marks.length by omega)
  rw [e1] at f1 hs
  cases f1
  rw [hb1] at hb2
  cases hb2
  have g1 : x.marks.getD 0 0 = x.marks[0]'(by omega) := Xz (by omega)
  have g2 : x.marks.getD (x.mv.n - 1) 0 = x.marks[x.mv.n - 1]'(by omega) := Xz (by omega)
  rw [g1, g2]
  generalize x.marks[0]'(by omega) = y at *
  generalize x.marks[x.mv.n - 1]'(by omega) = z at *
  have e2 : ((x.mv.n : Int) - 1).toNat = x.mv.n - 1 := by omega
  rw [← e2] at hc2
  by_cases h8 : x.mv.n ≤ 8
  ·have hs8 := hs h8
   generalize sortB x.marks = q at *
   have e3 : Value.slice x.mv.a x.mv.n x.mv.c = Value.slice (some ⟨b, off, none⟩) x.mv.n x.mv.c := by rw [e1]
   rw [show txV x = [.int .i64 x.num, .int .i64 x.state, .int .u64 x.first, .int .u64 x.last, .int .u64 x.undo, .slice x.sv.a x.sv.n x.sv.c, .slice (some ⟨b, off, none⟩) x.mv.n x.mv.c] by rw [← e1]]
   repeat' (first | (refine Zz ?_; refine Zk (Zc rfl) rfl rfl ?_) | (refine Zh ?_; first | (refine Zf ?_; refine qQ ?_) | refine Zm ?_) | refine Zb ?_ | (refine Zi ?_; refine Zr ?_) | (refine Zj ?_; refine Zs ?_) | intro _)
   refine ZB (Zq _ _ _) Zy ?_
   all_goals (refine ZO 0 ?_; refine ZU 1 ?_; refine rCm 2 ?_; refine ZI 3 ?_)
   all_goals (first | refine Zd 4 ?_ | refine Za 4 ?_ | refine ZY 4 ?_ | (refine ZA (t := 12) rfl (fun hb => ?_) (fun hb => ?_) <;> (try simp only [kk] at hb) <;> first | refine Zd 4 ?_ | refine Za 4 ?_ | refine ZY 4 ?_))
   all_goals ((first | refine Zd 5 ?_ | refine Za 5 ?_ | refine wCm 5 ?_); refine rPk 6 ?_; refine ZI 7 ?_)
   all_goals (first | refine Zd 8 ?_ | refine Za 8 ?_ | refine Yc 8 ?_ | (refine ZA (t := 16) rfl (fun hb => ?_) (fun hb => ?_) <;> (try simp only [kk] at hb) <;> first | refine Zd 8 ?_ | refine Za 8 ?_ | refine Yc 8 ?_))
   all_goals (first | refine Zd 9 ?_ | refine Za 9 ?_ | refine Yf 9 ?_)
   all_goals (first | refine Zd 10 ?_ | refine Za 10 ?_ | (refine Zt (i := 10) ?_; ((try refine Zn ?_); (first | (refine Ze (.func 154) ?_; refine qC rfl rfl (hs8) ?_; rintro v ρ' L' hle ⟨rfl, rfl, rfl⟩ <;> (try simp only [kM, kN, kO])) | (refine Zm ?_; try intro _)) <;> ((try simp only [kM, kN, kO]); refine Zb ?_; refine Zo ?_))))
   all_goals (refine ZK ?_; refine rPk 11 ?_; refine ZI 12 ?_)
   all_goals (first | refine Zd 13 ?_ | refine Za 13 ?_ | refine Yc 13 ?_ | (refine ZA (t := 21) rfl (fun hb => ?_) (fun hb => ?_) <;> (try simp only [kk] at hb) <;> first | refine Zd 13 ?_ | refine Za 13 ?_ | refine Yc 13 ?_))
   all_goals ((first | refine Zd 14 ?_ | refine Za 14 ?_ | refine Yf 14 ?_); (first | refine Zd 15 ?_ | refine Za 15 ?_ | refine wIa 15 ?_); (first | refine Zd 16 ?_ | refine Za 16 ?_ | refine Yf 16 ?_); (first | refine Zd 17 ?_ | refine Za 17 ?_ | refine Yc 17 ?_); (first | refine Zd 18 ?_ | refine Za 18 ?_ | refine Yf 18 ?_); (first | refine Zd 19 ?_ | refine Za 19 ?_ | refine wCm 19 ?_); refine rPk 20 ?_; refine ZI 21 ?_)
   all_goals (first | refine Zd 22 ?_ | refine Za 22 ?_ | refine Yc 22 ?_ | (refine ZA (t := 30) rfl (fun hb => ?_) (fun hb => ?_) <;> (try simp only [kk] at hb) <;> first | refine Zd 22 ?_ | refine Za 22 ?_ | refine Yc 22 ?_))
   all_goals ((first | refine Zd 23 ?_ | refine Za 23 ?_ | refine Yf 23 ?_); (first | refine Zd 24 ?_ | refine Za 24 ?_ | refine ZY 24 ?_); (first | refine Zd 25 ?_ | refine Za 25 ?_ | refine wSb 25 ?_); (first | refine Zd 26 ?_ | refine Za 26 ?_ | refine wIa 26 ?_); (first | refine Zd 27 ?_ | refine Za 27 ?_ | refine Yf 27 ?_); (first | refine Zd 28 ?_ | refine Za 28 ?_ | refine Yc 28 ?_); (first | refine Zd 29 ?_ | refine Za 29 ?_ | refine Yf 29 ?_); (first | refine Zd 30 ?_ | refine Za 30 ?_ | refine wCm 30 ?_); refine rPk 31 ?_; refine rAs 32 ?_; refine ZE ?_)
   all_goals (repeat' (first | (refine Zz ?_; refine Zk (Zc rfl) rfl rfl ?_) | (refine Zh ?_; first | (refine Zf ?_; refine qQ ?_) | refine Zm ?_) | refine Zb ?_ | (refine Zi ?_; refine Zr ?_) | (refine Zj ?_; refine Zs ?_) | intro _))
   all_goals (refine qF (L' := []) ?_; exact ⟨YI (by (try simp [*]); first | done | omega | (intros; omega) | (constructor <;> intros <;> (try simp_all) <;> omega)), rfl, rfl⟩)
  ·repeat' (first | (refine Zz ?_; refine Zk (Zc rfl) rfl rfl ?_) | (refine Zh ?_; first | (refine Zf ?_; refine qQ ?_) | refine Zm ?_) | refine Zb ?_ | (refine Zi ?_; refine Zr ?_) | (refine Zj ?_; refine Zs ?_) | intro _)
   refine ZB (Zq _ _ _) Zy ?_
   all_goals (refine ZO 0 ?_; refine ZU 1 ?_; refine rCm 2 ?_; refine ZI 3 ?_)
   all_goals (first | refine Zd 4 ?_ | refine Za 4 ?_ | refine ZY 4 ?_ | (refine ZA (t := 12) rfl (fun hb => ?_) (fun hb => ?_) <;> (try simp only [kk] at hb) <;> first | refine Zd 4 ?_ | refine Za 4 ?_ | refine ZY 4 ?_))
   all_goals ((first | refine Zd 5 ?_ | refine Za 5 ?_ | refine wCm 5 ?_); refine rPk 6 ?_; refine ZI 7 ?_)
   all_goals (first | refine Zd 8 ?_ | refine Za 8 ?_ | refine Yc 8 ?_ | (refine ZA (t := 16) rfl (fun hb => ?_) (fun hb => ?_) <;> (try simp only [kk] at hb) <;> first | refine Zd 8 ?_ | refine Za 8 ?_ | refine Yc 8 ?_))
   all_goals (first | refine Zd 9 ?_ | refine Za 9 ?_ | refine Yf 9 ?_)
   all_goals (first | refine Zd 10 ?_ | refine Za 10 ?_ | (refine Zt (i := 10) ?_; ((try refine Zn ?_); (first | (refine Zm ?_; try intro _)) <;> ((try simp only [kM, kN, kO]); refine Zb ?_; refine Zo ?_))))
   all_goals (refine ZK ?_; refine rPk 11 ?_; refine ZI 12 ?_)
   all_goals (first | refine Zd 13 ?_ | refine Za 13 ?_ | refine Yc 13 ?_ | (refine ZA (t := 21) rfl (fun hb => ?_) (fun hb => ?_) <;> (try simp only [kk] at hb) <;> first | refine Zd 13 ?_ | refine Za 13 ?_ | refine Yc 13 ?_))
   all_goals ((first | refine Zd 14 ?_ | refine Za 14 ?_ | refine Yf 14 ?_); (first | refine Zd 15 ?_ | refine Za 15 ?_ | refine wIa 15 ?_); (first | refine Zd 16 ?_ | refine Za 16 ?_ | refine Yf 16 ?_); (first | refine Zd 17 ?_ | refine Za 17 ?_ | refine Yc 17 ?_); (first | refine Zd 18 ?_ | refine Za 18 ?_ | refine Yf 18 ?_); (first | refine Zd 19 ?_ | refine Za 19 ?_ | refine wCm 19 ?_); refine rPk 20 ?_; refine ZI 21 ?_)
   all_goals (first | refine Zd 22 ?_ | refine Za 22 ?_ | refine Yc 22 ?_ | (refine ZA (t := 30) rfl (fun hb => ?_) (fun hb => ?_) <;> (try simp only [kk] at hb) <;> first | refine Zd 22 ?_ | refine Za 22 ?_ | refine Yc 22 ?_))
   all_goals ((first | refine Zd 23 ?_ | refine Za 23 ?_ | refine Yf 23 ?_); (first | refine Zd 24 ?_ | refine Za 24 ?_ | refine ZY 24 ?_); (first | refine Zd 25 ?_ | refine Za 25 ?_ | refine wSb 25 ?_); (first | refine Zd 26 ?_ | refine Za 26 ?_ | refine wIa 26 ?_); (first | refine Zd 27 ?_ | refine Za 27 ?_ | refine Yf 27 ?_); (first | refine Zd 28 ?_ | refine Za 28 ?_ | refine Yc 28 ?_); (first | refine Zd 29 ?_ | refine Za 29 ?_ | refine Yf 29 ?_); (first | refine Zd 30 ?_ | refine Za 30 ?_ | refine wCm 30 ?_); refine rPk 31 ?_; refine rAs 32 ?_; refine ZE ?_)
   all_goals (repeat' (first | (refine Zz ?_; refine Zk (Zc rfl) rfl rfl ?_) | (refine Zh ?_; first | (refine Zf ?_; refine qQ ?_) | refine Zm ?_) | refine Zb ?_ | (refine Zi ?_; refine Zr ?_) | (refine Zj ?_; refine Zs ?_) | intro _))
   all_goals (refine qF (L' := []) ?_; exact ⟨YI (by (try simp [*]); first | done | omega | (intros; omega) | (constructor <;> intros <;> (try simp_all) <;> omega)), rfl, rfl⟩)
theorem stack_spec (ρ : Hp) (x : Tx) (h : Tx.In ρ x) : Spec Tryz.prog 104 [.agg ⟨txV x⟩] ρ [] (fun v ρ' L' => v = .bool (Wb x.undo x.first x.stack) ∧ ρ' = ρ ∧ L' = []) := by
 have hl := h.s.len
 have hn := h.sb
 have hA := h.s
 generalize hq : Wb x.undo x.first x.stack = q
 refine Zg Tryz.func104 rfl rfl rfl fun u R => ?_
 simp only [Zx, List.cons_append, List.nil_append]
 repeat' (first | (refine Zz ?_; refine Zk (Zc rfl) rfl rfl ?_) | (refine Zh ?_; first | (refine Zf ?_; refine qQ ?_) | refine Zm ?_) | refine Zb ?_ | (refine Zi ?_; refine Zr ?_) | (refine Zj ?_; refine Zs ?_) | intro _)
 rename_i bx
 refine ZC [(1, _), (9, _), (10, _)] (fun (ζ : (Nat) × (Nat)) => [(11, .int .i64 ζ.1), (2, .bool false), (3, .int .u64 ζ.2)]) (fun (ζ : (Nat) × (Nat)) => ρ) (fun (ζ : (Nat) × (Nat)) => [[(bx, .cells ⟨txV x⟩ 45 (0, 0))]]) (fun (ζ : (Nat) × (Nat)) => ζ.1 ≤ x.sv.n ∧ Wb x.undo ζ.2 (x.stack.drop ζ.1) = q) (fun (ζ : (Nat) × (Nat)) => x.sv.n - ζ.1) ((0, x.first)) (⟨Nat.zero_le _, hq⟩) Zl Zl rfl tk ?_
 rintro ⟨k, last⟩ hI
 try simp only [List.cons_append, List.nil_append, List.append_assoc, List.append_eq] at hI ⊢
 try dsimp only at hI ⊢
 obtain ⟨hk, hok⟩ := hI
 by_cases hlt : k < x.sv.n
 ·obtain ⟨b, off, C, T, fr, e1, hb, hfit, hc⟩ := hA.get (show k < x.stack.length by omega)
  rw [List.drop_eq_getElem_cons (show k < x.stack.length by omega), Wb] at hok
  generalize x.stack[k]'(by omega) = y at *
  rw [e1]
  by_cases hy : last < y.lsn ∧ y.lsn ≤ x.undo ∧ 1 ≤ y.cost ∧ y.cost ≤ 400
  ·rw [decide_eq_true hy, Bool.true_and] at hok
   repeat' (first | (refine Zz ?_; refine Zk (Zc rfl) rfl rfl ?_) | (refine Zh ?_; first | (refine Zf ?_; refine qQ ?_) | refine Zm ?_) | refine Zb ?_ | (refine Zi ?_; refine Zr ?_) | (refine Zj ?_; refine Zs ?_) | intro _)
   rw [← e1]
   refine Zp (k + 1, y.lsn) (⟨hlt, hok⟩) Zl Zl rfl tk inferInstance (by first | omega | (dsimp only; omega))
  ·rw [decide_eq_false hy, Bool.false_and] at hok
   subst hok
   repeat' (first | (refine Zz ?_; refine Zk (Zc rfl) rfl rfl ?_) | (refine Zh ?_; first | (refine Zf ?_; refine qQ ?_) | refine Zm ?_) | refine Zb ?_ | (refine Zi ?_; refine Zr ?_) | (refine Zj ?_; refine Zs ?_) | (refine Xw ?_; refine ZR rfl rfl (fun hb => ?_) (fun hb => ?_) <;> (try simp only [decide_eq_true_eq, decide_eq_false_iff_not, Bool.not_eq_true, Bool.not_eq_false, beq_iff_eq, bne_iff_ne, ne_eq, decide_eq_decide, Bool.not_eq_eq_eq_not, Bool.not_true, Bool.not_false, beq_eq_false_iff_ne, bne_eq_false_iff_eq, Bool.and_eq_true, Bool.or_eq_true, Bool.and_eq_false_imp, Bool.or_eq_false_iff, bq2, bqt, bqf] at hb)) | (refine Ym ?_; refine Yb rfl (fun hb => ?_) (fun hb => ?_) <;> (try simp only [decide_eq_true_eq, decide_eq_false_iff_not, Bool.not_eq_true, Bool.not_eq_false, beq_iff_eq, bne_iff_ne, ne_eq, decide_eq_decide, Bool.not_eq_eq_eq_not, Bool.not_true, Bool.not_false, beq_eq_false_iff_ne, bne_eq_false_iff_eq, Bool.and_eq_true, Bool.or_eq_true, Bool.and_eq_false_imp, Bool.or_eq_false_iff, bq2, bqt, bqf] at hb)) | intro _)
   all_goals first | exact qE ⟨rfl, rfl, rfl⟩ | (exfalso; omega)
 ·have hk2 : k = x.stack.length := by omega
  rw [hk2, List.drop_length, Wb] at hok
  subst hok
  repeat' (first | (refine Zz ?_; refine Zk (Zc rfl) rfl rfl ?_) | (refine Zh ?_; first | (refine Zf ?_; refine qQ ?_) | refine Zm ?_) | refine Zb ?_ | (refine Zi ?_; refine Zr ?_) | (refine Zj ?_; refine Zs ?_) | intro _)
  exact qE ⟨rfl, rfl, rfl⟩
end Go.Proofs.E
