/- Laws of analysis. Part 5 of 37. -/
import Derived.Test.YtkbiahafeoillaaGreatB4
import Derived.ProofKit
import Derived.OpenShut
import Derived.ChangeOld
import Derived.Below
import Derived.Carry
import Derived.SizedLaws
namespace Go.Proofs.E
open Go
set_option linter.unusedVariables false
set_option linter.unusedSimpArgs false
section
variable {x : Cx} {Q : Exit → Act → World → Prop} {E : Env} {ρ : Hp} {L : SH} {ops : Array Oper} {rest tail : List Oper} {ty : TypeId} {pos : String} {af : Array Edge} {S : World → Prop} {l : List Oper} {listed : List Bool} {fuel : Nat}
theorem tl_undef {d : Nat} {op : Op} {j : Nat} {c : Bool} (hy : ∀ a, Ok x.D x.N E a → yielded ops a.tmps j = none) (hd : Nat.blt d x.N = true)
  (k : TL x ops rest Q ((d, undef) :: E) ρ L) : TL x ops (⟨some d, op, ty, pos, af, some (j, c)⟩ :: rest) Q E ρ L := fun a w ha hw => by
 simp only [wpListIn, Region.wanted, hy a ha]
 exact ⟨fun _ _ => trivial, k _ _ (ha.put (Nat.le_of_ble_eq_true hd) undef) hw⟩
theorem tr_undef (i : Nat) {d : Nat} {op : Op} {j : Nat} {c : Bool} (hb : YQ l listed i = true) (hi : l[i]? = some ⟨some d, op, ty, pos, af, some (j, c)⟩) (hy : ∀ a, Ok x.D x.N E a → yielded l.toArray a.tmps j = none)
  (hd : Nat.blt d x.N = true)
  (k : TR x l S fuel (Xj listed i) Q ((d, undef) :: E) ρ L) : TR x l S (fuel + 1) listed Q E ρ L := fun a w ha hw hS => by
 simp only [YQ, Bool.and_eq_true] at hb
 obtain ⟨⟨⟨h1, h2⟩, h3⟩, h4⟩ := hb
 have hi' : l.toArray[i]? = some ⟨some d, op, ty, pos, af, some (j, c)⟩ := by simpa using hi
 have hne : ((none : Option Bool) == some c) = false := by cases c <;> rfl
 refine wpAnyG_first (v := undef) h2 hi' (Region.noSelect_spec h1) (fun _ _ _ h => h) fuel _ a w (Region.free_spec hi' h3) (by simpa using h4) (.inr ⟨by simp only [Region.wanted, hy a ha, hne], rfl⟩) hS ?_
 have := k _ w (ha.put (Nat.le_of_ble_eq_true hd) undef) hw hS
 rw [lset_eq] at this
 simpa using this
end
attribute [local irreducible] Yl TL TC TE Spec YY R1 Hp.le EnvLe TS TR YS Zq
theorem XS {m : Int} : cmpB .neq m m = some false := by simp [cmpB]
theorem XR {m : Int} : cmpB .eql m m = some true := by simp [cmpB]
theorem eqB_self_eql (l : List UInt8) : eqB .eql (l == l) = some true := by simp [eqB]
theorem eqB_self_neq (l : List UInt8) : eqB .neq (l == l) = some false := by simp [eqB]
theorem eqB_ne_eql {l m : List UInt8} (h : l ≠ m) : eqB .eql (l == m) = some false := by simp [eqB, h]
theorem eqB_ne_neq {l m : List UInt8} (h : l ≠ m) : eqB .neq (l == m) = some true := by simp [eqB, h]
section
variable {x : Cx} {E : Env} {ρ : Hp} {L : SH} {ty : TypeId}
theorem y_eqs {p q : Operand} {t t' n e : Nat} {l : List UInt8} [hA : TyArr x.P t n e] [hE : YV x.P e .u8] [hz : ZJ x.P e 1] [hG : ZQ x.P t] (h1 : ev E p = some (.agg ⟨l.map u8c⟩)) (h2 : ev E q = some (.agg ⟨l.map u8c⟩)) (hl : l.length = n) : Yl x (.binOp .eql t p q t') ty E ρ L (.bool true) := Wk h1 h2 hl hl (eqB_self_eql l)
theorem y_nes {p q : Operand} {t t' n e : Nat} {l : List UInt8} [hA : TyArr x.P t n e] [hE : YV x.P e .u8] [hz : ZJ x.P e 1] [hG : ZQ x.P t] (h1 : ev E p = some (.agg ⟨l.map u8c⟩)) (h2 : ev E q = some (.agg ⟨l.map u8c⟩)) (hl : l.length = n) : Yl x (.binOp .neq t p q t') ty E ρ L (.bool false) := Wk h1 h2 hl hl (eqB_self_neq l)
theorem y_eqd {p q : Operand} {t t' n e : Nat} {l m : List UInt8} [hA : TyArr x.P t n e] [hE : YV x.P e .u8] [hz : ZJ x.P e 1] [hG : ZQ x.P t] (h1 : ev E p = some (.agg ⟨l.map u8c⟩)) (h2 : ev E q = some (.agg ⟨m.map u8c⟩)) (hl : l.length = n) (hm : m.length = n) (h : l ≠ m) : Yl x (.binOp .eql t p q t') ty E ρ L (.bool false) := Wk h1 h2 hl hm (eqB_ne_eql h)
theorem y_ned {p q : Operand} {t t' n e : Nat} {l m : List UInt8} [hA : TyArr x.P t n e] [hE : YV x.P e .u8] [hz : ZJ x.P e 1] [hG : ZQ x.P t] (h1 : ev E p = some (.agg ⟨l.map u8c⟩)) (h2 : ev E q = some (.agg ⟨m.map u8c⟩)) (hl : l.length = n) (hm : m.length = n) (h : l ≠ m) : Yl x (.binOp .neq t p q t') ty E ρ L (.bool true) := Wk h1 h2 hl hm (eqB_ne_neq h)
end
theorem take_skipA' {A L R G : SH} (h : Xo L R G) : Xo (A ++ L) R (A ++ G) := ⟨by
 simp only [List.flatten_append]
 refine (List.Perm.append_left _ (by simpa using h.out)).trans ?_
 rw [← List.append_assoc, ← List.append_assoc]
 exact List.Perm.append_right _ List.perm_append_comm⟩
theorem tk {L Lf R : SH} (h : Xo L Lf R := by repeat (first | exact take_nil' | exact take_app' | exact Yj | exact rem_nil' | apply take_cons' | apply Yr | apply rem_app' | exact take_all' | apply take_append' | apply take_skip' | (refine take_skip' (G := ?_) ?_; rotate_left) | (refine take_skipA' (G := ?_) ?_; rotate_left))) : Xo L Lf R := h
theorem Zl {E' E : Env} (h : EnvLe E' E := by repeat (first | exact EnvLe.nil _ | refine EnvLe.cons rfl ?_)) : EnvLe E' E := h
section
variable {x : Cx} {Q : Exit → Act → World → Prop} {E : Env} {ρ ρ0 : Hp} {L Ls : SH} {ops : Array Oper} {rest : List Oper} {ty : TypeId} {pos : String} {af : Array Edge} {d : Nat} {v : Value} {dd : Option Nat} {gd : Nat × Bool} {op : Op} {l : List Oper} {listed : List Bool} {fuel : Nat} {tail : List Oper}
theorem Xw (h : TL x ops (⟨dd, op, ty, pos, af, some gd⟩ :: rest) Q E ρ L) : TL x ops (⟨dd, op, ty, pos, af, some gd⟩ :: rest) Q E ρ L := h
theorem Zh {o : Oper} (h : TL x ops (o :: rest) Q E ρ L) : TL x ops (o :: rest) Q E ρ L := h
theorem Ym {c : Operand} {y z : Code} (h : TC x (.cond c y z) Q E ρ L) : TC x (.cond c y z) Q E ρ L := h
theorem i_miss {id id' : Nat} (h : TE x (.exit id') (Exit.inBlock id Q) E ρ L) : TE x (.exit id') (Exit.inBlock id Q) E ρ L := h
theorem ZI (n0 : Nat) {o : Operand} (k : TR x l (Zq x ρ0 Ls) fuel (Xj listed n0) Q ((d, v) :: E) ρ L) (hb : YQ l listed n0 = true := by decide +kernel) (hi : l[n0]? = some ⟨some d, .move o, ty, pos, af, none⟩ := by rfl) (y : ∀ ρ', ρ0.le ρ' → Yl x (.move o) ty E ρ' Ls v := by intro _ _; first | exact y_move rfl) (hd : Nat.blt d x.N = true := by rfl) : TR x l (Zq x ρ0 Ls) (fuel + 1) listed Q E ρ L := Xl n0 hb hi (YT (fun _ h => h) y) hd k
theorem ZY (n0 : Nat) {o : Operand} {j t0 : Nat} {b0 : Bool} (k : TR x l (Zq x ρ0 Ls) fuel (Xj listed n0) Q ((d, v) :: E) ρ L) (hb : YQ l listed n0 = true := by decide +kernel) (hi : l[n0]? = some ⟨some d, .move o, ty, pos, af, some (j, b0)⟩ := by rfl) (hj : (l[j]?).bind (·.dst) = some t0 := by rfl) (he : lk E t0 = some (.bool b0) := by rfl) (y : ∀ ρ', ρ0.le ρ' → Yl x (.move o) ty E ρ' Ls v := by intro _ _; first | exact y_move rfl) (hd : Nat.blt d x.N = true := by rfl) : TR x l (Zq x ρ0 Ls) (fuel + 1) listed Q E ρ L := tr_want n0 hb hi hj he (YT (fun _ h => h) y) hd k
theorem ZU (n0 : Nat) {o : Operand} {t : Nat} (k : TR x l (Zq x ρ0 Ls) fuel (Xj listed n0) Q ((d, v) :: E) ρ L) (hb : YQ l listed n0 = true := by decide +kernel) (hi : l[n0]? = some ⟨some d, .load t o, ty, pos, af, none⟩ := by rfl) (y : ∀ ρ', ρ0.le ρ' → Yl x (.load t o) ty E ρ' Ls v := by intro _ _; first | exact y_load_s rfl (by first | assumption | rfl) | exact y_load_a rfl (by first | assumption | rfl) | exact y_load_sub rfl | exact y_load_part rfl (by first | assumption | omega) (by assumption) | exact y_load_is rfl (by assumption) (by first | assumption | rfl) | exact XZ rfl (by assumption) (by first | assumption | omega) (by assumption) | exact y_load_is rfl (hp_get (by assumption) (by assumption)) (by first | assumption | rfl) | exact XZ rfl (hp_get (by assumption) (by assumption)) (by first | assumption | omega) (by assumption)) (hd : Nat.blt d x.N = true := by rfl) : TR x l (Zq x ρ0 Ls) (fuel + 1) listed Q E ρ L := Xl n0 hb hi (YT (fun _ h => h) y) hd k
theorem Yf (n0 : Nat) {o : Operand} {t : Nat} {j t0 : Nat} {b0 : Bool} (k : TR x l (Zq x ρ0 Ls) fuel (Xj listed n0) Q ((d, v) :: E) ρ L) (hb : YQ l listed n0 = true := by decide +kernel) (hi : l[n0]? = some ⟨some d, .load t o, ty, pos, af, some (j, b0)⟩ := by rfl) (hj : (l[j]?).bind (·.dst) = some t0 := by rfl) (he : lk E t0 = some (.bool b0) := by rfl) (y : ∀ ρ', ρ0.le ρ' → Yl x (.load t o) ty E ρ' Ls v := by intro _ _; first | exact y_load_s rfl (by first | assumption | rfl) | exact y_load_a rfl (by first | assumption | rfl) | exact y_load_sub rfl | exact y_load_part rfl (by first | assumption | omega) (by assumption) | exact y_load_is rfl (by assumption) (by first | assumption | rfl) | exact XZ rfl (by assumption) (by first | assumption | omega) (by assumption) | exact y_load_is rfl (hp_get (by assumption) (by assumption)) (by first | assumption | rfl) | exact XZ rfl (hp_get (by assumption) (by assumption)) (by first | assumption | omega) (by assumption)) (hd : Nat.blt d x.N = true := by rfl) : TR x l (Zq x ρ0 Ls) (fuel + 1) listed Q E ρ L := tr_want n0 hb hi hj he (YT (fun _ h => h) y) hd k
theorem ZO (n0 : Nat) {o : Operand} {s f : Nat} (k : TR x l (Zq x ρ0 Ls) fuel (Xj listed n0) Q ((d, v) :: E) ρ L) (hb : YQ l listed n0 = true := by decide +kernel) (hi : l[n0]? = some ⟨some d, .fieldAddr s o f, ty, pos, af, none⟩ := by rfl) (y : ∀ ρ', ρ0.le ρ' → Yl x (.fieldAddr s o f) ty E ρ' Ls v := by intro _ _; first | exact y_fieldAddr0 rfl | exact y_fieldAddr rfl) (hd : Nat.blt d x.N = true := by rfl) : TR x l (Zq x ρ0 Ls) (fuel + 1) listed Q E ρ L := Xl n0 hb hi (YT (fun _ h => h) y) hd k
theorem Yc (n0 : Nat) {o : Operand} {s f : Nat} {j t0 : Nat} {b0 : Bool} (k : TR x l (Zq x ρ0 Ls) fuel (Xj listed n0) Q ((d, v) :: E) ρ L) (hb : YQ l listed n0 = true := by decide +kernel) (hi : l[n0]? = some ⟨some d, .fieldAddr s o f, ty, pos, af, some (j, b0)⟩ := by rfl) (hj : (l[j]?).bind (·.dst) = some t0 := by rfl) (he : lk E t0 = some (.bool b0) := by rfl) (y : ∀ ρ', ρ0.le ρ' → Yl x (.fieldAddr s o f) ty E ρ' Ls v := by intro _ _; first | exact y_fieldAddr0 rfl | exact y_fieldAddr rfl) (hd : Nat.blt d x.N = true := by rfl) : TR x l (Zq x ρ0 Ls) (fuel + 1) listed Q E ρ L := tr_want n0 hb hi hj he (YT (fun _ h => h) y) hd k
theorem rEx (n0 : Nat) {o : Operand} {i : Nat} (k : TR x l (Zq x ρ0 Ls) fuel (Xj listed n0) Q ((d, v) :: E) ρ L) (hb : YQ l listed n0 = true := by decide +kernel) (hi : l[n0]? = some ⟨some d, .extract o i, ty, pos, af, none⟩ := by rfl) (y : ∀ ρ', ρ0.le ρ' → Yl x (.extract o i) ty E ρ' Ls v := by intro _ _; first | exact y_extract rfl rfl) (hd : Nat.blt d x.N = true := by rfl) : TR x l (Zq x ρ0 Ls) (fuel + 1) listed Q E ρ L := Xl n0 hb hi (YT (fun _ h => h) y) hd k
theorem rAs (n0 : Nat) {o : Operand} (k : TR x l (Zq x ρ0 Ls) fuel (Xj listed n0) Q ((d, v) :: E) ρ L) (hb : YQ l listed n0 = true := by decide +kernel) (hi : l[n0]? = some ⟨some d, .assign o, ty, pos, af, none⟩ := by rfl) (y : ∀ ρ', ρ0.le ρ' → Yl x (.assign o) ty E ρ' Ls v := by intro _ _; first | exact y_assign rfl) (hd : Nat.blt d x.N = true := by rfl) : TR x l (Zq x ρ0 Ls) (fuel + 1) listed Q E ρ L := Xl n0 hb hi (YT (fun _ h => h) y) hd k
theorem rPk (n0 : Nat) {c p q : Operand} (k : TR x l (Zq x ρ0 Ls) fuel (Xj listed n0) Q ((d, v) :: E) ρ L) (hb : YQ l listed n0 = true := by decide +kernel) (hi : l[n0]? = some ⟨some d, .pick c p q, ty, pos, af, none⟩ := by rfl) (y : ∀ ρ', ρ0.le ρ' → Yl x (.pick c p q) ty E ρ' Ls v := by intro _ _; first | exact y_pick_t rfl rfl | exact y_pick_f rfl rfl) (hd : Nat.blt d x.N = true := by rfl) : TR x l (Zq x ρ0 Ls) (fuel + 1) listed Q E ρ L := Xl n0 hb hi (YT (fun _ h => h) y) hd k
theorem wPk (n0 : Nat) {c p q : Operand} {j t0 : Nat} {b0 : Bool} (k : TR x l (Zq x ρ0 Ls) fuel (Xj listed n0) Q ((d, v) :: E) ρ L) (hb : YQ l listed n0 = true := by decide +kernel) (hi : l[n0]? = some ⟨some d, .pick c p q, ty, pos, af, some (j, b0)⟩ := by rfl) (hj : (l[j]?).bind (·.dst) = some t0 := by rfl) (he : lk E t0 = some (.bool b0) := by rfl) (y : ∀ ρ', ρ0.le ρ' → Yl x (.pick c p q) ty E ρ' Ls v := by intro _ _; first | exact y_pick_t rfl rfl | exact y_pick_f rfl rfl) (hd : Nat.blt d x.N = true := by rfl) : TR x l (Zq x ρ0 Ls) (fuel + 1) listed Q E ρ L := tr_want n0 hb hi hj he (YT (fun _ h => h) y) hd k
theorem rAd (n0 : Nat) {p q : Operand} {t t' : Nat} (k : TR x l (Zq x ρ0 Ls) fuel (Xj listed n0) Q ((d, v) :: E) ρ L) (hb : YQ l listed n0 = true := by decide +kernel) (hi : l[n0]? = some ⟨some d, (.binOp .add t p q t'), ty, pos, af, none⟩ := by rfl) (y : ∀ ρ', ρ0.le ρ' → Yl x ((.binOp .add t p q t')) ty E ρ' Ls v := by intro _ _; first | exact y_add rfl rfl (by simp only [Go.Proofs.E.lo, Go.Proofs.E.hi]; omega) | exact y_add_w rfl rfl) (hd : Nat.blt d x.N = true := by rfl) : TR x l (Zq x ρ0 Ls) (fuel + 1) listed Q E ρ L := Xl n0 hb hi (YT (fun _ h => h) y) hd k
theorem rSb (n0 : Nat) {p q : Operand} {t t' : Nat} (k : TR x l (Zq x ρ0 Ls) fuel (Xj listed n0) Q ((d, v) :: E) ρ L) (hb : YQ l listed n0 = true := by decide +kernel) (hi : l[n0]? = some ⟨some d, (.binOp .sub t p q t'), ty, pos, af, none⟩ := by rfl) (y : ∀ ρ', ρ0.le ρ' → Yl x ((.binOp .sub t p q t')) ty E ρ' Ls v := by intro _ _; first | exact y_sub rfl rfl (by simp only [Go.Proofs.E.lo, Go.Proofs.E.hi]; omega) | exact y_sub_w rfl rfl) (hd : Nat.blt d x.N = true := by rfl) : TR x l (Zq x ρ0 Ls) (fuel + 1) listed Q E ρ L := Xl n0 hb hi (YT (fun _ h => h) y) hd k
theorem wSb (n0 : Nat) {p q : Operand} {t t' : Nat} {j t0 : Nat} {b0 : Bool} (k : TR x l (Zq x ρ0 Ls) fuel (Xj listed n0) Q ((d, v) :: E) ρ L) (hb : YQ l listed n0 = true := by decide +kernel) (hi : l[n0]? = some ⟨some d, (.binOp .sub t p q t'), ty, pos, af, some (j, b0)⟩ := by rfl) (hj : (l[j]?).bind (·.dst) = some t0 := by rfl) (he : lk E t0 = some (.bool b0) := by rfl) (y : ∀ ρ', ρ0.le ρ' → Yl x ((.binOp .sub t p q t')) ty E ρ' Ls v := by intro _ _; first | exact y_sub rfl rfl (by simp only [Go.Proofs.E.lo, Go.Proofs.E.hi]; omega) | exact y_sub_w rfl rfl) (hd : Nat.blt d x.N = true := by rfl) : TR x l (Zq x ρ0 Ls) (fuel + 1) listed Q E ρ L := tr_want n0 hb hi hj he (YT (fun _ h => h) y) hd k
theorem rRm (n0 : Nat) {p q : Operand} {t t' : Nat} (k : TR x l (Zq x ρ0 Ls) fuel (Xj listed n0) Q ((d, v) :: E) ρ L) (hb : YQ l listed n0 = true := by decide +kernel) (hi : l[n0]? = some ⟨some d, (.binOp .rem t p q t'), ty, pos, af, none⟩ := by rfl) (y : ∀ ρ', ρ0.le ρ' → Yl x ((.binOp .rem t p q t')) ty E ρ' Ls v := by intro _ _; first | exact y_rem rfl rfl (by omega)) (hd : Nat.blt d x.N = true := by rfl) : TR x l (Zq x ρ0 Ls) (fuel + 1) listed Q E ρ L := Xl n0 hb hi (YT (fun _ h => h) y) hd k
theorem iSr {p q : Operand} {t t' : Nat} (h : TL x ops (⟨dd, (.binOp .shr t p q t'), ty, pos, af, none⟩ :: rest) Q E ρ L) : TL x ops (⟨dd, (.binOp .shr t p q t'), ty, pos, af, none⟩ :: rest) Q E ρ L := h
theorem iCm {o : BinOp} {p q : Operand} {t t' : Nat} (h : TL x ops (⟨dd, (.binOp o t p q t'), ty, pos, af, none⟩ :: rest) Q E ρ L) : TL x ops (⟨dd, (.binOp o t p q t'), ty, pos, af, none⟩ :: rest) Q E ρ L := h
theorem rCm (n0 : Nat) {o : BinOp} {p q : Operand} {t t' : Nat} (k : TR x l (Zq x ρ0 Ls) fuel (Xj listed n0) Q ((d, v) :: E) ρ L) (hb : YQ l listed n0 = true := by decide +kernel) (hi : l[n0]? = some ⟨some d, (.binOp o t p q t'), ty, pos, af, none⟩ := by rfl) (y : ∀ ρ', ρ0.le ρ' → Yl x ((.binOp o t p q t')) ty E ρ' Ls v := by intro _ _; first | exact y_cmp (b := true) (by rfl) (by rfl) (by first | rfl | exact XS | exact XR | (simp only [cmpB, Option.some.injEq, decide_eq_true_eq, decide_eq_false_iff_not, beq_iff_eq, bne_iff_ne, beq_eq_false_iff_ne, bne_eq_false_iff_eq, ne_eq]; omega)) | exact y_cmp (b := false) (by rfl) (by rfl) (by first | rfl | exact XS | exact XR | (simp only [cmpB, Option.some.injEq, decide_eq_true_eq, decide_eq_false_iff_not, beq_iff_eq, bne_iff_ne, beq_eq_false_iff_ne, bne_eq_false_iff_eq, ne_eq]; omega)) | exact y_cmp rfl rfl rfl | exact y_ptr_nil rfl rfl rfl | exact y_func_nil rfl rfl rfl rfl | exact y_slice_nil rfl rfl rfl | exact y_map_nil rfl rfl rfl | exact y_eqs rfl rfl (by first | assumption | rfl) | exact y_nes rfl rfl (by first | assumption | rfl) | exact y_eqd rfl rfl (by first | assumption | rfl) (by first | assumption | rfl) (by assumption) | exact y_ned rfl rfl (by first | assumption | rfl) (by first | assumption | rfl) (by assumption) | exact Wk rfl rfl (by first | assumption | rfl) (by first | assumption | rfl) rfl | exact XY rfl rfl eqB_bool_self | exact XY rfl rfl eqB_bool_nself | exact XY rfl rfl rfl | exact y_str_eq rfl rfl rfl | exact y_eqc_l (c := _) rfl rfl (by assumption) rfl | exact y_eqc rfl rfl rfl) (hd : Nat.blt d x.N = true := by rfl) : TR x l (Zq x ρ0 Ls) (fuel + 1) listed Q E ρ L := Xl n0 hb hi (YT (fun _ h => h) y) hd k
theorem wCm (n0 : Nat) {o : BinOp} {p q : Operand} {t t' : Nat} {j t0 : Nat} {b0 : Bool} (k : TR x l (Zq x ρ0 Ls) fuel (Xj listed n0) Q ((d, v) :: E) ρ L) (hb : YQ l listed n0 = true := by decide +kernel) (hi : l[n0]? = some ⟨some d, (.binOp o t p q t'), ty, pos, af, some (j, b0)⟩ := by rfl) (hj : (l[j]?).bind (·.dst) = some t0 := by rfl) (he : lk E t0 = some (.bool b0) := by rfl) (y : ∀ ρ', ρ0.le ρ' → Yl x ((.binOp o t p q t')) ty E ρ' Ls v := by intro _ _; first | exact y_cmp (b := true) (by rfl) (by rfl) (by first | rfl | exact XS | exact XR | (simp only [cmpB, Option.some.injEq, decide_eq_true_eq, decide_eq_false_iff_not, beq_iff_eq, bne_iff_ne, beq_eq_false_iff_ne, bne_eq_false_iff_eq, ne_eq]; omega)) | exact y_cmp (b := false) (by rfl) (by rfl) (by first | rfl | exact XS | exact XR | (simp only [cmpB, Option.some.injEq, decide_eq_true_eq, decide_eq_false_iff_not, beq_iff_eq, bne_iff_ne, beq_eq_false_iff_ne, bne_eq_false_iff_eq, ne_eq]; omega)) | exact y_cmp rfl rfl rfl | exact y_ptr_nil rfl rfl rfl | exact y_func_nil rfl rfl rfl rfl | exact y_slice_nil rfl rfl rfl | exact y_map_nil rfl rfl rfl | exact y_eqs rfl rfl (by first | assumption | rfl) | exact y_nes rfl rfl (by first | assumption | rfl) | exact y_eqd rfl rfl (by first | assumption | rfl) (by first | assumption | rfl) (by assumption) | exact y_ned rfl rfl (by first | assumption | rfl) (by first | assumption | rfl) (by assumption) | exact Wk rfl rfl (by first | assumption | rfl) (by first | assumption | rfl) rfl | exact XY rfl rfl eqB_bool_self | exact XY rfl rfl eqB_bool_nself | exact XY rfl rfl rfl | exact y_str_eq rfl rfl rfl | exact y_eqc_l (c := _) rfl rfl (by assumption) rfl | exact y_eqc rfl rfl rfl) (hd : Nat.blt d x.N = true := by rfl) : TR x l (Zq x ρ0 Ls) (fuel + 1) listed Q E ρ L := tr_want n0 hb hi hj he (YT (fun _ h => h) y) hd k
theorem rNc (n0 : Nat) {o : Operand} (k : TR x l (Zq x ρ0 Ls) fuel (Xj listed n0) Q ((d, v) :: E) ρ L) (hb : YQ l listed n0 = true := by decide +kernel) (hi : l[n0]? = some ⟨some d, .nilCheck o, ty, pos, af, none⟩ := by rfl) (y : ∀ ρ', ρ0.le ρ' → Yl x (.nilCheck o) ty E ρ' Ls v := by intro _ _; first | exact y_nilCheck rfl | exact y_nilCheck_f rfl | exact y_nilCheck_y rfl) (hd : Nat.blt d x.N = true := by rfl) : TR x l (Zq x ρ0 Ls) (fuel + 1) listed Q E ρ L := Xl n0 hb hi (YT (fun _ h => h) y) hd k
theorem wNc (n0 : Nat) {o : Operand} {j t0 : Nat} {b0 : Bool} (k : TR x l (Zq x ρ0 Ls) fuel (Xj listed n0) Q ((d, v) :: E) ρ L) (hb : YQ l listed n0 = true := by decide +kernel) (hi : l[n0]? = some ⟨some d, .nilCheck o, ty, pos, af, some (j, b0)⟩ := by rfl) (hj : (l[j]?).bind (·.dst) = some t0 := by rfl) (he : lk E t0 = some (.bool b0) := by rfl) (y : ∀ ρ', ρ0.le ρ' → Yl x (.nilCheck o) ty E ρ' Ls v := by intro _ _; first | exact y_nilCheck rfl | exact y_nilCheck_f rfl | exact y_nilCheck_y rfl) (hd : Nat.blt d x.N = true := by rfl) : TR x l (Zq x ρ0 Ls) (fuel + 1) listed Q E ρ L := tr_want n0 hb hi hj he (YT (fun _ h => h) y) hd k
theorem rIa (n0 : Nat) {o i : Operand} {t : Nat} (k : TR x l (Zq x ρ0 Ls) fuel (Xj listed n0) Q ((d, v) :: E) ρ L) (hb : YQ l listed n0 = true := by decide +kernel) (hi : l[n0]? = some ⟨some d, .indexAddr t o i, ty, pos, af, none⟩ := by rfl) (y : ∀ ρ', ρ0.le ρ' → Yl x (.indexAddr t o i) ty E ρ' Ls v := by intro _ _; first | exact y_indexAddr_nat rfl rfl (by omega) | exact y_indexAddr rfl rfl (by omega) (by omega) | exact y_indexAddr_arrN rfl rfl (by omega) | exact Wf rfl rfl (by omega) (by omega)) (hd : Nat.blt d x.N = true := by rfl) : TR x l (Zq x ρ0 Ls) (fuel + 1) listed Q E ρ L := Xl n0 hb hi (YT (fun _ h => h) y) hd k
theorem wIa (n0 : Nat) {o i : Operand} {t : Nat} {j t0 : Nat} {b0 : Bool} (k : TR x l (Zq x ρ0 Ls) fuel (Xj listed n0) Q ((d, v) :: E) ρ L) (hb : YQ l listed n0 = true := by decide +kernel) (hi : l[n0]? = some ⟨some d, .indexAddr t o i, ty, pos, af, some (j, b0)⟩ := by rfl) (hj : (l[j]?).bind (·.dst) = some t0 := by rfl) (he : lk E t0 = some (.bool b0) := by rfl) (y : ∀ ρ', ρ0.le ρ' → Yl x (.indexAddr t o i) ty E ρ' Ls v := by intro _ _; first | exact y_indexAddr_nat rfl rfl (by omega) | exact y_indexAddr rfl rfl (by omega) (by omega) | exact y_indexAddr_arrN rfl rfl (by omega) | exact Wf rfl rfl (by omega) (by omega)) (hd : Nat.blt d x.N = true := by rfl) : TR x l (Zq x ρ0 Ls) (fuel + 1) listed Q E ρ L := tr_want n0 hb hi hj he (YT (fun _ h => h) y) hd k
theorem iCv {o : Operand} {s t : Nat} (h : TL x ops (⟨dd, .convert s t o, ty, pos, af, none⟩ :: rest) Q E ρ L) : TL x ops (⟨dd, .convert s t o, ty, pos, af, none⟩ :: rest) Q E ρ L := h
theorem rCv (n0 : Nat) {o : Operand} {s t : Nat} (k : TR x l (Zq x ρ0 Ls) fuel (Xj listed n0) Q ((d, v) :: E) ρ L) (hb : YQ l listed n0 = true := by decide +kernel) (hi : l[n0]? = some ⟨some d, .convert s t o, ty, pos, af, none⟩ := by rfl) (y : ∀ ρ', ρ0.le ρ' → Yl x (.convert s t o) ty E ρ' Ls v := by intro _ _; first | exact y_conv_i rfl (by simp only [Go.Proofs.E.lo, Go.Proofs.E.hi]; omega) | exact y_conv rfl | exact y_conv_in rfl (by assumption) | exact y_conv_in rfl (SIn.mono (by assumption) (by assumption))) (hd : Nat.blt d x.N = true := by rfl) : TR x l (Zq x ρ0 Ls) (fuel + 1) listed Q E ρ L := Xl n0 hb hi (YT (fun _ h => h) y) hd k
theorem rBi (n0 : Nat) {b : Builtin} {xs : Array Operand} {ats : Array TypeId} (k : TR x l (Zq x ρ0 Ls) fuel (Xj listed n0) Q ((d, v) :: E) ρ L) (hb : YQ l listed n0 = true := by decide +kernel) (hi : l[n0]? = some ⟨some d, .call { callee := .builtin b, args := xs, argTypes := ats }, ty, pos, af, none⟩ := by rfl) (y : ∀ ρ', ρ0.le ρ' → Yl x (.call { callee := .builtin b, args := xs, argTypes := ats }) ty E ρ' Ls v := by intro _ _; first | exact y_len rfl | exact y_len_str rfl | exact y_cap rfl | exact y_max rfl rfl | exact y_min rfl rfl) (hd : Nat.blt d x.N = true := by rfl) : TR x l (Zq x ρ0 Ls) (fuel + 1) listed Q E ρ L := Xl n0 hb hi (YT (fun _ h => h) y) hd k
theorem wBi (n0 : Nat) {b : Builtin} {xs : Array Operand} {ats : Array TypeId} {j t0 : Nat} {b0 : Bool} (k : TR x l (Zq x ρ0 Ls) fuel (Xj listed n0) Q ((d, v) :: E) ρ L) (hb : YQ l listed n0 = true := by decide +kernel) (hi : l[n0]? = some ⟨some d, .call { callee := .builtin b, args := xs, argTypes := ats }, ty, pos, af, some (j, b0)⟩ := by rfl) (hj : (l[j]?).bind (·.dst) = some t0 := by rfl) (he : lk E t0 = some (.bool b0) := by rfl) (y : ∀ ρ', ρ0.le ρ' → Yl x (.call { callee := .builtin b, args := xs, argTypes := ats }) ty E ρ' Ls v := by intro _ _; first | exact y_len rfl | exact y_len_str rfl | exact y_cap rfl | exact y_max rfl rfl | exact y_min rfl rfl) (hd : Nat.blt d x.N = true := by rfl) : TR x l (Zq x ρ0 Ls) (fuel + 1) listed Q E ρ L := tr_want n0 hb hi hj he (YT (fun _ h => h) y) hd k
theorem rUn (n0 : Nat) {o : UnOp} {p : Operand} {t : Nat} (k : TR x l (Zq x ρ0 Ls) fuel (Xj listed n0) Q ((d, v) :: E) ρ L) (hb : YQ l listed n0 = true := by decide +kernel) (hi : l[n0]? = some ⟨some d, .unOp o t p, ty, pos, af, none⟩ := by rfl) (y : ∀ ρ', ρ0.le ρ' → Yl x (.unOp o t p) ty E ρ' Ls v := by intro _ _; first | exact y_not rfl | exact y_neg rfl) (hd : Nat.blt d x.N = true := by rfl) : TR x l (Zq x ρ0 Ls) (fuel + 1) listed Q E ρ L := Xl n0 hb hi (YT (fun _ h => h) y) hd k
theorem wUn (n0 : Nat) {o : UnOp} {p : Operand} {t : Nat} {j t0 : Nat} {b0 : Bool} (k : TR x l (Zq x ρ0 Ls) fuel (Xj listed n0) Q ((d, v) :: E) ρ L) (hb : YQ l listed n0 = true := by decide +kernel) (hi : l[n0]? = some ⟨some d, .unOp o t p, ty, pos, af, some (j, b0)⟩ := by rfl) (hj : (l[j]?).bind (·.dst) = some t0 := by rfl) (he : lk E t0 = some (.bool b0) := by rfl) (y : ∀ ρ', ρ0.le ρ' → Yl x (.unOp o t p) ty E ρ' Ls v := by intro _ _; first | exact y_not rfl | exact y_neg rfl) (hd : Nat.blt d x.N = true := by rfl) : TR x l (Zq x ρ0 Ls) (fuel + 1) listed Q E ρ L := tr_want n0 hb hi hj he (YT (fun _ h => h) y) hd k
theorem Zz {t : Nat} {ps : Array (Nat × Operand)} (h : TL x ops (⟨dd, .build t ps, ty, pos, af, none⟩ :: rest) Q E ρ L) : TL x ops (⟨dd, .build t ps, ty, pos, af, none⟩ :: rest) Q E ρ L := h
theorem rBu (n0 : Nat) {t : Nat} {ps : Array (Nat × Operand)} (k : TR x l (Zq x ρ0 Ls) fuel (Xj listed n0) Q ((d, v) :: E) ρ L) (hb : YQ l listed n0 = true := by decide +kernel) (hi : l[n0]? = some ⟨some d, .build t ps, ty, pos, af, none⟩ := by rfl) (y : ∀ ρ', ρ0.le ρ' → Yl x (.build t ps) ty E ρ' Ls v := by intro _ _; first | exact y_buildS rfl rfl | exact y_build rfl (by assumption) | exact y_build rfl rfl | exact y_build (vs := []) rfl rfl) (hd : Nat.blt d x.N = true := by rfl) : TR x l (Zq x ρ0 Ls) (fuel + 1) listed Q E ρ L := Xl n0 hb hi (YT (fun _ h => h) y) hd k
theorem rSl (n0 : Nat) {t : Nat} {o : Operand} {lw hg mx : Option Operand} (k : TR x l (Zq x ρ0 Ls) fuel (Xj listed n0) Q ((d, v) :: E) ρ L) (hb : YQ l listed n0 = true := by decide +kernel) (hi : l[n0]? = some ⟨some d, .slice t o lw hg mx, ty, pos, af, none⟩ := by rfl) (y : ∀ ρ', ρ0.le ρ' → Yl x (.slice t o lw hg mx) ty E ρ' Ls v := by intro _ _; first | exact y_slice_h rfl rfl (by omega) (by omega) | exact y_slice_str_h rfl rfl (by omega) (by omega) | exact y_slice_lh rfl rfl rfl (by omega) (by omega) (by omega) (by omega) | exact y_slice_l rfl rfl (by omega) (by omega) (by omega) | exact y_slice_str_l rfl rfl (by omega) (by omega) | exact y_slice_arr_all rfl | exact y_slice_arr_l rfl rfl (by omega) (by omega) | exact y_slice_arr_h rfl rfl (by omega) (by omega) | exact y_slice_arr_lh rfl rfl rfl (by omega) (by omega) (by omega) (by omega) | exact y_slice_m rfl rfl rfl rfl (by omega) (by omega) (by omega) (by omega) | exact y_slice_hm rfl rfl rfl (by omega) (by omega) (by omega)) (hd : Nat.blt d x.N = true := by rfl) : TR x l (Zq x ρ0 Ls) (fuel + 1) listed Q E ρ L := Xl n0 hb hi (YT (fun _ h => h) y) hd k
theorem rMf (n0 : Nat) {fn : Fn} {p q : Array Operand} (k : TR x l (Zq x ρ0 Ls) fuel (Xj listed n0) Q ((d, v) :: E) ρ L) (hb : YQ l listed n0 = true := by decide +kernel) (hi : l[n0]? = some ⟨some d, .makeFunc fn p q, ty, pos, af, none⟩ := by rfl) (y : ∀ ρ', ρ0.le ρ' → Yl x (.makeFunc fn p q) ty E ρ' Ls v := by intro _ _; first | exact y_makeFunc rfl rfl) (hd : Nat.blt d x.N = true := by rfl) : TR x l (Zq x ρ0 Ls) (fuel + 1) listed Q E ρ L := Xl n0 hb hi (YT (fun _ h => h) y) hd k
theorem iMk {t : Nat} {o : Operand} (h : TL x ops (⟨dd, .convert t t o, ty, pos, af, none⟩ :: rest) Q E ρ L) : TL x ops (⟨dd, .convert t t o, ty, pos, af, none⟩ :: rest) Q E ρ L := h
theorem iSt {o p : Operand} {t : Nat} (h : TL x ops (⟨dd, .store t o p, ty, pos, af, none⟩ :: rest) Q E ρ L) : TL x ops (⟨dd, .store t o p, ty, pos, af, none⟩ :: rest) Q E ρ L := h
theorem iAl {t : Nat} (h : TL x ops (⟨dd, .alloc t, ty, pos, af, none⟩ :: rest) Q E ρ L) : TL x ops (⟨dd, .alloc t, ty, pos, af, none⟩ :: rest) Q E ρ L := h
theorem iBx {t : Nat} {o : Operand} (h : TL x ops (⟨dd, .box t o, ty, pos, af, none⟩ :: rest) Q E ρ L) : TL x ops (⟨dd, .box t o, ty, pos, af, none⟩ :: rest) Q E ρ L := h
theorem iMm {t : Nat} {o : Option Operand} (h : TL x ops (⟨dd, .makeMap t o, ty, pos, af, none⟩ :: rest) Q E ρ L) : TL x ops (⟨dd, .makeMap t o, ty, pos, af, none⟩ :: rest) Q E ρ L := h
theorem iBs {t n : Nat} {ps : Array (Nat × Operand)} (h : TL x ops (⟨dd, .buildSlice t n ps, ty, pos, af, none⟩ :: rest) Q E ρ L) : TL x ops (⟨dd, .buildSlice t n ps, ty, pos, af, none⟩ :: rest) Q E ρ L := h
theorem Zd (i : Nat) {j t : Nat} {b c : Bool} (k : TR x l (Zq x ρ0 Ls) fuel (Xj listed i) Q ((d, undef) :: E) ρ L) (hb : YQ l listed i = true := by decide +kernel) (hi : l[i]? = some ⟨some d, op, ty, pos, af, some (j, c)⟩ := by rfl) (hj : (l[j]?).bind (·.dst) = some t := by rfl) (he : lk E t = some (.bool b) := by rfl) (hbc : (b == c) = false := by rfl)
  (hd : Nat.blt d x.N = true := by rfl) : TR x l (Zq x ρ0 Ls) (fuel + 1) listed Q E ρ L := tr_skip i hb hi hj he hbc hd k
theorem yl_undef {a : Act} {D : List Deferred} {N : Nat} {ops : Array Oper} {j t : Nat} (ha : Ok D N E a) (hj : (ops[j]?).bind (·.dst) = some t) (he : lk E t = some undef) : yielded ops a.tmps j = none := by
 unfold yielded
 rw [hj]
 simp [ha.get t _ he, undef]
theorem qSkipU {j t : Nat} {c : Bool} (k : TL x ops rest Q ((d, undef) :: E) ρ L)
  (hj : (ops[j]?).bind (·.dst) = some t := by rfl) (he : lk E t = some undef := by rfl) (hd : Nat.blt d x.N = true := by rfl) : TL x ops (⟨some d, op, ty, pos, af, some (j, c)⟩ :: rest) Q E ρ L := tl_undef (fun a ha => yl_undef ha hj he) hd k
theorem Za (n0 : Nat) {j t : Nat} {c : Bool} (k : TR x l (Zq x ρ0 Ls) fuel (Xj listed n0) Q ((d, undef) :: E) ρ L) (hb : YQ l listed n0 = true := by decide +kernel) (hi : l[n0]? = some ⟨some d, op, ty, pos, af, some (j, c)⟩ := by rfl) (hj : (l[j]?).bind (·.dst) = some t := by rfl) (he : lk E t = some undef := by rfl)
  (hd : Nat.blt d x.N = true := by rfl) : TR x l (Zq x ρ0 Ls) (fuel + 1) listed Q E ρ L := tr_undef n0 hb hi (fun a ha => yl_undef ha (by simpa using hj) he) hd k
theorem Zt {i : Nat} {o : Oper} (h : TL x l.toArray [o] (QR x l (Zq x ρ0 Ls) fuel (Xj listed i) Q) E ρ L) (hr : Region.ready .any l.toArray ⟨listed⟩ = [i] := by decide +kernel) (ho : l[i]? = some o := by rfl) : TR x l (Zq x ρ0 Ls) (fuel + 1) listed Q E ρ L := tr_step1 hr ho h
theorem YG {i j : Nat} {o p : Oper} (h : TL x l.toArray [o] (QR x l (Zq x ρ0 Ls) fuel (Xj listed i) Q) E ρ L) (h' : TL x l.toArray [p] (QR x l (Zq x ρ0 Ls) fuel (Xj listed j) Q) E ρ L) (hr : Region.ready .any l.toArray ⟨listed⟩ = [i, j] := by decide +kernel) (ho : l[i]? = some o := by rfl) (hp : l[j]? = some p := by rfl) : TR x l (Zq x ρ0 Ls) (fuel + 1) listed Q E ρ L := tr_step2 hr ho hp h h'
theorem rStep3 {i j k : Nat} {o p q : Oper} (h : TL x l.toArray [o] (QR x l (Zq x ρ0 Ls) fuel (Xj listed i) Q) E ρ L) (h' : TL x l.toArray [p] (QR x l (Zq x ρ0 Ls) fuel (Xj listed j) Q) E ρ L) (h'' : TL x l.toArray [q] (QR x l (Zq x ρ0 Ls) fuel (Xj listed k) Q) E ρ L) (hr : Region.ready .any l.toArray ⟨listed⟩ = [i, j, k] := by decide +kernel) (ho : l[i]? = some o := by rfl) (hp : l[j]? = some p := by rfl) (hq : l[k]? = some q := by rfl) : TR x l (Zq x ρ0 Ls) (fuel + 1) listed Q E ρ L :=
 tr_step hr (by simp) (fun m hm => by
  rcases List.mem_cons.1 hm with rfl | hm
  ·exact ⟨o, ho, h⟩
  ·rcases List.mem_cons.1 hm with rfl | hm
   ·exact ⟨p, hp, h'⟩
   ·have : m = k := by simpa using hm
    subst this; exact ⟨q, hq, h''⟩)
theorem Zo {R : SH} (h : TR x l (Zq x ρ0 Ls) fuel listed Q E ρ L) (hle : ρ0.le ρ := by first | assumption | exact Hp.le_refl _ | (refine Hp.le_trans ?_ (by assumption); assumption) | solve_by_elim (maxDepth := 6) [Hp.le_trans]) (hT : Xo L Ls R := by exact tk) : TE x .normal (QR x l (Zq x ρ0 Ls) fuel listed Q) E ρ L := te_any (ZG hle (hT := hT)) h
theorem ZK {R : SH} (h : TR x l (Zq x ρ L) fuel listed Q E ρ L) (hle : ρ0.le ρ := by first | assumption | exact Hp.le_refl _ | (refine Hp.le_trans ?_ (by assumption); assumption) | solve_by_elim (maxDepth := 6) [Hp.le_trans]) (hT : Xo L Ls R := by exact tk) : TR x l (Zq x ρ0 Ls) fuel listed Q E ρ L := tr_full hle hT h
theorem ZE {S : World → Prop} (h : TE x .normal Q E ρ L) (hr : Region.ready .any l.toArray ⟨listed⟩ = [] := by decide +kernel) : TR x l S fuel listed Q E ρ L := tr_done hr h
theorem Zn {j t : Nat} {b : Bool} (k : TL x ops (⟨dd, op, ty, pos, af, none⟩ :: rest) Q E ρ L)
  (hj : (ops[j]?).bind (·.dst) = some t := by rfl) (he : lk E t = some (.bool b) := by rfl) : TL x ops (⟨dd, op, ty, pos, af, some (j, b)⟩ :: rest) Q E ρ L := tl_want hj he k
theorem qSkip {j t : Nat} {b c : Bool} (k : TL x ops rest Q ((d, undef) :: E) ρ L)
  (hj : (ops[j]?).bind (·.dst) = some t := by rfl) (he : lk E t = some (.bool b) := by rfl) (hbc : (b == c) = false := by rfl) (hd : Nat.blt d x.N = true := by rfl) : TL x ops (⟨some d, op, ty, pos, af, some (j, c)⟩ :: rest) Q E ρ L := tl_skip hj he hbc hd k
theorem qSkip0 {j t : Nat} {b c : Bool} (k : TL x ops rest Q E ρ L)
  (hj : (ops[j]?).bind (·.dst) = some t := by rfl) (he : lk E t = some (.bool b) := by rfl) (hbc : (b == c) = false := by rfl) : TL x ops (⟨none, op, ty, pos, af, some (j, c)⟩ :: rest) Q E ρ L := tl_skip0 hj he hbc k
theorem qAlA {t : Nat} {l : List Value} [hz : Zw x.P t (.agg ⟨l⟩)] (k : ∀ b, TL x ops rest Q ((d, .pointer (some ⟨b, 0, none⟩)) :: E) ρ ([(b, .cells ⟨l⟩ t (0, 0))] :: L)) (hd : Nat.blt d x.N = true := by rfl) :
  TL x ops (⟨some d, .alloc t, ty, pos, af, none⟩ :: rest) Q E ρ L := tl_alloc_a hd k
theorem qAlS {t : Nat} {z : Value} [hz : Zw x.P t z] (k : ∀ b, TL x ops rest Q ((d, .pointer (some ⟨b, 0, none⟩)) :: E) ρ ([(b, .cells ⟨[z]⟩ t (0, 0))] :: L)) (h : z.oneCell' = true := by rfl) (hd : Nat.blt d x.N = true := by rfl) :
  TL x ops (⟨some d, .alloc t, ty, pos, af, none⟩ :: rest) Q E ρ L := tl_alloc_s h hd k
theorem qBxA {t : Nat} {o : Operand} {l : List Value} (k : ∀ b, TL x ops rest Q ((d, .pointer (some ⟨b, 0, none⟩)) :: E) ρ ([(b, .cells ⟨l⟩ t (0, 0))] :: L)) (h : ev E o = some (.agg ⟨l⟩) := by rfl) (hd : Nat.blt d x.N = true := by rfl) :
  TL x ops (⟨some d, .box t o, ty, pos, af, none⟩ :: rest) Q E ρ L := tl_box_a h hd k
theorem qBxS {t : Nat} {o : Operand} (k : ∀ b, TL x ops rest Q ((d, .pointer (some ⟨b, 0, none⟩)) :: E) ρ ([(b, .cells ⟨[v]⟩ t (0, 0))] :: L)) (h : ev E o = some v := by rfl) (h1 : v.oneCell' = true := by rfl) (hd : Nat.blt d x.N = true := by rfl) :
  TL x ops (⟨some d, .box t o, ty, pos, af, none⟩ :: rest) Q E ρ L := tl_box_s h h1 hd k
theorem qMm {t : Nat} (k : ∀ b, TL x ops rest Q ((d, .map (some b)) :: E) ρ ([(b, .map ⟨[]⟩ 0)] :: L)) (hd : Nat.blt d x.N = true := by rfl) :
  TL x ops (⟨some d, .makeMap t none, ty, pos, af, none⟩ :: rest) Q E ρ L := tl_makeMap hd k
theorem qBs {t e sz : Nat} [hS : ZT x.P t e] [hZ : ZJ x.P e sz] (k : ∀ b, TL x ops rest Q ((d, .slice (some ⟨b, 0, none⟩) 0 0) :: E) ρ ([(b, .cells ⟨[]⟩ e (0, 0))] :: L)) (hd : Nat.blt d x.N = true := by rfl) :
  TL x ops (⟨some d, .buildSlice t 0 ⟨[]⟩, ty, pos, af, none⟩ :: rest) Q E ρ L := tl_buildSlice0 hd k
theorem qMk {t e b n c : Nat} {p : Operand} {C : List Value} {T : TypeId} {f : Obj → SH} [hS : ZT x.P t e] [hE : YV x.P e .u8] [hU : Upd b L (.cells ⟨C⟩ T (0, 0)) f]
  (k : TL x ops rest Q ((d, .slice (some ⟨b, 0, none⟩) n c) :: E) ρ (f (.cells ⟨C⟩ T (C.length, C.length + 1)))) (hp : ev E p = some (.slice (some ⟨b, 0, none⟩) n c) := by rfl) (hd : Nat.blt d x.N = true := by rfl) :
  TL x ops (⟨some d, .convert t t p, ty, pos, af, none⟩ :: rest) Q E ρ L := tl_mark hp hd k
theorem qSt {t : Nat} {o p : Operand} {L' : SH} (k : TL x ops rest Q E ρ L')
  (h : TL x ops rest Q E ρ L' → TL x ops (⟨none, .store t o p, ty, pos, af, none⟩ :: rest) Q E ρ L := by
   first
   | exact tl_store_set rfl rfl rfl
   | exact tl_store_all rfl rfl (by first | assumption | rfl) (by first | assumption | rfl) (by first | assumption | rfl)
   | exact tl_store_sub rfl rfl (by first | assumption | rfl) (by rfl)
   | exact tl_store_s rfl rfl rfl (by first | assumption | rfl | exact ble_le (by omega))
   | exact tl_store_a rfl rfl (by first | assumption | rfl) (by first | assumption | rfl) (by first | assumption | rfl | exact ble_le (by omega))) :
  TL x ops (⟨none, .store t o p, ty, pos, af, none⟩ :: rest) Q E ρ L := h k
theorem qCt {c : Operand} {y z : Code} (h : TC x y Q E ρ L) (hc : ev E c = some (.bool true) := by rfl) : TC x (.cond c y z) Q E ρ L := tc_cond_t hc h
theorem qCf {c : Operand} {y z : Code} (h : TC x z Q E ρ L) (hc : ev E c = some (.bool false) := by rfl) : TC x (.cond c y z) Q E ρ L := tc_cond_f hc h
theorem qMiss {id id' : Nat} (h : TE x (.exit id') Q E ρ L) (hne : Nat.beq id' id = false := by rfl) : TE x (.exit id') (Exit.inBlock id Q) E ρ L := te_block_miss hne h
theorem y0Mv {o : Operand} (h : Yl x (.move o) ty E ρ L v) : Yl x (.move o) ty E ρ L v := h
theorem y0Ld {o : Operand} {t : Nat} (h : Yl x (.load t o) ty E ρ L v) : Yl x (.load t o) ty E ρ L v := h
theorem y0Fa {o : Operand} {s f : Nat} (h : Yl x (.fieldAddr s o f) ty E ρ L v) : Yl x (.fieldAddr s o f) ty E ρ L v := h
theorem y0Ad {p q : Operand} {t t' : Nat} (h : Yl x ((.binOp .add t p q t')) ty E ρ L v) : Yl x ((.binOp .add t p q t')) ty E ρ L v := h
theorem y0Sb {p q : Operand} {t t' : Nat} (h : Yl x ((.binOp .sub t p q t')) ty E ρ L v) : Yl x ((.binOp .sub t p q t')) ty E ρ L v := h
theorem y0Ml {p q : Operand} {t t' : Nat} (h : Yl x ((.binOp .mul t p q t')) ty E ρ L v) : Yl x ((.binOp .mul t p q t')) ty E ρ L v := h
theorem y0Rm {p q : Operand} {t t' : Nat} (h : Yl x ((.binOp .rem t p q t')) ty E ρ L v) : Yl x ((.binOp .rem t p q t')) ty E ρ L v := h
theorem y0Qu {p q : Operand} {t t' : Nat} (h : Yl x ((.binOp .quo t p q t')) ty E ρ L v) : Yl x ((.binOp .quo t p q t')) ty E ρ L v := h
theorem y0Sr {p q : Operand} {t t' : Nat} (h : Yl x ((.binOp .shr t p q t')) ty E ρ L v) : Yl x ((.binOp .shr t p q t')) ty E ρ L v := h
theorem y0Sh {p q : Operand} {t t' : Nat} (h : Yl x ((.binOp .shl t p q t')) ty E ρ L v) : Yl x ((.binOp .shl t p q t')) ty E ρ L v := h
theorem y0Or {p q : Operand} {t t' : Nat} (h : Yl x ((.binOp .or t p q t')) ty E ρ L v) : Yl x ((.binOp .or t p q t')) ty E ρ L v := h
theorem y0Cm {o : BinOp} {p q : Operand} {t t' : Nat} (h : Yl x ((.binOp o t p q t')) ty E ρ L v) : Yl x ((.binOp o t p q t')) ty E ρ L v := h
theorem y0Ex {o : Operand} {i : Nat} (h : Yl x (.extract o i) ty E ρ L v) : Yl x (.extract o i) ty E ρ L v := h
theorem y0As {o : Operand} (h : Yl x (.assign o) ty E ρ L v) : Yl x (.assign o) ty E ρ L v := h
theorem y0Pk {c p q : Operand} (h : Yl x (.pick c p q) ty E ρ L v) : Yl x (.pick c p q) ty E ρ L v := h
theorem y0Nc {o : Operand} (h : Yl x (.nilCheck o) ty E ρ L v) : Yl x (.nilCheck o) ty E ρ L v := h
theorem y0Ia {o i : Operand} {t : Nat} (h : Yl x (.indexAddr t o i) ty E ρ L v) : Yl x (.indexAddr t o i) ty E ρ L v := h
theorem y0Cv {o : Operand} {s t : Nat} (h : Yl x (.convert s t o) ty E ρ L v) : Yl x (.convert s t o) ty E ρ L v := h
theorem y0Bi {b : Builtin} {xs : Array Operand} {ats : Array TypeId} (h : Yl x (.call { callee := .builtin b, args := xs, argTypes := ats }) ty E ρ L v) : Yl x (.call { callee := .builtin b, args := xs, argTypes := ats }) ty E ρ L v := h
theorem y0Un {o : UnOp} {p : Operand} {t : Nat} (h : Yl x (.unOp o t p) ty E ρ L v) : Yl x (.unOp o t p) ty E ρ L v := h
theorem y0Fl {o : Operand} {s f : Nat} (h : Yl x (.field s o f) ty E ρ L v) : Yl x (.field s o f) ty E ρ L v := h
theorem y0Lu {o i : Operand} {t : Nat} {c : Bool} (h : Yl x (.lookup t o i c) ty E ρ L v) : Yl x (.lookup t o i c) ty E ρ L v := h
theorem y0Bu {t : Nat} {ps : Array (Nat × Operand)} (h : Yl x (.build t ps) ty E ρ L v) : Yl x (.build t ps) ty E ρ L v := h
theorem y0Sl {t : Nat} {o : Operand} {lw hg mx : Option Operand} (h : Yl x (.slice t o lw hg mx) ty E ρ L v) : Yl x (.slice t o lw hg mx) ty E ρ L v := h
theorem y0Mf {fn : Fn} {p q : Array Operand} (h : Yl x (.makeFunc fn p q) ty E ρ L v) : Yl x (.makeFunc fn p q) ty E ρ L v := h
theorem y0Mi {o : Operand} {t : Nat} (h : Yl x (.makeInterface t o) ty E ρ L v) : Yl x (.makeInterface t o) ty E ρ L v := h
theorem y0Ta {o : Operand} {s t : Nat} {c : Bool} (h : Yl x (.typeAssert o s t c) ty E ρ L v) : Yl x (.typeAssert o s t c) ty E ρ L v := h
theorem qQ {d : Nat} {op : Op} (k : TL x ops rest Q ((d, v) :: E) ρ L) (y : Yl x op ty E ρ L v := by
   first
   | (apply y0Mv; first | exact y_move rfl)
   | (apply y0Ld; first | exact y_load_s rfl (by first | assumption | rfl) | exact y_load_a rfl (by first | assumption | rfl) | exact y_load_sub rfl | exact y_load_part rfl (by first | assumption | omega) (by assumption) | exact y_load_is rfl (by assumption) (by first | assumption | rfl) | exact XZ rfl (by assumption) (by first | assumption | omega) (by assumption) | exact y_load_is rfl (hp_get (by assumption) (by assumption)) (by first | assumption | rfl) | exact XZ rfl (hp_get (by assumption) (by assumption)) (by first | assumption | omega) (by assumption))
   | (apply y0Fa; first | exact y_fieldAddr0 rfl | exact y_fieldAddr rfl)
   | (apply y0Ad; first | exact y_add rfl rfl (by simp only [Go.Proofs.E.lo, Go.Proofs.E.hi]; omega) | exact y_add_w rfl rfl)
   | (apply y0Sb; first | exact y_sub rfl rfl (by simp only [Go.Proofs.E.lo, Go.Proofs.E.hi]; omega) | exact y_sub_w rfl rfl)
   | (apply y0Ml; first | exact y_mul rfl rfl (by simp only [Go.Proofs.E.lo, Go.Proofs.E.hi]; omega) | exact y_mul_w rfl rfl)
   | (apply y0Rm; first | exact y_rem rfl rfl (by omega))
   | (apply y0Qu; first | exact y_quo_w rfl rfl (by omega))
   | (apply y0Sr; first | exact y_shr rfl rfl (by omega) (by simp [IntKind.bits]; rfl) | exact y_shr rfl rfl (by omega) rfl)
   | (apply y0Sh; first | exact y_shl8 rfl rfl (by simp only [Go.Proofs.E.lo, Go.Proofs.E.hi]; omega) (by decide) | exact y_shl rfl rfl (by omega) (by simp [IntKind.bits]; rfl) | exact y_shl rfl rfl (by omega) rfl)
   | (apply y0Or; first | exact y_or8 rfl rfl (by omega))
   | (apply y0Cm; first | exact y_cmp (b := true) (by rfl) (by rfl) (by first | rfl | exact XS | exact XR | (simp only [cmpB, Option.some.injEq, decide_eq_true_eq, decide_eq_false_iff_not, beq_iff_eq, bne_iff_ne, beq_eq_false_iff_ne, bne_eq_false_iff_eq, ne_eq]; omega)) | exact y_cmp (b := false) (by rfl) (by rfl) (by first | rfl | exact XS | exact XR | (simp only [cmpB, Option.some.injEq, decide_eq_true_eq, decide_eq_false_iff_not, beq_iff_eq, bne_iff_ne, beq_eq_false_iff_ne, bne_eq_false_iff_eq, ne_eq]; omega)) | exact y_cmp rfl rfl rfl | exact y_ptr_nil rfl rfl rfl | exact y_func_nil rfl rfl rfl rfl | exact y_slice_nil rfl rfl rfl | exact y_map_nil rfl rfl rfl | exact y_eqs rfl rfl (by first | assumption | rfl) | exact y_nes rfl rfl (by first | assumption | rfl) | exact y_eqd rfl rfl (by first | assumption | rfl) (by first | assumption | rfl) (by assumption) | exact y_ned rfl rfl (by first | assumption | rfl) (by first | assumption | rfl) (by assumption) | exact Wk rfl rfl (by first | assumption | rfl) (by first | assumption | rfl) rfl | exact XY rfl rfl eqB_bool_self | exact XY rfl rfl eqB_bool_nself | exact XY rfl rfl rfl | exact y_str_eq rfl rfl rfl | exact y_eqc_l (c := _) rfl rfl (by assumption) rfl | exact y_eqc rfl rfl rfl)
   | (apply y0Ex; first | exact y_extract rfl rfl)
   | (apply y0As; first | exact y_assign rfl)
   | (apply y0Pk; first | exact y_pick_t rfl rfl | exact y_pick_f rfl rfl)
   | (apply y0Nc; first | exact y_nilCheck rfl | exact y_nilCheck_f rfl | exact y_nilCheck_y rfl)
   | (apply y0Ia; first | exact y_indexAddr_nat rfl rfl (by omega) | exact y_indexAddr rfl rfl (by omega) (by omega) | exact y_indexAddr_arrN rfl rfl (by omega) | exact Wf rfl rfl (by omega) (by omega))
   | (apply y0Cv; first | exact y_conv_i rfl (by simp only [Go.Proofs.E.lo, Go.Proofs.E.hi]; omega) | exact y_conv rfl | exact y_conv_in rfl (by assumption) | exact y_conv_in rfl (SIn.mono (by assumption) (by assumption)))
   | (apply y0Bi; first | exact y_len rfl | exact y_len_str rfl | exact y_cap rfl | exact y_max rfl rfl | exact y_min rfl rfl)
   | (apply y0Un; first | exact y_not rfl | exact y_neg rfl)
   | (apply y0Fl; first | exact y_field_s rfl rfl | exact y_field_sub rfl | exact y_field_a rfl rfl)
   | (apply y0Lu; first | exact y_lookup_ok2 rfl rfl (by assumption) (by assumption) | exact y_lookup2 rfl rfl (by assumption) (by assumption) | exact y_lookup0 rfl rfl (by assumption) (by assumption) | exact y_lookup_ok rfl rfl (by assumption) | exact y_lookup rfl rfl (by assumption))
   | (apply y0Bu; first | exact y_buildS rfl rfl | exact y_build rfl (by assumption) | exact y_build rfl rfl | exact y_build (vs := []) rfl rfl)
   | (apply y0Sl; first | exact y_slice_h rfl rfl (by omega) (by omega) | exact y_slice_str_h rfl rfl (by omega) (by omega) | exact y_slice_lh rfl rfl rfl (by omega) (by omega) (by omega) (by omega) | exact y_slice_l rfl rfl (by omega) (by omega) (by omega) | exact y_slice_str_l rfl rfl (by omega) (by omega) | exact y_slice_arr_all rfl | exact y_slice_arr_l rfl rfl (by omega) (by omega) | exact y_slice_arr_h rfl rfl (by omega) (by omega) | exact y_slice_arr_lh rfl rfl rfl (by omega) (by omega) (by omega) (by omega) | exact y_slice_m rfl rfl rfl rfl (by omega) (by omega) (by omega) (by omega) | exact y_slice_hm rfl rfl rfl (by omega) (by omega) (by omega))
   | (apply y0Mf; first | exact y_makeFunc rfl rfl)
   | (apply y0Mi; first | exact y_makeInterface rfl)
   | (apply y0Ta; first | exact y_typeAssert rfl)) (hd : Nat.blt d x.N = true := by rfl) (hn : XW op = true := by rfl) : TL x ops (⟨some d, op, ty, pos, af, none⟩ :: rest) Q E ρ L := Zk y hd hn k
theorem Zi {c : Code} (h : TC x c Q E ρ L) : TC x c Q E ρ L := h
theorem Zf {d : Nat} {op : Op} (h : TL x ops (⟨some d, op, ty, pos, af, none⟩ :: rest) Q E ρ L) : TL x ops (⟨some d, op, ty, pos, af, none⟩ :: rest) Q E ρ L := h
theorem Zj {e : Exit} (h : TE x e Q E ρ L) : TE x e Q E ρ L := h
theorem Zr {G : Prop} {c : Code} (k : G) (h : G → TC x c Q E ρ L := by
   intro k
   first
   | exact tc_seq k
   | exact tc_region k
   | (refine Ym ?_; first | exact qCt k | exact qCf k)
   | exact tc_block k
   | exact tc_exit k
   | exact tc_ret k
   | exact tc_skip k
   | exact tc_scope k
   | exact tc_label k) : TC x c Q E ρ L := h k
theorem Zs {G : Prop} {e : Exit} (k : G) (h : G → TE x e Q E ρ L := by
   intro k
   first
   | exact te_seq k
   | exact te_block_normal k
   | exact te_block_ret k
   | exact te_then_ret k
   | exact te_block_hit k
   | (refine i_miss ?_; exact qMiss k)
   | exact te_then_exit k
   | exact te_scope_normal k
   | exact te_scope_exit k
   | exact te_scope_ret k) : TE x e Q E ρ L := h k
theorem Zm {G : Prop} {o : Oper} (k : G) (h : G → TL x ops (o :: rest) Q E ρ L := by
   intro k
   first
   | (refine iSt ?_; exact qSt k)
   | (refine iAl ?_; first | exact qAlA k | exact qAlS k)
   | (refine iBx ?_; first | exact qBxA k | exact qBxS k)
   | (refine iMm ?_; exact qMm k)
   | (refine iBs ?_; exact qBs k)
   | (refine iMk ?_; exact qMk k)
   | (refine Xw ?_; first | exact Zn k | exact qSkip k | exact qSkip0 k | exact qSkipU k)) : TL x ops (o :: rest) Q E ρ L := h k
theorem qC {g : Nat} {f : Operand} {xs : List Operand} {ats : Array TypeId} {fs cs vs : List Value} {Lf R : SH} {Post : Value → Hp → SH → Prop} (hf : ev E f = some (.func (.func g) ⟨fs⟩ ⟨cs⟩)) (hv : evs E xs = some vs) [hF : Yk x.P g]
  (S : Spec x.P g (fs ++ vs ++ cs) ρ Lf Post)
  (k : ∀ v ρ' L', ρ.le ρ' → Post v ρ' L' → TL x ops rest Q ((d, v) :: E) ρ' (L' ++ R)) (hT : Xo L Lf R := by exact tk) (hd : Nat.blt d x.N = true := by rfl) :
  TL x ops (⟨some d, .call { callee := .value f, args := ⟨xs⟩, argTypes := ats }, ty, pos, af, none⟩ :: rest) Q E ρ L := tl_call hf hv S hT hd k
theorem qY {g : Nat} {f : Operand} {xs : List Operand} {ats : Array TypeId} {vs : List Value} {Lf R : SH} {Post : Bool → Hp → SH → Prop} (hf : ev E f = some (.func (.yield g) ⟨[]⟩ ⟨[]⟩)) (hv : evs E xs = some vs)
  (S : YY x.P g vs ρ Lf Post)
  (k : ∀ b ρ' L', ρ.le ρ' → Post b ρ' L' → TL x ops rest Q ((d, .bool b) :: E) ρ' (L' ++ R)) (hT : Xo L Lf R := by exact tk) (hd : Nat.blt d x.N = true := by rfl) :
  TL x ops (⟨some d, .call { callee := .value f, args := ⟨xs⟩, argTypes := ats }, ty, pos, af, none⟩ :: rest) Q E ρ L := tl_yield hf hv S hT hd k
theorem qE {e : Exit} {fn : Func} {u : World} {R : SH} {Post : Value → Hp → SH → Prop} {L' G : SH} (hp : Post v ρ L')
  (hr : ∀ a w, Ok x.D x.N E a → Sat x.u ρ L w → (results fn a.tmps).run x.P w = .ok v w := by
   first
   | exact res0 rfl
   | (refine res1 rfl ?_; first | exact Yu rfl | exact Yi rfl (by first | assumption | rfl) | exact ZP rfl rfl)
   | (refine res2 rfl ?_ ?_ <;> first | exact Yu rfl | exact Yi rfl (by first | assumption | rfl) | exact ZP rfl rfl)
   | (refine res3 rfl ?_ ?_ ?_ <;> first | exact Yu rfl | exact Yi rfl (by first | assumption | rfl) | exact ZP rfl rfl))
  (hle : ρ0.le ρ := by first | assumption | exact Hp.le_refl _ | (refine Hp.le_trans ?_ (by assumption); assumption) | solve_by_elim (maxDepth := 6) [Hp.le_trans]) (k : Xo L L' G := by exact tk) (en : Ends G R := by infer_instance) (he : isEnd e = true := by rfl) (hD : x.D = [] := by rfl) (hu : x.u = u := by rfl) :
  TE x e (bodyPostM (Fw none) 0 x.P fn (RK u ρ0 R Post)) E ρ L := te_end he hD hu hr hle k en hp
end
end Go.Proofs.E
namespace Go.Proofs.E
open Go Go.RowKit Go.WideShapes
set_option linter.unusedVariables false
set_option linter.unusedSimpArgs false
def hpOf (w : World) : Hp := fun b => w.heap[b]?
theorem Sat.start (w : World) : Sat w (hpOf w) [] w := ⟨rfl, rfl, rfl, by simp, by simp, by simp, fun b o h => h⟩
theorem Sat.below {w w' : World} {ρ' : Hp} {L : SH} (h : Sat w ρ' L w') (hle : (hpOf w).le ρ') : Below w.heap.size w w' := by
 have old : ∀ k, k < w.heap.size → w'.heap[k]? = w.heap[k]? := fun k hk => by
  have : w.heap[k]? = some w.heap[k] := by simp [hk]
  rw [this]
  exact h.imm k _ (hle k _ this)
 refine ⟨h.os, h.tape, h.output, ?_, old⟩
 rcases Nat.eq_zero_or_pos w.heap.size with h0 | h0
 ·omega
 ·have := old (w.heap.size - 1) (by omega)
  have hs : w.heap[w.heap.size - 1]? = some w.heap[w.heap.size - 1] := by
   rw [Array.getElem?_eq_getElem (by omega)]
  rw [hs] at this
  have := (Array.getElem?_eq_some_iff.1 this).1
  omega
theorem Spec.law {P : Program} {f : FuncId} {args : List Value} {W : World} (h : Spec P f args (hpOf W) [] (fun v ρ' L' => v = .bool true ∧ (hpOf W).le ρ' ∧ L' = [])) :
  Calls P f ⟨args⟩ W (fun e W' => e = .returned (.bool true) ∧ Below W.heap.size W W') := by
 refine callsIn_wide.1 ((h W [] W (by simpa using Sat.start W)).mono ?_)
 rintro e w' ⟨v, ρ', L', rfl, hle, hs, rfl, hle2, rfl⟩
 exact ⟨rfl, hs.below hle2⟩
theorem exists_list {α : Type} {P : Nat → α → Prop} : ∀ (n : Nat), (∀ i, i < n → ∃ a, P i a) → ∃ xs : List α, xs.length = n ∧ ∀ i (h : i < xs.length), P i xs[i]
 | 0, _ => ⟨[], rfl, fun i h => by simp at h⟩
 | n + 1, h => by
  obtain ⟨xs, h1, h2⟩ := exists_list n (fun i hi => h i (by omega))
  obtain ⟨a, ha⟩ := h n (by omega)
  refine ⟨xs ++ [a], by simp [h1], fun i hi => ?_⟩
  by_cases hlt : i < xs.length
  ·rw [List.getElem_append_left hlt]; exact h2 i hlt
  ·have : i = n := by simp at hi; omega
   subst this
   rw [List.getElem_append_right (by omega)]
   simpa using ha
theorem mapM_get {α β : Type} {f : α → Option β} : ∀ {l : List α} {ys : List β}, l.mapM f = some ys → ys.length = l.length ∧ ∀ i (h : i < l.length), f l[i] = ys[i]?
 | [], ys, h => by simp at h; subst h; simp
 | a :: r, ys, h => by
  simp only [List.mapM_cons, Option.bind_eq_bind, Option.bind_eq_some_iff] at h
  obtain ⟨b, hb, bs, hbs, hy⟩ := h
  have hy' : b :: bs = ys := by simpa using hy
  subst hy'
  obtain ⟨h1, h2⟩ := mapM_get hbs
  refine ⟨by simp [h1], fun i hi => ?_⟩
  cases i with
  | zero => simpa using hb
  | succ i => simpa using h2 i (by simpa using hi)
theorem cells_block {w : World} {a : Addr} {n : Nat} {cs : List Value} (h : w.cells? 0 a n = some cs) (hn : 0 < n) :
  ∃ b off C T fr, a = ⟨b, off, none⟩ ∧ w.heap[b]? = some (.cells ⟨C⟩ T fr) ∧ off + n ≤ C.length ∧ cs = (C.drop off).take n := by
 simp only [World.cells?, Nat.zero_le, if_true] at h
 obtain ⟨h1, h2⟩ := mapM_get h
 simp only [List.length_range, List.getElem_range] at h1 h2
 obtain ⟨b, off, spot⟩ := a
 have hc0 := h2 0 hn
 have e0 : (Addr.mk b off spot).add 0 = ⟨b, off, spot⟩ := by simp [Addr.add]
 rw [e0, List.getElem?_eq_getElem (by omega)] at hc0
 have hs : spot = none := World.cell?_spot hc0
 subst hs
 have hb : ∃ C T fr, w.heap[b]? = some (.cells C T fr) := by
  unfold World.cell? at hc0
  split at hc0
  ·rename_i c T fr hb; exact ⟨c, T, fr, hb⟩
  ·cases hc0
 obtain ⟨⟨C⟩, T, fr, hb⟩ := hb
 have cell : ∀ i, i < n → C[off + i]? = cs[i]? := fun i hi => by
  have := h2 i hi
  rw [Yo] at this
  simp only [World.cell?, hb, Option.isSome_none, Bool.false_eq_true, if_false] at this
  simpa using this
 have hlen : off + n ≤ C.length := by
  have := cell (n - 1) (by omega)
  rw [List.getElem?_eq_getElem (show n - 1 < cs.length by omega)] at this
  have := (List.getElem?_eq_some_iff.1 this).1
  omega
 refine ⟨b, off, C, T, fr, rfl, hb, hlen, ?_⟩
 apply List.ext_getElem?
 intro i
 by_cases hi : i < n
 ·rw [List.getElem?_take_of_lt hi, List.getElem?_drop, cell i hi]
 ·rw [List.getElem?_eq_none (by omega), List.getElem?_eq_none (by simp; omega)]
section
variable {H : Type} {enc : TypeId × Value → H} {P : Program} {w : World}
def Opn (enc : TypeId × Value → H) (P : Program) (w : World) (t : TypeId) {α : Type} (R : List Value → α → Prop) : Prop :=
 ∀ fuel cs x, DataW.trod enc P w 0 (fun _ => true) true fuel t cs = some x → ∃ a, R cs a
def RI (k : IntKind) (cs : List Value) (n : Int) : Prop := cs = [.int k n] ∧ lo k ≤ n ∧ n ≤ hi k
theorem wf_bounds {k : IntKind} {n : Int} (h : (Lit.int k n).wf = true) : lo k ≤ n ∧ n ≤ hi k := by
 cases k <;> simp [Lit.wf, IntKind.min, IntKind.max, IntKind.signed, IntKind.bits, lo, hi] at h ⊢ <;> omega
theorem Yh {t : TypeId} {k : IntKind} (ht : P.underlying t = some (.int k)) : Opn enc P w t (RI k) := fun fuel cs x h => by
 obtain ⟨m, rfl, rfl, hw⟩ := DataW.trod_int ht h
 exact ⟨m, rfl, wf_bounds hw⟩
structure RS (ρ : Hp) (sz : Nat) {α : Type} (R : List Value → α → Prop) (cs : List Value) (s : Option Addr × Nat × Nat × List α) : Prop where
 cells : cs = [.slice s.1 s.2.1 s.2.2.1]
 le : s.2.1 ≤ s.2.2.1
 big : s.2.2.1 ≤ 9223372036854775807
 len : s.2.2.2.length = s.2.1
 at' : ∀ i (h : i < s.2.2.2.length), ∃ b off C T fr, s.1 = some ⟨b, off, none⟩ ∧ ρ b = some (.cells ⟨C⟩ T fr) ∧ off + i * sz + sz ≤ C.length ∧ R ((C.drop (off + i * sz)).take sz) s.2.2.2[i]
theorem opn_fields {t : TypeId} {fs : Array Field} {fuel : Nat} {cs : List Value} {x : DataW H × List MemPlace} (ht : P.underlying t = some (.struct fs)) (h : DataW.trod enc P w 0 (fun _ => true) true fuel t cs = some x) :
  cs.length = P.cellsOf t ∧ ∀ (i : Nat) (f : Field), fs[i]? = some f → ∀ {α : Type} {R : List Value → α → Prop}, Opn enc P w f.type R → ∃ a, R ((cs.drop f.offset).take (P.cellsOf f.type)) a := by
 obtain ⟨xs, n, _, _, hl, hlen, hf⟩ := DataW.trod_struct ht h
 refine ⟨hl, fun i f hi α R hR => ?_⟩
 have := hf i f hi
 have hlt : i < fs.size := (Array.getElem?_eq_some_iff.1 hi).1
 rw [List.getElem?_eq_getElem (by omega)] at this
 exact hR _ _ _ this
theorem opn_field {t : TypeId} {fs : Array Field} {fuel : Nat} {cs : List Value} {x : DataW H × List MemPlace} (h : DataW.trod enc P w 0 (fun _ => true) true fuel t cs = some x) (ht : P.underlying t = some (.struct fs)) (i o n : Nat) {f : Field} {T : TypeId}
  (hi : fs[i]? = some f) (ho : f.offset = o) (hT : f.type = T) (hn : P.cellsOf T = n) {α : Type} {R : List Value → α → Prop} (hR : Opn enc P w T R) : ∃ a, R ((cs.drop o).take n) a := by
 subst ho; subst hn; subst hT
 exact (opn_fields ht h).2 i f hi hR
end
end Go.Proofs.E
