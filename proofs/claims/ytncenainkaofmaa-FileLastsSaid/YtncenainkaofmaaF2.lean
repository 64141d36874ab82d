/- Contents of layer 3, disks of layer 2 and files of layer 14 as data, and what their functions come to. Part 2 of 6. -/
import Derived.Test.YtncenainkaofmaaF1
import Derived.ProofKit
import Derived.OpenShut
import Derived.ChangeOld
import Derived.Below
import Derived.Carry
import Derived.SizedLaws
import Derived.Laws.Slices
import Derived.Test.YtncenainkaofmaaChecked
import Derived.KernelRfl
namespace Go.Proofs.E
open Go
set_option linter.unusedVariables false
set_option linter.unusedSimpArgs false

section
variable {x : Cx} {Q : Exit → Act → World → Prop} {E : Env} {ρ : Hp} {L : SH} {ops : Array Oper} {rest tail : List Oper} {ty : TypeId} {pos : String} {af : Array Edge} {S : World → Prop} {l : List Oper} {listed : List Bool} {fuel : Nat}
theorem tl_undef {d : Nat} {op : Op} {j : Nat} {c : Bool} (hy : ∀ a, Ok x.D x.N E a → yielded ops a.tmps j = none) (hd : Nat.blt d x.N = true)
    (k : TL x ops rest Q ((d, undef) :: E) ρ L) : TL x ops (⟨some d, op, ty, pos, af, some (j, c)⟩ :: rest) Q E ρ L := fun a w ha hw => by
  simp only [wpListIn, Region.wanted, hy a ha]
  exact ⟨fun _ _ => trivial, k _ _ (ha.put (Nat.le_of_ble_eq_true hd) undef) hw⟩
theorem ts_undef {d : Nat} {op : Op} {j : Nat} {c : Bool} (hy : ∀ a, Ok x.D x.N E a → yielded ops a.tmps j = none) (hd : Nat.blt d x.N = true)
    (k : TS x ops rest tail Q ((d, undef) :: E) ρ L) : TS x ops (⟨some d, op, ty, pos, af, some (j, c)⟩ :: rest) tail Q E ρ L := fun a w ha hw => by
  simp only [wpStill, Region.wanted, hy a ha]
  exact k _ _ (ha.put (Nat.le_of_ble_eq_true hd) undef) hw
theorem tr_undef (i : Nat) {d : Nat} {op : Op} {j : Nat} {c : Bool} (hb : takeB l listed i = true) (hi : l[i]? = some ⟨some d, op, ty, pos, af, some (j, c)⟩) (hy : ∀ a, Ok x.D x.N E a → yielded l.toArray a.tmps j = none)
    (hd : Nat.blt d x.N = true)
    (k : TR x l S fuel (lset listed i) Q ((d, undef) :: E) ρ L) : TR x l S (fuel + 1) listed Q E ρ L := fun a w ha hw hS => by
  simp only [takeB, Bool.and_eq_true] at hb
  obtain ⟨⟨⟨h1, h2⟩, h3⟩, h4⟩ := hb
  have hi' : l.toArray[i]? = some ⟨some d, op, ty, pos, af, some (j, c)⟩ := by simpa using hi
  have hne : ((none : Option Bool) == some c) = false := by cases c <;> rfl
  refine wpAnyG_first (v := undef) h2 hi' (Region.noSelect_spec h1) (fun _ _ _ h => h) fuel _ a w (Region.free_spec hi' h3) (by simpa using h4) (.inr ⟨by simp only [Region.wanted, hy a ha, hne], rfl⟩) hS ?_
  have := k _ w (ha.put (Nat.le_of_ble_eq_true hd) undef) hw hS
  rw [lset_eq] at this
  simpa using this
end
attribute [local irreducible] Yl TL TC TE Spec YSpec R1 Hp.le EnvLe TS TR YS Stays

theorem cmpB_ne_self {m : Int} : cmpB .neq m m = some false := by simp [cmpB]
theorem cmpB_eq_self {m : Int} : cmpB .eql m m = some true := by simp [cmpB]
theorem eqB_self_eql (l : List UInt8) : eqB .eql (l == l) = some true := by simp [eqB]
theorem eqB_self_neq (l : List UInt8) : eqB .neq (l == l) = some false := by simp [eqB]
theorem eqB_ne_eql {l m : List UInt8} (h : l ≠ m) : eqB .eql (l == m) = some false := by simp [eqB, h]
theorem eqB_ne_neq {l m : List UInt8} (h : l ≠ m) : eqB .neq (l == m) = some true := by simp [eqB, h]
section
variable {x : Cx} {E : Env} {ρ : Hp} {L : SH} {ty : TypeId}
theorem y_eqs {p q : Operand} {t t' n e : Nat} {l : List UInt8} [hA : TyArr x.P t n e] [hE : TyInt x.P e .u8] [hz : TySz x.P e 1] [hG : NoGuard x.P t] (h1 : ev E p = some (.agg ⟨l.map u8c⟩)) (h2 : ev E q = some (.agg ⟨l.map u8c⟩)) (hl : l.length = n) : Yl x (.binOp .eql t p q t') ty E ρ L (.bool true) := y_eq_bytes h1 h2 hl hl (eqB_self_eql l)
theorem y_nes {p q : Operand} {t t' n e : Nat} {l : List UInt8} [hA : TyArr x.P t n e] [hE : TyInt x.P e .u8] [hz : TySz x.P e 1] [hG : NoGuard x.P t] (h1 : ev E p = some (.agg ⟨l.map u8c⟩)) (h2 : ev E q = some (.agg ⟨l.map u8c⟩)) (hl : l.length = n) : Yl x (.binOp .neq t p q t') ty E ρ L (.bool false) := y_eq_bytes h1 h2 hl hl (eqB_self_neq l)
theorem y_eqd {p q : Operand} {t t' n e : Nat} {l m : List UInt8} [hA : TyArr x.P t n e] [hE : TyInt x.P e .u8] [hz : TySz x.P e 1] [hG : NoGuard x.P t] (h1 : ev E p = some (.agg ⟨l.map u8c⟩)) (h2 : ev E q = some (.agg ⟨m.map u8c⟩)) (hl : l.length = n) (hm : m.length = n) (h : l ≠ m) : Yl x (.binOp .eql t p q t') ty E ρ L (.bool false) := y_eq_bytes h1 h2 hl hm (eqB_ne_eql h)
theorem y_ned {p q : Operand} {t t' n e : Nat} {l m : List UInt8} [hA : TyArr x.P t n e] [hE : TyInt x.P e .u8] [hz : TySz x.P e 1] [hG : NoGuard x.P t] (h1 : ev E p = some (.agg ⟨l.map u8c⟩)) (h2 : ev E q = some (.agg ⟨m.map u8c⟩)) (hl : l.length = n) (hm : m.length = n) (h : l ≠ m) : Yl x (.binOp .neq t p q t') ty E ρ L (.bool true) := y_eq_bytes h1 h2 hl hm (eqB_ne_neq h)
end
/-! ## steps whose proofs are found; `i..` asks which step it is, `q..` takes it, `r..` takes it in a region of any order, `s..` in a drawn head -/
theorem take_skipA' {A L R G : SH} (h : Take L R G) : Take (A ++ L) R (A ++ G) := ⟨by
  simp only [List.flatten_append]
  refine (List.Perm.append_left _ (by simpa using h.out)).trans ?_
  rw [← List.append_assoc, ← List.append_assoc]
  exact List.Perm.append_right _ List.perm_append_comm⟩
theorem tk {L Lf R : SH} (h : Take L Lf R := by repeat (first | exact take_nil' | exact take_app' | exact rem_here' | exact rem_nil' | apply take_cons' | apply rem_there' | apply rem_app' | exact take_all' | apply take_append' | apply take_skip' | (refine take_skip' (G := ?_) ?_; rotate_left) | (refine take_skipA' (G := ?_) ?_; rotate_left))) : Take L Lf R := h
theorem ev_le {E' E : Env} (h : EnvLe E' E := by repeat (first | exact EnvLe.nil _ | refine EnvLe.cons rfl ?_)) : EnvLe E' E := h
section
variable {x : Cx} {Q : Exit → Act → World → Prop} {E : Env} {ρ ρ0 : Hp} {L Ls : SH} {ops : Array Oper} {rest : List Oper} {ty : TypeId} {pos : String} {af : Array Edge} {d : Nat} {v : Value} {dd : Option Nat} {gd : Nat × Bool} {op : Op} {l : List Oper} {listed : List Bool} {fuel : Nat} {tail : List Oper}
theorem i_gd (h : TL x ops (⟨dd, op, ty, pos, af, some gd⟩ :: rest) Q E ρ L) : TL x ops (⟨dd, op, ty, pos, af, some gd⟩ :: rest) Q E ρ L := h
theorem i_op {o : Oper} (h : TL x ops (o :: rest) Q E ρ L) : TL x ops (o :: rest) Q E ρ L := h
theorem i_cond {c : Operand} {y z : Code} (h : TC x (.cond c y z) Q E ρ L) : TC x (.cond c y z) Q E ρ L := h
theorem i_miss {id id' : Nat} (h : TE x (.exit id') (Exit.inBlock id Q) E ρ L) : TE x (.exit id') (Exit.inBlock id Q) E ρ L := h
theorem j_gd (h : TS x ops (⟨dd, op, ty, pos, af, some gd⟩ :: rest) tail Q E ρ L) : TS x ops (⟨dd, op, ty, pos, af, some gd⟩ :: rest) tail Q E ρ L := h

theorem iMv {o : Operand} (h : TL x ops (⟨dd, .move o, ty, pos, af, none⟩ :: rest) Q E ρ L) : TL x ops (⟨dd, .move o, ty, pos, af, none⟩ :: rest) Q E ρ L := h
theorem qMv {o : Operand} (k : TL x ops rest Q ((d, v) :: E) ρ L) (y : Yl x (.move o) ty E ρ L v := by first | exact y_move rfl) (hd : Nat.blt d x.N = true := by rfl) : TL x ops (⟨some d, .move o, ty, pos, af, none⟩ :: rest) Q E ρ L := tl_y y hd rfl k
theorem jMv {o : Operand} (h : TS x ops (⟨dd, .move o, ty, pos, af, none⟩ :: rest) tail Q E ρ L) : TS x ops (⟨dd, .move o, ty, pos, af, none⟩ :: rest) tail Q E ρ L := h
theorem sMv {o : Operand} (k : TS x ops rest tail Q ((d, v) :: E) ρ L) (y : Yl x (.move o) ty E ρ L v := by first | exact y_move rfl) (hd : Nat.blt d x.N = true := by rfl) : TS x ops (⟨some d, .move o, ty, pos, af, none⟩ :: rest) tail Q E ρ L := ts_y y hd k
theorem rMv (n0 : Nat) {o : Operand} (k : TR x l (Stays x ρ0 Ls) fuel (lset listed n0) Q ((d, v) :: E) ρ L) (hb : takeB l listed n0 = true := by decide +kernel) (hi : l[n0]? = some ⟨some d, .move o, ty, pos, af, none⟩ := by rfl) (y : ∀ ρ', ρ0.le ρ' → Yl x (.move o) ty E ρ' Ls v := by intro _ _; first | exact y_move rfl) (hd : Nat.blt d x.N = true := by rfl) : TR x l (Stays x ρ0 Ls) (fuel + 1) listed Q E ρ L := tr_take n0 hb hi (ys_of' (fun _ h => h) y) hd k
theorem wMv (n0 : Nat) {o : Operand} {j t0 : Nat} {b0 : Bool} (k : TR x l (Stays x ρ0 Ls) fuel (lset listed n0) Q ((d, v) :: E) ρ L) (hb : takeB l listed n0 = true := by decide +kernel) (hi : l[n0]? = some ⟨some d, .move o, ty, pos, af, some (j, b0)⟩ := by rfl) (hj : (l[j]?).bind (·.dst) = some t0 := by rfl) (he : lk E t0 = some (.bool b0) := by rfl) (y : ∀ ρ', ρ0.le ρ' → Yl x (.move o) ty E ρ' Ls v := by intro _ _; first | exact y_move rfl) (hd : Nat.blt d x.N = true := by rfl) : TR x l (Stays x ρ0 Ls) (fuel + 1) listed Q E ρ L := tr_want n0 hb hi hj he (ys_of' (fun _ h => h) y) hd k
theorem iLd {o : Operand} {t : Nat} (h : TL x ops (⟨dd, .load t o, ty, pos, af, none⟩ :: rest) Q E ρ L) : TL x ops (⟨dd, .load t o, ty, pos, af, none⟩ :: rest) Q E ρ L := h
theorem qLd {o : Operand} {t : Nat} (k : TL x ops rest Q ((d, v) :: E) ρ L) (y : Yl x (.load t o) ty E ρ L v := by first | exact y_load_s rfl (by first | assumption | rfl) | exact y_load_a rfl (by first | assumption | rfl) | exact y_load_sub rfl | exact y_load_part rfl (by first | assumption | omega) (by assumption) | exact y_load_is rfl (by assumption) (by first | assumption | rfl) | exact y_load_ipart rfl (by assumption) (by first | assumption | omega) (by assumption) | exact y_load_is rfl (hp_get (by assumption) (by assumption)) (by first | assumption | rfl) | exact y_load_ipart rfl (hp_get (by assumption) (by assumption)) (by first | assumption | omega) (by assumption)) (hd : Nat.blt d x.N = true := by rfl) : TL x ops (⟨some d, .load t o, ty, pos, af, none⟩ :: rest) Q E ρ L := tl_y y hd rfl k
theorem jLd {o : Operand} {t : Nat} (h : TS x ops (⟨dd, .load t o, ty, pos, af, none⟩ :: rest) tail Q E ρ L) : TS x ops (⟨dd, .load t o, ty, pos, af, none⟩ :: rest) tail Q E ρ L := h
theorem sLd {o : Operand} {t : Nat} (k : TS x ops rest tail Q ((d, v) :: E) ρ L) (y : Yl x (.load t o) ty E ρ L v := by first | exact y_load_s rfl (by first | assumption | rfl) | exact y_load_a rfl (by first | assumption | rfl) | exact y_load_sub rfl | exact y_load_part rfl (by first | assumption | omega) (by assumption) | exact y_load_is rfl (by assumption) (by first | assumption | rfl) | exact y_load_ipart rfl (by assumption) (by first | assumption | omega) (by assumption) | exact y_load_is rfl (hp_get (by assumption) (by assumption)) (by first | assumption | rfl) | exact y_load_ipart rfl (hp_get (by assumption) (by assumption)) (by first | assumption | omega) (by assumption)) (hd : Nat.blt d x.N = true := by rfl) : TS x ops (⟨some d, .load t o, ty, pos, af, none⟩ :: rest) tail Q E ρ L := ts_y y hd k
theorem rLd (n0 : Nat) {o : Operand} {t : Nat} (k : TR x l (Stays x ρ0 Ls) fuel (lset listed n0) Q ((d, v) :: E) ρ L) (hb : takeB l listed n0 = true := by decide +kernel) (hi : l[n0]? = some ⟨some d, .load t o, ty, pos, af, none⟩ := by rfl) (y : ∀ ρ', ρ0.le ρ' → Yl x (.load t o) ty E ρ' Ls v := by intro _ _; first | exact y_load_s rfl (by first | assumption | rfl) | exact y_load_a rfl (by first | assumption | rfl) | exact y_load_sub rfl | exact y_load_part rfl (by first | assumption | omega) (by assumption) | exact y_load_is rfl (by assumption) (by first | assumption | rfl) | exact y_load_ipart rfl (by assumption) (by first | assumption | omega) (by assumption) | exact y_load_is rfl (hp_get (by assumption) (by assumption)) (by first | assumption | rfl) | exact y_load_ipart rfl (hp_get (by assumption) (by assumption)) (by first | assumption | omega) (by assumption)) (hd : Nat.blt d x.N = true := by rfl) : TR x l (Stays x ρ0 Ls) (fuel + 1) listed Q E ρ L := tr_take n0 hb hi (ys_of' (fun _ h => h) y) hd k
theorem wLd (n0 : Nat) {o : Operand} {t : Nat} {j t0 : Nat} {b0 : Bool} (k : TR x l (Stays x ρ0 Ls) fuel (lset listed n0) Q ((d, v) :: E) ρ L) (hb : takeB l listed n0 = true := by decide +kernel) (hi : l[n0]? = some ⟨some d, .load t o, ty, pos, af, some (j, b0)⟩ := by rfl) (hj : (l[j]?).bind (·.dst) = some t0 := by rfl) (he : lk E t0 = some (.bool b0) := by rfl) (y : ∀ ρ', ρ0.le ρ' → Yl x (.load t o) ty E ρ' Ls v := by intro _ _; first | exact y_load_s rfl (by first | assumption | rfl) | exact y_load_a rfl (by first | assumption | rfl) | exact y_load_sub rfl | exact y_load_part rfl (by first | assumption | omega) (by assumption) | exact y_load_is rfl (by assumption) (by first | assumption | rfl) | exact y_load_ipart rfl (by assumption) (by first | assumption | omega) (by assumption) | exact y_load_is rfl (hp_get (by assumption) (by assumption)) (by first | assumption | rfl) | exact y_load_ipart rfl (hp_get (by assumption) (by assumption)) (by first | assumption | omega) (by assumption)) (hd : Nat.blt d x.N = true := by rfl) : TR x l (Stays x ρ0 Ls) (fuel + 1) listed Q E ρ L := tr_want n0 hb hi hj he (ys_of' (fun _ h => h) y) hd k
theorem iFa {o : Operand} {s f : Nat} (h : TL x ops (⟨dd, .fieldAddr s o f, ty, pos, af, none⟩ :: rest) Q E ρ L) : TL x ops (⟨dd, .fieldAddr s o f, ty, pos, af, none⟩ :: rest) Q E ρ L := h
theorem qFa {o : Operand} {s f : Nat} (k : TL x ops rest Q ((d, v) :: E) ρ L) (y : Yl x (.fieldAddr s o f) ty E ρ L v := by first | exact y_fieldAddr0 rfl | exact y_fieldAddr rfl) (hd : Nat.blt d x.N = true := by rfl) : TL x ops (⟨some d, .fieldAddr s o f, ty, pos, af, none⟩ :: rest) Q E ρ L := tl_y y hd rfl k
theorem jFa {o : Operand} {s f : Nat} (h : TS x ops (⟨dd, .fieldAddr s o f, ty, pos, af, none⟩ :: rest) tail Q E ρ L) : TS x ops (⟨dd, .fieldAddr s o f, ty, pos, af, none⟩ :: rest) tail Q E ρ L := h
theorem sFa {o : Operand} {s f : Nat} (k : TS x ops rest tail Q ((d, v) :: E) ρ L) (y : Yl x (.fieldAddr s o f) ty E ρ L v := by first | exact y_fieldAddr0 rfl | exact y_fieldAddr rfl) (hd : Nat.blt d x.N = true := by rfl) : TS x ops (⟨some d, .fieldAddr s o f, ty, pos, af, none⟩ :: rest) tail Q E ρ L := ts_y y hd k
theorem rFa (n0 : Nat) {o : Operand} {s f : Nat} (k : TR x l (Stays x ρ0 Ls) fuel (lset listed n0) Q ((d, v) :: E) ρ L) (hb : takeB l listed n0 = true := by decide +kernel) (hi : l[n0]? = some ⟨some d, .fieldAddr s o f, ty, pos, af, none⟩ := by rfl) (y : ∀ ρ', ρ0.le ρ' → Yl x (.fieldAddr s o f) ty E ρ' Ls v := by intro _ _; first | exact y_fieldAddr0 rfl | exact y_fieldAddr rfl) (hd : Nat.blt d x.N = true := by rfl) : TR x l (Stays x ρ0 Ls) (fuel + 1) listed Q E ρ L := tr_take n0 hb hi (ys_of' (fun _ h => h) y) hd k
theorem wFa (n0 : Nat) {o : Operand} {s f : Nat} {j t0 : Nat} {b0 : Bool} (k : TR x l (Stays x ρ0 Ls) fuel (lset listed n0) Q ((d, v) :: E) ρ L) (hb : takeB l listed n0 = true := by decide +kernel) (hi : l[n0]? = some ⟨some d, .fieldAddr s o f, ty, pos, af, some (j, b0)⟩ := by rfl) (hj : (l[j]?).bind (·.dst) = some t0 := by rfl) (he : lk E t0 = some (.bool b0) := by rfl) (y : ∀ ρ', ρ0.le ρ' → Yl x (.fieldAddr s o f) ty E ρ' Ls v := by intro _ _; first | exact y_fieldAddr0 rfl | exact y_fieldAddr rfl) (hd : Nat.blt d x.N = true := by rfl) : TR x l (Stays x ρ0 Ls) (fuel + 1) listed Q E ρ L := tr_want n0 hb hi hj he (ys_of' (fun _ h => h) y) hd k
theorem iEx {o : Operand} {i : Nat} (h : TL x ops (⟨dd, .extract o i, ty, pos, af, none⟩ :: rest) Q E ρ L) : TL x ops (⟨dd, .extract o i, ty, pos, af, none⟩ :: rest) Q E ρ L := h
theorem qEx {o : Operand} {i : Nat} (k : TL x ops rest Q ((d, v) :: E) ρ L) (y : Yl x (.extract o i) ty E ρ L v := by first | exact y_extract rfl rfl) (hd : Nat.blt d x.N = true := by rfl) : TL x ops (⟨some d, .extract o i, ty, pos, af, none⟩ :: rest) Q E ρ L := tl_y y hd rfl k
theorem jEx {o : Operand} {i : Nat} (h : TS x ops (⟨dd, .extract o i, ty, pos, af, none⟩ :: rest) tail Q E ρ L) : TS x ops (⟨dd, .extract o i, ty, pos, af, none⟩ :: rest) tail Q E ρ L := h
theorem sEx {o : Operand} {i : Nat} (k : TS x ops rest tail Q ((d, v) :: E) ρ L) (y : Yl x (.extract o i) ty E ρ L v := by first | exact y_extract rfl rfl) (hd : Nat.blt d x.N = true := by rfl) : TS x ops (⟨some d, .extract o i, ty, pos, af, none⟩ :: rest) tail Q E ρ L := ts_y y hd k
theorem rEx (n0 : Nat) {o : Operand} {i : Nat} (k : TR x l (Stays x ρ0 Ls) fuel (lset listed n0) Q ((d, v) :: E) ρ L) (hb : takeB l listed n0 = true := by decide +kernel) (hi : l[n0]? = some ⟨some d, .extract o i, ty, pos, af, none⟩ := by rfl) (y : ∀ ρ', ρ0.le ρ' → Yl x (.extract o i) ty E ρ' Ls v := by intro _ _; first | exact y_extract rfl rfl) (hd : Nat.blt d x.N = true := by rfl) : TR x l (Stays x ρ0 Ls) (fuel + 1) listed Q E ρ L := tr_take n0 hb hi (ys_of' (fun _ h => h) y) hd k
theorem wEx (n0 : Nat) {o : Operand} {i : Nat} {j t0 : Nat} {b0 : Bool} (k : TR x l (Stays x ρ0 Ls) fuel (lset listed n0) Q ((d, v) :: E) ρ L) (hb : takeB l listed n0 = true := by decide +kernel) (hi : l[n0]? = some ⟨some d, .extract o i, ty, pos, af, some (j, b0)⟩ := by rfl) (hj : (l[j]?).bind (·.dst) = some t0 := by rfl) (he : lk E t0 = some (.bool b0) := by rfl) (y : ∀ ρ', ρ0.le ρ' → Yl x (.extract o i) ty E ρ' Ls v := by intro _ _; first | exact y_extract rfl rfl) (hd : Nat.blt d x.N = true := by rfl) : TR x l (Stays x ρ0 Ls) (fuel + 1) listed Q E ρ L := tr_want n0 hb hi hj he (ys_of' (fun _ h => h) y) hd k
theorem iAs {o : Operand} (h : TL x ops (⟨dd, .assign o, ty, pos, af, none⟩ :: rest) Q E ρ L) : TL x ops (⟨dd, .assign o, ty, pos, af, none⟩ :: rest) Q E ρ L := h
theorem qAs {o : Operand} (k : TL x ops rest Q ((d, v) :: E) ρ L) (y : Yl x (.assign o) ty E ρ L v := by first | exact y_assign rfl) (hd : Nat.blt d x.N = true := by rfl) : TL x ops (⟨some d, .assign o, ty, pos, af, none⟩ :: rest) Q E ρ L := tl_y y hd rfl k
theorem jAs {o : Operand} (h : TS x ops (⟨dd, .assign o, ty, pos, af, none⟩ :: rest) tail Q E ρ L) : TS x ops (⟨dd, .assign o, ty, pos, af, none⟩ :: rest) tail Q E ρ L := h
theorem sAs {o : Operand} (k : TS x ops rest tail Q ((d, v) :: E) ρ L) (y : Yl x (.assign o) ty E ρ L v := by first | exact y_assign rfl) (hd : Nat.blt d x.N = true := by rfl) : TS x ops (⟨some d, .assign o, ty, pos, af, none⟩ :: rest) tail Q E ρ L := ts_y y hd k
theorem rAs (n0 : Nat) {o : Operand} (k : TR x l (Stays x ρ0 Ls) fuel (lset listed n0) Q ((d, v) :: E) ρ L) (hb : takeB l listed n0 = true := by decide +kernel) (hi : l[n0]? = some ⟨some d, .assign o, ty, pos, af, none⟩ := by rfl) (y : ∀ ρ', ρ0.le ρ' → Yl x (.assign o) ty E ρ' Ls v := by intro _ _; first | exact y_assign rfl) (hd : Nat.blt d x.N = true := by rfl) : TR x l (Stays x ρ0 Ls) (fuel + 1) listed Q E ρ L := tr_take n0 hb hi (ys_of' (fun _ h => h) y) hd k
theorem wAs (n0 : Nat) {o : Operand} {j t0 : Nat} {b0 : Bool} (k : TR x l (Stays x ρ0 Ls) fuel (lset listed n0) Q ((d, v) :: E) ρ L) (hb : takeB l listed n0 = true := by decide +kernel) (hi : l[n0]? = some ⟨some d, .assign o, ty, pos, af, some (j, b0)⟩ := by rfl) (hj : (l[j]?).bind (·.dst) = some t0 := by rfl) (he : lk E t0 = some (.bool b0) := by rfl) (y : ∀ ρ', ρ0.le ρ' → Yl x (.assign o) ty E ρ' Ls v := by intro _ _; first | exact y_assign rfl) (hd : Nat.blt d x.N = true := by rfl) : TR x l (Stays x ρ0 Ls) (fuel + 1) listed Q E ρ L := tr_want n0 hb hi hj he (ys_of' (fun _ h => h) y) hd k
theorem iPk {c p q : Operand} (h : TL x ops (⟨dd, .pick c p q, ty, pos, af, none⟩ :: rest) Q E ρ L) : TL x ops (⟨dd, .pick c p q, ty, pos, af, none⟩ :: rest) Q E ρ L := h
theorem qPk {c p q : Operand} (k : TL x ops rest Q ((d, v) :: E) ρ L) (y : Yl x (.pick c p q) ty E ρ L v := by first | exact y_pick_t rfl rfl | exact y_pick_f rfl rfl) (hd : Nat.blt d x.N = true := by rfl) : TL x ops (⟨some d, .pick c p q, ty, pos, af, none⟩ :: rest) Q E ρ L := tl_y y hd rfl k
theorem jPk {c p q : Operand} (h : TS x ops (⟨dd, .pick c p q, ty, pos, af, none⟩ :: rest) tail Q E ρ L) : TS x ops (⟨dd, .pick c p q, ty, pos, af, none⟩ :: rest) tail Q E ρ L := h
theorem sPk {c p q : Operand} (k : TS x ops rest tail Q ((d, v) :: E) ρ L) (y : Yl x (.pick c p q) ty E ρ L v := by first | exact y_pick_t rfl rfl | exact y_pick_f rfl rfl) (hd : Nat.blt d x.N = true := by rfl) : TS x ops (⟨some d, .pick c p q, ty, pos, af, none⟩ :: rest) tail Q E ρ L := ts_y y hd k
theorem rPk (n0 : Nat) {c p q : Operand} (k : TR x l (Stays x ρ0 Ls) fuel (lset listed n0) Q ((d, v) :: E) ρ L) (hb : takeB l listed n0 = true := by decide +kernel) (hi : l[n0]? = some ⟨some d, .pick c p q, ty, pos, af, none⟩ := by rfl) (y : ∀ ρ', ρ0.le ρ' → Yl x (.pick c p q) ty E ρ' Ls v := by intro _ _; first | exact y_pick_t rfl rfl | exact y_pick_f rfl rfl) (hd : Nat.blt d x.N = true := by rfl) : TR x l (Stays x ρ0 Ls) (fuel + 1) listed Q E ρ L := tr_take n0 hb hi (ys_of' (fun _ h => h) y) hd k
theorem wPk (n0 : Nat) {c p q : Operand} {j t0 : Nat} {b0 : Bool} (k : TR x l (Stays x ρ0 Ls) fuel (lset listed n0) Q ((d, v) :: E) ρ L) (hb : takeB l listed n0 = true := by decide +kernel) (hi : l[n0]? = some ⟨some d, .pick c p q, ty, pos, af, some (j, b0)⟩ := by rfl) (hj : (l[j]?).bind (·.dst) = some t0 := by rfl) (he : lk E t0 = some (.bool b0) := by rfl) (y : ∀ ρ', ρ0.le ρ' → Yl x (.pick c p q) ty E ρ' Ls v := by intro _ _; first | exact y_pick_t rfl rfl | exact y_pick_f rfl rfl) (hd : Nat.blt d x.N = true := by rfl) : TR x l (Stays x ρ0 Ls) (fuel + 1) listed Q E ρ L := tr_want n0 hb hi hj he (ys_of' (fun _ h => h) y) hd k
theorem iAd {p q : Operand} {t t' : Nat} (h : TL x ops (⟨dd, (.binOp .add t p q t'), ty, pos, af, none⟩ :: rest) Q E ρ L) : TL x ops (⟨dd, (.binOp .add t p q t'), ty, pos, af, none⟩ :: rest) Q E ρ L := h
theorem qAd {p q : Operand} {t t' : Nat} (k : TL x ops rest Q ((d, v) :: E) ρ L) (y : Yl x ((.binOp .add t p q t')) ty E ρ L v := by first | exact y_add rfl rfl (by simp only [Go.Proofs.E.lo, Go.Proofs.E.hi]; omega) | exact y_add_w rfl rfl) (hd : Nat.blt d x.N = true := by rfl) : TL x ops (⟨some d, (.binOp .add t p q t'), ty, pos, af, none⟩ :: rest) Q E ρ L := tl_y y hd rfl k
theorem jAd {p q : Operand} {t t' : Nat} (h : TS x ops (⟨dd, (.binOp .add t p q t'), ty, pos, af, none⟩ :: rest) tail Q E ρ L) : TS x ops (⟨dd, (.binOp .add t p q t'), ty, pos, af, none⟩ :: rest) tail Q E ρ L := h
theorem sAd {p q : Operand} {t t' : Nat} (k : TS x ops rest tail Q ((d, v) :: E) ρ L) (y : Yl x ((.binOp .add t p q t')) ty E ρ L v := by first | exact y_add rfl rfl (by simp only [Go.Proofs.E.lo, Go.Proofs.E.hi]; omega) | exact y_add_w rfl rfl) (hd : Nat.blt d x.N = true := by rfl) : TS x ops (⟨some d, (.binOp .add t p q t'), ty, pos, af, none⟩ :: rest) tail Q E ρ L := ts_y y hd k
theorem rAd (n0 : Nat) {p q : Operand} {t t' : Nat} (k : TR x l (Stays x ρ0 Ls) fuel (lset listed n0) Q ((d, v) :: E) ρ L) (hb : takeB l listed n0 = true := by decide +kernel) (hi : l[n0]? = some ⟨some d, (.binOp .add t p q t'), ty, pos, af, none⟩ := by rfl) (y : ∀ ρ', ρ0.le ρ' → Yl x ((.binOp .add t p q t')) ty E ρ' Ls v := by intro _ _; first | exact y_add rfl rfl (by simp only [Go.Proofs.E.lo, Go.Proofs.E.hi]; omega) | exact y_add_w rfl rfl) (hd : Nat.blt d x.N = true := by rfl) : TR x l (Stays x ρ0 Ls) (fuel + 1) listed Q E ρ L := tr_take n0 hb hi (ys_of' (fun _ h => h) y) hd k
theorem wAd (n0 : Nat) {p q : Operand} {t t' : Nat} {j t0 : Nat} {b0 : Bool} (k : TR x l (Stays x ρ0 Ls) fuel (lset listed n0) Q ((d, v) :: E) ρ L) (hb : takeB l listed n0 = true := by decide +kernel) (hi : l[n0]? = some ⟨some d, (.binOp .add t p q t'), ty, pos, af, some (j, b0)⟩ := by rfl) (hj : (l[j]?).bind (·.dst) = some t0 := by rfl) (he : lk E t0 = some (.bool b0) := by rfl) (y : ∀ ρ', ρ0.le ρ' → Yl x ((.binOp .add t p q t')) ty E ρ' Ls v := by intro _ _; first | exact y_add rfl rfl (by simp only [Go.Proofs.E.lo, Go.Proofs.E.hi]; omega) | exact y_add_w rfl rfl) (hd : Nat.blt d x.N = true := by rfl) : TR x l (Stays x ρ0 Ls) (fuel + 1) listed Q E ρ L := tr_want n0 hb hi hj he (ys_of' (fun _ h => h) y) hd k
theorem iSb {p q : Operand} {t t' : Nat} (h : TL x ops (⟨dd, (.binOp .sub t p q t'), ty, pos, af, none⟩ :: rest) Q E ρ L) : TL x ops (⟨dd, (.binOp .sub t p q t'), ty, pos, af, none⟩ :: rest) Q E ρ L := h
theorem qSb {p q : Operand} {t t' : Nat} (k : TL x ops rest Q ((d, v) :: E) ρ L) (y : Yl x ((.binOp .sub t p q t')) ty E ρ L v := by first | exact y_sub rfl rfl (by simp only [Go.Proofs.E.lo, Go.Proofs.E.hi]; omega) | exact y_sub_w rfl rfl) (hd : Nat.blt d x.N = true := by rfl) : TL x ops (⟨some d, (.binOp .sub t p q t'), ty, pos, af, none⟩ :: rest) Q E ρ L := tl_y y hd rfl k
theorem jSb {p q : Operand} {t t' : Nat} (h : TS x ops (⟨dd, (.binOp .sub t p q t'), ty, pos, af, none⟩ :: rest) tail Q E ρ L) : TS x ops (⟨dd, (.binOp .sub t p q t'), ty, pos, af, none⟩ :: rest) tail Q E ρ L := h
theorem sSb {p q : Operand} {t t' : Nat} (k : TS x ops rest tail Q ((d, v) :: E) ρ L) (y : Yl x ((.binOp .sub t p q t')) ty E ρ L v := by first | exact y_sub rfl rfl (by simp only [Go.Proofs.E.lo, Go.Proofs.E.hi]; omega) | exact y_sub_w rfl rfl) (hd : Nat.blt d x.N = true := by rfl) : TS x ops (⟨some d, (.binOp .sub t p q t'), ty, pos, af, none⟩ :: rest) tail Q E ρ L := ts_y y hd k
theorem rSb (n0 : Nat) {p q : Operand} {t t' : Nat} (k : TR x l (Stays x ρ0 Ls) fuel (lset listed n0) Q ((d, v) :: E) ρ L) (hb : takeB l listed n0 = true := by decide +kernel) (hi : l[n0]? = some ⟨some d, (.binOp .sub t p q t'), ty, pos, af, none⟩ := by rfl) (y : ∀ ρ', ρ0.le ρ' → Yl x ((.binOp .sub t p q t')) ty E ρ' Ls v := by intro _ _; first | exact y_sub rfl rfl (by simp only [Go.Proofs.E.lo, Go.Proofs.E.hi]; omega) | exact y_sub_w rfl rfl) (hd : Nat.blt d x.N = true := by rfl) : TR x l (Stays x ρ0 Ls) (fuel + 1) listed Q E ρ L := tr_take n0 hb hi (ys_of' (fun _ h => h) y) hd k
theorem wSb (n0 : Nat) {p q : Operand} {t t' : Nat} {j t0 : Nat} {b0 : Bool} (k : TR x l (Stays x ρ0 Ls) fuel (lset listed n0) Q ((d, v) :: E) ρ L) (hb : takeB l listed n0 = true := by decide +kernel) (hi : l[n0]? = some ⟨some d, (.binOp .sub t p q t'), ty, pos, af, some (j, b0)⟩ := by rfl) (hj : (l[j]?).bind (·.dst) = some t0 := by rfl) (he : lk E t0 = some (.bool b0) := by rfl) (y : ∀ ρ', ρ0.le ρ' → Yl x ((.binOp .sub t p q t')) ty E ρ' Ls v := by intro _ _; first | exact y_sub rfl rfl (by simp only [Go.Proofs.E.lo, Go.Proofs.E.hi]; omega) | exact y_sub_w rfl rfl) (hd : Nat.blt d x.N = true := by rfl) : TR x l (Stays x ρ0 Ls) (fuel + 1) listed Q E ρ L := tr_want n0 hb hi hj he (ys_of' (fun _ h => h) y) hd k
theorem iMl {p q : Operand} {t t' : Nat} (h : TL x ops (⟨dd, (.binOp .mul t p q t'), ty, pos, af, none⟩ :: rest) Q E ρ L) : TL x ops (⟨dd, (.binOp .mul t p q t'), ty, pos, af, none⟩ :: rest) Q E ρ L := h
theorem qMl {p q : Operand} {t t' : Nat} (k : TL x ops rest Q ((d, v) :: E) ρ L) (y : Yl x ((.binOp .mul t p q t')) ty E ρ L v := by first | exact y_mul rfl rfl (by simp only [Go.Proofs.E.lo, Go.Proofs.E.hi]; omega) | exact y_mul_w rfl rfl) (hd : Nat.blt d x.N = true := by rfl) : TL x ops (⟨some d, (.binOp .mul t p q t'), ty, pos, af, none⟩ :: rest) Q E ρ L := tl_y y hd rfl k
theorem jMl {p q : Operand} {t t' : Nat} (h : TS x ops (⟨dd, (.binOp .mul t p q t'), ty, pos, af, none⟩ :: rest) tail Q E ρ L) : TS x ops (⟨dd, (.binOp .mul t p q t'), ty, pos, af, none⟩ :: rest) tail Q E ρ L := h
theorem sMl {p q : Operand} {t t' : Nat} (k : TS x ops rest tail Q ((d, v) :: E) ρ L) (y : Yl x ((.binOp .mul t p q t')) ty E ρ L v := by first | exact y_mul rfl rfl (by simp only [Go.Proofs.E.lo, Go.Proofs.E.hi]; omega) | exact y_mul_w rfl rfl) (hd : Nat.blt d x.N = true := by rfl) : TS x ops (⟨some d, (.binOp .mul t p q t'), ty, pos, af, none⟩ :: rest) tail Q E ρ L := ts_y y hd k
theorem rMl (n0 : Nat) {p q : Operand} {t t' : Nat} (k : TR x l (Stays x ρ0 Ls) fuel (lset listed n0) Q ((d, v) :: E) ρ L) (hb : takeB l listed n0 = true := by decide +kernel) (hi : l[n0]? = some ⟨some d, (.binOp .mul t p q t'), ty, pos, af, none⟩ := by rfl) (y : ∀ ρ', ρ0.le ρ' → Yl x ((.binOp .mul t p q t')) ty E ρ' Ls v := by intro _ _; first | exact y_mul rfl rfl (by simp only [Go.Proofs.E.lo, Go.Proofs.E.hi]; omega) | exact y_mul_w rfl rfl) (hd : Nat.blt d x.N = true := by rfl) : TR x l (Stays x ρ0 Ls) (fuel + 1) listed Q E ρ L := tr_take n0 hb hi (ys_of' (fun _ h => h) y) hd k
theorem wMl (n0 : Nat) {p q : Operand} {t t' : Nat} {j t0 : Nat} {b0 : Bool} (k : TR x l (Stays x ρ0 Ls) fuel (lset listed n0) Q ((d, v) :: E) ρ L) (hb : takeB l listed n0 = true := by decide +kernel) (hi : l[n0]? = some ⟨some d, (.binOp .mul t p q t'), ty, pos, af, some (j, b0)⟩ := by rfl) (hj : (l[j]?).bind (·.dst) = some t0 := by rfl) (he : lk E t0 = some (.bool b0) := by rfl) (y : ∀ ρ', ρ0.le ρ' → Yl x ((.binOp .mul t p q t')) ty E ρ' Ls v := by intro _ _; first | exact y_mul rfl rfl (by simp only [Go.Proofs.E.lo, Go.Proofs.E.hi]; omega) | exact y_mul_w rfl rfl) (hd : Nat.blt d x.N = true := by rfl) : TR x l (Stays x ρ0 Ls) (fuel + 1) listed Q E ρ L := tr_want n0 hb hi hj he (ys_of' (fun _ h => h) y) hd k
theorem iQu {p q : Operand} {t t' : Nat} (h : TL x ops (⟨dd, (.binOp .quo t p q t'), ty, pos, af, none⟩ :: rest) Q E ρ L) : TL x ops (⟨dd, (.binOp .quo t p q t'), ty, pos, af, none⟩ :: rest) Q E ρ L := h
theorem qQu {p q : Operand} {t t' : Nat} (k : TL x ops rest Q ((d, v) :: E) ρ L) (y : Yl x ((.binOp .quo t p q t')) ty E ρ L v := by first | exact y_quo_w rfl rfl (by omega)) (hd : Nat.blt d x.N = true := by rfl) : TL x ops (⟨some d, (.binOp .quo t p q t'), ty, pos, af, none⟩ :: rest) Q E ρ L := tl_y y hd rfl k
theorem jQu {p q : Operand} {t t' : Nat} (h : TS x ops (⟨dd, (.binOp .quo t p q t'), ty, pos, af, none⟩ :: rest) tail Q E ρ L) : TS x ops (⟨dd, (.binOp .quo t p q t'), ty, pos, af, none⟩ :: rest) tail Q E ρ L := h
theorem sQu {p q : Operand} {t t' : Nat} (k : TS x ops rest tail Q ((d, v) :: E) ρ L) (y : Yl x ((.binOp .quo t p q t')) ty E ρ L v := by first | exact y_quo_w rfl rfl (by omega)) (hd : Nat.blt d x.N = true := by rfl) : TS x ops (⟨some d, (.binOp .quo t p q t'), ty, pos, af, none⟩ :: rest) tail Q E ρ L := ts_y y hd k
theorem rQu (n0 : Nat) {p q : Operand} {t t' : Nat} (k : TR x l (Stays x ρ0 Ls) fuel (lset listed n0) Q ((d, v) :: E) ρ L) (hb : takeB l listed n0 = true := by decide +kernel) (hi : l[n0]? = some ⟨some d, (.binOp .quo t p q t'), ty, pos, af, none⟩ := by rfl) (y : ∀ ρ', ρ0.le ρ' → Yl x ((.binOp .quo t p q t')) ty E ρ' Ls v := by intro _ _; first | exact y_quo_w rfl rfl (by omega)) (hd : Nat.blt d x.N = true := by rfl) : TR x l (Stays x ρ0 Ls) (fuel + 1) listed Q E ρ L := tr_take n0 hb hi (ys_of' (fun _ h => h) y) hd k
theorem wQu (n0 : Nat) {p q : Operand} {t t' : Nat} {j t0 : Nat} {b0 : Bool} (k : TR x l (Stays x ρ0 Ls) fuel (lset listed n0) Q ((d, v) :: E) ρ L) (hb : takeB l listed n0 = true := by decide +kernel) (hi : l[n0]? = some ⟨some d, (.binOp .quo t p q t'), ty, pos, af, some (j, b0)⟩ := by rfl) (hj : (l[j]?).bind (·.dst) = some t0 := by rfl) (he : lk E t0 = some (.bool b0) := by rfl) (y : ∀ ρ', ρ0.le ρ' → Yl x ((.binOp .quo t p q t')) ty E ρ' Ls v := by intro _ _; first | exact y_quo_w rfl rfl (by omega)) (hd : Nat.blt d x.N = true := by rfl) : TR x l (Stays x ρ0 Ls) (fuel + 1) listed Q E ρ L := tr_want n0 hb hi hj he (ys_of' (fun _ h => h) y) hd k
theorem iRm {p q : Operand} {t t' : Nat} (h : TL x ops (⟨dd, (.binOp .rem t p q t'), ty, pos, af, none⟩ :: rest) Q E ρ L) : TL x ops (⟨dd, (.binOp .rem t p q t'), ty, pos, af, none⟩ :: rest) Q E ρ L := h
theorem qRm {p q : Operand} {t t' : Nat} (k : TL x ops rest Q ((d, v) :: E) ρ L) (y : Yl x ((.binOp .rem t p q t')) ty E ρ L v := by first | exact y_rem rfl rfl (by omega)) (hd : Nat.blt d x.N = true := by rfl) : TL x ops (⟨some d, (.binOp .rem t p q t'), ty, pos, af, none⟩ :: rest) Q E ρ L := tl_y y hd rfl k
theorem jRm {p q : Operand} {t t' : Nat} (h : TS x ops (⟨dd, (.binOp .rem t p q t'), ty, pos, af, none⟩ :: rest) tail Q E ρ L) : TS x ops (⟨dd, (.binOp .rem t p q t'), ty, pos, af, none⟩ :: rest) tail Q E ρ L := h
theorem sRm {p q : Operand} {t t' : Nat} (k : TS x ops rest tail Q ((d, v) :: E) ρ L) (y : Yl x ((.binOp .rem t p q t')) ty E ρ L v := by first | exact y_rem rfl rfl (by omega)) (hd : Nat.blt d x.N = true := by rfl) : TS x ops (⟨some d, (.binOp .rem t p q t'), ty, pos, af, none⟩ :: rest) tail Q E ρ L := ts_y y hd k
theorem rRm (n0 : Nat) {p q : Operand} {t t' : Nat} (k : TR x l (Stays x ρ0 Ls) fuel (lset listed n0) Q ((d, v) :: E) ρ L) (hb : takeB l listed n0 = true := by decide +kernel) (hi : l[n0]? = some ⟨some d, (.binOp .rem t p q t'), ty, pos, af, none⟩ := by rfl) (y : ∀ ρ', ρ0.le ρ' → Yl x ((.binOp .rem t p q t')) ty E ρ' Ls v := by intro _ _; first | exact y_rem rfl rfl (by omega)) (hd : Nat.blt d x.N = true := by rfl) : TR x l (Stays x ρ0 Ls) (fuel + 1) listed Q E ρ L := tr_take n0 hb hi (ys_of' (fun _ h => h) y) hd k
theorem wRm (n0 : Nat) {p q : Operand} {t t' : Nat} {j t0 : Nat} {b0 : Bool} (k : TR x l (Stays x ρ0 Ls) fuel (lset listed n0) Q ((d, v) :: E) ρ L) (hb : takeB l listed n0 = true := by decide +kernel) (hi : l[n0]? = some ⟨some d, (.binOp .rem t p q t'), ty, pos, af, some (j, b0)⟩ := by rfl) (hj : (l[j]?).bind (·.dst) = some t0 := by rfl) (he : lk E t0 = some (.bool b0) := by rfl) (y : ∀ ρ', ρ0.le ρ' → Yl x ((.binOp .rem t p q t')) ty E ρ' Ls v := by intro _ _; first | exact y_rem rfl rfl (by omega)) (hd : Nat.blt d x.N = true := by rfl) : TR x l (Stays x ρ0 Ls) (fuel + 1) listed Q E ρ L := tr_want n0 hb hi hj he (ys_of' (fun _ h => h) y) hd k
theorem iSr {p q : Operand} {t t' : Nat} (h : TL x ops (⟨dd, (.binOp .shr t p q t'), ty, pos, af, none⟩ :: rest) Q E ρ L) : TL x ops (⟨dd, (.binOp .shr t p q t'), ty, pos, af, none⟩ :: rest) Q E ρ L := h
theorem qSr {p q : Operand} {t t' : Nat} (k : TL x ops rest Q ((d, v) :: E) ρ L) (y : Yl x ((.binOp .shr t p q t')) ty E ρ L v := by first | exact y_shr rfl rfl (by omega) (by simp [IntKind.bits]; rfl) | exact y_shr rfl rfl (by omega) rfl) (hd : Nat.blt d x.N = true := by rfl) : TL x ops (⟨some d, (.binOp .shr t p q t'), ty, pos, af, none⟩ :: rest) Q E ρ L := tl_y y hd rfl k
theorem jSr {p q : Operand} {t t' : Nat} (h : TS x ops (⟨dd, (.binOp .shr t p q t'), ty, pos, af, none⟩ :: rest) tail Q E ρ L) : TS x ops (⟨dd, (.binOp .shr t p q t'), ty, pos, af, none⟩ :: rest) tail Q E ρ L := h
theorem sSr {p q : Operand} {t t' : Nat} (k : TS x ops rest tail Q ((d, v) :: E) ρ L) (y : Yl x ((.binOp .shr t p q t')) ty E ρ L v := by first | exact y_shr rfl rfl (by omega) (by simp [IntKind.bits]; rfl) | exact y_shr rfl rfl (by omega) rfl) (hd : Nat.blt d x.N = true := by rfl) : TS x ops (⟨some d, (.binOp .shr t p q t'), ty, pos, af, none⟩ :: rest) tail Q E ρ L := ts_y y hd k
theorem rSr (n0 : Nat) {p q : Operand} {t t' : Nat} (k : TR x l (Stays x ρ0 Ls) fuel (lset listed n0) Q ((d, v) :: E) ρ L) (hb : takeB l listed n0 = true := by decide +kernel) (hi : l[n0]? = some ⟨some d, (.binOp .shr t p q t'), ty, pos, af, none⟩ := by rfl) (y : ∀ ρ', ρ0.le ρ' → Yl x ((.binOp .shr t p q t')) ty E ρ' Ls v := by intro _ _; first | exact y_shr rfl rfl (by omega) (by simp [IntKind.bits]; rfl) | exact y_shr rfl rfl (by omega) rfl) (hd : Nat.blt d x.N = true := by rfl) : TR x l (Stays x ρ0 Ls) (fuel + 1) listed Q E ρ L := tr_take n0 hb hi (ys_of' (fun _ h => h) y) hd k
theorem wSr (n0 : Nat) {p q : Operand} {t t' : Nat} {j t0 : Nat} {b0 : Bool} (k : TR x l (Stays x ρ0 Ls) fuel (lset listed n0) Q ((d, v) :: E) ρ L) (hb : takeB l listed n0 = true := by decide +kernel) (hi : l[n0]? = some ⟨some d, (.binOp .shr t p q t'), ty, pos, af, some (j, b0)⟩ := by rfl) (hj : (l[j]?).bind (·.dst) = some t0 := by rfl) (he : lk E t0 = some (.bool b0) := by rfl) (y : ∀ ρ', ρ0.le ρ' → Yl x ((.binOp .shr t p q t')) ty E ρ' Ls v := by intro _ _; first | exact y_shr rfl rfl (by omega) (by simp [IntKind.bits]; rfl) | exact y_shr rfl rfl (by omega) rfl) (hd : Nat.blt d x.N = true := by rfl) : TR x l (Stays x ρ0 Ls) (fuel + 1) listed Q E ρ L := tr_want n0 hb hi hj he (ys_of' (fun _ h => h) y) hd k
theorem iSh {p q : Operand} {t t' : Nat} (h : TL x ops (⟨dd, (.binOp .shl t p q t'), ty, pos, af, none⟩ :: rest) Q E ρ L) : TL x ops (⟨dd, (.binOp .shl t p q t'), ty, pos, af, none⟩ :: rest) Q E ρ L := h
theorem qSh {p q : Operand} {t t' : Nat} (k : TL x ops rest Q ((d, v) :: E) ρ L) (y : Yl x ((.binOp .shl t p q t')) ty E ρ L v := by first | exact y_shl8 rfl rfl (by simp only [Go.Proofs.E.lo, Go.Proofs.E.hi]; omega) (by decide) | exact y_shl rfl rfl (by omega) (by simp [IntKind.bits]; rfl) | exact y_shl rfl rfl (by omega) rfl) (hd : Nat.blt d x.N = true := by rfl) : TL x ops (⟨some d, (.binOp .shl t p q t'), ty, pos, af, none⟩ :: rest) Q E ρ L := tl_y y hd rfl k
theorem jSh {p q : Operand} {t t' : Nat} (h : TS x ops (⟨dd, (.binOp .shl t p q t'), ty, pos, af, none⟩ :: rest) tail Q E ρ L) : TS x ops (⟨dd, (.binOp .shl t p q t'), ty, pos, af, none⟩ :: rest) tail Q E ρ L := h
theorem sSh {p q : Operand} {t t' : Nat} (k : TS x ops rest tail Q ((d, v) :: E) ρ L) (y : Yl x ((.binOp .shl t p q t')) ty E ρ L v := by first | exact y_shl8 rfl rfl (by simp only [Go.Proofs.E.lo, Go.Proofs.E.hi]; omega) (by decide) | exact y_shl rfl rfl (by omega) (by simp [IntKind.bits]; rfl) | exact y_shl rfl rfl (by omega) rfl) (hd : Nat.blt d x.N = true := by rfl) : TS x ops (⟨some d, (.binOp .shl t p q t'), ty, pos, af, none⟩ :: rest) tail Q E ρ L := ts_y y hd k
theorem rSh (n0 : Nat) {p q : Operand} {t t' : Nat} (k : TR x l (Stays x ρ0 Ls) fuel (lset listed n0) Q ((d, v) :: E) ρ L) (hb : takeB l listed n0 = true := by decide +kernel) (hi : l[n0]? = some ⟨some d, (.binOp .shl t p q t'), ty, pos, af, none⟩ := by rfl) (y : ∀ ρ', ρ0.le ρ' → Yl x ((.binOp .shl t p q t')) ty E ρ' Ls v := by intro _ _; first | exact y_shl8 rfl rfl (by simp only [Go.Proofs.E.lo, Go.Proofs.E.hi]; omega) (by decide) | exact y_shl rfl rfl (by omega) (by simp [IntKind.bits]; rfl) | exact y_shl rfl rfl (by omega) rfl) (hd : Nat.blt d x.N = true := by rfl) : TR x l (Stays x ρ0 Ls) (fuel + 1) listed Q E ρ L := tr_take n0 hb hi (ys_of' (fun _ h => h) y) hd k
theorem wSh (n0 : Nat) {p q : Operand} {t t' : Nat} {j t0 : Nat} {b0 : Bool} (k : TR x l (Stays x ρ0 Ls) fuel (lset listed n0) Q ((d, v) :: E) ρ L) (hb : takeB l listed n0 = true := by decide +kernel) (hi : l[n0]? = some ⟨some d, (.binOp .shl t p q t'), ty, pos, af, some (j, b0)⟩ := by rfl) (hj : (l[j]?).bind (·.dst) = some t0 := by rfl) (he : lk E t0 = some (.bool b0) := by rfl) (y : ∀ ρ', ρ0.le ρ' → Yl x ((.binOp .shl t p q t')) ty E ρ' Ls v := by intro _ _; first | exact y_shl8 rfl rfl (by simp only [Go.Proofs.E.lo, Go.Proofs.E.hi]; omega) (by decide) | exact y_shl rfl rfl (by omega) (by simp [IntKind.bits]; rfl) | exact y_shl rfl rfl (by omega) rfl) (hd : Nat.blt d x.N = true := by rfl) : TR x l (Stays x ρ0 Ls) (fuel + 1) listed Q E ρ L := tr_want n0 hb hi hj he (ys_of' (fun _ h => h) y) hd k
theorem iOr {p q : Operand} {t t' : Nat} (h : TL x ops (⟨dd, (.binOp .or t p q t'), ty, pos, af, none⟩ :: rest) Q E ρ L) : TL x ops (⟨dd, (.binOp .or t p q t'), ty, pos, af, none⟩ :: rest) Q E ρ L := h
theorem qOr {p q : Operand} {t t' : Nat} (k : TL x ops rest Q ((d, v) :: E) ρ L) (y : Yl x ((.binOp .or t p q t')) ty E ρ L v := by first | exact y_or8 rfl rfl (by omega)) (hd : Nat.blt d x.N = true := by rfl) : TL x ops (⟨some d, (.binOp .or t p q t'), ty, pos, af, none⟩ :: rest) Q E ρ L := tl_y y hd rfl k
theorem jOr {p q : Operand} {t t' : Nat} (h : TS x ops (⟨dd, (.binOp .or t p q t'), ty, pos, af, none⟩ :: rest) tail Q E ρ L) : TS x ops (⟨dd, (.binOp .or t p q t'), ty, pos, af, none⟩ :: rest) tail Q E ρ L := h
theorem sOr {p q : Operand} {t t' : Nat} (k : TS x ops rest tail Q ((d, v) :: E) ρ L) (y : Yl x ((.binOp .or t p q t')) ty E ρ L v := by first | exact y_or8 rfl rfl (by omega)) (hd : Nat.blt d x.N = true := by rfl) : TS x ops (⟨some d, (.binOp .or t p q t'), ty, pos, af, none⟩ :: rest) tail Q E ρ L := ts_y y hd k
theorem rOr (n0 : Nat) {p q : Operand} {t t' : Nat} (k : TR x l (Stays x ρ0 Ls) fuel (lset listed n0) Q ((d, v) :: E) ρ L) (hb : takeB l listed n0 = true := by decide +kernel) (hi : l[n0]? = some ⟨some d, (.binOp .or t p q t'), ty, pos, af, none⟩ := by rfl) (y : ∀ ρ', ρ0.le ρ' → Yl x ((.binOp .or t p q t')) ty E ρ' Ls v := by intro _ _; first | exact y_or8 rfl rfl (by omega)) (hd : Nat.blt d x.N = true := by rfl) : TR x l (Stays x ρ0 Ls) (fuel + 1) listed Q E ρ L := tr_take n0 hb hi (ys_of' (fun _ h => h) y) hd k
theorem wOr (n0 : Nat) {p q : Operand} {t t' : Nat} {j t0 : Nat} {b0 : Bool} (k : TR x l (Stays x ρ0 Ls) fuel (lset listed n0) Q ((d, v) :: E) ρ L) (hb : takeB l listed n0 = true := by decide +kernel) (hi : l[n0]? = some ⟨some d, (.binOp .or t p q t'), ty, pos, af, some (j, b0)⟩ := by rfl) (hj : (l[j]?).bind (·.dst) = some t0 := by rfl) (he : lk E t0 = some (.bool b0) := by rfl) (y : ∀ ρ', ρ0.le ρ' → Yl x ((.binOp .or t p q t')) ty E ρ' Ls v := by intro _ _; first | exact y_or8 rfl rfl (by omega)) (hd : Nat.blt d x.N = true := by rfl) : TR x l (Stays x ρ0 Ls) (fuel + 1) listed Q E ρ L := tr_want n0 hb hi hj he (ys_of' (fun _ h => h) y) hd k
theorem iCm {o : BinOp} {p q : Operand} {t t' : Nat} (h : TL x ops (⟨dd, (.binOp o t p q t'), ty, pos, af, none⟩ :: rest) Q E ρ L) : TL x ops (⟨dd, (.binOp o t p q t'), ty, pos, af, none⟩ :: rest) Q E ρ L := h
theorem qCm {o : BinOp} {p q : Operand} {t t' : Nat} (k : TL x ops rest Q ((d, v) :: E) ρ L) (y : Yl x ((.binOp o t p q t')) ty E ρ L v := by first | exact y_cmp (b := true) (by rfl) (by rfl) (by first | rfl | exact cmpB_ne_self | exact cmpB_eq_self | (simp only [cmpB, Option.some.injEq, decide_eq_true_eq, decide_eq_false_iff_not, beq_iff_eq, bne_iff_ne, beq_eq_false_iff_ne, bne_eq_false_iff_eq, ne_eq]; omega)) | exact y_cmp (b := false) (by rfl) (by rfl) (by first | rfl | exact cmpB_ne_self | exact cmpB_eq_self | (simp only [cmpB, Option.some.injEq, decide_eq_true_eq, decide_eq_false_iff_not, beq_iff_eq, bne_iff_ne, beq_eq_false_iff_ne, bne_eq_false_iff_eq, ne_eq]; omega)) | exact y_cmp rfl rfl rfl | exact y_ptr_nil rfl rfl rfl | exact y_func_nil rfl rfl rfl rfl | exact y_slice_nil rfl rfl rfl | exact y_map_nil rfl rfl rfl | exact y_eqs rfl rfl (by first | assumption | rfl) | exact y_nes rfl rfl (by first | assumption | rfl) | exact y_eqd rfl rfl (by first | assumption | rfl) (by first | assumption | rfl) (by assumption) | exact y_ned rfl rfl (by first | assumption | rfl) (by first | assumption | rfl) (by assumption) | exact y_eq_bytes rfl rfl (by first | assumption | rfl) (by first | assumption | rfl) rfl | exact y_bool_eq rfl rfl eqB_bool_self | exact y_bool_eq rfl rfl eqB_bool_nself | exact y_bool_eq rfl rfl rfl | exact y_str_eq rfl rfl rfl | exact y_eqc_l (c := _) rfl rfl (by assumption) rfl | exact y_eqc rfl rfl rfl) (hd : Nat.blt d x.N = true := by rfl) : TL x ops (⟨some d, (.binOp o t p q t'), ty, pos, af, none⟩ :: rest) Q E ρ L := tl_y y hd rfl k
theorem jCm {o : BinOp} {p q : Operand} {t t' : Nat} (h : TS x ops (⟨dd, (.binOp o t p q t'), ty, pos, af, none⟩ :: rest) tail Q E ρ L) : TS x ops (⟨dd, (.binOp o t p q t'), ty, pos, af, none⟩ :: rest) tail Q E ρ L := h
theorem sCm {o : BinOp} {p q : Operand} {t t' : Nat} (k : TS x ops rest tail Q ((d, v) :: E) ρ L) (y : Yl x ((.binOp o t p q t')) ty E ρ L v := by first | exact y_cmp (b := true) (by rfl) (by rfl) (by first | rfl | exact cmpB_ne_self | exact cmpB_eq_self | (simp only [cmpB, Option.some.injEq, decide_eq_true_eq, decide_eq_false_iff_not, beq_iff_eq, bne_iff_ne, beq_eq_false_iff_ne, bne_eq_false_iff_eq, ne_eq]; omega)) | exact y_cmp (b := false) (by rfl) (by rfl) (by first | rfl | exact cmpB_ne_self | exact cmpB_eq_self | (simp only [cmpB, Option.some.injEq, decide_eq_true_eq, decide_eq_false_iff_not, beq_iff_eq, bne_iff_ne, beq_eq_false_iff_ne, bne_eq_false_iff_eq, ne_eq]; omega)) | exact y_cmp rfl rfl rfl | exact y_ptr_nil rfl rfl rfl | exact y_func_nil rfl rfl rfl rfl | exact y_slice_nil rfl rfl rfl | exact y_map_nil rfl rfl rfl | exact y_eqs rfl rfl (by first | assumption | rfl) | exact y_nes rfl rfl (by first | assumption | rfl) | exact y_eqd rfl rfl (by first | assumption | rfl) (by first | assumption | rfl) (by assumption) | exact y_ned rfl rfl (by first | assumption | rfl) (by first | assumption | rfl) (by assumption) | exact y_eq_bytes rfl rfl (by first | assumption | rfl) (by first | assumption | rfl) rfl | exact y_bool_eq rfl rfl eqB_bool_self | exact y_bool_eq rfl rfl eqB_bool_nself | exact y_bool_eq rfl rfl rfl | exact y_str_eq rfl rfl rfl | exact y_eqc_l (c := _) rfl rfl (by assumption) rfl | exact y_eqc rfl rfl rfl) (hd : Nat.blt d x.N = true := by rfl) : TS x ops (⟨some d, (.binOp o t p q t'), ty, pos, af, none⟩ :: rest) tail Q E ρ L := ts_y y hd k
theorem rCm (n0 : Nat) {o : BinOp} {p q : Operand} {t t' : Nat} (k : TR x l (Stays x ρ0 Ls) fuel (lset listed n0) Q ((d, v) :: E) ρ L) (hb : takeB l listed n0 = true := by decide +kernel) (hi : l[n0]? = some ⟨some d, (.binOp o t p q t'), ty, pos, af, none⟩ := by rfl) (y : ∀ ρ', ρ0.le ρ' → Yl x ((.binOp o t p q t')) ty E ρ' Ls v := by intro _ _; first | exact y_cmp (b := true) (by rfl) (by rfl) (by first | rfl | exact cmpB_ne_self | exact cmpB_eq_self | (simp only [cmpB, Option.some.injEq, decide_eq_true_eq, decide_eq_false_iff_not, beq_iff_eq, bne_iff_ne, beq_eq_false_iff_ne, bne_eq_false_iff_eq, ne_eq]; omega)) | exact y_cmp (b := false) (by rfl) (by rfl) (by first | rfl | exact cmpB_ne_self | exact cmpB_eq_self | (simp only [cmpB, Option.some.injEq, decide_eq_true_eq, decide_eq_false_iff_not, beq_iff_eq, bne_iff_ne, beq_eq_false_iff_ne, bne_eq_false_iff_eq, ne_eq]; omega)) | exact y_cmp rfl rfl rfl | exact y_ptr_nil rfl rfl rfl | exact y_func_nil rfl rfl rfl rfl | exact y_slice_nil rfl rfl rfl | exact y_map_nil rfl rfl rfl | exact y_eqs rfl rfl (by first | assumption | rfl) | exact y_nes rfl rfl (by first | assumption | rfl) | exact y_eqd rfl rfl (by first | assumption | rfl) (by first | assumption | rfl) (by assumption) | exact y_ned rfl rfl (by first | assumption | rfl) (by first | assumption | rfl) (by assumption) | exact y_eq_bytes rfl rfl (by first | assumption | rfl) (by first | assumption | rfl) rfl | exact y_bool_eq rfl rfl eqB_bool_self | exact y_bool_eq rfl rfl eqB_bool_nself | exact y_bool_eq rfl rfl rfl | exact y_str_eq rfl rfl rfl | exact y_eqc_l (c := _) rfl rfl (by assumption) rfl | exact y_eqc rfl rfl rfl) (hd : Nat.blt d x.N = true := by rfl) : TR x l (Stays x ρ0 Ls) (fuel + 1) listed Q E ρ L := tr_take n0 hb hi (ys_of' (fun _ h => h) y) hd k
theorem wCm (n0 : Nat) {o : BinOp} {p q : Operand} {t t' : Nat} {j t0 : Nat} {b0 : Bool} (k : TR x l (Stays x ρ0 Ls) fuel (lset listed n0) Q ((d, v) :: E) ρ L) (hb : takeB l listed n0 = true := by decide +kernel) (hi : l[n0]? = some ⟨some d, (.binOp o t p q t'), ty, pos, af, some (j, b0)⟩ := by rfl) (hj : (l[j]?).bind (·.dst) = some t0 := by rfl) (he : lk E t0 = some (.bool b0) := by rfl) (y : ∀ ρ', ρ0.le ρ' → Yl x ((.binOp o t p q t')) ty E ρ' Ls v := by intro _ _; first | exact y_cmp (b := true) (by rfl) (by rfl) (by first | rfl | exact cmpB_ne_self | exact cmpB_eq_self | (simp only [cmpB, Option.some.injEq, decide_eq_true_eq, decide_eq_false_iff_not, beq_iff_eq, bne_iff_ne, beq_eq_false_iff_ne, bne_eq_false_iff_eq, ne_eq]; omega)) | exact y_cmp (b := false) (by rfl) (by rfl) (by first | rfl | exact cmpB_ne_self | exact cmpB_eq_self | (simp only [cmpB, Option.some.injEq, decide_eq_true_eq, decide_eq_false_iff_not, beq_iff_eq, bne_iff_ne, beq_eq_false_iff_ne, bne_eq_false_iff_eq, ne_eq]; omega)) | exact y_cmp rfl rfl rfl | exact y_ptr_nil rfl rfl rfl | exact y_func_nil rfl rfl rfl rfl | exact y_slice_nil rfl rfl rfl | exact y_map_nil rfl rfl rfl | exact y_eqs rfl rfl (by first | assumption | rfl) | exact y_nes rfl rfl (by first | assumption | rfl) | exact y_eqd rfl rfl (by first | assumption | rfl) (by first | assumption | rfl) (by assumption) | exact y_ned rfl rfl (by first | assumption | rfl) (by first | assumption | rfl) (by assumption) | exact y_eq_bytes rfl rfl (by first | assumption | rfl) (by first | assumption | rfl) rfl | exact y_bool_eq rfl rfl eqB_bool_self | exact y_bool_eq rfl rfl eqB_bool_nself | exact y_bool_eq rfl rfl rfl | exact y_str_eq rfl rfl rfl | exact y_eqc_l (c := _) rfl rfl (by assumption) rfl | exact y_eqc rfl rfl rfl) (hd : Nat.blt d x.N = true := by rfl) : TR x l (Stays x ρ0 Ls) (fuel + 1) listed Q E ρ L := tr_want n0 hb hi hj he (ys_of' (fun _ h => h) y) hd k
theorem iNc {o : Operand} (h : TL x ops (⟨dd, .nilCheck o, ty, pos, af, none⟩ :: rest) Q E ρ L) : TL x ops (⟨dd, .nilCheck o, ty, pos, af, none⟩ :: rest) Q E ρ L := h
theorem qNc {o : Operand} (k : TL x ops rest Q ((d, v) :: E) ρ L) (y : Yl x (.nilCheck o) ty E ρ L v := by first | exact y_nilCheck rfl | exact y_nilCheck_f rfl | exact y_nilCheck_y rfl) (hd : Nat.blt d x.N = true := by rfl) : TL x ops (⟨some d, .nilCheck o, ty, pos, af, none⟩ :: rest) Q E ρ L := tl_y y hd rfl k
theorem jNc {o : Operand} (h : TS x ops (⟨dd, .nilCheck o, ty, pos, af, none⟩ :: rest) tail Q E ρ L) : TS x ops (⟨dd, .nilCheck o, ty, pos, af, none⟩ :: rest) tail Q E ρ L := h
theorem sNc {o : Operand} (k : TS x ops rest tail Q ((d, v) :: E) ρ L) (y : Yl x (.nilCheck o) ty E ρ L v := by first | exact y_nilCheck rfl | exact y_nilCheck_f rfl | exact y_nilCheck_y rfl) (hd : Nat.blt d x.N = true := by rfl) : TS x ops (⟨some d, .nilCheck o, ty, pos, af, none⟩ :: rest) tail Q E ρ L := ts_y y hd k
theorem rNc (n0 : Nat) {o : Operand} (k : TR x l (Stays x ρ0 Ls) fuel (lset listed n0) Q ((d, v) :: E) ρ L) (hb : takeB l listed n0 = true := by decide +kernel) (hi : l[n0]? = some ⟨some d, .nilCheck o, ty, pos, af, none⟩ := by rfl) (y : ∀ ρ', ρ0.le ρ' → Yl x (.nilCheck o) ty E ρ' Ls v := by intro _ _; first | exact y_nilCheck rfl | exact y_nilCheck_f rfl | exact y_nilCheck_y rfl) (hd : Nat.blt d x.N = true := by rfl) : TR x l (Stays x ρ0 Ls) (fuel + 1) listed Q E ρ L := tr_take n0 hb hi (ys_of' (fun _ h => h) y) hd k
theorem wNc (n0 : Nat) {o : Operand} {j t0 : Nat} {b0 : Bool} (k : TR x l (Stays x ρ0 Ls) fuel (lset listed n0) Q ((d, v) :: E) ρ L) (hb : takeB l listed n0 = true := by decide +kernel) (hi : l[n0]? = some ⟨some d, .nilCheck o, ty, pos, af, some (j, b0)⟩ := by rfl) (hj : (l[j]?).bind (·.dst) = some t0 := by rfl) (he : lk E t0 = some (.bool b0) := by rfl) (y : ∀ ρ', ρ0.le ρ' → Yl x (.nilCheck o) ty E ρ' Ls v := by intro _ _; first | exact y_nilCheck rfl | exact y_nilCheck_f rfl | exact y_nilCheck_y rfl) (hd : Nat.blt d x.N = true := by rfl) : TR x l (Stays x ρ0 Ls) (fuel + 1) listed Q E ρ L := tr_want n0 hb hi hj he (ys_of' (fun _ h => h) y) hd k
theorem iIa {o i : Operand} {t : Nat} (h : TL x ops (⟨dd, .indexAddr t o i, ty, pos, af, none⟩ :: rest) Q E ρ L) : TL x ops (⟨dd, .indexAddr t o i, ty, pos, af, none⟩ :: rest) Q E ρ L := h
theorem qIa {o i : Operand} {t : Nat} (k : TL x ops rest Q ((d, v) :: E) ρ L) (y : Yl x (.indexAddr t o i) ty E ρ L v := by first | exact y_indexAddr_nat rfl rfl (by omega) | exact y_indexAddr rfl rfl (by omega) (by omega) | exact y_indexAddr_arrN rfl rfl (by omega) | exact y_indexAddr_arr rfl rfl (by omega) (by omega)) (hd : Nat.blt d x.N = true := by rfl) : TL x ops (⟨some d, .indexAddr t o i, ty, pos, af, none⟩ :: rest) Q E ρ L := tl_y y hd rfl k
theorem jIa {o i : Operand} {t : Nat} (h : TS x ops (⟨dd, .indexAddr t o i, ty, pos, af, none⟩ :: rest) tail Q E ρ L) : TS x ops (⟨dd, .indexAddr t o i, ty, pos, af, none⟩ :: rest) tail Q E ρ L := h
theorem sIa {o i : Operand} {t : Nat} (k : TS x ops rest tail Q ((d, v) :: E) ρ L) (y : Yl x (.indexAddr t o i) ty E ρ L v := by first | exact y_indexAddr_nat rfl rfl (by omega) | exact y_indexAddr rfl rfl (by omega) (by omega) | exact y_indexAddr_arrN rfl rfl (by omega) | exact y_indexAddr_arr rfl rfl (by omega) (by omega)) (hd : Nat.blt d x.N = true := by rfl) : TS x ops (⟨some d, .indexAddr t o i, ty, pos, af, none⟩ :: rest) tail Q E ρ L := ts_y y hd k
theorem rIa (n0 : Nat) {o i : Operand} {t : Nat} (k : TR x l (Stays x ρ0 Ls) fuel (lset listed n0) Q ((d, v) :: E) ρ L) (hb : takeB l listed n0 = true := by decide +kernel) (hi : l[n0]? = some ⟨some d, .indexAddr t o i, ty, pos, af, none⟩ := by rfl) (y : ∀ ρ', ρ0.le ρ' → Yl x (.indexAddr t o i) ty E ρ' Ls v := by intro _ _; first | exact y_indexAddr_nat rfl rfl (by omega) | exact y_indexAddr rfl rfl (by omega) (by omega) | exact y_indexAddr_arrN rfl rfl (by omega) | exact y_indexAddr_arr rfl rfl (by omega) (by omega)) (hd : Nat.blt d x.N = true := by rfl) : TR x l (Stays x ρ0 Ls) (fuel + 1) listed Q E ρ L := tr_take n0 hb hi (ys_of' (fun _ h => h) y) hd k
theorem wIa (n0 : Nat) {o i : Operand} {t : Nat} {j t0 : Nat} {b0 : Bool} (k : TR x l (Stays x ρ0 Ls) fuel (lset listed n0) Q ((d, v) :: E) ρ L) (hb : takeB l listed n0 = true := by decide +kernel) (hi : l[n0]? = some ⟨some d, .indexAddr t o i, ty, pos, af, some (j, b0)⟩ := by rfl) (hj : (l[j]?).bind (·.dst) = some t0 := by rfl) (he : lk E t0 = some (.bool b0) := by rfl) (y : ∀ ρ', ρ0.le ρ' → Yl x (.indexAddr t o i) ty E ρ' Ls v := by intro _ _; first | exact y_indexAddr_nat rfl rfl (by omega) | exact y_indexAddr rfl rfl (by omega) (by omega) | exact y_indexAddr_arrN rfl rfl (by omega) | exact y_indexAddr_arr rfl rfl (by omega) (by omega)) (hd : Nat.blt d x.N = true := by rfl) : TR x l (Stays x ρ0 Ls) (fuel + 1) listed Q E ρ L := tr_want n0 hb hi hj he (ys_of' (fun _ h => h) y) hd k
theorem iCv {o : Operand} {s t : Nat} (h : TL x ops (⟨dd, .convert s t o, ty, pos, af, none⟩ :: rest) Q E ρ L) : TL x ops (⟨dd, .convert s t o, ty, pos, af, none⟩ :: rest) Q E ρ L := h
theorem qCv {o : Operand} {s t : Nat} (k : TL x ops rest Q ((d, v) :: E) ρ L) (y : Yl x (.convert s t o) ty E ρ L v := by first | exact y_conv_i rfl (by simp only [Go.Proofs.E.lo, Go.Proofs.E.hi]; omega) | exact y_conv rfl | exact y_conv_in rfl (by assumption) | exact y_conv_in rfl (SIn.mono (by assumption) (by assumption))) (hd : Nat.blt d x.N = true := by rfl) : TL x ops (⟨some d, .convert s t o, ty, pos, af, none⟩ :: rest) Q E ρ L := tl_y y hd rfl k
theorem jCv {o : Operand} {s t : Nat} (h : TS x ops (⟨dd, .convert s t o, ty, pos, af, none⟩ :: rest) tail Q E ρ L) : TS x ops (⟨dd, .convert s t o, ty, pos, af, none⟩ :: rest) tail Q E ρ L := h
theorem sCv {o : Operand} {s t : Nat} (k : TS x ops rest tail Q ((d, v) :: E) ρ L) (y : Yl x (.convert s t o) ty E ρ L v := by first | exact y_conv_i rfl (by simp only [Go.Proofs.E.lo, Go.Proofs.E.hi]; omega) | exact y_conv rfl | exact y_conv_in rfl (by assumption) | exact y_conv_in rfl (SIn.mono (by assumption) (by assumption))) (hd : Nat.blt d x.N = true := by rfl) : TS x ops (⟨some d, .convert s t o, ty, pos, af, none⟩ :: rest) tail Q E ρ L := ts_y y hd k
theorem rCv (n0 : Nat) {o : Operand} {s t : Nat} (k : TR x l (Stays x ρ0 Ls) fuel (lset listed n0) Q ((d, v) :: E) ρ L) (hb : takeB l listed n0 = true := by decide +kernel) (hi : l[n0]? = some ⟨some d, .convert s t o, ty, pos, af, none⟩ := by rfl) (y : ∀ ρ', ρ0.le ρ' → Yl x (.convert s t o) ty E ρ' Ls v := by intro _ _; first | exact y_conv_i rfl (by simp only [Go.Proofs.E.lo, Go.Proofs.E.hi]; omega) | exact y_conv rfl | exact y_conv_in rfl (by assumption) | exact y_conv_in rfl (SIn.mono (by assumption) (by assumption))) (hd : Nat.blt d x.N = true := by rfl) : TR x l (Stays x ρ0 Ls) (fuel + 1) listed Q E ρ L := tr_take n0 hb hi (ys_of' (fun _ h => h) y) hd k
theorem wCv (n0 : Nat) {o : Operand} {s t : Nat} {j t0 : Nat} {b0 : Bool} (k : TR x l (Stays x ρ0 Ls) fuel (lset listed n0) Q ((d, v) :: E) ρ L) (hb : takeB l listed n0 = true := by decide +kernel) (hi : l[n0]? = some ⟨some d, .convert s t o, ty, pos, af, some (j, b0)⟩ := by rfl) (hj : (l[j]?).bind (·.dst) = some t0 := by rfl) (he : lk E t0 = some (.bool b0) := by rfl) (y : ∀ ρ', ρ0.le ρ' → Yl x (.convert s t o) ty E ρ' Ls v := by intro _ _; first | exact y_conv_i rfl (by simp only [Go.Proofs.E.lo, Go.Proofs.E.hi]; omega) | exact y_conv rfl | exact y_conv_in rfl (by assumption) | exact y_conv_in rfl (SIn.mono (by assumption) (by assumption))) (hd : Nat.blt d x.N = true := by rfl) : TR x l (Stays x ρ0 Ls) (fuel + 1) listed Q E ρ L := tr_want n0 hb hi hj he (ys_of' (fun _ h => h) y) hd k
theorem iBi {b : Builtin} {xs : Array Operand} {ats : Array TypeId} (h : TL x ops (⟨dd, .call { callee := .builtin b, args := xs, argTypes := ats }, ty, pos, af, none⟩ :: rest) Q E ρ L) : TL x ops (⟨dd, .call { callee := .builtin b, args := xs, argTypes := ats }, ty, pos, af, none⟩ :: rest) Q E ρ L := h
theorem qBi {b : Builtin} {xs : Array Operand} {ats : Array TypeId} (k : TL x ops rest Q ((d, v) :: E) ρ L) (y : Yl x (.call { callee := .builtin b, args := xs, argTypes := ats }) ty E ρ L v := by first | exact y_len rfl | exact y_len_str rfl | exact y_cap rfl | exact y_max rfl rfl | exact y_min rfl rfl) (hd : Nat.blt d x.N = true := by rfl) : TL x ops (⟨some d, .call { callee := .builtin b, args := xs, argTypes := ats }, ty, pos, af, none⟩ :: rest) Q E ρ L := tl_y y hd rfl k
theorem jBi {b : Builtin} {xs : Array Operand} {ats : Array TypeId} (h : TS x ops (⟨dd, .call { callee := .builtin b, args := xs, argTypes := ats }, ty, pos, af, none⟩ :: rest) tail Q E ρ L) : TS x ops (⟨dd, .call { callee := .builtin b, args := xs, argTypes := ats }, ty, pos, af, none⟩ :: rest) tail Q E ρ L := h
theorem sBi {b : Builtin} {xs : Array Operand} {ats : Array TypeId} (k : TS x ops rest tail Q ((d, v) :: E) ρ L) (y : Yl x (.call { callee := .builtin b, args := xs, argTypes := ats }) ty E ρ L v := by first | exact y_len rfl | exact y_len_str rfl | exact y_cap rfl | exact y_max rfl rfl | exact y_min rfl rfl) (hd : Nat.blt d x.N = true := by rfl) : TS x ops (⟨some d, .call { callee := .builtin b, args := xs, argTypes := ats }, ty, pos, af, none⟩ :: rest) tail Q E ρ L := ts_y y hd k
theorem rBi (n0 : Nat) {b : Builtin} {xs : Array Operand} {ats : Array TypeId} (k : TR x l (Stays x ρ0 Ls) fuel (lset listed n0) Q ((d, v) :: E) ρ L) (hb : takeB l listed n0 = true := by decide +kernel) (hi : l[n0]? = some ⟨some d, .call { callee := .builtin b, args := xs, argTypes := ats }, ty, pos, af, none⟩ := by rfl) (y : ∀ ρ', ρ0.le ρ' → Yl x (.call { callee := .builtin b, args := xs, argTypes := ats }) ty E ρ' Ls v := by intro _ _; first | exact y_len rfl | exact y_len_str rfl | exact y_cap rfl | exact y_max rfl rfl | exact y_min rfl rfl) (hd : Nat.blt d x.N = true := by rfl) : TR x l (Stays x ρ0 Ls) (fuel + 1) listed Q E ρ L := tr_take n0 hb hi (ys_of' (fun _ h => h) y) hd k
theorem wBi (n0 : Nat) {b : Builtin} {xs : Array Operand} {ats : Array TypeId} {j t0 : Nat} {b0 : Bool} (k : TR x l (Stays x ρ0 Ls) fuel (lset listed n0) Q ((d, v) :: E) ρ L) (hb : takeB l listed n0 = true := by decide +kernel) (hi : l[n0]? = some ⟨some d, .call { callee := .builtin b, args := xs, argTypes := ats }, ty, pos, af, some (j, b0)⟩ := by rfl) (hj : (l[j]?).bind (·.dst) = some t0 := by rfl) (he : lk E t0 = some (.bool b0) := by rfl) (y : ∀ ρ', ρ0.le ρ' → Yl x (.call { callee := .builtin b, args := xs, argTypes := ats }) ty E ρ' Ls v := by intro _ _; first | exact y_len rfl | exact y_len_str rfl | exact y_cap rfl | exact y_max rfl rfl | exact y_min rfl rfl) (hd : Nat.blt d x.N = true := by rfl) : TR x l (Stays x ρ0 Ls) (fuel + 1) listed Q E ρ L := tr_want n0 hb hi hj he (ys_of' (fun _ h => h) y) hd k
theorem iUn {o : UnOp} {p : Operand} {t : Nat} (h : TL x ops (⟨dd, .unOp o t p, ty, pos, af, none⟩ :: rest) Q E ρ L) : TL x ops (⟨dd, .unOp o t p, ty, pos, af, none⟩ :: rest) Q E ρ L := h
theorem qUn {o : UnOp} {p : Operand} {t : Nat} (k : TL x ops rest Q ((d, v) :: E) ρ L) (y : Yl x (.unOp o t p) ty E ρ L v := by first | exact y_not rfl | exact y_neg rfl) (hd : Nat.blt d x.N = true := by rfl) : TL x ops (⟨some d, .unOp o t p, ty, pos, af, none⟩ :: rest) Q E ρ L := tl_y y hd rfl k
theorem jUn {o : UnOp} {p : Operand} {t : Nat} (h : TS x ops (⟨dd, .unOp o t p, ty, pos, af, none⟩ :: rest) tail Q E ρ L) : TS x ops (⟨dd, .unOp o t p, ty, pos, af, none⟩ :: rest) tail Q E ρ L := h
theorem sUn {o : UnOp} {p : Operand} {t : Nat} (k : TS x ops rest tail Q ((d, v) :: E) ρ L) (y : Yl x (.unOp o t p) ty E ρ L v := by first | exact y_not rfl | exact y_neg rfl) (hd : Nat.blt d x.N = true := by rfl) : TS x ops (⟨some d, .unOp o t p, ty, pos, af, none⟩ :: rest) tail Q E ρ L := ts_y y hd k
theorem rUn (n0 : Nat) {o : UnOp} {p : Operand} {t : Nat} (k : TR x l (Stays x ρ0 Ls) fuel (lset listed n0) Q ((d, v) :: E) ρ L) (hb : takeB l listed n0 = true := by decide +kernel) (hi : l[n0]? = some ⟨some d, .unOp o t p, ty, pos, af, none⟩ := by rfl) (y : ∀ ρ', ρ0.le ρ' → Yl x (.unOp o t p) ty E ρ' Ls v := by intro _ _; first | exact y_not rfl | exact y_neg rfl) (hd : Nat.blt d x.N = true := by rfl) : TR x l (Stays x ρ0 Ls) (fuel + 1) listed Q E ρ L := tr_take n0 hb hi (ys_of' (fun _ h => h) y) hd k
theorem wUn (n0 : Nat) {o : UnOp} {p : Operand} {t : Nat} {j t0 : Nat} {b0 : Bool} (k : TR x l (Stays x ρ0 Ls) fuel (lset listed n0) Q ((d, v) :: E) ρ L) (hb : takeB l listed n0 = true := by decide +kernel) (hi : l[n0]? = some ⟨some d, .unOp o t p, ty, pos, af, some (j, b0)⟩ := by rfl) (hj : (l[j]?).bind (·.dst) = some t0 := by rfl) (he : lk E t0 = some (.bool b0) := by rfl) (y : ∀ ρ', ρ0.le ρ' → Yl x (.unOp o t p) ty E ρ' Ls v := by intro _ _; first | exact y_not rfl | exact y_neg rfl) (hd : Nat.blt d x.N = true := by rfl) : TR x l (Stays x ρ0 Ls) (fuel + 1) listed Q E ρ L := tr_want n0 hb hi hj he (ys_of' (fun _ h => h) y) hd k
theorem iFl {o : Operand} {s f : Nat} (h : TL x ops (⟨dd, .field s o f, ty, pos, af, none⟩ :: rest) Q E ρ L) : TL x ops (⟨dd, .field s o f, ty, pos, af, none⟩ :: rest) Q E ρ L := h
theorem qFl {o : Operand} {s f : Nat} (k : TL x ops rest Q ((d, v) :: E) ρ L) (y : Yl x (.field s o f) ty E ρ L v := by first | exact y_field_s rfl rfl | exact y_field_sub rfl | exact y_field_a rfl rfl) (hd : Nat.blt d x.N = true := by rfl) : TL x ops (⟨some d, .field s o f, ty, pos, af, none⟩ :: rest) Q E ρ L := tl_y y hd rfl k
theorem jFl {o : Operand} {s f : Nat} (h : TS x ops (⟨dd, .field s o f, ty, pos, af, none⟩ :: rest) tail Q E ρ L) : TS x ops (⟨dd, .field s o f, ty, pos, af, none⟩ :: rest) tail Q E ρ L := h
theorem sFl {o : Operand} {s f : Nat} (k : TS x ops rest tail Q ((d, v) :: E) ρ L) (y : Yl x (.field s o f) ty E ρ L v := by first | exact y_field_s rfl rfl | exact y_field_sub rfl | exact y_field_a rfl rfl) (hd : Nat.blt d x.N = true := by rfl) : TS x ops (⟨some d, .field s o f, ty, pos, af, none⟩ :: rest) tail Q E ρ L := ts_y y hd k
theorem rFl (n0 : Nat) {o : Operand} {s f : Nat} (k : TR x l (Stays x ρ0 Ls) fuel (lset listed n0) Q ((d, v) :: E) ρ L) (hb : takeB l listed n0 = true := by decide +kernel) (hi : l[n0]? = some ⟨some d, .field s o f, ty, pos, af, none⟩ := by rfl) (y : ∀ ρ', ρ0.le ρ' → Yl x (.field s o f) ty E ρ' Ls v := by intro _ _; first | exact y_field_s rfl rfl | exact y_field_sub rfl | exact y_field_a rfl rfl) (hd : Nat.blt d x.N = true := by rfl) : TR x l (Stays x ρ0 Ls) (fuel + 1) listed Q E ρ L := tr_take n0 hb hi (ys_of' (fun _ h => h) y) hd k
theorem wFl (n0 : Nat) {o : Operand} {s f : Nat} {j t0 : Nat} {b0 : Bool} (k : TR x l (Stays x ρ0 Ls) fuel (lset listed n0) Q ((d, v) :: E) ρ L) (hb : takeB l listed n0 = true := by decide +kernel) (hi : l[n0]? = some ⟨some d, .field s o f, ty, pos, af, some (j, b0)⟩ := by rfl) (hj : (l[j]?).bind (·.dst) = some t0 := by rfl) (he : lk E t0 = some (.bool b0) := by rfl) (y : ∀ ρ', ρ0.le ρ' → Yl x (.field s o f) ty E ρ' Ls v := by intro _ _; first | exact y_field_s rfl rfl | exact y_field_sub rfl | exact y_field_a rfl rfl) (hd : Nat.blt d x.N = true := by rfl) : TR x l (Stays x ρ0 Ls) (fuel + 1) listed Q E ρ L := tr_want n0 hb hi hj he (ys_of' (fun _ h => h) y) hd k
theorem iLu {o i : Operand} {t : Nat} {c : Bool} (h : TL x ops (⟨dd, .lookup t o i c, ty, pos, af, none⟩ :: rest) Q E ρ L) : TL x ops (⟨dd, .lookup t o i c, ty, pos, af, none⟩ :: rest) Q E ρ L := h
theorem qLu {o i : Operand} {t : Nat} {c : Bool} (k : TL x ops rest Q ((d, v) :: E) ρ L) (y : Yl x (.lookup t o i c) ty E ρ L v := by first | exact y_lookup_ok2 rfl rfl (by assumption) (by assumption) | exact y_lookup2 rfl rfl (by assumption) (by assumption) | exact y_lookup0 rfl rfl (by assumption) (by assumption) | exact y_lookup_ok rfl rfl (by assumption) | exact y_lookup rfl rfl (by assumption)) (hd : Nat.blt d x.N = true := by rfl) : TL x ops (⟨some d, .lookup t o i c, ty, pos, af, none⟩ :: rest) Q E ρ L := tl_y y hd rfl k
theorem jLu {o i : Operand} {t : Nat} {c : Bool} (h : TS x ops (⟨dd, .lookup t o i c, ty, pos, af, none⟩ :: rest) tail Q E ρ L) : TS x ops (⟨dd, .lookup t o i c, ty, pos, af, none⟩ :: rest) tail Q E ρ L := h
theorem sLu {o i : Operand} {t : Nat} {c : Bool} (k : TS x ops rest tail Q ((d, v) :: E) ρ L) (y : Yl x (.lookup t o i c) ty E ρ L v := by first | exact y_lookup_ok2 rfl rfl (by assumption) (by assumption) | exact y_lookup2 rfl rfl (by assumption) (by assumption) | exact y_lookup0 rfl rfl (by assumption) (by assumption) | exact y_lookup_ok rfl rfl (by assumption) | exact y_lookup rfl rfl (by assumption)) (hd : Nat.blt d x.N = true := by rfl) : TS x ops (⟨some d, .lookup t o i c, ty, pos, af, none⟩ :: rest) tail Q E ρ L := ts_y y hd k
theorem rLu (n0 : Nat) {o i : Operand} {t : Nat} {c : Bool} (k : TR x l (Stays x ρ0 Ls) fuel (lset listed n0) Q ((d, v) :: E) ρ L) (hb : takeB l listed n0 = true := by decide +kernel) (hi : l[n0]? = some ⟨some d, .lookup t o i c, ty, pos, af, none⟩ := by rfl) (y : ∀ ρ', ρ0.le ρ' → Yl x (.lookup t o i c) ty E ρ' Ls v := by intro _ _; first | exact y_lookup_ok2 rfl rfl (by assumption) (by assumption) | exact y_lookup2 rfl rfl (by assumption) (by assumption) | exact y_lookup0 rfl rfl (by assumption) (by assumption) | exact y_lookup_ok rfl rfl (by assumption) | exact y_lookup rfl rfl (by assumption)) (hd : Nat.blt d x.N = true := by rfl) : TR x l (Stays x ρ0 Ls) (fuel + 1) listed Q E ρ L := tr_take n0 hb hi (ys_of' (fun _ h => h) y) hd k
theorem wLu (n0 : Nat) {o i : Operand} {t : Nat} {c : Bool} {j t0 : Nat} {b0 : Bool} (k : TR x l (Stays x ρ0 Ls) fuel (lset listed n0) Q ((d, v) :: E) ρ L) (hb : takeB l listed n0 = true := by decide +kernel) (hi : l[n0]? = some ⟨some d, .lookup t o i c, ty, pos, af, some (j, b0)⟩ := by rfl) (hj : (l[j]?).bind (·.dst) = some t0 := by rfl) (he : lk E t0 = some (.bool b0) := by rfl) (y : ∀ ρ', ρ0.le ρ' → Yl x (.lookup t o i c) ty E ρ' Ls v := by intro _ _; first | exact y_lookup_ok2 rfl rfl (by assumption) (by assumption) | exact y_lookup2 rfl rfl (by assumption) (by assumption) | exact y_lookup0 rfl rfl (by assumption) (by assumption) | exact y_lookup_ok rfl rfl (by assumption) | exact y_lookup rfl rfl (by assumption)) (hd : Nat.blt d x.N = true := by rfl) : TR x l (Stays x ρ0 Ls) (fuel + 1) listed Q E ρ L := tr_want n0 hb hi hj he (ys_of' (fun _ h => h) y) hd k
theorem iBu {t : Nat} {ps : Array (Nat × Operand)} (h : TL x ops (⟨dd, .build t ps, ty, pos, af, none⟩ :: rest) Q E ρ L) : TL x ops (⟨dd, .build t ps, ty, pos, af, none⟩ :: rest) Q E ρ L := h
theorem qBu {t : Nat} {ps : Array (Nat × Operand)} (k : TL x ops rest Q ((d, v) :: E) ρ L) (y : Yl x (.build t ps) ty E ρ L v := by first | exact y_buildS rfl rfl | exact y_build rfl (by assumption) | exact y_build rfl rfl | exact y_build (vs := []) rfl rfl) (hd : Nat.blt d x.N = true := by rfl) : TL x ops (⟨some d, .build t ps, ty, pos, af, none⟩ :: rest) Q E ρ L := tl_y y hd rfl k
theorem jBu {t : Nat} {ps : Array (Nat × Operand)} (h : TS x ops (⟨dd, .build t ps, ty, pos, af, none⟩ :: rest) tail Q E ρ L) : TS x ops (⟨dd, .build t ps, ty, pos, af, none⟩ :: rest) tail Q E ρ L := h
theorem sBu {t : Nat} {ps : Array (Nat × Operand)} (k : TS x ops rest tail Q ((d, v) :: E) ρ L) (y : Yl x (.build t ps) ty E ρ L v := by first | exact y_buildS rfl rfl | exact y_build rfl (by assumption) | exact y_build rfl rfl | exact y_build (vs := []) rfl rfl) (hd : Nat.blt d x.N = true := by rfl) : TS x ops (⟨some d, .build t ps, ty, pos, af, none⟩ :: rest) tail Q E ρ L := ts_y y hd k
theorem rBu (n0 : Nat) {t : Nat} {ps : Array (Nat × Operand)} (k : TR x l (Stays x ρ0 Ls) fuel (lset listed n0) Q ((d, v) :: E) ρ L) (hb : takeB l listed n0 = true := by decide +kernel) (hi : l[n0]? = some ⟨some d, .build t ps, ty, pos, af, none⟩ := by rfl) (y : ∀ ρ', ρ0.le ρ' → Yl x (.build t ps) ty E ρ' Ls v := by intro _ _; first | exact y_buildS rfl rfl | exact y_build rfl (by assumption) | exact y_build rfl rfl | exact y_build (vs := []) rfl rfl) (hd : Nat.blt d x.N = true := by rfl) : TR x l (Stays x ρ0 Ls) (fuel + 1) listed Q E ρ L := tr_take n0 hb hi (ys_of' (fun _ h => h) y) hd k
theorem wBu (n0 : Nat) {t : Nat} {ps : Array (Nat × Operand)} {j t0 : Nat} {b0 : Bool} (k : TR x l (Stays x ρ0 Ls) fuel (lset listed n0) Q ((d, v) :: E) ρ L) (hb : takeB l listed n0 = true := by decide +kernel) (hi : l[n0]? = some ⟨some d, .build t ps, ty, pos, af, some (j, b0)⟩ := by rfl) (hj : (l[j]?).bind (·.dst) = some t0 := by rfl) (he : lk E t0 = some (.bool b0) := by rfl) (y : ∀ ρ', ρ0.le ρ' → Yl x (.build t ps) ty E ρ' Ls v := by intro _ _; first | exact y_buildS rfl rfl | exact y_build rfl (by assumption) | exact y_build rfl rfl | exact y_build (vs := []) rfl rfl) (hd : Nat.blt d x.N = true := by rfl) : TR x l (Stays x ρ0 Ls) (fuel + 1) listed Q E ρ L := tr_want n0 hb hi hj he (ys_of' (fun _ h => h) y) hd k
theorem iSl {t : Nat} {o : Operand} {lw hg mx : Option Operand} (h : TL x ops (⟨dd, .slice t o lw hg mx, ty, pos, af, none⟩ :: rest) Q E ρ L) : TL x ops (⟨dd, .slice t o lw hg mx, ty, pos, af, none⟩ :: rest) Q E ρ L := h
theorem qSl {t : Nat} {o : Operand} {lw hg mx : Option Operand} (k : TL x ops rest Q ((d, v) :: E) ρ L) (y : Yl x (.slice t o lw hg mx) ty E ρ L v := by first | exact y_slice_h rfl rfl (by omega) (by omega) | exact y_slice_str_h rfl rfl (by omega) (by omega) | exact y_slice_lh rfl rfl rfl (by omega) (by omega) (by omega) (by omega) | exact y_slice_l rfl rfl (by omega) (by omega) (by omega) | exact y_slice_str_l rfl rfl (by omega) (by omega) | exact y_slice_arr_all rfl | exact y_slice_arr_l rfl rfl (by omega) (by omega) | exact y_slice_arr_h rfl rfl (by omega) (by omega) | exact y_slice_arr_lh rfl rfl rfl (by omega) (by omega) (by omega) (by omega) | exact y_slice_m rfl rfl rfl rfl (by omega) (by omega) (by omega) (by omega) | exact y_slice_hm rfl rfl rfl (by omega) (by omega) (by omega)) (hd : Nat.blt d x.N = true := by rfl) : TL x ops (⟨some d, .slice t o lw hg mx, ty, pos, af, none⟩ :: rest) Q E ρ L := tl_y y hd rfl k
theorem jSl {t : Nat} {o : Operand} {lw hg mx : Option Operand} (h : TS x ops (⟨dd, .slice t o lw hg mx, ty, pos, af, none⟩ :: rest) tail Q E ρ L) : TS x ops (⟨dd, .slice t o lw hg mx, ty, pos, af, none⟩ :: rest) tail Q E ρ L := h
theorem sSl {t : Nat} {o : Operand} {lw hg mx : Option Operand} (k : TS x ops rest tail Q ((d, v) :: E) ρ L) (y : Yl x (.slice t o lw hg mx) ty E ρ L v := by first | exact y_slice_h rfl rfl (by omega) (by omega) | exact y_slice_str_h rfl rfl (by omega) (by omega) | exact y_slice_lh rfl rfl rfl (by omega) (by omega) (by omega) (by omega) | exact y_slice_l rfl rfl (by omega) (by omega) (by omega) | exact y_slice_str_l rfl rfl (by omega) (by omega) | exact y_slice_arr_all rfl | exact y_slice_arr_l rfl rfl (by omega) (by omega) | exact y_slice_arr_h rfl rfl (by omega) (by omega) | exact y_slice_arr_lh rfl rfl rfl (by omega) (by omega) (by omega) (by omega) | exact y_slice_m rfl rfl rfl rfl (by omega) (by omega) (by omega) (by omega) | exact y_slice_hm rfl rfl rfl (by omega) (by omega) (by omega)) (hd : Nat.blt d x.N = true := by rfl) : TS x ops (⟨some d, .slice t o lw hg mx, ty, pos, af, none⟩ :: rest) tail Q E ρ L := ts_y y hd k
theorem rSl (n0 : Nat) {t : Nat} {o : Operand} {lw hg mx : Option Operand} (k : TR x l (Stays x ρ0 Ls) fuel (lset listed n0) Q ((d, v) :: E) ρ L) (hb : takeB l listed n0 = true := by decide +kernel) (hi : l[n0]? = some ⟨some d, .slice t o lw hg mx, ty, pos, af, none⟩ := by rfl) (y : ∀ ρ', ρ0.le ρ' → Yl x (.slice t o lw hg mx) ty E ρ' Ls v := by intro _ _; first | exact y_slice_h rfl rfl (by omega) (by omega) | exact y_slice_str_h rfl rfl (by omega) (by omega) | exact y_slice_lh rfl rfl rfl (by omega) (by omega) (by omega) (by omega) | exact y_slice_l rfl rfl (by omega) (by omega) (by omega) | exact y_slice_str_l rfl rfl (by omega) (by omega) | exact y_slice_arr_all rfl | exact y_slice_arr_l rfl rfl (by omega) (by omega) | exact y_slice_arr_h rfl rfl (by omega) (by omega) | exact y_slice_arr_lh rfl rfl rfl (by omega) (by omega) (by omega) (by omega) | exact y_slice_m rfl rfl rfl rfl (by omega) (by omega) (by omega) (by omega) | exact y_slice_hm rfl rfl rfl (by omega) (by omega) (by omega)) (hd : Nat.blt d x.N = true := by rfl) : TR x l (Stays x ρ0 Ls) (fuel + 1) listed Q E ρ L := tr_take n0 hb hi (ys_of' (fun _ h => h) y) hd k
theorem wSl (n0 : Nat) {t : Nat} {o : Operand} {lw hg mx : Option Operand} {j t0 : Nat} {b0 : Bool} (k : TR x l (Stays x ρ0 Ls) fuel (lset listed n0) Q ((d, v) :: E) ρ L) (hb : takeB l listed n0 = true := by decide +kernel) (hi : l[n0]? = some ⟨some d, .slice t o lw hg mx, ty, pos, af, some (j, b0)⟩ := by rfl) (hj : (l[j]?).bind (·.dst) = some t0 := by rfl) (he : lk E t0 = some (.bool b0) := by rfl) (y : ∀ ρ', ρ0.le ρ' → Yl x (.slice t o lw hg mx) ty E ρ' Ls v := by intro _ _; first | exact y_slice_h rfl rfl (by omega) (by omega) | exact y_slice_str_h rfl rfl (by omega) (by omega) | exact y_slice_lh rfl rfl rfl (by omega) (by omega) (by omega) (by omega) | exact y_slice_l rfl rfl (by omega) (by omega) (by omega) | exact y_slice_str_l rfl rfl (by omega) (by omega) | exact y_slice_arr_all rfl | exact y_slice_arr_l rfl rfl (by omega) (by omega) | exact y_slice_arr_h rfl rfl (by omega) (by omega) | exact y_slice_arr_lh rfl rfl rfl (by omega) (by omega) (by omega) (by omega) | exact y_slice_m rfl rfl rfl rfl (by omega) (by omega) (by omega) (by omega) | exact y_slice_hm rfl rfl rfl (by omega) (by omega) (by omega)) (hd : Nat.blt d x.N = true := by rfl) : TR x l (Stays x ρ0 Ls) (fuel + 1) listed Q E ρ L := tr_want n0 hb hi hj he (ys_of' (fun _ h => h) y) hd k
theorem iMi {o : Operand} {t : Nat} (h : TL x ops (⟨dd, .makeInterface t o, ty, pos, af, none⟩ :: rest) Q E ρ L) : TL x ops (⟨dd, .makeInterface t o, ty, pos, af, none⟩ :: rest) Q E ρ L := h
theorem qMi {o : Operand} {t : Nat} (k : TL x ops rest Q ((d, v) :: E) ρ L) (y : Yl x (.makeInterface t o) ty E ρ L v := by first | exact y_makeInterface rfl) (hd : Nat.blt d x.N = true := by rfl) : TL x ops (⟨some d, .makeInterface t o, ty, pos, af, none⟩ :: rest) Q E ρ L := tl_y y hd rfl k
theorem jMi {o : Operand} {t : Nat} (h : TS x ops (⟨dd, .makeInterface t o, ty, pos, af, none⟩ :: rest) tail Q E ρ L) : TS x ops (⟨dd, .makeInterface t o, ty, pos, af, none⟩ :: rest) tail Q E ρ L := h
theorem sMi {o : Operand} {t : Nat} (k : TS x ops rest tail Q ((d, v) :: E) ρ L) (y : Yl x (.makeInterface t o) ty E ρ L v := by first | exact y_makeInterface rfl) (hd : Nat.blt d x.N = true := by rfl) : TS x ops (⟨some d, .makeInterface t o, ty, pos, af, none⟩ :: rest) tail Q E ρ L := ts_y y hd k
theorem rMi (n0 : Nat) {o : Operand} {t : Nat} (k : TR x l (Stays x ρ0 Ls) fuel (lset listed n0) Q ((d, v) :: E) ρ L) (hb : takeB l listed n0 = true := by decide +kernel) (hi : l[n0]? = some ⟨some d, .makeInterface t o, ty, pos, af, none⟩ := by rfl) (y : ∀ ρ', ρ0.le ρ' → Yl x (.makeInterface t o) ty E ρ' Ls v := by intro _ _; first | exact y_makeInterface rfl) (hd : Nat.blt d x.N = true := by rfl) : TR x l (Stays x ρ0 Ls) (fuel + 1) listed Q E ρ L := tr_take n0 hb hi (ys_of' (fun _ h => h) y) hd k
theorem wMi (n0 : Nat) {o : Operand} {t : Nat} {j t0 : Nat} {b0 : Bool} (k : TR x l (Stays x ρ0 Ls) fuel (lset listed n0) Q ((d, v) :: E) ρ L) (hb : takeB l listed n0 = true := by decide +kernel) (hi : l[n0]? = some ⟨some d, .makeInterface t o, ty, pos, af, some (j, b0)⟩ := by rfl) (hj : (l[j]?).bind (·.dst) = some t0 := by rfl) (he : lk E t0 = some (.bool b0) := by rfl) (y : ∀ ρ', ρ0.le ρ' → Yl x (.makeInterface t o) ty E ρ' Ls v := by intro _ _; first | exact y_makeInterface rfl) (hd : Nat.blt d x.N = true := by rfl) : TR x l (Stays x ρ0 Ls) (fuel + 1) listed Q E ρ L := tr_want n0 hb hi hj he (ys_of' (fun _ h => h) y) hd k
theorem iTa {o : Operand} {s t : Nat} {c : Bool} (h : TL x ops (⟨dd, .typeAssert o s t c, ty, pos, af, none⟩ :: rest) Q E ρ L) : TL x ops (⟨dd, .typeAssert o s t c, ty, pos, af, none⟩ :: rest) Q E ρ L := h
theorem qTa {o : Operand} {s t : Nat} {c : Bool} (k : TL x ops rest Q ((d, v) :: E) ρ L) (y : Yl x (.typeAssert o s t c) ty E ρ L v := by first | exact y_typeAssert rfl) (hd : Nat.blt d x.N = true := by rfl) : TL x ops (⟨some d, .typeAssert o s t c, ty, pos, af, none⟩ :: rest) Q E ρ L := tl_y y hd rfl k
theorem jTa {o : Operand} {s t : Nat} {c : Bool} (h : TS x ops (⟨dd, .typeAssert o s t c, ty, pos, af, none⟩ :: rest) tail Q E ρ L) : TS x ops (⟨dd, .typeAssert o s t c, ty, pos, af, none⟩ :: rest) tail Q E ρ L := h
theorem sTa {o : Operand} {s t : Nat} {c : Bool} (k : TS x ops rest tail Q ((d, v) :: E) ρ L) (y : Yl x (.typeAssert o s t c) ty E ρ L v := by first | exact y_typeAssert rfl) (hd : Nat.blt d x.N = true := by rfl) : TS x ops (⟨some d, .typeAssert o s t c, ty, pos, af, none⟩ :: rest) tail Q E ρ L := ts_y y hd k
theorem rTa (n0 : Nat) {o : Operand} {s t : Nat} {c : Bool} (k : TR x l (Stays x ρ0 Ls) fuel (lset listed n0) Q ((d, v) :: E) ρ L) (hb : takeB l listed n0 = true := by decide +kernel) (hi : l[n0]? = some ⟨some d, .typeAssert o s t c, ty, pos, af, none⟩ := by rfl) (y : ∀ ρ', ρ0.le ρ' → Yl x (.typeAssert o s t c) ty E ρ' Ls v := by intro _ _; first | exact y_typeAssert rfl) (hd : Nat.blt d x.N = true := by rfl) : TR x l (Stays x ρ0 Ls) (fuel + 1) listed Q E ρ L := tr_take n0 hb hi (ys_of' (fun _ h => h) y) hd k
theorem wTa (n0 : Nat) {o : Operand} {s t : Nat} {c : Bool} {j t0 : Nat} {b0 : Bool} (k : TR x l (Stays x ρ0 Ls) fuel (lset listed n0) Q ((d, v) :: E) ρ L) (hb : takeB l listed n0 = true := by decide +kernel) (hi : l[n0]? = some ⟨some d, .typeAssert o s t c, ty, pos, af, some (j, b0)⟩ := by rfl) (hj : (l[j]?).bind (·.dst) = some t0 := by rfl) (he : lk E t0 = some (.bool b0) := by rfl) (y : ∀ ρ', ρ0.le ρ' → Yl x (.typeAssert o s t c) ty E ρ' Ls v := by intro _ _; first | exact y_typeAssert rfl) (hd : Nat.blt d x.N = true := by rfl) : TR x l (Stays x ρ0 Ls) (fuel + 1) listed Q E ρ L := tr_want n0 hb hi hj he (ys_of' (fun _ h => h) y) hd k
theorem iMf {fn : Fn} {p q : Array Operand} (h : TL x ops (⟨dd, .makeFunc fn p q, ty, pos, af, none⟩ :: rest) Q E ρ L) : TL x ops (⟨dd, .makeFunc fn p q, ty, pos, af, none⟩ :: rest) Q E ρ L := h
theorem qMf {fn : Fn} {p q : Array Operand} (k : TL x ops rest Q ((d, v) :: E) ρ L) (y : Yl x (.makeFunc fn p q) ty E ρ L v := by first | exact y_makeFunc rfl rfl) (hd : Nat.blt d x.N = true := by rfl) : TL x ops (⟨some d, .makeFunc fn p q, ty, pos, af, none⟩ :: rest) Q E ρ L := tl_y y hd rfl k
theorem jMf {fn : Fn} {p q : Array Operand} (h : TS x ops (⟨dd, .makeFunc fn p q, ty, pos, af, none⟩ :: rest) tail Q E ρ L) : TS x ops (⟨dd, .makeFunc fn p q, ty, pos, af, none⟩ :: rest) tail Q E ρ L := h
theorem sMf {fn : Fn} {p q : Array Operand} (k : TS x ops rest tail Q ((d, v) :: E) ρ L) (y : Yl x (.makeFunc fn p q) ty E ρ L v := by first | exact y_makeFunc rfl rfl) (hd : Nat.blt d x.N = true := by rfl) : TS x ops (⟨some d, .makeFunc fn p q, ty, pos, af, none⟩ :: rest) tail Q E ρ L := ts_y y hd k
theorem rMf (n0 : Nat) {fn : Fn} {p q : Array Operand} (k : TR x l (Stays x ρ0 Ls) fuel (lset listed n0) Q ((d, v) :: E) ρ L) (hb : takeB l listed n0 = true := by decide +kernel) (hi : l[n0]? = some ⟨some d, .makeFunc fn p q, ty, pos, af, none⟩ := by rfl) (y : ∀ ρ', ρ0.le ρ' → Yl x (.makeFunc fn p q) ty E ρ' Ls v := by intro _ _; first | exact y_makeFunc rfl rfl) (hd : Nat.blt d x.N = true := by rfl) : TR x l (Stays x ρ0 Ls) (fuel + 1) listed Q E ρ L := tr_take n0 hb hi (ys_of' (fun _ h => h) y) hd k
theorem wMf (n0 : Nat) {fn : Fn} {p q : Array Operand} {j t0 : Nat} {b0 : Bool} (k : TR x l (Stays x ρ0 Ls) fuel (lset listed n0) Q ((d, v) :: E) ρ L) (hb : takeB l listed n0 = true := by decide +kernel) (hi : l[n0]? = some ⟨some d, .makeFunc fn p q, ty, pos, af, some (j, b0)⟩ := by rfl) (hj : (l[j]?).bind (·.dst) = some t0 := by rfl) (he : lk E t0 = some (.bool b0) := by rfl) (y : ∀ ρ', ρ0.le ρ' → Yl x (.makeFunc fn p q) ty E ρ' Ls v := by intro _ _; first | exact y_makeFunc rfl rfl) (hd : Nat.blt d x.N = true := by rfl) : TR x l (Stays x ρ0 Ls) (fuel + 1) listed Q E ρ L := tr_want n0 hb hi hj he (ys_of' (fun _ h => h) y) hd k
theorem iMk {t : Nat} {o : Operand} (h : TL x ops (⟨dd, .convert t t o, ty, pos, af, none⟩ :: rest) Q E ρ L) : TL x ops (⟨dd, .convert t t o, ty, pos, af, none⟩ :: rest) Q E ρ L := h
theorem iSt {o p : Operand} {t : Nat} (h : TL x ops (⟨dd, .store t o p, ty, pos, af, none⟩ :: rest) Q E ρ L) : TL x ops (⟨dd, .store t o p, ty, pos, af, none⟩ :: rest) Q E ρ L := h
theorem iAl {t : Nat} (h : TL x ops (⟨dd, .alloc t, ty, pos, af, none⟩ :: rest) Q E ρ L) : TL x ops (⟨dd, .alloc t, ty, pos, af, none⟩ :: rest) Q E ρ L := h
theorem iBx {t : Nat} {o : Operand} (h : TL x ops (⟨dd, .box t o, ty, pos, af, none⟩ :: rest) Q E ρ L) : TL x ops (⟨dd, .box t o, ty, pos, af, none⟩ :: rest) Q E ρ L := h
theorem iMm {t : Nat} {o : Option Operand} (h : TL x ops (⟨dd, .makeMap t o, ty, pos, af, none⟩ :: rest) Q E ρ L) : TL x ops (⟨dd, .makeMap t o, ty, pos, af, none⟩ :: rest) Q E ρ L := h
theorem iBs {t n : Nat} {ps : Array (Nat × Operand)} (h : TL x ops (⟨dd, .buildSlice t n ps, ty, pos, af, none⟩ :: rest) Q E ρ L) : TL x ops (⟨dd, .buildSlice t n ps, ty, pos, af, none⟩ :: rest) Q E ρ L := h
theorem iMu {t : Nat} {m p q : Operand} (h : TL x ops (⟨dd, .mapUpdate t m p q, ty, pos, af, none⟩ :: rest) Q E ρ L) : TL x ops (⟨dd, .mapUpdate t m p q, ty, pos, af, none⟩ :: rest) Q E ρ L := h

theorem wSkip (i : Nat) {j t : Nat} {b c : Bool} (k : TR x l (Stays x ρ0 Ls) fuel (lset listed i) Q ((d, undef) :: E) ρ L) (hb : takeB l listed i = true := by decide +kernel) (hi : l[i]? = some ⟨some d, op, ty, pos, af, some (j, c)⟩ := by rfl) (hj : (l[j]?).bind (·.dst) = some t := by rfl) (he : lk E t = some (.bool b) := by rfl) (hbc : (b == c) = false := by rfl)
    (hd : Nat.blt d x.N = true := by rfl) : TR x l (Stays x ρ0 Ls) (fuel + 1) listed Q E ρ L := tr_skip i hb hi hj he hbc hd k
theorem yl_undef {a : Act} {D : List Deferred} {N : Nat} {ops : Array Oper} {j t : Nat} (ha : Ok D N E a) (hj : (ops[j]?).bind (·.dst) = some t) (he : lk E t = some undef) : yielded ops a.tmps j = none := by
  unfold yielded
  rw [hj]
  simp [ha.get t _ he, undef]
theorem qSkipU {j t : Nat} {c : Bool} (k : TL x ops rest Q ((d, undef) :: E) ρ L)
    (hj : (ops[j]?).bind (·.dst) = some t := by rfl) (he : lk E t = some undef := by rfl) (hd : Nat.blt d x.N = true := by rfl) : TL x ops (⟨some d, op, ty, pos, af, some (j, c)⟩ :: rest) Q E ρ L := tl_undef (fun a ha => yl_undef ha hj he) hd k
theorem sSkipU {j t : Nat} {c : Bool} (k : TS x ops rest tail Q ((d, undef) :: E) ρ L)
    (hj : (ops[j]?).bind (·.dst) = some t := by rfl) (he : lk E t = some undef := by rfl) (hd : Nat.blt d x.N = true := by rfl) : TS x ops (⟨some d, op, ty, pos, af, some (j, c)⟩ :: rest) tail Q E ρ L := ts_undef (fun a ha => yl_undef ha hj he) hd k
theorem wSkipU (n0 : Nat) {j t : Nat} {c : Bool} (k : TR x l (Stays x ρ0 Ls) fuel (lset listed n0) Q ((d, undef) :: E) ρ L) (hb : takeB l listed n0 = true := by decide +kernel) (hi : l[n0]? = some ⟨some d, op, ty, pos, af, some (j, c)⟩ := by rfl) (hj : (l[j]?).bind (·.dst) = some t := by rfl) (he : lk E t = some undef := by rfl)
    (hd : Nat.blt d x.N = true := by rfl) : TR x l (Stays x ρ0 Ls) (fuel + 1) listed Q E ρ L := tr_undef n0 hb hi (fun a ha => yl_undef ha (by simpa using hj) he) hd k
theorem rStep {i : Nat} {o : Oper} (h : TL x l.toArray [o] (QR x l (Stays x ρ0 Ls) fuel (lset listed i) Q) E ρ L) (hr : Region.ready .any l.toArray ⟨listed⟩ = [i] := by decide +kernel) (ho : l[i]? = some o := by rfl) : TR x l (Stays x ρ0 Ls) (fuel + 1) listed Q E ρ L := tr_step1 hr ho h
theorem rStep2 {i j : Nat} {o p : Oper} (h : TL x l.toArray [o] (QR x l (Stays x ρ0 Ls) fuel (lset listed i) Q) E ρ L) (h' : TL x l.toArray [p] (QR x l (Stays x ρ0 Ls) fuel (lset listed j) Q) E ρ L) (hr : Region.ready .any l.toArray ⟨listed⟩ = [i, j] := by decide +kernel) (ho : l[i]? = some o := by rfl) (hp : l[j]? = some p := by rfl) : TR x l (Stays x ρ0 Ls) (fuel + 1) listed Q E ρ L := tr_step2 hr ho hp h h'
theorem rStep3 {i j k : Nat} {o p q : Oper} (h : TL x l.toArray [o] (QR x l (Stays x ρ0 Ls) fuel (lset listed i) Q) E ρ L) (h' : TL x l.toArray [p] (QR x l (Stays x ρ0 Ls) fuel (lset listed j) Q) E ρ L) (h'' : TL x l.toArray [q] (QR x l (Stays x ρ0 Ls) fuel (lset listed k) Q) E ρ L) (hr : Region.ready .any l.toArray ⟨listed⟩ = [i, j, k] := by decide +kernel) (ho : l[i]? = some o := by rfl) (hp : l[j]? = some p := by rfl) (hq : l[k]? = some q := by rfl) : TR x l (Stays x ρ0 Ls) (fuel + 1) listed Q E ρ L :=
  tr_step hr (by simp) (fun m hm => by
    rcases List.mem_cons.1 hm with rfl | hm
    · exact ⟨o, ho, h⟩
    · rcases List.mem_cons.1 hm with rfl | hm
      · exact ⟨p, hp, h'⟩
      · have : m = k := by simpa using hm
        subst this; exact ⟨q, hq, h''⟩)
theorem rNext {R : SH} (h : TR x l (Stays x ρ0 Ls) fuel listed Q E ρ L) (hle : ρ0.le ρ := by first | assumption | exact Hp.le_refl _ | (refine Hp.le_trans ?_ (by assumption); assumption) | solve_by_elim (maxDepth := 6) [Hp.le_trans]) (hT : Take L Ls R := by exact tk) : TE x .normal (QR x l (Stays x ρ0 Ls) fuel listed Q) E ρ L := te_any (stays_of hle (hT := hT)) h
theorem rFull {R : SH} (h : TR x l (Stays x ρ L) fuel listed Q E ρ L) (hle : ρ0.le ρ := by first | assumption | exact Hp.le_refl _ | (refine Hp.le_trans ?_ (by assumption); assumption) | solve_by_elim (maxDepth := 6) [Hp.le_trans]) (hT : Take L Ls R := by exact tk) : TR x l (Stays x ρ0 Ls) fuel listed Q E ρ L := tr_full hle hT h
theorem rDone {S : World → Prop} (h : TE x .normal Q E ρ L) (hr : Region.ready .any l.toArray ⟨listed⟩ = [] := by decide +kernel) : TR x l S fuel listed Q E ρ L := tr_done hr h

theorem qWant {j t : Nat} {b : Bool} (k : TL x ops (⟨dd, op, ty, pos, af, none⟩ :: rest) Q E ρ L)
    (hj : (ops[j]?).bind (·.dst) = some t := by rfl) (he : lk E t = some (.bool b) := by rfl) : TL x ops (⟨dd, op, ty, pos, af, some (j, b)⟩ :: rest) Q E ρ L := tl_want hj he k
theorem qSkip {j t : Nat} {b c : Bool} (k : TL x ops rest Q ((d, undef) :: E) ρ L)
    (hj : (ops[j]?).bind (·.dst) = some t := by rfl) (he : lk E t = some (.bool b) := by rfl) (hbc : (b == c) = false := by rfl) (hd : Nat.blt d x.N = true := by rfl) : TL x ops (⟨some d, op, ty, pos, af, some (j, c)⟩ :: rest) Q E ρ L := tl_skip hj he hbc hd k
theorem qSkip0 {j t : Nat} {b c : Bool} (k : TL x ops rest Q E ρ L)
    (hj : (ops[j]?).bind (·.dst) = some t := by rfl) (he : lk E t = some (.bool b) := by rfl) (hbc : (b == c) = false := by rfl) : TL x ops (⟨none, op, ty, pos, af, some (j, c)⟩ :: rest) Q E ρ L := tl_skip0 hj he hbc k
theorem sWant {j t : Nat} {b : Bool} (k : TS x ops (⟨dd, op, ty, pos, af, none⟩ :: rest) tail Q E ρ L)
    (hj : (ops[j]?).bind (·.dst) = some t := by rfl) (he : lk E t = some (.bool b) := by rfl) : TS x ops (⟨dd, op, ty, pos, af, some (j, b)⟩ :: rest) tail Q E ρ L := ts_want hj he k
theorem sSkip {j t : Nat} {b c : Bool} (k : TS x ops rest tail Q ((d, undef) :: E) ρ L)
    (hj : (ops[j]?).bind (·.dst) = some t := by rfl) (he : lk E t = some (.bool b) := by rfl) (hbc : (b == c) = false := by rfl) (hd : Nat.blt d x.N = true := by rfl) : TS x ops (⟨some d, op, ty, pos, af, some (j, c)⟩ :: rest) tail Q E ρ L := ts_skip hj he hbc hd k

theorem qAlA {t : Nat} {l : List Value} [hz : TyZero x.P t (.agg ⟨l⟩)] (k : ∀ b, TL x ops rest Q ((d, .pointer (some ⟨b, 0, none⟩)) :: E) ρ ([(b, .cells ⟨l⟩ t (0, 0))] :: L)) (hd : Nat.blt d x.N = true := by rfl) :
    TL x ops (⟨some d, .alloc t, ty, pos, af, none⟩ :: rest) Q E ρ L := tl_alloc_a hd k
theorem qAlS {t : Nat} {z : Value} [hz : TyZero x.P t z] (k : ∀ b, TL x ops rest Q ((d, .pointer (some ⟨b, 0, none⟩)) :: E) ρ ([(b, .cells ⟨[z]⟩ t (0, 0))] :: L)) (h : z.oneCell' = true := by rfl) (hd : Nat.blt d x.N = true := by rfl) :
    TL x ops (⟨some d, .alloc t, ty, pos, af, none⟩ :: rest) Q E ρ L := tl_alloc_s h hd k
theorem qBxA {t : Nat} {o : Operand} {l : List Value} (k : ∀ b, TL x ops rest Q ((d, .pointer (some ⟨b, 0, none⟩)) :: E) ρ ([(b, .cells ⟨l⟩ t (0, 0))] :: L)) (h : ev E o = some (.agg ⟨l⟩) := by rfl) (hd : Nat.blt d x.N = true := by rfl) :
    TL x ops (⟨some d, .box t o, ty, pos, af, none⟩ :: rest) Q E ρ L := tl_box_a h hd k
theorem qBxS {t : Nat} {o : Operand} (k : ∀ b, TL x ops rest Q ((d, .pointer (some ⟨b, 0, none⟩)) :: E) ρ ([(b, .cells ⟨[v]⟩ t (0, 0))] :: L)) (h : ev E o = some v := by rfl) (h1 : v.oneCell' = true := by rfl) (hd : Nat.blt d x.N = true := by rfl) :
    TL x ops (⟨some d, .box t o, ty, pos, af, none⟩ :: rest) Q E ρ L := tl_box_s h h1 hd k
theorem qMm {t : Nat} (k : ∀ b, TL x ops rest Q ((d, .map (some b)) :: E) ρ ([(b, .map ⟨[]⟩ 0)] :: L)) (hd : Nat.blt d x.N = true := by rfl) :
    TL x ops (⟨some d, .makeMap t none, ty, pos, af, none⟩ :: rest) Q E ρ L := tl_makeMap hd k
theorem qBs {t e sz : Nat} [hS : TySlice x.P t e] [hZ : TySz x.P e sz] (k : ∀ b, TL x ops rest Q ((d, .slice (some ⟨b, 0, none⟩) 0 0) :: E) ρ ([(b, .cells ⟨[]⟩ e (0, 0))] :: L)) (hd : Nat.blt d x.N = true := by rfl) :
    TL x ops (⟨some d, .buildSlice t 0 ⟨[]⟩, ty, pos, af, none⟩ :: rest) Q E ρ L := tl_buildSlice0 hd k
theorem qMk {t e b n c : Nat} {p : Operand} {C : List Value} {T : TypeId} {f : Obj → SH} [hS : TySlice x.P t e] [hE : TyInt x.P e .u8] [hU : Upd b L (.cells ⟨C⟩ T (0, 0)) f]
    (k : TL x ops rest Q ((d, .slice (some ⟨b, 0, none⟩) n c) :: E) ρ (f (.cells ⟨C⟩ T (C.length, C.length + 1)))) (hp : ev E p = some (.slice (some ⟨b, 0, none⟩) n c) := by rfl) (hd : Nat.blt d x.N = true := by rfl) :
    TL x ops (⟨some d, .convert t t p, ty, pos, af, none⟩ :: rest) Q E ρ L := tl_mark hp hd k
theorem qSt {t : Nat} {o p : Operand} {L' : SH} (k : TL x ops rest Q E ρ L')
    (h : TL x ops rest Q E ρ L' → TL x ops (⟨none, .store t o p, ty, pos, af, none⟩ :: rest) Q E ρ L := by
      first
      | exact tl_store_set rfl rfl rfl
      | exact tl_store_all rfl rfl (by first | assumption | rfl) (by first | assumption | rfl) (by first | assumption | rfl)
      | exact tl_store_sub rfl rfl (by first | assumption | rfl) (by rfl)
      | exact tl_store_s rfl rfl rfl (by first | assumption | rfl | exact ble_le (by omega))
      | exact tl_store_a rfl rfl (by first | assumption | rfl) (by first | assumption | rfl) (by first | assumption | rfl | exact ble_le (by omega))) :
    TL x ops (⟨none, .store t o p, ty, pos, af, none⟩ :: rest) Q E ρ L := h k
theorem qCt {c : Operand} {y z : Code} (h : TC x y Q E ρ L) (hc : ev E c = some (.bool true) := by rfl) : TC x (.cond c y z) Q E ρ L := tc_cond_t hc h
theorem qCf {c : Operand} {y z : Code} (h : TC x z Q E ρ L) (hc : ev E c = some (.bool false) := by rfl) : TC x (.cond c y z) Q E ρ L := tc_cond_f hc h
theorem qMiss {id id' : Nat} (h : TE x (.exit id') Q E ρ L) (hne : Nat.beq id' id = false := by rfl) : TE x (.exit id') (Exit.inBlock id Q) E ρ L := te_block_miss hne h

theorem y0Mv {o : Operand} (h : Yl x (.move o) ty E ρ L v) : Yl x (.move o) ty E ρ L v := h
theorem y0Ld {o : Operand} {t : Nat} (h : Yl x (.load t o) ty E ρ L v) : Yl x (.load t o) ty E ρ L v := h
theorem y0Fa {o : Operand} {s f : Nat} (h : Yl x (.fieldAddr s o f) ty E ρ L v) : Yl x (.fieldAddr s o f) ty E ρ L v := h
theorem y0Ad {p q : Operand} {t t' : Nat} (h : Yl x ((.binOp .add t p q t')) ty E ρ L v) : Yl x ((.binOp .add t p q t')) ty E ρ L v := h
theorem y0Sb {p q : Operand} {t t' : Nat} (h : Yl x ((.binOp .sub t p q t')) ty E ρ L v) : Yl x ((.binOp .sub t p q t')) ty E ρ L v := h
theorem y0Ml {p q : Operand} {t t' : Nat} (h : Yl x ((.binOp .mul t p q t')) ty E ρ L v) : Yl x ((.binOp .mul t p q t')) ty E ρ L v := h
theorem y0Rm {p q : Operand} {t t' : Nat} (h : Yl x ((.binOp .rem t p q t')) ty E ρ L v) : Yl x ((.binOp .rem t p q t')) ty E ρ L v := h
theorem y0Qu {p q : Operand} {t t' : Nat} (h : Yl x ((.binOp .quo t p q t')) ty E ρ L v) : Yl x ((.binOp .quo t p q t')) ty E ρ L v := h
theorem y0Sr {p q : Operand} {t t' : Nat} (h : Yl x ((.binOp .shr t p q t')) ty E ρ L v) : Yl x ((.binOp .shr t p q t')) ty E ρ L v := h
theorem y0Sh {p q : Operand} {t t' : Nat} (h : Yl x ((.binOp .shl t p q t')) ty E ρ L v) : Yl x ((.binOp .shl t p q t')) ty E ρ L v := h
theorem y0Or {p q : Operand} {t t' : Nat} (h : Yl x ((.binOp .or t p q t')) ty E ρ L v) : Yl x ((.binOp .or t p q t')) ty E ρ L v := h
theorem y0Cm {o : BinOp} {p q : Operand} {t t' : Nat} (h : Yl x ((.binOp o t p q t')) ty E ρ L v) : Yl x ((.binOp o t p q t')) ty E ρ L v := h
theorem y0Ex {o : Operand} {i : Nat} (h : Yl x (.extract o i) ty E ρ L v) : Yl x (.extract o i) ty E ρ L v := h
theorem y0As {o : Operand} (h : Yl x (.assign o) ty E ρ L v) : Yl x (.assign o) ty E ρ L v := h
theorem y0Pk {c p q : Operand} (h : Yl x (.pick c p q) ty E ρ L v) : Yl x (.pick c p q) ty E ρ L v := h
theorem y0Nc {o : Operand} (h : Yl x (.nilCheck o) ty E ρ L v) : Yl x (.nilCheck o) ty E ρ L v := h
theorem y0Ia {o i : Operand} {t : Nat} (h : Yl x (.indexAddr t o i) ty E ρ L v) : Yl x (.indexAddr t o i) ty E ρ L v := h
theorem y0Cv {o : Operand} {s t : Nat} (h : Yl x (.convert s t o) ty E ρ L v) : Yl x (.convert s t o) ty E ρ L v := h
theorem y0Bi {b : Builtin} {xs : Array Operand} {ats : Array TypeId} (h : Yl x (.call { callee := .builtin b, args := xs, argTypes := ats }) ty E ρ L v) : Yl x (.call { callee := .builtin b, args := xs, argTypes := ats }) ty E ρ L v := h
theorem y0Un {o : UnOp} {p : Operand} {t : Nat} (h : Yl x (.unOp o t p) ty E ρ L v) : Yl x (.unOp o t p) ty E ρ L v := h
theorem y0Fl {o : Operand} {s f : Nat} (h : Yl x (.field s o f) ty E ρ L v) : Yl x (.field s o f) ty E ρ L v := h
theorem y0Lu {o i : Operand} {t : Nat} {c : Bool} (h : Yl x (.lookup t o i c) ty E ρ L v) : Yl x (.lookup t o i c) ty E ρ L v := h
theorem y0Bu {t : Nat} {ps : Array (Nat × Operand)} (h : Yl x (.build t ps) ty E ρ L v) : Yl x (.build t ps) ty E ρ L v := h
theorem y0Sl {t : Nat} {o : Operand} {lw hg mx : Option Operand} (h : Yl x (.slice t o lw hg mx) ty E ρ L v) : Yl x (.slice t o lw hg mx) ty E ρ L v := h
theorem y0Mf {fn : Fn} {p q : Array Operand} (h : Yl x (.makeFunc fn p q) ty E ρ L v) : Yl x (.makeFunc fn p q) ty E ρ L v := h
theorem y0Mi {o : Operand} {t : Nat} (h : Yl x (.makeInterface t o) ty E ρ L v) : Yl x (.makeInterface t o) ty E ρ L v := h
theorem y0Ta {o : Operand} {s t : Nat} {c : Bool} (h : Yl x (.typeAssert o s t c) ty E ρ L v) : Yl x (.typeAssert o s t c) ty E ρ L v := h
theorem qQ {d : Nat} {op : Op} (k : TL x ops rest Q ((d, v) :: E) ρ L) (y : Yl x op ty E ρ L v := by
      first
      | (apply y0Mv; first | exact y_move rfl)
      | (apply y0Ld; first | exact y_load_s rfl (by first | assumption | rfl) | exact y_load_a rfl (by first | assumption | rfl) | exact y_load_sub rfl | exact y_load_part rfl (by first | assumption | omega) (by assumption) | exact y_load_is rfl (by assumption) (by first | assumption | rfl) | exact y_load_ipart rfl (by assumption) (by first | assumption | omega) (by assumption) | exact y_load_is rfl (hp_get (by assumption) (by assumption)) (by first | assumption | rfl) | exact y_load_ipart rfl (hp_get (by assumption) (by assumption)) (by first | assumption | omega) (by assumption))
      | (apply y0Fa; first | exact y_fieldAddr0 rfl | exact y_fieldAddr rfl)
      | (apply y0Ad; first | exact y_add rfl rfl (by simp only [Go.Proofs.E.lo, Go.Proofs.E.hi]; omega) | exact y_add_w rfl rfl)
      | (apply y0Sb; first | exact y_sub rfl rfl (by simp only [Go.Proofs.E.lo, Go.Proofs.E.hi]; omega) | exact y_sub_w rfl rfl)
      | (apply y0Ml; first | exact y_mul rfl rfl (by simp only [Go.Proofs.E.lo, Go.Proofs.E.hi]; omega) | exact y_mul_w rfl rfl)
      | (apply y0Rm; first | exact y_rem rfl rfl (by omega))
      | (apply y0Qu; first | exact y_quo_w rfl rfl (by omega))
      | (apply y0Sr; first | exact y_shr rfl rfl (by omega) (by simp [IntKind.bits]; rfl) | exact y_shr rfl rfl (by omega) rfl)
      | (apply y0Sh; first | exact y_shl8 rfl rfl (by simp only [Go.Proofs.E.lo, Go.Proofs.E.hi]; omega) (by decide) | exact y_shl rfl rfl (by omega) (by simp [IntKind.bits]; rfl) | exact y_shl rfl rfl (by omega) rfl)
      | (apply y0Or; first | exact y_or8 rfl rfl (by omega))
      | (apply y0Cm; first | exact y_cmp (b := true) (by rfl) (by rfl) (by first | rfl | exact cmpB_ne_self | exact cmpB_eq_self | (simp only [cmpB, Option.some.injEq, decide_eq_true_eq, decide_eq_false_iff_not, beq_iff_eq, bne_iff_ne, beq_eq_false_iff_ne, bne_eq_false_iff_eq, ne_eq]; omega)) | exact y_cmp (b := false) (by rfl) (by rfl) (by first | rfl | exact cmpB_ne_self | exact cmpB_eq_self | (simp only [cmpB, Option.some.injEq, decide_eq_true_eq, decide_eq_false_iff_not, beq_iff_eq, bne_iff_ne, beq_eq_false_iff_ne, bne_eq_false_iff_eq, ne_eq]; omega)) | exact y_cmp rfl rfl rfl | exact y_ptr_nil rfl rfl rfl | exact y_func_nil rfl rfl rfl rfl | exact y_slice_nil rfl rfl rfl | exact y_map_nil rfl rfl rfl | exact y_eqs rfl rfl (by first | assumption | rfl) | exact y_nes rfl rfl (by first | assumption | rfl) | exact y_eqd rfl rfl (by first | assumption | rfl) (by first | assumption | rfl) (by assumption) | exact y_ned rfl rfl (by first | assumption | rfl) (by first | assumption | rfl) (by assumption) | exact y_eq_bytes rfl rfl (by first | assumption | rfl) (by first | assumption | rfl) rfl | exact y_bool_eq rfl rfl eqB_bool_self | exact y_bool_eq rfl rfl eqB_bool_nself | exact y_bool_eq rfl rfl rfl | exact y_str_eq rfl rfl rfl | exact y_eqc_l (c := _) rfl rfl (by assumption) rfl | exact y_eqc rfl rfl rfl)
      | (apply y0Ex; first | exact y_extract rfl rfl)
      | (apply y0As; first | exact y_assign rfl)
      | (apply y0Pk; first | exact y_pick_t rfl rfl | exact y_pick_f rfl rfl)
      | (apply y0Nc; first | exact y_nilCheck rfl | exact y_nilCheck_f rfl | exact y_nilCheck_y rfl)
      | (apply y0Ia; first | exact y_indexAddr_nat rfl rfl (by omega) | exact y_indexAddr rfl rfl (by omega) (by omega) | exact y_indexAddr_arrN rfl rfl (by omega) | exact y_indexAddr_arr rfl rfl (by omega) (by omega))
      | (apply y0Cv; first | exact y_conv_i rfl (by simp only [Go.Proofs.E.lo, Go.Proofs.E.hi]; omega) | exact y_conv rfl | exact y_conv_in rfl (by assumption) | exact y_conv_in rfl (SIn.mono (by assumption) (by assumption)))
      | (apply y0Bi; first | exact y_len rfl | exact y_len_str rfl | exact y_cap rfl | exact y_max rfl rfl | exact y_min rfl rfl)
      | (apply y0Un; first | exact y_not rfl | exact y_neg rfl)
      | (apply y0Fl; first | exact y_field_s rfl rfl | exact y_field_sub rfl | exact y_field_a rfl rfl)
      | (apply y0Lu; first | exact y_lookup_ok2 rfl rfl (by assumption) (by assumption) | exact y_lookup2 rfl rfl (by assumption) (by assumption) | exact y_lookup0 rfl rfl (by assumption) (by assumption) | exact y_lookup_ok rfl rfl (by assumption) | exact y_lookup rfl rfl (by assumption))
      | (apply y0Bu; first | exact y_buildS rfl rfl | exact y_build rfl (by assumption) | exact y_build rfl rfl | exact y_build (vs := []) rfl rfl)
      | (apply y0Sl; first | exact y_slice_h rfl rfl (by omega) (by omega) | exact y_slice_str_h rfl rfl (by omega) (by omega) | exact y_slice_lh rfl rfl rfl (by omega) (by omega) (by omega) (by omega) | exact y_slice_l rfl rfl (by omega) (by omega) (by omega) | exact y_slice_str_l rfl rfl (by omega) (by omega) | exact y_slice_arr_all rfl | exact y_slice_arr_l rfl rfl (by omega) (by omega) | exact y_slice_arr_h rfl rfl (by omega) (by omega) | exact y_slice_arr_lh rfl rfl rfl (by omega) (by omega) (by omega) (by omega) | exact y_slice_m rfl rfl rfl rfl (by omega) (by omega) (by omega) (by omega) | exact y_slice_hm rfl rfl rfl (by omega) (by omega) (by omega))
      | (apply y0Mf; first | exact y_makeFunc rfl rfl)
      | (apply y0Mi; first | exact y_makeInterface rfl)
      | (apply y0Ta; first | exact y_typeAssert rfl)) (hd : Nat.blt d x.N = true := by rfl) (hn : noDefer op = true := by rfl) : TL x ops (⟨some d, op, ty, pos, af, none⟩ :: rest) Q E ρ L := tl_y y hd hn k

theorem i_tc {c : Code} (h : TC x c Q E ρ L) : TC x c Q E ρ L := h
theorem i_qq {d : Nat} {op : Op} (h : TL x ops (⟨some d, op, ty, pos, af, none⟩ :: rest) Q E ρ L) : TL x ops (⟨some d, op, ty, pos, af, none⟩ :: rest) Q E ρ L := h
theorem i_te {e : Exit} (h : TE x e Q E ρ L) : TE x e Q E ρ L := h
theorem qTc {G : Prop} {c : Code} (k : G) (h : G → TC x c Q E ρ L := by
      intro k
      first
      | exact tc_seq k
      | exact tc_region k
      | (refine i_cond ?_; first | exact qCt k | exact qCf k)
      | exact tc_block k
      | exact tc_exit k
      | exact tc_ret k
      | exact tc_skip k
      | exact tc_scope k
      | exact tc_label k) : TC x c Q E ρ L := h k
theorem qTe {G : Prop} {e : Exit} (k : G) (h : G → TE x e Q E ρ L := by
      intro k
      first
      | exact te_seq k
      | exact te_block_normal k
      | exact te_block_ret k
      | exact te_then_ret k
      | exact te_block_hit k
      | (refine i_miss ?_; exact qMiss k)
      | exact te_then_exit k
      | exact te_scope_normal k
      | exact te_scope_exit k
      | exact te_scope_ret k) : TE x e Q E ρ L := h k
theorem qEf {G : Prop} {o : Oper} (k : G) (h : G → TL x ops (o :: rest) Q E ρ L := by
      intro k
      first
      | (refine iSt ?_; exact qSt k)
      | (refine iAl ?_; first | exact qAlA k | exact qAlS k)
      | (refine iBx ?_; first | exact qBxA k | exact qBxS k)
      | (refine iMm ?_; exact qMm k)
      | (refine iBs ?_; exact qBs k)
      | (refine iMk ?_; exact qMk k)
      | (refine i_gd ?_; first | exact qWant k | exact qSkip k | exact qSkip0 k | exact qSkipU k)) : TL x ops (o :: rest) Q E ρ L := h k

/-- a call: the contract, then what is left -/
theorem qC {g : Nat} {f : Operand} {xs : List Operand} {ats : Array TypeId} {fs cs vs : List Value} {Lf R : SH} {Post : Value → Hp → SH → Prop} (hf : ev E f = some (.func (.func g) ⟨fs⟩ ⟨cs⟩)) (hv : evs E xs = some vs) [hF : Fun x.P g]
    (S : Spec x.P g (fs ++ vs ++ cs) ρ Lf Post)
    (k : ∀ v ρ' L', ρ.le ρ' → Post v ρ' L' → TL x ops rest Q ((d, v) :: E) ρ' (L' ++ R)) (hT : Take L Lf R := by exact tk) (hd : Nat.blt d x.N = true := by rfl) :
    TL x ops (⟨some d, .call { callee := .value f, args := ⟨xs⟩, argTypes := ats }, ty, pos, af, none⟩ :: rest) Q E ρ L := tl_call hf hv S hT hd k
theorem qY {g : Nat} {f : Operand} {xs : List Operand} {ats : Array TypeId} {vs : List Value} {Lf R : SH} {Post : Bool → Hp → SH → Prop} (hf : ev E f = some (.func (.yield g) ⟨[]⟩ ⟨[]⟩)) (hv : evs E xs = some vs)
    (S : YSpec x.P g vs ρ Lf Post)
    (k : ∀ b ρ' L', ρ.le ρ' → Post b ρ' L' → TL x ops rest Q ((d, .bool b) :: E) ρ' (L' ++ R)) (hT : Take L Lf R := by exact tk) (hd : Nat.blt d x.N = true := by rfl) :
    TL x ops (⟨some d, .call { callee := .value f, args := ⟨xs⟩, argTypes := ats }, ty, pos, af, none⟩ :: rest) Q E ρ L := tl_yield hf hv S hT hd k
/-- a function's end -/
theorem qE {e : Exit} {fn : Func} {u : World} {R : SH} {Post : Value → Hp → SH → Prop} {L' G : SH} (hp : Post v ρ L')
    (hr : ∀ a w, Ok x.D x.N E a → Sat x.u ρ L w → (results fn a.tmps).run x.P w = .ok v w := by
      first
      | exact res0 rfl
      | (refine res1 rfl ?_; first | exact r1_tmp rfl | exact r1_cell rfl (by first | assumption | rfl) | exact r1_cell_s rfl rfl)
      | (refine res2 rfl ?_ ?_ <;> first | exact r1_tmp rfl | exact r1_cell rfl (by first | assumption | rfl) | exact r1_cell_s rfl rfl)
      | (refine res3 rfl ?_ ?_ ?_ <;> first | exact r1_tmp rfl | exact r1_cell rfl (by first | assumption | rfl) | exact r1_cell_s rfl rfl))
    (hle : ρ0.le ρ := by first | assumption | exact Hp.le_refl _ | (refine Hp.le_trans ?_ (by assumption); assumption) | solve_by_elim (maxDepth := 6) [Hp.le_trans]) (k : Take L L' G := by exact tk) (en : Ends G R := by infer_instance) (he : isEnd e = true := by rfl) (hD : x.D = [] := by rfl) (hu : x.u = u := by rfl) :
    TE x e (bodyPostM (Fw none) 0 x.P fn (RK u ρ0 R Post)) E ρ L := te_end he hD hu hr hle k en hp
end
end Go.Proofs.E

namespace Go.Proofs.E
open Go Go.RowKit Go.WideShapes
set_option linter.unusedVariables false
set_option linter.unusedSimpArgs false

/-! ## from a call's world to the symbolic heap, and back -/
def hpOf (w : World) : Hp := fun b => w.heap[b]?
theorem Sat.start (w : World) : Sat w (hpOf w) [] w := ⟨rfl, rfl, rfl, by simp, by simp, by simp, fun b o h => h⟩
theorem Sat.below {w w' : World} {ρ' : Hp} {L : SH} (h : Sat w ρ' L w') (hle : (hpOf w).le ρ') : Below w.heap.size w w' := by
  have old : ∀ k, k < w.heap.size → w'.heap[k]? = w.heap[k]? := fun k hk => by
    have : w.heap[k]? = some w.heap[k] := by simp [hk]
    rw [this]
    exact h.imm k _ (hle k _ this)
  refine ⟨h.os, h.tape, h.output, ?_, old⟩
  rcases Nat.eq_zero_or_pos w.heap.size with h0 | h0
  · omega
  · have := old (w.heap.size - 1) (by omega)
    have hs : w.heap[w.heap.size - 1]? = some w.heap[w.heap.size - 1] := by
      rw [Array.getElem?_eq_getElem (by omega)]
    rw [hs] at this
    have := (Array.getElem?_eq_some_iff.1 this).1
    omega
/-- a law that holds by its contract -/
theorem Spec.law {P : Program} {f : FuncId} {args : List Value} {W : World} (h : Spec P f args (hpOf W) [] (fun v ρ' L' => v = .bool true ∧ (hpOf W).le ρ' ∧ L' = [])) :
    Calls P f ⟨args⟩ W (fun e W' => e = .returned (.bool true) ∧ Below W.heap.size W W') := by
  refine callsIn_wide.1 ((h W [] W (by simpa using Sat.start W)).mono ?_)
  rintro e w' ⟨v, ρ', L', rfl, hle, hs, rfl, hle2, rfl⟩
  exact ⟨rfl, hs.below hle2⟩

/-! ## what came in, opened -/
theorem exists_list {α : Type} {P : Nat → α → Prop} : ∀ (n : Nat), (∀ i, i < n → ∃ a, P i a) → ∃ xs : List α, xs.length = n ∧ ∀ i (h : i < xs.length), P i xs[i]
  | 0, _ => ⟨[], rfl, fun i h => by simp at h⟩
  | n + 1, h => by
    obtain ⟨xs, h1, h2⟩ := exists_list n (fun i hi => h i (by omega))
    obtain ⟨a, ha⟩ := h n (by omega)
    refine ⟨xs ++ [a], by simp [h1], fun i hi => ?_⟩
    by_cases hlt : i < xs.length
    · rw [List.getElem_append_left hlt]; exact h2 i hlt
    · have : i = n := by simp at hi; omega
      subst this
      rw [List.getElem_append_right (by omega)]
      simpa using ha
theorem mapM_get {α β : Type} {f : α → Option β} : ∀ {l : List α} {ys : List β}, l.mapM f = some ys → ys.length = l.length ∧ ∀ i (h : i < l.length), f l[i] = ys[i]?
  | [], ys, h => by simp at h; subst h; simp
  | a :: r, ys, h => by
    simp only [List.mapM_cons, Option.bind_eq_bind, Option.bind_eq_some_iff] at h
    obtain ⟨b, hb, bs, hbs, hy⟩ := h
    have hy' : b :: bs = ys := by simpa using hy
    subst hy'
    obtain ⟨h1, h2⟩ := mapM_get hbs
    refine ⟨by simp [h1], fun i hi => ?_⟩
    cases i with
    | zero => simpa using hb
    | succ i => simpa using h2 i (by simpa using hi)
theorem cells_block {w : World} {a : Addr} {n : Nat} {cs : List Value} (h : w.cells? 0 a n = some cs) (hn : 0 < n) :
    ∃ b off C T fr, a = ⟨b, off, none⟩ ∧ w.heap[b]? = some (.cells ⟨C⟩ T fr) ∧ off + n ≤ C.length ∧ cs = (C.drop off).take n := by
  simp only [World.cells?, Nat.zero_le, if_true] at h
  obtain ⟨h1, h2⟩ := mapM_get h
  simp only [List.length_range, List.getElem_range] at h1 h2
  obtain ⟨b, off, spot⟩ := a
  have hc0 := h2 0 hn
  have e0 : (Addr.mk b off spot).add 0 = ⟨b, off, spot⟩ := by simp [Addr.add]
  rw [e0, List.getElem?_eq_getElem (by omega)] at hc0
  have hs : spot = none := World.cell?_spot hc0
  subst hs
  have hb : ∃ C T fr, w.heap[b]? = some (.cells C T fr) := by
    unfold World.cell? at hc0
    split at hc0
    · rename_i c T fr hb; exact ⟨c, T, fr, hb⟩
    · cases hc0
  obtain ⟨⟨C⟩, T, fr, hb⟩ := hb
  have cell : ∀ i, i < n → C[off + i]? = cs[i]? := fun i hi => by
    have := h2 i hi
    rw [addr_add] at this
    simp only [World.cell?, hb, Option.isSome_none, Bool.false_eq_true, if_false] at this
    simpa using this
  have hlen : off + n ≤ C.length := by
    have := cell (n - 1) (by omega)
    rw [List.getElem?_eq_getElem (show n - 1 < cs.length by omega)] at this
    have := (List.getElem?_eq_some_iff.1 this).1
    omega
  refine ⟨b, off, C, T, fr, rfl, hb, hlen, ?_⟩
  apply List.ext_getElem?
  intro i
  by_cases hi : i < n
  · rw [List.getElem?_take_of_lt hi, List.getElem?_drop, cell i hi]
  · rw [List.getElem?_eq_none (by omega), List.getElem?_eq_none (by simp; omega)]

section
variable {H : Type} {enc : TypeId × Value → H} {P : Program} {w : World}
/-- a reading of type `t` tells a datum -/
def Opn (enc : TypeId × Value → H) (P : Program) (w : World) (t : TypeId) {α : Type} (R : List Value → α → Prop) : Prop :=
  ∀ fuel cs x, DataW.trod enc P w 0 (fun _ => true) true fuel t cs = some x → ∃ a, R cs a
def RI (k : IntKind) (cs : List Value) (n : Int) : Prop := cs = [.int k n] ∧ lo k ≤ n ∧ n ≤ hi k
def RB (cs : List Value) (b : Bool) : Prop := cs = [.bool b]
theorem wf_bounds {k : IntKind} {n : Int} (h : (Lit.int k n).wf = true) : lo k ≤ n ∧ n ≤ hi k := by
  cases k <;> simp [Lit.wf, IntKind.min, IntKind.max, IntKind.signed, IntKind.bits, lo, hi] at h ⊢ <;> omega
theorem opn_int {t : TypeId} {k : IntKind} (ht : P.underlying t = some (.int k)) : Opn enc P w t (RI k) := fun fuel cs x h => by
  obtain ⟨m, rfl, rfl, hw⟩ := DataW.trod_int ht h
  exact ⟨m, rfl, wf_bounds hw⟩
theorem opn_bool {t : TypeId} (ht : P.underlying t = some .bool) : Opn enc P w t RB := fun fuel cs x h => by
  cases fuel with
  | zero => simp [DataW.trod] at h
  | succ n =>
    unfold DataW.trod at h
    rw [ht] at h
    split at h <;> simp_all [RB]
/-- a slice that came in: its address, length and capacity, and what its elements are -/
structure RS (ρ : Hp) (sz : Nat) {α : Type} (R : List Value → α → Prop) (cs : List Value) (s : Option Addr × Nat × Nat × List α) : Prop where
  cells : cs = [.slice s.1 s.2.1 s.2.2.1]
  le : s.2.1 ≤ s.2.2.1
  big : s.2.2.1 ≤ 9223372036854775807
  len : s.2.2.2.length = s.2.1
  at' : ∀ i (h : i < s.2.2.2.length), ∃ b off C T fr, s.1 = some ⟨b, off, none⟩ ∧ ρ b = some (.cells ⟨C⟩ T fr) ∧ off + i * sz + sz ≤ C.length ∧ R ((C.drop (off + i * sz)).take sz) s.2.2.2[i]
theorem opn_slice {t e : TypeId} {sz : Nat} {α : Type} {R : List Value → α → Prop} (ht : P.underlying t = some (.slice e)) (hsz : P.cellsOf e = sz) (h0 : 0 < sz) (hR : Opn enc P w e R) : Opn enc P w t (RS (hpOf w) sz R) := fun fuel cs x h => by
  subst hsz
  rcases DataW.trod_slice ht h with ⟨rfl, _⟩ | ⟨a, len, cap, elems, rest, n, _, rfl, _, _, hl, hm, hlen, hel, _, _⟩
  · exact ⟨(none, 0, 0, []), rfl, Nat.le_refl _, by simp, rfl, fun i h => by simp at h⟩
  have each : ∀ i, i < len → ∃ y : α, ∃ b off C T fr, a = ⟨b, off, none⟩ ∧ w.heap[b]? = some (.cells ⟨C⟩ T fr) ∧ off + i * P.cellsOf e + P.cellsOf e ≤ C.length ∧ R ((C.drop (off + i * P.cellsOf e)).take (P.cellsOf e)) y := by
    have spot : 0 < len → a.spot = none := fun hp => by
      have hi := hel 0 hp
      rw [List.getElem?_eq_getElem (by omega), Option.bind_eq_some_iff] at hi
      obtain ⟨cs', hcs, _⟩ := hi
      obtain ⟨b, off, C, T, fr, ha, _⟩ := cells_block hcs h0
      have e0 : a.add (0 * P.cellsOf e) = a := by simp [Addr.add]
      rw [e0] at ha
      rw [ha]
    intro i hi
    have hs := spot (by omega)
    obtain ⟨b, off, sp⟩ := a
    simp only at hs
    subst hs
    have hi' := hel i hi
    rw [List.getElem?_eq_getElem (by omega), Option.bind_eq_some_iff] at hi'
    obtain ⟨cs', hcs, htr⟩ := hi'
    rw [addr_add] at hcs
    obtain ⟨b', off', C, T, fr, ha, hb, hfit, rfl⟩ := cells_block hcs h0
    cases ha
    obtain ⟨y, hy⟩ := hR _ _ _ htr
    exact ⟨y, _, _, C, T, fr, rfl, hb, hfit, hy⟩
  obtain ⟨xs, h1, h2⟩ := exists_list len each
  refine ⟨(some a, len, cap, xs), rfl, hl, by simpa [maxLen] using hm, h1, fun i hi => ?_⟩
  obtain ⟨b, off, C, T, fr, e1, e2, e3, e4⟩ := h2 i hi
  exact ⟨b, off, C, T, fr, by rw [e1], e2, e3, e4⟩
/-- the fields of a struct that came in -/
theorem opn_fields {t : TypeId} {fs : Array Field} {fuel : Nat} {cs : List Value} {x : DataW H × List MemPlace} (ht : P.underlying t = some (.struct fs)) (h : DataW.trod enc P w 0 (fun _ => true) true fuel t cs = some x) :
    cs.length = P.cellsOf t ∧ ∀ (i : Nat) (f : Field), fs[i]? = some f → ∀ {α : Type} {R : List Value → α → Prop}, Opn enc P w f.type R → ∃ a, R ((cs.drop f.offset).take (P.cellsOf f.type)) a := by
  obtain ⟨xs, n, _, _, hl, hlen, hf⟩ := DataW.trod_struct ht h
  refine ⟨hl, fun i f hi α R hR => ?_⟩
  have := hf i f hi
  have hlt : i < fs.size := (Array.getElem?_eq_some_iff.1 hi).1
  rw [List.getElem?_eq_getElem (by omega)] at this
  exact hR _ _ _ this
theorem opn_field {t : TypeId} {fs : Array Field} {fuel : Nat} {cs : List Value} {x : DataW H × List MemPlace} (h : DataW.trod enc P w 0 (fun _ => true) true fuel t cs = some x) (ht : P.underlying t = some (.struct fs)) (i o n : Nat) {f : Field} {T : TypeId}
    (hi : fs[i]? = some f) (ho : f.offset = o) (hT : f.type = T) (hn : P.cellsOf T = n) {α : Type} {R : List Value → α → Prop} (hR : Opn enc P w T R) : ∃ a, R ((cs.drop o).take n) a := by
  subst ho; subst hn; subst hT
  exact (opn_fields ht h).2 i f hi hR
/-- how long a slice that came in may be -/
theorem top_slice {ts : List TypeId} {ds : List (DataW H)} {t e : TypeId} {j : Nat} {v : Value} {d : DataW H} {p : List MemPlace} {a : Option Addr} {n c : Nat} (hsz : (DataW.weightsEach P ts ds).all (· ≤ reachBytes) = true)
    (ht : ts[j]? = some t) (hd : ds[j]? = some d) (hu : P.underlying t = some (.slice e)) (h : DataW.Trod enc P w 0 (fun _ => true) true t v d p) (hv : v = .slice a n c) : n * P.bytesOf e ≤ reachBytes := by
  obtain ⟨fuel, h⟩ := h
  subst hv
  rcases DataW.trod_slice hu h with ⟨h1, _⟩ | ⟨a, len, cap, elems, rest, m, _, h1, h2, _, hl, hm, hlen, _⟩
  · simp [Value.cells] at h1; simp [h1]
  · simp only [Value.cells] at h1
    have h1' : n = len := by simp at h1; exact h1.2.1
    have h2' := congrArg Prod.fst h2
    simp only at h2'
    have := sized_slice hsz ht (by rw [hd, h2']) hu
    refine Nat.le_trans (Nat.mul_le_mul_right _ ?_) this
    simp; omega
end
end Go.Proofs.E

namespace Go.Proofs.E
open Go
set_option linter.unusedVariables false
set_option linter.unusedSimpArgs false

/-! ## loops: what turns is named, what stays is found -/
theorem lk_append (A B : Env) (t : Nat) : lk (A ++ B) t = (lk A t).or (lk B t) := by
  induction A with
  | nil => simp [lk]
  | cons p r ih =>
    obtain ⟨k, v⟩ := p
    simp only [List.cons_append, lk]
    split
    · simp
    · exact ih
theorem EnvLe.app {A B E : Env} (h : EnvLe A E) (k : EnvLe B E) : EnvLe (A ++ B) E := fun t v hv => by
  rw [lk_append] at hv
  cases ha : lk A t with
  | some x => rw [ha] at hv; simp only [Option.some_or, Option.some.injEq] at hv; rw [← hv]; exact h t x ha
  | none => rw [ha] at hv; simp only [Option.none_or] at hv; exact k t v hv
section
variable {x : Cx} {Q : Exit → Act → World → Prop} {E : Env} {ρ : Hp} {L : SH}
def KRG (x : Cx) {Y : Type} (C : Env) (M : Y → Env) (ρf : Y → Hp) (Lf : Y → SH) (R : SH) (I : Y → Prop) (μ : Y → Nat) (y : Y) : Act → World → Prop := KR x (fun y => ⟨M y ++ C, ρf y, Lf y ++ R⟩) I μ y
theorem tc_loop_g {Y : Type} {c : Code} {R : SH} (C : Env) (M : Y → Env) (ρf : Y → Hp) (Lf : Y → SH) (I : Y → Prop) (μ : Y → Nat) (y0 : Y) (h0 : I y0) (hM : EnvLe (M y0) E) (hC : EnvLe C E) (hρ : ρf y0 = ρ) (k : Take L (Lf y0) R)
    (round : ∀ y, I y → TC x c (Exit.then (KRG x C M ρf Lf R I μ y) Q) (M y ++ C) (ρf y) (Lf y ++ R)) : TC x (.loop c) Q E ρ L :=
  tc_loop (fun y => ⟨M y ++ C, ρf y, Lf y ++ R⟩) I μ y0 h0 (hM.app hC) hρ k.out round
theorem te_round_g {Y : Type} {C : Env} {M : Y → Env} {ρf : Y → Hp} {Lf : Y → SH} {R G : SH} {I : Y → Prop} {μ : Y → Nat} {y : Y} (y' : Y) (hI : I y') (hM : EnvLe (M y') E) (hC : EnvLe C E) (hρ : ρf y' = ρ) (k : Take L (Lf y') G) (e : Ends G R) (hμ : μ y' < μ y) :
    TE x .normal (Exit.then (KRG x C M ρf Lf R I μ y) Q) E ρ L :=
  te_round_e (S := fun y => ⟨M y ++ C, ρf y, Lf y ++ R⟩) (Lm := Lf y') (R := R) y' rfl hI (hM.app hC) hρ k e hμ
/-- a cut of the same make -/
def KCG (x : Cx) {Y : Type} (C : Env) (M : Y → Env) (ρf : Y → Hp) (Lf : Y → SH) (R : SH) (I : Y → Prop) : Act → World → Prop := fun a w => ∃ y', Ok x.D x.N (M y' ++ C) a ∧ Sat x.u (ρf y') (Lf y' ++ R) w ∧ I y'
theorem tc_cut_g {y z : Code} {Y : Type} {R : SH} (C : Env) (M : Y → Env) (ρf : Y → Hp) (Lf : Y → SH) (I : Y → Prop) (R : SH)
    (h : TC x y (Exit.then (KCG x C M ρf Lf R I) Q) E ρ L)
    (k : ∀ y', I y' → TC x z Q (M y' ++ C) (ρf y') (Lf y' ++ R)) : TC x (.seq y z) Q E ρ L :=
  tc_cut (S := fun y => ⟨M y ++ C, ρf y, Lf y ++ R⟩) (I := I) h k
theorem tc_cut_k {y z : Code} {Y : Type} (R : SH) (C : Env) (M : Y → Env) (ρf : Y → Hp) (Lf : Y → SH) (I : Y → Prop) (hC : EnvLe C E)
    (h : TC x y (Exit.then (KCG x C M ρf Lf R I) Q) E ρ L)
    (k : ∀ y', I y' → TC x z Q (M y' ++ C) (ρf y') (Lf y' ++ R)) : TC x y (Exit.then (KC x z Q) Q) E ρ L := fun a w ha hw =>
  wpIn_mono (h a w ha hw) fun e a w q => by
    cases e <;> first | exact q | exact (let ⟨y', h1, h2, h3⟩ := q; k y' h3 a w h1 h2)
theorem te_cut_g {Y : Type} {C : Env} {M : Y → Env} {ρf : Y → Hp} {Lf : Y → SH} {R G : SH} {I : Y → Prop} (y' : Y) (hI : I y') (hM : EnvLe (M y') E) (hC : EnvLe C E) (hρ : ρf y' = ρ) (k : Take L (Lf y') G) (e : Ends G R) :
    TE x .normal (Exit.then (KCG x C M ρf Lf R I) Q) E ρ L :=
  te_cut_e (S := fun y => ⟨M y ++ C, ρf y, Lf y ++ R⟩) (Lm := Lf y') (R := R) y' rfl hI (hM.app hC) hρ k e
end
end Go.Proofs.E

namespace Go.Proofs.E
open Go Go.Lib
set_option linter.unusedVariables false
set_option linter.unusedSimpArgs false
set_option linter.unusedSectionVars false
/-! ## a slice that is cut off in front, and appended to -/
structure OwnO (v : Value) (n : Nat) (xs : List Value) (T : TypeId) (c : List (Nat × Obj)) : Prop where
  out : (v = .slice none 0 0 ∧ n = 0 ∧ xs = [] ∧ c = []) ∨ ∃ b off cap pre sp, v = .slice (some ⟨b, off, none⟩) n cap ∧ xs.length = n ∧ xs.length + sp.length = cap ∧ n ≤ cap ∧ (cap = 0 ∨ off = pre.length) ∧ c = [(b, .cells ⟨pre ++ xs ++ sp⟩ T (0, 0))]
theorem OwnO.nil {T : TypeId} : OwnO (.slice none 0 0) 0 [] T [] := ⟨.inl ⟨rfl, rfl, rfl, rfl⟩⟩
theorem OwnO.slice {v : Value} {n : Nat} {xs : List Value} {T : TypeId} {c : List (Nat × Obj)} (h : OwnO v n xs T c) : ∃ a cap, v = .slice a n cap ∧ n ≤ cap := by
  rcases h.out with ⟨rfl, rfl, rfl, rfl⟩ | ⟨b, off, cap, pre, sp, rfl, h1, h2, h3, h4⟩
  · exact ⟨none, 0, rfl, Nat.le_refl _⟩
  · exact ⟨_, cap, rfl, h3⟩
theorem OwnO.tail {v : Value} {n : Nat} {x : Value} {xs : List Value} {T : TypeId} {c : List (Nat × Obj)} (h : OwnO v n (x :: xs) T c) : ∃ a cap, v = .slice a n cap ∧ 1 ≤ n ∧ n ≤ cap ∧ OwnO (.slice (if cap = 1 then a else a.map (·.add (1 * 1))) (n - 1) (cap - 1)) (n - 1) xs T c := by
  rcases h.out with ⟨rfl, rfl, h1, rfl⟩ | ⟨b, off, cap, pre, sp, rfl, h1, h2, h3, h4, rfl⟩
  · cases h1
  · simp only [List.length_cons] at h1 h2
    refine ⟨_, cap, rfl, by omega, h3, ⟨.inr ⟨b, if cap = 1 then off else off + 1, cap - 1, pre ++ [x], sp, ?_, by omega, by omega, by omega, ?_, by simp⟩⟩⟩
    · by_cases hc : cap = 1
      · simp [hc]
      · simp [hc, addr_add]
    · by_cases hc : cap = 1
      · left; omega
      · right; simp only [if_neg hc]; rcases h4 with h4 | h4
        · omega
        · simp [h4]
theorem OwnO.sIn {α : Type} {g : α → Value} {ρ : Hp} {v : Value} {n : Nat} {l : List α} {T : TypeId} {c : List (Nat × Obj)} (h : OwnO v n (l.map g) T c) (hf : ∀ p ∈ c, ρ p.1 = some p.2) : ∃ a cap, v = .slice a n cap ∧ n ≤ cap ∧ SIn ρ g a n l := by
  rcases h.out with ⟨rfl, rfl, h2, rfl⟩ | ⟨b, off, cap, pre, sp, rfl, h1, h2, h3, h4, rfl⟩
  · have : l = [] := by simpa using h2
    subst this
    exact ⟨none, 0, rfl, Nat.le_refl _, SIn.nil⟩
  · refine ⟨_, cap, rfl, h3, by simpa using h1, ?_⟩
    by_cases h0 : n = 0
    · exact .inl h0
    · right
      rcases h4 with h4 | rfl
      · omega
      · refine ⟨b, _, _, T, (0, 0), rfl, hf _ (List.mem_singleton.2 rfl), ?_⟩
        rw [List.append_assoc, List.drop_left, List.take_left' h1]
section
variable {x : Cx} {Q : Exit → Act → World → Prop} {E : Env} {ρ : Hp} {L L1 : SH} {ops : Array Oper} {rest tail : List Oper} {ty : TypeId} {pos : String} {af : Array Edge}
theorem run_append_room_off {P : Program} (w : World) (t ty e : TypeId) (i : TypeInfo) (ht : P.underlying t = some (.slice e)) (hi : P.info? e = some i)
    (g off sLen sCap : Nat) (cur : Array Value) (hg : w.heap[g]? = some (.cells cur e (0, 0)))
    (a : Addr) (m c : Nat) (news : List Value) (hl : news.length = m * i.size) (hnews : ∀ j u, news[j]? = some u → w.cell? (a.add j) = some u) (h1 : ∀ u ∈ news, u.oneCell' = true)
    (hroom : sLen + m ≤ sCap) (hfit : off + sLen * i.size + news.length ≤ cur.size) :
    (Builtin.append_ #[t, t] ty #[.slice (some ⟨g, off, none⟩) sLen sCap, .slice (some a) m c]).run P w =
      .ok (.slice (some ⟨g, off, none⟩) (sLen + m) sCap) (w.setRow g (cur.toList.take (off + sLen * i.size) ++ news ++ cur.toList.drop (off + sLen * i.size + news.length)).toArray) := by
  have hf := run_firstCells_some (P := P) w i.size m a m c news hl hnews
  have hst := run_storeCells_at P g (off + sLen * i.size) e news 0 cur w hg (by simpa using hfit) h1
  simp only [Nat.add_zero] at hst
  simp [Builtin.append_, run_underlying ht, sizeOf, typeInfo, hi, Builtin.lenOf, hroom, hf, Addr.add_lit, hst]
theorem tl_appO {d t e by' n m cx : Nat} {s y : Operand} {v z : Value} {xs ys : List Value} {a : Option Addr} {c : List (Nat × Obj)} [hS : TySlice x.P t e] [hZ : TySz x.P e 1] [hB : TyBytes x.P e by'] [hz : TyZero x.P e z]
    (hs : ev E s = some v) (hy : ev E y = some (.slice a m cx)) (hown : OwnO v n xs e c) [hR : Rem c L L1] (hsrc : SrcV x ρ L1 a ys) (hlen : ys.length = m)
    (h1 : ys.all (·.oneCell') = true) (h0 : 0 < m) (hzs : z.cells.toList.length = 1) (hb : (n + m) * by' ≤ 140737488355328) (hm : n + m ≤ 9223372036854775807) (hd : Nat.blt d x.N = true)
    (k : ∀ v' c', OwnO v' (n + m) (xs ++ ys) e c' → TL x ops rest Q ((d, v') :: E) ρ (c' :: L1)) :
    TL x ops (⟨some d, .call { callee := .builtin .append, args := #[s, y], argTypes := #[t, t] }, ty, pos, af, none⟩ :: rest) Q E ρ L := fun a' w ha hw => by
  refine wpListIn_intro rfl rfl ?_
  have hw' := hw.perm (L' := c :: L1) (by simpa using hR.out)
  have hwL : Sat x.u ρ L1 w := hw'.sub (by simp)
  obtain ⟨i, g1, g2⟩ := hZ.out
  obtain ⟨i2, g3, g4⟩ := hB.out
  obtain ⟨i3, g5, g6⟩ := hz.out
  rw [g1] at g3 g5
  cases g3; cases g5
  subst g4
  obtain ⟨bx, ox, rfl, hsr⟩ := hsrc.resolve_left (fun hh => by rw [hh] at hlen; simp at hlen; omega)
  have hzs' : z.cells.size = 1 := by simpa using hzs
  have hylen : ys.length = m * i.size := by rw [g2, hlen, Nat.mul_one]
  have hcells : ∀ j c, ys[j]? = some c → w.cell? ((⟨bx, ox, none⟩ : Addr).add j) = some c := fun j c hj => by rw [addr_add]; exact hsr w hwL j c hj
  have hone : ∀ c ∈ ys, c.oneCell' = true := fun c hc => List.all_eq_true.1 h1 c hc
  have hexec : ∀ (v' : Value) (w' : World), (Builtin.append_ #[t, t] ty #[v, .slice (some ⟨bx, ox, none⟩) m cx]).run x.P w = .ok v' w' →
      (execOp a'.eval ⟨some d, .call { callee := .builtin .append, args := #[s, y], argTypes := #[t, t] }, ty, pos, af, none⟩).run x.P w = .ok (.value v') w' := fun v' w' hr => by
    simp only [execOp, resolve, Sem.run_bind, Sem.run_pure, Result.andThen_ok, invoke, builtin]
    have hargs : Array.map a'.eval #[s, y] = #[v, .slice (some ⟨bx, ox, none⟩) m cx] := by simp [ha.eval hs, ha.eval hy]
    rw [hargs, hr]
    rfl
  have hgc : ∀ (w : World) (need old : Nat), need ≤ grownCap w need old e := fun w need old => by simp only [grownCap, Question.cut]; omega
  have hzl : ∀ c, (Builtin.zeroCells z.cells c).toList.length = c := fun c => by
    have := size_zeroCells z.cells c
    rw [hzs'] at this; simpa using this
  rcases hown.out with ⟨rfl, rfl, rfl, rfl⟩ | ⟨b, off, cap, pre, sp, rfl, e1, e2, e3, e4, rfl⟩
  · have hrun := run_append_nil (P := x.P) (w := w) t ty e i z hS.out g1 g6 ⟨bx, ox, none⟩ m cx ys hylen hcells h0 (by omega) (by
      have hfit : Builtin.nextslicecap (0 + m) 0 * i.bytes ≤ 281474976710656 := growslice_fits (by omega) hb
      have : Builtin.nextslicecap m 0 = m := nextslicecap_zero h0
      simp only [Nat.zero_add, this] at hfit; exact hfit)
    rw [hexec _ _ hrun]
    have hs2 := (hwL.drew).new (.cells (ys.toArray ++ Builtin.zeroCells z.cells (grownCap w m 0 e - m)) e (0, 0))
    have hg := hgc w m 0
    refine k (.slice (some ⟨w.heap.size, 0, none⟩) (0 + m) (grownCap w m 0 e)) [(w.heap.size, .cells (ys.toArray ++ Builtin.zeroCells z.cells (grownCap w m 0 e - m)) e (0, 0))] ?_ _ _ (by
      have := ha.put (Nat.le_of_ble_eq_true hd) (.slice (some ⟨w.heap.size, 0, none⟩) m (grownCap w m 0 e)); simpa using this) hs2
    refine ⟨.inr ⟨w.heap.size, 0, grownCap w m 0 e, [], (Builtin.zeroCells z.cells (grownCap w m 0 e - m)).toList, rfl, by simpa using hlen, ?_, by omega, .inr rfl, ?_⟩⟩
    · rw [hzl]; simp only [List.nil_append, hlen]; omega
    · simp only [List.nil_append]
      congr 3
      apply Array.ext'; simp
  · have hbk := hw'.here (b, .cells ⟨pre ++ xs ++ sp⟩ e (0, 0)) (by simp)
    by_cases hroom : n + m ≤ cap
    · have hoff : off = pre.length := by omega
      subst hoff
      have hyl : ys.length ≤ sp.length := by omega
      have hrun := run_append_room_off (P := x.P) w t ty e i hS.out g1 b pre.length n cap ⟨pre ++ xs ++ sp⟩ hbk ⟨bx, ox, none⟩ m cx ys hylen hcells hone hroom (by simp [g2]; omega)
      rw [hexec _ _ hrun]
      have hset : w.setRow b (List.take (pre.length + n * i.size) (pre ++ xs ++ sp) ++ ys ++ List.drop (pre.length + n * i.size + ys.length) (pre ++ xs ++ sp)).toArray = putB w b (.cells ⟨pre ++ (xs ++ ys) ++ sp.drop ys.length⟩ e (0, 0)) := by
        rw [setRow_eq hbk]
        have := stc_end (pre ++ xs) sp ys hyl
        unfold stc at this
        rw [g2, Nat.mul_one, ← e1, ← List.length_append, this]
        simp only [List.append_assoc]
      have hs2 := hw'.put (.cells ⟨pre ++ (xs ++ ys) ++ sp.drop ys.length⟩ e (0, 0))
      refine k (.slice (some ⟨b, pre.length, none⟩) (n + m) cap) [(b, .cells ⟨pre ++ (xs ++ ys) ++ sp.drop ys.length⟩ e (0, 0))] ⟨.inr ⟨b, pre.length, cap, pre, sp.drop ys.length, rfl, by simp; omega, by simp; omega, hroom, .inr rfl, rfl⟩⟩ _ _ (ha.put (Nat.le_of_ble_eq_true hd) _) ?_
      simp only [Array.toList] at hset ⊢
      rw [hset]
      exact hs2
    · have hold : ∀ j c, xs[j]? = some c → w.cell? ((⟨b, off, none⟩ : Addr).add j) = some c := fun j c hj => by
        have hlt := (List.getElem?_eq_some_iff.1 hj).1
        have hoff : off = pre.length := by omega
        subst hoff
        rw [addr_add]
        simp only [World.cell?, hbk, Option.isSome_none, Bool.false_eq_true, if_false]
        simp only [List.getElem?_toArray]
        rw [List.append_assoc, List.getElem?_append_right (by omega), Nat.add_sub_cancel_left, List.getElem?_append_left hlt]; exact hj
      have hrun := run_append_grow (P := x.P) (w := w) t ty e i z hS.out g1 g6 ⟨b, off, none⟩ n cap xs (by rw [g2]; omega) hold ⟨bx, ox, none⟩ m cx ys hylen hcells (by omega) (by omega) (growslice_fits (by omega) hb)
      rw [hexec _ _ hrun]
      have hg := hgc w (n + m) cap
      have hs2 := (hwL.drew).new (.cells (xs.toArray ++ ys.toArray ++ Builtin.zeroCells z.cells (grownCap w (n + m) cap e - (n + m))) e (0, 0))
      refine k (.slice (some ⟨w.heap.size, 0, none⟩) (n + m) (grownCap w (n + m) cap e)) [(w.heap.size, .cells (xs.toArray ++ ys.toArray ++ Builtin.zeroCells z.cells (grownCap w (n + m) cap e - (n + m))) e (0, 0))] ?_ _ _ (ha.put (Nat.le_of_ble_eq_true hd) _) hs2
      refine ⟨.inr ⟨w.heap.size, 0, grownCap w (n + m) cap e, [], (Builtin.zeroCells z.cells (grownCap w (n + m) cap e - (n + m))).toList, rfl, by simp; omega, ?_, by omega, .inr rfl, ?_⟩⟩
      · rw [hzl]; simp only [List.length_append, hlen, e1]; omega
      · congr 3
        apply Array.ext'; simp
end
end Go.Proofs.E

namespace Go.Proofs.E
open Go
set_option linter.unusedVariables false
set_option linter.unusedSimpArgs false
set_option linter.unusedSectionVars false
set_option maxRecDepth 4000
set_option maxHeartbeats 1000000
attribute [local irreducible] Yl TL TC TE Spec YSpec R1 Hp.le EnvLe TS TR YS Stays
/-! ## numbers in bytes -/
def be : Nat → Nat → List UInt8
  | 0, _ => []
  | n + 1, x => UInt8.ofNat (x / 256 ^ n) :: be n x
def unbe (l : List UInt8) : Nat := l.foldl (fun a b => a * 256 + b.toNat) 0
theorem be_length (n x : Nat) : (be n x).length = n := by induction n <;> simp [be, *]
theorem foldl_be (l : List UInt8) (a : Nat) : l.foldl (fun a b => a * 256 + b.toNat) a = a * 256 ^ l.length + unbe l := by
  unfold unbe
  induction l generalizing a with
  | nil => simp
  | cons b l ih =>
    simp only [List.foldl_cons, List.length_cons]
    rw [ih (a * 256 + b.toNat), ih (0 * 256 + b.toNat)]
    rw [Nat.pow_succ]
    simp only [Nat.zero_mul, Nat.zero_add, Nat.add_mul, Nat.mul_assoc, Nat.mul_comm 256, Nat.add_assoc]
theorem unbe_cons (b : UInt8) (l : List UInt8) : unbe (b :: l) = b.toNat * 256 ^ l.length + unbe l := by
  have := foldl_be l (0 * 256 + b.toNat)
  simp only [Nat.zero_mul, Nat.zero_add] at this
  rw [← this]; simp [unbe]
theorem unbe_snoc (b : UInt8) (l : List UInt8) : unbe (l ++ [b]) = unbe l * 256 + b.toNat := by simp [unbe]
theorem unbe_lt (l : List UInt8) : unbe l < 256 ^ l.length := by
  induction l with
  | nil => simp [unbe]
  | cons b l ih =>
    rw [unbe_cons, List.length_cons, Nat.pow_succ]
    have hb : b.toNat < 256 := b.toNat_lt
    have : (b.toNat + 1) * 256 ^ l.length ≤ 256 * 256 ^ l.length := Nat.mul_le_mul_right _ (by omega)
    rw [Nat.add_mul] at this
    omega
theorem unbe_be (n x : Nat) : unbe (be n x) = x % 256 ^ n := by
  induction n with
  | zero => simp [be, unbe, Nat.mod_one]
  | succ n ih =>
    rw [be, unbe_cons, be_length, ih, UInt8.toNat_ofNat']
    have h1 := Nat.mod_mul (x := x) (a := 256 ^ n) (b := 256)
    have e : 256 ^ (n + 1) = 256 ^ n * 256 := by rw [Nat.pow_succ]
    have e2 : (2 : Nat) ^ 8 = 256 := by decide
    rw [e, h1, e2, Nat.mul_comm]
    omega
theorem be_mod (n x : Nat) : be n (x % 256 ^ n) = be n x := by
  have key : ∀ m, m ≤ n → be m (x % 256 ^ n) = be m x := by
    intro m
    induction m with
    | zero => intro _; rfl
    | succ m ih =>
      intro hm
      rw [be, be, ih (by omega)]
      congr 1
      apply UInt8.toNat_inj.1
      simp only [UInt8.toNat_ofNat']
      obtain ⟨k, rfl⟩ : ∃ k, n = m + 1 + k := ⟨n - (m + 1), by omega⟩
      have e : 256 ^ (m + 1 + k) = 256 ^ m * (256 * 256 ^ k) := by rw [Nat.pow_add, Nat.pow_succ, Nat.mul_assoc]
      rw [e, Nat.mod_mul_right_div_self, Nat.mod_mul_right_mod]
  exact key n (Nat.le_refl _)
theorem be_unbe (l : List UInt8) : be l.length (unbe l) = l := by
  induction l with
  | nil => rfl
  | cons b l ih =>
    rw [List.length_cons, be, unbe_cons]
    have hlt := unbe_lt l
    have hp : 0 < 256 ^ l.length := Nat.pow_pos (by decide)
    have h1 : (b.toNat * 256 ^ l.length + unbe l) / 256 ^ l.length = b.toNat := by
      rw [Nat.mul_comm, Nat.mul_add_div hp, Nat.div_eq_of_lt hlt]; simp
    have h2 : be l.length (b.toNat * 256 ^ l.length + unbe l) = l := by
      rw [← be_mod, Nat.mul_comm, Nat.mul_add_mod, Nat.mod_eq_of_lt hlt, ih]
    rw [h1, h2]; simp
theorem be_inj {n x y : Nat} (hx : x < 256 ^ n) (hy : y < 256 ^ n) (h : be n x = be n y) : x = y := by
  have := congrArg unbe h
  rwa [unbe_be, unbe_be, Nat.mod_eq_of_lt hx, Nat.mod_eq_of_lt hy] at this
end Go.Proofs.E

namespace Go.Proofs.E
open Go Go.Proofs.E
set_option linter.unusedVariables false

instance : TyS Try.prog 1 := mkTyS (by kernel_rfl) (by kernel_rfl)
instance : TyIface Try.prog 1 false := mkTyIface (by kernel_rfl)
instance : TyFunc Try.prog 1 := mkTyFunc (by kernel_rfl)
instance : TySz Try.prog 1 1 := mkTySz (by kernel_rfl)
instance : TyBytes Try.prog 1 8 := mkTyBytes (by kernel_rfl)
instance : TyZero Try.prog 1 (.nilFunc) := mkTyZero (by kernel_rfl)
instance : TyS Try.prog 2 := mkTyS (by kernel_rfl) (by kernel_rfl)
instance : TyIface Try.prog 2 false := mkTyIface (by kernel_rfl)
instance : TySz Try.prog 2 1 := mkTySz (by kernel_rfl)
instance : TyBytes Try.prog 2 8 := mkTyBytes (by kernel_rfl)
instance : TyZero Try.prog 2 (.int .i64 0) := mkTyZero (by kernel_rfl)
instance : TyInt Try.prog 2 .i64 := ⟨by kernel_rfl⟩
instance : TyS Try.prog 3 := mkTyS (by kernel_rfl) (by kernel_rfl)
instance : TyIface Try.prog 3 false := mkTyIface (by kernel_rfl)
instance : TySz Try.prog 3 1 := mkTySz (by kernel_rfl)
instance : TyBytes Try.prog 3 8 := mkTyBytes (by kernel_rfl)
instance : TyZero Try.prog 3 (.int .i64 0) := mkTyZero (by kernel_rfl)
instance : TyInt Try.prog 3 .i64 := ⟨by kernel_rfl⟩
instance : TyS Try.prog 4 := mkTyS (by kernel_rfl) (by kernel_rfl)
instance : TyIface Try.prog 4 false := mkTyIface (by kernel_rfl)
instance : TySz Try.prog 4 1 := mkTySz (by kernel_rfl)
instance : TyBytes Try.prog 4 1 := mkTyBytes (by kernel_rfl)
instance : TyZero Try.prog 4 (.bool false) := mkTyZero (by kernel_rfl)
instance : TyBool Try.prog 4 := ⟨by kernel_rfl⟩
instance : TyS Try.prog 5 := mkTyS (by kernel_rfl) (by kernel_rfl)
instance : TyIface Try.prog 5 false := mkTyIface (by kernel_rfl)
instance : TySz Try.prog 5 1 := mkTySz (by kernel_rfl)
instance : TyBytes Try.prog 5 1 := mkTyBytes (by kernel_rfl)
instance : TyZero Try.prog 5 (.int .u8 0) := mkTyZero (by kernel_rfl)
instance : TyInt Try.prog 5 .u8 := ⟨by kernel_rfl⟩
instance : TyA Try.prog 7 4 := mkTyA (by kernel_rfl) (by kernel_rfl)
instance : TyIface Try.prog 7 false := mkTyIface (by kernel_rfl)
instance : TySz Try.prog 7 4 := mkTySz (by kernel_rfl)
instance : TyBytes Try.prog 7 24 := mkTyBytes (by kernel_rfl)
instance : TyZero Try.prog 7 (.agg ⟨[.int .i64 0, .int .i64 0, .bool false, .int .u8 0]⟩) := mkTyZero (by kernel_rfl)
instance : NoGuard Try.prog 7 := ⟨by kernel_rfl⟩
instance : Fld Try.prog 7 0 0 2 := mkFld (by kernel_rfl)
instance : Fld Try.prog 7 1 1 3 := mkFld (by kernel_rfl)
instance : Fld Try.prog 7 2 2 4 := mkFld (by kernel_rfl)
instance : Fld Try.prog 7 3 3 6 := mkFld (by kernel_rfl)
instance : TyPlaces Try.prog 7 (([(0, 1), (1, 1), (2, 1), (3, 1)] : List (Nat × Nat))[·]?) := mkTyPlaces (by kernel_rfl)
instance : TyS Try.prog 9 := mkTyS (by kernel_rfl) (by kernel_rfl)
instance : TyIface Try.prog 9 false := mkTyIface (by kernel_rfl)
instance : TySz Try.prog 9 1 := mkTySz (by kernel_rfl)
instance : TyBytes Try.prog 9 16 := mkTyBytes (by kernel_rfl)
instance : TyZero Try.prog 9 (.string ⟨⟨[]⟩⟩) := mkTyZero (by kernel_rfl)
instance : TyStr Try.prog 9 := ⟨by kernel_rfl⟩
instance : TyS Try.prog 12 := mkTyS (by kernel_rfl) (by kernel_rfl)
instance : TyIface Try.prog 12 false := mkTyIface (by kernel_rfl)
instance : TySz Try.prog 12 1 := mkTySz (by kernel_rfl)
instance : TyBytes Try.prog 12 8 := mkTyBytes (by kernel_rfl)
instance : TyZero Try.prog 12 (.int .u64 0) := mkTyZero (by kernel_rfl)
instance : TyInt Try.prog 12 .u64 := ⟨by kernel_rfl⟩
instance : TyA Try.prog 13 2 := mkTyA (by kernel_rfl) (by kernel_rfl)
instance : TyIface Try.prog 13 false := mkTyIface (by kernel_rfl)
instance : TySz Try.prog 13 2 := mkTySz (by kernel_rfl)
instance : TyBytes Try.prog 13 24 := mkTyBytes (by kernel_rfl)
instance : TyZero Try.prog 13 (.agg ⟨[.string ⟨⟨[]⟩⟩, .int .u64 0]⟩) := mkTyZero (by kernel_rfl)
instance : NoGuard Try.prog 13 := ⟨by kernel_rfl⟩
instance : Fld Try.prog 13 0 0 9 := mkFld (by kernel_rfl)
instance : Fld Try.prog 13 1 1 12 := mkFld (by kernel_rfl)
instance : TyPlaces Try.prog 13 (([(0, 1), (1, 1)] : List (Nat × Nat))[·]?) := mkTyPlaces (by kernel_rfl)
instance : TyS Try.prog 15 := mkTyS (by kernel_rfl) (by kernel_rfl)
instance : TyIface Try.prog 15 false := mkTyIface (by kernel_rfl)
instance : TySz Try.prog 15 1 := mkTySz (by kernel_rfl)
instance : TyBytes Try.prog 15 8 := mkTyBytes (by kernel_rfl)
instance : TyZero Try.prog 15 (.pointer none) := mkTyZero (by kernel_rfl)
instance : TyPtr Try.prog 15 232 := ⟨by kernel_rfl⟩
instance : TyS Try.prog 16 := mkTyS (by kernel_rfl) (by kernel_rfl)
instance : TyIface Try.prog 16 false := mkTyIface (by kernel_rfl)
instance : TySz Try.prog 16 1 := mkTySz (by kernel_rfl)
instance : TyBytes Try.prog 16 8 := mkTyBytes (by kernel_rfl)
instance : TyZero Try.prog 16 (.pointer none) := mkTyZero (by kernel_rfl)
instance : TyPtr Try.prog 16 235 := ⟨by kernel_rfl⟩
instance : TyS Try.prog 17 := mkTyS (by kernel_rfl) (by kernel_rfl)
instance : TyIface Try.prog 17 false := mkTyIface (by kernel_rfl)
instance : TySz Try.prog 17 1 := mkTySz (by kernel_rfl)
instance : TyBytes Try.prog 17 8 := mkTyBytes (by kernel_rfl)
instance : TyZero Try.prog 17 (.pointer none) := mkTyZero (by kernel_rfl)
instance : TyPtr Try.prog 17 243 := ⟨by kernel_rfl⟩
instance : TyA Try.prog 18 1 := mkTyA (by kernel_rfl) (by kernel_rfl)
instance : TyIface Try.prog 18 false := mkTyIface (by kernel_rfl)
instance : TySz Try.prog 18 1 := mkTySz (by kernel_rfl)
instance : TyBytes Try.prog 18 8 := mkTyBytes (by kernel_rfl)
instance : TyZero Try.prog 18 (.agg ⟨[.pointer none]⟩) := mkTyZero (by kernel_rfl)
instance : NoGuard Try.prog 18 := ⟨by kernel_rfl⟩
instance : Fld Try.prog 18 0 0 17 := mkFld (by kernel_rfl)
instance : TyPlaces Try.prog 18 (([(0, 1)] : List (Nat × Nat))[·]?) := mkTyPlaces (by kernel_rfl)
instance : TyA Try.prog 19 1 := mkTyA (by kernel_rfl) (by kernel_rfl)
instance : TyIface Try.prog 19 false := mkTyIface (by kernel_rfl)
instance : TySz Try.prog 19 1 := mkTySz (by kernel_rfl)
instance : TyBytes Try.prog 19 8 := mkTyBytes (by kernel_rfl)
instance : TyZero Try.prog 19 (.agg ⟨[.pointer none]⟩) := mkTyZero (by kernel_rfl)
instance : NoGuard Try.prog 19 := ⟨by kernel_rfl⟩
instance : Fld Try.prog 19 0 0 17 := mkFld (by kernel_rfl)
instance : TyPlaces Try.prog 19 (([(0, 1)] : List (Nat × Nat))[·]?) := mkTyPlaces (by kernel_rfl)
instance : TyS Try.prog 20 := mkTyS (by kernel_rfl) (by kernel_rfl)
instance : TyIface Try.prog 20 true := mkTyIface (by kernel_rfl)
instance : TySz Try.prog 20 1 := mkTySz (by kernel_rfl)
instance : TyBytes Try.prog 20 16 := mkTyBytes (by kernel_rfl)
instance : TyZero Try.prog 20 (.nilIface) := mkTyZero (by kernel_rfl)
instance : TyS Try.prog 21 := mkTyS (by kernel_rfl) (by kernel_rfl)
instance : TyIface Try.prog 21 false := mkTyIface (by kernel_rfl)
instance : TySz Try.prog 21 1 := mkTySz (by kernel_rfl)
instance : TyBytes Try.prog 21 4 := mkTyBytes (by kernel_rfl)
instance : TyZero Try.prog 21 (.int .i32 0) := mkTyZero (by kernel_rfl)
instance : TyInt Try.prog 21 .i32 := ⟨by kernel_rfl⟩
instance : TyS Try.prog 22 := mkTyS (by kernel_rfl) (by kernel_rfl)
instance : TyIface Try.prog 22 false := mkTyIface (by kernel_rfl)
instance : TySz Try.prog 22 1 := mkTySz (by kernel_rfl)
instance : TyBytes Try.prog 22 24 := mkTyBytes (by kernel_rfl)
instance : TyZero Try.prog 22 (.slice none 0 0) := mkTyZero (by kernel_rfl)
instance : TySlice Try.prog 22 30 := ⟨by kernel_rfl⟩
instance : TyS Try.prog 23 := mkTyS (by kernel_rfl) (by kernel_rfl)
instance : TyIface Try.prog 23 false := mkTyIface (by kernel_rfl)
instance : TyFunc Try.prog 23 := mkTyFunc (by kernel_rfl)
instance : TySz Try.prog 23 1 := mkTySz (by kernel_rfl)
instance : TyBytes Try.prog 23 8 := mkTyBytes (by kernel_rfl)
instance : TyZero Try.prog 23 (.nilFunc) := mkTyZero (by kernel_rfl)
instance : TyS Try.prog 24 := mkTyS (by kernel_rfl) (by kernel_rfl)
instance : TyIface Try.prog 24 false := mkTyIface (by kernel_rfl)
instance : TySz Try.prog 24 1 := mkTySz (by kernel_rfl)
instance : TyBytes Try.prog 24 8 := mkTyBytes (by kernel_rfl)
instance : TyZero Try.prog 24 (.pointer none) := mkTyZero (by kernel_rfl)
instance : TyPtr Try.prog 24 97 := ⟨by kernel_rfl⟩
instance : TyS Try.prog 25 := mkTyS (by kernel_rfl) (by kernel_rfl)
instance : TyIface Try.prog 25 false := mkTyIface (by kernel_rfl)
instance : TySz Try.prog 25 1 := mkTySz (by kernel_rfl)
instance : TyBytes Try.prog 25 8 := mkTyBytes (by kernel_rfl)
instance : TyZero Try.prog 25 (.pointer none) := mkTyZero (by kernel_rfl)
instance : TyPtr Try.prog 25 116 := ⟨by kernel_rfl⟩
instance : TyS Try.prog 27 := mkTyS (by kernel_rfl) (by kernel_rfl)
instance : TyIface Try.prog 27 false := mkTyIface (by kernel_rfl)
instance : TyFunc Try.prog 27 := mkTyFunc (by kernel_rfl)
instance : TySz Try.prog 27 1 := mkTySz (by kernel_rfl)
instance : TyBytes Try.prog 27 8 := mkTyBytes (by kernel_rfl)
instance : TyZero Try.prog 27 (.nilFunc) := mkTyZero (by kernel_rfl)
instance : TyS Try.prog 28 := mkTyS (by kernel_rfl) (by kernel_rfl)
instance : TyIface Try.prog 28 false := mkTyIface (by kernel_rfl)
instance : TySz Try.prog 28 1 := mkTySz (by kernel_rfl)
instance : TyBytes Try.prog 28 8 := mkTyBytes (by kernel_rfl)
instance : TyZero Try.prog 28 (.int .u64 0) := mkTyZero (by kernel_rfl)
instance : TyInt Try.prog 28 .u64 := ⟨by kernel_rfl⟩
instance : TyS Try.prog 29 := mkTyS (by kernel_rfl) (by kernel_rfl)
instance : TyIface Try.prog 29 false := mkTyIface (by kernel_rfl)
instance : TySz Try.prog 29 1 := mkTySz (by kernel_rfl)
instance : TyBytes Try.prog 29 8 := mkTyBytes (by kernel_rfl)
instance : TyZero Try.prog 29 (.int .u64 0) := mkTyZero (by kernel_rfl)
instance : TyInt Try.prog 29 .u64 := ⟨by kernel_rfl⟩
instance : TyS Try.prog 30 := mkTyS (by kernel_rfl) (by kernel_rfl)
instance : TyIface Try.prog 30 false := mkTyIface (by kernel_rfl)
instance : TySz Try.prog 30 1 := mkTySz (by kernel_rfl)
instance : TyBytes Try.prog 30 24 := mkTyBytes (by kernel_rfl)
instance : TyZero Try.prog 30 (.slice none 0 0) := mkTyZero (by kernel_rfl)
instance : TySlice Try.prog 30 5 := ⟨by kernel_rfl⟩
instance : TyS Try.prog 31 := mkTyS (by kernel_rfl) (by kernel_rfl)
instance : TyIface Try.prog 31 false := mkTyIface (by kernel_rfl)
instance : TyFunc Try.prog 31 := mkTyFunc (by kernel_rfl)
instance : TySz Try.prog 31 1 := mkTySz (by kernel_rfl)
instance : TyBytes Try.prog 31 8 := mkTyBytes (by kernel_rfl)
instance : TyZero Try.prog 31 (.nilFunc) := mkTyZero (by kernel_rfl)
instance : TyS Try.prog 32 := mkTyS (by kernel_rfl) (by kernel_rfl)
instance : TyIface Try.prog 32 false := mkTyIface (by kernel_rfl)
instance : TyFunc Try.prog 32 := mkTyFunc (by kernel_rfl)
instance : TySz Try.prog 32 1 := mkTySz (by kernel_rfl)
instance : TyBytes Try.prog 32 8 := mkTyBytes (by kernel_rfl)
instance : TyZero Try.prog 32 (.nilFunc) := mkTyZero (by kernel_rfl)
instance : TyS Try.prog 33 := mkTyS (by kernel_rfl) (by kernel_rfl)
instance : TyIface Try.prog 33 false := mkTyIface (by kernel_rfl)
instance : TySz Try.prog 33 1 := mkTySz (by kernel_rfl)
instance : TyBytes Try.prog 33 8 := mkTyBytes (by kernel_rfl)
instance : TyZero Try.prog 33 (.int .i64 0) := mkTyZero (by kernel_rfl)
instance : TyInt Try.prog 33 .i64 := ⟨by kernel_rfl⟩
instance : TyS Try.prog 34 := mkTyS (by kernel_rfl) (by kernel_rfl)
instance : TyIface Try.prog 34 false := mkTyIface (by kernel_rfl)
instance : TyFunc Try.prog 34 := mkTyFunc (by kernel_rfl)
instance : TySz Try.prog 34 1 := mkTySz (by kernel_rfl)
instance : TyBytes Try.prog 34 8 := mkTyBytes (by kernel_rfl)
instance : TyZero Try.prog 34 (.nilFunc) := mkTyZero (by kernel_rfl)
instance : TyS Try.prog 35 := mkTyS (by kernel_rfl) (by kernel_rfl)
instance : TyIface Try.prog 35 false := mkTyIface (by kernel_rfl)
instance : TyFunc Try.prog 35 := mkTyFunc (by kernel_rfl)
instance : TySz Try.prog 35 1 := mkTySz (by kernel_rfl)
instance : TyBytes Try.prog 35 8 := mkTyBytes (by kernel_rfl)
instance : TyZero Try.prog 35 (.nilFunc) := mkTyZero (by kernel_rfl)
instance : TyA Try.prog 36 3 := mkTyA (by kernel_rfl) (by kernel_rfl)
instance : TyIface Try.prog 36 false := mkTyIface (by kernel_rfl)
instance : TySz Try.prog 36 3 := mkTySz (by kernel_rfl)
instance : TyBytes Try.prog 36 56 := mkTyBytes (by kernel_rfl)
instance : TyZero Try.prog 36 (.agg ⟨[.int .u64 0, .slice none 0 0, .slice none 0 0]⟩) := mkTyZero (by kernel_rfl)
instance : NoGuard Try.prog 36 := ⟨by kernel_rfl⟩
instance : Fld Try.prog 36 0 0 29 := mkFld (by kernel_rfl)
instance : Fld Try.prog 36 1 1 22 := mkFld (by kernel_rfl)
instance : Fld Try.prog 36 2 2 30 := mkFld (by kernel_rfl)
instance : TyPlaces Try.prog 36 (([(0, 1), (1, 1), (2, 1)] : List (Nat × Nat))[·]?) := mkTyPlaces (by kernel_rfl)
instance : TyA Try.prog 37 3 := mkTyA (by kernel_rfl) (by kernel_rfl)
instance : TyIface Try.prog 37 false := mkTyIface (by kernel_rfl)
instance : TySz Try.prog 37 3 := mkTySz (by kernel_rfl)
instance : TyBytes Try.prog 37 56 := mkTyBytes (by kernel_rfl)
instance : TyZero Try.prog 37 (.agg ⟨[.int .u64 0, .slice none 0 0, .slice none 0 0]⟩) := mkTyZero (by kernel_rfl)
instance : NoGuard Try.prog 37 := ⟨by kernel_rfl⟩
instance : TyFlds Try.prog 37 [(0, 29), (1, 22), (2, 30)] := mkTyFlds (by kernel_rfl)
instance : Fld Try.prog 37 0 0 29 := mkFld (by kernel_rfl)
instance : Fld Try.prog 37 1 1 22 := mkFld (by kernel_rfl)
instance : Fld Try.prog 37 2 2 30 := mkFld (by kernel_rfl)
instance : TyPlaces Try.prog 37 (([(0, 1), (1, 1), (2, 1)] : List (Nat × Nat))[·]?) := mkTyPlaces (by kernel_rfl)
instance : TyS Try.prog 38 := mkTyS (by kernel_rfl) (by kernel_rfl)
instance : TyIface Try.prog 38 false := mkTyIface (by kernel_rfl)
instance : TyFunc Try.prog 38 := mkTyFunc (by kernel_rfl)
instance : TySz Try.prog 38 1 := mkTySz (by kernel_rfl)
instance : TyBytes Try.prog 38 8 := mkTyBytes (by kernel_rfl)
instance : TyZero Try.prog 38 (.nilFunc) := mkTyZero (by kernel_rfl)
instance : TyS Try.prog 40 := mkTyS (by kernel_rfl) (by kernel_rfl)
instance : TyIface Try.prog 40 false := mkTyIface (by kernel_rfl)
instance : TyFunc Try.prog 40 := mkTyFunc (by kernel_rfl)
instance : TySz Try.prog 40 1 := mkTySz (by kernel_rfl)
instance : TyBytes Try.prog 40 8 := mkTyBytes (by kernel_rfl)
instance : TyZero Try.prog 40 (.nilFunc) := mkTyZero (by kernel_rfl)
instance : TyS Try.prog 41 := mkTyS (by kernel_rfl) (by kernel_rfl)
instance : TyIface Try.prog 41 false := mkTyIface (by kernel_rfl)
instance : TyFunc Try.prog 41 := mkTyFunc (by kernel_rfl)
instance : TySz Try.prog 41 1 := mkTySz (by kernel_rfl)
instance : TyBytes Try.prog 41 8 := mkTyBytes (by kernel_rfl)
instance : TyZero Try.prog 41 (.nilFunc) := mkTyZero (by kernel_rfl)
instance : TyS Try.prog 42 := mkTyS (by kernel_rfl) (by kernel_rfl)
instance : TyIface Try.prog 42 false := mkTyIface (by kernel_rfl)
instance : TySz Try.prog 42 1 := mkTySz (by kernel_rfl)
instance : TyBytes Try.prog 42 24 := mkTyBytes (by kernel_rfl)
instance : TyZero Try.prog 42 (.slice none 0 0) := mkTyZero (by kernel_rfl)
instance : TySlice Try.prog 42 45 := ⟨by kernel_rfl⟩
instance : TyS Try.prog 43 := mkTyS (by kernel_rfl) (by kernel_rfl)
instance : TyIface Try.prog 43 false := mkTyIface (by kernel_rfl)
instance : TySz Try.prog 43 1 := mkTySz (by kernel_rfl)
instance : TyBytes Try.prog 43 24 := mkTyBytes (by kernel_rfl)
instance : TyZero Try.prog 43 (.slice none 0 0) := mkTyZero (by kernel_rfl)
instance : TySlice Try.prog 43 4 := ⟨by kernel_rfl⟩
instance : TyA Try.prog 44 5 := mkTyA (by kernel_rfl) (by kernel_rfl)
instance : TyIface Try.prog 44 false := mkTyIface (by kernel_rfl)
instance : TySz Try.prog 44 5 := mkTySz (by kernel_rfl)
instance : TyBytes Try.prog 44 88 := mkTyBytes (by kernel_rfl)
instance : TyZero Try.prog 44 (.agg ⟨[.int .i64 0, .int .i64 0, .slice none 0 0, .slice none 0 0, .slice none 0 0]⟩) := mkTyZero (by kernel_rfl)
instance : NoGuard Try.prog 44 := ⟨by kernel_rfl⟩
instance : Fld Try.prog 44 0 0 3 := mkFld (by kernel_rfl)
instance : Fld Try.prog 44 1 1 3 := mkFld (by kernel_rfl)
instance : Fld Try.prog 44 2 2 30 := mkFld (by kernel_rfl)
instance : Fld Try.prog 44 3 3 30 := mkFld (by kernel_rfl)
instance : Fld Try.prog 44 4 4 43 := mkFld (by kernel_rfl)
instance : TyPlaces Try.prog 44 (([(0, 1), (1, 1), (2, 1), (3, 1), (4, 1)] : List (Nat × Nat))[·]?) := mkTyPlaces (by kernel_rfl)
instance : TyA Try.prog 45 5 := mkTyA (by kernel_rfl) (by kernel_rfl)
instance : TyIface Try.prog 45 false := mkTyIface (by kernel_rfl)
instance : TySz Try.prog 45 5 := mkTySz (by kernel_rfl)
instance : TyBytes Try.prog 45 88 := mkTyBytes (by kernel_rfl)
instance : TyZero Try.prog 45 (.agg ⟨[.int .i64 0, .int .i64 0, .slice none 0 0, .slice none 0 0, .slice none 0 0]⟩) := mkTyZero (by kernel_rfl)
instance : NoGuard Try.prog 45 := ⟨by kernel_rfl⟩
instance : TyFlds Try.prog 45 [(0, 3), (1, 3), (2, 30), (3, 30), (4, 43)] := mkTyFlds (by kernel_rfl)
instance : Fld Try.prog 45 0 0 3 := mkFld (by kernel_rfl)
instance : Fld Try.prog 45 1 1 3 := mkFld (by kernel_rfl)
instance : Fld Try.prog 45 2 2 30 := mkFld (by kernel_rfl)
instance : Fld Try.prog 45 3 3 30 := mkFld (by kernel_rfl)
instance : Fld Try.prog 45 4 4 43 := mkFld (by kernel_rfl)
instance : TyPlaces Try.prog 45 (([(0, 1), (1, 1), (2, 1), (3, 1), (4, 1)] : List (Nat × Nat))[·]?) := mkTyPlaces (by kernel_rfl)
instance : TyS Try.prog 46 := mkTyS (by kernel_rfl) (by kernel_rfl)
instance : TyIface Try.prog 46 false := mkTyIface (by kernel_rfl)
instance : TyFunc Try.prog 46 := mkTyFunc (by kernel_rfl)
instance : TySz Try.prog 46 1 := mkTySz (by kernel_rfl)
instance : TyBytes Try.prog 46 8 := mkTyBytes (by kernel_rfl)
instance : TyZero Try.prog 46 (.nilFunc) := mkTyZero (by kernel_rfl)
instance : TyS Try.prog 47 := mkTyS (by kernel_rfl) (by kernel_rfl)
instance : TyIface Try.prog 47 false := mkTyIface (by kernel_rfl)
instance : TyFunc Try.prog 47 := mkTyFunc (by kernel_rfl)
instance : TySz Try.prog 47 1 := mkTySz (by kernel_rfl)
instance : TyBytes Try.prog 47 8 := mkTyBytes (by kernel_rfl)
instance : TyZero Try.prog 47 (.nilFunc) := mkTyZero (by kernel_rfl)
instance : TyS Try.prog 49 := mkTyS (by kernel_rfl) (by kernel_rfl)
instance : TyIface Try.prog 49 false := mkTyIface (by kernel_rfl)
instance : TyFunc Try.prog 49 := mkTyFunc (by kernel_rfl)
instance : TySz Try.prog 49 1 := mkTySz (by kernel_rfl)
instance : TyBytes Try.prog 49 8 := mkTyBytes (by kernel_rfl)
instance : TyZero Try.prog 49 (.nilFunc) := mkTyZero (by kernel_rfl)
instance : TyS Try.prog 50 := mkTyS (by kernel_rfl) (by kernel_rfl)
instance : TyIface Try.prog 50 false := mkTyIface (by kernel_rfl)
instance : TyFunc Try.prog 50 := mkTyFunc (by kernel_rfl)
instance : TySz Try.prog 50 1 := mkTySz (by kernel_rfl)
instance : TyBytes Try.prog 50 8 := mkTyBytes (by kernel_rfl)
instance : TyZero Try.prog 50 (.nilFunc) := mkTyZero (by kernel_rfl)
instance : TyS Try.prog 51 := mkTyS (by kernel_rfl) (by kernel_rfl)
instance : TyIface Try.prog 51 false := mkTyIface (by kernel_rfl)
instance : TyFunc Try.prog 51 := mkTyFunc (by kernel_rfl)
instance : TySz Try.prog 51 1 := mkTySz (by kernel_rfl)
instance : TyBytes Try.prog 51 8 := mkTyBytes (by kernel_rfl)
instance : TyZero Try.prog 51 (.nilFunc) := mkTyZero (by kernel_rfl)
instance : TyS Try.prog 53 := mkTyS (by kernel_rfl) (by kernel_rfl)
instance : TyIface Try.prog 53 false := mkTyIface (by kernel_rfl)
instance : TyFunc Try.prog 53 := mkTyFunc (by kernel_rfl)
instance : TySz Try.prog 53 1 := mkTySz (by kernel_rfl)
instance : TyBytes Try.prog 53 8 := mkTyBytes (by kernel_rfl)
instance : TyZero Try.prog 53 (.nilFunc) := mkTyZero (by kernel_rfl)
instance : TyS Try.prog 54 := mkTyS (by kernel_rfl) (by kernel_rfl)
instance : TyIface Try.prog 54 false := mkTyIface (by kernel_rfl)
instance : TySz Try.prog 54 1 := mkTySz (by kernel_rfl)
instance : TyBytes Try.prog 54 8 := mkTyBytes (by kernel_rfl)
instance : TyZero Try.prog 54 (.pointer none) := mkTyZero (by kernel_rfl)
instance : TyPtr Try.prog 54 61 := ⟨by kernel_rfl⟩
instance : TyA Try.prog 55 5 := mkTyA (by kernel_rfl) (by kernel_rfl)
instance : TyIface Try.prog 55 false := mkTyIface (by kernel_rfl)
instance : TySz Try.prog 55 5 := mkTySz (by kernel_rfl)
instance : TyBytes Try.prog 55 56 := mkTyBytes (by kernel_rfl)
instance : TyZero Try.prog 55 (.agg ⟨[.int .u64 0, .int .i64 0, .int .u64 0, .int .i64 0, .slice none 0 0]⟩) := mkTyZero (by kernel_rfl)
instance : NoGuard Try.prog 55 := ⟨by kernel_rfl⟩
instance : Fld Try.prog 55 0 0 29 := mkFld (by kernel_rfl)
instance : Fld Try.prog 55 1 1 3 := mkFld (by kernel_rfl)
instance : Fld Try.prog 55 2 2 29 := mkFld (by kernel_rfl)
instance : Fld Try.prog 55 3 3 3 := mkFld (by kernel_rfl)
instance : Fld Try.prog 55 4 4 30 := mkFld (by kernel_rfl)
instance : TyPlaces Try.prog 55 (([(0, 1), (1, 1), (2, 1), (3, 1), (4, 1)] : List (Nat × Nat))[·]?) := mkTyPlaces (by kernel_rfl)
instance : TyA Try.prog 56 5 := mkTyA (by kernel_rfl) (by kernel_rfl)
instance : TyIface Try.prog 56 false := mkTyIface (by kernel_rfl)
instance : TySz Try.prog 56 5 := mkTySz (by kernel_rfl)
instance : TyBytes Try.prog 56 56 := mkTyBytes (by kernel_rfl)
instance : TyZero Try.prog 56 (.agg ⟨[.int .u64 0, .int .i64 0, .int .u64 0, .int .i64 0, .slice none 0 0]⟩) := mkTyZero (by kernel_rfl)
instance : NoGuard Try.prog 56 := ⟨by kernel_rfl⟩
instance : TyFlds Try.prog 56 [(0, 29), (1, 3), (2, 29), (3, 3), (4, 30)] := mkTyFlds (by kernel_rfl)
instance : Fld Try.prog 56 0 0 29 := mkFld (by kernel_rfl)
instance : Fld Try.prog 56 1 1 3 := mkFld (by kernel_rfl)
instance : Fld Try.prog 56 2 2 29 := mkFld (by kernel_rfl)
instance : Fld Try.prog 56 3 3 3 := mkFld (by kernel_rfl)
instance : Fld Try.prog 56 4 4 30 := mkFld (by kernel_rfl)
instance : TyPlaces Try.prog 56 (([(0, 1), (1, 1), (2, 1), (3, 1), (4, 1)] : List (Nat × Nat))[·]?) := mkTyPlaces (by kernel_rfl)
instance : TyS Try.prog 57 := mkTyS (by kernel_rfl) (by kernel_rfl)
instance : TyIface Try.prog 57 false := mkTyIface (by kernel_rfl)
instance : TySz Try.prog 57 1 := mkTySz (by kernel_rfl)
instance : TyBytes Try.prog 57 24 := mkTyBytes (by kernel_rfl)
instance : TyZero Try.prog 57 (.slice none 0 0) := mkTyZero (by kernel_rfl)
instance : TySlice Try.prog 57 3 := ⟨by kernel_rfl⟩
instance : TyA Try.prog 58 7 := mkTyA (by kernel_rfl) (by kernel_rfl)
instance : TyIface Try.prog 58 false := mkTyIface (by kernel_rfl)
instance : TySz Try.prog 58 7 := mkTySz (by kernel_rfl)
instance : TyBytes Try.prog 58 104 := mkTyBytes (by kernel_rfl)
instance : TyZero Try.prog 58 (.agg ⟨[.int .u64 0, .int .i64 0, .int .u64 0, .int .i64 0, .slice none 0 0, .slice none 0 0, .slice none 0 0]⟩) := mkTyZero (by kernel_rfl)
instance : NoGuard Try.prog 58 := ⟨by kernel_rfl⟩
instance : Fld Try.prog 58 0 0 56 := mkFld (by kernel_rfl)
instance : Fld Try.prog 58 1 5 22 := mkFld (by kernel_rfl)
instance : Fld Try.prog 58 2 6 57 := mkFld (by kernel_rfl)
instance : TyPlaces Try.prog 58 (([(0, 5), (5, 1), (6, 1)] : List (Nat × Nat))[·]?) := mkTyPlaces (by kernel_rfl)
instance : TyA Try.prog 59 7 := mkTyA (by kernel_rfl) (by kernel_rfl)
instance : TyIface Try.prog 59 false := mkTyIface (by kernel_rfl)
instance : TySz Try.prog 59 7 := mkTySz (by kernel_rfl)
instance : TyBytes Try.prog 59 104 := mkTyBytes (by kernel_rfl)
instance : TyZero Try.prog 59 (.agg ⟨[.int .u64 0, .int .i64 0, .int .u64 0, .int .i64 0, .slice none 0 0, .slice none 0 0, .slice none 0 0]⟩) := mkTyZero (by kernel_rfl)
instance : NoGuard Try.prog 59 := ⟨by kernel_rfl⟩
instance : TyFlds Try.prog 59 [(0, 56), (5, 22), (6, 57)] := mkTyFlds (by kernel_rfl)
instance : Fld Try.prog 59 0 0 56 := mkFld (by kernel_rfl)
instance : Fld Try.prog 59 1 5 22 := mkFld (by kernel_rfl)
instance : Fld Try.prog 59 2 6 57 := mkFld (by kernel_rfl)
instance : TyPlaces Try.prog 59 (([(0, 5), (5, 1), (6, 1)] : List (Nat × Nat))[·]?) := mkTyPlaces (by kernel_rfl)
instance : TyA Try.prog 60 10 := mkTyA (by kernel_rfl) (by kernel_rfl)
instance : TyIface Try.prog 60 false := mkTyIface (by kernel_rfl)
instance : TySz Try.prog 60 10 := mkTySz (by kernel_rfl)
instance : TyBytes Try.prog 60 120 := mkTyBytes (by kernel_rfl)
instance : TyZero Try.prog 60 (.agg ⟨[.pointer none, .int .u64 0, .int .i64 0, .int .u64 0, .int .i64 0, .slice none 0 0, .slice none 0 0, .slice none 0 0, .bool false, .bool false]⟩) := mkTyZero (by kernel_rfl)
instance : NoGuard Try.prog 60 := ⟨by kernel_rfl⟩
instance : Fld Try.prog 60 0 0 25 := mkFld (by kernel_rfl)
instance : Fld Try.prog 60 1 1 59 := mkFld (by kernel_rfl)
instance : Fld Try.prog 60 2 8 4 := mkFld (by kernel_rfl)
instance : Fld Try.prog 60 3 9 4 := mkFld (by kernel_rfl)
instance : TyPlaces Try.prog 60 (([(0, 1), (1, 7), (8, 1), (9, 1)] : List (Nat × Nat))[·]?) := mkTyPlaces (by kernel_rfl)
instance : TyA Try.prog 61 10 := mkTyA (by kernel_rfl) (by kernel_rfl)
instance : TyIface Try.prog 61 false := mkTyIface (by kernel_rfl)
instance : TySz Try.prog 61 10 := mkTySz (by kernel_rfl)
instance : TyBytes Try.prog 61 120 := mkTyBytes (by kernel_rfl)
instance : TyZero Try.prog 61 (.agg ⟨[.pointer none, .int .u64 0, .int .i64 0, .int .u64 0, .int .i64 0, .slice none 0 0, .slice none 0 0, .slice none 0 0, .bool false, .bool false]⟩) := mkTyZero (by kernel_rfl)
instance : NoGuard Try.prog 61 := ⟨by kernel_rfl⟩
instance : TyFlds Try.prog 61 [(0, 25), (1, 59), (8, 4), (9, 4)] := mkTyFlds (by kernel_rfl)
instance : Fld Try.prog 61 0 0 25 := mkFld (by kernel_rfl)
instance : Fld Try.prog 61 1 1 59 := mkFld (by kernel_rfl)
instance : Fld Try.prog 61 2 8 4 := mkFld (by kernel_rfl)
instance : Fld Try.prog 61 3 9 4 := mkFld (by kernel_rfl)
instance : TyPlaces Try.prog 61 (([(0, 1), (1, 7), (8, 1), (9, 1)] : List (Nat × Nat))[·]?) := mkTyPlaces (by kernel_rfl)
instance : TyS Try.prog 63 := mkTyS (by kernel_rfl) (by kernel_rfl)
instance : TyIface Try.prog 63 false := mkTyIface (by kernel_rfl)
instance : TyFunc Try.prog 63 := mkTyFunc (by kernel_rfl)
instance : TySz Try.prog 63 1 := mkTySz (by kernel_rfl)
instance : TyBytes Try.prog 63 8 := mkTyBytes (by kernel_rfl)
instance : TyZero Try.prog 63 (.nilFunc) := mkTyZero (by kernel_rfl)
instance : TyS Try.prog 64 := mkTyS (by kernel_rfl) (by kernel_rfl)
instance : TyIface Try.prog 64 false := mkTyIface (by kernel_rfl)
instance : TyFunc Try.prog 64 := mkTyFunc (by kernel_rfl)
instance : TySz Try.prog 64 1 := mkTySz (by kernel_rfl)
instance : TyBytes Try.prog 64 8 := mkTyBytes (by kernel_rfl)
instance : TyZero Try.prog 64 (.nilFunc) := mkTyZero (by kernel_rfl)
instance : TyA Try.prog 65 64 := mkTyA (by kernel_rfl) (by kernel_rfl)
instance : TyIface Try.prog 65 false := mkTyIface (by kernel_rfl)
instance : TySz Try.prog 65 64 := mkTySz (by kernel_rfl)
instance : TyBytes Try.prog 65 64 := mkTyBytes (by kernel_rfl)
instance : TyZero Try.prog 65 (.agg ⟨List.replicate 64 (.int .u8 0)⟩) := mkTyZero (by kernel_rfl)
instance : NoGuard Try.prog 65 := ⟨by kernel_rfl⟩
instance : TyArr Try.prog 65 64 5 := ⟨by kernel_rfl⟩
instance : TyPlaces Try.prog 65 (fun i => some (i * 1, 1)) := mkTyPlacesA (n := 64) (e := 5) (by kernel_rfl) (by kernel_rfl)
instance : TyA Try.prog 66 64 := mkTyA (by kernel_rfl) (by kernel_rfl)
instance : TyIface Try.prog 66 false := mkTyIface (by kernel_rfl)
instance : TySz Try.prog 66 64 := mkTySz (by kernel_rfl)
instance : TyBytes Try.prog 66 64 := mkTyBytes (by kernel_rfl)
instance : TyZero Try.prog 66 (.agg ⟨List.replicate 64 (.int .u8 0)⟩) := mkTyZero (by kernel_rfl)
instance : NoGuard Try.prog 66 := ⟨by kernel_rfl⟩
instance : TyArr Try.prog 66 64 5 := ⟨by kernel_rfl⟩
instance : TyPlaces Try.prog 66 (fun i => some (i * 1, 1)) := mkTyPlacesA (n := 64) (e := 5) (by kernel_rfl) (by kernel_rfl)
instance : TyS Try.prog 68 := mkTyS (by kernel_rfl) (by kernel_rfl)
instance : TyIface Try.prog 68 false := mkTyIface (by kernel_rfl)
instance : TyFunc Try.prog 68 := mkTyFunc (by kernel_rfl)
instance : TySz Try.prog 68 1 := mkTySz (by kernel_rfl)
instance : TyBytes Try.prog 68 8 := mkTyBytes (by kernel_rfl)
instance : TyZero Try.prog 68 (.nilFunc) := mkTyZero (by kernel_rfl)
instance : TyS Try.prog 69 := mkTyS (by kernel_rfl) (by kernel_rfl)
instance : TyIface Try.prog 69 false := mkTyIface (by kernel_rfl)
instance : TyFunc Try.prog 69 := mkTyFunc (by kernel_rfl)
instance : TySz Try.prog 69 1 := mkTySz (by kernel_rfl)
instance : TyBytes Try.prog 69 8 := mkTyBytes (by kernel_rfl)
instance : TyZero Try.prog 69 (.nilFunc) := mkTyZero (by kernel_rfl)
instance : TyS Try.prog 70 := mkTyS (by kernel_rfl) (by kernel_rfl)
instance : TyIface Try.prog 70 false := mkTyIface (by kernel_rfl)
instance : TySz Try.prog 70 1 := mkTySz (by kernel_rfl)
instance : TyBytes Try.prog 70 8 := mkTyBytes (by kernel_rfl)
instance : TyZero Try.prog 70 (.pointer none) := mkTyZero (by kernel_rfl)
instance : TyPtr Try.prog 70 139 := ⟨by kernel_rfl⟩
instance : TyS Try.prog 72 := mkTyS (by kernel_rfl) (by kernel_rfl)
instance : TyIface Try.prog 72 false := mkTyIface (by kernel_rfl)
instance : TyFunc Try.prog 72 := mkTyFunc (by kernel_rfl)
instance : TySz Try.prog 72 1 := mkTySz (by kernel_rfl)
instance : TyBytes Try.prog 72 8 := mkTyBytes (by kernel_rfl)
instance : TyZero Try.prog 72 (.nilFunc) := mkTyZero (by kernel_rfl)
instance : TyS Try.prog 73 := mkTyS (by kernel_rfl) (by kernel_rfl)
instance : TyIface Try.prog 73 false := mkTyIface (by kernel_rfl)
instance : TySz Try.prog 73 1 := mkTySz (by kernel_rfl)
instance : TyBytes Try.prog 73 24 := mkTyBytes (by kernel_rfl)
instance : TyZero Try.prog 73 (.slice none 0 0) := mkTyZero (by kernel_rfl)
instance : TySlice Try.prog 73 129 := ⟨by kernel_rfl⟩
instance : TyS Try.prog 74 := mkTyS (by kernel_rfl) (by kernel_rfl)
instance : TyIface Try.prog 74 false := mkTyIface (by kernel_rfl)
instance : TySz Try.prog 74 1 := mkTySz (by kernel_rfl)
instance : TyBytes Try.prog 74 24 := mkTyBytes (by kernel_rfl)
instance : TyZero Try.prog 74 (.slice none 0 0) := mkTyZero (by kernel_rfl)
instance : TySlice Try.prog 74 174 := ⟨by kernel_rfl⟩
instance : TyA Try.prog 75 3 := mkTyA (by kernel_rfl) (by kernel_rfl)
instance : TyIface Try.prog 75 false := mkTyIface (by kernel_rfl)
instance : TySz Try.prog 75 3 := mkTySz (by kernel_rfl)
instance : TyBytes Try.prog 75 56 := mkTyBytes (by kernel_rfl)
instance : TyZero Try.prog 75 (.agg ⟨[.int .i64 0, .slice none 0 0, .slice none 0 0]⟩) := mkTyZero (by kernel_rfl)
instance : NoGuard Try.prog 75 := ⟨by kernel_rfl⟩
instance : Fld Try.prog 75 0 0 3 := mkFld (by kernel_rfl)
instance : Fld Try.prog 75 1 1 73 := mkFld (by kernel_rfl)
instance : Fld Try.prog 75 2 2 74 := mkFld (by kernel_rfl)
instance : TyPlaces Try.prog 75 (([(0, 1), (1, 1), (2, 1)] : List (Nat × Nat))[·]?) := mkTyPlaces (by kernel_rfl)
instance : TyA Try.prog 76 3 := mkTyA (by kernel_rfl) (by kernel_rfl)
instance : TyIface Try.prog 76 false := mkTyIface (by kernel_rfl)
instance : TySz Try.prog 76 3 := mkTySz (by kernel_rfl)
instance : TyBytes Try.prog 76 56 := mkTyBytes (by kernel_rfl)
instance : TyZero Try.prog 76 (.agg ⟨[.int .i64 0, .slice none 0 0, .slice none 0 0]⟩) := mkTyZero (by kernel_rfl)
instance : NoGuard Try.prog 76 := ⟨by kernel_rfl⟩
instance : TyFlds Try.prog 76 [(0, 3), (1, 73), (2, 74)] := mkTyFlds (by kernel_rfl)
instance : Fld Try.prog 76 0 0 3 := mkFld (by kernel_rfl)
instance : Fld Try.prog 76 1 1 73 := mkFld (by kernel_rfl)
instance : Fld Try.prog 76 2 2 74 := mkFld (by kernel_rfl)
instance : TyPlaces Try.prog 76 (([(0, 1), (1, 1), (2, 1)] : List (Nat × Nat))[·]?) := mkTyPlaces (by kernel_rfl)
instance : TyS Try.prog 78 := mkTyS (by kernel_rfl) (by kernel_rfl)
instance : TyIface Try.prog 78 false := mkTyIface (by kernel_rfl)
instance : TyFunc Try.prog 78 := mkTyFunc (by kernel_rfl)
instance : TySz Try.prog 78 1 := mkTySz (by kernel_rfl)
instance : TyBytes Try.prog 78 8 := mkTyBytes (by kernel_rfl)
instance : TyZero Try.prog 78 (.nilFunc) := mkTyZero (by kernel_rfl)
instance : TyS Try.prog 79 := mkTyS (by kernel_rfl) (by kernel_rfl)
instance : TyIface Try.prog 79 false := mkTyIface (by kernel_rfl)
instance : TyFunc Try.prog 79 := mkTyFunc (by kernel_rfl)
instance : TySz Try.prog 79 1 := mkTySz (by kernel_rfl)
instance : TyBytes Try.prog 79 8 := mkTyBytes (by kernel_rfl)
instance : TyZero Try.prog 79 (.nilFunc) := mkTyZero (by kernel_rfl)
instance : TyS Try.prog 80 := mkTyS (by kernel_rfl) (by kernel_rfl)
instance : TyIface Try.prog 80 false := mkTyIface (by kernel_rfl)
instance : TyFunc Try.prog 80 := mkTyFunc (by kernel_rfl)
instance : TySz Try.prog 80 1 := mkTySz (by kernel_rfl)
instance : TyBytes Try.prog 80 8 := mkTyBytes (by kernel_rfl)
instance : TyZero Try.prog 80 (.nilFunc) := mkTyZero (by kernel_rfl)
instance : TyS Try.prog 81 := mkTyS (by kernel_rfl) (by kernel_rfl)
instance : TyIface Try.prog 81 false := mkTyIface (by kernel_rfl)
instance : TyFunc Try.prog 81 := mkTyFunc (by kernel_rfl)
instance : TySz Try.prog 81 1 := mkTySz (by kernel_rfl)
instance : TyBytes Try.prog 81 8 := mkTyBytes (by kernel_rfl)
instance : TyZero Try.prog 81 (.nilFunc) := mkTyZero (by kernel_rfl)
instance : TyS Try.prog 82 := mkTyS (by kernel_rfl) (by kernel_rfl)
instance : TyIface Try.prog 82 false := mkTyIface (by kernel_rfl)
instance : TySz Try.prog 82 1 := mkTySz (by kernel_rfl)
instance : TyBytes Try.prog 82 24 := mkTyBytes (by kernel_rfl)
instance : TyZero Try.prog 82 (.slice none 0 0) := mkTyZero (by kernel_rfl)
instance : TySlice Try.prog 82 87 := ⟨by kernel_rfl⟩
instance : TyA Try.prog 83 4 := mkTyA (by kernel_rfl) (by kernel_rfl)
instance : TyIface Try.prog 83 false := mkTyIface (by kernel_rfl)
instance : TySz Try.prog 83 4 := mkTySz (by kernel_rfl)
instance : TyBytes Try.prog 83 64 := mkTyBytes (by kernel_rfl)
instance : TyZero Try.prog 83 (.agg ⟨[.int .i64 0, .slice none 0 0, .slice none 0 0, .int .u64 0]⟩) := mkTyZero (by kernel_rfl)
instance : NoGuard Try.prog 83 := ⟨by kernel_rfl⟩
instance : Fld Try.prog 83 0 0 76 := mkFld (by kernel_rfl)
instance : Fld Try.prog 83 1 3 29 := mkFld (by kernel_rfl)
instance : TyPlaces Try.prog 83 (([(0, 3), (3, 1)] : List (Nat × Nat))[·]?) := mkTyPlaces (by kernel_rfl)
instance : TyA Try.prog 84 4 := mkTyA (by kernel_rfl) (by kernel_rfl)
instance : TyIface Try.prog 84 false := mkTyIface (by kernel_rfl)
instance : TySz Try.prog 84 4 := mkTySz (by kernel_rfl)
instance : TyBytes Try.prog 84 64 := mkTyBytes (by kernel_rfl)
instance : TyZero Try.prog 84 (.agg ⟨[.int .i64 0, .slice none 0 0, .slice none 0 0, .int .u64 0]⟩) := mkTyZero (by kernel_rfl)
instance : NoGuard Try.prog 84 := ⟨by kernel_rfl⟩
instance : TyFlds Try.prog 84 [(0, 76), (3, 29)] := mkTyFlds (by kernel_rfl)
instance : Fld Try.prog 84 0 0 76 := mkFld (by kernel_rfl)
instance : Fld Try.prog 84 1 3 29 := mkFld (by kernel_rfl)
instance : TyPlaces Try.prog 84 (([(0, 3), (3, 1)] : List (Nat × Nat))[·]?) := mkTyPlaces (by kernel_rfl)
instance : TyA Try.prog 85 16 := mkTyA (by kernel_rfl) (by kernel_rfl)
instance : TyIface Try.prog 85 false := mkTyIface (by kernel_rfl)
instance : TySz Try.prog 85 16 := mkTySz (by kernel_rfl)
instance : TyBytes Try.prog 85 256 := mkTyBytes (by kernel_rfl)
instance : TyZero Try.prog 85 (.agg ⟨[.int .i64 0, .slice none 0 0, .slice none 0 0, .int .u64 0, .int .i64 0, .slice none 0 0, .slice none 0 0, .int .u64 0, .int .i64 0, .slice none 0 0, .slice none 0 0, .int .u64 0, .int .i64 0, .slice none 0 0, .slice none 0 0, .int .u64 0]⟩) := mkTyZero (by kernel_rfl)
instance : NoGuard Try.prog 85 := ⟨by kernel_rfl⟩
instance : TyArr Try.prog 85 4 84 := ⟨by kernel_rfl⟩
instance : TyPlaces Try.prog 85 (fun i => some (i * 4, 4)) := mkTyPlacesA (n := 4) (e := 84) (by kernel_rfl) (by kernel_rfl)
instance : TyA Try.prog 86 8 := mkTyA (by kernel_rfl) (by kernel_rfl)
instance : TyIface Try.prog 86 false := mkTyIface (by kernel_rfl)
instance : TySz Try.prog 86 8 := mkTySz (by kernel_rfl)
instance : TyBytes Try.prog 86 112 := mkTyBytes (by kernel_rfl)
instance : TyZero Try.prog 86 (.agg ⟨[.int .i64 0, .int .i64 0, .int .i64 0, .int .u64 0, .int .i64 0, .slice none 0 0, .slice none 0 0, .slice none 0 0]⟩) := mkTyZero (by kernel_rfl)
instance : NoGuard Try.prog 86 := ⟨by kernel_rfl⟩
instance : Fld Try.prog 86 0 0 3 := mkFld (by kernel_rfl)
instance : Fld Try.prog 86 1 1 3 := mkFld (by kernel_rfl)
instance : Fld Try.prog 86 2 2 3 := mkFld (by kernel_rfl)
instance : Fld Try.prog 86 3 3 29 := mkFld (by kernel_rfl)
instance : Fld Try.prog 86 4 4 76 := mkFld (by kernel_rfl)
instance : Fld Try.prog 86 5 7 43 := mkFld (by kernel_rfl)
instance : TyPlaces Try.prog 86 (([(0, 1), (1, 1), (2, 1), (3, 1), (4, 3), (7, 1)] : List (Nat × Nat))[·]?) := mkTyPlaces (by kernel_rfl)
instance : TyA Try.prog 87 8 := mkTyA (by kernel_rfl) (by kernel_rfl)
instance : TyIface Try.prog 87 false := mkTyIface (by kernel_rfl)
instance : TySz Try.prog 87 8 := mkTySz (by kernel_rfl)
instance : TyBytes Try.prog 87 112 := mkTyBytes (by kernel_rfl)
instance : TyZero Try.prog 87 (.agg ⟨[.int .i64 0, .int .i64 0, .int .i64 0, .int .u64 0, .int .i64 0, .slice none 0 0, .slice none 0 0, .slice none 0 0]⟩) := mkTyZero (by kernel_rfl)
instance : NoGuard Try.prog 87 := ⟨by kernel_rfl⟩
instance : TyFlds Try.prog 87 [(0, 3), (1, 3), (2, 3), (3, 29), (4, 76), (7, 43)] := mkTyFlds (by kernel_rfl)
instance : Fld Try.prog 87 0 0 3 := mkFld (by kernel_rfl)
instance : Fld Try.prog 87 1 1 3 := mkFld (by kernel_rfl)
instance : Fld Try.prog 87 2 2 3 := mkFld (by kernel_rfl)
instance : Fld Try.prog 87 3 3 29 := mkFld (by kernel_rfl)
instance : Fld Try.prog 87 4 4 76 := mkFld (by kernel_rfl)
instance : Fld Try.prog 87 5 7 43 := mkFld (by kernel_rfl)
instance : TyPlaces Try.prog 87 (([(0, 1), (1, 1), (2, 1), (3, 1), (4, 3), (7, 1)] : List (Nat × Nat))[·]?) := mkTyPlaces (by kernel_rfl)
instance : TyS Try.prog 88 := mkTyS (by kernel_rfl) (by kernel_rfl)
instance : TyIface Try.prog 88 false := mkTyIface (by kernel_rfl)
instance : TyFunc Try.prog 88 := mkTyFunc (by kernel_rfl)
instance : TySz Try.prog 88 1 := mkTySz (by kernel_rfl)
instance : TyBytes Try.prog 88 8 := mkTyBytes (by kernel_rfl)
instance : TyZero Try.prog 88 (.nilFunc) := mkTyZero (by kernel_rfl)
instance : TyS Try.prog 89 := mkTyS (by kernel_rfl) (by kernel_rfl)
instance : TyIface Try.prog 89 false := mkTyIface (by kernel_rfl)
instance : TyFunc Try.prog 89 := mkTyFunc (by kernel_rfl)
instance : TySz Try.prog 89 1 := mkTySz (by kernel_rfl)
instance : TyBytes Try.prog 89 8 := mkTyBytes (by kernel_rfl)
instance : TyZero Try.prog 89 (.nilFunc) := mkTyZero (by kernel_rfl)
instance : TyS Try.prog 90 := mkTyS (by kernel_rfl) (by kernel_rfl)
instance : TyIface Try.prog 90 false := mkTyIface (by kernel_rfl)
instance : TyFunc Try.prog 90 := mkTyFunc (by kernel_rfl)
instance : TySz Try.prog 90 1 := mkTySz (by kernel_rfl)
instance : TyBytes Try.prog 90 8 := mkTyBytes (by kernel_rfl)
instance : TyZero Try.prog 90 (.nilFunc) := mkTyZero (by kernel_rfl)
instance : TyS Try.prog 91 := mkTyS (by kernel_rfl) (by kernel_rfl)
instance : TyIface Try.prog 91 false := mkTyIface (by kernel_rfl)
instance : TyFunc Try.prog 91 := mkTyFunc (by kernel_rfl)
instance : TySz Try.prog 91 1 := mkTySz (by kernel_rfl)
instance : TyBytes Try.prog 91 8 := mkTyBytes (by kernel_rfl)
instance : TyZero Try.prog 91 (.nilFunc) := mkTyZero (by kernel_rfl)
instance : TyS Try.prog 92 := mkTyS (by kernel_rfl) (by kernel_rfl)
instance : TyIface Try.prog 92 false := mkTyIface (by kernel_rfl)
instance : TyFunc Try.prog 92 := mkTyFunc (by kernel_rfl)
instance : TySz Try.prog 92 1 := mkTySz (by kernel_rfl)
instance : TyBytes Try.prog 92 8 := mkTyBytes (by kernel_rfl)
instance : TyZero Try.prog 92 (.nilFunc) := mkTyZero (by kernel_rfl)
instance : TyS Try.prog 93 := mkTyS (by kernel_rfl) (by kernel_rfl)
instance : TyIface Try.prog 93 false := mkTyIface (by kernel_rfl)
instance : TyFunc Try.prog 93 := mkTyFunc (by kernel_rfl)
instance : TySz Try.prog 93 1 := mkTySz (by kernel_rfl)
instance : TyBytes Try.prog 93 8 := mkTyBytes (by kernel_rfl)
instance : TyZero Try.prog 93 (.nilFunc) := mkTyZero (by kernel_rfl)
instance : TyA Try.prog 94 5 := mkTyA (by kernel_rfl) (by kernel_rfl)
instance : TyIface Try.prog 94 false := mkTyIface (by kernel_rfl)
instance : TySz Try.prog 94 5 := mkTySz (by kernel_rfl)
instance : TyBytes Try.prog 94 56 := mkTyBytes (by kernel_rfl)
instance : TyZero Try.prog 94 (.agg ⟨[.int .u64 0, .int .u64 0, .int .i64 0, .int .i64 0, .slice none 0 0]⟩) := mkTyZero (by kernel_rfl)
instance : NoGuard Try.prog 94 := ⟨by kernel_rfl⟩
instance : Fld Try.prog 94 0 0 29 := mkFld (by kernel_rfl)
instance : Fld Try.prog 94 1 1 29 := mkFld (by kernel_rfl)
instance : Fld Try.prog 94 2 2 3 := mkFld (by kernel_rfl)
instance : Fld Try.prog 94 3 3 3 := mkFld (by kernel_rfl)
instance : Fld Try.prog 94 4 4 30 := mkFld (by kernel_rfl)
instance : TyPlaces Try.prog 94 (([(0, 1), (1, 1), (2, 1), (3, 1), (4, 1)] : List (Nat × Nat))[·]?) := mkTyPlaces (by kernel_rfl)
instance : TyA Try.prog 95 5 := mkTyA (by kernel_rfl) (by kernel_rfl)
instance : TyIface Try.prog 95 false := mkTyIface (by kernel_rfl)
instance : TySz Try.prog 95 5 := mkTySz (by kernel_rfl)
instance : TyBytes Try.prog 95 56 := mkTyBytes (by kernel_rfl)
instance : TyZero Try.prog 95 (.agg ⟨[.int .u64 0, .int .u64 0, .int .i64 0, .int .i64 0, .slice none 0 0]⟩) := mkTyZero (by kernel_rfl)
instance : NoGuard Try.prog 95 := ⟨by kernel_rfl⟩
instance : TyFlds Try.prog 95 [(0, 29), (1, 29), (2, 3), (3, 3), (4, 30)] := mkTyFlds (by kernel_rfl)
instance : Fld Try.prog 95 0 0 29 := mkFld (by kernel_rfl)
instance : Fld Try.prog 95 1 1 29 := mkFld (by kernel_rfl)
instance : Fld Try.prog 95 2 2 3 := mkFld (by kernel_rfl)
instance : Fld Try.prog 95 3 3 3 := mkFld (by kernel_rfl)
instance : Fld Try.prog 95 4 4 30 := mkFld (by kernel_rfl)
instance : TyPlaces Try.prog 95 (([(0, 1), (1, 1), (2, 1), (3, 1), (4, 1)] : List (Nat × Nat))[·]?) := mkTyPlaces (by kernel_rfl)
instance : TyA Try.prog 96 9 := mkTyA (by kernel_rfl) (by kernel_rfl)
instance : TyIface Try.prog 96 false := mkTyIface (by kernel_rfl)
instance : TySz Try.prog 96 9 := mkTySz (by kernel_rfl)
instance : TyBytes Try.prog 96 104 := mkTyBytes (by kernel_rfl)
instance : TyZero Try.prog 96 (.agg ⟨[.int .u64 0, .int .u64 0, .int .i64 0, .int .i64 0, .slice none 0 0, .pointer none, .slice none 0 0, .int .i64 0, .bool false]⟩) := mkTyZero (by kernel_rfl)
instance : NoGuard Try.prog 96 := ⟨by kernel_rfl⟩
instance : Fld Try.prog 96 0 0 95 := mkFld (by kernel_rfl)
instance : Fld Try.prog 96 1 5 25 := mkFld (by kernel_rfl)
instance : Fld Try.prog 96 2 6 22 := mkFld (by kernel_rfl)
instance : Fld Try.prog 96 3 7 3 := mkFld (by kernel_rfl)
instance : Fld Try.prog 96 4 8 4 := mkFld (by kernel_rfl)
instance : TyPlaces Try.prog 96 (([(0, 5), (5, 1), (6, 1), (7, 1), (8, 1)] : List (Nat × Nat))[·]?) := mkTyPlaces (by kernel_rfl)
instance : TyA Try.prog 97 9 := mkTyA (by kernel_rfl) (by kernel_rfl)
instance : TyIface Try.prog 97 false := mkTyIface (by kernel_rfl)
instance : TySz Try.prog 97 9 := mkTySz (by kernel_rfl)
instance : TyBytes Try.prog 97 104 := mkTyBytes (by kernel_rfl)
instance : TyZero Try.prog 97 (.agg ⟨[.int .u64 0, .int .u64 0, .int .i64 0, .int .i64 0, .slice none 0 0, .pointer none, .slice none 0 0, .int .i64 0, .bool false]⟩) := mkTyZero (by kernel_rfl)
instance : NoGuard Try.prog 97 := ⟨by kernel_rfl⟩
instance : TyFlds Try.prog 97 [(0, 95), (5, 25), (6, 22), (7, 3), (8, 4)] := mkTyFlds (by kernel_rfl)
instance : Fld Try.prog 97 0 0 95 := mkFld (by kernel_rfl)
instance : Fld Try.prog 97 1 5 25 := mkFld (by kernel_rfl)
instance : Fld Try.prog 97 2 6 22 := mkFld (by kernel_rfl)
instance : Fld Try.prog 97 3 7 3 := mkFld (by kernel_rfl)
instance : Fld Try.prog 97 4 8 4 := mkFld (by kernel_rfl)
instance : TyPlaces Try.prog 97 (([(0, 5), (5, 1), (6, 1), (7, 1), (8, 1)] : List (Nat × Nat))[·]?) := mkTyPlaces (by kernel_rfl)
instance : TyS Try.prog 98 := mkTyS (by kernel_rfl) (by kernel_rfl)
instance : TyIface Try.prog 98 false := mkTyIface (by kernel_rfl)
instance : TyFunc Try.prog 98 := mkTyFunc (by kernel_rfl)
instance : TySz Try.prog 98 1 := mkTySz (by kernel_rfl)
instance : TyBytes Try.prog 98 8 := mkTyBytes (by kernel_rfl)
instance : TyZero Try.prog 98 (.nilFunc) := mkTyZero (by kernel_rfl)
instance : TyS Try.prog 99 := mkTyS (by kernel_rfl) (by kernel_rfl)
instance : TyIface Try.prog 99 false := mkTyIface (by kernel_rfl)
instance : TyFunc Try.prog 99 := mkTyFunc (by kernel_rfl)
instance : TySz Try.prog 99 1 := mkTySz (by kernel_rfl)
instance : TyBytes Try.prog 99 8 := mkTyBytes (by kernel_rfl)
instance : TyZero Try.prog 99 (.nilFunc) := mkTyZero (by kernel_rfl)
instance : TyS Try.prog 100 := mkTyS (by kernel_rfl) (by kernel_rfl)
instance : TyIface Try.prog 100 false := mkTyIface (by kernel_rfl)
instance : TyFunc Try.prog 100 := mkTyFunc (by kernel_rfl)
instance : TySz Try.prog 100 1 := mkTySz (by kernel_rfl)
instance : TyBytes Try.prog 100 8 := mkTyBytes (by kernel_rfl)
instance : TyZero Try.prog 100 (.nilFunc) := mkTyZero (by kernel_rfl)
instance : TyS Try.prog 101 := mkTyS (by kernel_rfl) (by kernel_rfl)
instance : TyIface Try.prog 101 false := mkTyIface (by kernel_rfl)
instance : TyFunc Try.prog 101 := mkTyFunc (by kernel_rfl)
instance : TySz Try.prog 101 1 := mkTySz (by kernel_rfl)
instance : TyBytes Try.prog 101 8 := mkTyBytes (by kernel_rfl)
instance : TyZero Try.prog 101 (.nilFunc) := mkTyZero (by kernel_rfl)
instance : TyS Try.prog 102 := mkTyS (by kernel_rfl) (by kernel_rfl)
instance : TyIface Try.prog 102 false := mkTyIface (by kernel_rfl)
instance : TyFunc Try.prog 102 := mkTyFunc (by kernel_rfl)
instance : TySz Try.prog 102 1 := mkTySz (by kernel_rfl)
instance : TyBytes Try.prog 102 8 := mkTyBytes (by kernel_rfl)
instance : TyZero Try.prog 102 (.nilFunc) := mkTyZero (by kernel_rfl)
instance : TyS Try.prog 103 := mkTyS (by kernel_rfl) (by kernel_rfl)
instance : TyIface Try.prog 103 false := mkTyIface (by kernel_rfl)
instance : TyFunc Try.prog 103 := mkTyFunc (by kernel_rfl)
instance : TySz Try.prog 103 1 := mkTySz (by kernel_rfl)
instance : TyBytes Try.prog 103 8 := mkTyBytes (by kernel_rfl)
instance : TyZero Try.prog 103 (.nilFunc) := mkTyZero (by kernel_rfl)
instance : TyS Try.prog 104 := mkTyS (by kernel_rfl) (by kernel_rfl)
instance : TyIface Try.prog 104 false := mkTyIface (by kernel_rfl)
instance : TyFunc Try.prog 104 := mkTyFunc (by kernel_rfl)
instance : TySz Try.prog 104 1 := mkTySz (by kernel_rfl)
instance : TyBytes Try.prog 104 8 := mkTyBytes (by kernel_rfl)
instance : TyZero Try.prog 104 (.nilFunc) := mkTyZero (by kernel_rfl)
instance : TyS Try.prog 105 := mkTyS (by kernel_rfl) (by kernel_rfl)
instance : TyIface Try.prog 105 false := mkTyIface (by kernel_rfl)
instance : TyFunc Try.prog 105 := mkTyFunc (by kernel_rfl)
instance : TySz Try.prog 105 1 := mkTySz (by kernel_rfl)
instance : TyBytes Try.prog 105 8 := mkTyBytes (by kernel_rfl)
instance : TyZero Try.prog 105 (.nilFunc) := mkTyZero (by kernel_rfl)
instance : TyS Try.prog 106 := mkTyS (by kernel_rfl) (by kernel_rfl)
instance : TyIface Try.prog 106 false := mkTyIface (by kernel_rfl)
instance : TyFunc Try.prog 106 := mkTyFunc (by kernel_rfl)
instance : TySz Try.prog 106 1 := mkTySz (by kernel_rfl)
instance : TyBytes Try.prog 106 8 := mkTyBytes (by kernel_rfl)
instance : TyZero Try.prog 106 (.nilFunc) := mkTyZero (by kernel_rfl)
instance : TyS Try.prog 107 := mkTyS (by kernel_rfl) (by kernel_rfl)
instance : TyIface Try.prog 107 false := mkTyIface (by kernel_rfl)
instance : TyFunc Try.prog 107 := mkTyFunc (by kernel_rfl)
instance : TySz Try.prog 107 1 := mkTySz (by kernel_rfl)
instance : TyBytes Try.prog 107 8 := mkTyBytes (by kernel_rfl)
instance : TyZero Try.prog 107 (.nilFunc) := mkTyZero (by kernel_rfl)
instance : TyS Try.prog 108 := mkTyS (by kernel_rfl) (by kernel_rfl)
instance : TyIface Try.prog 108 false := mkTyIface (by kernel_rfl)
instance : TyFunc Try.prog 108 := mkTyFunc (by kernel_rfl)
instance : TySz Try.prog 108 1 := mkTySz (by kernel_rfl)
instance : TyBytes Try.prog 108 8 := mkTyBytes (by kernel_rfl)
instance : TyZero Try.prog 108 (.nilFunc) := mkTyZero (by kernel_rfl)
instance : TyS Try.prog 109 := mkTyS (by kernel_rfl) (by kernel_rfl)
instance : TyIface Try.prog 109 false := mkTyIface (by kernel_rfl)
instance : TyFunc Try.prog 109 := mkTyFunc (by kernel_rfl)
instance : TySz Try.prog 109 1 := mkTySz (by kernel_rfl)
instance : TyBytes Try.prog 109 8 := mkTyBytes (by kernel_rfl)
instance : TyZero Try.prog 109 (.nilFunc) := mkTyZero (by kernel_rfl)
instance : TyA Try.prog 110 128 := mkTyA (by kernel_rfl) (by kernel_rfl)
instance : TyIface Try.prog 110 false := mkTyIface (by kernel_rfl)
instance : TySz Try.prog 110 128 := mkTySz (by kernel_rfl)
instance : TyBytes Try.prog 110 128 := mkTyBytes (by kernel_rfl)
instance : TyZero Try.prog 110 (.agg ⟨List.replicate 128 (.int .u8 0)⟩) := mkTyZero (by kernel_rfl)
instance : NoGuard Try.prog 110 := ⟨by kernel_rfl⟩
instance : TyArr Try.prog 110 2 66 := ⟨by kernel_rfl⟩
instance : TyPlaces Try.prog 110 (fun i => some (i * 64, 64)) := mkTyPlacesA (n := 2) (e := 66) (by kernel_rfl) (by kernel_rfl)
instance : TyS Try.prog 112 := mkTyS (by kernel_rfl) (by kernel_rfl)
instance : TyIface Try.prog 112 false := mkTyIface (by kernel_rfl)
instance : TyFunc Try.prog 112 := mkTyFunc (by kernel_rfl)
instance : TySz Try.prog 112 1 := mkTySz (by kernel_rfl)
instance : TyBytes Try.prog 112 8 := mkTyBytes (by kernel_rfl)
instance : TyZero Try.prog 112 (.nilFunc) := mkTyZero (by kernel_rfl)
instance : TyS Try.prog 113 := mkTyS (by kernel_rfl) (by kernel_rfl)
instance : TyIface Try.prog 113 false := mkTyIface (by kernel_rfl)
instance : TySz Try.prog 113 1 := mkTySz (by kernel_rfl)
instance : TyBytes Try.prog 113 24 := mkTyBytes (by kernel_rfl)
instance : TyZero Try.prog 113 (.slice none 0 0) := mkTyZero (by kernel_rfl)
instance : TySlice Try.prog 113 66 := ⟨by kernel_rfl⟩
instance : TyS Try.prog 114 := mkTyS (by kernel_rfl) (by kernel_rfl)
instance : TyIface Try.prog 114 false := mkTyIface (by kernel_rfl)
instance : TySz Try.prog 114 1 := mkTySz (by kernel_rfl)
instance : TyBytes Try.prog 114 8 := mkTyBytes (by kernel_rfl)
instance : TyZero Try.prog 114 (.map none) := mkTyZero (by kernel_rfl)
instance : TyMap Try.prog 114 3 66 := ⟨by kernel_rfl⟩
instance : TyA Try.prog 115 6 := mkTyA (by kernel_rfl) (by kernel_rfl)
instance : TyIface Try.prog 115 false := mkTyIface (by kernel_rfl)
instance : TySz Try.prog 115 6 := mkTySz (by kernel_rfl)
instance : TyBytes Try.prog 115 64 := mkTyBytes (by kernel_rfl)
instance : TyZero Try.prog 115 (.agg ⟨[.slice none 0 0, .map none, .int .i64 0, .int .i64 0, .int .i64 0, .bool false]⟩) := mkTyZero (by kernel_rfl)
instance : NoGuard Try.prog 115 := ⟨by kernel_rfl⟩
instance : Fld Try.prog 115 0 0 113 := mkFld (by kernel_rfl)
instance : Fld Try.prog 115 1 1 114 := mkFld (by kernel_rfl)
instance : Fld Try.prog 115 2 2 3 := mkFld (by kernel_rfl)
instance : Fld Try.prog 115 3 3 3 := mkFld (by kernel_rfl)
instance : Fld Try.prog 115 4 4 3 := mkFld (by kernel_rfl)
instance : Fld Try.prog 115 5 5 4 := mkFld (by kernel_rfl)
instance : TyPlaces Try.prog 115 (([(0, 1), (1, 1), (2, 1), (3, 1), (4, 1), (5, 1)] : List (Nat × Nat))[·]?) := mkTyPlaces (by kernel_rfl)
instance : TyA Try.prog 116 6 := mkTyA (by kernel_rfl) (by kernel_rfl)
instance : TyIface Try.prog 116 false := mkTyIface (by kernel_rfl)
instance : TySz Try.prog 116 6 := mkTySz (by kernel_rfl)
instance : TyBytes Try.prog 116 64 := mkTyBytes (by kernel_rfl)
instance : TyZero Try.prog 116 (.agg ⟨[.slice none 0 0, .map none, .int .i64 0, .int .i64 0, .int .i64 0, .bool false]⟩) := mkTyZero (by kernel_rfl)
instance : NoGuard Try.prog 116 := ⟨by kernel_rfl⟩
instance : TyFlds Try.prog 116 [(0, 113), (1, 114), (2, 3), (3, 3), (4, 3), (5, 4)] := mkTyFlds (by kernel_rfl)
instance : Fld Try.prog 116 0 0 113 := mkFld (by kernel_rfl)
instance : Fld Try.prog 116 1 1 114 := mkFld (by kernel_rfl)
instance : Fld Try.prog 116 2 2 3 := mkFld (by kernel_rfl)
instance : Fld Try.prog 116 3 3 3 := mkFld (by kernel_rfl)
instance : Fld Try.prog 116 4 4 3 := mkFld (by kernel_rfl)
instance : Fld Try.prog 116 5 5 4 := mkFld (by kernel_rfl)
instance : TyPlaces Try.prog 116 (([(0, 1), (1, 1), (2, 1), (3, 1), (4, 1), (5, 1)] : List (Nat × Nat))[·]?) := mkTyPlaces (by kernel_rfl)
instance : TyS Try.prog 117 := mkTyS (by kernel_rfl) (by kernel_rfl)
instance : TyIface Try.prog 117 false := mkTyIface (by kernel_rfl)
instance : TyFunc Try.prog 117 := mkTyFunc (by kernel_rfl)
instance : TySz Try.prog 117 1 := mkTySz (by kernel_rfl)
instance : TyBytes Try.prog 117 8 := mkTyBytes (by kernel_rfl)
instance : TyZero Try.prog 117 (.nilFunc) := mkTyZero (by kernel_rfl)
instance : TyS Try.prog 118 := mkTyS (by kernel_rfl) (by kernel_rfl)
instance : TyIface Try.prog 118 false := mkTyIface (by kernel_rfl)
instance : TyFunc Try.prog 118 := mkTyFunc (by kernel_rfl)
instance : TySz Try.prog 118 1 := mkTySz (by kernel_rfl)
instance : TyBytes Try.prog 118 8 := mkTyBytes (by kernel_rfl)
instance : TyZero Try.prog 118 (.nilFunc) := mkTyZero (by kernel_rfl)
instance : TyS Try.prog 119 := mkTyS (by kernel_rfl) (by kernel_rfl)
instance : TyIface Try.prog 119 false := mkTyIface (by kernel_rfl)
instance : TyFunc Try.prog 119 := mkTyFunc (by kernel_rfl)
instance : TySz Try.prog 119 1 := mkTySz (by kernel_rfl)
instance : TyBytes Try.prog 119 8 := mkTyBytes (by kernel_rfl)
instance : TyZero Try.prog 119 (.nilFunc) := mkTyZero (by kernel_rfl)
instance : TyS Try.prog 120 := mkTyS (by kernel_rfl) (by kernel_rfl)
instance : TyIface Try.prog 120 false := mkTyIface (by kernel_rfl)
instance : TyFunc Try.prog 120 := mkTyFunc (by kernel_rfl)
instance : TySz Try.prog 120 1 := mkTySz (by kernel_rfl)
instance : TyBytes Try.prog 120 8 := mkTyBytes (by kernel_rfl)
instance : TyZero Try.prog 120 (.nilFunc) := mkTyZero (by kernel_rfl)
instance : TyS Try.prog 121 := mkTyS (by kernel_rfl) (by kernel_rfl)
instance : TyIface Try.prog 121 false := mkTyIface (by kernel_rfl)
instance : TyFunc Try.prog 121 := mkTyFunc (by kernel_rfl)
instance : TySz Try.prog 121 1 := mkTySz (by kernel_rfl)
instance : TyBytes Try.prog 121 8 := mkTyBytes (by kernel_rfl)
instance : TyZero Try.prog 121 (.nilFunc) := mkTyZero (by kernel_rfl)
instance : TyS Try.prog 122 := mkTyS (by kernel_rfl) (by kernel_rfl)
instance : TyIface Try.prog 122 false := mkTyIface (by kernel_rfl)
instance : TyFunc Try.prog 122 := mkTyFunc (by kernel_rfl)
instance : TySz Try.prog 122 1 := mkTySz (by kernel_rfl)
instance : TyBytes Try.prog 122 8 := mkTyBytes (by kernel_rfl)
instance : TyZero Try.prog 122 (.nilFunc) := mkTyZero (by kernel_rfl)
instance : TyS Try.prog 124 := mkTyS (by kernel_rfl) (by kernel_rfl)
instance : TyIface Try.prog 124 false := mkTyIface (by kernel_rfl)
instance : TyFunc Try.prog 124 := mkTyFunc (by kernel_rfl)
instance : TySz Try.prog 124 1 := mkTySz (by kernel_rfl)
instance : TyBytes Try.prog 124 8 := mkTyBytes (by kernel_rfl)
instance : TyZero Try.prog 124 (.nilFunc) := mkTyZero (by kernel_rfl)
instance : TyS Try.prog 125 := mkTyS (by kernel_rfl) (by kernel_rfl)
instance : TyIface Try.prog 125 false := mkTyIface (by kernel_rfl)
instance : TySz Try.prog 125 1 := mkTySz (by kernel_rfl)
instance : TyBytes Try.prog 125 2 := mkTyBytes (by kernel_rfl)
instance : TyZero Try.prog 125 (.int .u16 0) := mkTyZero (by kernel_rfl)
instance : TyInt Try.prog 125 .u16 := ⟨by kernel_rfl⟩
instance : TyA Try.prog 126 2 := mkTyA (by kernel_rfl) (by kernel_rfl)
instance : TyIface Try.prog 126 false := mkTyIface (by kernel_rfl)
instance : TySz Try.prog 126 2 := mkTySz (by kernel_rfl)
instance : TyBytes Try.prog 126 16 := mkTyBytes (by kernel_rfl)
instance : TyZero Try.prog 126 (.agg ⟨[.int .i64 0, .int .u16 0]⟩) := mkTyZero (by kernel_rfl)
instance : NoGuard Try.prog 126 := ⟨by kernel_rfl⟩
instance : Fld Try.prog 126 0 0 3 := mkFld (by kernel_rfl)
instance : Fld Try.prog 126 1 1 125 := mkFld (by kernel_rfl)
instance : TyPlaces Try.prog 126 (([(0, 1), (1, 1)] : List (Nat × Nat))[·]?) := mkTyPlaces (by kernel_rfl)
instance : TyA Try.prog 127 2 := mkTyA (by kernel_rfl) (by kernel_rfl)
instance : TyIface Try.prog 127 false := mkTyIface (by kernel_rfl)
instance : TySz Try.prog 127 2 := mkTySz (by kernel_rfl)
instance : TyBytes Try.prog 127 16 := mkTyBytes (by kernel_rfl)
instance : TyZero Try.prog 127 (.agg ⟨[.int .i64 0, .int .u16 0]⟩) := mkTyZero (by kernel_rfl)
instance : NoGuard Try.prog 127 := ⟨by kernel_rfl⟩
instance : TyFlds Try.prog 127 [(0, 3), (1, 125)] := mkTyFlds (by kernel_rfl)
instance : Fld Try.prog 127 0 0 3 := mkFld (by kernel_rfl)
instance : Fld Try.prog 127 1 1 125 := mkFld (by kernel_rfl)
instance : TyPlaces Try.prog 127 (([(0, 1), (1, 1)] : List (Nat × Nat))[·]?) := mkTyPlaces (by kernel_rfl)
instance : TyA Try.prog 128 4 := mkTyA (by kernel_rfl) (by kernel_rfl)
instance : TyIface Try.prog 128 false := mkTyIface (by kernel_rfl)
instance : TySz Try.prog 128 4 := mkTySz (by kernel_rfl)
instance : TyBytes Try.prog 128 40 := mkTyBytes (by kernel_rfl)
instance : TyZero Try.prog 128 (.agg ⟨[.int .i64 0, .int .u16 0, .int .i64 0, .string ⟨⟨[]⟩⟩]⟩) := mkTyZero (by kernel_rfl)
instance : NoGuard Try.prog 128 := ⟨by kernel_rfl⟩
instance : Fld Try.prog 128 0 0 127 := mkFld (by kernel_rfl)
instance : Fld Try.prog 128 1 2 2 := mkFld (by kernel_rfl)
instance : Fld Try.prog 128 2 3 9 := mkFld (by kernel_rfl)
instance : TyPlaces Try.prog 128 (([(0, 2), (2, 1), (3, 1)] : List (Nat × Nat))[·]?) := mkTyPlaces (by kernel_rfl)
instance : TyA Try.prog 129 4 := mkTyA (by kernel_rfl) (by kernel_rfl)
instance : TyIface Try.prog 129 false := mkTyIface (by kernel_rfl)
instance : TySz Try.prog 129 4 := mkTySz (by kernel_rfl)
instance : TyBytes Try.prog 129 40 := mkTyBytes (by kernel_rfl)
instance : TyZero Try.prog 129 (.agg ⟨[.int .i64 0, .int .u16 0, .int .i64 0, .string ⟨⟨[]⟩⟩]⟩) := mkTyZero (by kernel_rfl)
instance : NoGuard Try.prog 129 := ⟨by kernel_rfl⟩
instance : TyFlds Try.prog 129 [(0, 127), (2, 2), (3, 9)] := mkTyFlds (by kernel_rfl)
instance : Fld Try.prog 129 0 0 127 := mkFld (by kernel_rfl)
instance : Fld Try.prog 129 1 2 2 := mkFld (by kernel_rfl)
instance : Fld Try.prog 129 2 3 9 := mkFld (by kernel_rfl)
instance : TyPlaces Try.prog 129 (([(0, 2), (2, 1), (3, 1)] : List (Nat × Nat))[·]?) := mkTyPlaces (by kernel_rfl)
instance : TyS Try.prog 130 := mkTyS (by kernel_rfl) (by kernel_rfl)
instance : TyIface Try.prog 130 false := mkTyIface (by kernel_rfl)
instance : TyFunc Try.prog 130 := mkTyFunc (by kernel_rfl)
instance : TySz Try.prog 130 1 := mkTySz (by kernel_rfl)
instance : TyBytes Try.prog 130 8 := mkTyBytes (by kernel_rfl)
instance : TyZero Try.prog 130 (.nilFunc) := mkTyZero (by kernel_rfl)
instance : TyS Try.prog 131 := mkTyS (by kernel_rfl) (by kernel_rfl)
instance : TyIface Try.prog 131 false := mkTyIface (by kernel_rfl)
instance : TyFunc Try.prog 131 := mkTyFunc (by kernel_rfl)
instance : TySz Try.prog 131 1 := mkTySz (by kernel_rfl)
instance : TyBytes Try.prog 131 8 := mkTyBytes (by kernel_rfl)
instance : TyZero Try.prog 131 (.nilFunc) := mkTyZero (by kernel_rfl)
instance : TyA Try.prog 132 7 := mkTyA (by kernel_rfl) (by kernel_rfl)
instance : TyIface Try.prog 132 false := mkTyIface (by kernel_rfl)
instance : TySz Try.prog 132 7 := mkTySz (by kernel_rfl)
instance : TyBytes Try.prog 132 88 := mkTyBytes (by kernel_rfl)
instance : TyZero Try.prog 132 (.agg ⟨[.int .u64 0, .int .u64 0, .int .i64 0, .slice none 0 0, .slice none 0 0, .bool false, .int .u64 0]⟩) := mkTyZero (by kernel_rfl)
instance : NoGuard Try.prog 132 := ⟨by kernel_rfl⟩
instance : Fld Try.prog 132 0 0 29 := mkFld (by kernel_rfl)
instance : Fld Try.prog 132 1 1 29 := mkFld (by kernel_rfl)
instance : Fld Try.prog 132 2 2 76 := mkFld (by kernel_rfl)
instance : Fld Try.prog 132 3 5 4 := mkFld (by kernel_rfl)
instance : Fld Try.prog 132 4 6 29 := mkFld (by kernel_rfl)
instance : TyPlaces Try.prog 132 (([(0, 1), (1, 1), (2, 3), (5, 1), (6, 1)] : List (Nat × Nat))[·]?) := mkTyPlaces (by kernel_rfl)
instance : TyA Try.prog 133 7 := mkTyA (by kernel_rfl) (by kernel_rfl)
instance : TyIface Try.prog 133 false := mkTyIface (by kernel_rfl)
instance : TySz Try.prog 133 7 := mkTySz (by kernel_rfl)
instance : TyBytes Try.prog 133 88 := mkTyBytes (by kernel_rfl)
instance : TyZero Try.prog 133 (.agg ⟨[.int .u64 0, .int .u64 0, .int .i64 0, .slice none 0 0, .slice none 0 0, .bool false, .int .u64 0]⟩) := mkTyZero (by kernel_rfl)
instance : NoGuard Try.prog 133 := ⟨by kernel_rfl⟩
instance : TyFlds Try.prog 133 [(0, 29), (1, 29), (2, 76), (5, 4), (6, 29)] := mkTyFlds (by kernel_rfl)
instance : Fld Try.prog 133 0 0 29 := mkFld (by kernel_rfl)
instance : Fld Try.prog 133 1 1 29 := mkFld (by kernel_rfl)
instance : Fld Try.prog 133 2 2 76 := mkFld (by kernel_rfl)
instance : Fld Try.prog 133 3 5 4 := mkFld (by kernel_rfl)
instance : Fld Try.prog 133 4 6 29 := mkFld (by kernel_rfl)
instance : TyPlaces Try.prog 133 (([(0, 1), (1, 1), (2, 3), (5, 1), (6, 1)] : List (Nat × Nat))[·]?) := mkTyPlaces (by kernel_rfl)
instance : TyS Try.prog 135 := mkTyS (by kernel_rfl) (by kernel_rfl)
instance : TyIface Try.prog 135 false := mkTyIface (by kernel_rfl)
instance : TyFunc Try.prog 135 := mkTyFunc (by kernel_rfl)
instance : TySz Try.prog 135 1 := mkTySz (by kernel_rfl)
instance : TyBytes Try.prog 135 8 := mkTyBytes (by kernel_rfl)
instance : TyZero Try.prog 135 (.nilFunc) := mkTyZero (by kernel_rfl)
instance : TyS Try.prog 136 := mkTyS (by kernel_rfl) (by kernel_rfl)
instance : TyIface Try.prog 136 false := mkTyIface (by kernel_rfl)
instance : TyFunc Try.prog 136 := mkTyFunc (by kernel_rfl)
instance : TySz Try.prog 136 1 := mkTySz (by kernel_rfl)
instance : TyBytes Try.prog 136 8 := mkTyBytes (by kernel_rfl)
instance : TyZero Try.prog 136 (.nilFunc) := mkTyZero (by kernel_rfl)
instance : TyS Try.prog 137 := mkTyS (by kernel_rfl) (by kernel_rfl)
instance : TyIface Try.prog 137 false := mkTyIface (by kernel_rfl)
instance : TyFunc Try.prog 137 := mkTyFunc (by kernel_rfl)
instance : TySz Try.prog 137 1 := mkTySz (by kernel_rfl)
instance : TyBytes Try.prog 137 8 := mkTyBytes (by kernel_rfl)
instance : TyZero Try.prog 137 (.nilFunc) := mkTyZero (by kernel_rfl)
instance : TyA Try.prog 138 2 := mkTyA (by kernel_rfl) (by kernel_rfl)
instance : TyIface Try.prog 138 false := mkTyIface (by kernel_rfl)
instance : TySz Try.prog 138 2 := mkTySz (by kernel_rfl)
instance : TyBytes Try.prog 138 16 := mkTyBytes (by kernel_rfl)
instance : TyZero Try.prog 138 (.agg ⟨[.pointer none, .int .i64 0]⟩) := mkTyZero (by kernel_rfl)
instance : NoGuard Try.prog 138 := ⟨by kernel_rfl⟩
instance : Fld Try.prog 138 0 0 25 := mkFld (by kernel_rfl)
instance : Fld Try.prog 138 1 1 3 := mkFld (by kernel_rfl)
instance : TyPlaces Try.prog 138 (([(0, 1), (1, 1)] : List (Nat × Nat))[·]?) := mkTyPlaces (by kernel_rfl)
instance : TyA Try.prog 139 2 := mkTyA (by kernel_rfl) (by kernel_rfl)
instance : TyIface Try.prog 139 false := mkTyIface (by kernel_rfl)
instance : TySz Try.prog 139 2 := mkTySz (by kernel_rfl)
instance : TyBytes Try.prog 139 16 := mkTyBytes (by kernel_rfl)
instance : TyZero Try.prog 139 (.agg ⟨[.pointer none, .int .i64 0]⟩) := mkTyZero (by kernel_rfl)
instance : NoGuard Try.prog 139 := ⟨by kernel_rfl⟩
instance : TyFlds Try.prog 139 [(0, 25), (1, 3)] := mkTyFlds (by kernel_rfl)
instance : Fld Try.prog 139 0 0 25 := mkFld (by kernel_rfl)
instance : Fld Try.prog 139 1 1 3 := mkFld (by kernel_rfl)
instance : TyPlaces Try.prog 139 (([(0, 1), (1, 1)] : List (Nat × Nat))[·]?) := mkTyPlaces (by kernel_rfl)
instance : TyS Try.prog 140 := mkTyS (by kernel_rfl) (by kernel_rfl)
instance : TyIface Try.prog 140 false := mkTyIface (by kernel_rfl)
instance : TyFunc Try.prog 140 := mkTyFunc (by kernel_rfl)
instance : TySz Try.prog 140 1 := mkTySz (by kernel_rfl)
instance : TyBytes Try.prog 140 8 := mkTyBytes (by kernel_rfl)
instance : TyZero Try.prog 140 (.nilFunc) := mkTyZero (by kernel_rfl)
instance : TyS Try.prog 141 := mkTyS (by kernel_rfl) (by kernel_rfl)
instance : TyIface Try.prog 141 false := mkTyIface (by kernel_rfl)
instance : TyFunc Try.prog 141 := mkTyFunc (by kernel_rfl)
instance : TySz Try.prog 141 1 := mkTySz (by kernel_rfl)
instance : TyBytes Try.prog 141 8 := mkTyBytes (by kernel_rfl)
instance : TyZero Try.prog 141 (.nilFunc) := mkTyZero (by kernel_rfl)
instance : TyS Try.prog 142 := mkTyS (by kernel_rfl) (by kernel_rfl)
instance : TyIface Try.prog 142 false := mkTyIface (by kernel_rfl)
instance : TyFunc Try.prog 142 := mkTyFunc (by kernel_rfl)
instance : TySz Try.prog 142 1 := mkTySz (by kernel_rfl)
instance : TyBytes Try.prog 142 8 := mkTyBytes (by kernel_rfl)
instance : TyZero Try.prog 142 (.nilFunc) := mkTyZero (by kernel_rfl)
instance : TyS Try.prog 143 := mkTyS (by kernel_rfl) (by kernel_rfl)
instance : TyIface Try.prog 143 false := mkTyIface (by kernel_rfl)
instance : TyFunc Try.prog 143 := mkTyFunc (by kernel_rfl)
instance : TySz Try.prog 143 1 := mkTySz (by kernel_rfl)
instance : TyBytes Try.prog 143 8 := mkTyBytes (by kernel_rfl)
instance : TyZero Try.prog 143 (.nilFunc) := mkTyZero (by kernel_rfl)
instance : TyS Try.prog 144 := mkTyS (by kernel_rfl) (by kernel_rfl)
instance : TyIface Try.prog 144 false := mkTyIface (by kernel_rfl)
instance : TyFunc Try.prog 144 := mkTyFunc (by kernel_rfl)
instance : TySz Try.prog 144 1 := mkTySz (by kernel_rfl)
instance : TyBytes Try.prog 144 8 := mkTyBytes (by kernel_rfl)
instance : TyZero Try.prog 144 (.nilFunc) := mkTyZero (by kernel_rfl)
instance : TyS Try.prog 145 := mkTyS (by kernel_rfl) (by kernel_rfl)
instance : TyIface Try.prog 145 false := mkTyIface (by kernel_rfl)
instance : TyFunc Try.prog 145 := mkTyFunc (by kernel_rfl)
instance : TySz Try.prog 145 1 := mkTySz (by kernel_rfl)
instance : TyBytes Try.prog 145 8 := mkTyBytes (by kernel_rfl)
instance : TyZero Try.prog 145 (.nilFunc) := mkTyZero (by kernel_rfl)
instance : TyS Try.prog 146 := mkTyS (by kernel_rfl) (by kernel_rfl)
instance : TyIface Try.prog 146 false := mkTyIface (by kernel_rfl)
instance : TyFunc Try.prog 146 := mkTyFunc (by kernel_rfl)
instance : TySz Try.prog 146 1 := mkTySz (by kernel_rfl)
instance : TyBytes Try.prog 146 8 := mkTyBytes (by kernel_rfl)
instance : TyZero Try.prog 146 (.nilFunc) := mkTyZero (by kernel_rfl)
instance : TyS Try.prog 147 := mkTyS (by kernel_rfl) (by kernel_rfl)
instance : TyIface Try.prog 147 false := mkTyIface (by kernel_rfl)
instance : TyFunc Try.prog 147 := mkTyFunc (by kernel_rfl)
instance : TySz Try.prog 147 1 := mkTySz (by kernel_rfl)
instance : TyBytes Try.prog 147 8 := mkTyBytes (by kernel_rfl)
instance : TyZero Try.prog 147 (.nilFunc) := mkTyZero (by kernel_rfl)
instance : TyS Try.prog 148 := mkTyS (by kernel_rfl) (by kernel_rfl)
instance : TyIface Try.prog 148 false := mkTyIface (by kernel_rfl)
instance : TyFunc Try.prog 148 := mkTyFunc (by kernel_rfl)
instance : TySz Try.prog 148 1 := mkTySz (by kernel_rfl)
instance : TyBytes Try.prog 148 8 := mkTyBytes (by kernel_rfl)
instance : TyZero Try.prog 148 (.nilFunc) := mkTyZero (by kernel_rfl)
instance : TyS Try.prog 150 := mkTyS (by kernel_rfl) (by kernel_rfl)
instance : TyIface Try.prog 150 false := mkTyIface (by kernel_rfl)
instance : TyFunc Try.prog 150 := mkTyFunc (by kernel_rfl)
instance : TySz Try.prog 150 1 := mkTySz (by kernel_rfl)
instance : TyBytes Try.prog 150 8 := mkTyBytes (by kernel_rfl)
instance : TyZero Try.prog 150 (.nilFunc) := mkTyZero (by kernel_rfl)
instance : TyS Try.prog 151 := mkTyS (by kernel_rfl) (by kernel_rfl)
instance : TyIface Try.prog 151 false := mkTyIface (by kernel_rfl)
instance : TyFunc Try.prog 151 := mkTyFunc (by kernel_rfl)
instance : TySz Try.prog 151 1 := mkTySz (by kernel_rfl)
instance : TyBytes Try.prog 151 8 := mkTyBytes (by kernel_rfl)
instance : TyZero Try.prog 151 (.nilFunc) := mkTyZero (by kernel_rfl)
instance : TyS Try.prog 152 := mkTyS (by kernel_rfl) (by kernel_rfl)
instance : TyIface Try.prog 152 false := mkTyIface (by kernel_rfl)
instance : TyFunc Try.prog 152 := mkTyFunc (by kernel_rfl)
instance : TySz Try.prog 152 1 := mkTySz (by kernel_rfl)
instance : TyBytes Try.prog 152 8 := mkTyBytes (by kernel_rfl)
instance : TyZero Try.prog 152 (.nilFunc) := mkTyZero (by kernel_rfl)
instance : TyS Try.prog 153 := mkTyS (by kernel_rfl) (by kernel_rfl)
instance : TyIface Try.prog 153 false := mkTyIface (by kernel_rfl)
instance : TyFunc Try.prog 153 := mkTyFunc (by kernel_rfl)
instance : TySz Try.prog 153 1 := mkTySz (by kernel_rfl)
instance : TyBytes Try.prog 153 8 := mkTyBytes (by kernel_rfl)
instance : TyZero Try.prog 153 (.nilFunc) := mkTyZero (by kernel_rfl)
instance : TyS Try.prog 155 := mkTyS (by kernel_rfl) (by kernel_rfl)
instance : TyIface Try.prog 155 false := mkTyIface (by kernel_rfl)
instance : TyFunc Try.prog 155 := mkTyFunc (by kernel_rfl)
instance : TySz Try.prog 155 1 := mkTySz (by kernel_rfl)
instance : TyBytes Try.prog 155 8 := mkTyBytes (by kernel_rfl)
instance : TyZero Try.prog 155 (.nilFunc) := mkTyZero (by kernel_rfl)
instance : TyS Try.prog 156 := mkTyS (by kernel_rfl) (by kernel_rfl)
instance : TyIface Try.prog 156 false := mkTyIface (by kernel_rfl)
instance : TyFunc Try.prog 156 := mkTyFunc (by kernel_rfl)
instance : TySz Try.prog 156 1 := mkTySz (by kernel_rfl)
instance : TyBytes Try.prog 156 8 := mkTyBytes (by kernel_rfl)
instance : TyZero Try.prog 156 (.nilFunc) := mkTyZero (by kernel_rfl)
instance : TyS Try.prog 157 := mkTyS (by kernel_rfl) (by kernel_rfl)
instance : TyIface Try.prog 157 false := mkTyIface (by kernel_rfl)
instance : TyFunc Try.prog 157 := mkTyFunc (by kernel_rfl)
instance : TySz Try.prog 157 1 := mkTySz (by kernel_rfl)
instance : TyBytes Try.prog 157 8 := mkTyBytes (by kernel_rfl)
instance : TyZero Try.prog 157 (.nilFunc) := mkTyZero (by kernel_rfl)
instance : TyS Try.prog 158 := mkTyS (by kernel_rfl) (by kernel_rfl)
instance : TyIface Try.prog 158 false := mkTyIface (by kernel_rfl)
instance : TyFunc Try.prog 158 := mkTyFunc (by kernel_rfl)
instance : TySz Try.prog 158 1 := mkTySz (by kernel_rfl)
instance : TyBytes Try.prog 158 8 := mkTyBytes (by kernel_rfl)
instance : TyZero Try.prog 158 (.nilFunc) := mkTyZero (by kernel_rfl)
instance : TyS Try.prog 159 := mkTyS (by kernel_rfl) (by kernel_rfl)
instance : TyIface Try.prog 159 false := mkTyIface (by kernel_rfl)
instance : TyFunc Try.prog 159 := mkTyFunc (by kernel_rfl)
instance : TySz Try.prog 159 1 := mkTySz (by kernel_rfl)
instance : TyBytes Try.prog 159 8 := mkTyBytes (by kernel_rfl)
instance : TyZero Try.prog 159 (.nilFunc) := mkTyZero (by kernel_rfl)
instance : TyS Try.prog 160 := mkTyS (by kernel_rfl) (by kernel_rfl)
instance : TyIface Try.prog 160 false := mkTyIface (by kernel_rfl)
instance : TySz Try.prog 160 1 := mkTySz (by kernel_rfl)
instance : TyBytes Try.prog 160 8 := mkTyBytes (by kernel_rfl)
instance : TyZero Try.prog 160 (.pointer none) := mkTyZero (by kernel_rfl)
instance : TyPtr Try.prog 160 3 := ⟨by kernel_rfl⟩
instance : TyS Try.prog 161 := mkTyS (by kernel_rfl) (by kernel_rfl)
instance : TyIface Try.prog 161 false := mkTyIface (by kernel_rfl)
instance : TyFunc Try.prog 161 := mkTyFunc (by kernel_rfl)
instance : TySz Try.prog 161 1 := mkTySz (by kernel_rfl)
instance : TyBytes Try.prog 161 8 := mkTyBytes (by kernel_rfl)
instance : TyZero Try.prog 161 (.nilFunc) := mkTyZero (by kernel_rfl)
instance : TyS Try.prog 162 := mkTyS (by kernel_rfl) (by kernel_rfl)
instance : TyIface Try.prog 162 false := mkTyIface (by kernel_rfl)
instance : TyFunc Try.prog 162 := mkTyFunc (by kernel_rfl)
instance : TySz Try.prog 162 1 := mkTySz (by kernel_rfl)
instance : TyBytes Try.prog 162 8 := mkTyBytes (by kernel_rfl)
instance : TyZero Try.prog 162 (.nilFunc) := mkTyZero (by kernel_rfl)
instance : TyS Try.prog 163 := mkTyS (by kernel_rfl) (by kernel_rfl)
instance : TyIface Try.prog 163 false := mkTyIface (by kernel_rfl)
instance : TyFunc Try.prog 163 := mkTyFunc (by kernel_rfl)
instance : TySz Try.prog 163 1 := mkTySz (by kernel_rfl)
instance : TyBytes Try.prog 163 8 := mkTyBytes (by kernel_rfl)
instance : TyZero Try.prog 163 (.nilFunc) := mkTyZero (by kernel_rfl)
instance : TyS Try.prog 165 := mkTyS (by kernel_rfl) (by kernel_rfl)
instance : TyIface Try.prog 165 false := mkTyIface (by kernel_rfl)
instance : TyFunc Try.prog 165 := mkTyFunc (by kernel_rfl)
instance : TySz Try.prog 165 1 := mkTySz (by kernel_rfl)
instance : TyBytes Try.prog 165 8 := mkTyBytes (by kernel_rfl)
instance : TyZero Try.prog 165 (.nilFunc) := mkTyZero (by kernel_rfl)
instance : TyS Try.prog 166 := mkTyS (by kernel_rfl) (by kernel_rfl)
instance : TyIface Try.prog 166 false := mkTyIface (by kernel_rfl)
instance : TyFunc Try.prog 166 := mkTyFunc (by kernel_rfl)
instance : TySz Try.prog 166 1 := mkTySz (by kernel_rfl)
instance : TyBytes Try.prog 166 8 := mkTyBytes (by kernel_rfl)
instance : TyZero Try.prog 166 (.nilFunc) := mkTyZero (by kernel_rfl)
instance : TyS Try.prog 167 := mkTyS (by kernel_rfl) (by kernel_rfl)
instance : TyIface Try.prog 167 false := mkTyIface (by kernel_rfl)
instance : TyFunc Try.prog 167 := mkTyFunc (by kernel_rfl)
instance : TySz Try.prog 167 1 := mkTySz (by kernel_rfl)
instance : TyBytes Try.prog 167 8 := mkTyBytes (by kernel_rfl)
instance : TyZero Try.prog 167 (.nilFunc) := mkTyZero (by kernel_rfl)
instance : TyS Try.prog 168 := mkTyS (by kernel_rfl) (by kernel_rfl)
instance : TyIface Try.prog 168 false := mkTyIface (by kernel_rfl)
instance : TySz Try.prog 168 1 := mkTySz (by kernel_rfl)
instance : TyBytes Try.prog 168 4 := mkTyBytes (by kernel_rfl)
instance : TyZero Try.prog 168 (.int .u32 0) := mkTyZero (by kernel_rfl)
instance : TyInt Try.prog 168 .u32 := ⟨by kernel_rfl⟩
instance : TyS Try.prog 169 := mkTyS (by kernel_rfl) (by kernel_rfl)
instance : TyIface Try.prog 169 false := mkTyIface (by kernel_rfl)
instance : TyFunc Try.prog 169 := mkTyFunc (by kernel_rfl)
instance : TySz Try.prog 169 1 := mkTySz (by kernel_rfl)
instance : TyBytes Try.prog 169 8 := mkTyBytes (by kernel_rfl)
instance : TyZero Try.prog 169 (.nilFunc) := mkTyZero (by kernel_rfl)
instance : TyS Try.prog 170 := mkTyS (by kernel_rfl) (by kernel_rfl)
instance : TyIface Try.prog 170 false := mkTyIface (by kernel_rfl)
instance : TyFunc Try.prog 170 := mkTyFunc (by kernel_rfl)
instance : TySz Try.prog 170 1 := mkTySz (by kernel_rfl)
instance : TyBytes Try.prog 170 8 := mkTyBytes (by kernel_rfl)
instance : TyZero Try.prog 170 (.nilFunc) := mkTyZero (by kernel_rfl)
instance : TyS Try.prog 171 := mkTyS (by kernel_rfl) (by kernel_rfl)
instance : TyIface Try.prog 171 false := mkTyIface (by kernel_rfl)
instance : TyFunc Try.prog 171 := mkTyFunc (by kernel_rfl)
instance : TySz Try.prog 171 1 := mkTySz (by kernel_rfl)
instance : TyBytes Try.prog 171 8 := mkTyBytes (by kernel_rfl)
instance : TyZero Try.prog 171 (.nilFunc) := mkTyZero (by kernel_rfl)
instance : TyS Try.prog 172 := mkTyS (by kernel_rfl) (by kernel_rfl)
instance : TyIface Try.prog 172 false := mkTyIface (by kernel_rfl)
instance : TyFunc Try.prog 172 := mkTyFunc (by kernel_rfl)
instance : TySz Try.prog 172 1 := mkTySz (by kernel_rfl)
instance : TyBytes Try.prog 172 8 := mkTyBytes (by kernel_rfl)
instance : TyZero Try.prog 172 (.nilFunc) := mkTyZero (by kernel_rfl)
instance : TyA Try.prog 173 3 := mkTyA (by kernel_rfl) (by kernel_rfl)
instance : TyIface Try.prog 173 false := mkTyIface (by kernel_rfl)
instance : TySz Try.prog 173 3 := mkTySz (by kernel_rfl)
instance : TyBytes Try.prog 173 24 := mkTyBytes (by kernel_rfl)
instance : TyZero Try.prog 173 (.agg ⟨[.int .i64 0, .int .u16 0, .int .i64 0]⟩) := mkTyZero (by kernel_rfl)
instance : NoGuard Try.prog 173 := ⟨by kernel_rfl⟩
instance : Fld Try.prog 173 0 0 127 := mkFld (by kernel_rfl)
instance : Fld Try.prog 173 1 2 3 := mkFld (by kernel_rfl)
instance : TyPlaces Try.prog 173 (([(0, 2), (2, 1)] : List (Nat × Nat))[·]?) := mkTyPlaces (by kernel_rfl)
instance : TyA Try.prog 174 3 := mkTyA (by kernel_rfl) (by kernel_rfl)
instance : TyIface Try.prog 174 false := mkTyIface (by kernel_rfl)
instance : TySz Try.prog 174 3 := mkTySz (by kernel_rfl)
instance : TyBytes Try.prog 174 24 := mkTyBytes (by kernel_rfl)
instance : TyZero Try.prog 174 (.agg ⟨[.int .i64 0, .int .u16 0, .int .i64 0]⟩) := mkTyZero (by kernel_rfl)
instance : NoGuard Try.prog 174 := ⟨by kernel_rfl⟩
instance : TyFlds Try.prog 174 [(0, 127), (2, 3)] := mkTyFlds (by kernel_rfl)
instance : Fld Try.prog 174 0 0 127 := mkFld (by kernel_rfl)
instance : Fld Try.prog 174 1 2 3 := mkFld (by kernel_rfl)
instance : TyPlaces Try.prog 174 (([(0, 2), (2, 1)] : List (Nat × Nat))[·]?) := mkTyPlaces (by kernel_rfl)
instance : TyS Try.prog 175 := mkTyS (by kernel_rfl) (by kernel_rfl)
instance : TyIface Try.prog 175 false := mkTyIface (by kernel_rfl)
instance : TyFunc Try.prog 175 := mkTyFunc (by kernel_rfl)
instance : TySz Try.prog 175 1 := mkTySz (by kernel_rfl)
instance : TyBytes Try.prog 175 8 := mkTyBytes (by kernel_rfl)
instance : TyZero Try.prog 175 (.nilFunc) := mkTyZero (by kernel_rfl)
instance : TyS Try.prog 176 := mkTyS (by kernel_rfl) (by kernel_rfl)
instance : TyIface Try.prog 176 false := mkTyIface (by kernel_rfl)
instance : TyFunc Try.prog 176 := mkTyFunc (by kernel_rfl)
instance : TySz Try.prog 176 1 := mkTySz (by kernel_rfl)
instance : TyBytes Try.prog 176 8 := mkTyBytes (by kernel_rfl)
instance : TyZero Try.prog 176 (.nilFunc) := mkTyZero (by kernel_rfl)
instance : TyS Try.prog 177 := mkTyS (by kernel_rfl) (by kernel_rfl)
instance : TyIface Try.prog 177 false := mkTyIface (by kernel_rfl)
instance : TyFunc Try.prog 177 := mkTyFunc (by kernel_rfl)
instance : TySz Try.prog 177 1 := mkTySz (by kernel_rfl)
instance : TyBytes Try.prog 177 8 := mkTyBytes (by kernel_rfl)
instance : TyZero Try.prog 177 (.nilFunc) := mkTyZero (by kernel_rfl)
instance : TyS Try.prog 178 := mkTyS (by kernel_rfl) (by kernel_rfl)
instance : TyIface Try.prog 178 false := mkTyIface (by kernel_rfl)
instance : TyFunc Try.prog 178 := mkTyFunc (by kernel_rfl)
instance : TySz Try.prog 178 1 := mkTySz (by kernel_rfl)
instance : TyBytes Try.prog 178 8 := mkTyBytes (by kernel_rfl)
instance : TyZero Try.prog 178 (.nilFunc) := mkTyZero (by kernel_rfl)
instance : TyS Try.prog 179 := mkTyS (by kernel_rfl) (by kernel_rfl)
instance : TyIface Try.prog 179 false := mkTyIface (by kernel_rfl)
instance : TySz Try.prog 179 1 := mkTySz (by kernel_rfl)
instance : TyBytes Try.prog 179 8 := mkTyBytes (by kernel_rfl)
instance : TyZero Try.prog 179 (.map none) := mkTyZero (by kernel_rfl)
instance : TyMap Try.prog 179 3 4 := ⟨by kernel_rfl⟩
instance : TyS Try.prog 180 := mkTyS (by kernel_rfl) (by kernel_rfl)
instance : TyIface Try.prog 180 false := mkTyIface (by kernel_rfl)
instance : TyFunc Try.prog 180 := mkTyFunc (by kernel_rfl)
instance : TySz Try.prog 180 1 := mkTySz (by kernel_rfl)
instance : TyBytes Try.prog 180 8 := mkTyBytes (by kernel_rfl)
instance : TyZero Try.prog 180 (.nilFunc) := mkTyZero (by kernel_rfl)
instance : TyS Try.prog 181 := mkTyS (by kernel_rfl) (by kernel_rfl)
instance : TyIface Try.prog 181 false := mkTyIface (by kernel_rfl)
instance : TyFunc Try.prog 181 := mkTyFunc (by kernel_rfl)
instance : TySz Try.prog 181 1 := mkTySz (by kernel_rfl)
instance : TyBytes Try.prog 181 8 := mkTyBytes (by kernel_rfl)
instance : TyZero Try.prog 181 (.nilFunc) := mkTyZero (by kernel_rfl)
instance : TyS Try.prog 182 := mkTyS (by kernel_rfl) (by kernel_rfl)
instance : TyIface Try.prog 182 false := mkTyIface (by kernel_rfl)
instance : TyFunc Try.prog 182 := mkTyFunc (by kernel_rfl)
instance : TySz Try.prog 182 1 := mkTySz (by kernel_rfl)
instance : TyBytes Try.prog 182 8 := mkTyBytes (by kernel_rfl)
instance : TyZero Try.prog 182 (.nilFunc) := mkTyZero (by kernel_rfl)
instance : TyS Try.prog 183 := mkTyS (by kernel_rfl) (by kernel_rfl)
instance : TyIface Try.prog 183 false := mkTyIface (by kernel_rfl)
instance : TyFunc Try.prog 183 := mkTyFunc (by kernel_rfl)
instance : TySz Try.prog 183 1 := mkTySz (by kernel_rfl)
instance : TyBytes Try.prog 183 8 := mkTyBytes (by kernel_rfl)
instance : TyZero Try.prog 183 (.nilFunc) := mkTyZero (by kernel_rfl)
instance : TyS Try.prog 184 := mkTyS (by kernel_rfl) (by kernel_rfl)
instance : TyIface Try.prog 184 false := mkTyIface (by kernel_rfl)
instance : TyFunc Try.prog 184 := mkTyFunc (by kernel_rfl)
instance : TySz Try.prog 184 1 := mkTySz (by kernel_rfl)
instance : TyBytes Try.prog 184 8 := mkTyBytes (by kernel_rfl)
instance : TyZero Try.prog 184 (.nilFunc) := mkTyZero (by kernel_rfl)
instance : TyS Try.prog 185 := mkTyS (by kernel_rfl) (by kernel_rfl)
instance : TyIface Try.prog 185 false := mkTyIface (by kernel_rfl)
instance : TyFunc Try.prog 185 := mkTyFunc (by kernel_rfl)
instance : TySz Try.prog 185 1 := mkTySz (by kernel_rfl)
instance : TyBytes Try.prog 185 8 := mkTyBytes (by kernel_rfl)
instance : TyZero Try.prog 185 (.nilFunc) := mkTyZero (by kernel_rfl)
instance : TyS Try.prog 186 := mkTyS (by kernel_rfl) (by kernel_rfl)
instance : TyIface Try.prog 186 false := mkTyIface (by kernel_rfl)
instance : TyFunc Try.prog 186 := mkTyFunc (by kernel_rfl)
instance : TySz Try.prog 186 1 := mkTySz (by kernel_rfl)
instance : TyBytes Try.prog 186 8 := mkTyBytes (by kernel_rfl)
instance : TyZero Try.prog 186 (.nilFunc) := mkTyZero (by kernel_rfl)
instance : TyS Try.prog 187 := mkTyS (by kernel_rfl) (by kernel_rfl)
instance : TyIface Try.prog 187 false := mkTyIface (by kernel_rfl)
instance : TyFunc Try.prog 187 := mkTyFunc (by kernel_rfl)
instance : TySz Try.prog 187 1 := mkTySz (by kernel_rfl)
instance : TyBytes Try.prog 187 8 := mkTyBytes (by kernel_rfl)
instance : TyZero Try.prog 187 (.nilFunc) := mkTyZero (by kernel_rfl)
instance : TyS Try.prog 189 := mkTyS (by kernel_rfl) (by kernel_rfl)
instance : TyIface Try.prog 189 false := mkTyIface (by kernel_rfl)
instance : TyFunc Try.prog 189 := mkTyFunc (by kernel_rfl)
instance : TySz Try.prog 189 1 := mkTySz (by kernel_rfl)
instance : TyBytes Try.prog 189 8 := mkTyBytes (by kernel_rfl)
instance : TyZero Try.prog 189 (.nilFunc) := mkTyZero (by kernel_rfl)
instance : TyS Try.prog 190 := mkTyS (by kernel_rfl) (by kernel_rfl)
instance : TyIface Try.prog 190 false := mkTyIface (by kernel_rfl)
instance : TyFunc Try.prog 190 := mkTyFunc (by kernel_rfl)
instance : TySz Try.prog 190 1 := mkTySz (by kernel_rfl)
instance : TyBytes Try.prog 190 8 := mkTyBytes (by kernel_rfl)
instance : TyZero Try.prog 190 (.nilFunc) := mkTyZero (by kernel_rfl)
instance : TyS Try.prog 191 := mkTyS (by kernel_rfl) (by kernel_rfl)
instance : TyIface Try.prog 191 false := mkTyIface (by kernel_rfl)
instance : TyFunc Try.prog 191 := mkTyFunc (by kernel_rfl)
instance : TySz Try.prog 191 1 := mkTySz (by kernel_rfl)
instance : TyBytes Try.prog 191 8 := mkTyBytes (by kernel_rfl)
instance : TyZero Try.prog 191 (.nilFunc) := mkTyZero (by kernel_rfl)
instance : TyS Try.prog 192 := mkTyS (by kernel_rfl) (by kernel_rfl)
instance : TyIface Try.prog 192 false := mkTyIface (by kernel_rfl)
instance : TyFunc Try.prog 192 := mkTyFunc (by kernel_rfl)
instance : TySz Try.prog 192 1 := mkTySz (by kernel_rfl)
instance : TyBytes Try.prog 192 8 := mkTyBytes (by kernel_rfl)
instance : TyZero Try.prog 192 (.nilFunc) := mkTyZero (by kernel_rfl)
instance : TyS Try.prog 193 := mkTyS (by kernel_rfl) (by kernel_rfl)
instance : TyIface Try.prog 193 false := mkTyIface (by kernel_rfl)
instance : TyFunc Try.prog 193 := mkTyFunc (by kernel_rfl)
instance : TySz Try.prog 193 1 := mkTySz (by kernel_rfl)
instance : TyBytes Try.prog 193 8 := mkTyBytes (by kernel_rfl)
instance : TyZero Try.prog 193 (.nilFunc) := mkTyZero (by kernel_rfl)
instance : TyS Try.prog 194 := mkTyS (by kernel_rfl) (by kernel_rfl)
instance : TyIface Try.prog 194 false := mkTyIface (by kernel_rfl)
instance : TyFunc Try.prog 194 := mkTyFunc (by kernel_rfl)
instance : TySz Try.prog 194 1 := mkTySz (by kernel_rfl)
instance : TyBytes Try.prog 194 8 := mkTyBytes (by kernel_rfl)
instance : TyZero Try.prog 194 (.nilFunc) := mkTyZero (by kernel_rfl)
instance : TyS Try.prog 195 := mkTyS (by kernel_rfl) (by kernel_rfl)
instance : TyIface Try.prog 195 false := mkTyIface (by kernel_rfl)
instance : TyFunc Try.prog 195 := mkTyFunc (by kernel_rfl)
instance : TySz Try.prog 195 1 := mkTySz (by kernel_rfl)
instance : TyBytes Try.prog 195 8 := mkTyBytes (by kernel_rfl)
instance : TyZero Try.prog 195 (.nilFunc) := mkTyZero (by kernel_rfl)
instance : TyS Try.prog 196 := mkTyS (by kernel_rfl) (by kernel_rfl)
instance : TyIface Try.prog 196 false := mkTyIface (by kernel_rfl)
instance : TyFunc Try.prog 196 := mkTyFunc (by kernel_rfl)
instance : TySz Try.prog 196 1 := mkTySz (by kernel_rfl)
instance : TyBytes Try.prog 196 8 := mkTyBytes (by kernel_rfl)
instance : TyZero Try.prog 196 (.nilFunc) := mkTyZero (by kernel_rfl)
instance : TyS Try.prog 197 := mkTyS (by kernel_rfl) (by kernel_rfl)
instance : TyIface Try.prog 197 false := mkTyIface (by kernel_rfl)
instance : TyFunc Try.prog 197 := mkTyFunc (by kernel_rfl)
instance : TySz Try.prog 197 1 := mkTySz (by kernel_rfl)
instance : TyBytes Try.prog 197 8 := mkTyBytes (by kernel_rfl)
instance : TyZero Try.prog 197 (.nilFunc) := mkTyZero (by kernel_rfl)
instance : TyS Try.prog 198 := mkTyS (by kernel_rfl) (by kernel_rfl)
instance : TyIface Try.prog 198 false := mkTyIface (by kernel_rfl)
instance : TySz Try.prog 198 1 := mkTySz (by kernel_rfl)
instance : TyBytes Try.prog 198 8 := mkTyBytes (by kernel_rfl)
instance : TyZero Try.prog 198 (.pointer none) := mkTyZero (by kernel_rfl)
instance : TyPtr Try.prog 198 208 := ⟨by kernel_rfl⟩
instance : TyS Try.prog 199 := mkTyS (by kernel_rfl) (by kernel_rfl)
instance : TyIface Try.prog 199 false := mkTyIface (by kernel_rfl)
instance : TyFunc Try.prog 199 := mkTyFunc (by kernel_rfl)
instance : TySz Try.prog 199 1 := mkTySz (by kernel_rfl)
instance : TyBytes Try.prog 199 8 := mkTyBytes (by kernel_rfl)
instance : TyZero Try.prog 199 (.nilFunc) := mkTyZero (by kernel_rfl)
instance : TyS Try.prog 201 := mkTyS (by kernel_rfl) (by kernel_rfl)
instance : TyIface Try.prog 201 false := mkTyIface (by kernel_rfl)
instance : TyFunc Try.prog 201 := mkTyFunc (by kernel_rfl)
instance : TySz Try.prog 201 1 := mkTySz (by kernel_rfl)
instance : TyBytes Try.prog 201 8 := mkTyBytes (by kernel_rfl)
instance : TyZero Try.prog 201 (.nilFunc) := mkTyZero (by kernel_rfl)
instance : TyS Try.prog 202 := mkTyS (by kernel_rfl) (by kernel_rfl)
instance : TyIface Try.prog 202 false := mkTyIface (by kernel_rfl)
instance : TyFunc Try.prog 202 := mkTyFunc (by kernel_rfl)
instance : TySz Try.prog 202 1 := mkTySz (by kernel_rfl)
instance : TyBytes Try.prog 202 8 := mkTyBytes (by kernel_rfl)
instance : TyZero Try.prog 202 (.nilFunc) := mkTyZero (by kernel_rfl)
instance : TyS Try.prog 203 := mkTyS (by kernel_rfl) (by kernel_rfl)
instance : TyIface Try.prog 203 false := mkTyIface (by kernel_rfl)
instance : TyFunc Try.prog 203 := mkTyFunc (by kernel_rfl)
instance : TySz Try.prog 203 1 := mkTySz (by kernel_rfl)
instance : TyBytes Try.prog 203 8 := mkTyBytes (by kernel_rfl)
instance : TyZero Try.prog 203 (.nilFunc) := mkTyZero (by kernel_rfl)
instance : TyS Try.prog 204 := mkTyS (by kernel_rfl) (by kernel_rfl)
instance : TyIface Try.prog 204 false := mkTyIface (by kernel_rfl)
instance : TyFunc Try.prog 204 := mkTyFunc (by kernel_rfl)
instance : TySz Try.prog 204 1 := mkTySz (by kernel_rfl)
instance : TyBytes Try.prog 204 8 := mkTyBytes (by kernel_rfl)
instance : TyZero Try.prog 204 (.nilFunc) := mkTyZero (by kernel_rfl)
instance : TyS Try.prog 205 := mkTyS (by kernel_rfl) (by kernel_rfl)
instance : TyIface Try.prog 205 false := mkTyIface (by kernel_rfl)
instance : TyFunc Try.prog 205 := mkTyFunc (by kernel_rfl)
instance : TySz Try.prog 205 1 := mkTySz (by kernel_rfl)
instance : TyBytes Try.prog 205 8 := mkTyBytes (by kernel_rfl)
instance : TyZero Try.prog 205 (.nilFunc) := mkTyZero (by kernel_rfl)
instance : TyS Try.prog 206 := mkTyS (by kernel_rfl) (by kernel_rfl)
instance : TyIface Try.prog 206 false := mkTyIface (by kernel_rfl)
instance : TySz Try.prog 206 1 := mkTySz (by kernel_rfl)
instance : TyBytes Try.prog 206 24 := mkTyBytes (by kernel_rfl)
instance : TyZero Try.prog 206 (.slice none 0 0) := mkTyZero (by kernel_rfl)
instance : TySlice Try.prog 206 5 := ⟨by kernel_rfl⟩
instance : TyA Try.prog 207 2 := mkTyA (by kernel_rfl) (by kernel_rfl)
instance : TyIface Try.prog 207 false := mkTyIface (by kernel_rfl)
instance : TySz Try.prog 207 2 := mkTySz (by kernel_rfl)
instance : TyBytes Try.prog 207 32 := mkTyBytes (by kernel_rfl)
instance : TyZero Try.prog 207 (.agg ⟨[.slice none 0 0, .int .i64 0]⟩) := mkTyZero (by kernel_rfl)
instance : NoGuard Try.prog 207 := ⟨by kernel_rfl⟩
instance : Fld Try.prog 207 0 0 206 := mkFld (by kernel_rfl)
instance : Fld Try.prog 207 1 1 33 := mkFld (by kernel_rfl)
instance : TyPlaces Try.prog 207 (([(0, 1), (1, 1)] : List (Nat × Nat))[·]?) := mkTyPlaces (by kernel_rfl)
instance : TyA Try.prog 208 2 := mkTyA (by kernel_rfl) (by kernel_rfl)
instance : TyIface Try.prog 208 false := mkTyIface (by kernel_rfl)
instance : TySz Try.prog 208 2 := mkTySz (by kernel_rfl)
instance : TyBytes Try.prog 208 32 := mkTyBytes (by kernel_rfl)
instance : TyZero Try.prog 208 (.agg ⟨[.slice none 0 0, .int .i64 0]⟩) := mkTyZero (by kernel_rfl)
instance : NoGuard Try.prog 208 := ⟨by kernel_rfl⟩
instance : TyFlds Try.prog 208 [(0, 206), (1, 33)] := mkTyFlds (by kernel_rfl)
instance : Fld Try.prog 208 0 0 206 := mkFld (by kernel_rfl)
instance : Fld Try.prog 208 1 1 33 := mkFld (by kernel_rfl)
instance : TyPlaces Try.prog 208 (([(0, 1), (1, 1)] : List (Nat × Nat))[·]?) := mkTyPlaces (by kernel_rfl)
instance : TyS Try.prog 209 := mkTyS (by kernel_rfl) (by kernel_rfl)
instance : TyIface Try.prog 209 false := mkTyIface (by kernel_rfl)
instance : TyFunc Try.prog 209 := mkTyFunc (by kernel_rfl)
instance : TySz Try.prog 209 1 := mkTySz (by kernel_rfl)
instance : TyBytes Try.prog 209 8 := mkTyBytes (by kernel_rfl)
instance : TyZero Try.prog 209 (.nilFunc) := mkTyZero (by kernel_rfl)
instance : TyS Try.prog 210 := mkTyS (by kernel_rfl) (by kernel_rfl)
instance : TyIface Try.prog 210 false := mkTyIface (by kernel_rfl)
instance : TySz Try.prog 210 1 := mkTySz (by kernel_rfl)
instance : TyBytes Try.prog 210 8 := mkTyBytes (by kernel_rfl)
instance : TyZero Try.prog 210 (.pointer none) := mkTyZero (by kernel_rfl)
instance : TyPtr Try.prog 210 220 := ⟨by kernel_rfl⟩
instance : TyS Try.prog 211 := mkTyS (by kernel_rfl) (by kernel_rfl)
instance : TyIface Try.prog 211 false := mkTyIface (by kernel_rfl)
instance : TyFunc Try.prog 211 := mkTyFunc (by kernel_rfl)
instance : TySz Try.prog 211 1 := mkTySz (by kernel_rfl)
instance : TyBytes Try.prog 211 8 := mkTyBytes (by kernel_rfl)
instance : TyZero Try.prog 211 (.nilFunc) := mkTyZero (by kernel_rfl)
instance : TyS Try.prog 212 := mkTyS (by kernel_rfl) (by kernel_rfl)
instance : TyIface Try.prog 212 false := mkTyIface (by kernel_rfl)
instance : TyFunc Try.prog 212 := mkTyFunc (by kernel_rfl)
instance : TySz Try.prog 212 1 := mkTySz (by kernel_rfl)
instance : TyBytes Try.prog 212 8 := mkTyBytes (by kernel_rfl)
instance : TyZero Try.prog 212 (.nilFunc) := mkTyZero (by kernel_rfl)
instance : TyS Try.prog 213 := mkTyS (by kernel_rfl) (by kernel_rfl)
instance : TyIface Try.prog 213 false := mkTyIface (by kernel_rfl)
instance : TyFunc Try.prog 213 := mkTyFunc (by kernel_rfl)
instance : TySz Try.prog 213 1 := mkTySz (by kernel_rfl)
instance : TyBytes Try.prog 213 8 := mkTyBytes (by kernel_rfl)
instance : TyZero Try.prog 213 (.nilFunc) := mkTyZero (by kernel_rfl)
instance : TyA Try.prog 214 16 := mkTyA (by kernel_rfl) (by kernel_rfl)
instance : TyIface Try.prog 214 false := mkTyIface (by kernel_rfl)
instance : TySz Try.prog 214 16 := mkTySz (by kernel_rfl)
instance : TyBytes Try.prog 214 64 := mkTyBytes (by kernel_rfl)
instance : TyZero Try.prog 214 (.agg ⟨List.replicate 16 (.int .u32 0)⟩) := mkTyZero (by kernel_rfl)
instance : NoGuard Try.prog 214 := ⟨by kernel_rfl⟩
instance : TyArr Try.prog 214 16 168 := ⟨by kernel_rfl⟩
instance : TyPlaces Try.prog 214 (fun i => some (i * 1, 1)) := mkTyPlacesA (n := 16) (e := 168) (by kernel_rfl) (by kernel_rfl)
instance : TyS Try.prog 215 := mkTyS (by kernel_rfl) (by kernel_rfl)
instance : TyIface Try.prog 215 false := mkTyIface (by kernel_rfl)
instance : TyFunc Try.prog 215 := mkTyFunc (by kernel_rfl)
instance : TySz Try.prog 215 1 := mkTySz (by kernel_rfl)
instance : TyBytes Try.prog 215 8 := mkTyBytes (by kernel_rfl)
instance : TyZero Try.prog 215 (.nilFunc) := mkTyZero (by kernel_rfl)
instance : TyS Try.prog 216 := mkTyS (by kernel_rfl) (by kernel_rfl)
instance : TyIface Try.prog 216 false := mkTyIface (by kernel_rfl)
instance : TyFunc Try.prog 216 := mkTyFunc (by kernel_rfl)
instance : TySz Try.prog 216 1 := mkTySz (by kernel_rfl)
instance : TyBytes Try.prog 216 8 := mkTyBytes (by kernel_rfl)
instance : TyZero Try.prog 216 (.nilFunc) := mkTyZero (by kernel_rfl)
instance : TyS Try.prog 217 := mkTyS (by kernel_rfl) (by kernel_rfl)
instance : TyIface Try.prog 217 false := mkTyIface (by kernel_rfl)
instance : TyFunc Try.prog 217 := mkTyFunc (by kernel_rfl)
instance : TySz Try.prog 217 1 := mkTySz (by kernel_rfl)
instance : TyBytes Try.prog 217 8 := mkTyBytes (by kernel_rfl)
instance : TyZero Try.prog 217 (.nilFunc) := mkTyZero (by kernel_rfl)
instance : TyS Try.prog 218 := mkTyS (by kernel_rfl) (by kernel_rfl)
instance : TyIface Try.prog 218 false := mkTyIface (by kernel_rfl)
instance : TyFunc Try.prog 218 := mkTyFunc (by kernel_rfl)
instance : TySz Try.prog 218 1 := mkTySz (by kernel_rfl)
instance : TyBytes Try.prog 218 8 := mkTyBytes (by kernel_rfl)
instance : TyZero Try.prog 218 (.nilFunc) := mkTyZero (by kernel_rfl)
instance : TyA Try.prog 219 6 := mkTyA (by kernel_rfl) (by kernel_rfl)
instance : TyIface Try.prog 219 false := mkTyIface (by kernel_rfl)
instance : TySz Try.prog 219 6 := mkTySz (by kernel_rfl)
instance : TyBytes Try.prog 219 80 := mkTyBytes (by kernel_rfl)
instance : TyZero Try.prog 219 (.agg ⟨[.pointer none, .int .i64 0, .bool false, .int .i64 0, .slice none 0 0, .slice none 0 0]⟩) := mkTyZero (by kernel_rfl)
instance : NoGuard Try.prog 219 := ⟨by kernel_rfl⟩
instance : Fld Try.prog 219 0 0 198 := mkFld (by kernel_rfl)
instance : Fld Try.prog 219 1 1 3 := mkFld (by kernel_rfl)
instance : Fld Try.prog 219 2 2 4 := mkFld (by kernel_rfl)
instance : Fld Try.prog 219 3 3 76 := mkFld (by kernel_rfl)
instance : TyPlaces Try.prog 219 (([(0, 1), (1, 1), (2, 1), (3, 3)] : List (Nat × Nat))[·]?) := mkTyPlaces (by kernel_rfl)
instance : TyA Try.prog 220 6 := mkTyA (by kernel_rfl) (by kernel_rfl)
instance : TyIface Try.prog 220 false := mkTyIface (by kernel_rfl)
instance : TySz Try.prog 220 6 := mkTySz (by kernel_rfl)
instance : TyBytes Try.prog 220 80 := mkTyBytes (by kernel_rfl)
instance : TyZero Try.prog 220 (.agg ⟨[.pointer none, .int .i64 0, .bool false, .int .i64 0, .slice none 0 0, .slice none 0 0]⟩) := mkTyZero (by kernel_rfl)
instance : NoGuard Try.prog 220 := ⟨by kernel_rfl⟩
instance : TyFlds Try.prog 220 [(0, 198), (1, 3), (2, 4), (3, 76)] := mkTyFlds (by kernel_rfl)
instance : Fld Try.prog 220 0 0 198 := mkFld (by kernel_rfl)
instance : Fld Try.prog 220 1 1 3 := mkFld (by kernel_rfl)
instance : Fld Try.prog 220 2 2 4 := mkFld (by kernel_rfl)
instance : Fld Try.prog 220 3 3 76 := mkFld (by kernel_rfl)
instance : TyPlaces Try.prog 220 (([(0, 1), (1, 1), (2, 1), (3, 3)] : List (Nat × Nat))[·]?) := mkTyPlaces (by kernel_rfl)
instance : TyS Try.prog 221 := mkTyS (by kernel_rfl) (by kernel_rfl)
instance : TyIface Try.prog 221 false := mkTyIface (by kernel_rfl)
instance : TyFunc Try.prog 221 := mkTyFunc (by kernel_rfl)
instance : TySz Try.prog 221 1 := mkTySz (by kernel_rfl)
instance : TyBytes Try.prog 221 8 := mkTyBytes (by kernel_rfl)
instance : TyZero Try.prog 221 (.nilFunc) := mkTyZero (by kernel_rfl)
instance : TyS Try.prog 222 := mkTyS (by kernel_rfl) (by kernel_rfl)
instance : TyIface Try.prog 222 false := mkTyIface (by kernel_rfl)
instance : TyFunc Try.prog 222 := mkTyFunc (by kernel_rfl)
instance : TySz Try.prog 222 1 := mkTySz (by kernel_rfl)
instance : TyBytes Try.prog 222 8 := mkTyBytes (by kernel_rfl)
instance : TyZero Try.prog 222 (.nilFunc) := mkTyZero (by kernel_rfl)
instance : TyS Try.prog 223 := mkTyS (by kernel_rfl) (by kernel_rfl)
instance : TyIface Try.prog 223 false := mkTyIface (by kernel_rfl)
instance : TySz Try.prog 223 1 := mkTySz (by kernel_rfl)
instance : TyBytes Try.prog 223 8 := mkTyBytes (by kernel_rfl)
instance : TyZero Try.prog 223 (.map none) := mkTyZero (by kernel_rfl)
instance : TyMap Try.prog 223 3 1 := ⟨by kernel_rfl⟩
instance : TyS Try.prog 224 := mkTyS (by kernel_rfl) (by kernel_rfl)
instance : TyIface Try.prog 224 false := mkTyIface (by kernel_rfl)
instance : TyFunc Try.prog 224 := mkTyFunc (by kernel_rfl)
instance : TySz Try.prog 224 1 := mkTySz (by kernel_rfl)
instance : TyBytes Try.prog 224 8 := mkTyBytes (by kernel_rfl)
instance : TyZero Try.prog 224 (.nilFunc) := mkTyZero (by kernel_rfl)
instance : TyS Try.prog 225 := mkTyS (by kernel_rfl) (by kernel_rfl)
instance : TyIface Try.prog 225 false := mkTyIface (by kernel_rfl)
instance : TyFunc Try.prog 225 := mkTyFunc (by kernel_rfl)
instance : TySz Try.prog 225 1 := mkTySz (by kernel_rfl)
instance : TyBytes Try.prog 225 8 := mkTyBytes (by kernel_rfl)
instance : TyZero Try.prog 225 (.nilFunc) := mkTyZero (by kernel_rfl)
instance : TyS Try.prog 226 := mkTyS (by kernel_rfl) (by kernel_rfl)
instance : TyIface Try.prog 226 false := mkTyIface (by kernel_rfl)
instance : TyFunc Try.prog 226 := mkTyFunc (by kernel_rfl)
instance : TySz Try.prog 226 1 := mkTySz (by kernel_rfl)
instance : TyBytes Try.prog 226 8 := mkTyBytes (by kernel_rfl)
instance : TyZero Try.prog 226 (.nilFunc) := mkTyZero (by kernel_rfl)
instance : TyS Try.prog 227 := mkTyS (by kernel_rfl) (by kernel_rfl)
instance : TyIface Try.prog 227 false := mkTyIface (by kernel_rfl)
instance : TyFunc Try.prog 227 := mkTyFunc (by kernel_rfl)
instance : TySz Try.prog 227 1 := mkTySz (by kernel_rfl)
instance : TyBytes Try.prog 227 8 := mkTyBytes (by kernel_rfl)
instance : TyZero Try.prog 227 (.nilFunc) := mkTyZero (by kernel_rfl)
instance : TyS Try.prog 228 := mkTyS (by kernel_rfl) (by kernel_rfl)
instance : TyIface Try.prog 228 false := mkTyIface (by kernel_rfl)
instance : TyFunc Try.prog 228 := mkTyFunc (by kernel_rfl)
instance : TySz Try.prog 228 1 := mkTySz (by kernel_rfl)
instance : TyBytes Try.prog 228 8 := mkTyBytes (by kernel_rfl)
instance : TyZero Try.prog 228 (.nilFunc) := mkTyZero (by kernel_rfl)
instance : TyS Try.prog 229 := mkTyS (by kernel_rfl) (by kernel_rfl)
instance : TyIface Try.prog 229 false := mkTyIface (by kernel_rfl)
instance : TyFunc Try.prog 229 := mkTyFunc (by kernel_rfl)
instance : TySz Try.prog 229 1 := mkTySz (by kernel_rfl)
instance : TyBytes Try.prog 229 8 := mkTyBytes (by kernel_rfl)
instance : TyZero Try.prog 229 (.nilFunc) := mkTyZero (by kernel_rfl)
instance : TyS Try.prog 230 := mkTyS (by kernel_rfl) (by kernel_rfl)
instance : TyIface Try.prog 230 false := mkTyIface (by kernel_rfl)
instance : TyFunc Try.prog 230 := mkTyFunc (by kernel_rfl)
instance : TySz Try.prog 230 1 := mkTySz (by kernel_rfl)
instance : TyBytes Try.prog 230 8 := mkTyBytes (by kernel_rfl)
instance : TyZero Try.prog 230 (.nilFunc) := mkTyZero (by kernel_rfl)
instance : TyA Try.prog 231 4 := mkTyA (by kernel_rfl) (by kernel_rfl)
instance : TyIface Try.prog 231 false := mkTyIface (by kernel_rfl)
instance : TySz Try.prog 231 4 := mkTySz (by kernel_rfl)
instance : TyBytes Try.prog 231 40 := mkTyBytes (by kernel_rfl)
instance : TyZero Try.prog 231 (.agg ⟨[.pointer none, .pointer none, .pointer none, .string ⟨⟨[]⟩⟩]⟩) := mkTyZero (by kernel_rfl)
instance : NoGuard Try.prog 231 := ⟨by kernel_rfl⟩
instance : Fld Try.prog 231 0 0 17 := mkFld (by kernel_rfl)
instance : Fld Try.prog 231 1 1 17 := mkFld (by kernel_rfl)
instance : Fld Try.prog 231 2 2 17 := mkFld (by kernel_rfl)
instance : Fld Try.prog 231 3 3 9 := mkFld (by kernel_rfl)
instance : TyPlaces Try.prog 231 (([(0, 1), (1, 1), (2, 1), (3, 1)] : List (Nat × Nat))[·]?) := mkTyPlaces (by kernel_rfl)
instance : TyS Try.prog 238 := mkTyS (by kernel_rfl) (by kernel_rfl)
instance : TyIface Try.prog 238 false := mkTyIface (by kernel_rfl)
instance : TyFunc Try.prog 238 := mkTyFunc (by kernel_rfl)
instance : TySz Try.prog 238 1 := mkTySz (by kernel_rfl)
instance : TyBytes Try.prog 238 8 := mkTyBytes (by kernel_rfl)
instance : TyZero Try.prog 238 (.nilFunc) := mkTyZero (by kernel_rfl)
instance : TyS Try.prog 239 := mkTyS (by kernel_rfl) (by kernel_rfl)
instance : TyIface Try.prog 239 false := mkTyIface (by kernel_rfl)
instance : TySz Try.prog 239 1 := mkTySz (by kernel_rfl)
instance : TyBytes Try.prog 239 8 := mkTyBytes (by kernel_rfl)
instance : TyZero Try.prog 239 (.pointer none) := mkTyZero (by kernel_rfl)
instance : TyPtr Try.prog 239 5 := ⟨by kernel_rfl⟩
instance : TyA Try.prog 242 11 := mkTyA (by kernel_rfl) (by kernel_rfl)
instance : TyIface Try.prog 242 false := mkTyIface (by kernel_rfl)
instance : TySz Try.prog 242 11 := mkTySz (by kernel_rfl)
instance : TyBytes Try.prog 242 48 := mkTyBytes (by kernel_rfl)
instance : TyZero Try.prog 242 (.agg ⟨[.int .u64 0, .int .u64 0, .int .u32 0, .int .u8 0, .int .u8 0, .int .u8 0, .int .u8 0, .nilFunc, .pointer none, .int .i32 0, .int .i32 0]⟩) := mkTyZero (by kernel_rfl)
instance : NoGuard Try.prog 242 := ⟨by kernel_rfl⟩
instance : Fld Try.prog 242 0 0 12 := mkFld (by kernel_rfl)
instance : Fld Try.prog 242 1 1 12 := mkFld (by kernel_rfl)
instance : Fld Try.prog 242 2 2 168 := mkFld (by kernel_rfl)
instance : Fld Try.prog 242 3 3 236 := mkFld (by kernel_rfl)
instance : Fld Try.prog 242 4 4 5 := mkFld (by kernel_rfl)
instance : Fld Try.prog 242 5 5 5 := mkFld (by kernel_rfl)
instance : Fld Try.prog 242 6 6 237 := mkFld (by kernel_rfl)
instance : Fld Try.prog 242 7 7 238 := mkFld (by kernel_rfl)
instance : Fld Try.prog 242 8 8 239 := mkFld (by kernel_rfl)
instance : Fld Try.prog 242 9 9 240 := mkFld (by kernel_rfl)
instance : Fld Try.prog 242 10 10 241 := mkFld (by kernel_rfl)
instance : TyPlaces Try.prog 242 (([(0, 1), (1, 1), (2, 1), (3, 1), (4, 1), (5, 1), (6, 1), (7, 1), (8, 1), (9, 1), (10, 1)] : List (Nat × Nat))[·]?) := mkTyPlaces (by kernel_rfl)
instance : Fun Try.prog 3 := mkFun (by kernel_rfl)
instance : Fun Try.prog 4 := mkFun (by kernel_rfl)
instance : Fun Try.prog 5 := mkFun (by kernel_rfl)
instance : Fun Try.prog 6 := mkFun (by kernel_rfl)
instance : Fun Try.prog 7 := mkFun (by kernel_rfl)
instance : Fun Try.prog 8 := mkFun (by kernel_rfl)
instance : Fun Try.prog 9 := mkFun (by kernel_rfl)
instance : Fun Try.prog 10 := mkFun (by kernel_rfl)
instance : Fun Try.prog 11 := mkFun (by kernel_rfl)
instance : Fun Try.prog 12 := mkFun (by kernel_rfl)
instance : Fun Try.prog 13 := mkFun (by kernel_rfl)
instance : Fun Try.prog 14 := mkFun (by kernel_rfl)
instance : Fun Try.prog 15 := mkFun (by kernel_rfl)
instance : Fun Try.prog 16 := mkFun (by kernel_rfl)
instance : Fun Try.prog 17 := mkFun (by kernel_rfl)
instance : Fun Try.prog 18 := mkFun (by kernel_rfl)
instance : Fun Try.prog 19 := mkFun (by kernel_rfl)
instance : Fun Try.prog 20 := mkFun (by kernel_rfl)
instance : Fun Try.prog 21 := mkFun (by kernel_rfl)
instance : Fun Try.prog 22 := mkFun (by kernel_rfl)
instance : Fun Try.prog 23 := mkFun (by kernel_rfl)
instance : Fun Try.prog 24 := mkFun (by kernel_rfl)
instance : Fun Try.prog 25 := mkFun (by kernel_rfl)
instance : Fun Try.prog 26 := mkFun (by kernel_rfl)
instance : Fun Try.prog 27 := mkFun (by kernel_rfl)
instance : Fun Try.prog 28 := mkFun (by kernel_rfl)
instance : Fun Try.prog 29 := mkFun (by kernel_rfl)
instance : Fun Try.prog 30 := mkFun (by kernel_rfl)
instance : Fun Try.prog 31 := mkFun (by kernel_rfl)
instance : Fun Try.prog 32 := mkFun (by kernel_rfl)
instance : Fun Try.prog 33 := mkFun (by kernel_rfl)
instance : Fun Try.prog 34 := mkFun (by kernel_rfl)
instance : Fun Try.prog 35 := mkFun (by kernel_rfl)
instance : Fun Try.prog 36 := mkFun (by kernel_rfl)
instance : Fun Try.prog 37 := mkFun (by kernel_rfl)
instance : Fun Try.prog 38 := mkFun (by kernel_rfl)
instance : Fun Try.prog 39 := mkFun (by kernel_rfl)
instance : Fun Try.prog 40 := mkFun (by kernel_rfl)
instance : Fun Try.prog 41 := mkFun (by kernel_rfl)
instance : Fun Try.prog 42 := mkFun (by kernel_rfl)
instance : Fun Try.prog 43 := mkFun (by kernel_rfl)
instance : Fun Try.prog 44 := mkFun (by kernel_rfl)
instance : Fun Try.prog 45 := mkFun (by kernel_rfl)
instance : Fun Try.prog 46 := mkFun (by kernel_rfl)
instance : Fun Try.prog 47 := mkFun (by kernel_rfl)
instance : Fun Try.prog 48 := mkFun (by kernel_rfl)
instance : Fun Try.prog 49 := mkFun (by kernel_rfl)
instance : Fun Try.prog 50 := mkFun (by kernel_rfl)
instance : Fun Try.prog 51 := mkFun (by kernel_rfl)
instance : Fun Try.prog 52 := mkFun (by kernel_rfl)
instance : Fun Try.prog 53 := mkFun (by kernel_rfl)
instance : Fun Try.prog 54 := mkFun (by kernel_rfl)
instance : Fun Try.prog 55 := mkFun (by kernel_rfl)
instance : Fun Try.prog 56 := mkFun (by kernel_rfl)
instance : Fun Try.prog 57 := mkFun (by kernel_rfl)
instance : Fun Try.prog 58 := mkFun (by kernel_rfl)
instance : Fun Try.prog 59 := mkFun (by kernel_rfl)
instance : Fun Try.prog 60 := mkFun (by kernel_rfl)
instance : Fun Try.prog 61 := mkFun (by kernel_rfl)
instance : Fun Try.prog 62 := mkFun (by kernel_rfl)
instance : Fun Try.prog 63 := mkFun (by kernel_rfl)
instance : Fun Try.prog 64 := mkFun (by kernel_rfl)
instance : Fun Try.prog 65 := mkFun (by kernel_rfl)
instance : Fun Try.prog 66 := mkFun (by kernel_rfl)
instance : Fun Try.prog 67 := mkFun (by kernel_rfl)
instance : Fun Try.prog 68 := mkFun (by kernel_rfl)
instance : Fun Try.prog 69 := mkFun (by kernel_rfl)
instance : Fun Try.prog 70 := mkFun (by kernel_rfl)
instance : Fun Try.prog 71 := mkFun (by kernel_rfl)
instance : Fun Try.prog 72 := mkFun (by kernel_rfl)
instance : Fun Try.prog 73 := mkFun (by kernel_rfl)
instance : Fun Try.prog 74 := mkFun (by kernel_rfl)
instance : Fun Try.prog 75 := mkFun (by kernel_rfl)
instance : Fun Try.prog 76 := mkFun (by kernel_rfl)
instance : Fun Try.prog 77 := mkFun (by kernel_rfl)
instance : Fun Try.prog 78 := mkFun (by kernel_rfl)
instance : Fun Try.prog 79 := mkFun (by kernel_rfl)
instance : Fun Try.prog 80 := mkFun (by kernel_rfl)
instance : Fun Try.prog 81 := mkFun (by kernel_rfl)
instance : Fun Try.prog 82 := mkFun (by kernel_rfl)
instance : Fun Try.prog 83 := mkFun (by kernel_rfl)
instance : Fun Try.prog 84 := mkFun (by kernel_rfl)
instance : Fun Try.prog 85 := mkFun (by kernel_rfl)
instance : Fun Try.prog 86 := mkFun (by kernel_rfl)
instance : Fun Try.prog 87 := mkFun (by kernel_rfl)
instance : Fun Try.prog 88 := mkFun (by kernel_rfl)
instance : Fun Try.prog 89 := mkFun (by kernel_rfl)
instance : Fun Try.prog 90 := mkFun (by kernel_rfl)
instance : Fun Try.prog 91 := mkFun (by kernel_rfl)
instance : Fun Try.prog 92 := mkFun (by kernel_rfl)
instance : Fun Try.prog 93 := mkFun (by kernel_rfl)
instance : Fun Try.prog 94 := mkFun (by kernel_rfl)
instance : Fun Try.prog 95 := mkFun (by kernel_rfl)
instance : Fun Try.prog 96 := mkFun (by kernel_rfl)
instance : Fun Try.prog 97 := mkFun (by kernel_rfl)
instance : Fun Try.prog 98 := mkFun (by kernel_rfl)
instance : Fun Try.prog 99 := mkFun (by kernel_rfl)
instance : Fun Try.prog 100 := mkFun (by kernel_rfl)
instance : Fun Try.prog 101 := mkFun (by kernel_rfl)
instance : Fun Try.prog 102 := mkFun (by kernel_rfl)
instance : Fun Try.prog 103 := mkFun (by kernel_rfl)
instance : Fun Try.prog 104 := mkFun (by kernel_rfl)
instance : Fun Try.prog 105 := mkFun (by kernel_rfl)
instance : Fun Try.prog 106 := mkFun (by kernel_rfl)
instance : Fun Try.prog 108 := mkFun (by kernel_rfl)
instance : Fun Try.prog 109 := mkFun (by kernel_rfl)
instance : Fun Try.prog 110 := mkFun (by kernel_rfl)
instance : Fun Try.prog 111 := mkFun (by kernel_rfl)
instance : Fun Try.prog 112 := mkFun (by kernel_rfl)
instance : Fun Try.prog 113 := mkFun (by kernel_rfl)
instance : Fun Try.prog 114 := mkFun (by kernel_rfl)
instance : Fun Try.prog 115 := mkFun (by kernel_rfl)
instance : Fun Try.prog 116 := mkFun (by kernel_rfl)
instance : Fun Try.prog 117 := mkFun (by kernel_rfl)
instance : Fun Try.prog 118 := mkFun (by kernel_rfl)
instance : Fun Try.prog 119 := mkFun (by kernel_rfl)
instance : Fun Try.prog 120 := mkFun (by kernel_rfl)
instance : Fun Try.prog 121 := mkFun (by kernel_rfl)
instance : Fun Try.prog 122 := mkFun (by kernel_rfl)
instance : Fun Try.prog 123 := mkFun (by kernel_rfl)
instance : Fun Try.prog 124 := mkFun (by kernel_rfl)
instance : Fun Try.prog 125 := mkFun (by kernel_rfl)
instance : Fun Try.prog 126 := mkFun (by kernel_rfl)
instance : Fun Try.prog 127 := mkFun (by kernel_rfl)
instance : Fun Try.prog 128 := mkFun (by kernel_rfl)
instance : Fun Try.prog 129 := mkFun (by kernel_rfl)
instance : Fun Try.prog 130 := mkFun (by kernel_rfl)
instance : Fun Try.prog 131 := mkFun (by kernel_rfl)
instance : Fun Try.prog 132 := mkFun (by kernel_rfl)
instance : Fun Try.prog 133 := mkFun (by kernel_rfl)
instance : Fun Try.prog 134 := mkFun (by kernel_rfl)
instance : Fun Try.prog 135 := mkFun (by kernel_rfl)
instance : Fun Try.prog 136 := mkFun (by kernel_rfl)
instance : Fun Try.prog 137 := mkFun (by kernel_rfl)
instance : Fun Try.prog 138 := mkFun (by kernel_rfl)
instance : Fun Try.prog 139 := mkFun (by kernel_rfl)
instance : Fun Try.prog 140 := mkFun (by kernel_rfl)
instance : Fun Try.prog 141 := mkFun (by kernel_rfl)
instance : Fun Try.prog 142 := mkFun (by kernel_rfl)
instance : Fun Try.prog 143 := mkFun (by kernel_rfl)
instance : Fun Try.prog 144 := mkFun (by kernel_rfl)
instance : Fun Try.prog 145 := mkFun (by kernel_rfl)
instance : Fun Try.prog 146 := mkFun (by kernel_rfl)
instance : Fun Try.prog 147 := mkFun (by kernel_rfl)
instance : Fun Try.prog 148 := mkFun (by kernel_rfl)
instance : Fun Try.prog 149 := mkFun (by kernel_rfl)
instance : Fun Try.prog 150 := mkFun (by kernel_rfl)
instance : Fun Try.prog 151 := mkFun (by kernel_rfl)
instance : Fun Try.prog 152 := mkFun (by kernel_rfl)
instance : Fun Try.prog 153 := mkFun (by kernel_rfl)
instance : Fun Try.prog 154 := mkFun (by kernel_rfl)
instance : Fun Try.prog 155 := mkFun (by kernel_rfl)
instance : Fun Try.prog 156 := mkFun (by kernel_rfl)
instance : Fun Try.prog 157 := mkFun (by kernel_rfl)
instance : Fun Try.prog 158 := mkFun (by kernel_rfl)
instance : Fun Try.prog 159 := mkFun (by kernel_rfl)
instance : Fun Try.prog 160 := mkFun (by kernel_rfl)
instance : Fun Try.prog 161 := mkFun (by kernel_rfl)
instance : Fun Try.prog 162 := mkFun (by kernel_rfl)
instance : Fun Try.prog 163 := mkFun (by kernel_rfl)
instance : Fun Try.prog 164 := mkFun (by kernel_rfl)
instance : Fun Try.prog 165 := mkFun (by kernel_rfl)
instance : Fun Try.prog 166 := mkFun (by kernel_rfl)
instance : Fun Try.prog 167 := mkFun (by kernel_rfl)
instance : Fun Try.prog 168 := mkFun (by kernel_rfl)
instance : Fun Try.prog 169 := mkFun (by kernel_rfl)
instance : Fun Try.prog 170 := mkFun (by kernel_rfl)
instance : Fun Try.prog 171 := mkFun (by kernel_rfl)
instance : Fun Try.prog 172 := mkFun (by kernel_rfl)
instance : Fun Try.prog 173 := mkFun (by kernel_rfl)
instance : Mixed Try.prog := ⟨by kernel_rfl⟩
end Go.Proofs.E

