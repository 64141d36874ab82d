/- The disk of layer 2 as a model, and what its functions come to. Part 2 of 3. -/
import Derived.Test.YthbgnmilbgecfaaB1
import Derived.Test.YthbgnmilbgecfaaChecked
import Derived.KernelRfl
namespace Go.Proofs.E
open Go
set_option linter.unusedVariables false
set_option linter.unusedSimpArgs false

section
variable {x : Cx} {Q : Exit → Act → World → Prop} {E : Env} {ρ : Hp} {L : SH} {ops : Array Oper} {rest tail : List Oper} {ty : TypeId} {pos : String} {af : Array Edge} {S : World → Prop} {l : List Oper} {listed : List Bool} {fuel : Nat}
theorem tl_undef {d : Nat} {op : Op} {j : Nat} {c : Bool} (hy : ∀ a, Ok x.D x.N E a → yielded ops a.tmps j = none) (hd : Nat.blt d x.N = true)
    (k : TL x ops rest Q ((d, undef) :: E) ρ L) : TL x ops (⟨some d, op, ty, pos, af, some (j, c)⟩ :: rest) Q E ρ L := fun a w ha hw => by
  simp only [wpListIn, Region.wanted, hy a ha]
  exact ⟨fun _ _ => trivial, k _ _ (ha.put (Nat.le_of_ble_eq_true hd) undef) hw⟩
theorem ts_undef {d : Nat} {op : Op} {j : Nat} {c : Bool} (hy : ∀ a, Ok x.D x.N E a → yielded ops a.tmps j = none) (hd : Nat.blt d x.N = true)
    (k : TS x ops rest tail Q ((d, undef) :: E) ρ L) : TS x ops (⟨some d, op, ty, pos, af, some (j, c)⟩ :: rest) tail Q E ρ L := fun a w ha hw => by
  simp only [wpStill, Region.wanted, hy a ha]
  exact k _ _ (ha.put (Nat.le_of_ble_eq_true hd) undef) hw
theorem tr_undef (i : Nat) {d : Nat} {op : Op} {j : Nat} {c : Bool} (hb : takeB l listed i = true) (hi : l[i]? = some ⟨some d, op, ty, pos, af, some (j, c)⟩) (hy : ∀ a, Ok x.D x.N E a → yielded l.toArray a.tmps j = none)
    (hd : Nat.blt d x.N = true)
    (k : TR x l S fuel (lset listed i) Q ((d, undef) :: E) ρ L) : TR x l S (fuel + 1) listed Q E ρ L := fun a w ha hw hS => by
  simp only [takeB, Bool.and_eq_true] at hb
  obtain ⟨⟨⟨h1, h2⟩, h3⟩, h4⟩ := hb
  have hi' : l.toArray[i]? = some ⟨some d, op, ty, pos, af, some (j, c)⟩ := by simpa using hi
  have hne : ((none : Option Bool) == some c) = false := by cases c <;> rfl
  refine wpAnyG_first (v := undef) h2 hi' (Region.noSelect_spec h1) (fun _ _ _ h => h) fuel _ a w (Region.free_spec hi' h3) (by simpa using h4) (.inr ⟨by simp only [Region.wanted, hy a ha, hne], rfl⟩) hS ?_
  have := k _ w (ha.put (Nat.le_of_ble_eq_true hd) undef) hw hS
  rw [lset_eq] at this
  simpa using this
end
attribute [local irreducible] Yl TL TC TE Spec YSpec R1 Hp.le EnvLe TS TR YS Stays

theorem cmpB_ne_self {m : Int} : cmpB .neq m m = some false := by simp [cmpB]
theorem cmpB_eq_self {m : Int} : cmpB .eql m m = some true := by simp [cmpB]
theorem eqB_self_eql (l : List UInt8) : eqB .eql (l == l) = some true := by simp [eqB]
theorem eqB_self_neq (l : List UInt8) : eqB .neq (l == l) = some false := by simp [eqB]
theorem eqB_ne_eql {l m : List UInt8} (h : l ≠ m) : eqB .eql (l == m) = some false := by simp [eqB, h]
theorem eqB_ne_neq {l m : List UInt8} (h : l ≠ m) : eqB .neq (l == m) = some true := by simp [eqB, h]
section
variable {x : Cx} {E : Env} {ρ : Hp} {L : SH} {ty : TypeId}
theorem y_eqs {p q : Operand} {t t' n e : Nat} {l : List UInt8} [hA : TyArr x.P t n e] [hE : TyInt x.P e .u8] [hz : TySz x.P e 1] [hG : NoGuard x.P t] (h1 : ev E p = some (.agg ⟨l.map u8c⟩)) (h2 : ev E q = some (.agg ⟨l.map u8c⟩)) (hl : l.length = n) : Yl x (.binOp .eql t p q t') ty E ρ L (.bool true) := y_eq_bytes h1 h2 hl hl (eqB_self_eql l)
theorem y_nes {p q : Operand} {t t' n e : Nat} {l : List UInt8} [hA : TyArr x.P t n e] [hE : TyInt x.P e .u8] [hz : TySz x.P e 1] [hG : NoGuard x.P t] (h1 : ev E p = some (.agg ⟨l.map u8c⟩)) (h2 : ev E q = some (.agg ⟨l.map u8c⟩)) (hl : l.length = n) : Yl x (.binOp .neq t p q t') ty E ρ L (.bool false) := y_eq_bytes h1 h2 hl hl (eqB_self_neq l)
theorem y_eqd {p q : Operand} {t t' n e : Nat} {l m : List UInt8} [hA : TyArr x.P t n e] [hE : TyInt x.P e .u8] [hz : TySz x.P e 1] [hG : NoGuard x.P t] (h1 : ev E p = some (.agg ⟨l.map u8c⟩)) (h2 : ev E q = some (.agg ⟨m.map u8c⟩)) (hl : l.length = n) (hm : m.length = n) (h : l ≠ m) : Yl x (.binOp .eql t p q t') ty E ρ L (.bool false) := y_eq_bytes h1 h2 hl hm (eqB_ne_eql h)
theorem y_ned {p q : Operand} {t t' n e : Nat} {l m : List UInt8} [hA : TyArr x.P t n e] [hE : TyInt x.P e .u8] [hz : TySz x.P e 1] [hG : NoGuard x.P t] (h1 : ev E p = some (.agg ⟨l.map u8c⟩)) (h2 : ev E q = some (.agg ⟨m.map u8c⟩)) (hl : l.length = n) (hm : m.length = n) (h : l ≠ m) : Yl x (.binOp .neq t p q t') ty E ρ L (.bool true) := y_eq_bytes h1 h2 hl hm (eqB_ne_neq h)
end
/-! ## steps whose proofs are found; `i..` asks which step it is, `q..` takes it, `r..` takes it in a region of any order, `s..` in a drawn head -/
theorem tk {L Lf R : SH} (h : Take L Lf R := by repeat (first | exact take_nil' | exact take_app' | exact rem_here' | exact rem_nil' | apply take_cons' | apply rem_there' | apply rem_app' | exact take_all' | apply take_skip')) : Take L Lf R := h
theorem ev_le {E' E : Env} (h : EnvLe E' E := by repeat (first | exact EnvLe.nil _ | refine EnvLe.cons rfl ?_)) : EnvLe E' E := h
section
variable {x : Cx} {Q : Exit → Act → World → Prop} {E : Env} {ρ ρ0 : Hp} {L Ls : SH} {ops : Array Oper} {rest : List Oper} {ty : TypeId} {pos : String} {af : Array Edge} {d : Nat} {v : Value} {dd : Option Nat} {gd : Nat × Bool} {op : Op} {l : List Oper} {listed : List Bool} {fuel : Nat} {tail : List Oper}
theorem i_gd (h : TL x ops (⟨dd, op, ty, pos, af, some gd⟩ :: rest) Q E ρ L) : TL x ops (⟨dd, op, ty, pos, af, some gd⟩ :: rest) Q E ρ L := h
theorem i_op {o : Oper} (h : TL x ops (o :: rest) Q E ρ L) : TL x ops (o :: rest) Q E ρ L := h
theorem i_cond {c : Operand} {y z : Code} (h : TC x (.cond c y z) Q E ρ L) : TC x (.cond c y z) Q E ρ L := h
theorem i_miss {id id' : Nat} (h : TE x (.exit id') (Exit.inBlock id Q) E ρ L) : TE x (.exit id') (Exit.inBlock id Q) E ρ L := h
theorem j_gd (h : TS x ops (⟨dd, op, ty, pos, af, some gd⟩ :: rest) tail Q E ρ L) : TS x ops (⟨dd, op, ty, pos, af, some gd⟩ :: rest) tail Q E ρ L := h

theorem iMv {o : Operand} (h : TL x ops (⟨dd, .move o, ty, pos, af, none⟩ :: rest) Q E ρ L) : TL x ops (⟨dd, .move o, ty, pos, af, none⟩ :: rest) Q E ρ L := h
theorem qMv {o : Operand} (k : TL x ops rest Q ((d, v) :: E) ρ L) (y : Yl x (.move o) ty E ρ L v := by first | exact y_move rfl) (hd : Nat.blt d x.N = true := by rfl) : TL x ops (⟨some d, .move o, ty, pos, af, none⟩ :: rest) Q E ρ L := tl_y y hd rfl k
theorem jMv {o : Operand} (h : TS x ops (⟨dd, .move o, ty, pos, af, none⟩ :: rest) tail Q E ρ L) : TS x ops (⟨dd, .move o, ty, pos, af, none⟩ :: rest) tail Q E ρ L := h
theorem sMv {o : Operand} (k : TS x ops rest tail Q ((d, v) :: E) ρ L) (y : Yl x (.move o) ty E ρ L v := by first | exact y_move rfl) (hd : Nat.blt d x.N = true := by rfl) : TS x ops (⟨some d, .move o, ty, pos, af, none⟩ :: rest) tail Q E ρ L := ts_y y hd k
theorem rMv (n0 : Nat) {o : Operand} (k : TR x l (Stays x ρ0 Ls) fuel (lset listed n0) Q ((d, v) :: E) ρ L) (hb : takeB l listed n0 = true := by decide +kernel) (hi : l[n0]? = some ⟨some d, .move o, ty, pos, af, none⟩ := by rfl) (y : ∀ ρ', ρ0.le ρ' → Yl x (.move o) ty E ρ' Ls v := by intro _ _; first | exact y_move rfl) (hd : Nat.blt d x.N = true := by rfl) : TR x l (Stays x ρ0 Ls) (fuel + 1) listed Q E ρ L := tr_take n0 hb hi (ys_of' (fun _ h => h) y) hd k
theorem wMv (n0 : Nat) {o : Operand} {j t0 : Nat} {b0 : Bool} (k : TR x l (Stays x ρ0 Ls) fuel (lset listed n0) Q ((d, v) :: E) ρ L) (hb : takeB l listed n0 = true := by decide +kernel) (hi : l[n0]? = some ⟨some d, .move o, ty, pos, af, some (j, b0)⟩ := by rfl) (hj : (l[j]?).bind (·.dst) = some t0 := by rfl) (he : lk E t0 = some (.bool b0) := by rfl) (y : ∀ ρ', ρ0.le ρ' → Yl x (.move o) ty E ρ' Ls v := by intro _ _; first | exact y_move rfl) (hd : Nat.blt d x.N = true := by rfl) : TR x l (Stays x ρ0 Ls) (fuel + 1) listed Q E ρ L := tr_want n0 hb hi hj he (ys_of' (fun _ h => h) y) hd k
theorem iLd {o : Operand} {t : Nat} (h : TL x ops (⟨dd, .load t o, ty, pos, af, none⟩ :: rest) Q E ρ L) : TL x ops (⟨dd, .load t o, ty, pos, af, none⟩ :: rest) Q E ρ L := h
theorem qLd {o : Operand} {t : Nat} (k : TL x ops rest Q ((d, v) :: E) ρ L) (y : Yl x (.load t o) ty E ρ L v := by first | exact y_load_s rfl (by first | assumption | rfl) | exact y_load_a rfl (by first | assumption | rfl) | exact y_load_part rfl (by first | assumption | omega) (by assumption) | exact y_load_is rfl (by assumption) (by first | assumption | rfl) | exact y_load_ipart rfl (by assumption) (by first | assumption | omega) (by assumption) | exact y_load_is rfl (hp_get (by assumption) (by assumption)) (by first | assumption | rfl) | exact y_load_ipart rfl (hp_get (by assumption) (by assumption)) (by first | assumption | omega) (by assumption)) (hd : Nat.blt d x.N = true := by rfl) : TL x ops (⟨some d, .load t o, ty, pos, af, none⟩ :: rest) Q E ρ L := tl_y y hd rfl k
theorem jLd {o : Operand} {t : Nat} (h : TS x ops (⟨dd, .load t o, ty, pos, af, none⟩ :: rest) tail Q E ρ L) : TS x ops (⟨dd, .load t o, ty, pos, af, none⟩ :: rest) tail Q E ρ L := h
theorem sLd {o : Operand} {t : Nat} (k : TS x ops rest tail Q ((d, v) :: E) ρ L) (y : Yl x (.load t o) ty E ρ L v := by first | exact y_load_s rfl (by first | assumption | rfl) | exact y_load_a rfl (by first | assumption | rfl) | exact y_load_part rfl (by first | assumption | omega) (by assumption) | exact y_load_is rfl (by assumption) (by first | assumption | rfl) | exact y_load_ipart rfl (by assumption) (by first | assumption | omega) (by assumption) | exact y_load_is rfl (hp_get (by assumption) (by assumption)) (by first | assumption | rfl) | exact y_load_ipart rfl (hp_get (by assumption) (by assumption)) (by first | assumption | omega) (by assumption)) (hd : Nat.blt d x.N = true := by rfl) : TS x ops (⟨some d, .load t o, ty, pos, af, none⟩ :: rest) tail Q E ρ L := ts_y y hd k
theorem rLd (n0 : Nat) {o : Operand} {t : Nat} (k : TR x l (Stays x ρ0 Ls) fuel (lset listed n0) Q ((d, v) :: E) ρ L) (hb : takeB l listed n0 = true := by decide +kernel) (hi : l[n0]? = some ⟨some d, .load t o, ty, pos, af, none⟩ := by rfl) (y : ∀ ρ', ρ0.le ρ' → Yl x (.load t o) ty E ρ' Ls v := by intro _ _; first | exact y_load_s rfl (by first | assumption | rfl) | exact y_load_a rfl (by first | assumption | rfl) | exact y_load_part rfl (by first | assumption | omega) (by assumption) | exact y_load_is rfl (by assumption) (by first | assumption | rfl) | exact y_load_ipart rfl (by assumption) (by first | assumption | omega) (by assumption) | exact y_load_is rfl (hp_get (by assumption) (by assumption)) (by first | assumption | rfl) | exact y_load_ipart rfl (hp_get (by assumption) (by assumption)) (by first | assumption | omega) (by assumption)) (hd : Nat.blt d x.N = true := by rfl) : TR x l (Stays x ρ0 Ls) (fuel + 1) listed Q E ρ L := tr_take n0 hb hi (ys_of' (fun _ h => h) y) hd k
theorem wLd (n0 : Nat) {o : Operand} {t : Nat} {j t0 : Nat} {b0 : Bool} (k : TR x l (Stays x ρ0 Ls) fuel (lset listed n0) Q ((d, v) :: E) ρ L) (hb : takeB l listed n0 = true := by decide +kernel) (hi : l[n0]? = some ⟨some d, .load t o, ty, pos, af, some (j, b0)⟩ := by rfl) (hj : (l[j]?).bind (·.dst) = some t0 := by rfl) (he : lk E t0 = some (.bool b0) := by rfl) (y : ∀ ρ', ρ0.le ρ' → Yl x (.load t o) ty E ρ' Ls v := by intro _ _; first | exact y_load_s rfl (by first | assumption | rfl) | exact y_load_a rfl (by first | assumption | rfl) | exact y_load_part rfl (by first | assumption | omega) (by assumption) | exact y_load_is rfl (by assumption) (by first | assumption | rfl) | exact y_load_ipart rfl (by assumption) (by first | assumption | omega) (by assumption) | exact y_load_is rfl (hp_get (by assumption) (by assumption)) (by first | assumption | rfl) | exact y_load_ipart rfl (hp_get (by assumption) (by assumption)) (by first | assumption | omega) (by assumption)) (hd : Nat.blt d x.N = true := by rfl) : TR x l (Stays x ρ0 Ls) (fuel + 1) listed Q E ρ L := tr_want n0 hb hi hj he (ys_of' (fun _ h => h) y) hd k
theorem iFa {o : Operand} {s f : Nat} (h : TL x ops (⟨dd, .fieldAddr s o f, ty, pos, af, none⟩ :: rest) Q E ρ L) : TL x ops (⟨dd, .fieldAddr s o f, ty, pos, af, none⟩ :: rest) Q E ρ L := h
theorem qFa {o : Operand} {s f : Nat} (k : TL x ops rest Q ((d, v) :: E) ρ L) (y : Yl x (.fieldAddr s o f) ty E ρ L v := by first | exact y_fieldAddr0 rfl | exact y_fieldAddr rfl) (hd : Nat.blt d x.N = true := by rfl) : TL x ops (⟨some d, .fieldAddr s o f, ty, pos, af, none⟩ :: rest) Q E ρ L := tl_y y hd rfl k
theorem jFa {o : Operand} {s f : Nat} (h : TS x ops (⟨dd, .fieldAddr s o f, ty, pos, af, none⟩ :: rest) tail Q E ρ L) : TS x ops (⟨dd, .fieldAddr s o f, ty, pos, af, none⟩ :: rest) tail Q E ρ L := h
theorem sFa {o : Operand} {s f : Nat} (k : TS x ops rest tail Q ((d, v) :: E) ρ L) (y : Yl x (.fieldAddr s o f) ty E ρ L v := by first | exact y_fieldAddr0 rfl | exact y_fieldAddr rfl) (hd : Nat.blt d x.N = true := by rfl) : TS x ops (⟨some d, .fieldAddr s o f, ty, pos, af, none⟩ :: rest) tail Q E ρ L := ts_y y hd k
theorem rFa (n0 : Nat) {o : Operand} {s f : Nat} (k : TR x l (Stays x ρ0 Ls) fuel (lset listed n0) Q ((d, v) :: E) ρ L) (hb : takeB l listed n0 = true := by decide +kernel) (hi : l[n0]? = some ⟨some d, .fieldAddr s o f, ty, pos, af, none⟩ := by rfl) (y : ∀ ρ', ρ0.le ρ' → Yl x (.fieldAddr s o f) ty E ρ' Ls v := by intro _ _; first | exact y_fieldAddr0 rfl | exact y_fieldAddr rfl) (hd : Nat.blt d x.N = true := by rfl) : TR x l (Stays x ρ0 Ls) (fuel + 1) listed Q E ρ L := tr_take n0 hb hi (ys_of' (fun _ h => h) y) hd k
theorem wFa (n0 : Nat) {o : Operand} {s f : Nat} {j t0 : Nat} {b0 : Bool} (k : TR x l (Stays x ρ0 Ls) fuel (lset listed n0) Q ((d, v) :: E) ρ L) (hb : takeB l listed n0 = true := by decide +kernel) (hi : l[n0]? = some ⟨some d, .fieldAddr s o f, ty, pos, af, some (j, b0)⟩ := by rfl) (hj : (l[j]?).bind (·.dst) = some t0 := by rfl) (he : lk E t0 = some (.bool b0) := by rfl) (y : ∀ ρ', ρ0.le ρ' → Yl x (.fieldAddr s o f) ty E ρ' Ls v := by intro _ _; first | exact y_fieldAddr0 rfl | exact y_fieldAddr rfl) (hd : Nat.blt d x.N = true := by rfl) : TR x l (Stays x ρ0 Ls) (fuel + 1) listed Q E ρ L := tr_want n0 hb hi hj he (ys_of' (fun _ h => h) y) hd k
theorem iEx {o : Operand} {i : Nat} (h : TL x ops (⟨dd, .extract o i, ty, pos, af, none⟩ :: rest) Q E ρ L) : TL x ops (⟨dd, .extract o i, ty, pos, af, none⟩ :: rest) Q E ρ L := h
theorem qEx {o : Operand} {i : Nat} (k : TL x ops rest Q ((d, v) :: E) ρ L) (y : Yl x (.extract o i) ty E ρ L v := by first | exact y_extract rfl rfl) (hd : Nat.blt d x.N = true := by rfl) : TL x ops (⟨some d, .extract o i, ty, pos, af, none⟩ :: rest) Q E ρ L := tl_y y hd rfl k
theorem jEx {o : Operand} {i : Nat} (h : TS x ops (⟨dd, .extract o i, ty, pos, af, none⟩ :: rest) tail Q E ρ L) : TS x ops (⟨dd, .extract o i, ty, pos, af, none⟩ :: rest) tail Q E ρ L := h
theorem sEx {o : Operand} {i : Nat} (k : TS x ops rest tail Q ((d, v) :: E) ρ L) (y : Yl x (.extract o i) ty E ρ L v := by first | exact y_extract rfl rfl) (hd : Nat.blt d x.N = true := by rfl) : TS x ops (⟨some d, .extract o i, ty, pos, af, none⟩ :: rest) tail Q E ρ L := ts_y y hd k
theorem rEx (n0 : Nat) {o : Operand} {i : Nat} (k : TR x l (Stays x ρ0 Ls) fuel (lset listed n0) Q ((d, v) :: E) ρ L) (hb : takeB l listed n0 = true := by decide +kernel) (hi : l[n0]? = some ⟨some d, .extract o i, ty, pos, af, none⟩ := by rfl) (y : ∀ ρ', ρ0.le ρ' → Yl x (.extract o i) ty E ρ' Ls v := by intro _ _; first | exact y_extract rfl rfl) (hd : Nat.blt d x.N = true := by rfl) : TR x l (Stays x ρ0 Ls) (fuel + 1) listed Q E ρ L := tr_take n0 hb hi (ys_of' (fun _ h => h) y) hd k
theorem wEx (n0 : Nat) {o : Operand} {i : Nat} {j t0 : Nat} {b0 : Bool} (k : TR x l (Stays x ρ0 Ls) fuel (lset listed n0) Q ((d, v) :: E) ρ L) (hb : takeB l listed n0 = true := by decide +kernel) (hi : l[n0]? = some ⟨some d, .extract o i, ty, pos, af, some (j, b0)⟩ := by rfl) (hj : (l[j]?).bind (·.dst) = some t0 := by rfl) (he : lk E t0 = some (.bool b0) := by rfl) (y : ∀ ρ', ρ0.le ρ' → Yl x (.extract o i) ty E ρ' Ls v := by intro _ _; first | exact y_extract rfl rfl) (hd : Nat.blt d x.N = true := by rfl) : TR x l (Stays x ρ0 Ls) (fuel + 1) listed Q E ρ L := tr_want n0 hb hi hj he (ys_of' (fun _ h => h) y) hd k
theorem iAs {o : Operand} (h : TL x ops (⟨dd, .assign o, ty, pos, af, none⟩ :: rest) Q E ρ L) : TL x ops (⟨dd, .assign o, ty, pos, af, none⟩ :: rest) Q E ρ L := h
theorem qAs {o : Operand} (k : TL x ops rest Q ((d, v) :: E) ρ L) (y : Yl x (.assign o) ty E ρ L v := by first | exact y_assign rfl) (hd : Nat.blt d x.N = true := by rfl) : TL x ops (⟨some d, .assign o, ty, pos, af, none⟩ :: rest) Q E ρ L := tl_y y hd rfl k
theorem jAs {o : Operand} (h : TS x ops (⟨dd, .assign o, ty, pos, af, none⟩ :: rest) tail Q E ρ L) : TS x ops (⟨dd, .assign o, ty, pos, af, none⟩ :: rest) tail Q E ρ L := h
theorem sAs {o : Operand} (k : TS x ops rest tail Q ((d, v) :: E) ρ L) (y : Yl x (.assign o) ty E ρ L v := by first | exact y_assign rfl) (hd : Nat.blt d x.N = true := by rfl) : TS x ops (⟨some d, .assign o, ty, pos, af, none⟩ :: rest) tail Q E ρ L := ts_y y hd k
theorem rAs (n0 : Nat) {o : Operand} (k : TR x l (Stays x ρ0 Ls) fuel (lset listed n0) Q ((d, v) :: E) ρ L) (hb : takeB l listed n0 = true := by decide +kernel) (hi : l[n0]? = some ⟨some d, .assign o, ty, pos, af, none⟩ := by rfl) (y : ∀ ρ', ρ0.le ρ' → Yl x (.assign o) ty E ρ' Ls v := by intro _ _; first | exact y_assign rfl) (hd : Nat.blt d x.N = true := by rfl) : TR x l (Stays x ρ0 Ls) (fuel + 1) listed Q E ρ L := tr_take n0 hb hi (ys_of' (fun _ h => h) y) hd k
theorem wAs (n0 : Nat) {o : Operand} {j t0 : Nat} {b0 : Bool} (k : TR x l (Stays x ρ0 Ls) fuel (lset listed n0) Q ((d, v) :: E) ρ L) (hb : takeB l listed n0 = true := by decide +kernel) (hi : l[n0]? = some ⟨some d, .assign o, ty, pos, af, some (j, b0)⟩ := by rfl) (hj : (l[j]?).bind (·.dst) = some t0 := by rfl) (he : lk E t0 = some (.bool b0) := by rfl) (y : ∀ ρ', ρ0.le ρ' → Yl x (.assign o) ty E ρ' Ls v := by intro _ _; first | exact y_assign rfl) (hd : Nat.blt d x.N = true := by rfl) : TR x l (Stays x ρ0 Ls) (fuel + 1) listed Q E ρ L := tr_want n0 hb hi hj he (ys_of' (fun _ h => h) y) hd k
theorem iPk {c p q : Operand} (h : TL x ops (⟨dd, .pick c p q, ty, pos, af, none⟩ :: rest) Q E ρ L) : TL x ops (⟨dd, .pick c p q, ty, pos, af, none⟩ :: rest) Q E ρ L := h
theorem qPk {c p q : Operand} (k : TL x ops rest Q ((d, v) :: E) ρ L) (y : Yl x (.pick c p q) ty E ρ L v := by first | exact y_pick_t rfl rfl | exact y_pick_f rfl rfl) (hd : Nat.blt d x.N = true := by rfl) : TL x ops (⟨some d, .pick c p q, ty, pos, af, none⟩ :: rest) Q E ρ L := tl_y y hd rfl k
theorem jPk {c p q : Operand} (h : TS x ops (⟨dd, .pick c p q, ty, pos, af, none⟩ :: rest) tail Q E ρ L) : TS x ops (⟨dd, .pick c p q, ty, pos, af, none⟩ :: rest) tail Q E ρ L := h
theorem sPk {c p q : Operand} (k : TS x ops rest tail Q ((d, v) :: E) ρ L) (y : Yl x (.pick c p q) ty E ρ L v := by first | exact y_pick_t rfl rfl | exact y_pick_f rfl rfl) (hd : Nat.blt d x.N = true := by rfl) : TS x ops (⟨some d, .pick c p q, ty, pos, af, none⟩ :: rest) tail Q E ρ L := ts_y y hd k
theorem rPk (n0 : Nat) {c p q : Operand} (k : TR x l (Stays x ρ0 Ls) fuel (lset listed n0) Q ((d, v) :: E) ρ L) (hb : takeB l listed n0 = true := by decide +kernel) (hi : l[n0]? = some ⟨some d, .pick c p q, ty, pos, af, none⟩ := by rfl) (y : ∀ ρ', ρ0.le ρ' → Yl x (.pick c p q) ty E ρ' Ls v := by intro _ _; first | exact y_pick_t rfl rfl | exact y_pick_f rfl rfl) (hd : Nat.blt d x.N = true := by rfl) : TR x l (Stays x ρ0 Ls) (fuel + 1) listed Q E ρ L := tr_take n0 hb hi (ys_of' (fun _ h => h) y) hd k
theorem wPk (n0 : Nat) {c p q : Operand} {j t0 : Nat} {b0 : Bool} (k : TR x l (Stays x ρ0 Ls) fuel (lset listed n0) Q ((d, v) :: E) ρ L) (hb : takeB l listed n0 = true := by decide +kernel) (hi : l[n0]? = some ⟨some d, .pick c p q, ty, pos, af, some (j, b0)⟩ := by rfl) (hj : (l[j]?).bind (·.dst) = some t0 := by rfl) (he : lk E t0 = some (.bool b0) := by rfl) (y : ∀ ρ', ρ0.le ρ' → Yl x (.pick c p q) ty E ρ' Ls v := by intro _ _; first | exact y_pick_t rfl rfl | exact y_pick_f rfl rfl) (hd : Nat.blt d x.N = true := by rfl) : TR x l (Stays x ρ0 Ls) (fuel + 1) listed Q E ρ L := tr_want n0 hb hi hj he (ys_of' (fun _ h => h) y) hd k
theorem iAd {p q : Operand} {t t' : Nat} (h : TL x ops (⟨dd, (.binOp .add t p q t'), ty, pos, af, none⟩ :: rest) Q E ρ L) : TL x ops (⟨dd, (.binOp .add t p q t'), ty, pos, af, none⟩ :: rest) Q E ρ L := h
theorem qAd {p q : Operand} {t t' : Nat} (k : TL x ops rest Q ((d, v) :: E) ρ L) (y : Yl x ((.binOp .add t p q t')) ty E ρ L v := by first | exact y_add rfl rfl (by simp only [lo, hi]; omega) | exact y_add_w rfl rfl) (hd : Nat.blt d x.N = true := by rfl) : TL x ops (⟨some d, (.binOp .add t p q t'), ty, pos, af, none⟩ :: rest) Q E ρ L := tl_y y hd rfl k
theorem jAd {p q : Operand} {t t' : Nat} (h : TS x ops (⟨dd, (.binOp .add t p q t'), ty, pos, af, none⟩ :: rest) tail Q E ρ L) : TS x ops (⟨dd, (.binOp .add t p q t'), ty, pos, af, none⟩ :: rest) tail Q E ρ L := h
theorem sAd {p q : Operand} {t t' : Nat} (k : TS x ops rest tail Q ((d, v) :: E) ρ L) (y : Yl x ((.binOp .add t p q t')) ty E ρ L v := by first | exact y_add rfl rfl (by simp only [lo, hi]; omega) | exact y_add_w rfl rfl) (hd : Nat.blt d x.N = true := by rfl) : TS x ops (⟨some d, (.binOp .add t p q t'), ty, pos, af, none⟩ :: rest) tail Q E ρ L := ts_y y hd k
theorem rAd (n0 : Nat) {p q : Operand} {t t' : Nat} (k : TR x l (Stays x ρ0 Ls) fuel (lset listed n0) Q ((d, v) :: E) ρ L) (hb : takeB l listed n0 = true := by decide +kernel) (hi : l[n0]? = some ⟨some d, (.binOp .add t p q t'), ty, pos, af, none⟩ := by rfl) (y : ∀ ρ', ρ0.le ρ' → Yl x ((.binOp .add t p q t')) ty E ρ' Ls v := by intro _ _; first | exact y_add rfl rfl (by simp only [lo, hi]; omega) | exact y_add_w rfl rfl) (hd : Nat.blt d x.N = true := by rfl) : TR x l (Stays x ρ0 Ls) (fuel + 1) listed Q E ρ L := tr_take n0 hb hi (ys_of' (fun _ h => h) y) hd k
theorem wAd (n0 : Nat) {p q : Operand} {t t' : Nat} {j t0 : Nat} {b0 : Bool} (k : TR x l (Stays x ρ0 Ls) fuel (lset listed n0) Q ((d, v) :: E) ρ L) (hb : takeB l listed n0 = true := by decide +kernel) (hi : l[n0]? = some ⟨some d, (.binOp .add t p q t'), ty, pos, af, some (j, b0)⟩ := by rfl) (hj : (l[j]?).bind (·.dst) = some t0 := by rfl) (he : lk E t0 = some (.bool b0) := by rfl) (y : ∀ ρ', ρ0.le ρ' → Yl x ((.binOp .add t p q t')) ty E ρ' Ls v := by intro _ _; first | exact y_add rfl rfl (by simp only [lo, hi]; omega) | exact y_add_w rfl rfl) (hd : Nat.blt d x.N = true := by rfl) : TR x l (Stays x ρ0 Ls) (fuel + 1) listed Q E ρ L := tr_want n0 hb hi hj he (ys_of' (fun _ h => h) y) hd k
theorem iSb {p q : Operand} {t t' : Nat} (h : TL x ops (⟨dd, (.binOp .sub t p q t'), ty, pos, af, none⟩ :: rest) Q E ρ L) : TL x ops (⟨dd, (.binOp .sub t p q t'), ty, pos, af, none⟩ :: rest) Q E ρ L := h
theorem qSb {p q : Operand} {t t' : Nat} (k : TL x ops rest Q ((d, v) :: E) ρ L) (y : Yl x ((.binOp .sub t p q t')) ty E ρ L v := by first | exact y_sub rfl rfl (by simp only [lo, hi]; omega) | exact y_sub_w rfl rfl) (hd : Nat.blt d x.N = true := by rfl) : TL x ops (⟨some d, (.binOp .sub t p q t'), ty, pos, af, none⟩ :: rest) Q E ρ L := tl_y y hd rfl k
theorem jSb {p q : Operand} {t t' : Nat} (h : TS x ops (⟨dd, (.binOp .sub t p q t'), ty, pos, af, none⟩ :: rest) tail Q E ρ L) : TS x ops (⟨dd, (.binOp .sub t p q t'), ty, pos, af, none⟩ :: rest) tail Q E ρ L := h
theorem sSb {p q : Operand} {t t' : Nat} (k : TS x ops rest tail Q ((d, v) :: E) ρ L) (y : Yl x ((.binOp .sub t p q t')) ty E ρ L v := by first | exact y_sub rfl rfl (by simp only [lo, hi]; omega) | exact y_sub_w rfl rfl) (hd : Nat.blt d x.N = true := by rfl) : TS x ops (⟨some d, (.binOp .sub t p q t'), ty, pos, af, none⟩ :: rest) tail Q E ρ L := ts_y y hd k
theorem rSb (n0 : Nat) {p q : Operand} {t t' : Nat} (k : TR x l (Stays x ρ0 Ls) fuel (lset listed n0) Q ((d, v) :: E) ρ L) (hb : takeB l listed n0 = true := by decide +kernel) (hi : l[n0]? = some ⟨some d, (.binOp .sub t p q t'), ty, pos, af, none⟩ := by rfl) (y : ∀ ρ', ρ0.le ρ' → Yl x ((.binOp .sub t p q t')) ty E ρ' Ls v := by intro _ _; first | exact y_sub rfl rfl (by simp only [lo, hi]; omega) | exact y_sub_w rfl rfl) (hd : Nat.blt d x.N = true := by rfl) : TR x l (Stays x ρ0 Ls) (fuel + 1) listed Q E ρ L := tr_take n0 hb hi (ys_of' (fun _ h => h) y) hd k
theorem wSb (n0 : Nat) {p q : Operand} {t t' : Nat} {j t0 : Nat} {b0 : Bool} (k : TR x l (Stays x ρ0 Ls) fuel (lset listed n0) Q ((d, v) :: E) ρ L) (hb : takeB l listed n0 = true := by decide +kernel) (hi : l[n0]? = some ⟨some d, (.binOp .sub t p q t'), ty, pos, af, some (j, b0)⟩ := by rfl) (hj : (l[j]?).bind (·.dst) = some t0 := by rfl) (he : lk E t0 = some (.bool b0) := by rfl) (y : ∀ ρ', ρ0.le ρ' → Yl x ((.binOp .sub t p q t')) ty E ρ' Ls v := by intro _ _; first | exact y_sub rfl rfl (by simp only [lo, hi]; omega) | exact y_sub_w rfl rfl) (hd : Nat.blt d x.N = true := by rfl) : TR x l (Stays x ρ0 Ls) (fuel + 1) listed Q E ρ L := tr_want n0 hb hi hj he (ys_of' (fun _ h => h) y) hd k
theorem iMl {p q : Operand} {t t' : Nat} (h : TL x ops (⟨dd, (.binOp .mul t p q t'), ty, pos, af, none⟩ :: rest) Q E ρ L) : TL x ops (⟨dd, (.binOp .mul t p q t'), ty, pos, af, none⟩ :: rest) Q E ρ L := h
theorem qMl {p q : Operand} {t t' : Nat} (k : TL x ops rest Q ((d, v) :: E) ρ L) (y : Yl x ((.binOp .mul t p q t')) ty E ρ L v := by first | exact y_mul rfl rfl (by simp only [lo, hi]; omega) | exact y_mul_w rfl rfl) (hd : Nat.blt d x.N = true := by rfl) : TL x ops (⟨some d, (.binOp .mul t p q t'), ty, pos, af, none⟩ :: rest) Q E ρ L := tl_y y hd rfl k
theorem jMl {p q : Operand} {t t' : Nat} (h : TS x ops (⟨dd, (.binOp .mul t p q t'), ty, pos, af, none⟩ :: rest) tail Q E ρ L) : TS x ops (⟨dd, (.binOp .mul t p q t'), ty, pos, af, none⟩ :: rest) tail Q E ρ L := h
theorem sMl {p q : Operand} {t t' : Nat} (k : TS x ops rest tail Q ((d, v) :: E) ρ L) (y : Yl x ((.binOp .mul t p q t')) ty E ρ L v := by first | exact y_mul rfl rfl (by simp only [lo, hi]; omega) | exact y_mul_w rfl rfl) (hd : Nat.blt d x.N = true := by rfl) : TS x ops (⟨some d, (.binOp .mul t p q t'), ty, pos, af, none⟩ :: rest) tail Q E ρ L := ts_y y hd k
theorem rMl (n0 : Nat) {p q : Operand} {t t' : Nat} (k : TR x l (Stays x ρ0 Ls) fuel (lset listed n0) Q ((d, v) :: E) ρ L) (hb : takeB l listed n0 = true := by decide +kernel) (hi : l[n0]? = some ⟨some d, (.binOp .mul t p q t'), ty, pos, af, none⟩ := by rfl) (y : ∀ ρ', ρ0.le ρ' → Yl x ((.binOp .mul t p q t')) ty E ρ' Ls v := by intro _ _; first | exact y_mul rfl rfl (by simp only [lo, hi]; omega) | exact y_mul_w rfl rfl) (hd : Nat.blt d x.N = true := by rfl) : TR x l (Stays x ρ0 Ls) (fuel + 1) listed Q E ρ L := tr_take n0 hb hi (ys_of' (fun _ h => h) y) hd k
theorem wMl (n0 : Nat) {p q : Operand} {t t' : Nat} {j t0 : Nat} {b0 : Bool} (k : TR x l (Stays x ρ0 Ls) fuel (lset listed n0) Q ((d, v) :: E) ρ L) (hb : takeB l listed n0 = true := by decide +kernel) (hi : l[n0]? = some ⟨some d, (.binOp .mul t p q t'), ty, pos, af, some (j, b0)⟩ := by rfl) (hj : (l[j]?).bind (·.dst) = some t0 := by rfl) (he : lk E t0 = some (.bool b0) := by rfl) (y : ∀ ρ', ρ0.le ρ' → Yl x ((.binOp .mul t p q t')) ty E ρ' Ls v := by intro _ _; first | exact y_mul rfl rfl (by simp only [lo, hi]; omega) | exact y_mul_w rfl rfl) (hd : Nat.blt d x.N = true := by rfl) : TR x l (Stays x ρ0 Ls) (fuel + 1) listed Q E ρ L := tr_want n0 hb hi hj he (ys_of' (fun _ h => h) y) hd k
theorem iQu {p q : Operand} {t t' : Nat} (h : TL x ops (⟨dd, (.binOp .quo t p q t'), ty, pos, af, none⟩ :: rest) Q E ρ L) : TL x ops (⟨dd, (.binOp .quo t p q t'), ty, pos, af, none⟩ :: rest) Q E ρ L := h
theorem qQu {p q : Operand} {t t' : Nat} (k : TL x ops rest Q ((d, v) :: E) ρ L) (y : Yl x ((.binOp .quo t p q t')) ty E ρ L v := by first | exact y_quo_w rfl rfl (by omega)) (hd : Nat.blt d x.N = true := by rfl) : TL x ops (⟨some d, (.binOp .quo t p q t'), ty, pos, af, none⟩ :: rest) Q E ρ L := tl_y y hd rfl k
theorem jQu {p q : Operand} {t t' : Nat} (h : TS x ops (⟨dd, (.binOp .quo t p q t'), ty, pos, af, none⟩ :: rest) tail Q E ρ L) : TS x ops (⟨dd, (.binOp .quo t p q t'), ty, pos, af, none⟩ :: rest) tail Q E ρ L := h
theorem sQu {p q : Operand} {t t' : Nat} (k : TS x ops rest tail Q ((d, v) :: E) ρ L) (y : Yl x ((.binOp .quo t p q t')) ty E ρ L v := by first | exact y_quo_w rfl rfl (by omega)) (hd : Nat.blt d x.N = true := by rfl) : TS x ops (⟨some d, (.binOp .quo t p q t'), ty, pos, af, none⟩ :: rest) tail Q E ρ L := ts_y y hd k
theorem rQu (n0 : Nat) {p q : Operand} {t t' : Nat} (k : TR x l (Stays x ρ0 Ls) fuel (lset listed n0) Q ((d, v) :: E) ρ L) (hb : takeB l listed n0 = true := by decide +kernel) (hi : l[n0]? = some ⟨some d, (.binOp .quo t p q t'), ty, pos, af, none⟩ := by rfl) (y : ∀ ρ', ρ0.le ρ' → Yl x ((.binOp .quo t p q t')) ty E ρ' Ls v := by intro _ _; first | exact y_quo_w rfl rfl (by omega)) (hd : Nat.blt d x.N = true := by rfl) : TR x l (Stays x ρ0 Ls) (fuel + 1) listed Q E ρ L := tr_take n0 hb hi (ys_of' (fun _ h => h) y) hd k
theorem wQu (n0 : Nat) {p q : Operand} {t t' : Nat} {j t0 : Nat} {b0 : Bool} (k : TR x l (Stays x ρ0 Ls) fuel (lset listed n0) Q ((d, v) :: E) ρ L) (hb : takeB l listed n0 = true := by decide +kernel) (hi : l[n0]? = some ⟨some d, (.binOp .quo t p q t'), ty, pos, af, some (j, b0)⟩ := by rfl) (hj : (l[j]?).bind (·.dst) = some t0 := by rfl) (he : lk E t0 = some (.bool b0) := by rfl) (y : ∀ ρ', ρ0.le ρ' → Yl x ((.binOp .quo t p q t')) ty E ρ' Ls v := by intro _ _; first | exact y_quo_w rfl rfl (by omega)) (hd : Nat.blt d x.N = true := by rfl) : TR x l (Stays x ρ0 Ls) (fuel + 1) listed Q E ρ L := tr_want n0 hb hi hj he (ys_of' (fun _ h => h) y) hd k
theorem iRm {p q : Operand} {t t' : Nat} (h : TL x ops (⟨dd, (.binOp .rem t p q t'), ty, pos, af, none⟩ :: rest) Q E ρ L) : TL x ops (⟨dd, (.binOp .rem t p q t'), ty, pos, af, none⟩ :: rest) Q E ρ L := h
theorem qRm {p q : Operand} {t t' : Nat} (k : TL x ops rest Q ((d, v) :: E) ρ L) (y : Yl x ((.binOp .rem t p q t')) ty E ρ L v := by first | exact y_rem rfl rfl (by omega)) (hd : Nat.blt d x.N = true := by rfl) : TL x ops (⟨some d, (.binOp .rem t p q t'), ty, pos, af, none⟩ :: rest) Q E ρ L := tl_y y hd rfl k
theorem jRm {p q : Operand} {t t' : Nat} (h : TS x ops (⟨dd, (.binOp .rem t p q t'), ty, pos, af, none⟩ :: rest) tail Q E ρ L) : TS x ops (⟨dd, (.binOp .rem t p q t'), ty, pos, af, none⟩ :: rest) tail Q E ρ L := h
theorem sRm {p q : Operand} {t t' : Nat} (k : TS x ops rest tail Q ((d, v) :: E) ρ L) (y : Yl x ((.binOp .rem t p q t')) ty E ρ L v := by first | exact y_rem rfl rfl (by omega)) (hd : Nat.blt d x.N = true := by rfl) : TS x ops (⟨some d, (.binOp .rem t p q t'), ty, pos, af, none⟩ :: rest) tail Q E ρ L := ts_y y hd k
theorem rRm (n0 : Nat) {p q : Operand} {t t' : Nat} (k : TR x l (Stays x ρ0 Ls) fuel (lset listed n0) Q ((d, v) :: E) ρ L) (hb : takeB l listed n0 = true := by decide +kernel) (hi : l[n0]? = some ⟨some d, (.binOp .rem t p q t'), ty, pos, af, none⟩ := by rfl) (y : ∀ ρ', ρ0.le ρ' → Yl x ((.binOp .rem t p q t')) ty E ρ' Ls v := by intro _ _; first | exact y_rem rfl rfl (by omega)) (hd : Nat.blt d x.N = true := by rfl) : TR x l (Stays x ρ0 Ls) (fuel + 1) listed Q E ρ L := tr_take n0 hb hi (ys_of' (fun _ h => h) y) hd k
theorem wRm (n0 : Nat) {p q : Operand} {t t' : Nat} {j t0 : Nat} {b0 : Bool} (k : TR x l (Stays x ρ0 Ls) fuel (lset listed n0) Q ((d, v) :: E) ρ L) (hb : takeB l listed n0 = true := by decide +kernel) (hi : l[n0]? = some ⟨some d, (.binOp .rem t p q t'), ty, pos, af, some (j, b0)⟩ := by rfl) (hj : (l[j]?).bind (·.dst) = some t0 := by rfl) (he : lk E t0 = some (.bool b0) := by rfl) (y : ∀ ρ', ρ0.le ρ' → Yl x ((.binOp .rem t p q t')) ty E ρ' Ls v := by intro _ _; first | exact y_rem rfl rfl (by omega)) (hd : Nat.blt d x.N = true := by rfl) : TR x l (Stays x ρ0 Ls) (fuel + 1) listed Q E ρ L := tr_want n0 hb hi hj he (ys_of' (fun _ h => h) y) hd k
theorem iSr {p q : Operand} {t t' : Nat} (h : TL x ops (⟨dd, (.binOp .shr t p q t'), ty, pos, af, none⟩ :: rest) Q E ρ L) : TL x ops (⟨dd, (.binOp .shr t p q t'), ty, pos, af, none⟩ :: rest) Q E ρ L := h
theorem qSr {p q : Operand} {t t' : Nat} (k : TL x ops rest Q ((d, v) :: E) ρ L) (y : Yl x ((.binOp .shr t p q t')) ty E ρ L v := by first | exact y_shr rfl rfl (by omega) (by simp [IntKind.bits]; rfl) | exact y_shr rfl rfl (by omega) rfl) (hd : Nat.blt d x.N = true := by rfl) : TL x ops (⟨some d, (.binOp .shr t p q t'), ty, pos, af, none⟩ :: rest) Q E ρ L := tl_y y hd rfl k
theorem jSr {p q : Operand} {t t' : Nat} (h : TS x ops (⟨dd, (.binOp .shr t p q t'), ty, pos, af, none⟩ :: rest) tail Q E ρ L) : TS x ops (⟨dd, (.binOp .shr t p q t'), ty, pos, af, none⟩ :: rest) tail Q E ρ L := h
theorem sSr {p q : Operand} {t t' : Nat} (k : TS x ops rest tail Q ((d, v) :: E) ρ L) (y : Yl x ((.binOp .shr t p q t')) ty E ρ L v := by first | exact y_shr rfl rfl (by omega) (by simp [IntKind.bits]; rfl) | exact y_shr rfl rfl (by omega) rfl) (hd : Nat.blt d x.N = true := by rfl) : TS x ops (⟨some d, (.binOp .shr t p q t'), ty, pos, af, none⟩ :: rest) tail Q E ρ L := ts_y y hd k
theorem rSr (n0 : Nat) {p q : Operand} {t t' : Nat} (k : TR x l (Stays x ρ0 Ls) fuel (lset listed n0) Q ((d, v) :: E) ρ L) (hb : takeB l listed n0 = true := by decide +kernel) (hi : l[n0]? = some ⟨some d, (.binOp .shr t p q t'), ty, pos, af, none⟩ := by rfl) (y : ∀ ρ', ρ0.le ρ' → Yl x ((.binOp .shr t p q t')) ty E ρ' Ls v := by intro _ _; first | exact y_shr rfl rfl (by omega) (by simp [IntKind.bits]; rfl) | exact y_shr rfl rfl (by omega) rfl) (hd : Nat.blt d x.N = true := by rfl) : TR x l (Stays x ρ0 Ls) (fuel + 1) listed Q E ρ L := tr_take n0 hb hi (ys_of' (fun _ h => h) y) hd k
theorem wSr (n0 : Nat) {p q : Operand} {t t' : Nat} {j t0 : Nat} {b0 : Bool} (k : TR x l (Stays x ρ0 Ls) fuel (lset listed n0) Q ((d, v) :: E) ρ L) (hb : takeB l listed n0 = true := by decide +kernel) (hi : l[n0]? = some ⟨some d, (.binOp .shr t p q t'), ty, pos, af, some (j, b0)⟩ := by rfl) (hj : (l[j]?).bind (·.dst) = some t0 := by rfl) (he : lk E t0 = some (.bool b0) := by rfl) (y : ∀ ρ', ρ0.le ρ' → Yl x ((.binOp .shr t p q t')) ty E ρ' Ls v := by intro _ _; first | exact y_shr rfl rfl (by omega) (by simp [IntKind.bits]; rfl) | exact y_shr rfl rfl (by omega) rfl) (hd : Nat.blt d x.N = true := by rfl) : TR x l (Stays x ρ0 Ls) (fuel + 1) listed Q E ρ L := tr_want n0 hb hi hj he (ys_of' (fun _ h => h) y) hd k
theorem iSh {p q : Operand} {t t' : Nat} (h : TL x ops (⟨dd, (.binOp .shl t p q t'), ty, pos, af, none⟩ :: rest) Q E ρ L) : TL x ops (⟨dd, (.binOp .shl t p q t'), ty, pos, af, none⟩ :: rest) Q E ρ L := h
theorem qSh {p q : Operand} {t t' : Nat} (k : TL x ops rest Q ((d, v) :: E) ρ L) (y : Yl x ((.binOp .shl t p q t')) ty E ρ L v := by first | exact y_shl rfl rfl (by omega) (by simp [IntKind.bits]; rfl) | exact y_shl rfl rfl (by omega) rfl) (hd : Nat.blt d x.N = true := by rfl) : TL x ops (⟨some d, (.binOp .shl t p q t'), ty, pos, af, none⟩ :: rest) Q E ρ L := tl_y y hd rfl k
theorem jSh {p q : Operand} {t t' : Nat} (h : TS x ops (⟨dd, (.binOp .shl t p q t'), ty, pos, af, none⟩ :: rest) tail Q E ρ L) : TS x ops (⟨dd, (.binOp .shl t p q t'), ty, pos, af, none⟩ :: rest) tail Q E ρ L := h
theorem sSh {p q : Operand} {t t' : Nat} (k : TS x ops rest tail Q ((d, v) :: E) ρ L) (y : Yl x ((.binOp .shl t p q t')) ty E ρ L v := by first | exact y_shl rfl rfl (by omega) (by simp [IntKind.bits]; rfl) | exact y_shl rfl rfl (by omega) rfl) (hd : Nat.blt d x.N = true := by rfl) : TS x ops (⟨some d, (.binOp .shl t p q t'), ty, pos, af, none⟩ :: rest) tail Q E ρ L := ts_y y hd k
theorem rSh (n0 : Nat) {p q : Operand} {t t' : Nat} (k : TR x l (Stays x ρ0 Ls) fuel (lset listed n0) Q ((d, v) :: E) ρ L) (hb : takeB l listed n0 = true := by decide +kernel) (hi : l[n0]? = some ⟨some d, (.binOp .shl t p q t'), ty, pos, af, none⟩ := by rfl) (y : ∀ ρ', ρ0.le ρ' → Yl x ((.binOp .shl t p q t')) ty E ρ' Ls v := by intro _ _; first | exact y_shl rfl rfl (by omega) (by simp [IntKind.bits]; rfl) | exact y_shl rfl rfl (by omega) rfl) (hd : Nat.blt d x.N = true := by rfl) : TR x l (Stays x ρ0 Ls) (fuel + 1) listed Q E ρ L := tr_take n0 hb hi (ys_of' (fun _ h => h) y) hd k
theorem wSh (n0 : Nat) {p q : Operand} {t t' : Nat} {j t0 : Nat} {b0 : Bool} (k : TR x l (Stays x ρ0 Ls) fuel (lset listed n0) Q ((d, v) :: E) ρ L) (hb : takeB l listed n0 = true := by decide +kernel) (hi : l[n0]? = some ⟨some d, (.binOp .shl t p q t'), ty, pos, af, some (j, b0)⟩ := by rfl) (hj : (l[j]?).bind (·.dst) = some t0 := by rfl) (he : lk E t0 = some (.bool b0) := by rfl) (y : ∀ ρ', ρ0.le ρ' → Yl x ((.binOp .shl t p q t')) ty E ρ' Ls v := by intro _ _; first | exact y_shl rfl rfl (by omega) (by simp [IntKind.bits]; rfl) | exact y_shl rfl rfl (by omega) rfl) (hd : Nat.blt d x.N = true := by rfl) : TR x l (Stays x ρ0 Ls) (fuel + 1) listed Q E ρ L := tr_want n0 hb hi hj he (ys_of' (fun _ h => h) y) hd k
theorem iCm {o : BinOp} {p q : Operand} {t t' : Nat} (h : TL x ops (⟨dd, (.binOp o t p q t'), ty, pos, af, none⟩ :: rest) Q E ρ L) : TL x ops (⟨dd, (.binOp o t p q t'), ty, pos, af, none⟩ :: rest) Q E ρ L := h
theorem qCm {o : BinOp} {p q : Operand} {t t' : Nat} (k : TL x ops rest Q ((d, v) :: E) ρ L) (y : Yl x ((.binOp o t p q t')) ty E ρ L v := by first | exact y_cmp (b := true) (by rfl) (by rfl) (by first | rfl | exact cmpB_ne_self | exact cmpB_eq_self | (simp only [cmpB, Option.some.injEq, decide_eq_true_eq, decide_eq_false_iff_not, beq_iff_eq, bne_iff_ne, beq_eq_false_iff_ne, bne_eq_false_iff_eq, ne_eq]; omega)) | exact y_cmp (b := false) (by rfl) (by rfl) (by first | rfl | exact cmpB_ne_self | exact cmpB_eq_self | (simp only [cmpB, Option.some.injEq, decide_eq_true_eq, decide_eq_false_iff_not, beq_iff_eq, bne_iff_ne, beq_eq_false_iff_ne, bne_eq_false_iff_eq, ne_eq]; omega)) | exact y_cmp rfl rfl rfl | exact y_ptr_nil rfl rfl rfl | exact y_func_nil rfl rfl rfl rfl | exact y_slice_nil rfl rfl rfl | exact y_map_nil rfl rfl rfl | exact y_eqs rfl rfl (by first | assumption | rfl) | exact y_nes rfl rfl (by first | assumption | rfl) | exact y_eqd rfl rfl (by first | assumption | rfl) (by first | assumption | rfl) (by assumption) | exact y_ned rfl rfl (by first | assumption | rfl) (by first | assumption | rfl) (by assumption) | exact y_eq_bytes rfl rfl (by first | assumption | rfl) (by first | assumption | rfl) rfl | exact y_bool_eq rfl rfl eqB_bool_self | exact y_bool_eq rfl rfl eqB_bool_nself | exact y_bool_eq rfl rfl rfl) (hd : Nat.blt d x.N = true := by rfl) : TL x ops (⟨some d, (.binOp o t p q t'), ty, pos, af, none⟩ :: rest) Q E ρ L := tl_y y hd rfl k
theorem jCm {o : BinOp} {p q : Operand} {t t' : Nat} (h : TS x ops (⟨dd, (.binOp o t p q t'), ty, pos, af, none⟩ :: rest) tail Q E ρ L) : TS x ops (⟨dd, (.binOp o t p q t'), ty, pos, af, none⟩ :: rest) tail Q E ρ L := h
theorem sCm {o : BinOp} {p q : Operand} {t t' : Nat} (k : TS x ops rest tail Q ((d, v) :: E) ρ L) (y : Yl x ((.binOp o t p q t')) ty E ρ L v := by first | exact y_cmp (b := true) (by rfl) (by rfl) (by first | rfl | exact cmpB_ne_self | exact cmpB_eq_self | (simp only [cmpB, Option.some.injEq, decide_eq_true_eq, decide_eq_false_iff_not, beq_iff_eq, bne_iff_ne, beq_eq_false_iff_ne, bne_eq_false_iff_eq, ne_eq]; omega)) | exact y_cmp (b := false) (by rfl) (by rfl) (by first | rfl | exact cmpB_ne_self | exact cmpB_eq_self | (simp only [cmpB, Option.some.injEq, decide_eq_true_eq, decide_eq_false_iff_not, beq_iff_eq, bne_iff_ne, beq_eq_false_iff_ne, bne_eq_false_iff_eq, ne_eq]; omega)) | exact y_cmp rfl rfl rfl | exact y_ptr_nil rfl rfl rfl | exact y_func_nil rfl rfl rfl rfl | exact y_slice_nil rfl rfl rfl | exact y_map_nil rfl rfl rfl | exact y_eqs rfl rfl (by first | assumption | rfl) | exact y_nes rfl rfl (by first | assumption | rfl) | exact y_eqd rfl rfl (by first | assumption | rfl) (by first | assumption | rfl) (by assumption) | exact y_ned rfl rfl (by first | assumption | rfl) (by first | assumption | rfl) (by assumption) | exact y_eq_bytes rfl rfl (by first | assumption | rfl) (by first | assumption | rfl) rfl | exact y_bool_eq rfl rfl eqB_bool_self | exact y_bool_eq rfl rfl eqB_bool_nself | exact y_bool_eq rfl rfl rfl) (hd : Nat.blt d x.N = true := by rfl) : TS x ops (⟨some d, (.binOp o t p q t'), ty, pos, af, none⟩ :: rest) tail Q E ρ L := ts_y y hd k
theorem rCm (n0 : Nat) {o : BinOp} {p q : Operand} {t t' : Nat} (k : TR x l (Stays x ρ0 Ls) fuel (lset listed n0) Q ((d, v) :: E) ρ L) (hb : takeB l listed n0 = true := by decide +kernel) (hi : l[n0]? = some ⟨some d, (.binOp o t p q t'), ty, pos, af, none⟩ := by rfl) (y : ∀ ρ', ρ0.le ρ' → Yl x ((.binOp o t p q t')) ty E ρ' Ls v := by intro _ _; first | exact y_cmp (b := true) (by rfl) (by rfl) (by first | rfl | exact cmpB_ne_self | exact cmpB_eq_self | (simp only [cmpB, Option.some.injEq, decide_eq_true_eq, decide_eq_false_iff_not, beq_iff_eq, bne_iff_ne, beq_eq_false_iff_ne, bne_eq_false_iff_eq, ne_eq]; omega)) | exact y_cmp (b := false) (by rfl) (by rfl) (by first | rfl | exact cmpB_ne_self | exact cmpB_eq_self | (simp only [cmpB, Option.some.injEq, decide_eq_true_eq, decide_eq_false_iff_not, beq_iff_eq, bne_iff_ne, beq_eq_false_iff_ne, bne_eq_false_iff_eq, ne_eq]; omega)) | exact y_cmp rfl rfl rfl | exact y_ptr_nil rfl rfl rfl | exact y_func_nil rfl rfl rfl rfl | exact y_slice_nil rfl rfl rfl | exact y_map_nil rfl rfl rfl | exact y_eqs rfl rfl (by first | assumption | rfl) | exact y_nes rfl rfl (by first | assumption | rfl) | exact y_eqd rfl rfl (by first | assumption | rfl) (by first | assumption | rfl) (by assumption) | exact y_ned rfl rfl (by first | assumption | rfl) (by first | assumption | rfl) (by assumption) | exact y_eq_bytes rfl rfl (by first | assumption | rfl) (by first | assumption | rfl) rfl | exact y_bool_eq rfl rfl eqB_bool_self | exact y_bool_eq rfl rfl eqB_bool_nself | exact y_bool_eq rfl rfl rfl) (hd : Nat.blt d x.N = true := by rfl) : TR x l (Stays x ρ0 Ls) (fuel + 1) listed Q E ρ L := tr_take n0 hb hi (ys_of' (fun _ h => h) y) hd k
theorem wCm (n0 : Nat) {o : BinOp} {p q : Operand} {t t' : Nat} {j t0 : Nat} {b0 : Bool} (k : TR x l (Stays x ρ0 Ls) fuel (lset listed n0) Q ((d, v) :: E) ρ L) (hb : takeB l listed n0 = true := by decide +kernel) (hi : l[n0]? = some ⟨some d, (.binOp o t p q t'), ty, pos, af, some (j, b0)⟩ := by rfl) (hj : (l[j]?).bind (·.dst) = some t0 := by rfl) (he : lk E t0 = some (.bool b0) := by rfl) (y : ∀ ρ', ρ0.le ρ' → Yl x ((.binOp o t p q t')) ty E ρ' Ls v := by intro _ _; first | exact y_cmp (b := true) (by rfl) (by rfl) (by first | rfl | exact cmpB_ne_self | exact cmpB_eq_self | (simp only [cmpB, Option.some.injEq, decide_eq_true_eq, decide_eq_false_iff_not, beq_iff_eq, bne_iff_ne, beq_eq_false_iff_ne, bne_eq_false_iff_eq, ne_eq]; omega)) | exact y_cmp (b := false) (by rfl) (by rfl) (by first | rfl | exact cmpB_ne_self | exact cmpB_eq_self | (simp only [cmpB, Option.some.injEq, decide_eq_true_eq, decide_eq_false_iff_not, beq_iff_eq, bne_iff_ne, beq_eq_false_iff_ne, bne_eq_false_iff_eq, ne_eq]; omega)) | exact y_cmp rfl rfl rfl | exact y_ptr_nil rfl rfl rfl | exact y_func_nil rfl rfl rfl rfl | exact y_slice_nil rfl rfl rfl | exact y_map_nil rfl rfl rfl | exact y_eqs rfl rfl (by first | assumption | rfl) | exact y_nes rfl rfl (by first | assumption | rfl) | exact y_eqd rfl rfl (by first | assumption | rfl) (by first | assumption | rfl) (by assumption) | exact y_ned rfl rfl (by first | assumption | rfl) (by first | assumption | rfl) (by assumption) | exact y_eq_bytes rfl rfl (by first | assumption | rfl) (by first | assumption | rfl) rfl | exact y_bool_eq rfl rfl eqB_bool_self | exact y_bool_eq rfl rfl eqB_bool_nself | exact y_bool_eq rfl rfl rfl) (hd : Nat.blt d x.N = true := by rfl) : TR x l (Stays x ρ0 Ls) (fuel + 1) listed Q E ρ L := tr_want n0 hb hi hj he (ys_of' (fun _ h => h) y) hd k
theorem iNc {o : Operand} (h : TL x ops (⟨dd, .nilCheck o, ty, pos, af, none⟩ :: rest) Q E ρ L) : TL x ops (⟨dd, .nilCheck o, ty, pos, af, none⟩ :: rest) Q E ρ L := h
theorem qNc {o : Operand} (k : TL x ops rest Q ((d, v) :: E) ρ L) (y : Yl x (.nilCheck o) ty E ρ L v := by first | exact y_nilCheck rfl | exact y_nilCheck_f rfl | exact y_nilCheck_y rfl) (hd : Nat.blt d x.N = true := by rfl) : TL x ops (⟨some d, .nilCheck o, ty, pos, af, none⟩ :: rest) Q E ρ L := tl_y y hd rfl k
theorem jNc {o : Operand} (h : TS x ops (⟨dd, .nilCheck o, ty, pos, af, none⟩ :: rest) tail Q E ρ L) : TS x ops (⟨dd, .nilCheck o, ty, pos, af, none⟩ :: rest) tail Q E ρ L := h
theorem sNc {o : Operand} (k : TS x ops rest tail Q ((d, v) :: E) ρ L) (y : Yl x (.nilCheck o) ty E ρ L v := by first | exact y_nilCheck rfl | exact y_nilCheck_f rfl | exact y_nilCheck_y rfl) (hd : Nat.blt d x.N = true := by rfl) : TS x ops (⟨some d, .nilCheck o, ty, pos, af, none⟩ :: rest) tail Q E ρ L := ts_y y hd k
theorem rNc (n0 : Nat) {o : Operand} (k : TR x l (Stays x ρ0 Ls) fuel (lset listed n0) Q ((d, v) :: E) ρ L) (hb : takeB l listed n0 = true := by decide +kernel) (hi : l[n0]? = some ⟨some d, .nilCheck o, ty, pos, af, none⟩ := by rfl) (y : ∀ ρ', ρ0.le ρ' → Yl x (.nilCheck o) ty E ρ' Ls v := by intro _ _; first | exact y_nilCheck rfl | exact y_nilCheck_f rfl | exact y_nilCheck_y rfl) (hd : Nat.blt d x.N = true := by rfl) : TR x l (Stays x ρ0 Ls) (fuel + 1) listed Q E ρ L := tr_take n0 hb hi (ys_of' (fun _ h => h) y) hd k
theorem wNc (n0 : Nat) {o : Operand} {j t0 : Nat} {b0 : Bool} (k : TR x l (Stays x ρ0 Ls) fuel (lset listed n0) Q ((d, v) :: E) ρ L) (hb : takeB l listed n0 = true := by decide +kernel) (hi : l[n0]? = some ⟨some d, .nilCheck o, ty, pos, af, some (j, b0)⟩ := by rfl) (hj : (l[j]?).bind (·.dst) = some t0 := by rfl) (he : lk E t0 = some (.bool b0) := by rfl) (y : ∀ ρ', ρ0.le ρ' → Yl x (.nilCheck o) ty E ρ' Ls v := by intro _ _; first | exact y_nilCheck rfl | exact y_nilCheck_f rfl | exact y_nilCheck_y rfl) (hd : Nat.blt d x.N = true := by rfl) : TR x l (Stays x ρ0 Ls) (fuel + 1) listed Q E ρ L := tr_want n0 hb hi hj he (ys_of' (fun _ h => h) y) hd k
theorem iIa {o i : Operand} {t : Nat} (h : TL x ops (⟨dd, .indexAddr t o i, ty, pos, af, none⟩ :: rest) Q E ρ L) : TL x ops (⟨dd, .indexAddr t o i, ty, pos, af, none⟩ :: rest) Q E ρ L := h
theorem qIa {o i : Operand} {t : Nat} (k : TL x ops rest Q ((d, v) :: E) ρ L) (y : Yl x (.indexAddr t o i) ty E ρ L v := by first | exact y_indexAddr_nat rfl rfl (by omega) | exact y_indexAddr rfl rfl (by omega) (by omega) | exact y_indexAddr_arrN rfl rfl (by omega) | exact y_indexAddr_arr rfl rfl (by omega) (by omega)) (hd : Nat.blt d x.N = true := by rfl) : TL x ops (⟨some d, .indexAddr t o i, ty, pos, af, none⟩ :: rest) Q E ρ L := tl_y y hd rfl k
theorem jIa {o i : Operand} {t : Nat} (h : TS x ops (⟨dd, .indexAddr t o i, ty, pos, af, none⟩ :: rest) tail Q E ρ L) : TS x ops (⟨dd, .indexAddr t o i, ty, pos, af, none⟩ :: rest) tail Q E ρ L := h
theorem sIa {o i : Operand} {t : Nat} (k : TS x ops rest tail Q ((d, v) :: E) ρ L) (y : Yl x (.indexAddr t o i) ty E ρ L v := by first | exact y_indexAddr_nat rfl rfl (by omega) | exact y_indexAddr rfl rfl (by omega) (by omega) | exact y_indexAddr_arrN rfl rfl (by omega) | exact y_indexAddr_arr rfl rfl (by omega) (by omega)) (hd : Nat.blt d x.N = true := by rfl) : TS x ops (⟨some d, .indexAddr t o i, ty, pos, af, none⟩ :: rest) tail Q E ρ L := ts_y y hd k
theorem rIa (n0 : Nat) {o i : Operand} {t : Nat} (k : TR x l (Stays x ρ0 Ls) fuel (lset listed n0) Q ((d, v) :: E) ρ L) (hb : takeB l listed n0 = true := by decide +kernel) (hi : l[n0]? = some ⟨some d, .indexAddr t o i, ty, pos, af, none⟩ := by rfl) (y : ∀ ρ', ρ0.le ρ' → Yl x (.indexAddr t o i) ty E ρ' Ls v := by intro _ _; first | exact y_indexAddr_nat rfl rfl (by omega) | exact y_indexAddr rfl rfl (by omega) (by omega) | exact y_indexAddr_arrN rfl rfl (by omega) | exact y_indexAddr_arr rfl rfl (by omega) (by omega)) (hd : Nat.blt d x.N = true := by rfl) : TR x l (Stays x ρ0 Ls) (fuel + 1) listed Q E ρ L := tr_take n0 hb hi (ys_of' (fun _ h => h) y) hd k
theorem wIa (n0 : Nat) {o i : Operand} {t : Nat} {j t0 : Nat} {b0 : Bool} (k : TR x l (Stays x ρ0 Ls) fuel (lset listed n0) Q ((d, v) :: E) ρ L) (hb : takeB l listed n0 = true := by decide +kernel) (hi : l[n0]? = some ⟨some d, .indexAddr t o i, ty, pos, af, some (j, b0)⟩ := by rfl) (hj : (l[j]?).bind (·.dst) = some t0 := by rfl) (he : lk E t0 = some (.bool b0) := by rfl) (y : ∀ ρ', ρ0.le ρ' → Yl x (.indexAddr t o i) ty E ρ' Ls v := by intro _ _; first | exact y_indexAddr_nat rfl rfl (by omega) | exact y_indexAddr rfl rfl (by omega) (by omega) | exact y_indexAddr_arrN rfl rfl (by omega) | exact y_indexAddr_arr rfl rfl (by omega) (by omega)) (hd : Nat.blt d x.N = true := by rfl) : TR x l (Stays x ρ0 Ls) (fuel + 1) listed Q E ρ L := tr_want n0 hb hi hj he (ys_of' (fun _ h => h) y) hd k
theorem iCv {o : Operand} {s t : Nat} (h : TL x ops (⟨dd, .convert s t o, ty, pos, af, none⟩ :: rest) Q E ρ L) : TL x ops (⟨dd, .convert s t o, ty, pos, af, none⟩ :: rest) Q E ρ L := h
theorem qCv {o : Operand} {s t : Nat} (k : TL x ops rest Q ((d, v) :: E) ρ L) (y : Yl x (.convert s t o) ty E ρ L v := by first | exact y_conv rfl) (hd : Nat.blt d x.N = true := by rfl) : TL x ops (⟨some d, .convert s t o, ty, pos, af, none⟩ :: rest) Q E ρ L := tl_y y hd rfl k
theorem jCv {o : Operand} {s t : Nat} (h : TS x ops (⟨dd, .convert s t o, ty, pos, af, none⟩ :: rest) tail Q E ρ L) : TS x ops (⟨dd, .convert s t o, ty, pos, af, none⟩ :: rest) tail Q E ρ L := h
theorem sCv {o : Operand} {s t : Nat} (k : TS x ops rest tail Q ((d, v) :: E) ρ L) (y : Yl x (.convert s t o) ty E ρ L v := by first | exact y_conv rfl) (hd : Nat.blt d x.N = true := by rfl) : TS x ops (⟨some d, .convert s t o, ty, pos, af, none⟩ :: rest) tail Q E ρ L := ts_y y hd k
theorem rCv (n0 : Nat) {o : Operand} {s t : Nat} (k : TR x l (Stays x ρ0 Ls) fuel (lset listed n0) Q ((d, v) :: E) ρ L) (hb : takeB l listed n0 = true := by decide +kernel) (hi : l[n0]? = some ⟨some d, .convert s t o, ty, pos, af, none⟩ := by rfl) (y : ∀ ρ', ρ0.le ρ' → Yl x (.convert s t o) ty E ρ' Ls v := by intro _ _; first | exact y_conv rfl) (hd : Nat.blt d x.N = true := by rfl) : TR x l (Stays x ρ0 Ls) (fuel + 1) listed Q E ρ L := tr_take n0 hb hi (ys_of' (fun _ h => h) y) hd k
theorem wCv (n0 : Nat) {o : Operand} {s t : Nat} {j t0 : Nat} {b0 : Bool} (k : TR x l (Stays x ρ0 Ls) fuel (lset listed n0) Q ((d, v) :: E) ρ L) (hb : takeB l listed n0 = true := by decide +kernel) (hi : l[n0]? = some ⟨some d, .convert s t o, ty, pos, af, some (j, b0)⟩ := by rfl) (hj : (l[j]?).bind (·.dst) = some t0 := by rfl) (he : lk E t0 = some (.bool b0) := by rfl) (y : ∀ ρ', ρ0.le ρ' → Yl x (.convert s t o) ty E ρ' Ls v := by intro _ _; first | exact y_conv rfl) (hd : Nat.blt d x.N = true := by rfl) : TR x l (Stays x ρ0 Ls) (fuel + 1) listed Q E ρ L := tr_want n0 hb hi hj he (ys_of' (fun _ h => h) y) hd k
theorem iBi {b : Builtin} {xs : Array Operand} {ats : Array TypeId} (h : TL x ops (⟨dd, .call { callee := .builtin b, args := xs, argTypes := ats }, ty, pos, af, none⟩ :: rest) Q E ρ L) : TL x ops (⟨dd, .call { callee := .builtin b, args := xs, argTypes := ats }, ty, pos, af, none⟩ :: rest) Q E ρ L := h
theorem qBi {b : Builtin} {xs : Array Operand} {ats : Array TypeId} (k : TL x ops rest Q ((d, v) :: E) ρ L) (y : Yl x (.call { callee := .builtin b, args := xs, argTypes := ats }) ty E ρ L v := by first | exact y_len rfl | exact y_cap rfl | exact y_max rfl rfl | exact y_min rfl rfl) (hd : Nat.blt d x.N = true := by rfl) : TL x ops (⟨some d, .call { callee := .builtin b, args := xs, argTypes := ats }, ty, pos, af, none⟩ :: rest) Q E ρ L := tl_y y hd rfl k
theorem jBi {b : Builtin} {xs : Array Operand} {ats : Array TypeId} (h : TS x ops (⟨dd, .call { callee := .builtin b, args := xs, argTypes := ats }, ty, pos, af, none⟩ :: rest) tail Q E ρ L) : TS x ops (⟨dd, .call { callee := .builtin b, args := xs, argTypes := ats }, ty, pos, af, none⟩ :: rest) tail Q E ρ L := h
theorem sBi {b : Builtin} {xs : Array Operand} {ats : Array TypeId} (k : TS x ops rest tail Q ((d, v) :: E) ρ L) (y : Yl x (.call { callee := .builtin b, args := xs, argTypes := ats }) ty E ρ L v := by first | exact y_len rfl | exact y_cap rfl | exact y_max rfl rfl | exact y_min rfl rfl) (hd : Nat.blt d x.N = true := by rfl) : TS x ops (⟨some d, .call { callee := .builtin b, args := xs, argTypes := ats }, ty, pos, af, none⟩ :: rest) tail Q E ρ L := ts_y y hd k
theorem rBi (n0 : Nat) {b : Builtin} {xs : Array Operand} {ats : Array TypeId} (k : TR x l (Stays x ρ0 Ls) fuel (lset listed n0) Q ((d, v) :: E) ρ L) (hb : takeB l listed n0 = true := by decide +kernel) (hi : l[n0]? = some ⟨some d, .call { callee := .builtin b, args := xs, argTypes := ats }, ty, pos, af, none⟩ := by rfl) (y : ∀ ρ', ρ0.le ρ' → Yl x (.call { callee := .builtin b, args := xs, argTypes := ats }) ty E ρ' Ls v := by intro _ _; first | exact y_len rfl | exact y_cap rfl | exact y_max rfl rfl | exact y_min rfl rfl) (hd : Nat.blt d x.N = true := by rfl) : TR x l (Stays x ρ0 Ls) (fuel + 1) listed Q E ρ L := tr_take n0 hb hi (ys_of' (fun _ h => h) y) hd k
theorem wBi (n0 : Nat) {b : Builtin} {xs : Array Operand} {ats : Array TypeId} {j t0 : Nat} {b0 : Bool} (k : TR x l (Stays x ρ0 Ls) fuel (lset listed n0) Q ((d, v) :: E) ρ L) (hb : takeB l listed n0 = true := by decide +kernel) (hi : l[n0]? = some ⟨some d, .call { callee := .builtin b, args := xs, argTypes := ats }, ty, pos, af, some (j, b0)⟩ := by rfl) (hj : (l[j]?).bind (·.dst) = some t0 := by rfl) (he : lk E t0 = some (.bool b0) := by rfl) (y : ∀ ρ', ρ0.le ρ' → Yl x (.call { callee := .builtin b, args := xs, argTypes := ats }) ty E ρ' Ls v := by intro _ _; first | exact y_len rfl | exact y_cap rfl | exact y_max rfl rfl | exact y_min rfl rfl) (hd : Nat.blt d x.N = true := by rfl) : TR x l (Stays x ρ0 Ls) (fuel + 1) listed Q E ρ L := tr_want n0 hb hi hj he (ys_of' (fun _ h => h) y) hd k
theorem iUn {o : UnOp} {p : Operand} {t : Nat} (h : TL x ops (⟨dd, .unOp o t p, ty, pos, af, none⟩ :: rest) Q E ρ L) : TL x ops (⟨dd, .unOp o t p, ty, pos, af, none⟩ :: rest) Q E ρ L := h
theorem qUn {o : UnOp} {p : Operand} {t : Nat} (k : TL x ops rest Q ((d, v) :: E) ρ L) (y : Yl x (.unOp o t p) ty E ρ L v := by first | exact y_not rfl | exact y_neg rfl) (hd : Nat.blt d x.N = true := by rfl) : TL x ops (⟨some d, .unOp o t p, ty, pos, af, none⟩ :: rest) Q E ρ L := tl_y y hd rfl k
theorem jUn {o : UnOp} {p : Operand} {t : Nat} (h : TS x ops (⟨dd, .unOp o t p, ty, pos, af, none⟩ :: rest) tail Q E ρ L) : TS x ops (⟨dd, .unOp o t p, ty, pos, af, none⟩ :: rest) tail Q E ρ L := h
theorem sUn {o : UnOp} {p : Operand} {t : Nat} (k : TS x ops rest tail Q ((d, v) :: E) ρ L) (y : Yl x (.unOp o t p) ty E ρ L v := by first | exact y_not rfl | exact y_neg rfl) (hd : Nat.blt d x.N = true := by rfl) : TS x ops (⟨some d, .unOp o t p, ty, pos, af, none⟩ :: rest) tail Q E ρ L := ts_y y hd k
theorem rUn (n0 : Nat) {o : UnOp} {p : Operand} {t : Nat} (k : TR x l (Stays x ρ0 Ls) fuel (lset listed n0) Q ((d, v) :: E) ρ L) (hb : takeB l listed n0 = true := by decide +kernel) (hi : l[n0]? = some ⟨some d, .unOp o t p, ty, pos, af, none⟩ := by rfl) (y : ∀ ρ', ρ0.le ρ' → Yl x (.unOp o t p) ty E ρ' Ls v := by intro _ _; first | exact y_not rfl | exact y_neg rfl) (hd : Nat.blt d x.N = true := by rfl) : TR x l (Stays x ρ0 Ls) (fuel + 1) listed Q E ρ L := tr_take n0 hb hi (ys_of' (fun _ h => h) y) hd k
theorem wUn (n0 : Nat) {o : UnOp} {p : Operand} {t : Nat} {j t0 : Nat} {b0 : Bool} (k : TR x l (Stays x ρ0 Ls) fuel (lset listed n0) Q ((d, v) :: E) ρ L) (hb : takeB l listed n0 = true := by decide +kernel) (hi : l[n0]? = some ⟨some d, .unOp o t p, ty, pos, af, some (j, b0)⟩ := by rfl) (hj : (l[j]?).bind (·.dst) = some t0 := by rfl) (he : lk E t0 = some (.bool b0) := by rfl) (y : ∀ ρ', ρ0.le ρ' → Yl x (.unOp o t p) ty E ρ' Ls v := by intro _ _; first | exact y_not rfl | exact y_neg rfl) (hd : Nat.blt d x.N = true := by rfl) : TR x l (Stays x ρ0 Ls) (fuel + 1) listed Q E ρ L := tr_want n0 hb hi hj he (ys_of' (fun _ h => h) y) hd k
theorem iFl {o : Operand} {s f : Nat} (h : TL x ops (⟨dd, .field s o f, ty, pos, af, none⟩ :: rest) Q E ρ L) : TL x ops (⟨dd, .field s o f, ty, pos, af, none⟩ :: rest) Q E ρ L := h
theorem qFl {o : Operand} {s f : Nat} (k : TL x ops rest Q ((d, v) :: E) ρ L) (y : Yl x (.field s o f) ty E ρ L v := by first | exact y_field_s rfl rfl | exact y_field_a rfl rfl) (hd : Nat.blt d x.N = true := by rfl) : TL x ops (⟨some d, .field s o f, ty, pos, af, none⟩ :: rest) Q E ρ L := tl_y y hd rfl k
theorem jFl {o : Operand} {s f : Nat} (h : TS x ops (⟨dd, .field s o f, ty, pos, af, none⟩ :: rest) tail Q E ρ L) : TS x ops (⟨dd, .field s o f, ty, pos, af, none⟩ :: rest) tail Q E ρ L := h
theorem sFl {o : Operand} {s f : Nat} (k : TS x ops rest tail Q ((d, v) :: E) ρ L) (y : Yl x (.field s o f) ty E ρ L v := by first | exact y_field_s rfl rfl | exact y_field_a rfl rfl) (hd : Nat.blt d x.N = true := by rfl) : TS x ops (⟨some d, .field s o f, ty, pos, af, none⟩ :: rest) tail Q E ρ L := ts_y y hd k
theorem rFl (n0 : Nat) {o : Operand} {s f : Nat} (k : TR x l (Stays x ρ0 Ls) fuel (lset listed n0) Q ((d, v) :: E) ρ L) (hb : takeB l listed n0 = true := by decide +kernel) (hi : l[n0]? = some ⟨some d, .field s o f, ty, pos, af, none⟩ := by rfl) (y : ∀ ρ', ρ0.le ρ' → Yl x (.field s o f) ty E ρ' Ls v := by intro _ _; first | exact y_field_s rfl rfl | exact y_field_a rfl rfl) (hd : Nat.blt d x.N = true := by rfl) : TR x l (Stays x ρ0 Ls) (fuel + 1) listed Q E ρ L := tr_take n0 hb hi (ys_of' (fun _ h => h) y) hd k
theorem wFl (n0 : Nat) {o : Operand} {s f : Nat} {j t0 : Nat} {b0 : Bool} (k : TR x l (Stays x ρ0 Ls) fuel (lset listed n0) Q ((d, v) :: E) ρ L) (hb : takeB l listed n0 = true := by decide +kernel) (hi : l[n0]? = some ⟨some d, .field s o f, ty, pos, af, some (j, b0)⟩ := by rfl) (hj : (l[j]?).bind (·.dst) = some t0 := by rfl) (he : lk E t0 = some (.bool b0) := by rfl) (y : ∀ ρ', ρ0.le ρ' → Yl x (.field s o f) ty E ρ' Ls v := by intro _ _; first | exact y_field_s rfl rfl | exact y_field_a rfl rfl) (hd : Nat.blt d x.N = true := by rfl) : TR x l (Stays x ρ0 Ls) (fuel + 1) listed Q E ρ L := tr_want n0 hb hi hj he (ys_of' (fun _ h => h) y) hd k
theorem iLu {o i : Operand} {t : Nat} {c : Bool} (h : TL x ops (⟨dd, .lookup t o i c, ty, pos, af, none⟩ :: rest) Q E ρ L) : TL x ops (⟨dd, .lookup t o i c, ty, pos, af, none⟩ :: rest) Q E ρ L := h
theorem qLu {o i : Operand} {t : Nat} {c : Bool} (k : TL x ops rest Q ((d, v) :: E) ρ L) (y : Yl x (.lookup t o i c) ty E ρ L v := by first | exact y_lookup_ok2 rfl rfl (by assumption) (by assumption) | exact y_lookup2 rfl rfl (by assumption) (by assumption) | exact y_lookup_ok rfl rfl (by assumption) | exact y_lookup rfl rfl (by assumption)) (hd : Nat.blt d x.N = true := by rfl) : TL x ops (⟨some d, .lookup t o i c, ty, pos, af, none⟩ :: rest) Q E ρ L := tl_y y hd rfl k
theorem jLu {o i : Operand} {t : Nat} {c : Bool} (h : TS x ops (⟨dd, .lookup t o i c, ty, pos, af, none⟩ :: rest) tail Q E ρ L) : TS x ops (⟨dd, .lookup t o i c, ty, pos, af, none⟩ :: rest) tail Q E ρ L := h
theorem sLu {o i : Operand} {t : Nat} {c : Bool} (k : TS x ops rest tail Q ((d, v) :: E) ρ L) (y : Yl x (.lookup t o i c) ty E ρ L v := by first | exact y_lookup_ok2 rfl rfl (by assumption) (by assumption) | exact y_lookup2 rfl rfl (by assumption) (by assumption) | exact y_lookup_ok rfl rfl (by assumption) | exact y_lookup rfl rfl (by assumption)) (hd : Nat.blt d x.N = true := by rfl) : TS x ops (⟨some d, .lookup t o i c, ty, pos, af, none⟩ :: rest) tail Q E ρ L := ts_y y hd k
theorem rLu (n0 : Nat) {o i : Operand} {t : Nat} {c : Bool} (k : TR x l (Stays x ρ0 Ls) fuel (lset listed n0) Q ((d, v) :: E) ρ L) (hb : takeB l listed n0 = true := by decide +kernel) (hi : l[n0]? = some ⟨some d, .lookup t o i c, ty, pos, af, none⟩ := by rfl) (y : ∀ ρ', ρ0.le ρ' → Yl x (.lookup t o i c) ty E ρ' Ls v := by intro _ _; first | exact y_lookup_ok2 rfl rfl (by assumption) (by assumption) | exact y_lookup2 rfl rfl (by assumption) (by assumption) | exact y_lookup_ok rfl rfl (by assumption) | exact y_lookup rfl rfl (by assumption)) (hd : Nat.blt d x.N = true := by rfl) : TR x l (Stays x ρ0 Ls) (fuel + 1) listed Q E ρ L := tr_take n0 hb hi (ys_of' (fun _ h => h) y) hd k
theorem wLu (n0 : Nat) {o i : Operand} {t : Nat} {c : Bool} {j t0 : Nat} {b0 : Bool} (k : TR x l (Stays x ρ0 Ls) fuel (lset listed n0) Q ((d, v) :: E) ρ L) (hb : takeB l listed n0 = true := by decide +kernel) (hi : l[n0]? = some ⟨some d, .lookup t o i c, ty, pos, af, some (j, b0)⟩ := by rfl) (hj : (l[j]?).bind (·.dst) = some t0 := by rfl) (he : lk E t0 = some (.bool b0) := by rfl) (y : ∀ ρ', ρ0.le ρ' → Yl x (.lookup t o i c) ty E ρ' Ls v := by intro _ _; first | exact y_lookup_ok2 rfl rfl (by assumption) (by assumption) | exact y_lookup2 rfl rfl (by assumption) (by assumption) | exact y_lookup_ok rfl rfl (by assumption) | exact y_lookup rfl rfl (by assumption)) (hd : Nat.blt d x.N = true := by rfl) : TR x l (Stays x ρ0 Ls) (fuel + 1) listed Q E ρ L := tr_want n0 hb hi hj he (ys_of' (fun _ h => h) y) hd k
theorem iBu {t : Nat} {ps : Array (Nat × Operand)} (h : TL x ops (⟨dd, .build t ps, ty, pos, af, none⟩ :: rest) Q E ρ L) : TL x ops (⟨dd, .build t ps, ty, pos, af, none⟩ :: rest) Q E ρ L := h
theorem qBu {t : Nat} {ps : Array (Nat × Operand)} (k : TL x ops rest Q ((d, v) :: E) ρ L) (y : Yl x (.build t ps) ty E ρ L v := by first | exact y_buildS rfl rfl | exact y_build rfl (by assumption) | exact y_build rfl rfl | exact y_build (vs := []) rfl rfl) (hd : Nat.blt d x.N = true := by rfl) : TL x ops (⟨some d, .build t ps, ty, pos, af, none⟩ :: rest) Q E ρ L := tl_y y hd rfl k
theorem jBu {t : Nat} {ps : Array (Nat × Operand)} (h : TS x ops (⟨dd, .build t ps, ty, pos, af, none⟩ :: rest) tail Q E ρ L) : TS x ops (⟨dd, .build t ps, ty, pos, af, none⟩ :: rest) tail Q E ρ L := h
theorem sBu {t : Nat} {ps : Array (Nat × Operand)} (k : TS x ops rest tail Q ((d, v) :: E) ρ L) (y : Yl x (.build t ps) ty E ρ L v := by first | exact y_buildS rfl rfl | exact y_build rfl (by assumption) | exact y_build rfl rfl | exact y_build (vs := []) rfl rfl) (hd : Nat.blt d x.N = true := by rfl) : TS x ops (⟨some d, .build t ps, ty, pos, af, none⟩ :: rest) tail Q E ρ L := ts_y y hd k
theorem rBu (n0 : Nat) {t : Nat} {ps : Array (Nat × Operand)} (k : TR x l (Stays x ρ0 Ls) fuel (lset listed n0) Q ((d, v) :: E) ρ L) (hb : takeB l listed n0 = true := by decide +kernel) (hi : l[n0]? = some ⟨some d, .build t ps, ty, pos, af, none⟩ := by rfl) (y : ∀ ρ', ρ0.le ρ' → Yl x (.build t ps) ty E ρ' Ls v := by intro _ _; first | exact y_buildS rfl rfl | exact y_build rfl (by assumption) | exact y_build rfl rfl | exact y_build (vs := []) rfl rfl) (hd : Nat.blt d x.N = true := by rfl) : TR x l (Stays x ρ0 Ls) (fuel + 1) listed Q E ρ L := tr_take n0 hb hi (ys_of' (fun _ h => h) y) hd k
theorem wBu (n0 : Nat) {t : Nat} {ps : Array (Nat × Operand)} {j t0 : Nat} {b0 : Bool} (k : TR x l (Stays x ρ0 Ls) fuel (lset listed n0) Q ((d, v) :: E) ρ L) (hb : takeB l listed n0 = true := by decide +kernel) (hi : l[n0]? = some ⟨some d, .build t ps, ty, pos, af, some (j, b0)⟩ := by rfl) (hj : (l[j]?).bind (·.dst) = some t0 := by rfl) (he : lk E t0 = some (.bool b0) := by rfl) (y : ∀ ρ', ρ0.le ρ' → Yl x (.build t ps) ty E ρ' Ls v := by intro _ _; first | exact y_buildS rfl rfl | exact y_build rfl (by assumption) | exact y_build rfl rfl | exact y_build (vs := []) rfl rfl) (hd : Nat.blt d x.N = true := by rfl) : TR x l (Stays x ρ0 Ls) (fuel + 1) listed Q E ρ L := tr_want n0 hb hi hj he (ys_of' (fun _ h => h) y) hd k
theorem iSl {t : Nat} {o : Operand} {lw hg mx : Option Operand} (h : TL x ops (⟨dd, .slice t o lw hg mx, ty, pos, af, none⟩ :: rest) Q E ρ L) : TL x ops (⟨dd, .slice t o lw hg mx, ty, pos, af, none⟩ :: rest) Q E ρ L := h
theorem qSl {t : Nat} {o : Operand} {lw hg mx : Option Operand} (k : TL x ops rest Q ((d, v) :: E) ρ L) (y : Yl x (.slice t o lw hg mx) ty E ρ L v := by first | exact y_slice_h rfl rfl (by omega) (by omega)) (hd : Nat.blt d x.N = true := by rfl) : TL x ops (⟨some d, .slice t o lw hg mx, ty, pos, af, none⟩ :: rest) Q E ρ L := tl_y y hd rfl k
theorem jSl {t : Nat} {o : Operand} {lw hg mx : Option Operand} (h : TS x ops (⟨dd, .slice t o lw hg mx, ty, pos, af, none⟩ :: rest) tail Q E ρ L) : TS x ops (⟨dd, .slice t o lw hg mx, ty, pos, af, none⟩ :: rest) tail Q E ρ L := h
theorem sSl {t : Nat} {o : Operand} {lw hg mx : Option Operand} (k : TS x ops rest tail Q ((d, v) :: E) ρ L) (y : Yl x (.slice t o lw hg mx) ty E ρ L v := by first | exact y_slice_h rfl rfl (by omega) (by omega)) (hd : Nat.blt d x.N = true := by rfl) : TS x ops (⟨some d, .slice t o lw hg mx, ty, pos, af, none⟩ :: rest) tail Q E ρ L := ts_y y hd k
theorem rSl (n0 : Nat) {t : Nat} {o : Operand} {lw hg mx : Option Operand} (k : TR x l (Stays x ρ0 Ls) fuel (lset listed n0) Q ((d, v) :: E) ρ L) (hb : takeB l listed n0 = true := by decide +kernel) (hi : l[n0]? = some ⟨some d, .slice t o lw hg mx, ty, pos, af, none⟩ := by rfl) (y : ∀ ρ', ρ0.le ρ' → Yl x (.slice t o lw hg mx) ty E ρ' Ls v := by intro _ _; first | exact y_slice_h rfl rfl (by omega) (by omega)) (hd : Nat.blt d x.N = true := by rfl) : TR x l (Stays x ρ0 Ls) (fuel + 1) listed Q E ρ L := tr_take n0 hb hi (ys_of' (fun _ h => h) y) hd k
theorem wSl (n0 : Nat) {t : Nat} {o : Operand} {lw hg mx : Option Operand} {j t0 : Nat} {b0 : Bool} (k : TR x l (Stays x ρ0 Ls) fuel (lset listed n0) Q ((d, v) :: E) ρ L) (hb : takeB l listed n0 = true := by decide +kernel) (hi : l[n0]? = some ⟨some d, .slice t o lw hg mx, ty, pos, af, some (j, b0)⟩ := by rfl) (hj : (l[j]?).bind (·.dst) = some t0 := by rfl) (he : lk E t0 = some (.bool b0) := by rfl) (y : ∀ ρ', ρ0.le ρ' → Yl x (.slice t o lw hg mx) ty E ρ' Ls v := by intro _ _; first | exact y_slice_h rfl rfl (by omega) (by omega)) (hd : Nat.blt d x.N = true := by rfl) : TR x l (Stays x ρ0 Ls) (fuel + 1) listed Q E ρ L := tr_want n0 hb hi hj he (ys_of' (fun _ h => h) y) hd k
theorem iMi {o : Operand} {t : Nat} (h : TL x ops (⟨dd, .makeInterface t o, ty, pos, af, none⟩ :: rest) Q E ρ L) : TL x ops (⟨dd, .makeInterface t o, ty, pos, af, none⟩ :: rest) Q E ρ L := h
theorem qMi {o : Operand} {t : Nat} (k : TL x ops rest Q ((d, v) :: E) ρ L) (y : Yl x (.makeInterface t o) ty E ρ L v := by first | exact y_makeInterface rfl) (hd : Nat.blt d x.N = true := by rfl) : TL x ops (⟨some d, .makeInterface t o, ty, pos, af, none⟩ :: rest) Q E ρ L := tl_y y hd rfl k
theorem jMi {o : Operand} {t : Nat} (h : TS x ops (⟨dd, .makeInterface t o, ty, pos, af, none⟩ :: rest) tail Q E ρ L) : TS x ops (⟨dd, .makeInterface t o, ty, pos, af, none⟩ :: rest) tail Q E ρ L := h
theorem sMi {o : Operand} {t : Nat} (k : TS x ops rest tail Q ((d, v) :: E) ρ L) (y : Yl x (.makeInterface t o) ty E ρ L v := by first | exact y_makeInterface rfl) (hd : Nat.blt d x.N = true := by rfl) : TS x ops (⟨some d, .makeInterface t o, ty, pos, af, none⟩ :: rest) tail Q E ρ L := ts_y y hd k
theorem rMi (n0 : Nat) {o : Operand} {t : Nat} (k : TR x l (Stays x ρ0 Ls) fuel (lset listed n0) Q ((d, v) :: E) ρ L) (hb : takeB l listed n0 = true := by decide +kernel) (hi : l[n0]? = some ⟨some d, .makeInterface t o, ty, pos, af, none⟩ := by rfl) (y : ∀ ρ', ρ0.le ρ' → Yl x (.makeInterface t o) ty E ρ' Ls v := by intro _ _; first | exact y_makeInterface rfl) (hd : Nat.blt d x.N = true := by rfl) : TR x l (Stays x ρ0 Ls) (fuel + 1) listed Q E ρ L := tr_take n0 hb hi (ys_of' (fun _ h => h) y) hd k
theorem wMi (n0 : Nat) {o : Operand} {t : Nat} {j t0 : Nat} {b0 : Bool} (k : TR x l (Stays x ρ0 Ls) fuel (lset listed n0) Q ((d, v) :: E) ρ L) (hb : takeB l listed n0 = true := by decide +kernel) (hi : l[n0]? = some ⟨some d, .makeInterface t o, ty, pos, af, some (j, b0)⟩ := by rfl) (hj : (l[j]?).bind (·.dst) = some t0 := by rfl) (he : lk E t0 = some (.bool b0) := by rfl) (y : ∀ ρ', ρ0.le ρ' → Yl x (.makeInterface t o) ty E ρ' Ls v := by intro _ _; first | exact y_makeInterface rfl) (hd : Nat.blt d x.N = true := by rfl) : TR x l (Stays x ρ0 Ls) (fuel + 1) listed Q E ρ L := tr_want n0 hb hi hj he (ys_of' (fun _ h => h) y) hd k
theorem iTa {o : Operand} {s t : Nat} {c : Bool} (h : TL x ops (⟨dd, .typeAssert o s t c, ty, pos, af, none⟩ :: rest) Q E ρ L) : TL x ops (⟨dd, .typeAssert o s t c, ty, pos, af, none⟩ :: rest) Q E ρ L := h
theorem qTa {o : Operand} {s t : Nat} {c : Bool} (k : TL x ops rest Q ((d, v) :: E) ρ L) (y : Yl x (.typeAssert o s t c) ty E ρ L v := by first | exact y_typeAssert rfl) (hd : Nat.blt d x.N = true := by rfl) : TL x ops (⟨some d, .typeAssert o s t c, ty, pos, af, none⟩ :: rest) Q E ρ L := tl_y y hd rfl k
theorem jTa {o : Operand} {s t : Nat} {c : Bool} (h : TS x ops (⟨dd, .typeAssert o s t c, ty, pos, af, none⟩ :: rest) tail Q E ρ L) : TS x ops (⟨dd, .typeAssert o s t c, ty, pos, af, none⟩ :: rest) tail Q E ρ L := h
theorem sTa {o : Operand} {s t : Nat} {c : Bool} (k : TS x ops rest tail Q ((d, v) :: E) ρ L) (y : Yl x (.typeAssert o s t c) ty E ρ L v := by first | exact y_typeAssert rfl) (hd : Nat.blt d x.N = true := by rfl) : TS x ops (⟨some d, .typeAssert o s t c, ty, pos, af, none⟩ :: rest) tail Q E ρ L := ts_y y hd k
theorem rTa (n0 : Nat) {o : Operand} {s t : Nat} {c : Bool} (k : TR x l (Stays x ρ0 Ls) fuel (lset listed n0) Q ((d, v) :: E) ρ L) (hb : takeB l listed n0 = true := by decide +kernel) (hi : l[n0]? = some ⟨some d, .typeAssert o s t c, ty, pos, af, none⟩ := by rfl) (y : ∀ ρ', ρ0.le ρ' → Yl x (.typeAssert o s t c) ty E ρ' Ls v := by intro _ _; first | exact y_typeAssert rfl) (hd : Nat.blt d x.N = true := by rfl) : TR x l (Stays x ρ0 Ls) (fuel + 1) listed Q E ρ L := tr_take n0 hb hi (ys_of' (fun _ h => h) y) hd k
theorem wTa (n0 : Nat) {o : Operand} {s t : Nat} {c : Bool} {j t0 : Nat} {b0 : Bool} (k : TR x l (Stays x ρ0 Ls) fuel (lset listed n0) Q ((d, v) :: E) ρ L) (hb : takeB l listed n0 = true := by decide +kernel) (hi : l[n0]? = some ⟨some d, .typeAssert o s t c, ty, pos, af, some (j, b0)⟩ := by rfl) (hj : (l[j]?).bind (·.dst) = some t0 := by rfl) (he : lk E t0 = some (.bool b0) := by rfl) (y : ∀ ρ', ρ0.le ρ' → Yl x (.typeAssert o s t c) ty E ρ' Ls v := by intro _ _; first | exact y_typeAssert rfl) (hd : Nat.blt d x.N = true := by rfl) : TR x l (Stays x ρ0 Ls) (fuel + 1) listed Q E ρ L := tr_want n0 hb hi hj he (ys_of' (fun _ h => h) y) hd k
theorem iMf {fn : Fn} {p q : Array Operand} (h : TL x ops (⟨dd, .makeFunc fn p q, ty, pos, af, none⟩ :: rest) Q E ρ L) : TL x ops (⟨dd, .makeFunc fn p q, ty, pos, af, none⟩ :: rest) Q E ρ L := h
theorem qMf {fn : Fn} {p q : Array Operand} (k : TL x ops rest Q ((d, v) :: E) ρ L) (y : Yl x (.makeFunc fn p q) ty E ρ L v := by first | exact y_makeFunc rfl rfl) (hd : Nat.blt d x.N = true := by rfl) : TL x ops (⟨some d, .makeFunc fn p q, ty, pos, af, none⟩ :: rest) Q E ρ L := tl_y y hd rfl k
theorem jMf {fn : Fn} {p q : Array Operand} (h : TS x ops (⟨dd, .makeFunc fn p q, ty, pos, af, none⟩ :: rest) tail Q E ρ L) : TS x ops (⟨dd, .makeFunc fn p q, ty, pos, af, none⟩ :: rest) tail Q E ρ L := h
theorem sMf {fn : Fn} {p q : Array Operand} (k : TS x ops rest tail Q ((d, v) :: E) ρ L) (y : Yl x (.makeFunc fn p q) ty E ρ L v := by first | exact y_makeFunc rfl rfl) (hd : Nat.blt d x.N = true := by rfl) : TS x ops (⟨some d, .makeFunc fn p q, ty, pos, af, none⟩ :: rest) tail Q E ρ L := ts_y y hd k
theorem rMf (n0 : Nat) {fn : Fn} {p q : Array Operand} (k : TR x l (Stays x ρ0 Ls) fuel (lset listed n0) Q ((d, v) :: E) ρ L) (hb : takeB l listed n0 = true := by decide +kernel) (hi : l[n0]? = some ⟨some d, .makeFunc fn p q, ty, pos, af, none⟩ := by rfl) (y : ∀ ρ', ρ0.le ρ' → Yl x (.makeFunc fn p q) ty E ρ' Ls v := by intro _ _; first | exact y_makeFunc rfl rfl) (hd : Nat.blt d x.N = true := by rfl) : TR x l (Stays x ρ0 Ls) (fuel + 1) listed Q E ρ L := tr_take n0 hb hi (ys_of' (fun _ h => h) y) hd k
theorem wMf (n0 : Nat) {fn : Fn} {p q : Array Operand} {j t0 : Nat} {b0 : Bool} (k : TR x l (Stays x ρ0 Ls) fuel (lset listed n0) Q ((d, v) :: E) ρ L) (hb : takeB l listed n0 = true := by decide +kernel) (hi : l[n0]? = some ⟨some d, .makeFunc fn p q, ty, pos, af, some (j, b0)⟩ := by rfl) (hj : (l[j]?).bind (·.dst) = some t0 := by rfl) (he : lk E t0 = some (.bool b0) := by rfl) (y : ∀ ρ', ρ0.le ρ' → Yl x (.makeFunc fn p q) ty E ρ' Ls v := by intro _ _; first | exact y_makeFunc rfl rfl) (hd : Nat.blt d x.N = true := by rfl) : TR x l (Stays x ρ0 Ls) (fuel + 1) listed Q E ρ L := tr_want n0 hb hi hj he (ys_of' (fun _ h => h) y) hd k
theorem iSt {o p : Operand} {t : Nat} (h : TL x ops (⟨dd, .store t o p, ty, pos, af, none⟩ :: rest) Q E ρ L) : TL x ops (⟨dd, .store t o p, ty, pos, af, none⟩ :: rest) Q E ρ L := h
theorem iAl {t : Nat} (h : TL x ops (⟨dd, .alloc t, ty, pos, af, none⟩ :: rest) Q E ρ L) : TL x ops (⟨dd, .alloc t, ty, pos, af, none⟩ :: rest) Q E ρ L := h
theorem iBx {t : Nat} {o : Operand} (h : TL x ops (⟨dd, .box t o, ty, pos, af, none⟩ :: rest) Q E ρ L) : TL x ops (⟨dd, .box t o, ty, pos, af, none⟩ :: rest) Q E ρ L := h
theorem iMm {t : Nat} {o : Option Operand} (h : TL x ops (⟨dd, .makeMap t o, ty, pos, af, none⟩ :: rest) Q E ρ L) : TL x ops (⟨dd, .makeMap t o, ty, pos, af, none⟩ :: rest) Q E ρ L := h
theorem iBs {t n : Nat} {ps : Array (Nat × Operand)} (h : TL x ops (⟨dd, .buildSlice t n ps, ty, pos, af, none⟩ :: rest) Q E ρ L) : TL x ops (⟨dd, .buildSlice t n ps, ty, pos, af, none⟩ :: rest) Q E ρ L := h
theorem iMu {t : Nat} {m p q : Operand} (h : TL x ops (⟨dd, .mapUpdate t m p q, ty, pos, af, none⟩ :: rest) Q E ρ L) : TL x ops (⟨dd, .mapUpdate t m p q, ty, pos, af, none⟩ :: rest) Q E ρ L := h

theorem wSkip (i : Nat) {j t : Nat} {b c : Bool} (k : TR x l (Stays x ρ0 Ls) fuel (lset listed i) Q ((d, undef) :: E) ρ L) (hb : takeB l listed i = true := by decide +kernel) (hi : l[i]? = some ⟨some d, op, ty, pos, af, some (j, c)⟩ := by rfl) (hj : (l[j]?).bind (·.dst) = some t := by rfl) (he : lk E t = some (.bool b) := by rfl) (hbc : (b == c) = false := by rfl)
    (hd : Nat.blt d x.N = true := by rfl) : TR x l (Stays x ρ0 Ls) (fuel + 1) listed Q E ρ L := tr_skip i hb hi hj he hbc hd k
theorem yl_undef {a : Act} {D : List Deferred} {N : Nat} {ops : Array Oper} {j t : Nat} (ha : Ok D N E a) (hj : (ops[j]?).bind (·.dst) = some t) (he : lk E t = some undef) : yielded ops a.tmps j = none := by
  unfold yielded
  rw [hj]
  simp [ha.get t _ he, undef]
theorem qSkipU {j t : Nat} {c : Bool} (k : TL x ops rest Q ((d, undef) :: E) ρ L)
    (hj : (ops[j]?).bind (·.dst) = some t := by rfl) (he : lk E t = some undef := by rfl) (hd : Nat.blt d x.N = true := by rfl) : TL x ops (⟨some d, op, ty, pos, af, some (j, c)⟩ :: rest) Q E ρ L := tl_undef (fun a ha => yl_undef ha hj he) hd k
theorem sSkipU {j t : Nat} {c : Bool} (k : TS x ops rest tail Q ((d, undef) :: E) ρ L)
    (hj : (ops[j]?).bind (·.dst) = some t := by rfl) (he : lk E t = some undef := by rfl) (hd : Nat.blt d x.N = true := by rfl) : TS x ops (⟨some d, op, ty, pos, af, some (j, c)⟩ :: rest) tail Q E ρ L := ts_undef (fun a ha => yl_undef ha hj he) hd k
theorem wSkipU (n0 : Nat) {j t : Nat} {c : Bool} (k : TR x l (Stays x ρ0 Ls) fuel (lset listed n0) Q ((d, undef) :: E) ρ L) (hb : takeB l listed n0 = true := by decide +kernel) (hi : l[n0]? = some ⟨some d, op, ty, pos, af, some (j, c)⟩ := by rfl) (hj : (l[j]?).bind (·.dst) = some t := by rfl) (he : lk E t = some undef := by rfl)
    (hd : Nat.blt d x.N = true := by rfl) : TR x l (Stays x ρ0 Ls) (fuel + 1) listed Q E ρ L := tr_undef n0 hb hi (fun a ha => yl_undef ha (by simpa using hj) he) hd k
theorem rStep {i : Nat} {o : Oper} (h : TL x l.toArray [o] (QR x l (Stays x ρ0 Ls) fuel (lset listed i) Q) E ρ L) (hr : Region.ready .any l.toArray ⟨listed⟩ = [i] := by decide +kernel) (ho : l[i]? = some o := by rfl) : TR x l (Stays x ρ0 Ls) (fuel + 1) listed Q E ρ L := tr_step1 hr ho h
theorem rStep2 {i j : Nat} {o p : Oper} (h : TL x l.toArray [o] (QR x l (Stays x ρ0 Ls) fuel (lset listed i) Q) E ρ L) (h' : TL x l.toArray [p] (QR x l (Stays x ρ0 Ls) fuel (lset listed j) Q) E ρ L) (hr : Region.ready .any l.toArray ⟨listed⟩ = [i, j] := by decide +kernel) (ho : l[i]? = some o := by rfl) (hp : l[j]? = some p := by rfl) : TR x l (Stays x ρ0 Ls) (fuel + 1) listed Q E ρ L := tr_step2 hr ho hp h h'
theorem rStep3 {i j k : Nat} {o p q : Oper} (h : TL x l.toArray [o] (QR x l (Stays x ρ0 Ls) fuel (lset listed i) Q) E ρ L) (h' : TL x l.toArray [p] (QR x l (Stays x ρ0 Ls) fuel (lset listed j) Q) E ρ L) (h'' : TL x l.toArray [q] (QR x l (Stays x ρ0 Ls) fuel (lset listed k) Q) E ρ L) (hr : Region.ready .any l.toArray ⟨listed⟩ = [i, j, k] := by decide +kernel) (ho : l[i]? = some o := by rfl) (hp : l[j]? = some p := by rfl) (hq : l[k]? = some q := by rfl) : TR x l (Stays x ρ0 Ls) (fuel + 1) listed Q E ρ L :=
  tr_step hr (by simp) (fun m hm => by
    rcases List.mem_cons.1 hm with rfl | hm
    · exact ⟨o, ho, h⟩
    · rcases List.mem_cons.1 hm with rfl | hm
      · exact ⟨p, hp, h'⟩
      · have : m = k := by simpa using hm
        subst this; exact ⟨q, hq, h''⟩)
theorem rNext {R : SH} (h : TR x l (Stays x ρ0 Ls) fuel listed Q E ρ L) (hle : ρ0.le ρ := by first | assumption | exact Hp.le_refl _ | (refine Hp.le_trans ?_ (by assumption); assumption) | solve_by_elim (maxDepth := 6) [Hp.le_trans]) (hT : Take L Ls R := by exact tk) : TE x .normal (QR x l (Stays x ρ0 Ls) fuel listed Q) E ρ L := te_any (stays_of hle (hT := hT)) h
theorem rFull {R : SH} (h : TR x l (Stays x ρ L) fuel listed Q E ρ L) (hle : ρ0.le ρ := by first | assumption | exact Hp.le_refl _ | (refine Hp.le_trans ?_ (by assumption); assumption) | solve_by_elim (maxDepth := 6) [Hp.le_trans]) (hT : Take L Ls R := by exact tk) : TR x l (Stays x ρ0 Ls) fuel listed Q E ρ L := tr_full hle hT h
theorem rDone {S : World → Prop} (h : TE x .normal Q E ρ L) (hr : Region.ready .any l.toArray ⟨listed⟩ = [] := by decide +kernel) : TR x l S fuel listed Q E ρ L := tr_done hr h

theorem qWant {j t : Nat} {b : Bool} (k : TL x ops (⟨dd, op, ty, pos, af, none⟩ :: rest) Q E ρ L)
    (hj : (ops[j]?).bind (·.dst) = some t := by rfl) (he : lk E t = some (.bool b) := by rfl) : TL x ops (⟨dd, op, ty, pos, af, some (j, b)⟩ :: rest) Q E ρ L := tl_want hj he k
theorem qSkip {j t : Nat} {b c : Bool} (k : TL x ops rest Q ((d, undef) :: E) ρ L)
    (hj : (ops[j]?).bind (·.dst) = some t := by rfl) (he : lk E t = some (.bool b) := by rfl) (hbc : (b == c) = false := by rfl) (hd : Nat.blt d x.N = true := by rfl) : TL x ops (⟨some d, op, ty, pos, af, some (j, c)⟩ :: rest) Q E ρ L := tl_skip hj he hbc hd k
theorem qSkip0 {j t : Nat} {b c : Bool} (k : TL x ops rest Q E ρ L)
    (hj : (ops[j]?).bind (·.dst) = some t := by rfl) (he : lk E t = some (.bool b) := by rfl) (hbc : (b == c) = false := by rfl) : TL x ops (⟨none, op, ty, pos, af, some (j, c)⟩ :: rest) Q E ρ L := tl_skip0 hj he hbc k
theorem sWant {j t : Nat} {b : Bool} (k : TS x ops (⟨dd, op, ty, pos, af, none⟩ :: rest) tail Q E ρ L)
    (hj : (ops[j]?).bind (·.dst) = some t := by rfl) (he : lk E t = some (.bool b) := by rfl) : TS x ops (⟨dd, op, ty, pos, af, some (j, b)⟩ :: rest) tail Q E ρ L := ts_want hj he k
theorem sSkip {j t : Nat} {b c : Bool} (k : TS x ops rest tail Q ((d, undef) :: E) ρ L)
    (hj : (ops[j]?).bind (·.dst) = some t := by rfl) (he : lk E t = some (.bool b) := by rfl) (hbc : (b == c) = false := by rfl) (hd : Nat.blt d x.N = true := by rfl) : TS x ops (⟨some d, op, ty, pos, af, some (j, c)⟩ :: rest) tail Q E ρ L := ts_skip hj he hbc hd k

theorem qAlA {t : Nat} {l : List Value} [hz : TyZero x.P t (.agg ⟨l⟩)] (k : ∀ b, TL x ops rest Q ((d, .pointer (some ⟨b, 0, none⟩)) :: E) ρ ([(b, .cells ⟨l⟩ t (0, 0))] :: L)) (hd : Nat.blt d x.N = true := by rfl) :
    TL x ops (⟨some d, .alloc t, ty, pos, af, none⟩ :: rest) Q E ρ L := tl_alloc_a hd k
theorem qAlS {t : Nat} {z : Value} [hz : TyZero x.P t z] (k : ∀ b, TL x ops rest Q ((d, .pointer (some ⟨b, 0, none⟩)) :: E) ρ ([(b, .cells ⟨[z]⟩ t (0, 0))] :: L)) (h : z.oneCell' = true := by rfl) (hd : Nat.blt d x.N = true := by rfl) :
    TL x ops (⟨some d, .alloc t, ty, pos, af, none⟩ :: rest) Q E ρ L := tl_alloc_s h hd k
theorem qBxA {t : Nat} {o : Operand} {l : List Value} (k : ∀ b, TL x ops rest Q ((d, .pointer (some ⟨b, 0, none⟩)) :: E) ρ ([(b, .cells ⟨l⟩ t (0, 0))] :: L)) (h : ev E o = some (.agg ⟨l⟩) := by rfl) (hd : Nat.blt d x.N = true := by rfl) :
    TL x ops (⟨some d, .box t o, ty, pos, af, none⟩ :: rest) Q E ρ L := tl_box_a h hd k
theorem qBxS {t : Nat} {o : Operand} (k : ∀ b, TL x ops rest Q ((d, .pointer (some ⟨b, 0, none⟩)) :: E) ρ ([(b, .cells ⟨[v]⟩ t (0, 0))] :: L)) (h : ev E o = some v := by rfl) (h1 : v.oneCell' = true := by rfl) (hd : Nat.blt d x.N = true := by rfl) :
    TL x ops (⟨some d, .box t o, ty, pos, af, none⟩ :: rest) Q E ρ L := tl_box_s h h1 hd k
theorem qMm {t : Nat} (k : ∀ b, TL x ops rest Q ((d, .map (some b)) :: E) ρ ([(b, .map ⟨[]⟩ 0)] :: L)) (hd : Nat.blt d x.N = true := by rfl) :
    TL x ops (⟨some d, .makeMap t none, ty, pos, af, none⟩ :: rest) Q E ρ L := tl_makeMap hd k
theorem qBs {t e sz : Nat} [hS : TySlice x.P t e] [hZ : TySz x.P e sz] (k : ∀ b, TL x ops rest Q ((d, .slice (some ⟨b, 0, none⟩) 0 0) :: E) ρ ([(b, .cells ⟨[]⟩ e (0, 0))] :: L)) (hd : Nat.blt d x.N = true := by rfl) :
    TL x ops (⟨some d, .buildSlice t 0 ⟨[]⟩, ty, pos, af, none⟩ :: rest) Q E ρ L := tl_buildSlice0 hd k
theorem qSt {t : Nat} {o p : Operand} {L' : SH} (k : TL x ops rest Q E ρ L')
    (h : TL x ops rest Q E ρ L' → TL x ops (⟨none, .store t o p, ty, pos, af, none⟩ :: rest) Q E ρ L := by
      first
      | exact tl_store_set rfl rfl rfl
      | exact tl_store_all rfl rfl (by first | assumption | rfl) (by first | assumption | rfl) (by first | assumption | rfl)
      | exact tl_store_s rfl rfl rfl (by first | assumption | rfl | exact ble_le (by omega))
      | exact tl_store_a rfl rfl (by first | assumption | rfl) (by first | assumption | rfl) (by first | assumption | rfl | exact ble_le (by omega))) :
    TL x ops (⟨none, .store t o p, ty, pos, af, none⟩ :: rest) Q E ρ L := h k
theorem qCt {c : Operand} {y z : Code} (h : TC x y Q E ρ L) (hc : ev E c = some (.bool true) := by rfl) : TC x (.cond c y z) Q E ρ L := tc_cond_t hc h
theorem qCf {c : Operand} {y z : Code} (h : TC x z Q E ρ L) (hc : ev E c = some (.bool false) := by rfl) : TC x (.cond c y z) Q E ρ L := tc_cond_f hc h
theorem qMiss {id id' : Nat} (h : TE x (.exit id') Q E ρ L) (hne : Nat.beq id' id = false := by rfl) : TE x (.exit id') (Exit.inBlock id Q) E ρ L := te_block_miss hne h

/-- a call: the contract, then what is left -/
theorem qC {g : Nat} {f : Operand} {xs : List Operand} {ats : Array TypeId} {fs cs vs : List Value} {Lf R : SH} {Post : Value → Hp → SH → Prop} (hf : ev E f = some (.func (.func g) ⟨fs⟩ ⟨cs⟩)) (hv : evs E xs = some vs) [hF : Fun x.P g]
    (S : Spec x.P g (fs ++ vs ++ cs) ρ Lf Post)
    (k : ∀ v ρ' L', ρ.le ρ' → Post v ρ' L' → TL x ops rest Q ((d, v) :: E) ρ' (L' ++ R)) (hT : Take L Lf R := by exact tk) (hd : Nat.blt d x.N = true := by rfl) :
    TL x ops (⟨some d, .call { callee := .value f, args := ⟨xs⟩, argTypes := ats }, ty, pos, af, none⟩ :: rest) Q E ρ L := tl_call hf hv S hT hd k
theorem qY {g : Nat} {f : Operand} {xs : List Operand} {ats : Array TypeId} {vs : List Value} {Lf R : SH} {Post : Bool → Hp → SH → Prop} (hf : ev E f = some (.func (.yield g) ⟨[]⟩ ⟨[]⟩)) (hv : evs E xs = some vs)
    (S : YSpec x.P g vs ρ Lf Post)
    (k : ∀ b ρ' L', ρ.le ρ' → Post b ρ' L' → TL x ops rest Q ((d, .bool b) :: E) ρ' (L' ++ R)) (hT : Take L Lf R := by exact tk) (hd : Nat.blt d x.N = true := by rfl) :
    TL x ops (⟨some d, .call { callee := .value f, args := ⟨xs⟩, argTypes := ats }, ty, pos, af, none⟩ :: rest) Q E ρ L := tl_yield hf hv S hT hd k
/-- a function's end -/
theorem qE {e : Exit} {fn : Func} {u : World} {R : SH} {Post : Value → Hp → SH → Prop} {L' G : SH} (hp : Post v ρ L')
    (hr : ∀ a w, Ok x.D x.N E a → Sat x.u ρ L w → (results fn a.tmps).run x.P w = .ok v w := by
      first
      | exact res0 rfl
      | (refine res1 rfl ?_; first | exact r1_tmp rfl | exact r1_cell rfl (by first | assumption | rfl) | exact r1_cell_s rfl rfl)
      | (refine res2 rfl ?_ ?_ <;> first | exact r1_tmp rfl | exact r1_cell rfl (by first | assumption | rfl) | exact r1_cell_s rfl rfl)
      | (refine res3 rfl ?_ ?_ ?_ <;> first | exact r1_tmp rfl | exact r1_cell rfl (by first | assumption | rfl) | exact r1_cell_s rfl rfl))
    (hle : ρ0.le ρ := by first | assumption | exact Hp.le_refl _ | (refine Hp.le_trans ?_ (by assumption); assumption) | solve_by_elim (maxDepth := 6) [Hp.le_trans]) (k : Take L L' G := by exact tk) (en : Ends G R := by infer_instance) (he : isEnd e = true := by rfl) (hD : x.D = [] := by rfl) (hu : x.u = u := by rfl) :
    TE x e (bodyPostM (Fw none) 0 x.P fn (RK u ρ0 R Post)) E ρ L := te_end he hD hu hr hle k en hp
end
end Go.Proofs.E

namespace Go.Proofs.E
open Go Go.Proofs.E
set_option linter.unusedVariables false

instance : TyS Try.prog 1 := mkTyS (by kernel_rfl) (by kernel_rfl)
instance : TyIface Try.prog 1 false := mkTyIface (by kernel_rfl)
instance : TyFunc Try.prog 1 := mkTyFunc (by kernel_rfl)
instance : TySz Try.prog 1 1 := mkTySz (by kernel_rfl)
instance : TyBytes Try.prog 1 8 := mkTyBytes (by kernel_rfl)
instance : TyZero Try.prog 1 (.nilFunc) := mkTyZero (by kernel_rfl)
instance : TyS Try.prog 2 := mkTyS (by kernel_rfl) (by kernel_rfl)
instance : TyIface Try.prog 2 false := mkTyIface (by kernel_rfl)
instance : TySz Try.prog 2 1 := mkTySz (by kernel_rfl)
instance : TyBytes Try.prog 2 8 := mkTyBytes (by kernel_rfl)
instance : TyZero Try.prog 2 (.int .i64 0) := mkTyZero (by kernel_rfl)
instance : TyInt Try.prog 2 .i64 := ⟨by kernel_rfl⟩
instance : TyS Try.prog 3 := mkTyS (by kernel_rfl) (by kernel_rfl)
instance : TyIface Try.prog 3 false := mkTyIface (by kernel_rfl)
instance : TySz Try.prog 3 1 := mkTySz (by kernel_rfl)
instance : TyBytes Try.prog 3 8 := mkTyBytes (by kernel_rfl)
instance : TyZero Try.prog 3 (.int .i64 0) := mkTyZero (by kernel_rfl)
instance : TyInt Try.prog 3 .i64 := ⟨by kernel_rfl⟩
instance : TyS Try.prog 4 := mkTyS (by kernel_rfl) (by kernel_rfl)
instance : TyIface Try.prog 4 false := mkTyIface (by kernel_rfl)
instance : TySz Try.prog 4 1 := mkTySz (by kernel_rfl)
instance : TyBytes Try.prog 4 1 := mkTyBytes (by kernel_rfl)
instance : TyZero Try.prog 4 (.bool false) := mkTyZero (by kernel_rfl)
instance : TyBool Try.prog 4 := ⟨by kernel_rfl⟩
instance : TyS Try.prog 5 := mkTyS (by kernel_rfl) (by kernel_rfl)
instance : TyIface Try.prog 5 false := mkTyIface (by kernel_rfl)
instance : TySz Try.prog 5 1 := mkTySz (by kernel_rfl)
instance : TyBytes Try.prog 5 1 := mkTyBytes (by kernel_rfl)
instance : TyZero Try.prog 5 (.int .u8 0) := mkTyZero (by kernel_rfl)
instance : TyInt Try.prog 5 .u8 := ⟨by kernel_rfl⟩
instance : TyA Try.prog 7 4 := mkTyA (by kernel_rfl) (by kernel_rfl)
instance : TyIface Try.prog 7 false := mkTyIface (by kernel_rfl)
instance : TySz Try.prog 7 4 := mkTySz (by kernel_rfl)
instance : TyBytes Try.prog 7 24 := mkTyBytes (by kernel_rfl)
instance : TyZero Try.prog 7 (.agg ⟨[.int .i64 0, .int .i64 0, .bool false, .int .u8 0]⟩) := mkTyZero (by kernel_rfl)
instance : Fld Try.prog 7 0 0 2 := mkFld (by kernel_rfl)
instance : Fld Try.prog 7 1 1 3 := mkFld (by kernel_rfl)
instance : Fld Try.prog 7 2 2 4 := mkFld (by kernel_rfl)
instance : Fld Try.prog 7 3 3 6 := mkFld (by kernel_rfl)
instance : TyPlaces Try.prog 7 (([(0, 1), (1, 1), (2, 1), (3, 1)] : List (Nat × Nat))[·]?) := mkTyPlaces (by kernel_rfl)
instance : TyS Try.prog 9 := mkTyS (by kernel_rfl) (by kernel_rfl)
instance : TyIface Try.prog 9 false := mkTyIface (by kernel_rfl)
instance : TySz Try.prog 9 1 := mkTySz (by kernel_rfl)
instance : TyBytes Try.prog 9 16 := mkTyBytes (by kernel_rfl)
instance : TyZero Try.prog 9 (.string ⟨⟨[]⟩⟩) := mkTyZero (by kernel_rfl)
instance : TyStr Try.prog 9 := ⟨by kernel_rfl⟩
instance : TyS Try.prog 12 := mkTyS (by kernel_rfl) (by kernel_rfl)
instance : TyIface Try.prog 12 false := mkTyIface (by kernel_rfl)
instance : TySz Try.prog 12 1 := mkTySz (by kernel_rfl)
instance : TyBytes Try.prog 12 8 := mkTyBytes (by kernel_rfl)
instance : TyZero Try.prog 12 (.int .u64 0) := mkTyZero (by kernel_rfl)
instance : TyInt Try.prog 12 .u64 := ⟨by kernel_rfl⟩
instance : TyA Try.prog 13 2 := mkTyA (by kernel_rfl) (by kernel_rfl)
instance : TyIface Try.prog 13 false := mkTyIface (by kernel_rfl)
instance : TySz Try.prog 13 2 := mkTySz (by kernel_rfl)
instance : TyBytes Try.prog 13 24 := mkTyBytes (by kernel_rfl)
instance : TyZero Try.prog 13 (.agg ⟨[.string ⟨⟨[]⟩⟩, .int .u64 0]⟩) := mkTyZero (by kernel_rfl)
instance : Fld Try.prog 13 0 0 9 := mkFld (by kernel_rfl)
instance : Fld Try.prog 13 1 1 12 := mkFld (by kernel_rfl)
instance : TyPlaces Try.prog 13 (([(0, 1), (1, 1)] : List (Nat × Nat))[·]?) := mkTyPlaces (by kernel_rfl)
instance : TyS Try.prog 15 := mkTyS (by kernel_rfl) (by kernel_rfl)
instance : TyIface Try.prog 15 false := mkTyIface (by kernel_rfl)
instance : TySz Try.prog 15 1 := mkTySz (by kernel_rfl)
instance : TyBytes Try.prog 15 8 := mkTyBytes (by kernel_rfl)
instance : TyZero Try.prog 15 (.pointer none) := mkTyZero (by kernel_rfl)
instance : TyPtr Try.prog 15 101 := ⟨by kernel_rfl⟩
instance : TyS Try.prog 16 := mkTyS (by kernel_rfl) (by kernel_rfl)
instance : TyIface Try.prog 16 false := mkTyIface (by kernel_rfl)
instance : TySz Try.prog 16 1 := mkTySz (by kernel_rfl)
instance : TyBytes Try.prog 16 8 := mkTyBytes (by kernel_rfl)
instance : TyZero Try.prog 16 (.pointer none) := mkTyZero (by kernel_rfl)
instance : TyPtr Try.prog 16 104 := ⟨by kernel_rfl⟩
instance : TyS Try.prog 17 := mkTyS (by kernel_rfl) (by kernel_rfl)
instance : TyIface Try.prog 17 false := mkTyIface (by kernel_rfl)
instance : TySz Try.prog 17 1 := mkTySz (by kernel_rfl)
instance : TyBytes Try.prog 17 8 := mkTyBytes (by kernel_rfl)
instance : TyZero Try.prog 17 (.pointer none) := mkTyZero (by kernel_rfl)
instance : TyPtr Try.prog 17 113 := ⟨by kernel_rfl⟩
instance : TyA Try.prog 18 1 := mkTyA (by kernel_rfl) (by kernel_rfl)
instance : TyIface Try.prog 18 false := mkTyIface (by kernel_rfl)
instance : TySz Try.prog 18 1 := mkTySz (by kernel_rfl)
instance : TyBytes Try.prog 18 8 := mkTyBytes (by kernel_rfl)
instance : TyZero Try.prog 18 (.agg ⟨[.pointer none]⟩) := mkTyZero (by kernel_rfl)
instance : Fld Try.prog 18 0 0 17 := mkFld (by kernel_rfl)
instance : TyPlaces Try.prog 18 (([(0, 1)] : List (Nat × Nat))[·]?) := mkTyPlaces (by kernel_rfl)
instance : TyA Try.prog 19 1 := mkTyA (by kernel_rfl) (by kernel_rfl)
instance : TyIface Try.prog 19 false := mkTyIface (by kernel_rfl)
instance : TySz Try.prog 19 1 := mkTySz (by kernel_rfl)
instance : TyBytes Try.prog 19 8 := mkTyBytes (by kernel_rfl)
instance : TyZero Try.prog 19 (.agg ⟨[.pointer none]⟩) := mkTyZero (by kernel_rfl)
instance : Fld Try.prog 19 0 0 17 := mkFld (by kernel_rfl)
instance : TyPlaces Try.prog 19 (([(0, 1)] : List (Nat × Nat))[·]?) := mkTyPlaces (by kernel_rfl)
instance : TyS Try.prog 20 := mkTyS (by kernel_rfl) (by kernel_rfl)
instance : TyIface Try.prog 20 true := mkTyIface (by kernel_rfl)
instance : TySz Try.prog 20 1 := mkTySz (by kernel_rfl)
instance : TyBytes Try.prog 20 16 := mkTyBytes (by kernel_rfl)
instance : TyZero Try.prog 20 (.nilIface) := mkTyZero (by kernel_rfl)
instance : TyS Try.prog 21 := mkTyS (by kernel_rfl) (by kernel_rfl)
instance : TyIface Try.prog 21 false := mkTyIface (by kernel_rfl)
instance : TySz Try.prog 21 1 := mkTySz (by kernel_rfl)
instance : TyBytes Try.prog 21 4 := mkTyBytes (by kernel_rfl)
instance : TyZero Try.prog 21 (.int .i32 0) := mkTyZero (by kernel_rfl)
instance : TyInt Try.prog 21 .i32 := ⟨by kernel_rfl⟩
instance : TyS Try.prog 22 := mkTyS (by kernel_rfl) (by kernel_rfl)
instance : TyIface Try.prog 22 false := mkTyIface (by kernel_rfl)
instance : TySz Try.prog 22 1 := mkTySz (by kernel_rfl)
instance : TyBytes Try.prog 22 24 := mkTyBytes (by kernel_rfl)
instance : TyZero Try.prog 22 (.slice none 0 0) := mkTyZero (by kernel_rfl)
instance : TySlice Try.prog 22 25 := ⟨by kernel_rfl⟩
instance : TyS Try.prog 23 := mkTyS (by kernel_rfl) (by kernel_rfl)
instance : TyIface Try.prog 23 false := mkTyIface (by kernel_rfl)
instance : TySz Try.prog 23 1 := mkTySz (by kernel_rfl)
instance : TyBytes Try.prog 23 24 := mkTyBytes (by kernel_rfl)
instance : TyZero Try.prog 23 (.slice none 0 0) := mkTyZero (by kernel_rfl)
instance : TySlice Try.prog 23 4 := ⟨by kernel_rfl⟩
instance : TyA Try.prog 24 5 := mkTyA (by kernel_rfl) (by kernel_rfl)
instance : TyIface Try.prog 24 false := mkTyIface (by kernel_rfl)
instance : TySz Try.prog 24 5 := mkTySz (by kernel_rfl)
instance : TyBytes Try.prog 24 56 := mkTyBytes (by kernel_rfl)
instance : TyZero Try.prog 24 (.agg ⟨[.int .i64 0, .int .i64 0, .int .i64 0, .int .u8 0, .slice none 0 0]⟩) := mkTyZero (by kernel_rfl)
instance : Fld Try.prog 24 0 0 3 := mkFld (by kernel_rfl)
instance : Fld Try.prog 24 1 1 3 := mkFld (by kernel_rfl)
instance : Fld Try.prog 24 2 2 3 := mkFld (by kernel_rfl)
instance : Fld Try.prog 24 3 3 5 := mkFld (by kernel_rfl)
instance : Fld Try.prog 24 4 4 23 := mkFld (by kernel_rfl)
instance : TyPlaces Try.prog 24 (([(0, 1), (1, 1), (2, 1), (3, 1), (4, 1)] : List (Nat × Nat))[·]?) := mkTyPlaces (by kernel_rfl)
instance : TyA Try.prog 25 5 := mkTyA (by kernel_rfl) (by kernel_rfl)
instance : TyIface Try.prog 25 false := mkTyIface (by kernel_rfl)
instance : TySz Try.prog 25 5 := mkTySz (by kernel_rfl)
instance : TyBytes Try.prog 25 56 := mkTyBytes (by kernel_rfl)
instance : TyZero Try.prog 25 (.agg ⟨[.int .i64 0, .int .i64 0, .int .i64 0, .int .u8 0, .slice none 0 0]⟩) := mkTyZero (by kernel_rfl)
instance : Fld Try.prog 25 0 0 3 := mkFld (by kernel_rfl)
instance : Fld Try.prog 25 1 1 3 := mkFld (by kernel_rfl)
instance : Fld Try.prog 25 2 2 3 := mkFld (by kernel_rfl)
instance : Fld Try.prog 25 3 3 5 := mkFld (by kernel_rfl)
instance : Fld Try.prog 25 4 4 23 := mkFld (by kernel_rfl)
instance : TyPlaces Try.prog 25 (([(0, 1), (1, 1), (2, 1), (3, 1), (4, 1)] : List (Nat × Nat))[·]?) := mkTyPlaces (by kernel_rfl)
instance : TyS Try.prog 26 := mkTyS (by kernel_rfl) (by kernel_rfl)
instance : TyIface Try.prog 26 false := mkTyIface (by kernel_rfl)
instance : TyFunc Try.prog 26 := mkTyFunc (by kernel_rfl)
instance : TySz Try.prog 26 1 := mkTySz (by kernel_rfl)
instance : TyBytes Try.prog 26 8 := mkTyBytes (by kernel_rfl)
instance : TyZero Try.prog 26 (.nilFunc) := mkTyZero (by kernel_rfl)
instance : TyS Try.prog 27 := mkTyS (by kernel_rfl) (by kernel_rfl)
instance : TyIface Try.prog 27 false := mkTyIface (by kernel_rfl)
instance : TySz Try.prog 27 1 := mkTySz (by kernel_rfl)
instance : TyBytes Try.prog 27 8 := mkTyBytes (by kernel_rfl)
instance : TyZero Try.prog 27 (.pointer none) := mkTyZero (by kernel_rfl)
instance : TyPtr Try.prog 27 74 := ⟨by kernel_rfl⟩
instance : TyS Try.prog 29 := mkTyS (by kernel_rfl) (by kernel_rfl)
instance : TyIface Try.prog 29 false := mkTyIface (by kernel_rfl)
instance : TyFunc Try.prog 29 := mkTyFunc (by kernel_rfl)
instance : TySz Try.prog 29 1 := mkTySz (by kernel_rfl)
instance : TyBytes Try.prog 29 8 := mkTyBytes (by kernel_rfl)
instance : TyZero Try.prog 29 (.nilFunc) := mkTyZero (by kernel_rfl)
instance : TyS Try.prog 30 := mkTyS (by kernel_rfl) (by kernel_rfl)
instance : TyIface Try.prog 30 false := mkTyIface (by kernel_rfl)
instance : TyFunc Try.prog 30 := mkTyFunc (by kernel_rfl)
instance : TySz Try.prog 30 1 := mkTySz (by kernel_rfl)
instance : TyBytes Try.prog 30 8 := mkTyBytes (by kernel_rfl)
instance : TyZero Try.prog 30 (.nilFunc) := mkTyZero (by kernel_rfl)
instance : TyS Try.prog 31 := mkTyS (by kernel_rfl) (by kernel_rfl)
instance : TyIface Try.prog 31 false := mkTyIface (by kernel_rfl)
instance : TySz Try.prog 31 1 := mkTySz (by kernel_rfl)
instance : TyBytes Try.prog 31 8 := mkTyBytes (by kernel_rfl)
instance : TyZero Try.prog 31 (.int .i64 0) := mkTyZero (by kernel_rfl)
instance : TyInt Try.prog 31 .i64 := ⟨by kernel_rfl⟩
instance : TyS Try.prog 32 := mkTyS (by kernel_rfl) (by kernel_rfl)
instance : TyIface Try.prog 32 false := mkTyIface (by kernel_rfl)
instance : TyFunc Try.prog 32 := mkTyFunc (by kernel_rfl)
instance : TySz Try.prog 32 1 := mkTySz (by kernel_rfl)
instance : TyBytes Try.prog 32 8 := mkTyBytes (by kernel_rfl)
instance : TyZero Try.prog 32 (.nilFunc) := mkTyZero (by kernel_rfl)
instance : TyA Try.prog 33 64 := mkTyA (by kernel_rfl) (by kernel_rfl)
instance : TyIface Try.prog 33 false := mkTyIface (by kernel_rfl)
instance : TySz Try.prog 33 64 := mkTySz (by kernel_rfl)
instance : TyBytes Try.prog 33 64 := mkTyBytes (by kernel_rfl)
instance : TyZero Try.prog 33 (.agg ⟨List.replicate 64 (.int .u8 0)⟩) := mkTyZero (by kernel_rfl)
instance : NoGuard Try.prog 33 := ⟨by kernel_rfl⟩
instance : TyArr Try.prog 33 64 5 := ⟨by kernel_rfl⟩
instance : TyPlaces Try.prog 33 (fun i => some (i * 1, 1)) := mkTyPlacesA (n := 64) (e := 5) (by kernel_rfl) (by kernel_rfl)
instance : TyA Try.prog 34 64 := mkTyA (by kernel_rfl) (by kernel_rfl)
instance : TyIface Try.prog 34 false := mkTyIface (by kernel_rfl)
instance : TySz Try.prog 34 64 := mkTySz (by kernel_rfl)
instance : TyBytes Try.prog 34 64 := mkTyBytes (by kernel_rfl)
instance : TyZero Try.prog 34 (.agg ⟨List.replicate 64 (.int .u8 0)⟩) := mkTyZero (by kernel_rfl)
instance : NoGuard Try.prog 34 := ⟨by kernel_rfl⟩
instance : TyArr Try.prog 34 64 5 := ⟨by kernel_rfl⟩
instance : TyPlaces Try.prog 34 (fun i => some (i * 1, 1)) := mkTyPlacesA (n := 64) (e := 5) (by kernel_rfl) (by kernel_rfl)
instance : TyS Try.prog 36 := mkTyS (by kernel_rfl) (by kernel_rfl)
instance : TyIface Try.prog 36 false := mkTyIface (by kernel_rfl)
instance : TyFunc Try.prog 36 := mkTyFunc (by kernel_rfl)
instance : TySz Try.prog 36 1 := mkTySz (by kernel_rfl)
instance : TyBytes Try.prog 36 8 := mkTyBytes (by kernel_rfl)
instance : TyZero Try.prog 36 (.nilFunc) := mkTyZero (by kernel_rfl)
instance : TyS Try.prog 37 := mkTyS (by kernel_rfl) (by kernel_rfl)
instance : TyIface Try.prog 37 false := mkTyIface (by kernel_rfl)
instance : TyFunc Try.prog 37 := mkTyFunc (by kernel_rfl)
instance : TySz Try.prog 37 1 := mkTySz (by kernel_rfl)
instance : TyBytes Try.prog 37 8 := mkTyBytes (by kernel_rfl)
instance : TyZero Try.prog 37 (.nilFunc) := mkTyZero (by kernel_rfl)
instance : TyS Try.prog 38 := mkTyS (by kernel_rfl) (by kernel_rfl)
instance : TyIface Try.prog 38 false := mkTyIface (by kernel_rfl)
instance : TyFunc Try.prog 38 := mkTyFunc (by kernel_rfl)
instance : TySz Try.prog 38 1 := mkTySz (by kernel_rfl)
instance : TyBytes Try.prog 38 8 := mkTyBytes (by kernel_rfl)
instance : TyZero Try.prog 38 (.nilFunc) := mkTyZero (by kernel_rfl)
instance : TyS Try.prog 39 := mkTyS (by kernel_rfl) (by kernel_rfl)
instance : TyIface Try.prog 39 false := mkTyIface (by kernel_rfl)
instance : TyFunc Try.prog 39 := mkTyFunc (by kernel_rfl)
instance : TySz Try.prog 39 1 := mkTySz (by kernel_rfl)
instance : TyBytes Try.prog 39 8 := mkTyBytes (by kernel_rfl)
instance : TyZero Try.prog 39 (.nilFunc) := mkTyZero (by kernel_rfl)
instance : TyS Try.prog 40 := mkTyS (by kernel_rfl) (by kernel_rfl)
instance : TyIface Try.prog 40 false := mkTyIface (by kernel_rfl)
instance : TySz Try.prog 40 1 := mkTySz (by kernel_rfl)
instance : TyBytes Try.prog 40 24 := mkTyBytes (by kernel_rfl)
instance : TyZero Try.prog 40 (.slice none 0 0) := mkTyZero (by kernel_rfl)
instance : TySlice Try.prog 40 3 := ⟨by kernel_rfl⟩
instance : TyS Try.prog 41 := mkTyS (by kernel_rfl) (by kernel_rfl)
instance : TyIface Try.prog 41 false := mkTyIface (by kernel_rfl)
instance : TyFunc Try.prog 41 := mkTyFunc (by kernel_rfl)
instance : TySz Try.prog 41 1 := mkTySz (by kernel_rfl)
instance : TyBytes Try.prog 41 8 := mkTyBytes (by kernel_rfl)
instance : TyZero Try.prog 41 (.nilFunc) := mkTyZero (by kernel_rfl)
instance : TyS Try.prog 42 := mkTyS (by kernel_rfl) (by kernel_rfl)
instance : TyIface Try.prog 42 false := mkTyIface (by kernel_rfl)
instance : TyFunc Try.prog 42 := mkTyFunc (by kernel_rfl)
instance : TySz Try.prog 42 1 := mkTySz (by kernel_rfl)
instance : TyBytes Try.prog 42 8 := mkTyBytes (by kernel_rfl)
instance : TyZero Try.prog 42 (.nilFunc) := mkTyZero (by kernel_rfl)
instance : TyS Try.prog 43 := mkTyS (by kernel_rfl) (by kernel_rfl)
instance : TyIface Try.prog 43 false := mkTyIface (by kernel_rfl)
instance : TyFunc Try.prog 43 := mkTyFunc (by kernel_rfl)
instance : TySz Try.prog 43 1 := mkTySz (by kernel_rfl)
instance : TyBytes Try.prog 43 8 := mkTyBytes (by kernel_rfl)
instance : TyZero Try.prog 43 (.nilFunc) := mkTyZero (by kernel_rfl)
instance : TyS Try.prog 44 := mkTyS (by kernel_rfl) (by kernel_rfl)
instance : TyIface Try.prog 44 false := mkTyIface (by kernel_rfl)
instance : TyFunc Try.prog 44 := mkTyFunc (by kernel_rfl)
instance : TySz Try.prog 44 1 := mkTySz (by kernel_rfl)
instance : TyBytes Try.prog 44 8 := mkTyBytes (by kernel_rfl)
instance : TyZero Try.prog 44 (.nilFunc) := mkTyZero (by kernel_rfl)
instance : TyS Try.prog 45 := mkTyS (by kernel_rfl) (by kernel_rfl)
instance : TyIface Try.prog 45 false := mkTyIface (by kernel_rfl)
instance : TySz Try.prog 45 1 := mkTySz (by kernel_rfl)
instance : TyBytes Try.prog 45 8 := mkTyBytes (by kernel_rfl)
instance : TyZero Try.prog 45 (.int .u64 0) := mkTyZero (by kernel_rfl)
instance : TyInt Try.prog 45 .u64 := ⟨by kernel_rfl⟩
instance : TyS Try.prog 46 := mkTyS (by kernel_rfl) (by kernel_rfl)
instance : TyIface Try.prog 46 false := mkTyIface (by kernel_rfl)
instance : TyFunc Try.prog 46 := mkTyFunc (by kernel_rfl)
instance : TySz Try.prog 46 1 := mkTySz (by kernel_rfl)
instance : TyBytes Try.prog 46 8 := mkTyBytes (by kernel_rfl)
instance : TyZero Try.prog 46 (.nilFunc) := mkTyZero (by kernel_rfl)
instance : TyS Try.prog 47 := mkTyS (by kernel_rfl) (by kernel_rfl)
instance : TyIface Try.prog 47 false := mkTyIface (by kernel_rfl)
instance : TyFunc Try.prog 47 := mkTyFunc (by kernel_rfl)
instance : TySz Try.prog 47 1 := mkTySz (by kernel_rfl)
instance : TyBytes Try.prog 47 8 := mkTyBytes (by kernel_rfl)
instance : TyZero Try.prog 47 (.nilFunc) := mkTyZero (by kernel_rfl)
instance : TyS Try.prog 48 := mkTyS (by kernel_rfl) (by kernel_rfl)
instance : TyIface Try.prog 48 false := mkTyIface (by kernel_rfl)
instance : TyFunc Try.prog 48 := mkTyFunc (by kernel_rfl)
instance : TySz Try.prog 48 1 := mkTySz (by kernel_rfl)
instance : TyBytes Try.prog 48 8 := mkTyBytes (by kernel_rfl)
instance : TyZero Try.prog 48 (.nilFunc) := mkTyZero (by kernel_rfl)
instance : TyS Try.prog 49 := mkTyS (by kernel_rfl) (by kernel_rfl)
instance : TyIface Try.prog 49 false := mkTyIface (by kernel_rfl)
instance : TyFunc Try.prog 49 := mkTyFunc (by kernel_rfl)
instance : TySz Try.prog 49 1 := mkTySz (by kernel_rfl)
instance : TyBytes Try.prog 49 8 := mkTyBytes (by kernel_rfl)
instance : TyZero Try.prog 49 (.nilFunc) := mkTyZero (by kernel_rfl)
instance : TyS Try.prog 50 := mkTyS (by kernel_rfl) (by kernel_rfl)
instance : TyIface Try.prog 50 false := mkTyIface (by kernel_rfl)
instance : TySz Try.prog 50 1 := mkTySz (by kernel_rfl)
instance : TyBytes Try.prog 50 24 := mkTyBytes (by kernel_rfl)
instance : TyZero Try.prog 50 (.slice none 0 0) := mkTyZero (by kernel_rfl)
instance : TySlice Try.prog 50 34 := ⟨by kernel_rfl⟩
instance : TyS Try.prog 52 := mkTyS (by kernel_rfl) (by kernel_rfl)
instance : TyIface Try.prog 52 false := mkTyIface (by kernel_rfl)
instance : TyFunc Try.prog 52 := mkTyFunc (by kernel_rfl)
instance : TySz Try.prog 52 1 := mkTySz (by kernel_rfl)
instance : TyBytes Try.prog 52 8 := mkTyBytes (by kernel_rfl)
instance : TyZero Try.prog 52 (.nilFunc) := mkTyZero (by kernel_rfl)
instance : TyS Try.prog 53 := mkTyS (by kernel_rfl) (by kernel_rfl)
instance : TyIface Try.prog 53 false := mkTyIface (by kernel_rfl)
instance : TyFunc Try.prog 53 := mkTyFunc (by kernel_rfl)
instance : TySz Try.prog 53 1 := mkTySz (by kernel_rfl)
instance : TyBytes Try.prog 53 8 := mkTyBytes (by kernel_rfl)
instance : TyZero Try.prog 53 (.nilFunc) := mkTyZero (by kernel_rfl)
instance : TyS Try.prog 54 := mkTyS (by kernel_rfl) (by kernel_rfl)
instance : TyIface Try.prog 54 false := mkTyIface (by kernel_rfl)
instance : TyFunc Try.prog 54 := mkTyFunc (by kernel_rfl)
instance : TySz Try.prog 54 1 := mkTySz (by kernel_rfl)
instance : TyBytes Try.prog 54 8 := mkTyBytes (by kernel_rfl)
instance : TyZero Try.prog 54 (.nilFunc) := mkTyZero (by kernel_rfl)
instance : TyS Try.prog 56 := mkTyS (by kernel_rfl) (by kernel_rfl)
instance : TyIface Try.prog 56 false := mkTyIface (by kernel_rfl)
instance : TyFunc Try.prog 56 := mkTyFunc (by kernel_rfl)
instance : TySz Try.prog 56 1 := mkTySz (by kernel_rfl)
instance : TyBytes Try.prog 56 8 := mkTyBytes (by kernel_rfl)
instance : TyZero Try.prog 56 (.nilFunc) := mkTyZero (by kernel_rfl)
instance : TyS Try.prog 57 := mkTyS (by kernel_rfl) (by kernel_rfl)
instance : TyIface Try.prog 57 false := mkTyIface (by kernel_rfl)
instance : TyFunc Try.prog 57 := mkTyFunc (by kernel_rfl)
instance : TySz Try.prog 57 1 := mkTySz (by kernel_rfl)
instance : TyBytes Try.prog 57 8 := mkTyBytes (by kernel_rfl)
instance : TyZero Try.prog 57 (.nilFunc) := mkTyZero (by kernel_rfl)
instance : TyS Try.prog 58 := mkTyS (by kernel_rfl) (by kernel_rfl)
instance : TyIface Try.prog 58 false := mkTyIface (by kernel_rfl)
instance : TySz Try.prog 58 1 := mkTySz (by kernel_rfl)
instance : TyBytes Try.prog 58 24 := mkTyBytes (by kernel_rfl)
instance : TyZero Try.prog 58 (.slice none 0 0) := mkTyZero (by kernel_rfl)
instance : TySlice Try.prog 58 67 := ⟨by kernel_rfl⟩
instance : TyA Try.prog 59 5 := mkTyA (by kernel_rfl) (by kernel_rfl)
instance : TyIface Try.prog 59 false := mkTyIface (by kernel_rfl)
instance : TySz Try.prog 59 5 := mkTySz (by kernel_rfl)
instance : TyBytes Try.prog 59 56 := mkTyBytes (by kernel_rfl)
instance : TyZero Try.prog 59 (.agg ⟨[.slice none 0 0, .int .i64 0, .int .i64 0, .int .i64 0, .bool false]⟩) := mkTyZero (by kernel_rfl)
instance : Fld Try.prog 59 0 0 58 := mkFld (by kernel_rfl)
instance : Fld Try.prog 59 1 1 3 := mkFld (by kernel_rfl)
instance : Fld Try.prog 59 2 2 3 := mkFld (by kernel_rfl)
instance : Fld Try.prog 59 3 3 3 := mkFld (by kernel_rfl)
instance : Fld Try.prog 59 4 4 4 := mkFld (by kernel_rfl)
instance : TyPlaces Try.prog 59 (([(0, 1), (1, 1), (2, 1), (3, 1), (4, 1)] : List (Nat × Nat))[·]?) := mkTyPlaces (by kernel_rfl)
instance : TyA Try.prog 60 5 := mkTyA (by kernel_rfl) (by kernel_rfl)
instance : TyIface Try.prog 60 false := mkTyIface (by kernel_rfl)
instance : TySz Try.prog 60 5 := mkTySz (by kernel_rfl)
instance : TyBytes Try.prog 60 56 := mkTyBytes (by kernel_rfl)
instance : TyZero Try.prog 60 (.agg ⟨[.slice none 0 0, .int .i64 0, .int .i64 0, .int .i64 0, .bool false]⟩) := mkTyZero (by kernel_rfl)
instance : Fld Try.prog 60 0 0 58 := mkFld (by kernel_rfl)
instance : Fld Try.prog 60 1 1 3 := mkFld (by kernel_rfl)
instance : Fld Try.prog 60 2 2 3 := mkFld (by kernel_rfl)
instance : Fld Try.prog 60 3 3 3 := mkFld (by kernel_rfl)
instance : Fld Try.prog 60 4 4 4 := mkFld (by kernel_rfl)
instance : TyPlaces Try.prog 60 (([(0, 1), (1, 1), (2, 1), (3, 1), (4, 1)] : List (Nat × Nat))[·]?) := mkTyPlaces (by kernel_rfl)
instance : TyS Try.prog 61 := mkTyS (by kernel_rfl) (by kernel_rfl)
instance : TyIface Try.prog 61 false := mkTyIface (by kernel_rfl)
instance : TyFunc Try.prog 61 := mkTyFunc (by kernel_rfl)
instance : TySz Try.prog 61 1 := mkTySz (by kernel_rfl)
instance : TyBytes Try.prog 61 8 := mkTyBytes (by kernel_rfl)
instance : TyZero Try.prog 61 (.nilFunc) := mkTyZero (by kernel_rfl)
instance : TyS Try.prog 63 := mkTyS (by kernel_rfl) (by kernel_rfl)
instance : TyIface Try.prog 63 false := mkTyIface (by kernel_rfl)
instance : TyFunc Try.prog 63 := mkTyFunc (by kernel_rfl)
instance : TySz Try.prog 63 1 := mkTySz (by kernel_rfl)
instance : TyBytes Try.prog 63 8 := mkTyBytes (by kernel_rfl)
instance : TyZero Try.prog 63 (.nilFunc) := mkTyZero (by kernel_rfl)
instance : TyS Try.prog 64 := mkTyS (by kernel_rfl) (by kernel_rfl)
instance : TyIface Try.prog 64 false := mkTyIface (by kernel_rfl)
instance : TyFunc Try.prog 64 := mkTyFunc (by kernel_rfl)
instance : TySz Try.prog 64 1 := mkTySz (by kernel_rfl)
instance : TyBytes Try.prog 64 8 := mkTyBytes (by kernel_rfl)
instance : TyZero Try.prog 64 (.nilFunc) := mkTyZero (by kernel_rfl)
instance : TyS Try.prog 65 := mkTyS (by kernel_rfl) (by kernel_rfl)
instance : TyIface Try.prog 65 false := mkTyIface (by kernel_rfl)
instance : TyFunc Try.prog 65 := mkTyFunc (by kernel_rfl)
instance : TySz Try.prog 65 1 := mkTySz (by kernel_rfl)
instance : TyBytes Try.prog 65 8 := mkTyBytes (by kernel_rfl)
instance : TyZero Try.prog 65 (.nilFunc) := mkTyZero (by kernel_rfl)
instance : TyA Try.prog 66 129 := mkTyA (by kernel_rfl) (by kernel_rfl)
instance : TyIface Try.prog 66 false := mkTyIface (by kernel_rfl)
instance : TySz Try.prog 66 129 := mkTySz (by kernel_rfl)
instance : TyBytes Try.prog 66 129 := mkTyBytes (by kernel_rfl)
instance : TyZero Try.prog 66 (.agg ⟨List.replicate 128 (.int .u8 0) ++ [.bool false]⟩) := mkTyZero (by kernel_rfl)
instance : Fld Try.prog 66 0 0 34 := mkFld (by kernel_rfl)
instance : Fld Try.prog 66 1 64 34 := mkFld (by kernel_rfl)
instance : Fld Try.prog 66 2 128 4 := mkFld (by kernel_rfl)
instance : TyPlaces Try.prog 66 (([(0, 64), (64, 64), (128, 1)] : List (Nat × Nat))[·]?) := mkTyPlaces (by kernel_rfl)
instance : TyA Try.prog 67 129 := mkTyA (by kernel_rfl) (by kernel_rfl)
instance : TyIface Try.prog 67 false := mkTyIface (by kernel_rfl)
instance : TySz Try.prog 67 129 := mkTySz (by kernel_rfl)
instance : TyBytes Try.prog 67 129 := mkTyBytes (by kernel_rfl)
instance : TyZero Try.prog 67 (.agg ⟨List.replicate 128 (.int .u8 0) ++ [.bool false]⟩) := mkTyZero (by kernel_rfl)
instance : Fld Try.prog 67 0 0 34 := mkFld (by kernel_rfl)
instance : Fld Try.prog 67 1 64 34 := mkFld (by kernel_rfl)
instance : Fld Try.prog 67 2 128 4 := mkFld (by kernel_rfl)
instance : TyPlaces Try.prog 67 (([(0, 64), (64, 64), (128, 1)] : List (Nat × Nat))[·]?) := mkTyPlaces (by kernel_rfl)
instance : TyS Try.prog 68 := mkTyS (by kernel_rfl) (by kernel_rfl)
instance : TyIface Try.prog 68 false := mkTyIface (by kernel_rfl)
instance : TyFunc Try.prog 68 := mkTyFunc (by kernel_rfl)
instance : TySz Try.prog 68 1 := mkTySz (by kernel_rfl)
instance : TyBytes Try.prog 68 8 := mkTyBytes (by kernel_rfl)
instance : TyZero Try.prog 68 (.nilFunc) := mkTyZero (by kernel_rfl)
instance : TyS Try.prog 69 := mkTyS (by kernel_rfl) (by kernel_rfl)
instance : TyIface Try.prog 69 false := mkTyIface (by kernel_rfl)
instance : TyFunc Try.prog 69 := mkTyFunc (by kernel_rfl)
instance : TySz Try.prog 69 1 := mkTySz (by kernel_rfl)
instance : TyBytes Try.prog 69 8 := mkTyBytes (by kernel_rfl)
instance : TyZero Try.prog 69 (.nilFunc) := mkTyZero (by kernel_rfl)
instance : TyS Try.prog 71 := mkTyS (by kernel_rfl) (by kernel_rfl)
instance : TyIface Try.prog 71 false := mkTyIface (by kernel_rfl)
instance : TyFunc Try.prog 71 := mkTyFunc (by kernel_rfl)
instance : TySz Try.prog 71 1 := mkTySz (by kernel_rfl)
instance : TyBytes Try.prog 71 8 := mkTyBytes (by kernel_rfl)
instance : TyZero Try.prog 71 (.nilFunc) := mkTyZero (by kernel_rfl)
instance : TyS Try.prog 72 := mkTyS (by kernel_rfl) (by kernel_rfl)
instance : TyIface Try.prog 72 false := mkTyIface (by kernel_rfl)
instance : TySz Try.prog 72 1 := mkTySz (by kernel_rfl)
instance : TyBytes Try.prog 72 8 := mkTyBytes (by kernel_rfl)
instance : TyZero Try.prog 72 (.map none) := mkTyZero (by kernel_rfl)
instance : TyMap Try.prog 72 3 34 := ⟨by kernel_rfl⟩
instance : TyA Try.prog 73 6 := mkTyA (by kernel_rfl) (by kernel_rfl)
instance : TyIface Try.prog 73 false := mkTyIface (by kernel_rfl)
instance : TySz Try.prog 73 6 := mkTySz (by kernel_rfl)
instance : TyBytes Try.prog 73 64 := mkTyBytes (by kernel_rfl)
instance : TyZero Try.prog 73 (.agg ⟨[.slice none 0 0, .map none, .int .i64 0, .int .i64 0, .int .i64 0, .bool false]⟩) := mkTyZero (by kernel_rfl)
instance : Fld Try.prog 73 0 0 50 := mkFld (by kernel_rfl)
instance : Fld Try.prog 73 1 1 72 := mkFld (by kernel_rfl)
instance : Fld Try.prog 73 2 2 3 := mkFld (by kernel_rfl)
instance : Fld Try.prog 73 3 3 3 := mkFld (by kernel_rfl)
instance : Fld Try.prog 73 4 4 3 := mkFld (by kernel_rfl)
instance : Fld Try.prog 73 5 5 4 := mkFld (by kernel_rfl)
instance : TyPlaces Try.prog 73 (([(0, 1), (1, 1), (2, 1), (3, 1), (4, 1), (5, 1)] : List (Nat × Nat))[·]?) := mkTyPlaces (by kernel_rfl)
instance : TyA Try.prog 74 6 := mkTyA (by kernel_rfl) (by kernel_rfl)
instance : TyIface Try.prog 74 false := mkTyIface (by kernel_rfl)
instance : TySz Try.prog 74 6 := mkTySz (by kernel_rfl)
instance : TyBytes Try.prog 74 64 := mkTyBytes (by kernel_rfl)
instance : TyZero Try.prog 74 (.agg ⟨[.slice none 0 0, .map none, .int .i64 0, .int .i64 0, .int .i64 0, .bool false]⟩) := mkTyZero (by kernel_rfl)
instance : Fld Try.prog 74 0 0 50 := mkFld (by kernel_rfl)
instance : Fld Try.prog 74 1 1 72 := mkFld (by kernel_rfl)
instance : Fld Try.prog 74 2 2 3 := mkFld (by kernel_rfl)
instance : Fld Try.prog 74 3 3 3 := mkFld (by kernel_rfl)
instance : Fld Try.prog 74 4 4 3 := mkFld (by kernel_rfl)
instance : Fld Try.prog 74 5 5 4 := mkFld (by kernel_rfl)
instance : TyPlaces Try.prog 74 (([(0, 1), (1, 1), (2, 1), (3, 1), (4, 1), (5, 1)] : List (Nat × Nat))[·]?) := mkTyPlaces (by kernel_rfl)
instance : TyS Try.prog 75 := mkTyS (by kernel_rfl) (by kernel_rfl)
instance : TyIface Try.prog 75 false := mkTyIface (by kernel_rfl)
instance : TyFunc Try.prog 75 := mkTyFunc (by kernel_rfl)
instance : TySz Try.prog 75 1 := mkTySz (by kernel_rfl)
instance : TyBytes Try.prog 75 8 := mkTyBytes (by kernel_rfl)
instance : TyZero Try.prog 75 (.nilFunc) := mkTyZero (by kernel_rfl)
instance : TyS Try.prog 76 := mkTyS (by kernel_rfl) (by kernel_rfl)
instance : TyIface Try.prog 76 false := mkTyIface (by kernel_rfl)
instance : TyFunc Try.prog 76 := mkTyFunc (by kernel_rfl)
instance : TySz Try.prog 76 1 := mkTySz (by kernel_rfl)
instance : TyBytes Try.prog 76 8 := mkTyBytes (by kernel_rfl)
instance : TyZero Try.prog 76 (.nilFunc) := mkTyZero (by kernel_rfl)
instance : TyS Try.prog 77 := mkTyS (by kernel_rfl) (by kernel_rfl)
instance : TyIface Try.prog 77 false := mkTyIface (by kernel_rfl)
instance : TyFunc Try.prog 77 := mkTyFunc (by kernel_rfl)
instance : TySz Try.prog 77 1 := mkTySz (by kernel_rfl)
instance : TyBytes Try.prog 77 8 := mkTyBytes (by kernel_rfl)
instance : TyZero Try.prog 77 (.nilFunc) := mkTyZero (by kernel_rfl)
instance : TyS Try.prog 79 := mkTyS (by kernel_rfl) (by kernel_rfl)
instance : TyIface Try.prog 79 false := mkTyIface (by kernel_rfl)
instance : TyFunc Try.prog 79 := mkTyFunc (by kernel_rfl)
instance : TySz Try.prog 79 1 := mkTySz (by kernel_rfl)
instance : TyBytes Try.prog 79 8 := mkTyBytes (by kernel_rfl)
instance : TyZero Try.prog 79 (.nilFunc) := mkTyZero (by kernel_rfl)
instance : TyS Try.prog 80 := mkTyS (by kernel_rfl) (by kernel_rfl)
instance : TyIface Try.prog 80 false := mkTyIface (by kernel_rfl)
instance : TyFunc Try.prog 80 := mkTyFunc (by kernel_rfl)
instance : TySz Try.prog 80 1 := mkTySz (by kernel_rfl)
instance : TyBytes Try.prog 80 8 := mkTyBytes (by kernel_rfl)
instance : TyZero Try.prog 80 (.nilFunc) := mkTyZero (by kernel_rfl)
instance : TyS Try.prog 81 := mkTyS (by kernel_rfl) (by kernel_rfl)
instance : TyIface Try.prog 81 false := mkTyIface (by kernel_rfl)
instance : TyFunc Try.prog 81 := mkTyFunc (by kernel_rfl)
instance : TySz Try.prog 81 1 := mkTySz (by kernel_rfl)
instance : TyBytes Try.prog 81 8 := mkTyBytes (by kernel_rfl)
instance : TyZero Try.prog 81 (.nilFunc) := mkTyZero (by kernel_rfl)
instance : TyS Try.prog 82 := mkTyS (by kernel_rfl) (by kernel_rfl)
instance : TyIface Try.prog 82 false := mkTyIface (by kernel_rfl)
instance : TyFunc Try.prog 82 := mkTyFunc (by kernel_rfl)
instance : TySz Try.prog 82 1 := mkTySz (by kernel_rfl)
instance : TyBytes Try.prog 82 8 := mkTyBytes (by kernel_rfl)
instance : TyZero Try.prog 82 (.nilFunc) := mkTyZero (by kernel_rfl)
instance : TyS Try.prog 83 := mkTyS (by kernel_rfl) (by kernel_rfl)
instance : TyIface Try.prog 83 false := mkTyIface (by kernel_rfl)
instance : TyFunc Try.prog 83 := mkTyFunc (by kernel_rfl)
instance : TySz Try.prog 83 1 := mkTySz (by kernel_rfl)
instance : TyBytes Try.prog 83 8 := mkTyBytes (by kernel_rfl)
instance : TyZero Try.prog 83 (.nilFunc) := mkTyZero (by kernel_rfl)
instance : TyS Try.prog 84 := mkTyS (by kernel_rfl) (by kernel_rfl)
instance : TyIface Try.prog 84 false := mkTyIface (by kernel_rfl)
instance : TyFunc Try.prog 84 := mkTyFunc (by kernel_rfl)
instance : TySz Try.prog 84 1 := mkTySz (by kernel_rfl)
instance : TyBytes Try.prog 84 8 := mkTyBytes (by kernel_rfl)
instance : TyZero Try.prog 84 (.nilFunc) := mkTyZero (by kernel_rfl)
instance : TyS Try.prog 86 := mkTyS (by kernel_rfl) (by kernel_rfl)
instance : TyIface Try.prog 86 false := mkTyIface (by kernel_rfl)
instance : TyFunc Try.prog 86 := mkTyFunc (by kernel_rfl)
instance : TySz Try.prog 86 1 := mkTySz (by kernel_rfl)
instance : TyBytes Try.prog 86 8 := mkTyBytes (by kernel_rfl)
instance : TyZero Try.prog 86 (.nilFunc) := mkTyZero (by kernel_rfl)
instance : TyS Try.prog 87 := mkTyS (by kernel_rfl) (by kernel_rfl)
instance : TyIface Try.prog 87 false := mkTyIface (by kernel_rfl)
instance : TyFunc Try.prog 87 := mkTyFunc (by kernel_rfl)
instance : TySz Try.prog 87 1 := mkTySz (by kernel_rfl)
instance : TyBytes Try.prog 87 8 := mkTyBytes (by kernel_rfl)
instance : TyZero Try.prog 87 (.nilFunc) := mkTyZero (by kernel_rfl)
instance : TyS Try.prog 88 := mkTyS (by kernel_rfl) (by kernel_rfl)
instance : TyIface Try.prog 88 false := mkTyIface (by kernel_rfl)
instance : TyFunc Try.prog 88 := mkTyFunc (by kernel_rfl)
instance : TySz Try.prog 88 1 := mkTySz (by kernel_rfl)
instance : TyBytes Try.prog 88 8 := mkTyBytes (by kernel_rfl)
instance : TyZero Try.prog 88 (.nilFunc) := mkTyZero (by kernel_rfl)
instance : TyS Try.prog 89 := mkTyS (by kernel_rfl) (by kernel_rfl)
instance : TyIface Try.prog 89 false := mkTyIface (by kernel_rfl)
instance : TyFunc Try.prog 89 := mkTyFunc (by kernel_rfl)
instance : TySz Try.prog 89 1 := mkTySz (by kernel_rfl)
instance : TyBytes Try.prog 89 8 := mkTyBytes (by kernel_rfl)
instance : TyZero Try.prog 89 (.nilFunc) := mkTyZero (by kernel_rfl)
instance : TyS Try.prog 90 := mkTyS (by kernel_rfl) (by kernel_rfl)
instance : TyIface Try.prog 90 false := mkTyIface (by kernel_rfl)
instance : TyFunc Try.prog 90 := mkTyFunc (by kernel_rfl)
instance : TySz Try.prog 90 1 := mkTySz (by kernel_rfl)
instance : TyBytes Try.prog 90 8 := mkTyBytes (by kernel_rfl)
instance : TyZero Try.prog 90 (.nilFunc) := mkTyZero (by kernel_rfl)
instance : TyS Try.prog 91 := mkTyS (by kernel_rfl) (by kernel_rfl)
instance : TyIface Try.prog 91 false := mkTyIface (by kernel_rfl)
instance : TyFunc Try.prog 91 := mkTyFunc (by kernel_rfl)
instance : TySz Try.prog 91 1 := mkTySz (by kernel_rfl)
instance : TyBytes Try.prog 91 8 := mkTyBytes (by kernel_rfl)
instance : TyZero Try.prog 91 (.nilFunc) := mkTyZero (by kernel_rfl)
instance : TyS Try.prog 92 := mkTyS (by kernel_rfl) (by kernel_rfl)
instance : TyIface Try.prog 92 false := mkTyIface (by kernel_rfl)
instance : TySz Try.prog 92 1 := mkTySz (by kernel_rfl)
instance : TyBytes Try.prog 92 8 := mkTyBytes (by kernel_rfl)
instance : TyZero Try.prog 92 (.pointer none) := mkTyZero (by kernel_rfl)
instance : TyPtr Try.prog 92 3 := ⟨by kernel_rfl⟩
instance : TyS Try.prog 93 := mkTyS (by kernel_rfl) (by kernel_rfl)
instance : TyIface Try.prog 93 false := mkTyIface (by kernel_rfl)
instance : TyFunc Try.prog 93 := mkTyFunc (by kernel_rfl)
instance : TySz Try.prog 93 1 := mkTySz (by kernel_rfl)
instance : TyBytes Try.prog 93 8 := mkTyBytes (by kernel_rfl)
instance : TyZero Try.prog 93 (.nilFunc) := mkTyZero (by kernel_rfl)
instance : TyS Try.prog 94 := mkTyS (by kernel_rfl) (by kernel_rfl)
instance : TyIface Try.prog 94 false := mkTyIface (by kernel_rfl)
instance : TyFunc Try.prog 94 := mkTyFunc (by kernel_rfl)
instance : TySz Try.prog 94 1 := mkTySz (by kernel_rfl)
instance : TyBytes Try.prog 94 8 := mkTyBytes (by kernel_rfl)
instance : TyZero Try.prog 94 (.nilFunc) := mkTyZero (by kernel_rfl)
instance : TyS Try.prog 95 := mkTyS (by kernel_rfl) (by kernel_rfl)
instance : TyIface Try.prog 95 false := mkTyIface (by kernel_rfl)
instance : TyFunc Try.prog 95 := mkTyFunc (by kernel_rfl)
instance : TySz Try.prog 95 1 := mkTySz (by kernel_rfl)
instance : TyBytes Try.prog 95 8 := mkTyBytes (by kernel_rfl)
instance : TyZero Try.prog 95 (.nilFunc) := mkTyZero (by kernel_rfl)
instance : TyS Try.prog 96 := mkTyS (by kernel_rfl) (by kernel_rfl)
instance : TyIface Try.prog 96 false := mkTyIface (by kernel_rfl)
instance : TyFunc Try.prog 96 := mkTyFunc (by kernel_rfl)
instance : TySz Try.prog 96 1 := mkTySz (by kernel_rfl)
instance : TyBytes Try.prog 96 8 := mkTyBytes (by kernel_rfl)
instance : TyZero Try.prog 96 (.nilFunc) := mkTyZero (by kernel_rfl)
instance : TyS Try.prog 97 := mkTyS (by kernel_rfl) (by kernel_rfl)
instance : TyIface Try.prog 97 false := mkTyIface (by kernel_rfl)
instance : TyFunc Try.prog 97 := mkTyFunc (by kernel_rfl)
instance : TySz Try.prog 97 1 := mkTySz (by kernel_rfl)
instance : TyBytes Try.prog 97 8 := mkTyBytes (by kernel_rfl)
instance : TyZero Try.prog 97 (.nilFunc) := mkTyZero (by kernel_rfl)
instance : TyS Try.prog 98 := mkTyS (by kernel_rfl) (by kernel_rfl)
instance : TyIface Try.prog 98 false := mkTyIface (by kernel_rfl)
instance : TyFunc Try.prog 98 := mkTyFunc (by kernel_rfl)
instance : TySz Try.prog 98 1 := mkTySz (by kernel_rfl)
instance : TyBytes Try.prog 98 8 := mkTyBytes (by kernel_rfl)
instance : TyZero Try.prog 98 (.nilFunc) := mkTyZero (by kernel_rfl)
instance : TyS Try.prog 99 := mkTyS (by kernel_rfl) (by kernel_rfl)
instance : TyIface Try.prog 99 false := mkTyIface (by kernel_rfl)
instance : TyFunc Try.prog 99 := mkTyFunc (by kernel_rfl)
instance : TySz Try.prog 99 1 := mkTySz (by kernel_rfl)
instance : TyBytes Try.prog 99 8 := mkTyBytes (by kernel_rfl)
instance : TyZero Try.prog 99 (.nilFunc) := mkTyZero (by kernel_rfl)
instance : TyA Try.prog 100 4 := mkTyA (by kernel_rfl) (by kernel_rfl)
instance : TyIface Try.prog 100 false := mkTyIface (by kernel_rfl)
instance : TySz Try.prog 100 4 := mkTySz (by kernel_rfl)
instance : TyBytes Try.prog 100 40 := mkTyBytes (by kernel_rfl)
instance : TyZero Try.prog 100 (.agg ⟨[.pointer none, .pointer none, .pointer none, .string ⟨⟨[]⟩⟩]⟩) := mkTyZero (by kernel_rfl)
instance : Fld Try.prog 100 0 0 17 := mkFld (by kernel_rfl)
instance : Fld Try.prog 100 1 1 17 := mkFld (by kernel_rfl)
instance : Fld Try.prog 100 2 2 17 := mkFld (by kernel_rfl)
instance : Fld Try.prog 100 3 3 9 := mkFld (by kernel_rfl)
instance : TyPlaces Try.prog 100 (([(0, 1), (1, 1), (2, 1), (3, 1)] : List (Nat × Nat))[·]?) := mkTyPlaces (by kernel_rfl)
instance : TyS Try.prog 105 := mkTyS (by kernel_rfl) (by kernel_rfl)
instance : TyIface Try.prog 105 false := mkTyIface (by kernel_rfl)
instance : TySz Try.prog 105 1 := mkTySz (by kernel_rfl)
instance : TyBytes Try.prog 105 4 := mkTyBytes (by kernel_rfl)
instance : TyZero Try.prog 105 (.int .u32 0) := mkTyZero (by kernel_rfl)
instance : TyInt Try.prog 105 .u32 := ⟨by kernel_rfl⟩
instance : TyS Try.prog 108 := mkTyS (by kernel_rfl) (by kernel_rfl)
instance : TyIface Try.prog 108 false := mkTyIface (by kernel_rfl)
instance : TyFunc Try.prog 108 := mkTyFunc (by kernel_rfl)
instance : TySz Try.prog 108 1 := mkTySz (by kernel_rfl)
instance : TyBytes Try.prog 108 8 := mkTyBytes (by kernel_rfl)
instance : TyZero Try.prog 108 (.nilFunc) := mkTyZero (by kernel_rfl)
instance : TyS Try.prog 109 := mkTyS (by kernel_rfl) (by kernel_rfl)
instance : TyIface Try.prog 109 false := mkTyIface (by kernel_rfl)
instance : TySz Try.prog 109 1 := mkTySz (by kernel_rfl)
instance : TyBytes Try.prog 109 8 := mkTyBytes (by kernel_rfl)
instance : TyZero Try.prog 109 (.pointer none) := mkTyZero (by kernel_rfl)
instance : TyPtr Try.prog 109 5 := ⟨by kernel_rfl⟩
instance : TyA Try.prog 112 11 := mkTyA (by kernel_rfl) (by kernel_rfl)
instance : TyIface Try.prog 112 false := mkTyIface (by kernel_rfl)
instance : TySz Try.prog 112 11 := mkTySz (by kernel_rfl)
instance : TyBytes Try.prog 112 48 := mkTyBytes (by kernel_rfl)
instance : TyZero Try.prog 112 (.agg ⟨[.int .u64 0, .int .u64 0, .int .u32 0, .int .u8 0, .int .u8 0, .int .u8 0, .int .u8 0, .nilFunc, .pointer none, .int .i32 0, .int .i32 0]⟩) := mkTyZero (by kernel_rfl)
instance : Fld Try.prog 112 0 0 12 := mkFld (by kernel_rfl)
instance : Fld Try.prog 112 1 1 12 := mkFld (by kernel_rfl)
instance : Fld Try.prog 112 2 2 105 := mkFld (by kernel_rfl)
instance : Fld Try.prog 112 3 3 106 := mkFld (by kernel_rfl)
instance : Fld Try.prog 112 4 4 5 := mkFld (by kernel_rfl)
instance : Fld Try.prog 112 5 5 5 := mkFld (by kernel_rfl)
instance : Fld Try.prog 112 6 6 107 := mkFld (by kernel_rfl)
instance : Fld Try.prog 112 7 7 108 := mkFld (by kernel_rfl)
instance : Fld Try.prog 112 8 8 109 := mkFld (by kernel_rfl)
instance : Fld Try.prog 112 9 9 110 := mkFld (by kernel_rfl)
instance : Fld Try.prog 112 10 10 111 := mkFld (by kernel_rfl)
instance : TyPlaces Try.prog 112 (([(0, 1), (1, 1), (2, 1), (3, 1), (4, 1), (5, 1), (6, 1), (7, 1), (8, 1), (9, 1), (10, 1)] : List (Nat × Nat))[·]?) := mkTyPlaces (by kernel_rfl)
instance : Fun Try.prog 3 := mkFun (by kernel_rfl)
instance : Fun Try.prog 4 := mkFun (by kernel_rfl)
instance : Fun Try.prog 5 := mkFun (by kernel_rfl)
instance : Fun Try.prog 6 := mkFun (by kernel_rfl)
instance : Fun Try.prog 7 := mkFun (by kernel_rfl)
instance : Fun Try.prog 8 := mkFun (by kernel_rfl)
instance : Fun Try.prog 9 := mkFun (by kernel_rfl)
instance : Fun Try.prog 10 := mkFun (by kernel_rfl)
instance : Fun Try.prog 11 := mkFun (by kernel_rfl)
instance : Fun Try.prog 12 := mkFun (by kernel_rfl)
instance : Fun Try.prog 13 := mkFun (by kernel_rfl)
instance : Fun Try.prog 14 := mkFun (by kernel_rfl)
instance : Fun Try.prog 15 := mkFun (by kernel_rfl)
instance : Fun Try.prog 16 := mkFun (by kernel_rfl)
instance : Fun Try.prog 17 := mkFun (by kernel_rfl)
instance : Fun Try.prog 18 := mkFun (by kernel_rfl)
instance : Fun Try.prog 19 := mkFun (by kernel_rfl)
instance : Fun Try.prog 20 := mkFun (by kernel_rfl)
instance : Fun Try.prog 21 := mkFun (by kernel_rfl)
instance : Fun Try.prog 22 := mkFun (by kernel_rfl)
instance : Fun Try.prog 23 := mkFun (by kernel_rfl)
instance : Fun Try.prog 24 := mkFun (by kernel_rfl)
instance : Fun Try.prog 25 := mkFun (by kernel_rfl)
instance : Fun Try.prog 26 := mkFun (by kernel_rfl)
instance : Fun Try.prog 27 := mkFun (by kernel_rfl)
instance : Fun Try.prog 28 := mkFun (by kernel_rfl)
instance : Fun Try.prog 29 := mkFun (by kernel_rfl)
instance : Fun Try.prog 30 := mkFun (by kernel_rfl)
instance : Fun Try.prog 31 := mkFun (by kernel_rfl)
instance : Fun Try.prog 32 := mkFun (by kernel_rfl)
instance : Fun Try.prog 33 := mkFun (by kernel_rfl)
instance : Fun Try.prog 34 := mkFun (by kernel_rfl)
instance : Fun Try.prog 35 := mkFun (by kernel_rfl)
instance : Fun Try.prog 36 := mkFun (by kernel_rfl)
instance : Fun Try.prog 37 := mkFun (by kernel_rfl)
instance : Fun Try.prog 38 := mkFun (by kernel_rfl)
instance : Fun Try.prog 39 := mkFun (by kernel_rfl)
instance : Fun Try.prog 40 := mkFun (by kernel_rfl)
instance : Fun Try.prog 41 := mkFun (by kernel_rfl)
instance : Fun Try.prog 42 := mkFun (by kernel_rfl)
instance : Fun Try.prog 43 := mkFun (by kernel_rfl)
instance : Fun Try.prog 44 := mkFun (by kernel_rfl)
instance : Fun Try.prog 45 := mkFun (by kernel_rfl)
instance : Fun Try.prog 46 := mkFun (by kernel_rfl)
instance : Fun Try.prog 47 := mkFun (by kernel_rfl)
instance : Fun Try.prog 48 := mkFun (by kernel_rfl)
instance : Fun Try.prog 49 := mkFun (by kernel_rfl)
instance : Fun Try.prog 50 := mkFun (by kernel_rfl)
instance : Fun Try.prog 51 := mkFun (by kernel_rfl)
instance : Fun Try.prog 52 := mkFun (by kernel_rfl)
instance : Fun Try.prog 53 := mkFun (by kernel_rfl)
instance : Fun Try.prog 54 := mkFun (by kernel_rfl)
instance : Fun Try.prog 55 := mkFun (by kernel_rfl)
instance : Fun Try.prog 56 := mkFun (by kernel_rfl)
instance : Fun Try.prog 57 := mkFun (by kernel_rfl)
instance : Fun Try.prog 59 := mkFun (by kernel_rfl)
instance : Fun Try.prog 60 := mkFun (by kernel_rfl)
instance : Fun Try.prog 61 := mkFun (by kernel_rfl)
instance : Fun Try.prog 62 := mkFun (by kernel_rfl)
instance : Fun Try.prog 63 := mkFun (by kernel_rfl)
instance : Mixed Try.prog := ⟨by kernel_rfl⟩
end Go.Proofs.E

namespace Go.Proofs.E
open Go
set_option linter.unusedVariables false
set_option linter.unusedSimpArgs false
set_option maxRecDepth 4000
attribute [local irreducible] Yl TL TC TE Spec YSpec R1 Hp.le EnvLe TS TR YS Stays

/-! ## layer 2: the disk -/
abbrev Blk := List UInt8
abbrev Secs := List (Blk × Option Blk)
def heldC (s : Secs) : List Value := (s.map fun p => p.1.map u8c).flatten
structure SecsOk (s : Secs) : Prop where
  len : s.length ≤ 2048
  pos : 0 < s.length
  held : ∀ p ∈ s, p.1.length = 64
  cached : ∀ p ∈ s, ∀ c, p.2 = some c → c.length = 64
def bv (b : Blk) : Value := .agg ⟨b.map u8c⟩
structure MapOk (s : Secs) (es : List MapEntry) : Prop where
  keys : IntKeys .i64 es
  get : ∀ j : Int, mget es j = if 0 ≤ j then ((s[j.toNat]?).bind (·.2)).map bv else none
/-- where the held blocks lie: the block's number, the slice's capacity, what lies behind the blocks -/
structure HB where
  b : Nat
  cap : Nat
  sp : List Value
def dO (hb : HB) (mb n : Nat) (ops armed failing : Int) (dead : Bool) : Obj := .cells ⟨[.slice (some ⟨hb.b, 0, none⟩) n hb.cap, .map (some mb), .int .i64 ops, .int .i64 armed, .int .i64 failing, .bool dead]⟩ 74 (0, 0)

set_option maxHeartbeats 400000 in
theorem lives_nil (ρ : Hp) : Spec Try.prog 44 [.pointer none] ρ [] (fun v ρ' L' => v = .int .i64 1 ∧ ρ' = ρ ∧ L' = []) := by
  refine spec_enter Try.func44 rfl rfl rfl fun u R => ?_
  simp only [argsE, List.cons_append, List.nil_append]
  repeat' (first | (refine i_op ?_; first | (refine iMv ?_; refine qMv ?_) | (refine iLd ?_; refine qLd ?_) | (refine iFa ?_; refine qFa ?_) | (refine iAd ?_; refine qAd ?_) | (refine iSb ?_; refine qSb ?_) | (refine iMl ?_; refine qMl ?_) | (refine iRm ?_; refine qRm ?_) | (refine iQu ?_; refine qQu ?_) | (refine iSr ?_; refine qSr ?_) | (refine iSh ?_; refine qSh ?_) | (refine iCm ?_; refine qCm ?_) | (refine iEx ?_; refine qEx ?_) | (refine iAs ?_; refine qAs ?_) | (refine iPk ?_; refine qPk ?_) | (refine iNc ?_; refine qNc ?_) | (refine iIa ?_; refine qIa ?_) | (refine iCv ?_; refine qCv ?_) | (refine iBi ?_; refine qBi ?_) | (refine iUn ?_; refine qUn ?_) | (refine iFl ?_; refine qFl ?_) | (refine iLu ?_; refine qLu ?_) | (refine iBu ?_; refine qBu ?_) | (refine iSl ?_; refine qSl ?_) | (refine iMf ?_; refine qMf ?_) | (refine iMi ?_; refine qMi ?_) | (refine iTa ?_; refine qTa ?_) | (refine iSt ?_; refine qSt ?_) | (refine iAl ?_; first | refine qAlA (fun _ => ?_) | refine qAlS (fun _ => ?_)) | (refine iBx ?_; first | refine qBxA (fun _ => ?_) | refine qBxS (fun _ => ?_)) | (refine iMm ?_; refine qMm (fun _ => ?_)) | (refine iBs ?_; refine qBs (fun _ => ?_)) | (refine i_gd ?_; first | refine qWant ?_ | refine qSkip ?_ | refine qSkip0 ?_ | refine qSkipU ?_)) | refine tl_nil ?_ | refine tc_seq ?_ | refine tc_region ?_ | refine te_seq ?_ | (refine i_cond ?_; first | refine qCt ?_ | refine qCf ?_) | refine tc_block ?_ | refine te_block_normal ?_ | refine te_block_ret ?_ | refine te_then_ret ?_ | refine te_block_hit ?_ | (refine i_miss ?_; refine qMiss ?_) | refine te_then_exit ?_ | refine tc_exit ?_ | refine tc_ret ?_ | refine tc_skip ?_)
  exact te_end rfl rfl rfl (by exact res1 rfl (r1_tmp rfl)) (Hp.le_refl _) (by infer_instance) (by infer_instance) ⟨rfl, rfl, rfl⟩
set_option maxHeartbeats 400000 in
theorem lives_dead (ρ : Hp) (b : Nat) (hb : HB) (mb n : Nat) (ops armed failing : Int) : Spec Try.prog 44 [.pointer (some ⟨b, 0, none⟩)] ρ [[(b, dO hb mb n ops armed failing true)]] (fun v ρ' L' => v = .int .i64 9 ∧ ρ' = ρ ∧ L' = [[(b, dO hb mb n ops armed failing true)]]) := by
  refine spec_enter Try.func44 rfl rfl rfl fun u R => ?_
  simp only [argsE, List.cons_append, List.nil_append, dO]
  repeat' (first | (refine i_op ?_; first | (refine iMv ?_; refine qMv ?_) | (refine iLd ?_; refine qLd ?_) | (refine iFa ?_; refine qFa ?_) | (refine iAd ?_; refine qAd ?_) | (refine iSb ?_; refine qSb ?_) | (refine iMl ?_; refine qMl ?_) | (refine iRm ?_; refine qRm ?_) | (refine iQu ?_; refine qQu ?_) | (refine iSr ?_; refine qSr ?_) | (refine iSh ?_; refine qSh ?_) | (refine iCm ?_; refine qCm ?_) | (refine iEx ?_; refine qEx ?_) | (refine iAs ?_; refine qAs ?_) | (refine iPk ?_; refine qPk ?_) | (refine iNc ?_; refine qNc ?_) | (refine iIa ?_; refine qIa ?_) | (refine iCv ?_; refine qCv ?_) | (refine iBi ?_; refine qBi ?_) | (refine iUn ?_; refine qUn ?_) | (refine iFl ?_; refine qFl ?_) | (refine iLu ?_; refine qLu ?_) | (refine iBu ?_; refine qBu ?_) | (refine iSl ?_; refine qSl ?_) | (refine iMf ?_; refine qMf ?_) | (refine iMi ?_; refine qMi ?_) | (refine iTa ?_; refine qTa ?_) | (refine iSt ?_; refine qSt ?_) | (refine iAl ?_; first | refine qAlA (fun _ => ?_) | refine qAlS (fun _ => ?_)) | (refine iBx ?_; first | refine qBxA (fun _ => ?_) | refine qBxS (fun _ => ?_)) | (refine iMm ?_; refine qMm (fun _ => ?_)) | (refine iBs ?_; refine qBs (fun _ => ?_)) | (refine i_gd ?_; first | refine qWant ?_ | refine qSkip ?_ | refine qSkip0 ?_ | refine qSkipU ?_)) | refine tl_nil ?_ | refine tc_seq ?_ | refine tc_region ?_ | refine te_seq ?_ | (refine i_cond ?_; first | refine qCt ?_ | refine qCf ?_) | refine tc_block ?_ | refine te_block_normal ?_ | refine te_block_ret ?_ | refine te_then_ret ?_ | refine te_block_hit ?_ | (refine i_miss ?_; refine qMiss ?_) | refine te_then_exit ?_ | refine tc_exit ?_ | refine tc_ret ?_ | refine tc_skip ?_)
  exact te_end rfl rfl rfl (by exact res1 rfl (r1_tmp rfl)) (Hp.le_refl _) (by infer_instance) (by infer_instance) ⟨rfl, rfl, rfl⟩
set_option maxHeartbeats 400000 in
theorem lives_ok (ρ : Hp) (b : Nat) (hb : HB) (mb n : Nat) (ops armed failing : Int) : Spec Try.prog 44 [.pointer (some ⟨b, 0, none⟩)] ρ [[(b, dO hb mb n ops armed failing false)]] (fun v ρ' L' => v = .int .i64 0 ∧ ρ' = ρ ∧ L' = [[(b, dO hb mb n ops armed failing false)]]) := by
  refine spec_enter Try.func44 rfl rfl rfl fun u R => ?_
  simp only [argsE, List.cons_append, List.nil_append, dO]
  repeat' (first | (refine i_op ?_; first | (refine iMv ?_; refine qMv ?_) | (refine iLd ?_; refine qLd ?_) | (refine iFa ?_; refine qFa ?_) | (refine iAd ?_; refine qAd ?_) | (refine iSb ?_; refine qSb ?_) | (refine iMl ?_; refine qMl ?_) | (refine iRm ?_; refine qRm ?_) | (refine iQu ?_; refine qQu ?_) | (refine iSr ?_; refine qSr ?_) | (refine iSh ?_; refine qSh ?_) | (refine iCm ?_; refine qCm ?_) | (refine iEx ?_; refine qEx ?_) | (refine iAs ?_; refine qAs ?_) | (refine iPk ?_; refine qPk ?_) | (refine iNc ?_; refine qNc ?_) | (refine iIa ?_; refine qIa ?_) | (refine iCv ?_; refine qCv ?_) | (refine iBi ?_; refine qBi ?_) | (refine iUn ?_; refine qUn ?_) | (refine iFl ?_; refine qFl ?_) | (refine iLu ?_; refine qLu ?_) | (refine iBu ?_; refine qBu ?_) | (refine iSl ?_; refine qSl ?_) | (refine iMf ?_; refine qMf ?_) | (refine iMi ?_; refine qMi ?_) | (refine iTa ?_; refine qTa ?_) | (refine iSt ?_; refine qSt ?_) | (refine iAl ?_; first | refine qAlA (fun _ => ?_) | refine qAlS (fun _ => ?_)) | (refine iBx ?_; first | refine qBxA (fun _ => ?_) | refine qBxS (fun _ => ?_)) | (refine iMm ?_; refine qMm (fun _ => ?_)) | (refine iBs ?_; refine qBs (fun _ => ?_)) | (refine i_gd ?_; first | refine qWant ?_ | refine qSkip ?_ | refine qSkip0 ?_ | refine qSkipU ?_)) | refine tl_nil ?_ | refine tc_seq ?_ | refine tc_region ?_ | refine te_seq ?_ | (refine i_cond ?_; first | refine qCt ?_ | refine qCf ?_) | refine tc_block ?_ | refine te_block_normal ?_ | refine te_block_ret ?_ | refine te_then_ret ?_ | refine te_block_hit ?_ | (refine i_miss ?_; refine qMiss ?_) | refine te_then_exit ?_ | refine tc_exit ?_ | refine tc_ret ?_ | refine tc_skip ?_)
  exact te_end rfl rfl rfl (by exact res1 rfl (r1_tmp rfl)) (Hp.le_refl _) (by infer_instance) (by infer_instance) ⟨rfl, rfl, rfl⟩
end Go.Proofs.E

namespace Go.Proofs.E
open Go
set_option linter.unusedVariables false
set_option linter.unusedSimpArgs false
set_option maxRecDepth 4000
attribute [local irreducible] Yl TL TC TE Spec YSpec R1 Hp.le EnvLe TS TR YS Stays

theorem counts_dO4 (ρ : Hp) (b : Nat) (hb : HB) (mb n : Nat) (ops armed failing : Int) (dead : Bool) (h1 : -1 ≤ failing) (h2 : failing ≤ 9223372036854775807) :
    Spec Try.prog 55 [.pointer (some ⟨b, 4, none⟩)] ρ [[(b, dO hb mb n ops armed failing dead)]] (fun v ρ' L' => v = .bool (failing == 0) ∧ ρ' = ρ ∧ L' = [[(b, dO hb mb n ops armed (max (failing-1) (-1)) dead)]]) := by
  refine spec_enter Try.func55 rfl rfl rfl fun u R => ?_
  simp only [argsE, List.cons_append, List.nil_append, dO]
  repeat' (first | (refine i_op ?_; first | (refine iMv ?_; refine qMv ?_) | (refine iLd ?_; refine qLd ?_) | (refine iFa ?_; refine qFa ?_) | (refine iAd ?_; refine qAd ?_) | (refine iSb ?_; refine qSb ?_) | (refine iMl ?_; refine qMl ?_) | (refine iRm ?_; refine qRm ?_) | (refine iQu ?_; refine qQu ?_) | (refine iSr ?_; refine qSr ?_) | (refine iSh ?_; refine qSh ?_) | (refine iCm ?_; refine qCm ?_) | (refine iEx ?_; refine qEx ?_) | (refine iAs ?_; refine qAs ?_) | (refine iPk ?_; refine qPk ?_) | (refine iNc ?_; refine qNc ?_) | (refine iIa ?_; refine qIa ?_) | (refine iCv ?_; refine qCv ?_) | (refine iBi ?_; refine qBi ?_) | (refine iUn ?_; refine qUn ?_) | (refine iFl ?_; refine qFl ?_) | (refine iLu ?_; refine qLu ?_) | (refine iBu ?_; refine qBu ?_) | (refine iSl ?_; refine qSl ?_) | (refine iMf ?_; refine qMf ?_) | (refine iMi ?_; refine qMi ?_) | (refine iTa ?_; refine qTa ?_) | (refine iSt ?_; refine qSt ?_) | (refine iAl ?_; first | refine qAlA (fun _ => ?_) | refine qAlS (fun _ => ?_)) | (refine iBx ?_; first | refine qBxA (fun _ => ?_) | refine qBxS (fun _ => ?_)) | (refine iMm ?_; refine qMm (fun _ => ?_)) | (refine iBs ?_; refine qBs (fun _ => ?_)) | (refine i_gd ?_; first | refine qWant ?_ | refine qSkip ?_ | refine qSkip0 ?_ | refine qSkipU ?_)) | refine tl_nil ?_ | refine tc_seq ?_ | refine tc_region ?_ | refine te_seq ?_ | (refine i_cond ?_; first | refine qCt ?_ | refine qCf ?_) | refine tc_block ?_ | refine te_block_normal ?_ | refine te_block_ret ?_ | refine te_then_ret ?_ | refine te_block_hit ?_ | (refine i_miss ?_; refine qMiss ?_) | refine te_then_exit ?_ | refine tc_exit ?_ | refine tc_ret ?_ | refine tc_skip ?_)
  exact qE ⟨rfl, rfl, rfl⟩
theorem counts_dO3 (ρ : Hp) (b : Nat) (hb : HB) (mb n : Nat) (ops armed failing : Int) (dead : Bool) (h1 : -1 ≤ armed) (h2 : armed ≤ 9223372036854775807) :
    Spec Try.prog 55 [.pointer (some ⟨b, 3, none⟩)] ρ [[(b, dO hb mb n ops armed failing dead)]] (fun v ρ' L' => v = .bool (armed == 0) ∧ ρ' = ρ ∧ L' = [[(b, dO hb mb n ops (max (armed-1) (-1)) failing dead)]]) := by
  refine spec_enter Try.func55 rfl rfl rfl fun u R => ?_
  simp only [argsE, List.cons_append, List.nil_append, dO]
  repeat' (first | (refine i_op ?_; first | (refine iMv ?_; refine qMv ?_) | (refine iLd ?_; refine qLd ?_) | (refine iFa ?_; refine qFa ?_) | (refine iAd ?_; refine qAd ?_) | (refine iSb ?_; refine qSb ?_) | (refine iMl ?_; refine qMl ?_) | (refine iRm ?_; refine qRm ?_) | (refine iQu ?_; refine qQu ?_) | (refine iSr ?_; refine qSr ?_) | (refine iSh ?_; refine qSh ?_) | (refine iCm ?_; refine qCm ?_) | (refine iEx ?_; refine qEx ?_) | (refine iAs ?_; refine qAs ?_) | (refine iPk ?_; refine qPk ?_) | (refine iNc ?_; refine qNc ?_) | (refine iIa ?_; refine qIa ?_) | (refine iCv ?_; refine qCv ?_) | (refine iBi ?_; refine qBi ?_) | (refine iUn ?_; refine qUn ?_) | (refine iFl ?_; refine qFl ?_) | (refine iLu ?_; refine qLu ?_) | (refine iBu ?_; refine qBu ?_) | (refine iSl ?_; refine qSl ?_) | (refine iMf ?_; refine qMf ?_) | (refine iMi ?_; refine qMi ?_) | (refine iTa ?_; refine qTa ?_) | (refine iSt ?_; refine qSt ?_) | (refine iAl ?_; first | refine qAlA (fun _ => ?_) | refine qAlS (fun _ => ?_)) | (refine iBx ?_; first | refine qBxA (fun _ => ?_) | refine qBxS (fun _ => ?_)) | (refine iMm ?_; refine qMm (fun _ => ?_)) | (refine iBs ?_; refine qBs (fun _ => ?_)) | (refine i_gd ?_; first | refine qWant ?_ | refine qSkip ?_ | refine qSkip0 ?_ | refine qSkipU ?_)) | refine tl_nil ?_ | refine tc_seq ?_ | refine tc_region ?_ | refine te_seq ?_ | (refine i_cond ?_; first | refine qCt ?_ | refine qCf ?_) | refine tc_block ?_ | refine te_block_normal ?_ | refine te_block_ret ?_ | refine te_then_ret ?_ | refine te_block_hit ?_ | (refine i_miss ?_; refine qMiss ?_) | refine te_then_exit ?_ | refine tc_exit ?_ | refine tc_ret ?_ | refine tc_skip ?_)
  exact qE ⟨rfl, rfl, rfl⟩

/-! ### does -/
theorem does_dead (ρ : Hp) (b : Nat) (hb : HB) (mb n : Nat) (ops armed failing i : Int) (d l : Value) : Spec Try.prog 34 [.pointer (some ⟨b, 0, none⟩), .int .i64 i, d, l] ρ [[(b, dO hb mb n ops armed failing true)]]
    (fun v ρ' L' => v = .int .i64 9 ∧ ρ' = ρ ∧ L' = [[(b, dO hb mb n ops armed failing true)]]) := by
  refine spec_enter Try.func34 rfl rfl rfl fun u R => ?_
  simp only [argsE, List.cons_append, List.nil_append]
  repeat' (first | (refine tl_is (.func 44) ?_; refine qC rfl rfl (lives_dead _ _ _ _ _ _ _ _) ?_; rintro v ρ' L' hle ⟨rfl, rfl, rfl⟩ <;> (try simp only [List.cons_append, List.nil_append, List.append_eq])) | (refine i_op ?_; first | (refine iMv ?_; refine qMv ?_) | (refine iLd ?_; refine qLd ?_) | (refine iFa ?_; refine qFa ?_) | (refine iAd ?_; refine qAd ?_) | (refine iSb ?_; refine qSb ?_) | (refine iMl ?_; refine qMl ?_) | (refine iRm ?_; refine qRm ?_) | (refine iQu ?_; refine qQu ?_) | (refine iSr ?_; refine qSr ?_) | (refine iSh ?_; refine qSh ?_) | (refine iCm ?_; refine qCm ?_) | (refine iEx ?_; refine qEx ?_) | (refine iAs ?_; refine qAs ?_) | (refine iPk ?_; refine qPk ?_) | (refine iNc ?_; refine qNc ?_) | (refine iIa ?_; refine qIa ?_) | (refine iCv ?_; refine qCv ?_) | (refine iBi ?_; refine qBi ?_) | (refine iUn ?_; refine qUn ?_) | (refine iFl ?_; refine qFl ?_) | (refine iLu ?_; refine qLu ?_) | (refine iBu ?_; refine qBu ?_) | (refine iSl ?_; refine qSl ?_) | (refine iMf ?_; refine qMf ?_) | (refine iMi ?_; refine qMi ?_) | (refine iTa ?_; refine qTa ?_) | (refine iSt ?_; refine qSt ?_) | (refine iAl ?_; first | refine qAlA (fun _ => ?_) | refine qAlS (fun _ => ?_)) | (refine iBx ?_; first | refine qBxA (fun _ => ?_) | refine qBxS (fun _ => ?_)) | (refine iMm ?_; refine qMm (fun _ => ?_)) | (refine iBs ?_; refine qBs (fun _ => ?_)) | (refine i_gd ?_; first | refine qWant ?_ | refine qSkip ?_ | refine qSkip0 ?_ | refine qSkipU ?_)) | refine tl_nil ?_ | refine tc_seq ?_ | refine tc_region ?_ | refine te_seq ?_ | (refine i_cond ?_; first | refine qCt ?_ | refine qCf ?_) | refine tc_block ?_ | refine te_block_normal ?_ | refine te_block_ret ?_ | refine te_then_ret ?_ | refine te_block_hit ?_ | (refine i_miss ?_; refine qMiss ?_) | refine te_then_exit ?_ | refine tc_exit ?_ | refine tc_ret ?_ | refine tc_skip ?_)
  exact qE ⟨rfl, rfl, rfl⟩
theorem does_nil (ρ : Hp) (i : Int) (d l : Value) : Spec Try.prog 34 [.pointer none, .int .i64 i, d, l] ρ [] (fun v ρ' L' => v = .int .i64 1 ∧ ρ' = ρ ∧ L' = []) := by
  refine spec_enter Try.func34 rfl rfl rfl fun u R => ?_
  simp only [argsE, List.cons_append, List.nil_append]
  repeat' (first | (refine tl_is (.func 44) ?_; refine qC rfl rfl (lives_nil _) ?_; rintro v ρ' L' hle ⟨rfl, rfl, rfl⟩ <;> (try simp only [List.cons_append, List.nil_append, List.append_eq])) | (refine i_op ?_; first | (refine iMv ?_; refine qMv ?_) | (refine iLd ?_; refine qLd ?_) | (refine iFa ?_; refine qFa ?_) | (refine iAd ?_; refine qAd ?_) | (refine iSb ?_; refine qSb ?_) | (refine iMl ?_; refine qMl ?_) | (refine iRm ?_; refine qRm ?_) | (refine iQu ?_; refine qQu ?_) | (refine iSr ?_; refine qSr ?_) | (refine iSh ?_; refine qSh ?_) | (refine iCm ?_; refine qCm ?_) | (refine iEx ?_; refine qEx ?_) | (refine iAs ?_; refine qAs ?_) | (refine iPk ?_; refine qPk ?_) | (refine iNc ?_; refine qNc ?_) | (refine iIa ?_; refine qIa ?_) | (refine iCv ?_; refine qCv ?_) | (refine iBi ?_; refine qBi ?_) | (refine iUn ?_; refine qUn ?_) | (refine iFl ?_; refine qFl ?_) | (refine iLu ?_; refine qLu ?_) | (refine iBu ?_; refine qBu ?_) | (refine iSl ?_; refine qSl ?_) | (refine iMf ?_; refine qMf ?_) | (refine iMi ?_; refine qMi ?_) | (refine iTa ?_; refine qTa ?_) | (refine iSt ?_; refine qSt ?_) | (refine iAl ?_; first | refine qAlA (fun _ => ?_) | refine qAlS (fun _ => ?_)) | (refine iBx ?_; first | refine qBxA (fun _ => ?_) | refine qBxS (fun _ => ?_)) | (refine iMm ?_; refine qMm (fun _ => ?_)) | (refine iBs ?_; refine qBs (fun _ => ?_)) | (refine i_gd ?_; first | refine qWant ?_ | refine qSkip ?_ | refine qSkip0 ?_ | refine qSkipU ?_)) | refine tl_nil ?_ | refine tc_seq ?_ | refine tc_region ?_ | refine te_seq ?_ | (refine i_cond ?_; first | refine qCt ?_ | refine qCf ?_) | refine tc_block ?_ | refine te_block_normal ?_ | refine te_block_ret ?_ | refine te_then_ret ?_ | refine te_block_hit ?_ | (refine i_miss ?_; refine qMiss ?_) | refine te_then_exit ?_ | refine tc_exit ?_ | refine tc_ret ?_ | refine tc_skip ?_)
  exact qE ⟨rfl, rfl, rfl⟩
theorem does_arg (ρ : Hp) (b : Nat) (hb : HB) (mb n : Nat) (ops armed failing i : Int) (d l : Value) (hi : i < 0 ∨ (n : Int) ≤ i) : Spec Try.prog 34 [.pointer (some ⟨b, 0, none⟩), .int .i64 i, d, l] ρ [[(b, dO hb mb n ops armed failing false)]]
    (fun v ρ' L' => v = .int .i64 2 ∧ ρ' = ρ ∧ L' = [[(b, dO hb mb n ops armed failing false)]]) := by
  refine spec_enter Try.func34 rfl rfl rfl fun u R => ?_
  simp only [argsE, List.cons_append, List.nil_append]
  by_cases h0 : i < 0
  · repeat' (first | (refine tl_is (.func 44) ?_; refine qC rfl rfl (lives_ok _ _ _ _ _ _ _ _) ?_; rintro v ρ' L' hle ⟨rfl, rfl, rfl⟩ <;> (try simp only [List.cons_append, List.nil_append, List.append_eq, dO])) | (refine i_op ?_; first | (refine iMv ?_; refine qMv ?_) | (refine iLd ?_; refine qLd ?_) | (refine iFa ?_; refine qFa ?_) | (refine iAd ?_; refine qAd ?_) | (refine iSb ?_; refine qSb ?_) | (refine iMl ?_; refine qMl ?_) | (refine iRm ?_; refine qRm ?_) | (refine iQu ?_; refine qQu ?_) | (refine iSr ?_; refine qSr ?_) | (refine iSh ?_; refine qSh ?_) | (refine iCm ?_; refine qCm ?_) | (refine iEx ?_; refine qEx ?_) | (refine iAs ?_; refine qAs ?_) | (refine iPk ?_; refine qPk ?_) | (refine iNc ?_; refine qNc ?_) | (refine iIa ?_; refine qIa ?_) | (refine iCv ?_; refine qCv ?_) | (refine iBi ?_; refine qBi ?_) | (refine iUn ?_; refine qUn ?_) | (refine iFl ?_; refine qFl ?_) | (refine iLu ?_; refine qLu ?_) | (refine iBu ?_; refine qBu ?_) | (refine iSl ?_; refine qSl ?_) | (refine iMf ?_; refine qMf ?_) | (refine iMi ?_; refine qMi ?_) | (refine iTa ?_; refine qTa ?_) | (refine iSt ?_; refine qSt ?_) | (refine iAl ?_; first | refine qAlA (fun _ => ?_) | refine qAlS (fun _ => ?_)) | (refine iBx ?_; first | refine qBxA (fun _ => ?_) | refine qBxS (fun _ => ?_)) | (refine iMm ?_; refine qMm (fun _ => ?_)) | (refine iBs ?_; refine qBs (fun _ => ?_)) | (refine i_gd ?_; first | refine qWant ?_ | refine qSkip ?_ | refine qSkip0 ?_ | refine qSkipU ?_)) | refine tl_nil ?_ | refine tc_seq ?_ | refine tc_region ?_ | refine te_seq ?_ | (refine i_cond ?_; first | refine qCt ?_ | refine qCf ?_) | refine tc_block ?_ | refine te_block_normal ?_ | refine te_block_ret ?_ | refine te_then_ret ?_ | refine te_block_hit ?_ | (refine i_miss ?_; refine qMiss ?_) | refine te_then_exit ?_ | refine tc_exit ?_ | refine tc_ret ?_ | refine tc_skip ?_)
    exact qE ⟨rfl, rfl, rfl⟩
  · repeat' (first | (refine tl_is (.func 44) ?_; refine qC rfl rfl (lives_ok _ _ _ _ _ _ _ _) ?_; rintro v ρ' L' hle ⟨rfl, rfl, rfl⟩ <;> (try simp only [List.cons_append, List.nil_append, List.append_eq, dO])) | (refine i_op ?_; first | (refine iMv ?_; refine qMv ?_) | (refine iLd ?_; refine qLd ?_) | (refine iFa ?_; refine qFa ?_) | (refine iAd ?_; refine qAd ?_) | (refine iSb ?_; refine qSb ?_) | (refine iMl ?_; refine qMl ?_) | (refine iRm ?_; refine qRm ?_) | (refine iQu ?_; refine qQu ?_) | (refine iSr ?_; refine qSr ?_) | (refine iSh ?_; refine qSh ?_) | (refine iCm ?_; refine qCm ?_) | (refine iEx ?_; refine qEx ?_) | (refine iAs ?_; refine qAs ?_) | (refine iPk ?_; refine qPk ?_) | (refine iNc ?_; refine qNc ?_) | (refine iIa ?_; refine qIa ?_) | (refine iCv ?_; refine qCv ?_) | (refine iBi ?_; refine qBi ?_) | (refine iUn ?_; refine qUn ?_) | (refine iFl ?_; refine qFl ?_) | (refine iLu ?_; refine qLu ?_) | (refine iBu ?_; refine qBu ?_) | (refine iSl ?_; refine qSl ?_) | (refine iMf ?_; refine qMf ?_) | (refine iMi ?_; refine qMi ?_) | (refine iTa ?_; refine qTa ?_) | (refine iSt ?_; refine qSt ?_) | (refine iAl ?_; first | refine qAlA (fun _ => ?_) | refine qAlS (fun _ => ?_)) | (refine iBx ?_; first | refine qBxA (fun _ => ?_) | refine qBxS (fun _ => ?_)) | (refine iMm ?_; refine qMm (fun _ => ?_)) | (refine iBs ?_; refine qBs (fun _ => ?_)) | (refine i_gd ?_; first | refine qWant ?_ | refine qSkip ?_ | refine qSkip0 ?_ | refine qSkipU ?_)) | refine tl_nil ?_ | refine tc_seq ?_ | refine tc_region ?_ | refine te_seq ?_ | (refine i_cond ?_; first | refine qCt ?_ | refine qCf ?_) | refine tc_block ?_ | refine te_block_normal ?_ | refine te_block_ret ?_ | refine te_then_ret ?_ | refine te_block_hit ?_ | (refine i_miss ?_; refine qMiss ?_) | refine te_then_exit ?_ | refine tc_exit ?_ | refine tc_ret ?_ | refine tc_skip ?_)
    exact qE ⟨rfl, rfl, rfl⟩
theorem does_ok_r (ρ : Hp) (b : Nat) (hb : HB) (mb n : Nat) (ops armed failing i : Int) (kd : Nat) (cd : List Value) (X : SH) (Post : Value → Hp → SH → Prop) (h0 : 0 ≤ i) (h1 : i < n) (hf : failing ≠ 0) (hf1 : -1 ≤ failing) (hf2 : failing ≤ 9223372036854775807) [hF : Fun Try.prog kd]
    (hd : Spec Try.prog kd cd ρ ([(b, dO hb mb n (IntKind.i64.wrap (ops + 1)) armed (max (failing - 1) (-1)) false)] :: X) Post) :
    Spec Try.prog 34 [.pointer (some ⟨b, 0, none⟩), .int .i64 i, .func (.func kd) ⟨[]⟩ ⟨cd⟩, .nilFunc] ρ ([(b, dO hb mb n ops armed failing false)] :: X) (fun v ρ' L' => v = .int .i64 0 ∧ ∃ v0, Post v0 ρ' L') := by
  refine spec_enter Try.func34 rfl rfl rfl fun u R => ?_
  simp only [argsE, List.cons_append, List.nil_append]
  repeat' (first | (refine tl_is (.func 44) ?_; refine qC rfl rfl (lives_ok _ _ _ _ _ _ _ _) ?_; rintro v ρ' L' hle ⟨rfl, rfl, rfl⟩ <;> (try simp only [List.cons_append, List.nil_append, List.append_eq, dO])) | (refine i_op ?_; first | (refine iMv ?_; refine qMv ?_) | (refine iLd ?_; refine qLd ?_) | (refine iFa ?_; refine qFa ?_) | (refine iAd ?_; refine qAd ?_) | (refine iSb ?_; refine qSb ?_) | (refine iMl ?_; refine qMl ?_) | (refine iRm ?_; refine qRm ?_) | (refine iQu ?_; refine qQu ?_) | (refine iSr ?_; refine qSr ?_) | (refine iSh ?_; refine qSh ?_) | (refine iCm ?_; refine qCm ?_) | (refine iEx ?_; refine qEx ?_) | (refine iAs ?_; refine qAs ?_) | (refine iPk ?_; refine qPk ?_) | (refine iNc ?_; refine qNc ?_) | (refine iIa ?_; refine qIa ?_) | (refine iCv ?_; refine qCv ?_) | (refine iBi ?_; refine qBi ?_) | (refine iUn ?_; refine qUn ?_) | (refine iFl ?_; refine qFl ?_) | (refine iLu ?_; refine qLu ?_) | (refine iBu ?_; refine qBu ?_) | (refine iSl ?_; refine qSl ?_) | (refine iMf ?_; refine qMf ?_) | (refine iMi ?_; refine qMi ?_) | (refine iTa ?_; refine qTa ?_) | (refine iSt ?_; refine qSt ?_) | (refine iAl ?_; first | refine qAlA (fun _ => ?_) | refine qAlS (fun _ => ?_)) | (refine iBx ?_; first | refine qBxA (fun _ => ?_) | refine qBxS (fun _ => ?_)) | (refine iMm ?_; refine qMm (fun _ => ?_)) | (refine iBs ?_; refine qBs (fun _ => ?_)) | (refine i_gd ?_; first | refine qWant ?_ | refine qSkip ?_ | refine qSkip0 ?_ | refine qSkipU ?_)) | refine tl_nil ?_ | refine tc_seq ?_ | refine tc_region ?_ | refine te_seq ?_ | (refine i_cond ?_; first | refine qCt ?_ | refine qCf ?_) | refine tc_block ?_ | refine te_block_normal ?_ | refine te_block_ret ?_ | refine te_then_ret ?_ | refine te_block_hit ?_ | (refine i_miss ?_; refine qMiss ?_) | refine te_then_exit ?_ | refine tc_exit ?_ | refine tc_ret ?_ | refine tc_skip ?_)
  have hfb : (failing == 0) = false := by simpa using hf
  refine tc_any (Stays _ _ ([])) (stays_of (Hp.le_refl _)) ?_
  all_goals refine rMv 0 ?_
  all_goals refine rNc 1 ?_
  all_goals refine rFa 2 ?_
  all_goals refine rMv 4 ?_
  all_goals (first | refine rAd 5 ?_ | refine rSb 5 ?_ | refine rMl 5 ?_ | refine rRm 5 ?_ | refine rQu 5 ?_ | refine rSr 5 ?_ | refine rSh 5 ?_ | refine rCm 5 ?_)
  all_goals (refine rStep (i := 3) ?_; ((try refine qWant ?_); (first | (refine tl_is (.func 55) ?_; refine qC rfl rfl (counts_dO4 _ _ _ _ _ _ _ _ _ hf1 hf2) ?_; rintro v ρ' L' hle ⟨rfl, rfl, rfl⟩ <;> (try simp only [List.cons_append, List.nil_append, List.append_eq, dO, hfb])) | (refine iSt ?_; refine qSt ?_) | (refine iAl ?_; first | refine qAlA (fun _ => ?_) | refine qAlS (fun _ => ?_)) | (refine iBx ?_; first | refine qBxA (fun _ => ?_) | refine qBxS (fun _ => ?_)) | (refine iMm ?_; refine qMm (fun _ => ?_)) | (refine iBs ?_; refine qBs (fun _ => ?_))); (try simp only [List.cons_append, List.nil_append, List.append_eq]); refine tl_nil ?_; refine rNext ?_))
  all_goals refine rFull ?_
  all_goals refine rMv 6 ?_
  all_goals (first | refine wSkip 7 ?_ | refine wSkipU 7 ?_ | refine wMv 7 ?_ | (refine tr_guard (t := 41) rfl (fun hb => ?_) (fun hb => ?_) <;> (try simp only [decide_eq_true_eq, decide_eq_false_iff_not, Bool.not_eq_true, Bool.not_eq_false, beq_iff_eq, bne_iff_ne, ne_eq, Bool.not_eq_eq_eq_not, Bool.not_true, Bool.not_false, beq_eq_false_iff_ne, bne_eq_false_iff_eq] at hb) <;> first | refine wSkip 7 ?_ | refine wSkipU 7 ?_ | refine wMv 7 ?_))
  all_goals (first | refine wSkip 8 ?_ | refine wSkipU 8 ?_ | refine wNc 8 ?_ | (refine tr_guard (t := 41) rfl (fun hb => ?_) (fun hb => ?_) <;> (try simp only [decide_eq_true_eq, decide_eq_false_iff_not, Bool.not_eq_true, Bool.not_eq_false, beq_iff_eq, bne_iff_ne, ne_eq, Bool.not_eq_eq_eq_not, Bool.not_true, Bool.not_false, beq_eq_false_iff_ne, bne_eq_false_iff_eq] at hb) <;> first | refine wSkip 8 ?_ | refine wSkipU 8 ?_ | refine wNc 8 ?_))
  all_goals (first | refine wSkip 9 ?_ | refine wSkipU 9 ?_ | refine wFa 9 ?_ | (refine tr_guard (t := 41) rfl (fun hb => ?_) (fun hb => ?_) <;> (try simp only [decide_eq_true_eq, decide_eq_false_iff_not, Bool.not_eq_true, Bool.not_eq_false, beq_iff_eq, bne_iff_ne, ne_eq, Bool.not_eq_eq_eq_not, Bool.not_true, Bool.not_false, beq_eq_false_iff_ne, bne_eq_false_iff_eq] at hb) <;> first | refine wSkip 9 ?_ | refine wSkipU 9 ?_ | refine wFa 9 ?_))
  all_goals (first | refine wSkip 10 ?_ | refine wSkipU 10 ?_ | refine wLd 10 ?_ | (refine tr_guard (t := 41) rfl (fun hb => ?_) (fun hb => ?_) <;> (try simp only [decide_eq_true_eq, decide_eq_false_iff_not, Bool.not_eq_true, Bool.not_eq_false, beq_iff_eq, bne_iff_ne, ne_eq, Bool.not_eq_eq_eq_not, Bool.not_true, Bool.not_false, beq_eq_false_iff_ne, bne_eq_false_iff_eq] at hb) <;> first | refine wSkip 10 ?_ | refine wSkipU 10 ?_ | refine wLd 10 ?_))
  all_goals (first | refine wSkip 11 ?_ | refine wSkipU 11 ?_ | refine wAd 11 ?_ | refine wSb 11 ?_ | refine wMl 11 ?_ | refine wRm 11 ?_ | refine wQu 11 ?_ | refine wSr 11 ?_ | refine wSh 11 ?_ | refine wCm 11 ?_ | (refine tr_guard (t := 41) rfl (fun hb => ?_) (fun hb => ?_) <;> (try simp only [decide_eq_true_eq, decide_eq_false_iff_not, Bool.not_eq_true, Bool.not_eq_false, beq_iff_eq, bne_iff_ne, ne_eq, Bool.not_eq_eq_eq_not, Bool.not_true, Bool.not_false, beq_eq_false_iff_ne, bne_eq_false_iff_eq] at hb) <;> first | refine wSkip 11 ?_ | refine wSkipU 11 ?_ | refine wAd 11 ?_ | refine wSb 11 ?_ | refine wMl 11 ?_ | refine wRm 11 ?_ | refine wQu 11 ?_ | refine wSr 11 ?_ | refine wSh 11 ?_ | refine wCm 11 ?_))
  all_goals refine rPk 12 ?_
  all_goals refine rAs 13 ?_
  all_goals refine rAs 14 ?_
  all_goals refine rDone ?_
  unfold dO at hd
  repeat' (first | (refine tl_is (.tmp 65) ?_; refine tl_call rfl rfl hd tk rfl ?_; rintro v ρ' L' hle hp) | (refine i_op ?_; first | (refine iMv ?_; refine qMv ?_) | (refine iLd ?_; refine qLd ?_) | (refine iFa ?_; refine qFa ?_) | (refine iAd ?_; refine qAd ?_) | (refine iSb ?_; refine qSb ?_) | (refine iMl ?_; refine qMl ?_) | (refine iRm ?_; refine qRm ?_) | (refine iQu ?_; refine qQu ?_) | (refine iSr ?_; refine qSr ?_) | (refine iSh ?_; refine qSh ?_) | (refine iCm ?_; refine qCm ?_) | (refine iEx ?_; refine qEx ?_) | (refine iAs ?_; refine qAs ?_) | (refine iPk ?_; refine qPk ?_) | (refine iNc ?_; refine qNc ?_) | (refine iIa ?_; refine qIa ?_) | (refine iCv ?_; refine qCv ?_) | (refine iBi ?_; refine qBi ?_) | (refine iUn ?_; refine qUn ?_) | (refine iFl ?_; refine qFl ?_) | (refine iLu ?_; refine qLu ?_) | (refine iBu ?_; refine qBu ?_) | (refine iSl ?_; refine qSl ?_) | (refine iMf ?_; refine qMf ?_) | (refine iMi ?_; refine qMi ?_) | (refine iTa ?_; refine qTa ?_) | (refine iSt ?_; refine qSt ?_) | (refine iAl ?_; first | refine qAlA (fun _ => ?_) | refine qAlS (fun _ => ?_)) | (refine iBx ?_; first | refine qBxA (fun _ => ?_) | refine qBxS (fun _ => ?_)) | (refine iMm ?_; refine qMm (fun _ => ?_)) | (refine iBs ?_; refine qBs (fun _ => ?_)) | (refine i_gd ?_; first | refine qWant ?_ | refine qSkip ?_ | refine qSkip0 ?_ | refine qSkipU ?_)) | refine tl_nil ?_ | refine tc_seq ?_ | refine tc_region ?_ | refine te_seq ?_ | (refine i_cond ?_; first | refine qCt ?_ | refine qCf ?_) | refine tc_block ?_ | refine te_block_normal ?_ | refine te_block_ret ?_ | refine te_then_ret ?_ | refine te_block_hit ?_ | (refine i_miss ?_; refine qMiss ?_) | refine te_then_exit ?_ | refine tc_exit ?_ | refine tc_ret ?_ | refine tc_skip ?_)
  exact qE ⟨rfl, _, hp⟩
theorem does_ok_w (ρ : Hp) (b : Nat) (hb : HB) (mb n : Nat) (ops armed failing i : Int) (kd kl : Nat) (cd cl : List Value) (X : SH) (Post : Value → Hp → SH → Prop) (h0 : 0 ≤ i) (h1 : i < n) (hf : failing ≠ 0) (hf1 : -1 ≤ failing) (hf2 : failing ≤ 9223372036854775807)
    (ha : armed ≠ 0) (ha1 : -1 ≤ armed) (ha2 : armed ≤ 9223372036854775807) [hF : Fun Try.prog kd]
    (hd : Spec Try.prog kd cd ρ ([(b, dO hb mb n (IntKind.i64.wrap (ops + 1)) (max (armed - 1) (-1)) (max (failing - 1) (-1)) false)] :: X) Post) :
    Spec Try.prog 34 [.pointer (some ⟨b, 0, none⟩), .int .i64 i, .func (.func kd) ⟨[]⟩ ⟨cd⟩, .func (.func kl) ⟨[]⟩ ⟨cl⟩] ρ ([(b, dO hb mb n ops armed failing false)] :: X) (fun v ρ' L' => v = .int .i64 0 ∧ ∃ v0, Post v0 ρ' L') := by
  refine spec_enter Try.func34 rfl rfl rfl fun u R => ?_
  simp only [argsE, List.cons_append, List.nil_append]
  repeat' (first | (refine tl_is (.func 44) ?_; refine qC rfl rfl (lives_ok _ _ _ _ _ _ _ _) ?_; rintro v ρ' L' hle ⟨rfl, rfl, rfl⟩ <;> (try simp only [List.cons_append, List.nil_append, List.append_eq, dO])) | (refine i_op ?_; first | (refine iMv ?_; refine qMv ?_) | (refine iLd ?_; refine qLd ?_) | (refine iFa ?_; refine qFa ?_) | (refine iAd ?_; refine qAd ?_) | (refine iSb ?_; refine qSb ?_) | (refine iMl ?_; refine qMl ?_) | (refine iRm ?_; refine qRm ?_) | (refine iQu ?_; refine qQu ?_) | (refine iSr ?_; refine qSr ?_) | (refine iSh ?_; refine qSh ?_) | (refine iCm ?_; refine qCm ?_) | (refine iEx ?_; refine qEx ?_) | (refine iAs ?_; refine qAs ?_) | (refine iPk ?_; refine qPk ?_) | (refine iNc ?_; refine qNc ?_) | (refine iIa ?_; refine qIa ?_) | (refine iCv ?_; refine qCv ?_) | (refine iBi ?_; refine qBi ?_) | (refine iUn ?_; refine qUn ?_) | (refine iFl ?_; refine qFl ?_) | (refine iLu ?_; refine qLu ?_) | (refine iBu ?_; refine qBu ?_) | (refine iSl ?_; refine qSl ?_) | (refine iMf ?_; refine qMf ?_) | (refine iMi ?_; refine qMi ?_) | (refine iTa ?_; refine qTa ?_) | (refine iSt ?_; refine qSt ?_) | (refine iAl ?_; first | refine qAlA (fun _ => ?_) | refine qAlS (fun _ => ?_)) | (refine iBx ?_; first | refine qBxA (fun _ => ?_) | refine qBxS (fun _ => ?_)) | (refine iMm ?_; refine qMm (fun _ => ?_)) | (refine iBs ?_; refine qBs (fun _ => ?_)) | (refine i_gd ?_; first | refine qWant ?_ | refine qSkip ?_ | refine qSkip0 ?_ | refine qSkipU ?_)) | refine tl_nil ?_ | refine tc_seq ?_ | refine tc_region ?_ | refine te_seq ?_ | (refine i_cond ?_; first | refine qCt ?_ | refine qCf ?_) | refine tc_block ?_ | refine te_block_normal ?_ | refine te_block_ret ?_ | refine te_then_ret ?_ | refine te_block_hit ?_ | (refine i_miss ?_; refine qMiss ?_) | refine te_then_exit ?_ | refine tc_exit ?_ | refine tc_ret ?_ | refine tc_skip ?_)
  have hfb : (failing == 0) = false := by simpa using hf
  refine tc_any (Stays _ _ ([])) (stays_of (Hp.le_refl _)) ?_
  all_goals refine rMv 0 ?_
  all_goals refine rNc 1 ?_
  all_goals refine rFa 2 ?_
  all_goals refine rMv 4 ?_
  all_goals (first | refine rAd 5 ?_ | refine rSb 5 ?_ | refine rMl 5 ?_ | refine rRm 5 ?_ | refine rQu 5 ?_ | refine rSr 5 ?_ | refine rSh 5 ?_ | refine rCm 5 ?_)
  all_goals (refine rStep (i := 3) ?_; ((try refine qWant ?_); (first | (refine tl_is (.func 55) ?_; refine qC rfl rfl (counts_dO4 _ _ _ _ _ _ _ _ _ hf1 hf2) ?_; rintro v ρ' L' hle ⟨rfl, rfl, rfl⟩ <;> (try simp only [List.cons_append, List.nil_append, List.append_eq, dO, hfb])) | (refine iSt ?_; refine qSt ?_) | (refine iAl ?_; first | refine qAlA (fun _ => ?_) | refine qAlS (fun _ => ?_)) | (refine iBx ?_; first | refine qBxA (fun _ => ?_) | refine qBxS (fun _ => ?_)) | (refine iMm ?_; refine qMm (fun _ => ?_)) | (refine iBs ?_; refine qBs (fun _ => ?_))); (try simp only [List.cons_append, List.nil_append, List.append_eq]); refine tl_nil ?_; refine rNext ?_))
  all_goals refine rFull ?_
  all_goals refine rMv 6 ?_
  all_goals (first | refine wSkip 7 ?_ | refine wSkipU 7 ?_ | refine wMv 7 ?_ | (refine tr_guard (t := 41) rfl (fun hb => ?_) (fun hb => ?_) <;> (try simp only [decide_eq_true_eq, decide_eq_false_iff_not, Bool.not_eq_true, Bool.not_eq_false, beq_iff_eq, bne_iff_ne, ne_eq, Bool.not_eq_eq_eq_not, Bool.not_true, Bool.not_false, beq_eq_false_iff_ne, bne_eq_false_iff_eq] at hb) <;> first | refine wSkip 7 ?_ | refine wSkipU 7 ?_ | refine wMv 7 ?_))
  all_goals (first | refine wSkip 8 ?_ | refine wSkipU 8 ?_ | refine wNc 8 ?_ | (refine tr_guard (t := 41) rfl (fun hb => ?_) (fun hb => ?_) <;> (try simp only [decide_eq_true_eq, decide_eq_false_iff_not, Bool.not_eq_true, Bool.not_eq_false, beq_iff_eq, bne_iff_ne, ne_eq, Bool.not_eq_eq_eq_not, Bool.not_true, Bool.not_false, beq_eq_false_iff_ne, bne_eq_false_iff_eq] at hb) <;> first | refine wSkip 8 ?_ | refine wSkipU 8 ?_ | refine wNc 8 ?_))
  all_goals (first | refine wSkip 9 ?_ | refine wSkipU 9 ?_ | refine wFa 9 ?_ | (refine tr_guard (t := 41) rfl (fun hb => ?_) (fun hb => ?_) <;> (try simp only [decide_eq_true_eq, decide_eq_false_iff_not, Bool.not_eq_true, Bool.not_eq_false, beq_iff_eq, bne_iff_ne, ne_eq, Bool.not_eq_eq_eq_not, Bool.not_true, Bool.not_false, beq_eq_false_iff_ne, bne_eq_false_iff_eq] at hb) <;> first | refine wSkip 9 ?_ | refine wSkipU 9 ?_ | refine wFa 9 ?_))
  all_goals (first | refine wSkip 10 ?_ | refine wSkipU 10 ?_ | refine wLd 10 ?_ | (refine tr_guard (t := 41) rfl (fun hb => ?_) (fun hb => ?_) <;> (try simp only [decide_eq_true_eq, decide_eq_false_iff_not, Bool.not_eq_true, Bool.not_eq_false, beq_iff_eq, bne_iff_ne, ne_eq, Bool.not_eq_eq_eq_not, Bool.not_true, Bool.not_false, beq_eq_false_iff_ne, bne_eq_false_iff_eq] at hb) <;> first | refine wSkip 10 ?_ | refine wSkipU 10 ?_ | refine wLd 10 ?_))
  all_goals (first | refine wSkip 11 ?_ | refine wSkipU 11 ?_ | refine wAd 11 ?_ | refine wSb 11 ?_ | refine wMl 11 ?_ | refine wRm 11 ?_ | refine wQu 11 ?_ | refine wSr 11 ?_ | refine wSh 11 ?_ | refine wCm 11 ?_ | (refine tr_guard (t := 41) rfl (fun hb => ?_) (fun hb => ?_) <;> (try simp only [decide_eq_true_eq, decide_eq_false_iff_not, Bool.not_eq_true, Bool.not_eq_false, beq_iff_eq, bne_iff_ne, ne_eq, Bool.not_eq_eq_eq_not, Bool.not_true, Bool.not_false, beq_eq_false_iff_ne, bne_eq_false_iff_eq] at hb) <;> first | refine wSkip 11 ?_ | refine wSkipU 11 ?_ | refine wAd 11 ?_ | refine wSb 11 ?_ | refine wMl 11 ?_ | refine wRm 11 ?_ | refine wQu 11 ?_ | refine wSr 11 ?_ | refine wSh 11 ?_ | refine wCm 11 ?_))
  all_goals refine rPk 12 ?_
  all_goals refine rAs 13 ?_
  all_goals refine rAs 14 ?_
  all_goals refine rDone ?_
  unfold dO at hd
  repeat' (first | (refine tl_is (.func 55) ?_; refine qC rfl rfl (counts_dO3 _ _ _ _ _ _ _ _ _ ha1 ha2) ?_; rintro v ρ' L' hle ⟨rfl, rfl, rfl⟩ <;> (try simp only [List.cons_append, List.nil_append, List.append_eq, dO])) | (refine tl_is (.tmp 65) ?_; refine tl_call rfl rfl hd tk rfl ?_; rintro v ρ' L' hle hp) | (refine i_op ?_; first | (refine iMv ?_; refine qMv ?_) | (refine iLd ?_; refine qLd ?_) | (refine iFa ?_; refine qFa ?_) | (refine iAd ?_; refine qAd ?_) | (refine iSb ?_; refine qSb ?_) | (refine iMl ?_; refine qMl ?_) | (refine iRm ?_; refine qRm ?_) | (refine iQu ?_; refine qQu ?_) | (refine iSr ?_; refine qSr ?_) | (refine iSh ?_; refine qSh ?_) | (refine iCm ?_; refine qCm ?_) | (refine iEx ?_; refine qEx ?_) | (refine iAs ?_; refine qAs ?_) | (refine iPk ?_; refine qPk ?_) | (refine iNc ?_; refine qNc ?_) | (refine iIa ?_; refine qIa ?_) | (refine iCv ?_; refine qCv ?_) | (refine iBi ?_; refine qBi ?_) | (refine iUn ?_; refine qUn ?_) | (refine iFl ?_; refine qFl ?_) | (refine iLu ?_; refine qLu ?_) | (refine iBu ?_; refine qBu ?_) | (refine iSl ?_; refine qSl ?_) | (refine iMf ?_; refine qMf ?_) | (refine iMi ?_; refine qMi ?_) | (refine iTa ?_; refine qTa ?_) | (refine iSt ?_; refine qSt ?_) | (refine iAl ?_; first | refine qAlA (fun _ => ?_) | refine qAlS (fun _ => ?_)) | (refine iBx ?_; first | refine qBxA (fun _ => ?_) | refine qBxS (fun _ => ?_)) | (refine iMm ?_; refine qMm (fun _ => ?_)) | (refine iBs ?_; refine qBs (fun _ => ?_)) | (refine i_gd ?_; first | refine qWant ?_ | refine qSkip ?_ | refine qSkip0 ?_ | refine qSkipU ?_)) | refine tl_nil ?_ | refine tc_seq ?_ | refine tc_region ?_ | refine te_seq ?_ | (refine i_cond ?_; first | refine qCt ?_ | refine qCf ?_) | refine tc_block ?_ | refine te_block_normal ?_ | refine te_block_ret ?_ | refine te_then_ret ?_ | refine te_block_hit ?_ | (refine i_miss ?_; refine qMiss ?_) | refine te_then_exit ?_ | refine tc_exit ?_ | refine tc_ret ?_ | refine tc_skip ?_)
  exact qE ⟨rfl, _, hp⟩
theorem does_fail_r (ρ : Hp) (b : Nat) (hb : HB) (mb n : Nat) (ops armed i : Int) (d : Value) (h0 : 0 ≤ i) (h1 : i < n) :
    Spec Try.prog 34 [.pointer (some ⟨b, 0, none⟩), .int .i64 i, d, .nilFunc] ρ [[(b, dO hb mb n ops armed 0 false)]] (fun v ρ' L' => v = .int .i64 8 ∧ ρ' = ρ ∧ L' = [[(b, dO hb mb n (IntKind.i64.wrap (ops + 1)) armed (-1) false)]]) := by
  refine spec_enter Try.func34 rfl rfl rfl fun u R => ?_
  simp only [argsE, List.cons_append, List.nil_append]
  repeat' (first | (refine tl_is (.func 44) ?_; refine qC rfl rfl (lives_ok _ _ _ _ _ _ _ _) ?_; rintro v ρ' L' hle ⟨rfl, rfl, rfl⟩ <;> (try simp only [List.cons_append, List.nil_append, List.append_eq, dO])) | (refine i_op ?_; first | (refine iMv ?_; refine qMv ?_) | (refine iLd ?_; refine qLd ?_) | (refine iFa ?_; refine qFa ?_) | (refine iAd ?_; refine qAd ?_) | (refine iSb ?_; refine qSb ?_) | (refine iMl ?_; refine qMl ?_) | (refine iRm ?_; refine qRm ?_) | (refine iQu ?_; refine qQu ?_) | (refine iSr ?_; refine qSr ?_) | (refine iSh ?_; refine qSh ?_) | (refine iCm ?_; refine qCm ?_) | (refine iEx ?_; refine qEx ?_) | (refine iAs ?_; refine qAs ?_) | (refine iPk ?_; refine qPk ?_) | (refine iNc ?_; refine qNc ?_) | (refine iIa ?_; refine qIa ?_) | (refine iCv ?_; refine qCv ?_) | (refine iBi ?_; refine qBi ?_) | (refine iUn ?_; refine qUn ?_) | (refine iFl ?_; refine qFl ?_) | (refine iLu ?_; refine qLu ?_) | (refine iBu ?_; refine qBu ?_) | (refine iSl ?_; refine qSl ?_) | (refine iMf ?_; refine qMf ?_) | (refine iMi ?_; refine qMi ?_) | (refine iTa ?_; refine qTa ?_) | (refine iSt ?_; refine qSt ?_) | (refine iAl ?_; first | refine qAlA (fun _ => ?_) | refine qAlS (fun _ => ?_)) | (refine iBx ?_; first | refine qBxA (fun _ => ?_) | refine qBxS (fun _ => ?_)) | (refine iMm ?_; refine qMm (fun _ => ?_)) | (refine iBs ?_; refine qBs (fun _ => ?_)) | (refine i_gd ?_; first | refine qWant ?_ | refine qSkip ?_ | refine qSkip0 ?_ | refine qSkipU ?_)) | refine tl_nil ?_ | refine tc_seq ?_ | refine tc_region ?_ | refine te_seq ?_ | (refine i_cond ?_; first | refine qCt ?_ | refine qCf ?_) | refine tc_block ?_ | refine te_block_normal ?_ | refine te_block_ret ?_ | refine te_then_ret ?_ | refine te_block_hit ?_ | (refine i_miss ?_; refine qMiss ?_) | refine te_then_exit ?_ | refine tc_exit ?_ | refine tc_ret ?_ | refine tc_skip ?_)
  refine tc_any (Stays _ _ ([])) (stays_of (Hp.le_refl _)) ?_
  all_goals refine rMv 0 ?_
  all_goals refine rNc 1 ?_
  all_goals refine rFa 2 ?_
  all_goals refine rMv 4 ?_
  all_goals (first | refine rAd 5 ?_ | refine rSb 5 ?_ | refine rMl 5 ?_ | refine rRm 5 ?_ | refine rQu 5 ?_ | refine rSr 5 ?_ | refine rSh 5 ?_ | refine rCm 5 ?_)
  all_goals (refine rStep (i := 3) ?_; ((try refine qWant ?_); (first | (refine tl_is (.func 55) ?_; refine qC rfl rfl (counts_dO4 _ _ _ _ _ _ _ 0 _ (by decide) (by decide)) ?_; rintro v ρ' L' hle ⟨rfl, rfl, rfl⟩ <;> (try simp only [List.cons_append, List.nil_append, List.append_eq, dO])) | (refine iSt ?_; refine qSt ?_) | (refine iAl ?_; first | refine qAlA (fun _ => ?_) | refine qAlS (fun _ => ?_)) | (refine iBx ?_; first | refine qBxA (fun _ => ?_) | refine qBxS (fun _ => ?_)) | (refine iMm ?_; refine qMm (fun _ => ?_)) | (refine iBs ?_; refine qBs (fun _ => ?_))); (try simp only [List.cons_append, List.nil_append, List.append_eq]); refine tl_nil ?_; refine rNext ?_))
  all_goals refine rFull ?_
  all_goals refine rMv 6 ?_
  all_goals (first | refine wSkip 7 ?_ | refine wSkipU 7 ?_ | refine wMv 7 ?_ | (refine tr_guard (t := 41) rfl (fun hb => ?_) (fun hb => ?_) <;> (try simp only [decide_eq_true_eq, decide_eq_false_iff_not, Bool.not_eq_true, Bool.not_eq_false, beq_iff_eq, bne_iff_ne, ne_eq, Bool.not_eq_eq_eq_not, Bool.not_true, Bool.not_false, beq_eq_false_iff_ne, bne_eq_false_iff_eq] at hb) <;> first | refine wSkip 7 ?_ | refine wSkipU 7 ?_ | refine wMv 7 ?_))
  all_goals (first | refine wSkip 8 ?_ | refine wSkipU 8 ?_ | refine wNc 8 ?_ | (refine tr_guard (t := 41) rfl (fun hb => ?_) (fun hb => ?_) <;> (try simp only [decide_eq_true_eq, decide_eq_false_iff_not, Bool.not_eq_true, Bool.not_eq_false, beq_iff_eq, bne_iff_ne, ne_eq, Bool.not_eq_eq_eq_not, Bool.not_true, Bool.not_false, beq_eq_false_iff_ne, bne_eq_false_iff_eq] at hb) <;> first | refine wSkip 8 ?_ | refine wSkipU 8 ?_ | refine wNc 8 ?_))
  all_goals (first | refine wSkip 9 ?_ | refine wSkipU 9 ?_ | refine wFa 9 ?_ | (refine tr_guard (t := 41) rfl (fun hb => ?_) (fun hb => ?_) <;> (try simp only [decide_eq_true_eq, decide_eq_false_iff_not, Bool.not_eq_true, Bool.not_eq_false, beq_iff_eq, bne_iff_ne, ne_eq, Bool.not_eq_eq_eq_not, Bool.not_true, Bool.not_false, beq_eq_false_iff_ne, bne_eq_false_iff_eq] at hb) <;> first | refine wSkip 9 ?_ | refine wSkipU 9 ?_ | refine wFa 9 ?_))
  all_goals (first | refine wSkip 10 ?_ | refine wSkipU 10 ?_ | refine wLd 10 ?_ | (refine tr_guard (t := 41) rfl (fun hb => ?_) (fun hb => ?_) <;> (try simp only [decide_eq_true_eq, decide_eq_false_iff_not, Bool.not_eq_true, Bool.not_eq_false, beq_iff_eq, bne_iff_ne, ne_eq, Bool.not_eq_eq_eq_not, Bool.not_true, Bool.not_false, beq_eq_false_iff_ne, bne_eq_false_iff_eq] at hb) <;> first | refine wSkip 10 ?_ | refine wSkipU 10 ?_ | refine wLd 10 ?_))
  all_goals (first | refine wSkip 11 ?_ | refine wSkipU 11 ?_ | refine wAd 11 ?_ | refine wSb 11 ?_ | refine wMl 11 ?_ | refine wRm 11 ?_ | refine wQu 11 ?_ | refine wSr 11 ?_ | refine wSh 11 ?_ | refine wCm 11 ?_ | (refine tr_guard (t := 41) rfl (fun hb => ?_) (fun hb => ?_) <;> (try simp only [decide_eq_true_eq, decide_eq_false_iff_not, Bool.not_eq_true, Bool.not_eq_false, beq_iff_eq, bne_iff_ne, ne_eq, Bool.not_eq_eq_eq_not, Bool.not_true, Bool.not_false, beq_eq_false_iff_ne, bne_eq_false_iff_eq] at hb) <;> first | refine wSkip 11 ?_ | refine wSkipU 11 ?_ | refine wAd 11 ?_ | refine wSb 11 ?_ | refine wMl 11 ?_ | refine wRm 11 ?_ | refine wQu 11 ?_ | refine wSr 11 ?_ | refine wSh 11 ?_ | refine wCm 11 ?_))
  all_goals refine rPk 12 ?_
  all_goals refine rAs 13 ?_
  all_goals refine rAs 14 ?_
  all_goals refine rDone ?_
  repeat' (first | (refine i_op ?_; first | (refine iMv ?_; refine qMv ?_) | (refine iLd ?_; refine qLd ?_) | (refine iFa ?_; refine qFa ?_) | (refine iAd ?_; refine qAd ?_) | (refine iSb ?_; refine qSb ?_) | (refine iMl ?_; refine qMl ?_) | (refine iRm ?_; refine qRm ?_) | (refine iQu ?_; refine qQu ?_) | (refine iSr ?_; refine qSr ?_) | (refine iSh ?_; refine qSh ?_) | (refine iCm ?_; refine qCm ?_) | (refine iEx ?_; refine qEx ?_) | (refine iAs ?_; refine qAs ?_) | (refine iPk ?_; refine qPk ?_) | (refine iNc ?_; refine qNc ?_) | (refine iIa ?_; refine qIa ?_) | (refine iCv ?_; refine qCv ?_) | (refine iBi ?_; refine qBi ?_) | (refine iUn ?_; refine qUn ?_) | (refine iFl ?_; refine qFl ?_) | (refine iLu ?_; refine qLu ?_) | (refine iBu ?_; refine qBu ?_) | (refine iSl ?_; refine qSl ?_) | (refine iMf ?_; refine qMf ?_) | (refine iMi ?_; refine qMi ?_) | (refine iTa ?_; refine qTa ?_) | (refine iSt ?_; refine qSt ?_) | (refine iAl ?_; first | refine qAlA (fun _ => ?_) | refine qAlS (fun _ => ?_)) | (refine iBx ?_; first | refine qBxA (fun _ => ?_) | refine qBxS (fun _ => ?_)) | (refine iMm ?_; refine qMm (fun _ => ?_)) | (refine iBs ?_; refine qBs (fun _ => ?_)) | (refine i_gd ?_; first | refine qWant ?_ | refine qSkip ?_ | refine qSkip0 ?_ | refine qSkipU ?_)) | refine tl_nil ?_ | refine tc_seq ?_ | refine tc_region ?_ | refine te_seq ?_ | (refine i_cond ?_; first | refine qCt ?_ | refine qCf ?_) | refine tc_block ?_ | refine te_block_normal ?_ | refine te_block_ret ?_ | refine te_then_ret ?_ | refine te_block_hit ?_ | (refine i_miss ?_; refine qMiss ?_) | refine te_then_exit ?_ | refine tc_exit ?_ | refine tc_ret ?_ | refine tc_skip ?_)
  exact qE ⟨rfl, rfl, rfl⟩
theorem does_fail_w (ρ : Hp) (b : Nat) (hb : HB) (mb n : Nat) (ops armed i : Int) (d : Value) (kl : Nat) (cl : List Value) (h0 : 0 ≤ i) (h1 : i < n) (ha : armed ≠ 0) :
    Spec Try.prog 34 [.pointer (some ⟨b, 0, none⟩), .int .i64 i, d, .func (.func kl) ⟨[]⟩ ⟨cl⟩] ρ [[(b, dO hb mb n ops armed 0 false)]] (fun v ρ' L' => v = .int .i64 8 ∧ ρ' = ρ ∧ L' = [[(b, dO hb mb n (IntKind.i64.wrap (ops + 1)) armed (-1) false)]]) := by
  refine spec_enter Try.func34 rfl rfl rfl fun u R => ?_
  simp only [argsE, List.cons_append, List.nil_append]
  repeat' (first | (refine tl_is (.func 44) ?_; refine qC rfl rfl (lives_ok _ _ _ _ _ _ _ _) ?_; rintro v ρ' L' hle ⟨rfl, rfl, rfl⟩ <;> (try simp only [List.cons_append, List.nil_append, List.append_eq, dO])) | (refine i_op ?_; first | (refine iMv ?_; refine qMv ?_) | (refine iLd ?_; refine qLd ?_) | (refine iFa ?_; refine qFa ?_) | (refine iAd ?_; refine qAd ?_) | (refine iSb ?_; refine qSb ?_) | (refine iMl ?_; refine qMl ?_) | (refine iRm ?_; refine qRm ?_) | (refine iQu ?_; refine qQu ?_) | (refine iSr ?_; refine qSr ?_) | (refine iSh ?_; refine qSh ?_) | (refine iCm ?_; refine qCm ?_) | (refine iEx ?_; refine qEx ?_) | (refine iAs ?_; refine qAs ?_) | (refine iPk ?_; refine qPk ?_) | (refine iNc ?_; refine qNc ?_) | (refine iIa ?_; refine qIa ?_) | (refine iCv ?_; refine qCv ?_) | (refine iBi ?_; refine qBi ?_) | (refine iUn ?_; refine qUn ?_) | (refine iFl ?_; refine qFl ?_) | (refine iLu ?_; refine qLu ?_) | (refine iBu ?_; refine qBu ?_) | (refine iSl ?_; refine qSl ?_) | (refine iMf ?_; refine qMf ?_) | (refine iMi ?_; refine qMi ?_) | (refine iTa ?_; refine qTa ?_) | (refine iSt ?_; refine qSt ?_) | (refine iAl ?_; first | refine qAlA (fun _ => ?_) | refine qAlS (fun _ => ?_)) | (refine iBx ?_; first | refine qBxA (fun _ => ?_) | refine qBxS (fun _ => ?_)) | (refine iMm ?_; refine qMm (fun _ => ?_)) | (refine iBs ?_; refine qBs (fun _ => ?_)) | (refine i_gd ?_; first | refine qWant ?_ | refine qSkip ?_ | refine qSkip0 ?_ | refine qSkipU ?_)) | refine tl_nil ?_ | refine tc_seq ?_ | refine tc_region ?_ | refine te_seq ?_ | (refine i_cond ?_; first | refine qCt ?_ | refine qCf ?_) | refine tc_block ?_ | refine te_block_normal ?_ | refine te_block_ret ?_ | refine te_then_ret ?_ | refine te_block_hit ?_ | (refine i_miss ?_; refine qMiss ?_) | refine te_then_exit ?_ | refine tc_exit ?_ | refine tc_ret ?_ | refine tc_skip ?_)
  refine tc_any (Stays _ _ ([])) (stays_of (Hp.le_refl _)) ?_
  all_goals refine rMv 0 ?_
  all_goals refine rNc 1 ?_
  all_goals refine rFa 2 ?_
  all_goals refine rMv 4 ?_
  all_goals (first | refine rAd 5 ?_ | refine rSb 5 ?_ | refine rMl 5 ?_ | refine rRm 5 ?_ | refine rQu 5 ?_ | refine rSr 5 ?_ | refine rSh 5 ?_ | refine rCm 5 ?_)
  all_goals (refine rStep (i := 3) ?_; ((try refine qWant ?_); (first | (refine tl_is (.func 55) ?_; refine qC rfl rfl (counts_dO4 _ _ _ _ _ _ _ 0 _ (by decide) (by decide)) ?_; rintro v ρ' L' hle ⟨rfl, rfl, rfl⟩ <;> (try simp only [List.cons_append, List.nil_append, List.append_eq, dO])) | (refine iSt ?_; refine qSt ?_) | (refine iAl ?_; first | refine qAlA (fun _ => ?_) | refine qAlS (fun _ => ?_)) | (refine iBx ?_; first | refine qBxA (fun _ => ?_) | refine qBxS (fun _ => ?_)) | (refine iMm ?_; refine qMm (fun _ => ?_)) | (refine iBs ?_; refine qBs (fun _ => ?_))); (try simp only [List.cons_append, List.nil_append, List.append_eq]); refine tl_nil ?_; refine rNext ?_))
  all_goals refine rFull ?_
  all_goals refine rMv 6 ?_
  all_goals (first | refine wSkip 7 ?_ | refine wSkipU 7 ?_ | refine wMv 7 ?_ | (refine tr_guard (t := 41) rfl (fun hb => ?_) (fun hb => ?_) <;> (try simp only [decide_eq_true_eq, decide_eq_false_iff_not, Bool.not_eq_true, Bool.not_eq_false, beq_iff_eq, bne_iff_ne, ne_eq, Bool.not_eq_eq_eq_not, Bool.not_true, Bool.not_false, beq_eq_false_iff_ne, bne_eq_false_iff_eq] at hb) <;> first | refine wSkip 7 ?_ | refine wSkipU 7 ?_ | refine wMv 7 ?_))
  all_goals (first | refine wSkip 8 ?_ | refine wSkipU 8 ?_ | refine wNc 8 ?_ | (refine tr_guard (t := 41) rfl (fun hb => ?_) (fun hb => ?_) <;> (try simp only [decide_eq_true_eq, decide_eq_false_iff_not, Bool.not_eq_true, Bool.not_eq_false, beq_iff_eq, bne_iff_ne, ne_eq, Bool.not_eq_eq_eq_not, Bool.not_true, Bool.not_false, beq_eq_false_iff_ne, bne_eq_false_iff_eq] at hb) <;> first | refine wSkip 8 ?_ | refine wSkipU 8 ?_ | refine wNc 8 ?_))
  all_goals (first | refine wSkip 9 ?_ | refine wSkipU 9 ?_ | refine wFa 9 ?_ | (refine tr_guard (t := 41) rfl (fun hb => ?_) (fun hb => ?_) <;> (try simp only [decide_eq_true_eq, decide_eq_false_iff_not, Bool.not_eq_true, Bool.not_eq_false, beq_iff_eq, bne_iff_ne, ne_eq, Bool.not_eq_eq_eq_not, Bool.not_true, Bool.not_false, beq_eq_false_iff_ne, bne_eq_false_iff_eq] at hb) <;> first | refine wSkip 9 ?_ | refine wSkipU 9 ?_ | refine wFa 9 ?_))
  all_goals (first | refine wSkip 10 ?_ | refine wSkipU 10 ?_ | refine wLd 10 ?_ | (refine tr_guard (t := 41) rfl (fun hb => ?_) (fun hb => ?_) <;> (try simp only [decide_eq_true_eq, decide_eq_false_iff_not, Bool.not_eq_true, Bool.not_eq_false, beq_iff_eq, bne_iff_ne, ne_eq, Bool.not_eq_eq_eq_not, Bool.not_true, Bool.not_false, beq_eq_false_iff_ne, bne_eq_false_iff_eq] at hb) <;> first | refine wSkip 10 ?_ | refine wSkipU 10 ?_ | refine wLd 10 ?_))
  all_goals (first | refine wSkip 11 ?_ | refine wSkipU 11 ?_ | refine wAd 11 ?_ | refine wSb 11 ?_ | refine wMl 11 ?_ | refine wRm 11 ?_ | refine wQu 11 ?_ | refine wSr 11 ?_ | refine wSh 11 ?_ | refine wCm 11 ?_ | (refine tr_guard (t := 41) rfl (fun hb => ?_) (fun hb => ?_) <;> (try simp only [decide_eq_true_eq, decide_eq_false_iff_not, Bool.not_eq_true, Bool.not_eq_false, beq_iff_eq, bne_iff_ne, ne_eq, Bool.not_eq_eq_eq_not, Bool.not_true, Bool.not_false, beq_eq_false_iff_ne, bne_eq_false_iff_eq] at hb) <;> first | refine wSkip 11 ?_ | refine wSkipU 11 ?_ | refine wAd 11 ?_ | refine wSb 11 ?_ | refine wMl 11 ?_ | refine wRm 11 ?_ | refine wQu 11 ?_ | refine wSr 11 ?_ | refine wSh 11 ?_ | refine wCm 11 ?_))
  all_goals refine rPk 12 ?_
  all_goals refine rAs 13 ?_
  all_goals refine rAs 14 ?_
  all_goals refine rDone ?_
  repeat' (first | (refine i_op ?_; first | (refine iMv ?_; refine qMv ?_) | (refine iLd ?_; refine qLd ?_) | (refine iFa ?_; refine qFa ?_) | (refine iAd ?_; refine qAd ?_) | (refine iSb ?_; refine qSb ?_) | (refine iMl ?_; refine qMl ?_) | (refine iRm ?_; refine qRm ?_) | (refine iQu ?_; refine qQu ?_) | (refine iSr ?_; refine qSr ?_) | (refine iSh ?_; refine qSh ?_) | (refine iCm ?_; refine qCm ?_) | (refine iEx ?_; refine qEx ?_) | (refine iAs ?_; refine qAs ?_) | (refine iPk ?_; refine qPk ?_) | (refine iNc ?_; refine qNc ?_) | (refine iIa ?_; refine qIa ?_) | (refine iCv ?_; refine qCv ?_) | (refine iBi ?_; refine qBi ?_) | (refine iUn ?_; refine qUn ?_) | (refine iFl ?_; refine qFl ?_) | (refine iLu ?_; refine qLu ?_) | (refine iBu ?_; refine qBu ?_) | (refine iSl ?_; refine qSl ?_) | (refine iMf ?_; refine qMf ?_) | (refine iMi ?_; refine qMi ?_) | (refine iTa ?_; refine qTa ?_) | (refine iSt ?_; refine qSt ?_) | (refine iAl ?_; first | refine qAlA (fun _ => ?_) | refine qAlS (fun _ => ?_)) | (refine iBx ?_; first | refine qBxA (fun _ => ?_) | refine qBxS (fun _ => ?_)) | (refine iMm ?_; refine qMm (fun _ => ?_)) | (refine iBs ?_; refine qBs (fun _ => ?_)) | (refine i_gd ?_; first | refine qWant ?_ | refine qSkip ?_ | refine qSkip0 ?_ | refine qSkipU ?_)) | refine tl_nil ?_ | refine tc_seq ?_ | refine tc_region ?_ | refine te_seq ?_ | (refine i_cond ?_; first | refine qCt ?_ | refine qCf ?_) | refine tc_block ?_ | refine te_block_normal ?_ | refine te_block_ret ?_ | refine te_then_ret ?_ | refine te_block_hit ?_ | (refine i_miss ?_; refine qMiss ?_) | refine te_then_exit ?_ | refine tc_exit ?_ | refine tc_ret ?_ | refine tc_skip ?_)
  exact qE ⟨rfl, rfl, rfl⟩
theorem does_dies (ρ : Hp) (b : Nat) (hb : HB) (mb n : Nat) (ops failing i : Int) (d : Value) (kl : Nat) (cl : List Value) (X : SH) (Post : Value → Hp → SH → Prop) (h0 : 0 ≤ i) (h1 : i < n) (hf1 : -1 ≤ failing) (hf2 : failing ≤ 9223372036854775807) [hF : Fun Try.prog kl]
    (hd : Spec Try.prog kl cl ρ ([(b, dO hb mb n (IntKind.i64.wrap (ops + 1)) 0 (max (failing - 1) (-1)) true)] :: X) Post) :
    Spec Try.prog 34 [.pointer (some ⟨b, 0, none⟩), .int .i64 i, d, .func (.func kl) ⟨[]⟩ ⟨cl⟩] ρ ([(b, dO hb mb n ops 0 failing false)] :: X) (fun v ρ' L' => v = .int .i64 9 ∧ ∃ v0, Post v0 ρ' L') := by
  refine spec_enter Try.func34 rfl rfl rfl fun u R => ?_
  simp only [argsE, List.cons_append, List.nil_append]
  repeat' (first | (refine tl_is (.func 44) ?_; refine qC rfl rfl (lives_ok _ _ _ _ _ _ _ _) ?_; rintro v ρ' L' hle ⟨rfl, rfl, rfl⟩ <;> (try simp only [List.cons_append, List.nil_append, List.append_eq, dO])) | (refine i_op ?_; first | (refine iMv ?_; refine qMv ?_) | (refine iLd ?_; refine qLd ?_) | (refine iFa ?_; refine qFa ?_) | (refine iAd ?_; refine qAd ?_) | (refine iSb ?_; refine qSb ?_) | (refine iMl ?_; refine qMl ?_) | (refine iRm ?_; refine qRm ?_) | (refine iQu ?_; refine qQu ?_) | (refine iSr ?_; refine qSr ?_) | (refine iSh ?_; refine qSh ?_) | (refine iCm ?_; refine qCm ?_) | (refine iEx ?_; refine qEx ?_) | (refine iAs ?_; refine qAs ?_) | (refine iPk ?_; refine qPk ?_) | (refine iNc ?_; refine qNc ?_) | (refine iIa ?_; refine qIa ?_) | (refine iCv ?_; refine qCv ?_) | (refine iBi ?_; refine qBi ?_) | (refine iUn ?_; refine qUn ?_) | (refine iFl ?_; refine qFl ?_) | (refine iLu ?_; refine qLu ?_) | (refine iBu ?_; refine qBu ?_) | (refine iSl ?_; refine qSl ?_) | (refine iMf ?_; refine qMf ?_) | (refine iMi ?_; refine qMi ?_) | (refine iTa ?_; refine qTa ?_) | (refine iSt ?_; refine qSt ?_) | (refine iAl ?_; first | refine qAlA (fun _ => ?_) | refine qAlS (fun _ => ?_)) | (refine iBx ?_; first | refine qBxA (fun _ => ?_) | refine qBxS (fun _ => ?_)) | (refine iMm ?_; refine qMm (fun _ => ?_)) | (refine iBs ?_; refine qBs (fun _ => ?_)) | (refine i_gd ?_; first | refine qWant ?_ | refine qSkip ?_ | refine qSkip0 ?_ | refine qSkipU ?_)) | refine tl_nil ?_ | refine tc_seq ?_ | refine tc_region ?_ | refine te_seq ?_ | (refine i_cond ?_; first | refine qCt ?_ | refine qCf ?_) | refine tc_block ?_ | refine te_block_normal ?_ | refine te_block_ret ?_ | refine te_then_ret ?_ | refine te_block_hit ?_ | (refine i_miss ?_; refine qMiss ?_) | refine te_then_exit ?_ | refine tc_exit ?_ | refine tc_ret ?_ | refine tc_skip ?_)
  refine tc_any (Stays _ _ ([])) (stays_of (Hp.le_refl _)) ?_
  all_goals refine rMv 0 ?_
  all_goals refine rNc 1 ?_
  all_goals refine rFa 2 ?_
  all_goals refine rMv 4 ?_
  all_goals (first | refine rAd 5 ?_ | refine rSb 5 ?_ | refine rMl 5 ?_ | refine rRm 5 ?_ | refine rQu 5 ?_ | refine rSr 5 ?_ | refine rSh 5 ?_ | refine rCm 5 ?_)
  all_goals (refine rStep (i := 3) ?_; ((try refine qWant ?_); (first | (refine tl_is (.func 55) ?_; refine qC rfl rfl (counts_dO4 _ _ _ _ _ _ _ _ _ hf1 hf2) ?_; rintro v ρ' L' hle ⟨rfl, rfl, rfl⟩ <;> (try simp only [List.cons_append, List.nil_append, List.append_eq, dO])) | (refine iSt ?_; refine qSt ?_) | (refine iAl ?_; first | refine qAlA (fun _ => ?_) | refine qAlS (fun _ => ?_)) | (refine iBx ?_; first | refine qBxA (fun _ => ?_) | refine qBxS (fun _ => ?_)) | (refine iMm ?_; refine qMm (fun _ => ?_)) | (refine iBs ?_; refine qBs (fun _ => ?_))); (try simp only [List.cons_append, List.nil_append, List.append_eq]); refine tl_nil ?_; refine rNext ?_))
  all_goals refine rFull ?_
  all_goals refine rMv 6 ?_
  all_goals (first | refine wSkip 7 ?_ | refine wSkipU 7 ?_ | refine wMv 7 ?_ | (refine tr_guard (t := 41) rfl (fun hb => ?_) (fun hb => ?_) <;> (try simp only [decide_eq_true_eq, decide_eq_false_iff_not, Bool.not_eq_true, Bool.not_eq_false, beq_iff_eq, bne_iff_ne, ne_eq, Bool.not_eq_eq_eq_not, Bool.not_true, Bool.not_false, beq_eq_false_iff_ne, bne_eq_false_iff_eq] at hb) <;> first | refine wSkip 7 ?_ | refine wSkipU 7 ?_ | refine wMv 7 ?_))
  all_goals (first | refine wSkip 8 ?_ | refine wSkipU 8 ?_ | refine wNc 8 ?_ | (refine tr_guard (t := 41) rfl (fun hb => ?_) (fun hb => ?_) <;> (try simp only [decide_eq_true_eq, decide_eq_false_iff_not, Bool.not_eq_true, Bool.not_eq_false, beq_iff_eq, bne_iff_ne, ne_eq, Bool.not_eq_eq_eq_not, Bool.not_true, Bool.not_false, beq_eq_false_iff_ne, bne_eq_false_iff_eq] at hb) <;> first | refine wSkip 8 ?_ | refine wSkipU 8 ?_ | refine wNc 8 ?_))
  all_goals (first | refine wSkip 9 ?_ | refine wSkipU 9 ?_ | refine wFa 9 ?_ | (refine tr_guard (t := 41) rfl (fun hb => ?_) (fun hb => ?_) <;> (try simp only [decide_eq_true_eq, decide_eq_false_iff_not, Bool.not_eq_true, Bool.not_eq_false, beq_iff_eq, bne_iff_ne, ne_eq, Bool.not_eq_eq_eq_not, Bool.not_true, Bool.not_false, beq_eq_false_iff_ne, bne_eq_false_iff_eq] at hb) <;> first | refine wSkip 9 ?_ | refine wSkipU 9 ?_ | refine wFa 9 ?_))
  all_goals (first | refine wSkip 10 ?_ | refine wSkipU 10 ?_ | refine wLd 10 ?_ | (refine tr_guard (t := 41) rfl (fun hb => ?_) (fun hb => ?_) <;> (try simp only [decide_eq_true_eq, decide_eq_false_iff_not, Bool.not_eq_true, Bool.not_eq_false, beq_iff_eq, bne_iff_ne, ne_eq, Bool.not_eq_eq_eq_not, Bool.not_true, Bool.not_false, beq_eq_false_iff_ne, bne_eq_false_iff_eq] at hb) <;> first | refine wSkip 10 ?_ | refine wSkipU 10 ?_ | refine wLd 10 ?_))
  all_goals (first | refine wSkip 11 ?_ | refine wSkipU 11 ?_ | refine wAd 11 ?_ | refine wSb 11 ?_ | refine wMl 11 ?_ | refine wRm 11 ?_ | refine wQu 11 ?_ | refine wSr 11 ?_ | refine wSh 11 ?_ | refine wCm 11 ?_ | (refine tr_guard (t := 41) rfl (fun hb => ?_) (fun hb => ?_) <;> (try simp only [decide_eq_true_eq, decide_eq_false_iff_not, Bool.not_eq_true, Bool.not_eq_false, beq_iff_eq, bne_iff_ne, ne_eq, Bool.not_eq_eq_eq_not, Bool.not_true, Bool.not_false, beq_eq_false_iff_ne, bne_eq_false_iff_eq] at hb) <;> first | refine wSkip 11 ?_ | refine wSkipU 11 ?_ | refine wAd 11 ?_ | refine wSb 11 ?_ | refine wMl 11 ?_ | refine wRm 11 ?_ | refine wQu 11 ?_ | refine wSr 11 ?_ | refine wSh 11 ?_ | refine wCm 11 ?_))
  all_goals refine rPk 12 ?_
  all_goals refine rAs 13 ?_
  all_goals refine rAs 14 ?_
  all_goals refine rDone ?_
  unfold dO at hd
  repeat' (first | (refine tl_is (.tmp 55) ?_; refine tl_call rfl rfl hd tk rfl ?_; rintro v ρ' L' hle hp) | (refine i_op ?_; first | (refine iMv ?_; refine qMv ?_) | (refine iLd ?_; refine qLd ?_) | (refine iFa ?_; refine qFa ?_) | (refine iAd ?_; refine qAd ?_) | (refine iSb ?_; refine qSb ?_) | (refine iMl ?_; refine qMl ?_) | (refine iRm ?_; refine qRm ?_) | (refine iQu ?_; refine qQu ?_) | (refine iSr ?_; refine qSr ?_) | (refine iSh ?_; refine qSh ?_) | (refine iCm ?_; refine qCm ?_) | (refine iEx ?_; refine qEx ?_) | (refine iAs ?_; refine qAs ?_) | (refine iPk ?_; refine qPk ?_) | (refine iNc ?_; refine qNc ?_) | (refine iIa ?_; refine qIa ?_) | (refine iCv ?_; refine qCv ?_) | (refine iBi ?_; refine qBi ?_) | (refine iUn ?_; refine qUn ?_) | (refine iFl ?_; refine qFl ?_) | (refine iLu ?_; refine qLu ?_) | (refine iBu ?_; refine qBu ?_) | (refine iSl ?_; refine qSl ?_) | (refine iMf ?_; refine qMf ?_) | (refine iMi ?_; refine qMi ?_) | (refine iTa ?_; refine qTa ?_) | (refine iSt ?_; refine qSt ?_) | (refine iAl ?_; first | refine qAlA (fun _ => ?_) | refine qAlS (fun _ => ?_)) | (refine iBx ?_; first | refine qBxA (fun _ => ?_) | refine qBxS (fun _ => ?_)) | (refine iMm ?_; refine qMm (fun _ => ?_)) | (refine iBs ?_; refine qBs (fun _ => ?_)) | (refine i_gd ?_; first | refine qWant ?_ | refine qSkip ?_ | refine qSkip0 ?_ | refine qSkipU ?_)) | refine tl_nil ?_ | refine tc_seq ?_ | refine tc_region ?_ | refine te_seq ?_ | (refine i_cond ?_; first | refine qCt ?_ | refine qCf ?_) | refine tc_block ?_ | refine te_block_normal ?_ | refine te_block_ret ?_ | refine te_then_ret ?_ | refine te_block_hit ?_ | (refine i_miss ?_; refine qMiss ?_) | refine te_then_exit ?_ | refine tc_exit ?_ | refine tc_ret ?_ | refine tc_skip ?_)
  exact qE ⟨rfl, _, hp⟩
end Go.Proofs.E

namespace Go.Proofs.E
open Go
set_option linter.unusedVariables false
set_option linter.unusedSimpArgs false

/-! ## sectors, as lists -/
theorem heldC_length {s : Secs} (h : ∀ p ∈ s, p.1.length = 64) : (heldC s).length = s.length * 64 := by
  induction s with
  | nil => rfl
  | cons p r ih =>
    have h1 := h p (by simp)
    have h2 := ih (fun q hq => h q (by simp [hq]))
    simp only [heldC, List.map_cons, List.flatten_cons, List.length_append, List.length_map, List.length_cons] at *
    omega
theorem heldC_take : ∀ {s : Secs} {i : Nat} (h : ∀ p ∈ s, p.1.length = 64) (hi : i < s.length), ((heldC s).drop (i * 64)).take 64 = (s[i].1).map u8c
  | [], i, h, hi => by simp at hi
  | p :: r, 0, h, hi => by
    have h1 := h p (by simp)
    simp only [heldC, List.map_cons, List.flatten_cons, Nat.zero_mul, List.drop_zero, List.getElem_cons_zero]
    rw [List.take_append_of_le_length (by simp [h1]), List.take_of_length_le (by simp [h1])]
  | p :: r, i + 1, h, hi => by
    have h1 := h p (by simp)
    have ih := heldC_take (s := r) (i := i) (fun q hq => h q (by simp [hq])) (by simpa using hi)
    simp only [heldC, List.map_cons, List.flatten_cons, List.getElem_cons_succ] at ih ⊢
    have e : (i + 1) * 64 = (p.1.map u8c).length + i * 64 := by simp [h1]; omega
    rw [e, ← List.drop_drop, List.drop_left]
    exact ih
theorem stc_heldC : ∀ {s : Secs} {i : Nat} {b : Blk} (x : Option Blk) (h : ∀ p ∈ s, p.1.length = 64) (hb : b.length = 64) (hi : i < s.length), stc (heldC s) (i * 64) (b.map u8c) = heldC (s.set i (b, x))
  | [], i, b, x, h, hb, hi => by simp at hi
  | p :: r, 0, b, x, h, hb, hi => by
    have h1 := h p (by simp)
    simp only [stc, heldC, List.map_cons, List.flatten_cons, Nat.zero_mul, List.take_zero, List.nil_append, Nat.zero_add, List.set_cons_zero]
    congr 1
    have e : (b.map u8c).length = (p.1.map u8c).length := by simp [hb, h1]
    rw [e, List.drop_left]
  | p :: r, i + 1, b, x, h, hb, hi => by
    have h1 := h p (by simp)
    have ih := stc_heldC (s := r) (i := i) (b := b) x (fun q hq => h q (by simp [hq])) hb (by simpa using hi)
    simp only [stc, heldC, List.map_cons, List.flatten_cons, List.set_cons_succ] at ih ⊢
    have e : (i + 1) * 64 = (p.1.map u8c).length + i * 64 := by simp [h1]; omega
    rw [e, List.take_length_add_append, Nat.add_assoc, ← List.drop_drop, List.drop_left, ← ih]
    simp
theorem heldC_take' {s : Secs} {i : Nat} (sp : List Value) (h : ∀ p ∈ s, p.1.length = 64) (hi : i < s.length) : ((heldC s ++ sp).drop (i * 64)).take 64 = (s[i].1).map u8c := by
  have hl := heldC_length h
  rw [List.drop_append_of_le_length (by omega), List.take_append_of_le_length (by simp; omega)]
  exact heldC_take h hi
theorem stc_heldC' {s : Secs} {i : Nat} {b : Blk} (sp : List Value) (x : Option Blk) (h : ∀ p ∈ s, p.1.length = 64) (hb : b.length = 64) (hi : i < s.length) : stc (heldC s ++ sp) (i * 64) (b.map u8c) = heldC (s.set i (b, x)) ++ sp := by
  have hl := heldC_length h
  rw [← stc_heldC x h hb hi]
  unfold stc
  rw [List.take_append_of_le_length (by omega), List.drop_append_of_le_length (by simp; omega)]
  simp
theorem heldC_length' {s : Secs} (sp : List Value) (h : ∀ p ∈ s, p.1.length = 64) : (heldC s ++ sp).length = s.length * 64 + sp.length := by
  rw [List.length_append, heldC_length h]
def putC (s : Secs) (i : Nat) (b : Blk) : Secs := s.set i ((s[i]?.getD ([], none)).1, some b)
theorem putC_length {s : Secs} {i b} : (putC s i b).length = s.length := by simp [putC]
theorem heldC_putC {s : Secs} {i : Nat} {b : Blk} (hi : i < s.length) : heldC (putC s i b) = heldC s := by
  unfold heldC putC
  rw [List.map_set]
  congr 1
  apply List.ext_getElem? ; intro j
  rw [List.getElem?_set]
  by_cases e : i = j
  · subst e; simp [hi]
  · simp [e]
theorem SecsOk.putC {s : Secs} {i : Nat} {b : Blk} (h : SecsOk s) (hb : b.length = 64) (hi : i < s.length) : SecsOk (putC s i b) := by
  have hm : ∀ p ∈ E.putC s i b, p ∈ s ∨ p = (s[i].1, some b) := fun p hp => by
    unfold E.putC at hp
    rcases List.mem_or_eq_of_mem_set hp with h1 | h1
    · exact .inl h1
    · right; rw [h1]; simp [hi]
  refine ⟨by rw [putC_length]; exact h.len, by rw [putC_length]; exact h.pos, fun p hp => ?_, fun p hp c hc => ?_⟩
  · rcases hm p hp with h1 | rfl
    · exact h.held p h1
    · exact h.held s[i] (List.getElem_mem hi)
  · rcases hm p hp with h1 | rfl
    · exact h.cached p h1 c hc
    · simp only [Option.some.injEq] at hc; subst hc; exact hb
theorem MapOk.put {s : Secs} {es es' : List MapEntry} {i : Int} {b : Blk} (h : MapOk s es) (h0 : 0 ≤ i) (hi : i < s.length) (hk : IntKeys .i64 es') (hg : ∀ j, mget es' j = if j = i then some (bv b) else mget es j) : MapOk (putC s i.toNat b) es' := by
  refine ⟨hk, fun j => ?_⟩
  rw [hg]
  by_cases e : j = i
  · subst e
    have : j.toNat < s.length := by omega
    simp [putC, h0, this]
  · rw [if_neg e, h.get]
    by_cases h1 : 0 ≤ j
    · have hne : i.toNat ≠ j.toNat := by omega
      simp only [h1, if_true, putC]
      rw [List.getElem?_set_ne hne]
    · simp [h1]
/-- what a sector says -/
def says1 (p : Blk × Option Blk) : Blk := p.2.getD p.1
theorem MapOk.at {s : Secs} {es : List MapEntry} (h : MapOk s es) {i : Nat} (hi : i < s.length) : mget es i = (s[i].2).map bv := by
  rw [h.get]; simp [hi]
def emptyC (s : Secs) : Prop := ∀ p ∈ s, p.2 = none
theorem MapOk.empty {s : Secs} (h : emptyC s) : MapOk s [] := by
  refine ⟨fun e he => by simp at he, fun j => ?_⟩
  by_cases h1 : 0 ≤ j
  · simp only [h1, if_true, mget, List.find?_nil, Option.map_none]
    cases hs : s[j.toNat]? with
    | none => simp
    | some p => simp [h p (List.mem_of_getElem? hs)]
  · simp [mget, h1]
end Go.Proofs.E

namespace Go.Proofs.E
open Go
set_option linter.unusedVariables false
set_option linter.unusedSimpArgs false
set_option maxRecDepth 4000
attribute [local irreducible] Yl TL TC TE Spec YSpec R1 Hp.le EnvLe TS TR YS Stays

structure DS where
  secs : Secs
  ops : Int
  armed : Int
  failing : Int
  dead : Bool
structure DS.Ok (D : DS) : Prop where
  secs : SecsOk D.secs
  a1 : -1 ≤ D.armed
  a2 : D.armed ≤ 9223372036854775807
  f1 : -1 ≤ D.failing
  f2 : D.failing ≤ 9223372036854775807
def diskL (b : Nat) (hb : HB) (mb : Nat) (es : List MapEntry) (ck : Nat) (D : DS) : SH := [[(b, dO hb mb D.secs.length D.ops D.armed D.failing D.dead)], [(hb.b, .cells ⟨heldC D.secs ++ hb.sp⟩ 34 (0, 0))], [(mb, .map ⟨es⟩ ck)]]
def cnt (n : Int) : Int := max (n - 1) (-1)
/-- an operation that has begun -/
def DS.tick (D : DS) : DS := { D with ops := IntKind.i64.wrap (D.ops + 1), failing := cnt D.failing }

theorem write1 (ρ : Hp) (b : Nat) (hb : HB) (mb xb pb ib n : Nat) (ops armed failing i : Int) (dead : Bool) (es : List MapEntry) (ck : Nat) (blk : Blk) (hb64 : blk.length = 64) (hk : IntKeys .i64 es) :
    Spec Try.prog 40 [.pointer (some ⟨xb, 0, none⟩), .pointer (some ⟨pb, 0, none⟩), .pointer (some ⟨ib, 0, none⟩)] ρ
      [[(b, dO hb mb n ops armed failing dead)], [(mb, .map ⟨es⟩ ck)], [(xb, .cells ⟨blk.map u8c⟩ 34 (0, 0))], [(pb, .cells ⟨[.pointer (some ⟨b, 0, none⟩)]⟩ 27 (0, 0))], [(ib, .cells ⟨[.int .i64 i]⟩ 3 (0, 0))]]
      (fun v ρ' L' => v = .tuple ⟨[]⟩ ∧ ρ' = ρ ∧ ∃ es' ck', IntKeys .i64 es' ∧ (∀ j, mget es' j = if j = i then some (bv blk) else mget es j) ∧
        L' = [[(b, dO hb mb n ops armed failing dead)], [(mb, .map ⟨es'⟩ ck')], [(xb, .cells ⟨blk.map u8c⟩ 34 (0, 0))], [(pb, .cells ⟨[.pointer (some ⟨b, 0, none⟩)]⟩ 27 (0, 0))], [(ib, .cells ⟨[.int .i64 i]⟩ 3 (0, 0))]]) := by
  refine spec_enter Try.func40 rfl rfl rfl fun u R => ?_
  simp only [argsE, List.cons_append, List.nil_append, dO]
  have hl : (blk.map u8c).length = 64 := by simpa using hb64
  repeat' (first | (refine i_op ?_; first | (refine iMv ?_; refine qMv ?_) | (refine iLd ?_; refine qLd ?_) | (refine iFa ?_; refine qFa ?_) | (refine iAd ?_; refine qAd ?_) | (refine iSb ?_; refine qSb ?_) | (refine iMl ?_; refine qMl ?_) | (refine iRm ?_; refine qRm ?_) | (refine iQu ?_; refine qQu ?_) | (refine iSr ?_; refine qSr ?_) | (refine iSh ?_; refine qSh ?_) | (refine iCm ?_; refine qCm ?_) | (refine iEx ?_; refine qEx ?_) | (refine iAs ?_; refine qAs ?_) | (refine iPk ?_; refine qPk ?_) | (refine iNc ?_; refine qNc ?_) | (refine iIa ?_; refine qIa ?_) | (refine iCv ?_; refine qCv ?_) | (refine iBi ?_; refine qBi ?_) | (refine iUn ?_; refine qUn ?_) | (refine iFl ?_; refine qFl ?_) | (refine iLu ?_; refine qLu ?_) | (refine iBu ?_; refine qBu ?_) | (refine iSl ?_; refine qSl ?_) | (refine iMf ?_; refine qMf ?_) | (refine iMi ?_; refine qMi ?_) | (refine iTa ?_; refine qTa ?_) | (refine iSt ?_; refine qSt ?_) | (refine iAl ?_; first | refine qAlA (fun _ => ?_) | refine qAlS (fun _ => ?_)) | (refine iBx ?_; first | refine qBxA (fun _ => ?_) | refine qBxS (fun _ => ?_)) | (refine iMm ?_; refine qMm (fun _ => ?_)) | (refine iBs ?_; refine qBs (fun _ => ?_)) | (refine i_gd ?_; first | refine qWant ?_ | refine qSkip ?_ | refine qSkip0 ?_ | refine qSkipU ?_)) | refine tl_nil ?_ | refine tc_seq ?_ | refine tc_region ?_ | refine te_seq ?_ | (refine i_cond ?_; first | refine qCt ?_ | refine qCf ?_) | refine tc_block ?_ | refine te_block_normal ?_ | refine te_block_ret ?_ | refine te_then_ret ?_ | refine te_block_hit ?_ | (refine i_miss ?_; refine qMiss ?_) | refine te_then_exit ?_ | refine tc_exit ?_ | refine tc_ret ?_ | refine tc_skip ?_)
  refine tc_draw 6 (by decide +kernel) (by decide +kernel) ?_
  repeat' (first | (refine jLd ?_; refine sLd ?_) | (refine jFa ?_; refine sFa ?_) | (refine jNc ?_; refine sNc ?_) | (refine j_gd ?_; first | refine sWant ?_ | refine sSkip ?_ | refine sSkipU ?_))
  all_goals refine ts_nil ?_
  refine tl_mapUpdate rfl rfl rfl hk (fun es' ck' h1 h2 => ?_)
  repeat' (first | (refine i_op ?_; first | (refine iMv ?_; refine qMv ?_) | (refine iLd ?_; refine qLd ?_) | (refine iFa ?_; refine qFa ?_) | (refine iAd ?_; refine qAd ?_) | (refine iSb ?_; refine qSb ?_) | (refine iMl ?_; refine qMl ?_) | (refine iRm ?_; refine qRm ?_) | (refine iQu ?_; refine qQu ?_) | (refine iSr ?_; refine qSr ?_) | (refine iSh ?_; refine qSh ?_) | (refine iCm ?_; refine qCm ?_) | (refine iEx ?_; refine qEx ?_) | (refine iAs ?_; refine qAs ?_) | (refine iPk ?_; refine qPk ?_) | (refine iNc ?_; refine qNc ?_) | (refine iIa ?_; refine qIa ?_) | (refine iCv ?_; refine qCv ?_) | (refine iBi ?_; refine qBi ?_) | (refine iUn ?_; refine qUn ?_) | (refine iFl ?_; refine qFl ?_) | (refine iLu ?_; refine qLu ?_) | (refine iBu ?_; refine qBu ?_) | (refine iSl ?_; refine qSl ?_) | (refine iMf ?_; refine qMf ?_) | (refine iMi ?_; refine qMi ?_) | (refine iTa ?_; refine qTa ?_) | (refine iSt ?_; refine qSt ?_) | (refine iAl ?_; first | refine qAlA (fun _ => ?_) | refine qAlS (fun _ => ?_)) | (refine iBx ?_; first | refine qBxA (fun _ => ?_) | refine qBxS (fun _ => ?_)) | (refine iMm ?_; refine qMm (fun _ => ?_)) | (refine iBs ?_; refine qBs (fun _ => ?_)) | (refine i_gd ?_; first | refine qWant ?_ | refine qSkip ?_ | refine qSkip0 ?_ | refine qSkipU ?_)) | refine tl_nil ?_ | refine tc_seq ?_ | refine tc_region ?_ | refine te_seq ?_ | (refine i_cond ?_; first | refine qCt ?_ | refine qCf ?_) | refine tc_block ?_ | refine te_block_normal ?_ | refine te_block_ret ?_ | refine te_then_ret ?_ | refine te_block_hit ?_ | (refine i_miss ?_; refine qMiss ?_) | refine te_then_exit ?_ | refine tc_exit ?_ | refine tc_ret ?_ | refine tc_skip ?_)
  exact qE ⟨rfl, rfl, es', ck', h1, h2, rfl⟩

/-- what a Write comes to -/
def DS.write (D : DS) (i : Int) (blk : Blk) : DS × Int :=
  if D.dead then (D, 9) else if i < 0 ∨ (D.secs.length : Int) ≤ i then (D, 2)
  else if D.armed = 0 then ({ D.tick with dead := true, secs := putC D.secs i.toNat blk }, 9)
  else if D.failing = 0 then (D.tick, 8)
  else ({ D.tick with armed := cnt D.armed, secs := putC D.secs i.toNat blk }, 0)
theorem write_spec (ρ : Hp) (b : Nat) (hb : HB) (mb : Nat) (es : List MapEntry) (ck : Nat) (D : DS) (i : Int) (blk : Blk) (hb64 : blk.length = 64) (hD : D.Ok) (hm : MapOk D.secs es) :
    Spec Try.prog 14 [.pointer (some ⟨b, 0, none⟩), .int .i64 i, bv blk] ρ (diskL b hb mb es ck D)
      (fun v ρ' L' => v = .int .i64 (D.write i blk).2 ∧ ρ' = ρ ∧ ∃ es' ck', MapOk (D.write i blk).1.secs es' ∧ L' = diskL b hb mb es' ck' (D.write i blk).1) := by
  obtain ⟨s, ops, armed, failing, dead⟩ := D
  obtain ⟨hs, a1, a2, f1, f2⟩ := hD
  dsimp only at hs a1 a2 f1 f2 hm
  have hl : (blk.map u8c).length = 64 := by simpa using hb64
  have hk := hm.keys
  cases dead with
  | true =>
    have he : DS.write ⟨s, ops, armed, failing, true⟩ i blk = (⟨s, ops, armed, failing, true⟩, 9) := by simp [DS.write]
    simp only [he]
    refine spec_enter Try.func14 rfl rfl rfl fun u R => ?_
    simp only [argsE, List.cons_append, List.nil_append, diskL, bv]
    repeat' (first | (refine tl_is (.func 34) ?_; refine qC rfl rfl (does_dead _ _ _ _ _ _ _ _ _ _ _) ?_; rintro v ρ' L' hle ⟨rfl, rfl, rfl⟩ <;> (try simp only [List.cons_append, List.nil_append, List.append_eq])) | (refine i_op ?_; first | (refine iMv ?_; refine qMv ?_) | (refine iLd ?_; refine qLd ?_) | (refine iFa ?_; refine qFa ?_) | (refine iAd ?_; refine qAd ?_) | (refine iSb ?_; refine qSb ?_) | (refine iMl ?_; refine qMl ?_) | (refine iRm ?_; refine qRm ?_) | (refine iQu ?_; refine qQu ?_) | (refine iSr ?_; refine qSr ?_) | (refine iSh ?_; refine qSh ?_) | (refine iCm ?_; refine qCm ?_) | (refine iEx ?_; refine qEx ?_) | (refine iAs ?_; refine qAs ?_) | (refine iPk ?_; refine qPk ?_) | (refine iNc ?_; refine qNc ?_) | (refine iIa ?_; refine qIa ?_) | (refine iCv ?_; refine qCv ?_) | (refine iBi ?_; refine qBi ?_) | (refine iUn ?_; refine qUn ?_) | (refine iFl ?_; refine qFl ?_) | (refine iLu ?_; refine qLu ?_) | (refine iBu ?_; refine qBu ?_) | (refine iSl ?_; refine qSl ?_) | (refine iMf ?_; refine qMf ?_) | (refine iMi ?_; refine qMi ?_) | (refine iTa ?_; refine qTa ?_) | (refine iSt ?_; refine qSt ?_) | (refine iAl ?_; first | refine qAlA (fun _ => ?_) | refine qAlS (fun _ => ?_)) | (refine iBx ?_; first | refine qBxA (fun _ => ?_) | refine qBxS (fun _ => ?_)) | (refine iMm ?_; refine qMm (fun _ => ?_)) | (refine iBs ?_; refine qBs (fun _ => ?_)) | (refine i_gd ?_; first | refine qWant ?_ | refine qSkip ?_ | refine qSkip0 ?_ | refine qSkipU ?_)) | refine tl_nil ?_ | refine tc_seq ?_ | refine tc_region ?_ | refine te_seq ?_ | (refine i_cond ?_; first | refine qCt ?_ | refine qCf ?_) | refine tc_block ?_ | refine te_block_normal ?_ | refine te_block_ret ?_ | refine te_then_ret ?_ | refine te_block_hit ?_ | (refine i_miss ?_; refine qMiss ?_) | refine te_then_exit ?_ | refine tc_exit ?_ | refine tc_ret ?_ | refine tc_skip ?_)
    exact qE ⟨rfl, rfl, es, ck, hm, rfl⟩
  | false =>
    by_cases hi : i < 0 ∨ (s.length : Int) ≤ i
    · have he : DS.write ⟨s, ops, armed, failing, false⟩ i blk = (⟨s, ops, armed, failing, false⟩, 2) := by simp [DS.write, hi]
      simp only [he]
      refine spec_enter Try.func14 rfl rfl rfl fun u R => ?_
      simp only [argsE, List.cons_append, List.nil_append, diskL, bv]
      repeat' (first | (refine tl_is (.func 34) ?_; refine qC rfl rfl (does_arg _ _ _ _ _ _ _ _ _ _ _ hi) ?_; rintro v ρ' L' hle ⟨rfl, rfl, rfl⟩ <;> (try simp only [List.cons_append, List.nil_append, List.append_eq])) | (refine i_op ?_; first | (refine iMv ?_; refine qMv ?_) | (refine iLd ?_; refine qLd ?_) | (refine iFa ?_; refine qFa ?_) | (refine iAd ?_; refine qAd ?_) | (refine iSb ?_; refine qSb ?_) | (refine iMl ?_; refine qMl ?_) | (refine iRm ?_; refine qRm ?_) | (refine iQu ?_; refine qQu ?_) | (refine iSr ?_; refine qSr ?_) | (refine iSh ?_; refine qSh ?_) | (refine iCm ?_; refine qCm ?_) | (refine iEx ?_; refine qEx ?_) | (refine iAs ?_; refine qAs ?_) | (refine iPk ?_; refine qPk ?_) | (refine iNc ?_; refine qNc ?_) | (refine iIa ?_; refine qIa ?_) | (refine iCv ?_; refine qCv ?_) | (refine iBi ?_; refine qBi ?_) | (refine iUn ?_; refine qUn ?_) | (refine iFl ?_; refine qFl ?_) | (refine iLu ?_; refine qLu ?_) | (refine iBu ?_; refine qBu ?_) | (refine iSl ?_; refine qSl ?_) | (refine iMf ?_; refine qMf ?_) | (refine iMi ?_; refine qMi ?_) | (refine iTa ?_; refine qTa ?_) | (refine iSt ?_; refine qSt ?_) | (refine iAl ?_; first | refine qAlA (fun _ => ?_) | refine qAlS (fun _ => ?_)) | (refine iBx ?_; first | refine qBxA (fun _ => ?_) | refine qBxS (fun _ => ?_)) | (refine iMm ?_; refine qMm (fun _ => ?_)) | (refine iBs ?_; refine qBs (fun _ => ?_)) | (refine i_gd ?_; first | refine qWant ?_ | refine qSkip ?_ | refine qSkip0 ?_ | refine qSkipU ?_)) | refine tl_nil ?_ | refine tc_seq ?_ | refine tc_region ?_ | refine te_seq ?_ | (refine i_cond ?_; first | refine qCt ?_ | refine qCf ?_) | refine tc_block ?_ | refine te_block_normal ?_ | refine te_block_ret ?_ | refine te_then_ret ?_ | refine te_block_hit ?_ | (refine i_miss ?_; refine qMiss ?_) | refine te_then_exit ?_ | refine tc_exit ?_ | refine tc_ret ?_ | refine tc_skip ?_)
      exact qE ⟨rfl, rfl, es, ck, hm, rfl⟩
    · have hi0 : 0 ≤ i := by omega
      have hi1 : i < s.length := by omega
      have hlen : (putC s i.toNat blk).length = s.length := putC_length
      have hheld : heldC (putC s i.toNat blk) = heldC s := heldC_putC (by omega)
      by_cases ha : armed = 0
      · subst ha
        have he : DS.write ⟨s, ops, 0, failing, false⟩ i blk = (⟨putC s i.toNat blk, IntKind.i64.wrap (ops + 1), 0, cnt failing, true⟩, 9) := by simp [DS.write, hi, DS.tick]
        simp only [he]
        refine spec_enter Try.func14 rfl rfl rfl fun u R => ?_
        simp only [argsE, List.cons_append, List.nil_append, diskL, bv, hlen, hheld]
        repeat' (first | (refine tl_is (.func 34) ?_; refine qC rfl rfl (does_dies _ _ _ _ _ _ _ _ _ _ _ _ _ hi0 hi1 f1 f2 (write1 _ _ _ _ _ _ _ _ _ _ _ _ _ _ _ blk hb64 hk)) ?_; rintro v ρ' L' hle ⟨rfl, v0, h0, rfl, es', ck', h1, h2, rfl⟩ <;> (try simp only [List.cons_append, List.nil_append, List.append_eq])) | (refine i_op ?_; first | (refine iMv ?_; refine qMv ?_) | (refine iLd ?_; refine qLd ?_) | (refine iFa ?_; refine qFa ?_) | (refine iAd ?_; refine qAd ?_) | (refine iSb ?_; refine qSb ?_) | (refine iMl ?_; refine qMl ?_) | (refine iRm ?_; refine qRm ?_) | (refine iQu ?_; refine qQu ?_) | (refine iSr ?_; refine qSr ?_) | (refine iSh ?_; refine qSh ?_) | (refine iCm ?_; refine qCm ?_) | (refine iEx ?_; refine qEx ?_) | (refine iAs ?_; refine qAs ?_) | (refine iPk ?_; refine qPk ?_) | (refine iNc ?_; refine qNc ?_) | (refine iIa ?_; refine qIa ?_) | (refine iCv ?_; refine qCv ?_) | (refine iBi ?_; refine qBi ?_) | (refine iUn ?_; refine qUn ?_) | (refine iFl ?_; refine qFl ?_) | (refine iLu ?_; refine qLu ?_) | (refine iBu ?_; refine qBu ?_) | (refine iSl ?_; refine qSl ?_) | (refine iMf ?_; refine qMf ?_) | (refine iMi ?_; refine qMi ?_) | (refine iTa ?_; refine qTa ?_) | (refine iSt ?_; refine qSt ?_) | (refine iAl ?_; first | refine qAlA (fun _ => ?_) | refine qAlS (fun _ => ?_)) | (refine iBx ?_; first | refine qBxA (fun _ => ?_) | refine qBxS (fun _ => ?_)) | (refine iMm ?_; refine qMm (fun _ => ?_)) | (refine iBs ?_; refine qBs (fun _ => ?_)) | (refine i_gd ?_; first | refine qWant ?_ | refine qSkip ?_ | refine qSkip0 ?_ | refine qSkipU ?_)) | refine tl_nil ?_ | refine tc_seq ?_ | refine tc_region ?_ | refine te_seq ?_ | (refine i_cond ?_; first | refine qCt ?_ | refine qCf ?_) | refine tc_block ?_ | refine te_block_normal ?_ | refine te_block_ret ?_ | refine te_then_ret ?_ | refine te_block_hit ?_ | (refine i_miss ?_; refine qMiss ?_) | refine te_then_exit ?_ | refine tc_exit ?_ | refine tc_ret ?_ | refine tc_skip ?_)
        exact qE ⟨rfl, rfl, es', ck', hm.put hi0 hi1 h1 h2, rfl⟩
      · by_cases hf : failing = 0
        · subst hf
          have he : DS.write ⟨s, ops, armed, 0, false⟩ i blk = (⟨s, IntKind.i64.wrap (ops + 1), armed, -1, false⟩, 8) := by simp [DS.write, hi, DS.tick, ha, cnt]
          simp only [he]
          refine spec_enter Try.func14 rfl rfl rfl fun u R => ?_
          simp only [argsE, List.cons_append, List.nil_append, diskL, bv]
          repeat' (first | (refine tl_is (.func 34) ?_; refine qC rfl rfl (does_fail_w _ _ _ _ _ _ _ _ _ _ _ hi0 hi1 ha) ?_; rintro v ρ' L' hle ⟨rfl, rfl, rfl⟩ <;> (try simp only [List.cons_append, List.nil_append, List.append_eq])) | (refine i_op ?_; first | (refine iMv ?_; refine qMv ?_) | (refine iLd ?_; refine qLd ?_) | (refine iFa ?_; refine qFa ?_) | (refine iAd ?_; refine qAd ?_) | (refine iSb ?_; refine qSb ?_) | (refine iMl ?_; refine qMl ?_) | (refine iRm ?_; refine qRm ?_) | (refine iQu ?_; refine qQu ?_) | (refine iSr ?_; refine qSr ?_) | (refine iSh ?_; refine qSh ?_) | (refine iCm ?_; refine qCm ?_) | (refine iEx ?_; refine qEx ?_) | (refine iAs ?_; refine qAs ?_) | (refine iPk ?_; refine qPk ?_) | (refine iNc ?_; refine qNc ?_) | (refine iIa ?_; refine qIa ?_) | (refine iCv ?_; refine qCv ?_) | (refine iBi ?_; refine qBi ?_) | (refine iUn ?_; refine qUn ?_) | (refine iFl ?_; refine qFl ?_) | (refine iLu ?_; refine qLu ?_) | (refine iBu ?_; refine qBu ?_) | (refine iSl ?_; refine qSl ?_) | (refine iMf ?_; refine qMf ?_) | (refine iMi ?_; refine qMi ?_) | (refine iTa ?_; refine qTa ?_) | (refine iSt ?_; refine qSt ?_) | (refine iAl ?_; first | refine qAlA (fun _ => ?_) | refine qAlS (fun _ => ?_)) | (refine iBx ?_; first | refine qBxA (fun _ => ?_) | refine qBxS (fun _ => ?_)) | (refine iMm ?_; refine qMm (fun _ => ?_)) | (refine iBs ?_; refine qBs (fun _ => ?_)) | (refine i_gd ?_; first | refine qWant ?_ | refine qSkip ?_ | refine qSkip0 ?_ | refine qSkipU ?_)) | refine tl_nil ?_ | refine tc_seq ?_ | refine tc_region ?_ | refine te_seq ?_ | (refine i_cond ?_; first | refine qCt ?_ | refine qCf ?_) | refine tc_block ?_ | refine te_block_normal ?_ | refine te_block_ret ?_ | refine te_then_ret ?_ | refine te_block_hit ?_ | (refine i_miss ?_; refine qMiss ?_) | refine te_then_exit ?_ | refine tc_exit ?_ | refine tc_ret ?_ | refine tc_skip ?_)
          exact qE ⟨rfl, rfl, es, ck, hm, rfl⟩
        · have he : DS.write ⟨s, ops, armed, failing, false⟩ i blk = (⟨putC s i.toNat blk, IntKind.i64.wrap (ops + 1), cnt armed, cnt failing, false⟩, 0) := by simp [DS.write, hi, DS.tick, ha, hf]
          simp only [he]
          refine spec_enter Try.func14 rfl rfl rfl fun u R => ?_
          simp only [argsE, List.cons_append, List.nil_append, diskL, bv, hlen, hheld]
          repeat' (first | (refine tl_is (.func 34) ?_; refine qC rfl rfl (does_ok_w _ _ _ _ _ _ _ _ _ _ _ _ _ _ _ hi0 hi1 hf f1 f2 ha a1 a2 (write1 _ _ _ _ _ _ _ _ _ _ _ _ _ _ _ blk hb64 hk)) ?_; rintro v ρ' L' hle ⟨rfl, v0, h0, rfl, es', ck', h1, h2, rfl⟩ <;> (try simp only [List.cons_append, List.nil_append, List.append_eq])) | (refine i_op ?_; first | (refine iMv ?_; refine qMv ?_) | (refine iLd ?_; refine qLd ?_) | (refine iFa ?_; refine qFa ?_) | (refine iAd ?_; refine qAd ?_) | (refine iSb ?_; refine qSb ?_) | (refine iMl ?_; refine qMl ?_) | (refine iRm ?_; refine qRm ?_) | (refine iQu ?_; refine qQu ?_) | (refine iSr ?_; refine qSr ?_) | (refine iSh ?_; refine qSh ?_) | (refine iCm ?_; refine qCm ?_) | (refine iEx ?_; refine qEx ?_) | (refine iAs ?_; refine qAs ?_) | (refine iPk ?_; refine qPk ?_) | (refine iNc ?_; refine qNc ?_) | (refine iIa ?_; refine qIa ?_) | (refine iCv ?_; refine qCv ?_) | (refine iBi ?_; refine qBi ?_) | (refine iUn ?_; refine qUn ?_) | (refine iFl ?_; refine qFl ?_) | (refine iLu ?_; refine qLu ?_) | (refine iBu ?_; refine qBu ?_) | (refine iSl ?_; refine qSl ?_) | (refine iMf ?_; refine qMf ?_) | (refine iMi ?_; refine qMi ?_) | (refine iTa ?_; refine qTa ?_) | (refine iSt ?_; refine qSt ?_) | (refine iAl ?_; first | refine qAlA (fun _ => ?_) | refine qAlS (fun _ => ?_)) | (refine iBx ?_; first | refine qBxA (fun _ => ?_) | refine qBxS (fun _ => ?_)) | (refine iMm ?_; refine qMm (fun _ => ?_)) | (refine iBs ?_; refine qBs (fun _ => ?_)) | (refine i_gd ?_; first | refine qWant ?_ | refine qSkip ?_ | refine qSkip0 ?_ | refine qSkipU ?_)) | refine tl_nil ?_ | refine tc_seq ?_ | refine tc_region ?_ | refine te_seq ?_ | (refine i_cond ?_; first | refine qCt ?_ | refine qCf ?_) | refine tc_block ?_ | refine te_block_normal ?_ | refine te_block_ret ?_ | refine te_then_ret ?_ | refine te_block_hit ?_ | (refine i_miss ?_; refine qMiss ?_) | refine te_then_exit ?_ | refine tc_exit ?_ | refine tc_ret ?_ | refine tc_skip ?_)
          exact qE ⟨rfl, rfl, es', ck', hm.put hi0 hi1 h1 h2, rfl⟩
end Go.Proofs.E

namespace Go.Proofs.E
open Go
set_option linter.unusedVariables false
set_option linter.unusedSimpArgs false
set_option maxRecDepth 4000
attribute [local irreducible] Yl TL TC TE Spec YSpec R1 Hp.le EnvLe TS TR YS Stays

theorem read1 (ρ : Hp) (b : Nat) (hb : HB) (mb pb ib rb : Nat) (s : Secs) (ops armed failing : Int) (i : Nat) (dead : Bool) (es : List MapEntry) (ck : Nat) (r : List Value) (hr : r.length = 64) (hs : SecsOk s) (hm : MapOk s es) (hi : i < s.length) :
    Spec Try.prog 39 [.pointer (some ⟨pb, 0, none⟩), .pointer (some ⟨ib, 0, none⟩), .pointer (some ⟨rb, 0, none⟩)] ρ
      [[(b, dO hb mb s.length ops armed failing dead)], [(hb.b, .cells ⟨heldC s ++ hb.sp⟩ 34 (0, 0))], [(mb, .map ⟨es⟩ ck)], [(pb, .cells ⟨[.pointer (some ⟨b, 0, none⟩)]⟩ 27 (0, 0))], [(ib, .cells ⟨[.int .i64 i]⟩ 3 (0, 0))], [(rb, .cells ⟨r⟩ 34 (0, 0))]]
      (fun v ρ' L' => v = .tuple ⟨[]⟩ ∧ ρ' = ρ ∧ L' = [[(b, dO hb mb s.length ops armed failing dead)], [(hb.b, .cells ⟨heldC s ++ hb.sp⟩ 34 (0, 0))], [(mb, .map ⟨es⟩ ck)], [(pb, .cells ⟨[.pointer (some ⟨b, 0, none⟩)]⟩ 27 (0, 0))], [(ib, .cells ⟨[.int .i64 i]⟩ 3 (0, 0))], [(rb, .cells ⟨(says1 s[i]).map u8c⟩ 34 (0, 0))]]) := by
  have hk := hm.keys
  have hat := hm.at hi
  have hh : (s[i].1.map u8c).length = 64 := by simpa using hs.held s[i] (List.getElem_mem hi)
  have ht : ((heldC s ++ hb.sp).drop (0 + i * 64)).take 64 = (s[i].1).map u8c := by rw [Nat.zero_add]; exact heldC_take' hb.sp hs.held hi
  have hlen := heldC_length' hb.sp hs.held
  have o1 := u8c_one
  cases hc : s[i].2 with
  | none =>
    have hsay : says1 s[i] = s[i].1 := by simp [says1, hc]
    rw [hc] at hat
    simp only [Option.map_none] at hat
    have hone := u8c_one s[i].1
    refine spec_enter Try.func39 rfl rfl rfl fun u R => ?_
    simp only [argsE, List.cons_append, List.nil_append, dO, hsay]
    repeat' (first | (refine i_op ?_; first | (refine iMv ?_; refine qMv ?_) | (refine iLd ?_; refine qLd ?_) | (refine iFa ?_; refine qFa ?_) | (refine iAd ?_; refine qAd ?_) | (refine iSb ?_; refine qSb ?_) | (refine iMl ?_; refine qMl ?_) | (refine iRm ?_; refine qRm ?_) | (refine iQu ?_; refine qQu ?_) | (refine iSr ?_; refine qSr ?_) | (refine iSh ?_; refine qSh ?_) | (refine iCm ?_; refine qCm ?_) | (refine iEx ?_; refine qEx ?_) | (refine iAs ?_; refine qAs ?_) | (refine iPk ?_; refine qPk ?_) | (refine iNc ?_; refine qNc ?_) | (refine iIa ?_; refine qIa ?_) | (refine iCv ?_; refine qCv ?_) | (refine iBi ?_; refine qBi ?_) | (refine iUn ?_; refine qUn ?_) | (refine iFl ?_; refine qFl ?_) | (refine iLu ?_; refine qLu ?_) | (refine iBu ?_; refine qBu ?_) | (refine iSl ?_; refine qSl ?_) | (refine iMf ?_; refine qMf ?_) | (refine iMi ?_; refine qMi ?_) | (refine iTa ?_; refine qTa ?_) | (refine iSt ?_; refine qSt ?_) | (refine iAl ?_; first | refine qAlA (fun _ => ?_) | refine qAlS (fun _ => ?_)) | (refine iBx ?_; first | refine qBxA (fun _ => ?_) | refine qBxS (fun _ => ?_)) | (refine iMm ?_; refine qMm (fun _ => ?_)) | (refine iBs ?_; refine qBs (fun _ => ?_)) | (refine i_gd ?_; first | refine qWant ?_ | refine qSkip ?_ | refine qSkip0 ?_ | refine qSkipU ?_)) | refine tl_nil ?_ | refine tc_seq ?_ | refine tc_region ?_ | refine te_seq ?_ | (refine i_cond ?_; first | refine qCt ?_ | refine qCf ?_) | refine tc_block ?_ | refine te_block_normal ?_ | refine te_block_ret ?_ | refine te_then_ret ?_ | refine te_block_hit ?_ | (refine i_miss ?_; refine qMiss ?_) | refine te_then_exit ?_ | refine tc_exit ?_ | refine tc_ret ?_ | refine tc_skip ?_)
    refine tc_any (Stays _ _ _) stays_refl ?_
    all_goals refine rLd 0 ?_
    all_goals refine rNc 1 ?_
    all_goals refine rFa 2 ?_
    all_goals refine rLd 3 ?_
    all_goals refine rLd 4 ?_
    all_goals refine rLu 5 ?_
    all_goals refine rMv 6 ?_
    all_goals refine rEx 7 ?_
    all_goals refine rEx 8 ?_
    all_goals (refine rStep (i := 9) ?_; ((try refine qWant ?_); (first | (refine iSt ?_; refine qSt ?_) | (refine iAl ?_; first | refine qAlA (fun _ => ?_) | refine qAlS (fun _ => ?_)) | (refine iBx ?_; first | refine qBxA (fun _ => ?_) | refine qBxS (fun _ => ?_)) | (refine iMm ?_; refine qMm (fun _ => ?_)) | (refine iBs ?_; refine qBs (fun _ => ?_))); (try simp only [List.cons_append, List.nil_append, List.append_eq]); refine tl_nil ?_; refine rNext ?_))
    all_goals (refine rStep (i := 10) ?_; ((try refine qWant ?_); (first | (refine iSt ?_; refine qSt ?_) | (refine iAl ?_; first | refine qAlA (fun _ => ?_) | refine qAlS (fun _ => ?_)) | (refine iBx ?_; first | refine qBxA (fun _ => ?_) | refine qBxS (fun _ => ?_)) | (refine iMm ?_; refine qMm (fun _ => ?_)) | (refine iBs ?_; refine qBs (fun _ => ?_))); (try simp only [List.cons_append, List.nil_append, List.append_eq]); refine tl_nil ?_; refine rNext ?_))
    all_goals refine rFull ?_
    all_goals refine rAs 11 ?_
    all_goals refine rDone ?_
    repeat' (first | (refine i_op ?_; first | (refine iMv ?_; refine qMv ?_) | (refine iLd ?_; refine qLd ?_) | (refine iFa ?_; refine qFa ?_) | (refine iAd ?_; refine qAd ?_) | (refine iSb ?_; refine qSb ?_) | (refine iMl ?_; refine qMl ?_) | (refine iRm ?_; refine qRm ?_) | (refine iQu ?_; refine qQu ?_) | (refine iSr ?_; refine qSr ?_) | (refine iSh ?_; refine qSh ?_) | (refine iCm ?_; refine qCm ?_) | (refine iEx ?_; refine qEx ?_) | (refine iAs ?_; refine qAs ?_) | (refine iPk ?_; refine qPk ?_) | (refine iNc ?_; refine qNc ?_) | (refine iIa ?_; refine qIa ?_) | (refine iCv ?_; refine qCv ?_) | (refine iBi ?_; refine qBi ?_) | (refine iUn ?_; refine qUn ?_) | (refine iFl ?_; refine qFl ?_) | (refine iLu ?_; refine qLu ?_) | (refine iBu ?_; refine qBu ?_) | (refine iSl ?_; refine qSl ?_) | (refine iMf ?_; refine qMf ?_) | (refine iMi ?_; refine qMi ?_) | (refine iTa ?_; refine qTa ?_) | (refine iSt ?_; refine qSt ?_) | (refine iAl ?_; first | refine qAlA (fun _ => ?_) | refine qAlS (fun _ => ?_)) | (refine iBx ?_; first | refine qBxA (fun _ => ?_) | refine qBxS (fun _ => ?_)) | (refine iMm ?_; refine qMm (fun _ => ?_)) | (refine iBs ?_; refine qBs (fun _ => ?_)) | (refine i_gd ?_; first | refine qWant ?_ | refine qSkip ?_ | refine qSkip0 ?_ | refine qSkipU ?_)) | refine tl_nil ?_ | refine tc_seq ?_ | refine tc_region ?_ | refine te_seq ?_ | (refine i_cond ?_; first | refine qCt ?_ | refine qCf ?_) | refine tc_block ?_ | refine te_block_normal ?_ | refine te_block_ret ?_ | refine te_then_ret ?_ | refine te_block_hit ?_ | (refine i_miss ?_; refine qMiss ?_) | refine te_then_exit ?_ | refine tc_exit ?_ | refine tc_ret ?_ | refine tc_skip ?_)
    refine tc_draw 7 (by decide +kernel) (by decide +kernel) ?_
    repeat' (first | (refine jLd ?_; refine sLd ?_) | (refine jFa ?_; refine sFa ?_) | (refine jNc ?_; refine sNc ?_) | (refine jIa ?_; refine sIa ?_) | (refine j_gd ?_; first | refine sWant ?_ | refine sSkip ?_ | refine sSkipU ?_))
    all_goals refine ts_nil ?_
    repeat' (first | (refine i_op ?_; first | (refine iMv ?_; refine qMv ?_) | (refine iLd ?_; refine qLd ?_) | (refine iFa ?_; refine qFa ?_) | (refine iAd ?_; refine qAd ?_) | (refine iSb ?_; refine qSb ?_) | (refine iMl ?_; refine qMl ?_) | (refine iRm ?_; refine qRm ?_) | (refine iQu ?_; refine qQu ?_) | (refine iSr ?_; refine qSr ?_) | (refine iSh ?_; refine qSh ?_) | (refine iCm ?_; refine qCm ?_) | (refine iEx ?_; refine qEx ?_) | (refine iAs ?_; refine qAs ?_) | (refine iPk ?_; refine qPk ?_) | (refine iNc ?_; refine qNc ?_) | (refine iIa ?_; refine qIa ?_) | (refine iCv ?_; refine qCv ?_) | (refine iBi ?_; refine qBi ?_) | (refine iUn ?_; refine qUn ?_) | (refine iFl ?_; refine qFl ?_) | (refine iLu ?_; refine qLu ?_) | (refine iBu ?_; refine qBu ?_) | (refine iSl ?_; refine qSl ?_) | (refine iMf ?_; refine qMf ?_) | (refine iMi ?_; refine qMi ?_) | (refine iTa ?_; refine qTa ?_) | (refine iSt ?_; refine qSt ?_) | (refine iAl ?_; first | refine qAlA (fun _ => ?_) | refine qAlS (fun _ => ?_)) | (refine iBx ?_; first | refine qBxA (fun _ => ?_) | refine qBxS (fun _ => ?_)) | (refine iMm ?_; refine qMm (fun _ => ?_)) | (refine iBs ?_; refine qBs (fun _ => ?_)) | (refine i_gd ?_; first | refine qWant ?_ | refine qSkip ?_ | refine qSkip0 ?_ | refine qSkipU ?_)) | refine tl_nil ?_ | refine tc_seq ?_ | refine tc_region ?_ | refine te_seq ?_ | (refine i_cond ?_; first | refine qCt ?_ | refine qCf ?_) | refine tc_block ?_ | refine te_block_normal ?_ | refine te_block_ret ?_ | refine te_then_ret ?_ | refine te_block_hit ?_ | (refine i_miss ?_; refine qMiss ?_) | refine te_then_exit ?_ | refine tc_exit ?_ | refine tc_ret ?_ | refine tc_skip ?_)
    exact qE ⟨rfl, rfl, rfl⟩
  | some c =>
    have hsay : says1 s[i] = c := by simp [says1, hc]
    have hcl : (c.map u8c).length = 64 := by simpa using hs.cached s[i] (List.getElem_mem hi) c hc
    rw [hc] at hat
    simp only [Option.map_some] at hat
    have hone := u8c_one c
    refine spec_enter Try.func39 rfl rfl rfl fun u R => ?_
    simp only [argsE, List.cons_append, List.nil_append, dO, hsay]
    repeat' (first | (refine i_op ?_; first | (refine iMv ?_; refine qMv ?_) | (refine iLd ?_; refine qLd ?_) | (refine iFa ?_; refine qFa ?_) | (refine iAd ?_; refine qAd ?_) | (refine iSb ?_; refine qSb ?_) | (refine iMl ?_; refine qMl ?_) | (refine iRm ?_; refine qRm ?_) | (refine iQu ?_; refine qQu ?_) | (refine iSr ?_; refine qSr ?_) | (refine iSh ?_; refine qSh ?_) | (refine iCm ?_; refine qCm ?_) | (refine iEx ?_; refine qEx ?_) | (refine iAs ?_; refine qAs ?_) | (refine iPk ?_; refine qPk ?_) | (refine iNc ?_; refine qNc ?_) | (refine iIa ?_; refine qIa ?_) | (refine iCv ?_; refine qCv ?_) | (refine iBi ?_; refine qBi ?_) | (refine iUn ?_; refine qUn ?_) | (refine iFl ?_; refine qFl ?_) | (refine iLu ?_; refine qLu ?_) | (refine iBu ?_; refine qBu ?_) | (refine iSl ?_; refine qSl ?_) | (refine iMf ?_; refine qMf ?_) | (refine iMi ?_; refine qMi ?_) | (refine iTa ?_; refine qTa ?_) | (refine iSt ?_; refine qSt ?_) | (refine iAl ?_; first | refine qAlA (fun _ => ?_) | refine qAlS (fun _ => ?_)) | (refine iBx ?_; first | refine qBxA (fun _ => ?_) | refine qBxS (fun _ => ?_)) | (refine iMm ?_; refine qMm (fun _ => ?_)) | (refine iBs ?_; refine qBs (fun _ => ?_)) | (refine i_gd ?_; first | refine qWant ?_ | refine qSkip ?_ | refine qSkip0 ?_ | refine qSkipU ?_)) | refine tl_nil ?_ | refine tc_seq ?_ | refine tc_region ?_ | refine te_seq ?_ | (refine i_cond ?_; first | refine qCt ?_ | refine qCf ?_) | refine tc_block ?_ | refine te_block_normal ?_ | refine te_block_ret ?_ | refine te_then_ret ?_ | refine te_block_hit ?_ | (refine i_miss ?_; refine qMiss ?_) | refine te_then_exit ?_ | refine tc_exit ?_ | refine tc_ret ?_ | refine tc_skip ?_)
    refine tc_any (Stays _ _ _) stays_refl ?_
    all_goals refine rLd 0 ?_
    all_goals refine rNc 1 ?_
    all_goals refine rFa 2 ?_
    all_goals refine rLd 3 ?_
    all_goals refine rLd 4 ?_
    all_goals refine rLu 5 ?_
    all_goals refine rMv 6 ?_
    all_goals refine rEx 7 ?_
    all_goals refine rEx 8 ?_
    all_goals (refine rStep (i := 9) ?_; ((try refine qWant ?_); (first | (refine iSt ?_; refine qSt ?_) | (refine iAl ?_; first | refine qAlA (fun _ => ?_) | refine qAlS (fun _ => ?_)) | (refine iBx ?_; first | refine qBxA (fun _ => ?_) | refine qBxS (fun _ => ?_)) | (refine iMm ?_; refine qMm (fun _ => ?_)) | (refine iBs ?_; refine qBs (fun _ => ?_))); (try simp only [List.cons_append, List.nil_append, List.append_eq]); refine tl_nil ?_; refine rNext ?_))
    all_goals (refine rStep (i := 10) ?_; ((try refine qWant ?_); (first | (refine iSt ?_; refine qSt ?_) | (refine iAl ?_; first | refine qAlA (fun _ => ?_) | refine qAlS (fun _ => ?_)) | (refine iBx ?_; first | refine qBxA (fun _ => ?_) | refine qBxS (fun _ => ?_)) | (refine iMm ?_; refine qMm (fun _ => ?_)) | (refine iBs ?_; refine qBs (fun _ => ?_))); (try simp only [List.cons_append, List.nil_append, List.append_eq]); refine tl_nil ?_; refine rNext ?_))
    all_goals refine rFull ?_
    all_goals refine rAs 11 ?_
    all_goals refine rDone ?_
    repeat' (first | (refine i_op ?_; first | (refine iMv ?_; refine qMv ?_) | (refine iLd ?_; refine qLd ?_) | (refine iFa ?_; refine qFa ?_) | (refine iAd ?_; refine qAd ?_) | (refine iSb ?_; refine qSb ?_) | (refine iMl ?_; refine qMl ?_) | (refine iRm ?_; refine qRm ?_) | (refine iQu ?_; refine qQu ?_) | (refine iSr ?_; refine qSr ?_) | (refine iSh ?_; refine qSh ?_) | (refine iCm ?_; refine qCm ?_) | (refine iEx ?_; refine qEx ?_) | (refine iAs ?_; refine qAs ?_) | (refine iPk ?_; refine qPk ?_) | (refine iNc ?_; refine qNc ?_) | (refine iIa ?_; refine qIa ?_) | (refine iCv ?_; refine qCv ?_) | (refine iBi ?_; refine qBi ?_) | (refine iUn ?_; refine qUn ?_) | (refine iFl ?_; refine qFl ?_) | (refine iLu ?_; refine qLu ?_) | (refine iBu ?_; refine qBu ?_) | (refine iSl ?_; refine qSl ?_) | (refine iMf ?_; refine qMf ?_) | (refine iMi ?_; refine qMi ?_) | (refine iTa ?_; refine qTa ?_) | (refine iSt ?_; refine qSt ?_) | (refine iAl ?_; first | refine qAlA (fun _ => ?_) | refine qAlS (fun _ => ?_)) | (refine iBx ?_; first | refine qBxA (fun _ => ?_) | refine qBxS (fun _ => ?_)) | (refine iMm ?_; refine qMm (fun _ => ?_)) | (refine iBs ?_; refine qBs (fun _ => ?_)) | (refine i_gd ?_; first | refine qWant ?_ | refine qSkip ?_ | refine qSkip0 ?_ | refine qSkipU ?_)) | refine tl_nil ?_ | refine tc_seq ?_ | refine tc_region ?_ | refine te_seq ?_ | (refine i_cond ?_; first | refine qCt ?_ | refine qCf ?_) | refine tc_block ?_ | refine te_block_normal ?_ | refine te_block_ret ?_ | refine te_then_ret ?_ | refine te_block_hit ?_ | (refine i_miss ?_; refine qMiss ?_) | refine te_then_exit ?_ | refine tc_exit ?_ | refine tc_ret ?_ | refine tc_skip ?_)
    exact qE ⟨rfl, rfl, rfl⟩
end Go.Proofs.E

namespace Go.Proofs.E
open Go
set_option linter.unusedVariables false
set_option linter.unusedSimpArgs false
set_option maxRecDepth 4000
attribute [local irreducible] Yl TL TC TE Spec YSpec R1 Hp.le EnvLe TS TR YS Stays

def zblk : Blk := List.replicate 64 0
theorem zblk_cells : List.replicate 64 (Value.int .u8 0) = zblk.map u8c := by rfl
def DS.read (D : DS) (i : Int) : DS × Blk × Int :=
  if D.dead then (D, zblk, 9) else if i < 0 ∨ (D.secs.length : Int) ≤ i then (D, zblk, 2)
  else if D.failing = 0 then (D.tick, zblk, 8)
  else (D.tick, says1 (D.secs[i.toNat]?.getD (zblk, none)), 0)
theorem read_spec (ρ : Hp) (b : Nat) (hb : HB) (mb : Nat) (es : List MapEntry) (ck : Nat) (D : DS) (i : Int) (hD : D.Ok) (hm : MapOk D.secs es) :
    Spec Try.prog 13 [.pointer (some ⟨b, 0, none⟩), .int .i64 i] ρ (diskL b hb mb es ck D)
      (fun v ρ' L' => v = .tuple ⟨[bv (D.read i).2.1, .int .i64 (D.read i).2.2]⟩ ∧ ρ' = ρ ∧ L' = diskL b hb mb es ck (D.read i).1) := by
  obtain ⟨s, ops, armed, failing, dead⟩ := D
  obtain ⟨hs, a1, a2, f1, f2⟩ := hD
  dsimp only at hs a1 a2 f1 f2 hm
  have hz0 : (List.replicate 64 (Value.int .u8 0)).length = 64 := by rfl
  have hz64 : (List.replicate 64 (Value.int .u8 0)).all (·.oneCell') = true := by rfl
  cases dead with
  | true =>
    have he : DS.read ⟨s, ops, armed, failing, true⟩ i = (⟨s, ops, armed, failing, true⟩, zblk, 9) := by simp [DS.read]
    simp only [he]
    refine spec_enter Try.func13 rfl rfl rfl fun u R => ?_
    simp only [argsE, List.cons_append, List.nil_append, diskL, bv, ← zblk_cells]
    repeat' (first | (refine tl_is (.func 34) ?_; refine qC rfl rfl (does_dead _ _ _ _ _ _ _ _ _ _ _) ?_; rintro v ρ' L' hle ⟨rfl, rfl, rfl⟩ <;> (try simp only [List.cons_append, List.nil_append, List.append_eq])) | (refine i_op ?_; first | (refine iMv ?_; refine qMv ?_) | (refine iLd ?_; refine qLd ?_) | (refine iFa ?_; refine qFa ?_) | (refine iAd ?_; refine qAd ?_) | (refine iSb ?_; refine qSb ?_) | (refine iMl ?_; refine qMl ?_) | (refine iRm ?_; refine qRm ?_) | (refine iQu ?_; refine qQu ?_) | (refine iSr ?_; refine qSr ?_) | (refine iSh ?_; refine qSh ?_) | (refine iCm ?_; refine qCm ?_) | (refine iEx ?_; refine qEx ?_) | (refine iAs ?_; refine qAs ?_) | (refine iPk ?_; refine qPk ?_) | (refine iNc ?_; refine qNc ?_) | (refine iIa ?_; refine qIa ?_) | (refine iCv ?_; refine qCv ?_) | (refine iBi ?_; refine qBi ?_) | (refine iUn ?_; refine qUn ?_) | (refine iFl ?_; refine qFl ?_) | (refine iLu ?_; refine qLu ?_) | (refine iBu ?_; refine qBu ?_) | (refine iSl ?_; refine qSl ?_) | (refine iMf ?_; refine qMf ?_) | (refine iMi ?_; refine qMi ?_) | (refine iTa ?_; refine qTa ?_) | (refine iSt ?_; refine qSt ?_) | (refine iAl ?_; first | refine qAlA (fun _ => ?_) | refine qAlS (fun _ => ?_)) | (refine iBx ?_; first | refine qBxA (fun _ => ?_) | refine qBxS (fun _ => ?_)) | (refine iMm ?_; refine qMm (fun _ => ?_)) | (refine iBs ?_; refine qBs (fun _ => ?_)) | (refine i_gd ?_; first | refine qWant ?_ | refine qSkip ?_ | refine qSkip0 ?_ | refine qSkipU ?_)) | refine tl_nil ?_ | refine tc_seq ?_ | refine tc_region ?_ | refine te_seq ?_ | (refine i_cond ?_; first | refine qCt ?_ | refine qCf ?_) | refine tc_block ?_ | refine te_block_normal ?_ | refine te_block_ret ?_ | refine te_then_ret ?_ | refine te_block_hit ?_ | (refine i_miss ?_; refine qMiss ?_) | refine te_then_exit ?_ | refine tc_exit ?_ | refine tc_ret ?_ | refine tc_skip ?_)
    exact qE ⟨rfl, rfl, rfl⟩
  | false =>
    by_cases hi : i < 0 ∨ (s.length : Int) ≤ i
    · have he : DS.read ⟨s, ops, armed, failing, false⟩ i = (⟨s, ops, armed, failing, false⟩, zblk, 2) := by simp [DS.read, hi]
      simp only [he]
      refine spec_enter Try.func13 rfl rfl rfl fun u R => ?_
      simp only [argsE, List.cons_append, List.nil_append, diskL, bv, ← zblk_cells]
      repeat' (first | (refine tl_is (.func 34) ?_; refine qC rfl rfl (does_arg _ _ _ _ _ _ _ _ _ _ _ hi) ?_; rintro v ρ' L' hle ⟨rfl, rfl, rfl⟩ <;> (try simp only [List.cons_append, List.nil_append, List.append_eq])) | (refine i_op ?_; first | (refine iMv ?_; refine qMv ?_) | (refine iLd ?_; refine qLd ?_) | (refine iFa ?_; refine qFa ?_) | (refine iAd ?_; refine qAd ?_) | (refine iSb ?_; refine qSb ?_) | (refine iMl ?_; refine qMl ?_) | (refine iRm ?_; refine qRm ?_) | (refine iQu ?_; refine qQu ?_) | (refine iSr ?_; refine qSr ?_) | (refine iSh ?_; refine qSh ?_) | (refine iCm ?_; refine qCm ?_) | (refine iEx ?_; refine qEx ?_) | (refine iAs ?_; refine qAs ?_) | (refine iPk ?_; refine qPk ?_) | (refine iNc ?_; refine qNc ?_) | (refine iIa ?_; refine qIa ?_) | (refine iCv ?_; refine qCv ?_) | (refine iBi ?_; refine qBi ?_) | (refine iUn ?_; refine qUn ?_) | (refine iFl ?_; refine qFl ?_) | (refine iLu ?_; refine qLu ?_) | (refine iBu ?_; refine qBu ?_) | (refine iSl ?_; refine qSl ?_) | (refine iMf ?_; refine qMf ?_) | (refine iMi ?_; refine qMi ?_) | (refine iTa ?_; refine qTa ?_) | (refine iSt ?_; refine qSt ?_) | (refine iAl ?_; first | refine qAlA (fun _ => ?_) | refine qAlS (fun _ => ?_)) | (refine iBx ?_; first | refine qBxA (fun _ => ?_) | refine qBxS (fun _ => ?_)) | (refine iMm ?_; refine qMm (fun _ => ?_)) | (refine iBs ?_; refine qBs (fun _ => ?_)) | (refine i_gd ?_; first | refine qWant ?_ | refine qSkip ?_ | refine qSkip0 ?_ | refine qSkipU ?_)) | refine tl_nil ?_ | refine tc_seq ?_ | refine tc_region ?_ | refine te_seq ?_ | (refine i_cond ?_; first | refine qCt ?_ | refine qCf ?_) | refine tc_block ?_ | refine te_block_normal ?_ | refine te_block_ret ?_ | refine te_then_ret ?_ | refine te_block_hit ?_ | (refine i_miss ?_; refine qMiss ?_) | refine te_then_exit ?_ | refine tc_exit ?_ | refine tc_ret ?_ | refine tc_skip ?_)
      exact qE ⟨rfl, rfl, rfl⟩
    · have hi0 : 0 ≤ i := by omega
      have hi1 : i < s.length := by omega
      by_cases hf : failing = 0
      · subst hf
        have he : DS.read ⟨s, ops, armed, 0, false⟩ i = (⟨s, IntKind.i64.wrap (ops + 1), armed, -1, false⟩, zblk, 8) := by simp [DS.read, hi, DS.tick, cnt]
        simp only [he]
        refine spec_enter Try.func13 rfl rfl rfl fun u R => ?_
        simp only [argsE, List.cons_append, List.nil_append, diskL, bv, ← zblk_cells]
        repeat' (first | (refine tl_is (.func 34) ?_; refine qC rfl rfl (does_fail_r _ _ _ _ _ _ _ _ _ hi0 hi1) ?_; rintro v ρ' L' hle ⟨rfl, rfl, rfl⟩ <;> (try simp only [List.cons_append, List.nil_append, List.append_eq])) | (refine i_op ?_; first | (refine iMv ?_; refine qMv ?_) | (refine iLd ?_; refine qLd ?_) | (refine iFa ?_; refine qFa ?_) | (refine iAd ?_; refine qAd ?_) | (refine iSb ?_; refine qSb ?_) | (refine iMl ?_; refine qMl ?_) | (refine iRm ?_; refine qRm ?_) | (refine iQu ?_; refine qQu ?_) | (refine iSr ?_; refine qSr ?_) | (refine iSh ?_; refine qSh ?_) | (refine iCm ?_; refine qCm ?_) | (refine iEx ?_; refine qEx ?_) | (refine iAs ?_; refine qAs ?_) | (refine iPk ?_; refine qPk ?_) | (refine iNc ?_; refine qNc ?_) | (refine iIa ?_; refine qIa ?_) | (refine iCv ?_; refine qCv ?_) | (refine iBi ?_; refine qBi ?_) | (refine iUn ?_; refine qUn ?_) | (refine iFl ?_; refine qFl ?_) | (refine iLu ?_; refine qLu ?_) | (refine iBu ?_; refine qBu ?_) | (refine iSl ?_; refine qSl ?_) | (refine iMf ?_; refine qMf ?_) | (refine iMi ?_; refine qMi ?_) | (refine iTa ?_; refine qTa ?_) | (refine iSt ?_; refine qSt ?_) | (refine iAl ?_; first | refine qAlA (fun _ => ?_) | refine qAlS (fun _ => ?_)) | (refine iBx ?_; first | refine qBxA (fun _ => ?_) | refine qBxS (fun _ => ?_)) | (refine iMm ?_; refine qMm (fun _ => ?_)) | (refine iBs ?_; refine qBs (fun _ => ?_)) | (refine i_gd ?_; first | refine qWant ?_ | refine qSkip ?_ | refine qSkip0 ?_ | refine qSkipU ?_)) | refine tl_nil ?_ | refine tc_seq ?_ | refine tc_region ?_ | refine te_seq ?_ | (refine i_cond ?_; first | refine qCt ?_ | refine qCf ?_) | refine tc_block ?_ | refine te_block_normal ?_ | refine te_block_ret ?_ | refine te_then_ret ?_ | refine te_block_hit ?_ | (refine i_miss ?_; refine qMiss ?_) | refine te_then_exit ?_ | refine tc_exit ?_ | refine tc_ret ?_ | refine tc_skip ?_)
        exact qE ⟨rfl, rfl, rfl⟩
      · obtain ⟨k, rfl⟩ : ∃ k : Nat, i = k := ⟨i.toNat, by omega⟩
        have hk : k < s.length := by omega
        have hsay : (says1 s[k]).length = 64 := by
          unfold says1
          cases hc : s[k].2 with
          | none => exact hs.held s[k] (List.getElem_mem hk)
          | some c => exact hs.cached s[k] (List.getElem_mem hk) c hc
        have hsl : ((says1 s[k]).map u8c).length = 64 := by simpa using hsay
        have hone := u8c_one (says1 s[k])
        have he : DS.read ⟨s, ops, armed, failing, false⟩ (k : Int) = (⟨s, IntKind.i64.wrap (ops + 1), armed, cnt failing, false⟩, says1 s[k], 0) := by simp [DS.read, hi, DS.tick, hf, hk]
        simp only [he]
        refine spec_enter Try.func13 rfl rfl rfl fun u R => ?_
        simp only [argsE, List.cons_append, List.nil_append, diskL, bv]
        repeat' (first | (refine tl_is (.func 34) ?_; refine qC rfl rfl (does_ok_r _ _ _ _ _ _ _ _ _ _ _ _ _ hi0 hi1 hf f1 f2 (read1 _ _ _ _ _ _ _ _ _ _ _ _ _ _ _ _ hz0 hs hm hk)) ?_; rintro v ρ' L' hle ⟨rfl, v0, h0, rfl, rfl⟩ <;> (try simp only [List.cons_append, List.nil_append, List.append_eq])) | (refine i_op ?_; first | (refine iMv ?_; refine qMv ?_) | (refine iLd ?_; refine qLd ?_) | (refine iFa ?_; refine qFa ?_) | (refine iAd ?_; refine qAd ?_) | (refine iSb ?_; refine qSb ?_) | (refine iMl ?_; refine qMl ?_) | (refine iRm ?_; refine qRm ?_) | (refine iQu ?_; refine qQu ?_) | (refine iSr ?_; refine qSr ?_) | (refine iSh ?_; refine qSh ?_) | (refine iCm ?_; refine qCm ?_) | (refine iEx ?_; refine qEx ?_) | (refine iAs ?_; refine qAs ?_) | (refine iPk ?_; refine qPk ?_) | (refine iNc ?_; refine qNc ?_) | (refine iIa ?_; refine qIa ?_) | (refine iCv ?_; refine qCv ?_) | (refine iBi ?_; refine qBi ?_) | (refine iUn ?_; refine qUn ?_) | (refine iFl ?_; refine qFl ?_) | (refine iLu ?_; refine qLu ?_) | (refine iBu ?_; refine qBu ?_) | (refine iSl ?_; refine qSl ?_) | (refine iMf ?_; refine qMf ?_) | (refine iMi ?_; refine qMi ?_) | (refine iTa ?_; refine qTa ?_) | (refine iSt ?_; refine qSt ?_) | (refine iAl ?_; first | refine qAlA (fun _ => ?_) | refine qAlS (fun _ => ?_)) | (refine iBx ?_; first | refine qBxA (fun _ => ?_) | refine qBxS (fun _ => ?_)) | (refine iMm ?_; refine qMm (fun _ => ?_)) | (refine iBs ?_; refine qBs (fun _ => ?_)) | (refine i_gd ?_; first | refine qWant ?_ | refine qSkip ?_ | refine qSkip0 ?_ | refine qSkipU ?_)) | refine tl_nil ?_ | refine tc_seq ?_ | refine tc_region ?_ | refine te_seq ?_ | (refine i_cond ?_; first | refine qCt ?_ | refine qCf ?_) | refine tc_block ?_ | refine te_block_normal ?_ | refine te_block_ret ?_ | refine te_then_ret ?_ | refine te_block_hit ?_ | (refine i_miss ?_; refine qMiss ?_) | refine te_then_exit ?_ | refine tc_exit ?_ | refine tc_ret ?_ | refine tc_skip ?_)
        exact qE ⟨rfl, rfl, rfl⟩
end Go.Proofs.E

