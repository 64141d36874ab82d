/- Laws of analysis. Part 3 of 41. -/
import Derived.Test.YtkbiahafeoillaaGreatA2
import Derived.ProofKit
import Derived.OpenShut
import Derived.ChangeOld
import Derived.Below
import Derived.Carry
import Derived.SizedLaws
import Derived.Laws.Slices
import Derived.ChangeKeysEq
import Derived.Lib.Overlaps
import Derived.Laws.Externs
namespace Go.Proofs.E
open Go
set_option linter.unusedVariables false
set_option linter.unusedSimpArgs false
section
variable {x : Cx} {Q : Exit → Act → World → Prop} {E : Env} {ρ : Hp} {L : SH} {ops : Array Oper} {rest tail : List Oper} {ty : TypeId} {pos : String} {af : Array Edge} {S : World → Prop} {l : List Oper} {listed : List Bool} {fuel : Nat}
theorem tl_undef {d : Nat} {op : Op} {j : Nat} {c : Bool} (hy : ∀ a, Ok x.D x.N E a → yielded ops a.tmps j = none) (hd : Nat.blt d x.N = true)
  (k : TL x ops rest Q ((d, undef) :: E) ρ L) : TL x ops (⟨some d, op, ty, pos, af, some (j, c)⟩ :: rest) Q E ρ L := fun a w ha hw => by
 simp only [wpListIn, Region.wanted, hy a ha]
 exact ⟨fun _ _ => trivial, k _ _ (ha.put (Nat.le_of_ble_eq_true hd) undef) hw⟩
theorem tr_undef (i : Nat) {d : Nat} {op : Op} {j : Nat} {c : Bool} (hb : YX l listed i = true) (hi : l[i]? = some ⟨some d, op, ty, pos, af, some (j, c)⟩) (hy : ∀ a, Ok x.D x.N E a → yielded l.toArray a.tmps j = none)
  (hd : Nat.blt d x.N = true)
  (k : TR x l S fuel (Xu listed i) Q ((d, undef) :: E) ρ L) : TR x l S (fuel + 1) listed Q E ρ L := fun a w ha hw hS => by
 simp only [YX, Bool.and_eq_true] at hb
 obtain ⟨⟨⟨h1, h2⟩, h3⟩, h4⟩ := hb
 have hi' : l.toArray[i]? = some ⟨some d, op, ty, pos, af, some (j, c)⟩ := by simpa using hi
 have hne : ((none : Option Bool) == some c) = false := by cases c <;> rfl
 refine wpAnyG_first (v := undef) h2 hi' (Region.noSelect_spec h1) (fun _ _ _ h => h) fuel _ a w (Region.free_spec hi' h3) (by simpa using h4) (.inr ⟨by simp only [Region.wanted, hy a ha, hne], rfl⟩) hS ?_
 have := k _ w (ha.put (Nat.le_of_ble_eq_true hd) undef) hw hS
 rw [lset_eq] at this
 simpa using this
end
attribute [local irreducible] Yl TL TC TE Spec Xb R1 Hp.le EnvLe TS TR YS Zk
theorem We {m : Int} : cmpB .neq m m = some false := by simp [cmpB]
theorem Wd {m : Int} : cmpB .eql m m = some true := by simp [cmpB]
theorem eqB_self_eql (l : List UInt8) : eqB .eql (l == l) = some true := by simp [eqB]
theorem eqB_self_neq (l : List UInt8) : eqB .neq (l == l) = some false := by simp [eqB]
theorem eqB_ne_eql {l m : List UInt8} (h : l ≠ m) : eqB .eql (l == m) = some false := by simp [eqB, h]
theorem eqB_ne_neq {l m : List UInt8} (h : l ≠ m) : eqB .neq (l == m) = some true := by simp [eqB, h]
section
variable {x : Cx} {E : Env} {ρ : Hp} {L : SH} {ty : TypeId}
theorem y_eqs {p q : Operand} {t t' n e : Nat} {l : List UInt8} [hA : TyArr x.P t n e] [hE : Xa x.P e .u8] [hz : ZJ x.P e 1] [hG : ZT x.P t] (h1 : ev E p = some (.agg ⟨l.map ZR⟩)) (h2 : ev E q = some (.agg ⟨l.map ZR⟩)) (hl : l.length = n) : Yl x (.binOp .eql t p q t') ty E ρ L (.bool true) := Wy h1 h2 hl hl (eqB_self_eql l)
theorem y_nes {p q : Operand} {t t' n e : Nat} {l : List UInt8} [hA : TyArr x.P t n e] [hE : Xa x.P e .u8] [hz : ZJ x.P e 1] [hG : ZT x.P t] (h1 : ev E p = some (.agg ⟨l.map ZR⟩)) (h2 : ev E q = some (.agg ⟨l.map ZR⟩)) (hl : l.length = n) : Yl x (.binOp .neq t p q t') ty E ρ L (.bool false) := Wy h1 h2 hl hl (eqB_self_neq l)
theorem y_eqd {p q : Operand} {t t' n e : Nat} {l m : List UInt8} [hA : TyArr x.P t n e] [hE : Xa x.P e .u8] [hz : ZJ x.P e 1] [hG : ZT x.P t] (h1 : ev E p = some (.agg ⟨l.map ZR⟩)) (h2 : ev E q = some (.agg ⟨m.map ZR⟩)) (hl : l.length = n) (hm : m.length = n) (h : l ≠ m) : Yl x (.binOp .eql t p q t') ty E ρ L (.bool false) := Wy h1 h2 hl hm (eqB_ne_eql h)
theorem y_ned {p q : Operand} {t t' n e : Nat} {l m : List UInt8} [hA : TyArr x.P t n e] [hE : Xa x.P e .u8] [hz : ZJ x.P e 1] [hG : ZT x.P t] (h1 : ev E p = some (.agg ⟨l.map ZR⟩)) (h2 : ev E q = some (.agg ⟨m.map ZR⟩)) (hl : l.length = n) (hm : m.length = n) (h : l ≠ m) : Yl x (.binOp .neq t p q t') ty E ρ L (.bool true) := Wy h1 h2 hl hm (eqB_ne_neq h)
end
theorem take_skipA' {A L R G : SH} (h : XS L R G) : XS (A ++ L) R (A ++ G) := ⟨by
 simp only [List.flatten_append]
 refine (List.Perm.append_left _ (by simpa using h.out)).trans ?_
 rw [← List.append_assoc, ← List.append_assoc]
 exact List.Perm.append_right _ List.perm_append_comm⟩
theorem tk {L Lf R : SH} (h : XS L Lf R := by repeat (first | exact take_nil' | exact take_app' | exact ZD | exact rem_nil' | apply take_cons' | apply ZA | apply rem_app' | exact take_all' | apply take_append' | apply take_skip' | (refine take_skip' (G := ?_) ?_; rotate_left) | (refine take_skipA' (G := ?_) ?_; rotate_left))) : XS L Lf R := h
theorem Ze {E' E : Env} (h : EnvLe E' E := by repeat (first | exact EnvLe.nil _ | refine EnvLe.cons rfl ?_)) : EnvLe E' E := h
section
variable {x : Cx} {Q : Exit → Act → World → Prop} {E : Env} {ρ ρ0 : Hp} {L Ls : SH} {ops : Array Oper} {rest : List Oper} {ty : TypeId} {pos : String} {af : Array Edge} {d : Nat} {v : Value} {dd : Option Nat} {gd : Nat × Bool} {op : Op} {l : List Oper} {listed : List Bool} {fuel : Nat} {tail : List Oper}
theorem YL (h : TL x ops (⟨dd, op, ty, pos, af, some gd⟩ :: rest) Q E ρ L) : TL x ops (⟨dd, op, ty, pos, af, some gd⟩ :: rest) Q E ρ L := h
theorem i_op {o : Oper} (h : TL x ops (o :: rest) Q E ρ L) : TL x ops (o :: rest) Q E ρ L := h
theorem ZS {c : Operand} {y z : Code} (h : TC x (.cond c y z) Q E ρ L) : TC x (.cond c y z) Q E ρ L := h
theorem i_miss {id id' : Nat} (h : TE x (.exit id') (Exit.inBlock id Q) E ρ L) : TE x (.exit id') (Exit.inBlock id Q) E ρ L := h
theorem Zx (n0 : Nat) {o : Operand} (k : TR x l (Zk x ρ0 Ls) fuel (Xu listed n0) Q ((d, v) :: E) ρ L) (hb : YX l listed n0 = true := by decide +kernel) (hi : l[n0]? = some ⟨some d, .move o, ty, pos, af, none⟩ := by rfl) (y : ∀ ρ', ρ0.le ρ' → Yl x (.move o) ty E ρ' Ls v := by intro _ _; first | exact y_move rfl) (hd : Nat.blt d x.N = true := by rfl) : TR x l (Zk x ρ0 Ls) (fuel + 1) listed Q E ρ L := XG n0 hb hi (YZ (fun _ h => h) y) hd k
theorem ZI (n0 : Nat) {o : Operand} {j t0 : Nat} {b0 : Bool} (k : TR x l (Zk x ρ0 Ls) fuel (Xu listed n0) Q ((d, v) :: E) ρ L) (hb : YX l listed n0 = true := by decide +kernel) (hi : l[n0]? = some ⟨some d, .move o, ty, pos, af, some (j, b0)⟩ := by rfl) (hj : (l[j]?).bind (·.dst) = some t0 := by rfl) (he : lk E t0 = some (.bool b0) := by rfl) (y : ∀ ρ', ρ0.le ρ' → Yl x (.move o) ty E ρ' Ls v := by intro _ _; first | exact y_move rfl) (hd : Nat.blt d x.N = true := by rfl) : TR x l (Zk x ρ0 Ls) (fuel + 1) listed Q E ρ L := WN n0 hb hi hj he (YZ (fun _ h => h) y) hd k
theorem ZQ (n0 : Nat) {o : Operand} {t : Nat} (k : TR x l (Zk x ρ0 Ls) fuel (Xu listed n0) Q ((d, v) :: E) ρ L) (hb : YX l listed n0 = true := by decide +kernel) (hi : l[n0]? = some ⟨some d, .load t o, ty, pos, af, none⟩ := by rfl) (y : ∀ ρ', ρ0.le ρ' → Yl x (.load t o) ty E ρ' Ls v := by intro _ _; first | exact y_load_s rfl (by first | assumption | rfl) | exact y_load_a rfl (by first | assumption | rfl) | exact y_load_sub rfl | exact y_load_part rfl (by first | assumption | omega) (by assumption) | exact y_load_is rfl (by assumption) (by first | assumption | rfl) | exact Wm rfl (by assumption) (by first | assumption | omega) (by assumption) | exact y_load_is rfl (hp_get (by assumption) (by assumption)) (by first | assumption | rfl) | exact Wm rfl (hp_get (by assumption) (by assumption)) (by first | assumption | omega) (by assumption)) (hd : Nat.blt d x.N = true := by rfl) : TR x l (Zk x ρ0 Ls) (fuel + 1) listed Q E ρ L := XG n0 hb hi (YZ (fun _ h => h) y) hd k
theorem ZL (n0 : Nat) {o : Operand} {t : Nat} {j t0 : Nat} {b0 : Bool} (k : TR x l (Zk x ρ0 Ls) fuel (Xu listed n0) Q ((d, v) :: E) ρ L) (hb : YX l listed n0 = true := by decide +kernel) (hi : l[n0]? = some ⟨some d, .load t o, ty, pos, af, some (j, b0)⟩ := by rfl) (hj : (l[j]?).bind (·.dst) = some t0 := by rfl) (he : lk E t0 = some (.bool b0) := by rfl) (y : ∀ ρ', ρ0.le ρ' → Yl x (.load t o) ty E ρ' Ls v := by intro _ _; first | exact y_load_s rfl (by first | assumption | rfl) | exact y_load_a rfl (by first | assumption | rfl) | exact y_load_sub rfl | exact y_load_part rfl (by first | assumption | omega) (by assumption) | exact y_load_is rfl (by assumption) (by first | assumption | rfl) | exact Wm rfl (by assumption) (by first | assumption | omega) (by assumption) | exact y_load_is rfl (hp_get (by assumption) (by assumption)) (by first | assumption | rfl) | exact Wm rfl (hp_get (by assumption) (by assumption)) (by first | assumption | omega) (by assumption)) (hd : Nat.blt d x.N = true := by rfl) : TR x l (Zk x ρ0 Ls) (fuel + 1) listed Q E ρ L := WN n0 hb hi hj he (YZ (fun _ h => h) y) hd k
theorem ZN (n0 : Nat) {o : Operand} {s f : Nat} (k : TR x l (Zk x ρ0 Ls) fuel (Xu listed n0) Q ((d, v) :: E) ρ L) (hb : YX l listed n0 = true := by decide +kernel) (hi : l[n0]? = some ⟨some d, .fieldAddr s o f, ty, pos, af, none⟩ := by rfl) (y : ∀ ρ', ρ0.le ρ' → Yl x (.fieldAddr s o f) ty E ρ' Ls v := by intro _ _; first | exact y_fieldAddr0 rfl | exact y_fieldAddr rfl) (hd : Nat.blt d x.N = true := by rfl) : TR x l (Zk x ρ0 Ls) (fuel + 1) listed Q E ρ L := XG n0 hb hi (YZ (fun _ h => h) y) hd k
theorem ZE (n0 : Nat) {o : Operand} {s f : Nat} {j t0 : Nat} {b0 : Bool} (k : TR x l (Zk x ρ0 Ls) fuel (Xu listed n0) Q ((d, v) :: E) ρ L) (hb : YX l listed n0 = true := by decide +kernel) (hi : l[n0]? = some ⟨some d, .fieldAddr s o f, ty, pos, af, some (j, b0)⟩ := by rfl) (hj : (l[j]?).bind (·.dst) = some t0 := by rfl) (he : lk E t0 = some (.bool b0) := by rfl) (y : ∀ ρ', ρ0.le ρ' → Yl x (.fieldAddr s o f) ty E ρ' Ls v := by intro _ _; first | exact y_fieldAddr0 rfl | exact y_fieldAddr rfl) (hd : Nat.blt d x.N = true := by rfl) : TR x l (Zk x ρ0 Ls) (fuel + 1) listed Q E ρ L := WN n0 hb hi hj he (YZ (fun _ h => h) y) hd k
theorem rEx (n0 : Nat) {o : Operand} {i : Nat} (k : TR x l (Zk x ρ0 Ls) fuel (Xu listed n0) Q ((d, v) :: E) ρ L) (hb : YX l listed n0 = true := by decide +kernel) (hi : l[n0]? = some ⟨some d, .extract o i, ty, pos, af, none⟩ := by rfl) (y : ∀ ρ', ρ0.le ρ' → Yl x (.extract o i) ty E ρ' Ls v := by intro _ _; first | exact y_extract rfl rfl) (hd : Nat.blt d x.N = true := by rfl) : TR x l (Zk x ρ0 Ls) (fuel + 1) listed Q E ρ L := XG n0 hb hi (YZ (fun _ h => h) y) hd k
theorem rAs (n0 : Nat) {o : Operand} (k : TR x l (Zk x ρ0 Ls) fuel (Xu listed n0) Q ((d, v) :: E) ρ L) (hb : YX l listed n0 = true := by decide +kernel) (hi : l[n0]? = some ⟨some d, .assign o, ty, pos, af, none⟩ := by rfl) (y : ∀ ρ', ρ0.le ρ' → Yl x (.assign o) ty E ρ' Ls v := by intro _ _; first | exact y_assign rfl) (hd : Nat.blt d x.N = true := by rfl) : TR x l (Zk x ρ0 Ls) (fuel + 1) listed Q E ρ L := XG n0 hb hi (YZ (fun _ h => h) y) hd k
theorem Yj (n0 : Nat) {c p q : Operand} (k : TR x l (Zk x ρ0 Ls) fuel (Xu listed n0) Q ((d, v) :: E) ρ L) (hb : YX l listed n0 = true := by decide +kernel) (hi : l[n0]? = some ⟨some d, .pick c p q, ty, pos, af, none⟩ := by rfl) (y : ∀ ρ', ρ0.le ρ' → Yl x (.pick c p q) ty E ρ' Ls v := by intro _ _; first | exact y_pick_t rfl rfl | exact y_pick_f rfl rfl) (hd : Nat.blt d x.N = true := by rfl) : TR x l (Zk x ρ0 Ls) (fuel + 1) listed Q E ρ L := XG n0 hb hi (YZ (fun _ h => h) y) hd k
theorem wPk (n0 : Nat) {c p q : Operand} {j t0 : Nat} {b0 : Bool} (k : TR x l (Zk x ρ0 Ls) fuel (Xu listed n0) Q ((d, v) :: E) ρ L) (hb : YX l listed n0 = true := by decide +kernel) (hi : l[n0]? = some ⟨some d, .pick c p q, ty, pos, af, some (j, b0)⟩ := by rfl) (hj : (l[j]?).bind (·.dst) = some t0 := by rfl) (he : lk E t0 = some (.bool b0) := by rfl) (y : ∀ ρ', ρ0.le ρ' → Yl x (.pick c p q) ty E ρ' Ls v := by intro _ _; first | exact y_pick_t rfl rfl | exact y_pick_f rfl rfl) (hd : Nat.blt d x.N = true := by rfl) : TR x l (Zk x ρ0 Ls) (fuel + 1) listed Q E ρ L := WN n0 hb hi hj he (YZ (fun _ h => h) y) hd k
theorem rAd (n0 : Nat) {p q : Operand} {t t' : Nat} (k : TR x l (Zk x ρ0 Ls) fuel (Xu listed n0) Q ((d, v) :: E) ρ L) (hb : YX l listed n0 = true := by decide +kernel) (hi : l[n0]? = some ⟨some d, (.binOp .add t p q t'), ty, pos, af, none⟩ := by rfl) (y : ∀ ρ', ρ0.le ρ' → Yl x ((.binOp .add t p q t')) ty E ρ' Ls v := by intro _ _; first | exact y_add rfl rfl (by simp only [Go.Proofs.E.lo, Go.Proofs.E.hi]; omega) | exact y_add_w rfl rfl) (hd : Nat.blt d x.N = true := by rfl) : TR x l (Zk x ρ0 Ls) (fuel + 1) listed Q E ρ L := XG n0 hb hi (YZ (fun _ h => h) y) hd k
theorem rSb (n0 : Nat) {p q : Operand} {t t' : Nat} (k : TR x l (Zk x ρ0 Ls) fuel (Xu listed n0) Q ((d, v) :: E) ρ L) (hb : YX l listed n0 = true := by decide +kernel) (hi : l[n0]? = some ⟨some d, (.binOp .sub t p q t'), ty, pos, af, none⟩ := by rfl) (y : ∀ ρ', ρ0.le ρ' → Yl x ((.binOp .sub t p q t')) ty E ρ' Ls v := by intro _ _; first | exact y_sub rfl rfl (by simp only [Go.Proofs.E.lo, Go.Proofs.E.hi]; omega) | exact y_sub_w rfl rfl) (hd : Nat.blt d x.N = true := by rfl) : TR x l (Zk x ρ0 Ls) (fuel + 1) listed Q E ρ L := XG n0 hb hi (YZ (fun _ h => h) y) hd k
theorem wSb (n0 : Nat) {p q : Operand} {t t' : Nat} {j t0 : Nat} {b0 : Bool} (k : TR x l (Zk x ρ0 Ls) fuel (Xu listed n0) Q ((d, v) :: E) ρ L) (hb : YX l listed n0 = true := by decide +kernel) (hi : l[n0]? = some ⟨some d, (.binOp .sub t p q t'), ty, pos, af, some (j, b0)⟩ := by rfl) (hj : (l[j]?).bind (·.dst) = some t0 := by rfl) (he : lk E t0 = some (.bool b0) := by rfl) (y : ∀ ρ', ρ0.le ρ' → Yl x ((.binOp .sub t p q t')) ty E ρ' Ls v := by intro _ _; first | exact y_sub rfl rfl (by simp only [Go.Proofs.E.lo, Go.Proofs.E.hi]; omega) | exact y_sub_w rfl rfl) (hd : Nat.blt d x.N = true := by rfl) : TR x l (Zk x ρ0 Ls) (fuel + 1) listed Q E ρ L := WN n0 hb hi hj he (YZ (fun _ h => h) y) hd k
theorem iSr {p q : Operand} {t t' : Nat} (h : TL x ops (⟨dd, (.binOp .shr t p q t'), ty, pos, af, none⟩ :: rest) Q E ρ L) : TL x ops (⟨dd, (.binOp .shr t p q t'), ty, pos, af, none⟩ :: rest) Q E ρ L := h
theorem iCm {o : BinOp} {p q : Operand} {t t' : Nat} (h : TL x ops (⟨dd, (.binOp o t p q t'), ty, pos, af, none⟩ :: rest) Q E ρ L) : TL x ops (⟨dd, (.binOp o t p q t'), ty, pos, af, none⟩ :: rest) Q E ρ L := h
theorem rCm (n0 : Nat) {o : BinOp} {p q : Operand} {t t' : Nat} (k : TR x l (Zk x ρ0 Ls) fuel (Xu listed n0) Q ((d, v) :: E) ρ L) (hb : YX l listed n0 = true := by decide +kernel) (hi : l[n0]? = some ⟨some d, (.binOp o t p q t'), ty, pos, af, none⟩ := by rfl) (y : ∀ ρ', ρ0.le ρ' → Yl x ((.binOp o t p q t')) ty E ρ' Ls v := by intro _ _; first | exact y_cmp (b := true) (by rfl) (by rfl) (by first | rfl | exact We | exact Wd | (simp only [cmpB, Option.some.injEq, decide_eq_true_eq, decide_eq_false_iff_not, beq_iff_eq, bne_iff_ne, beq_eq_false_iff_ne, bne_eq_false_iff_eq, ne_eq]; omega)) | exact y_cmp (b := false) (by rfl) (by rfl) (by first | rfl | exact We | exact Wd | (simp only [cmpB, Option.some.injEq, decide_eq_true_eq, decide_eq_false_iff_not, beq_iff_eq, bne_iff_ne, beq_eq_false_iff_ne, bne_eq_false_iff_eq, ne_eq]; omega)) | exact y_cmp rfl rfl rfl | exact y_ptr_nil rfl rfl rfl | exact y_func_nil rfl rfl rfl rfl | exact y_slice_nil rfl rfl rfl | exact y_map_nil rfl rfl rfl | exact y_eqs rfl rfl (by first | assumption | rfl) | exact y_nes rfl rfl (by first | assumption | rfl) | exact y_eqd rfl rfl (by first | assumption | rfl) (by first | assumption | rfl) (by assumption) | exact y_ned rfl rfl (by first | assumption | rfl) (by first | assumption | rfl) (by assumption) | exact Wy rfl rfl (by first | assumption | rfl) (by first | assumption | rfl) rfl | exact Wk rfl rfl eqB_bool_self | exact Wk rfl rfl eqB_bool_nself | exact Wk rfl rfl rfl | exact y_str_eq rfl rfl rfl | exact y_eqc_l (c := _) rfl rfl (by assumption) rfl | exact y_eqc rfl rfl rfl) (hd : Nat.blt d x.N = true := by rfl) : TR x l (Zk x ρ0 Ls) (fuel + 1) listed Q E ρ L := XG n0 hb hi (YZ (fun _ h => h) y) hd k
theorem Yg (n0 : Nat) {o : BinOp} {p q : Operand} {t t' : Nat} {j t0 : Nat} {b0 : Bool} (k : TR x l (Zk x ρ0 Ls) fuel (Xu listed n0) Q ((d, v) :: E) ρ L) (hb : YX l listed n0 = true := by decide +kernel) (hi : l[n0]? = some ⟨some d, (.binOp o t p q t'), ty, pos, af, some (j, b0)⟩ := by rfl) (hj : (l[j]?).bind (·.dst) = some t0 := by rfl) (he : lk E t0 = some (.bool b0) := by rfl) (y : ∀ ρ', ρ0.le ρ' → Yl x ((.binOp o t p q t')) ty E ρ' Ls v := by intro _ _; first | exact y_cmp (b := true) (by rfl) (by rfl) (by first | rfl | exact We | exact Wd | (simp only [cmpB, Option.some.injEq, decide_eq_true_eq, decide_eq_false_iff_not, beq_iff_eq, bne_iff_ne, beq_eq_false_iff_ne, bne_eq_false_iff_eq, ne_eq]; omega)) | exact y_cmp (b := false) (by rfl) (by rfl) (by first | rfl | exact We | exact Wd | (simp only [cmpB, Option.some.injEq, decide_eq_true_eq, decide_eq_false_iff_not, beq_iff_eq, bne_iff_ne, beq_eq_false_iff_ne, bne_eq_false_iff_eq, ne_eq]; omega)) | exact y_cmp rfl rfl rfl | exact y_ptr_nil rfl rfl rfl | exact y_func_nil rfl rfl rfl rfl | exact y_slice_nil rfl rfl rfl | exact y_map_nil rfl rfl rfl | exact y_eqs rfl rfl (by first | assumption | rfl) | exact y_nes rfl rfl (by first | assumption | rfl) | exact y_eqd rfl rfl (by first | assumption | rfl) (by first | assumption | rfl) (by assumption) | exact y_ned rfl rfl (by first | assumption | rfl) (by first | assumption | rfl) (by assumption) | exact Wy rfl rfl (by first | assumption | rfl) (by first | assumption | rfl) rfl | exact Wk rfl rfl eqB_bool_self | exact Wk rfl rfl eqB_bool_nself | exact Wk rfl rfl rfl | exact y_str_eq rfl rfl rfl | exact y_eqc_l (c := _) rfl rfl (by assumption) rfl | exact y_eqc rfl rfl rfl) (hd : Nat.blt d x.N = true := by rfl) : TR x l (Zk x ρ0 Ls) (fuel + 1) listed Q E ρ L := WN n0 hb hi hj he (YZ (fun _ h => h) y) hd k
theorem rNc (n0 : Nat) {o : Operand} (k : TR x l (Zk x ρ0 Ls) fuel (Xu listed n0) Q ((d, v) :: E) ρ L) (hb : YX l listed n0 = true := by decide +kernel) (hi : l[n0]? = some ⟨some d, .nilCheck o, ty, pos, af, none⟩ := by rfl) (y : ∀ ρ', ρ0.le ρ' → Yl x (.nilCheck o) ty E ρ' Ls v := by intro _ _; first | exact y_nilCheck rfl | exact y_nilCheck_f rfl | exact y_nilCheck_y rfl) (hd : Nat.blt d x.N = true := by rfl) : TR x l (Zk x ρ0 Ls) (fuel + 1) listed Q E ρ L := XG n0 hb hi (YZ (fun _ h => h) y) hd k
theorem wNc (n0 : Nat) {o : Operand} {j t0 : Nat} {b0 : Bool} (k : TR x l (Zk x ρ0 Ls) fuel (Xu listed n0) Q ((d, v) :: E) ρ L) (hb : YX l listed n0 = true := by decide +kernel) (hi : l[n0]? = some ⟨some d, .nilCheck o, ty, pos, af, some (j, b0)⟩ := by rfl) (hj : (l[j]?).bind (·.dst) = some t0 := by rfl) (he : lk E t0 = some (.bool b0) := by rfl) (y : ∀ ρ', ρ0.le ρ' → Yl x (.nilCheck o) ty E ρ' Ls v := by intro _ _; first | exact y_nilCheck rfl | exact y_nilCheck_f rfl | exact y_nilCheck_y rfl) (hd : Nat.blt d x.N = true := by rfl) : TR x l (Zk x ρ0 Ls) (fuel + 1) listed Q E ρ L := WN n0 hb hi hj he (YZ (fun _ h => h) y) hd k
theorem rIa (n0 : Nat) {o i : Operand} {t : Nat} (k : TR x l (Zk x ρ0 Ls) fuel (Xu listed n0) Q ((d, v) :: E) ρ L) (hb : YX l listed n0 = true := by decide +kernel) (hi : l[n0]? = some ⟨some d, .indexAddr t o i, ty, pos, af, none⟩ := by rfl) (y : ∀ ρ', ρ0.le ρ' → Yl x (.indexAddr t o i) ty E ρ' Ls v := by intro _ _; first | exact y_indexAddr_nat rfl rfl (by omega) | exact y_indexAddr rfl rfl (by omega) (by omega) | exact y_indexAddr_arrN rfl rfl (by omega) | exact Wu rfl rfl (by omega) (by omega)) (hd : Nat.blt d x.N = true := by rfl) : TR x l (Zk x ρ0 Ls) (fuel + 1) listed Q E ρ L := XG n0 hb hi (YZ (fun _ h => h) y) hd k
theorem wIa (n0 : Nat) {o i : Operand} {t : Nat} {j t0 : Nat} {b0 : Bool} (k : TR x l (Zk x ρ0 Ls) fuel (Xu listed n0) Q ((d, v) :: E) ρ L) (hb : YX l listed n0 = true := by decide +kernel) (hi : l[n0]? = some ⟨some d, .indexAddr t o i, ty, pos, af, some (j, b0)⟩ := by rfl) (hj : (l[j]?).bind (·.dst) = some t0 := by rfl) (he : lk E t0 = some (.bool b0) := by rfl) (y : ∀ ρ', ρ0.le ρ' → Yl x (.indexAddr t o i) ty E ρ' Ls v := by intro _ _; first | exact y_indexAddr_nat rfl rfl (by omega) | exact y_indexAddr rfl rfl (by omega) (by omega) | exact y_indexAddr_arrN rfl rfl (by omega) | exact Wu rfl rfl (by omega) (by omega)) (hd : Nat.blt d x.N = true := by rfl) : TR x l (Zk x ρ0 Ls) (fuel + 1) listed Q E ρ L := WN n0 hb hi hj he (YZ (fun _ h => h) y) hd k
theorem iCv {o : Operand} {s t : Nat} (h : TL x ops (⟨dd, .convert s t o, ty, pos, af, none⟩ :: rest) Q E ρ L) : TL x ops (⟨dd, .convert s t o, ty, pos, af, none⟩ :: rest) Q E ρ L := h
theorem rCv (n0 : Nat) {o : Operand} {s t : Nat} (k : TR x l (Zk x ρ0 Ls) fuel (Xu listed n0) Q ((d, v) :: E) ρ L) (hb : YX l listed n0 = true := by decide +kernel) (hi : l[n0]? = some ⟨some d, .convert s t o, ty, pos, af, none⟩ := by rfl) (y : ∀ ρ', ρ0.le ρ' → Yl x (.convert s t o) ty E ρ' Ls v := by intro _ _; first | exact y_conv_i rfl (by simp only [Go.Proofs.E.lo, Go.Proofs.E.hi]; omega) | exact y_conv rfl | exact y_conv_in rfl (by assumption) | exact y_conv_in rfl (SIn.mono (by assumption) (by assumption))) (hd : Nat.blt d x.N = true := by rfl) : TR x l (Zk x ρ0 Ls) (fuel + 1) listed Q E ρ L := XG n0 hb hi (YZ (fun _ h => h) y) hd k
theorem rBi (n0 : Nat) {b : Builtin} {xs : Array Operand} {ats : Array TypeId} (k : TR x l (Zk x ρ0 Ls) fuel (Xu listed n0) Q ((d, v) :: E) ρ L) (hb : YX l listed n0 = true := by decide +kernel) (hi : l[n0]? = some ⟨some d, .call { callee := .builtin b, args := xs, argTypes := ats }, ty, pos, af, none⟩ := by rfl) (y : ∀ ρ', ρ0.le ρ' → Yl x (.call { callee := .builtin b, args := xs, argTypes := ats }) ty E ρ' Ls v := by intro _ _; first | exact y_len rfl | exact y_len_str rfl | exact y_cap rfl | exact y_max rfl rfl | exact y_min rfl rfl) (hd : Nat.blt d x.N = true := by rfl) : TR x l (Zk x ρ0 Ls) (fuel + 1) listed Q E ρ L := XG n0 hb hi (YZ (fun _ h => h) y) hd k
theorem wBi (n0 : Nat) {b : Builtin} {xs : Array Operand} {ats : Array TypeId} {j t0 : Nat} {b0 : Bool} (k : TR x l (Zk x ρ0 Ls) fuel (Xu listed n0) Q ((d, v) :: E) ρ L) (hb : YX l listed n0 = true := by decide +kernel) (hi : l[n0]? = some ⟨some d, .call { callee := .builtin b, args := xs, argTypes := ats }, ty, pos, af, some (j, b0)⟩ := by rfl) (hj : (l[j]?).bind (·.dst) = some t0 := by rfl) (he : lk E t0 = some (.bool b0) := by rfl) (y : ∀ ρ', ρ0.le ρ' → Yl x (.call { callee := .builtin b, args := xs, argTypes := ats }) ty E ρ' Ls v := by intro _ _; first | exact y_len rfl | exact y_len_str rfl | exact y_cap rfl | exact y_max rfl rfl | exact y_min rfl rfl) (hd : Nat.blt d x.N = true := by rfl) : TR x l (Zk x ρ0 Ls) (fuel + 1) listed Q E ρ L := WN n0 hb hi hj he (YZ (fun _ h => h) y) hd k
theorem rUn (n0 : Nat) {o : UnOp} {p : Operand} {t : Nat} (k : TR x l (Zk x ρ0 Ls) fuel (Xu listed n0) Q ((d, v) :: E) ρ L) (hb : YX l listed n0 = true := by decide +kernel) (hi : l[n0]? = some ⟨some d, .unOp o t p, ty, pos, af, none⟩ := by rfl) (y : ∀ ρ', ρ0.le ρ' → Yl x (.unOp o t p) ty E ρ' Ls v := by intro _ _; first | exact y_not rfl | exact y_neg rfl) (hd : Nat.blt d x.N = true := by rfl) : TR x l (Zk x ρ0 Ls) (fuel + 1) listed Q E ρ L := XG n0 hb hi (YZ (fun _ h => h) y) hd k
theorem wUn (n0 : Nat) {o : UnOp} {p : Operand} {t : Nat} {j t0 : Nat} {b0 : Bool} (k : TR x l (Zk x ρ0 Ls) fuel (Xu listed n0) Q ((d, v) :: E) ρ L) (hb : YX l listed n0 = true := by decide +kernel) (hi : l[n0]? = some ⟨some d, .unOp o t p, ty, pos, af, some (j, b0)⟩ := by rfl) (hj : (l[j]?).bind (·.dst) = some t0 := by rfl) (he : lk E t0 = some (.bool b0) := by rfl) (y : ∀ ρ', ρ0.le ρ' → Yl x (.unOp o t p) ty E ρ' Ls v := by intro _ _; first | exact y_not rfl | exact y_neg rfl) (hd : Nat.blt d x.N = true := by rfl) : TR x l (Zk x ρ0 Ls) (fuel + 1) listed Q E ρ L := WN n0 hb hi hj he (YZ (fun _ h => h) y) hd k
theorem iBu {t : Nat} {ps : Array (Nat × Operand)} (h : TL x ops (⟨dd, .build t ps, ty, pos, af, none⟩ :: rest) Q E ρ L) : TL x ops (⟨dd, .build t ps, ty, pos, af, none⟩ :: rest) Q E ρ L := h
theorem rBu (n0 : Nat) {t : Nat} {ps : Array (Nat × Operand)} (k : TR x l (Zk x ρ0 Ls) fuel (Xu listed n0) Q ((d, v) :: E) ρ L) (hb : YX l listed n0 = true := by decide +kernel) (hi : l[n0]? = some ⟨some d, .build t ps, ty, pos, af, none⟩ := by rfl) (y : ∀ ρ', ρ0.le ρ' → Yl x (.build t ps) ty E ρ' Ls v := by intro _ _; first | exact y_buildS rfl rfl | exact Wl rfl (by assumption) | exact Wl rfl rfl | exact Wl (vs := []) rfl rfl) (hd : Nat.blt d x.N = true := by rfl) : TR x l (Zk x ρ0 Ls) (fuel + 1) listed Q E ρ L := XG n0 hb hi (YZ (fun _ h => h) y) hd k
theorem wBu (n0 : Nat) {t : Nat} {ps : Array (Nat × Operand)} {j t0 : Nat} {b0 : Bool} (k : TR x l (Zk x ρ0 Ls) fuel (Xu listed n0) Q ((d, v) :: E) ρ L) (hb : YX l listed n0 = true := by decide +kernel) (hi : l[n0]? = some ⟨some d, .build t ps, ty, pos, af, some (j, b0)⟩ := by rfl) (hj : (l[j]?).bind (·.dst) = some t0 := by rfl) (he : lk E t0 = some (.bool b0) := by rfl) (y : ∀ ρ', ρ0.le ρ' → Yl x (.build t ps) ty E ρ' Ls v := by intro _ _; first | exact y_buildS rfl rfl | exact Wl rfl (by assumption) | exact Wl rfl rfl | exact Wl (vs := []) rfl rfl) (hd : Nat.blt d x.N = true := by rfl) : TR x l (Zk x ρ0 Ls) (fuel + 1) listed Q E ρ L := WN n0 hb hi hj he (YZ (fun _ h => h) y) hd k
theorem rSl (n0 : Nat) {t : Nat} {o : Operand} {lw hg mx : Option Operand} (k : TR x l (Zk x ρ0 Ls) fuel (Xu listed n0) Q ((d, v) :: E) ρ L) (hb : YX l listed n0 = true := by decide +kernel) (hi : l[n0]? = some ⟨some d, .slice t o lw hg mx, ty, pos, af, none⟩ := by rfl) (y : ∀ ρ', ρ0.le ρ' → Yl x (.slice t o lw hg mx) ty E ρ' Ls v := by intro _ _; first | exact y_slice_h rfl rfl (by omega) (by omega) | exact y_slice_str_h rfl rfl (by omega) (by omega) | exact y_slice_lh rfl rfl rfl (by omega) (by omega) (by omega) (by omega) | exact y_slice_l rfl rfl (by omega) (by omega) (by omega) | exact y_slice_str_l rfl rfl (by omega) (by omega) | exact y_slice_arr_all rfl | exact y_slice_arr_l rfl rfl (by omega) (by omega) | exact y_slice_arr_h rfl rfl (by omega) (by omega) | exact y_slice_arr_lh rfl rfl rfl (by omega) (by omega) (by omega) (by omega) | exact y_slice_m rfl rfl rfl rfl (by omega) (by omega) (by omega) (by omega) | exact y_slice_hm rfl rfl rfl (by omega) (by omega) (by omega)) (hd : Nat.blt d x.N = true := by rfl) : TR x l (Zk x ρ0 Ls) (fuel + 1) listed Q E ρ L := XG n0 hb hi (YZ (fun _ h => h) y) hd k
theorem rMf (n0 : Nat) {fn : Fn} {p q : Array Operand} (k : TR x l (Zk x ρ0 Ls) fuel (Xu listed n0) Q ((d, v) :: E) ρ L) (hb : YX l listed n0 = true := by decide +kernel) (hi : l[n0]? = some ⟨some d, .makeFunc fn p q, ty, pos, af, none⟩ := by rfl) (y : ∀ ρ', ρ0.le ρ' → Yl x (.makeFunc fn p q) ty E ρ' Ls v := by intro _ _; first | exact y_makeFunc rfl rfl) (hd : Nat.blt d x.N = true := by rfl) : TR x l (Zk x ρ0 Ls) (fuel + 1) listed Q E ρ L := XG n0 hb hi (YZ (fun _ h => h) y) hd k
theorem iMk {t : Nat} {o : Operand} (h : TL x ops (⟨dd, .convert t t o, ty, pos, af, none⟩ :: rest) Q E ρ L) : TL x ops (⟨dd, .convert t t o, ty, pos, af, none⟩ :: rest) Q E ρ L := h
theorem iSt {o p : Operand} {t : Nat} (h : TL x ops (⟨dd, .store t o p, ty, pos, af, none⟩ :: rest) Q E ρ L) : TL x ops (⟨dd, .store t o p, ty, pos, af, none⟩ :: rest) Q E ρ L := h
theorem iAl {t : Nat} (h : TL x ops (⟨dd, .alloc t, ty, pos, af, none⟩ :: rest) Q E ρ L) : TL x ops (⟨dd, .alloc t, ty, pos, af, none⟩ :: rest) Q E ρ L := h
theorem iBx {t : Nat} {o : Operand} (h : TL x ops (⟨dd, .box t o, ty, pos, af, none⟩ :: rest) Q E ρ L) : TL x ops (⟨dd, .box t o, ty, pos, af, none⟩ :: rest) Q E ρ L := h
theorem iMm {t : Nat} {o : Option Operand} (h : TL x ops (⟨dd, .makeMap t o, ty, pos, af, none⟩ :: rest) Q E ρ L) : TL x ops (⟨dd, .makeMap t o, ty, pos, af, none⟩ :: rest) Q E ρ L := h
theorem iBs {t n : Nat} {ps : Array (Nat × Operand)} (h : TL x ops (⟨dd, .buildSlice t n ps, ty, pos, af, none⟩ :: rest) Q E ρ L) : TL x ops (⟨dd, .buildSlice t n ps, ty, pos, af, none⟩ :: rest) Q E ρ L := h
theorem Zb (i : Nat) {j t : Nat} {b c : Bool} (k : TR x l (Zk x ρ0 Ls) fuel (Xu listed i) Q ((d, undef) :: E) ρ L) (hb : YX l listed i = true := by decide +kernel) (hi : l[i]? = some ⟨some d, op, ty, pos, af, some (j, c)⟩ := by rfl) (hj : (l[j]?).bind (·.dst) = some t := by rfl) (he : lk E t = some (.bool b) := by rfl) (hbc : (b == c) = false := by rfl)
  (hd : Nat.blt d x.N = true := by rfl) : TR x l (Zk x ρ0 Ls) (fuel + 1) listed Q E ρ L := tr_skip i hb hi hj he hbc hd k
theorem yl_undef {a : Act} {D : List Deferred} {N : Nat} {ops : Array Oper} {j t : Nat} (ha : Ok D N E a) (hj : (ops[j]?).bind (·.dst) = some t) (he : lk E t = some undef) : yielded ops a.tmps j = none := by
 unfold yielded
 rw [hj]
 simp [ha.get t _ he, undef]
theorem qSkipU {j t : Nat} {c : Bool} (k : TL x ops rest Q ((d, undef) :: E) ρ L)
  (hj : (ops[j]?).bind (·.dst) = some t := by rfl) (he : lk E t = some undef := by rfl) (hd : Nat.blt d x.N = true := by rfl) : TL x ops (⟨some d, op, ty, pos, af, some (j, c)⟩ :: rest) Q E ρ L := tl_undef (fun a ha => yl_undef ha hj he) hd k
theorem Za (n0 : Nat) {j t : Nat} {c : Bool} (k : TR x l (Zk x ρ0 Ls) fuel (Xu listed n0) Q ((d, undef) :: E) ρ L) (hb : YX l listed n0 = true := by decide +kernel) (hi : l[n0]? = some ⟨some d, op, ty, pos, af, some (j, c)⟩ := by rfl) (hj : (l[j]?).bind (·.dst) = some t := by rfl) (he : lk E t = some undef := by rfl)
  (hd : Nat.blt d x.N = true := by rfl) : TR x l (Zk x ρ0 Ls) (fuel + 1) listed Q E ρ L := tr_undef n0 hb hi (fun a ha => yl_undef ha (by simpa using hj) he) hd k
theorem Zj {i : Nat} {o : Oper} (h : TL x l.toArray [o] (QR x l (Zk x ρ0 Ls) fuel (Xu listed i) Q) E ρ L) (hr : Region.ready .any l.toArray ⟨listed⟩ = [i] := by decide +kernel) (ho : l[i]? = some o := by rfl) : TR x l (Zk x ρ0 Ls) (fuel + 1) listed Q E ρ L := tr_step1 hr ho h
theorem YD {i j : Nat} {o p : Oper} (h : TL x l.toArray [o] (QR x l (Zk x ρ0 Ls) fuel (Xu listed i) Q) E ρ L) (h' : TL x l.toArray [p] (QR x l (Zk x ρ0 Ls) fuel (Xu listed j) Q) E ρ L) (hr : Region.ready .any l.toArray ⟨listed⟩ = [i, j] := by decide +kernel) (ho : l[i]? = some o := by rfl) (hp : l[j]? = some p := by rfl) : TR x l (Zk x ρ0 Ls) (fuel + 1) listed Q E ρ L := tr_step2 hr ho hp h h'
theorem rStep3 {i j k : Nat} {o p q : Oper} (h : TL x l.toArray [o] (QR x l (Zk x ρ0 Ls) fuel (Xu listed i) Q) E ρ L) (h' : TL x l.toArray [p] (QR x l (Zk x ρ0 Ls) fuel (Xu listed j) Q) E ρ L) (h'' : TL x l.toArray [q] (QR x l (Zk x ρ0 Ls) fuel (Xu listed k) Q) E ρ L) (hr : Region.ready .any l.toArray ⟨listed⟩ = [i, j, k] := by decide +kernel) (ho : l[i]? = some o := by rfl) (hp : l[j]? = some p := by rfl) (hq : l[k]? = some q := by rfl) : TR x l (Zk x ρ0 Ls) (fuel + 1) listed Q E ρ L :=
 tr_step hr (by simp) (fun m hm => by
  rcases List.mem_cons.1 hm with rfl | hm
  ·exact ⟨o, ho, h⟩
  ·rcases List.mem_cons.1 hm with rfl | hm
   ·exact ⟨p, hp, h'⟩
   ·have : m = k := by simpa using hm
    subst this; exact ⟨q, hq, h''⟩)
theorem Zi {R : SH} (h : TR x l (Zk x ρ0 Ls) fuel listed Q E ρ L) (hle : ρ0.le ρ := by first | assumption | exact Hp.le_refl _ | (refine Hp.le_trans ?_ (by assumption); assumption) | solve_by_elim (maxDepth := 6) [Hp.le_trans]) (hT : XS L Ls R := by exact tk) : TE x .normal (QR x l (Zk x ρ0 Ls) fuel listed Q) E ρ L := te_any (Zw hle (hT := hT)) h
theorem Zz {R : SH} (h : TR x l (Zk x ρ L) fuel listed Q E ρ L) (hle : ρ0.le ρ := by first | assumption | exact Hp.le_refl _ | (refine Hp.le_trans ?_ (by assumption); assumption) | solve_by_elim (maxDepth := 6) [Hp.le_trans]) (hT : XS L Ls R := by exact tk) : TR x l (Zk x ρ0 Ls) fuel listed Q E ρ L := tr_full hle hT h
theorem Zv {S : World → Prop} (h : TE x .normal Q E ρ L) (hr : Region.ready .any l.toArray ⟨listed⟩ = [] := by decide +kernel) : TR x l S fuel listed Q E ρ L := tr_done hr h
theorem Zh {j t : Nat} {b : Bool} (k : TL x ops (⟨dd, op, ty, pos, af, none⟩ :: rest) Q E ρ L)
  (hj : (ops[j]?).bind (·.dst) = some t := by rfl) (he : lk E t = some (.bool b) := by rfl) : TL x ops (⟨dd, op, ty, pos, af, some (j, b)⟩ :: rest) Q E ρ L := tl_want hj he k
theorem qSkip {j t : Nat} {b c : Bool} (k : TL x ops rest Q ((d, undef) :: E) ρ L)
  (hj : (ops[j]?).bind (·.dst) = some t := by rfl) (he : lk E t = some (.bool b) := by rfl) (hbc : (b == c) = false := by rfl) (hd : Nat.blt d x.N = true := by rfl) : TL x ops (⟨some d, op, ty, pos, af, some (j, c)⟩ :: rest) Q E ρ L := tl_skip hj he hbc hd k
theorem qSkip0 {j t : Nat} {b c : Bool} (k : TL x ops rest Q E ρ L)
  (hj : (ops[j]?).bind (·.dst) = some t := by rfl) (he : lk E t = some (.bool b) := by rfl) (hbc : (b == c) = false := by rfl) : TL x ops (⟨none, op, ty, pos, af, some (j, c)⟩ :: rest) Q E ρ L := tl_skip0 hj he hbc k
theorem qAlA {t : Nat} {l : List Value} [hz : Zt x.P t (.agg ⟨l⟩)] (k : ∀ b, TL x ops rest Q ((d, .pointer (some ⟨b, 0, none⟩)) :: E) ρ ([(b, .cells ⟨l⟩ t (0, 0))] :: L)) (hd : Nat.blt d x.N = true := by rfl) :
  TL x ops (⟨some d, .alloc t, ty, pos, af, none⟩ :: rest) Q E ρ L := tl_alloc_a hd k
theorem qAlS {t : Nat} {z : Value} [hz : Zt x.P t z] (k : ∀ b, TL x ops rest Q ((d, .pointer (some ⟨b, 0, none⟩)) :: E) ρ ([(b, .cells ⟨[z]⟩ t (0, 0))] :: L)) (h : z.oneCell' = true := by rfl) (hd : Nat.blt d x.N = true := by rfl) :
  TL x ops (⟨some d, .alloc t, ty, pos, af, none⟩ :: rest) Q E ρ L := tl_alloc_s h hd k
theorem qBxA {t : Nat} {o : Operand} {l : List Value} (k : ∀ b, TL x ops rest Q ((d, .pointer (some ⟨b, 0, none⟩)) :: E) ρ ([(b, .cells ⟨l⟩ t (0, 0))] :: L)) (h : ev E o = some (.agg ⟨l⟩) := by rfl) (hd : Nat.blt d x.N = true := by rfl) :
  TL x ops (⟨some d, .box t o, ty, pos, af, none⟩ :: rest) Q E ρ L := tl_box_a h hd k
theorem qBxS {t : Nat} {o : Operand} (k : ∀ b, TL x ops rest Q ((d, .pointer (some ⟨b, 0, none⟩)) :: E) ρ ([(b, .cells ⟨[v]⟩ t (0, 0))] :: L)) (h : ev E o = some v := by rfl) (h1 : v.oneCell' = true := by rfl) (hd : Nat.blt d x.N = true := by rfl) :
  TL x ops (⟨some d, .box t o, ty, pos, af, none⟩ :: rest) Q E ρ L := tl_box_s h h1 hd k
theorem qMm {t : Nat} (k : ∀ b, TL x ops rest Q ((d, .map (some b)) :: E) ρ ([(b, .map ⟨[]⟩ 0)] :: L)) (hd : Nat.blt d x.N = true := by rfl) :
  TL x ops (⟨some d, .makeMap t none, ty, pos, af, none⟩ :: rest) Q E ρ L := tl_makeMap hd k
theorem qBs {t e sz : Nat} [hS : ZV x.P t e] [hZ : ZJ x.P e sz] (k : ∀ b, TL x ops rest Q ((d, .slice (some ⟨b, 0, none⟩) 0 0) :: E) ρ ([(b, .cells ⟨[]⟩ e (0, 0))] :: L)) (hd : Nat.blt d x.N = true := by rfl) :
  TL x ops (⟨some d, .buildSlice t 0 ⟨[]⟩, ty, pos, af, none⟩ :: rest) Q E ρ L := tl_buildSlice0 hd k
theorem qMk {t e b n c : Nat} {p : Operand} {C : List Value} {T : TypeId} {f : Obj → SH} [hS : ZV x.P t e] [hE : Xa x.P e .u8] [hU : Upd b L (.cells ⟨C⟩ T (0, 0)) f]
  (k : TL x ops rest Q ((d, .slice (some ⟨b, 0, none⟩) n c) :: E) ρ (f (.cells ⟨C⟩ T (C.length, C.length + 1)))) (hp : ev E p = some (.slice (some ⟨b, 0, none⟩) n c) := by rfl) (hd : Nat.blt d x.N = true := by rfl) :
  TL x ops (⟨some d, .convert t t p, ty, pos, af, none⟩ :: rest) Q E ρ L := tl_mark hp hd k
theorem qSt {t : Nat} {o p : Operand} {L' : SH} (k : TL x ops rest Q E ρ L')
  (h : TL x ops rest Q E ρ L' → TL x ops (⟨none, .store t o p, ty, pos, af, none⟩ :: rest) Q E ρ L := by
   first
   | exact tl_store_set rfl rfl rfl
   | exact tl_store_all rfl rfl (by first | assumption | rfl) (by first | assumption | rfl) (by first | assumption | rfl)
   | exact tl_store_sub rfl rfl (by first | assumption | rfl) (by rfl)
   | exact tl_store_s rfl rfl rfl (by first | assumption | rfl | exact ble_le (by omega))
   | exact tl_store_a rfl rfl (by first | assumption | rfl) (by first | assumption | rfl) (by first | assumption | rfl | exact ble_le (by omega))) :
  TL x ops (⟨none, .store t o p, ty, pos, af, none⟩ :: rest) Q E ρ L := h k
theorem qCt {c : Operand} {y z : Code} (h : TC x y Q E ρ L) (hc : ev E c = some (.bool true) := by rfl) : TC x (.cond c y z) Q E ρ L := tc_cond_t hc h
theorem qCf {c : Operand} {y z : Code} (h : TC x z Q E ρ L) (hc : ev E c = some (.bool false) := by rfl) : TC x (.cond c y z) Q E ρ L := tc_cond_f hc h
theorem qMiss {id id' : Nat} (h : TE x (.exit id') Q E ρ L) (hne : Nat.beq id' id = false := by rfl) : TE x (.exit id') (Exit.inBlock id Q) E ρ L := te_block_miss hne h
theorem y0Mv {o : Operand} (h : Yl x (.move o) ty E ρ L v) : Yl x (.move o) ty E ρ L v := h
theorem y0Ld {o : Operand} {t : Nat} (h : Yl x (.load t o) ty E ρ L v) : Yl x (.load t o) ty E ρ L v := h
theorem y0Fa {o : Operand} {s f : Nat} (h : Yl x (.fieldAddr s o f) ty E ρ L v) : Yl x (.fieldAddr s o f) ty E ρ L v := h
theorem y0Ad {p q : Operand} {t t' : Nat} (h : Yl x ((.binOp .add t p q t')) ty E ρ L v) : Yl x ((.binOp .add t p q t')) ty E ρ L v := h
theorem y0Sb {p q : Operand} {t t' : Nat} (h : Yl x ((.binOp .sub t p q t')) ty E ρ L v) : Yl x ((.binOp .sub t p q t')) ty E ρ L v := h
theorem y0Ml {p q : Operand} {t t' : Nat} (h : Yl x ((.binOp .mul t p q t')) ty E ρ L v) : Yl x ((.binOp .mul t p q t')) ty E ρ L v := h
theorem y0Rm {p q : Operand} {t t' : Nat} (h : Yl x ((.binOp .rem t p q t')) ty E ρ L v) : Yl x ((.binOp .rem t p q t')) ty E ρ L v := h
theorem y0Qu {p q : Operand} {t t' : Nat} (h : Yl x ((.binOp .quo t p q t')) ty E ρ L v) : Yl x ((.binOp .quo t p q t')) ty E ρ L v := h
theorem y0Sr {p q : Operand} {t t' : Nat} (h : Yl x ((.binOp .shr t p q t')) ty E ρ L v) : Yl x ((.binOp .shr t p q t')) ty E ρ L v := h
theorem y0Sh {p q : Operand} {t t' : Nat} (h : Yl x ((.binOp .shl t p q t')) ty E ρ L v) : Yl x ((.binOp .shl t p q t')) ty E ρ L v := h
theorem y0Or {p q : Operand} {t t' : Nat} (h : Yl x ((.binOp .or t p q t')) ty E ρ L v) : Yl x ((.binOp .or t p q t')) ty E ρ L v := h
theorem y0Cm {o : BinOp} {p q : Operand} {t t' : Nat} (h : Yl x ((.binOp o t p q t')) ty E ρ L v) : Yl x ((.binOp o t p q t')) ty E ρ L v := h
theorem y0Ex {o : Operand} {i : Nat} (h : Yl x (.extract o i) ty E ρ L v) : Yl x (.extract o i) ty E ρ L v := h
theorem y0As {o : Operand} (h : Yl x (.assign o) ty E ρ L v) : Yl x (.assign o) ty E ρ L v := h
theorem y0Pk {c p q : Operand} (h : Yl x (.pick c p q) ty E ρ L v) : Yl x (.pick c p q) ty E ρ L v := h
theorem y0Nc {o : Operand} (h : Yl x (.nilCheck o) ty E ρ L v) : Yl x (.nilCheck o) ty E ρ L v := h
theorem y0Ia {o i : Operand} {t : Nat} (h : Yl x (.indexAddr t o i) ty E ρ L v) : Yl x (.indexAddr t o i) ty E ρ L v := h
theorem y0Cv {o : Operand} {s t : Nat} (h : Yl x (.convert s t o) ty E ρ L v) : Yl x (.convert s t o) ty E ρ L v := h
theorem y0Bi {b : Builtin} {xs : Array Operand} {ats : Array TypeId} (h : Yl x (.call { callee := .builtin b, args := xs, argTypes := ats }) ty E ρ L v) : Yl x (.call { callee := .builtin b, args := xs, argTypes := ats }) ty E ρ L v := h
theorem y0Un {o : UnOp} {p : Operand} {t : Nat} (h : Yl x (.unOp o t p) ty E ρ L v) : Yl x (.unOp o t p) ty E ρ L v := h
theorem y0Fl {o : Operand} {s f : Nat} (h : Yl x (.field s o f) ty E ρ L v) : Yl x (.field s o f) ty E ρ L v := h
theorem y0Lu {o i : Operand} {t : Nat} {c : Bool} (h : Yl x (.lookup t o i c) ty E ρ L v) : Yl x (.lookup t o i c) ty E ρ L v := h
theorem y0Bu {t : Nat} {ps : Array (Nat × Operand)} (h : Yl x (.build t ps) ty E ρ L v) : Yl x (.build t ps) ty E ρ L v := h
theorem y0Sl {t : Nat} {o : Operand} {lw hg mx : Option Operand} (h : Yl x (.slice t o lw hg mx) ty E ρ L v) : Yl x (.slice t o lw hg mx) ty E ρ L v := h
theorem y0Mf {fn : Fn} {p q : Array Operand} (h : Yl x (.makeFunc fn p q) ty E ρ L v) : Yl x (.makeFunc fn p q) ty E ρ L v := h
theorem y0Mi {o : Operand} {t : Nat} (h : Yl x (.makeInterface t o) ty E ρ L v) : Yl x (.makeInterface t o) ty E ρ L v := h
theorem y0Ta {o : Operand} {s t : Nat} {c : Bool} (h : Yl x (.typeAssert o s t c) ty E ρ L v) : Yl x (.typeAssert o s t c) ty E ρ L v := h
theorem qQ {d : Nat} {op : Op} (k : TL x ops rest Q ((d, v) :: E) ρ L) (y : Yl x op ty E ρ L v := by
   first
   | (apply y0Mv; first | exact y_move rfl)
   | (apply y0Ld; first | exact y_load_s rfl (by first | assumption | rfl) | exact y_load_a rfl (by first | assumption | rfl) | exact y_load_sub rfl | exact y_load_part rfl (by first | assumption | omega) (by assumption) | exact y_load_is rfl (by assumption) (by first | assumption | rfl) | exact Wm rfl (by assumption) (by first | assumption | omega) (by assumption) | exact y_load_is rfl (hp_get (by assumption) (by assumption)) (by first | assumption | rfl) | exact Wm rfl (hp_get (by assumption) (by assumption)) (by first | assumption | omega) (by assumption))
   | (apply y0Fa; first | exact y_fieldAddr0 rfl | exact y_fieldAddr rfl)
   | (apply y0Ad; first | exact y_add rfl rfl (by simp only [Go.Proofs.E.lo, Go.Proofs.E.hi]; omega) | exact y_add_w rfl rfl)
   | (apply y0Sb; first | exact y_sub rfl rfl (by simp only [Go.Proofs.E.lo, Go.Proofs.E.hi]; omega) | exact y_sub_w rfl rfl)
   | (apply y0Ml; first | exact y_mul rfl rfl (by simp only [Go.Proofs.E.lo, Go.Proofs.E.hi]; omega) | exact y_mul_w rfl rfl)
   | (apply y0Rm; first | exact y_rem rfl rfl (by omega))
   | (apply y0Qu; first | exact y_quo_w rfl rfl (by omega))
   | (apply y0Sr; first | exact y_shr rfl rfl (by omega) (by simp [IntKind.bits]; rfl) | exact y_shr rfl rfl (by omega) rfl)
   | (apply y0Sh; first | exact y_shl8 rfl rfl (by simp only [Go.Proofs.E.lo, Go.Proofs.E.hi]; omega) (by decide) | exact y_shl rfl rfl (by omega) (by simp [IntKind.bits]; rfl) | exact y_shl rfl rfl (by omega) rfl)
   | (apply y0Or; first | exact y_or8 rfl rfl (by omega))
   | (apply y0Cm; first | exact y_cmp (b := true) (by rfl) (by rfl) (by first | rfl | exact We | exact Wd | (simp only [cmpB, Option.some.injEq, decide_eq_true_eq, decide_eq_false_iff_not, beq_iff_eq, bne_iff_ne, beq_eq_false_iff_ne, bne_eq_false_iff_eq, ne_eq]; omega)) | exact y_cmp (b := false) (by rfl) (by rfl) (by first | rfl | exact We | exact Wd | (simp only [cmpB, Option.some.injEq, decide_eq_true_eq, decide_eq_false_iff_not, beq_iff_eq, bne_iff_ne, beq_eq_false_iff_ne, bne_eq_false_iff_eq, ne_eq]; omega)) | exact y_cmp rfl rfl rfl | exact y_ptr_nil rfl rfl rfl | exact y_func_nil rfl rfl rfl rfl | exact y_slice_nil rfl rfl rfl | exact y_map_nil rfl rfl rfl | exact y_eqs rfl rfl (by first | assumption | rfl) | exact y_nes rfl rfl (by first | assumption | rfl) | exact y_eqd rfl rfl (by first | assumption | rfl) (by first | assumption | rfl) (by assumption) | exact y_ned rfl rfl (by first | assumption | rfl) (by first | assumption | rfl) (by assumption) | exact Wy rfl rfl (by first | assumption | rfl) (by first | assumption | rfl) rfl | exact Wk rfl rfl eqB_bool_self | exact Wk rfl rfl eqB_bool_nself | exact Wk rfl rfl rfl | exact y_str_eq rfl rfl rfl | exact y_eqc_l (c := _) rfl rfl (by assumption) rfl | exact y_eqc rfl rfl rfl)
   | (apply y0Ex; first | exact y_extract rfl rfl)
   | (apply y0As; first | exact y_assign rfl)
   | (apply y0Pk; first | exact y_pick_t rfl rfl | exact y_pick_f rfl rfl)
   | (apply y0Nc; first | exact y_nilCheck rfl | exact y_nilCheck_f rfl | exact y_nilCheck_y rfl)
   | (apply y0Ia; first | exact y_indexAddr_nat rfl rfl (by omega) | exact y_indexAddr rfl rfl (by omega) (by omega) | exact y_indexAddr_arrN rfl rfl (by omega) | exact Wu rfl rfl (by omega) (by omega))
   | (apply y0Cv; first | exact y_conv_i rfl (by simp only [Go.Proofs.E.lo, Go.Proofs.E.hi]; omega) | exact y_conv rfl | exact y_conv_in rfl (by assumption) | exact y_conv_in rfl (SIn.mono (by assumption) (by assumption)))
   | (apply y0Bi; first | exact y_len rfl | exact y_len_str rfl | exact y_cap rfl | exact y_max rfl rfl | exact y_min rfl rfl)
   | (apply y0Un; first | exact y_not rfl | exact y_neg rfl)
   | (apply y0Fl; first | exact y_field_s rfl rfl | exact y_field_sub rfl | exact y_field_a rfl rfl)
   | (apply y0Lu; first | exact y_lookup_ok2 rfl rfl (by assumption) (by assumption) | exact y_lookup2 rfl rfl (by assumption) (by assumption) | exact y_lookup0 rfl rfl (by assumption) (by assumption) | exact y_lookup_ok rfl rfl (by assumption) | exact y_lookup rfl rfl (by assumption))
   | (apply y0Bu; first | exact y_buildS rfl rfl | exact Wl rfl (by assumption) | exact Wl rfl rfl | exact Wl (vs := []) rfl rfl)
   | (apply y0Sl; first | exact y_slice_h rfl rfl (by omega) (by omega) | exact y_slice_str_h rfl rfl (by omega) (by omega) | exact y_slice_lh rfl rfl rfl (by omega) (by omega) (by omega) (by omega) | exact y_slice_l rfl rfl (by omega) (by omega) (by omega) | exact y_slice_str_l rfl rfl (by omega) (by omega) | exact y_slice_arr_all rfl | exact y_slice_arr_l rfl rfl (by omega) (by omega) | exact y_slice_arr_h rfl rfl (by omega) (by omega) | exact y_slice_arr_lh rfl rfl rfl (by omega) (by omega) (by omega) (by omega) | exact y_slice_m rfl rfl rfl rfl (by omega) (by omega) (by omega) (by omega) | exact y_slice_hm rfl rfl rfl (by omega) (by omega) (by omega))
   | (apply y0Mf; first | exact y_makeFunc rfl rfl)
   | (apply y0Mi; first | exact y_makeInterface rfl)
   | (apply y0Ta; first | exact y_typeAssert rfl)) (hd : Nat.blt d x.N = true := by rfl) (hn : Wj op = true := by rfl) : TL x ops (⟨some d, op, ty, pos, af, none⟩ :: rest) Q E ρ L := tl_y y hd hn k
theorem i_tc {c : Code} (h : TC x c Q E ρ L) : TC x c Q E ρ L := h
theorem Xv {d : Nat} {op : Op} (h : TL x ops (⟨some d, op, ty, pos, af, none⟩ :: rest) Q E ρ L) : TL x ops (⟨some d, op, ty, pos, af, none⟩ :: rest) Q E ρ L := h
theorem i_te {e : Exit} (h : TE x e Q E ρ L) : TE x e Q E ρ L := h
theorem qTc {G : Prop} {c : Code} (k : G) (h : G → TC x c Q E ρ L := by
   intro k
   first
   | exact tc_seq k
   | exact tc_region k
   | (refine ZS ?_; first | exact qCt k | exact qCf k)
   | exact tc_block k
   | exact tc_exit k
   | exact tc_ret k
   | exact tc_skip k
   | exact tc_scope k
   | exact tc_label k) : TC x c Q E ρ L := h k
theorem qTe {G : Prop} {e : Exit} (k : G) (h : G → TE x e Q E ρ L := by
   intro k
   first
   | exact te_seq k
   | exact te_block_normal k
   | exact te_block_ret k
   | exact te_then_ret k
   | exact te_block_hit k
   | (refine i_miss ?_; exact qMiss k)
   | exact te_then_exit k
   | exact te_scope_normal k
   | exact te_scope_exit k
   | exact te_scope_ret k) : TE x e Q E ρ L := h k
theorem ZF {G : Prop} {o : Oper} (k : G) (h : G → TL x ops (o :: rest) Q E ρ L := by
   intro k
   first
   | (refine iSt ?_; exact qSt k)
   | (refine iAl ?_; first | exact qAlA k | exact qAlS k)
   | (refine iBx ?_; first | exact qBxA k | exact qBxS k)
   | (refine iMm ?_; exact qMm k)
   | (refine iBs ?_; exact qBs k)
   | (refine iMk ?_; exact qMk k)
   | (refine YL ?_; first | exact Zh k | exact qSkip k | exact qSkip0 k | exact qSkipU k)) : TL x ops (o :: rest) Q E ρ L := h k
theorem qC {g : Nat} {f : Operand} {xs : List Operand} {ats : Array TypeId} {fs cs vs : List Value} {Lf R : SH} {Post : Value → Hp → SH → Prop} (hf : ev E f = some (.func (.func g) ⟨fs⟩ ⟨cs⟩)) (hv : evs E xs = some vs) [hF : Ya x.P g]
  (S : Spec x.P g (fs ++ vs ++ cs) ρ Lf Post)
  (k : ∀ v ρ' L', ρ.le ρ' → Post v ρ' L' → TL x ops rest Q ((d, v) :: E) ρ' (L' ++ R)) (hT : XS L Lf R := by exact tk) (hd : Nat.blt d x.N = true := by rfl) :
  TL x ops (⟨some d, .call { callee := .value f, args := ⟨xs⟩, argTypes := ats }, ty, pos, af, none⟩ :: rest) Q E ρ L := tl_call hf hv S hT hd k
theorem qE {e : Exit} {fn : Func} {u : World} {R : SH} {Post : Value → Hp → SH → Prop} {L' G : SH} (hp : Post v ρ L')
  (hr : ∀ a w, Ok x.D x.N E a → Sat x.u ρ L w → (results fn a.tmps).run x.P w = .ok v w := by
   first
   | exact res0 rfl
   | (refine res1 rfl ?_; first | exact Yu rfl | exact Yi rfl (by first | assumption | rfl) | exact ZP rfl rfl)
   | (refine res2 rfl ?_ ?_ <;> first | exact Yu rfl | exact Yi rfl (by first | assumption | rfl) | exact ZP rfl rfl)
   | (refine res3 rfl ?_ ?_ ?_ <;> first | exact Yu rfl | exact Yi rfl (by first | assumption | rfl) | exact ZP rfl rfl))
  (hle : ρ0.le ρ := by first | assumption | exact Hp.le_refl _ | (refine Hp.le_trans ?_ (by assumption); assumption) | solve_by_elim (maxDepth := 6) [Hp.le_trans]) (k : XS L L' G := by exact tk) (en : Ends G R := by infer_instance) (he : isEnd e = true := by rfl) (hD : x.D = [] := by rfl) (hu : x.u = u := by rfl) :
  TE x e (bodyPostM (Fw none) 0 x.P fn (RK u ρ0 R Post)) E ρ L := te_end he hD hu hr hle k en hp
end
end Go.Proofs.E
namespace Go.Proofs.E
open Go Go.RowKit Go.WideShapes
set_option linter.unusedVariables false
set_option linter.unusedSimpArgs false
def hpOf (w : World) : Hp := fun b => w.heap[b]?
theorem Sat.start (w : World) : Sat w (hpOf w) [] w := ⟨rfl, rfl, rfl, by simp, by simp, by simp, fun b o h => h⟩
theorem Sat.below {w w' : World} {ρ' : Hp} {L : SH} (h : Sat w ρ' L w') (hle : (hpOf w).le ρ') : Below w.heap.size w w' := by
 have old : ∀ k, k < w.heap.size → w'.heap[k]? = w.heap[k]? := fun k hk => by
  have : w.heap[k]? = some w.heap[k] := by simp [hk]
  rw [this]
  exact h.imm k _ (hle k _ this)
 refine ⟨h.os, h.tape, h.output, ?_, old⟩
 rcases Nat.eq_zero_or_pos w.heap.size with h0 | h0
 ·omega
 ·have := old (w.heap.size - 1) (by omega)
  have hs : w.heap[w.heap.size - 1]? = some w.heap[w.heap.size - 1] := by
   rw [Array.getElem?_eq_getElem (by omega)]
  rw [hs] at this
  have := (Array.getElem?_eq_some_iff.1 this).1
  omega
theorem Spec.law {P : Program} {f : FuncId} {args : List Value} {W : World} (h : Spec P f args (hpOf W) [] (fun v ρ' L' => v = .bool true ∧ (hpOf W).le ρ' ∧ L' = [])) :
  Calls P f ⟨args⟩ W (fun e W' => e = .returned (.bool true) ∧ Below W.heap.size W W') := by
 refine callsIn_wide.1 ((h W [] W (by simpa using Sat.start W)).mono ?_)
 rintro e w' ⟨v, ρ', L', rfl, hle, hs, rfl, hle2, rfl⟩
 exact ⟨rfl, hs.below hle2⟩
theorem exists_list {α : Type} {P : Nat → α → Prop} : ∀ (n : Nat), (∀ i, i < n → ∃ a, P i a) → ∃ xs : List α, xs.length = n ∧ ∀ i (h : i < xs.length), P i xs[i]
 | 0, _ => ⟨[], rfl, fun i h => by simp at h⟩
 | n + 1, h => by
  obtain ⟨xs, h1, h2⟩ := exists_list n (fun i hi => h i (by omega))
  obtain ⟨a, ha⟩ := h n (by omega)
  refine ⟨xs ++ [a], by simp [h1], fun i hi => ?_⟩
  by_cases hlt : i < xs.length
  ·rw [List.getElem_append_left hlt]; exact h2 i hlt
  ·have : i = n := by simp at hi; omega
   subst this
   rw [List.getElem_append_right (by omega)]
   simpa using ha
theorem mapM_get {α β : Type} {f : α → Option β} : ∀ {l : List α} {ys : List β}, l.mapM f = some ys → ys.length = l.length ∧ ∀ i (h : i < l.length), f l[i] = ys[i]?
 | [], ys, h => by simp at h; subst h; simp
 | a :: r, ys, h => by
  simp only [List.mapM_cons, Option.bind_eq_bind, Option.bind_eq_some_iff] at h
  obtain ⟨b, hb, bs, hbs, hy⟩ := h
  have hy' : b :: bs = ys := by simpa using hy
  subst hy'
  obtain ⟨h1, h2⟩ := mapM_get hbs
  refine ⟨by simp [h1], fun i hi => ?_⟩
  cases i with
  | zero => simpa using hb
  | succ i => simpa using h2 i (by simpa using hi)
theorem cells_block {w : World} {a : Addr} {n : Nat} {cs : List Value} (h : w.cells? 0 a n = some cs) (hn : 0 < n) :
  ∃ b off C T fr, a = ⟨b, off, none⟩ ∧ w.heap[b]? = some (.cells ⟨C⟩ T fr) ∧ off + n ≤ C.length ∧ cs = (C.drop off).take n := by
 simp only [World.cells?, Nat.zero_le, if_true] at h
 obtain ⟨h1, h2⟩ := mapM_get h
 simp only [List.length_range, List.getElem_range] at h1 h2
 obtain ⟨b, off, spot⟩ := a
 have hc0 := h2 0 hn
 have e0 : (Addr.mk b off spot).add 0 = ⟨b, off, spot⟩ := by simp [Addr.add]
 rw [e0, List.getElem?_eq_getElem (by omega)] at hc0
 have hs : spot = none := World.cell?_spot hc0
 subst hs
 have hb : ∃ C T fr, w.heap[b]? = some (.cells C T fr) := by
  unfold World.cell? at hc0
  split at hc0
  ·rename_i c T fr hb; exact ⟨c, T, fr, hb⟩
  ·cases hc0
 obtain ⟨⟨C⟩, T, fr, hb⟩ := hb
 have cell : ∀ i, i < n → C[off + i]? = cs[i]? := fun i hi => by
  have := h2 i hi
  rw [Yz] at this
  simp only [World.cell?, hb, Option.isSome_none, Bool.false_eq_true, if_false] at this
  simpa using this
 have hlen : off + n ≤ C.length := by
  have := cell (n - 1) (by omega)
  rw [List.getElem?_eq_getElem (show n - 1 < cs.length by omega)] at this
  have := (List.getElem?_eq_some_iff.1 this).1
  omega
 refine ⟨b, off, C, T, fr, rfl, hb, hlen, ?_⟩
 apply List.ext_getElem?
 intro i
 by_cases hi : i < n
 ·rw [List.getElem?_take_of_lt hi, List.getElem?_drop, cell i hi]
 ·rw [List.getElem?_eq_none (by omega), List.getElem?_eq_none (by simp; omega)]
section
variable {H : Type} {enc : TypeId × Value → H} {P : Program} {w : World}
def Opn (enc : TypeId × Value → H) (P : Program) (w : World) (t : TypeId) {α : Type} (R : List Value → α → Prop) : Prop :=
 ∀ fuel cs x, DataW.trod enc P w 0 (fun _ => true) true fuel t cs = some x → ∃ a, R cs a
def RI (k : IntKind) (cs : List Value) (n : Int) : Prop := cs = [.int k n] ∧ lo k ≤ n ∧ n ≤ hi k
theorem wf_bounds {k : IntKind} {n : Int} (h : (Lit.int k n).wf = true) : lo k ≤ n ∧ n ≤ hi k := by
 cases k <;> simp [Lit.wf, IntKind.min, IntKind.max, IntKind.signed, IntKind.bits, lo, hi] at h ⊢ <;> omega
theorem Yp {t : TypeId} {k : IntKind} (ht : P.underlying t = some (.int k)) : Opn enc P w t (RI k) := fun fuel cs x h => by
 obtain ⟨m, rfl, rfl, hw⟩ := DataW.trod_int ht h
 exact ⟨m, rfl, wf_bounds hw⟩
structure RS (ρ : Hp) (sz : Nat) {α : Type} (R : List Value → α → Prop) (cs : List Value) (s : Option Addr × Nat × Nat × List α) : Prop where
 cells : cs = [.slice s.1 s.2.1 s.2.2.1]
 le : s.2.1 ≤ s.2.2.1
 big : s.2.2.1 ≤ 9223372036854775807
 len : s.2.2.2.length = s.2.1
 at' : ∀ i (h : i < s.2.2.2.length), ∃ b off C T fr, s.1 = some ⟨b, off, none⟩ ∧ ρ b = some (.cells ⟨C⟩ T fr) ∧ off + i * sz + sz ≤ C.length ∧ R ((C.drop (off + i * sz)).take sz) s.2.2.2[i]
theorem opn_fields {t : TypeId} {fs : Array Field} {fuel : Nat} {cs : List Value} {x : DataW H × List MemPlace} (ht : P.underlying t = some (.struct fs)) (h : DataW.trod enc P w 0 (fun _ => true) true fuel t cs = some x) :
  cs.length = P.cellsOf t ∧ ∀ (i : Nat) (f : Field), fs[i]? = some f → ∀ {α : Type} {R : List Value → α → Prop}, Opn enc P w f.type R → ∃ a, R ((cs.drop f.offset).take (P.cellsOf f.type)) a := by
 obtain ⟨xs, n, _, _, hl, hlen, hf⟩ := DataW.trod_struct ht h
 refine ⟨hl, fun i f hi α R hR => ?_⟩
 have := hf i f hi
 have hlt : i < fs.size := (Array.getElem?_eq_some_iff.1 hi).1
 rw [List.getElem?_eq_getElem (by omega)] at this
 exact hR _ _ _ this
theorem opn_field {t : TypeId} {fs : Array Field} {fuel : Nat} {cs : List Value} {x : DataW H × List MemPlace} (h : DataW.trod enc P w 0 (fun _ => true) true fuel t cs = some x) (ht : P.underlying t = some (.struct fs)) (i o n : Nat) {f : Field} {T : TypeId}
  (hi : fs[i]? = some f) (ho : f.offset = o) (hT : f.type = T) (hn : P.cellsOf T = n) {α : Type} {R : List Value → α → Prop} (hR : Opn enc P w T R) : ∃ a, R ((cs.drop o).take n) a := by
 subst ho; subst hn; subst hT
 exact (opn_fields ht h).2 i f hi hR
end
end Go.Proofs.E
namespace Go.Proofs.E
open Go
set_option linter.unusedVariables false
set_option linter.unusedSimpArgs false
theorem lk_append (A B : Env) (t : Nat) : lk (A ++ B) t = (lk A t).or (lk B t) := by
 induction A with
 | nil => simp [lk]
 | cons p r ih =>
  obtain ⟨k, v⟩ := p
  simp only [List.cons_append, lk]
  split
  ·simp
  ·exact ih
theorem EnvLe.app {A B E : Env} (h : EnvLe A E) (k : EnvLe B E) : EnvLe (A ++ B) E := fun t v hv => by
 rw [lk_append] at hv
 cases ha : lk A t with
 | some x => rw [ha] at hv; simp only [Option.some_or, Option.some.injEq] at hv; rw [← hv]; exact h t x ha
 | none => rw [ha] at hv; simp only [Option.none_or] at hv; exact k t v hv
section
variable {x : Cx} {Q : Exit → Act → World → Prop} {E : Env} {ρ : Hp} {L : SH}
def KRG (x : Cx) {Y : Type} (C : Env) (M : Y → Env) (ρf : Y → Hp) (Lf : Y → SH) (R : SH) (I : Y → Prop) (μ : Y → Nat) (y : Y) : Act → World → Prop := KR x (fun y => ⟨M y ++ C, ρf y, Lf y ++ R⟩) I μ y
theorem Zq {Y : Type} {c : Code} {R : SH} (C : Env) (M : Y → Env) (ρf : Y → Hp) (Lf : Y → SH) (I : Y → Prop) (μ : Y → Nat) (y0 : Y) (h0 : I y0) (hM : EnvLe (M y0) E) (hC : EnvLe C E) (hρ : ρf y0 = ρ) (k : XS L (Lf y0) R)
  (round : ∀ y, I y → TC x c (Exit.then (KRG x C M ρf Lf R I μ y) Q) (M y ++ C) (ρf y) (Lf y ++ R)) : TC x (.loop c) Q E ρ L :=
 tc_loop (fun y => ⟨M y ++ C, ρf y, Lf y ++ R⟩) I μ y0 h0 (hM.app hC) hρ k.out round
theorem Zg {Y : Type} {C : Env} {M : Y → Env} {ρf : Y → Hp} {Lf : Y → SH} {R G : SH} {I : Y → Prop} {μ : Y → Nat} {y : Y} (y' : Y) (hI : I y') (hM : EnvLe (M y') E) (hC : EnvLe C E) (hρ : ρf y' = ρ) (k : XS L (Lf y') G) (e : Ends G R) (hμ : μ y' < μ y) :
  TE x .normal (Exit.then (KRG x C M ρf Lf R I μ y) Q) E ρ L :=
 te_round_e (S := fun y => ⟨M y ++ C, ρf y, Lf y ++ R⟩) (Lm := Lf y') (R := R) y' rfl hI (hM.app hC) hρ k e hμ
def KCG (x : Cx) {Y : Type} (C : Env) (M : Y → Env) (ρf : Y → Hp) (Lf : Y → SH) (R : SH) (I : Y → Prop) : Act → World → Prop := fun a w => ∃ y', Ok x.D x.N (M y' ++ C) a ∧ Sat x.u (ρf y') (Lf y' ++ R) w ∧ I y'
theorem tc_cut_k {y z : Code} {Y : Type} (R : SH) (C : Env) (M : Y → Env) (ρf : Y → Hp) (Lf : Y → SH) (I : Y → Prop) (hC : EnvLe C E)
  (h : TC x y (Exit.then (KCG x C M ρf Lf R I) Q) E ρ L)
  (k : ∀ y', I y' → TC x z Q (M y' ++ C) (ρf y') (Lf y' ++ R)) : TC x y (Exit.then (KC x z Q) Q) E ρ L := fun a w ha hw =>
 wpIn_mono (h a w ha hw) fun e a w q => by
  cases e <;> first | exact q | exact (let ⟨y', h1, h2, h3⟩ := q; k y' h3 a w h1 h2)
theorem te_cut_g {Y : Type} {C : Env} {M : Y → Env} {ρf : Y → Hp} {Lf : Y → SH} {R G : SH} {I : Y → Prop} (y' : Y) (hI : I y') (hM : EnvLe (M y') E) (hC : EnvLe C E) (hρ : ρf y' = ρ) (k : XS L (Lf y') G) (e : Ends G R) :
  TE x .normal (Exit.then (KCG x C M ρf Lf R I) Q) E ρ L :=
 te_cut_e (S := fun y => ⟨M y ++ C, ρf y, Lf y ++ R⟩) (Lm := Lf y') (R := R) y' rfl hI (hM.app hC) hρ k e
end
end Go.Proofs.E
namespace Go.Proofs.E
open Go Go.Lib
set_option linter.unusedVariables false
set_option linter.unusedSimpArgs false
set_option linter.unusedSectionVars false
structure OwnO (v : Value) (n : Nat) (xs : List Value) (T : TypeId) (c : List (Nat × Obj)) : Prop where
 out : (v = .slice none 0 0 ∧ n = 0 ∧ xs = [] ∧ c = []) ∨ ∃ b off cap pre sp, v = .slice (some ⟨b, off, none⟩) n cap ∧ xs.length = n ∧ xs.length + sp.length = cap ∧ n ≤ cap ∧ (cap = 0 ∨ off = pre.length) ∧ c = [(b, .cells ⟨pre ++ xs ++ sp⟩ T (0, 0))]
theorem OwnO.nil {T : TypeId} : OwnO (.slice none 0 0) 0 [] T [] := ⟨.inl ⟨rfl, rfl, rfl, rfl⟩⟩
theorem OwnO.slice {v : Value} {n : Nat} {xs : List Value} {T : TypeId} {c : List (Nat × Obj)} (h : OwnO v n xs T c) : ∃ a cap, v = .slice a n cap ∧ n ≤ cap := by
 rcases h.out with ⟨rfl, rfl, rfl, rfl⟩ | ⟨b, off, cap, pre, sp, rfl, h1, h2, h3, h4⟩
 ·exact ⟨none, 0, rfl, Nat.le_refl _⟩
 ·exact ⟨_, cap, rfl, h3⟩
theorem OwnO.tail {v : Value} {n : Nat} {x : Value} {xs : List Value} {T : TypeId} {c : List (Nat × Obj)} (h : OwnO v n (x :: xs) T c) : ∃ a cap, v = .slice a n cap ∧ 1 ≤ n ∧ n ≤ cap ∧ OwnO (.slice (if cap = 1 then a else a.map (·.add (1 * 1))) (n - 1) (cap - 1)) (n - 1) xs T c := by
 rcases h.out with ⟨rfl, rfl, h1, rfl⟩ | ⟨b, off, cap, pre, sp, rfl, h1, h2, h3, h4, rfl⟩
 ·cases h1
 ·simp only [List.length_cons] at h1 h2
  refine ⟨_, cap, rfl, by omega, h3, ⟨.inr ⟨b, if cap = 1 then off else off + 1, cap - 1, pre ++ [x], sp, ?_, by omega, by omega, by omega, ?_, by simp⟩⟩⟩
  ·by_cases hc : cap = 1
   ·simp [hc]
   ·simp [hc, Yz]
  ·by_cases hc : cap = 1
   ·left; omega
   ·right; simp only [if_neg hc]; rcases h4 with h4 | h4
    ·omega
    ·simp [h4]
theorem OwnO.sIn {α : Type} {g : α → Value} {ρ : Hp} {v : Value} {n : Nat} {l : List α} {T : TypeId} {c : List (Nat × Obj)} (h : OwnO v n (l.map g) T c) (hf : ∀ p ∈ c, ρ p.1 = some p.2) : ∃ a cap, v = .slice a n cap ∧ n ≤ cap ∧ SIn ρ g a n l := by
 rcases h.out with ⟨rfl, rfl, h2, rfl⟩ | ⟨b, off, cap, pre, sp, rfl, h1, h2, h3, h4, rfl⟩
 ·have : l = [] := by simpa using h2
  subst this
  exact ⟨none, 0, rfl, Nat.le_refl _, SIn.nil⟩
 ·refine ⟨_, cap, rfl, h3, by simpa using h1, ?_⟩
  by_cases h0 : n = 0
  ·exact .inl h0
  ·right
   rcases h4 with h4 | rfl
   ·omega
   ·refine ⟨b, _, _, T, (0, 0), rfl, hf _ (List.mem_singleton.2 rfl), ?_⟩
    rw [List.append_assoc, List.drop_left, List.take_left' h1]
section
variable {x : Cx} {Q : Exit → Act → World → Prop} {E : Env} {ρ : Hp} {L L1 : SH} {ops : Array Oper} {rest tail : List Oper} {ty : TypeId} {pos : String} {af : Array Edge}
end
section
variable {x : Cx} {E : Env} {ρ : Hp} {L : SH} {ty : TypeId}
theorem y_index_a {o i : Operand} {t len e sz n : Nat} {k : IntKind} {l m : List Value} (ho : ev E o = some (.agg ⟨l⟩)) (hi : ev E i = some (.int k (n : Int))) [hS : TyArr x.P t len e] [hT : TyA x.P e sz] (h1 : n < len) (hm : (l.drop (n * sz)).take sz = m) :
  Yl x (.index t o i) ty E ρ L (.agg ⟨m⟩) := fun a w _ _ _ _ ha hw => by
 obtain ⟨ds, inf, g1, g2, g3, g4⟩ := hT.out
 have hag : (isAgg e).run x.P w = .ok true w := by
  simp only [isAgg, underlying, Sem.run_bind, run_program, Result.andThen_ok, g1, Sem.run_pure]
  cases ds <;> simp_all
 have hsz : (sizeOf e).run x.P w = .ok sz w := by simp [sizeOf, typeInfo, g3, g4]
 simp [execOp, ha.eval ho, ha.eval hi, Instr.index, asIntOf, underlying, hS.out, h1, part, hag, hsz, hm]
end
theorem Hp.at' {ρ ρ' : Hp} (h : ρ.le ρ') {b : Nat} {o : Obj} (hb : ρ b = some o) : ρ' b = some o := h _ _ hb
end Go.Proofs.E
namespace Go.Proofs.E
open Go Go.RowKit
set_option linter.unusedVariables false
set_option linter.unusedSimpArgs false
set_option linter.unusedSectionVars false
set_option maxRecDepth 8000
def reachB (l : List Oper) : Nat → Nat → Nat → Bool
 | 0, _, _ => false
 | f + 1, i, k => ((l[i]?).map fun o => o.after.any fun e => Region.binds .any e && (e.on == k || reachB l f e.on k)).getD false
def guardB (c : Nat) (o : Oper) : Bool := match o.guard with | none => true | some (j, _) => decide (j < c)
def cutB (l : List Oper) (c : Nat) : Bool :=
 decide (c ≤ l.length) && (List.range l.length).all fun i =>
  if i < c then ((l[i]?).map fun o => o.after.all (fun e => !Region.binds .any e || decide (e.on < i)) && guardB c o).getD false
  else (List.range c).all fun k => reachB l 12 i k
def ClosedL (l : List Oper) (m : List Bool) : Prop := ∀ (j : Nat) (o : Oper), l[j]? = some o → m[j]? = some true → ∀ e ∈ o.after, Region.binds .any e = true → m[e.on]? = some true
theorem reach_ok {l : List Oper} {m : List Bool} (hc : ClosedL l m) : ∀ (f i k : Nat) (o : Oper), l[i]? = some o → (∀ e ∈ o.after, Region.binds .any e = true → m[e.on]? = some true) → reachB l f i k = true → m[k]? = some true
 | 0, _, _, _, _, _, h => by simp [reachB] at h
 | f + 1, i, k, o, ho, he, h => by
  simp only [reachB, ho, Option.map_some, Option.getD_some, Array.any_eq_true] at h
  obtain ⟨x, hx, h⟩ := h
  simp only [Bool.and_eq_true, Bool.or_eq_true, beq_iff_eq] at h
  have h1 := he _ (Array.getElem_mem hx) h.1
  rcases h.2 with h2 | h2
  ·rw [← h2]; exact h1
  ·cases ho2 : l[(o.after[x]).on]? with
   | none =>
    cases f with
    | zero => simp [reachB] at h2
    | succ f => simp [reachB, ho2] at h2
   | some o2 => exact reach_ok hc f _ k o2 ho2 (hc _ o2 ho2 h1) h2
theorem wpOpIn_cut {ro : Option Nat} {P : Program} {l : List Oper} {c i : Nat} {Q Q1 : Exit → Act → World → Prop} {K K' : Act → World → Prop} {a : Act} {w : World} (hi : i < c) (hg : ∀ o, l[i]? = some o → guardB c o = true) (hk : ∀ a w, K a w → K' a w)
  (h : wpOpIn (Fw ro) 0 P (l.take c).toArray (QN Q1) i K a w) : wpOpIn (Fw ro) 0 P l.toArray (QN Q) i K' a w := by
 unfold wpOpIn at h ⊢
 simp only [List.getElem?_toArray] at h ⊢
 rw [List.getElem?_take_of_lt hi] at h
 cases ho : l[i]? with
 | none => rw [ho] at h; exact hk _ _ h
 | some o =>
  rw [ho] at h
  simp only at h ⊢
  have hgo := hg o ho
  have hy : Region.wanted o (yielded (l.take c).toArray a.tmps) = Region.wanted o (yielded l.toArray a.tmps) := by
   unfold Region.wanted
   unfold guardB at hgo
   cases hgd : o.guard with
   | none => rfl
   | some jb =>
    obtain ⟨j, b⟩ := jb
    rw [hgd] at hgo
    simp only [decide_eq_true_eq] at hgo
    simp only [yielded, List.getElem?_toArray, List.getElem?_take_of_lt hgo]
  rw [hy] at h
  by_cases hw : Region.wanted o (yielded l.toArray a.tmps) = true
  ·simp only [hw, if_true] at h ⊢
   unfold Oper.wpIn at h ⊢
   refine ⟨h.1, ?_⟩
   have h2 := h.2
   generalize (o.semAt (Fw ro).round a.eval).run P w = r at *
   cases r with
   | ok n w' =>
    cases n <;> simp only [Oper.uponIn] at h2 ⊢ <;>
    first
     | exact hk _ _ h2
     | exact ⟨h2.1, CallsIn.mono h2.2 (fun e w'' he => by cases e <;> first | exact hk _ _ he | exact he.elim | exact (let ⟨_, _, q⟩ := he; q.elim))⟩
     | exact ⟨h2.1, RowsIn.mono h2.2 (fun _ _ he => hk _ _ he)⟩
     | exact ⟨h2.1, RoundIn.mono h2.2 (fun e w'' he => by cases e <;> first | exact hk _ _ he | exact he.elim | exact (let ⟨_, _, q⟩ := he; q.elim))⟩
   | halt x w' => cases x <;> simp only [Oper.uponIn] at h2 ⊢ <;> first | exact h2 | exact h2.elim
  ·simp only [hw] at h ⊢
   exact ⟨h.1, hk _ _ h.2⟩
theorem any_cut {ro : Option Nat} {P : Program} {l : List Oper} {c : Nat} {Q : Exit → Act → World → Prop} (hcut : cutB l c = true) :
  ∀ (fuel : Nat) (m : List Bool) (a : Act) (w : World), m.length = c → ClosedL l m → List.count false m = fuel →
   wpAnyIn (Fw ro) 0 P .any (l.take c).toArray (QN fun e a w => wpAnyIn (Fw ro) 0 P .any l.toArray (QN Q) (l.length - c) ⟨List.replicate c true ++ List.replicate (l.length - c) false⟩ a w) fuel ⟨m⟩ a w →
   wpAnyIn (Fw ro) 0 P .any l.toArray (QN Q) (fuel + (l.length - c)) ⟨m ++ List.replicate (l.length - c) false⟩ a w := by
 simp only [cutB, Bool.and_eq_true, decide_eq_true_eq, List.all_eq_true, List.mem_range] at hcut
 obtain ⟨hcl, hall⟩ := hcut
 intro fuel
 induction fuel with
 | zero =>
  intro m a w hm _ h0 H
  have hmt : m = List.replicate c true := by
   rw [List.eq_replicate_iff]
   refine ⟨hm, fun b hb => ?_⟩
   cases b with
   | true => rfl
   | false => exact absurd hb (List.count_eq_zero.1 h0)
  rw [Nat.zero_add, hmt]
  exact H.2
 | succ fuel ih =>
  intro m a w hm hcd h0 H
  have hA : fuel + 1 + (l.length - c) = (fuel + (l.length - c)) + 1 := by omega
  rw [hA]
  have hget : ∀ j, j < c → (m ++ List.replicate (l.length - c) false)[j]? = m[j]? := fun j hj => List.getElem?_append_left (by omega)
  have hge : ∀ j, c ≤ j → (m ++ List.replicate (l.length - c) false)[j]? ≠ some true := fun j hj h => by
   rw [List.getElem?_append_right (by omega)] at h
   rw [List.getElem?_replicate] at h
   split at h <;> simp at h
  have hlt : ∀ j, (m ++ List.replicate (l.length - c) false)[j]? = some true → m[j]? = some true := fun j h => by
   by_cases hj : j < c
   ·rw [hget j hj] at h; exact h
   ·exact absurd h (hge j (by omega))
  have hrd : ∀ i, i ∈ Region.ready .any l.toArray ⟨m ++ List.replicate (l.length - c) false⟩ → i < c ∧ m[i]? = some false ∧ i ∈ Region.ready .any (l.take c).toArray ⟨m⟩ ∧ ∃ o, l[i]? = some o ∧ ∀ e ∈ o.after, Region.binds .any e = true → m[e.on]? = some true := fun i hi => by
   obtain ⟨h1, o, ho, he⟩ := mem_ready.1 hi
   simp only [List.getElem?_toArray] at ho
   have he' : ∀ e ∈ o.after, Region.binds .any e = true → m[e.on]? = some true := fun e h2 h3 => by
    have := he e h2 h3
    apply hlt
    simp only [Array.getD_eq_getD_getElem?, List.getElem?_toArray] at this
    cases hq : (m ++ List.replicate (l.length - c) false)[e.on]? with
    | none => rw [hq] at this; simp at this
    | some b => rw [hq] at this; simp at this; rw [this]
   have hil : i < l.length := by
    rcases Nat.lt_or_ge i l.length with h | h
    ·exact h
    ·rw [List.getElem?_eq_none h] at ho; cases ho
   have hic : i < c := by
    rcases Nat.lt_or_ge i c with h | h
    ·exact h
    ·exfalso
     have hr := hall i hil
     rw [if_neg (by omega)] at hr
     simp only [List.all_eq_true, List.mem_range] at hr
     have hno : false ∉ m := fun hf => by
      obtain ⟨k, hk, hkf⟩ := List.getElem_of_mem hf
      have := reach_ok hcd 12 i k o ho he' (hr k (by omega))
      rw [List.getElem?_eq_getElem hk, hkf] at this
      cases this
     have := List.count_eq_zero.2 hno
     omega
   have hmi : m[i]? = some false := by
    simp only [Array.getD_eq_getD_getElem?, List.getElem?_toArray, hget i hic] at h1
    rw [List.getElem?_eq_getElem (show i < m.length by omega)] at h1 ⊢
    simpa using h1
   refine ⟨hic, hmi, mem_ready.2 ⟨by simp [Array.getD_eq_getD_getElem?, hmi], o, by simp [List.getElem?_take_of_lt hic, ho], fun e h2 h3 => by simp [Array.getD_eq_getD_getElem?, he' e h2 h3]⟩, o, ho, he'⟩
  refine ⟨fun hnil => ?_, fun i hi => ?_⟩
  ·exfalso
   have hmem : false ∈ m := by
    rcases Classical.em (false ∈ m) with h | h
    ·exact h
    ·have := List.count_eq_zero.2 h; omega
   have hex : ∃ k : Nat, m[k]? = some false ∧ ∀ j : Nat, j < k → m[j]? = some true := by
    have key : ∀ (m : List Bool), false ∈ m → ∃ k : Nat, m[k]? = some false ∧ ∀ j : Nat, j < k → m[j]? = some true := by
     intro m
     induction m with
     | nil => intro h; cases h
     | cons b r ih2 =>
      intro h
      cases b with
      | false => exact ⟨0, rfl, fun j hj => by omega⟩
      | true =>
       obtain ⟨k, h1, h2⟩ := ih2 (by simpa using h)
       refine ⟨k + 1, by simpa using h1, fun j hj => ?_⟩
       cases j with
       | zero => rfl
       | succ j => simpa using h2 j (by omega)
    exact key m hmem
   obtain ⟨k, hk, hlow⟩ := hex
   have hkc : k < c := by
    rcases Nat.lt_or_ge k m.length with h | h
    ·omega
    ·rw [List.getElem?_eq_none h] at hk; cases hk
   have hr := hall k (by omega)
   rw [if_pos hkc] at hr
   have hko : l[k]? = some l[k] := List.getElem?_eq_getElem (by omega)
   rw [hko] at hr
   simp only [Option.map_some, Option.getD_some, Bool.and_eq_true, Array.all_eq_true_iff_forall_mem, Bool.or_eq_true, Bool.not_eq_true', decide_eq_true_eq] at hr
   have : k ∈ Region.ready .any l.toArray ⟨m ++ List.replicate (l.length - c) false⟩ := by
    refine mem_ready.2 ⟨by simp [Array.getD_eq_getD_getElem?, hget k hkc, hk], l[k], by simp [hko], fun e h2 h3 => ?_⟩
    have hlt2 : e.on < k := by
     rcases hr.1 e h2 with h | h
     ·rw [h] at h3; cases h3
     ·exact h
    simp [Array.getD_eq_getD_getElem?, hget e.on (by omega), hlow e.on hlt2]
   rw [hnil] at this
   cases this
  ·obtain ⟨hic, hmi, hi1, o, ho, he⟩ := hrd i hi
   have hr := hall i (by omega)
   rw [if_pos hic, ho] at hr
   simp only [Option.map_some, Option.getD_some, Bool.and_eq_true] at hr
   refine wpOpIn_cut hic (fun o' ho' => by rw [ho] at ho'; cases ho'; exact hr.2) (fun a' w' h' => ?_) (H.2 i hi1)
   have hs1 : (⟨m⟩ : Array Bool).setIfInBounds i true = ⟨m.set i true⟩ := by simp
   have hs2 : (⟨m ++ List.replicate (l.length - c) false⟩ : Array Bool).setIfInBounds i true = ⟨m.set i true ++ List.replicate (l.length - c) false⟩ := by
    simp [List.set_append_left _ _ (show i < m.length by omega)]
   rw [hs1] at h'
   rw [hs2]
   refine ih (m.set i true) a' w' (by simpa using hm) (fun j oj hoj hj e h2 h3 => ?_) ?_ h'
   ·have hself : ∀ q, m[q]? = some true → (m.set i true)[q]? = some true := fun q hq => by
     rw [List.getElem?_set]
     split
     ·rename_i h; subst h; rw [hmi] at hq; cases hq
     ·exact hq
    by_cases hji : j = i
    ·subst hji
     rw [ho] at hoj; cases hoj
     exact hself _ (he e h2 h3)
    ·rw [List.getElem?_set_ne (fun h => hji h.symm)] at hj
     exact hself _ (hcd j oj hoj hj e h2 h3)
   ·have hlt3 : i < m.length := by omega
    have hmi2 : m[i] = false := by rw [List.getElem?_eq_getElem hlt3] at hmi; simpa using hmi
    rw [List.count_set (h := hlt3)]
    simp [hmi2]
    omega
section
variable {x : Cx} {Q : Exit → Act → World → Prop} {E : Env} {ρ : Hp} {L : SH} {l : List Oper}
def QPh (x : Cx) (l : List Oper) (c : Nat) (Q : Exit → Act → World → Prop) : Exit → Act → World → Prop :=
 fun _ a w => wpAnyIn (Fw x.ro) 0 x.P .any l.toArray (QN Q) (l.length - c) ⟨List.replicate c true ++ List.replicate (l.length - c) false⟩ a w
theorem tc_phase {id : Nat} (c : Nat) (S : World → Prop) [hm : Mixed x.P] (hcut : cutB l c = true) (hS : ∀ w, Sat x.u ρ L w → S w) (h : TR x (l.take c) S c (List.replicate c false) (QPh x l c Q) E ρ L) : TC x (.region id l.toArray true) Q E ρ L := fun a w ha hw => by
 refine wpIn_mono (Q := QN Q) ?_ (fun e a w q => by cases e <;> first | exact q | exact q.elim)
 refine wpIn_region_any hm.out ?_
 have h1 := h a _ ha hw.drew (hS _ hw.drew)
 have h2 := wpAnyIn_of_G _ _ _ _ h1
 have hcl : c ≤ l.length := by
  simp only [cutB, Bool.and_eq_true, decide_eq_true_eq] at hcut
  exact hcut.1
 have h3 := any_cut (Q := Q) hcut c (List.replicate c false) a _ (by simp) (fun j o _ hj => by
  rw [List.getElem?_replicate] at hj
  split at hj <;> simp at hj) (by simp) h2
 have e1 : c + (l.length - c) = l.length := by omega
 rw [e1, List.replicate_append_replicate, e1] at h3
 simpa using h3
theorem te_phase {c fuel : Nat} {m : List Bool} (S : World → Prop) (hf : l.length - c = fuel) (hm : List.replicate c true ++ List.replicate fuel false = m) (hS : ∀ w, Sat x.u ρ L w → S w) (h : TR x l S fuel m Q E ρ L) : TE x .normal (QPh x l c Q) E ρ L := fun a w ha hw => by
 subst hf
 subst hm
 exact wpAnyIn_of_G _ _ _ _ (h a w ha hw (hS w hw))
end
end Go.Proofs.E
namespace Go.Proofs.E
open Go Go.RowKit Go.WideShapes
set_option linter.unusedVariables false
set_option linter.unusedSimpArgs false
section
variable {H : Type} {enc : TypeId × Value → H} {P : Program} {w : World}
def OpnS (enc : TypeId × Value → H) (P : Program) (w : World) (t : TypeId) {α : Type} (R : List Value → α → Prop) : Prop :=
 ∀ fuel cs x, DataW.trod enc P w 0 (fun _ => true) true fuel t cs = some x → (∀ n ∈ x.1.weights P t, n ≤ reachBytes) → ∃ a, R cs a
theorem Opn.sized {t : TypeId} {α : Type} {R : List Value → α → Prop} (h : Opn enc P w t R) : OpnS enc P w t R := fun f cs x hx _ => h f cs x hx
theorem OpnS.mono {t : TypeId} {α β : Type} {R : List Value → α → Prop} {R' : List Value → β → Prop} (h : OpnS enc P w t R) (k : ∀ cs a, R cs a → ∃ b, R' cs b) : OpnS enc P w t R' := fun f cs x hx hw => by
 obtain ⟨a, ha⟩ := h f cs x hx hw
 exact k cs a ha
theorem weights_all {e : TypeId} {n : Nat} : ∀ {l : List (DataW H)} {d : DataW H}, d ∈ l → n ∈ d.weights P e → n ∈ DataW.weightsAll P e l
 | x :: r, d, hd, hn => by
  simp only [DataW.weightsAll, List.mem_append]
  rcases List.mem_cons.1 hd with rfl | hd
  ·exact .inl hn
  ·exact .inr (weights_all hd hn)
theorem Xl {t e : TypeId} {sz by' : Nat} {α : Type} {R : List Value → α → Prop} (ht : P.underlying t = some (.slice e)) (hsz : P.cellsOf e = sz) (h0 : 0 < sz) (hby : P.bytesOf e = by') (hR : OpnS enc P w e R) :
  OpnS enc P w t (fun cs s => RS (hpOf w) sz R cs s ∧ s.2.1 * by' ≤ reachBytes) := fun fuel cs x h hw => by
 subst hsz; subst hby
 rcases DataW.trod_slice ht h with ⟨rfl, _⟩ | ⟨a, len, cap, elems, rest, n, _, rfl, hx, _, hl, hm, hlen, hel, _, _⟩
 ·exact ⟨(none, 0, 0, []), ⟨rfl, Nat.le_refl _, by simp, rfl, fun i h => by simp at h⟩, by simp⟩
 have hwts : x.1.weights P t = (elems.length + rest.length) * P.bytesOf e :: (DataW.weightsAll P e (elems.map (·.1)) ++ DataW.weightsAll P e (rest.map (·.1))) := by
  rw [hx]
  simp only [DataW.weights, ht, List.length_map]
 rw [hwts] at hw
 have hw1 := hw _ (List.mem_cons_self ..)
 have hw2 : ∀ y ∈ elems, ∀ n ∈ y.1.weights P e, n ≤ reachBytes := fun y hy n hn =>
  hw n (List.mem_cons_of_mem _ (List.mem_append_left _ (weights_all (List.mem_map.2 ⟨y, hy, rfl⟩) hn)))
 have each : ∀ i, i < len → ∃ y : α, ∃ b off C T fr, a = ⟨b, off, none⟩ ∧ w.heap[b]? = some (.cells ⟨C⟩ T fr) ∧ off + i * P.cellsOf e + P.cellsOf e ≤ C.length ∧ R ((C.drop (off + i * P.cellsOf e)).take (P.cellsOf e)) y := by
  have spot : 0 < len → a.spot = none := fun hp => by
   have hi := hel 0 hp
   rw [List.getElem?_eq_getElem (by omega), Option.bind_eq_some_iff] at hi
   obtain ⟨cs', hcs, _⟩ := hi
   obtain ⟨b, off, C, T, fr, ha, _⟩ := cells_block hcs h0
   have e0 : a.add (0 * P.cellsOf e) = a := by simp [Addr.add]
   rw [e0] at ha
   rw [ha]
  intro i hi
  have hs := spot (by omega)
  obtain ⟨b, off, sp⟩ := a
  simp only at hs
  subst hs
  have hi' := hel i hi
  rw [List.getElem?_eq_getElem (by omega), Option.bind_eq_some_iff] at hi'
  obtain ⟨cs', hcs, htr⟩ := hi'
  rw [Yz] at hcs
  obtain ⟨b', off', C, T, fr, ha, hb, hfit, rfl⟩ := cells_block hcs h0
  cases ha
  obtain ⟨y, hy⟩ := hR _ _ _ htr (hw2 _ (List.getElem_mem (show i < elems.length by omega)))
  exact ⟨y, _, _, C, T, fr, rfl, hb, hfit, hy⟩
 obtain ⟨xs, h1, h2⟩ := exists_list len each
 refine ⟨(some a, len, cap, xs), ⟨rfl, hl, by simpa [maxLen] using hm, h1, fun i hi => ?_⟩, ?_⟩
 ·obtain ⟨b, off, C, T, fr, e1, e2, e3, e4⟩ := h2 i hi
  exact ⟨b, off, C, T, fr, by rw [e1], e2, e3, e4⟩
 ·refine Nat.le_trans (Nat.mul_le_mul_right _ ?_) hw1
  dsimp only; omega
theorem YJ {t : TypeId} {fs : Array Field} {fuel : Nat} {cs : List Value} {x : DataW H × List MemPlace} (ht : P.underlying t = some (.struct fs)) (h : DataW.trod enc P w 0 (fun _ => true) true fuel t cs = some x) (hw : ∀ n ∈ x.1.weights P t, n ≤ reachBytes) :
  cs.length = P.cellsOf t ∧ ∀ (i : Nat) (f : Field), fs[i]? = some f → ∀ {α : Type} {R : List Value → α → Prop}, OpnS enc P w f.type R → ∃ a, R ((cs.drop f.offset).take (P.cellsOf f.type)) a := by
 obtain ⟨xs, n, _, hx, hl, hlen, hf⟩ := DataW.trod_struct ht h
 refine ⟨hl, fun i f hi α R hR => ?_⟩
 have := hf i f hi
 have hlt : i < fs.size := (Array.getElem?_eq_some_iff.1 hi).1
 rw [List.getElem?_eq_getElem (by omega)] at this
 refine hR _ _ _ this (fun m hm => hw m ?_)
 rw [hx]
 simp only [DataW.weights, ht]
 refine DataW.weights_mem_each (j := i) (t := f.type) (d := (xs[i]'(by omega)).1) ?_ ?_ m hm
 ·rw [List.getElem?_map]
  have : fs.toList[i]? = some f := by simpa using hi
  rw [this]; rfl
 ·rw [List.getElem?_map, List.getElem?_eq_getElem (by omega)]; rfl
theorem Zy {t : TypeId} {fs : Array Field} {fuel : Nat} {cs : List Value} {x : DataW H × List MemPlace} (h : DataW.trod enc P w 0 (fun _ => true) true fuel t cs = some x) (hw : ∀ n ∈ x.1.weights P t, n ≤ reachBytes) (ht : P.underlying t = some (.struct fs)) (i o n : Nat) {f : Field} {T : TypeId}
  (hi : fs[i]? = some f) (ho : f.offset = o) (hT : f.type = T) (hn : P.cellsOf T = n) {α : Type} {R : List Value → α → Prop} (hR : OpnS enc P w T R) : ∃ a, R ((cs.drop o).take n) a := by
 subst ho; subst hn; subst hT
 exact (YJ ht h hw).2 i f hi hR
theorem wts_of {ts : List TypeId} {ds : List (DataW H)} {t : TypeId} {j : Nat} {d : DataW H} (hsz : (DataW.weightsEach P ts ds).all (· ≤ reachBytes) = true) (ht : ts[j]? = some t) (hd : ds[j]? = some d) : ∀ n ∈ d.weights P t, n ≤ reachBytes := fun n hn => by
 have := List.all_eq_true.1 hsz n (DataW.weights_mem_each ht hd n hn)
 simpa using this
end
end Go.Proofs.E
namespace Go.Proofs.E
open Go
set_option linter.unusedVariables false
attribute [local irreducible] Yl TL TC TE Spec Xb R1 Hp.le EnvLe TS TR YS Zk
section
variable {x : Cx} {E : Env} {ρ ρ0 : Hp} {L : SH} {v : Value}
theorem qF {e : Exit} {fn : Func} {u : World} {R : SH} {Post : Value → Hp → SH → Prop} {L' G : SH} (hp : Post v ρ L')
  (hr : ∀ a w, Ok x.D x.N E a → Sat x.u ρ L w → (results fn a.tmps).run x.P w = .ok v w := by
   first
   | exact res0 rfl
   | exact res1 rfl (Yu rfl)
   | exact res1 rfl (Yi rfl (by first | assumption | rfl))
   | exact res1 rfl (ZP rfl rfl)
   | exact res2 rfl (Yu rfl) (Yu rfl)
   | exact res2 rfl (Yu rfl) (Yi rfl (by first | assumption | rfl))
   | exact res2 rfl (Yu rfl) (ZP rfl rfl)
   | exact res2 rfl (Yi rfl (by first | assumption | rfl)) (Yu rfl)
   | exact res2 rfl (Yi rfl (by first | assumption | rfl)) (Yi rfl (by first | assumption | rfl))
   | exact res2 rfl (Yi rfl (by first | assumption | rfl)) (ZP rfl rfl)
   | exact res2 rfl (ZP rfl rfl) (Yu rfl)
   | exact res2 rfl (ZP rfl rfl) (Yi rfl (by first | assumption | rfl))
   | exact res2 rfl (ZP rfl rfl) (ZP rfl rfl)
   | exact res3 rfl (Yu rfl) (Yu rfl) (Yu rfl)
   | exact res3 rfl (Yu rfl) (Yu rfl) (Yi rfl (by first | assumption | rfl))
   | exact res3 rfl (Yu rfl) (Yu rfl) (ZP rfl rfl)
   | exact res3 rfl (Yu rfl) (Yi rfl (by first | assumption | rfl)) (Yu rfl)
   | exact res3 rfl (Yu rfl) (Yi rfl (by first | assumption | rfl)) (Yi rfl (by first | assumption | rfl))
   | exact res3 rfl (Yu rfl) (Yi rfl (by first | assumption | rfl)) (ZP rfl rfl)
   | exact res3 rfl (Yu rfl) (ZP rfl rfl) (Yu rfl)
   | exact res3 rfl (Yu rfl) (ZP rfl rfl) (Yi rfl (by first | assumption | rfl))
   | exact res3 rfl (Yu rfl) (ZP rfl rfl) (ZP rfl rfl)
   | exact res3 rfl (Yi rfl (by first | assumption | rfl)) (Yu rfl) (Yu rfl)
   | exact res3 rfl (Yi rfl (by first | assumption | rfl)) (Yu rfl) (Yi rfl (by first | assumption | rfl))
   | exact res3 rfl (Yi rfl (by first | assumption | rfl)) (Yu rfl) (ZP rfl rfl)
   | exact res3 rfl (Yi rfl (by first | assumption | rfl)) (Yi rfl (by first | assumption | rfl)) (Yu rfl)
   | exact res3 rfl (Yi rfl (by first | assumption | rfl)) (Yi rfl (by first | assumption | rfl)) (Yi rfl (by first | assumption | rfl))
   | exact res3 rfl (Yi rfl (by first | assumption | rfl)) (Yi rfl (by first | assumption | rfl)) (ZP rfl rfl)
   | exact res3 rfl (Yi rfl (by first | assumption | rfl)) (ZP rfl rfl) (Yu rfl)
   | exact res3 rfl (Yi rfl (by first | assumption | rfl)) (ZP rfl rfl) (Yi rfl (by first | assumption | rfl))
   | exact res3 rfl (Yi rfl (by first | assumption | rfl)) (ZP rfl rfl) (ZP rfl rfl)
   | exact res3 rfl (ZP rfl rfl) (Yu rfl) (Yu rfl)
   | exact res3 rfl (ZP rfl rfl) (Yu rfl) (Yi rfl (by first | assumption | rfl))
   | exact res3 rfl (ZP rfl rfl) (Yu rfl) (ZP rfl rfl)
   | exact res3 rfl (ZP rfl rfl) (Yi rfl (by first | assumption | rfl)) (Yu rfl)
   | exact res3 rfl (ZP rfl rfl) (Yi rfl (by first | assumption | rfl)) (Yi rfl (by first | assumption | rfl))
   | exact res3 rfl (ZP rfl rfl) (Yi rfl (by first | assumption | rfl)) (ZP rfl rfl)
   | exact res3 rfl (ZP rfl rfl) (ZP rfl rfl) (Yu rfl)
   | exact res3 rfl (ZP rfl rfl) (ZP rfl rfl) (Yi rfl (by first | assumption | rfl))
   | exact res3 rfl (ZP rfl rfl) (ZP rfl rfl) (ZP rfl rfl))
  (hle : ρ0.le ρ := by first | assumption | exact Hp.le_refl _ | (refine Hp.le_trans ?_ (by assumption); assumption) | solve_by_elim (maxDepth := 6) [Hp.le_trans]) (k : XS L L' G := by exact tk) (en : Ends G R := by infer_instance) (he : isEnd e = true := by rfl) (hD : x.D = [] := by rfl) (hu : x.u = u := by rfl) :
  TE x e (bodyPostM (Fw none) 0 x.P fn (RK u ρ0 R Post)) E ρ L := te_end he hD hu hr hle k en hp
end
theorem Ym {a b : Bool} (h : a = true ↔ b = true) : Value.bool a = Value.bool b := congrArg _ (Bool.eq_iff_iff.2 h)
class SetN (l : List Value) (off n : Nat) (vs : List Value) (l' : outParam (List Value)) : Prop where
 len : vs.length = n
 fit : off + n ≤ l.length
 out : stc l off vs = l'
instance SetN.nil {l : List Value} : SetN l 0 0 [] l := ⟨rfl, by simp, by simp [stc]⟩
instance SetN.cons {a v : Value} {r vs r' : List Value} {n : Nat} [h : SetN r 0 n vs r'] : SetN (a :: r) 0 (n + 1) (v :: vs) (v :: r') := ⟨by
 have := h.len; simp [this], by have := h.fit; simp at this ⊢; omega, by
 have := h.out
 simp only [stc, List.take_zero, List.nil_append, Nat.zero_add, List.length_cons, List.drop_succ_cons, List.cons_append] at this ⊢
 rw [this]⟩
instance SetN.drop {a : Value} {r vs r' : List Value} {o n : Nat} [h : SetN r o n vs r'] : SetN (a :: r) (o + 1) n vs (a :: r') := ⟨h.len, by
 have := h.fit; simp only [List.length_cons]; omega, by
 have := h.out
 simp only [stc, List.take_succ_cons, List.cons_append] at this ⊢
 rw [show o + 1 + vs.length = (o + vs.length) + 1 by omega, List.drop_succ_cons, this]⟩
class GetQ (pl : List (Nat × Nat)) (i : Nat) (off n : outParam Nat) : Prop where
 out : pl[i]? = some (off, n)
instance GetQ.zero {off n : Nat} {r : List (Nat × Nat)} : GetQ ((off, n) :: r) 0 off n := ⟨rfl⟩
instance GetQ.succ {p : Nat × Nat} {r : List (Nat × Nat)} {i off n : Nat} [h : GetQ r i off n] : GetQ (p :: r) (i + 1) off n := ⟨by simpa using h.out⟩
class CellsL (v : Value) (l : outParam (List Value)) : Prop where
 out : v.cells = ⟨l⟩
instance {l : List Value} : CellsL (.agg ⟨l⟩) l := ⟨rfl⟩
instance {k : IntKind} {n : Int} : CellsL (.int k n) [.int k n] := ⟨rfl⟩
instance {b : Bool} : CellsL (.bool b) [.bool b] := ⟨rfl⟩
instance {s : ByteArray} : CellsL (.string s) [.string s] := ⟨rfl⟩
instance {a : Option Addr} : CellsL (.pointer a) [.pointer a] := ⟨rfl⟩
instance {a : Option Addr} {n c : Nat} : CellsL (.slice a n c) [.slice a n c] := ⟨rfl⟩
instance {m : Option Nat} : CellsL (.map m) [.map m] := ⟨rfl⟩
class BuildM (pl : List (Nat × Nat)) (cells : List Value) (ps : List (Nat × Operand)) (vs : List Value) (out : outParam (List Value)) : Prop where
 out : Instr.fill (pl[·]?) ⟨cells⟩ ((ps.map (·.1)).zip vs) = some ⟨out⟩
instance BuildM.nil {pl : List (Nat × Nat)} {cells : List Value} : BuildM pl cells [] [] cells := ⟨rfl⟩
instance BuildM.cons {pl : List (Nat × Nat)} {cells cells' out : List Value} {i off n : Nat} {o : Operand} {ps : List (Nat × Operand)} {v : Value} {l vs : List Value} [h1 : GetQ pl i off n] [h0 : CellsL v l] [h2 : SetN cells off n l cells'] [h3 : BuildM pl cells' ps vs out] : BuildM pl cells ((i, o) :: ps) (v :: vs) out := ⟨by
 simp only [List.map_cons, List.zip_cons_cons]
 rw [fill_cons (pl := (pl[·]?)) h1.out h0.out h2.len h2.fit, h2.out]
 exact h3.out⟩
theorem y_buildN {x : Cx} {E : Env} {ρ : Hp} {L : SH} {ty : TypeId} {t : Nat} {pl : List (Nat × Nat)} {z out : List Value} {ps : List (Nat × Operand)} {vs : List Value} [hP : ZO x.P t (pl[·]?)] [hz : Zt x.P t (.agg ⟨z⟩)] (hv : evs E (ps.map (·.2)) = some vs) [hB : BuildM pl z ps vs out] :
  Yl x (.build t ⟨ps⟩) ty E ρ L (.agg ⟨out⟩) := Wl hv hB.out
theorem bq2 {a b c d : Int} : ((a == b) = (c == d)) ↔ (a = b ↔ c = d) := by
 rw [Bool.eq_iff_iff, beq_iff_eq, beq_iff_eq]
theorem bqt {a b : Int} : (true = (a == b)) ↔ a = b := by
 rw [eq_comm, beq_iff_eq]
theorem bqf {a b : Int} : (false = (a == b)) ↔ ¬ a = b := by
 rw [eq_comm, beq_eq_false_iff_ne]
end Go.Proofs.E
namespace Go.Proofs.E
open Go
set_option linter.unusedVariables false
set_option linter.unusedSimpArgs false
section
variable {x : Cx} {Q : Exit → Act → World → Prop} {E : Env} {ρ : Hp} {L : SH} {ops : Array Oper} {rest : List Oper} {ty : TypeId} {pos : String} {af : Array Edge}
theorem tl_eff {d b : Nat} {op : Op} {o o' : Obj} {v : Value} {f : Obj → SH} [hU : Upd b L o f]
  (hr : ∀ a w, Ok x.D x.N E a → Sat x.u ρ L w → w.heap[b]? = some o → (execOp a.eval ⟨some d, op, ty, pos, af, none⟩).run x.P w = .ok (.value v) (putB w b o'))
  (hd : Nat.blt d x.N = true) (hn : Wj op = true) (k : TL x ops rest Q ((d, v) :: E) ρ (f o')) : TL x ops (⟨some d, op, ty, pos, af, none⟩ :: rest) Q E ρ L := fun a w ha hw => by
 refine Yo rfl hn ?_
 obtain ⟨hw2, hb⟩ := hw.upd hU o'
 rw [hr a w ha hw hb]
 exact k _ _ (ha.put (Nat.le_of_ble_eq_true hd) _) hw2
theorem tl_eff0 {b : Nat} {op : Op} {o o' : Obj} {v : Value} {f : Obj → SH} [hU : Upd b L o f]
  (hr : ∀ a w, Ok x.D x.N E a → Sat x.u ρ L w → w.heap[b]? = some o → (execOp a.eval ⟨none, op, ty, pos, af, none⟩).run x.P w = .ok (.value v) (putB w b o'))
  (hn : Wj op = true) (k : TL x ops rest Q E ρ (f o')) : TL x ops (⟨none, op, ty, pos, af, none⟩ :: rest) Q E ρ L := fun a w ha hw => by
 refine Yo rfl hn ?_
 obtain ⟨hw2, hb⟩ := hw.upd hU o'
 rw [hr a w ha hw hb]
 exact k _ _ (ha.put_none _) hw2
theorem run_storeCells_stc {P : Program} {w : World} {b o : Nat} {T : TypeId} {l ys : List Value} (hb : w.heap[b]? = some (.cells ⟨l⟩ T (0, 0))) (hfit : o + ys.length ≤ l.length) (h1 : ys.all (·.oneCell') = true) :
  (storeCells ⟨b, o, none⟩ ys).run P w = .ok () (putB w b (.cells ⟨stc l o ys⟩ T (0, 0))) := by
 have hst := run_storeCells_at P b o T ys 0 ⟨l⟩ w hb (by simpa using hfit) (fun c hc => List.all_eq_true.1 h1 c hc)
 rw [setRow_eq hb] at hst
 simp only [Nat.add_zero] at hst
 exact hst
theorem tl_copyN {d dT sT e sz b o dl dc b2 o2 sl sc : Nat} {T : TypeId} {dst src : Operand} {l ys : List Value} {f : Obj → SH} [hS : ZV x.P dT e] [hZ : ZJ x.P e sz]
  (hdst : ev E dst = some (.slice (some ⟨b, o, none⟩) dl dc)) (hs : ev E src = some (.slice (some ⟨b2, o2, none⟩) sl sc)) [hU : Upd b L (.cells ⟨l⟩ T (0, 0)) f] (hsrc : Src x ρ L b2 o2 ys) (hlen : ys.length = min sl dl * sz)
  (h1 : ys.all (·.oneCell') = true) (hfit : o + ys.length ≤ l.length) (hd : Nat.blt d x.N = true)
  (k : TL x ops rest Q ((d, .int .i64 (min sl dl : Nat)) :: E) ρ (f (.cells ⟨stc l o ys⟩ T (0, 0)))) :
  TL x ops (⟨some d, .call { callee := .builtin .copy, args := #[dst, src], argTypes := #[dT, sT] }, ty, pos, af, none⟩ :: rest) Q E ρ L := by
 refine tl_eff (hU := hU) (o' := .cells ⟨stc l o ys⟩ T (0, 0)) (fun a w ha hw hb => ?_) hd rfl k
 obtain ⟨inf, g1, g2⟩ := hZ.out
 subst g2
 have hf := run_firstCells_some (P := x.P) w inf.size (min sl dl) ⟨b2, o2, none⟩ sl sc ys hlen (fun j v hj => by rw [Yz]; exact hsrc w hw j v hj)
 have hst := run_storeCells_stc (P := x.P) hb hfit h1
 have hr : (Builtin.copy_ #[dT, sT] ty #[.slice (some ⟨b, o, none⟩) dl dc, .slice (some ⟨b2, o2, none⟩) sl sc]).run x.P w = .ok (goInt (min sl dl : Nat)) (putB w b (.cells ⟨stc l o ys⟩ T (0, 0))) := by
  have hm : Nat.min sl dl = min sl dl := rfl
  simp [Builtin.copy_, run_underlying hS.out, sizeOf, typeInfo, g1, Builtin.lenOf, hm, hf, hst]
 simp only [execOp, resolve, Sem.run_bind, Sem.run_pure, Result.andThen_ok, invoke, builtin]
 have hargs : Array.map a.eval #[dst, src] = #[.slice (some ⟨b, o, none⟩) dl dc, .slice (some ⟨b2, o2, none⟩) sl sc] := by simp [ha.eval hdst, ha.eval hs]
 rw [hargs, hr]
 rfl
theorem run_append_grow_zeros {P : Program} (w : World) (t tn ty e : TypeId) (i : TypeInfo) (z : Value) (k kn : IntKind) (ht : P.underlying t = some (.slice e)) (htn : P.underlying tn = some (.int kn)) (hi : P.info? e = some i) (hz : i.zero = some z)
  (b : Addr) (sLen sCap : Nat) (olds : List Value) (hlo : olds.length = sLen * i.size) (holds : ∀ j v, olds[j]? = some v → w.cell? (b.add j) = some v)
  (n : Nat) (h0 : 0 < n) (hs : 0 < i.size) (hg : sCap < sLen + n) (h63 : ((sLen + n : Nat) : Int) ≤ 9223372036854775807) (hfit : Builtin.nextslicecap (sLen + n) sCap * i.bytes ≤ 281474976710656) (h48 : n * i.bytes ≤ 281474976710656) :
  (Builtin.append_ #[t, tn] ty #[.slice (some b) sLen sCap, .int k n]).run P w =
   .ok (.slice (some ⟨w.heap.size, 0, none⟩) (sLen + n) (grownCap w (sLen + n) sCap e))
    (w.drew.alloc (.cells (olds.toArray ++ Builtin.zeroCells z.cells n ++ Builtin.zeroCells z.cells (grownCap w (sLen + n) sCap e - (sLen + n))) e)) := by
 have hn : ¬ (sLen + n ≤ sCap) := by omega
 have hw : IntKind.i64.wrap (n : Int) = n := by rw [IntKind.wrap_i64]; omega
 have h63' : ¬ (9223372036854775807 < ((sLen : Int) + (n : Int))) := by omega
 have h48' : ¬ (281474976710656 < Builtin.nextslicecap (sLen + n) sCap * i.bytes) := by omega
 have h48i : ¬ (281474976710656 < (n : Int) * (i.bytes : Int)) := by rw [← Int.natCast_mul]; omega
 have hneg : ¬ ((n : Int) < 0) := by omega
 have hns : ¬ (n * i.size = 0) := Nat.mul_ne_zero (by omega) (by omega)
 have hn0 : n ≠ 0 := by omega
 have hfo := run_firstCells_some (P := P) w.drew i.size sLen b sLen sCap olds hlo (by simpa using holds)
 simp [Builtin.append_, run_underlying ht, run_underlying htn, sizeOf, typeInfo, zeroValue, hi, hz, asInt, asIntOf, hw, hn, hn0, hneg, hns, h63', h48', h48i, Question.forced, hfo, newRow, grownCap]
theorem tl_appZ {d t tn e sz by' i n cap b : Nat} {s y : Operand} {k kn : IntKind} {z : Value} {olds : List Value} [hS : ZV x.P t e] [hN : Xa x.P tn kn] [hZ : ZJ x.P e sz] [hB : Zr x.P e by'] [hz : Zt x.P e z]
  (hs : ev E s = some (.slice (some ⟨b, 0, none⟩) i cap)) (hy : ev E y = some (.int k (n : Int))) (hsrc : Src x ρ L b 0 olds) (hlen : olds.length = i * sz) (h0 : 0 < n) (hsz : 0 < sz) (hzs : z.cells.toList.length = sz)
  (hg : cap < i + n) (hb : (i + n) * by' ≤ 140737488355328) (hm : i + n ≤ 9223372036854775807) (hd : Nat.blt d x.N = true)
  (kk : ∀ b' c' ws, i + n ≤ c' → ws.length = (c' - i) * sz → TL x ops rest Q ((d, .slice (some ⟨b', 0, none⟩) (i + n) c') :: E) ρ ([(b', .cells ⟨olds ++ ws⟩ e (0, 0))] :: L)) :
  TL x ops (⟨some d, .call { callee := .builtin .append, args := #[s, y], argTypes := #[t, tn] }, ty, pos, af, none⟩ :: rest) Q E ρ L := fun a w ha hw => by
 refine Yo rfl rfl ?_
 obtain ⟨inf, g1, g2⟩ := hZ.out
 obtain ⟨i2, g3, g4⟩ := hB.out
 obtain ⟨i3, g5, g6⟩ := hz.out
 rw [g1] at g3 g5
 cases g3; cases g5
 subst g2; subst g4
 have hzs' : z.cells.size = inf.size := by simpa using hzs
 have hbn : n * inf.bytes ≤ 140737488355328 := Nat.le_trans (Nat.mul_le_mul_right _ (by omega)) hb
 have hr := run_append_grow_zeros (P := x.P) w t tn ty e inf z k kn hS.out hN.out g1 g6 ⟨b, 0, none⟩ i cap olds hlen (fun j v hj => by rw [Yz]; exact hsrc w hw j v hj) n h0 hsz hg (by omega) (growslice_fits (by omega) hb) (by omega)
 have he : (execOp a.eval ⟨some d, .call { callee := .builtin .append, args := #[s, y], argTypes := #[t, tn] }, ty, pos, af, none⟩).run x.P w = .ok (.value (.slice (some ⟨w.heap.size, 0, none⟩) (i + n) (grownCap w (i + n) cap e)))
   (w.drew.alloc (.cells (olds.toArray ++ Builtin.zeroCells z.cells n ++ Builtin.zeroCells z.cells (grownCap w (i + n) cap e - (i + n))) e)) := by
  simp only [execOp, resolve, Sem.run_bind, Sem.run_pure, Result.andThen_ok, invoke, builtin]
  have hargs : Array.map a.eval #[s, y] = #[.slice (some ⟨b, 0, none⟩) i cap, .int k n] := by simp [ha.eval hs, ha.eval hy]
  rw [hargs, hr]
  rfl
 rw [he]
 have hgc : i + n ≤ grownCap w (i + n) cap e := by simp only [grownCap, Question.cut]; omega
 have hzl : ∀ c, (Builtin.zeroCells z.cells c).toList.length = c * inf.size := fun c => by
  have := size_zeroCells z.cells c
  rw [hzs'] at this; simpa using this
 have hs2 := (hw.drew).new (.cells (olds.toArray ++ Builtin.zeroCells z.cells n ++ Builtin.zeroCells z.cells (grownCap w (i + n) cap e - (i + n))) e (0, 0))
 refine kk w.heap.size (grownCap w (i + n) cap e) ((Builtin.zeroCells z.cells n).toList ++ (Builtin.zeroCells z.cells (grownCap w (i + n) cap e - (i + n))).toList) hgc ?_ _ _ (ha.put (Nat.le_of_ble_eq_true hd) _) ?_
 ·rw [List.length_append, hzl, hzl, ← Nat.add_mul]
  congr 1; omega
 ·have : (⟨olds ++ ((Builtin.zeroCells z.cells n).toList ++ (Builtin.zeroCells z.cells (grownCap w (i + n) cap e - (i + n))).toList)⟩ : Array Value) = olds.toArray ++ Builtin.zeroCells z.cells n ++ Builtin.zeroCells z.cells (grownCap w (i + n) cap e - (i + n)) := by
   apply Array.ext'; simp
  rw [this]
  exact hs2
theorem tl_overlaps {d f t e sz b o la ca b2 o2 lb cb : Nat} {s y : Operand} {ats : Array TypeId} {fn : Func} {l l2 : List Value} {T T2 tR : TypeId} (hs : ev E s = some (.slice (some ⟨b, o, none⟩) la ca)) (hy : ev E y = some (.slice (some ⟨b2, o2, none⟩) lb cb))
  [hS : ZV x.P t e] [hZ : ZJ x.P e sz] [hF : Find b L (.cells ⟨l⟩ T (0, 0))] [hF2 : Find b2 L (.cells ⟨l2⟩ T2 (0, 0))] (hlen : l.length ≠ l2.length) (hl2 : l2 ≠ [])
  (hf : x.P.funcs[f]? = some fn) (hn : (fn.name == "runtime.NumGoroutine") = false) (hb : fn.body.isNone = true) (hx : Extern.findNext fn = none) (he : Extern.find fn = some (Extern.SlicesOverlaps.overlaps #[t, t] #[tR])) (hd : Nat.blt d x.N = true)
  (k : TL x ops rest Q ((d, .bool false) :: E) ρ L) :
  TL x ops (⟨some d, .call { callee := .value (.func f), args := #[s, y], argTypes := ats }, ty, pos, af, none⟩ :: rest) Q E ρ L := fun a w ha hw => by
 refine Yo rfl rfl ?_
 have h1 := hw.find hF
 have h2 := hw.find hF2
 have hne : b ≠ b2 := fun e => by
  subst e
  rw [h1] at h2
  have := (Obj.cells.inj (Option.some.inj h2)).1
  exact hlen (by rw [Array.mk.inj this])
 obtain ⟨inf, g1, g2⟩ := hZ.out
 have hov := Go.Lib.run_overlaps_apart (P := x.P) w t tR e hS.out sz (fun w => by simp [sizeOf, typeInfo, g1, g2]) ⟨b, o, none⟩ ⟨b2, o2, none⟩ la ca lb cb hne T T2 l.length l2.length
  (by simp [World.shape?, h1]) (by simp [World.shape?, h2]) (by simpa using hl2) (by simp [World.frozen?, h1]) (by simp [World.frozen?, h1])
 have hcall := run_callFunc_extern hf hn hb hx he #[.slice (some ⟨b, o, none⟩) la ca, .slice (some ⟨b2, o2, none⟩) lb cb] w
 rw [hov] at hcall
 simp only [Result.andThen] at hcall
 have hargs : Array.map a.eval #[s, y] = #[.slice (some ⟨b, o, none⟩) la ca, .slice (some ⟨b2, o2, none⟩) lb cb] := by simp [ha.eval hs, ha.eval hy]
 have hexec : (execOp a.eval ⟨some d, .call { callee := .value (.func f), args := #[s, y], argTypes := ats }, ty, pos, af, none⟩).run x.P w = .ok (.value (.bool false)) w := by
  simp only [execOp, resolve, hargs, Act.eval, Deferred.ofValue, Sem.run_bind, Sem.run_pure, Result.andThen_ok, invoke]
  simpa using hcall
 rw [hexec]
 exact k _ _ (ha.put (Nat.le_of_ble_eq_true hd) _) hw
theorem XC {α : Type} {g : α → List Value} {sz : Nat} (hg : ∀ x, (g x).length = sz) (l : List α) : ((l.map g).flatten).length = l.length * sz := by
 induction l with
 | nil => simp
 | cons a r ih => simp only [List.map_cons, List.flatten_cons, List.length_append, List.length_cons, hg, ih, Nat.add_mul]; omega
theorem flatN_take {α : Type} {g : α → List Value} {sz : Nat} (hg : ∀ x, (g x).length = sz) : ∀ (l : List α) (k : Nat), ((l.map g).flatten).take (k * sz) = ((l.take k).map g).flatten
 | [], k => by simp
 | a :: r, 0 => by simp
 | a :: r, k + 1 => by
  simp only [List.map_cons, List.flatten_cons, List.take_succ_cons]
  rw [List.take_append, hg, List.take_of_length_le (by rw [hg, Nat.add_mul]; omega), show (k + 1) * sz - sz = k * sz by rw [Nat.add_mul]; omega, flatN_take hg r k]
theorem flatN_drop {α : Type} {g : α → List Value} {sz : Nat} (hg : ∀ x, (g x).length = sz) : ∀ (l : List α) (k : Nat), ((l.map g).flatten).drop (k * sz) = ((l.drop k).map g).flatten
 | [], k => by simp
 | a :: r, 0 => by simp
 | a :: r, k + 1 => by
  simp only [List.map_cons, List.flatten_cons, List.drop_succ_cons]
  rw [List.drop_append, hg, List.drop_of_length_le (by rw [hg, Nat.add_mul]; omega), show (k + 1) * sz - sz = k * sz by rw [Nat.add_mul]; omega, flatN_drop hg r k, List.nil_append]
theorem stcN_mid {A B B' C : List Value} (h : B'.length = B.length) : stc (A ++ (B ++ C)) A.length B' = A ++ (B' ++ C) := by
 unfold stc
 rw [List.take_left' rfl, h, List.append_assoc]
 congr 2
 rw [← List.append_assoc, List.drop_left' (by simp)]
end
end Go.Proofs.E
namespace Go.Proofs.E
open Go
set_option linter.unusedVariables false
theorem Spec.thaw {P : Program} {f : FuncId} {args : List Value} {ρ : Hp} {C L : SH} {Post : Value → SH → Prop} (h : ∀ ρ1, ρ.le ρ1 → (∀ p ∈ C.flatten, ρ1 p.1 = some p.2) → Spec P f args ρ1 L (fun v ρ' L' => ρ' = ρ1 ∧ Post v L')) :
  Spec P f args ρ (C ++ L) (fun v ρ' L' => ρ' = ρ ∧ ∃ L2, Post v L2 ∧ L' = C ++ L2) := fun u R w hw => by
 have hw1 : Sat u ρ (C.flatten :: (L ++ R)) w := hw.perm (by simp)
 obtain ⟨h1, hle, hf⟩ := hw1.freeze
 have hap : ∀ p ∈ C.flatten, ρ p.1 = none := fun p hp => hw1.apart p (by simp only [List.flatten_cons, List.mem_append]; exact .inl hp)
 have hnd := hw1.nodup
 simp only [List.flatten_cons, List.map_append, List.nodup_append] at hnd
 refine (h _ hle hf u R w h1).mono ?_
 rintro e w' ⟨v, ρ', L', h2, h3, h4, rfl, h5⟩
 refine ⟨v, ρ, C ++ L', h2, Hp.le_refl _, ?_, rfl, L', h5, rfl⟩
 have hne : ∀ p ∈ (L' ++ R).flatten, ∀ q ∈ C.flatten, p.1 ≠ q.1 := fun p hp q hq e => by
  have a1 := h4.apart p hp
  rw [e, hf q hq] at a1
  cases a1
 have key : Sat u ρ (C.flatten :: (L' ++ R)) w' := by
  refine ⟨h4.os, h4.tape, h4.output, ?_, ?_, ?_, fun b o hb => h4.imm b o (hle b o hb)⟩
  ·simp only [List.flatten_cons, List.map_append, List.nodup_append]
   refine ⟨hnd.1, ?_, ?_⟩
   ·have := h4.nodup
    simpa [List.nodup_append] using this
   ·intro a ha b hb e
    obtain ⟨q, hq, rfl⟩ := List.mem_map.1 ha
    obtain ⟨p, hp, rfl⟩ := List.mem_map.1 (by simpa using hb : b ∈ List.map Prod.fst (L' ++ R).flatten)
    exact hne p hp q hq e.symm
  ·intro p hp
   simp only [List.flatten_cons, List.mem_append] at hp
   rcases hp with hp | hp
   ·exact h4.imm _ _ (hf p hp)
   ·exact h4.here p (by simpa using hp)
  ·intro p hp
   simp only [List.flatten_cons, List.mem_append] at hp
   rcases hp with hp | hp
   ·exact hap p hp
   ·have a1 := h4.apart p (by simpa using hp)
    cases hx : ρ p.1 with
    | none => rfl
    | some o => rw [hle _ _ hx] at a1; cases a1
 exact key.perm (by simp)
end Go.Proofs.E
namespace Go.Proofs.E
open Go Go.Lib
set_option linter.unusedVariables false
set_option linter.unusedSimpArgs false
set_option linter.unusedSectionVars false
section
variable {x : Cx} {Q : Exit → Act → World → Prop} {E : Env} {ρ : Hp} {L L1 : SH} {ops : Array Oper} {rest : List Oper} {ty : TypeId} {pos : String} {af : Array Edge}
theorem GetL.get {l : List Value} {d : Nat} {v : Value} (h : GetL l d v) : l[d]? = some v := h.out
theorem stc_midP {P l S l' : List Value} {o d : Nat} {vs : List Value} (hP : P.length = o) (hd : d + vs.length ≤ l.length) (h : stc l d vs = l') : stc (P ++ (l ++ S)) (o + d) vs = P ++ (l' ++ S) := by
 subst h
 unfold stc
 subst hP
 rw [List.take_append, List.take_of_length_le (by omega), Nat.add_sub_cancel_left, List.take_append_of_le_length (by omega), Nat.add_assoc, List.drop_append, List.drop_of_length_le (show P.length ≤ P.length + (d + vs.length) by omega), Nat.add_sub_cancel_left, List.drop_append_of_le_length hd]
 simp only [List.nil_append, List.append_assoc]
theorem tl_store_mid {t b o d : Nat} {q p : Operand} {P l l' S : List Value} {T : TypeId} {v : Value} {f : Obj → SH} (ho : ev E q = some (.pointer (some ⟨b, o + d, none⟩))) (hp : ev E p = some v) (hP : P.length = o) (h1 : v.oneCell' = true) [hZ : ZJ x.P t 1] [hU : Upd b L (.cells ⟨P ++ (l ++ S)⟩ T (0, 0)) f]
  [hS : SetL l d v l'] (k : TL x ops rest Q E ρ (f (.cells ⟨P ++ (l' ++ S)⟩ T (0, 0)))) :
  TL x ops (⟨none, .store t q p, ty, pos, af, none⟩ :: rest) Q E ρ L := by
 refine tl_store_s ho hp h1 (ble_le (by have := hS.out.1; simp only [List.length_append]; omega)) ?_
 rw [stc_midP hP (by have := hS.out.1; simp only [List.length_singleton]; omega) hS.out.2]
 exact k
theorem tl_store_midA {t b o n : Nat} {q p : Operand} {P l vs S : List Value} {T : TypeId} {f : Obj → SH} (ho : ev E q = some (.pointer (some ⟨b, o, none⟩))) (hp : ev E p = some (.agg ⟨vs⟩)) (hP : P.length = o) (hl : l.length = n) (hn : vs.length = n) (h1 : vs.all (·.oneCell') = true) [hZ : ZJ x.P t n] [hU : Upd b L (.cells ⟨P ++ (l ++ S)⟩ T (0, 0)) f]
  (k : TL x ops rest Q E ρ (f (.cells ⟨P ++ (vs ++ S)⟩ T (0, 0)))) :
  TL x ops (⟨none, .store t q p, ty, pos, af, none⟩ :: rest) Q E ρ L := by
 refine tl_store_a ho hp hn h1 (ble_le (by simp only [List.length_append]; omega)) ?_
 have := stc_midP (P := P) (l := l) (S := S) (o := o) (d := 0) (vs := vs) (l' := vs) hP (by omega) (by simp [stc, hn, ← hl])
 rw [Nat.add_zero] at this
 rw [this]
 exact k
theorem tl_clearN {t e sz b o c n : Nat} {s : Operand} {T : TypeId} {l : List Value} {z : Value} {f : Obj → SH} [hS : ZV x.P t e] [hz : Zt x.P e z]
  (hs : ev E s = some (.slice (some ⟨b, o, none⟩) n c)) [hU : Upd b L (.cells ⟨l⟩ T (0, 0)) f] (hzs : z.cells.toList.length = sz) (h1 : z.cells.toList.all (·.oneCell') = true) (hfit : o + n * sz ≤ l.length) (hn : 0 < n)
  (k : ∀ ws : List Value, ws.length = n * sz → TL x ops rest Q E ρ (f (.cells ⟨stc l o ws⟩ T (0, 0)))) :
  TL x ops (⟨none, .call { callee := .builtin .clear, args := #[s], argTypes := #[t] }, ty, pos, af, none⟩ :: rest) Q E ρ L := by
 have hzl : (Builtin.zeroCells z.cells n).toList.length = n * sz := by
  simp only [Builtin.zeroCells, Array.toList_map, Array.toList_range, List.length_map, List.length_range]
  rw [← hzs, Array.length_toList]
 have hzo : (Builtin.zeroCells z.cells n).toList.all (·.oneCell') = true := by
  rw [List.all_eq_true]
  intro v hv
  simp only [Builtin.zeroCells, Array.toList_map, Array.toList_range, List.mem_map, List.mem_range] at hv
  obtain ⟨j, hj, rfl⟩ := hv
  have hpos : 0 < z.cells.size := Nat.pos_of_ne_zero (fun e => by rw [e] at hj; simp at hj)
  have hlt := Nat.mod_lt j hpos
  refine List.all_eq_true.1 h1 _ ?_
  simp [hlt]
 refine tl_eff0 (hU := hU) (v := .tuple #[]) (o' := .cells ⟨stc l o (Builtin.zeroCells z.cells n).toList⟩ T (0, 0)) (fun a w ha hw hb => ?_) rfl (k _ hzl)
 have hst := run_storeCells_stc (P := x.P) (ys := (Builtin.zeroCells z.cells n).toList) hb (by rw [hzl]; exact hfit) hzo
 have hr : (Builtin.clear_ #[t] ty #[.slice (some ⟨b, o, none⟩) n c]).run x.P w = .ok (.tuple #[]) (putB w b (.cells ⟨stc l o (Builtin.zeroCells z.cells n).toList⟩ T (0, 0))) := by
  obtain ⟨m, rfl⟩ : ∃ m, n = m + 1 := ⟨n - 1, by omega⟩
  simp [Builtin.clear_, run_underlying hS.out, XV hz, hst]
 simp only [execOp, resolve, Sem.run_bind, Sem.run_pure, Result.andThen_ok, invoke, builtin]
 have hargs : Array.map a.eval #[s] = #[.slice (some ⟨b, o, none⟩) n c] := by simp [ha.eval hs]
 rw [hargs, hr]
 rfl
theorem TE.perm {e : Exit} {L' : SH} (h : TE x e Q E ρ L') (hL : L.flatten.Perm L'.flatten) : TE x e Q E ρ L := fun a w ha hw => h a w ha (hw.perm hL)
theorem TE.sub {e : Exit} {L' : SH} (h : TE x e Q E ρ L') (hL : List.Sublist L'.flatten L.flatten) : TE x e Q E ρ L := fun a w ha hw => h a w ha (hw.sub hL)
theorem TC.sub {c : Code} {L' : SH} (h : TC x c Q E ρ L') (hL : List.Sublist L'.flatten L.flatten) : TC x c Q E ρ L := fun a w ha hw => h a w ha (hw.sub hL)
theorem TL.sub {l : List Oper} {L' : SH} (h : TL x ops l Q E ρ L') (hL : List.Sublist L'.flatten L.flatten) : TL x ops l Q E ρ L := fun a w ha hw => h a w ha (hw.sub hL)
end
end Go.Proofs.E
