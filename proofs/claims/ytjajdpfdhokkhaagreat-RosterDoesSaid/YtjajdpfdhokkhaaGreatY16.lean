/- The law RosterDoes. Part 16 of 20. -/
import Derived.Test.YtjajdpfdhokkhaaGreatY15
namespace Go.Proofs.E
open Go
set_option linter.unusedVariables false
set_option linter.unusedSimpArgs false
set_option linter.unusedSectionVars false
set_option maxRecDepth 4000
set_option maxHeartbeats 1000000
attribute [local irreducible] Yl TL TC TE Spec Wq R1 Hp.le EnvLe TS TR YS Zs
def backX (x : Tx) (to : Nat) (sv mv : SV) : Tx := { x with undo := to, stack := x.stack.filter (fun s => decide (s.lsn ≤ to)), marks := x.marks.filter (fun m => decide (m ≤ to)), sv := sv, mv := mv }
abbrev focC (cb : Nat) (next : Int) (vv : Value) (rv : RV) (r : Rc) (b o : Nat) (P : List Value) (x : Tx) (S ss ms : List Value) : SH := [YQ cb next vv rv r (some ⟨b, o, none⟩), Xt b P x S, WE x ss, Wv x ms]
theorem back_spec (ρ : Hp) (cb : Nat) (next : Int) (vv : Value) (rv : RV) (r : Rc) (b o : Nat) (P : List Value) (x : Tx) (S ss ms : List Value) (hP : P.length = o) (hX : OwnX x ss ms) (hsl : x.stack.length ≤ 1099511627776) (hml : x.marks.length ≤ 100) :
  Spec Tryz.prog 265 [.pointer (some ⟨cb, 0, none⟩)] ρ (focC cb next vv rv r b o P x S ss ms)
   (fun z ρ' L' => ρ' = ρ ∧ ∃ x' ss' ms', x'.p = backT x.p r.next ∧ x'.num = x.num ∧ OwnX x' ss' ms' ∧ L' = focC cb next vv rv r b o P x' S ss' ms') := by
 have hf1 : (fun s : Lf => !decide (r.next < s.lsn)) = (fun s => decide (s.lsn ≤ r.next)) := by
  funext s
  rw [← decide_not]; exact decide_eq_decide.2 (by omega)
 have hf2 : (fun s : Nat => !decide (r.next < s)) = (fun s => decide (s ≤ r.next)) := by
  funext s
  rw [← decide_not]; exact decide_eq_decide.2 (by omega)
 have hd1 := fun pb => delL_spec ρ _ ss x.stack (by omega) hX.s 290 [.pointer (some ⟨pb, 0, none⟩)] [cellC pb cb, YQ cb next vv rv r (some ⟨b, o, none⟩)] (fun s => decide (r.next < s.lsn)) (fun ρ1 _ s _ => back1_spec ρ1 cb next vv rv r (some ⟨b, o, none⟩) pb s)
 have hd2 := fun pb => delU_spec ρ _ ms x.marks (by omega) hX.m 292 [.pointer (some ⟨pb, 0, none⟩)] [cellC pb cb, YQ cb next vv rv r (some ⟨b, o, none⟩)] (fun s => decide (r.next < s)) (fun ρ1 _ s _ => back2_spec ρ1 cb next vv rv r (some ⟨b, o, none⟩) pb s)
 rw [hf1] at hd1
 rw [hf2] at hd2
 refine Zg Tryz.func265 rfl rfl rfl fun u R => ?_
 simp only [Zx, List.cons_append, List.nil_append]
 repeat' (first | (refine ZE ?_; refine Zo (Zd rfl) rfl rfl ?_) | (refine Zj ?_; first | (refine Zf ?_; refine qQ ?_) | refine Zn ?_) | refine Zb ?_ | (refine Zi ?_; refine Zv ?_) | (refine Zh ?_; refine Zu ?_) | intro _)
 rename_i pb
 refine ZD (Zs _ _ ([cellC pb cb, YQ cb next vv rv r (some ⟨b, o, none⟩)])) (Zz (hT := tk) (Hp.le_refl _)) ?_
 all_goals (refine ZX 0 ?_; refine rNc 1 ?_; refine ZS 2 ?_; refine ZX 3 ?_; refine ZX 4 ?_; refine rNc 5 ?_; refine ZS 6 ?_; refine ZS 7 ?_; refine ZX 8 ?_; refine rNc 9 ?_; refine ZS 10 ?_)
 all_goals (refine Zp (i := 11) ?_; ((try refine Zk ?_); (first | (refine ZZ (o := o) (P := P) rfl rfl hP rfl ?_) | (refine Zn ?_; try intro _)) <;> ((try simp only [kM, kN, kO]); refine Zb ?_; refine Zl ?_)))
 all_goals refine ZI ?_
 all_goals (repeat' (first | (refine ZE ?_; refine Zo (Zd rfl) rfl rfl ?_) | (refine Zj ?_; first | (refine Zf ?_; refine qQ ?_) | refine Zn ?_) | refine Zb ?_ | (refine Zi ?_; refine Zv ?_) | (refine Zh ?_; refine Zu ?_) | intro _))
 all_goals have hg5 : (P ++ txQ { x with undo := r.next } S)[o + 5]? = some (.slice x.sv.a x.sv.n x.sv.c) := Wp hP rfl
 all_goals refine Wc 13 (Zs _ _ ([cellC pb cb, YQ cb next vv rv r (some ⟨b, o, none⟩), Xt b P { x with undo := r.next } S])) (by decide +kernel) (Zz (hT := tk) (Hp.le_refl _)) ?_
 all_goals simp only [List.take_succ_cons, List.take_zero]
 all_goals (refine ZX 0 ?_; refine rNc 1 ?_; refine ZS 2 ?_; refine ZX 3 ?_; refine ZX 4 ?_; refine rNc 5 ?_; refine ZS 6 ?_; refine ZX 7 ?_; refine rNc 8 ?_; refine ZS 9 ?_; refine ZX 10 ?_; refine rMf 11 ?_)
 all_goals (refine Zp (i := 12) ?_; ((try refine Zk ?_); (first | (refine Ze (.func 289) ?_; refine qC rfl rfl (hd1 pb) ?_; rintro v ρ' L' hle ⟨rfl, s1, o1, rfl⟩ <;> (try simp only [kM, kN, kO]); obtain ⟨a1, c1, rfl, q1⟩ := o1.slice) | (refine ZZ (o := o) (P := P) rfl rfl hP rfl ?_) | (refine Zn ?_; try intro _)) <;> ((try simp only [kM, kN, kO]); refine Zb ?_; refine Zl ?_)))
 all_goals refine ZI ?_
 all_goals refine Wb (fuel := 3) (m := [true, true, true, true, true, true, true, true, true, true, true, true, true, false, false, false]) (Zs _ _ ([])) rfl rfl (Zz (hT := tk) (Hp.le_refl _)) ?_
 all_goals (refine rNc 13 ?_; refine ZS 14 ?_)
 all_goals (refine Zp (i := 15) ?_; ((try refine Zk ?_); (first | (refine ZZ (o := o) (P := P) rfl rfl hP rfl ?_) | (refine Zn ?_; try intro _)) <;> ((try simp only [kM, kN, kO]); refine Zb ?_; refine Zl ?_)))
 all_goals refine ZI ?_
 all_goals (repeat' (first | (refine ZE ?_; refine Zo (Zd rfl) rfl rfl ?_) | (refine Zj ?_; first | (refine Zf ?_; refine qQ ?_) | refine Zn ?_) | refine Zb ?_ | (refine Zi ?_; refine Zv ?_) | (refine Zh ?_; refine Zu ?_) | intro _))
 all_goals have hg6 : (P ++ txQ { x with undo := r.next, sv := ⟨a1, (x.stack.filter (fun s => decide (s.lsn ≤ r.next))).length, c1⟩ } S)[o + 6]? = some (.slice x.mv.a x.mv.n x.mv.c) := Wp hP rfl
 all_goals refine Wc 13 (Zs _ _ ([cellC pb cb, YQ cb next vv rv r (some ⟨b, o, none⟩), Xt b P { x with undo := r.next, sv := ⟨a1, (x.stack.filter (fun s => decide (s.lsn ≤ r.next))).length, c1⟩ } S])) (by decide +kernel) (Zz (hT := tk) (Hp.le_refl _)) ?_
 all_goals simp only [List.take_succ_cons, List.take_zero]
 all_goals (refine ZX 0 ?_; refine rNc 1 ?_; refine ZS 2 ?_; refine ZX 3 ?_; refine ZX 4 ?_; refine rNc 5 ?_; refine ZS 6 ?_; refine ZX 7 ?_; refine rNc 8 ?_; refine ZS 9 ?_; refine ZX 10 ?_; refine rMf 11 ?_)
 all_goals (refine Zp (i := 12) ?_; ((try refine Zk ?_); (first | (refine Ze (.func 291) ?_; refine qC rfl rfl (hd2 pb) ?_; rintro v ρ' L' hle ⟨rfl, s2, o2, rfl⟩ <;> (try simp only [kM, kN, kO]); obtain ⟨a2, c2, rfl, q2⟩ := o2.slice) | (refine ZZ (o := o) (P := P) rfl rfl hP rfl ?_) | (refine Zn ?_; try intro _)) <;> ((try simp only [kM, kN, kO]); refine Zb ?_; refine Zl ?_)))
 all_goals refine ZI ?_
 all_goals refine Wb (fuel := 3) (m := [true, true, true, true, true, true, true, true, true, true, true, true, true, false, false, false]) (Zs _ _ ([])) rfl rfl (Zz (hT := tk) (Hp.le_refl _)) ?_
 all_goals (refine rNc 13 ?_; refine ZS 14 ?_)
 all_goals (refine Zp (i := 15) ?_; ((try refine Zk ?_); (first | (refine ZZ (o := o) (P := P) rfl rfl hP rfl ?_) | (refine Zn ?_; try intro _)) <;> ((try simp only [kM, kN, kO]); refine Zb ?_; refine Zl ?_)))
 all_goals refine ZI ?_
 all_goals (repeat' (first | (refine ZE ?_; refine Zo (Zd rfl) rfl rfl ?_) | (refine Zj ?_; first | (refine Zf ?_; refine qQ ?_) | refine Zn ?_) | refine Zb ?_ | (refine Zi ?_; refine Zv ?_) | (refine Zh ?_; refine Zu ?_) | intro _))
 all_goals exact qE (L' := focC cb next vv rv r b o P (backX x r.next ⟨a1, _, c1⟩ ⟨a2, _, c2⟩) S s1 s2) ⟨rfl, backX x r.next ⟨a1, _, c1⟩ ⟨a2, _, c2⟩, s1, s2, rfl, rfl, ⟨o1, o2⟩, rfl⟩
def MethR (r : Rc) (cb : Nat) (next : Int) (vv : Value) (rv : RV) (b o : Nat) (P : List Value) (x : Tx) (S : List Value) (may : Bool) (nx : TxP) (ρ : Hp) (z : Value) (ρ' : Hp) (L' : SH) : Prop :=
 ρ.le ρ' ∧ ((may = true ∧ z = .int .i64 0 ∧ ∃ x' ss' ms', x'.p = nx ∧ OwnX x' ss' ms' ∧ L' = focC cb next vv rv r b o P x' S ss' ms') ∨ (may = false ∧ z = .int .i64 2 ∧ ∃ G : SH, L' = G))
theorem mchange_spec (ρ : Hp) (cb : Nat) (next : Int) (vv : Value) (rv : RV) (r : Rc) (b o : Nat) (P : List Value) (x : Tx) (S ss ms : List Value) (hP : P.length = o) (hX : OwnX x ss ms) (hsl : x.stack.length ≤ 1099511627776) (hr : RcIn ρ rv r) (hok : YF r = true) :
  Spec Tryz.prog 216 [.pointer (some ⟨cb, 0, none⟩)] ρ (focC cb next vv rv r b o P x S ss ms)
   (MethR r cb next vv rv b o P x S (WS x.p) (pushT x.p r) ρ) := by
 have hli := live_spec ρ cb next vv rv r b o P x S hP
 have hre := rreserve_spec ρ rv r hr
 unfold MethR
 unfold errN at hre
 rw [if_pos hok] at hre
 refine Zg Tryz.func216 rfl rfl rfl fun u R => ?_
 simp only [Zx, List.cons_append, List.nil_append]
 by_cases hs : x.state = 1
 ·have hlt : WS x.p = true := decide_eq_true hs
  rw [decide_eq_true hs] at hli
  rw [hlt]
  have hg5 : (P ++ txQ { x with undo := r.lsn } S)[o + 5]? = some (.slice x.sv.a x.sv.n x.sv.c) := Wp hP rfl
  have hXs := hX.s
  repeat' (first | (refine Ze (.func 211) ?_; refine qC rfl rfl (hli) ?_; rintro v ρ' L' hle ⟨rfl, rfl, rfl⟩ <;> (try simp only [kM, kN, kO])) | (refine Ze (.func 77) ?_; refine qC rfl rfl (hre) ?_; rintro v ρ' L' hle ⟨hl1, rfl, rfl⟩ <;> (try simp only [kM, kN, kO])) | (refine ZE ?_; refine Zo (Zd rfl) rfl rfl ?_) | (refine Zj ?_; first | (refine Zf ?_; refine qQ ?_) | refine Zn ?_) | refine Zb ?_ | (refine Zi ?_; refine Zv ?_) | (refine Zh ?_; refine Zu ?_) | intro _)
  refine ZD (Zs _ _ ([YQ cb next vv rv r (some ⟨b, o, none⟩)])) (Zz (hT := tk) (Hp.le_refl _)) ?_
  all_goals (refine ZT 0 ?_; refine rNc 1 ?_; refine ZS 2 ?_; refine ZX 3 ?_; refine ZT 4 ?_; refine rNc 5 ?_; refine ZS 6 ?_; refine ZS 7 ?_; refine ZX 8 ?_; refine rNc 9 ?_; refine ZS 10 ?_)
  all_goals (refine Zp (i := 11) ?_; ((try refine Zk ?_); (first | (refine ZZ (o := o) (P := P) rfl rfl hP rfl ?_) | (refine Zn ?_; try intro _)) <;> ((try simp only [kM, kN, kO]); refine Zb ?_; refine Zl ?_)))
  all_goals refine ZI ?_
  all_goals (repeat' (first | (refine ZE ?_; refine Zo (Zd rfl) rfl rfl ?_) | (refine Zj ?_; first | (refine Zf ?_; refine qQ ?_) | refine Zn ?_) | refine Zb ?_ | (refine Zi ?_; refine Zv ?_) | (refine Zh ?_; refine Zu ?_) | intro _))
  all_goals refine Wc 20 (Zs _ _ ([YQ cb next vv rv r (some ⟨b, o, none⟩), Xt b P { x with undo := r.lsn } S])) (by decide +kernel) (Zz (hT := tk) (Hp.le_refl _)) ?_
  all_goals simp only [List.take_succ_cons, List.take_zero]
  all_goals (refine ZT 0 ?_; refine rNc 1 ?_; refine ZS 2 ?_; refine ZX 3 ?_; refine ZT 4 ?_; refine rNc 5 ?_; refine ZS 6 ?_; refine ZX 7 ?_; refine rNc 8 ?_; refine ZS 9 ?_; refine ZX 10 ?_; refine ZT 11 ?_; refine rNc 12 ?_; refine ZS 13 ?_; refine ZS 14 ?_; refine ZX 15 ?_; refine ZT 16 ?_)
  all_goals refine rBu 17 ?_ (y := fun _ _ => Zd rfl)
  all_goals (refine Zp (i := 18) ?_; ((try refine Zk ?_); (first | (refine ZL (css := [lfV (Xq r)]) (sz := 2) rfl rfl rfl rfl (by simp) (by simp) rfl (fun bs => ?_); simp only [List.flatten_cons, List.flatten_nil, List.append_nil]) | (refine Zn ?_; try intro _)) <;> ((try simp only [kM, kN, kO]); refine Zb ?_; refine Zl ?_)))
  all_goals (refine Zp (i := 19) ?_; ((try refine Zk ?_); (first | (refine ZL (css := [lfV (Xq r)]) (sz := 2) rfl rfl rfl rfl (by simp) (by simp) rfl (fun bs => ?_); simp only [List.flatten_cons, List.flatten_nil, List.append_nil]) | (refine ZV (ys := lfV (Xq r)) (m := 1) rfl rfl hXs (hR := by infer_instance) SrcV.lit rfl rfl (by decide) rfl (by omega) (by omega) rfl (fun v' sp' hown' => ?_); obtain ⟨a1, c1, rfl, q1⟩ := hown'.slice) | (refine Zn ?_; try intro _)) <;> ((try simp only [kM, kN, kO]); refine Zb ?_; refine Zl ?_)))
  all_goals refine ZI ?_
  all_goals refine Wb (fuel := 3) (m := [true, true, true, true, true, true, true, true, true, true, true, true, true, true, true, true, true, true, true, true, false, false, false]) (Zs _ _ ([])) rfl rfl (Zz (hT := tk) (Hp.le_refl _)) ?_
  all_goals (refine rNc 20 ?_; refine ZS 21 ?_)
  all_goals (refine Zp (i := 22) ?_; ((try refine Zk ?_); (first | (refine ZZ (o := o) (P := P) rfl rfl hP rfl ?_) | (refine Zn ?_; try intro _)) <;> ((try simp only [kM, kN, kO]); refine Zb ?_; refine Zl ?_)))
  all_goals refine ZI ?_
  all_goals (repeat' (first | (refine ZE ?_; refine Zo (Zd rfl) rfl rfl ?_) | (refine Zj ?_; first | (refine Zf ?_; refine qQ ?_) | refine Zn ?_) | refine Zb ?_ | (refine Zi ?_; refine Zv ?_) | (refine Zh ?_; refine Zu ?_) | intro _))
  all_goals have hm : (x.stack.map lfV).flatten ++ lfV (Xq r) = ((x.stack ++ [Xq r]).map lfV).flatten := by simp
  all_goals rw [hm] at hown' ⊢
  all_goals exact qE (L' := focC cb next vv rv r b o P { x with undo := r.lsn, stack := x.stack ++ [Xq r], sv := ⟨a1, x.stack.length + 1, c1⟩ } S sp' ms) ⟨hl1, .inl ⟨by trivial, rfl, { x with undo := r.lsn, stack := x.stack ++ [Xq r], sv := ⟨a1, x.stack.length + 1, c1⟩ }, sp', ms, rfl, ⟨by rw [List.length_append]; exact hown', hX.m⟩, rfl⟩⟩
 ·have hlt : WS x.p = false := decide_eq_false hs
  rw [decide_eq_false hs] at hli
  rw [hlt]
  repeat' (first | (refine Ze (.func 211) ?_; refine qC rfl rfl (hli) ?_; rintro v ρ' L' hle ⟨rfl, rfl, rfl⟩ <;> (try simp only [kM, kN, kO])) | (refine ZE ?_; refine Zo (Zd rfl) rfl rfl ?_) | (refine Zj ?_; first | (refine Zf ?_; refine qQ ?_) | refine Zn ?_) | refine Zb ?_ | (refine Zi ?_; refine Zv ?_) | (refine Zh ?_; refine Zu ?_) | intro _)
  exact qE (L' := []) ⟨Hp.le_refl _, .inr ⟨by trivial, rfl, [], rfl⟩⟩
variable (ρ : Hp) (cb : Nat) (next : Int) (vv : Value) (rv : RV) (r : Rc) (b o : Nat) (P : List Value) (x : Tx) (S ss ms : List Value)
theorem mnested_spec (hP : P.length = o) (hX : OwnX x ss ms) (hsl : x.stack.length ≤ 1099511627776) (hml : x.marks.length ≤ 100) :
  Spec Tryz.prog 217 [.pointer (some ⟨cb, 0, none⟩)] ρ (focC cb next vv rv r b o P x S ss ms)
   (MethR r cb next vv rv b o P x S (WS x.p && XE x.p r) (backT x.p r.next) ρ) := by
 have hli := live_spec ρ cb next vv rv r b o P x S hP
 have hwi := within_spec ρ cb next vv rv r b o P x S hP
 have hba := back_spec ρ cb next vv rv r b o P x S ss ms hP hX hsl hml
 have hne := fun b0 => needB_spec ρ b0 2 [WS x.p, XE x.p r] (by simp) rfl
 rw [show decide (x.state = 1) = WS x.p from rfl] at hli
 unfold MethR
 generalize WS x.p = l1 at *
 generalize XE x.p r = w1 at *
 refine Zg Tryz.func217 rfl rfl rfl fun u R => ?_
 simp only [Zx, List.cons_append, List.nil_append]
 have hall : ([l1, w1].all id) = (l1 && w1) := by simp
 rw [hall] at hne
 cases hm : (l1 && w1)
 ·rw [hm] at hne
  simp only [Bool.false_eq_true, if_false] at hne
  repeat' (first | (refine Ze (.func 211) ?_; refine qC rfl rfl (hli) ?_; rintro v ρ' L' hle ⟨rfl, rfl, rfl⟩ <;> (try simp only [kM, kN, kO])) | (refine Ze (.func 264) ?_; refine qC rfl rfl (hwi) ?_; rintro v ρ' L' hle ⟨rfl, rfl, rfl⟩ <;> (try simp only [kM, kN, kO])) | (refine Zr rfl rfl rfl rfl (by simp) rfl rfl (fun bs => ?_)) | (refine Ze (.func 263) ?_; refine qC rfl rfl (hne _) ?_; rintro v ρ' L' hle ⟨rfl, rfl, rfl⟩ <;> (try simp only [kM, kN, kO])) | (refine ZE ?_; refine Zo (Zd rfl) rfl rfl ?_) | (refine Zj ?_; first | (refine Zf ?_; refine qQ ?_) | refine Zn ?_) | refine Zb ?_ | (refine Zi ?_; refine Zv ?_) | (refine Zh ?_; refine Zu ?_) | intro _)
  exact qE (L' := []) ⟨Hp.le_refl _, .inr ⟨by trivial, rfl, [], rfl⟩⟩
 ·rw [hm] at hne
  simp only [if_true] at hne
  repeat' (first | (refine Ze (.func 211) ?_; refine qC rfl rfl (hli) ?_; rintro v ρ' L' hle ⟨rfl, rfl, rfl⟩ <;> (try simp only [kM, kN, kO])) | (refine Ze (.func 264) ?_; refine qC rfl rfl (hwi) ?_; rintro v ρ' L' hle ⟨rfl, rfl, rfl⟩ <;> (try simp only [kM, kN, kO])) | (refine Zr rfl rfl rfl rfl (by simp) rfl rfl (fun bs => ?_)) | (refine Ze (.func 263) ?_; refine qC rfl rfl (hne _) ?_; rintro v ρ' L' hle ⟨rfl, rfl, rfl⟩ <;> (try simp only [kM, kN, kO])) | (refine Ze (.func 265) ?_; refine qC rfl rfl (hba) ?_; rintro v ρ' L' hle ⟨rfl, x', ss', ms', e1, e2, hX', rfl⟩ <;> (try simp only [kM, kN, kO])) | (refine ZE ?_; refine Zo (Zd rfl) rfl rfl ?_) | (refine Zj ?_; first | (refine Zf ?_; refine qQ ?_) | refine Zn ?_) | refine Zb ?_ | (refine Zi ?_; refine Zv ?_) | (refine Zh ?_; refine Zu ?_) | intro _)
  exact qE (L' := focC cb next vv rv r b o P x' S ss' ms') ⟨Hp.le_refl _, .inl ⟨by trivial, rfl, x', ss', ms', e1, hX', rfl⟩⟩
theorem mdone_spec (hP : P.length = o) (hX : OwnX x ss ms) (hsl : x.stack.length ≤ 1099511627776) (hml : x.marks.length ≤ 100) (hr : RcIn ρ rv r) (hok : YF r = true) :
  Spec Tryz.prog 218 [.pointer (some ⟨cb, 0, none⟩)] ρ (focC cb next vv rv r b o P x S ss ms)
   (MethR r cb next vv rv b o P x S (WS x.p && XE x.p r) (pushT (backT x.p r.next) r) ρ) := by
 have hne := mnested_spec ρ cb next vv rv r b o P x S ss ms hP hX hsl hml
 unfold MethR at hne ⊢
 refine Zg Tryz.func218 rfl rfl rfl fun u R => ?_
 simp only [Zx, List.cons_append, List.nil_append]
 cases hm : (WS x.p && XE x.p r)
 ·rw [hm] at hne
  repeat' (first | (refine Ze (.func 217) ?_; refine qC rfl rfl (hne) ?_; rintro v ρ' L' hle ⟨hl1, ⟨h0, _⟩ | ⟨_, rfl, G, rfl⟩⟩ <;> (try simp only [kM, kN, kO])) | (refine ZE ?_; refine Zo (Zd rfl) rfl rfl ?_) | (refine Zj ?_; first | (refine Zf ?_; refine qQ ?_) | refine Zn ?_) | refine Zb ?_ | (refine Zi ?_; refine Zv ?_) | (refine Zh ?_; refine Zu ?_) | intro _)
  ·exact absurd h0 (by decide)
  ·repeat' (first | (refine ZE ?_; refine Zo (Zd rfl) rfl rfl ?_) | (refine Zj ?_; first | (refine Zf ?_; refine qQ ?_) | refine Zn ?_) | refine Zb ?_ | (refine Zi ?_; refine Zv ?_) | (refine Zh ?_; refine Zu ?_) | intro _)
   exact qE (L' := []) ⟨hl1, .inr ⟨by trivial, rfl, [], rfl⟩⟩
 ·rw [hm] at hne
  rw [Bool.and_eq_true] at hm
  repeat' (first | (refine Ze (.func 217) ?_; refine qC rfl rfl (hne) ?_; rintro v ρ' L' hle ⟨hl1, ⟨_, rfl, x', ss', ms', e1, hX', rfl⟩ | ⟨h0, _⟩⟩ <;> (try simp only [kM, kN, kO])) | (refine ZE ?_; refine Zo (Zd rfl) rfl rfl ?_) | (refine Zj ?_; first | (refine Zf ?_; refine qQ ?_) | refine Zn ?_) | refine Zb ?_ | (refine Zi ?_; refine Zv ?_) | (refine Zh ?_; refine Zu ?_) | intro _)
  ·have hlv : WS x'.p = true := by rw [e1]; exact hm.1
   have hs' : x'.stack.length ≤ 1099511627776 := by
    have := congrArg TxP.stack e1
    simp only [Tx.p] at this
    rw [this]
    exact Nat.le_trans (List.length_filter_le _ _) hsl
   have hch := fun ρ1 (h : RcIn ρ1 rv r) => mchange_spec ρ1 cb next vv rv r b o P x' S ss' ms' hP hX' hs' h hok
   unfold MethR at hch
   rw [hlv, e1] at hch
   repeat' (first | (refine Ze (.func 216) ?_; refine qC rfl rfl (hch _ (hr.mono hl1)) ?_; rintro v ρ' L' hle ⟨hl2, ⟨_, rfl, x2, ss2, ms2, e2, hX2, rfl⟩ | ⟨h0, _⟩⟩ <;> (try simp only [kM, kN, kO])) | (refine ZE ?_; refine Zo (Zd rfl) rfl rfl ?_) | (refine Zj ?_; first | (refine Zf ?_; refine qQ ?_) | refine Zn ?_) | refine Zb ?_ | (refine Zi ?_; refine Zv ?_) | (refine Zh ?_; refine Zu ?_) | intro _)
   ·repeat' (first | (refine ZE ?_; refine Zo (Zd rfl) rfl rfl ?_) | (refine Zj ?_; first | (refine Zf ?_; refine qQ ?_) | refine Zn ?_) | refine Zb ?_ | (refine Zi ?_; refine Zv ?_) | (refine Zh ?_; refine Zu ?_) | intro _)
    exact qE (L' := focC cb next vv rv r b o P x2 S ss2 ms2) ⟨Hp.le_trans hl1 hl2, .inl ⟨by trivial, rfl, x2, ss2, ms2, e2, hX2, rfl⟩⟩
   ·exact absurd h0 (by decide)
  ·exact absurd h0 (by decide)
theorem mundone_spec (hP : P.length = o) (hX : OwnX x ss ms) (hsl : x.stack.length ≤ 1099511627776) (hml : x.marks.length ≤ 100) :
  Spec Tryz.prog 219 [.pointer (some ⟨cb, 0, none⟩)] ρ (focC cb next vv rv r b o P x S ss ms)
   (MethR r cb next vv rv b o P x S (decide (x.state ≠ 3) && (XE x.p r && decide (r.next < x.undo))) (backT x.p r.next) ρ) := by
 have hwi := within_spec ρ cb next vv rv r b o P x S hP
 have hba := back_spec ρ cb next vv rv r b o P x S ss ms hP hX hsl hml
 have hne := fun b0 => needB_spec ρ b0 3 [decide (x.state ≠ 3), XE x.p r, decide (r.next < x.undo)] (by simp) rfl
 have hg1 : (P ++ txQ x S)[o + 1]? = some (.int .i64 x.state) := Wp hP rfl
 have hg4 : (P ++ txQ x S)[o + 4]? = some (.int .u64 x.undo) := Wp hP rfl
 unfold MethR
 generalize XE x.p r = w1 at *
 refine Zg Tryz.func219 rfl rfl rfl fun u R => ?_
 simp only [Zx, List.cons_append, List.nil_append]
 have hall : ([decide (x.state ≠ 3), w1, decide (r.next < x.undo)].all id) = (decide (x.state ≠ 3) && (w1 && decide (r.next < x.undo))) := by simp [Bool.and_assoc]
 rw [hall] at hne
 rcases Decidable.em (x.state = 3) with h1 | h1 <;> rcases Decidable.em (r.next < x.undo) with h2 | h2 <;> cases w1
 all_goals first | rw [decide_eq_true (show x.state ≠ 3 from h1)] at hne ⊢ | rw [decide_eq_false (show ¬ (x.state ≠ 3) from fun e => e h1)] at hne ⊢
 all_goals first | rw [decide_eq_true h2] at hne ⊢ | rw [decide_eq_false h2] at hne ⊢
 all_goals simp only [Bool.true_and, Bool.and_true, Bool.false_and, Bool.and_false, Bool.false_eq_true, if_false, if_true] at hne ⊢
 all_goals (repeat' (first | (refine ZE ?_; refine Zo (Zd rfl) rfl rfl ?_) | (refine Zj ?_; first | (refine Zf ?_; refine qQ ?_) | refine Zn ?_) | refine Zb ?_ | (refine Zi ?_; refine Zv ?_) | (refine Zh ?_; refine Zu ?_) | intro _))
 all_goals refine ZD (Zs _ _ ([YQ cb next vv rv r (some ⟨b, o, none⟩), Xt b P x S])) (Zz (hT := tk) (Hp.le_refl _)) ?_
 all_goals (refine ZT 0 ?_; refine rNc 1 ?_; refine ZS 2 ?_; refine ZX 3 ?_; refine rNc 4 ?_; refine ZS 5 ?_; refine ZX 6 ?_; refine rCm 7 ?_; refine ZT 8 ?_; refine ZT 10 ?_; refine rNc 11 ?_; refine ZS 12 ?_; refine ZS 13 ?_; refine ZX 14 ?_; refine ZT 15 ?_; refine rNc 16 ?_; refine ZS 17 ?_; refine ZX 18 ?_; refine rNc 19 ?_; refine ZS 20 ?_; refine ZX 21 ?_; refine rCm 22 ?_)
 all_goals (refine Zp (i := 9) ?_; ((try refine Zk ?_); (first | (refine Ze (.func 264) ?_; refine qC rfl rfl (hwi) ?_; rintro v ρ' L' hle ⟨rfl, rfl, rfl⟩ <;> (try simp only [kM, kN, kO])) | (refine Zn ?_; try intro _)) <;> ((try simp only [kM, kN, kO]); refine Zb ?_; refine Zl ?_)))
 all_goals (refine Zp (i := 23) ?_; ((try refine Zk ?_); (first | (refine Zr rfl rfl rfl rfl (by simp) rfl rfl (fun bs => ?_)) | (refine Zn ?_; try intro _)) <;> ((try simp only [kM, kN, kO]); refine Zb ?_; refine Zl ?_)))
 all_goals (refine Zp (i := 24) ?_; ((try refine Zk ?_); (first | (refine Ze (.func 263) ?_; refine qC rfl rfl (hne _) ?_; rintro v ρ' L' hle ⟨rfl, rfl, rfl⟩ <;> (try simp only [kM, kN, kO])) | (refine Zn ?_; try intro _)) <;> ((try simp only [kM, kN, kO]); refine Zb ?_; refine Zl ?_)))
 all_goals (refine ZO ?_; refine rAs 25 ?_; refine ZI ?_)
 all_goals (repeat' (first | (refine Ze (.func 265) ?_; refine qC rfl rfl (hba) ?_; rintro v ρ' L' hle ⟨rfl, x', ss', ms', e1, e2, hX', rfl⟩ <;> (try simp only [kM, kN, kO])) | (refine ZE ?_; refine Zo (Zd rfl) rfl rfl ?_) | (refine Zj ?_; first | (refine Zf ?_; refine qQ ?_) | refine Zn ?_) | refine Zb ?_ | (refine Zi ?_; refine Zv ?_) | (refine Zh ?_; refine Zu ?_) | intro _))
 all_goals first
  | exact qE (L' := focC cb next vv rv r b o P x' S ss' ms') ⟨Hp.le_refl _, .inl ⟨by trivial, rfl, x', ss', ms', e1, hX', rfl⟩⟩
  | exact qE (L' := []) ⟨Hp.le_refl _, .inr ⟨by trivial, rfl, [], rfl⟩⟩
theorem mends_spec (st : Int) (hP : P.length = o) (hX : OwnX x ss ms) :
  Spec Tryz.prog 266 [.pointer (some ⟨cb, 0, none⟩), .int .i64 st] ρ (focC cb next vv rv r b o P x S ss ms)
   (MethR r cb next vv rv b o P x S (WS x.p) { x.p with state := st, marks := [] } ρ) := by
 have hli := live_spec ρ cb next vv rv r b o P x S hP
 have hne := fun b0 => needB_spec ρ b0 1 [WS x.p] (by simp) rfl
 rw [show decide (x.state = 1) = WS x.p from rfl] at hli
 unfold MethR
 refine Zg Tryz.func266 rfl rfl rfl fun u R => ?_
 simp only [Zx, List.cons_append, List.nil_append]
 generalize WS x.p = l1 at *
 have hall : ([l1].all id) = l1 := by simp
 rw [hall] at hne
 cases l1
 all_goals simp only [Bool.false_eq_true, if_false, if_true] at hne
 all_goals (repeat' (first | (refine Ze (.func 211) ?_; refine qC rfl rfl (hli) ?_; rintro v ρ' L' hle ⟨rfl, rfl, rfl⟩ <;> (try simp only [kM, kN, kO])) | (refine Zr rfl rfl rfl rfl (by simp) rfl rfl (fun bs => ?_)) | (refine Ze (.func 263) ?_; refine qC rfl rfl (hne _) ?_; rintro v ρ' L' hle ⟨rfl, rfl, rfl⟩ <;> (try simp only [kM, kN, kO])) | (refine ZE ?_; refine Zo (Zd rfl) rfl rfl ?_) | (refine Zj ?_; first | (refine Zf ?_; refine qQ ?_) | refine Zn ?_) | refine Zb ?_ | (refine Zi ?_; refine Zv ?_) | (refine Zh ?_; refine Zu ?_) | intro _))
 all_goals refine ZD (Zs _ _ ([YQ cb next vv rv r (some ⟨b, o, none⟩)])) (Zz (hT := tk) (Hp.le_refl _)) ?_
 all_goals (refine ZT 0 ?_; refine rNc 1 ?_; refine ZS 2 ?_; refine ZX 3 ?_; refine ZT 4 ?_; refine rNc 5 ?_; refine ZS 6 ?_; refine ZX 7 ?_; refine ZT 8 ?_; refine rNc 9 ?_; refine ZS 10 ?_)
 all_goals (refine Zp (i := 11) ?_; ((try refine Zk ?_); (first | (refine ZZ (o := o) (P := P) rfl rfl hP rfl ?_) | (refine Zn ?_; try intro _)) <;> ((try simp only [kM, kN, kO]); refine Zb ?_; refine Zl ?_)))
 all_goals (refine rNc 12 ?_; refine ZS 13 ?_)
 all_goals (refine Zp (i := 14) ?_; ((try refine Zk ?_); (first | (refine ZZ (o := o) (P := P) rfl rfl hP rfl ?_) | (refine Zn ?_; try intro _)) <;> ((try simp only [kM, kN, kO]); refine Zb ?_; refine Zl ?_)))
 all_goals refine ZI ?_
 all_goals (repeat' (first | (refine ZE ?_; refine Zo (Zd rfl) rfl rfl ?_) | (refine Zj ?_; first | (refine Zf ?_; refine qQ ?_) | refine Zn ?_) | refine Zb ?_ | (refine Zi ?_; refine Zv ?_) | (refine Zh ?_; refine Zu ?_) | intro _))
 all_goals first
  | exact qE (L' := focC cb next vv rv r b o P { x with state := st, marks := [], mv := ⟨none, 0, 0⟩ } S ss []) ⟨Hp.le_refl _, .inl ⟨by trivial, rfl, { x with state := st, marks := [], mv := ⟨none, 0, 0⟩ }, ss, [], rfl, ⟨hX.s, OwnS.nil 1⟩, rfl⟩⟩
  | exact qE (L' := []) ⟨Hp.le_refl _, .inr ⟨by trivial, rfl, [], rfl⟩⟩
theorem mabort_spec (hP : P.length = o) (hX : OwnX x ss ms) :
  Spec Tryz.prog 221 [.pointer (some ⟨cb, 0, none⟩)] ρ (focC cb next vv rv r b o P x S ss ms)
   (MethR r cb next vv rv b o P x S (WS x.p) { x.p with state := 2, marks := [] } ρ) := by
 have he := mends_spec ρ cb next vv rv r b o P x S ss ms 2 hP hX
 unfold MethR at he ⊢
 refine Zg Tryz.func221 rfl rfl rfl fun u R => ?_
 simp only [Zx, List.cons_append, List.nil_append]
 repeat' (first | (refine Ze (.func 266) ?_; refine qC rfl rfl (he) ?_; rintro v ρ' L' hle ⟨hl1, ⟨h0, rfl, x', ss', ms', e1, hX', rfl⟩ | ⟨h0, rfl, G, rfl⟩⟩ <;> (try simp only [kM, kN, kO])) | (refine ZE ?_; refine Zo (Zd rfl) rfl rfl ?_) | (refine Zj ?_; first | (refine Zf ?_; refine qQ ?_) | refine Zn ?_) | refine Zb ?_ | (refine Zi ?_; refine Zv ?_) | (refine Zh ?_; refine Zu ?_) | intro _)
 ·repeat' (first | (refine ZE ?_; refine Zo (Zd rfl) rfl rfl ?_) | (refine Zj ?_; first | (refine Zf ?_; refine qQ ?_) | refine Zn ?_) | refine Zb ?_ | (refine Zi ?_; refine Zv ?_) | (refine Zh ?_; refine Zu ?_) | intro _)
  exact qE (L' := focC cb next vv rv r b o P x' S ss' ms') ⟨hl1, .inl ⟨h0, rfl, x', ss', ms', e1, hX', rfl⟩⟩
 ·repeat' (first | (refine ZE ?_; refine Zo (Zd rfl) rfl rfl ?_) | (refine Zj ?_; first | (refine Zf ?_; refine qQ ?_) | refine Zn ?_) | refine Zb ?_ | (refine Zi ?_; refine Zv ?_) | (refine Zh ?_; refine Zu ?_) | intro _)
  exact qE (L' := []) ⟨hl1, .inr ⟨h0, rfl, [], rfl⟩⟩
theorem mcommit_spec (hP : P.length = o) (hX : OwnX x ss ms) :
  Spec Tryz.prog 220 [.pointer (some ⟨cb, 0, none⟩)] ρ (focC cb next vv rv r b o P x S ss ms)
   (MethR r cb next vv rv b o P x S (WS x.p) { x.p with state := 3, marks := [], stack := [] } ρ) := by
 have he := mends_spec ρ cb next vv rv r b o P { x with stack := [], sv := ⟨none, 0, 0⟩ } S [] ms 3 hP ⟨OwnS.nil 2, hX.m⟩
 unfold MethR at he ⊢
 refine Zg Tryz.func220 rfl rfl rfl fun u R => ?_
 simp only [Zx, List.cons_append, List.nil_append]
 repeat' (first | (refine ZZ (o := o) (P := P) rfl rfl hP rfl ?_) | (refine Ze (.func 266) ?_; refine qC rfl rfl (he) ?_; rintro v ρ' L' hle ⟨hl1, ⟨h0, rfl, x', ss', ms', e1, hX', rfl⟩ | ⟨h0, rfl, G, rfl⟩⟩ <;> (try simp only [kM, kN, kO])) | (refine ZE ?_; refine Zo (Zd rfl) rfl rfl ?_) | (refine Zj ?_; first | (refine Zf ?_; refine qQ ?_) | refine Zn ?_) | refine Zb ?_ | (refine Zi ?_; refine Zv ?_) | (refine Zh ?_; refine Zu ?_) | intro _)
 ·repeat' (first | (refine ZE ?_; refine Zo (Zd rfl) rfl rfl ?_) | (refine Zj ?_; first | (refine Zf ?_; refine qQ ?_) | refine Zn ?_) | refine Zb ?_ | (refine Zi ?_; refine Zv ?_) | (refine Zh ?_; refine Zu ?_) | intro _)
  exact qE (L' := focC cb next vv rv r b o P x' S ss' ms') ⟨hl1, .inl ⟨h0, rfl, x', ss', ms', e1, hX', rfl⟩⟩
 ·repeat' (first | (refine ZE ?_; refine Zo (Zd rfl) rfl rfl ?_) | (refine Zj ?_; first | (refine Zf ?_; refine qQ ?_) | refine Zn ?_) | refine Zb ?_ | (refine Zi ?_; refine Zv ?_) | (refine Zh ?_; refine Zu ?_) | intro _)
  exact qE (L' := []) ⟨hl1, .inr ⟨h0, rfl, [], rfl⟩⟩
theorem atO_spec (ρ : Hp) (next : Int) (vv : Value) (sp : List Value) (os : List OT) (hl : os.length ≤ 1000000) (hown : OwnS vv os.length (txF os) sp 7) (num : Int) :
  Spec Tryz.prog 128 [.agg ⟨[.int .i64 next, vv]⟩, .int .i64 num] ρ [ZK vv (txF os) sp 72] (fun z ρ' L' => ρ' = ρ ∧ ∃ i there, z = .tuple ⟨[.int .i64 (i : Nat), .bool there]⟩ ∧ AtT (os.map OT.x) num i there ∧ L' = [ZK vv (txF os) sp 72]) := by
 refine (Spec.thaw (C := [ZK vv (txF os) sp 72]) (L := []) (Post := fun z L' => ∃ i there, z = .tuple ⟨[.int .i64 (i : Nat), .bool there]⟩ ∧ AtT (os.map OT.x) num i there ∧ L' = []) (fun ρ1 hle hf => ?_)).mono ?_
 ·have ho : OwnS vv os.length (((os.map OT.x).map Ym).flatten) sp 7 := hown
  obtain ⟨a, c, rfl, hc, hA⟩ := ho.aIn (by simp) (fun x _ => Wy x) (fun p hp => hf p (by rw [List.flatten_cons, List.flatten_nil, List.append_nil]; exact hp))
  exact atT_spec ρ1 next ⟨a, os.length, c⟩ (os.map OT.x) ⟨hA, hl, hc⟩ num
 ·rintro z ρ' L' _ ⟨rfl, L2, ⟨i, there, rfl, h1, rfl⟩, rfl⟩
  exact ⟨rfl, i, there, rfl, h1, rfl⟩
theorem end1_spec (ρ : Hp) (nb : Nat) (num : Int) (x : Tx) : Spec Tryz.prog 268 [.agg ⟨Ym x⟩, .pointer (some ⟨nb, 0, none⟩)] ρ (numC nb num)
  (fun z ρ' L' => z = .bool (decide (x.num = num)) ∧ ρ' = ρ ∧ L' = (numC nb num)) := by
 refine Zg Tryz.func268 rfl rfl rfl fun u R => ?_
 simp only [Zx, List.cons_append, List.nil_append]
 by_cases h : x.num = num
 ·rw [decide_eq_true h]
  repeat' (first | (refine ZE ?_; refine Zo (Zd rfl) rfl rfl ?_) | (refine Zj ?_; first | (refine Zf ?_; refine qQ ?_) | refine Zn ?_) | refine Zb ?_ | (refine Zi ?_; refine Zv ?_) | (refine Zh ?_; refine Zu ?_) | intro _)
  exact qE (L' := (numC nb num)) ⟨rfl, rfl, rfl⟩
 ·rw [decide_eq_false h]
  repeat' (first | (refine ZE ?_; refine Zo (Zd rfl) rfl rfl ?_) | (refine Zj ?_; first | (refine Zf ?_; refine qQ ?_) | refine Zn ?_) | refine Zb ?_ | (refine Zi ?_; refine Zv ?_) | (refine Zh ?_; refine Zu ?_) | intro _)
  exact qE (L' := (numC nb num)) ⟨rfl, rfl, rfl⟩
theorem mend_spec (ρ : Hp) (cb : Nat) (next : Int) (rv : RV) (r : Rc) (b o cap : Nat) (P : List Value) (x : Tx) (S sp : List Value) (os : List OT) (hl : os.length ≤ 1000000) (hown : OwnS (.slice (some ⟨b, 0, none⟩) os.length cap) os.length (txF os) sp 7) (hP : P.length = o) (hPS : P ++ txQ x S = txF os ++ sp) :
  Spec Tryz.prog 222 [.pointer (some ⟨cb, 0, none⟩)] ρ [YQ cb next (.slice (some ⟨b, 0, none⟩) os.length cap) rv r (some ⟨b, o, none⟩), ZK (.slice (some ⟨b, 0, none⟩) os.length cap) (txF os) sp 72]
   (fun z ρ' L' => ρ' = ρ ∧ z = .int .i64 0 ∧ ∃ vv' sp', OwnS vv' (os.filter (fun t => !decide (t.x.num = x.num))).length (txF (os.filter (fun t => !decide (t.x.num = x.num)))) sp' 7 ∧ L' = [YQ cb next vv' rv r (some ⟨b, o, none⟩), ZK vv' (txF (os.filter (fun t => !decide (t.x.num = x.num)))) sp' 72]) := by
 have hC : ZK (.slice (some ⟨b, 0, none⟩) os.length cap) (txF os) sp 72 = [(b, .cells ⟨txF os ++ sp⟩ 72 (0, 0))] := rfl
 have hg0 : (txF os ++ sp)[o]? = some (.int .i64 x.num) := by
  rw [← hPS]
  exact Wp (d := 0) hP rfl
 have hd := fun nb => delX_spec ρ _ sp (os.map OT.x) (by simp; omega) (by rw [List.length_map]; exact hown) 268 [.pointer (some ⟨nb, 0, none⟩)] (numC nb x.num) (fun t => decide (t.num = x.num)) (fun ρ1 _ t _ => end1_spec ρ1 nb x.num t)
 have hfl : (os.map OT.x).filter (fun t => !decide (t.num = x.num)) = (os.filter (fun t => !decide (t.x.num = x.num))).map OT.x := by
  rw [List.filter_map]; rfl
 rw [hfl, List.length_map] at hd
 have hd : ∀ nb, Spec Tryz.prog 267 [.slice (some ⟨b, 0, none⟩) os.length cap, .func (.func 268) ⟨[]⟩ ⟨[.pointer (some ⟨nb, 0, none⟩)]⟩] ρ ([(b, .cells ⟨txF os ++ sp⟩ 72 (0, 0))] :: numC nb x.num) (fun z ρ' L' => ρ' = ρ ∧ ∃ sp', OwnS z (os.filter (fun t => !decide (t.x.num = x.num))).length (txF (os.filter (fun t => !decide (t.x.num = x.num)))) sp' 7 ∧ L' = ZK z (txF (os.filter (fun t => !decide (t.x.num = x.num)))) sp' 72 :: numC nb x.num) := hd
 clear hfl
 rw [hC]
 refine Zg Tryz.func222 rfl rfl rfl fun u R => ?_
 simp only [Zx, List.cons_append, List.nil_append]
 generalize os.filter (fun t => !decide (t.x.num = x.num)) = os' at *
 repeat' (first | (refine ZE ?_; refine Zo (Zd rfl) rfl rfl ?_) | (refine Zj ?_; first | (refine Zf ?_; refine qQ ?_) | refine Zn ?_) | refine Zb ?_ | (refine Zi ?_; refine Zv ?_) | (refine Zh ?_; refine Zu ?_) | intro _)
 rename_i nb
 refine Ze (.func 267) ?_
 refine qC rfl rfl (hd nb) ?_
 rintro z ρ3 L3 hle3 ⟨rfl, sp', hown', rfl⟩
 simp only [List.cons_append, List.nil_append]
 obtain ⟨a1, c1, rfl, q1⟩ := hown'.slice
 repeat' (first | (refine ZE ?_; refine Zo (Zd rfl) rfl rfl ?_) | (refine Zj ?_; first | (refine Zf ?_; refine qQ ?_) | refine Zn ?_) | refine Zb ?_ | (refine Zi ?_; refine Zv ?_) | (refine Zh ?_; refine Zu ?_) | intro _)
 exact qE (L' := [YQ cb next _ rv r (some ⟨b, o, none⟩), ZK _ (txF os') sp' 72]) ⟨rfl, rfl, _, sp', hown', rfl⟩
def newX (r : Rc) : Tx := ⟨r.txn, 1, r.lsn, r.lsn, r.lsn, [], [], ⟨none, 0, 0⟩, ⟨none, 0, 0⟩⟩
theorem mbegin_spec (ρ : Hp) (cb : Nat) (next : Int) (vv : Value) (rv : RV) (r : Rc) (t : Option Addr) (sp : List Value) (os : List OT) (hn : 1 ≤ next ∧ next ≤ 1073741824) (hl : os.length ≤ 1000000) (hown : OwnS vv os.length (txF os) sp 7) :
  Spec Tryz.prog 215 [.pointer (some ⟨cb, 0, none⟩)] ρ [YQ cb next vv rv r t, ZK vv (txF os) sp 72]
   (fun z ρ' L' => ρ' = ρ ∧ ((∃ e, e ≠ 0 ∧ z = .int .i64 e ∧ (if r.txn ≠ next ∨ next = 1073741824 then (2 : Int) else if 8 ≤ os.length then 6 else 0) = e ∧ ∃ G : SH, L' = G) ∨
    ((if r.txn ≠ next ∨ next = 1073741824 then (2 : Int) else if 8 ≤ os.length then 6 else 0) = 0 ∧ z = .int .i64 0 ∧ ∃ vv' sp', OwnS vv' (os ++ [(⟨newX r, [], []⟩ : OT)]).length (txF (os ++ [(⟨newX r, [], []⟩ : OT)])) sp' 7 ∧ L' = [YQ cb (next + 1) vv' rv r t, ZK vv' (txF (os ++ [(⟨newX r, [], []⟩ : OT)])) sp' 72]))) := by
 obtain ⟨va, vc, rfl, hvc⟩ := hown.slice
 refine Zg Tryz.func215 rfl rfl rfl fun u R => ?_
 simp only [Zx, List.cons_append, List.nil_append]
 by_cases h1 : r.txn ≠ next ∨ next = 1073741824
 ·rw [if_pos h1]
  by_cases h2 : r.txn = next
  ·have h3 : next = 1073741824 := h1.elim (fun h => absurd h2 h) id
   repeat' (first | (refine ZE ?_; refine Zo (Zd rfl) rfl rfl ?_) | (refine Zj ?_; first | (refine Zf ?_; refine qQ ?_) | refine Zn ?_) | refine Zb ?_ | (refine Zi ?_; refine Zv ?_) | (refine Zh ?_; refine Zu ?_) | intro _)
   refine ZD (Zs _ _ ([YQ cb next (.slice va os.length vc) rv r t])) (Zz (hT := tk) (Hp.le_refl _)) ?_
   all_goals (refine ZT 0 ?_; refine ZO ?_; refine rNc 1 ?_; refine ZS 2 ?_; refine ZS 3 ?_; refine ZX 4 ?_; refine ZT 5 ?_; refine rNc 6 ?_; refine ZS 7 ?_; refine ZS 8 ?_; refine ZX 9 ?_; refine rCm 10 ?_; refine ZT 11 ?_; (first | refine Zc 12 ?_ | refine Za 12 ?_ | refine ZP 12 ?_); (first | refine Zc 13 ?_ | refine Za 13 ?_ | refine wNc 13 ?_); (first | refine Zc 14 ?_ | refine Za 14 ?_ | refine ZW 14 ?_); (first | refine Zc 15 ?_ | refine Za 15 ?_ | refine ZW 15 ?_); (first | refine Zc 16 ?_ | refine Za 16 ?_ | refine Yb 16 ?_); (first | refine Zc 17 ?_ | refine Za 17 ?_ | refine Yw 17 ?_); refine YA 18 ?_; refine ZI ?_)
   all_goals (repeat' (first | (refine ZE ?_; refine Zo (Zd rfl) rfl rfl ?_) | (refine Zj ?_; first | (refine Zf ?_; refine qQ ?_) | refine Zn ?_) | refine Zb ?_ | (refine Zi ?_; refine Zv ?_) | (refine Zh ?_; refine Zu ?_) | intro _))
   all_goals exact qE (L' := []) ⟨rfl, .inl ⟨2, by decide, rfl, rfl, [], rfl⟩⟩
  ·repeat' (first | (refine ZE ?_; refine Zo (Zd rfl) rfl rfl ?_) | (refine Zj ?_; first | (refine Zf ?_; refine qQ ?_) | refine Zn ?_) | refine Zb ?_ | (refine Zi ?_; refine Zv ?_) | (refine Zh ?_; refine Zu ?_) | intro _)
   refine ZD (Zs _ _ ([YQ cb next (.slice va os.length vc) rv r t])) (Zz (hT := tk) (Hp.le_refl _)) ?_
   all_goals (refine ZT 0 ?_; refine ZO ?_; refine rNc 1 ?_; refine ZS 2 ?_; refine ZS 3 ?_; refine ZX 4 ?_; refine ZT 5 ?_; refine rNc 6 ?_; refine ZS 7 ?_; refine ZS 8 ?_; refine ZX 9 ?_; refine rCm 10 ?_; refine ZT 11 ?_; (first | refine Zc 12 ?_ | refine Za 12 ?_ | refine ZP 12 ?_); (first | refine Zc 13 ?_ | refine Za 13 ?_ | refine wNc 13 ?_); (first | refine Zc 14 ?_ | refine Za 14 ?_ | refine ZW 14 ?_); (first | refine Zc 15 ?_ | refine Za 15 ?_ | refine ZW 15 ?_); (first | refine Zc 16 ?_ | refine Za 16 ?_ | refine Yb 16 ?_); (first | refine Zc 17 ?_ | refine Za 17 ?_ | refine Yw 17 ?_); refine YA 18 ?_; refine ZI ?_)
   all_goals (repeat' (first | (refine ZE ?_; refine Zo (Zd rfl) rfl rfl ?_) | (refine Zj ?_; first | (refine Zf ?_; refine qQ ?_) | refine Zn ?_) | refine Zb ?_ | (refine Zi ?_; refine Zv ?_) | (refine Zh ?_; refine Zu ?_) | intro _))
   all_goals exact qE (L' := []) ⟨rfl, .inl ⟨2, by decide, rfl, rfl, [], rfl⟩⟩
 ·rw [if_neg h1]
  have h2 : r.txn = next := Decidable.not_not.1 (fun h => h1 (.inl h))
  have h3 : next ≠ 1073741824 := fun h => h1 (.inr h)
  by_cases h8 : 8 ≤ os.length
  ·rw [if_pos h8]
   repeat' (first | (refine ZE ?_; refine Zo (Zd rfl) rfl rfl ?_) | (refine Zj ?_; first | (refine Zf ?_; refine qQ ?_) | refine Zn ?_) | refine Zb ?_ | (refine Zi ?_; refine Zv ?_) | (refine Zh ?_; refine Zu ?_) | intro _)
   refine ZD (Zs _ _ ([YQ cb next (.slice va os.length vc) rv r t])) (Zz (hT := tk) (Hp.le_refl _)) ?_
   all_goals (refine ZT 0 ?_; refine ZO ?_; refine rNc 1 ?_; refine ZS 2 ?_; refine ZS 3 ?_; refine ZX 4 ?_; refine ZT 5 ?_; refine rNc 6 ?_; refine ZS 7 ?_; refine ZS 8 ?_; refine ZX 9 ?_; refine rCm 10 ?_; refine ZT 11 ?_; (first | refine Zc 12 ?_ | refine Za 12 ?_ | refine ZP 12 ?_); (first | refine Zc 13 ?_ | refine Za 13 ?_ | refine wNc 13 ?_); (first | refine Zc 14 ?_ | refine Za 14 ?_ | refine ZW 14 ?_); (first | refine Zc 15 ?_ | refine Za 15 ?_ | refine ZW 15 ?_); (first | refine Zc 16 ?_ | refine Za 16 ?_ | refine Yb 16 ?_); (first | refine Zc 17 ?_ | refine Za 17 ?_ | refine Yw 17 ?_); refine YA 18 ?_; refine ZI ?_)
   all_goals (repeat' (first | (refine ZE ?_; refine Zo (Zd rfl) rfl rfl ?_) | (refine Zj ?_; first | (refine Zf ?_; refine qQ ?_) | refine Zn ?_) | refine Zb ?_ | (refine Zi ?_; refine Zv ?_) | (refine Zh ?_; refine Zu ?_) | intro _))
   all_goals exact qE (L' := []) ⟨rfl, .inl ⟨6, by decide, rfl, rfl, [], rfl⟩⟩
  ·rw [if_neg h8]
   have hm : txF os ++ Ym (newX r) = txF (os ++ [(⟨newX r, [], []⟩ : OT)]) := by rw [Wi, txF_one]
   repeat' (first | (refine ZE ?_; refine Zo (Zd rfl) rfl rfl ?_) | (refine Zj ?_; first | (refine Zf ?_; refine qQ ?_) | refine Zn ?_) | refine Zb ?_ | (refine Zi ?_; refine Zv ?_) | (refine Zh ?_; refine Zu ?_) | intro _)
   refine ZD (Zs _ _ ([YQ cb next (.slice va os.length vc) rv r t])) (Zz (hT := tk) (Hp.le_refl _)) ?_
   all_goals (refine ZT 0 ?_; refine ZO ?_; refine rNc 1 ?_; refine ZS 2 ?_; refine ZS 3 ?_; refine ZX 4 ?_; refine ZT 5 ?_; refine rNc 6 ?_; refine ZS 7 ?_; refine ZS 8 ?_; refine ZX 9 ?_; refine rCm 10 ?_; refine ZT 11 ?_; (first | refine Zc 12 ?_ | refine Za 12 ?_ | refine ZP 12 ?_); (first | refine Zc 13 ?_ | refine Za 13 ?_ | refine wNc 13 ?_); (first | refine Zc 14 ?_ | refine Za 14 ?_ | refine ZW 14 ?_); (first | refine Zc 15 ?_ | refine Za 15 ?_ | refine ZW 15 ?_); (first | refine Zc 16 ?_ | refine Za 16 ?_ | refine Yb 16 ?_); (first | refine Zc 17 ?_ | refine Za 17 ?_ | refine Yw 17 ?_); refine YA 18 ?_; refine ZI ?_)
   all_goals (repeat' (first | (refine ZE ?_; refine Zo (Zd rfl) rfl rfl ?_) | (refine Zj ?_; first | (refine Zf ?_; refine qQ ?_) | refine Zn ?_) | refine Zb ?_ | (refine Zi ?_; refine Zv ?_) | (refine Zh ?_; refine Zu ?_) | intro _))
   all_goals refine Wc 29 (Zs _ _ ([YQ cb (next + 1) (.slice va os.length vc) rv r t])) (by decide +kernel) (Zz (hT := tk) (Hp.le_refl _)) ?_
   all_goals simp only [List.take_succ_cons, List.take_zero]
   all_goals (refine ZT 0 ?_; refine ZT 1 ?_; refine rNc 2 ?_; refine ZS 3 ?_; refine ZS 4 ?_; refine ZX 5 ?_; refine ZT 6 ?_; refine rNc 7 ?_; refine ZS 8 ?_; refine ZS 9 ?_; refine ZX 10 ?_; refine ZT 11 ?_; refine rNc 12 ?_; refine ZS 13 ?_; refine ZS 14 ?_; refine ZX 15 ?_; refine ZT 16 ?_; refine rNc 17 ?_; refine ZS 18 ?_; refine ZS 19 ?_; refine ZX 20 ?_; refine ZT 21 ?_; refine rNc 22 ?_; refine ZS 23 ?_; refine ZS 24 ?_; refine ZX 25 ?_)
   all_goals refine rBu 26 ?_ (y := fun _ _ => Zd rfl)
   all_goals (refine Zp (i := 27) ?_; ((try refine Zk ?_); (first | (refine ZL (css := [Ym (newX r)]) (sz := 7) rfl rfl rfl rfl (by simp) (by simp) rfl (fun bs => ?_); simp only [List.flatten_cons, List.flatten_nil, List.append_nil]) | (refine Zn ?_; try intro _)) <;> ((try simp only [kM, kN, kO]); refine Zb ?_; refine Zl ?_)))
   all_goals (refine Zp (i := 28) ?_; ((try refine Zk ?_); (first | (refine ZL (css := [Ym (newX r)]) (sz := 7) rfl rfl rfl rfl (by simp) (by simp) rfl (fun bs => ?_); simp only [List.flatten_cons, List.flatten_nil, List.append_nil]) | (refine ZV (ys := Ym (newX r)) (m := 1) rfl rfl hown (hR := by infer_instance) SrcV.lit rfl rfl (by decide) rfl (by omega) (by omega) rfl (fun v' sp' hown' => ?_); obtain ⟨a1, c1, rfl, q1⟩ := hown'.slice) | (refine Zn ?_; try intro _)) <;> ((try simp only [kM, kN, kO]); refine Zb ?_; refine Zl ?_)))
   all_goals refine ZI ?_
   all_goals refine Wb (fuel := 4) (m := [true, true, true, true, true, true, true, true, true, true, true, true, true, true, true, true, true, true, true, true, true, true, true, true, true, true, true, true, true, false, false, false, false]) (Zs _ _ ([])) rfl rfl (Zz (hT := tk) (Hp.le_refl _)) ?_
   all_goals (refine rNc 29 ?_; refine ZS 30 ?_; refine ZS 31 ?_)
   all_goals (refine Zp (i := 32) ?_; ((try refine Zk ?_); (first | (refine Zn ?_; try intro _)) <;> ((try simp only [kM, kN, kO]); refine Zb ?_; refine Zl ?_)))
   all_goals refine ZI ?_
   all_goals (repeat' (first | (refine ZE ?_; refine Zo (Zd rfl) rfl rfl ?_) | (refine Zj ?_; first | (refine Zf ?_; refine qQ ?_) | refine Zn ?_) | refine Zb ?_ | (refine Zi ?_; refine Zv ?_) | (refine Zh ?_; refine Zu ?_) | intro _))
   all_goals rw [hm] at hown' ⊢
   all_goals exact qE (L' := [YQ cb (next + 1) _ rv r t, ZK _ (txF (os ++ [(⟨newX r, [], []⟩ : OT)])) sp' 72]) ⟨rfl, .inr ⟨by trivial, rfl, _, sp', by rw [List.length_append]; exact hown', rfl⟩⟩
def methF (k : Int) : Nat := if k = 2 then 216 else if k = 3 then 217 else if k = 4 then 218 else if k = 5 then 219 else if k = 6 then 220 else 221
theorem meth_spec (r : Rc) (hok : YF r = true) (hk : 2 ≤ r.kind ∧ r.kind ≤ 7) : Yu Tryz.prog (methF r.kind) ∧ ∀ (ρ : Hp) (cb : Nat) (next : Int) (vv : Value) (rv : RV) (b o : Nat) (P : List Value) (x : Tx) (S ss ms : List Value), P.length = o → OwnX x ss ms → x.stack.length ≤ 1099511627776 → x.marks.length ≤ 100 → RcIn ρ rv r → x.last = r.lsn →
  Spec Tryz.prog (methF r.kind) [.pointer (some ⟨cb, 0, none⟩)] ρ (focC cb next vv rv r b o P x S ss ms) (MethR r cb next vv rv b o P x S (mayT x.p r) (XG x.p r) ρ) := by
 have hlast : ∀ x : Tx, x.last = r.lsn → ({ x.p with last := r.lsn } : TxP) = x.p := fun x h => by rw [← h]
 unfold methF mayT XG
 by_cases k2 : r.kind = 2
 ·simp only [k2, if_true, show ¬ ((2 : Int) = 3 ∨ (2 : Int) = 4) by decide, show ¬ ((2 : Int) = 5) by decide, if_false]
  exact ⟨inferInstance, fun ρ cb next vv rv b o P x S ss ms hP hX hs hm hr hl => by rw [hlast x hl]; exact mchange_spec ρ cb next vv rv r b o P x S ss ms hP hX hs hr hok⟩
 by_cases k3 : r.kind = 3
 ·simp only [k3, if_true, show ¬ ((3 : Int) = 2) by decide, if_false, true_or]
  exact ⟨inferInstance, fun ρ cb next vv rv b o P x S ss ms hP hX hs hm hr hl => by rw [hlast x hl]; exact mnested_spec ρ cb next vv rv r b o P x S ss ms hP hX hs hm⟩
 by_cases k4 : r.kind = 4
 ·simp only [k4, if_true, show ¬ ((4 : Int) = 2) by decide, show ¬ ((4 : Int) = 3) by decide, show ¬ ((4 : Int) = 3 ∨ (4 : Int) = 5) by decide, if_false, or_true]
  exact ⟨inferInstance, fun ρ cb next vv rv b o P x S ss ms hP hX hs hm hr hl => by rw [hlast x hl]; exact mdone_spec ρ cb next vv rv r b o P x S ss ms hP hX hs hm hr hok⟩
 by_cases k5 : r.kind = 5
 ·simp only [k5, if_true, show ¬ ((5 : Int) = 2) by decide, show ¬ ((5 : Int) = 3) by decide, show ¬ ((5 : Int) = 4) by decide, show ¬ ((5 : Int) = 3 ∨ (5 : Int) = 4) by decide, if_false, or_true]
  exact ⟨inferInstance, fun ρ cb next vv rv b o P x S ss ms hP hX hs hm hr hl => by rw [hlast x hl]; exact mundone_spec ρ cb next vv rv r b o P x S ss ms hP hX hs hm⟩
 by_cases k6 : r.kind = 6
 ·simp only [k6, if_true, show ¬ ((6 : Int) = 2) by decide, show ¬ ((6 : Int) = 3) by decide, show ¬ ((6 : Int) = 4) by decide, show ¬ ((6 : Int) = 5) by decide, show ¬ ((6 : Int) = 3 ∨ (6 : Int) = 4) by decide, show ¬ ((6 : Int) = 3 ∨ (6 : Int) = 5) by decide, if_false]
  exact ⟨inferInstance, fun ρ cb next vv rv b o P x S ss ms hP hX hs hm hr hl => by rw [← hl]; exact mcommit_spec ρ cb next vv rv r b o P x S ss ms hP hX⟩
 ·have k7 : r.kind = 7 := by omega
  simp only [k7, show ¬ ((7 : Int) = 2) by decide, show ¬ ((7 : Int) = 3) by decide, show ¬ ((7 : Int) = 4) by decide, show ¬ ((7 : Int) = 5) by decide, show ¬ ((7 : Int) = 6) by decide, show ¬ ((7 : Int) = 3 ∨ (7 : Int) = 4) by decide, show ¬ ((7 : Int) = 3 ∨ (7 : Int) = 5) by decide, if_false]
  exact ⟨inferInstance, fun ρ cb next vv rv b o P x S ss ms hP hX hs hm hr hl => by rw [← hl]; exact mabort_spec ρ cb next vv rv r b o P x S ss ms hP hX⟩
theorem methF_chain {f : Nat → Option Value} {k : Int} (hk : 2 ≤ k ∧ k ≤ 7) : (if k = 8 then f 222 else if k = 7 then f 221 else if k = 6 then f 220 else if k = 5 then f 219 else if k = 4 then f 218 else if k = 3 then f 217 else if k = 2 then f 216 else none) = f (methF k) := by
 unfold methF
 have : k = 2 ∨ k = 3 ∨ k = 4 ∨ k = 5 ∨ k = 6 ∨ k = 7 := by omega
 rcases this with e | e | e | e | e | e <;> subst e <;> rfl
theorem find_at {next : Int} {txns : List TxP} {os : List OT} {num : Int} {i : Nat} {there : Bool} (hA : AtT (os.map OT.x) num i there) (hs : os.map (fun o => o.x.p) = txns) (hG : RosG ⟨next, txns⟩) :
  (there = true → ∃ h : i < os.length, os[i].x.num = num ∧ Yf ⟨next, txns⟩ num = some os[i].x.p) ∧ (there = false → Yf ⟨next, txns⟩ num = none) := by
 have hup : TblT (os.map OT.x) := by
  have := hG.up
  rw [← hs] at this
  have h2 := (List.pairwise_map (f := fun o : OT => o.x.p) (R := fun a b : TxP => a.num < b.num)).1 this
  exact (List.pairwise_map (f := OT.x) (R := fun a b : Tx => a.num < b.num)).2 h2
 constructor
 ·intro ht
  obtain ⟨h1, h2⟩ := hA.hit ht
  rw [List.length_map] at h1
  rw [List.getElem_map] at h2
  refine ⟨h1, h2, ?_⟩
  have hi : i < txns.length := by rw [← hs, List.length_map]; exact h1
  have := findT_idx hG (i := i) hi
  have e : txns[i] = os[i].x.p := by simp [← hs]
  dsimp only at this
  rw [e] at this
  rw [← h2]; exact this
 ·intro ht
  unfold Yf
  rw [List.find?_eq_none]
  intro t ht2
  rw [← hs] at ht2
  obtain ⟨o, ho, rfl⟩ := List.mem_map.1 ht2
  obtain ⟨j, hj, rfl⟩ := List.mem_iff_getElem.1 ho
  have hj2 : j < (os.map OT.x).length := by simpa using hj
  have e : (os.map OT.x)[j] = os[j].x := by simp
  rw [decide_eq_true_eq]
  show ¬ os[j].x.num = num
  by_cases h : j < i
  ·have := hA.lo hup j hj2 h
   rw [e] at this; omega
  ·have := hA.hi hup ht j hj2 (by omega)
   rw [e] at this; omega
theorem nextT_num (t : TxP) (r : Rc) : (XG t r).num = t.num := by
 unfold XG
 split
 ·rfl
 ·split
  ·rfl
  ·split
   ·rfl
   ·split <;> rfl
structure Among (os : List OT) (i : Nat) (A : List OT) (o : OT) (B : List OT) : Prop where
 eq : os = A ++ o :: B
 len : A.length = i
theorem among {os : List OT} {i : Nat} (h : i < os.length) : Among os i (os.take i) os[i] (os.drop (i + 1)) :=
 ⟨by rw [← List.drop_eq_getElem_cons h, List.take_append_drop], by rw [List.length_take]; omega⟩
theorem OwnS.blk {vv : Value} {n sz : Nat} {xs sp : List Value} (h : OwnS vv n xs sp sz) (hn : 0 < n) : ∃ b cap, vv = .slice (some ⟨b, 0, none⟩) n cap ∧ xs.length = n * sz ∧ xs.length + sp.length = cap * sz ∧ n ≤ cap := by
 rcases h.out with ⟨_, q1, _, _⟩ | q
 ·omega
 ·exact q
theorem OwnS.turn {b cap n : Nat} {xs xs' sp : List Value} (h : OwnS (.slice (some ⟨b, 0, none⟩) n cap) n xs sp 7) (hl : xs'.length = xs.length) : OwnS (.slice (some ⟨b, 0, none⟩) n cap) n xs' sp 7 := by
 rcases h.out with ⟨e, _⟩ | ⟨b2, c2, e, h1, h2, h3⟩
 ·cases e
 ·cases e
  exact ⟨.inr ⟨b, cap, rfl, by omega, by omega, h3⟩⟩
theorem takes_spec (ρ : Hp) (cb : Nat) (next : Int) (vv : Value) (sp : List Value) (os : List OT) (txns : List TxP) (hR : OwnR vv sp os txns) (rv0 : RV) (r0 : Rc) (t0 : Option Addr) (rv : RV) (r : Rc) (h : RcIn ρ rv r) (hok : YF r = true) (hG : RosG ⟨next, txns⟩) :
  Spec Tryz.prog 141 [.pointer (some ⟨cb, 0, none⟩), .agg ⟨Xh rv r⟩] ρ (YQ cb next vv rv0 r0 t0 :: Xi vv sp os)
   (DoR (takesE ⟨next, txns⟩ r) (WC ⟨next, txns⟩ r).next (WC ⟨next, txns⟩ r).txns [] cb ρ) := by
 have hk := (We hok).kind
 have h8 := hG.len
 have hol := hR.len
 dsimp only at h8
 have hn := hG.n1
 have hn2 := hG.n2
 dsimp only at hn hn2
 obtain ⟨va, vc, hvv, hvc⟩ := hR.own.slice
 unfold DoR takesE WC
 by_cases k9 : r.kind = 9
 ·simp only [if_pos k9]
  refine Zg Tryz.func141 rfl rfl rfl fun u R => ?_
  simp only [Zx, List.cons_append, List.nil_append]
  repeat' (first | (refine ZE ?_; refine Zo (Zd rfl) rfl rfl ?_) | (refine Zj ?_; first | (refine Zf ?_; refine qQ ?_) | refine Zn ?_) | refine Zb ?_ | (refine Zi ?_; refine Zv ?_) | (refine Zh ?_; refine Zu ?_) | intro _)
  exact qE (L' := YQ cb next vv rv r t0 :: (Xi vv sp os ++ [])) ⟨Hp.le_refl _, rfl, .inr ⟨by trivial, vv, sp, os, rv, r, t0, hR, rfl⟩⟩
 by_cases k1 : r.kind = 1
 ·simp only [if_neg k9, if_pos k1]
  have hb := mbegin_spec ρ cb next vv rv r t0 sp os ⟨hn, hn2⟩ (by omega) hR.own
  rw [hol] at hb
  generalize hE : (if r.txn ≠ next ∨ next = 1073741824 then (2 : Int) else if 8 ≤ txns.length then 6 else 0) = E at *
  refine Zg Tryz.func141 rfl rfl rfl fun u R => ?_
  simp only [Zx, List.cons_append, List.nil_append]
  repeat' (first | (refine Ze (.func 215) ?_; refine qC rfl rfl (hb) ?_; rintro v ρ' L' hle ⟨rfl, ⟨e, he, rfl, rfl, G, rfl⟩ | ⟨he, rfl, vv', sp', ho', rfl⟩⟩ <;> (try simp only [kM, kN, kO])) | (refine ZE ?_; refine Zo (Zd rfl) rfl rfl ?_) | (refine Zj ?_; first | (refine Zf ?_; refine qQ ?_) | refine Zn ?_) | refine Zb ?_ | (refine Zi ?_; refine Zv ?_) | (refine Zh ?_; refine Zu ?_) | intro _)
  ·repeat' (first | (refine ZE ?_; refine Zo (Zd rfl) rfl rfl ?_) | (refine Zj ?_; first | (refine Zf ?_; refine qQ ?_) | refine Zn ?_) | refine Zb ?_ | (refine Zi ?_; refine Zv ?_) | (refine Zh ?_; refine Zu ?_) | intro _)
   exact qE (L' := [] ++ []) ⟨Hp.le_refl _, rfl, .inl ⟨he, [], rfl⟩⟩
  ·subst he
   have hst : stC (os ++ [⟨newX r, [], []⟩]) = stC os := by rw [WN, stC_one]; simp [newX, ZK]
   repeat' (first | (refine ZE ?_; refine Zo (Zd rfl) rfl rfl ?_) | (refine Zj ?_; first | (refine Zf ?_; refine qQ ?_) | refine Zn ?_) | refine Zb ?_ | (refine Zi ?_; refine Zv ?_) | (refine Zh ?_; refine Zu ?_) | intro _)
   rw [← hst]
   refine qE (L' := YQ cb (next + 1) vv' rv r t0 :: (Xi vv' sp' (os ++ [⟨newX r, [], []⟩]) ++ [])) ⟨Hp.le_refl _, rfl, .inr ⟨by trivial, vv', sp', os ++ [⟨newX r, [], []⟩], rv, r, t0, ⟨ho', fun o ho => ?_, ?_⟩, rfl⟩⟩
   ·rcases List.mem_append.1 ho with ho | ho
    ·exact hR.each o ho
    ·rw [List.mem_singleton] at ho
     subst ho
     exact ⟨OwnS.nil 2, OwnS.nil 1⟩
   ·rw [List.map_append, hR.says]; rfl
 simp only [if_neg k9, if_neg k1]
 have hat := atO_spec ρ next vv sp os (by omega) hR.own r.txn
 have hfa := fun i there (hA : AtT (os.map OT.x) r.txn i there) => find_at hA hR.says hG
 refine Zg Tryz.func141 rfl rfl rfl fun u R => ?_
 simp only [Zx, List.cons_append, List.nil_append]
 repeat' (first | (refine ZE ?_; refine Zo (Zd rfl) rfl rfl ?_) | (refine Zj ?_; first | (refine Zf ?_; refine qQ ?_) | refine Zn ?_) | refine Zb ?_ | (refine Zi ?_; refine Zv ?_) | (refine Zh ?_; refine Zu ?_) | intro _)
 rename_i rb
 refine ZD (Zs _ _ ([YQ cb next vv rv r t0, [(rb, .cells ⟨Xh rv r⟩ 30 (0, 0))]])) (Zz (hT := tk) (Hp.le_refl _)) ?_
 all_goals (refine ZT 0 ?_; refine rNc 1 ?_; refine ZS 2 ?_; refine ZX 3 ?_; refine ZS 4 ?_; refine ZX 5 ?_)
 all_goals (refine Zp (i := 6) ?_; ((try refine Zk ?_); (first | (refine Ze (.func 128) ?_; refine qC rfl rfl (hat) ?_; rintro v ρ' L' hle ⟨rfl, i, there, rfl, hAt, rfl⟩ <;> (try simp only [kM, kN, kO])) | (refine Zf ?_; refine qQ ?_) | (refine Zn ?_; try intro _)) <;> ((try simp only [kM, kN, kO]); refine Zb ?_; refine Zl ?_)))
 all_goals (refine ZT 7 ?_; refine rEx 8 ?_; refine rAs 10 ?_)
 all_goals (refine Zp (i := 9) ?_; ((try refine Zk ?_); (first | (refine Ze (.func 128) ?_; refine qC rfl rfl (hat) ?_; rintro v ρ' L' hle ⟨rfl, i, there, rfl, hAt, rfl⟩ <;> (try simp only [kM, kN, kO])) | (refine Zf ?_; refine qQ ?_) | (refine Zn ?_; try intro _)) <;> ((try simp only [kM, kN, kO]); refine Zb ?_; refine Zl ?_)))
 all_goals (refine ZO ?_; refine rAs 11 ?_; refine ZI ?_)
 all_goals obtain ⟨hf1, hf2⟩ := hfa i there hAt
 all_goals cases there
 all_goals (first
  | (rw [hf2 rfl]; dsimp only [ownE, ownP]; (repeat' (first | (refine ZE ?_; refine Zo (Zd rfl) rfl rfl ?_) | (refine Zj ?_; first | (refine Zf ?_; refine qQ ?_) | refine Zn ?_) | refine Zb ?_ | (refine Zi ?_; refine Zv ?_) | (refine Zh ?_; refine Zu ?_) | intro _)); exact qE (L' := [] ++ []) ⟨Hp.le_refl _, rfl, .inl ⟨by decide, [], rfl⟩⟩)
  | skip)
 all_goals obtain ⟨hi, hnum, hfind⟩ := hf1 rfl
 all_goals rw [hfind]
 all_goals dsimp only [ownE, ownP]
 all_goals obtain ⟨b, cap, rfl, e1, e2, e3⟩ := hR.own.blk (show 0 < os.length by omega)
 all_goals (
  have hot := hR.each _ (List.getElem_mem hi)
  have hi2 : i < txns.length := by omega
  have hti : txns[i] = (os[i].x).p := by simp [← hR.says]
  have hxg : TxG (os[i].x).p := by rw [← hti]; exact (hG.tx _ (List.getElem_mem hi2)).2.2
  have hti2 : (txns[i]).num = os[i].x.num := by rw [hti]
  obtain ⟨hE, hAl⟩ := among hi
  generalize os[i] = ot at *
  generalize os.take i = A at *
  generalize os.drop (i + 1) = B at *
  have hsl : ot.x.stack.length ≤ 1099511627776 := hxg.sl
  have hml : ot.x.marks.length ≤ 8 := hxg.ml
  have hPl : (txF A).length = 0 + i * 7 := by rw [WL, hAl]; omega
  have hfE : txF os = txF A ++ (Ym ot.x ++ txF B) := by rw [hE, Wi, show txF (ot :: B) = txF ([ot] ++ B) from rfl, Wi, txF_one]
  have hCe : ZK (.slice (some ⟨b, 0, none⟩) os.length cap) (txF os) sp 72 = Xt b (txF A) ot.x (txF B ++ sp) := by
   show [(b, Obj.cells ⟨txF os ++ sp⟩ 72 (0, 0))] = _
   rw [hfE]; simp
  have hst : stC os = stC A ++ ((WE ot.x ot.ss ++ Wv ot.x ot.ms) ++ stC B) := by rw [hE, WN, show stC (ot :: B) = stC ([ot] ++ B) from rfl, WN, stC_one]
  have hg3 : (txF A ++ txQ ot.x (txF B ++ sp))[0 + i * 7 + 3]? = some (.int .u64 ot.x.last) := Wp hPl rfl)
 all_goals (repeat' (first | (refine ZE ?_; refine Zo (Zd rfl) rfl rfl ?_) | (refine Zj ?_; first | (refine Zf ?_; refine qQ ?_) | refine Zn ?_) | refine Zb ?_ | (refine Zi ?_; refine Zv ?_) | (refine Zh ?_; refine Zu ?_) | intro _))
 all_goals rw [hCe]
 all_goals by_cases hpv : r.prev = ot.x.last
 all_goals refine ZD (Zs _ _ ([YQ cb next (.slice (some ⟨b, 0, none⟩) os.length cap) rv r (some ⟨b, 0 + i * 7, none⟩), Xt b (txF A) ot.x (txF B ++ sp), [(rb, .cells ⟨Xh rv r⟩ 30 (0, 0))]])) (Zz (hT := tk) (Hp.le_refl _)) ?_
 all_goals (refine ZS 0 ?_; refine ZO ?_; refine ZX 1 ?_; refine ZT 2 ?_; refine rNc 3 ?_; refine ZS 4 ?_; refine ZX 5 ?_; refine rNc 6 ?_; refine ZS 7 ?_; refine ZX 8 ?_; refine rCm 9 ?_; refine ZI ?_)
 all_goals (first
  | (rw [if_pos (show r.prev ≠ ot.x.last from hpv)]; (repeat' (first | (refine ZE ?_; refine Zo (Zd rfl) rfl rfl ?_) | (refine Zj ?_; first | (refine Zf ?_; refine qQ ?_) | refine Zn ?_) | refine Zb ?_ | (refine Zi ?_; refine Zv ?_) | (refine Zh ?_; refine Zu ?_) | intro _)); exact qE (L' := [] ++ []) ⟨Hp.le_refl _, rfl, .inl ⟨by decide, [], rfl⟩⟩)
  | rw [if_neg (show ¬ r.prev ≠ ot.x.last from fun e => e hpv)])
 all_goals have hnil : Xk .i64 [] := by intro e he; simp at he
 all_goals (repeat' (first | (refine Yz rfl rfl rfl hnil (fun es1 ck1 i1 j1 => ?_)) | (refine Yz rfl rfl rfl i1 (fun es2 ck2 i2 j2 => ?_)) | (refine Yz rfl rfl rfl i2 (fun es3 ck3 i3 j3 => ?_)) | (refine Yz rfl rfl rfl i3 (fun es4 ck4 i4 j4 => ?_)) | (refine Yz rfl rfl rfl i4 (fun es5 ck5 i5 j5 => ?_)) | (refine Yz rfl rfl rfl i5 (fun es6 ck6 i6 j6 => ?_)) | (refine Yz rfl rfl rfl i6 (fun es7 ck7 i7 j7 => ?_)) | (refine ZE ?_; refine Zo (Zd rfl) rfl rfl ?_) | (refine Zj ?_; first | (refine Zf ?_; refine qQ ?_) | refine Zn ?_) | refine Zb ?_ | (refine Zi ?_; refine Zv ?_) | (refine Zh ?_; refine Zu ?_) | intro _))
 all_goals (
  have hg0 : ∀ k : Int, XC [] k = none := fun _ => rfl
  have hg := j7 r.kind
  rw [j6, j5, j4, j3, j2, j1, hg0] at hg
  clear j1 j2 j3 j4 j5 j6 j7 i1 i2 i3 i4 i5 i6)
 all_goals refine ZD (Zs _ _ ([YQ cb next (.slice (some ⟨b, 0, none⟩) os.length cap) rv r (some ⟨b, 0 + i * 7, none⟩), [(rb, .cells ⟨Xh rv r⟩ 30 (0, 0))]])) (Zz (hT := tk) (Hp.le_refl _)) ?_
 all_goals (refine ZT 0 ?_; refine rNc 1 ?_; refine ZS 2 ?_; refine ZX 3 ?_; refine ZS 4 ?_; refine ZX 5 ?_; refine rNc 6 ?_; refine ZS 7 ?_)
 all_goals (refine Zp (i := 8) ?_; ((try refine Zk ?_); (first | (refine ZZ (o := 0 + i * 7) (P := txF A) rfl rfl hPl rfl ?_) | (refine Zn ?_; try intro _)) <;> ((try simp only [kM, kN, kO]); refine Zb ?_; refine Zl ?_)))
 all_goals refine ZI ?_
 all_goals by_cases k8 : r.kind = 8
 ·rw [if_pos k8] at hg
  simp only [if_pos k8]
  have hst8 : stC (A ++ B) = stC A ++ stC B := WN A B
  have hne : ∀ o ∈ A ++ B, o.x.num ≠ ot.x.num := fun o ho => by
   have hp := hG.up
   dsimp only at hp
   rw [← hR.says, hE] at hp
   have hp2 := (List.pairwise_map (f := fun o : OT => o.x.p) (R := fun a b : TxP => a.num < b.num)).1 hp
   rw [List.pairwise_append, List.pairwise_cons] at hp2
   rcases List.mem_append.1 ho with ho | ho
   ·have q : o.x.num < ot.x.num := hp2.2.2 o ho ot (by simp)
    omega
   ·have q : ot.x.num < o.x.num := hp2.2.1.1 o ho
    omega
  have hfs : (A ++ (⟨{ ot.x with last := r.lsn }, ot.ss, ot.ms⟩ : OT) :: B).filter (fun t => !decide (t.x.num = ot.x.num)) = A ++ B := by
   rw [List.filter_append, List.filter_cons, if_neg (by simp), ← List.filter_append]
   exact List.filter_eq_self.2 (fun o ho => by simp [hne o ho])
  have hlo : (A ++ (⟨{ ot.x with last := r.lsn }, ot.ss, ot.ms⟩ : OT) :: B).length = os.length := by rw [hE]; simp
  have hf1E : txF (A ++ (⟨{ ot.x with last := r.lsn }, ot.ss, ot.ms⟩ : OT) :: B) = txF A ++ (Ym { ot.x with last := r.lsn } ++ txF B) := by rw [Wi, show txF ((⟨{ ot.x with last := r.lsn }, ot.ss, ot.ms⟩ : OT) :: B) = txF ([(⟨{ ot.x with last := r.lsn }, ot.ss, ot.ms⟩ : OT)] ++ B) from rfl, Wi, txF_one]
  have hown1 := hR.own.turn (xs' := txF (A ++ (⟨{ ot.x with last := r.lsn }, ot.ss, ot.ms⟩ : OT) :: B)) (by rw [WL, WL, hlo])
  have hPS : txF A ++ txQ { ot.x with last := r.lsn } (txF B ++ sp) = txF (A ++ (⟨{ ot.x with last := r.lsn }, ot.ss, ot.ms⟩ : OT) :: B) ++ sp := by rw [hf1E]; simp
  have hme := mend_spec ρ' cb next rv r b (0 + i * 7) cap (txF A) { ot.x with last := r.lsn } (txF B ++ sp) sp (A ++ (⟨{ ot.x with last := r.lsn }, ot.ss, ot.ms⟩ : OT) :: B) (by omega) (by rw [hlo]; exact hown1) hPl hPS
  rw [hfs, hlo] at hme
  have hCf : ZK (.slice (some ⟨b, 0, none⟩) os.length cap) (txF (A ++ (⟨{ ot.x with last := r.lsn }, ot.ss, ot.ms⟩ : OT) :: B)) sp 72 = [(b, .cells ⟨txF A ++ txQ { ot.x with last := r.lsn } (txF B ++ sp)⟩ 72 (0, 0))] := by rw [hPS]; rfl
  rw [hCf] at hme
  have hdr : (A ++ B).map (fun o => o.x.p) = (dropT ⟨next, txns⟩ r.txn).txns := by
   unfold dropT
   dsimp only
   rw [← hR.says, hE, List.map_append, List.map_append, List.map_cons, List.filter_append, List.filter_cons, if_neg (by simp [hnum]), ← List.filter_append, ← List.map_append]
   symm
   refine List.filter_eq_self.2 (fun t ht => ?_)
   obtain ⟨o, ho, rfl⟩ := List.mem_map.1 ht
   have := hne o ho
   rw [hnum] at this
   simpa using this
  rw [hst]
  repeat' (first | (refine Ze (.tmp 79) ?_; refine qC rfl rfl (hme) ?_; rintro v ρ' L' hle ⟨rfl, rfl, vv', sp', ho', rfl⟩ <;> (try simp only [kM, kN, kO])) | (refine ZE ?_; refine Zo (Zd rfl) rfl rfl ?_) | (refine Zj ?_; first | (refine Zf ?_; refine qQ ?_) | refine Zn ?_) | refine Zb ?_ | (refine Zi ?_; refine Zv ?_) | (refine Zh ?_; refine Zu ?_) | intro _)
  refine te_split (stC A) _ ?_
  refine te_split (WE ot.x ot.ss ++ Wv ot.x ot.ms) (stC B) ?_
  refine XQ (stC A) (stC B) ?_
  rw [← hst8]
  refine qE (L' := YQ cb next vv' rv r (some ⟨b, 0 + i * 7, none⟩) :: (Xi vv' sp' (A ++ B) ++ [])) ⟨Hp.le_refl _, rfl, .inr ⟨by trivial, vv', sp', A ++ B, rv, r, _, ⟨ho', fun o ho => hR.each o ?_, hdr⟩, rfl⟩⟩
  rw [hE]
  rcases List.mem_append.1 ho with ho | ho
  ·exact List.mem_append_left _ ho
  ·exact List.mem_append_right _ (List.mem_cons_of_mem _ ho)
 ·rw [if_neg k8] at hg
  simp only [if_neg k8]
  have hkk : 2 ≤ r.kind ∧ r.kind ≤ 7 := by omega
  obtain ⟨hF, hS⟩ := meth_spec r hok hkk
  have hS := fun ρ1 (hle : Hp.le ρ' ρ1) => hS ρ1 cb next (.slice (some ⟨b, 0, none⟩) os.length cap) rv b (0 + i * 7) (txF A) { ot.x with last := r.lsn } (txF B ++ sp) ot.ss ot.ms hPl ⟨hot.s, hot.m⟩ hsl (by show ot.x.marks.length ≤ 100; omega) (h.mono hle) rfl
  have hgF : XC es7 r.kind = some (Value.func (.func (methF r.kind)) ⟨[.pointer (some ⟨cb, 0, none⟩)]⟩ ⟨[]⟩) := by
   rw [hg]
   have := methF_chain (f := fun F => some (Value.func (.func F) ⟨[.pointer (some ⟨cb, 0, none⟩)]⟩ ⟨[]⟩)) hkk
   rw [if_neg k8] at this
   exact this
  clear hg
  have hmy : mayT ({ ot.x with last := r.lsn } : Tx).p r = mayT ot.x.p r := rfl
  have hnx : XG ({ ot.x with last := r.lsn } : Tx).p r = XG ot.x.p r := rfl
  rw [hmy, hnx] at hS
  unfold MethR at hS
  generalize methF r.kind = F at *
  generalize hnx2 : XG ot.x.p r = nx at *
  have hnn : nx.num = ot.x.num := by rw [← hnx2, nextT_num]
  generalize mayT ot.x.p r = my at *
  rw [hst]
  refine te_split (stC A) _ ?_
  refine te_split (WE ot.x ot.ss ++ Wv ot.x ot.ms) (stC B) ?_
  refine te_split (WE ot.x ot.ss) (Wv ot.x ot.ms) ?_
  repeat' (first | (refine Ze (.tmp 79) ?_; refine qC rfl rfl (hS _ (Hp.le_refl _)) ?_; rintro v ρ' L' hle ⟨hl1, ⟨rfl, rfl, x', ss', ms', e4, hX', rfl⟩ | ⟨rfl, rfl, G, rfl⟩⟩ <;> (try simp only [kM, kN, kO])) | (refine ZE ?_; refine Zo (Zd rfl) rfl rfl ?_) | (refine Zj ?_; first | (refine Zf ?_; refine qQ ?_) | refine Zn ?_) | refine Zb ?_ | (refine Zi ?_; refine Zv ?_) | (refine Zh ?_; refine Zu ?_) | intro _)
  ·repeat' (first | (refine ZE ?_; refine Zo (Zd rfl) rfl rfl ?_) | (refine Zj ?_; first | (refine Zf ?_; refine qQ ?_) | refine Zn ?_) | refine Zb ?_ | (refine Zi ?_; refine Zv ?_) | (refine Zh ?_; refine Zu ?_) | intro _)
   have hlo : (A ++ (⟨x', ss', ms'⟩ : OT) :: B).length = os.length := by rw [hE]; simp
   have hf1E : txF (A ++ (⟨x', ss', ms'⟩ : OT) :: B) = txF A ++ (Ym x' ++ txF B) := by rw [Wi, show txF ((⟨x', ss', ms'⟩ : OT) :: B) = txF ([(⟨x', ss', ms'⟩ : OT)] ++ B) from rfl, Wi, txF_one]
   have hown1 := hR.own.turn (xs' := txF (A ++ (⟨x', ss', ms'⟩ : OT) :: B)) (by rw [WL, WL, hlo])
   have hCf : Xt b (txF A) x' (txF B ++ sp) = ZK (.slice (some ⟨b, 0, none⟩) os.length cap) (txF (A ++ (⟨x', ss', ms'⟩ : OT) :: B)) sp 72 := by
    show _ = [(b, Obj.cells ⟨txF (A ++ (⟨x', ss', ms'⟩ : OT) :: B) ++ sp⟩ 72 (0, 0))]
    rw [hf1E]; simp
   have hst9 : stC A ++ ((WE x' ss' ++ Wv x' ms') ++ stC B) = stC (A ++ (⟨x', ss', ms'⟩ : OT) :: B) := by rw [WN, show stC ((⟨x', ss', ms'⟩ : OT) :: B) = stC ([(⟨x', ss', ms'⟩ : OT)] ++ B) from rfl, WN, stC_one]
   have hsay : (A ++ (⟨x', ss', ms'⟩ : OT) :: B).map (fun o => o.x.p) = (putT ⟨next, txns⟩ nx).txns := by
    rw [putT_set hG hi2 (by rw [hti2]; exact hnn)]
    dsimp only
    rw [← hR.says, hE, List.map_append, List.map_cons, List.map_append, List.map_cons, List.set_append_right _ _ (by rw [List.length_map]; omega), List.length_map, hAl, Nat.sub_self, List.set_cons_zero, e4]
   have hCf2 : ∀ Y : SH, (Xt b (txF A) x' (txF B ++ sp) :: Y) = (ZK (.slice (some ⟨b, 0, none⟩) os.length cap) (txF (A ++ (⟨x', ss', ms'⟩ : OT) :: B)) sp 72 :: Y) := fun Y => by rw [hCf]
   rw [hCf2]
   refine XQ (WE x' ss') (Wv x' ms') ?_
   refine XQ (WE x' ss' ++ Wv x' ms') (stC B) ?_
   refine XQ (stC A) ((WE x' ss' ++ Wv x' ms') ++ stC B) ?_
   rw [hst9]
   refine qE (L' := YQ cb next (.slice (some ⟨b, 0, none⟩) os.length cap) rv r (some ⟨b, 0 + i * 7, none⟩) :: (Xi (.slice (some ⟨b, 0, none⟩) os.length cap) sp (A ++ (⟨x', ss', ms'⟩ : OT) :: B) ++ [])) ⟨hl1, rfl, .inr ⟨by trivial, _, sp, A ++ (⟨x', ss', ms'⟩ : OT) :: B, rv, r, _, ⟨by rw [hlo]; exact hown1, fun o ho => ?_, hsay⟩, rfl⟩⟩
   rcases List.mem_append.1 ho with ho | ho
   ·exact hR.each o (by rw [hE]; exact List.mem_append_left _ ho)
   ·rcases List.mem_cons.1 ho with rfl | ho
    ·exact hX'
    ·exact hR.each o (by rw [hE]; exact List.mem_append_right _ (List.mem_cons_of_mem _ ho))
  ·repeat' (first | (refine ZE ?_; refine Zo (Zd rfl) rfl rfl ?_) | (refine Zj ?_; first | (refine Zf ?_; refine qQ ?_) | refine Zn ?_) | refine Zb ?_ | (refine Zi ?_; refine Zv ?_) | (refine Zh ?_; refine Zu ?_) | intro _)
   exact qE (L' := [] ++ []) ⟨hl1, rfl, .inl ⟨by decide, [], rfl⟩⟩
theorem take1_spec (ρ : Hp) (cb xb : Nat) (p : Yr) (vv : Value) (sp : List Value) (os : List OT) (hR : OwnR vv sp os p.txns) (hG : RosG p) (rv : RV) (r : Rc) (h : RcIn ρ rv r) :
  Spec Tryz.prog 140 [.pointer (some ⟨cb, 0, none⟩), .pointer (some ⟨xb, 0, none⟩)] ρ (YQ cb p.next vv noRV zeroRc none :: (Xi vv sp os ++ [recC xb rv r]))
   (DoR (if YF r then takesE p r else 220) (WC p r).next (WC p r).txns [recC xb rv r] cb ρ) := by
 have hck := rcheck_spec ρ rv r h
 unfold DoR
 refine Zg Tryz.func140 rfl rfl rfl fun u R => ?_
 simp only [Zx, List.cons_append, List.nil_append]
 cases hok : YF r
 ·rw [hok] at hck
  simp only [Bool.false_eq_true, if_false] at hck ⊢
  repeat' (first | (refine Ze (.func 27) ?_; refine qC rfl rfl (hck) ?_; rintro v ρ' L' hle ⟨rfl, rfl, rfl⟩ <;> (try simp only [kM, kN, kO])) | (refine ZE ?_; refine Zo (Zd rfl) rfl rfl ?_) | (refine Zj ?_; first | (refine Zf ?_; refine qQ ?_) | refine Zn ?_) | refine Zb ?_ | (refine Zi ?_; refine Zv ?_) | (refine Zh ?_; refine Zu ?_) | intro _)
  exact qE (L' := [] ++ [recC xb rv r]) ⟨Hp.le_refl _, rfl, .inl ⟨by decide, [], rfl⟩⟩
 ·rw [hok] at hck
  simp only [if_true] at hck ⊢
  have ht := takes_spec ρ cb p.next vv sp os p.txns hR noRV zeroRc none rv r h hok hG
  unfold DoR at ht
  have hp : (⟨p.next, p.txns⟩ : Yr) = p := rfl
  rw [hp] at ht
  repeat' (first | (refine Ze (.func 27) ?_; refine qC rfl rfl (hck) ?_; rintro v ρ' L' hle ⟨rfl, rfl, rfl⟩ <;> (try simp only [kM, kN, kO])) | (refine Ze (.func 141) ?_; refine qC rfl rfl (ht) ?_; rintro v ρ' L' hle ⟨hl1, rfl, ⟨he, G, rfl⟩ | ⟨he, vv', sp', os', rv', x', tp', hR', rfl⟩⟩ <;> (try simp only [kM, kN, kO])) | (refine ZE ?_; refine Zo (Zd rfl) rfl rfl ?_) | (refine Zj ?_; first | (refine Zf ?_; refine qQ ?_) | refine Zn ?_) | refine Zb ?_ | (refine Zi ?_; refine Zv ?_) | (refine Zh ?_; refine Zu ?_) | intro _)
  ·simp only [List.append_nil, List.append_assoc]
   repeat' (first | (refine ZE ?_; refine Zo (Zd rfl) rfl rfl ?_) | (refine Zj ?_; first | (refine Zf ?_; refine qQ ?_) | refine Zn ?_) | refine Zb ?_ | (refine Zi ?_; refine Zv ?_) | (refine Zh ?_; refine Zu ?_) | intro _)
   exact qE (L' := G ++ [recC xb rv r]) ⟨hl1, rfl, .inl ⟨he, G, rfl⟩⟩
  ·repeat' (first | (refine ZE ?_; refine Zo (Zd rfl) rfl rfl ?_) | (refine Zj ?_; first | (refine Zf ?_; refine qQ ?_) | refine Zn ?_) | refine Zb ?_ | (refine Zi ?_; refine Zv ?_) | (refine Zh ?_; refine Zu ?_) | intro _)
   exact qE (L' := YQ cb (WC p r).next vv' rv' x' tp' :: (Xi vv' sp' os' ++ [recC xb rv r])) ⟨hl1, rfl, .inr ⟨he, vv', sp', os', rv', x', tp', hR', rfl⟩⟩
theorem take_spec (ρ : Hp) (v : SV) (ro : Ros) (h : RosIn ρ v ro) (rv : RV) (r : Rc) (hr : RcIn ρ rv r) : Spec Tryz.prog 60 [.agg ⟨Yh v ro⟩, .agg ⟨Xh rv r⟩] ρ []
  (fun z ρ' L' => ρ.le ρ' ∧ ((XY ro.p r ≠ 0 ∧ z = .tuple ⟨[.agg ⟨[.int .i64 0, .slice none 0 0]⟩, .int .i64 (XY ro.p r)]⟩ ∧ L' = []) ∨
   (XY ro.p r = 0 ∧ ∃ vv sp os, OwnR vv sp os (XK ro.p r).txns ∧ z = .tuple ⟨[.agg ⟨[.int .i64 (XK ro.p r).next, vv]⟩, .int .i64 0]⟩ ∧ L' = Xi vv sp os))) := by
 refine Zg Tryz.func60 rfl rfl rfl fun u R => ?_
 simp only [Zx, List.cons_append, List.nil_append]
 unfold XK XY
 rw [rosOk_p]
 cases hok : rosOk ro
 ·have hw := fun cs X => rwith_bad ρ v ro h hok 140 cs X
  simp only [Bool.false_eq_true, if_false]
  repeat' (first | (refine Ze (.func 139) ?_; refine qC rfl rfl ((hw _ [])) ?_; rintro v ρ' L' hle ⟨rfl, rfl, rfl⟩ <;> (try simp only [kM, kN, kO])) | (refine ZE ?_; refine Zo (Zd rfl) rfl rfl ?_) | (refine Zj ?_; first | (refine Zf ?_; refine qQ ?_) | refine Zn ?_) | refine Zb ?_ | (refine Zi ?_; refine Zv ?_) | (refine Zh ?_; refine Zu ?_) | intro _)
  exact qE (L' := []) ⟨Hp.le_refl _, .inl ⟨by decide, rfl, rfl⟩⟩
 ·have hG : RosG ro.p := WP.1 (by rw [rosOk_p]; exact hok)
  simp only [if_true]
  have hw := fun xb => rwith_spec ρ v ro h hok 140 [.pointer (some ⟨xb, 0, none⟩)] [recC xb rv r] [recC xb rv r] (if YF r then takesE ro.p r else 220) (WC ro.p r).next (WC ro.p r).txns (fun ρ1 hle cb vv sp os hR => take1_spec ρ1 cb xb ro.p vv sp os hR hG rv r (hr.mono hle))
  generalize (if YF r = true then takesE ro.p r else 220) = e at *
  repeat' (first | (refine Ze (.func 139) ?_; refine qC rfl rfl (hw _) ?_; rintro v ρ' L' hle ⟨hl1, ⟨he, rfl, rfl⟩ | ⟨he, vv, sp, os, hR, rfl, rfl⟩⟩ <;> (try simp only [kM, kN, kO])) | (refine ZE ?_; refine Zo (Zd rfl) rfl rfl ?_) | (refine Zj ?_; first | (refine Zf ?_; refine qQ ?_) | refine Zn ?_) | refine Zb ?_ | (refine Zi ?_; refine Zv ?_) | (refine Zh ?_; refine Zu ?_) | intro _)
  ·repeat' (first | (refine ZE ?_; refine Zo (Zd rfl) rfl rfl ?_) | (refine Zj ?_; first | (refine Zf ?_; refine qQ ?_) | refine Zn ?_) | refine Zb ?_ | (refine Zi ?_; refine Zv ?_) | (refine Zh ?_; refine Zu ?_) | intro _)
   exact qE (L' := []) ⟨hl1, .inl ⟨he, rfl, rfl⟩⟩
  ·subst he
   obtain ⟨va, vc, rfl, _⟩ := hR.own.slice
   repeat' (first | (refine ZE ?_; refine Zo (Zd rfl) rfl rfl ?_) | (refine Zj ?_; first | (refine Zf ?_; refine qQ ?_) | refine Zn ?_) | refine Zb ?_ | (refine Zi ?_; refine Zv ?_) | (refine Zh ?_; refine Zu ?_) | intro _)
   exact qE (L' := Xi _ sp os) ⟨hl1, .inr ⟨by trivial, _, sp, os, hR, rfl, rfl⟩⟩
theorem RosIn.z {ρ : Hp} : RosIn ρ Xn ⟨0, []⟩ := ⟨AS.nil, by simp⟩
theorem own_frozen {ρ : Hp} {next : Int} {vv : Value} {sp : List Value} {os : List OT} {p : Yr} (hR : OwnR vv sp os p.txns) (hG : RosG p) (hn : next = p.next) (hf : ∀ q ∈ (Xi vv sp os).flatten, ρ q.1 = some q.2) :
  ∃ (v : SV) (ro' : Ros), Value.agg ⟨[.int .i64 next, vv]⟩ = .agg ⟨Yh v ro'⟩ ∧ RosIn ρ v ro' ∧ ro'.p = p := by
 have h8 := hG.len
 obtain ⟨v, ro', e, h1, h2, h3⟩ := hR.frozen (ρ := ρ) (by omega) hG.bounds (fun q hq => hf q (by simp [hq])) (fun q hq => hf q (by simp [hq])) p.next
 refine ⟨v, ro', ?_, h1, h2⟩
 rw [e, hn, ← h3]
theorem takeP_ok {p : Yr} {r : Rc} (he : XY p r = 0) : RosG (XK p r) := by
 unfold XK
 rw [if_pos he]
 unfold XY at he
 cases h1 : XW p
 ·rw [h1] at he; simp at he
 ·cases h2 : YF r
  ·rw [h1, h2] at he; simp at he
  ·rw [h1, h2] at he
   exact takes_ok (WP.1 h1) h2 he
theorem takeF_spec (ρ : Hp) (v : SV) (ro : Ros) (h : RosIn ρ v ro) (rv : RV) (r : Rc) (hr : RcIn ρ rv r) : Spec Tryz.prog 60 [.agg ⟨Yh v ro⟩, .agg ⟨Xh rv r⟩] ρ []
  (fun z ρ' L' => (ρ.le ρ' ∧ ∃ (v' : SV) (ro' : Ros), z = .tuple ⟨[.agg ⟨Yh v' ro'⟩, .int .i64 (XY ro.p r)]⟩ ∧ RosIn ρ' v' ro' ∧ ro'.p = XK ro.p r) ∧ L' = []) := by
 refine Spec.freeze (Post2 := fun z ρ' => ρ.le ρ' ∧ ∃ (v' : SV) (ro' : Ros), z = .tuple ⟨[.agg ⟨Yh v' ro'⟩, .int .i64 (XY ro.p r)]⟩ ∧ RosIn ρ' v' ro' ∧ ro'.p = XK ro.p r) (take_spec ρ v ro h rv r hr) ?_
 rintro z ρ' L' _ ⟨hl1, ⟨he, rfl, rfl⟩ | ⟨he, vv, sp, os, hR, rfl, rfl⟩⟩ ρ2 hl2 hf
 ·refine ⟨Hp.le_trans hl1 hl2, Xn, ⟨0, []⟩, rfl, RosIn.z, ?_⟩
  unfold XK; rw [if_neg he]; rfl
 ·obtain ⟨v', ro', e1, e2, e3⟩ := own_frozen (next := (XK ro.p r).next) hR (takeP_ok he) rfl hf
  exact ⟨Hp.le_trans hl1 hl2, v', ro', by rw [e1, he], e2, e3⟩
def askX (X2 : SH) (X2' : TxP → SH) (o : Option TxP) : SH := match o with | none => X2 | some t => if t.state = 1 then X2' t else X2
def AskR (f : TxP → Int) (g : TxP → TxP) (X2' : TxP → SH) (b : Nat) (P : List Value) (x : Tx) (S : List Value) (ρ1 : Hp) (z : Value) (ρ' : Hp) (L' : SH) : Prop :=
 ρ' = ρ1 ∧ z = .int .i64 (f x.p) ∧ ((f x.p ≠ 0 ∧ ∃ G : SH, L' = G ++ X2' x.p) ∨ (f x.p = 0 ∧ ∃ x' ss' ms', x'.p = g x.p ∧ OwnX x' ss' ms' ∧ L' = Xt b P x' S :: WE x' ss' :: Wv x' ms' :: X2' x.p))
abbrev doC (db F : Nat) (cs : List Value) : List (Nat × Obj) := [(db, .cells ⟨[.func (.func F) ⟨[]⟩ ⟨cs⟩]⟩ 181 (0, 0))]
theorem asks1_spec (ρ : Hp) (cb nb db : Nat) (p : Yr) (num : Int) (vv : Value) (sp : List Value) (os : List OT) (hR : OwnR vv sp os p.txns) (hG : RosG p) (F : Nat) [hF : Yu Tryz.prog F] (cs : List Value) (X2 : SH) (X2' : TxP → SH) (f : TxP → Int) (g : TxP → TxP) (hg : ∀ t, (g t).num = t.num)
  (hdo : ∀ b o P x S ss ms, P.length = o → OwnX x ss ms → TxG x.p → x.state = 1 → Spec Tryz.prog F (.pointer (some ⟨b, o, none⟩) :: cs) ρ (Xt b P x S :: WE x ss :: Wv x ms :: X2) (AskR f g X2' b P x S ρ)) :
  Spec Tryz.prog 210 [.pointer (some ⟨cb, 0, none⟩), .pointer (some ⟨nb, 0, none⟩), .pointer (some ⟨db, 0, none⟩)] ρ (YQ cb p.next vv noRV zeroRc none :: (Xi vv sp os ++ ([(nb, .cells ⟨[.int .i64 num]⟩ 3 (0, 0))] :: doC db F cs :: X2)))
   (DoR (WJ f (Yf p num)) p.next (askT g p (Yf p num)).txns ([(nb, .cells ⟨[.int .i64 num]⟩ 3 (0, 0))] :: doC db F cs :: askX X2 X2' (Yf p num)) cb ρ) := by
 have h8 := hG.len
 have hol := hR.len
 unfold DoR
 have hat := atO_spec ρ p.next vv sp os (by omega) hR.own num
 have hfa := fun i there (hA : AtT (os.map OT.x) num i there) => find_at (next := p.next) (txns := p.txns) hA hR.says hG
 refine Zg Tryz.func210 rfl rfl rfl fun u R => ?_
 simp only [Zx, List.cons_append, List.nil_append]
 repeat' (first | (refine ZE ?_; refine Zo (Zd rfl) rfl rfl ?_) | (refine Zj ?_; first | (refine Zf ?_; refine qQ ?_) | refine Zn ?_) | refine Zb ?_ | (refine Zi ?_; refine Zv ?_) | (refine Zh ?_; refine Zu ?_) | intro _)
 refine ZD (Zs _ _ ([YQ cb p.next vv noRV zeroRc none, [(nb, .cells ⟨[.int .i64 num]⟩ 3 (0, 0))]])) (Zz (hT := tk) (Hp.le_refl _)) ?_
 all_goals (refine ZT 0 ?_; refine rNc 1 ?_; refine ZS 2 ?_; refine ZX 3 ?_; refine ZX 4 ?_)
 all_goals (refine Zp (i := 5) ?_; ((try refine Zk ?_); (first | (refine Ze (.func 128) ?_; refine qC rfl rfl (hat) ?_; rintro v ρ' L' hle ⟨rfl, i, there, rfl, hAt, rfl⟩ <;> (try simp only [kM, kN, kO])) | (refine Zf ?_; refine qQ ?_) | (refine Zn ?_; try intro _)) <;> ((try simp only [kM, kN, kO]); refine Zb ?_; refine Zl ?_)))
 all_goals (refine ZT 6 ?_; refine rEx 7 ?_; refine rAs 9 ?_)
 all_goals (refine Zp (i := 8) ?_; ((try refine Zk ?_); (first | (refine Ze (.func 128) ?_; refine qC rfl rfl (hat) ?_; rintro v ρ' L' hle ⟨rfl, i, there, rfl, hAt, rfl⟩ <;> (try simp only [kM, kN, kO])) | (refine Zf ?_; refine qQ ?_) | (refine Zn ?_; try intro _)) <;> ((try simp only [kM, kN, kO]); refine Zb ?_; refine Zl ?_)))
 all_goals (refine ZO ?_; refine rAs 10 ?_; refine ZI ?_)
 all_goals obtain ⟨hf1, hf2⟩ := hfa i there hAt
 all_goals cases there
 all_goals (first
  | (rw [show Yf p num = none from hf2 rfl]; dsimp only [WJ, askT, askX]; (repeat' (first | (refine ZE ?_; refine Zo (Zd rfl) rfl rfl ?_) | (refine Zj ?_; first | (refine Zf ?_; refine qQ ?_) | refine Zn ?_) | refine Zb ?_ | (refine Zi ?_; refine Zv ?_) | (refine Zh ?_; refine Zu ?_) | intro _)); exact qE (L' := [] ++ ([(nb, .cells ⟨[.int .i64 num]⟩ 3 (0, 0))] :: doC db F cs :: X2)) ⟨Hp.le_refl _, rfl, .inl ⟨by decide, [], rfl⟩⟩)
  | skip)
 all_goals obtain ⟨hi, hnum, hfind⟩ := hf1 rfl
 all_goals obtain ⟨b, cap, rfl, e1, e2, e3⟩ := hR.own.blk (show 0 < os.length by omega)
 all_goals (
  have hot := hR.each _ (List.getElem_mem hi)
  have hi2 : i < p.txns.length := by omega
  have hti : p.txns[i] = (os[i].x).p := by simp [← hR.says]
  have hxg : TxG (os[i].x).p := by rw [← hti]; exact (hG.tx _ (List.getElem_mem hi2)).2.2
  have hti2 : (p.txns[i]).num = os[i].x.num := by rw [hti]
  obtain ⟨hE, hAl⟩ := among hi
  have hfind2 : Yf p num = some os[i].x.p := hfind
  generalize os[i] = ot at *
  generalize os.take i = A at *
  generalize os.drop (i + 1) = B at *
  rw [hfind2]
  dsimp only [WJ, askT, askX]
  have hPl : (txF A).length = 0 + i * 7 := by rw [WL, hAl]; omega
  have hfE : txF os = txF A ++ (Ym ot.x ++ txF B) := by rw [hE, Wi, show txF (ot :: B) = txF ([ot] ++ B) from rfl, Wi, txF_one]
  have hCe : ZK (.slice (some ⟨b, 0, none⟩) os.length cap) (txF os) sp 72 = Xt b (txF A) ot.x (txF B ++ sp) := by
   show [(b, Obj.cells ⟨txF os ++ sp⟩ 72 (0, 0))] = _
   rw [hfE]; simp
  have hst : stC os = stC A ++ ((WE ot.x ot.ss ++ Wv ot.x ot.ms) ++ stC B) := by rw [hE, WN, show stC (ot :: B) = stC ([ot] ++ B) from rfl, WN, stC_one]
  have hli := live_spec ρ' cb p.next (.slice (some ⟨b, 0, none⟩) os.length cap) noRV zeroRc b (0 + i * 7) (txF A) ot.x (txF B ++ sp) hPl)
 all_goals (repeat' (first | (refine ZE ?_; refine Zo (Zd rfl) rfl rfl ?_) | (refine Zj ?_; first | (refine Zf ?_; refine qQ ?_) | refine Zn ?_) | refine Zb ?_ | (refine Zi ?_; refine Zv ?_) | (refine Zh ?_; refine Zu ?_) | intro _))
 all_goals rw [hCe]
 all_goals by_cases hlv : ot.x.state = 1
 ·simp only [if_pos hlv]
  rw [decide_eq_true hlv] at hli
  repeat' (first | (refine Ze (.func 211) ?_; refine qC rfl rfl (hli) ?_; rintro v ρ' L' hle ⟨rfl, rfl, rfl⟩ <;> (try simp only [kM, kN, kO])) | (refine ZE ?_; refine Zo (Zd rfl) rfl rfl ?_) | (refine Zj ?_; first | (refine Zf ?_; refine qQ ?_) | refine Zn ?_) | refine Zb ?_ | (refine Zi ?_; refine Zv ?_) | (refine Zh ?_; refine Zu ?_) | intro _)
  have hd := hdo b (0 + i * 7) (txF A) ot.x (txF B ++ sp) ot.ss ot.ms hPl hot hxg hlv
  unfold AskR at hd
  have hnx : (g ot.x.p).num = ot.x.num := hg _
  generalize f ot.x.p = fe at *
  generalize g ot.x.p = nx at *
  generalize X2' ot.x.p = Xf at *
  rw [hst]
  refine tc_split (stC A) _ ?_
  refine tc_split (WE ot.x ot.ss ++ Wv ot.x ot.ms) (stC B) ?_
  refine tc_split (WE ot.x ot.ss) (Wv ot.x ot.ms) ?_
  refine ZD (Zs _ _ ([YQ cb p.next (.slice (some ⟨b, 0, none⟩) os.length cap) noRV zeroRc (some ⟨b, 0 + i * 7, none⟩), doC db F cs])) (Zz (hT := tk) (Hp.le_refl _)) ?_
  all_goals (refine ZX 0 ?_; refine ZT 1 ?_; refine rNc 2 ?_; refine ZS 3 ?_; refine ZX 4 ?_)
  all_goals (refine Zp (i := 5) ?_; ((try refine Zk ?_); (first | (refine Ze (.tmp 31) ?_; refine qC rfl rfl (hd) ?_; rintro v ρ' L' hle ⟨rfl, rfl, ⟨he, G, rfl⟩ | ⟨he, x', ss', ms', e4, hX', rfl⟩⟩ <;> (try simp only [kM, kN, kO])) | (refine Zn ?_; try intro _)) <;> ((try simp only [kM, kN, kO]); refine Zb ?_; refine Zl ?_)))
  all_goals (refine ZO ?_; refine rAs 6 ?_; refine ZI ?_)
  ·simp only [List.append_nil, List.append_assoc]
   repeat' (first | (refine ZE ?_; refine Zo (Zd rfl) rfl rfl ?_) | (refine Zj ?_; first | (refine Zf ?_; refine qQ ?_) | refine Zn ?_) | refine Zb ?_ | (refine Zi ?_; refine Zv ?_) | (refine Zh ?_; refine Zu ?_) | intro _)
   exact qE (L' := (G ++ ([(nb, .cells ⟨[.int .i64 num]⟩ 3 (0, 0))] :: doC db F cs :: Xf))) ⟨Hp.le_refl _, rfl, .inl ⟨he, G, rfl⟩⟩
  ·subst he
   repeat' (first | (refine ZE ?_; refine Zo (Zd rfl) rfl rfl ?_) | (refine Zj ?_; first | (refine Zf ?_; refine qQ ?_) | refine Zn ?_) | refine Zb ?_ | (refine Zi ?_; refine Zv ?_) | (refine Zh ?_; refine Zu ?_) | intro _)
   have hlo : (A ++ (⟨x', ss', ms'⟩ : OT) :: B).length = os.length := by rw [hE]; simp
   have hf1E : txF (A ++ (⟨x', ss', ms'⟩ : OT) :: B) = txF A ++ (Ym x' ++ txF B) := by rw [Wi, show txF ((⟨x', ss', ms'⟩ : OT) :: B) = txF ([(⟨x', ss', ms'⟩ : OT)] ++ B) from rfl, Wi, txF_one]
   have hown1 := hR.own.turn (xs' := txF (A ++ (⟨x', ss', ms'⟩ : OT) :: B)) (by rw [WL, WL, hlo])
   have hCf : Xt b (txF A) x' (txF B ++ sp) = ZK (.slice (some ⟨b, 0, none⟩) os.length cap) (txF (A ++ (⟨x', ss', ms'⟩ : OT) :: B)) sp 72 := by
    show _ = [(b, Obj.cells ⟨txF (A ++ (⟨x', ss', ms'⟩ : OT) :: B) ++ sp⟩ 72 (0, 0))]
    rw [hf1E]; simp
   have hst9 : stC A ++ ((WE x' ss' ++ Wv x' ms') ++ stC B) = stC (A ++ (⟨x', ss', ms'⟩ : OT) :: B) := by rw [WN, show stC ((⟨x', ss', ms'⟩ : OT) :: B) = stC ([(⟨x', ss', ms'⟩ : OT)] ++ B) from rfl, WN, stC_one]
   have hsay : (A ++ (⟨x', ss', ms'⟩ : OT) :: B).map (fun o => o.x.p) = (putT p nx).txns := by
    rw [putT_set hG hi2 (by rw [hti2]; exact hnx)]
    dsimp only
    rw [← hR.says, hE, List.map_append, List.map_cons, List.map_append, List.map_cons, List.set_append_right _ _ (by rw [List.length_map]; omega), List.length_map, hAl, Nat.sub_self, List.set_cons_zero, e4]
   have hCf2 : ∀ Y : SH, (Xt b (txF A) x' (txF B ++ sp) :: Y) = (ZK (.slice (some ⟨b, 0, none⟩) os.length cap) (txF (A ++ (⟨x', ss', ms'⟩ : OT) :: B)) sp 72 :: Y) := fun Y => by rw [hCf]
   rw [hCf2]
   refine XQ (WE x' ss') (Wv x' ms') ?_
   refine XQ (WE x' ss' ++ Wv x' ms') (stC B) ?_
   refine XQ (stC A) ((WE x' ss' ++ Wv x' ms') ++ stC B) ?_
   rw [hst9]
   refine qE (L' := YQ cb p.next (.slice (some ⟨b, 0, none⟩) os.length cap) noRV zeroRc (some ⟨b, 0 + i * 7, none⟩) :: (Xi (.slice (some ⟨b, 0, none⟩) os.length cap) sp (A ++ (⟨x', ss', ms'⟩ : OT) :: B) ++ ([(nb, .cells ⟨[.int .i64 num]⟩ 3 (0, 0))] :: doC db F cs :: Xf))) ⟨Hp.le_refl _, rfl, .inr ⟨by trivial, _, sp, A ++ (⟨x', ss', ms'⟩ : OT) :: B, noRV, zeroRc, _, ⟨by rw [hlo]; exact hown1, fun o ho => ?_, hsay⟩, rfl⟩⟩
   rcases List.mem_append.1 ho with ho | ho
   ·exact hR.each o (by rw [hE]; exact List.mem_append_left _ ho)
   ·rcases List.mem_cons.1 ho with rfl | ho
    ·exact hX'
    ·exact hR.each o (by rw [hE]; exact List.mem_append_right _ (List.mem_cons_of_mem _ ho))
 ·simp only [if_neg hlv]
  rw [decide_eq_false hlv] at hli
  repeat' (first | (refine Ze (.func 211) ?_; refine qC rfl rfl (hli) ?_; rintro v ρ' L' hle ⟨rfl, rfl, rfl⟩ <;> (try simp only [kM, kN, kO])) | (refine ZE ?_; refine Zo (Zd rfl) rfl rfl ?_) | (refine Zj ?_; first | (refine Zf ?_; refine qQ ?_) | refine Zn ?_) | refine Zb ?_ | (refine Zi ?_; refine Zv ?_) | (refine Zh ?_; refine Zu ?_) | intro _)
  exact qE (L' := [] ++ ([(nb, .cells ⟨[.int .i64 num]⟩ 3 (0, 0))] :: doC db F cs :: X2)) ⟨Hp.le_refl _, rfl, .inl ⟨by decide, [], rfl⟩⟩
theorem askT_next (g : TxP → TxP) (p : Yr) (o : Option TxP) : (askT g p o).next = p.next := by cases o <;> rfl
def asksX (X2 : SH) (X2' : TxP → SH) (p : Yr) (num : Int) : SH := if XW p then askX X2 X2' (Yf p num) else X2
theorem asks_spec (ρ : Hp) (v : SV) (ro : Ros) (h : RosIn ρ v ro) (num : Int) (F : Nat) [hF : Yu Tryz.prog F] (cs : List Value) (X2 : SH) (X2' : TxP → SH) (f : TxP → Int) (g : TxP → TxP) (hg : ∀ t, (g t).num = t.num)
  (hdo : ∀ ρ1, ρ.le ρ1 → ∀ b o P x S ss ms, P.length = o → OwnX x ss ms → TxG x.p → x.state = 1 → Spec Tryz.prog F (.pointer (some ⟨b, o, none⟩) :: cs) ρ1 (Xt b P x S :: WE x ss :: Wv x ms :: X2) (AskR f g X2' b P x S ρ1)) :
  Spec Tryz.prog 134 [.agg ⟨Yh v ro⟩, .int .i64 num, .func (.func F) ⟨[]⟩ ⟨cs⟩] ρ X2
   (fun z ρ' L' => ρ.le ρ' ∧ ((XM f ro.p num ≠ 0 ∧ z = .tuple ⟨[.agg ⟨[.int .i64 0, .slice none 0 0]⟩, .int .i64 (XM f ro.p num)]⟩ ∧ L' = asksX X2 X2' ro.p num) ∨
    (XM f ro.p num = 0 ∧ ∃ vv sp os, OwnR vv sp os (asksP f g ro.p num).txns ∧ z = .tuple ⟨[.agg ⟨[.int .i64 (asksP f g ro.p num).next, vv]⟩, .int .i64 0]⟩ ∧ L' = Xi vv sp os ++ asksX X2 X2' ro.p num))) := by
 refine Zg Tryz.func134 rfl rfl rfl fun u R => ?_
 simp only [Zx, List.cons_append, List.nil_append]
 unfold asksP XM asksX
 rw [rosOk_p]
 cases hok : rosOk ro
 ·have hw := fun cs X => rwith_bad ρ v ro h hok 210 cs X
  simp only [Bool.false_eq_true, if_false]
  repeat' (first | (refine Ze (.func 139) ?_; refine qC rfl rfl ((hw _ [])) ?_; rintro v ρ' L' hle ⟨rfl, rfl, rfl⟩ <;> (try simp only [kM, kN, kO])) | (refine ZE ?_; refine Zo (Zd rfl) rfl rfl ?_) | (refine Zj ?_; first | (refine Zf ?_; refine qQ ?_) | refine Zn ?_) | refine Zb ?_ | (refine Zi ?_; refine Zv ?_) | (refine Zh ?_; refine Zu ?_) | intro _)
  exact qE (L' := X2) ⟨Hp.le_refl _, .inl ⟨by decide, rfl, rfl⟩⟩
 ·have hG : RosG ro.p := WP.1 (by rw [rosOk_p]; exact hok)
  simp only [if_true]
  have hw := fun nb db => rwith_spec ρ v ro h hok 210 [.pointer (some ⟨nb, 0, none⟩), .pointer (some ⟨db, 0, none⟩)] ([(nb, .cells ⟨[.int .i64 num]⟩ 3 (0, 0))] :: doC db F cs :: X2) ([(nb, .cells ⟨[.int .i64 num]⟩ 3 (0, 0))] :: doC db F cs :: askX X2 X2' (Yf ro.p num)) (WJ f (Yf ro.p num)) ro.p.next (askT g ro.p (Yf ro.p num)).txns (fun ρ1 hle cb vv sp os hR => asks1_spec ρ1 cb nb db ro.p num vv sp os hR hG F cs X2 X2' f g hg (hdo ρ1 hle))
  have hnx := askT_next g ro.p (Yf ro.p num)
  generalize WJ f (Yf ro.p num) = e at *
  generalize askX X2 X2' (Yf ro.p num) = Xf at *
  generalize askT g ro.p (Yf ro.p num) = pa at *
  rw [← hnx] at hw
  repeat' (first | (refine Ze (.func 139) ?_; refine qC rfl rfl (hw _ _) ?_; rintro v ρ' L' hle ⟨hl1, ⟨he, rfl, rfl⟩ | ⟨he, vv, sp, os, hR, rfl, rfl⟩⟩ <;> (try simp only [kM, kN, kO])) | (refine ZE ?_; refine Zo (Zd rfl) rfl rfl ?_) | (refine Zj ?_; first | (refine Zf ?_; refine qQ ?_) | refine Zn ?_) | refine Zb ?_ | (refine Zi ?_; refine Zv ?_) | (refine Zh ?_; refine Zu ?_) | intro _)
  ·repeat' (first | (refine ZE ?_; refine Zo (Zd rfl) rfl rfl ?_) | (refine Zj ?_; first | (refine Zf ?_; refine qQ ?_) | refine Zn ?_) | refine Zb ?_ | (refine Zi ?_; refine Zv ?_) | (refine Zh ?_; refine Zu ?_) | intro _)
   exact qE (L' := Xf) ⟨hl1, .inl ⟨he, rfl, rfl⟩⟩
  ·subst he
   obtain ⟨va, vc, rfl, _⟩ := hR.own.slice
   repeat' (first | (refine ZE ?_; refine Zo (Zd rfl) rfl rfl ?_) | (refine Zj ?_; first | (refine Zf ?_; refine qQ ?_) | refine Zn ?_) | refine Zb ?_ | (refine Zi ?_; refine Zv ?_) | (refine Zh ?_; refine Zu ?_) | intro _)
   exact qE (L' := Xi _ sp os ++ Xf) ⟨hl1, .inr ⟨by trivial, _, sp, os, hR, rfl, rfl⟩⟩
abbrev XI (nb : Nat) (n : Int) : List (Nat × Obj) := [(nb, .cells ⟨[.int .i64 n]⟩ 3 (0, 0))]
abbrev u64C (nb : Nat) (n : Nat) : List (Nat × Obj) := [(nb, .cells ⟨[.int .u64 n]⟩ 24 (0, 0))]
def markX (nb : Nat) (t : TxP) : SH := [XI nb (if 8 ≤ t.marks.length then 0 else ((t.marks.length + 1 : Nat) : Int))]
theorem mark1_spec (ρ : Hp) (nb b o : Nat) (P : List Value) (x : Tx) (S ss ms : List Value) (hP : P.length = o) (hX : OwnX x ss ms) (hx : TxG x.p) :
  Spec Tryz.prog 137 [.pointer (some ⟨b, o, none⟩), .pointer (some ⟨nb, 0, none⟩)] ρ (Xt b P x S :: WE x ss :: Wv x ms :: [XI nb 0]) (AskR XR markG (markX nb) b P x S ρ) := by
 have hg4 : (P ++ txQ x S)[o + 4]? = some (.int .u64 x.undo) := Wp hP rfl
 have hg6 : (P ++ txQ x S)[o + 6]? = some (.slice x.mv.a x.mv.n x.mv.c) := Wp hP rfl
 have hml : x.marks.length ≤ 8 := hx.ml
 have hnn := hX.m.nn.1
 unfold AskR XR markX
 show Spec Tryz.prog _ _ _ _ (fun z ρ' L' => ρ' = ρ ∧ z = .int .i64 (if 8 ≤ x.marks.length then 6 else 0) ∧ (((if 8 ≤ x.marks.length then (6 : Int) else 0) ≠ 0 ∧ ∃ G : SH, L' = G ++ [XI nb (if 8 ≤ x.marks.length then 0 else ((x.marks.length + 1 : Nat) : Int))]) ∨ ((if 8 ≤ x.marks.length then (6 : Int) else 0) = 0 ∧ ∃ x' ss' ms', x'.p = markG x.p ∧ OwnX x' ss' ms' ∧ L' = Xt b P x' S :: WE x' ss' :: Wv x' ms' :: [XI nb (if 8 ≤ x.marks.length then 0 else ((x.marks.length + 1 : Nat) : Int))])))
 refine Zg Tryz.func137 rfl rfl rfl fun u R => ?_
 simp only [Zx, List.cons_append, List.nil_append]
 by_cases h8 : 8 ≤ x.marks.length
 ·simp only [if_pos h8]
  repeat' (first | (refine ZE ?_; refine Zo (Zd rfl) rfl rfl ?_) | (refine Zj ?_; first | (refine Zf ?_; refine qQ ?_) | refine Zn ?_) | refine Zb ?_ | (refine Zi ?_; refine Zv ?_) | (refine Zh ?_; refine Zu ?_) | intro _)
  exact qE (L' := [] ++ [XI nb 0]) ⟨rfl, rfl, .inl ⟨by decide, [], rfl⟩⟩
 ·simp only [if_neg h8]
  repeat' (first | (refine ZE ?_; refine Zo (Zd rfl) rfl rfl ?_) | (refine Zj ?_; first | (refine Zf ?_; refine qQ ?_) | refine Zn ?_) | refine Zb ?_ | (refine Zi ?_; refine Zv ?_) | (refine Zh ?_; refine Zu ?_) | intro _)
  refine Wc 11 (Zs _ _ ([Xt b P x S])) (by decide +kernel) (Zz (hT := tk) (Hp.le_refl _)) ?_
  simp only [List.take_succ_cons, List.take_zero]
  all_goals (refine ZT 0 ?_; refine ZT 1 ?_; refine rNc 2 ?_; refine ZS 3 ?_; refine ZX 4 ?_; refine ZT 5 ?_; refine rNc 6 ?_; refine ZS 7 ?_; refine ZX 8 ?_)
  all_goals (refine Zp (i := 9) ?_; ((try refine Zk ?_); (first | (refine Zr rfl rfl rfl rfl (by simp) rfl rfl (fun bs => ?_)) | (refine Zn ?_; try intro _)) <;> ((try simp only [kM, kN, kO]); refine Zb ?_; refine Zl ?_)))
  all_goals (refine Zp (i := 10) ?_; ((try refine Zk ?_); (first | (refine ZV (ys := [ZU x.undo]) (m := 1) rfl rfl hX.m (hR := by infer_instance) SrcV.lit rfl rfl (by decide) rfl (by omega) (by omega) rfl (fun v' sp' hown' => ?_); obtain ⟨a1, c1, rfl, q1⟩ := hown'.slice) | (refine Zn ?_; try intro _)) <;> ((try simp only [kM, kN, kO]); refine Zb ?_; refine Zl ?_)))
  all_goals refine ZI ?_
  all_goals refine Wb (fuel := 3) (m := [true, true, true, true, true, true, true, true, true, true, true, false, false, false]) (Zs _ _ ([])) rfl rfl (Zz (hT := tk) (Hp.le_refl _)) ?_
  all_goals (refine rNc 11 ?_; refine ZS 12 ?_)
  all_goals (refine Zp (i := 13) ?_; ((try refine Zk ?_); (first | (refine ZZ (o := o) (P := P) rfl rfl hP rfl ?_) | (refine Zn ?_; try intro _)) <;> ((try simp only [kM, kN, kO]); refine Zb ?_; refine Zl ?_)))
  all_goals refine ZI ?_
  all_goals have hg6' : (P ++ txQ { x with marks := x.marks ++ [x.undo], mv := ⟨a1, x.marks.length + 1, c1⟩ } S)[o + 6]? = some (.slice a1 (x.marks.length + 1) c1) := Wp hP rfl
  all_goals have hm : x.marks.map ZU ++ [ZU x.undo] = (x.marks ++ [x.undo]).map ZU := by simp
  all_goals rw [hm] at hown' ⊢
  all_goals (repeat' (first | (refine ZE ?_; refine Zo (Zd rfl) rfl rfl ?_) | (refine Zj ?_; first | (refine Zf ?_; refine qQ ?_) | refine Zn ?_) | refine Zb ?_ | (refine Zi ?_; refine Zv ?_) | (refine Zh ?_; refine Zu ?_) | intro _))
  all_goals exact qE (L' := Xt b P { x with marks := x.marks ++ [x.undo], mv := ⟨a1, x.marks.length + 1, c1⟩ } S :: WE x ss :: Wv { x with marks := x.marks ++ [x.undo], mv := ⟨a1, x.marks.length + 1, c1⟩ } sp' :: [XI nb ((x.marks.length + 1 : Nat) : Int)]) ⟨rfl, rfl, .inr ⟨by trivial, { x with marks := x.marks ++ [x.undo], mv := ⟨a1, x.marks.length + 1, c1⟩ }, ss, sp', rfl, ⟨hX.s, by simpa using hown'⟩, rfl⟩⟩
end Go.Proofs.E
