/- Laws of analysis. Part 24 of 41. -/
import Derived.Test.YtkbiahafeoillaaGreatA23
namespace Go.Proofs.E
open Go
set_option linter.unusedVariables false
set_option linter.unusedSimpArgs false
set_option linter.unusedSectionVars false
set_option maxRecDepth 4000
set_option maxHeartbeats 1000000
attribute [local irreducible] Yl TL TC TE Spec Xb R1 Hp.le EnvLe TS TR YS Zk
def MethR (r : Rc) (cb : Nat) (next : Int) (vv : Value) (rv : RV) (b o : Nat) (P : List Value) (x : Tx) (S : List Value) (may : Bool) (nx : TxP) (ρ : Hp) (z : Value) (ρ' : Hp) (L' : SH) : Prop :=
 ρ.le ρ' ∧ ((may = true ∧ z = .int .i64 0 ∧ ∃ x' ss' ms', x'.p = nx ∧ OwnX x' ss' ms' ∧ L' = focC cb next vv rv r b o P x' S ss' ms') ∨ (may = false ∧ z = .int .i64 2 ∧ ∃ G : SH, L' = G))
theorem mchange_spec (ρ : Hp) (cb : Nat) (next : Int) (vv : Value) (rv : RV) (r : Rc) (b o : Nat) (P : List Value) (x : Tx) (S ss ms : List Value) (hP : P.length = o) (hX : OwnX x ss ms) (hsl : x.stack.length ≤ 1099511627776) (hr : RcIn ρ rv r) (hok : ZU r = true) :
  Spec Tryz.prog 94 [.pointer (some ⟨cb, 0, none⟩)] ρ (focC cb next vv rv r b o P x S ss ms)
   (MethR r cb next vv rv b o P x S (WG x.p) (pushT x.p r) ρ) := by
 have hli := live_spec ρ cb next vv rv r b o P x S hP
 have hre := rreserve_spec ρ rv r hr
 unfold MethR
 unfold errN at hre
 rw [if_pos hok] at hre
 refine Zd Tryz.func94 rfl rfl rfl fun u R => ?_
 simp only [Zo, List.cons_append, List.nil_append]
 by_cases hs : x.state = 1
 ·have hlt : WG x.p = true := decide_eq_true hs
  rw [decide_eq_true hs] at hli
  rw [hlt]
  have hg5 : (P ++ txQ { x with undo := r.lsn } S)[o + 5]? = some (.slice x.sv.a x.sv.n x.sv.c) := q_get hP rfl
  have hXs := hX.s
  repeat' (first | (refine Zc (.func 82) ?_; refine qC rfl rfl (hli) ?_; rintro v ρ' L' hle ⟨rfl, rfl, rfl⟩ <;> (try simp only [kM, kN, kO])) | (refine Zc (.func 146) ?_; refine qC rfl rfl (hre) ?_; rintro v ρ' L' hle ⟨hl1, rfl, rfl⟩ <;> (try simp only [kM, kN, kO])) | refine zV ?_ | intro _)
  refine Zu (Zk _ _ ([Xd cb next vv rv r (some ⟨b, o, none⟩)])) (Zw (hT := tk) (Hp.le_refl _)) ?_
  all_goals (refine Zx 0 ?_; refine rNc 1 ?_; refine ZN 2 ?_; refine ZQ 3 ?_; refine Zx 4 ?_; refine rNc 5 ?_; refine ZN 6 ?_; refine ZN 7 ?_; refine ZQ 8 ?_; refine rNc 9 ?_; refine ZN 10 ?_)
  all_goals (refine Zj (i := 11) ?_; ((try refine Zh ?_); (first | (refine ZX (o := o) (P := P) rfl rfl hP rfl ?_) | (refine ZF ?_; try intro _)) <;> ((try simp only [kM, kN, kO]); refine Zf ?_; refine Zi ?_)))
  all_goals refine Zv ?_
  all_goals (repeat' (first | refine zV ?_ | intro _))
  all_goals refine tc_phase 20 (Zk _ _ ([Xd cb next vv rv r (some ⟨b, o, none⟩), blkC b P { x with undo := r.lsn } S])) (by decide +kernel) (Zw (hT := tk) (Hp.le_refl _)) ?_
  all_goals simp only [List.take_succ_cons, List.take_zero]
  all_goals (refine Zx 0 ?_; refine rNc 1 ?_; refine ZN 2 ?_; refine ZQ 3 ?_; refine Zx 4 ?_; refine rNc 5 ?_; refine ZN 6 ?_; refine ZQ 7 ?_; refine rNc 8 ?_; refine ZN 9 ?_; refine ZQ 10 ?_; refine Zx 11 ?_; refine rNc 12 ?_; refine ZN 13 ?_; refine ZN 14 ?_; refine ZQ 15 ?_; refine Zx 16 ?_)
  all_goals refine rBu 17 ?_ (y := fun _ _ => y_buildN rfl)
  all_goals (refine Zj (i := 18) ?_; ((try refine Zh ?_); (first | (refine ZH (css := [lfV (Xw r)]) (sz := 2) rfl rfl rfl rfl (by simp) (by simp) rfl (fun bs => ?_); simp only [List.flatten_cons, List.flatten_nil, List.append_nil]) | (refine ZF ?_; try intro _)) <;> ((try simp only [kM, kN, kO]); refine Zf ?_; refine Zi ?_)))
  all_goals (refine Zj (i := 19) ?_; ((try refine Zh ?_); (first | (refine ZH (css := [lfV (Xw r)]) (sz := 2) rfl rfl rfl rfl (by simp) (by simp) rfl (fun bs => ?_); simp only [List.flatten_cons, List.flatten_nil, List.append_nil]) | (refine ZZ (ys := lfV (Xw r)) (m := 1) rfl rfl hXs (hR := by infer_instance) SrcV.lit rfl rfl (by decide) rfl (by omega) (by omega) rfl (fun v' sp' hown' => ?_); obtain ⟨a1, c1, rfl, q1⟩ := hown'.slice) | (refine ZF ?_; try intro _)) <;> ((try simp only [kM, kN, kO]); refine Zf ?_; refine Zi ?_)))
  all_goals refine Zv ?_
  all_goals refine te_phase (fuel := 3) (m := [true, true, true, true, true, true, true, true, true, true, true, true, true, true, true, true, true, true, true, true, false, false, false]) (Zk _ _ ([])) rfl rfl (Zw (hT := tk) (Hp.le_refl _)) ?_
  all_goals (refine rNc 20 ?_; refine ZN 21 ?_)
  all_goals (refine Zj (i := 22) ?_; ((try refine Zh ?_); (first | (refine ZX (o := o) (P := P) rfl rfl hP rfl ?_) | (refine ZF ?_; try intro _)) <;> ((try simp only [kM, kN, kO]); refine Zf ?_; refine Zi ?_)))
  all_goals refine Zv ?_
  all_goals (repeat' (first | refine zV ?_ | intro _))
  all_goals have hm : (x.stack.map lfV).flatten ++ lfV (Xw r) = ((x.stack ++ [Xw r]).map lfV).flatten := by simp
  all_goals rw [hm] at hown' ⊢
  all_goals exact qE (L' := focC cb next vv rv r b o P { x with undo := r.lsn, stack := x.stack ++ [Xw r], sv := ⟨a1, x.stack.length + 1, c1⟩ } S sp' ms) ⟨hl1, .inl ⟨by trivial, rfl, { x with undo := r.lsn, stack := x.stack ++ [Xw r], sv := ⟨a1, x.stack.length + 1, c1⟩ }, sp', ms, rfl, ⟨by rw [List.length_append]; exact hown', hX.m⟩, rfl⟩⟩
 ·have hlt : WG x.p = false := decide_eq_false hs
  rw [decide_eq_false hs] at hli
  rw [hlt]
  repeat' (first | (refine Zc (.func 82) ?_; refine qC rfl rfl (hli) ?_; rintro v ρ' L' hle ⟨rfl, rfl, rfl⟩ <;> (try simp only [kM, kN, kO])) | refine zV ?_ | intro _)
  exact qE (L' := []) ⟨Hp.le_refl _, .inr ⟨by trivial, rfl, [], rfl⟩⟩
variable (ρ : Hp) (cb : Nat) (next : Int) (vv : Value) (rv : RV) (r : Rc) (b o : Nat) (P : List Value) (x : Tx) (S ss ms : List Value)
theorem mnested_spec (hP : P.length = o) (hX : OwnX x ss ms) (hsl : x.stack.length ≤ 1099511627776) (hml : x.marks.length ≤ 100) :
  Spec Tryz.prog 95 [.pointer (some ⟨cb, 0, none⟩)] ρ (focC cb next vv rv r b o P x S ss ms)
   (MethR r cb next vv rv b o P x S (WG x.p && XK x.p r) (backT x.p r.next) ρ) := by
 have hli := live_spec ρ cb next vv rv r b o P x S hP
 have hwi := within_spec ρ cb next vv rv r b o P x S hP
 have hba := back_spec ρ cb next vv rv r b o P x S ss ms hP hX hsl hml
 have hne := fun b0 => needB_spec ρ b0 2 [WG x.p, XK x.p r] (by simp) rfl
 rw [show decide (x.state = 1) = WG x.p from rfl] at hli
 unfold MethR
 generalize WG x.p = l1 at *
 generalize XK x.p r = w1 at *
 refine Zd Tryz.func95 rfl rfl rfl fun u R => ?_
 simp only [Zo, List.cons_append, List.nil_append]
 have hall : ([l1, w1].all id) = (l1 && w1) := by simp
 rw [hall] at hne
 cases hm : (l1 && w1)
 ·rw [hm] at hne
  simp only [Bool.false_eq_true, if_false] at hne
  repeat' (first | (refine Zc (.func 82) ?_; refine qC rfl rfl (hli) ?_; rintro v ρ' L' hle ⟨rfl, rfl, rfl⟩ <;> (try simp only [kM, kN, kO])) | (refine Zc (.func 148) ?_; refine qC rfl rfl (hwi) ?_; rintro v ρ' L' hle ⟨rfl, rfl, rfl⟩ <;> (try simp only [kM, kN, kO])) | (refine Zl rfl rfl rfl rfl (by simp) rfl rfl (fun bs => ?_)) | (refine Zc (.func 147) ?_; refine qC rfl rfl (hne _) ?_; rintro v ρ' L' hle ⟨rfl, rfl, rfl⟩ <;> (try simp only [kM, kN, kO])) | refine zV ?_ | intro _)
  exact qE (L' := []) ⟨Hp.le_refl _, .inr ⟨by trivial, rfl, [], rfl⟩⟩
 ·rw [hm] at hne
  simp only [if_true] at hne
  repeat' (first | (refine Zc (.func 82) ?_; refine qC rfl rfl (hli) ?_; rintro v ρ' L' hle ⟨rfl, rfl, rfl⟩ <;> (try simp only [kM, kN, kO])) | (refine Zc (.func 148) ?_; refine qC rfl rfl (hwi) ?_; rintro v ρ' L' hle ⟨rfl, rfl, rfl⟩ <;> (try simp only [kM, kN, kO])) | (refine Zl rfl rfl rfl rfl (by simp) rfl rfl (fun bs => ?_)) | (refine Zc (.func 147) ?_; refine qC rfl rfl (hne _) ?_; rintro v ρ' L' hle ⟨rfl, rfl, rfl⟩ <;> (try simp only [kM, kN, kO])) | (refine Zc (.func 149) ?_; refine qC rfl rfl (hba) ?_; rintro v ρ' L' hle ⟨rfl, x', ss', ms', e1, e2, hX', rfl⟩ <;> (try simp only [kM, kN, kO])) | refine zV ?_ | intro _)
  exact qE (L' := focC cb next vv rv r b o P x' S ss' ms') ⟨Hp.le_refl _, .inl ⟨by trivial, rfl, x', ss', ms', e1, hX', rfl⟩⟩
theorem mdone_spec (hP : P.length = o) (hX : OwnX x ss ms) (hsl : x.stack.length ≤ 1099511627776) (hml : x.marks.length ≤ 100) (hr : RcIn ρ rv r) (hok : ZU r = true) :
  Spec Tryz.prog 96 [.pointer (some ⟨cb, 0, none⟩)] ρ (focC cb next vv rv r b o P x S ss ms)
   (MethR r cb next vv rv b o P x S (WG x.p && XK x.p r) (pushT (backT x.p r.next) r) ρ) := by
 have hne := mnested_spec ρ cb next vv rv r b o P x S ss ms hP hX hsl hml
 unfold MethR at hne ⊢
 refine Zd Tryz.func96 rfl rfl rfl fun u R => ?_
 simp only [Zo, List.cons_append, List.nil_append]
 cases hm : (WG x.p && XK x.p r)
 ·rw [hm] at hne
  repeat' (first | (refine Zc (.func 95) ?_; refine qC rfl rfl (hne) ?_; rintro v ρ' L' hle ⟨hl1, ⟨h0, _⟩ | ⟨_, rfl, G, rfl⟩⟩ <;> (try simp only [kM, kN, kO])) | refine zV ?_ | intro _)
  ·exact absurd h0 (by decide)
  ·repeat' (first | refine zV ?_ | intro _)
   exact qE (L' := []) ⟨hl1, .inr ⟨by trivial, rfl, [], rfl⟩⟩
 ·rw [hm] at hne
  rw [Bool.and_eq_true] at hm
  repeat' (first | (refine Zc (.func 95) ?_; refine qC rfl rfl (hne) ?_; rintro v ρ' L' hle ⟨hl1, ⟨_, rfl, x', ss', ms', e1, hX', rfl⟩ | ⟨h0, _⟩⟩ <;> (try simp only [kM, kN, kO])) | refine zV ?_ | intro _)
  ·have hlv : WG x'.p = true := by rw [e1]; exact hm.1
   have hs' : x'.stack.length ≤ 1099511627776 := by
    have := congrArg TxP.stack e1
    simp only [Tx.p] at this
    rw [this]
    exact Nat.le_trans (List.length_filter_le _ _) hsl
   have hch := fun ρ1 (h : RcIn ρ1 rv r) => mchange_spec ρ1 cb next vv rv r b o P x' S ss' ms' hP hX' hs' h hok
   unfold MethR at hch
   rw [hlv, e1] at hch
   repeat' (first | (refine Zc (.func 94) ?_; refine qC rfl rfl (hch _ (hr.mono hl1)) ?_; rintro v ρ' L' hle ⟨hl2, ⟨_, rfl, x2, ss2, ms2, e2, hX2, rfl⟩ | ⟨h0, _⟩⟩ <;> (try simp only [kM, kN, kO])) | refine zV ?_ | intro _)
   ·repeat' (first | refine zV ?_ | intro _)
    exact qE (L' := focC cb next vv rv r b o P x2 S ss2 ms2) ⟨Hp.le_trans hl1 hl2, .inl ⟨by trivial, rfl, x2, ss2, ms2, e2, hX2, rfl⟩⟩
   ·exact absurd h0 (by decide)
  ·exact absurd h0 (by decide)
theorem mundone_spec (hP : P.length = o) (hX : OwnX x ss ms) (hsl : x.stack.length ≤ 1099511627776) (hml : x.marks.length ≤ 100) :
  Spec Tryz.prog 97 [.pointer (some ⟨cb, 0, none⟩)] ρ (focC cb next vv rv r b o P x S ss ms)
   (MethR r cb next vv rv b o P x S (decide (x.state ≠ 3) && (XK x.p r && decide (r.next < x.undo))) (backT x.p r.next) ρ) := by
 have hwi := within_spec ρ cb next vv rv r b o P x S hP
 have hba := back_spec ρ cb next vv rv r b o P x S ss ms hP hX hsl hml
 have hne := fun b0 => needB_spec ρ b0 3 [decide (x.state ≠ 3), XK x.p r, decide (r.next < x.undo)] (by simp) rfl
 have hg1 : (P ++ txQ x S)[o + 1]? = some (.int .i64 x.state) := q_get hP rfl
 have hg4 : (P ++ txQ x S)[o + 4]? = some (.int .u64 x.undo) := q_get hP rfl
 unfold MethR
 generalize XK x.p r = w1 at *
 refine Zd Tryz.func97 rfl rfl rfl fun u R => ?_
 simp only [Zo, List.cons_append, List.nil_append]
 have hall : ([decide (x.state ≠ 3), w1, decide (r.next < x.undo)].all id) = (decide (x.state ≠ 3) && (w1 && decide (r.next < x.undo))) := by simp [Bool.and_assoc]
 rw [hall] at hne
 rcases Decidable.em (x.state = 3) with h1 | h1 <;> rcases Decidable.em (r.next < x.undo) with h2 | h2 <;> cases w1
 all_goals first | rw [decide_eq_true (show x.state ≠ 3 from h1)] at hne ⊢ | rw [decide_eq_false (show ¬ (x.state ≠ 3) from fun e => e h1)] at hne ⊢
 all_goals first | rw [decide_eq_true h2] at hne ⊢ | rw [decide_eq_false h2] at hne ⊢
 all_goals simp only [Bool.true_and, Bool.and_true, Bool.false_and, Bool.and_false, Bool.false_eq_true, if_false, if_true] at hne ⊢
 all_goals (repeat' (first | refine zV ?_ | intro _))
 all_goals refine Zu (Zk _ _ ([Xd cb next vv rv r (some ⟨b, o, none⟩), blkC b P x S])) (Zw (hT := tk) (Hp.le_refl _)) ?_
 all_goals (refine Zx 0 ?_; refine rNc 1 ?_; refine ZN 2 ?_; refine ZQ 3 ?_; refine rNc 4 ?_; refine ZN 5 ?_; refine ZQ 6 ?_; refine rCm 7 ?_; refine Zx 8 ?_; refine Zx 10 ?_; refine rNc 11 ?_; refine ZN 12 ?_; refine ZN 13 ?_; refine ZQ 14 ?_; refine Zx 15 ?_; refine rNc 16 ?_; refine ZN 17 ?_; refine ZQ 18 ?_; refine rNc 19 ?_; refine ZN 20 ?_; refine ZQ 21 ?_; refine rCm 22 ?_)
 all_goals (refine Zj (i := 9) ?_; ((try refine Zh ?_); (first | (refine Zc (.func 148) ?_; refine qC rfl rfl (hwi) ?_; rintro v ρ' L' hle ⟨rfl, rfl, rfl⟩ <;> (try simp only [kM, kN, kO])) | (refine ZF ?_; try intro _)) <;> ((try simp only [kM, kN, kO]); refine Zf ?_; refine Zi ?_)))
 all_goals (refine Zj (i := 23) ?_; ((try refine Zh ?_); (first | (refine Zl rfl rfl rfl rfl (by simp) rfl rfl (fun bs => ?_)) | (refine ZF ?_; try intro _)) <;> ((try simp only [kM, kN, kO]); refine Zf ?_; refine Zi ?_)))
 all_goals (refine Zj (i := 24) ?_; ((try refine Zh ?_); (first | (refine Zc (.func 147) ?_; refine qC rfl rfl (hne _) ?_; rintro v ρ' L' hle ⟨rfl, rfl, rfl⟩ <;> (try simp only [kM, kN, kO])) | (refine ZF ?_; try intro _)) <;> ((try simp only [kM, kN, kO]); refine Zf ?_; refine Zi ?_)))
 all_goals (refine Zz ?_; refine rAs 25 ?_; refine Zv ?_)
 all_goals (repeat' (first | (refine Zc (.func 149) ?_; refine qC rfl rfl (hba) ?_; rintro v ρ' L' hle ⟨rfl, x', ss', ms', e1, e2, hX', rfl⟩ <;> (try simp only [kM, kN, kO])) | refine zV ?_ | intro _))
 all_goals first
  | exact qE (L' := focC cb next vv rv r b o P x' S ss' ms') ⟨Hp.le_refl _, .inl ⟨by trivial, rfl, x', ss', ms', e1, hX', rfl⟩⟩
  | exact qE (L' := []) ⟨Hp.le_refl _, .inr ⟨by trivial, rfl, [], rfl⟩⟩
theorem mends_spec (st : Int) (hP : P.length = o) (hX : OwnX x ss ms) :
  Spec Tryz.prog 150 [.pointer (some ⟨cb, 0, none⟩), .int .i64 st] ρ (focC cb next vv rv r b o P x S ss ms)
   (MethR r cb next vv rv b o P x S (WG x.p) { x.p with state := st, marks := [] } ρ) := by
 have hli := live_spec ρ cb next vv rv r b o P x S hP
 have hne := fun b0 => needB_spec ρ b0 1 [WG x.p] (by simp) rfl
 rw [show decide (x.state = 1) = WG x.p from rfl] at hli
 unfold MethR
 refine Zd Tryz.func150 rfl rfl rfl fun u R => ?_
 simp only [Zo, List.cons_append, List.nil_append]
 generalize WG x.p = l1 at *
 have hall : ([l1].all id) = l1 := by simp
 rw [hall] at hne
 cases l1
 all_goals simp only [Bool.false_eq_true, if_false, if_true] at hne
 all_goals (repeat' (first | (refine Zc (.func 82) ?_; refine qC rfl rfl (hli) ?_; rintro v ρ' L' hle ⟨rfl, rfl, rfl⟩ <;> (try simp only [kM, kN, kO])) | (refine Zl rfl rfl rfl rfl (by simp) rfl rfl (fun bs => ?_)) | (refine Zc (.func 147) ?_; refine qC rfl rfl (hne _) ?_; rintro v ρ' L' hle ⟨rfl, rfl, rfl⟩ <;> (try simp only [kM, kN, kO])) | refine zV ?_ | intro _))
 all_goals refine Zu (Zk _ _ ([Xd cb next vv rv r (some ⟨b, o, none⟩)])) (Zw (hT := tk) (Hp.le_refl _)) ?_
 all_goals (refine Zx 0 ?_; refine rNc 1 ?_; refine ZN 2 ?_; refine ZQ 3 ?_; refine Zx 4 ?_; refine rNc 5 ?_; refine ZN 6 ?_; refine ZQ 7 ?_; refine Zx 8 ?_; refine rNc 9 ?_; refine ZN 10 ?_)
 all_goals (refine Zj (i := 11) ?_; ((try refine Zh ?_); (first | (refine ZX (o := o) (P := P) rfl rfl hP rfl ?_) | (refine ZF ?_; try intro _)) <;> ((try simp only [kM, kN, kO]); refine Zf ?_; refine Zi ?_)))
 all_goals (refine rNc 12 ?_; refine ZN 13 ?_)
 all_goals (refine Zj (i := 14) ?_; ((try refine Zh ?_); (first | (refine ZX (o := o) (P := P) rfl rfl hP rfl ?_) | (refine ZF ?_; try intro _)) <;> ((try simp only [kM, kN, kO]); refine Zf ?_; refine Zi ?_)))
 all_goals refine Zv ?_
 all_goals (repeat' (first | refine zV ?_ | intro _))
 all_goals first
  | exact qE (L' := focC cb next vv rv r b o P { x with state := st, marks := [], mv := ⟨none, 0, 0⟩ } S ss []) ⟨Hp.le_refl _, .inl ⟨by trivial, rfl, { x with state := st, marks := [], mv := ⟨none, 0, 0⟩ }, ss, [], rfl, ⟨hX.s, OwnS.nil 1⟩, rfl⟩⟩
  | exact qE (L' := []) ⟨Hp.le_refl _, .inr ⟨by trivial, rfl, [], rfl⟩⟩
theorem mabort_spec (hP : P.length = o) (hX : OwnX x ss ms) :
  Spec Tryz.prog 99 [.pointer (some ⟨cb, 0, none⟩)] ρ (focC cb next vv rv r b o P x S ss ms)
   (MethR r cb next vv rv b o P x S (WG x.p) { x.p with state := 2, marks := [] } ρ) := by
 have he := mends_spec ρ cb next vv rv r b o P x S ss ms 2 hP hX
 unfold MethR at he ⊢
 refine Zd Tryz.func99 rfl rfl rfl fun u R => ?_
 simp only [Zo, List.cons_append, List.nil_append]
 repeat' (first | (refine Zc (.func 150) ?_; refine qC rfl rfl (he) ?_; rintro v ρ' L' hle ⟨hl1, ⟨h0, rfl, x', ss', ms', e1, hX', rfl⟩ | ⟨h0, rfl, G, rfl⟩⟩ <;> (try simp only [kM, kN, kO])) | refine zV ?_ | intro _)
 ·repeat' (first | refine zV ?_ | intro _)
  exact qE (L' := focC cb next vv rv r b o P x' S ss' ms') ⟨hl1, .inl ⟨h0, rfl, x', ss', ms', e1, hX', rfl⟩⟩
 ·repeat' (first | refine zV ?_ | intro _)
  exact qE (L' := []) ⟨hl1, .inr ⟨h0, rfl, [], rfl⟩⟩
theorem mcommit_spec (hP : P.length = o) (hX : OwnX x ss ms) :
  Spec Tryz.prog 98 [.pointer (some ⟨cb, 0, none⟩)] ρ (focC cb next vv rv r b o P x S ss ms)
   (MethR r cb next vv rv b o P x S (WG x.p) { x.p with state := 3, marks := [], stack := [] } ρ) := by
 have he := mends_spec ρ cb next vv rv r b o P { x with stack := [], sv := ⟨none, 0, 0⟩ } S [] ms 3 hP ⟨OwnS.nil 2, hX.m⟩
 unfold MethR at he ⊢
 refine Zd Tryz.func98 rfl rfl rfl fun u R => ?_
 simp only [Zo, List.cons_append, List.nil_append]
 repeat' (first | (refine ZX (o := o) (P := P) rfl rfl hP rfl ?_) | (refine Zc (.func 150) ?_; refine qC rfl rfl (he) ?_; rintro v ρ' L' hle ⟨hl1, ⟨h0, rfl, x', ss', ms', e1, hX', rfl⟩ | ⟨h0, rfl, G, rfl⟩⟩ <;> (try simp only [kM, kN, kO])) | refine zV ?_ | intro _)
 ·repeat' (first | refine zV ?_ | intro _)
  exact qE (L' := focC cb next vv rv r b o P x' S ss' ms') ⟨hl1, .inl ⟨h0, rfl, x', ss', ms', e1, hX', rfl⟩⟩
 ·repeat' (first | refine zV ?_ | intro _)
  exact qE (L' := []) ⟨hl1, .inr ⟨h0, rfl, [], rfl⟩⟩
theorem atO_spec (ρ : Hp) (next : Int) (vv : Value) (sp : List Value) (os : List OT) (hl : os.length ≤ 1000000) (hown : OwnS vv os.length (txF os) sp 7) (num : Int) :
  Spec Tryz.prog 54 [.agg ⟨[.int .i64 next, vv]⟩, .int .i64 num] ρ [ZG vv (txF os) sp 45] (fun z ρ' L' => ρ' = ρ ∧ ∃ i there, z = .tuple ⟨[.int .i64 (i : Nat), .bool there]⟩ ∧ AtT (os.map OT.x) num i there ∧ L' = [ZG vv (txF os) sp 45]) := by
 refine (Spec.thaw (C := [ZG vv (txF os) sp 45]) (L := []) (Post := fun z L' => ∃ i there, z = .tuple ⟨[.int .i64 (i : Nat), .bool there]⟩ ∧ AtT (os.map OT.x) num i there ∧ L' = []) (fun ρ1 hle hf => ?_)).mono ?_
 ·have ho : OwnS vv os.length (((os.map OT.x).map Yk).flatten) sp 7 := hown
  obtain ⟨a, c, rfl, hc, hA⟩ := ho.aIn (by simp) (fun x _ => txV_len x) (fun p hp => hf p (by rw [List.flatten_cons, List.flatten_nil, List.append_nil]; exact hp))
  exact atT_spec ρ1 next ⟨a, os.length, c⟩ (os.map OT.x) ⟨hA, hl, hc⟩ num
 ·rintro z ρ' L' _ ⟨rfl, L2, ⟨i, there, rfl, h1, rfl⟩, rfl⟩
  exact ⟨rfl, i, there, rfl, h1, rfl⟩
theorem end1_spec (ρ : Hp) (nb : Nat) (num : Int) (x : Tx) : Spec Tryz.prog 152 [.agg ⟨Yk x⟩, .pointer (some ⟨nb, 0, none⟩)] ρ (numC nb num)
  (fun z ρ' L' => z = .bool (decide (x.num = num)) ∧ ρ' = ρ ∧ L' = (numC nb num)) := by
 refine Zd Tryz.func152 rfl rfl rfl fun u R => ?_
 simp only [Zo, List.cons_append, List.nil_append]
 by_cases h : x.num = num
 ·rw [decide_eq_true h]
  repeat' (first | refine zV ?_ | intro _)
  exact qE (L' := (numC nb num)) ⟨rfl, rfl, rfl⟩
 ·rw [decide_eq_false h]
  repeat' (first | refine zV ?_ | intro _)
  exact qE (L' := (numC nb num)) ⟨rfl, rfl, rfl⟩
theorem mend_spec (ρ : Hp) (cb : Nat) (next : Int) (rv : RV) (r : Rc) (b o cap : Nat) (P : List Value) (x : Tx) (S sp : List Value) (os : List OT) (hl : os.length ≤ 1000000) (hown : OwnS (.slice (some ⟨b, 0, none⟩) os.length cap) os.length (txF os) sp 7) (hP : P.length = o) (hPS : P ++ txQ x S = txF os ++ sp) :
  Spec Tryz.prog 100 [.pointer (some ⟨cb, 0, none⟩)] ρ [Xd cb next (.slice (some ⟨b, 0, none⟩) os.length cap) rv r (some ⟨b, o, none⟩), ZG (.slice (some ⟨b, 0, none⟩) os.length cap) (txF os) sp 45]
   (fun z ρ' L' => ρ' = ρ ∧ z = .int .i64 0 ∧ ∃ vv' sp', OwnS vv' (os.filter (fun t => !decide (t.x.num = x.num))).length (txF (os.filter (fun t => !decide (t.x.num = x.num)))) sp' 7 ∧ L' = [Xd cb next vv' rv r (some ⟨b, o, none⟩), ZG vv' (txF (os.filter (fun t => !decide (t.x.num = x.num)))) sp' 45]) := by
 have hC : ZG (.slice (some ⟨b, 0, none⟩) os.length cap) (txF os) sp 45 = [(b, .cells ⟨txF os ++ sp⟩ 45 (0, 0))] := rfl
 have hg0 : (txF os ++ sp)[o]? = some (.int .i64 x.num) := by
  rw [← hPS]
  exact q_get (d := 0) hP rfl
 have hd := fun nb => delX_spec ρ _ sp (os.map OT.x) (by simp; omega) (by rw [List.length_map]; exact hown) 152 [.pointer (some ⟨nb, 0, none⟩)] (numC nb x.num) (fun t => decide (t.num = x.num)) (fun ρ1 _ t _ => end1_spec ρ1 nb x.num t)
 have hfl : (os.map OT.x).filter (fun t => !decide (t.num = x.num)) = (os.filter (fun t => !decide (t.x.num = x.num))).map OT.x := by
  rw [List.filter_map]; rfl
 rw [hfl, List.length_map] at hd
 have hd : ∀ nb, Spec Tryz.prog 151 [.slice (some ⟨b, 0, none⟩) os.length cap, .func (.func 152) ⟨[]⟩ ⟨[.pointer (some ⟨nb, 0, none⟩)]⟩] ρ ([(b, .cells ⟨txF os ++ sp⟩ 45 (0, 0))] :: numC nb x.num) (fun z ρ' L' => ρ' = ρ ∧ ∃ sp', OwnS z (os.filter (fun t => !decide (t.x.num = x.num))).length (txF (os.filter (fun t => !decide (t.x.num = x.num)))) sp' 7 ∧ L' = ZG z (txF (os.filter (fun t => !decide (t.x.num = x.num)))) sp' 45 :: numC nb x.num) := hd
 clear hfl
 rw [hC]
 refine Zd Tryz.func100 rfl rfl rfl fun u R => ?_
 simp only [Zo, List.cons_append, List.nil_append]
 generalize os.filter (fun t => !decide (t.x.num = x.num)) = os' at *
 repeat' (first | refine zV ?_ | intro _)
 rename_i nb
 refine Zc (.func 151) ?_
 refine qC rfl rfl (hd nb) ?_
 rintro z ρ3 L3 hle3 ⟨rfl, sp', hown', rfl⟩
 simp only [List.cons_append, List.nil_append]
 obtain ⟨a1, c1, rfl, q1⟩ := hown'.slice
 repeat' (first | refine zV ?_ | intro _)
 exact qE (L' := [Xd cb next _ rv r (some ⟨b, o, none⟩), ZG _ (txF os') sp' 45]) ⟨rfl, rfl, _, sp', hown', rfl⟩
def newX (r : Rc) : Tx := ⟨r.txn, 1, r.lsn, r.lsn, r.lsn, [], [], ⟨none, 0, 0⟩, ⟨none, 0, 0⟩⟩
theorem mbegin_spec (ρ : Hp) (cb : Nat) (next : Int) (vv : Value) (rv : RV) (r : Rc) (t : Option Addr) (sp : List Value) (os : List OT) (hn : 1 ≤ next ∧ next ≤ 1073741824) (hl : os.length ≤ 1000000) (hown : OwnS vv os.length (txF os) sp 7) :
  Spec Tryz.prog 93 [.pointer (some ⟨cb, 0, none⟩)] ρ [Xd cb next vv rv r t, ZG vv (txF os) sp 45]
   (fun z ρ' L' => ρ' = ρ ∧ ((∃ e, e ≠ 0 ∧ z = .int .i64 e ∧ (if r.txn ≠ next ∨ next = 1073741824 then (2 : Int) else if 8 ≤ os.length then 6 else 0) = e ∧ ∃ G : SH, L' = G) ∨
    ((if r.txn ≠ next ∨ next = 1073741824 then (2 : Int) else if 8 ≤ os.length then 6 else 0) = 0 ∧ z = .int .i64 0 ∧ ∃ vv' sp', OwnS vv' (os ++ [(⟨newX r, [], []⟩ : OT)]).length (txF (os ++ [(⟨newX r, [], []⟩ : OT)])) sp' 7 ∧ L' = [Xd cb (next + 1) vv' rv r t, ZG vv' (txF (os ++ [(⟨newX r, [], []⟩ : OT)])) sp' 45]))) := by
 obtain ⟨va, vc, rfl, hvc⟩ := hown.slice
 refine Zd Tryz.func93 rfl rfl rfl fun u R => ?_
 simp only [Zo, List.cons_append, List.nil_append]
 by_cases h1 : r.txn ≠ next ∨ next = 1073741824
 ·rw [if_pos h1]
  by_cases h2 : r.txn = next
  ·have h3 : next = 1073741824 := h1.elim (fun h => absurd h2 h) id
   repeat' (first | refine zV ?_ | intro _)
   refine Zu (Zk _ _ ([Xd cb next (.slice va os.length vc) rv r t])) (Zw (hT := tk) (Hp.le_refl _)) ?_
   all_goals (refine Zx 0 ?_; refine Zz ?_; refine rNc 1 ?_; refine ZN 2 ?_; refine ZN 3 ?_; refine ZQ 4 ?_; refine Zx 5 ?_; refine rNc 6 ?_; refine ZN 7 ?_; refine ZN 8 ?_; refine ZQ 9 ?_; refine rCm 10 ?_; refine Zx 11 ?_; (first | refine Zb 12 ?_ | refine Za 12 ?_ | refine ZI 12 ?_); (first | refine Zb 13 ?_ | refine Za 13 ?_ | refine wNc 13 ?_); (first | refine Zb 14 ?_ | refine Za 14 ?_ | refine ZE 14 ?_); (first | refine Zb 15 ?_ | refine Za 15 ?_ | refine ZE 15 ?_); (first | refine Zb 16 ?_ | refine Za 16 ?_ | refine ZL 16 ?_); (first | refine Zb 17 ?_ | refine Za 17 ?_ | refine Yg 17 ?_); refine Yj 18 ?_; refine Zv ?_)
   all_goals (repeat' (first | refine zV ?_ | intro _))
   all_goals exact qE (L' := []) ⟨rfl, .inl ⟨2, by decide, rfl, rfl, [], rfl⟩⟩
  ·repeat' (first | refine zV ?_ | intro _)
   refine Zu (Zk _ _ ([Xd cb next (.slice va os.length vc) rv r t])) (Zw (hT := tk) (Hp.le_refl _)) ?_
   all_goals (refine Zx 0 ?_; refine Zz ?_; refine rNc 1 ?_; refine ZN 2 ?_; refine ZN 3 ?_; refine ZQ 4 ?_; refine Zx 5 ?_; refine rNc 6 ?_; refine ZN 7 ?_; refine ZN 8 ?_; refine ZQ 9 ?_; refine rCm 10 ?_; refine Zx 11 ?_; (first | refine Zb 12 ?_ | refine Za 12 ?_ | refine ZI 12 ?_); (first | refine Zb 13 ?_ | refine Za 13 ?_ | refine wNc 13 ?_); (first | refine Zb 14 ?_ | refine Za 14 ?_ | refine ZE 14 ?_); (first | refine Zb 15 ?_ | refine Za 15 ?_ | refine ZE 15 ?_); (first | refine Zb 16 ?_ | refine Za 16 ?_ | refine ZL 16 ?_); (first | refine Zb 17 ?_ | refine Za 17 ?_ | refine Yg 17 ?_); refine Yj 18 ?_; refine Zv ?_)
   all_goals (repeat' (first | refine zV ?_ | intro _))
   all_goals exact qE (L' := []) ⟨rfl, .inl ⟨2, by decide, rfl, rfl, [], rfl⟩⟩
 ·rw [if_neg h1]
  have h2 : r.txn = next := Decidable.not_not.1 (fun h => h1 (.inl h))
  have h3 : next ≠ 1073741824 := fun h => h1 (.inr h)
  by_cases h8 : 8 ≤ os.length
  ·rw [if_pos h8]
   repeat' (first | refine zV ?_ | intro _)
   refine Zu (Zk _ _ ([Xd cb next (.slice va os.length vc) rv r t])) (Zw (hT := tk) (Hp.le_refl _)) ?_
   all_goals (refine Zx 0 ?_; refine Zz ?_; refine rNc 1 ?_; refine ZN 2 ?_; refine ZN 3 ?_; refine ZQ 4 ?_; refine Zx 5 ?_; refine rNc 6 ?_; refine ZN 7 ?_; refine ZN 8 ?_; refine ZQ 9 ?_; refine rCm 10 ?_; refine Zx 11 ?_; (first | refine Zb 12 ?_ | refine Za 12 ?_ | refine ZI 12 ?_); (first | refine Zb 13 ?_ | refine Za 13 ?_ | refine wNc 13 ?_); (first | refine Zb 14 ?_ | refine Za 14 ?_ | refine ZE 14 ?_); (first | refine Zb 15 ?_ | refine Za 15 ?_ | refine ZE 15 ?_); (first | refine Zb 16 ?_ | refine Za 16 ?_ | refine ZL 16 ?_); (first | refine Zb 17 ?_ | refine Za 17 ?_ | refine Yg 17 ?_); refine Yj 18 ?_; refine Zv ?_)
   all_goals (repeat' (first | refine zV ?_ | intro _))
   all_goals exact qE (L' := []) ⟨rfl, .inl ⟨6, by decide, rfl, rfl, [], rfl⟩⟩
  ·rw [if_neg h8]
   have hm : txF os ++ Yk (newX r) = txF (os ++ [(⟨newX r, [], []⟩ : OT)]) := by rw [txF_app, txF_one]
   repeat' (first | refine zV ?_ | intro _)
   refine Zu (Zk _ _ ([Xd cb next (.slice va os.length vc) rv r t])) (Zw (hT := tk) (Hp.le_refl _)) ?_
   all_goals (refine Zx 0 ?_; refine Zz ?_; refine rNc 1 ?_; refine ZN 2 ?_; refine ZN 3 ?_; refine ZQ 4 ?_; refine Zx 5 ?_; refine rNc 6 ?_; refine ZN 7 ?_; refine ZN 8 ?_; refine ZQ 9 ?_; refine rCm 10 ?_; refine Zx 11 ?_; (first | refine Zb 12 ?_ | refine Za 12 ?_ | refine ZI 12 ?_); (first | refine Zb 13 ?_ | refine Za 13 ?_ | refine wNc 13 ?_); (first | refine Zb 14 ?_ | refine Za 14 ?_ | refine ZE 14 ?_); (first | refine Zb 15 ?_ | refine Za 15 ?_ | refine ZE 15 ?_); (first | refine Zb 16 ?_ | refine Za 16 ?_ | refine ZL 16 ?_); (first | refine Zb 17 ?_ | refine Za 17 ?_ | refine Yg 17 ?_); refine Yj 18 ?_; refine Zv ?_)
   all_goals (repeat' (first | refine zV ?_ | intro _))
   all_goals refine tc_phase 29 (Zk _ _ ([Xd cb (next + 1) (.slice va os.length vc) rv r t])) (by decide +kernel) (Zw (hT := tk) (Hp.le_refl _)) ?_
   all_goals simp only [List.take_succ_cons, List.take_zero]
   all_goals (refine Zx 0 ?_; refine Zx 1 ?_; refine rNc 2 ?_; refine ZN 3 ?_; refine ZN 4 ?_; refine ZQ 5 ?_; refine Zx 6 ?_; refine rNc 7 ?_; refine ZN 8 ?_; refine ZN 9 ?_; refine ZQ 10 ?_; refine Zx 11 ?_; refine rNc 12 ?_; refine ZN 13 ?_; refine ZN 14 ?_; refine ZQ 15 ?_; refine Zx 16 ?_; refine rNc 17 ?_; refine ZN 18 ?_; refine ZN 19 ?_; refine ZQ 20 ?_; refine Zx 21 ?_; refine rNc 22 ?_; refine ZN 23 ?_; refine ZN 24 ?_; refine ZQ 25 ?_)
   all_goals refine rBu 26 ?_ (y := fun _ _ => y_buildN rfl)
   all_goals (refine Zj (i := 27) ?_; ((try refine Zh ?_); (first | (refine ZH (css := [Yk (newX r)]) (sz := 7) rfl rfl rfl rfl (by simp) (by simp) rfl (fun bs => ?_); simp only [List.flatten_cons, List.flatten_nil, List.append_nil]) | (refine ZF ?_; try intro _)) <;> ((try simp only [kM, kN, kO]); refine Zf ?_; refine Zi ?_)))
   all_goals (refine Zj (i := 28) ?_; ((try refine Zh ?_); (first | (refine ZH (css := [Yk (newX r)]) (sz := 7) rfl rfl rfl rfl (by simp) (by simp) rfl (fun bs => ?_); simp only [List.flatten_cons, List.flatten_nil, List.append_nil]) | (refine ZZ (ys := Yk (newX r)) (m := 1) rfl rfl hown (hR := by infer_instance) SrcV.lit rfl rfl (by decide) rfl (by omega) (by omega) rfl (fun v' sp' hown' => ?_); obtain ⟨a1, c1, rfl, q1⟩ := hown'.slice) | (refine ZF ?_; try intro _)) <;> ((try simp only [kM, kN, kO]); refine Zf ?_; refine Zi ?_)))
   all_goals refine Zv ?_
   all_goals refine te_phase (fuel := 4) (m := [true, true, true, true, true, true, true, true, true, true, true, true, true, true, true, true, true, true, true, true, true, true, true, true, true, true, true, true, true, false, false, false, false]) (Zk _ _ ([])) rfl rfl (Zw (hT := tk) (Hp.le_refl _)) ?_
   all_goals (refine rNc 29 ?_; refine ZN 30 ?_; refine ZN 31 ?_)
   all_goals (refine Zj (i := 32) ?_; ((try refine Zh ?_); (first | (refine ZF ?_; try intro _)) <;> ((try simp only [kM, kN, kO]); refine Zf ?_; refine Zi ?_)))
   all_goals refine Zv ?_
   all_goals (repeat' (first | refine zV ?_ | intro _))
   all_goals rw [hm] at hown' ⊢
   all_goals exact qE (L' := [Xd cb (next + 1) _ rv r t, ZG _ (txF (os ++ [(⟨newX r, [], []⟩ : OT)])) sp' 45]) ⟨rfl, .inr ⟨by trivial, rfl, _, sp', by rw [List.length_append]; exact hown', rfl⟩⟩
def methF (k : Int) : Nat := if k = 2 then 94 else if k = 3 then 95 else if k = 4 then 96 else if k = 5 then 97 else if k = 6 then 98 else 99
theorem meth_spec (r : Rc) (hok : ZU r = true) (hk : 2 ≤ r.kind ∧ r.kind ≤ 7) : Ya Tryz.prog (methF r.kind) ∧ ∀ (ρ : Hp) (cb : Nat) (next : Int) (vv : Value) (rv : RV) (b o : Nat) (P : List Value) (x : Tx) (S ss ms : List Value), P.length = o → OwnX x ss ms → x.stack.length ≤ 1099511627776 → x.marks.length ≤ 100 → RcIn ρ rv r → x.last = r.lsn →
  Spec Tryz.prog (methF r.kind) [.pointer (some ⟨cb, 0, none⟩)] ρ (focC cb next vv rv r b o P x S ss ms) (MethR r cb next vv rv b o P x S (mayT x.p r) (XN x.p r) ρ) := by
 have hlast : ∀ x : Tx, x.last = r.lsn → ({ x.p with last := r.lsn } : TxP) = x.p := fun x h => by rw [← h]
 unfold methF mayT XN
 by_cases k2 : r.kind = 2
 ·simp only [k2, if_true, show ¬ ((2 : Int) = 3 ∨ (2 : Int) = 4) by decide, show ¬ ((2 : Int) = 5) by decide, if_false]
  exact ⟨inferInstance, fun ρ cb next vv rv b o P x S ss ms hP hX hs hm hr hl => by rw [hlast x hl]; exact mchange_spec ρ cb next vv rv r b o P x S ss ms hP hX hs hr hok⟩
 by_cases k3 : r.kind = 3
 ·simp only [k3, if_true, show ¬ ((3 : Int) = 2) by decide, if_false, true_or]
  exact ⟨inferInstance, fun ρ cb next vv rv b o P x S ss ms hP hX hs hm hr hl => by rw [hlast x hl]; exact mnested_spec ρ cb next vv rv r b o P x S ss ms hP hX hs hm⟩
 by_cases k4 : r.kind = 4
 ·simp only [k4, if_true, show ¬ ((4 : Int) = 2) by decide, show ¬ ((4 : Int) = 3) by decide, show ¬ ((4 : Int) = 3 ∨ (4 : Int) = 5) by decide, if_false, or_true]
  exact ⟨inferInstance, fun ρ cb next vv rv b o P x S ss ms hP hX hs hm hr hl => by rw [hlast x hl]; exact mdone_spec ρ cb next vv rv r b o P x S ss ms hP hX hs hm hr hok⟩
 by_cases k5 : r.kind = 5
 ·simp only [k5, if_true, show ¬ ((5 : Int) = 2) by decide, show ¬ ((5 : Int) = 3) by decide, show ¬ ((5 : Int) = 4) by decide, show ¬ ((5 : Int) = 3 ∨ (5 : Int) = 4) by decide, if_false, or_true]
  exact ⟨inferInstance, fun ρ cb next vv rv b o P x S ss ms hP hX hs hm hr hl => by rw [hlast x hl]; exact mundone_spec ρ cb next vv rv r b o P x S ss ms hP hX hs hm⟩
 by_cases k6 : r.kind = 6
 ·simp only [k6, if_true, show ¬ ((6 : Int) = 2) by decide, show ¬ ((6 : Int) = 3) by decide, show ¬ ((6 : Int) = 4) by decide, show ¬ ((6 : Int) = 5) by decide, show ¬ ((6 : Int) = 3 ∨ (6 : Int) = 4) by decide, show ¬ ((6 : Int) = 3 ∨ (6 : Int) = 5) by decide, if_false]
  exact ⟨inferInstance, fun ρ cb next vv rv b o P x S ss ms hP hX hs hm hr hl => by rw [← hl]; exact mcommit_spec ρ cb next vv rv r b o P x S ss ms hP hX⟩
 ·have k7 : r.kind = 7 := by omega
  simp only [k7, show ¬ ((7 : Int) = 2) by decide, show ¬ ((7 : Int) = 3) by decide, show ¬ ((7 : Int) = 4) by decide, show ¬ ((7 : Int) = 5) by decide, show ¬ ((7 : Int) = 6) by decide, show ¬ ((7 : Int) = 3 ∨ (7 : Int) = 4) by decide, show ¬ ((7 : Int) = 3 ∨ (7 : Int) = 5) by decide, if_false]
  exact ⟨inferInstance, fun ρ cb next vv rv b o P x S ss ms hP hX hs hm hr hl => by rw [← hl]; exact mabort_spec ρ cb next vv rv r b o P x S ss ms hP hX⟩
theorem methF_chain {f : Nat → Option Value} {k : Int} (hk : 2 ≤ k ∧ k ≤ 7) : (if k = 8 then f 100 else if k = 7 then f 99 else if k = 6 then f 98 else if k = 5 then f 97 else if k = 4 then f 96 else if k = 3 then f 95 else if k = 2 then f 94 else none) = f (methF k) := by
 unfold methF
 have : k = 2 ∨ k = 3 ∨ k = 4 ∨ k = 5 ∨ k = 6 ∨ k = 7 := by omega
 rcases this with e | e | e | e | e | e <;> subst e <;> rfl
end Go.Proofs.E
