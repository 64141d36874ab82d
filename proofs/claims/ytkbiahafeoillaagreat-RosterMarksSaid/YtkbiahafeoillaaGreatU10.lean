/- The law RosterMarks. Part 10 of 20. -/
import Derived.Test.YtkbiahafeoillaaGreatU9
namespace Go.Proofs.E
open Go
set_option linter.unusedVariables false
set_option linter.unusedSimpArgs false
set_option linter.unusedSectionVars false
set_option maxRecDepth 4000
set_option maxHeartbeats 1000000
attribute [local irreducible] Yl TL TC TE Spec Wh R1 Hp.le EnvLe TS TR YS Zq
abbrev txQ (x : Tx) (S : List Value) : List Value := .int .i64 x.num :: .int .i64 x.state :: .int .u64 x.first :: .int .u64 x.last :: .int .u64 x.undo :: .slice x.sv.a x.sv.n x.sv.c :: .slice x.mv.a x.mv.n x.mv.c :: S
abbrev Xi (b : Nat) (P : List Value) (x : Tx) (S : List Value) : List (Nat × Obj) := [(b, .cells ⟨P ++ txQ x S⟩ 45 (0, 0))]
variable (ρ : Hp) (cb : Nat) (next : Int) (vv : Value) (rv : RV) (r : Rc) (b o : Nat) (P : List Value) (x : Tx) (S : List Value)
theorem live_spec (hP : P.length = o) : Spec Tryz.prog 82 [.pointer (some ⟨cb, 0, none⟩)] ρ [YJ cb next vv rv r (some ⟨b, o, none⟩), Xi b P x S]
  (fun z ρ' L' => z = .bool (decide (x.state = 1)) ∧ ρ' = ρ ∧ L' = [YJ cb next vv rv r (some ⟨b, o, none⟩), Xi b P x S]) := by
 have hg1 : (P ++ txQ x S)[o + 1]? = some (.int .i64 x.state) := q_get hP rfl
 refine Zg Tryz.func82 rfl rfl rfl fun u R => ?_
 simp only [Zx, List.cons_append, List.nil_append]
 by_cases h : x.state = 1
 ·rw [decide_eq_true h]
  repeat' (first | (refine ZE ?_; refine Zn (Zd rfl) rfl rfl ?_) | (refine Zj ?_; first | (refine Zf ?_; refine qQ ?_) | refine Zm ?_) | refine Za ?_ | (refine Zi ?_; refine Zt ?_) | (refine Zh ?_; refine Zs ?_) | intro _)
  exact qE (L' := [YJ cb next vv rv r (some ⟨b, o, none⟩), Xi b P x S]) ⟨rfl, rfl, rfl⟩
 ·rw [decide_eq_false h]
  repeat' (first | (refine ZE ?_; refine Zn (Zd rfl) rfl rfl ?_) | (refine Zj ?_; first | (refine Zf ?_; refine qQ ?_) | refine Zm ?_) | refine Za ?_ | (refine Zi ?_; refine Zt ?_) | (refine Zh ?_; refine Zs ?_) | intro _)
  exact qE (L' := [YJ cb next vv rv r (some ⟨b, o, none⟩), Xi b P x S]) ⟨rfl, rfl, rfl⟩
theorem within_spec (hP : P.length = o) : Spec Tryz.prog 148 [.pointer (some ⟨cb, 0, none⟩)] ρ [YJ cb next vv rv r (some ⟨b, o, none⟩), Xi b P x S]
  (fun z ρ' L' => z = .bool (Xl x.p r) ∧ ρ' = ρ ∧ L' = [YJ cb next vv rv r (some ⟨b, o, none⟩), Xi b P x S]) := by
 have hg2 : (P ++ txQ x S)[o + 2]? = some (.int .u64 x.first) := q_get hP rfl
 have hg4 : (P ++ txQ x S)[o + 4]? = some (.int .u64 x.undo) := q_get hP rfl
 unfold Xl
 simp only [Tx.p]
 refine Zg Tryz.func148 rfl rfl rfl fun u R => ?_
 simp only [Zx, List.cons_append, List.nil_append]
 by_cases h1 : x.first ≤ r.next
 ·by_cases h2 : r.next ≤ x.undo
  ·rw [decide_eq_true ⟨h1, h2⟩]
   repeat' (first | (refine ZE ?_; refine Zn (Zd rfl) rfl rfl ?_) | (refine Zj ?_; first | (refine Zf ?_; refine qQ ?_) | refine Zm ?_) | refine Za ?_ | (refine Zi ?_; refine Zt ?_) | (refine Zh ?_; refine Zs ?_) | intro _)
   refine ZC (Zq _ _ ([YJ cb next vv rv r (some ⟨b, o, none⟩), Xi b P x S])) (Zy (hT := tk) (Hp.le_refl _)) ?_
   all_goals (refine ZU 0 ?_; refine ZS ?_; refine rNc 1 ?_; refine ZY 2 ?_; refine ZY 3 ?_; refine Yf 4 ?_; refine ZU 5 ?_; refine rNc 6 ?_; refine ZY 7 ?_; refine Yf 8 ?_; refine rNc 9 ?_; refine ZY 10 ?_; refine Yf 11 ?_; refine rCm 12 ?_; refine ZU 13 ?_; (first | refine Zc 14 ?_ | refine Zb 14 ?_ | refine ZI 14 ?_); (first | refine Zc 15 ?_ | refine Zb 15 ?_ | refine wNc 15 ?_); (first | refine Zc 16 ?_ | refine Zb 16 ?_ | refine wFa 16 ?_); (first | refine Zc 17 ?_ | refine Zb 17 ?_ | refine wFa 17 ?_); (first | refine Zc 18 ?_ | refine Zb 18 ?_ | refine wLd 18 ?_); (first | refine Zc 19 ?_ | refine Zb 19 ?_ | refine ZI 19 ?_); (first | refine Zc 20 ?_ | refine Zb 20 ?_ | refine wNc 20 ?_); (first | refine Zc 21 ?_ | refine Zb 21 ?_ | refine wFa 21 ?_); (first | refine Zc 22 ?_ | refine Zb 22 ?_ | refine wLd 22 ?_); (first | refine Zc 23 ?_ | refine Zb 23 ?_ | refine wNc 23 ?_); (first | refine Zc 24 ?_ | refine Zb 24 ?_ | refine wFa 24 ?_); (first | refine Zc 25 ?_ | refine Zb 25 ?_ | refine wLd 25 ?_); (first | refine Zc 26 ?_ | refine Zb 26 ?_ | refine wCm 26 ?_); refine rPk 27 ?_; refine rAs 28 ?_; refine ZH ?_)
   all_goals (repeat' (first | (refine ZE ?_; refine Zn (Zd rfl) rfl rfl ?_) | (refine Zj ?_; first | (refine Zf ?_; refine qQ ?_) | refine Zm ?_) | refine Za ?_ | (refine Zi ?_; refine Zt ?_) | (refine Zh ?_; refine Zs ?_) | intro _))
   all_goals exact qE (L' := [YJ cb next vv rv r (some ⟨b, o, none⟩), Xi b P x S]) ⟨rfl, rfl, rfl⟩
  ·rw [decide_eq_false (fun e => h2 e.2)]
   repeat' (first | (refine ZE ?_; refine Zn (Zd rfl) rfl rfl ?_) | (refine Zj ?_; first | (refine Zf ?_; refine qQ ?_) | refine Zm ?_) | refine Za ?_ | (refine Zi ?_; refine Zt ?_) | (refine Zh ?_; refine Zs ?_) | intro _)
   refine ZC (Zq _ _ ([YJ cb next vv rv r (some ⟨b, o, none⟩), Xi b P x S])) (Zy (hT := tk) (Hp.le_refl _)) ?_
   all_goals (refine ZU 0 ?_; refine ZS ?_; refine rNc 1 ?_; refine ZY 2 ?_; refine ZY 3 ?_; refine Yf 4 ?_; refine ZU 5 ?_; refine rNc 6 ?_; refine ZY 7 ?_; refine Yf 8 ?_; refine rNc 9 ?_; refine ZY 10 ?_; refine Yf 11 ?_; refine rCm 12 ?_; refine ZU 13 ?_; (first | refine Zc 14 ?_ | refine Zb 14 ?_ | refine ZI 14 ?_); (first | refine Zc 15 ?_ | refine Zb 15 ?_ | refine wNc 15 ?_); (first | refine Zc 16 ?_ | refine Zb 16 ?_ | refine wFa 16 ?_); (first | refine Zc 17 ?_ | refine Zb 17 ?_ | refine wFa 17 ?_); (first | refine Zc 18 ?_ | refine Zb 18 ?_ | refine wLd 18 ?_); (first | refine Zc 19 ?_ | refine Zb 19 ?_ | refine ZI 19 ?_); (first | refine Zc 20 ?_ | refine Zb 20 ?_ | refine wNc 20 ?_); (first | refine Zc 21 ?_ | refine Zb 21 ?_ | refine wFa 21 ?_); (first | refine Zc 22 ?_ | refine Zb 22 ?_ | refine wLd 22 ?_); (first | refine Zc 23 ?_ | refine Zb 23 ?_ | refine wNc 23 ?_); (first | refine Zc 24 ?_ | refine Zb 24 ?_ | refine wFa 24 ?_); (first | refine Zc 25 ?_ | refine Zb 25 ?_ | refine wLd 25 ?_); (first | refine Zc 26 ?_ | refine Zb 26 ?_ | refine wCm 26 ?_); refine rPk 27 ?_; refine rAs 28 ?_; refine ZH ?_)
   all_goals (repeat' (first | (refine ZE ?_; refine Zn (Zd rfl) rfl rfl ?_) | (refine Zj ?_; first | (refine Zf ?_; refine qQ ?_) | refine Zm ?_) | refine Za ?_ | (refine Zi ?_; refine Zt ?_) | (refine Zh ?_; refine Zs ?_) | intro _))
   all_goals exact qE (L' := [YJ cb next vv rv r (some ⟨b, o, none⟩), Xi b P x S]) ⟨rfl, rfl, rfl⟩
 ·rw [decide_eq_false (fun e => h1 e.1)]
  repeat' (first | (refine ZE ?_; refine Zn (Zd rfl) rfl rfl ?_) | (refine Zj ?_; first | (refine Zf ?_; refine qQ ?_) | refine Zm ?_) | refine Za ?_ | (refine Zi ?_; refine Zt ?_) | (refine Zh ?_; refine Zs ?_) | intro _)
  refine ZC (Zq _ _ ([YJ cb next vv rv r (some ⟨b, o, none⟩), Xi b P x S])) (Zy (hT := tk) (Hp.le_refl _)) ?_
  all_goals (refine ZU 0 ?_; refine ZS ?_; refine rNc 1 ?_; refine ZY 2 ?_; refine ZY 3 ?_; refine Yf 4 ?_; refine ZU 5 ?_; refine rNc 6 ?_; refine ZY 7 ?_; refine Yf 8 ?_; refine rNc 9 ?_; refine ZY 10 ?_; refine Yf 11 ?_; refine rCm 12 ?_; refine ZU 13 ?_; (first | refine Zc 14 ?_ | refine Zb 14 ?_ | refine ZI 14 ?_); (first | refine Zc 15 ?_ | refine Zb 15 ?_ | refine wNc 15 ?_); (first | refine Zc 16 ?_ | refine Zb 16 ?_ | refine wFa 16 ?_); (first | refine Zc 17 ?_ | refine Zb 17 ?_ | refine wFa 17 ?_); (first | refine Zc 18 ?_ | refine Zb 18 ?_ | refine wLd 18 ?_); (first | refine Zc 19 ?_ | refine Zb 19 ?_ | refine ZI 19 ?_); (first | refine Zc 20 ?_ | refine Zb 20 ?_ | refine wNc 20 ?_); (first | refine Zc 21 ?_ | refine Zb 21 ?_ | refine wFa 21 ?_); (first | refine Zc 22 ?_ | refine Zb 22 ?_ | refine wLd 22 ?_); (first | refine Zc 23 ?_ | refine Zb 23 ?_ | refine wNc 23 ?_); (first | refine Zc 24 ?_ | refine Zb 24 ?_ | refine wFa 24 ?_); (first | refine Zc 25 ?_ | refine Zb 25 ?_ | refine wLd 25 ?_); (first | refine Zc 26 ?_ | refine Zb 26 ?_ | refine wCm 26 ?_); refine rPk 27 ?_; refine rAs 28 ?_; refine ZH ?_)
  all_goals (repeat' (first | (refine ZE ?_; refine Zn (Zd rfl) rfl rfl ?_) | (refine Zj ?_; first | (refine Zf ?_; refine qQ ?_) | refine Zm ?_) | refine Za ?_ | (refine Zi ?_; refine Zt ?_) | (refine Zh ?_; refine Zs ?_) | intro _))
  all_goals exact qE (L' := [YJ cb next vv rv r (some ⟨b, o, none⟩), Xi b P x S]) ⟨rfl, rfl, rfl⟩
abbrev cellC (pb cb : Nat) : List (Nat × Obj) := [(pb, .cells ⟨[.pointer (some ⟨cb, 0, none⟩)]⟩ 112 (0, 0))]
theorem back1_spec (t : Option Addr) (pb : Nat) (s : Lf) : Spec Tryz.prog 179 [.agg ⟨lfV s⟩, .pointer (some ⟨pb, 0, none⟩)] ρ [cellC pb cb, YJ cb next vv rv r t]
  (fun z ρ' L' => z = .bool (decide (r.next < s.lsn)) ∧ ρ' = ρ ∧ L' = [cellC pb cb, YJ cb next vv rv r t]) := by
 refine Zg Tryz.func179 rfl rfl rfl fun u R => ?_
 simp only [Zx, List.cons_append, List.nil_append]
 by_cases h : r.next < s.lsn
 ·rw [decide_eq_true h]
  repeat' (first | (refine ZE ?_; refine Zn (Zd rfl) rfl rfl ?_) | (refine Zj ?_; first | (refine Zf ?_; refine qQ ?_) | refine Zm ?_) | refine Za ?_ | (refine Zi ?_; refine Zt ?_) | (refine Zh ?_; refine Zs ?_) | intro _)
  refine ZC (Zq _ _ _) ZF ?_
  all_goals (refine ZY 0 ?_; refine ZS ?_; refine Yf 1 ?_; refine Yf 2 ?_; refine rNc 3 ?_; refine ZY 4 ?_; refine ZY 5 ?_; refine Yf 6 ?_; refine rCm 7 ?_; refine rAs 8 ?_; refine ZH ?_)
  all_goals (repeat' (first | (refine ZE ?_; refine Zn (Zd rfl) rfl rfl ?_) | (refine Zj ?_; first | (refine Zf ?_; refine qQ ?_) | refine Zm ?_) | refine Za ?_ | (refine Zi ?_; refine Zt ?_) | (refine Zh ?_; refine Zs ?_) | intro _))
  all_goals exact qE (L' := [cellC pb cb, YJ cb next vv rv r t]) ⟨rfl, rfl, rfl⟩
 ·rw [decide_eq_false h]
  repeat' (first | (refine ZE ?_; refine Zn (Zd rfl) rfl rfl ?_) | (refine Zj ?_; first | (refine Zf ?_; refine qQ ?_) | refine Zm ?_) | refine Za ?_ | (refine Zi ?_; refine Zt ?_) | (refine Zh ?_; refine Zs ?_) | intro _)
  refine ZC (Zq _ _ _) ZF ?_
  all_goals (refine ZY 0 ?_; refine ZS ?_; refine Yf 1 ?_; refine Yf 2 ?_; refine rNc 3 ?_; refine ZY 4 ?_; refine ZY 5 ?_; refine Yf 6 ?_; refine rCm 7 ?_; refine rAs 8 ?_; refine ZH ?_)
  all_goals (repeat' (first | (refine ZE ?_; refine Zn (Zd rfl) rfl rfl ?_) | (refine Zj ?_; first | (refine Zf ?_; refine qQ ?_) | refine Zm ?_) | refine Za ?_ | (refine Zi ?_; refine Zt ?_) | (refine Zh ?_; refine Zs ?_) | intro _))
  all_goals exact qE (L' := [cellC pb cb, YJ cb next vv rv r t]) ⟨rfl, rfl, rfl⟩
theorem back2_spec (t : Option Addr) (pb : Nat) (m : Nat) : Spec Tryz.prog 181 [Yj m, .pointer (some ⟨pb, 0, none⟩)] ρ [cellC pb cb, YJ cb next vv rv r t]
  (fun z ρ' L' => z = .bool (decide (r.next < m)) ∧ ρ' = ρ ∧ L' = [cellC pb cb, YJ cb next vv rv r t]) := by
 refine Zg Tryz.func181 rfl rfl rfl fun u R => ?_
 simp only [Zx, List.cons_append, List.nil_append]
 by_cases h : r.next < m
 ·rw [decide_eq_true h]
  repeat' (first | (refine ZE ?_; refine Zn (Zd rfl) rfl rfl ?_) | (refine Zj ?_; first | (refine Zf ?_; refine qQ ?_) | refine Zm ?_) | refine Za ?_ | (refine Zi ?_; refine Zt ?_) | (refine Zh ?_; refine Zs ?_) | intro _)
  exact qE (L' := [cellC pb cb, YJ cb next vv rv r t]) ⟨rfl, rfl, rfl⟩
 ·rw [decide_eq_false h]
  repeat' (first | (refine ZE ?_; refine Zn (Zd rfl) rfl rfl ?_) | (refine Zj ?_; first | (refine Zf ?_; refine qQ ?_) | refine Zm ?_) | refine Za ?_ | (refine Zi ?_; refine Zt ?_) | (refine Zh ?_; refine Zs ?_) | intro _)
  exact qE (L' := [cellC pb cb, YJ cb next vv rv r t]) ⟨rfl, rfl, rfl⟩
def backX (x : Tx) (to : Nat) (sv mv : SV) : Tx := { x with undo := to, stack := x.stack.filter (fun s => decide (s.lsn ≤ to)), marks := x.marks.filter (fun m => decide (m ≤ to)), sv := sv, mv := mv }
abbrev focC (cb : Nat) (next : Int) (vv : Value) (rv : RV) (r : Rc) (b o : Nat) (P : List Value) (x : Tx) (S ss ms : List Value) : SH := [YJ cb next vv rv r (some ⟨b, o, none⟩), Xi b P x S, Wd x ss, XW x ms]
theorem back_spec (ρ : Hp) (cb : Nat) (next : Int) (vv : Value) (rv : RV) (r : Rc) (b o : Nat) (P : List Value) (x : Tx) (S ss ms : List Value) (hP : P.length = o) (hX : OwnX x ss ms) (hsl : x.stack.length ≤ 1099511627776) (hml : x.marks.length ≤ 100) :
  Spec Tryz.prog 149 [.pointer (some ⟨cb, 0, none⟩)] ρ (focC cb next vv rv r b o P x S ss ms)
   (fun z ρ' L' => ρ' = ρ ∧ ∃ x' ss' ms', x'.p = backT x.p r.next ∧ x'.num = x.num ∧ OwnX x' ss' ms' ∧ L' = focC cb next vv rv r b o P x' S ss' ms') := by
 have hf1 : (fun s : Lf => !decide (r.next < s.lsn)) = (fun s => decide (s.lsn ≤ r.next)) := by
  funext s
  rw [← decide_not]; exact decide_eq_decide.2 (by omega)
 have hf2 : (fun s : Nat => !decide (r.next < s)) = (fun s => decide (s ≤ r.next)) := by
  funext s
  rw [← decide_not]; exact decide_eq_decide.2 (by omega)
 have hd1 := fun pb => delL_spec ρ _ ss x.stack (by omega) hX.s 179 [.pointer (some ⟨pb, 0, none⟩)] [cellC pb cb, YJ cb next vv rv r (some ⟨b, o, none⟩)] (fun s => decide (r.next < s.lsn)) (fun ρ1 _ s _ => back1_spec ρ1 cb next vv rv r (some ⟨b, o, none⟩) pb s)
 have hd2 := fun pb => delU_spec ρ _ ms x.marks (by omega) hX.m 181 [.pointer (some ⟨pb, 0, none⟩)] [cellC pb cb, YJ cb next vv rv r (some ⟨b, o, none⟩)] (fun s => decide (r.next < s)) (fun ρ1 _ s _ => back2_spec ρ1 cb next vv rv r (some ⟨b, o, none⟩) pb s)
 rw [hf1] at hd1
 rw [hf2] at hd2
 refine Zg Tryz.func149 rfl rfl rfl fun u R => ?_
 simp only [Zx, List.cons_append, List.nil_append]
 repeat' (first | (refine ZE ?_; refine Zn (Zd rfl) rfl rfl ?_) | (refine Zj ?_; first | (refine Zf ?_; refine qQ ?_) | refine Zm ?_) | refine Za ?_ | (refine Zi ?_; refine Zt ?_) | (refine Zh ?_; refine Zs ?_) | intro _)
 rename_i pb
 refine ZC (Zq _ _ ([cellC pb cb, YJ cb next vv rv r (some ⟨b, o, none⟩)])) (Zy (hT := tk) (Hp.le_refl _)) ?_
 all_goals (refine Yf 0 ?_; refine rNc 1 ?_; refine ZY 2 ?_; refine Yf 3 ?_; refine Yf 4 ?_; refine rNc 5 ?_; refine ZY 6 ?_; refine ZY 7 ?_; refine Yf 8 ?_; refine rNc 9 ?_; refine ZY 10 ?_)
 all_goals (refine Zp (i := 11) ?_; ((try refine Zk ?_); (first | (refine ZR (o := o) (P := P) rfl rfl hP rfl ?_) | (refine Zm ?_; try intro _)) <;> ((try simp only [kM, kN, kO]); refine Za ?_; refine Zl ?_)))
 all_goals refine ZH ?_
 all_goals (repeat' (first | (refine ZE ?_; refine Zn (Zd rfl) rfl rfl ?_) | (refine Zj ?_; first | (refine Zf ?_; refine qQ ?_) | refine Zm ?_) | refine Za ?_ | (refine Zi ?_; refine Zt ?_) | (refine Zh ?_; refine Zs ?_) | intro _))
 all_goals have hg5 : (P ++ txQ { x with undo := r.next } S)[o + 5]? = some (.slice x.sv.a x.sv.n x.sv.c) := q_get hP rfl
 all_goals refine tc_phase 13 (Zq _ _ ([cellC pb cb, YJ cb next vv rv r (some ⟨b, o, none⟩), Xi b P { x with undo := r.next } S])) (by decide +kernel) (Zy (hT := tk) (Hp.le_refl _)) ?_
 all_goals simp only [List.take_succ_cons, List.take_zero]
 all_goals (refine Yf 0 ?_; refine rNc 1 ?_; refine ZY 2 ?_; refine Yf 3 ?_; refine Yf 4 ?_; refine rNc 5 ?_; refine ZY 6 ?_; refine Yf 7 ?_; refine rNc 8 ?_; refine ZY 9 ?_; refine Yf 10 ?_; refine rMf 11 ?_)
 all_goals (refine Zp (i := 12) ?_; ((try refine Zk ?_); (first | (refine Ze (.func 178) ?_; refine qC rfl rfl (hd1 pb) ?_; rintro v ρ' L' hle ⟨rfl, s1, o1, rfl⟩ <;> (try simp only [kM, kN, kO]); obtain ⟨a1, c1, rfl, q1⟩ := o1.slice) | (refine ZR (o := o) (P := P) rfl rfl hP rfl ?_) | (refine Zm ?_; try intro _)) <;> ((try simp only [kM, kN, kO]); refine Za ?_; refine Zl ?_)))
 all_goals refine ZH ?_
 all_goals refine te_phase (fuel := 3) (m := [true, true, true, true, true, true, true, true, true, true, true, true, true, false, false, false]) (Zq _ _ ([])) rfl rfl (Zy (hT := tk) (Hp.le_refl _)) ?_
 all_goals (refine rNc 13 ?_; refine ZY 14 ?_)
 all_goals (refine Zp (i := 15) ?_; ((try refine Zk ?_); (first | (refine ZR (o := o) (P := P) rfl rfl hP rfl ?_) | (refine Zm ?_; try intro _)) <;> ((try simp only [kM, kN, kO]); refine Za ?_; refine Zl ?_)))
 all_goals refine ZH ?_
 all_goals (repeat' (first | (refine ZE ?_; refine Zn (Zd rfl) rfl rfl ?_) | (refine Zj ?_; first | (refine Zf ?_; refine qQ ?_) | refine Zm ?_) | refine Za ?_ | (refine Zi ?_; refine Zt ?_) | (refine Zh ?_; refine Zs ?_) | intro _))
 all_goals have hg6 : (P ++ txQ { x with undo := r.next, sv := ⟨a1, (x.stack.filter (fun s => decide (s.lsn ≤ r.next))).length, c1⟩ } S)[o + 6]? = some (.slice x.mv.a x.mv.n x.mv.c) := q_get hP rfl
 all_goals refine tc_phase 13 (Zq _ _ ([cellC pb cb, YJ cb next vv rv r (some ⟨b, o, none⟩), Xi b P { x with undo := r.next, sv := ⟨a1, (x.stack.filter (fun s => decide (s.lsn ≤ r.next))).length, c1⟩ } S])) (by decide +kernel) (Zy (hT := tk) (Hp.le_refl _)) ?_
 all_goals simp only [List.take_succ_cons, List.take_zero]
 all_goals (refine Yf 0 ?_; refine rNc 1 ?_; refine ZY 2 ?_; refine Yf 3 ?_; refine Yf 4 ?_; refine rNc 5 ?_; refine ZY 6 ?_; refine Yf 7 ?_; refine rNc 8 ?_; refine ZY 9 ?_; refine Yf 10 ?_; refine rMf 11 ?_)
 all_goals (refine Zp (i := 12) ?_; ((try refine Zk ?_); (first | (refine Ze (.func 180) ?_; refine qC rfl rfl (hd2 pb) ?_; rintro v ρ' L' hle ⟨rfl, s2, o2, rfl⟩ <;> (try simp only [kM, kN, kO]); obtain ⟨a2, c2, rfl, q2⟩ := o2.slice) | (refine ZR (o := o) (P := P) rfl rfl hP rfl ?_) | (refine Zm ?_; try intro _)) <;> ((try simp only [kM, kN, kO]); refine Za ?_; refine Zl ?_)))
 all_goals refine ZH ?_
 all_goals refine te_phase (fuel := 3) (m := [true, true, true, true, true, true, true, true, true, true, true, true, true, false, false, false]) (Zq _ _ ([])) rfl rfl (Zy (hT := tk) (Hp.le_refl _)) ?_
 all_goals (refine rNc 13 ?_; refine ZY 14 ?_)
 all_goals (refine Zp (i := 15) ?_; ((try refine Zk ?_); (first | (refine ZR (o := o) (P := P) rfl rfl hP rfl ?_) | (refine Zm ?_; try intro _)) <;> ((try simp only [kM, kN, kO]); refine Za ?_; refine Zl ?_)))
 all_goals refine ZH ?_
 all_goals (repeat' (first | (refine ZE ?_; refine Zn (Zd rfl) rfl rfl ?_) | (refine Zj ?_; first | (refine Zf ?_; refine qQ ?_) | refine Zm ?_) | refine Za ?_ | (refine Zi ?_; refine Zt ?_) | (refine Zh ?_; refine Zs ?_) | intro _))
 all_goals exact qE (L' := focC cb next vv rv r b o P (backX x r.next ⟨a1, _, c1⟩ ⟨a2, _, c2⟩) S s1 s2) ⟨rfl, backX x r.next ⟨a1, _, c1⟩ ⟨a2, _, c2⟩, s1, s2, rfl, rfl, ⟨o1, o2⟩, rfl⟩
def MethR (r : Rc) (cb : Nat) (next : Int) (vv : Value) (rv : RV) (b o : Nat) (P : List Value) (x : Tx) (S : List Value) (may : Bool) (nx : TxP) (ρ : Hp) (z : Value) (ρ' : Hp) (L' : SH) : Prop :=
 ρ.le ρ' ∧ ((may = true ∧ z = .int .i64 0 ∧ ∃ x' ss' ms', x'.p = nx ∧ OwnX x' ss' ms' ∧ L' = focC cb next vv rv r b o P x' S ss' ms') ∨ (may = false ∧ z = .int .i64 2 ∧ ∃ G : SH, L' = G))
theorem mchange_spec (ρ : Hp) (cb : Nat) (next : Int) (vv : Value) (rv : RV) (r : Rc) (b o : Nat) (P : List Value) (x : Tx) (S ss ms : List Value) (hP : P.length = o) (hX : OwnX x ss ms) (hsl : x.stack.length ≤ 1099511627776) (hr : RcIn ρ rv r) (hok : Yp r = true) :
  Spec Tryz.prog 94 [.pointer (some ⟨cb, 0, none⟩)] ρ (focC cb next vv rv r b o P x S ss ms)
   (MethR r cb next vv rv b o P x S (Wa x.p) (pushT x.p r) ρ) := by
 have hli := live_spec ρ cb next vv rv r b o P x S hP
 have hre := rreserve_spec ρ rv r hr
 unfold MethR
 unfold errN at hre
 rw [if_pos hok] at hre
 refine Zg Tryz.func94 rfl rfl rfl fun u R => ?_
 simp only [Zx, List.cons_append, List.nil_append]
 by_cases hs : x.state = 1
 ·have hlt : Wa x.p = true := decide_eq_true hs
  rw [decide_eq_true hs] at hli
  rw [hlt]
  have hg5 : (P ++ txQ { x with undo := r.lsn } S)[o + 5]? = some (.slice x.sv.a x.sv.n x.sv.c) := q_get hP rfl
  have hXs := hX.s
  repeat' (first | (refine Ze (.func 82) ?_; refine qC rfl rfl (hli) ?_; rintro v ρ' L' hle ⟨rfl, rfl, rfl⟩ <;> (try simp only [kM, kN, kO])) | (refine Ze (.func 146) ?_; refine qC rfl rfl (hre) ?_; rintro v ρ' L' hle ⟨hl1, rfl, rfl⟩ <;> (try simp only [kM, kN, kO])) | (refine ZE ?_; refine Zn (Zd rfl) rfl rfl ?_) | (refine Zj ?_; first | (refine Zf ?_; refine qQ ?_) | refine Zm ?_) | refine Za ?_ | (refine Zi ?_; refine Zt ?_) | (refine Zh ?_; refine Zs ?_) | intro _)
  refine ZC (Zq _ _ ([YJ cb next vv rv r (some ⟨b, o, none⟩)])) (Zy (hT := tk) (Hp.le_refl _)) ?_
  all_goals (refine ZU 0 ?_; refine rNc 1 ?_; refine ZY 2 ?_; refine Yf 3 ?_; refine ZU 4 ?_; refine rNc 5 ?_; refine ZY 6 ?_; refine ZY 7 ?_; refine Yf 8 ?_; refine rNc 9 ?_; refine ZY 10 ?_)
  all_goals (refine Zp (i := 11) ?_; ((try refine Zk ?_); (first | (refine ZR (o := o) (P := P) rfl rfl hP rfl ?_) | (refine Zm ?_; try intro _)) <;> ((try simp only [kM, kN, kO]); refine Za ?_; refine Zl ?_)))
  all_goals refine ZH ?_
  all_goals (repeat' (first | (refine ZE ?_; refine Zn (Zd rfl) rfl rfl ?_) | (refine Zj ?_; first | (refine Zf ?_; refine qQ ?_) | refine Zm ?_) | refine Za ?_ | (refine Zi ?_; refine Zt ?_) | (refine Zh ?_; refine Zs ?_) | intro _))
  all_goals refine tc_phase 20 (Zq _ _ ([YJ cb next vv rv r (some ⟨b, o, none⟩), Xi b P { x with undo := r.lsn } S])) (by decide +kernel) (Zy (hT := tk) (Hp.le_refl _)) ?_
  all_goals simp only [List.take_succ_cons, List.take_zero]
  all_goals (refine ZU 0 ?_; refine rNc 1 ?_; refine ZY 2 ?_; refine Yf 3 ?_; refine ZU 4 ?_; refine rNc 5 ?_; refine ZY 6 ?_; refine Yf 7 ?_; refine rNc 8 ?_; refine ZY 9 ?_; refine Yf 10 ?_; refine ZU 11 ?_; refine rNc 12 ?_; refine ZY 13 ?_; refine ZY 14 ?_; refine Yf 15 ?_; refine ZU 16 ?_)
  all_goals refine rBu 17 ?_ (y := fun _ _ => Zd rfl)
  all_goals (refine Zp (i := 18) ?_; ((try refine Zk ?_); (first | (refine Yu (css := [lfV (XL r)]) (sz := 2) rfl rfl rfl rfl (by simp) (by simp) rfl (fun bs => ?_); simp only [List.flatten_cons, List.flatten_nil, List.append_nil]) | (refine Zm ?_; try intro _)) <;> ((try simp only [kM, kN, kO]); refine Za ?_; refine Zl ?_)))
  all_goals (refine Zp (i := 19) ?_; ((try refine Zk ?_); (first | (refine Yu (css := [lfV (XL r)]) (sz := 2) rfl rfl rfl rfl (by simp) (by simp) rfl (fun bs => ?_); simp only [List.flatten_cons, List.flatten_nil, List.append_nil]) | (refine Xp (ys := lfV (XL r)) (m := 1) rfl rfl hXs (hR := by infer_instance) SrcV.lit rfl rfl (by decide) rfl (by omega) (by omega) rfl (fun v' sp' hown' => ?_); obtain ⟨a1, c1, rfl, q1⟩ := hown'.slice) | (refine Zm ?_; try intro _)) <;> ((try simp only [kM, kN, kO]); refine Za ?_; refine Zl ?_)))
  all_goals refine ZH ?_
  all_goals refine te_phase (fuel := 3) (m := [true, true, true, true, true, true, true, true, true, true, true, true, true, true, true, true, true, true, true, true, false, false, false]) (Zq _ _ ([])) rfl rfl (Zy (hT := tk) (Hp.le_refl _)) ?_
  all_goals (refine rNc 20 ?_; refine ZY 21 ?_)
  all_goals (refine Zp (i := 22) ?_; ((try refine Zk ?_); (first | (refine ZR (o := o) (P := P) rfl rfl hP rfl ?_) | (refine Zm ?_; try intro _)) <;> ((try simp only [kM, kN, kO]); refine Za ?_; refine Zl ?_)))
  all_goals refine ZH ?_
  all_goals (repeat' (first | (refine ZE ?_; refine Zn (Zd rfl) rfl rfl ?_) | (refine Zj ?_; first | (refine Zf ?_; refine qQ ?_) | refine Zm ?_) | refine Za ?_ | (refine Zi ?_; refine Zt ?_) | (refine Zh ?_; refine Zs ?_) | intro _))
  all_goals have hm : (x.stack.map lfV).flatten ++ lfV (XL r) = ((x.stack ++ [XL r]).map lfV).flatten := by simp
  all_goals rw [hm] at hown' ⊢
  all_goals exact qE (L' := focC cb next vv rv r b o P { x with undo := r.lsn, stack := x.stack ++ [XL r], sv := ⟨a1, x.stack.length + 1, c1⟩ } S sp' ms) ⟨hl1, .inl ⟨by trivial, rfl, { x with undo := r.lsn, stack := x.stack ++ [XL r], sv := ⟨a1, x.stack.length + 1, c1⟩ }, sp', ms, rfl, ⟨by rw [List.length_append]; exact hown', hX.m⟩, rfl⟩⟩
 ·have hlt : Wa x.p = false := decide_eq_false hs
  rw [decide_eq_false hs] at hli
  rw [hlt]
  repeat' (first | (refine Ze (.func 82) ?_; refine qC rfl rfl (hli) ?_; rintro v ρ' L' hle ⟨rfl, rfl, rfl⟩ <;> (try simp only [kM, kN, kO])) | (refine ZE ?_; refine Zn (Zd rfl) rfl rfl ?_) | (refine Zj ?_; first | (refine Zf ?_; refine qQ ?_) | refine Zm ?_) | refine Za ?_ | (refine Zi ?_; refine Zt ?_) | (refine Zh ?_; refine Zs ?_) | intro _)
  exact qE (L' := []) ⟨Hp.le_refl _, .inr ⟨by trivial, rfl, [], rfl⟩⟩
variable (ρ : Hp) (cb : Nat) (next : Int) (vv : Value) (rv : RV) (r : Rc) (b o : Nat) (P : List Value) (x : Tx) (S ss ms : List Value)
theorem mnested_spec (hP : P.length = o) (hX : OwnX x ss ms) (hsl : x.stack.length ≤ 1099511627776) (hml : x.marks.length ≤ 100) :
  Spec Tryz.prog 95 [.pointer (some ⟨cb, 0, none⟩)] ρ (focC cb next vv rv r b o P x S ss ms)
   (MethR r cb next vv rv b o P x S (Wa x.p && Xl x.p r) (backT x.p r.next) ρ) := by
 have hli := live_spec ρ cb next vv rv r b o P x S hP
 have hwi := within_spec ρ cb next vv rv r b o P x S hP
 have hba := back_spec ρ cb next vv rv r b o P x S ss ms hP hX hsl hml
 have hne := fun b0 => needB_spec ρ b0 2 [Wa x.p, Xl x.p r] (by simp) rfl
 rw [show decide (x.state = 1) = Wa x.p from rfl] at hli
 unfold MethR
 generalize Wa x.p = l1 at *
 generalize Xl x.p r = w1 at *
 refine Zg Tryz.func95 rfl rfl rfl fun u R => ?_
 simp only [Zx, List.cons_append, List.nil_append]
 have hall : ([l1, w1].all id) = (l1 && w1) := by simp
 rw [hall] at hne
 cases hm : (l1 && w1)
 ·rw [hm] at hne
  simp only [Bool.false_eq_true, if_false] at hne
  repeat' (first | (refine Ze (.func 82) ?_; refine qC rfl rfl (hli) ?_; rintro v ρ' L' hle ⟨rfl, rfl, rfl⟩ <;> (try simp only [kM, kN, kO])) | (refine Ze (.func 148) ?_; refine qC rfl rfl (hwi) ?_; rintro v ρ' L' hle ⟨rfl, rfl, rfl⟩ <;> (try simp only [kM, kN, kO])) | (refine Zz rfl rfl rfl rfl (by simp) rfl rfl (fun bs => ?_)) | (refine Ze (.func 147) ?_; refine qC rfl rfl (hne _) ?_; rintro v ρ' L' hle ⟨rfl, rfl, rfl⟩ <;> (try simp only [kM, kN, kO])) | (refine ZE ?_; refine Zn (Zd rfl) rfl rfl ?_) | (refine Zj ?_; first | (refine Zf ?_; refine qQ ?_) | refine Zm ?_) | refine Za ?_ | (refine Zi ?_; refine Zt ?_) | (refine Zh ?_; refine Zs ?_) | intro _)
  exact qE (L' := []) ⟨Hp.le_refl _, .inr ⟨by trivial, rfl, [], rfl⟩⟩
 ·rw [hm] at hne
  simp only [if_true] at hne
  repeat' (first | (refine Ze (.func 82) ?_; refine qC rfl rfl (hli) ?_; rintro v ρ' L' hle ⟨rfl, rfl, rfl⟩ <;> (try simp only [kM, kN, kO])) | (refine Ze (.func 148) ?_; refine qC rfl rfl (hwi) ?_; rintro v ρ' L' hle ⟨rfl, rfl, rfl⟩ <;> (try simp only [kM, kN, kO])) | (refine Zz rfl rfl rfl rfl (by simp) rfl rfl (fun bs => ?_)) | (refine Ze (.func 147) ?_; refine qC rfl rfl (hne _) ?_; rintro v ρ' L' hle ⟨rfl, rfl, rfl⟩ <;> (try simp only [kM, kN, kO])) | (refine Ze (.func 149) ?_; refine qC rfl rfl (hba) ?_; rintro v ρ' L' hle ⟨rfl, x', ss', ms', e1, e2, hX', rfl⟩ <;> (try simp only [kM, kN, kO])) | (refine ZE ?_; refine Zn (Zd rfl) rfl rfl ?_) | (refine Zj ?_; first | (refine Zf ?_; refine qQ ?_) | refine Zm ?_) | refine Za ?_ | (refine Zi ?_; refine Zt ?_) | (refine Zh ?_; refine Zs ?_) | intro _)
  exact qE (L' := focC cb next vv rv r b o P x' S ss' ms') ⟨Hp.le_refl _, .inl ⟨by trivial, rfl, x', ss', ms', e1, hX', rfl⟩⟩
theorem mdone_spec (hP : P.length = o) (hX : OwnX x ss ms) (hsl : x.stack.length ≤ 1099511627776) (hml : x.marks.length ≤ 100) (hr : RcIn ρ rv r) (hok : Yp r = true) :
  Spec Tryz.prog 96 [.pointer (some ⟨cb, 0, none⟩)] ρ (focC cb next vv rv r b o P x S ss ms)
   (MethR r cb next vv rv b o P x S (Wa x.p && Xl x.p r) (pushT (backT x.p r.next) r) ρ) := by
 have hne := mnested_spec ρ cb next vv rv r b o P x S ss ms hP hX hsl hml
 unfold MethR at hne ⊢
 refine Zg Tryz.func96 rfl rfl rfl fun u R => ?_
 simp only [Zx, List.cons_append, List.nil_append]
 cases hm : (Wa x.p && Xl x.p r)
 ·rw [hm] at hne
  repeat' (first | (refine Ze (.func 95) ?_; refine qC rfl rfl (hne) ?_; rintro v ρ' L' hle ⟨hl1, ⟨h0, _⟩ | ⟨_, rfl, G, rfl⟩⟩ <;> (try simp only [kM, kN, kO])) | (refine ZE ?_; refine Zn (Zd rfl) rfl rfl ?_) | (refine Zj ?_; first | (refine Zf ?_; refine qQ ?_) | refine Zm ?_) | refine Za ?_ | (refine Zi ?_; refine Zt ?_) | (refine Zh ?_; refine Zs ?_) | intro _)
  ·exact absurd h0 (by decide)
  ·repeat' (first | (refine ZE ?_; refine Zn (Zd rfl) rfl rfl ?_) | (refine Zj ?_; first | (refine Zf ?_; refine qQ ?_) | refine Zm ?_) | refine Za ?_ | (refine Zi ?_; refine Zt ?_) | (refine Zh ?_; refine Zs ?_) | intro _)
   exact qE (L' := []) ⟨hl1, .inr ⟨by trivial, rfl, [], rfl⟩⟩
 ·rw [hm] at hne
  rw [Bool.and_eq_true] at hm
  repeat' (first | (refine Ze (.func 95) ?_; refine qC rfl rfl (hne) ?_; rintro v ρ' L' hle ⟨hl1, ⟨_, rfl, x', ss', ms', e1, hX', rfl⟩ | ⟨h0, _⟩⟩ <;> (try simp only [kM, kN, kO])) | (refine ZE ?_; refine Zn (Zd rfl) rfl rfl ?_) | (refine Zj ?_; first | (refine Zf ?_; refine qQ ?_) | refine Zm ?_) | refine Za ?_ | (refine Zi ?_; refine Zt ?_) | (refine Zh ?_; refine Zs ?_) | intro _)
  ·have hlv : Wa x'.p = true := by rw [e1]; exact hm.1
   have hs' : x'.stack.length ≤ 1099511627776 := by
    have := congrArg TxP.stack e1
    simp only [Tx.p] at this
    rw [this]
    exact Nat.le_trans (List.length_filter_le _ _) hsl
   have hch := fun ρ1 (h : RcIn ρ1 rv r) => mchange_spec ρ1 cb next vv rv r b o P x' S ss' ms' hP hX' hs' h hok
   unfold MethR at hch
   rw [hlv, e1] at hch
   repeat' (first | (refine Ze (.func 94) ?_; refine qC rfl rfl (hch _ (hr.mono hl1)) ?_; rintro v ρ' L' hle ⟨hl2, ⟨_, rfl, x2, ss2, ms2, e2, hX2, rfl⟩ | ⟨h0, _⟩⟩ <;> (try simp only [kM, kN, kO])) | (refine ZE ?_; refine Zn (Zd rfl) rfl rfl ?_) | (refine Zj ?_; first | (refine Zf ?_; refine qQ ?_) | refine Zm ?_) | refine Za ?_ | (refine Zi ?_; refine Zt ?_) | (refine Zh ?_; refine Zs ?_) | intro _)
   ·repeat' (first | (refine ZE ?_; refine Zn (Zd rfl) rfl rfl ?_) | (refine Zj ?_; first | (refine Zf ?_; refine qQ ?_) | refine Zm ?_) | refine Za ?_ | (refine Zi ?_; refine Zt ?_) | (refine Zh ?_; refine Zs ?_) | intro _)
    exact qE (L' := focC cb next vv rv r b o P x2 S ss2 ms2) ⟨Hp.le_trans hl1 hl2, .inl ⟨by trivial, rfl, x2, ss2, ms2, e2, hX2, rfl⟩⟩
   ·exact absurd h0 (by decide)
  ·exact absurd h0 (by decide)
theorem mundone_spec (hP : P.length = o) (hX : OwnX x ss ms) (hsl : x.stack.length ≤ 1099511627776) (hml : x.marks.length ≤ 100) :
  Spec Tryz.prog 97 [.pointer (some ⟨cb, 0, none⟩)] ρ (focC cb next vv rv r b o P x S ss ms)
   (MethR r cb next vv rv b o P x S (decide (x.state ≠ 3) && (Xl x.p r && decide (r.next < x.undo))) (backT x.p r.next) ρ) := by
 have hwi := within_spec ρ cb next vv rv r b o P x S hP
 have hba := back_spec ρ cb next vv rv r b o P x S ss ms hP hX hsl hml
 have hne := fun b0 => needB_spec ρ b0 3 [decide (x.state ≠ 3), Xl x.p r, decide (r.next < x.undo)] (by simp) rfl
 have hg1 : (P ++ txQ x S)[o + 1]? = some (.int .i64 x.state) := q_get hP rfl
 have hg4 : (P ++ txQ x S)[o + 4]? = some (.int .u64 x.undo) := q_get hP rfl
 unfold MethR
 generalize Xl x.p r = w1 at *
 refine Zg Tryz.func97 rfl rfl rfl fun u R => ?_
 simp only [Zx, List.cons_append, List.nil_append]
 have hall : ([decide (x.state ≠ 3), w1, decide (r.next < x.undo)].all id) = (decide (x.state ≠ 3) && (w1 && decide (r.next < x.undo))) := by simp [Bool.and_assoc]
 rw [hall] at hne
 rcases Decidable.em (x.state = 3) with h1 | h1 <;> rcases Decidable.em (r.next < x.undo) with h2 | h2 <;> cases w1
 all_goals first | rw [decide_eq_true (show x.state ≠ 3 from h1)] at hne ⊢ | rw [decide_eq_false (show ¬ (x.state ≠ 3) from fun e => e h1)] at hne ⊢
 all_goals first | rw [decide_eq_true h2] at hne ⊢ | rw [decide_eq_false h2] at hne ⊢
 all_goals simp only [Bool.true_and, Bool.and_true, Bool.false_and, Bool.and_false, Bool.false_eq_true, if_false, if_true] at hne ⊢
 all_goals (repeat' (first | (refine ZE ?_; refine Zn (Zd rfl) rfl rfl ?_) | (refine Zj ?_; first | (refine Zf ?_; refine qQ ?_) | refine Zm ?_) | refine Za ?_ | (refine Zi ?_; refine Zt ?_) | (refine Zh ?_; refine Zs ?_) | intro _))
 all_goals refine ZC (Zq _ _ ([YJ cb next vv rv r (some ⟨b, o, none⟩), Xi b P x S])) (Zy (hT := tk) (Hp.le_refl _)) ?_
 all_goals (refine ZU 0 ?_; refine rNc 1 ?_; refine ZY 2 ?_; refine Yf 3 ?_; refine rNc 4 ?_; refine ZY 5 ?_; refine Yf 6 ?_; refine rCm 7 ?_; refine ZU 8 ?_; refine ZU 10 ?_; refine rNc 11 ?_; refine ZY 12 ?_; refine ZY 13 ?_; refine Yf 14 ?_; refine ZU 15 ?_; refine rNc 16 ?_; refine ZY 17 ?_; refine Yf 18 ?_; refine rNc 19 ?_; refine ZY 20 ?_; refine Yf 21 ?_; refine rCm 22 ?_)
 all_goals (refine Zp (i := 9) ?_; ((try refine Zk ?_); (first | (refine Ze (.func 148) ?_; refine qC rfl rfl (hwi) ?_; rintro v ρ' L' hle ⟨rfl, rfl, rfl⟩ <;> (try simp only [kM, kN, kO])) | (refine Zm ?_; try intro _)) <;> ((try simp only [kM, kN, kO]); refine Za ?_; refine Zl ?_)))
 all_goals (refine Zp (i := 23) ?_; ((try refine Zk ?_); (first | (refine Zz rfl rfl rfl rfl (by simp) rfl rfl (fun bs => ?_)) | (refine Zm ?_; try intro _)) <;> ((try simp only [kM, kN, kO]); refine Za ?_; refine Zl ?_)))
 all_goals (refine Zp (i := 24) ?_; ((try refine Zk ?_); (first | (refine Ze (.func 147) ?_; refine qC rfl rfl (hne _) ?_; rintro v ρ' L' hle ⟨rfl, rfl, rfl⟩ <;> (try simp only [kM, kN, kO])) | (refine Zm ?_; try intro _)) <;> ((try simp only [kM, kN, kO]); refine Za ?_; refine Zl ?_)))
 all_goals (refine ZS ?_; refine rAs 25 ?_; refine ZH ?_)
 all_goals (repeat' (first | (refine Ze (.func 149) ?_; refine qC rfl rfl (hba) ?_; rintro v ρ' L' hle ⟨rfl, x', ss', ms', e1, e2, hX', rfl⟩ <;> (try simp only [kM, kN, kO])) | (refine ZE ?_; refine Zn (Zd rfl) rfl rfl ?_) | (refine Zj ?_; first | (refine Zf ?_; refine qQ ?_) | refine Zm ?_) | refine Za ?_ | (refine Zi ?_; refine Zt ?_) | (refine Zh ?_; refine Zs ?_) | intro _))
 all_goals first
  | exact qE (L' := focC cb next vv rv r b o P x' S ss' ms') ⟨Hp.le_refl _, .inl ⟨by trivial, rfl, x', ss', ms', e1, hX', rfl⟩⟩
  | exact qE (L' := []) ⟨Hp.le_refl _, .inr ⟨by trivial, rfl, [], rfl⟩⟩
theorem mends_spec (st : Int) (hP : P.length = o) (hX : OwnX x ss ms) :
  Spec Tryz.prog 150 [.pointer (some ⟨cb, 0, none⟩), .int .i64 st] ρ (focC cb next vv rv r b o P x S ss ms)
   (MethR r cb next vv rv b o P x S (Wa x.p) { x.p with state := st, marks := [] } ρ) := by
 have hli := live_spec ρ cb next vv rv r b o P x S hP
 have hne := fun b0 => needB_spec ρ b0 1 [Wa x.p] (by simp) rfl
 rw [show decide (x.state = 1) = Wa x.p from rfl] at hli
 unfold MethR
 refine Zg Tryz.func150 rfl rfl rfl fun u R => ?_
 simp only [Zx, List.cons_append, List.nil_append]
 generalize Wa x.p = l1 at *
 have hall : ([l1].all id) = l1 := by simp
 rw [hall] at hne
 cases l1
 all_goals simp only [Bool.false_eq_true, if_false, if_true] at hne
 all_goals (repeat' (first | (refine Ze (.func 82) ?_; refine qC rfl rfl (hli) ?_; rintro v ρ' L' hle ⟨rfl, rfl, rfl⟩ <;> (try simp only [kM, kN, kO])) | (refine Zz rfl rfl rfl rfl (by simp) rfl rfl (fun bs => ?_)) | (refine Ze (.func 147) ?_; refine qC rfl rfl (hne _) ?_; rintro v ρ' L' hle ⟨rfl, rfl, rfl⟩ <;> (try simp only [kM, kN, kO])) | (refine ZE ?_; refine Zn (Zd rfl) rfl rfl ?_) | (refine Zj ?_; first | (refine Zf ?_; refine qQ ?_) | refine Zm ?_) | refine Za ?_ | (refine Zi ?_; refine Zt ?_) | (refine Zh ?_; refine Zs ?_) | intro _))
 all_goals refine ZC (Zq _ _ ([YJ cb next vv rv r (some ⟨b, o, none⟩)])) (Zy (hT := tk) (Hp.le_refl _)) ?_
 all_goals (refine ZU 0 ?_; refine rNc 1 ?_; refine ZY 2 ?_; refine Yf 3 ?_; refine ZU 4 ?_; refine rNc 5 ?_; refine ZY 6 ?_; refine Yf 7 ?_; refine ZU 8 ?_; refine rNc 9 ?_; refine ZY 10 ?_)
 all_goals (refine Zp (i := 11) ?_; ((try refine Zk ?_); (first | (refine ZR (o := o) (P := P) rfl rfl hP rfl ?_) | (refine Zm ?_; try intro _)) <;> ((try simp only [kM, kN, kO]); refine Za ?_; refine Zl ?_)))
 all_goals (refine rNc 12 ?_; refine ZY 13 ?_)
 all_goals (refine Zp (i := 14) ?_; ((try refine Zk ?_); (first | (refine ZR (o := o) (P := P) rfl rfl hP rfl ?_) | (refine Zm ?_; try intro _)) <;> ((try simp only [kM, kN, kO]); refine Za ?_; refine Zl ?_)))
 all_goals refine ZH ?_
 all_goals (repeat' (first | (refine ZE ?_; refine Zn (Zd rfl) rfl rfl ?_) | (refine Zj ?_; first | (refine Zf ?_; refine qQ ?_) | refine Zm ?_) | refine Za ?_ | (refine Zi ?_; refine Zt ?_) | (refine Zh ?_; refine Zs ?_) | intro _))
 all_goals first
  | exact qE (L' := focC cb next vv rv r b o P { x with state := st, marks := [], mv := ⟨none, 0, 0⟩ } S ss []) ⟨Hp.le_refl _, .inl ⟨by trivial, rfl, { x with state := st, marks := [], mv := ⟨none, 0, 0⟩ }, ss, [], rfl, ⟨hX.s, OwnS.nil 1⟩, rfl⟩⟩
  | exact qE (L' := []) ⟨Hp.le_refl _, .inr ⟨by trivial, rfl, [], rfl⟩⟩
theorem mabort_spec (hP : P.length = o) (hX : OwnX x ss ms) :
  Spec Tryz.prog 99 [.pointer (some ⟨cb, 0, none⟩)] ρ (focC cb next vv rv r b o P x S ss ms)
   (MethR r cb next vv rv b o P x S (Wa x.p) { x.p with state := 2, marks := [] } ρ) := by
 have he := mends_spec ρ cb next vv rv r b o P x S ss ms 2 hP hX
 unfold MethR at he ⊢
 refine Zg Tryz.func99 rfl rfl rfl fun u R => ?_
 simp only [Zx, List.cons_append, List.nil_append]
 repeat' (first | (refine Ze (.func 150) ?_; refine qC rfl rfl (he) ?_; rintro v ρ' L' hle ⟨hl1, ⟨h0, rfl, x', ss', ms', e1, hX', rfl⟩ | ⟨h0, rfl, G, rfl⟩⟩ <;> (try simp only [kM, kN, kO])) | (refine ZE ?_; refine Zn (Zd rfl) rfl rfl ?_) | (refine Zj ?_; first | (refine Zf ?_; refine qQ ?_) | refine Zm ?_) | refine Za ?_ | (refine Zi ?_; refine Zt ?_) | (refine Zh ?_; refine Zs ?_) | intro _)
 ·repeat' (first | (refine ZE ?_; refine Zn (Zd rfl) rfl rfl ?_) | (refine Zj ?_; first | (refine Zf ?_; refine qQ ?_) | refine Zm ?_) | refine Za ?_ | (refine Zi ?_; refine Zt ?_) | (refine Zh ?_; refine Zs ?_) | intro _)
  exact qE (L' := focC cb next vv rv r b o P x' S ss' ms') ⟨hl1, .inl ⟨h0, rfl, x', ss', ms', e1, hX', rfl⟩⟩
 ·repeat' (first | (refine ZE ?_; refine Zn (Zd rfl) rfl rfl ?_) | (refine Zj ?_; first | (refine Zf ?_; refine qQ ?_) | refine Zm ?_) | refine Za ?_ | (refine Zi ?_; refine Zt ?_) | (refine Zh ?_; refine Zs ?_) | intro _)
  exact qE (L' := []) ⟨hl1, .inr ⟨h0, rfl, [], rfl⟩⟩
theorem mcommit_spec (hP : P.length = o) (hX : OwnX x ss ms) :
  Spec Tryz.prog 98 [.pointer (some ⟨cb, 0, none⟩)] ρ (focC cb next vv rv r b o P x S ss ms)
   (MethR r cb next vv rv b o P x S (Wa x.p) { x.p with state := 3, marks := [], stack := [] } ρ) := by
 have he := mends_spec ρ cb next vv rv r b o P { x with stack := [], sv := ⟨none, 0, 0⟩ } S [] ms 3 hP ⟨OwnS.nil 2, hX.m⟩
 unfold MethR at he ⊢
 refine Zg Tryz.func98 rfl rfl rfl fun u R => ?_
 simp only [Zx, List.cons_append, List.nil_append]
 repeat' (first | (refine ZR (o := o) (P := P) rfl rfl hP rfl ?_) | (refine Ze (.func 150) ?_; refine qC rfl rfl (he) ?_; rintro v ρ' L' hle ⟨hl1, ⟨h0, rfl, x', ss', ms', e1, hX', rfl⟩ | ⟨h0, rfl, G, rfl⟩⟩ <;> (try simp only [kM, kN, kO])) | (refine ZE ?_; refine Zn (Zd rfl) rfl rfl ?_) | (refine Zj ?_; first | (refine Zf ?_; refine qQ ?_) | refine Zm ?_) | refine Za ?_ | (refine Zi ?_; refine Zt ?_) | (refine Zh ?_; refine Zs ?_) | intro _)
 ·repeat' (first | (refine ZE ?_; refine Zn (Zd rfl) rfl rfl ?_) | (refine Zj ?_; first | (refine Zf ?_; refine qQ ?_) | refine Zm ?_) | refine Za ?_ | (refine Zi ?_; refine Zt ?_) | (refine Zh ?_; refine Zs ?_) | intro _)
  exact qE (L' := focC cb next vv rv r b o P x' S ss' ms') ⟨hl1, .inl ⟨h0, rfl, x', ss', ms', e1, hX', rfl⟩⟩
 ·repeat' (first | (refine ZE ?_; refine Zn (Zd rfl) rfl rfl ?_) | (refine Zj ?_; first | (refine Zf ?_; refine qQ ?_) | refine Zm ?_) | refine Za ?_ | (refine Zi ?_; refine Zt ?_) | (refine Zh ?_; refine Zs ?_) | intro _)
  exact qE (L' := []) ⟨hl1, .inr ⟨h0, rfl, [], rfl⟩⟩
theorem atO_spec (ρ : Hp) (next : Int) (vv : Value) (sp : List Value) (os : List OT) (hl : os.length ≤ 1000000) (hown : OwnS vv os.length (txF os) sp 7) (num : Int) :
  Spec Tryz.prog 54 [.agg ⟨[.int .i64 next, vv]⟩, .int .i64 num] ρ [ZZ vv (txF os) sp 45] (fun z ρ' L' => ρ' = ρ ∧ ∃ i there, z = .tuple ⟨[.int .i64 (i : Nat), .bool there]⟩ ∧ AtT (os.map OT.x) num i there ∧ L' = [ZZ vv (txF os) sp 45]) := by
 refine (Spec.thaw (C := [ZZ vv (txF os) sp 45]) (L := []) (Post := fun z L' => ∃ i there, z = .tuple ⟨[.int .i64 (i : Nat), .bool there]⟩ ∧ AtT (os.map OT.x) num i there ∧ L' = []) (fun ρ1 hle hf => ?_)).mono ?_
 ·have ho : OwnS vv os.length (((os.map OT.x).map txV).flatten) sp 7 := hown
  obtain ⟨a, c, rfl, hc, hA⟩ := ho.aIn (by simp) (fun x _ => txV_len x) (fun p hp => hf p (by rw [List.flatten_cons, List.flatten_nil, List.append_nil]; exact hp))
  exact atT_spec ρ1 next ⟨a, os.length, c⟩ (os.map OT.x) ⟨hA, hl, hc⟩ num
 ·rintro z ρ' L' _ ⟨rfl, L2, ⟨i, there, rfl, h1, rfl⟩, rfl⟩
  exact ⟨rfl, i, there, rfl, h1, rfl⟩
theorem end1_spec (ρ : Hp) (nb : Nat) (num : Int) (x : Tx) : Spec Tryz.prog 152 [.agg ⟨txV x⟩, .pointer (some ⟨nb, 0, none⟩)] ρ (numC nb num)
  (fun z ρ' L' => z = .bool (decide (x.num = num)) ∧ ρ' = ρ ∧ L' = (numC nb num)) := by
 refine Zg Tryz.func152 rfl rfl rfl fun u R => ?_
 simp only [Zx, List.cons_append, List.nil_append]
 by_cases h : x.num = num
 ·rw [decide_eq_true h]
  repeat' (first | (refine ZE ?_; refine Zn (Zd rfl) rfl rfl ?_) | (refine Zj ?_; first | (refine Zf ?_; refine qQ ?_) | refine Zm ?_) | refine Za ?_ | (refine Zi ?_; refine Zt ?_) | (refine Zh ?_; refine Zs ?_) | intro _)
  exact qE (L' := (numC nb num)) ⟨rfl, rfl, rfl⟩
 ·rw [decide_eq_false h]
  repeat' (first | (refine ZE ?_; refine Zn (Zd rfl) rfl rfl ?_) | (refine Zj ?_; first | (refine Zf ?_; refine qQ ?_) | refine Zm ?_) | refine Za ?_ | (refine Zi ?_; refine Zt ?_) | (refine Zh ?_; refine Zs ?_) | intro _)
  exact qE (L' := (numC nb num)) ⟨rfl, rfl, rfl⟩
theorem mend_spec (ρ : Hp) (cb : Nat) (next : Int) (rv : RV) (r : Rc) (b o cap : Nat) (P : List Value) (x : Tx) (S sp : List Value) (os : List OT) (hl : os.length ≤ 1000000) (hown : OwnS (.slice (some ⟨b, 0, none⟩) os.length cap) os.length (txF os) sp 7) (hP : P.length = o) (hPS : P ++ txQ x S = txF os ++ sp) :
  Spec Tryz.prog 100 [.pointer (some ⟨cb, 0, none⟩)] ρ [YJ cb next (.slice (some ⟨b, 0, none⟩) os.length cap) rv r (some ⟨b, o, none⟩), ZZ (.slice (some ⟨b, 0, none⟩) os.length cap) (txF os) sp 45]
   (fun z ρ' L' => ρ' = ρ ∧ z = .int .i64 0 ∧ ∃ vv' sp', OwnS vv' (os.filter (fun t => !decide (t.x.num = x.num))).length (txF (os.filter (fun t => !decide (t.x.num = x.num)))) sp' 7 ∧ L' = [YJ cb next vv' rv r (some ⟨b, o, none⟩), ZZ vv' (txF (os.filter (fun t => !decide (t.x.num = x.num)))) sp' 45]) := by
 have hC : ZZ (.slice (some ⟨b, 0, none⟩) os.length cap) (txF os) sp 45 = [(b, .cells ⟨txF os ++ sp⟩ 45 (0, 0))] := rfl
 have hg0 : (txF os ++ sp)[o]? = some (.int .i64 x.num) := by
  rw [← hPS]
  exact q_get (d := 0) hP rfl
 have hd := fun nb => delX_spec ρ _ sp (os.map OT.x) (by simp; omega) (by rw [List.length_map]; exact hown) 152 [.pointer (some ⟨nb, 0, none⟩)] (numC nb x.num) (fun t => decide (t.num = x.num)) (fun ρ1 _ t _ => end1_spec ρ1 nb x.num t)
 have hfl : (os.map OT.x).filter (fun t => !decide (t.num = x.num)) = (os.filter (fun t => !decide (t.x.num = x.num))).map OT.x := by
  rw [List.filter_map]; rfl
 rw [hfl, List.length_map] at hd
 have hd : ∀ nb, Spec Tryz.prog 151 [.slice (some ⟨b, 0, none⟩) os.length cap, .func (.func 152) ⟨[]⟩ ⟨[.pointer (some ⟨nb, 0, none⟩)]⟩] ρ ([(b, .cells ⟨txF os ++ sp⟩ 45 (0, 0))] :: numC nb x.num) (fun z ρ' L' => ρ' = ρ ∧ ∃ sp', OwnS z (os.filter (fun t => !decide (t.x.num = x.num))).length (txF (os.filter (fun t => !decide (t.x.num = x.num)))) sp' 7 ∧ L' = ZZ z (txF (os.filter (fun t => !decide (t.x.num = x.num)))) sp' 45 :: numC nb x.num) := hd
 clear hfl
 rw [hC]
 refine Zg Tryz.func100 rfl rfl rfl fun u R => ?_
 simp only [Zx, List.cons_append, List.nil_append]
 generalize os.filter (fun t => !decide (t.x.num = x.num)) = os' at *
 repeat' (first | (refine ZE ?_; refine Zn (Zd rfl) rfl rfl ?_) | (refine Zj ?_; first | (refine Zf ?_; refine qQ ?_) | refine Zm ?_) | refine Za ?_ | (refine Zi ?_; refine Zt ?_) | (refine Zh ?_; refine Zs ?_) | intro _)
 rename_i nb
 refine Ze (.func 151) ?_
 refine qC rfl rfl (hd nb) ?_
 rintro z ρ3 L3 hle3 ⟨rfl, sp', hown', rfl⟩
 simp only [List.cons_append, List.nil_append]
 obtain ⟨a1, c1, rfl, q1⟩ := hown'.slice
 repeat' (first | (refine ZE ?_; refine Zn (Zd rfl) rfl rfl ?_) | (refine Zj ?_; first | (refine Zf ?_; refine qQ ?_) | refine Zm ?_) | refine Za ?_ | (refine Zi ?_; refine Zt ?_) | (refine Zh ?_; refine Zs ?_) | intro _)
 exact qE (L' := [YJ cb next _ rv r (some ⟨b, o, none⟩), ZZ _ (txF os') sp' 45]) ⟨rfl, rfl, _, sp', hown', rfl⟩
def newX (r : Rc) : Tx := ⟨r.txn, 1, r.lsn, r.lsn, r.lsn, [], [], ⟨none, 0, 0⟩, ⟨none, 0, 0⟩⟩
theorem mbegin_spec (ρ : Hp) (cb : Nat) (next : Int) (vv : Value) (rv : RV) (r : Rc) (t : Option Addr) (sp : List Value) (os : List OT) (hn : 1 ≤ next ∧ next ≤ 1073741824) (hl : os.length ≤ 1000000) (hown : OwnS vv os.length (txF os) sp 7) :
  Spec Tryz.prog 93 [.pointer (some ⟨cb, 0, none⟩)] ρ [YJ cb next vv rv r t, ZZ vv (txF os) sp 45]
   (fun z ρ' L' => ρ' = ρ ∧ ((∃ e, e ≠ 0 ∧ z = .int .i64 e ∧ (if r.txn ≠ next ∨ next = 1073741824 then (2 : Int) else if 8 ≤ os.length then 6 else 0) = e ∧ ∃ G : SH, L' = G) ∨
    ((if r.txn ≠ next ∨ next = 1073741824 then (2 : Int) else if 8 ≤ os.length then 6 else 0) = 0 ∧ z = .int .i64 0 ∧ ∃ vv' sp', OwnS vv' (os ++ [(⟨newX r, [], []⟩ : OT)]).length (txF (os ++ [(⟨newX r, [], []⟩ : OT)])) sp' 7 ∧ L' = [YJ cb (next + 1) vv' rv r t, ZZ vv' (txF (os ++ [(⟨newX r, [], []⟩ : OT)])) sp' 45]))) := by
 obtain ⟨va, vc, rfl, hvc⟩ := hown.slice
 refine Zg Tryz.func93 rfl rfl rfl fun u R => ?_
 simp only [Zx, List.cons_append, List.nil_append]
 by_cases h1 : r.txn ≠ next ∨ next = 1073741824
 ·rw [if_pos h1]
  by_cases h2 : r.txn = next
  ·have h3 : next = 1073741824 := h1.elim (fun h => absurd h2 h) id
   repeat' (first | (refine ZE ?_; refine Zn (Zd rfl) rfl rfl ?_) | (refine Zj ?_; first | (refine Zf ?_; refine qQ ?_) | refine Zm ?_) | refine Za ?_ | (refine Zi ?_; refine Zt ?_) | (refine Zh ?_; refine Zs ?_) | intro _)
   refine ZC (Zq _ _ ([YJ cb next (.slice va os.length vc) rv r t])) (Zy (hT := tk) (Hp.le_refl _)) ?_
   all_goals (refine ZU 0 ?_; refine ZS ?_; refine rNc 1 ?_; refine ZY 2 ?_; refine ZY 3 ?_; refine Yf 4 ?_; refine ZU 5 ?_; refine rNc 6 ?_; refine ZY 7 ?_; refine ZY 8 ?_; refine Yf 9 ?_; refine rCm 10 ?_; refine ZU 11 ?_; (first | refine Zc 12 ?_ | refine Zb 12 ?_ | refine ZI 12 ?_); (first | refine Zc 13 ?_ | refine Zb 13 ?_ | refine wNc 13 ?_); (first | refine Zc 14 ?_ | refine Zb 14 ?_ | refine wFa 14 ?_); (first | refine Zc 15 ?_ | refine Zb 15 ?_ | refine wFa 15 ?_); (first | refine Zc 16 ?_ | refine Zb 16 ?_ | refine wLd 16 ?_); (first | refine Zc 17 ?_ | refine Zb 17 ?_ | refine wCm 17 ?_); refine rPk 18 ?_; refine ZH ?_)
   all_goals (repeat' (first | (refine ZE ?_; refine Zn (Zd rfl) rfl rfl ?_) | (refine Zj ?_; first | (refine Zf ?_; refine qQ ?_) | refine Zm ?_) | refine Za ?_ | (refine Zi ?_; refine Zt ?_) | (refine Zh ?_; refine Zs ?_) | intro _))
   all_goals exact qE (L' := []) ⟨rfl, .inl ⟨2, by decide, rfl, rfl, [], rfl⟩⟩
  ·repeat' (first | (refine ZE ?_; refine Zn (Zd rfl) rfl rfl ?_) | (refine Zj ?_; first | (refine Zf ?_; refine qQ ?_) | refine Zm ?_) | refine Za ?_ | (refine Zi ?_; refine Zt ?_) | (refine Zh ?_; refine Zs ?_) | intro _)
   refine ZC (Zq _ _ ([YJ cb next (.slice va os.length vc) rv r t])) (Zy (hT := tk) (Hp.le_refl _)) ?_
   all_goals (refine ZU 0 ?_; refine ZS ?_; refine rNc 1 ?_; refine ZY 2 ?_; refine ZY 3 ?_; refine Yf 4 ?_; refine ZU 5 ?_; refine rNc 6 ?_; refine ZY 7 ?_; refine ZY 8 ?_; refine Yf 9 ?_; refine rCm 10 ?_; refine ZU 11 ?_; (first | refine Zc 12 ?_ | refine Zb 12 ?_ | refine ZI 12 ?_); (first | refine Zc 13 ?_ | refine Zb 13 ?_ | refine wNc 13 ?_); (first | refine Zc 14 ?_ | refine Zb 14 ?_ | refine wFa 14 ?_); (first | refine Zc 15 ?_ | refine Zb 15 ?_ | refine wFa 15 ?_); (first | refine Zc 16 ?_ | refine Zb 16 ?_ | refine wLd 16 ?_); (first | refine Zc 17 ?_ | refine Zb 17 ?_ | refine wCm 17 ?_); refine rPk 18 ?_; refine ZH ?_)
   all_goals (repeat' (first | (refine ZE ?_; refine Zn (Zd rfl) rfl rfl ?_) | (refine Zj ?_; first | (refine Zf ?_; refine qQ ?_) | refine Zm ?_) | refine Za ?_ | (refine Zi ?_; refine Zt ?_) | (refine Zh ?_; refine Zs ?_) | intro _))
   all_goals exact qE (L' := []) ⟨rfl, .inl ⟨2, by decide, rfl, rfl, [], rfl⟩⟩
 ·rw [if_neg h1]
  have h2 : r.txn = next := Decidable.not_not.1 (fun h => h1 (.inl h))
  have h3 : next ≠ 1073741824 := fun h => h1 (.inr h)
  by_cases h8 : 8 ≤ os.length
  ·rw [if_pos h8]
   repeat' (first | (refine ZE ?_; refine Zn (Zd rfl) rfl rfl ?_) | (refine Zj ?_; first | (refine Zf ?_; refine qQ ?_) | refine Zm ?_) | refine Za ?_ | (refine Zi ?_; refine Zt ?_) | (refine Zh ?_; refine Zs ?_) | intro _)
   refine ZC (Zq _ _ ([YJ cb next (.slice va os.length vc) rv r t])) (Zy (hT := tk) (Hp.le_refl _)) ?_
   all_goals (refine ZU 0 ?_; refine ZS ?_; refine rNc 1 ?_; refine ZY 2 ?_; refine ZY 3 ?_; refine Yf 4 ?_; refine ZU 5 ?_; refine rNc 6 ?_; refine ZY 7 ?_; refine ZY 8 ?_; refine Yf 9 ?_; refine rCm 10 ?_; refine ZU 11 ?_; (first | refine Zc 12 ?_ | refine Zb 12 ?_ | refine ZI 12 ?_); (first | refine Zc 13 ?_ | refine Zb 13 ?_ | refine wNc 13 ?_); (first | refine Zc 14 ?_ | refine Zb 14 ?_ | refine wFa 14 ?_); (first | refine Zc 15 ?_ | refine Zb 15 ?_ | refine wFa 15 ?_); (first | refine Zc 16 ?_ | refine Zb 16 ?_ | refine wLd 16 ?_); (first | refine Zc 17 ?_ | refine Zb 17 ?_ | refine wCm 17 ?_); refine rPk 18 ?_; refine ZH ?_)
   all_goals (repeat' (first | (refine ZE ?_; refine Zn (Zd rfl) rfl rfl ?_) | (refine Zj ?_; first | (refine Zf ?_; refine qQ ?_) | refine Zm ?_) | refine Za ?_ | (refine Zi ?_; refine Zt ?_) | (refine Zh ?_; refine Zs ?_) | intro _))
   all_goals exact qE (L' := []) ⟨rfl, .inl ⟨6, by decide, rfl, rfl, [], rfl⟩⟩
  ·rw [if_neg h8]
   have hm : txF os ++ txV (newX r) = txF (os ++ [(⟨newX r, [], []⟩ : OT)]) := by rw [XR, txF_one]
   repeat' (first | (refine ZE ?_; refine Zn (Zd rfl) rfl rfl ?_) | (refine Zj ?_; first | (refine Zf ?_; refine qQ ?_) | refine Zm ?_) | refine Za ?_ | (refine Zi ?_; refine Zt ?_) | (refine Zh ?_; refine Zs ?_) | intro _)
   refine ZC (Zq _ _ ([YJ cb next (.slice va os.length vc) rv r t])) (Zy (hT := tk) (Hp.le_refl _)) ?_
   all_goals (refine ZU 0 ?_; refine ZS ?_; refine rNc 1 ?_; refine ZY 2 ?_; refine ZY 3 ?_; refine Yf 4 ?_; refine ZU 5 ?_; refine rNc 6 ?_; refine ZY 7 ?_; refine ZY 8 ?_; refine Yf 9 ?_; refine rCm 10 ?_; refine ZU 11 ?_; (first | refine Zc 12 ?_ | refine Zb 12 ?_ | refine ZI 12 ?_); (first | refine Zc 13 ?_ | refine Zb 13 ?_ | refine wNc 13 ?_); (first | refine Zc 14 ?_ | refine Zb 14 ?_ | refine wFa 14 ?_); (first | refine Zc 15 ?_ | refine Zb 15 ?_ | refine wFa 15 ?_); (first | refine Zc 16 ?_ | refine Zb 16 ?_ | refine wLd 16 ?_); (first | refine Zc 17 ?_ | refine Zb 17 ?_ | refine wCm 17 ?_); refine rPk 18 ?_; refine ZH ?_)
   all_goals (repeat' (first | (refine ZE ?_; refine Zn (Zd rfl) rfl rfl ?_) | (refine Zj ?_; first | (refine Zf ?_; refine qQ ?_) | refine Zm ?_) | refine Za ?_ | (refine Zi ?_; refine Zt ?_) | (refine Zh ?_; refine Zs ?_) | intro _))
   all_goals refine tc_phase 29 (Zq _ _ ([YJ cb (next + 1) (.slice va os.length vc) rv r t])) (by decide +kernel) (Zy (hT := tk) (Hp.le_refl _)) ?_
   all_goals simp only [List.take_succ_cons, List.take_zero]
   all_goals (refine ZU 0 ?_; refine ZU 1 ?_; refine rNc 2 ?_; refine ZY 3 ?_; refine ZY 4 ?_; refine Yf 5 ?_; refine ZU 6 ?_; refine rNc 7 ?_; refine ZY 8 ?_; refine ZY 9 ?_; refine Yf 10 ?_; refine ZU 11 ?_; refine rNc 12 ?_; refine ZY 13 ?_; refine ZY 14 ?_; refine Yf 15 ?_; refine ZU 16 ?_; refine rNc 17 ?_; refine ZY 18 ?_; refine ZY 19 ?_; refine Yf 20 ?_; refine ZU 21 ?_; refine rNc 22 ?_; refine ZY 23 ?_; refine ZY 24 ?_; refine Yf 25 ?_)
   all_goals refine rBu 26 ?_ (y := fun _ _ => Zd rfl)
   all_goals (refine Zp (i := 27) ?_; ((try refine Zk ?_); (first | (refine Yu (css := [txV (newX r)]) (sz := 7) rfl rfl rfl rfl (by simp) (by simp) rfl (fun bs => ?_); simp only [List.flatten_cons, List.flatten_nil, List.append_nil]) | (refine Zm ?_; try intro _)) <;> ((try simp only [kM, kN, kO]); refine Za ?_; refine Zl ?_)))
   all_goals (refine Zp (i := 28) ?_; ((try refine Zk ?_); (first | (refine Yu (css := [txV (newX r)]) (sz := 7) rfl rfl rfl rfl (by simp) (by simp) rfl (fun bs => ?_); simp only [List.flatten_cons, List.flatten_nil, List.append_nil]) | (refine Xp (ys := txV (newX r)) (m := 1) rfl rfl hown (hR := by infer_instance) SrcV.lit rfl rfl (by decide) rfl (by omega) (by omega) rfl (fun v' sp' hown' => ?_); obtain ⟨a1, c1, rfl, q1⟩ := hown'.slice) | (refine Zm ?_; try intro _)) <;> ((try simp only [kM, kN, kO]); refine Za ?_; refine Zl ?_)))
   all_goals refine ZH ?_
   all_goals refine te_phase (fuel := 4) (m := [true, true, true, true, true, true, true, true, true, true, true, true, true, true, true, true, true, true, true, true, true, true, true, true, true, true, true, true, true, false, false, false, false]) (Zq _ _ ([])) rfl rfl (Zy (hT := tk) (Hp.le_refl _)) ?_
   all_goals (refine rNc 29 ?_; refine ZY 30 ?_; refine ZY 31 ?_)
   all_goals (refine Zp (i := 32) ?_; ((try refine Zk ?_); (first | (refine Zm ?_; try intro _)) <;> ((try simp only [kM, kN, kO]); refine Za ?_; refine Zl ?_)))
   all_goals refine ZH ?_
   all_goals (repeat' (first | (refine ZE ?_; refine Zn (Zd rfl) rfl rfl ?_) | (refine Zj ?_; first | (refine Zf ?_; refine qQ ?_) | refine Zm ?_) | refine Za ?_ | (refine Zi ?_; refine Zt ?_) | (refine Zh ?_; refine Zs ?_) | intro _))
   all_goals rw [hm] at hown' ⊢
   all_goals exact qE (L' := [YJ cb (next + 1) _ rv r t, ZZ _ (txF (os ++ [(⟨newX r, [], []⟩ : OT)])) sp' 45]) ⟨rfl, .inr ⟨by trivial, rfl, _, sp', by rw [List.length_append]; exact hown', rfl⟩⟩
def methF (k : Int) : Nat := if k = 2 then 94 else if k = 3 then 95 else if k = 4 then 96 else if k = 5 then 97 else if k = 6 then 98 else 99
theorem meth_spec (r : Rc) (hok : Yp r = true) (hk : 2 ≤ r.kind ∧ r.kind ≤ 7) : Fun Tryz.prog (methF r.kind) ∧ ∀ (ρ : Hp) (cb : Nat) (next : Int) (vv : Value) (rv : RV) (b o : Nat) (P : List Value) (x : Tx) (S ss ms : List Value), P.length = o → OwnX x ss ms → x.stack.length ≤ 1099511627776 → x.marks.length ≤ 100 → RcIn ρ rv r → x.last = r.lsn →
  Spec Tryz.prog (methF r.kind) [.pointer (some ⟨cb, 0, none⟩)] ρ (focC cb next vv rv r b o P x S ss ms) (MethR r cb next vv rv b o P x S (mayT x.p r) (Xj x.p r) ρ) := by
 have hlast : ∀ x : Tx, x.last = r.lsn → ({ x.p with last := r.lsn } : TxP) = x.p := fun x h => by rw [← h]
 unfold methF mayT Xj
 by_cases k2 : r.kind = 2
 ·simp only [k2, if_true, show ¬ ((2 : Int) = 3 ∨ (2 : Int) = 4) by decide, show ¬ ((2 : Int) = 5) by decide, if_false]
  exact ⟨inferInstance, fun ρ cb next vv rv b o P x S ss ms hP hX hs hm hr hl => by rw [hlast x hl]; exact mchange_spec ρ cb next vv rv r b o P x S ss ms hP hX hs hr hok⟩
 by_cases k3 : r.kind = 3
 ·simp only [k3, if_true, show ¬ ((3 : Int) = 2) by decide, if_false, true_or]
  exact ⟨inferInstance, fun ρ cb next vv rv b o P x S ss ms hP hX hs hm hr hl => by rw [hlast x hl]; exact mnested_spec ρ cb next vv rv r b o P x S ss ms hP hX hs hm⟩
 by_cases k4 : r.kind = 4
 ·simp only [k4, if_true, show ¬ ((4 : Int) = 2) by decide, show ¬ ((4 : Int) = 3) by decide, show ¬ ((4 : Int) = 3 ∨ (4 : Int) = 5) by decide, if_false, or_true]
  exact ⟨inferInstance, fun ρ cb next vv rv b o P x S ss ms hP hX hs hm hr hl => by rw [hlast x hl]; exact mdone_spec ρ cb next vv rv r b o P x S ss ms hP hX hs hm hr hok⟩
 by_cases k5 : r.kind = 5
 ·simp only [k5, if_true, show ¬ ((5 : Int) = 2) by decide, show ¬ ((5 : Int) = 3) by decide, show ¬ ((5 : Int) = 4) by decide, show ¬ ((5 : Int) = 3 ∨ (5 : Int) = 4) by decide, if_false, or_true]
  exact ⟨inferInstance, fun ρ cb next vv rv b o P x S ss ms hP hX hs hm hr hl => by rw [hlast x hl]; exact mundone_spec ρ cb next vv rv r b o P x S ss ms hP hX hs hm⟩
 by_cases k6 : r.kind = 6
 ·simp only [k6, if_true, show ¬ ((6 : Int) = 2) by decide, show ¬ ((6 : Int) = 3) by decide, show ¬ ((6 : Int) = 4) by decide, show ¬ ((6 : Int) = 5) by decide, show ¬ ((6 : Int) = 3 ∨ (6 : Int) = 4) by decide, show ¬ ((6 : Int) = 3 ∨ (6 : Int) = 5) by decide, if_false]
  exact ⟨inferInstance, fun ρ cb next vv rv b o P x S ss ms hP hX hs hm hr hl => by rw [← hl]; exact mcommit_spec ρ cb next vv rv r b o P x S ss ms hP hX⟩
 ·have k7 : r.kind = 7 := by omega
  simp only [k7, show ¬ ((7 : Int) = 2) by decide, show ¬ ((7 : Int) = 3) by decide, show ¬ ((7 : Int) = 4) by decide, show ¬ ((7 : Int) = 5) by decide, show ¬ ((7 : Int) = 6) by decide, show ¬ ((7 : Int) = 3 ∨ (7 : Int) = 4) by decide, show ¬ ((7 : Int) = 3 ∨ (7 : Int) = 5) by decide, if_false]
  exact ⟨inferInstance, fun ρ cb next vv rv b o P x S ss ms hP hX hs hm hr hl => by rw [← hl]; exact mabort_spec ρ cb next vv rv r b o P x S ss ms hP hX⟩
theorem methF_chain {f : Nat → Option Value} {k : Int} (hk : 2 ≤ k ∧ k ≤ 7) : (if k = 8 then f 100 else if k = 7 then f 99 else if k = 6 then f 98 else if k = 5 then f 97 else if k = 4 then f 96 else if k = 3 then f 95 else if k = 2 then f 94 else none) = f (methF k) := by
 unfold methF
 have : k = 2 ∨ k = 3 ∨ k = 4 ∨ k = 5 ∨ k = 6 ∨ k = 7 := by omega
 rcases this with e | e | e | e | e | e <;> subst e <;> rfl
theorem rwith_bad (ρ : Hp) (v : SV) (r : Ros) (h : RosIn ρ v r) (hok : XY r = false) (F : Nat) (cs : List Value) (X : SH) :
  Spec Tryz.prog 50 [.agg ⟨Yx v r⟩, .func (.func F) ⟨[]⟩ ⟨cs⟩] ρ X (fun z ρ' L' => ρ' = ρ ∧ z = .tuple ⟨[.agg ⟨[.int .i64 0, .slice none 0 0]⟩, .int .i64 280]⟩ ∧ L' = X) := by
 have hck := XN ρ v r h
 rw [hok] at hck
 simp only [Bool.false_eq_true, if_false] at hck
 refine Zg Tryz.func50 rfl rfl rfl fun u R => ?_
 simp only [Zx, List.cons_append, List.nil_append]
 repeat' (first | (refine Ze (.func 55) ?_; refine qC rfl rfl (hck) ?_; rintro v ρ' L' hle ⟨rfl, rfl, rfl⟩ <;> (try simp only [kM, kN, kO])) | (refine ZE ?_; refine Zn (Zd rfl) rfl rfl ?_) | (refine Zj ?_; first | (refine Zf ?_; refine qQ ?_) | refine Zm ?_) | refine Za ?_ | (refine Zi ?_; refine Zt ?_) | (refine Zh ?_; refine Zs ?_) | intro _)
 exact qE (L' := X) ⟨rfl, rfl, rfl⟩
def DoR (e : Int) (next' : Int) (txns' : List TxP) (X' : SH) (cb : Nat) (ρ1 : Hp) (z : Value) (ρ' : Hp) (L' : SH) : Prop :=
 ρ1.le ρ' ∧ z = .int .i64 e ∧ ((e ≠ 0 ∧ ∃ G : SH, L' = G ++ X') ∨ (e = 0 ∧ ∃ vv' sp' os' rv x tp, OwnR vv' sp' os' txns' ∧ L' = YJ cb next' vv' rv x tp :: (Xs vv' sp' os' ++ X')))
theorem rwith_spec (ρ : Hp) (v : SV) (r : Ros) (h : RosIn ρ v r) (hok : XY r = true) (F : Nat) [hF : Fun Tryz.prog F] (cs : List Value) (X X' : SH) (e : Int) (next' : Int) (txns' : List TxP)
  (hdo : ∀ ρ1, ρ.le ρ1 → ∀ cb vv sp os, OwnR vv sp os r.p.txns → Spec Tryz.prog F (.pointer (some ⟨cb, 0, none⟩) :: cs) ρ1 (YJ cb r.next vv noRV zeroRc none :: (Xs vv sp os ++ X)) (DoR e next' txns' X' cb ρ1)) :
  Spec Tryz.prog 50 [.agg ⟨Yx v r⟩, .func (.func F) ⟨[]⟩ ⟨cs⟩] ρ X
   (fun z ρ' L' => ρ.le ρ' ∧ ((e ≠ 0 ∧ z = .tuple ⟨[.agg ⟨[.int .i64 0, .slice none 0 0]⟩, .int .i64 e]⟩ ∧ L' = X') ∨ (e = 0 ∧ ∃ vv' sp' os', OwnR vv' sp' os' txns' ∧ z = .tuple ⟨[.agg ⟨[.int .i64 next', vv']⟩, .int .i64 0]⟩ ∧ L' = Xs vv' sp' os' ++ X'))) := by
 have hck := XN ρ v r h
 rw [hok] at hck
 simp only [if_true] at hck
 have hl := h.at'.at'.len
 have hbig := h.at'.big
 have hcap := h.at'.cap
 have hG : RosG r.p := Yw.1 (by rw [XA]; exact hok)
 have h8 := hG.len
 have hpl : r.p.txns.length = r.txns.length := by simp [Ros.p]
 have hcl := cloneX_spec ρ v.a v.n v.c r.txns h.at'.at' (by omega) hcap
 refine Zg Tryz.func50 rfl rfl rfl fun u R => ?_
 simp only [Zx, List.cons_append, List.nil_append]
 repeat' (first | (refine Ze (.func 55) ?_; refine qC rfl rfl (hck) ?_; rintro v ρ' L' hle ⟨rfl, rfl, rfl⟩ <;> (try simp only [kM, kN, kO])) | (refine ZE ?_; refine Zn (Zd rfl) rfl rfl ?_) | (refine Zj ?_; first | (refine Zf ?_; refine qQ ?_) | refine Zm ?_) | refine Za ?_ | (refine Zi ?_; refine Zt ?_) | (refine Zh ?_; refine Zs ?_) | intro _)
 refine ZC (Zq _ _ _) ZF ?_
 all_goals (refine ZY 0 ?_; refine Yf 1 ?_; refine ZY 2 ?_; refine Yf 3 ?_)
 all_goals (refine Zp (i := 4) ?_; ((try refine Zk ?_); (first | (refine Ze (.func 83) ?_; refine qC rfl rfl (hcl) ?_; rintro v ρ' L' hle ⟨rfl, sp, hown, rfl⟩ <;> (try simp only [kM, kN, kO]); obtain ⟨va, vc, rfl, hvc⟩ := hown.slice) | (refine Zm ?_; try intro _)) <;> ((try simp only [kM, kN, kO]); refine Za ?_; refine Zl ?_)))
 all_goals refine rBu 5 ?_ (y := fun _ _ => Zd rfl)
 all_goals refine rBu 6 ?_ (y := fun _ _ => Zd rfl)
 all_goals (refine Zp (i := 7) ?_; ((try refine Zk ?_); (first | (refine Zm ?_; try intro _)) <;> ((try simp only [kM, kN, kO]); refine Za ?_; refine Zl ?_)))
 all_goals (refine ZS ?_; refine rAs 8 ?_; refine ZH ?_)
 repeat' (first | (refine ZE ?_; refine Zn (Zd rfl) rfl rfl ?_) | (refine Zj ?_; first | (refine Zf ?_; refine qQ ?_) | refine Zm ?_) | refine Za ?_ | (refine Zi ?_; refine Zt ?_) | (refine Zh ?_; refine Zs ?_) | intro _)
 rename_i cb
 rw [hl]
 rw [hl] at hown
 refine ZG [(1, _), (4, _), (5, _), (7, _), (30, _)] (fun (ζ : (Nat) × (List OT)) => [(31, .int .i64 ζ.1)]) (fun (ζ : (Nat) × (List OT)) => ρ') (fun (ζ : (Nat) × (List OT)) => [YJ cb r.next (.slice va v.n vc) noRV zeroRc none, ZZ (.slice va v.n vc) (txF ζ.2 ++ ((r.txns.drop ζ.1).map txV).flatten) sp 45, stC ζ.2]) (fun (ζ : (Nat) × (List OT)) => ζ.1 ≤ v.n ∧ ζ.2.length = ζ.1 ∧ (∀ o ∈ ζ.2, o.Own) ∧ ζ.2.map (fun o => o.x.p) = (r.txns.take ζ.1).map Tx.p ∧ OwnS (.slice va v.n vc) v.n (txF ζ.2 ++ ((r.txns.drop ζ.1).map txV).flatten) sp 7) (fun (ζ : (Nat) × (List OT)) => v.n - ζ.1) ((0, [])) (⟨Nat.zero_le _, rfl, by simp, rfl, hown⟩) Zo Zo rfl tk ?_
 rintro ⟨k, os⟩ hI
 try simp only [List.cons_append, List.nil_append, List.append_assoc, List.append_eq] at hI ⊢
 try dsimp only at hI ⊢
 obtain ⟨hk, hol, hoo, hop, how⟩ := hI
 by_cases hlt : k < v.n
 ·rcases how.out with ⟨e0, e1, _, _⟩ | ⟨b, cap, e0, e1, e2, e3⟩
  ·omega
  ·cases e0
   have hx := List.drop_eq_getElem_cons (show k < r.txns.length by omega)
   have hx2 : (r.txns.take (k + 1)).map Tx.p = (r.txns.take k).map Tx.p ++ [(r.txns[k]'(by omega)).p] := by rw [List.take_succ_eq_append_getElem (by omega), List.map_append]; rfl
   have hin := h.tx _ (List.getElem_mem (show k < r.txns.length by omega))
   have hxg : TxG (r.txns[k]'(by omega)).p := (hG.tx _ (List.mem_map.2 ⟨_, List.getElem_mem (show k < r.txns.length by omega), rfl⟩)).2.2
   generalize r.txns[k]'(by omega) = x at *
   have hsl := hxg.sl
   have hml := hxg.ml
   have hs1 := hin.s.len
   have hm1 := hin.m.len
   simp only [Tx.p] at hsl hml
   have hPl : (txF os).length = 0 + k * 7 := by rw [txF_len, hol]; omega
   have hCe : ZZ (.slice (some ⟨b, 0, none⟩) v.n vc) (txF os ++ ((r.txns.drop k).map txV).flatten) sp 45 = [(b, .cells ⟨txF os ++ (txV x ++ (((r.txns.drop (k + 1)).map txV).flatten ++ sp))⟩ 45 (0, 0))] := by
    rw [hx]
    show [(b, Obj.cells ⟨(txF os ++ ((x :: r.txns.drop (k + 1)).map txV).flatten) ++ sp⟩ 45 (0, 0))] = _
    simp only [List.map_cons, List.flatten_cons, List.append_assoc]
   simp only [List.cons_append, List.nil_append] at hCe
   rw [hCe]
   have hg5 : (txF os ++ (txV x ++ (((r.txns.drop (k + 1)).map txV).flatten ++ sp)))[0 + k * 7 + 5]? = some (.slice x.sv.a x.sv.n x.sv.c) := q_get hPl rfl
   have hg6 : (txF os ++ (txV x ++ (((r.txns.drop (k + 1)).map txV).flatten ++ sp)))[0 + k * 7 + 6]? = some (.slice x.mv.a x.mv.n x.mv.c) := q_get hPl rfl
   have hc1 := cloneL_spec ρ' x.sv.a x.sv.n x.sv.c x.stack hin.s (by omega) hin.sc
   have hc2 := cloneU_spec ρ' x.mv.a x.mv.n x.mv.c x.marks hin.m (by omega) hin.mc
   repeat' (first | (refine ZE ?_; refine Zn (Zd rfl) rfl rfl ?_) | (refine Zj ?_; first | (refine Zf ?_; refine qQ ?_) | refine Zm ?_) | refine Za ?_ | (refine Zi ?_; refine Zt ?_) | (refine Zh ?_; refine Zs ?_) | intro _)
   refine ZC (Zq _ _ ([])) (Zy (hT := tk) (Hp.le_refl _)) ?_
   all_goals (refine ZU 0 ?_; refine ZU 2 ?_; refine rNc 3 ?_; refine ZY 4 ?_; refine ZU 7 ?_; refine rNc 8 ?_; refine ZY 9 ?_)
   all_goals (refine rStep3 (i := 1) (j := 5) (k := 10) ?_ ?_ ?_ <;> ((try refine Zk ?_); (first | (refine Ze (.func 84) ?_; refine qC rfl rfl (hc1) ?_; rintro v ρ' L' hle ⟨rfl, s1, o1, rfl⟩ <;> (try simp only [kM, kN, kO]); obtain ⟨a1, c1, rfl, q1⟩ := o1.slice) | (refine Ze (.func 85) ?_; refine qC rfl rfl (hc2) ?_; rintro v ρ' L' hle ⟨rfl, s2, o2, rfl⟩ <;> (try simp only [kM, kN, kO]); obtain ⟨a2, c2, rfl, q2⟩ := o2.slice) | (refine ZR (o := 0 + k * 7) (P := txF os) rfl rfl hPl rfl ?_) | (refine Zf ?_; refine qQ ?_) | (refine Zm ?_; try intro _)) <;> ((try simp only [kM, kN, kO]); refine Za ?_; refine Zl ?_)))
   all_goals (first | (refine Yo (i := 5) (j := 10) ?_ ?_ <;> ((try refine Zk ?_); (first | (refine Ze (.func 84) ?_; refine qC rfl rfl (hc1) ?_; rintro v ρ' L' hle ⟨rfl, s1, o1, rfl⟩ <;> (try simp only [kM, kN, kO]); obtain ⟨a1, c1, rfl, q1⟩ := o1.slice) | (refine Ze (.func 85) ?_; refine qC rfl rfl (hc2) ?_; rintro v ρ' L' hle ⟨rfl, s2, o2, rfl⟩ <;> (try simp only [kM, kN, kO]); obtain ⟨a2, c2, rfl, q2⟩ := o2.slice) | (refine ZR (o := 0 + k * 7) (P := txF os) rfl rfl hPl rfl ?_) | (refine Zf ?_; refine qQ ?_) | (refine Zm ?_; try intro _)) <;> ((try simp only [kM, kN, kO]); refine Za ?_; refine Zl ?_))) | (refine rStep3 (i := 1) (j := 6) (k := 10) ?_ ?_ ?_ <;> ((try refine Zk ?_); (first | (refine Ze (.func 84) ?_; refine qC rfl rfl (hc1) ?_; rintro v ρ' L' hle ⟨rfl, s1, o1, rfl⟩ <;> (try simp only [kM, kN, kO]); obtain ⟨a1, c1, rfl, q1⟩ := o1.slice) | (refine Ze (.func 85) ?_; refine qC rfl rfl (hc2) ?_; rintro v ρ' L' hle ⟨rfl, s2, o2, rfl⟩ <;> (try simp only [kM, kN, kO]); obtain ⟨a2, c2, rfl, q2⟩ := o2.slice) | (refine ZR (o := 0 + k * 7) (P := txF os) rfl rfl hPl rfl ?_) | (refine Zf ?_; refine qQ ?_) | (refine Zm ?_; try intro _)) <;> ((try simp only [kM, kN, kO]); refine Za ?_; refine Zl ?_))) | (refine Yo (i := 1) (j := 5) ?_ ?_ <;> ((try refine Zk ?_); (first | (refine Ze (.func 84) ?_; refine qC rfl rfl (hc1) ?_; rintro v ρ' L' hle ⟨rfl, s1, o1, rfl⟩ <;> (try simp only [kM, kN, kO]); obtain ⟨a1, c1, rfl, q1⟩ := o1.slice) | (refine Ze (.func 85) ?_; refine qC rfl rfl (hc2) ?_; rintro v ρ' L' hle ⟨rfl, s2, o2, rfl⟩ <;> (try simp only [kM, kN, kO]); obtain ⟨a2, c2, rfl, q2⟩ := o2.slice) | (refine ZR (o := 0 + k * 7) (P := txF os) rfl rfl hPl rfl ?_) | (refine Zf ?_; refine qQ ?_) | (refine Zm ?_; try intro _)) <;> ((try simp only [kM, kN, kO]); refine Za ?_; refine Zl ?_))))
   all_goals (first | (refine Yo (i := 6) (j := 10) ?_ ?_ <;> ((try refine Zk ?_); (first | (refine Ze (.func 84) ?_; refine qC rfl rfl (hc1) ?_; rintro v ρ' L' hle ⟨rfl, s1, o1, rfl⟩ <;> (try simp only [kM, kN, kO]); obtain ⟨a1, c1, rfl, q1⟩ := o1.slice) | (refine Ze (.func 85) ?_; refine qC rfl rfl (hc2) ?_; rintro v ρ' L' hle ⟨rfl, s2, o2, rfl⟩ <;> (try simp only [kM, kN, kO]); obtain ⟨a2, c2, rfl, q2⟩ := o2.slice) | (refine ZR (o := 0 + k * 7) (P := txF os) rfl rfl hPl rfl ?_) | (refine Zf ?_; refine qQ ?_) | (refine Zm ?_; try intro _)) <;> ((try simp only [kM, kN, kO]); refine Za ?_; refine Zl ?_))) | (refine Zp (i := 5) ?_; ((try refine Zk ?_); (first | (refine Ze (.func 84) ?_; refine qC rfl rfl (hc1) ?_; rintro v ρ' L' hle ⟨rfl, s1, o1, rfl⟩ <;> (try simp only [kM, kN, kO]); obtain ⟨a1, c1, rfl, q1⟩ := o1.slice) | (refine Ze (.func 85) ?_; refine qC rfl rfl (hc2) ?_; rintro v ρ' L' hle ⟨rfl, s2, o2, rfl⟩ <;> (try simp only [kM, kN, kO]); obtain ⟨a2, c2, rfl, q2⟩ := o2.slice) | (refine ZR (o := 0 + k * 7) (P := txF os) rfl rfl hPl rfl ?_) | (refine Zf ?_; refine qQ ?_) | (refine Zm ?_; try intro _)) <;> ((try simp only [kM, kN, kO]); refine Za ?_; refine Zl ?_))) | (refine Yo (i := 1) (j := 10) ?_ ?_ <;> ((try refine Zk ?_); (first | (refine Ze (.func 84) ?_; refine qC rfl rfl (hc1) ?_; rintro v ρ' L' hle ⟨rfl, s1, o1, rfl⟩ <;> (try simp only [kM, kN, kO]); obtain ⟨a1, c1, rfl, q1⟩ := o1.slice) | (refine Ze (.func 85) ?_; refine qC rfl rfl (hc2) ?_; rintro v ρ' L' hle ⟨rfl, s2, o2, rfl⟩ <;> (try simp only [kM, kN, kO]); obtain ⟨a2, c2, rfl, q2⟩ := o2.slice) | (refine ZR (o := 0 + k * 7) (P := txF os) rfl rfl hPl rfl ?_) | (refine Zf ?_; refine qQ ?_) | (refine Zm ?_; try intro _)) <;> ((try simp only [kM, kN, kO]); refine Za ?_; refine Zl ?_))) | (refine Yo (i := 1) (j := 6) ?_ ?_ <;> ((try refine Zk ?_); (first | (refine Ze (.func 84) ?_; refine qC rfl rfl (hc1) ?_; rintro v ρ' L' hle ⟨rfl, s1, o1, rfl⟩ <;> (try simp only [kM, kN, kO]); obtain ⟨a1, c1, rfl, q1⟩ := o1.slice) | (refine Ze (.func 85) ?_; refine qC rfl rfl (hc2) ?_; rintro v ρ' L' hle ⟨rfl, s2, o2, rfl⟩ <;> (try simp only [kM, kN, kO]); obtain ⟨a2, c2, rfl, q2⟩ := o2.slice) | (refine ZR (o := 0 + k * 7) (P := txF os) rfl rfl hPl rfl ?_) | (refine Zf ?_; refine qQ ?_) | (refine Zm ?_; try intro _)) <;> ((try simp only [kM, kN, kO]); refine Za ?_; refine Zl ?_))))
   all_goals (first | (refine Zp (i := 10) ?_; ((try refine Zk ?_); (first | (refine Ze (.func 84) ?_; refine qC rfl rfl (hc1) ?_; rintro v ρ' L' hle ⟨rfl, s1, o1, rfl⟩ <;> (try simp only [kM, kN, kO]); obtain ⟨a1, c1, rfl, q1⟩ := o1.slice) | (refine Ze (.func 85) ?_; refine qC rfl rfl (hc2) ?_; rintro v ρ' L' hle ⟨rfl, s2, o2, rfl⟩ <;> (try simp only [kM, kN, kO]); obtain ⟨a2, c2, rfl, q2⟩ := o2.slice) | (refine ZR (o := 0 + k * 7) (P := txF os) rfl rfl hPl rfl ?_) | (refine Zf ?_; refine qQ ?_) | (refine Zm ?_; try intro _)) <;> ((try simp only [kM, kN, kO]); refine Za ?_; refine Zl ?_))) | (refine Zp (i := 6) ?_; ((try refine Zk ?_); (first | (refine Ze (.func 84) ?_; refine qC rfl rfl (hc1) ?_; rintro v ρ' L' hle ⟨rfl, s1, o1, rfl⟩ <;> (try simp only [kM, kN, kO]); obtain ⟨a1, c1, rfl, q1⟩ := o1.slice) | (refine ZR (o := 0 + k * 7) (P := txF os) rfl rfl hPl rfl ?_) | (refine Zf ?_; refine qQ ?_) | (refine Zm ?_; try intro _)) <;> ((try simp only [kM, kN, kO]); refine Za ?_; refine Zl ?_))) | (refine Yo (i := 1) (j := 11) ?_ ?_ <;> ((try refine Zk ?_); (first | (refine Ze (.func 84) ?_; refine qC rfl rfl (hc1) ?_; rintro v ρ' L' hle ⟨rfl, s1, o1, rfl⟩ <;> (try simp only [kM, kN, kO]); obtain ⟨a1, c1, rfl, q1⟩ := o1.slice) | (refine Ze (.func 85) ?_; refine qC rfl rfl (hc2) ?_; rintro v ρ' L' hle ⟨rfl, s2, o2, rfl⟩ <;> (try simp only [kM, kN, kO]); obtain ⟨a2, c2, rfl, q2⟩ := o2.slice) | (refine ZR (o := 0 + k * 7) (P := txF os) rfl rfl hPl rfl ?_) | (refine Zf ?_; refine qQ ?_) | (refine Zm ?_; try intro _)) <;> ((try simp only [kM, kN, kO]); refine Za ?_; refine Zl ?_))))
   all_goals (first | refine rNc 12 ?_ | (refine Zp (i := 11) ?_; ((try refine Zk ?_); (first | (refine Ze (.func 85) ?_; refine qC rfl rfl (hc2) ?_; rintro v ρ' L' hle ⟨rfl, s2, o2, rfl⟩ <;> (try simp only [kM, kN, kO]); obtain ⟨a2, c2, rfl, q2⟩ := o2.slice) | (refine ZR (o := 0 + k * 7) (P := txF os) rfl rfl hPl rfl ?_) | (refine Zf ?_; refine qQ ?_) | (refine Zm ?_; try intro _)) <;> ((try simp only [kM, kN, kO]); refine Za ?_; refine Zl ?_))))
   all_goals (first | refine rNc 12 ?_ | refine ZY 13 ?_)
   all_goals (first | refine ZY 13 ?_ | (refine Yo (i := 1) (j := 14) ?_ ?_ <;> ((try refine Zk ?_); (first | (refine Ze (.func 84) ?_; refine qC rfl rfl (hc1) ?_; rintro v ρ' L' hle ⟨rfl, s1, o1, rfl⟩ <;> (try simp only [kM, kN, kO]); obtain ⟨a1, c1, rfl, q1⟩ := o1.slice) | (refine Ze (.func 85) ?_; refine qC rfl rfl (hc2) ?_; rintro v ρ' L' hle ⟨rfl, s2, o2, rfl⟩ <;> (try simp only [kM, kN, kO]); obtain ⟨a2, c2, rfl, q2⟩ := o2.slice) | (refine ZR (o := 0 + k * 7) (P := txF os) rfl rfl hPl rfl ?_) | (refine Zf ?_; refine qQ ?_) | (refine Zm ?_; try intro _)) <;> ((try simp only [kM, kN, kO]); refine Za ?_; refine Zl ?_))))
   all_goals (first | (refine Zp (i := 14) ?_; ((try refine Zk ?_); (first | (refine ZR (o := 0 + k * 7) (P := txF os) rfl rfl hPl rfl ?_) | (refine Zf ?_; refine qQ ?_) | (refine Zm ?_; try intro _)) <;> ((try simp only [kM, kN, kO]); refine Za ?_; refine Zl ?_))) | (refine Zp (i := 1) ?_; ((try refine Zk ?_); (first | (refine Ze (.func 84) ?_; refine qC rfl rfl (hc1) ?_; rintro v ρ' L' hle ⟨rfl, s1, o1, rfl⟩ <;> (try simp only [kM, kN, kO]); obtain ⟨a1, c1, rfl, q1⟩ := o1.slice) | (refine Ze (.func 85) ?_; refine qC rfl rfl (hc2) ?_; rintro v ρ' L' hle ⟨rfl, s2, o2, rfl⟩ <;> (try simp only [kM, kN, kO]); obtain ⟨a2, c2, rfl, q2⟩ := o2.slice) | (refine ZR (o := 0 + k * 7) (P := txF os) rfl rfl hPl rfl ?_) | (refine Zf ?_; refine qQ ?_) | (refine Zm ?_; try intro _)) <;> ((try simp only [kM, kN, kO]); refine Za ?_; refine Zl ?_))))
   all_goals (refine rNc 15 ?_; refine ZY 16 ?_)
   all_goals (refine Zp (i := 17) ?_; ((try refine Zk ?_); (first | (refine ZR (o := 0 + k * 7) (P := txF os) rfl rfl hPl rfl ?_) | (refine Zf ?_; refine qQ ?_) | (refine Zm ?_; try intro _)) <;> ((try simp only [kM, kN, kO]); refine Za ?_; refine Zl ?_)))
   all_goals refine ZH ?_
   all_goals (
    have hot : OwnX { x with sv := ⟨a1, x.stack.length, c1⟩, mv := ⟨a2, x.marks.length, c2⟩ } s1 s2 := ⟨o1, o2⟩
    generalize hoe : (⟨{ x with sv := ⟨a1, x.stack.length, c1⟩, mv := ⟨a2, x.marks.length, c2⟩ }, s1, s2⟩ : OT) = ot
    have hre : txF os ++ (Value.int .i64 x.num :: .int .i64 x.state :: .int .u64 x.first :: .int .u64 x.last :: .int .u64 x.undo :: .slice a1 x.stack.length c1 :: .slice a2 x.marks.length c2 :: (((r.txns.drop (k + 1)).map txV).flatten ++ sp)) = (txF (os ++ [ot]) ++ ((r.txns.drop (k + 1)).map txV).flatten) ++ sp := by
     rw [← hoe, XR, txF_one]; simp
    have hoo1 : ∀ o ∈ os ++ [ot], o.Own := fun o ho => by
     rcases List.mem_append.1 ho with ho | ho
     ·exact hoo o ho
     ·rw [List.mem_singleton] at ho
      subst ho; rw [← hoe]; exact hot
    have hop1 : (os ++ [ot]).map (fun o => o.x.p) = (r.txns.take (k + 1)).map Tx.p := by rw [List.map_append, hop, hx2, ← hoe]; rfl
    have hst : stC os ++ (ZZ (.slice a1 x.stack.length c1) ((x.stack.map lfV).flatten) s1 108 ++ ZZ (.slice a2 x.marks.length c2) (x.marks.map Yj) s2 28) = stC (os ++ [ot]) := by rw [Wf, ← hoe, stC_one]
    have hlen : (txF (os ++ [ot]) ++ ((r.txns.drop (k + 1)).map txV).flatten).length = v.n * 7 := by
     rw [List.length_append, txF_len, flatN_len txV_len, List.length_append, List.length_drop, List.length_singleton]; omega
    have how1 : OwnS (.slice (some ⟨b, 0, none⟩) v.n vc) v.n (txF (os ++ [ot]) ++ ((r.txns.drop (k + 1)).map txV).flatten) sp 7 := ⟨.inr ⟨b, vc, rfl, hlen, by omega, e3⟩⟩
    rw [hre]
    refine We (ZZ (.slice a1 x.stack.length c1) ((x.stack.map lfV).flatten) s1 108) (ZZ (.slice a2 x.marks.length c2) (x.marks.map Yj) s2 28) ?_
    refine We (stC os) (ZZ (.slice a1 x.stack.length c1) ((x.stack.map lfV).flatten) s1 108 ++ ZZ (.slice a2 x.marks.length c2) (x.marks.map Yj) s2 28) ?_
    rw [hst])
   all_goals (repeat' (first | (refine ZE ?_; refine Zn (Zd rfl) rfl rfl ?_) | (refine Zj ?_; first | (refine Zf ?_; refine qQ ?_) | refine Zm ?_) | refine Za ?_ | (refine Zi ?_; refine Zt ?_) | (refine Zh ?_; refine Zs ?_) | intro _))
   all_goals refine Zr (k + 1, os ++ [ot]) (⟨hlt, by simp; omega, hoo1, hop1, how1⟩) Zo Zo rfl tk inferInstance (by first | omega | (dsimp only; omega))
 ·have hk2 : k = r.txns.length := by omega
  subst hk2
  rw [List.take_length] at hop
  simp only [List.drop_length, List.map_nil, List.flatten_nil, List.append_nil] at how ⊢
  have hR : OwnR (.slice va v.n vc) sp os r.p.txns := ⟨by rw [hol]; rw [hl]; exact how, hoo, hop⟩
  have hd := hdo ρ' (Hp.le_refl ρ') cb _ sp os hR
  unfold DoR at hd
  by_cases he : e = 0
  ·subst he
   repeat' (first | (refine Ze (.tmp 58) ?_; refine qC rfl rfl (hd) ?_; rintro v ρ' L' hle ⟨hl1, rfl, ⟨h0, _⟩ | ⟨_, vv', sp', os', rv, x, tp, hR', rfl⟩⟩ <;> (try simp only [kM, kN, kO])) | (refine ZE ?_; refine Zn (Zd rfl) rfl rfl ?_) | (refine Zj ?_; first | (refine Zf ?_; refine qQ ?_) | refine Zm ?_) | refine Za ?_ | (refine Zi ?_; refine Zt ?_) | (refine Zh ?_; refine Zs ?_) | intro _)
   ·exact absurd rfl h0
   ·obtain ⟨va', vc', rfl, _⟩ := hR'.own.slice
    repeat' (first | (refine ZE ?_; refine Zn (Zd rfl) rfl rfl ?_) | (refine Zj ?_; first | (refine Zf ?_; refine qQ ?_) | refine Zm ?_) | refine Za ?_ | (refine Zi ?_; refine Zt ?_) | (refine Zh ?_; refine Zs ?_) | intro _)
    exact qE (L' := Xs _ sp' os' ++ X') ⟨hl1, .inr ⟨by trivial, _, sp', os', hR', rfl, rfl⟩⟩
  ·repeat' (first | (refine Ze (.tmp 58) ?_; refine qC rfl rfl (hd) ?_; rintro v ρ' L' hle ⟨hl1, rfl, ⟨h0, G, rfl⟩ | ⟨h0, _⟩⟩ <;> (try simp only [kM, kN, kO])) | (refine ZE ?_; refine Zn (Zd rfl) rfl rfl ?_) | (refine Zj ?_; first | (refine Zf ?_; refine qQ ?_) | refine Zm ?_) | refine Za ?_ | (refine Zi ?_; refine Zt ?_) | (refine Zh ?_; refine Zs ?_) | intro _)
   ·simp only [List.append_assoc]
    repeat' (first | (refine ZE ?_; refine Zn (Zd rfl) rfl rfl ?_) | (refine Zj ?_; first | (refine Zf ?_; refine qQ ?_) | refine Zm ?_) | refine Za ?_ | (refine Zi ?_; refine Zt ?_) | (refine Zh ?_; refine Zs ?_) | intro _)
    exact qE (L' := X') ⟨hl1, .inl ⟨he, rfl, rfl⟩⟩
   ·exact absurd h0 he
end Go.Proofs.E
