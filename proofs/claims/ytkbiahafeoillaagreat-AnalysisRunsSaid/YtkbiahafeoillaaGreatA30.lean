/- Laws of analysis. Part 30 of 41. -/
import Derived.Test.YtkbiahafeoillaaGreatA29
namespace Go.Proofs.E
open Go
set_option linter.unusedVariables false
set_option linter.unusedSimpArgs false
set_option linter.unusedSectionVars false
set_option maxRecDepth 4000
set_option maxHeartbeats 1000000
attribute [local irreducible] Yl TL TC TE Spec Xb R1 Hp.le EnvLe TS TR YS Zk
theorem eqLF_spec (ρ : Hp) (a a' : Option Addr) (n n' c c' : Nat) (l m : List Lf) (h : AIn ρ 2 lfV a n l) (h' : AIn ρ 2 lfV a' n' m) (hn : n ≤ 200000000000000) :
  Spec Tryz.prog 48 [.slice a n c, .slice a' n' c'] ρ [] (fun v ρ' L' => v = .bool (decide (l = m)) ∧ ρ' = ρ ∧ L' = []) := by
 have hl := h.len
 have hm := h'.len
 refine Zd Tryz.func48 rfl rfl rfl fun u R => ?_
 simp only [Zo, List.cons_append, List.nil_append]
 by_cases hne : n = n'
 ·repeat' (first | refine zV ?_ | intro _)
  refine Zq [(0, _), (1, _), (12, _)] (fun (ζ : (Nat)) => [(13, .int .i64 ζ), (4, .bool false)]) (fun (ζ : (Nat)) => ρ) (fun (ζ : (Nat)) => []) (fun (ζ : (Nat)) => ζ ≤ n ∧ l.take ζ = m.take ζ) (fun (ζ : (Nat)) => n - ζ) (0) (⟨Nat.zero_le _, rfl⟩) Ze Ze rfl tk ?_
  rintro k hI
  try simp only [List.cons_append, List.nil_append, List.append_assoc, List.append_eq] at hI ⊢
  try dsimp only at hI ⊢
  obtain ⟨hk, hpre⟩ := hI
  by_cases hlt : k < n
  ·obtain ⟨b, off, C, T, fr, f1, hb, hfit, hc⟩ := h.get (show k < l.length by omega)
   obtain ⟨b2, off2, C2, T2, fr2, f2, hb2, hfit2, hc2⟩ := h'.get (show k < m.length by omega)
   have ht1 := List.take_succ_eq_append_getElem (show k < l.length by omega)
   have ht2 := List.take_succ_eq_append_getElem (show k < m.length by omega)
   have hf : l = m → l[k]'(by omega) = m[k]'(by omega) := fun e => by subst e; rfl
   generalize l[k]'(by omega) = x at *
   generalize m[k]'(by omega) = y at *
   rw [f1, f2]
   by_cases he : x = y
   ·have hd : decide (x = y) = true := decide_eq_true he
    have hpre2 : l.take (k + 1) = m.take (k + 1) := by rw [ht1, ht2, hpre, he]
    repeat' (first | refine zV ?_ | intro _)
    refine Zu (Zk _ _ _) Zp ?_
    all_goals (refine Zx 0 ?_; refine Zz ?_; refine Zx 1 ?_; refine rIa 2 ?_; refine ZQ 3 ?_; refine Zx 4 ?_; refine Zx 5 ?_; refine rIa 6 ?_; refine ZQ 7 ?_; refine rCm 8 ?_; refine Zv ?_)
    all_goals (try simp only [hd])
    all_goals (repeat' (first | refine zV ?_ | intro _))
    all_goals rw [← f1, ← f2]
    all_goals refine Zg (k + 1) (⟨hlt, hpre2⟩) Ze Ze rfl tk inferInstance (by first | omega | (dsimp only; omega))
   ·have hd : decide (x = y) = false := decide_eq_false he
    rw [decide_eq_false (fun e => he (hf e))]
    repeat' (first | refine zV ?_ | intro _)
    refine Zu (Zk _ _ _) Zp ?_
    all_goals (refine Zx 0 ?_; refine Zz ?_; refine Zx 1 ?_; refine rIa 2 ?_; refine ZQ 3 ?_; refine Zx 4 ?_; refine Zx 5 ?_; refine rIa 6 ?_; refine ZQ 7 ?_; refine rCm 8 ?_; refine Zv ?_)
    all_goals (try simp only [hd])
    all_goals (repeat' (first | refine zV ?_ | intro _))
    all_goals exact qE (L' := []) ⟨rfl, rfl, rfl⟩
  ·have hk2 : k = n := by omega
   subst hk2
   rw [List.take_of_length_le (by omega), List.take_of_length_le (by omega)] at hpre
   rw [decide_eq_true hpre]
   repeat' (first | refine zV ?_ | intro _)
   exact qE ⟨rfl, rfl, rfl⟩
 ·rw [decide_eq_false (fun e : l = m => hne (by rw [← hl, ← hm, e]))]
  repeat' (first | refine zV ?_ | intro _)
  exact qE ⟨rfl, rfl, rfl⟩
theorem eqU64_spec (ρ : Hp) (a a' : Option Addr) (n n' c c' : Nat) (l m : List Nat) (h : SIn ρ Yr a n l) (h' : SIn ρ Yr a' n' m) (hn : n ≤ 200000000000000) :
  Spec Tryz.prog 49 [.slice a n c, .slice a' n' c'] ρ [] (fun v ρ' L' => v = .bool (decide (l = m)) ∧ ρ' = ρ ∧ L' = []) := by
 have hl := h.len
 have hm := h'.len
 refine Zd Tryz.func49 rfl rfl rfl fun u R => ?_
 simp only [Zo, List.cons_append, List.nil_append]
 by_cases hne : n = n'
 ·repeat' (first | refine zV ?_ | intro _)
  refine Zq [(0, _), (1, _), (12, _)] (fun (ζ : (Nat)) => [(13, .int .i64 ζ), (4, .bool false)]) (fun (ζ : (Nat)) => ρ) (fun (ζ : (Nat)) => []) (fun (ζ : (Nat)) => ζ ≤ n ∧ l.take ζ = m.take ζ) (fun (ζ : (Nat)) => n - ζ) (0) (⟨Nat.zero_le _, rfl⟩) Ze Ze rfl tk ?_
  rintro k hI
  try simp only [List.cons_append, List.nil_append, List.append_assoc, List.append_eq] at hI ⊢
  try dsimp only at hI ⊢
  obtain ⟨hk, hpre⟩ := hI
  by_cases hlt : k < n
  ·obtain ⟨b, off, C, T, fr, f1, hb, hc⟩ := h.get (show k < l.length by omega)
   obtain ⟨b2, off2, C2, T2, fr2, f2, hb2, hc2⟩ := h'.get (show k < m.length by omega)
   have ht1 := List.take_succ_eq_append_getElem (show k < l.length by omega)
   have ht2 := List.take_succ_eq_append_getElem (show k < m.length by omega)
   have hf : l = m → l[k]'(by omega) = m[k]'(by omega) := fun e => by subst e; rfl
   generalize l[k]'(by omega) = x at *
   generalize m[k]'(by omega) = y at *
   rw [f1, f2]
   by_cases he : x = y
   ·have hd : decide (x = y) = true := decide_eq_true he
    have hpre2 : l.take (k + 1) = m.take (k + 1) := by rw [ht1, ht2, hpre, he]
    repeat' (first | refine zV ?_ | intro _)
    refine Zu (Zk _ _ _) Zp ?_
    all_goals (refine Zx 0 ?_; refine Zz ?_; refine Zx 1 ?_; refine rIa 2 ?_; refine ZQ 3 ?_; refine Zx 4 ?_; refine Zx 5 ?_; refine rIa 6 ?_; refine ZQ 7 ?_; refine rCm 8 ?_; refine Zv ?_)
    all_goals (try simp only [hd])
    all_goals (repeat' (first | refine zV ?_ | intro _))
    all_goals rw [← f1, ← f2]
    all_goals refine Zg (k + 1) (⟨hlt, hpre2⟩) Ze Ze rfl tk inferInstance (by first | omega | (dsimp only; omega))
   ·have hd : decide (x = y) = false := decide_eq_false he
    rw [decide_eq_false (fun e => he (hf e))]
    repeat' (first | refine zV ?_ | intro _)
    refine Zu (Zk _ _ _) Zp ?_
    all_goals (refine Zx 0 ?_; refine Zz ?_; refine Zx 1 ?_; refine rIa 2 ?_; refine ZQ 3 ?_; refine Zx 4 ?_; refine Zx 5 ?_; refine rIa 6 ?_; refine ZQ 7 ?_; refine rCm 8 ?_; refine Zv ?_)
    all_goals (try simp only [hd])
    all_goals (repeat' (first | refine zV ?_ | intro _))
    all_goals exact qE (L' := []) ⟨rfl, rfl, rfl⟩
  ·have hk2 : k = n := by omega
   subst hk2
   rw [List.take_of_length_le (by omega), List.take_of_length_le (by omega)] at hpre
   rw [decide_eq_true hpre]
   repeat' (first | refine zV ?_ | intro _)
   exact qE ⟨rfl, rfl, rfl⟩
 ·rw [decide_eq_false (fun e : l = m => hne (by rw [← hl, ← hm, e]))]
  repeat' (first | refine zV ?_ | intro _)
  exact qE ⟨rfl, rfl, rfl⟩
theorem rsame1_spec (ρ : Hp) (x y : Tx) (hx : Tx.In ρ x) (hy : Tx.In ρ y) : Spec Tryz.prog 47 [.agg ⟨Yk x⟩, .agg ⟨Yk y⟩] ρ [] (fun z ρ' L' => z = .bool (decide (x.p = y.p)) ∧ ρ' = ρ ∧ L' = []) := by
 have h1 := eqLF_spec ρ x.sv.a y.sv.a x.sv.n y.sv.n x.sv.c y.sv.c x.stack y.stack hx.s hy.s hx.sb
 have h2 := eqU64_spec ρ x.mv.a y.mv.a x.mv.n y.mv.n x.mv.c y.mv.c x.marks y.marks hx.m hy.m hx.mb
 have hp : decide (x.p = y.p) = (decide (x.num = y.num ∧ x.state = y.state ∧ x.first = y.first ∧ x.last = y.last ∧ x.undo = y.undo) && (decide (x.stack = y.stack) && decide (x.marks = y.marks))) := by
  simp only [Tx.p, TxP.mk.injEq]
  rw [Bool.eq_iff_iff]
  simp only [Bool.and_eq_true, decide_eq_true_eq, and_assoc]
 rw [hp]
 refine Zd Tryz.func47 rfl rfl rfl fun u R => ?_
 simp only [Zo, List.cons_append, List.nil_append]
 by_cases e : x.num = y.num ∧ x.state = y.state ∧ x.first = y.first ∧ x.last = y.last ∧ x.undo = y.undo
 ·rw [decide_eq_true e, Bool.true_and]
  obtain ⟨g1, g2, g3, g4, g5⟩ := e
  by_cases e6 : x.stack = y.stack
  ·rw [decide_eq_true e6, Bool.true_and]
   rw [decide_eq_true e6] at h1
   generalize decide (x.marks = y.marks) = q at *
   repeat' (first | (refine Zc (.func 48) ?_; refine qC rfl rfl (h1) ?_; rintro v ρ' L' hle ⟨rfl, rfl, rfl⟩ <;> (try simp only [kM, kN, kO])) | (refine Zc (.func 49) ?_; refine qC rfl rfl (h2) ?_; rintro v ρ' L' hle ⟨rfl, rfl, rfl⟩ <;> (try simp only [kM, kN, kO])) | refine zV ?_ | intro _)
   exact qE (L' := []) ⟨rfl, rfl, rfl⟩
  ·rw [decide_eq_false e6, Bool.false_and]
   rw [decide_eq_false e6] at h1
   repeat' (first | (refine Zc (.func 48) ?_; refine qC rfl rfl (h1) ?_; rintro v ρ' L' hle ⟨rfl, rfl, rfl⟩ <;> (try simp only [kM, kN, kO])) | refine zV ?_ | intro _)
   exact qE (L' := []) ⟨rfl, rfl, rfl⟩
 ·rw [decide_eq_false e, Bool.false_and]
  repeat' (first | refine zV ?_ | (refine YL ?_; refine ZB rfl rfl (fun hb => ?_) (fun hb => ?_) <;> (try simp only [decide_eq_true_eq, decide_eq_false_iff_not, Bool.not_eq_true, Bool.not_eq_false, beq_iff_eq, bne_iff_ne, ne_eq, decide_eq_decide, Bool.not_eq_eq_eq_not, Bool.not_true, Bool.not_false, beq_eq_false_iff_ne, bne_eq_false_iff_eq, Bool.and_eq_true, Bool.or_eq_true, Bool.and_eq_false_imp, Bool.or_eq_false_iff, bq2, bqt, bqf] at hb)) | (refine ZS ?_; refine ZM rfl (fun hb => ?_) (fun hb => ?_) <;> (try simp only [decide_eq_true_eq, decide_eq_false_iff_not, Bool.not_eq_true, Bool.not_eq_false, beq_iff_eq, bne_iff_ne, ne_eq, decide_eq_decide, Bool.not_eq_eq_eq_not, Bool.not_true, Bool.not_false, beq_eq_false_iff_ne, bne_eq_false_iff_eq, Bool.and_eq_true, Bool.or_eq_true, Bool.and_eq_false_imp, Bool.or_eq_false_iff, bq2, bqt, bqf] at hb)) | intro _)
  all_goals first | (exfalso; omega) | skip
  all_goals (refine qF (L' := []) ?_; exact ⟨by first | rfl | (congr 1; simp; omega) | (congr 1; simp), rfl, rfl⟩)
theorem rsameE_spec (ρ : Hp) (s s' : SV) (l m : List Tx) (h : AS ρ 7 Yk s l) (h' : AS ρ 7 Yk s' m) (hi : ∀ x ∈ l, Tx.In ρ x) (hi' : ∀ x ∈ m, Tx.In ρ x) :
  Spec Tryz.prog 46 [.slice s.a s.n s.c, .slice s'.a s'.n s'.c, .func (.func 47) ⟨[]⟩ ⟨[]⟩] ρ [] (fun v ρ' L' => v = .bool (decide (l.map Tx.p = m.map Tx.p)) ∧ ρ' = ρ ∧ L' = []) := by
 have hl := h.at'.len
 have hm := h'.at'.len
 have hn := h.big
 refine Zd Tryz.func46 rfl rfl rfl fun u R => ?_
 simp only [Zo, List.cons_append, List.nil_append]
 by_cases hne : s.n = s'.n
 ·repeat' (first | refine zV ?_ | intro _)
  refine Zq [(1, _), (2, _), (15, _), (16, _)] (fun (ζ : (Nat)) => [(17, .int .i64 ζ), (6, .bool false)]) (fun (ζ : (Nat)) => ρ) (fun (ζ : (Nat)) => []) (fun (ζ : (Nat)) => ζ ≤ s.n ∧ (l.map Tx.p).take ζ = (m.map Tx.p).take ζ) (fun (ζ : (Nat)) => s.n - ζ) (0) (⟨Nat.zero_le _, rfl⟩) Ze Ze rfl tk ?_
  rintro k hI
  try simp only [List.cons_append, List.nil_append, List.append_assoc, List.append_eq] at hI ⊢
  try dsimp only at hI ⊢
  obtain ⟨hk, hpre⟩ := hI
  by_cases hlt : k < s.n
  ·obtain ⟨b, off, C, T, fr, f1, hb, hfit, hc⟩ := h.at'.get (show k < l.length by omega)
   obtain ⟨b2, off2, C2, T2, fr2, f2, hb2, hfit2, hc2⟩ := h'.at'.get (show k < m.length by omega)
   have ht1 := map_take_suc Tx.p l k (by omega)
   have ht2 := map_take_suc Tx.p m k (by omega)
   have hf : l.map Tx.p = m.map Tx.p → (l[k]'(by omega)).p = (m[k]'(by omega)).p := fun e => by
    have g1 : (l.map Tx.p)[k]? = some (l[k]'(by omega)).p := by simp [show k < l.length by omega]
    have g2 : (m.map Tx.p)[k]? = some (m[k]'(by omega)).p := by simp [show k < m.length by omega]
    rw [e, g2] at g1
    exact (Option.some.inj g1).symm
   have hs1 := rsame1_spec ρ (l[k]'(by omega)) (m[k]'(by omega)) (hi _ (List.getElem_mem _)) (hi' _ (List.getElem_mem _))
   generalize l[k]'(by omega) = x at *
   generalize m[k]'(by omega) = y at *
   rw [f1, f2]
   by_cases he : x.p = y.p
   ·have hpre2 : (l.map Tx.p).take (k + 1) = (m.map Tx.p).take (k + 1) := by rw [ht1, ht2, hpre, he]
    rw [decide_eq_true he] at hs1
    repeat' (first | (refine Zc (.tmp 26) ?_; refine qC rfl rfl (hs1) ?_; rintro v ρ' L' hle ⟨rfl, rfl, rfl⟩ <;> (try simp only [kM, kN, kO])) | refine zV ?_ | intro _)
    rw [← f1, ← f2]
    refine Zg (k + 1) (⟨hlt, hpre2⟩) Ze Ze rfl tk inferInstance (by first | omega | (dsimp only; omega))
   ·rw [decide_eq_false (fun e => he (hf e))]
    rw [decide_eq_false he] at hs1
    repeat' (first | (refine Zc (.tmp 26) ?_; refine qC rfl rfl (hs1) ?_; rintro v ρ' L' hle ⟨rfl, rfl, rfl⟩ <;> (try simp only [kM, kN, kO])) | refine zV ?_ | intro _)
    exact qE (L' := []) ⟨rfl, rfl, rfl⟩
  ·have hk2 : k = s.n := by omega
   subst hk2
   rw [List.take_of_length_le (by simp; omega), List.take_of_length_le (by simp; omega)] at hpre
   rw [decide_eq_true hpre]
   repeat' (first | refine zV ?_ | intro _)
   exact qE ⟨rfl, rfl, rfl⟩
 ·rw [decide_eq_false (fun e : l.map Tx.p = m.map Tx.p => hne (by have := congrArg List.length e; simp at this; omega))]
  repeat' (first | refine zV ?_ | intro _)
  exact qE ⟨rfl, rfl, rfl⟩
theorem rsame_spec (ρ : Hp) (v v' : SV) (x y : Ros) (hx : RosIn ρ v x) (hy : RosIn ρ v' y) : Spec Tryz.prog 16 [.agg ⟨XI v x⟩, .agg ⟨XI v' y⟩] ρ [] (fun z ρ' L' => z = .bool (decide (x.p = y.p)) ∧ ρ' = ρ ∧ L' = []) := by
 have h1 := rsameE_spec ρ v v' x.txns y.txns hx.at' hy.at' hx.tx hy.tx
 have hp : decide (x.p = y.p) = (decide (x.next = y.next) && decide (x.txns.map Tx.p = y.txns.map Tx.p)) := by
  simp only [Ros.p, Xh.mk.injEq]
  rw [Bool.eq_iff_iff]
  simp only [Bool.and_eq_true, decide_eq_true_eq]
 rw [hp]
 generalize decide (x.txns.map Tx.p = y.txns.map Tx.p) = q at *
 refine Zd Tryz.func16 rfl rfl rfl fun u R => ?_
 simp only [Zo, List.cons_append, List.nil_append]
 by_cases e : x.next = y.next
 ·rw [decide_eq_true e, Bool.true_and]
  repeat' (first | (refine Zc (.func 46) ?_; refine qC rfl rfl (h1) ?_; rintro v ρ' L' hle ⟨rfl, rfl, rfl⟩ <;> (try simp only [kM, kN, kO])) | refine zV ?_ | intro _)
  exact qE (L' := []) ⟨rfl, rfl, rfl⟩
 ·rw [decide_eq_false e, Bool.false_and]
  repeat' (first | refine zV ?_ | intro _)
  exact qE (L' := []) ⟨rfl, rfl, rfl⟩
def runE : AnP → List Rc → Int
 | _, [] => 0
 | a, r :: l => if YN a r = 0 then runE (Wb a r) l else YN a r
def runP : AnP → List Rc → AnP
 | a, [] => a
 | a, r :: l => if YN a r = 0 then runP (Wb a r) l else zeroA
theorem step_an_spec (ρ : Hp) (d : AnD) (h : AnIn ρ d) (rv : RV) (r : Rc) (hr : RcIn ρ rv r) : Spec Tryz.prog 29 [.agg ⟨anV d⟩, .agg ⟨Yx rv r⟩] ρ [] (XD ρ d.p r) := by
 by_cases hx : Yc d.p = false ∨ d.next = d.fin ∨ ZU r = false ∨ r.lsn ≠ d.next
 ·exact step0_spec ρ d h rv r hr hx
 ·have h1 : Yc d.p = true := by
   cases e : Yc d.p with
   | true => rfl
   | false => exact absurd (.inl e) hx
  have h2 : d.next ≠ d.fin := fun e => hx (.inr (.inl e))
  have h3 : ZU r = true := by
   cases e : ZU r with
   | true => rfl
   | false => exact absurd (.inr (.inr (.inl e))) hx
  have h4 : r.lsn = d.next := Classical.byContradiction fun e => hx (.inr (.inr (.inr e)))
  cases ho : WJ d.p r with
  | none => exact step_no ρ d h rv r hr h1 h2 h3 h4 ho
  | some q => exact step_yes ρ d h rv r hr h1 h2 h3 h4 ho
abbrev lvV (x : RV × Rc) : List Value := Yx x.1 x.2
def runPE (a : AnP) (l : List Rc) : Int := if Yc a then runE a l else 330
def runPP (a : AnP) (l : List Rc) : AnP := if Yc a then runP a l else zeroA
theorem run_an_spec (ρ : Hp) (d : AnD) (h : AnIn ρ d) (a : Option Addr) (n c : Nat) (lv : List (RV × Rc)) (hA : AIn ρ 10 lvV a n lv) (hP : ∀ x ∈ lv, RcIn ρ x.1 x.2) (hn : n ≤ 1000000) :
  Spec Tryz.prog 35 [.agg ⟨anV d⟩, .slice a n c] ρ [] (fun z ρ' L' => ρ.le ρ' ∧ ∃ d' : AnD, z = .tuple ⟨[.agg ⟨anV d'⟩, .int .i64 (runPE d.p (lv.map (·.2)))]⟩ ∧ AnIn ρ' d' ∧ d'.p = runPP d.p (lv.map (·.2)) ∧ L' = []) := by
 have hl := hA.len
 have hC := Wc ρ d h
 unfold runPE runPP
 refine Zd Tryz.func35 rfl rfl rfl fun u R => ?_
 simp only [Zo, List.cons_append, List.nil_append]
 cases hq : Yc d.p
 ·rw [hq] at hC
  simp only [Bool.false_eq_true, if_false] at hC ⊢
  repeat' (first | (refine Zc (.func 27) ?_; refine qC rfl rfl (hC) ?_; rintro v ρ' L' hle ⟨rfl, rfl, rfl⟩ <;> (try simp only [kM, kN, kO])) | refine zV ?_ | intro _)
  exact qE (L' := []) ⟨Hp.le_refl _, Wn, rfl, YT, rfl, rfl⟩
 rw [hq] at hC
 simp only [if_true] at hC ⊢
 generalize hE : runE d.p (lv.map (·.2)) = eE
 generalize hPP : runP d.p (lv.map (·.2)) = eP
 repeat' (first | (refine Zc (.func 27) ?_; refine qC rfl rfl (hC) ?_; rintro v ρ' L' hle ⟨rfl, rfl, rfl⟩ <;> (try simp only [kM, kN, kO])) | refine zV ?_ | intro _)
 rename_i b2 b4
 refine Zq [(2, _), (4, _), (17, _), (18, _)] (fun (ζ : (Nat) × (Hp) × (AnD)) => [(19, .int .i64 ζ.1), (5, .int .i64 0)]) (fun (ζ : (Nat) × (Hp) × (AnD)) => ζ.2.1) (fun (ζ : (Nat) × (Hp) × (AnD)) => [[(b4, .cells ⟨[.int .u64 0, .int .u64 0, .int .u64 0, .int .u64 0, .int .i64 0, .slice none 0 0, .slice none 0 0]⟩ 67 (0, 0))], anC b2 ζ.2.2]) (fun (ζ : (Nat) × (Hp) × (AnD)) => ζ.1 ≤ n ∧ ρ'.le ζ.2.1 ∧ AnIn ζ.2.1 ζ.2.2 ∧ runE ζ.2.2.p ((lv.map (·.2)).drop ζ.1) = eE ∧ runP ζ.2.2.p ((lv.map (·.2)).drop ζ.1) = eP) (fun (ζ : (Nat) × (Hp) × (AnD)) => n - ζ.1) ((0, ρ', d)) (⟨Nat.zero_le _, Hp.le_refl _, h, hE, hPP⟩) Ze Ze rfl tk ?_
 rintro ⟨k, ρ1, d1⟩ hI
 try simp only [List.cons_append, List.nil_append, List.append_assoc, List.append_eq] at hI ⊢
 try dsimp only at hI ⊢
 obtain ⟨hk, hle1, hd1, he, hp⟩ := hI
 by_cases hlt : k < n
 ·obtain ⟨b, off, C, T, fr, e1, hb, hfit, hcc⟩ := (hA.mono hle1).get (show k < lv.length by omega)
  have hx := (hP _ (List.getElem_mem (show k < lv.length by omega))).mono hle1
  have hd : (lv.map (·.2)).drop k = (lv[k]'(by omega)).2 :: (lv.map (·.2)).drop (k + 1) := by
   rw [List.drop_eq_getElem_cons (by simp; omega), List.getElem_map]
  rw [hd, runE] at he
  rw [hd, runP] at hp
  generalize lv[k]'(by omega) = y at *
  have hS := step_an_spec ρ1 d1 hd1 y.1 y.2 hx
  unfold XD at hS
  rw [e1]
  by_cases h0 : YN d1.p y.2 = 0
  ·rw [if_pos h0] at he hp
   rw [h0] at hS
   repeat' (first | (refine Zc (.func 29) ?_; refine qC rfl rfl (hS) ?_; rintro v ρ' L' hle ⟨hz1, d2, rfl, hd2, hp2, rfl⟩ <;> (try simp only [kM, kN, kO])) | refine zV ?_ | intro _)
   rw [← e1]
   refine Zg (k + 1, ρ', d2) (⟨hlt, Hp.le_trans hle1 hz1, hd2, by rw [hp2]; exact he, by rw [hp2]; exact hp⟩) Ze Ze rfl tk inferInstance (by first | omega | (dsimp only; omega))
  ·rw [if_neg h0] at he hp
   subst he
   subst hp
   generalize YN d1.p y.2 = se at *
   repeat' (first | (refine Zc (.func 29) ?_; refine qC rfl rfl (hS) ?_; rintro v ρ' L' hle ⟨hz1, d2, rfl, hd2, hp2, rfl⟩ <;> (try simp only [kM, kN, kO])) | refine zV ?_ | intro _)
   exact qE (L' := []) (hle := Hp.le_trans hle1 hz1) ⟨Hp.le_trans hle1 hz1, Wn, rfl, YT, rfl, rfl⟩
 ·have hk2 : (lv.map (·.2)).drop k = [] := List.drop_of_length_le (by simp; omega)
  rw [hk2, runE] at he
  rw [hk2, runP] at hp
  subst he
  subst hp
  repeat' (first | refine zV ?_ | intro _)
  exact qE (L' := []) ⟨hle1, d1, rfl, hd1, rfl, rfl⟩
theorem over_an_spec (ρ : Hp) (d : AnD) (h : AnIn ρ d) : Spec Tryz.prog 30 [.agg ⟨anV d⟩] ρ [] (fun z ρ' L' => z = .bool (Yc d.p && decide (d.next = d.fin)) ∧ ρ' = ρ ∧ L' = []) := by
 have hr := Xq ρ d h
 generalize Yc d.p = q at *
 refine Zd Tryz.func30 rfl rfl rfl fun u R => ?_
 simp only [Zo, List.cons_append, List.nil_append]
 cases q
 ·repeat' (first | (refine Zc (.func 58) ?_; refine qC rfl rfl (hr) ?_; rintro v ρ' L' hle ⟨rfl, rfl, rfl⟩ <;> (try simp only [kM, kN, kO])) | refine zV ?_ | intro _)
  exact qE (L' := []) ⟨rfl, rfl, rfl⟩
 ·repeat' (first | (refine Zc (.func 58) ?_; refine qC rfl rfl (hr) ?_; rintro v ρ' L' hle ⟨rfl, rfl, rfl⟩ <;> (try simp only [kM, kN, kO])) | refine zV ?_ | intro _)
  refine qF (L' := []) ?_
  exact ⟨Ym (by simp; try omega), rfl, rfl⟩
def firstN (a : AnP) : Nat := leastN a.fin (a.dirty.map Yq.since)
theorem first_an_spec (ρ : Hp) (d : AnD) (h : AnIn ρ d) : Spec Tryz.prog 31 [.agg ⟨anV d⟩] ρ [] (fun z ρ' L' => z = .int .u64 (if Yc d.p then firstN d.p else 0 : Nat) ∧ ρ' = ρ ∧ L' = []) := by
 have hr := Xq ρ d h
 have hl := h.d.at'.len
 have hA := h.d.at'
 have hb := h.d.big
 unfold firstN leastN
 dsimp only
 generalize Yc d.p = q at *
 refine Zd Tryz.func31 rfl rfl rfl fun u R => ?_
 simp only [Zo, List.cons_append, List.nil_append]
 cases q
 ·repeat' (first | (refine Zc (.func 58) ?_; refine qC rfl rfl (hr) ?_; rintro v ρ' L' hle ⟨rfl, rfl, rfl⟩ <;> (try simp only [kM, kN, kO])) | refine zV ?_ | intro _)
  exact qE (L' := []) ⟨rfl, rfl, rfl⟩
 simp only [if_true]
 generalize hq : (d.dirty.map Yq.since).foldl min d.fin = q
 repeat' (first | (refine Zc (.func 58) ?_; refine qC rfl rfl (hr) ?_; rintro v ρ' L' hle ⟨rfl, rfl, rfl⟩ <;> (try simp only [kM, kN, kO])) | refine zV ?_ | intro _)
 refine Zq [(2, _), (12, _), (13, _)] (fun (ζ : (Nat) × (Nat)) => [(14, .int .i64 ζ.1), (3, .int .u64 ζ.2)]) (fun (ζ : (Nat) × (Nat)) => ρ') (fun (ζ : (Nat) × (Nat)) => []) (fun (ζ : (Nat) × (Nat)) => ζ.1 ≤ d.dv.n ∧ ((d.dirty.drop ζ.1).map Yq.since).foldl min ζ.2 = q) (fun (ζ : (Nat) × (Nat)) => d.dv.n - ζ.1) ((0, d.fin)) (⟨Nat.zero_le _, hq⟩) Ze Ze rfl tk ?_
 rintro ⟨k, m⟩ hI
 try simp only [List.cons_append, List.nil_append, List.append_assoc, List.append_eq] at hI ⊢
 try dsimp only at hI ⊢
 obtain ⟨hk, hI⟩ := hI
 by_cases hlt : k < d.dv.n
 ·obtain ⟨b, off, C, T, fr, e1, hb1, hfit, hc⟩ := hA.get (show k < d.dirty.length by omega)
  rw [List.drop_eq_getElem_cons (show k < d.dirty.length by omega), List.map_cons, List.foldl_cons] at hI
  generalize d.dirty[k]'(by omega) = x at *
  have hmn : min (m : Int) (x.since : Int) = ((min m x.since : Nat) : Int) := by omega
  rw [e1]
  repeat' (first | refine zV ?_ | intro _)
  try simp only [hmn]
  rw [← e1]
  refine Zg (k + 1, min m x.since) (⟨hlt, hI⟩) Ze Ze rfl tk inferInstance (by first | omega | (dsimp only; omega))
 ·rw [List.drop_of_length_le (by omega), List.map_nil, List.foldl_nil] at hI
  subst hI
  repeat' (first | refine zV ?_ | intro _)
  exact qE (L' := []) ⟨rfl, rfl, rfl⟩
theorem an_eq {d e : AnD} : d.p = e.p ↔ (d.base = e.base ∧ d.master = e.master ∧ d.fin = e.fin ∧ d.next = e.next) ∧ d.ro.p = e.ro.p ∧ d.dirty = e.dirty := by
 simp only [AnD.p, AnP.mk.injEq, and_assoc]
theorem same_an_spec (ρ : Hp) (d e : AnD) (h : AnIn ρ d) (h' : AnIn ρ e) : Spec Tryz.prog 34 [.agg ⟨anV d⟩, .agg ⟨anV e⟩] ρ [] (fun z ρ' L' => z = .bool (decide (d.p = e.p)) ∧ ρ' = ρ ∧ L' = []) := by
 have h1 := rsame_spec ρ d.rv e.rv d.ro e.ro h.r h'.r
 have h2 := eqCKP_spec ρ d.dv e.dv d.dirty e.dirty h.d h'.d
 have hp : decide (d.p = e.p) = (decide ((d.base : Int) = e.base ∧ (d.master : Int) = e.master ∧ (d.fin : Int) = e.fin ∧ (d.next : Int) = e.next) && (decide (d.ro.p = e.ro.p) && decide (d.dirty = e.dirty))) := by
  rw [Bool.eq_iff_iff]
  simp only [Bool.and_eq_true, decide_eq_true_eq]
  rw [an_eq]
  constructor
  ·rintro ⟨⟨g1, g2, g3, g4⟩, g5, g6⟩; exact ⟨⟨by omega, by omega, by omega, by omega⟩, g5, g6⟩
  ·rintro ⟨⟨g1, g2, g3, g4⟩, g5, g6⟩; exact ⟨⟨by omega, by omega, by omega, by omega⟩, g5, g6⟩
 rw [hp]
 generalize decide (d.ro.p = e.ro.p) = q1 at *
 generalize decide (d.dirty = e.dirty) = q2 at *
 generalize hq0 : decide ((d.base : Int) = e.base ∧ (d.master : Int) = e.master ∧ (d.fin : Int) = e.fin ∧ (d.next : Int) = e.next) = q0
 refine Zd Tryz.func34 rfl rfl rfl fun u R => ?_
 simp only [Zo, List.cons_append, List.nil_append]
 repeat' (first | refine zV ?_ | intro _)
 show TL _ _ _ _ ((22, Value.agg ⟨[.int .u64 e.base, .int .u64 e.master, .int .u64 e.fin, .int .u64 e.next]⟩) :: _ :: _ :: _ :: _ :: _ :: _ :: _ :: _ :: (13, Value.agg ⟨[.int .u64 d.base, .int .u64 d.master, .int .u64 d.fin, .int .u64 d.next]⟩) :: _) _ _
 cases q0
 ·repeat' (first | refine zV ?_ | intro _)
  exact qE (L' := []) ⟨rfl, rfl, rfl⟩
 cases q1
 ·repeat' (first | (refine Zc (.func 16) ?_; refine qC rfl rfl (h1) ?_; rintro v ρ' L' hle ⟨rfl, rfl, rfl⟩ <;> (try simp only [kM, kN, kO])) | refine zV ?_ | intro _)
  exact qE (L' := []) ⟨rfl, rfl, rfl⟩
 ·repeat' (first | (refine Zc (.func 16) ?_; refine qC rfl rfl (h1) ?_; rintro v ρ' L' hle ⟨rfl, rfl, rfl⟩ <;> (try simp only [kM, kN, kO])) | (refine Zc (.func 67) ?_; refine qC rfl rfl (h2) ?_; rintro v ρ' L' hle ⟨rfl, rfl, rfl⟩ <;> (try simp only [kM, kN, kO])) | refine zV ?_ | intro _)
  exact qE (L' := []) ⟨rfl, rfl, rfl⟩
theorem findT_take (l : List TxP) (num : Int) (k : Nat) (h : k < l.length) (hn : ∀ t ∈ l.take k, t.num ≠ num) : (l[k].num = num → l.find? (fun t => decide (t.num = num)) = some l[k]) ∧ (l[k].num ≠ num → ∀ t ∈ l.take (k + 1), t.num ≠ num) := by
 constructor
 ·intro e
  rw [List.find?_eq_some_iff_getElem]
  refine ⟨by simpa using e, k, h, rfl, fun j hj => ?_⟩
  have := hn l[j] (List.mem_take_iff_getElem.2 ⟨j, by omega, rfl⟩)
  simpa using this
 ·intro e t ht
  rw [List.take_succ_eq_append_getElem h] at ht
  rcases List.mem_append.1 ht with ht | ht
  ·exact hn t ht
  ·rw [List.mem_singleton.1 ht]; exact e
theorem find18_spec (ρ : Hp) (v : SV) (ro : Ros) (h : RosIn ρ v ro) (num : Int) : Spec Tryz.prog 120 [.agg ⟨XI v ro⟩, .int .i64 num] ρ []
  (fun z ρ' L' => ρ' = ρ ∧ ∃ x b, z = .tuple ⟨[.agg ⟨Yk x⟩, .bool b]⟩ ∧ Tx.In ρ' x ∧ FindR (Xg ro.p num) x b ∧ L' = []) := by
 have hl := h.at'.at'.len
 have hA := h.at'.at'
 have hbig := h.at'.big
 refine Zd Tryz.func120 rfl rfl rfl fun u R => ?_
 simp only [Zo, List.cons_append, List.nil_append]
 repeat' (first | refine zV ?_ | intro _)
 refine Zq [(1, _), (4, _), (9, _), (10, _)] (fun (ζ : (Nat)) => [(11, .int .i64 ζ), (5, .bool false)]) (fun (ζ : (Nat)) => ρ) (fun (ζ : (Nat)) => [[(_, .cells ⟨Yk zX⟩ 45 (0, 0))]]) (fun (ζ : (Nat)) => ζ ≤ v.n ∧ ∀ t ∈ ro.p.txns.take ζ, t.num ≠ num) (fun (ζ : (Nat)) => v.n - ζ) (0) (⟨Nat.zero_le _, by simp⟩) Ze Ze rfl tk ?_
 rintro k hI
 try simp only [List.cons_append, List.nil_append, List.append_assoc, List.append_eq] at hI ⊢
 try dsimp only at hI ⊢
 obtain ⟨hk, hno⟩ := hI
 by_cases hlt : k < v.n
 ·obtain ⟨b, off, C, T, fr, e1, hb, hfit, hc⟩ := hA.get (show k < ro.txns.length by omega)
  have hf := findT_take ro.p.txns num k (by simp [Ros.p]; omega) hno
  have hpk : ro.p.txns[k]'(by simp [Ros.p]; omega) = (ro.txns[k]'(by omega)).p := by simp [Ros.p]
  rw [hpk] at hf
  have hin := h.tx _ (List.getElem_mem (show k < ro.txns.length by omega))
  generalize ro.txns[k]'(by omega) = x at *
  rw [e1]
  by_cases he : x.num = num
  ·have hfs : Xg ro.p num = some x.p := hf.1 he
   rw [hfs]
   repeat' (first | refine zV ?_ | intro _)
   exact qE (L' := []) ⟨rfl, x, true, rfl, hin, .inl ⟨_, rfl, rfl, rfl⟩, rfl⟩
  ·have hno2 := hf.2 he
   repeat' (first | refine zV ?_ | intro _)
   rw [← e1]
   refine Zg (k + 1) (⟨hlt, hno2⟩) Ze Ze rfl tk inferInstance (by first | omega | (dsimp only; omega))
 ·have hfn : Xg ro.p num = none := by
   unfold Xg
   rw [List.find?_eq_none]
   intro t ht
   rw [List.take_of_length_le (by simp [Ros.p]; omega)] at hno
   simpa using hno t ht
  rw [hfn]
  repeat' (first | refine zV ?_ | intro _)
  exact qE (L' := []) ⟨rfl, zX, false, rfl, zX_in _, .inr ⟨rfl, rfl, rfl⟩, rfl⟩
theorem find18_some (ρ : Hp) (v : SV) (ro : Ros) (h : RosIn ρ v ro) (num : Int) {t : TxP} (ho : Xg ro.p num = some t) : Spec Tryz.prog 120 [.agg ⟨XI v ro⟩, .int .i64 num] ρ []
  (fun z ρ' L' => ρ' = ρ ∧ ∃ x, z = .tuple ⟨[.agg ⟨Yk x⟩, .bool true]⟩ ∧ Tx.In ρ' x ∧ x.p = t ∧ L' = []) := by
 refine (find18_spec ρ v ro h num).mono ?_
 rintro z ρ' L' _ ⟨h1, x, b, h2, h3, ⟨t', h4, h5, h6⟩ | ⟨h4, _⟩, h7⟩
 ·rw [ho] at h4
  cases h4
  exact ⟨h1, x, by rw [h2, h5], h3, h6, h7⟩
 ·rw [ho] at h4; cases h4
theorem find18_none (ρ : Hp) (v : SV) (ro : Ros) (h : RosIn ρ v ro) (num : Int) (ho : Xg ro.p num = none) : Spec Tryz.prog 120 [.agg ⟨XI v ro⟩, .int .i64 num] ρ []
  (fun z ρ' L' => ρ' = ρ ∧ z = .tuple ⟨[.agg ⟨Yk zX⟩, .bool false]⟩ ∧ L' = []) := by
 refine (find18_spec ρ v ro h num).mono ?_
 rintro z ρ' L' _ ⟨h1, x, b, h2, h3, ⟨t', h4, h5, h6⟩ | ⟨h4, h5, h6⟩, h7⟩
 ·rw [ho] at h4; cases h4
 ·exact ⟨h1, by rw [h2, h5, h6], h7⟩
theorem copied_spec (ρ : Hp) (x : Tx) (hin : Tx.In ρ x) (hb1 : x.sv.n ≤ 1099511627776) (hb2 : x.mv.n ≤ 1099511627776) : Spec Tryz.prog 183 [.agg ⟨Yk x⟩] ρ []
  (fun z ρ' L' => ρ.le ρ' ∧ ∃ y : Tx, z = .agg ⟨Yk y⟩ ∧ Tx.In ρ' y ∧ y.p = x.p ∧ L' = []) := by
 refine Zd Tryz.func183 rfl rfl rfl fun u R => ?_
 simp only [Zo, List.cons_append, List.nil_append]
 have hS := hin.s
 have hM := hin.m
 have hSl := hS.len
 have hMl := hM.len
 have hxsc := hin.sc
 have hxmc := hin.mc
 have hxsb := hin.sb
 have hxmb := hin.mb
 have hpx : ∀ a1 c1 a2 c2, ({ x with sv := ⟨a1, x.sv.n, c1⟩, mv := ⟨a2, x.mv.n, c2⟩ } : Tx).p = x.p := fun _ _ _ _ => rfl
 repeat' (first | refine zV ?_ | intro _)
 rename_i b5 b6
 refine tc_phase 9 (Zk _ _ ([[(b5, .cells ⟨Yk x⟩ 45 (0, 0))]])) (by decide +kernel) (Zw (hT := tk) (Hp.le_refl _)) ?_
 simp only [List.take_succ_cons, List.take_zero]
 all_goals (refine ZN 1 ?_; refine ZQ 2 ?_; refine ZN 5 ?_; refine ZQ 6 ?_)
 all_goals (refine YD (i := 0) (j := 4) ?_ ?_ <;> ((try refine Zh ?_); (first | (refine ZF ?_; try intro _)) <;> ((try simp only [kM, kN, kO]); refine Zf ?_; refine Zi ?_)))
 all_goals (first | (refine YD (i := 3) (j := 4) ?_ ?_ <;> ((try refine Zh ?_); (first | (refine ZZ (n := 0) (xs := []) (sp := []) (ys := (x.stack.map lfV).flatten) (m := x.sv.n) (sz := 2) rfl rfl (OwnS.zero _ 2) (hR := by repeat (first | exact ZD | apply ZA)) hS.srcV (by rw [XC lfV_len, hSl]) (flat_oneG (fun _ => rfl) _) (by decide) rfl (by omega) (by omega) rfl (fun v1 sp1 o1 => ?_); simp only [Nat.zero_add, List.nil_append] at o1 ⊢; obtain ⟨a1, c1, rfl, q1⟩ := o1.slice) | (refine ZZ (n := 0) (xs := []) (sp := []) (ys := x.marks.map Yr) (m := x.mv.n) (sz := 1) rfl rfl (OwnS.zero _ 1) (hR := by repeat (first | exact ZD | apply ZA)) hM.srcV (by rw [List.length_map, hMl]; omega) (by simp [Value.oneCell']) (by decide) rfl (by omega) (by omega) rfl (fun v2 sp2 o2 => ?_); simp only [Nat.zero_add, List.nil_append] at o2 ⊢; obtain ⟨a2, c2, rfl, q2⟩ := o2.slice) | (refine ZF ?_; try intro _)) <;> ((try simp only [kM, kN, kO]); refine Zf ?_; refine Zi ?_))) | (refine Zj (i := 0) ?_; ((try refine Zh ?_); (first | (refine ZF ?_; try intro _)) <;> ((try simp only [kM, kN, kO]); refine Zf ?_; refine Zi ?_))))
 all_goals (first | refine ZN 8 ?_ | (refine Zj (i := 3) ?_; ((try refine Zh ?_); (first | (refine ZZ (n := 0) (xs := []) (sp := []) (ys := (x.stack.map lfV).flatten) (m := x.sv.n) (sz := 2) rfl rfl (OwnS.zero _ 2) (hR := by repeat (first | exact ZD | apply ZA)) hS.srcV (by rw [XC lfV_len, hSl]) (flat_oneG (fun _ => rfl) _) (by decide) rfl (by omega) (by omega) rfl (fun v1 sp1 o1 => ?_); simp only [Nat.zero_add, List.nil_append] at o1 ⊢; obtain ⟨a1, c1, rfl, q1⟩ := o1.slice) | (refine ZZ (n := 0) (xs := []) (sp := []) (ys := x.marks.map Yr) (m := x.mv.n) (sz := 1) rfl rfl (OwnS.zero _ 1) (hR := by repeat (first | exact ZD | apply ZA)) hM.srcV (by rw [List.length_map, hMl]; omega) (by simp [Value.oneCell']) (by decide) rfl (by omega) (by omega) rfl (fun v2 sp2 o2 => ?_); simp only [Nat.zero_add, List.nil_append] at o2 ⊢; obtain ⟨a2, c2, rfl, q2⟩ := o2.slice) | (refine ZF ?_; try intro _)) <;> ((try simp only [kM, kN, kO]); refine Zf ?_; refine Zi ?_))))
 all_goals (first | refine ZN 8 ?_ | (refine Zj (i := 4) ?_; ((try refine Zh ?_); (first | (refine ZF ?_; try intro _)) <;> ((try simp only [kM, kN, kO]); refine Zf ?_; refine Zi ?_))))
 all_goals (refine Zj (i := 7) ?_; ((try refine Zh ?_); (first | (refine ZZ (n := 0) (xs := []) (sp := []) (ys := (x.stack.map lfV).flatten) (m := x.sv.n) (sz := 2) rfl rfl (OwnS.zero _ 2) (hR := by repeat (first | exact ZD | apply ZA)) hS.srcV (by rw [XC lfV_len, hSl]) (flat_oneG (fun _ => rfl) _) (by decide) rfl (by omega) (by omega) rfl (fun v1 sp1 o1 => ?_); simp only [Nat.zero_add, List.nil_append] at o1 ⊢; obtain ⟨a1, c1, rfl, q1⟩ := o1.slice) | (refine ZZ (n := 0) (xs := []) (sp := []) (ys := x.marks.map Yr) (m := x.mv.n) (sz := 1) rfl rfl (OwnS.zero _ 1) (hR := by repeat (first | exact ZD | apply ZA)) hM.srcV (by rw [List.length_map, hMl]; omega) (by simp [Value.oneCell']) (by decide) rfl (by omega) (by omega) rfl (fun v2 sp2 o2 => ?_); simp only [Nat.zero_add, List.nil_append] at o2 ⊢; obtain ⟨a2, c2, rfl, q2⟩ := o2.slice) | (refine ZF ?_; try intro _)) <;> ((try simp only [kM, kN, kO]); refine Zf ?_; refine Zi ?_)))
 all_goals refine Zv ?_
 all_goals refine te_phase (fuel := 3) (m := [true, true, true, true, true, true, true, true, true, false, false, false]) (Zk _ _ ([])) rfl rfl (Zw (hT := tk) (Hp.le_refl _)) ?_
 all_goals (refine Zj (i := 9) ?_; ((try refine Zh ?_); (first | (refine ZF ?_; try intro _)) <;> ((try simp only [kM, kN, kO]); refine Zf ?_; refine Zi ?_)))
 all_goals refine ZN 10 ?_
 all_goals (refine Zj (i := 11) ?_; ((try refine Zh ?_); (first | (refine ZF ?_; try intro _)) <;> ((try simp only [kM, kN, kO]); refine Zf ?_; refine Zi ?_)))
 all_goals refine Zv ?_
 all_goals (
  refine ZY (ZG (.slice a1 x.sv.n c1) ((x.stack.map lfV).flatten) sp1 108) (h := by repeat (first | exact ZD | apply ZA)) (fun ρ4 hle4 hf4 => ?_)
  refine ZY (ZG (.slice a2 x.mv.n c2) (x.marks.map Yr) sp2 28) (h := by repeat (first | exact ZD | apply ZA)) (fun ρ5 hle5 hf5 => ?_)
  rw [← hSl] at o1
  rw [← hMl] at o2
  have hx' : Tx.In ρ5 { x with sv := ⟨a1, x.stack.length, c1⟩, mv := ⟨a2, x.marks.length, c2⟩ } := OwnX.tin ⟨o1, o2⟩ (fun p hp => Hp.up hle5 (hf4 p (by rw [← hSl]; exact hp))) (fun p hp => hf5 p (by rw [← hMl]; exact hp)) (by dsimp only; omega) (by dsimp only; omega)
  have hp' := hpx a1 c1 a2 c2
  rw [← hSl, ← hMl] at hp'
  rw [← hSl, ← hMl]
  clear hf4 hf5)
 all_goals (repeat' (first | refine zV ?_ | intro _))
 all_goals exact qE (L' := []) (hle := Hp.le_trans hle4 hle5) ⟨Hp.le_trans hle4 hle5, _, rfl, hx', hp', rfl⟩
def RosB (p : Xh) : Prop := ∀ t ∈ p.txns, t.stack.length ≤ 1099511627776 ∧ t.marks.length ≤ 1099511627776
theorem RosG.rosB {p : Xh} (h : RosG p) : RosB p := fun t ht => by
 have h1 := (h.tx t ht).2.2
 have h2 := h1.sl
 have h3 := h1.ml
 exact ⟨h2, by omega⟩
def putF (t : TxP) (ov : Bool) (x : TxP) : List TxP := if x.num = t.num then (if ov then [] else [t]) else [x]
def putO (p : Xh) (t : TxP) (ov : Bool) : Xh := ⟨p.next, p.txns.flatMap (putF t ov)⟩
theorem putO_false (p : Xh) (t : TxP) : putO p t false = putT p t := by
 unfold putO putT
 congr 1
 induction p.txns with
 | nil => rfl
 | cons x r ih =>
  rw [List.flatMap_cons, List.map_cons, ih]
  unfold putF
  split <;> rfl
theorem putO_true (p : Xh) (t : TxP) : putO p t true = dropT p t.num := by
 unfold putO dropT
 congr 1
 induction p.txns with
 | nil => rfl
 | cons x r ih =>
  rw [List.flatMap_cons, List.filter_cons, ih]
  by_cases h : x.num = t.num
  ·rw [show putF t true x = [] by unfold putF; rw [if_pos h]; rfl, if_neg (by simp [h])]; rfl
  ·rw [show putF t true x = [x] from if_neg h, if_pos (by simp [h])]; rfl
theorem put18_spec (ρ : Hp) (v : SV) (r : Ros) (h : RosIn ρ v r) (t : Tx) (ht : Tx.In ρ t) (ov : Bool) : Spec Tryz.prog 161 [.agg ⟨XI v r⟩, .agg ⟨Yk t⟩, .bool ov] ρ []
  (fun z ρ' L' => ρ.le ρ' ∧ ∃ (v' : SV) (r' : Ros), z = .agg ⟨XI v' r'⟩ ∧ RosIn ρ' v' r' ∧ r'.p = putO r.p t.p ov ∧ L' = []) := by
 have hl := h.at'.at'.len
 have hbig := h.at'.big
 refine Zd Tryz.func161 rfl rfl rfl fun u R => ?_
 simp only [Zo, List.cons_append, List.nil_append]
 have hpt : ∀ k (hk : k < r.txns.length), (r.p.txns.take (k + 1)).flatMap (putF t.p ov) = (r.p.txns.take k).flatMap (putF t.p ov) ++ putF t.p ov (r.txns[k]'hk).p := fun k hk => by
  rw [List.take_succ_eq_append_getElem (by simp [Ros.p]; exact hk), List.flatMap_append]
  simp [Ros.p]
 repeat' (first | refine zV ?_ | intro _)
 refine Zq [(2, _), (3, _), (4, _), (6, _), (11, _), (12, _)] (fun (ζ : (Nat) × (Value) × (List Value) × (List Tx)) => [(13, .int .i64 ζ.1), (7, ζ.2.1)]) (fun (ζ : (Nat) × (Value) × (List Value) × (List Tx)) => ρ) (fun (ζ : (Nat) × (Value) × (List Value) × (List Tx)) => [ZG ζ.2.1 ((ζ.2.2.2.map Yk).flatten) ζ.2.2.1 45]) (fun (ζ : (Nat) × (Value) × (List Value) × (List Tx)) => ζ.1 ≤ v.n ∧ ζ.2.2.2.length ≤ ζ.1 ∧ OwnS ζ.2.1 ζ.2.2.2.length ((ζ.2.2.2.map Yk).flatten) ζ.2.2.1 7 ∧ ζ.2.2.2.map Tx.p = (r.p.txns.take ζ.1).flatMap (putF t.p ov) ∧ (∀ x ∈ ζ.2.2.2, Tx.In ρ x)) (fun (ζ : (Nat) × (Value) × (List Value) × (List Tx)) => v.n - ζ.1) ((0, .slice none 0 0, [], [])) (⟨Nat.zero_le _, Nat.zero_le _, OwnS.nil 7, by simp, by simp⟩) Ze Ze rfl tk ?_
 rintro ⟨k, vv, sp, acc⟩ hI
 try simp only [List.cons_append, List.nil_append, List.append_assoc, List.append_eq] at hI ⊢
 try dsimp only at hI ⊢
 obtain ⟨hk, hal, hown, hmp, hac⟩ := hI
 obtain ⟨va, vc, rfl, _⟩ := hown.slice
 by_cases hlt : k < v.n
 ·obtain ⟨b, off, C, T, fr, e1, hb, hfit, hc⟩ := h.at'.at'.get (show k < r.txns.length by omega)
  have hx2 := hpt k (by omega)
  have hin := h.tx _ (List.getElem_mem (show k < r.txns.length by omega))
  generalize r.txns[k]'(by omega) = x at *
  rw [e1]
  by_cases hnum : x.num = t.num
  ·have hf : putF t.p ov x.p = if ov then [] else [t.p] := if_pos hnum
   rw [hf] at hx2
   cases ov
   ·repeat' (first | (refine ZH (css := [Yk t]) (sz := 7) rfl rfl rfl rfl (by simp) (by simp) rfl (fun bs => ?_); simp only [List.flatten_cons, List.flatten_nil, List.append_nil]) | (refine ZZ (ys := Yk t) (m := 1) rfl rfl hown (hR := by repeat (first | exact ZD | apply ZA)) SrcV.lit rfl rfl (by decide) rfl (by omega) (by omega) rfl (fun v3 sp3 hown3 => ?_)) | refine zV ?_ | intro _)
    have hm : (acc.map Yk).flatten ++ Yk t = ((acc ++ [t]).map Yk).flatten := by simp
    rw [hm] at hown3 ⊢
    rw [← e1]
    refine Zg (k + 1, v3, sp3, acc ++ [t]) (⟨hlt, by rw [List.length_append]; exact Nat.succ_le_succ hal, by rw [List.length_append]; exact hown3, by rw [List.map_append, hmp, hx2]; rfl, fun z hz => (List.mem_append.1 hz).elim (hac z) (fun hz => by rw [List.mem_singleton.1 hz]; exact ht)⟩) Ze Ze rfl tk inferInstance (by first | omega | (dsimp only; omega))
   ·repeat' (first | refine zV ?_ | intro _)
    rw [← e1]
    refine Zg (k + 1, .slice va acc.length vc, sp, acc) (⟨hlt, Nat.le_succ_of_le hal, hown, by rw [hmp, hx2]; exact (List.append_nil _).symm, hac⟩) Ze Ze rfl tk inferInstance (by first | omega | (dsimp only; omega))
  ·have hf : putF t.p ov x.p = [x.p] := if_neg hnum
   rw [hf] at hx2
   repeat' (first | (refine ZH (css := [Yk x]) (sz := 7) rfl rfl rfl rfl (by simp) (by simp) rfl (fun bs => ?_); simp only [List.flatten_cons, List.flatten_nil, List.append_nil]) | (refine ZZ (ys := Yk x) (m := 1) rfl rfl hown (hR := by repeat (first | exact ZD | apply ZA)) SrcV.lit rfl rfl (by decide) rfl (by omega) (by omega) rfl (fun v3 sp3 hown3 => ?_)) | refine zV ?_ | intro _)
   have hm : (acc.map Yk).flatten ++ Yk x = ((acc ++ [x]).map Yk).flatten := by simp
   rw [hm] at hown3 ⊢
   rw [← e1]
   refine Zg (k + 1, v3, sp3, acc ++ [x]) (⟨hlt, by rw [List.length_append]; exact Nat.succ_le_succ hal, by rw [List.length_append]; exact hown3, by rw [List.map_append, hmp, hx2]; rfl, fun z hz => (List.mem_append.1 hz).elim (hac z) (fun hz => by rw [List.mem_singleton.1 hz]; exact hin)⟩) Ze Ze rfl tk inferInstance (by first | omega | (dsimp only; omega))
 ·have hkn : k = r.txns.length := by omega
  repeat' (first | refine zV ?_ | intro _)
  refine ZY (ZG (.slice va acc.length vc) ((acc.map Yk).flatten) sp 45) (fun ρ3 hle3 hfz => ?_)
  obtain ⟨sa, sc, f1, hsc, hA2⟩ := hown.aIn rfl (fun x _ => txV_len x) hfz
  cases f1
  have q : (⟨r.next, acc⟩ : Ros).p = putO r.p t.p ov := by
   show (⟨r.next, acc.map Tx.p⟩ : Xh) = ⟨r.next, _⟩
   rw [hmp, List.take_of_length_le (by simp [Ros.p]; omega)]
  exact qE (L' := []) ⟨hle3, ⟨va, acc.length, vc⟩, ⟨r.next, acc⟩, rfl, ⟨⟨hA2, by show acc.length ≤ 1000000; omega, hsc⟩, fun y hy => (hac y hy).mono hle3⟩, q, rfl⟩
end Go.Proofs.E
