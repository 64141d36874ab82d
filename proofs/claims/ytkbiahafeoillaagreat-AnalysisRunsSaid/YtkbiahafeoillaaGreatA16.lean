/- Laws of analysis. Part 16 of 41. -/
import Derived.Test.YtkbiahafeoillaaGreatA15
namespace Go.Proofs.E
open Go
set_option linter.unusedVariables false
set_option linter.unusedSimpArgs false
set_option linter.unusedSectionVars false
set_option maxRecDepth 4000
set_option maxHeartbeats 1000000
attribute [local irreducible] Yl TL TC TE Spec Xb R1 Hp.le EnvLe TS TR YS Zk
theorem sort_le {m : List Nat} (h : sortB m = true) : ∀ {i j : Nat}, i ≤ j → j < m.length → m.getD i 0 ≤ m.getD j 0 := by
 intro i j
 induction j with
 | zero => intro hij _; rw [show i = 0 by omega]; exact Nat.le_refl _
 | succ j ih =>
  intro hij hj
  by_cases e : i = j + 1
  ·rw [e]; exact Nat.le_refl _
  ·have h1 := ih (by omega) (by omega)
   have h2 := List.all_eq_true.1 h (j + 1) (List.mem_range.2 hj)
   rw [decide_eq_true_eq] at h2
   rcases h2 with h2 | h2
   ·omega
   ·simp only [Nat.add_sub_cancel] at h2; omega
def markP (x : Tx) (i : Nat) : Prop := x.first ≤ x.marks.getD i 0 ∧ x.marks.getD i 0 ≤ x.undo ∧ (i = 0 ∨ x.marks.getD (i - 1) 0 ≤ x.marks.getD i 0)
theorem marks_all {x : Tx} (h : ∀ i, i < x.marks.length → markP x i) (h8 : x.marks.length ≤ 8) : WH x = decide (x.marks.length = 0 ∨ x.state = 1) := by
 unfold WH
 by_cases h0 : x.marks.length = 0
 ·simp [h0]
 ·have hs : sortB x.marks = true := List.all_eq_true.2 (fun i hi => decide_eq_true (h i (List.mem_range.1 hi)).2.2)
  have e1 := (h 0 (by omega)).1
  have e2 := (h (x.marks.length - 1) (by omega)).2.1
  rw [hs, decide_eq_false h0, Bool.false_or, Bool.true_and, decide_eq_true (⟨e1, e2⟩ : _ ∧ _), Bool.and_true]
  exact decide_eq_decide.2 (by omega)
theorem marks_bad {x : Tx} {k : Nat} (hk : k < x.marks.length) (h : ¬ markP x k) : WH x = false := by
 cases hb : WH x with
 | false => rfl
 | true =>
  exfalso
  unfold WH at hb
  rw [decide_eq_false (by omega), Bool.false_or, Bool.and_eq_true, Bool.and_eq_true, decide_eq_true_eq, decide_eq_true_eq] at hb
  obtain ⟨_, hs, h1, h2⟩ := hb
  refine h ⟨?_, ?_, ?_⟩
  ·have := sort_le hs (Nat.zero_le k) hk; omega
  ·have := sort_le hs (show k ≤ x.marks.length - 1 by omega) (by omega); omega
  ·by_cases e : k = 0
   ·exact .inl e
   ·exact .inr (sort_le hs (by omega) hk)
def tx18B (x : Tx) : Bool := decide (1 ≤ x.state ∧ x.state ≤ 3 ∧ 1 ≤ x.first ∧ x.first ≤ x.undo ∧ x.undo ≤ x.last ∧ x.last ≤ 1099511627776) && (Wp x.undo x.first x.stack && WH x)
theorem txn18_spec (ρ : Hp) (x : Tx) (h : Tx.In ρ x) : Spec Tryz.prog 112 [.agg ⟨Yk x⟩] ρ [] (fun v ρ' L' => v = .bool (tx18B x) ∧ ρ' = ρ ∧ L' = []) := by
 have hsl := h.s.len
 have hml := h.m.len
 have hsb := h.sb
 have hmb := h.mb
 unfold tx18B
 refine Zd Tryz.func112 rfl rfl rfl fun u R => ?_
 simp only [Zo, List.cons_append, List.nil_append]
 by_cases hH : (1 ≤ x.state ∧ x.state ≤ 3 ∧ 1 ≤ x.first ∧ x.first ≤ x.undo ∧ x.undo ≤ x.last ∧ x.last ≤ 1099511627776)
 ·rw [decide_eq_true hH, Bool.true_and]
  obtain ⟨g1, g2, g3, g4, g5, g6⟩ := hH
  by_cases h8 : x.mv.n ≤ 8
  ·repeat' (first | refine zV ?_ | intro _)
   generalize hq : Wp x.undo x.first x.stack = q
   rename_i bx
   refine Zq [(1, _), (46, _), (47, _)] (fun (ζ : (Nat) × (Nat)) => [(48, .int .i64 ζ.1), (2, .bool false)]) (fun (ζ : (Nat) × (Nat)) => ρ) (fun (ζ : (Nat) × (Nat)) => [[(bx, .cells ⟨Yk x⟩ 45 (0, 0))]]) (fun (ζ : (Nat) × (Nat)) => ζ.1 ≤ x.sv.n ∧ Wp x.undo ζ.2 (x.stack.drop ζ.1) = q ∧ x.first ≤ ζ.2 ∧ (ζ.1 = 0 → ζ.2 = x.first) ∧ (∀ y, 0 < ζ.1 → x.stack[ζ.1 - 1]? = some y → y.lsn = ζ.2)) (fun (ζ : (Nat) × (Nat)) => x.sv.n - ζ.1) ((0, x.first)) (⟨Nat.zero_le _, hq, Nat.le_refl _, fun _ => rfl, fun _ h => absurd h (Nat.lt_irrefl _)⟩) Ze Ze rfl tk ?_
   rintro ⟨k, last⟩ hI
   try simp only [List.cons_append, List.nil_append, List.append_assoc, List.append_eq] at hI ⊢
   try dsimp only at hI ⊢
   obtain ⟨hk, hok, hfl, hk0, hky⟩ := hI
   by_cases hlt : k < x.sv.n
   ·obtain ⟨b, off, C, T, fr, e1, hb, hfit, hc⟩ := h.s.get (show k < x.stack.length by omega)
    have hnext : ∀ y, 0 < k + 1 → x.stack[k + 1 - 1]? = some y → y.lsn = (x.stack[k]'(by omega)).lsn := fun y _ hy => by
     rw [Nat.add_sub_cancel, List.getElem?_eq_getElem (by omega)] at hy
     rw [Option.some.inj hy]
    rw [List.drop_eq_getElem_cons (show k < x.stack.length by omega), Wp] at hok
    generalize x.stack[k]'(by omega) = y at *
    (try dsimp only [Yk]); rw [e1]
    by_cases hz : k = 0
    ·have hl0 := hk0 hz
     by_cases hy : last < y.lsn ∧ y.lsn ≤ x.undo ∧ 1 ≤ y.cost ∧ y.cost ≤ 400
     ·rw [decide_eq_true hy, Bool.true_and] at hok
      repeat' (first | refine zV ?_ | intro _)
      refine Zu (Zk _ _ _) Zp ?_
      all_goals (refine ZN 0 ?_; refine Zz ?_; refine ZQ 1 ?_; refine ZN 2 ?_; refine ZQ 3 ?_; refine rCm 4 ?_; refine Zx 5 ?_)
      all_goals (first | refine Zb 6 ?_ | refine Za 6 ?_ | refine ZE 6 ?_ | (refine Zn (t := 58) rfl (fun hb => ?_) (fun hb => ?_) <;> (try simp only [kk] at hb) <;> first | refine Zb 6 ?_ | refine Za 6 ?_ | refine ZE 6 ?_))
      all_goals ((first | refine Zb 7 ?_ | refine Za 7 ?_ | refine ZL 7 ?_); (first | refine Zb 8 ?_ | refine Za 8 ?_ | refine ZE 8 ?_); (first | refine Zb 9 ?_ | refine Za 9 ?_ | refine ZL 9 ?_); (first | refine Zb 10 ?_ | refine Za 10 ?_ | refine Yg 10 ?_); refine Yj 11 ?_; refine Zx 12 ?_)
      all_goals (first | refine Zb 13 ?_ | refine Za 13 ?_ | refine ZI 13 ?_ | (refine Zn (t := 65) rfl (fun hb => ?_) (fun hb => ?_) <;> (try simp only [kk] at hb) <;> first | refine Zb 13 ?_ | refine Za 13 ?_ | refine ZI 13 ?_))
      all_goals ((first | refine Zb 14 ?_ | refine Za 14 ?_ | refine Yg 14 ?_); (first | refine Zb 15 ?_ | refine Za 15 ?_ | refine ZI 15 ?_))
      all_goals (first | refine Zb 16 ?_ | refine Za 16 ?_ | refine ZE 16 ?_ | (refine Zn (t := 68) rfl (fun hb => ?_) (fun hb => ?_) <;> (try simp only [kk] at hb) <;> first | refine Zb 16 ?_ | refine Za 16 ?_ | refine ZE 16 ?_))
      all_goals ((first | refine Zb 17 ?_ | refine Za 17 ?_ | refine ZL 17 ?_); (first | refine Zb 18 ?_ | refine Za 18 ?_ | refine ZI 18 ?_); (first | refine Zb 19 ?_ | refine Za 19 ?_ | refine wSb 19 ?_); (first | refine Zb 20 ?_ | refine Za 20 ?_ | refine wIa 20 ?_); (first | refine Zb 21 ?_ | refine Za 21 ?_ | refine ZE 21 ?_); (first | refine Zb 22 ?_ | refine Za 22 ?_ | refine ZL 22 ?_); (first | refine Zb 23 ?_ | refine Za 23 ?_ | refine ZE 23 ?_); (first | refine Zb 24 ?_ | refine Za 24 ?_ | refine ZL 24 ?_); (first | refine Zb 25 ?_ | refine Za 25 ?_ | refine Yg 25 ?_); (first | refine Zb 26 ?_ | refine Za 26 ?_ | refine wPk 26 ?_); refine Yj 27 ?_; refine Zx 28 ?_)
      all_goals (first | refine Zb 29 ?_ | refine Za 29 ?_ | refine ZE 29 ?_ | (refine Zn (t := 81) rfl (fun hb => ?_) (fun hb => ?_) <;> (try simp only [kk] at hb) <;> first | refine Zb 29 ?_ | refine Za 29 ?_ | refine ZE 29 ?_))
      all_goals ((first | refine Zb 30 ?_ | refine Za 30 ?_ | refine ZL 30 ?_); (first | refine Zb 31 ?_ | refine Za 31 ?_ | refine Yg 31 ?_); refine Yj 32 ?_; refine Zx 33 ?_)
      all_goals (first | refine Zb 34 ?_ | refine Za 34 ?_ | refine ZE 34 ?_ | (refine Zn (t := 86) rfl (fun hb => ?_) (fun hb => ?_) <;> (try simp only [kk] at hb) <;> first | refine Zb 34 ?_ | refine Za 34 ?_ | refine ZE 34 ?_))
      all_goals ((first | refine Zb 35 ?_ | refine Za 35 ?_ | refine ZL 35 ?_); (first | refine Zb 36 ?_ | refine Za 36 ?_ | refine Yg 36 ?_); refine Yj 37 ?_; refine Zv ?_)
      all_goals (repeat' (first | refine zV ?_ | intro _))
      all_goals rw [← e1]
      all_goals refine Zg (k + 1, y.lsn) (⟨hlt, hok, by dsimp only; omega, fun h => by omega, hnext⟩) Ze Ze rfl tk inferInstance (by first | omega | (dsimp only; omega))
     ·rw [decide_eq_false hy, Bool.false_and] at hok
      subst hok
      rw [Bool.false_and]
      repeat' (first | refine zV ?_ | intro _)
      refine Zu (Zk _ _ _) Zp ?_
      all_goals (refine ZN 0 ?_; refine Zz ?_; refine ZQ 1 ?_; refine ZN 2 ?_; refine ZQ 3 ?_; refine rCm 4 ?_; refine Zx 5 ?_)
      all_goals (first | refine Zb 6 ?_ | refine Za 6 ?_ | refine ZE 6 ?_ | (refine Zn (t := 58) rfl (fun hb => ?_) (fun hb => ?_) <;> (try simp only [kk] at hb) <;> first | refine Zb 6 ?_ | refine Za 6 ?_ | refine ZE 6 ?_))
      all_goals ((first | refine Zb 7 ?_ | refine Za 7 ?_ | refine ZL 7 ?_); (first | refine Zb 8 ?_ | refine Za 8 ?_ | refine ZE 8 ?_); (first | refine Zb 9 ?_ | refine Za 9 ?_ | refine ZL 9 ?_); (first | refine Zb 10 ?_ | refine Za 10 ?_ | refine Yg 10 ?_); refine Yj 11 ?_; refine Zx 12 ?_)
      all_goals (first | refine Zb 13 ?_ | refine Za 13 ?_ | refine ZI 13 ?_ | (refine Zn (t := 65) rfl (fun hb => ?_) (fun hb => ?_) <;> (try simp only [kk] at hb) <;> first | refine Zb 13 ?_ | refine Za 13 ?_ | refine ZI 13 ?_))
      all_goals ((first | refine Zb 14 ?_ | refine Za 14 ?_ | refine Yg 14 ?_); (first | refine Zb 15 ?_ | refine Za 15 ?_ | refine ZI 15 ?_))
      all_goals (first | refine Zb 16 ?_ | refine Za 16 ?_ | refine ZE 16 ?_ | (refine Zn (t := 68) rfl (fun hb => ?_) (fun hb => ?_) <;> (try simp only [kk] at hb) <;> first | refine Zb 16 ?_ | refine Za 16 ?_ | refine ZE 16 ?_))
      all_goals ((first | refine Zb 17 ?_ | refine Za 17 ?_ | refine ZL 17 ?_); (first | refine Zb 18 ?_ | refine Za 18 ?_ | refine ZI 18 ?_); (first | refine Zb 19 ?_ | refine Za 19 ?_ | refine wSb 19 ?_); (first | refine Zb 20 ?_ | refine Za 20 ?_ | refine wIa 20 ?_); (first | refine Zb 21 ?_ | refine Za 21 ?_ | refine ZE 21 ?_); (first | refine Zb 22 ?_ | refine Za 22 ?_ | refine ZL 22 ?_); (first | refine Zb 23 ?_ | refine Za 23 ?_ | refine ZE 23 ?_); (first | refine Zb 24 ?_ | refine Za 24 ?_ | refine ZL 24 ?_); (first | refine Zb 25 ?_ | refine Za 25 ?_ | refine Yg 25 ?_); (first | refine Zb 26 ?_ | refine Za 26 ?_ | refine wPk 26 ?_); refine Yj 27 ?_; refine Zx 28 ?_)
      all_goals (first | refine Zb 29 ?_ | refine Za 29 ?_ | refine ZE 29 ?_ | (refine Zn (t := 81) rfl (fun hb => ?_) (fun hb => ?_) <;> (try simp only [kk] at hb) <;> first | refine Zb 29 ?_ | refine Za 29 ?_ | refine ZE 29 ?_))
      all_goals ((first | refine Zb 30 ?_ | refine Za 30 ?_ | refine ZL 30 ?_); (first | refine Zb 31 ?_ | refine Za 31 ?_ | refine Yg 31 ?_); refine Yj 32 ?_; refine Zx 33 ?_)
      all_goals (first | refine Zb 34 ?_ | refine Za 34 ?_ | refine ZE 34 ?_ | (refine Zn (t := 86) rfl (fun hb => ?_) (fun hb => ?_) <;> (try simp only [kk] at hb) <;> first | refine Zb 34 ?_ | refine Za 34 ?_ | refine ZE 34 ?_))
      all_goals ((first | refine Zb 35 ?_ | refine Za 35 ?_ | refine ZL 35 ?_); (first | refine Zb 36 ?_ | refine Za 36 ?_ | refine Yg 36 ?_); refine Yj 37 ?_; refine Zv ?_)
      all_goals (repeat' (first | refine zV ?_ | (refine YL ?_; refine ZB rfl rfl (fun hb => ?_) (fun hb => ?_) <;> (try simp only [decide_eq_true_eq, decide_eq_false_iff_not, Bool.not_eq_true, Bool.not_eq_false, beq_iff_eq, bne_iff_ne, ne_eq, decide_eq_decide, Bool.not_eq_eq_eq_not, Bool.not_true, Bool.not_false, beq_eq_false_iff_ne, bne_eq_false_iff_eq, Bool.and_eq_true, Bool.or_eq_true, Bool.and_eq_false_imp, Bool.or_eq_false_iff, bq2, bqt, bqf] at hb)) | (refine ZS ?_; refine ZM rfl (fun hb => ?_) (fun hb => ?_) <;> (try simp only [decide_eq_true_eq, decide_eq_false_iff_not, Bool.not_eq_true, Bool.not_eq_false, beq_iff_eq, bne_iff_ne, ne_eq, decide_eq_decide, Bool.not_eq_eq_eq_not, Bool.not_true, Bool.not_false, beq_eq_false_iff_ne, bne_eq_false_iff_eq, Bool.and_eq_true, Bool.or_eq_true, Bool.and_eq_false_imp, Bool.or_eq_false_iff, bq2, bqt, bqf] at hb)) | intro _))
      all_goals first | exact qE (L' := []) ⟨rfl, rfl, rfl⟩ | (exfalso; omega)
    ·obtain ⟨b2, off2, C2, T2, fr2, f1, hb2, hfit2, hc2⟩ := h.s.get (show k - 1 < x.stack.length by omega)
     have hlp := hky _ (by omega) (List.getElem?_eq_getElem (show k - 1 < x.stack.length by omega))
     generalize x.stack[k - 1]'(by omega) = p at *
     rw [e1] at f1
     cases f1
     rw [hb] at hb2
     cases hb2
     have ek : ((k : Int) - 1).toNat = k - 1 := by omega
     have hcy : C[off + ((k : Int) - 1).toNat * 2]? = some (.int .u64 p.lsn) := by
      have := congrArg (fun l => l[0]?) hc2
      rw [ek]
      simp only [List.getElem?_take, List.getElem?_drop] at this
      simpa using this
     by_cases hy : last < y.lsn ∧ y.lsn ≤ x.undo ∧ 1 ≤ y.cost ∧ y.cost ≤ 400
     ·rw [decide_eq_true hy, Bool.true_and] at hok
      repeat' (first | refine zV ?_ | intro _)
      refine Zu (Zk _ _ _) Zp ?_
      all_goals (refine ZN 0 ?_; refine Zz ?_; refine ZQ 1 ?_; refine ZN 2 ?_; refine ZQ 3 ?_; refine rCm 4 ?_; refine Zx 5 ?_)
      all_goals (first | refine Zb 6 ?_ | refine Za 6 ?_ | refine ZE 6 ?_ | (refine Zn (t := 58) rfl (fun hb => ?_) (fun hb => ?_) <;> (try simp only [kk] at hb) <;> first | refine Zb 6 ?_ | refine Za 6 ?_ | refine ZE 6 ?_))
      all_goals ((first | refine Zb 7 ?_ | refine Za 7 ?_ | refine ZL 7 ?_); (first | refine Zb 8 ?_ | refine Za 8 ?_ | refine ZE 8 ?_); (first | refine Zb 9 ?_ | refine Za 9 ?_ | refine ZL 9 ?_); (first | refine Zb 10 ?_ | refine Za 10 ?_ | refine Yg 10 ?_); refine Yj 11 ?_; refine Zx 12 ?_)
      all_goals (first | refine Zb 13 ?_ | refine Za 13 ?_ | refine ZI 13 ?_ | (refine Zn (t := 65) rfl (fun hb => ?_) (fun hb => ?_) <;> (try simp only [kk] at hb) <;> first | refine Zb 13 ?_ | refine Za 13 ?_ | refine ZI 13 ?_))
      all_goals ((first | refine Zb 14 ?_ | refine Za 14 ?_ | refine Yg 14 ?_); (first | refine Zb 15 ?_ | refine Za 15 ?_ | refine ZI 15 ?_))
      all_goals (first | refine Zb 16 ?_ | refine Za 16 ?_ | refine ZE 16 ?_ | (refine Zn (t := 68) rfl (fun hb => ?_) (fun hb => ?_) <;> (try simp only [kk] at hb) <;> first | refine Zb 16 ?_ | refine Za 16 ?_ | refine ZE 16 ?_))
      all_goals ((first | refine Zb 17 ?_ | refine Za 17 ?_ | refine ZL 17 ?_); (first | refine Zb 18 ?_ | refine Za 18 ?_ | refine ZI 18 ?_); (first | refine Zb 19 ?_ | refine Za 19 ?_ | refine wSb 19 ?_); (first | refine Zb 20 ?_ | refine Za 20 ?_ | refine wIa 20 ?_); (first | refine Zb 21 ?_ | refine Za 21 ?_ | refine ZE 21 ?_); (first | refine Zb 22 ?_ | refine Za 22 ?_ | refine ZL 22 ?_); (first | refine Zb 23 ?_ | refine Za 23 ?_ | refine ZE 23 ?_); (first | refine Zb 24 ?_ | refine Za 24 ?_ | refine ZL 24 ?_); (first | refine Zb 25 ?_ | refine Za 25 ?_ | refine Yg 25 ?_); (first | refine Zb 26 ?_ | refine Za 26 ?_ | refine wPk 26 ?_); refine Yj 27 ?_; refine Zx 28 ?_)
      all_goals (first | refine Zb 29 ?_ | refine Za 29 ?_ | refine ZE 29 ?_ | (refine Zn (t := 81) rfl (fun hb => ?_) (fun hb => ?_) <;> (try simp only [kk] at hb) <;> first | refine Zb 29 ?_ | refine Za 29 ?_ | refine ZE 29 ?_))
      all_goals ((first | refine Zb 30 ?_ | refine Za 30 ?_ | refine ZL 30 ?_); (first | refine Zb 31 ?_ | refine Za 31 ?_ | refine Yg 31 ?_); refine Yj 32 ?_; refine Zx 33 ?_)
      all_goals (first | refine Zb 34 ?_ | refine Za 34 ?_ | refine ZE 34 ?_ | (refine Zn (t := 86) rfl (fun hb => ?_) (fun hb => ?_) <;> (try simp only [kk] at hb) <;> first | refine Zb 34 ?_ | refine Za 34 ?_ | refine ZE 34 ?_))
      all_goals ((first | refine Zb 35 ?_ | refine Za 35 ?_ | refine ZL 35 ?_); (first | refine Zb 36 ?_ | refine Za 36 ?_ | refine Yg 36 ?_); refine Yj 37 ?_; refine Zv ?_)
      all_goals (repeat' (first | refine zV ?_ | intro _))
      all_goals rw [← e1]
      all_goals refine Zg (k + 1, y.lsn) (⟨hlt, hok, by dsimp only; omega, fun h => by omega, hnext⟩) Ze Ze rfl tk inferInstance (by first | omega | (dsimp only; omega))
     ·rw [decide_eq_false hy, Bool.false_and] at hok
      subst hok
      rw [Bool.false_and]
      repeat' (first | refine zV ?_ | intro _)
      refine Zu (Zk _ _ _) Zp ?_
      all_goals (refine ZN 0 ?_; refine Zz ?_; refine ZQ 1 ?_; refine ZN 2 ?_; refine ZQ 3 ?_; refine rCm 4 ?_; refine Zx 5 ?_)
      all_goals (first | refine Zb 6 ?_ | refine Za 6 ?_ | refine ZE 6 ?_ | (refine Zn (t := 58) rfl (fun hb => ?_) (fun hb => ?_) <;> (try simp only [kk] at hb) <;> first | refine Zb 6 ?_ | refine Za 6 ?_ | refine ZE 6 ?_))
      all_goals ((first | refine Zb 7 ?_ | refine Za 7 ?_ | refine ZL 7 ?_); (first | refine Zb 8 ?_ | refine Za 8 ?_ | refine ZE 8 ?_); (first | refine Zb 9 ?_ | refine Za 9 ?_ | refine ZL 9 ?_); (first | refine Zb 10 ?_ | refine Za 10 ?_ | refine Yg 10 ?_); refine Yj 11 ?_; refine Zx 12 ?_)
      all_goals (first | refine Zb 13 ?_ | refine Za 13 ?_ | refine ZI 13 ?_ | (refine Zn (t := 65) rfl (fun hb => ?_) (fun hb => ?_) <;> (try simp only [kk] at hb) <;> first | refine Zb 13 ?_ | refine Za 13 ?_ | refine ZI 13 ?_))
      all_goals ((first | refine Zb 14 ?_ | refine Za 14 ?_ | refine Yg 14 ?_); (first | refine Zb 15 ?_ | refine Za 15 ?_ | refine ZI 15 ?_))
      all_goals (first | refine Zb 16 ?_ | refine Za 16 ?_ | refine ZE 16 ?_ | (refine Zn (t := 68) rfl (fun hb => ?_) (fun hb => ?_) <;> (try simp only [kk] at hb) <;> first | refine Zb 16 ?_ | refine Za 16 ?_ | refine ZE 16 ?_))
      all_goals ((first | refine Zb 17 ?_ | refine Za 17 ?_ | refine ZL 17 ?_); (first | refine Zb 18 ?_ | refine Za 18 ?_ | refine ZI 18 ?_); (first | refine Zb 19 ?_ | refine Za 19 ?_ | refine wSb 19 ?_); (first | refine Zb 20 ?_ | refine Za 20 ?_ | refine wIa 20 ?_); (first | refine Zb 21 ?_ | refine Za 21 ?_ | refine ZE 21 ?_); (first | refine Zb 22 ?_ | refine Za 22 ?_ | refine ZL 22 ?_); (first | refine Zb 23 ?_ | refine Za 23 ?_ | refine ZE 23 ?_); (first | refine Zb 24 ?_ | refine Za 24 ?_ | refine ZL 24 ?_); (first | refine Zb 25 ?_ | refine Za 25 ?_ | refine Yg 25 ?_); (first | refine Zb 26 ?_ | refine Za 26 ?_ | refine wPk 26 ?_); refine Yj 27 ?_; refine Zx 28 ?_)
      all_goals (first | refine Zb 29 ?_ | refine Za 29 ?_ | refine ZE 29 ?_ | (refine Zn (t := 81) rfl (fun hb => ?_) (fun hb => ?_) <;> (try simp only [kk] at hb) <;> first | refine Zb 29 ?_ | refine Za 29 ?_ | refine ZE 29 ?_))
      all_goals ((first | refine Zb 30 ?_ | refine Za 30 ?_ | refine ZL 30 ?_); (first | refine Zb 31 ?_ | refine Za 31 ?_ | refine Yg 31 ?_); refine Yj 32 ?_; refine Zx 33 ?_)
      all_goals (first | refine Zb 34 ?_ | refine Za 34 ?_ | refine ZE 34 ?_ | (refine Zn (t := 86) rfl (fun hb => ?_) (fun hb => ?_) <;> (try simp only [kk] at hb) <;> first | refine Zb 34 ?_ | refine Za 34 ?_ | refine ZE 34 ?_))
      all_goals ((first | refine Zb 35 ?_ | refine Za 35 ?_ | refine ZL 35 ?_); (first | refine Zb 36 ?_ | refine Za 36 ?_ | refine Yg 36 ?_); refine Yj 37 ?_; refine Zv ?_)
      all_goals (repeat' (first | refine zV ?_ | (refine YL ?_; refine ZB rfl rfl (fun hb => ?_) (fun hb => ?_) <;> (try simp only [decide_eq_true_eq, decide_eq_false_iff_not, Bool.not_eq_true, Bool.not_eq_false, beq_iff_eq, bne_iff_ne, ne_eq, decide_eq_decide, Bool.not_eq_eq_eq_not, Bool.not_true, Bool.not_false, beq_eq_false_iff_ne, bne_eq_false_iff_eq, Bool.and_eq_true, Bool.or_eq_true, Bool.and_eq_false_imp, Bool.or_eq_false_iff, bq2, bqt, bqf] at hb)) | (refine ZS ?_; refine ZM rfl (fun hb => ?_) (fun hb => ?_) <;> (try simp only [decide_eq_true_eq, decide_eq_false_iff_not, Bool.not_eq_true, Bool.not_eq_false, beq_iff_eq, bne_iff_ne, ne_eq, decide_eq_decide, Bool.not_eq_eq_eq_not, Bool.not_true, Bool.not_false, beq_eq_false_iff_ne, bne_eq_false_iff_eq, Bool.and_eq_true, Bool.or_eq_true, Bool.and_eq_false_imp, Bool.or_eq_false_iff, bq2, bqt, bqf] at hb)) | intro _))
      all_goals first | exact qE (L' := []) ⟨rfl, rfl, rfl⟩ | (exfalso; omega)
   ·have hk2 : k = x.stack.length := by omega
    rw [hk2, List.drop_length, Wp] at hok
    subst hok
    rw [Bool.true_and]
    repeat' (first | refine zV ?_ | intro _)
    refine Zq [(1, _), (93, _), (94, _)] (fun (ζ : (Nat)) => [(95, .int .i64 ζ), (2, .bool false)]) (fun (ζ : (Nat)) => ρ) (fun (ζ : (Nat)) => [[(bx, .cells ⟨Yk x⟩ 45 (0, 0))]]) (fun (ζ : (Nat)) => ζ ≤ x.mv.n ∧ ∀ i, i < ζ → markP x i) (fun (ζ : (Nat)) => x.mv.n - ζ) (0) (⟨Nat.zero_le _, fun i hi => absurd hi (Nat.not_lt_zero i)⟩) Ze Ze rfl tk ?_
    rintro j hI
    try simp only [List.cons_append, List.nil_append, List.append_assoc, List.append_eq] at hI ⊢
    try dsimp only at hI ⊢
    obtain ⟨hj, hall⟩ := hI
    by_cases hlt2 : j < x.mv.n
    ·obtain ⟨b, off, C, T, fr, e1, hb, hc⟩ := h.m.get (show j < x.marks.length by omega)
     have hall2 : markP x j → ∀ i, i < j + 1 → markP x i := fun hm i hi => by
      by_cases e : i = j
      ·rw [e]; exact hm
      ·exact hall i (by omega)
     have hbad := fun (e : ¬ markP x j) => marks_bad (show j < x.marks.length by omega) e
     have gj : x.marks.getD j 0 = x.marks[j]'(by omega) := XM (by omega)
     unfold markP at hall2 hbad
     rw [gj] at hall2 hbad
     generalize x.marks[j]'(by omega) = y at *
     (try dsimp only [Yk]); rw [e1]
     by_cases hz : j = 0
     ·by_cases hy : x.first ≤ y ∧ y ≤ x.undo
      ·repeat' (first | refine zV ?_ | intro _)
       rw [← e1]
       refine Zg (j + 1) (⟨hlt2, fun i hi => by have := hall2 ⟨hy.1, hy.2, .inl hz⟩ i hi; exact this⟩) Ze Ze rfl tk inferInstance (by first | omega | (dsimp only; omega))
      ·rw [hbad (by omega)]
       repeat' (first | refine zV ?_ | (refine YL ?_; refine ZB rfl rfl (fun hb => ?_) (fun hb => ?_) <;> (try simp only [decide_eq_true_eq, decide_eq_false_iff_not, Bool.not_eq_true, Bool.not_eq_false, beq_iff_eq, bne_iff_ne, ne_eq, decide_eq_decide, Bool.not_eq_eq_eq_not, Bool.not_true, Bool.not_false, beq_eq_false_iff_ne, bne_eq_false_iff_eq, Bool.and_eq_true, Bool.or_eq_true, Bool.and_eq_false_imp, Bool.or_eq_false_iff, bq2, bqt, bqf] at hb)) | (refine ZS ?_; refine ZM rfl (fun hb => ?_) (fun hb => ?_) <;> (try simp only [decide_eq_true_eq, decide_eq_false_iff_not, Bool.not_eq_true, Bool.not_eq_false, beq_iff_eq, bne_iff_ne, ne_eq, decide_eq_decide, Bool.not_eq_eq_eq_not, Bool.not_true, Bool.not_false, beq_eq_false_iff_ne, bne_eq_false_iff_eq, Bool.and_eq_true, Bool.or_eq_true, Bool.and_eq_false_imp, Bool.or_eq_false_iff, bq2, bqt, bqf] at hb)) | intro _)
       all_goals first | exact qE (L' := []) ⟨rfl, rfl, rfl⟩ | (exfalso; omega)
     ·obtain ⟨b2, off2, C2, T2, fr2, f1, hb2, hc2⟩ := h.m.get (show j - 1 < x.marks.length by omega)
      have gp : x.marks.getD (j - 1) 0 = x.marks[j - 1]'(by omega) := XM (by omega)
      rw [gp] at hall2 hbad
      generalize x.marks[j - 1]'(by omega) = p at *
      rw [e1] at f1
      cases f1
      rw [hb] at hb2
      cases hb2
      have ek : ((j : Int) - 1).toNat = j - 1 := by omega
      rw [← ek] at hc2
      by_cases hy : x.first ≤ y ∧ y ≤ x.undo ∧ p ≤ y
      ·repeat' (first | refine zV ?_ | intro _)
       rw [← e1]
       refine Zg (j + 1) (⟨hlt2, fun i hi => by have := hall2 ⟨hy.1, hy.2.1, .inr hy.2.2⟩ i hi; exact this⟩) Ze Ze rfl tk inferInstance (by first | omega | (dsimp only; omega))
      ·rw [hbad (by omega)]
       repeat' (first | refine zV ?_ | (refine YL ?_; refine ZB rfl rfl (fun hb => ?_) (fun hb => ?_) <;> (try simp only [decide_eq_true_eq, decide_eq_false_iff_not, Bool.not_eq_true, Bool.not_eq_false, beq_iff_eq, bne_iff_ne, ne_eq, decide_eq_decide, Bool.not_eq_eq_eq_not, Bool.not_true, Bool.not_false, beq_eq_false_iff_ne, bne_eq_false_iff_eq, Bool.and_eq_true, Bool.or_eq_true, Bool.and_eq_false_imp, Bool.or_eq_false_iff, bq2, bqt, bqf] at hb)) | (refine ZS ?_; refine ZM rfl (fun hb => ?_) (fun hb => ?_) <;> (try simp only [decide_eq_true_eq, decide_eq_false_iff_not, Bool.not_eq_true, Bool.not_eq_false, beq_iff_eq, bne_iff_ne, ne_eq, decide_eq_decide, Bool.not_eq_eq_eq_not, Bool.not_true, Bool.not_false, beq_eq_false_iff_ne, bne_eq_false_iff_eq, Bool.and_eq_true, Bool.or_eq_true, Bool.and_eq_false_imp, Bool.or_eq_false_iff, bq2, bqt, bqf] at hb)) | intro _)
       all_goals first | exact qE (L' := []) ⟨rfl, rfl, rfl⟩ | (exfalso; omega)
    ·have hj2 : j = x.mv.n := by omega
     subst hj2
     rw [marks_all (by rw [hml]; exact hall) (by omega), hml]
     repeat' (first | refine zV ?_ | (refine YL ?_; refine ZB rfl rfl (fun hb => ?_) (fun hb => ?_) <;> (try simp only [decide_eq_true_eq, decide_eq_false_iff_not, Bool.not_eq_true, Bool.not_eq_false, beq_iff_eq, bne_iff_ne, ne_eq, decide_eq_decide, Bool.not_eq_eq_eq_not, Bool.not_true, Bool.not_false, beq_eq_false_iff_ne, bne_eq_false_iff_eq, Bool.and_eq_true, Bool.or_eq_true, Bool.and_eq_false_imp, Bool.or_eq_false_iff, bq2, bqt, bqf] at hb)) | (refine ZS ?_; refine ZM rfl (fun hb => ?_) (fun hb => ?_) <;> (try simp only [decide_eq_true_eq, decide_eq_false_iff_not, Bool.not_eq_true, Bool.not_eq_false, beq_iff_eq, bne_iff_ne, ne_eq, decide_eq_decide, Bool.not_eq_eq_eq_not, Bool.not_true, Bool.not_false, beq_eq_false_iff_ne, bne_eq_false_iff_eq, Bool.and_eq_true, Bool.or_eq_true, Bool.and_eq_false_imp, Bool.or_eq_false_iff, bq2, bqt, bqf] at hb)) | intro _)
     all_goals (refine qF (L' := []) ?_; exact ⟨Ym (by first | (simp only [decide_eq_true_eq, Bool.false_eq_true, true_iff, false_iff, beq_iff_eq]; omega) | (simp; omega)), rfl, rfl⟩)
  ·have hmk : WH x = false := by
    unfold WH
    rw [hml, decide_eq_false (show ¬ x.mv.n = 0 by omega), decide_eq_false (show ¬ (x.state = 1 ∧ x.mv.n ≤ 8) by omega)]; rfl
   rw [hmk, Bool.and_false]
   repeat' (first | refine zV ?_ | intro _)
   exact qE (L' := []) ⟨rfl, rfl, rfl⟩
 ·rw [decide_eq_false hH, Bool.false_and]
  repeat' (first | refine zV ?_ | (refine YL ?_; refine ZB rfl rfl (fun hb => ?_) (fun hb => ?_) <;> (try simp only [decide_eq_true_eq, decide_eq_false_iff_not, Bool.not_eq_true, Bool.not_eq_false, beq_iff_eq, bne_iff_ne, ne_eq, decide_eq_decide, Bool.not_eq_eq_eq_not, Bool.not_true, Bool.not_false, beq_eq_false_iff_ne, bne_eq_false_iff_eq, Bool.and_eq_true, Bool.or_eq_true, Bool.and_eq_false_imp, Bool.or_eq_false_iff, bq2, bqt, bqf] at hb)) | (refine ZS ?_; refine ZM rfl (fun hb => ?_) (fun hb => ?_) <;> (try simp only [decide_eq_true_eq, decide_eq_false_iff_not, Bool.not_eq_true, Bool.not_eq_false, beq_iff_eq, bne_iff_ne, ne_eq, decide_eq_decide, Bool.not_eq_eq_eq_not, Bool.not_true, Bool.not_false, beq_eq_false_iff_ne, bne_eq_false_iff_eq, Bool.and_eq_true, Bool.or_eq_true, Bool.and_eq_false_imp, Bool.or_eq_false_iff, bq2, bqt, bqf] at hb)) | intro _)
  all_goals first | exact qE (L' := []) ⟨rfl, rfl, rfl⟩ | (exfalso; omega)
end Go.Proofs.E
