/- Laws of analysis. Part 17 of 37. -/
import Derived.Test.YtkbiahafeoillaaGreatB16
namespace Go.Proofs.E
open Go
set_option linter.unusedVariables false
set_option linter.unusedSimpArgs false
set_option linter.unusedSectionVars false
set_option maxRecDepth 4000
set_option maxHeartbeats 1000000
attribute [local irreducible] Yl TL TC TE Spec YY R1 Hp.le EnvLe TS TR YS Zq
theorem sort_le {m : List Nat} (h : sortB m = true) : ∀ {i j : Nat}, i ≤ j → j < m.length → m.getD i 0 ≤ m.getD j 0 := by
 intro i j
 induction j with
 | zero => intro hij _; rw [show i = 0 by omega]; exact Nat.le_refl _
 | succ j ih =>
  intro hij hj
  by_cases e : i = j + 1
  ·rw [e]; exact Nat.le_refl _
  ·have h1 := ih (by omega) (by omega)
   have h2 := List.all_eq_true.1 h (j + 1) (List.mem_range.2 hj)
   rw [decide_eq_true_eq] at h2
   rcases h2 with h2 | h2
   ·omega
   ·simp only [Nat.add_sub_cancel] at h2; omega
def markP (x : Tx) (i : Nat) : Prop := x.first ≤ x.marks.getD i 0 ∧ x.marks.getD i 0 ≤ x.undo ∧ (i = 0 ∨ x.marks.getD (i - 1) 0 ≤ x.marks.getD i 0)
theorem marks_all {x : Tx} (h : ∀ i, i < x.marks.length → markP x i) (h8 : x.marks.length ≤ 8) : Wq x = decide (x.marks.length = 0 ∨ x.state = 1) := by
 unfold Wq
 by_cases h0 : x.marks.length = 0
 ·simp [h0]
 ·have hs : sortB x.marks = true := List.all_eq_true.2 (fun i hi => decide_eq_true (h i (List.mem_range.1 hi)).2.2)
  have e1 := (h 0 (by omega)).1
  have e2 := (h (x.marks.length - 1) (by omega)).2.1
  rw [hs, decide_eq_false h0, Bool.false_or, Bool.true_and, decide_eq_true (⟨e1, e2⟩ : _ ∧ _), Bool.and_true]
  exact decide_eq_decide.2 (by omega)
theorem marks_bad {x : Tx} {k : Nat} (hk : k < x.marks.length) (h : ¬ markP x k) : Wq x = false := by
 cases hb : Wq x with
 | false => rfl
 | true =>
  exfalso
  unfold Wq at hb
  rw [decide_eq_false (by omega), Bool.false_or, Bool.and_eq_true, Bool.and_eq_true, decide_eq_true_eq, decide_eq_true_eq] at hb
  obtain ⟨_, hs, h1, h2⟩ := hb
  refine h ⟨?_, ?_, ?_⟩
  ·have := sort_le hs (Nat.zero_le k) hk; omega
  ·have := sort_le hs (show k ≤ x.marks.length - 1 by omega) (by omega); omega
  ·by_cases e : k = 0
   ·exact .inl e
   ·exact .inr (sort_le hs (by omega) hk)
def tx18B (x : Tx) : Bool := decide (1 ≤ x.state ∧ x.state ≤ 3 ∧ 1 ≤ x.first ∧ x.first ≤ x.undo ∧ x.undo ≤ x.last ∧ x.last ≤ 1099511627776) && (Wb x.undo x.first x.stack && Wq x)
theorem txn18_spec (ρ : Hp) (x : Tx) (h : Tx.In ρ x) : Spec Tryz.prog 112 [.agg ⟨txV x⟩] ρ [] (fun v ρ' L' => v = .bool (tx18B x) ∧ ρ' = ρ ∧ L' = []) := by
 have hsl := h.s.len
 have hml := h.m.len
 have hsb := h.sb
 have hmb := h.mb
 unfold tx18B
 refine Zg Tryz.func112 rfl rfl rfl fun u R => ?_
 simp only [Zx, List.cons_append, List.nil_append]
 by_cases hH : (1 ≤ x.state ∧ x.state ≤ 3 ∧ 1 ≤ x.first ∧ x.first ≤ x.undo ∧ x.undo ≤ x.last ∧ x.last ≤ 1099511627776)
 ·rw [decide_eq_true hH, Bool.true_and]
  obtain ⟨g1, g2, g3, g4, g5, g6⟩ := hH
  by_cases h8 : x.mv.n ≤ 8
  ·repeat' (first | (refine Zz ?_; refine Zk (Zc rfl) rfl rfl ?_) | (refine Zh ?_; first | (refine Zf ?_; refine qQ ?_) | refine Zm ?_) | refine Zb ?_ | (refine Zi ?_; refine Zr ?_) | (refine Zj ?_; refine Zs ?_) | intro _)
   generalize hq : Wb x.undo x.first x.stack = q
   rename_i bx
   refine ZC [(1, _), (46, _), (47, _)] (fun (ζ : (Nat) × (Nat)) => [(48, .int .i64 ζ.1), (2, .bool false)]) (fun (ζ : (Nat) × (Nat)) => ρ) (fun (ζ : (Nat) × (Nat)) => [[(bx, .cells ⟨txV x⟩ 45 (0, 0))]]) (fun (ζ : (Nat) × (Nat)) => ζ.1 ≤ x.sv.n ∧ Wb x.undo ζ.2 (x.stack.drop ζ.1) = q ∧ x.first ≤ ζ.2 ∧ (ζ.1 = 0 → ζ.2 = x.first) ∧ (∀ y, 0 < ζ.1 → x.stack[ζ.1 - 1]? = some y → y.lsn = ζ.2)) (fun (ζ : (Nat) × (Nat)) => x.sv.n - ζ.1) ((0, x.first)) (⟨Nat.zero_le _, hq, Nat.le_refl _, fun _ => rfl, fun _ h => absurd h (Nat.lt_irrefl _)⟩) Zl Zl rfl tk ?_
   rintro ⟨k, last⟩ hI
   try simp only [List.cons_append, List.nil_append, List.append_assoc, List.append_eq] at hI ⊢
   try dsimp only at hI ⊢
   obtain ⟨hk, hok, hfl, hk0, hky⟩ := hI
   by_cases hlt : k < x.sv.n
   ·obtain ⟨b, off, C, T, fr, e1, hb, hfit, hc⟩ := h.s.get (show k < x.stack.length by omega)
    have hnext : ∀ y, 0 < k + 1 → x.stack[k + 1 - 1]? = some y → y.lsn = (x.stack[k]'(by omega)).lsn := fun y _ hy => by
     rw [Nat.add_sub_cancel, List.getElem?_eq_getElem (by omega)] at hy
     rw [Option.some.inj hy]
    rw [List.drop_eq_getElem_cons (show k < x.stack.length by omega), Wb] at hok
    generalize x.stack[k]'(by omega) = y at *
    (try dsimp only [txV]); rw [e1]
    by_cases hz : k = 0
    ·have hl0 := hk0 hz
     by_cases hy : last < y.lsn ∧ y.lsn ≤ x.undo ∧ 1 ≤ y.cost ∧ y.cost ≤ 400
     ·rw [decide_eq_true hy, Bool.true_and] at hok
      repeat' (first | (refine Zz ?_; refine Zk (Zc rfl) rfl rfl ?_) | (refine Zh ?_; first | (refine Zf ?_; refine qQ ?_) | refine Zm ?_) | refine Zb ?_ | (refine Zi ?_; refine Zr ?_) | (refine Zj ?_; refine Zs ?_) | intro _)
      refine ZB (Zq _ _ _) Zy ?_
      all_goals (refine ZO 0 ?_; refine ZK ?_; refine ZU 1 ?_; refine ZO 2 ?_; refine ZU 3 ?_; refine rCm 4 ?_; refine ZI 5 ?_)
      all_goals (first | refine Zd 6 ?_ | refine Za 6 ?_ | refine Yc 6 ?_ | (refine ZA (t := 58) rfl (fun hb => ?_) (fun hb => ?_) <;> (try simp only [kk] at hb) <;> first | refine Zd 6 ?_ | refine Za 6 ?_ | refine Yc 6 ?_))
      all_goals ((first | refine Zd 7 ?_ | refine Za 7 ?_ | refine Yf 7 ?_); (first | refine Zd 8 ?_ | refine Za 8 ?_ | refine Yc 8 ?_); (first | refine Zd 9 ?_ | refine Za 9 ?_ | refine Yf 9 ?_); (first | refine Zd 10 ?_ | refine Za 10 ?_ | refine wCm 10 ?_); refine rPk 11 ?_; refine ZI 12 ?_)
      all_goals (first | refine Zd 13 ?_ | refine Za 13 ?_ | refine ZY 13 ?_ | (refine ZA (t := 65) rfl (fun hb => ?_) (fun hb => ?_) <;> (try simp only [kk] at hb) <;> first | refine Zd 13 ?_ | refine Za 13 ?_ | refine ZY 13 ?_))
      all_goals ((first | refine Zd 14 ?_ | refine Za 14 ?_ | refine wCm 14 ?_); (first | refine Zd 15 ?_ | refine Za 15 ?_ | refine ZY 15 ?_))
      all_goals (first | refine Zd 16 ?_ | refine Za 16 ?_ | refine Yc 16 ?_ | (refine ZA (t := 68) rfl (fun hb => ?_) (fun hb => ?_) <;> (try simp only [kk] at hb) <;> first | refine Zd 16 ?_ | refine Za 16 ?_ | refine Yc 16 ?_))
      all_goals ((first | refine Zd 17 ?_ | refine Za 17 ?_ | refine Yf 17 ?_); (first | refine Zd 18 ?_ | refine Za 18 ?_ | refine ZY 18 ?_); (first | refine Zd 19 ?_ | refine Za 19 ?_ | refine wSb 19 ?_); (first | refine Zd 20 ?_ | refine Za 20 ?_ | refine wIa 20 ?_); (first | refine Zd 21 ?_ | refine Za 21 ?_ | refine Yc 21 ?_); (first | refine Zd 22 ?_ | refine Za 22 ?_ | refine Yf 22 ?_); (first | refine Zd 23 ?_ | refine Za 23 ?_ | refine Yc 23 ?_); (first | refine Zd 24 ?_ | refine Za 24 ?_ | refine Yf 24 ?_); (first | refine Zd 25 ?_ | refine Za 25 ?_ | refine wCm 25 ?_); (first | refine Zd 26 ?_ | refine Za 26 ?_ | refine wPk 26 ?_); refine rPk 27 ?_; refine ZI 28 ?_)
      all_goals (first | refine Zd 29 ?_ | refine Za 29 ?_ | refine Yc 29 ?_ | (refine ZA (t := 81) rfl (fun hb => ?_) (fun hb => ?_) <;> (try simp only [kk] at hb) <;> first | refine Zd 29 ?_ | refine Za 29 ?_ | refine Yc 29 ?_))
      all_goals ((first | refine Zd 30 ?_ | refine Za 30 ?_ | refine Yf 30 ?_); (first | refine Zd 31 ?_ | refine Za 31 ?_ | refine wCm 31 ?_); refine rPk 32 ?_; refine ZI 33 ?_)
      all_goals (first | refine Zd 34 ?_ | refine Za 34 ?_ | refine Yc 34 ?_ | (refine ZA (t := 86) rfl (fun hb => ?_) (fun hb => ?_) <;> (try simp only [kk] at hb) <;> first | refine Zd 34 ?_ | refine Za 34 ?_ | refine Yc 34 ?_))
      all_goals ((first | refine Zd 35 ?_ | refine Za 35 ?_ | refine Yf 35 ?_); (first | refine Zd 36 ?_ | refine Za 36 ?_ | refine wCm 36 ?_); refine rPk 37 ?_; refine ZE ?_)
      all_goals (repeat' (first | (refine Zz ?_; refine Zk (Zc rfl) rfl rfl ?_) | (refine Zh ?_; first | (refine Zf ?_; refine qQ ?_) | refine Zm ?_) | refine Zb ?_ | (refine Zi ?_; refine Zr ?_) | (refine Zj ?_; refine Zs ?_) | intro _))
      all_goals rw [← e1]
      all_goals refine Zp (k + 1, y.lsn) (⟨hlt, hok, by dsimp only; omega, fun h => by omega, hnext⟩) Zl Zl rfl tk inferInstance (by first | omega | (dsimp only; omega))
     ·rw [decide_eq_false hy, Bool.false_and] at hok
      subst hok
      rw [Bool.false_and]
      repeat' (first | (refine Zz ?_; refine Zk (Zc rfl) rfl rfl ?_) | (refine Zh ?_; first | (refine Zf ?_; refine qQ ?_) | refine Zm ?_) | refine Zb ?_ | (refine Zi ?_; refine Zr ?_) | (refine Zj ?_; refine Zs ?_) | intro _)
      refine ZB (Zq _ _ _) Zy ?_
      all_goals (refine ZO 0 ?_; refine ZK ?_; refine ZU 1 ?_; refine ZO 2 ?_; refine ZU 3 ?_; refine rCm 4 ?_; refine ZI 5 ?_)
      all_goals (first | refine Zd 6 ?_ | refine Za 6 ?_ | refine Yc 6 ?_ | (refine ZA (t := 58) rfl (fun hb => ?_) (fun hb => ?_) <;> (try simp only [kk] at hb) <;> first | refine Zd 6 ?_ | refine Za 6 ?_ | refine Yc 6 ?_))
      all_goals ((first | refine Zd 7 ?_ | refine Za 7 ?_ | refine Yf 7 ?_); (first | refine Zd 8 ?_ | refine Za 8 ?_ | refine Yc 8 ?_); (first | refine Zd 9 ?_ | refine Za 9 ?_ | refine Yf 9 ?_); (first | refine Zd 10 ?_ | refine Za 10 ?_ | refine wCm 10 ?_); refine rPk 11 ?_; refine ZI 12 ?_)
      all_goals (first | refine Zd 13 ?_ | refine Za 13 ?_ | refine ZY 13 ?_ | (refine ZA (t := 65) rfl (fun hb => ?_) (fun hb => ?_) <;> (try simp only [kk] at hb) <;> first | refine Zd 13 ?_ | refine Za 13 ?_ | refine ZY 13 ?_))
      all_goals ((first | refine Zd 14 ?_ | refine Za 14 ?_ | refine wCm 14 ?_); (first | refine Zd 15 ?_ | refine Za 15 ?_ | refine ZY 15 ?_))
      all_goals (first | refine Zd 16 ?_ | refine Za 16 ?_ | refine Yc 16 ?_ | (refine ZA (t := 68) rfl (fun hb => ?_) (fun hb => ?_) <;> (try simp only [kk] at hb) <;> first | refine Zd 16 ?_ | refine Za 16 ?_ | refine Yc 16 ?_))
      all_goals ((first | refine Zd 17 ?_ | refine Za 17 ?_ | refine Yf 17 ?_); (first | refine Zd 18 ?_ | refine Za 18 ?_ | refine ZY 18 ?_); (first | refine Zd 19 ?_ | refine Za 19 ?_ | refine wSb 19 ?_); (first | refine Zd 20 ?_ | refine Za 20 ?_ | refine wIa 20 ?_); (first | refine Zd 21 ?_ | refine Za 21 ?_ | refine Yc 21 ?_); (first | refine Zd 22 ?_ | refine Za 22 ?_ | refine Yf 22 ?_); (first | refine Zd 23 ?_ | refine Za 23 ?_ | refine Yc 23 ?_); (first | refine Zd 24 ?_ | refine Za 24 ?_ | refine Yf 24 ?_); (first | refine Zd 25 ?_ | refine Za 25 ?_ | refine wCm 25 ?_); (first | refine Zd 26 ?_ | refine Za 26 ?_ | refine wPk 26 ?_); refine rPk 27 ?_; refine ZI 28 ?_)
      all_goals (first | refine Zd 29 ?_ | refine Za 29 ?_ | refine Yc 29 ?_ | (refine ZA (t := 81) rfl (fun hb => ?_) (fun hb => ?_) <;> (try simp only [kk] at hb) <;> first | refine Zd 29 ?_ | refine Za 29 ?_ | refine Yc 29 ?_))
      all_goals ((first | refine Zd 30 ?_ | refine Za 30 ?_ | refine Yf 30 ?_); (first | refine Zd 31 ?_ | refine Za 31 ?_ | refine wCm 31 ?_); refine rPk 32 ?_; refine ZI 33 ?_)
      all_goals (first | refine Zd 34 ?_ | refine Za 34 ?_ | refine Yc 34 ?_ | (refine ZA (t := 86) rfl (fun hb => ?_) (fun hb => ?_) <;> (try simp only [kk] at hb) <;> first | refine Zd 34 ?_ | refine Za 34 ?_ | refine Yc 34 ?_))
      all_goals ((first | refine Zd 35 ?_ | refine Za 35 ?_ | refine Yf 35 ?_); (first | refine Zd 36 ?_ | refine Za 36 ?_ | refine wCm 36 ?_); refine rPk 37 ?_; refine ZE ?_)
      all_goals (repeat' (first | (refine Zz ?_; refine Zk (Zc rfl) rfl rfl ?_) | (refine Zh ?_; first | (refine Zf ?_; refine qQ ?_) | refine Zm ?_) | refine Zb ?_ | (refine Zi ?_; refine Zr ?_) | (refine Zj ?_; refine Zs ?_) | (refine Xw ?_; refine ZR rfl rfl (fun hb => ?_) (fun hb => ?_) <;> (try simp only [decide_eq_true_eq, decide_eq_false_iff_not, Bool.not_eq_true, Bool.not_eq_false, beq_iff_eq, bne_iff_ne, ne_eq, decide_eq_decide, Bool.not_eq_eq_eq_not, Bool.not_true, Bool.not_false, beq_eq_false_iff_ne, bne_eq_false_iff_eq, Bool.and_eq_true, Bool.or_eq_true, Bool.and_eq_false_imp, Bool.or_eq_false_iff, bq2, bqt, bqf] at hb)) | (refine Ym ?_; refine Yb rfl (fun hb => ?_) (fun hb => ?_) <;> (try simp only [decide_eq_true_eq, decide_eq_false_iff_not, Bool.not_eq_true, Bool.not_eq_false, beq_iff_eq, bne_iff_ne, ne_eq, decide_eq_decide, Bool.not_eq_eq_eq_not, Bool.not_true, Bool.not_false, beq_eq_false_iff_ne, bne_eq_false_iff_eq, Bool.and_eq_true, Bool.or_eq_true, Bool.and_eq_false_imp, Bool.or_eq_false_iff, bq2, bqt, bqf] at hb)) | intro _))
      all_goals first | exact qE (L' := []) ⟨rfl, rfl, rfl⟩ | (exfalso; omega)
    ·obtain ⟨b2, off2, C2, T2, fr2, f1, hb2, hfit2, hc2⟩ := h.s.get (show k - 1 < x.stack.length by omega)
     have hlp := hky _ (by omega) (List.getElem?_eq_getElem (show k - 1 < x.stack.length by omega))
     generalize x.stack[k - 1]'(by omega) = p at *
     rw [e1] at f1
     cases f1
     rw [hb] at hb2
     cases hb2
     have ek : ((k : Int) - 1).toNat = k - 1 := by omega
     have hcy : C[off + ((k : Int) - 1).toNat * 2]? = some (.int .u64 p.lsn) := by
      have := congrArg (fun l => l[0]?) hc2
      rw [ek]
      simp only [List.getElem?_take, List.getElem?_drop] at this
      simpa using this
     by_cases hy : last < y.lsn ∧ y.lsn ≤ x.undo ∧ 1 ≤ y.cost ∧ y.cost ≤ 400
     ·rw [decide_eq_true hy, Bool.true_and] at hok
      repeat' (first | (refine Zz ?_; refine Zk (Zc rfl) rfl rfl ?_) | (refine Zh ?_; first | (refine Zf ?_; refine qQ ?_) | refine Zm ?_) | refine Zb ?_ | (refine Zi ?_; refine Zr ?_) | (refine Zj ?_; refine Zs ?_) | intro _)
      refine ZB (Zq _ _ _) Zy ?_
      all_goals (refine ZO 0 ?_; refine ZK ?_; refine ZU 1 ?_; refine ZO 2 ?_; refine ZU 3 ?_; refine rCm 4 ?_; refine ZI 5 ?_)
      all_goals (first | refine Zd 6 ?_ | refine Za 6 ?_ | refine Yc 6 ?_ | (refine ZA (t := 58) rfl (fun hb => ?_) (fun hb => ?_) <;> (try simp only [kk] at hb) <;> first | refine Zd 6 ?_ | refine Za 6 ?_ | refine Yc 6 ?_))
      all_goals ((first | refine Zd 7 ?_ | refine Za 7 ?_ | refine Yf 7 ?_); (first | refine Zd 8 ?_ | refine Za 8 ?_ | refine Yc 8 ?_); (first | refine Zd 9 ?_ | refine Za 9 ?_ | refine Yf 9 ?_); (first | refine Zd 10 ?_ | refine Za 10 ?_ | refine wCm 10 ?_); refine rPk 11 ?_; refine ZI 12 ?_)
      all_goals (first | refine Zd 13 ?_ | refine Za 13 ?_ | refine ZY 13 ?_ | (refine ZA (t := 65) rfl (fun hb => ?_) (fun hb => ?_) <;> (try simp only [kk] at hb) <;> first | refine Zd 13 ?_ | refine Za 13 ?_ | refine ZY 13 ?_))
      all_goals ((first | refine Zd 14 ?_ | refine Za 14 ?_ | refine wCm 14 ?_); (first | refine Zd 15 ?_ | refine Za 15 ?_ | refine ZY 15 ?_))
      all_goals (first | refine Zd 16 ?_ | refine Za 16 ?_ | refine Yc 16 ?_ | (refine ZA (t := 68) rfl (fun hb => ?_) (fun hb => ?_) <;> (try simp only [kk] at hb) <;> first | refine Zd 16 ?_ | refine Za 16 ?_ | refine Yc 16 ?_))
      all_goals ((first | refine Zd 17 ?_ | refine Za 17 ?_ | refine Yf 17 ?_); (first | refine Zd 18 ?_ | refine Za 18 ?_ | refine ZY 18 ?_); (first | refine Zd 19 ?_ | refine Za 19 ?_ | refine wSb 19 ?_); (first | refine Zd 20 ?_ | refine Za 20 ?_ | refine wIa 20 ?_); (first | refine Zd 21 ?_ | refine Za 21 ?_ | refine Yc 21 ?_); (first | refine Zd 22 ?_ | refine Za 22 ?_ | refine Yf 22 ?_); (first | refine Zd 23 ?_ | refine Za 23 ?_ | refine Yc 23 ?_); (first | refine Zd 24 ?_ | refine Za 24 ?_ | refine Yf 24 ?_); (first | refine Zd 25 ?_ | refine Za 25 ?_ | refine wCm 25 ?_); (first | refine Zd 26 ?_ | refine Za 26 ?_ | refine wPk 26 ?_); refine rPk 27 ?_; refine ZI 28 ?_)
      all_goals (first | refine Zd 29 ?_ | refine Za 29 ?_ | refine Yc 29 ?_ | (refine ZA (t := 81) rfl (fun hb => ?_) (fun hb => ?_) <;> (try simp only [kk] at hb) <;> first | refine Zd 29 ?_ | refine Za 29 ?_ | refine Yc 29 ?_))
      all_goals ((first | refine Zd 30 ?_ | refine Za 30 ?_ | refine Yf 30 ?_); (first | refine Zd 31 ?_ | refine Za 31 ?_ | refine wCm 31 ?_); refine rPk 32 ?_; refine ZI 33 ?_)
      all_goals (first | refine Zd 34 ?_ | refine Za 34 ?_ | refine Yc 34 ?_ | (refine ZA (t := 86) rfl (fun hb => ?_) (fun hb => ?_) <;> (try simp only [kk] at hb) <;> first | refine Zd 34 ?_ | refine Za 34 ?_ | refine Yc 34 ?_))
      all_goals ((first | refine Zd 35 ?_ | refine Za 35 ?_ | refine Yf 35 ?_); (first | refine Zd 36 ?_ | refine Za 36 ?_ | refine wCm 36 ?_); refine rPk 37 ?_; refine ZE ?_)
      all_goals (repeat' (first | (refine Zz ?_; refine Zk (Zc rfl) rfl rfl ?_) | (refine Zh ?_; first | (refine Zf ?_; refine qQ ?_) | refine Zm ?_) | refine Zb ?_ | (refine Zi ?_; refine Zr ?_) | (refine Zj ?_; refine Zs ?_) | intro _))
      all_goals rw [← e1]
      all_goals refine Zp (k + 1, y.lsn) (⟨hlt, hok, by dsimp only; omega, fun h => by omega, hnext⟩) Zl Zl rfl tk inferInstance (by first | omega | (dsimp only; omega))
     ·rw [decide_eq_false hy, Bool.false_and] at hok
      subst hok
      rw [Bool.false_and]
      repeat' (first | (refine Zz ?_; refine Zk (Zc rfl) rfl rfl ?_) | (refine Zh ?_; first | (refine Zf ?_; refine qQ ?_) | refine Zm ?_) | refine Zb ?_ | (refine Zi ?_; refine Zr ?_) | (refine Zj ?_; refine Zs ?_) | intro _)
      refine ZB (Zq _ _ _) Zy ?_
      all_goals (refine ZO 0 ?_; refine ZK ?_; refine ZU 1 ?_; refine ZO 2 ?_; refine ZU 3 ?_; refine rCm 4 ?_; refine ZI 5 ?_)
      all_goals (first | refine Zd 6 ?_ | refine Za 6 ?_ | refine Yc 6 ?_ | (refine ZA (t := 58) rfl (fun hb => ?_) (fun hb => ?_) <;> (try simp only [kk] at hb) <;> first | refine Zd 6 ?_ | refine Za 6 ?_ | refine Yc 6 ?_))
      all_goals ((first | refine Zd 7 ?_ | refine Za 7 ?_ | refine Yf 7 ?_); (first | refine Zd 8 ?_ | refine Za 8 ?_ | refine Yc 8 ?_); (first | refine Zd 9 ?_ | refine Za 9 ?_ | refine Yf 9 ?_); (first | refine Zd 10 ?_ | refine Za 10 ?_ | refine wCm 10 ?_); refine rPk 11 ?_; refine ZI 12 ?_)
      all_goals (first | refine Zd 13 ?_ | refine Za 13 ?_ | refine ZY 13 ?_ | (refine ZA (t := 65) rfl (fun hb => ?_) (fun hb => ?_) <;> (try simp only [kk] at hb) <;> first | refine Zd 13 ?_ | refine Za 13 ?_ | refine ZY 13 ?_))
      all_goals ((first | refine Zd 14 ?_ | refine Za 14 ?_ | refine wCm 14 ?_); (first | refine Zd 15 ?_ | refine Za 15 ?_ | refine ZY 15 ?_))
      all_goals (first | refine Zd 16 ?_ | refine Za 16 ?_ | refine Yc 16 ?_ | (refine ZA (t := 68) rfl (fun hb => ?_) (fun hb => ?_) <;> (try simp only [kk] at hb) <;> first | refine Zd 16 ?_ | refine Za 16 ?_ | refine Yc 16 ?_))
      all_goals ((first | refine Zd 17 ?_ | refine Za 17 ?_ | refine Yf 17 ?_); (first | refine Zd 18 ?_ | refine Za 18 ?_ | refine ZY 18 ?_); (first | refine Zd 19 ?_ | refine Za 19 ?_ | refine wSb 19 ?_); (first | refine Zd 20 ?_ | refine Za 20 ?_ | refine wIa 20 ?_); (first | refine Zd 21 ?_ | refine Za 21 ?_ | refine Yc 21 ?_); (first | refine Zd 22 ?_ | refine Za 22 ?_ | refine Yf 22 ?_); (first | refine Zd 23 ?_ | refine Za 23 ?_ | refine Yc 23 ?_); (first | refine Zd 24 ?_ | refine Za 24 ?_ | refine Yf 24 ?_); (first | refine Zd 25 ?_ | refine Za 25 ?_ | refine wCm 25 ?_); (first | refine Zd 26 ?_ | refine Za 26 ?_ | refine wPk 26 ?_); refine rPk 27 ?_; refine ZI 28 ?_)
      all_goals (first | refine Zd 29 ?_ | refine Za 29 ?_ | refine Yc 29 ?_ | (refine ZA (t := 81) rfl (fun hb => ?_) (fun hb => ?_) <;> (try simp only [kk] at hb) <;> first | refine Zd 29 ?_ | refine Za 29 ?_ | refine Yc 29 ?_))
      all_goals ((first | refine Zd 30 ?_ | refine Za 30 ?_ | refine Yf 30 ?_); (first | refine Zd 31 ?_ | refine Za 31 ?_ | refine wCm 31 ?_); refine rPk 32 ?_; refine ZI 33 ?_)
      all_goals (first | refine Zd 34 ?_ | refine Za 34 ?_ | refine Yc 34 ?_ | (refine ZA (t := 86) rfl (fun hb => ?_) (fun hb => ?_) <;> (try simp only [kk] at hb) <;> first | refine Zd 34 ?_ | refine Za 34 ?_ | refine Yc 34 ?_))
      all_goals ((first | refine Zd 35 ?_ | refine Za 35 ?_ | refine Yf 35 ?_); (first | refine Zd 36 ?_ | refine Za 36 ?_ | refine wCm 36 ?_); refine rPk 37 ?_; refine ZE ?_)
      all_goals (repeat' (first | (refine Zz ?_; refine Zk (Zc rfl) rfl rfl ?_) | (refine Zh ?_; first | (refine Zf ?_; refine qQ ?_) | refine Zm ?_) | refine Zb ?_ | (refine Zi ?_; refine Zr ?_) | (refine Zj ?_; refine Zs ?_) | (refine Xw ?_; refine ZR rfl rfl (fun hb => ?_) (fun hb => ?_) <;> (try simp only [decide_eq_true_eq, decide_eq_false_iff_not, Bool.not_eq_true, Bool.not_eq_false, beq_iff_eq, bne_iff_ne, ne_eq, decide_eq_decide, Bool.not_eq_eq_eq_not, Bool.not_true, Bool.not_false, beq_eq_false_iff_ne, bne_eq_false_iff_eq, Bool.and_eq_true, Bool.or_eq_true, Bool.and_eq_false_imp, Bool.or_eq_false_iff, bq2, bqt, bqf] at hb)) | (refine Ym ?_; refine Yb rfl (fun hb => ?_) (fun hb => ?_) <;> (try simp only [decide_eq_true_eq, decide_eq_false_iff_not, Bool.not_eq_true, Bool.not_eq_false, beq_iff_eq, bne_iff_ne, ne_eq, decide_eq_decide, Bool.not_eq_eq_eq_not, Bool.not_true, Bool.not_false, beq_eq_false_iff_ne, bne_eq_false_iff_eq, Bool.and_eq_true, Bool.or_eq_true, Bool.and_eq_false_imp, Bool.or_eq_false_iff, bq2, bqt, bqf] at hb)) | intro _))
      all_goals first | exact qE (L' := []) ⟨rfl, rfl, rfl⟩ | (exfalso; omega)
   ·have hk2 : k = x.stack.length := by omega
    rw [hk2, List.drop_length, Wb] at hok
    subst hok
    rw [Bool.true_and]
    repeat' (first | (refine Zz ?_; refine Zk (Zc rfl) rfl rfl ?_) | (refine Zh ?_; first | (refine Zf ?_; refine qQ ?_) | refine Zm ?_) | refine Zb ?_ | (refine Zi ?_; refine Zr ?_) | (refine Zj ?_; refine Zs ?_) | intro _)
    refine ZC [(1, _), (93, _), (94, _)] (fun (ζ : (Nat)) => [(95, .int .i64 ζ), (2, .bool false)]) (fun (ζ : (Nat)) => ρ) (fun (ζ : (Nat)) => [[(bx, .cells ⟨txV x⟩ 45 (0, 0))]]) (fun (ζ : (Nat)) => ζ ≤ x.mv.n ∧ ∀ i, i < ζ → markP x i) (fun (ζ : (Nat)) => x.mv.n - ζ) (0) (⟨Nat.zero_le _, fun i hi => absurd hi (Nat.not_lt_zero i)⟩) Zl Zl rfl tk ?_
    rintro j hI
    try simp only [List.cons_append, List.nil_append, List.append_assoc, List.append_eq] at hI ⊢
    try dsimp only at hI ⊢
    obtain ⟨hj, hall⟩ := hI
    by_cases hlt2 : j < x.mv.n
    ·obtain ⟨b, off, C, T, fr, e1, hb, hc⟩ := h.m.get (show j < x.marks.length by omega)
     have hall2 : markP x j → ∀ i, i < j + 1 → markP x i := fun hm i hi => by
      by_cases e : i = j
      ·rw [e]; exact hm
      ·exact hall i (by omega)
     have hbad := fun (e : ¬ markP x j) => marks_bad (show j < x.marks.length by omega) e
     have gj : x.marks.getD j 0 = x.marks[j]'(by omega) := Xz (by omega)
     unfold markP at hall2 hbad
     rw [gj] at hall2 hbad
     generalize x.marks[j]'(by omega) = y at *
     (try dsimp only [txV]); rw [e1]
     by_cases hz : j = 0
     ·by_cases hy : x.first ≤ y ∧ y ≤ x.undo
      ·repeat' (first | (refine Zz ?_; refine Zk (Zc rfl) rfl rfl ?_) | (refine Zh ?_; first | (refine Zf ?_; refine qQ ?_) | refine Zm ?_) | refine Zb ?_ | (refine Zi ?_; refine Zr ?_) | (refine Zj ?_; refine Zs ?_) | intro _)
       rw [← e1]
       refine Zp (j + 1) (⟨hlt2, fun i hi => by have := hall2 ⟨hy.1, hy.2, .inl hz⟩ i hi; exact this⟩) Zl Zl rfl tk inferInstance (by first | omega | (dsimp only; omega))
      ·rw [hbad (by omega)]
       repeat' (first | (refine Zz ?_; refine Zk (Zc rfl) rfl rfl ?_) | (refine Zh ?_; first | (refine Zf ?_; refine qQ ?_) | refine Zm ?_) | refine Zb ?_ | (refine Zi ?_; refine Zr ?_) | (refine Zj ?_; refine Zs ?_) | (refine Xw ?_; refine ZR rfl rfl (fun hb => ?_) (fun hb => ?_) <;> (try simp only [decide_eq_true_eq, decide_eq_false_iff_not, Bool.not_eq_true, Bool.not_eq_false, beq_iff_eq, bne_iff_ne, ne_eq, decide_eq_decide, Bool.not_eq_eq_eq_not, Bool.not_true, Bool.not_false, beq_eq_false_iff_ne, bne_eq_false_iff_eq, Bool.and_eq_true, Bool.or_eq_true, Bool.and_eq_false_imp, Bool.or_eq_false_iff, bq2, bqt, bqf] at hb)) | (refine Ym ?_; refine Yb rfl (fun hb => ?_) (fun hb => ?_) <;> (try simp only [decide_eq_true_eq, decide_eq_false_iff_not, Bool.not_eq_true, Bool.not_eq_false, beq_iff_eq, bne_iff_ne, ne_eq, decide_eq_decide, Bool.not_eq_eq_eq_not, Bool.not_true, Bool.not_false, beq_eq_false_iff_ne, bne_eq_false_iff_eq, Bool.and_eq_true, Bool.or_eq_true, Bool.and_eq_false_imp, Bool.or_eq_false_iff, bq2, bqt, bqf] at hb)) | intro _)
       all_goals first | exact qE (L' := []) ⟨rfl, rfl, rfl⟩ | (exfalso; omega)
     ·obtain ⟨b2, off2, C2, T2, fr2, f1, hb2, hc2⟩ := h.m.get (show j - 1 < x.marks.length by omega)
      have gp : x.marks.getD (j - 1) 0 = x.marks[j - 1]'(by omega) := Xz (by omega)
      rw [gp] at hall2 hbad
      generalize x.marks[j - 1]'(by omega) = p at *
      rw [e1] at f1
      cases f1
      rw [hb] at hb2
      cases hb2
      have ek : ((j : Int) - 1).toNat = j - 1 := by omega
      rw [← ek] at hc2
      by_cases hy : x.first ≤ y ∧ y ≤ x.undo ∧ p ≤ y
      ·repeat' (first | (refine Zz ?_; refine Zk (Zc rfl) rfl rfl ?_) | (refine Zh ?_; first | (refine Zf ?_; refine qQ ?_) | refine Zm ?_) | refine Zb ?_ | (refine Zi ?_; refine Zr ?_) | (refine Zj ?_; refine Zs ?_) | intro _)
       rw [← e1]
       refine Zp (j + 1) (⟨hlt2, fun i hi => by have := hall2 ⟨hy.1, hy.2.1, .inr hy.2.2⟩ i hi; exact this⟩) Zl Zl rfl tk inferInstance (by first | omega | (dsimp only; omega))
      ·rw [hbad (by omega)]
       repeat' (first | (refine Zz ?_; refine Zk (Zc rfl) rfl rfl ?_) | (refine Zh ?_; first | (refine Zf ?_; refine qQ ?_) | refine Zm ?_) | refine Zb ?_ | (refine Zi ?_; refine Zr ?_) | (refine Zj ?_; refine Zs ?_) | (refine Xw ?_; refine ZR rfl rfl (fun hb => ?_) (fun hb => ?_) <;> (try simp only [decide_eq_true_eq, decide_eq_false_iff_not, Bool.not_eq_true, Bool.not_eq_false, beq_iff_eq, bne_iff_ne, ne_eq, decide_eq_decide, Bool.not_eq_eq_eq_not, Bool.not_true, Bool.not_false, beq_eq_false_iff_ne, bne_eq_false_iff_eq, Bool.and_eq_true, Bool.or_eq_true, Bool.and_eq_false_imp, Bool.or_eq_false_iff, bq2, bqt, bqf] at hb)) | (refine Ym ?_; refine Yb rfl (fun hb => ?_) (fun hb => ?_) <;> (try simp only [decide_eq_true_eq, decide_eq_false_iff_not, Bool.not_eq_true, Bool.not_eq_false, beq_iff_eq, bne_iff_ne, ne_eq, decide_eq_decide, Bool.not_eq_eq_eq_not, Bool.not_true, Bool.not_false, beq_eq_false_iff_ne, bne_eq_false_iff_eq, Bool.and_eq_true, Bool.or_eq_true, Bool.and_eq_false_imp, Bool.or_eq_false_iff, bq2, bqt, bqf] at hb)) | intro _)
       all_goals first | exact qE (L' := []) ⟨rfl, rfl, rfl⟩ | (exfalso; omega)
    ·have hj2 : j = x.mv.n := by omega
     subst hj2
     rw [marks_all (by rw [hml]; exact hall) (by omega), hml]
     repeat' (first | (refine Zz ?_; refine Zk (Zc rfl) rfl rfl ?_) | (refine Zh ?_; first | (refine Zf ?_; refine qQ ?_) | refine Zm ?_) | refine Zb ?_ | (refine Zi ?_; refine Zr ?_) | (refine Zj ?_; refine Zs ?_) | (refine Xw ?_; refine ZR rfl rfl (fun hb => ?_) (fun hb => ?_) <;> (try simp only [decide_eq_true_eq, decide_eq_false_iff_not, Bool.not_eq_true, Bool.not_eq_false, beq_iff_eq, bne_iff_ne, ne_eq, decide_eq_decide, Bool.not_eq_eq_eq_not, Bool.not_true, Bool.not_false, beq_eq_false_iff_ne, bne_eq_false_iff_eq, Bool.and_eq_true, Bool.or_eq_true, Bool.and_eq_false_imp, Bool.or_eq_false_iff, bq2, bqt, bqf] at hb)) | (refine Ym ?_; refine Yb rfl (fun hb => ?_) (fun hb => ?_) <;> (try simp only [decide_eq_true_eq, decide_eq_false_iff_not, Bool.not_eq_true, Bool.not_eq_false, beq_iff_eq, bne_iff_ne, ne_eq, decide_eq_decide, Bool.not_eq_eq_eq_not, Bool.not_true, Bool.not_false, beq_eq_false_iff_ne, bne_eq_false_iff_eq, Bool.and_eq_true, Bool.or_eq_true, Bool.and_eq_false_imp, Bool.or_eq_false_iff, bq2, bqt, bqf] at hb)) | intro _)
     all_goals (refine qF (L' := []) ?_; exact ⟨YI (by first | (simp only [decide_eq_true_eq, Bool.false_eq_true, true_iff, false_iff, beq_iff_eq]; omega) | (simp; omega)), rfl, rfl⟩)
  ·have hmk : Wq x = false := by
    unfold Wq
    rw [hml, decide_eq_false (show ¬ x.mv.n = 0 by omega), decide_eq_false (show ¬ (x.state = 1 ∧ x.mv.n ≤ 8) by omega)]; rfl
   rw [hmk, Bool.and_false]
   repeat' (first | (refine Zz ?_; refine Zk (Zc rfl) rfl rfl ?_) | (refine Zh ?_; first | (refine Zf ?_; refine qQ ?_) | refine Zm ?_) | refine Zb ?_ | (refine Zi ?_; refine Zr ?_) | (refine Zj ?_; refine Zs ?_) | intro _)
   exact qE (L' := []) ⟨rfl, rfl, rfl⟩
 ·rw [decide_eq_false hH, Bool.false_and]
  repeat' (first | (refine Zz ?_; refine Zk (Zc rfl) rfl rfl ?_) | (refine Zh ?_; first | (refine Zf ?_; refine qQ ?_) | refine Zm ?_) | refine Zb ?_ | (refine Zi ?_; refine Zr ?_) | (refine Zj ?_; refine Zs ?_) | (refine Xw ?_; refine ZR rfl rfl (fun hb => ?_) (fun hb => ?_) <;> (try simp only [decide_eq_true_eq, decide_eq_false_iff_not, Bool.not_eq_true, Bool.not_eq_false, beq_iff_eq, bne_iff_ne, ne_eq, decide_eq_decide, Bool.not_eq_eq_eq_not, Bool.not_true, Bool.not_false, beq_eq_false_iff_ne, bne_eq_false_iff_eq, Bool.and_eq_true, Bool.or_eq_true, Bool.and_eq_false_imp, Bool.or_eq_false_iff, bq2, bqt, bqf] at hb)) | (refine Ym ?_; refine Yb rfl (fun hb => ?_) (fun hb => ?_) <;> (try simp only [decide_eq_true_eq, decide_eq_false_iff_not, Bool.not_eq_true, Bool.not_eq_false, beq_iff_eq, bne_iff_ne, ne_eq, decide_eq_decide, Bool.not_eq_eq_eq_not, Bool.not_true, Bool.not_false, beq_eq_false_iff_ne, bne_eq_false_iff_eq, Bool.and_eq_true, Bool.or_eq_true, Bool.and_eq_false_imp, Bool.or_eq_false_iff, bq2, bqt, bqf] at hb)) | intro _)
  all_goals first | exact qE (L' := []) ⟨rfl, rfl, rfl⟩ | (exfalso; omega)
instance (priority := 1200) eqCkP {x y : Yp} : EqC Tryz.prog 8 92 (.agg ⟨YM x⟩) (.agg ⟨YM y⟩) (decide (x = y)) := by
 have h : EqC Tryz.prog 8 92 (.agg ⟨[.int .i64 x.page, .int .u64 x.since]⟩) (.agg ⟨[.int .i64 y.page, .int .u64 y.since]⟩) _ := inferInstance
 refine ⟨fun d w hd => ?_⟩
 rw [h.out d w hd]
 congr 1
 obtain ⟨t, i⟩ := x
 obtain ⟨t', i'⟩ := y
 simp only [Yp.mk.injEq, Bool.and_true, Bool.decide_and]
 have e : ((i : Int) == (i' : Int)) = decide (i = i') := by
  by_cases h : i = i'
  ·subst h; simp
  ·rw [decide_eq_false h]; simp only [beq_eq_false_iff_ne, ne_eq]; omega
 rw [e]
 by_cases h1 : t = t' <;> by_cases h2 : i = i' <;> simp [h1, h2]
theorem same22_spec (ρ : Hp) (s s' : SV) (l m : List Yp) (h : AS ρ 2 YM s l) (h' : AS ρ 2 YM s' m) :
  Spec Tryz.prog 62 [.slice s.a s.n s.c, .slice s'.a s'.n s'.c] ρ [] (fun v ρ' L' => v = .bool (decide (l = m)) ∧ ρ' = ρ ∧ L' = []) := by
 have hl := h.at'.len
 have hm := h'.at'.len
 have hn := h.big
 refine Zg Tryz.func62 rfl rfl rfl fun u R => ?_
 simp only [Zx, List.cons_append, List.nil_append]
 by_cases hne : s.n = s'.n
 ·repeat' (first | (refine Zz ?_; refine Zk (Zc rfl) rfl rfl ?_) | (refine Zh ?_; first | (refine Zf ?_; refine qQ ?_) | refine Zm ?_) | refine Zb ?_ | (refine Zi ?_; refine Zr ?_) | (refine Zj ?_; refine Zs ?_) | intro _)
  refine ZC [(0, _), (1, _), (12, _)] (fun (ζ : (Nat)) => [(13, .int .i64 ζ), (4, .bool false)]) (fun (ζ : (Nat)) => ρ) (fun (ζ : (Nat)) => []) (fun (ζ : (Nat)) => ζ ≤ s.n ∧ l.take ζ = m.take ζ) (fun (ζ : (Nat)) => s.n - ζ) (0) (⟨Nat.zero_le _, rfl⟩) Zl Zl rfl tk ?_
  rintro k hI
  try simp only [List.cons_append, List.nil_append, List.append_assoc, List.append_eq] at hI ⊢
  try dsimp only at hI ⊢
  obtain ⟨hk, hpre⟩ := hI
  by_cases hlt : k < s.n
  ·obtain ⟨b, off, C, T, fr, f1, hb, hfit, hc⟩ := h.at'.get (show k < l.length by omega)
   obtain ⟨b2, off2, C2, T2, fr2, f2, hb2, hfit2, hc2⟩ := h'.at'.get (show k < m.length by omega)
   have ht1 := List.take_succ_eq_append_getElem (show k < l.length by omega)
   have ht2 := List.take_succ_eq_append_getElem (show k < m.length by omega)
   have hf : l = m → l[k]'(by omega) = m[k]'(by omega) := fun e => by subst e; rfl
   generalize l[k]'(by omega) = x at *
   generalize m[k]'(by omega) = y at *
   rw [f1, f2]
   by_cases he : x = y
   ·have hd : decide (x = y) = true := decide_eq_true he
    have hpre2 : l.take (k + 1) = m.take (k + 1) := by rw [ht1, ht2, hpre, he]
    repeat' (first | (refine Zz ?_; refine Zk (Zc rfl) rfl rfl ?_) | (refine Zh ?_; first | (refine Zf ?_; refine qQ ?_) | refine Zm ?_) | refine Zb ?_ | (refine Zi ?_; refine Zr ?_) | (refine Zj ?_; refine Zs ?_) | intro _)
    refine ZB (Zq _ _ _) Zy ?_
    all_goals (refine ZI 0 ?_; refine ZK ?_; refine ZI 1 ?_; refine rIa 2 ?_; refine ZU 3 ?_; refine ZI 4 ?_; refine ZI 5 ?_; refine rIa 6 ?_; refine ZU 7 ?_; refine rCm 8 ?_; refine ZE ?_)
    all_goals (try simp only [hd])
    all_goals (repeat' (first | (refine Zz ?_; refine Zk (Zc rfl) rfl rfl ?_) | (refine Zh ?_; first | (refine Zf ?_; refine qQ ?_) | refine Zm ?_) | refine Zb ?_ | (refine Zi ?_; refine Zr ?_) | (refine Zj ?_; refine Zs ?_) | intro _))
    all_goals rw [← f1, ← f2]
    all_goals refine Zp (k + 1) (⟨hlt, hpre2⟩) Zl Zl rfl tk inferInstance (by first | omega | (dsimp only; omega))
   ·have hd : decide (x = y) = false := decide_eq_false he
    rw [decide_eq_false (fun e => he (hf e))]
    repeat' (first | (refine Zz ?_; refine Zk (Zc rfl) rfl rfl ?_) | (refine Zh ?_; first | (refine Zf ?_; refine qQ ?_) | refine Zm ?_) | refine Zb ?_ | (refine Zi ?_; refine Zr ?_) | (refine Zj ?_; refine Zs ?_) | intro _)
    refine ZB (Zq _ _ _) Zy ?_
    all_goals (refine ZI 0 ?_; refine ZK ?_; refine ZI 1 ?_; refine rIa 2 ?_; refine ZU 3 ?_; refine ZI 4 ?_; refine ZI 5 ?_; refine rIa 6 ?_; refine ZU 7 ?_; refine rCm 8 ?_; refine ZE ?_)
    all_goals (try simp only [hd])
    all_goals (repeat' (first | (refine Zz ?_; refine Zk (Zc rfl) rfl rfl ?_) | (refine Zh ?_; first | (refine Zf ?_; refine qQ ?_) | refine Zm ?_) | refine Zb ?_ | (refine Zi ?_; refine Zr ?_) | (refine Zj ?_; refine Zs ?_) | intro _))
    all_goals exact qE (L' := []) ⟨rfl, rfl, rfl⟩
  ·have hk2 : k = s.n := by omega
   subst hk2
   rw [List.take_of_length_le (by omega), List.take_of_length_le (by omega)] at hpre
   rw [decide_eq_true hpre]
   repeat' (first | (refine Zz ?_; refine Zk (Zc rfl) rfl rfl ?_) | (refine Zh ?_; first | (refine Zf ?_; refine qQ ?_) | refine Zm ?_) | refine Zb ?_ | (refine Zi ?_; refine Zr ?_) | (refine Zj ?_; refine Zs ?_) | intro _)
   exact qE ⟨rfl, rfl, rfl⟩
 ·rw [decide_eq_false (fun e : l = m => hne (by rw [← hl, ← hm, e]))]
  repeat' (first | (refine Zz ?_; refine Zk (Zc rfl) rfl rfl ?_) | (refine Zh ?_; first | (refine Zf ?_; refine qQ ?_) | refine Zm ?_) | refine Zb ?_ | (refine Zi ?_; refine Zr ?_) | (refine Zj ?_; refine Zs ?_) | intro _)
  exact qE ⟨rfl, rfl, rfl⟩
end Go.Proofs.E
namespace Go.Proofs.E
open Go Go.RowKit
set_option linter.unusedVariables false
set_option linter.unusedSimpArgs false
set_option linter.unusedSectionVars false
set_option maxRecDepth 8000
theorem rsw_flat {α : Type} {sz : Nat} {g : α → List Value} {C : List Value} {off : Nat} : ∀ (l : List α) (k : Nat), k ≤ l.length → (∀ i (h : i < l.length), (C.drop (off + i * sz)).take sz = g l[i]) → (C.drop off).take (k * sz) = ((l.take k).map g).flatten
 | l, 0, _, _ => by simp
 | l, k + 1, hk, h => by
  have ih := rsw_flat l k (by omega) h
  rw [show l.take (k + 1) = l.take k ++ [l[k]'(by omega)] from List.take_succ_eq_append_getElem (by omega), Nat.add_mul, Nat.one_mul, List.take_add, ih, List.drop_drop, h k (by omega)]
  simp only [List.map_append, List.flatten_append, List.map_cons, List.map_nil, List.flatten_cons, List.flatten_nil, List.append_nil]
theorem We {ρ : Hp} {α : Type} {sz : Nat} {g : α → List Value} {P : α → Prop} {cs : List Value} {s : Option Addr × Nat × Nat × List α} (hg : ∀ x, (g x).length = sz) (h : RS ρ sz (fun cs x => cs = g x ∧ P x) cs s) : AIn ρ sz g s.1 s.2.1 s.2.2.2 ∧ (∀ x ∈ s.2.2.2, P x) ∧ s.2.1 ≤ s.2.2.1 ∧ s.2.1 ≤ 9223372036854775807 := by
 obtain ⟨a, n, c, ks⟩ := s
 obtain ⟨h1, h2, h3, h4, h5⟩ := h
 dsimp only at h1 h2 h3 h4 h5 ⊢
 refine ⟨⟨h4, ?_, fun x _ => hg x⟩, fun x hx => ?_, h2, by omega⟩
 ·by_cases h0 : n = 0
  ·exact .inl h0
  ·right
   obtain ⟨b, off, C, T, fr, e1, e2, e3, e4⟩ := h5 0 (by omega)
   have same : ∀ i (h : i < ks.length), off + i * sz + sz ≤ C.length ∧ (C.drop (off + i * sz)).take sz = g ks[i] := fun i hi => by
    obtain ⟨b', off', C', T', fr', f1, f2, f3, f4⟩ := h5 i hi
    rw [e1] at f1
    cases f1
    rw [e2] at f2
    cases f2
    exact ⟨f3, f4.1⟩
   refine ⟨b, off, C, T, fr, e1, e2, ?_, ?_⟩
   ·have := (same (n - 1) (by omega)).1
    have e : n * sz = (n - 1) * sz + sz := by
     obtain ⟨m, rfl⟩ : ∃ m, n = m + 1 := ⟨n - 1, by omega⟩
     rw [Nat.add_mul]; simp
    omega
   ·have := rsw_flat (sz := sz) (g := g) ks n (by omega) (fun i hi => (same i hi).2)
    rw [this, List.take_of_length_le (by omega)]
 ·obtain ⟨i, hi, rfl⟩ := List.mem_iff_getElem.1 hx
  obtain ⟨_, _, _, _, _, _, _, _, f⟩ := h5 i hi
  exact f.2
section
variable {H : Type} {enc : TypeId × Value → H} {w : World}
theorem opnS_str : OpnS enc Tryz.prog w 9 (fun cs (l : List UInt8) => cs = [strV l]) := Opn.sized (fun fuel cs x h => by
 obtain ⟨s, rfl, _, _⟩ := DataW.trod_string Tryz.underlying9 h
 obtain ⟨⟨l⟩⟩ := s
 exact ⟨l, rfl⟩)
theorem opnS_key : OpnS enc Tryz.prog w 56 (fun cs (k : Int × Nat) => cs = keyV k.1 k.2 ∧ k.2 < 65536) := Opn.sized (fun fuel cs x h => by
 obtain ⟨hl, hf⟩ := opn_fields Tryz.underlying56 h
 have hl : cs.length = 2 := by rw [hl]; kernel_rfl
 obtain ⟨c0, c1, rfl⟩ : ∃ c0 c1, cs = [c0, c1] := by
  match cs, hl with
  | [c0, c1], _ => exact ⟨c0, c1, rfl⟩
 obtain ⟨t, h0, _⟩ := opn_field h Tryz.underlying56 0 0 1 rfl rfl rfl (by kernel_rfl) (Yh Tryz.underlying3)
 obtain ⟨i, h1, i0, i1⟩ := opn_field h Tryz.underlying56 1 1 1 rfl rfl rfl (by kernel_rfl) (Yh Tryz.underlying54)
 simp only [List.drop_zero, List.drop_succ_cons, List.take_succ_cons, List.take_zero, List.cons.injEq, and_true] at h0 h1
 subst h0; subst h1
 simp only [lo, hi] at i0 i1
 refine ⟨(t, i.toNat), ?_, by dsimp only; omega⟩
 have : ((i.toNat : Nat) : Int) = i := by omega
 simp only [keyV, this])
theorem opnS_row : OpnS enc Tryz.prog w 58 (fun cs (r : Row) => cs = rowV r ∧ RowFit r) := fun fuel cs x h hw => by
 obtain ⟨hl, hf⟩ := YD Tryz.underlying58 h hw
 have hl : cs.length = 4 := by rw [hl]; kernel_rfl
 obtain ⟨c0, c1, c2, c3, rfl⟩ : ∃ c0 c1 c2 c3, cs = [c0, c1, c2, c3] := by
  match cs, hl with
  | [c0, c1, c2, c3], _ => exact ⟨c0, c1, c2, c3, rfl⟩
 obtain ⟨⟨t, i⟩, h0, hi0⟩ := ZD h hw Tryz.underlying58 0 0 2 rfl rfl rfl (by kernel_rfl) opnS_key
 obtain ⟨v, h1, v0, v1⟩ := ZD h hw Tryz.underlying58 1 2 1 rfl rfl rfl (by kernel_rfl) (Yh Tryz.underlying2).sized
 obtain ⟨s, h2⟩ := ZD h hw Tryz.underlying58 2 3 1 rfl rfl rfl (by kernel_rfl) opnS_str
 simp only [List.drop_zero, List.drop_succ_cons, List.take_succ_cons, List.take_zero, List.cons.injEq, and_true, keyV] at h0 h1 h2
 obtain ⟨rfl, rfl⟩ := h0
 subst h1; subst h2
 simp only [lo, hi] at v0 v1
 exact ⟨⟨t, i, v, s⟩, rfl, ⟨hi0, v0, v1⟩⟩
theorem opnS_kid : OpnS enc Tryz.prog w 230 (fun cs (k : Kid) => cs = kidV k ∧ k.id < 65536) := fun fuel cs x h hw => by
 obtain ⟨hl, hf⟩ := YD Tryz.underlying230 h hw
 have hl : cs.length = 3 := by rw [hl]; kernel_rfl
 obtain ⟨c0, c1, c2, rfl⟩ : ∃ c0 c1 c2, cs = [c0, c1, c2] := by
  match cs, hl with
  | [c0, c1, c2], _ => exact ⟨c0, c1, c2, rfl⟩
 obtain ⟨⟨t, i⟩, h0, hi0⟩ := ZD h hw Tryz.underlying230 0 0 2 rfl rfl rfl (by kernel_rfl) opnS_key
 obtain ⟨v, h1, _⟩ := ZD h hw Tryz.underlying230 1 2 1 rfl rfl rfl (by kernel_rfl) (Yh Tryz.underlying3).sized
 simp only [List.drop_zero, List.drop_succ_cons, List.take_succ_cons, List.take_zero, List.cons.injEq, and_true, keyV] at h0 h1
 obtain ⟨rfl, rfl⟩ := h0
 subst h1
 exact ⟨⟨t, i, v⟩, rfl, hi0⟩
theorem opnS_cont : OpnS enc Tryz.prog w 98 (fun cs (x : CV × Cont) => cs = contV x.2.kind x.1 ∧ CW (hpOf w) x.1 x.2) := fun fuel cs x h hw => by
 obtain ⟨hl, hf⟩ := YD Tryz.underlying98 h hw
 have hl : cs.length = 3 := by rw [hl]; kernel_rfl
 obtain ⟨c0, c1, c2, rfl⟩ : ∃ c0 c1 c2, cs = [c0, c1, c2] := by
  match cs, hl with
  | [c0, c1, c2], _ => exact ⟨c0, c1, c2, rfl⟩
 obtain ⟨k, h0, _⟩ := ZD h hw Tryz.underlying98 0 0 1 rfl rfl rfl (by kernel_rfl) (Yh Tryz.underlying3).sized
 obtain ⟨⟨ra, rn, rc, rows⟩, h1, w1⟩ := ZD h hw Tryz.underlying98 1 1 1 rfl rfl rfl (by kernel_rfl) (Xc (sz := 4) (by' := 40) Tryz.underlying95 (by kernel_rfl) (by decide) (by kernel_rfl) opnS_row)
 obtain ⟨⟨ka, kn, kc, kids⟩, h2, w2⟩ := ZD h hw Tryz.underlying98 2 2 1 rfl rfl rfl (by kernel_rfl) (Xc (sz := 3) (by' := 24) Tryz.underlying96 (by kernel_rfl) (by decide) (by kernel_rfl) opnS_kid)
 obtain ⟨g1, g2, g3, _⟩ := We rowV_len h1
 obtain ⟨k1, k2, k3, _⟩ := We kidV_len h2
 simp only [reachBytes] at w1 w2
 replace h1 := h1.cells
 replace h2 := h2.cells
 simp only [List.drop_zero, List.drop_succ_cons, List.take_succ_cons, List.take_zero, List.cons.injEq, and_true] at h0 h1 h2
 subst h0; subst h1; subst h2
 exact ⟨(⟨ra, rn, rc, ka, kn, kc⟩, ⟨k, rows, kids⟩), rfl, ⟨g1, k1, by dsimp only; omega, by dsimp only; omega, g3, k3, g2, k2⟩⟩
theorem opnS_image : OpnS enc Tryz.prog w 100 (fun cs (x : Im) => cs = imV x ∧ (CW (hpOf w) x.bv x.b ∧ CW (hpOf w) x.av x.a)) := fun fuel cs x h hw => by
 obtain ⟨hl, hf⟩ := YD Tryz.underlying100 h hw
 have hl : cs.length = 7 := by rw [hl]; kernel_rfl
 obtain ⟨c0, c1, c2, c3, c4, c5, c6, rfl⟩ : ∃ c0 c1 c2 c3 c4 c5 c6, cs = [c0, c1, c2, c3, c4, c5, c6] := by
  match cs, hl with
  | [c0, c1, c2, c3, c4, c5, c6], _ => exact ⟨c0, c1, c2, c3, c4, c5, c6, rfl⟩
 obtain ⟨k, h0, _⟩ := ZD h hw Tryz.underlying100 0 0 1 rfl rfl rfl (by kernel_rfl) (Yh Tryz.underlying3).sized
 obtain ⟨⟨bv, b⟩, h1, w1⟩ := ZD h hw Tryz.underlying100 1 1 3 rfl rfl rfl (by kernel_rfl) opnS_cont
 obtain ⟨⟨av, a⟩, h2, w2⟩ := ZD h hw Tryz.underlying100 2 4 3 rfl rfl rfl (by kernel_rfl) opnS_cont
 simp only [List.drop_zero, List.drop_succ_cons, List.take_succ_cons, List.take_zero, List.cons.injEq, and_true, contV] at h0 h1 h2
 obtain ⟨rfl, rfl, rfl⟩ := h1
 obtain ⟨rfl, rfl, rfl⟩ := h2
 subst h0
 exact ⟨⟨k, bv, b, av, a⟩, rfl, w1, w2⟩
theorem opnS_step : OpnS enc Tryz.prog w 60 (fun cs (x : Stp) => cs = stpV x ∧ RowFit x.row) := fun fuel cs x h hw => by
 obtain ⟨hl, hf⟩ := YD Tryz.underlying60 h hw
 have hl : cs.length = 6 := by rw [hl]; kernel_rfl
 obtain ⟨c0, c1, c2, c3, c4, c5, rfl⟩ : ∃ c0 c1 c2 c3 c4 c5, cs = [c0, c1, c2, c3, c4, c5] := by
  match cs, hl with
  | [c0, c1, c2, c3, c4, c5], _ => exact ⟨c0, c1, c2, c3, c4, c5, rfl⟩
 obtain ⟨k, h0, _⟩ := ZD h hw Tryz.underlying60 0 0 1 rfl rfl rfl (by kernel_rfl) (Yh Tryz.underlying3).sized
 obtain ⟨r, h1, w1⟩ := ZD h hw Tryz.underlying60 1 1 4 rfl rfl rfl (by kernel_rfl) opnS_row
 obtain ⟨b, h2, _⟩ := ZD h hw Tryz.underlying60 2 5 1 rfl rfl rfl (by kernel_rfl) (Yh Tryz.underlying2).sized
 simp only [List.drop_zero, List.drop_succ_cons, List.take_succ_cons, List.take_zero, List.cons.injEq, and_true, rowV] at h0 h1 h2
 obtain ⟨rfl, rfl, rfl, rfl⟩ := h1
 subst h0; subst h2
 exact ⟨⟨k, r, b⟩, rfl, w1⟩
theorem YK {i : Int} (h : lo .u64 ≤ i) : ((i.toNat : Nat) : Int) = i := by simp only [lo] at h; omega
theorem opnS_ckt : OpnS enc Tryz.prog w 169 (fun cs (x : CkT) => cs = ckTV x ∧ True) := fun fuel cs x h hw => by
 obtain ⟨hl, hf⟩ := YD Tryz.underlying169 h hw
 have hl : cs.length = 5 := by rw [hl]; kernel_rfl
 obtain ⟨c0, c1, c2, c3, c4, rfl⟩ : ∃ c0 c1 c2 c3 c4, cs = [c0, c1, c2, c3, c4] := by
  match cs, hl with
  | [c0, c1, c2, c3, c4], _ => exact ⟨c0, c1, c2, c3, c4, rfl⟩
 obtain ⟨k, h0, _⟩ := ZD h hw Tryz.underlying169 0 0 1 rfl rfl rfl (by kernel_rfl) (Yh Tryz.underlying3).sized
 obtain ⟨f, h1, f0, f1⟩ := ZD h hw Tryz.underlying169 1 1 1 rfl rfl rfl (by kernel_rfl) (Yh Tryz.underlying28).sized
 obtain ⟨l, h2, l0, l1⟩ := ZD h hw Tryz.underlying169 2 2 1 rfl rfl rfl (by kernel_rfl) (Yh Tryz.underlying28).sized
 obtain ⟨u, h3, u0, u1⟩ := ZD h hw Tryz.underlying169 3 3 1 rfl rfl rfl (by kernel_rfl) (Yh Tryz.underlying28).sized
 obtain ⟨s, h4, _⟩ := ZD h hw Tryz.underlying169 4 4 1 rfl rfl rfl (by kernel_rfl) (Yh Tryz.underlying3).sized
 simp only [List.drop_zero, List.drop_succ_cons, List.take_succ_cons, List.take_zero, List.cons.injEq, and_true] at h0 h1 h2 h3 h4
 subst h0; subst h1; subst h2; subst h3; subst h4
 refine ⟨⟨k, f.toNat, l.toNat, u.toNat, s⟩, ?_, trivial⟩
 simp only [ckTV, YK f0, YK l0, YK u0]
theorem opnS_ckp : OpnS enc Tryz.prog w 92 (fun cs (x : Yp) => cs = YM x ∧ True) := fun fuel cs x h hw => by
 obtain ⟨hl, hf⟩ := YD Tryz.underlying92 h hw
 have hl : cs.length = 2 := by rw [hl]; kernel_rfl
 obtain ⟨c0, c1, rfl⟩ : ∃ c0 c1, cs = [c0, c1] := by
  match cs, hl with
  | [c0, c1], _ => exact ⟨c0, c1, rfl⟩
 obtain ⟨k, h0, _⟩ := ZD h hw Tryz.underlying92 0 0 1 rfl rfl rfl (by kernel_rfl) (Yh Tryz.underlying3).sized
 obtain ⟨f, h1, f0, f1⟩ := ZD h hw Tryz.underlying92 1 1 1 rfl rfl rfl (by kernel_rfl) (Yh Tryz.underlying28).sized
 simp only [List.drop_zero, List.drop_succ_cons, List.take_succ_cons, List.take_zero, List.cons.injEq, and_true] at h0 h1
 subst h0; subst h1
 refine ⟨⟨k, f.toNat⟩, ?_, trivial⟩
 simp only [YM, YK f0]
theorem opnS_rec : OpnS enc Tryz.prog w 34 (fun cs (x : RV × Rc) => cs = YR x.1 x.2 ∧ RcW (hpOf w) x.1 x.2) := fun fuel cs x h hw => by
 obtain ⟨hl, hf⟩ := YD Tryz.underlying34 h hw
 have hl : cs.length = 10 := by rw [hl]; kernel_rfl
 obtain ⟨c0, c1, c2, c3, c4, c5, c6, c7, c8, c9, rfl⟩ : ∃ c0 c1 c2 c3 c4 c5 c6 c7 c8 c9, cs = [c0, c1, c2, c3, c4, c5, c6, c7, c8, c9] := by
  match cs, hl with
  | [c0, c1, c2, c3, c4, c5, c6, c7, c8, c9], _ => exact ⟨c0, c1, c2, c3, c4, c5, c6, c7, c8, c9, rfl⟩
 obtain ⟨k, h0, _⟩ := ZD h hw Tryz.underlying34 0 0 1 rfl rfl rfl (by kernel_rfl) (Yh Tryz.underlying3).sized
 obtain ⟨l, h1, l0, _⟩ := ZD h hw Tryz.underlying34 1 1 1 rfl rfl rfl (by kernel_rfl) (Yh Tryz.underlying28).sized
 obtain ⟨t, h2, _⟩ := ZD h hw Tryz.underlying34 2 2 1 rfl rfl rfl (by kernel_rfl) (Yh Tryz.underlying3).sized
 obtain ⟨p, h3, p0, _⟩ := ZD h hw Tryz.underlying34 3 3 1 rfl rfl rfl (by kernel_rfl) (Yh Tryz.underlying28).sized
 obtain ⟨n, h4, n0, _⟩ := ZD h hw Tryz.underlying34 4 4 1 rfl rfl rfl (by kernel_rfl) (Yh Tryz.underlying28).sized
 obtain ⟨⟨ia, inn, ic, ims⟩, h5, w5⟩ := ZD h hw Tryz.underlying34 5 5 1 rfl rfl rfl (by kernel_rfl) (Xc (sz := 7) (by' := 120) Tryz.underlying29 (by kernel_rfl) (by decide) (by kernel_rfl) opnS_image)
 obtain ⟨⟨sa, sn, sc, steps⟩, h6, w6⟩ := ZD h hw Tryz.underlying34 6 6 1 rfl rfl rfl (by kernel_rfl) (Xc (sz := 6) (by' := 56) Tryz.underlying30 (by kernel_rfl) (by decide) (by kernel_rfl) opnS_step)
 obtain ⟨x7, h7, _⟩ := ZD h hw Tryz.underlying34 7 7 1 rfl rfl rfl (by kernel_rfl) (Yh Tryz.underlying3).sized
 obtain ⟨⟨ta, tn, tc, txns⟩, h8, w8⟩ := ZD h hw Tryz.underlying34 8 8 1 rfl rfl rfl (by kernel_rfl) (Xc (sz := 5) (by' := 40) Tryz.underlying31 (by kernel_rfl) (by decide) (by kernel_rfl) opnS_ckt)
 obtain ⟨⟨da, dn, dc, dirty⟩, h9, w9⟩ := ZD h hw Tryz.underlying34 9 9 1 rfl rfl rfl (by kernel_rfl) (Xc (sz := 2) (by' := 16) Tryz.underlying32 (by kernel_rfl) (by decide) (by kernel_rfl) opnS_ckp)
 obtain ⟨i1, i2, i3, _⟩ := We imV_len h5
 obtain ⟨s1, s2, s3, _⟩ := We stpV_len h6
 obtain ⟨t1, t2, t3, _⟩ := We ckTV_len h8
 obtain ⟨d1, d2, d3, _⟩ := We Wd h9
 simp only [reachBytes] at w5 w6 w8 w9
 replace h5 := h5.cells
 replace h6 := h6.cells
 replace h8 := h8.cells
 replace h9 := h9.cells
 simp only [List.drop_zero, List.drop_succ_cons, List.take_succ_cons, List.take_zero, List.cons.injEq, and_true] at h0 h1 h2 h3 h4 h5 h6 h7 h8 h9
 subst h0; subst h1; subst h2; subst h3; subst h4; subst h5; subst h6; subst h7; subst h8; subst h9
 refine ⟨(⟨⟨ia, inn, ic⟩, ⟨sa, sn, sc⟩, ⟨ta, tn, tc⟩, ⟨da, dn, dc⟩⟩, ⟨k, l.toNat, t, p.toNat, n.toNat, ims, steps, x7, txns, dirty⟩), ?_, ⟨⟨i1, by dsimp only; omega, i3⟩, i2, ⟨s1, by dsimp only; omega, s3⟩, ⟨t1, by dsimp only; omega, t3⟩, ⟨d1, by dsimp only; omega, d3⟩, s2⟩⟩
 simp only [YR, YK l0, YK p0, YK n0]
end
structure RosW (ρ : Hp) (v : SV) (r : Ros) : Prop where
 at' : AW ρ 7 txV v r.txns
 tx : ∀ x ∈ r.txns, Tx.In ρ x
theorem RosW.in' {ρ v r} (h : RosW ρ v r) (hn : v.n ≤ 1000000) : RosIn ρ v r := ⟨⟨h.at'.at', hn, h.at'.cap⟩, h.tx⟩
theorem RosW.mono {ρ ρ' v r} (h : RosW ρ v r) (hle : ρ.le ρ') : RosW ρ' v r := ⟨h.at'.mono hle, fun x hx => (h.tx x hx).mono hle⟩
theorem sIn_ofA {ρ : Hp} {α : Type} {g : α → Value} {a : Option Addr} {n : Nat} {l : List α} (h : AIn ρ 1 (fun x => [g x]) a n l) : SIn ρ g a n l := by
 refine ⟨h.len, ?_⟩
 rcases h.out with h0 | ⟨b, off, C, T, fr, e1, e2, e3, e4⟩
 ·exact .inl h0
 ·right
  refine ⟨b, off, C, T, fr, e1, e2, ?_⟩
  have key : ∀ l : List α, (l.map (fun x => [g x])).flatten = l.map g := fun l => by
   induction l with
   | nil => rfl
   | cons a r ih => simp only [List.map_cons, List.flatten_cons, ih, List.singleton_append]
  have := key l
  rw [← this, ← e4]; simp
section
variable {H : Type} {enc : TypeId × Value → H} {w : World}
theorem opnS_left : OpnS enc Tryz.prog w 108 (fun cs (x : Lf) => cs = lfV x ∧ True) := fun fuel cs x h hw => by
 obtain ⟨hl, hf⟩ := YD Tryz.underlying108 h hw
 have hl : cs.length = 2 := by rw [hl]; kernel_rfl
 obtain ⟨c0, c1, rfl⟩ : ∃ c0 c1, cs = [c0, c1] := by
  match cs, hl with
  | [c0, c1], _ => exact ⟨c0, c1, rfl⟩
 obtain ⟨k, h0, k0, _⟩ := ZD h hw Tryz.underlying108 0 0 1 rfl rfl rfl (by kernel_rfl) (Yh Tryz.underlying28).sized
 obtain ⟨f, h1, f0, f1⟩ := ZD h hw Tryz.underlying108 1 1 1 rfl rfl rfl (by kernel_rfl) (Yh Tryz.underlying3).sized
 simp only [List.drop_zero, List.drop_succ_cons, List.take_succ_cons, List.take_zero, List.cons.injEq, and_true] at h0 h1
 subst h0; subst h1
 refine ⟨⟨k.toNat, f⟩, ?_, trivial⟩
 simp only [lfV, YK k0]
theorem opnS_u64 : OpnS enc Tryz.prog w 28 (fun cs (x : Nat) => cs = [Yw x] ∧ x < 18446744073709551616) := fun fuel cs x h hw => by
 obtain ⟨k, h0, k0, k1⟩ := (Yh Tryz.underlying28).sized fuel cs x h hw
 refine ⟨k.toNat, by rw [h0]; simp only [Yw, YK k0], ?_⟩
 simp only [lo, hi] at k0 k1; omega
theorem opnS_txn : OpnS enc Tryz.prog w 45 (fun cs (x : Tx) => cs = txV x ∧ Tx.In (hpOf w) x) := fun fuel cs x h hw => by
 obtain ⟨hl, hf⟩ := YD Tryz.underlying45 h hw
 have hl : cs.length = 7 := by rw [hl]; kernel_rfl
 obtain ⟨c0, c1, c2, c3, c4, c5, c6, rfl⟩ : ∃ c0 c1 c2 c3 c4 c5 c6, cs = [c0, c1, c2, c3, c4, c5, c6] := by
  match cs, hl with
  | [c0, c1, c2, c3, c4, c5, c6], _ => exact ⟨c0, c1, c2, c3, c4, c5, c6, rfl⟩
 obtain ⟨k, h0, _⟩ := ZD h hw Tryz.underlying45 0 0 1 rfl rfl rfl (by kernel_rfl) (Yh Tryz.underlying3).sized
 obtain ⟨s, h1, _⟩ := ZD h hw Tryz.underlying45 1 1 1 rfl rfl rfl (by kernel_rfl) (Yh Tryz.underlying3).sized
 obtain ⟨f, h2, f0, _⟩ := ZD h hw Tryz.underlying45 2 2 1 rfl rfl rfl (by kernel_rfl) (Yh Tryz.underlying28).sized
 obtain ⟨l, h3, l0, _⟩ := ZD h hw Tryz.underlying45 3 3 1 rfl rfl rfl (by kernel_rfl) (Yh Tryz.underlying28).sized
 obtain ⟨u, h4, u0, _⟩ := ZD h hw Tryz.underlying45 4 4 1 rfl rfl rfl (by kernel_rfl) (Yh Tryz.underlying28).sized
 obtain ⟨⟨sa, sn, sc, st⟩, h5, w5⟩ := ZD h hw Tryz.underlying45 5 5 1 rfl rfl rfl (by kernel_rfl) (Xc (sz := 2) (by' := 16) Tryz.underlying42 (by kernel_rfl) (by decide) (by kernel_rfl) opnS_left)
 obtain ⟨⟨ma, mn, mc, ms⟩, h6, w6⟩ := ZD h hw Tryz.underlying45 6 6 1 rfl rfl rfl (by kernel_rfl) (Xc (sz := 1) (by' := 8) Tryz.underlying43 (by kernel_rfl) (by decide) (by kernel_rfl) opnS_u64)
 obtain ⟨s1, s2, s3, _⟩ := We lfV_len h5
 obtain ⟨m1, m2, m3, _⟩ := We (g := fun x : Nat => [Yw x]) (fun _ => rfl) h6
 simp only [reachBytes] at w5 w6
 replace h5 := h5.cells
 replace h6 := h6.cells
 simp only [List.drop_zero, List.drop_succ_cons, List.take_succ_cons, List.take_zero, List.cons.injEq, and_true] at h0 h1 h2 h3 h4 h5 h6
 subst h0; subst h1; subst h2; subst h3; subst h4; subst h5; subst h6
 refine ⟨⟨k, s, f.toNat, l.toNat, u.toNat, st, ms, ⟨sa, sn, sc⟩, ⟨ma, mn, mc⟩⟩, ?_, ⟨s1, sIn_ofA m1, by dsimp only; omega, by dsimp only; omega, s3, m3⟩⟩
 simp only [txV, YK f0, YK l0, YK u0]
theorem opnS_roster : OpnS enc Tryz.prog w 26 (fun cs (x : SV × Ros) => cs = XI x.1 x.2 ∧ RosW (hpOf w) x.1 x.2) := fun fuel cs x h hw => by
 obtain ⟨hl, hf⟩ := YD Tryz.underlying26 h hw
 have hl : cs.length = 2 := by rw [hl]; kernel_rfl
 obtain ⟨c0, c1, rfl⟩ : ∃ c0 c1, cs = [c0, c1] := by
  match cs, hl with
  | [c0, c1], _ => exact ⟨c0, c1, rfl⟩
 obtain ⟨k, h0, _⟩ := ZD h hw Tryz.underlying26 0 0 1 rfl rfl rfl (by kernel_rfl) (Yh Tryz.underlying3).sized
 obtain ⟨⟨ta, tn, tc, ts⟩, h1, w1⟩ := ZD h hw Tryz.underlying26 1 1 1 rfl rfl rfl (by kernel_rfl) (Xc (sz := 7) (by' := 88) Tryz.underlying24 (by kernel_rfl) (by decide) (by kernel_rfl) opnS_txn)
 obtain ⟨t1, t2, t3, _⟩ := We txV_len h1
 simp only [reachBytes] at w1
 replace h1 := h1.cells
 simp only [List.drop_zero, List.drop_succ_cons, List.take_succ_cons, List.take_zero, List.cons.injEq, and_true] at h0 h1
 subst h0; subst h1
 exact ⟨(⟨ta, tn, tc⟩, ⟨k, ts⟩), rfl, ⟨⟨t1, by dsimp only; omega, t3⟩, t2⟩⟩
end
end Go.Proofs.E
