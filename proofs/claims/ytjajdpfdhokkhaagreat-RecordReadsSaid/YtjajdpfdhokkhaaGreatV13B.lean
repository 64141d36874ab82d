/- The law RecordReads. Part 13, behind it. -/
import Derived.Test.YtjajdpfdhokkhaaGreatV13
namespace Go.Proofs.E
open Go
set_option linter.unusedVariables false
set_option linter.unusedSimpArgs false
set_option linter.unusedSectionVars false
set_option maxRecDepth 4000
set_option maxHeartbeats 1000000
attribute [local irreducible] Yl TL TC TE Spec XW R1 Hp.le EnvLe TS TR YS Zv
instance (priority := 1200) eqCkT {x y : CkT} : EqC Tryz.prog 8 81 (.agg ⟨Xk x⟩) (.agg ⟨Xk y⟩) (decide (x = y)) := by
  have h : EqC Tryz.prog 8 81 (.agg ⟨[.int .i64 x.txn, .int .u64 x.first, .int .u64 x.last, .int .u64 x.undo, .int .i64 x.state]⟩) (.agg ⟨[.int .i64 y.txn, .int .u64 y.first, .int .u64 y.last, .int .u64 y.undo, .int .i64 y.state]⟩) _ := inferInstance
  refine ⟨fun d w hd => ?_⟩
  rw [h.out d w hd]
  congr 1
  obtain ⟨t, a, b, c, s⟩ := x
  obtain ⟨t', a', b', c', s'⟩ := y
  simp only [CkT.mk.injEq, Bool.and_true, Bool.decide_and]
  have e : ∀ i i' : Nat, ((i : Int) == (i' : Int)) = decide (i = i') := fun i i' => by
    by_cases h : i = i'
    · subst h; simp
    · rw [decide_eq_false h]; simp only [beq_eq_false_iff_ne, ne_eq]; omega
  rw [e, e, e]
  have e2 : ∀ i i' : Int, (i == i') = decide (i = i') := fun i i' => by
    by_cases h : i = i' <;> simp [h]
  rw [e2, e2]
instance (priority := 1200) eqStp {x y : Stp} : EqC Tryz.prog 8 103 (.agg ⟨XT x⟩) (.agg ⟨XT y⟩) (decide (x = y)) := by
  have h : EqC Tryz.prog 8 103 (.agg ⟨[.int .i64 x.kind, .int .i64 x.row.t, .int .u16 x.row.id, .int .i64 x.row.val, strV x.row.note, .int .i64 x.by']⟩) (.agg ⟨[.int .i64 y.kind, .int .i64 y.row.t, .int .u16 y.row.id, .int .i64 y.row.val, strV y.row.note, .int .i64 y.by']⟩) _ := inferInstance
  refine ⟨fun d w hd => ?_⟩
  rw [h.out d w hd]
  congr 1
  obtain ⟨k, ⟨t, i, v, n⟩, b⟩ := x
  obtain ⟨k', ⟨t', i', v', n'⟩, b'⟩ := y
  simp only [Stp.mk.injEq, Row.mk.injEq, Bool.and_true, Bool.decide_and]
  have e : ∀ i i' : Nat, ((i : Int) == (i' : Int)) = decide (i = i') := fun i i' => by
    by_cases h : i = i'
    · subst h; simp
    · rw [decide_eq_false h]; simp only [beq_eq_false_iff_ne, ne_eq]; omega
  rw [e]
  have e2 : ∀ i i' : Int, (i == i') = decide (i = i') := fun i i' => by
    by_cases h : i = i' <;> simp [h]
  rw [e2, e2, e2, e2]
  simp only [Bool.and_assoc]
theorem eqCKP_spec (ρ : Hp) (s s' : SV) (l m : List CkP) (h : AS ρ 2 XF s l) (h' : AS ρ 2 XF s' m) :
    Spec Tryz.prog 108 [.slice s.a s.n s.c, .slice s'.a s'.n s'.c] ρ [] (fun v ρ' L' => v = .bool (decide (l = m)) ∧ ρ' = ρ ∧ L' = []) := by
  have hl := h.at'.len
  have hm := h'.at'.len
  have hn := h.big
  refine Zf Tryz.func108 rfl rfl rfl fun u R => ?_
  simp only [Zx, List.cons_append, List.nil_append]
  by_cases hne : s.n = s'.n
  · repeat' (first | (refine ZG ?_; refine Zn (Ze rfl) rfl rfl ?_) | (refine Zj ?_; first | (refine Zg ?_; refine qQ ?_) | refine Zl ?_) | refine Za ?_ | (refine Zi ?_; refine Zq ?_) | (refine Zh ?_; refine Zp ?_) | intro _)
    refine Zy [(0, _), (1, _), (12, _)] (fun (ζ : (Nat)) => [(13, .int .i64 ζ), (4, .bool false)]) (fun (ζ : (Nat)) => ρ) (fun (ζ : (Nat)) => []) (fun (ζ : (Nat)) => ζ ≤ s.n ∧ l.take ζ = m.take ζ) (fun (ζ : (Nat)) => s.n - ζ) (0) (⟨Nat.zero_le _, rfl⟩) Zk Zk rfl tk ?_
    rintro k hI
    try simp only [List.cons_append, List.nil_append, List.append_assoc, List.append_eq] at hI ⊢
    try dsimp only at hI ⊢
    obtain ⟨hk, hpre⟩ := hI
    by_cases hlt : k < s.n
    · obtain ⟨b, off, C, T, fr, f1, hb, hfit, hc⟩ := h.at'.get (show k < l.length by omega)
      obtain ⟨b2, off2, C2, T2, fr2, f2, hb2, hfit2, hc2⟩ := h'.at'.get (show k < m.length by omega)
      have ht1 := List.take_succ_eq_append_getElem (show k < l.length by omega)
      have ht2 := List.take_succ_eq_append_getElem (show k < m.length by omega)
      have hf : l = m → l[k]'(by omega) = m[k]'(by omega) := fun e => by subst e; rfl
      generalize l[k]'(by omega) = x at *
      generalize m[k]'(by omega) = y at *
      rw [f1, f2]
      by_cases he : x = y
      · have hd : decide (x = y) = true := decide_eq_true he
        have hpre2 : l.take (k + 1) = m.take (k + 1) := by rw [ht1, ht2, hpre, he]
        repeat' (first | (refine ZG ?_; refine Zn (Ze rfl) rfl rfl ?_) | (refine Zj ?_; first | (refine Zg ?_; refine qQ ?_) | refine Zl ?_) | refine Za ?_ | (refine Zi ?_; refine Zq ?_) | (refine Zh ?_; refine Zp ?_) | intro _)
        refine ZI (Zv _ _ _) ZC ?_
        all_goals refine Ye 0 ?_
        all_goals refine Yi ?_
        all_goals refine Ye 1 ?_
        all_goals refine rIa 2 ?_
        all_goals refine Yr 3 ?_
        all_goals refine Ye 4 ?_
        all_goals refine Ye 5 ?_
        all_goals refine rIa 6 ?_
        all_goals refine Yr 7 ?_
        all_goals refine rCm 8 ?_
        all_goals refine ZP ?_
        all_goals (try simp only [hd])
        all_goals (repeat' (first | (refine ZG ?_; refine Zn (Ze rfl) rfl rfl ?_) | (refine Zj ?_; first | (refine Zg ?_; refine qQ ?_) | refine Zl ?_) | refine Za ?_ | (refine Zi ?_; refine Zq ?_) | (refine Zh ?_; refine Zp ?_) | intro _))
        all_goals rw [← f1, ← f2]
        all_goals refine Zo (k + 1) (⟨hlt, hpre2⟩) Zk Zk rfl tk inferInstance (by first | omega | (dsimp only; omega))
      · have hd : decide (x = y) = false := decide_eq_false he
        rw [decide_eq_false (fun e => he (hf e))]
        repeat' (first | (refine ZG ?_; refine Zn (Ze rfl) rfl rfl ?_) | (refine Zj ?_; first | (refine Zg ?_; refine qQ ?_) | refine Zl ?_) | refine Za ?_ | (refine Zi ?_; refine Zq ?_) | (refine Zh ?_; refine Zp ?_) | intro _)
        refine ZI (Zv _ _ _) ZC ?_
        all_goals refine Ye 0 ?_
        all_goals refine Yi ?_
        all_goals refine Ye 1 ?_
        all_goals refine rIa 2 ?_
        all_goals refine Yr 3 ?_
        all_goals refine Ye 4 ?_
        all_goals refine Ye 5 ?_
        all_goals refine rIa 6 ?_
        all_goals refine Yr 7 ?_
        all_goals refine rCm 8 ?_
        all_goals refine ZP ?_
        all_goals (try simp only [hd])
        all_goals (repeat' (first | (refine ZG ?_; refine Zn (Ze rfl) rfl rfl ?_) | (refine Zj ?_; first | (refine Zg ?_; refine qQ ?_) | refine Zl ?_) | refine Za ?_ | (refine Zi ?_; refine Zq ?_) | (refine Zh ?_; refine Zp ?_) | intro _))
        all_goals exact qE (L' := []) ⟨rfl, rfl, rfl⟩
    · have hk2 : k = s.n := by omega
      subst hk2
      rw [List.take_of_length_le (by omega), List.take_of_length_le (by omega)] at hpre
      rw [decide_eq_true hpre]
      repeat' (first | (refine ZG ?_; refine Zn (Ze rfl) rfl rfl ?_) | (refine Zj ?_; first | (refine Zg ?_; refine qQ ?_) | refine Zl ?_) | refine Za ?_ | (refine Zi ?_; refine Zq ?_) | (refine Zh ?_; refine Zp ?_) | intro _)
      exact qE ⟨rfl, rfl, rfl⟩
  · rw [decide_eq_false (fun e : l = m => hne (by rw [← hl, ← hm, e]))]
    repeat' (first | (refine ZG ?_; refine Zn (Ze rfl) rfl rfl ?_) | (refine Zj ?_; first | (refine Zg ?_; refine qQ ?_) | refine Zl ?_) | refine Za ?_ | (refine Zi ?_; refine Zq ?_) | (refine Zh ?_; refine Zp ?_) | intro _)
    exact qE ⟨rfl, rfl, rfl⟩
theorem eqCKT_spec (ρ : Hp) (s s' : SV) (l m : List CkT) (h : AS ρ 5 Xk s l) (h' : AS ρ 5 Xk s' m) :
    Spec Tryz.prog 107 [.slice s.a s.n s.c, .slice s'.a s'.n s'.c] ρ [] (fun v ρ' L' => v = .bool (decide (l = m)) ∧ ρ' = ρ ∧ L' = []) := by
  have hl := h.at'.len
  have hm := h'.at'.len
  have hn := h.big
  refine Zf Tryz.func107 rfl rfl rfl fun u R => ?_
  simp only [Zx, List.cons_append, List.nil_append]
  by_cases hne : s.n = s'.n
  · repeat' (first | (refine ZG ?_; refine Zn (Ze rfl) rfl rfl ?_) | (refine Zj ?_; first | (refine Zg ?_; refine qQ ?_) | refine Zl ?_) | refine Za ?_ | (refine Zi ?_; refine Zq ?_) | (refine Zh ?_; refine Zp ?_) | intro _)
    refine Zy [(0, _), (1, _), (12, _)] (fun (ζ : (Nat)) => [(13, .int .i64 ζ), (4, .bool false)]) (fun (ζ : (Nat)) => ρ) (fun (ζ : (Nat)) => []) (fun (ζ : (Nat)) => ζ ≤ s.n ∧ l.take ζ = m.take ζ) (fun (ζ : (Nat)) => s.n - ζ) (0) (⟨Nat.zero_le _, rfl⟩) Zk Zk rfl tk ?_
    rintro k hI
    try simp only [List.cons_append, List.nil_append, List.append_assoc, List.append_eq] at hI ⊢
    try dsimp only at hI ⊢
    obtain ⟨hk, hpre⟩ := hI
    by_cases hlt : k < s.n
    · obtain ⟨b, off, C, T, fr, f1, hb, hfit, hc⟩ := h.at'.get (show k < l.length by omega)
      obtain ⟨b2, off2, C2, T2, fr2, f2, hb2, hfit2, hc2⟩ := h'.at'.get (show k < m.length by omega)
      have ht1 := List.take_succ_eq_append_getElem (show k < l.length by omega)
      have ht2 := List.take_succ_eq_append_getElem (show k < m.length by omega)
      have hf : l = m → l[k]'(by omega) = m[k]'(by omega) := fun e => by subst e; rfl
      generalize l[k]'(by omega) = x at *
      generalize m[k]'(by omega) = y at *
      rw [f1, f2]
      by_cases he : x = y
      · have hd : decide (x = y) = true := decide_eq_true he
        have hpre2 : l.take (k + 1) = m.take (k + 1) := by rw [ht1, ht2, hpre, he]
        repeat' (first | (refine ZG ?_; refine Zn (Ze rfl) rfl rfl ?_) | (refine Zj ?_; first | (refine Zg ?_; refine qQ ?_) | refine Zl ?_) | refine Za ?_ | (refine Zi ?_; refine Zq ?_) | (refine Zh ?_; refine Zp ?_) | intro _)
        refine ZI (Zv _ _ _) ZC ?_
        all_goals refine Ye 0 ?_
        all_goals refine Yi ?_
        all_goals refine Ye 1 ?_
        all_goals refine rIa 2 ?_
        all_goals refine Yr 3 ?_
        all_goals refine Ye 4 ?_
        all_goals refine Ye 5 ?_
        all_goals refine rIa 6 ?_
        all_goals refine Yr 7 ?_
        all_goals refine rCm 8 ?_
        all_goals refine ZP ?_
        all_goals (try simp only [hd])
        all_goals (repeat' (first | (refine ZG ?_; refine Zn (Ze rfl) rfl rfl ?_) | (refine Zj ?_; first | (refine Zg ?_; refine qQ ?_) | refine Zl ?_) | refine Za ?_ | (refine Zi ?_; refine Zq ?_) | (refine Zh ?_; refine Zp ?_) | intro _))
        all_goals rw [← f1, ← f2]
        all_goals refine Zo (k + 1) (⟨hlt, hpre2⟩) Zk Zk rfl tk inferInstance (by first | omega | (dsimp only; omega))
      · have hd : decide (x = y) = false := decide_eq_false he
        rw [decide_eq_false (fun e => he (hf e))]
        repeat' (first | (refine ZG ?_; refine Zn (Ze rfl) rfl rfl ?_) | (refine Zj ?_; first | (refine Zg ?_; refine qQ ?_) | refine Zl ?_) | refine Za ?_ | (refine Zi ?_; refine Zq ?_) | (refine Zh ?_; refine Zp ?_) | intro _)
        refine ZI (Zv _ _ _) ZC ?_
        all_goals refine Ye 0 ?_
        all_goals refine Yi ?_
        all_goals refine Ye 1 ?_
        all_goals refine rIa 2 ?_
        all_goals refine Yr 3 ?_
        all_goals refine Ye 4 ?_
        all_goals refine Ye 5 ?_
        all_goals refine rIa 6 ?_
        all_goals refine Yr 7 ?_
        all_goals refine rCm 8 ?_
        all_goals refine ZP ?_
        all_goals (try simp only [hd])
        all_goals (repeat' (first | (refine ZG ?_; refine Zn (Ze rfl) rfl rfl ?_) | (refine Zj ?_; first | (refine Zg ?_; refine qQ ?_) | refine Zl ?_) | refine Za ?_ | (refine Zi ?_; refine Zq ?_) | (refine Zh ?_; refine Zp ?_) | intro _))
        all_goals exact qE (L' := []) ⟨rfl, rfl, rfl⟩
    · have hk2 : k = s.n := by omega
      subst hk2
      rw [List.take_of_length_le (by omega), List.take_of_length_le (by omega)] at hpre
      rw [decide_eq_true hpre]
      repeat' (first | (refine ZG ?_; refine Zn (Ze rfl) rfl rfl ?_) | (refine Zj ?_; first | (refine Zg ?_; refine qQ ?_) | refine Zl ?_) | refine Za ?_ | (refine Zi ?_; refine Zq ?_) | (refine Zh ?_; refine Zp ?_) | intro _)
      exact qE ⟨rfl, rfl, rfl⟩
  · rw [decide_eq_false (fun e : l = m => hne (by rw [← hl, ← hm, e]))]
    repeat' (first | (refine ZG ?_; refine Zn (Ze rfl) rfl rfl ?_) | (refine Zj ?_; first | (refine Zg ?_; refine qQ ?_) | refine Zl ?_) | refine Za ?_ | (refine Zi ?_; refine Zq ?_) | (refine Zh ?_; refine Zp ?_) | intro _)
    exact qE ⟨rfl, rfl, rfl⟩
theorem eqSTP_spec (ρ : Hp) (s s' : SV) (l m : List Stp) (h : AS ρ 6 XT s l) (h' : AS ρ 6 XT s' m) :
    Spec Tryz.prog 106 [.slice s.a s.n s.c, .slice s'.a s'.n s'.c] ρ [] (fun v ρ' L' => v = .bool (decide (l = m)) ∧ ρ' = ρ ∧ L' = []) := by
  have hl := h.at'.len
  have hm := h'.at'.len
  have hn := h.big
  refine Zf Tryz.func106 rfl rfl rfl fun u R => ?_
  simp only [Zx, List.cons_append, List.nil_append]
  by_cases hne : s.n = s'.n
  · repeat' (first | (refine ZG ?_; refine Zn (Ze rfl) rfl rfl ?_) | (refine Zj ?_; first | (refine Zg ?_; refine qQ ?_) | refine Zl ?_) | refine Za ?_ | (refine Zi ?_; refine Zq ?_) | (refine Zh ?_; refine Zp ?_) | intro _)
    refine Zy [(0, _), (1, _), (12, _)] (fun (ζ : (Nat)) => [(13, .int .i64 ζ), (4, .bool false)]) (fun (ζ : (Nat)) => ρ) (fun (ζ : (Nat)) => []) (fun (ζ : (Nat)) => ζ ≤ s.n ∧ l.take ζ = m.take ζ) (fun (ζ : (Nat)) => s.n - ζ) (0) (⟨Nat.zero_le _, rfl⟩) Zk Zk rfl tk ?_
    rintro k hI
    try simp only [List.cons_append, List.nil_append, List.append_assoc, List.append_eq] at hI ⊢
    try dsimp only at hI ⊢
    obtain ⟨hk, hpre⟩ := hI
    by_cases hlt : k < s.n
    · obtain ⟨b, off, C, T, fr, f1, hb, hfit, hc⟩ := h.at'.get (show k < l.length by omega)
      obtain ⟨b2, off2, C2, T2, fr2, f2, hb2, hfit2, hc2⟩ := h'.at'.get (show k < m.length by omega)
      have ht1 := List.take_succ_eq_append_getElem (show k < l.length by omega)
      have ht2 := List.take_succ_eq_append_getElem (show k < m.length by omega)
      have hf : l = m → l[k]'(by omega) = m[k]'(by omega) := fun e => by subst e; rfl
      generalize l[k]'(by omega) = x at *
      generalize m[k]'(by omega) = y at *
      rw [f1, f2]
      by_cases he : x = y
      · have hd : decide (x = y) = true := decide_eq_true he
        have hpre2 : l.take (k + 1) = m.take (k + 1) := by rw [ht1, ht2, hpre, he]
        repeat' (first | (refine ZG ?_; refine Zn (Ze rfl) rfl rfl ?_) | (refine Zj ?_; first | (refine Zg ?_; refine qQ ?_) | refine Zl ?_) | refine Za ?_ | (refine Zi ?_; refine Zq ?_) | (refine Zh ?_; refine Zp ?_) | intro _)
        refine ZI (Zv _ _ _) ZC ?_
        all_goals refine Ye 0 ?_
        all_goals refine Yi ?_
        all_goals refine Ye 1 ?_
        all_goals refine rIa 2 ?_
        all_goals refine Yr 3 ?_
        all_goals refine Ye 4 ?_
        all_goals refine Ye 5 ?_
        all_goals refine rIa 6 ?_
        all_goals refine Yr 7 ?_
        all_goals refine rCm 8 ?_
        all_goals refine ZP ?_
        all_goals (try simp only [hd])
        all_goals (repeat' (first | (refine ZG ?_; refine Zn (Ze rfl) rfl rfl ?_) | (refine Zj ?_; first | (refine Zg ?_; refine qQ ?_) | refine Zl ?_) | refine Za ?_ | (refine Zi ?_; refine Zq ?_) | (refine Zh ?_; refine Zp ?_) | intro _))
        all_goals rw [← f1, ← f2]
        all_goals refine Zo (k + 1) (⟨hlt, hpre2⟩) Zk Zk rfl tk inferInstance (by first | omega | (dsimp only; omega))
      · have hd : decide (x = y) = false := decide_eq_false he
        rw [decide_eq_false (fun e => he (hf e))]
        repeat' (first | (refine ZG ?_; refine Zn (Ze rfl) rfl rfl ?_) | (refine Zj ?_; first | (refine Zg ?_; refine qQ ?_) | refine Zl ?_) | refine Za ?_ | (refine Zi ?_; refine Zq ?_) | (refine Zh ?_; refine Zp ?_) | intro _)
        refine ZI (Zv _ _ _) ZC ?_
        all_goals refine Ye 0 ?_
        all_goals refine Yi ?_
        all_goals refine Ye 1 ?_
        all_goals refine rIa 2 ?_
        all_goals refine Yr 3 ?_
        all_goals refine Ye 4 ?_
        all_goals refine Ye 5 ?_
        all_goals refine rIa 6 ?_
        all_goals refine Yr 7 ?_
        all_goals refine rCm 8 ?_
        all_goals refine ZP ?_
        all_goals (try simp only [hd])
        all_goals (repeat' (first | (refine ZG ?_; refine Zn (Ze rfl) rfl rfl ?_) | (refine Zj ?_; first | (refine Zg ?_; refine qQ ?_) | refine Zl ?_) | refine Za ?_ | (refine Zi ?_; refine Zq ?_) | (refine Zh ?_; refine Zp ?_) | intro _))
        all_goals exact qE (L' := []) ⟨rfl, rfl, rfl⟩
    · have hk2 : k = s.n := by omega
      subst hk2
      rw [List.take_of_length_le (by omega), List.take_of_length_le (by omega)] at hpre
      rw [decide_eq_true hpre]
      repeat' (first | (refine ZG ?_; refine Zn (Ze rfl) rfl rfl ?_) | (refine Zj ?_; first | (refine Zg ?_; refine qQ ?_) | refine Zl ?_) | refine Za ?_ | (refine Zi ?_; refine Zq ?_) | (refine Zh ?_; refine Zp ?_) | intro _)
      exact qE ⟨rfl, rfl, rfl⟩
  · rw [decide_eq_false (fun e : l = m => hne (by rw [← hl, ← hm, e]))]
    repeat' (first | (refine ZG ?_; refine Zn (Ze rfl) rfl rfl ?_) | (refine Zj ?_; first | (refine Zg ?_; refine qQ ?_) | refine Zl ?_) | refine Za ?_ | (refine Zi ?_; refine Zq ?_) | (refine Zh ?_; refine Zp ?_) | intro _)
    exact qE ⟨rfl, rfl, rfl⟩
end Go.Proofs.E
