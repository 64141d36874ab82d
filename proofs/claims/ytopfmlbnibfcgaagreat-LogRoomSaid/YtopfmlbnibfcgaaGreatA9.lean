/- The law LogRoom. Part 9 of 16. -/
import Derived.Test.YtopfmlbnibfcgaaGreatA8
namespace Go.Proofs.E
open Go
set_option linter.unusedVariables false
set_option linter.unusedSimpArgs false
set_option linter.unusedSectionVars false
set_option maxRecDepth 4000
set_option maxHeartbeats 1000000
attribute [local irreducible] Yl TL TC TE Spec ZN R1 Hp.le EnvLe TS TR YS Zp TP QP
instance (priority := 1200) eqCkT {x y : CkT} : EqC Tryz.prog 8 147 (.agg ⟨YB x⟩) (.agg ⟨YB y⟩) (decide (x = y)) := by
 have h : EqC Tryz.prog 8 147 (.agg ⟨[.int .i64 x.txn, .int .u64 x.first, .int .u64 x.last, .int .u64 x.undo, .int .i64 x.state]⟩) (.agg ⟨[.int .i64 y.txn, .int .u64 y.first, .int .u64 y.last, .int .u64 y.undo, .int .i64 y.state]⟩) _ := inferInstance
 refine ⟨fun d w hd => ?_⟩
 rw [h.out d w hd]
 congr 1
 obtain ⟨t, a, b, c, s⟩ := x
 obtain ⟨t', a', b', c', s'⟩ := y
 simp only [CkT.mk.injEq, Bool.and_true, Bool.decide_and]
 have e : ∀ i i' : Nat, ((i : Int) == (i' : Int)) = decide (i = i') := fun i i' => by
  by_cases h : i = i'
  ·subst h; simp
  ·rw [decide_eq_false h]; simp only [beq_eq_false_iff_ne, ne_eq]; omega
 rw [e, e, e]
 have e2 : ∀ i i' : Int, (i == i') = decide (i = i') := fun i i' => by
  by_cases h : i = i' <;> simp [h]
 rw [e2, e2]
instance (priority := 1200) eqStp {x y : Stp} : EqC Tryz.prog 8 133 (.agg ⟨YQ x⟩) (.agg ⟨YQ y⟩) (decide (x = y)) := by
 have h : EqC Tryz.prog 8 133 (.agg ⟨[.int .i64 x.kind, .int .i64 x.row.t, .int .u16 x.row.id, .int .i64 x.row.val, strV x.row.note, .int .i64 x.by']⟩) (.agg ⟨[.int .i64 y.kind, .int .i64 y.row.t, .int .u16 y.row.id, .int .i64 y.row.val, strV y.row.note, .int .i64 y.by']⟩) _ := inferInstance
 refine ⟨fun d w hd => ?_⟩
 rw [h.out d w hd]
 congr 1
 obtain ⟨k, ⟨t, i, v, n⟩, b⟩ := x
 obtain ⟨k', ⟨t', i', v', n'⟩, b'⟩ := y
 simp only [Stp.mk.injEq, Row.mk.injEq, Bool.and_true, Bool.decide_and]
 have e : ∀ i i' : Nat, ((i : Int) == (i' : Int)) = decide (i = i') := fun i i' => by
  by_cases h : i = i'
  ·subst h; simp
  ·rw [decide_eq_false h]; simp only [beq_eq_false_iff_ne, ne_eq]; omega
 rw [e]
 have e2 : ∀ i i' : Int, (i == i') = decide (i = i') := fun i i' => by
  by_cases h : i = i' <;> simp [h]
 rw [e2, e2, e2, e2]
 simp only [Bool.and_assoc]
theorem eqCKP_spec (ρ : Hp) (s s' : SV) (l m : List CkP) (h : AS ρ 2 YK s l) (h' : AS ρ 2 YK s' m) :
  Spec Tryz.prog 93 [.slice s.a s.n s.c, .slice s'.a s'.n s'.c] ρ [] (fun v ρ' L' => v = .bool (decide (l = m)) ∧ ρ' = ρ ∧ L' = []) := by
 have hl := h.at'.len
 have hm := h'.at'.len
 have hn := h.big
 refine Za Tryz.func93 rfl rfl rfl fun u R => ?_
 simp only [Zf, kA]
 by_cases hne : s.n = s'.n
 ·repeat' (first | refine zV ?_ | intro _)
  refine Zm [(0, _), (1, _), (12, _)] (fun (ζ : (Nat)) => [(13, .int .i64 ζ), (4, .bool false)]) (fun (ζ : (Nat)) => ρ) (fun (ζ : (Nat)) => []) (fun (ζ : (Nat)) => ζ ≤ s.n ∧ l.take ζ = m.take ζ) (fun (ζ : (Nat)) => s.n - ζ) (0) (⟨Nat.zero_le _, rfl⟩) Zc Zc rfl tk ?_
  rintro k hI
  try simp only [kA, List.append_assoc] at hI ⊢
  try dsimp only at hI ⊢
  obtain ⟨hk, hpre⟩ := hI
  by_cases hlt : k < s.n
  ·obtain ⟨b, off, C, T, fr, f1, hb, hfit, hc⟩ := h.at'.get (show k < l.length by omega)
   obtain ⟨b2, off2, C2, T2, fr2, f2, hb2, hfit2, hc2⟩ := h'.at'.get (show k < m.length by omega)
   have ht1 := List.take_succ_eq_append_getElem (show k < l.length by omega)
   have ht2 := List.take_succ_eq_append_getElem (show k < m.length by omega)
   have hf : l = m → l[k]'(by omega) = m[k]'(by omega) := fun e => by subst e; rfl
   generalize l[k]'(by omega) = x at *
   generalize m[k]'(by omega) = y at *
   rw [f1, f2]
   by_cases he : x = y
   ·have hd : decide (x = y) = true := decide_eq_true he
    have hpre2 : l.take (k + 1) = m.take (k + 1) := by rw [ht1, ht2, hpre, he]
    repeat' (first | refine zV ?_ | intro _)
    refine tpZ [0] (.f [1,2,3,4,5,6,7,8] .o) ?_
    repeat' (refine iT ?_; first | refine rA ?_)
    all_goals (try simp only [hd])
    all_goals (repeat' (first | refine zV ?_ | intro _))
    all_goals rw [← f1, ← f2]
    all_goals refine Zi (k + 1) (⟨hlt, hpre2⟩) Zc Zc rfl tk inferInstance (by first | omega | (dsimp only; omega))
   ·have hd : decide (x = y) = false := decide_eq_false he
    rw [decide_eq_false (fun e => he (hf e))]
    repeat' (first | refine zV ?_ | intro _)
    refine tpZ [0] (.f [1,2,3,4,5,6,7,8] .o) ?_
    repeat' (refine iT ?_; first | refine rA ?_)
    all_goals (try simp only [hd])
    all_goals (repeat' (first | refine zV ?_ | intro _))
    all_goals exact qE (L' := []) ⟨rfl, rfl, rfl⟩
  ·have hk2 : k = s.n := by omega
   subst hk2
   rw [List.take_of_length_le (by omega), List.take_of_length_le (by omega)] at hpre
   rw [decide_eq_true hpre]
   repeat' (first | refine zV ?_ | intro _)
   exact qE ⟨rfl, rfl, rfl⟩
 ·rw [decide_eq_false (fun e : l = m => hne (by rw [← hl, ← hm, e]))]
  repeat' (first | refine zV ?_ | intro _)
  exact qE ⟨rfl, rfl, rfl⟩
theorem eqCKT_spec (ρ : Hp) (s s' : SV) (l m : List CkT) (h : AS ρ 5 YB s l) (h' : AS ρ 5 YB s' m) :
  Spec Tryz.prog 92 [.slice s.a s.n s.c, .slice s'.a s'.n s'.c] ρ [] (fun v ρ' L' => v = .bool (decide (l = m)) ∧ ρ' = ρ ∧ L' = []) := by
 have hl := h.at'.len
 have hm := h'.at'.len
 have hn := h.big
 refine Za Tryz.func92 rfl rfl rfl fun u R => ?_
 simp only [Zf, kA]
 by_cases hne : s.n = s'.n
 ·repeat' (first | refine zV ?_ | intro _)
  refine Zm [(0, _), (1, _), (12, _)] (fun (ζ : (Nat)) => [(13, .int .i64 ζ), (4, .bool false)]) (fun (ζ : (Nat)) => ρ) (fun (ζ : (Nat)) => []) (fun (ζ : (Nat)) => ζ ≤ s.n ∧ l.take ζ = m.take ζ) (fun (ζ : (Nat)) => s.n - ζ) (0) (⟨Nat.zero_le _, rfl⟩) Zc Zc rfl tk ?_
  rintro k hI
  try simp only [kA, List.append_assoc] at hI ⊢
  try dsimp only at hI ⊢
  obtain ⟨hk, hpre⟩ := hI
  by_cases hlt : k < s.n
  ·obtain ⟨b, off, C, T, fr, f1, hb, hfit, hc⟩ := h.at'.get (show k < l.length by omega)
   obtain ⟨b2, off2, C2, T2, fr2, f2, hb2, hfit2, hc2⟩ := h'.at'.get (show k < m.length by omega)
   have ht1 := List.take_succ_eq_append_getElem (show k < l.length by omega)
   have ht2 := List.take_succ_eq_append_getElem (show k < m.length by omega)
   have hf : l = m → l[k]'(by omega) = m[k]'(by omega) := fun e => by subst e; rfl
   generalize l[k]'(by omega) = x at *
   generalize m[k]'(by omega) = y at *
   rw [f1, f2]
   by_cases he : x = y
   ·have hd : decide (x = y) = true := decide_eq_true he
    have hpre2 : l.take (k + 1) = m.take (k + 1) := by rw [ht1, ht2, hpre, he]
    repeat' (first | refine zV ?_ | intro _)
    refine tpZ [0] (.f [1,2,3,4,5,6,7,8] .o) ?_
    repeat' (refine iT ?_; first | refine rA ?_)
    all_goals (try simp only [hd])
    all_goals (repeat' (first | refine zV ?_ | intro _))
    all_goals rw [← f1, ← f2]
    all_goals refine Zi (k + 1) (⟨hlt, hpre2⟩) Zc Zc rfl tk inferInstance (by first | omega | (dsimp only; omega))
   ·have hd : decide (x = y) = false := decide_eq_false he
    rw [decide_eq_false (fun e => he (hf e))]
    repeat' (first | refine zV ?_ | intro _)
    refine tpZ [0] (.f [1,2,3,4,5,6,7,8] .o) ?_
    repeat' (refine iT ?_; first | refine rA ?_)
    all_goals (try simp only [hd])
    all_goals (repeat' (first | refine zV ?_ | intro _))
    all_goals exact qE (L' := []) ⟨rfl, rfl, rfl⟩
  ·have hk2 : k = s.n := by omega
   subst hk2
   rw [List.take_of_length_le (by omega), List.take_of_length_le (by omega)] at hpre
   rw [decide_eq_true hpre]
   repeat' (first | refine zV ?_ | intro _)
   exact qE ⟨rfl, rfl, rfl⟩
 ·rw [decide_eq_false (fun e : l = m => hne (by rw [← hl, ← hm, e]))]
  repeat' (first | refine zV ?_ | intro _)
  exact qE ⟨rfl, rfl, rfl⟩
theorem eqSTP_spec (ρ : Hp) (s s' : SV) (l m : List Stp) (h : AS ρ 6 YQ s l) (h' : AS ρ 6 YQ s' m) :
  Spec Tryz.prog 91 [.slice s.a s.n s.c, .slice s'.a s'.n s'.c] ρ [] (fun v ρ' L' => v = .bool (decide (l = m)) ∧ ρ' = ρ ∧ L' = []) := by
 have hl := h.at'.len
 have hm := h'.at'.len
 have hn := h.big
 refine Za Tryz.func91 rfl rfl rfl fun u R => ?_
 simp only [Zf, kA]
 by_cases hne : s.n = s'.n
 ·repeat' (first | refine zV ?_ | intro _)
  refine Zm [(0, _), (1, _), (12, _)] (fun (ζ : (Nat)) => [(13, .int .i64 ζ), (4, .bool false)]) (fun (ζ : (Nat)) => ρ) (fun (ζ : (Nat)) => []) (fun (ζ : (Nat)) => ζ ≤ s.n ∧ l.take ζ = m.take ζ) (fun (ζ : (Nat)) => s.n - ζ) (0) (⟨Nat.zero_le _, rfl⟩) Zc Zc rfl tk ?_
  rintro k hI
  try simp only [kA, List.append_assoc] at hI ⊢
  try dsimp only at hI ⊢
  obtain ⟨hk, hpre⟩ := hI
  by_cases hlt : k < s.n
  ·obtain ⟨b, off, C, T, fr, f1, hb, hfit, hc⟩ := h.at'.get (show k < l.length by omega)
   obtain ⟨b2, off2, C2, T2, fr2, f2, hb2, hfit2, hc2⟩ := h'.at'.get (show k < m.length by omega)
   have ht1 := List.take_succ_eq_append_getElem (show k < l.length by omega)
   have ht2 := List.take_succ_eq_append_getElem (show k < m.length by omega)
   have hf : l = m → l[k]'(by omega) = m[k]'(by omega) := fun e => by subst e; rfl
   generalize l[k]'(by omega) = x at *
   generalize m[k]'(by omega) = y at *
   rw [f1, f2]
   by_cases he : x = y
   ·have hd : decide (x = y) = true := decide_eq_true he
    have hpre2 : l.take (k + 1) = m.take (k + 1) := by rw [ht1, ht2, hpre, he]
    repeat' (first | refine zV ?_ | intro _)
    refine tpZ [0] (.f [1,2,3,4,5,6,7,8] .o) ?_
    repeat' (refine iT ?_; first | refine rA ?_)
    all_goals (try simp only [hd])
    all_goals (repeat' (first | refine zV ?_ | intro _))
    all_goals rw [← f1, ← f2]
    all_goals refine Zi (k + 1) (⟨hlt, hpre2⟩) Zc Zc rfl tk inferInstance (by first | omega | (dsimp only; omega))
   ·have hd : decide (x = y) = false := decide_eq_false he
    rw [decide_eq_false (fun e => he (hf e))]
    repeat' (first | refine zV ?_ | intro _)
    refine tpZ [0] (.f [1,2,3,4,5,6,7,8] .o) ?_
    repeat' (refine iT ?_; first | refine rA ?_)
    all_goals (try simp only [hd])
    all_goals (repeat' (first | refine zV ?_ | intro _))
    all_goals exact qE (L' := []) ⟨rfl, rfl, rfl⟩
  ·have hk2 : k = s.n := by omega
   subst hk2
   rw [List.take_of_length_le (by omega), List.take_of_length_le (by omega)] at hpre
   rw [decide_eq_true hpre]
   repeat' (first | refine zV ?_ | intro _)
   exact qE ⟨rfl, rfl, rfl⟩
 ·rw [decide_eq_false (fun e : l = m => hne (by rw [← hl, ← hm, e]))]
  repeat' (first | refine zV ?_ | intro _)
  exact qE ⟨rfl, rfl, rfl⟩
end Go.Proofs.E
namespace Go.Proofs.E
open Go
set_option linter.unusedVariables false
set_option linter.unusedSimpArgs false
set_option linter.unusedSectionVars false
set_option maxRecDepth 4000
set_option maxHeartbeats 1000000
attribute [local irreducible] Yl TL TC TE Spec ZN R1 Hp.le EnvLe TS TR YS Zp
def imEq (x y : Im) : Bool := decide (x.page = y.page) && (decide (x.b = y.b) && decide (x.a = y.a))
theorem imEq_iff {x y : Im} : imEq x y = true ↔ x.plain = y.plain := by
 obtain ⟨p, bv, b, av, a⟩ := x
 obtain ⟨p', bv', b', av', a'⟩ := y
 unfold imEq
 simp [Im.plain, Bool.and_eq_true]
theorem same1_im_spec (ρ : Hp) (x y : Im) (hx : Im.In ρ x) (hy : Im.In ρ y) : Spec Tryz.prog 95 [.agg ⟨imV x⟩, .agg ⟨imV y⟩] ρ [] (fun z ρ' L' => z = .bool (imEq x y) ∧ ρ' = ρ ∧ L' = []) := by
 have h1 := same_spec ρ x.bv y.bv x.b y.b hx.b.cin hy.b.cin
 have h2 := same_spec ρ x.av y.av x.a y.a hx.a.cin hy.a.cin
 unfold imEq
 refine Za Tryz.func95 rfl rfl rfl fun u R => ?_
 simp only [Zf, kA]
 by_cases hp : x.page = y.page
 ·rw [decide_eq_true hp, Bool.true_and]
  generalize decide (x.b = y.b) = b1 at *
  generalize decide (x.a = y.a) = b2 at *
  cases b1
  ·repeat' (first | (refine Zb (.func 96) ?_; refine qR rfl rfl (h1) ?_; try simp only [kA]) | refine zV ?_ | intro _)
   exact qE (L' := []) ⟨rfl, rfl, rfl⟩
  ·repeat' (first | (refine Zb (.func 96) ?_; refine qR rfl rfl (h1) ?_; try simp only [kA]) | (refine Zb (.func 96) ?_; refine qR rfl rfl (h2) ?_; try simp only [kA]) | refine zV ?_ | intro _)
   exact qE (L' := []) ⟨rfl, rfl, rfl⟩
 ·rw [decide_eq_false hp, Bool.false_and]
  repeat' (first | refine zV ?_ | intro _)
  exact qE (L' := []) ⟨rfl, rfl, rfl⟩
theorem says_plain (l : List Im) : l.map Im.plain = (l.map Im.says).map (fun t => ⟨t.1, nilCV, t.2.1, nilCV, t.2.2⟩) := by rw [List.map_map]; rfl
theorem plain_says (l : List Im) : l.map Im.says = (l.map Im.plain).map Im.says := by rw [List.map_map]; rfl
theorem says_iff {l m : List Im} : l.map Im.says = m.map Im.says ↔ l.map Im.plain = m.map Im.plain := ⟨fun e => by rw [says_plain l, says_plain m, e], fun e => by rw [plain_says l, plain_says m, e]⟩
theorem map_take_succ {α β : Type} (f : α → β) (l : List α) (k : Nat) (h : k < l.length) : (l.map f).take (k + 1) = (l.map f).take k ++ [f l[k]] := by
 rw [List.take_succ_eq_append_getElem (show k < (l.map f).length by simpa using h)]
 simp
theorem eqIM_spec (ρ : Hp) (s s' : SV) (l m : List Im) (h : AS ρ 7 imV s l) (h' : AS ρ 7 imV s' m) (hi : ∀ x ∈ l, Im.In ρ x) (hi' : ∀ x ∈ m, Im.In ρ x) :
  Spec Tryz.prog 94 [.slice s.a s.n s.c, .slice s'.a s'.n s'.c, .func (.func 95) ⟨[]⟩ ⟨[]⟩] ρ [] (fun v ρ' L' => v = .bool (decide (l.map Im.says = m.map Im.says)) ∧ ρ' = ρ ∧ L' = []) := by
 have hl := h.at'.len
 have hm := h'.at'.len
 have hn := h.big
 refine Za Tryz.func94 rfl rfl rfl fun u R => ?_
 simp only [Zf, kA]
 by_cases hne : s.n = s'.n
 ·repeat' (first | refine zV ?_ | intro _)
  refine Zm [(1, _), (2, _), (15, _), (16, _)] (fun (ζ : (Nat)) => [(17, .int .i64 ζ), (6, .bool false)]) (fun (ζ : (Nat)) => ρ) (fun (ζ : (Nat)) => []) (fun (ζ : (Nat)) => ζ ≤ s.n ∧ (l.map Im.plain).take ζ = (m.map Im.plain).take ζ) (fun (ζ : (Nat)) => s.n - ζ) (0) (⟨Nat.zero_le _, rfl⟩) Zc Zc rfl tk ?_
  rintro k hI
  try simp only [kA, List.append_assoc] at hI ⊢
  try dsimp only at hI ⊢
  obtain ⟨hk, hpre⟩ := hI
  by_cases hlt : k < s.n
  ·obtain ⟨b, off, C, T, fr, f1, hb, hfit, hc⟩ := h.at'.get (show k < l.length by omega)
   obtain ⟨b2, off2, C2, T2, fr2, f2, hb2, hfit2, hc2⟩ := h'.at'.get (show k < m.length by omega)
   have ht1 := map_take_succ Im.plain l k (by omega)
   have ht2 := map_take_succ Im.plain m k (by omega)
   have hf : l.map Im.plain = m.map Im.plain → (l[k]'(by omega)).plain = (m[k]'(by omega)).plain := fun e => by
    have g1 : (l.map Im.plain)[k]? = some (l[k]'(by omega)).plain := by simp [show k < l.length by omega]
    have g2 : (m.map Im.plain)[k]? = some (m[k]'(by omega)).plain := by simp [show k < m.length by omega]
    rw [e, g2] at g1
    exact (Option.some.inj g1).symm
   have hs1 := same1_im_spec ρ (l[k]'(by omega)) (m[k]'(by omega)) (hi _ (List.getElem_mem _)) (hi' _ (List.getElem_mem _))
   generalize l[k]'(by omega) = x at *
   generalize m[k]'(by omega) = y at *
   rw [f1, f2]
   cases he : imEq x y
   ·have hd : decide (l.map Im.says = m.map Im.says) = false := decide_eq_false (fun e => by
     have := imEq_iff.2 (hf (says_iff.1 e))
     rw [he] at this; cases this)
    rw [hd]
    rw [he] at hs1
    repeat' (first | (refine Zb (.tmp 26) ?_; refine qR rfl rfl (hs1) ?_; try simp only [kA]) | refine zV ?_ | intro _)
    exact qE (L' := []) ⟨rfl, rfl, rfl⟩
   ·have hpre2 : (l.map Im.plain).take (k + 1) = (m.map Im.plain).take (k + 1) := by rw [ht1, ht2, hpre, imEq_iff.1 he]
    rw [he] at hs1
    repeat' (first | (refine Zb (.tmp 26) ?_; refine qR rfl rfl (hs1) ?_; try simp only [kA]) | refine zV ?_ | intro _)
    rw [← f1, ← f2]
    refine Zi (k + 1) (⟨hlt, hpre2⟩) Zc Zc rfl tk inferInstance (by first | omega | (dsimp only; omega))
  ·have hk2 : k = s.n := by omega
   subst hk2
   rw [List.take_of_length_le (by simp; omega), List.take_of_length_le (by simp; omega)] at hpre
   rw [decide_eq_true (says_iff.2 hpre)]
   repeat' (first | refine zV ?_ | intro _)
   exact qE ⟨rfl, rfl, rfl⟩
 ·rw [decide_eq_false (fun e : l.map Im.says = m.map Im.says => hne (by have := congrArg List.length e; simp at this; omega))]
  repeat' (first | refine zV ?_ | intro _)
  exact qE ⟨rfl, rfl, rfl⟩
theorem plain_eq {x y : Rc} (h1 : x.kind = y.kind ∧ x.lsn = y.lsn ∧ x.txn = y.txn ∧ x.prev = y.prev ∧ x.next = y.next ∧ x.nextTxn = y.nextTxn) : x.plain = y.plain ↔ (x.steps = y.steps ∧ x.txns = y.txns ∧ x.dirty = y.dirty ∧ x.ims.map Im.plain = y.ims.map Im.plain) := by
 obtain ⟨k, l, t, p, n, i, s, nt, ts, d⟩ := x
 obtain ⟨k', l', t', p', n', i', s', nt', ts', d'⟩ := y
 dsimp only at h1
 obtain ⟨rfl, rfl, rfl, rfl, rfl, rfl⟩ := h1
 dsimp only [Rc.plain]
 constructor
 ·intro h
  injection h with a1 a2 a3 a4 a5 a6 a7 a8 a9 a10
  exact ⟨a7, a9, a10, a6⟩
 ·rintro ⟨rfl, rfl, rfl, e⟩
  rw [e]
theorem recSameG_spec (ρ : Hp) (v v' : RV) (x y : Rc) (h : RcIn ρ v x) (h' : RcIn ρ v' y) : Spec Tryz.prog 32 [.agg ⟨Wt v x⟩, .agg ⟨Wt v' y⟩] ρ [] (fun z ρ' L' => (∃ b, z = .bool b ∧ (b = true ↔ x.plain = y.plain)) ∧ ρ' = ρ ∧ L' = []) := by
 have h1 := eqSTP_spec ρ v.s v'.s x.steps y.steps h.s h'.s
 have h2 := eqCKT_spec ρ v.t v'.t x.txns y.txns h.t h'.t
 have h3 := eqCKP_spec ρ v.d v'.d x.dirty y.dirty h.d h'.d
 have h4 := eqIM_spec ρ v.i v'.i x.ims y.ims h.i h'.i h.im h'.im
 refine Za Tryz.func32 rfl rfl rfl fun u R => ?_
 simp only [Zf, kA]
 by_cases e : x.kind = y.kind ∧ x.lsn = y.lsn ∧ x.txn = y.txn ∧ x.prev = y.prev ∧ x.next = y.next ∧ x.nextTxn = y.nextTxn
 ·have hp := plain_eq e
  obtain ⟨e1, e2, e3, e4, e5, e6⟩ := e
  by_cases d1 : x.steps = y.steps
  ·rw [decide_eq_true d1] at h1
   by_cases d2 : x.txns = y.txns
   ·rw [decide_eq_true d2] at h2
    by_cases d3 : x.dirty = y.dirty
    ·rw [decide_eq_true d3] at h3
     repeat' (first | (refine Zb (.func 91) ?_; refine qR rfl rfl (h1) ?_; try simp only [kA]) | (refine Zb (.func 92) ?_; refine qR rfl rfl (h2) ?_; try simp only [kA]) | (refine Zb (.func 93) ?_; refine qR rfl rfl (h3) ?_; try simp only [kA]) | (refine Zb (.func 94) ?_; refine qR rfl rfl (h4) ?_; try simp only [kA]) | refine zV ?_ | intro _)
     refine qE (L' := []) ⟨⟨_, rfl, ?_⟩, rfl, rfl⟩
     rw [hp, decide_eq_true_eq, says_iff]
     exact ⟨fun e => ⟨d1, d2, d3, e⟩, fun e => e.2.2.2⟩
    ·rw [decide_eq_false d3] at h3
     repeat' (first | (refine Zb (.func 91) ?_; refine qR rfl rfl (h1) ?_; try simp only [kA]) | (refine Zb (.func 92) ?_; refine qR rfl rfl (h2) ?_; try simp only [kA]) | (refine Zb (.func 93) ?_; refine qR rfl rfl (h3) ?_; try simp only [kA]) | refine zV ?_ | intro _)
     exact qE (L' := []) ⟨⟨false, rfl, by simp, fun e => absurd (hp.1 e).2.2.1 d3⟩, rfl, rfl⟩
   ·rw [decide_eq_false d2] at h2
    repeat' (first | (refine Zb (.func 91) ?_; refine qR rfl rfl (h1) ?_; try simp only [kA]) | (refine Zb (.func 92) ?_; refine qR rfl rfl (h2) ?_; try simp only [kA]) | refine zV ?_ | intro _)
    exact qE (L' := []) ⟨⟨false, rfl, by simp, fun e => absurd (hp.1 e).2.1 d2⟩, rfl, rfl⟩
  ·rw [decide_eq_false d1] at h1
   repeat' (first | (refine Zb (.func 91) ?_; refine qR rfl rfl (h1) ?_; try simp only [kA]) | refine zV ?_ | intro _)
   exact qE (L' := []) ⟨⟨false, rfl, by simp, fun e => absurd (hp.1 e).1 d1⟩, rfl, rfl⟩
 ·have hp : x.plain ≠ y.plain := fun h => e (by
   injection h with a1 a2 a3 a4 a5 a6 a7 a8 a9 a10
   exact ⟨a1, a2, a3, a4, a5, a8⟩)
  repeat' (first | refine zV ?_ | (refine i_gd ?_; refine YF rfl rfl (fun hb => ?_) (fun hb => ?_) <;> (try simp only [decide_eq_true_eq, decide_eq_false_iff_not, Bool.not_eq_true, Bool.not_eq_false, beq_iff_eq, bne_iff_ne, ne_eq, decide_eq_decide, Bool.not_eq_eq_eq_not, Bool.not_true, Bool.not_false, beq_eq_false_iff_ne, bne_eq_false_iff_eq, Bool.and_eq_true, Bool.or_eq_true, Bool.and_eq_false_imp, Bool.or_eq_false_iff, bq2, bqt, bqf] at hb)) | (refine XF ?_; refine Xe rfl (fun hb => ?_) (fun hb => ?_) <;> (try simp only [decide_eq_true_eq, decide_eq_false_iff_not, Bool.not_eq_true, Bool.not_eq_false, beq_iff_eq, bne_iff_ne, ne_eq, decide_eq_decide, Bool.not_eq_eq_eq_not, Bool.not_true, Bool.not_false, beq_eq_false_iff_ne, bne_eq_false_iff_eq, Bool.and_eq_true, Bool.or_eq_true, Bool.and_eq_false_imp, Bool.or_eq_false_iff, bq2, bqt, bqf] at hb)) | intro _)
  all_goals first | (exfalso; omega) | skip
  all_goals (refine qF (L' := []) ?_; exact ⟨⟨false, XY (by (try simp [*]); first | done | omega | (intros; omega) | (constructor <;> intros <;> (try simp_all) <;> omega)), by simp, fun h => absurd h hp⟩, rfl, rfl⟩)
def fewIm (x : Im) : Im := ⟨x.page, nilCV, fewC x.b, nilCV, fewC x.a⟩
def shortS (s : Stp) : Stp := ⟨s.kind, shortR s.row, s.by'⟩
def fewR (r : Rc) : Rc := { r with ims := (r.ims.take 17).map fewIm, steps := (r.steps.take 3).map shortS, txns := r.txns.take 9, dirty := r.dirty.take 65 }
theorem CW.few {ρ v c} (h : CW ρ v c) : CInW ρ v c.rows c.kids := ⟨h.r, h.k, by have := h.rb; omega, by have := h.kb; omega, h.rc, h.kc⟩
theorem fewC_fit {ρ v c} (h : CW ρ v c) {ρ' v'} (h' : CIn ρ' v' (fewC c).rows (fewC c).kids) : CI ρ' v' (fewC c) := ⟨h', fun r hr => by
  obtain ⟨y, hy, rfl⟩ := List.mem_map.1 hr
  have := h.row y (List.mem_of_mem_take hy)
  exact ⟨this.id, this.val⟩, fun k hk => h.kid k (List.mem_of_mem_take hk)⟩
theorem flat_one {α : Type} (g : α → List Value) (hg : ∀ x, (g x).all (·.oneCell') = true) (l : List α) : ((l.map g).flatten).all (·.oneCell') = true := by
 induction l with
 | nil => rfl
 | cons k r ih => simp only [List.map_cons, List.flatten_cons, List.all_append, ih, Bool.and_true]; exact hg k
theorem take_some {α : Type} (c : Nat) (l : List α) (n m : Nat) (h : l.length = n) (hm : m = min n c) : l.take m = l.take c := by
 by_cases h5 : n ≤ c
 ·rw [show m = n by omega, List.take_of_length_le (by omega), List.take_of_length_le (by omega)]
 ·rw [show m = c by omega]
theorem stp_get {sp : List Value} : ∀ (acc : List Stp) (k : Nat) (r : Stp), acc[k]? = some r → ((acc.map YQ).flatten ++ sp)[0 + k * 6 + 1 + 3]? = some (strV r.row.note)
 | [], k, r, h => by cases h
 | a :: t, 0, r, h => by cases h; rfl
 | a :: t, k + 1, r, h => by
  have ih := stp_get (sp := sp) t k r (by simpa using h)
  rw [show 0 + (k + 1) * 6 + 1 + 3 = (0 + k * 6 + 1 + 3) + 6 by omega]
  simpa only [List.map_cons, List.flatten_cons, YQ, kA, List.getElem?_cons_succ] using ih
def noteS (r : Stp) (s : List UInt8) : Stp := ⟨r.kind, ⟨r.row.t, r.row.id, r.row.val, s⟩, r.by'⟩
theorem stp_set {sp : List Value} (s : List UInt8) : ∀ (acc : List Stp) (k : Nat) (r : Stp), acc[k]? = some r → ((acc.map YQ).flatten ++ sp).set (0 + k * 6 + 1 + 3) (strV s) = ((acc.set k (noteS r s)).map YQ).flatten ++ sp
 | [], k, r, h => by cases h
 | a :: t, 0, r, h => by cases h; rfl
 | a :: t, k + 1, r, h => by
  have ih := stp_set (sp := sp) s t k r (by simpa using h)
  rw [show 0 + (k + 1) * 6 + 1 + 3 = (0 + k * 6 + 1 + 3) + 6 by omega]
  simp only [List.map_cons, List.flatten_cons, YQ, kA, List.set_cons_succ]
  rw [ih]
theorem stp_setL {sp : List Value} (s : List UInt8) {acc : List Stp} {k : Nat} {r : Stp} (h : acc[k]? = some r) : SetL ((acc.map YQ).flatten ++ sp) (0 + k * 6 + 1 + 3) (strV s) (((acc.set k (noteS r s)).map YQ).flatten ++ sp) := by
 have h1 := stp_get (sp := sp) acc k r h
 have hlt : 0 + k * 6 + 1 + 3 < ((acc.map YQ).flatten ++ sp).length := by
  rcases Nat.lt_or_ge (0 + k * 6 + 1 + 3) ((acc.map YQ).flatten ++ sp).length with hh | hh
  ·exact hh
  ·rw [List.getElem?_eq_none hh] at h1; cases h1
 refine ⟨hlt, ?_⟩
 rw [← stp_set s acc k r h, List.set_eq_take_append_cons_drop, if_pos hlt]
 simp [stc]
theorem set_stepG {α : Type} (f : α → α) (RS : List α) (k : Nat) (h : k < RS.length) : ((RS.take k).map f ++ RS.drop k).set k (f RS[k]) = (RS.take (k + 1)).map f ++ RS.drop (k + 1) := by
 rw [List.set_append_right _ _ (by simp; omega), List.drop_eq_getElem_cons h, List.take_succ_eq_append_getElem h]
 rw [show k - ((RS.take k).map f).length = 0 by simp; omega]
 simp only [List.set_cons_zero, List.map_append, List.map_cons, List.map_nil, List.append_assoc, kA]
theorem get_stepG {α : Type} (f : α → α) (RS : List α) (k : Nat) (h : k < RS.length) : ((RS.take k).map f ++ RS.drop k)[k]? = some RS[k] := by
 rw [List.getElem?_append_right (by simp; omega), List.drop_eq_getElem_cons h]
 simp [show k - min k RS.length = 0 by omega]
end Go.Proofs.E
namespace Go.Proofs.E
open Go
set_option linter.unusedVariables false
set_option linter.unusedSimpArgs false
set_option linter.unusedSectionVars false
set_option maxRecDepth 4000
set_option maxHeartbeats 1000000
attribute [local irreducible] Yl TL TC TE Spec ZN R1 Hp.le EnvLe TS TR YS Zp TP QP
abbrev Blk := List UInt8
abbrev YI := List (Blk × Option Blk)
def YD (s : YI) : List Value := (s.map fun p => p.1.map Zo).flatten
structure SecsOk (s : YI) : Prop where
 len : s.length ≤ 2048
 pos : 0 < s.length
 held : ∀ p ∈ s, p.1.length = 64
 cached : ∀ p ∈ s, ∀ c, p.2 = some c → c.length = 64
def bv (b : Blk) : Value := .agg ⟨b.map Zo⟩
structure MapOk (s : YI) (es : List MapEntry) : Prop where
 keys : Yu .i64 es
 get : ∀ j : Int, YM es j = if 0 ≤ j then ((s[j.toNat]?).bind (·.2)).map bv else none
structure HB where
 b : Nat
 cap : Nat
 sp : List Value
def dO (hb : HB) (mb n : Nat) (ops armed failing : Int) (dead : Bool) : Obj := .cells ⟨[.slice (some ⟨hb.b, 0, none⟩) n hb.cap, .map (some mb), .int .i64 ops, .int .i64 armed, .int .i64 failing, .bool dead]⟩ 113 (0, 0)
set_option maxHeartbeats 400000 in
set_option maxHeartbeats 400000 in
theorem lives_dead (ρ : Hp) (b : Nat) (hb : HB) (mb n : Nat) (ops armed failing : Int) : Spec Tryz.prog 100 [.pointer (some ⟨b, 0, none⟩)] ρ [[(b, dO hb mb n ops armed failing true)]] (fun v ρ' L' => v = .int .i64 9 ∧ ρ' = ρ ∧ L' = [[(b, dO hb mb n ops armed failing true)]]) := by
 refine Za Tryz.func100 rfl rfl rfl fun u R => ?_
 simp only [Zf, kA, dO]
 repeat' (first | refine zW ?_ | intro _)
 exact te_end rfl rfl rfl (by exact res1 rfl (ZZ rfl)) (Hp.le_refl _) (by infer_instance) (by infer_instance) ⟨rfl, rfl, rfl⟩
set_option maxHeartbeats 400000 in
theorem lives_ok (ρ : Hp) (b : Nat) (hb : HB) (mb n : Nat) (ops armed failing : Int) : Spec Tryz.prog 100 [.pointer (some ⟨b, 0, none⟩)] ρ [[(b, dO hb mb n ops armed failing false)]] (fun v ρ' L' => v = .int .i64 0 ∧ ρ' = ρ ∧ L' = [[(b, dO hb mb n ops armed failing false)]]) := by
 refine Za Tryz.func100 rfl rfl rfl fun u R => ?_
 simp only [Zf, kA, dO]
 repeat' (first | refine zW ?_ | intro _)
 exact te_end rfl rfl rfl (by exact res1 rfl (ZZ rfl)) (Hp.le_refl _) (by infer_instance) (by infer_instance) ⟨rfl, rfl, rfl⟩
theorem counts_dO4 (ρ : Hp) (b : Nat) (hb : HB) (mb n : Nat) (ops armed failing : Int) (dead : Bool) (h1 : -1 ≤ failing) (h2 : failing ≤ 9223372036854775807) :
  Spec Tryz.prog 236 [.pointer (some ⟨b, 4, none⟩)] ρ [[(b, dO hb mb n ops armed failing dead)]] (fun v ρ' L' => v = .bool (failing == 0) ∧ ρ' = ρ ∧ L' = [[(b, dO hb mb n ops armed (max (failing-1) (-1)) dead)]]) := by
 refine Za Tryz.func236 rfl rfl rfl fun u R => ?_
 simp only [Zf, kA, dO]
 repeat' (first | refine zW ?_ | intro _)
 exact qE ⟨rfl, rfl, rfl⟩
theorem counts_dO3 (ρ : Hp) (b : Nat) (hb : HB) (mb n : Nat) (ops armed failing : Int) (dead : Bool) (h1 : -1 ≤ armed) (h2 : armed ≤ 9223372036854775807) :
  Spec Tryz.prog 236 [.pointer (some ⟨b, 3, none⟩)] ρ [[(b, dO hb mb n ops armed failing dead)]] (fun v ρ' L' => v = .bool (armed == 0) ∧ ρ' = ρ ∧ L' = [[(b, dO hb mb n ops (max (armed-1) (-1)) failing dead)]]) := by
 refine Za Tryz.func236 rfl rfl rfl fun u R => ?_
 simp only [Zf, kA, dO]
 repeat' (first | refine zW ?_ | intro _)
 exact qE ⟨rfl, rfl, rfl⟩
theorem does_dead (ρ : Hp) (b : Nat) (hb : HB) (mb n : Nat) (ops armed failing i : Int) (d l : Value) : Spec Tryz.prog 176 [.pointer (some ⟨b, 0, none⟩), .int .i64 i, d, l] ρ [[(b, dO hb mb n ops armed failing true)]]
  (fun v ρ' L' => v = .int .i64 9 ∧ ρ' = ρ ∧ L' = [[(b, dO hb mb n ops armed failing true)]]) := by
 refine Za Tryz.func176 rfl rfl rfl fun u R => ?_
 simp only [Zf, kA]
 repeat' (first | (refine Zb (.func 100) ?_; refine qR rfl rfl (lives_dead _ _ _ _ _ _ _ _) ?_; try simp only [kA]) | refine zW ?_ | intro _)
 exact qE ⟨rfl, rfl, rfl⟩
theorem does_arg (ρ : Hp) (b : Nat) (hb : HB) (mb n : Nat) (ops armed failing i : Int) (d l : Value) (hi : i < 0 ∨ (n : Int) ≤ i) : Spec Tryz.prog 176 [.pointer (some ⟨b, 0, none⟩), .int .i64 i, d, l] ρ [[(b, dO hb mb n ops armed failing false)]]
  (fun v ρ' L' => v = .int .i64 2 ∧ ρ' = ρ ∧ L' = [[(b, dO hb mb n ops armed failing false)]]) := by
 refine Za Tryz.func176 rfl rfl rfl fun u R => ?_
 simp only [Zf, kA]
 by_cases h0 : i < 0
 ·repeat' (first | (refine Zb (.func 100) ?_; refine qR rfl rfl (lives_ok _ _ _ _ _ _ _ _) ?_; try simp only [kA, dO]) | refine zW ?_ | intro _)
  exact qE ⟨rfl, rfl, rfl⟩
 ·repeat' (first | (refine Zb (.func 100) ?_; refine qR rfl rfl (lives_ok _ _ _ _ _ _ _ _) ?_; try simp only [kA, dO]) | refine zW ?_ | intro _)
  exact qE ⟨rfl, rfl, rfl⟩
theorem does_ok_r (ρ : Hp) (b : Nat) (hb : HB) (mb n : Nat) (ops armed failing i : Int) (kd : Nat) (cd : List Value) (X : SH) (Post : Value → Hp → SH → Prop) (h0 : 0 ≤ i) (h1 : i < n) (hf : failing ≠ 0) (hf1 : -1 ≤ failing) (hf2 : failing ≤ 9223372036854775807) [hF : ZK Tryz.prog kd]
  (hd : Spec Tryz.prog kd cd ρ ([(b, dO hb mb n (IntKind.i64.wrap (ops + 1)) armed (max (failing - 1) (-1)) false)] :: X) Post) :
  Spec Tryz.prog 176 [.pointer (some ⟨b, 0, none⟩), .int .i64 i, .func (.func kd) ⟨[]⟩ ⟨cd⟩, .nilFunc] ρ ([(b, dO hb mb n ops armed failing false)] :: X) (fun v ρ' L' => v = .int .i64 0 ∧ ∃ v0, Post v0 ρ' L') := by
 refine Za Tryz.func176 rfl rfl rfl fun u R => ?_
 simp only [Zf, kA]
 repeat' (first | (refine Zb (.func 100) ?_; refine qC rfl rfl (lives_ok _ _ _ _ _ _ _ _) ?_; rintro v ρ' L' hle ⟨rfl, rfl, rfl⟩ <;> (try simp only [kA, dO])) | refine zW ?_ | intro _)
 have hfb : (failing == 0) = false := by simpa using hf
 refine tpA [0,1,2,4,5] (.e 3 [] (.f [6,7,8,9,10,11,12,13,14] .o)) ([]) ?_
 repeat' (refine iT ?_; first | refine rA ?_ | ((refine iE ?_; refine rE ?_) <;> ((try refine Zr ?_); (first | (refine Zb (.func 236) ?_; refine qC rfl rfl (counts_dO4 _ _ _ _ _ _ _ _ _ hf1 hf2) ?_; rintro v ρ' L' hle ⟨rfl, rfl, rfl⟩ <;> (try simp only [kA, dO, hfb])) | (refine qEf ?_; try intro _)) <;> ((try simp only [kA]); refine Zj ?_; refine rN ?_))))
 unfold dO at hd
 repeat' (first | (refine Zb (.tmp 65) ?_; refine tl_call rfl rfl hd tk rfl ?_; rintro v ρ' L' hle hp) | refine zW ?_ | intro _)
 exact qE ⟨rfl, _, hp⟩
theorem does_ok_w (ρ : Hp) (b : Nat) (hb : HB) (mb n : Nat) (ops armed failing i : Int) (kd kl : Nat) (cd cl : List Value) (X : SH) (Post : Value → Hp → SH → Prop) (h0 : 0 ≤ i) (h1 : i < n) (hf : failing ≠ 0) (hf1 : -1 ≤ failing) (hf2 : failing ≤ 9223372036854775807)
  (ha : armed ≠ 0) (ha1 : -1 ≤ armed) (ha2 : armed ≤ 9223372036854775807) [hF : ZK Tryz.prog kd]
  (hd : Spec Tryz.prog kd cd ρ ([(b, dO hb mb n (IntKind.i64.wrap (ops + 1)) (max (armed - 1) (-1)) (max (failing - 1) (-1)) false)] :: X) Post) :
  Spec Tryz.prog 176 [.pointer (some ⟨b, 0, none⟩), .int .i64 i, .func (.func kd) ⟨[]⟩ ⟨cd⟩, .func (.func kl) ⟨[]⟩ ⟨cl⟩] ρ ([(b, dO hb mb n ops armed failing false)] :: X) (fun v ρ' L' => v = .int .i64 0 ∧ ∃ v0, Post v0 ρ' L') := by
 refine Za Tryz.func176 rfl rfl rfl fun u R => ?_
 simp only [Zf, kA]
 repeat' (first | (refine Zb (.func 100) ?_; refine qC rfl rfl (lives_ok _ _ _ _ _ _ _ _) ?_; rintro v ρ' L' hle ⟨rfl, rfl, rfl⟩ <;> (try simp only [kA, dO])) | refine zW ?_ | intro _)
 have hfb : (failing == 0) = false := by simpa using hf
 refine tpA [0,1,2,4,5] (.e 3 [] (.f [6,7,8,9,10,11,12,13,14] .o)) ([]) ?_
 repeat' (refine iT ?_; first | refine rA ?_ | ((refine iE ?_; refine rE ?_) <;> ((try refine Zr ?_); (first | (refine Zb (.func 236) ?_; refine qC rfl rfl (counts_dO4 _ _ _ _ _ _ _ _ _ hf1 hf2) ?_; rintro v ρ' L' hle ⟨rfl, rfl, rfl⟩ <;> (try simp only [kA, dO, hfb])) | (refine qEf ?_; try intro _)) <;> ((try simp only [kA]); refine Zj ?_; refine rN ?_))))
 unfold dO at hd
 repeat' (first | (refine Zb (.func 236) ?_; refine qC rfl rfl (counts_dO3 _ _ _ _ _ _ _ _ _ ha1 ha2) ?_; rintro v ρ' L' hle ⟨rfl, rfl, rfl⟩ <;> (try simp only [kA, dO])) | (refine Zb (.tmp 65) ?_; refine tl_call rfl rfl hd tk rfl ?_; rintro v ρ' L' hle hp) | refine zW ?_ | intro _)
 exact qE ⟨rfl, _, hp⟩
theorem does_fail_r (ρ : Hp) (b : Nat) (hb : HB) (mb n : Nat) (ops armed i : Int) (d : Value) (h0 : 0 ≤ i) (h1 : i < n) :
  Spec Tryz.prog 176 [.pointer (some ⟨b, 0, none⟩), .int .i64 i, d, .nilFunc] ρ [[(b, dO hb mb n ops armed 0 false)]] (fun v ρ' L' => v = .int .i64 8 ∧ ρ' = ρ ∧ L' = [[(b, dO hb mb n (IntKind.i64.wrap (ops + 1)) armed (-1) false)]]) := by
 refine Za Tryz.func176 rfl rfl rfl fun u R => ?_
 simp only [Zf, kA]
 repeat' (first | (refine Zb (.func 100) ?_; refine qR rfl rfl (lives_ok _ _ _ _ _ _ _ _) ?_; try simp only [kA, dO]) | refine zW ?_ | intro _)
 refine tpA [0,1,2,4,5] (.e 3 [] (.f [6,7,8,9,10,11,12,13,14] .o)) ([]) ?_
 repeat' (refine iT ?_; first | refine rA ?_ | ((refine iE ?_; refine rE ?_) <;> ((try refine Zr ?_); (first | (refine Zb (.func 236) ?_; refine qR rfl rfl (counts_dO4 _ _ _ _ _ _ _ 0 _ (by decide) (by decide)) ?_; try simp only [kA, dO]) | (refine qEf ?_; try intro _)) <;> ((try simp only [kA]); refine Zj ?_; refine rN ?_))))
 repeat' (first | refine zW ?_ | intro _)
 exact qE ⟨rfl, rfl, rfl⟩
theorem does_fail_w (ρ : Hp) (b : Nat) (hb : HB) (mb n : Nat) (ops armed i : Int) (d : Value) (kl : Nat) (cl : List Value) (h0 : 0 ≤ i) (h1 : i < n) (ha : armed ≠ 0) :
  Spec Tryz.prog 176 [.pointer (some ⟨b, 0, none⟩), .int .i64 i, d, .func (.func kl) ⟨[]⟩ ⟨cl⟩] ρ [[(b, dO hb mb n ops armed 0 false)]] (fun v ρ' L' => v = .int .i64 8 ∧ ρ' = ρ ∧ L' = [[(b, dO hb mb n (IntKind.i64.wrap (ops + 1)) armed (-1) false)]]) := by
 refine Za Tryz.func176 rfl rfl rfl fun u R => ?_
 simp only [Zf, kA]
 repeat' (first | (refine Zb (.func 100) ?_; refine qR rfl rfl (lives_ok _ _ _ _ _ _ _ _) ?_; try simp only [kA, dO]) | refine zW ?_ | intro _)
 refine tpA [0,1,2,4,5] (.e 3 [] (.f [6,7,8,9,10,11,12,13,14] .o)) ([]) ?_
 repeat' (refine iT ?_; first | refine rA ?_ | ((refine iE ?_; refine rE ?_) <;> ((try refine Zr ?_); (first | (refine Zb (.func 236) ?_; refine qR rfl rfl (counts_dO4 _ _ _ _ _ _ _ 0 _ (by decide) (by decide)) ?_; try simp only [kA, dO]) | (refine qEf ?_; try intro _)) <;> ((try simp only [kA]); refine Zj ?_; refine rN ?_))))
 repeat' (first | refine zW ?_ | intro _)
 exact qE ⟨rfl, rfl, rfl⟩
theorem does_dies (ρ : Hp) (b : Nat) (hb : HB) (mb n : Nat) (ops failing i : Int) (d : Value) (kl : Nat) (cl : List Value) (X : SH) (Post : Value → Hp → SH → Prop) (h0 : 0 ≤ i) (h1 : i < n) (hf1 : -1 ≤ failing) (hf2 : failing ≤ 9223372036854775807) [hF : ZK Tryz.prog kl]
  (hd : Spec Tryz.prog kl cl ρ ([(b, dO hb mb n (IntKind.i64.wrap (ops + 1)) 0 (max (failing - 1) (-1)) true)] :: X) Post) :
  Spec Tryz.prog 176 [.pointer (some ⟨b, 0, none⟩), .int .i64 i, d, .func (.func kl) ⟨[]⟩ ⟨cl⟩] ρ ([(b, dO hb mb n ops 0 failing false)] :: X) (fun v ρ' L' => v = .int .i64 9 ∧ ∃ v0, Post v0 ρ' L') := by
 refine Za Tryz.func176 rfl rfl rfl fun u R => ?_
 simp only [Zf, kA]
 repeat' (first | (refine Zb (.func 100) ?_; refine qC rfl rfl (lives_ok _ _ _ _ _ _ _ _) ?_; rintro v ρ' L' hle ⟨rfl, rfl, rfl⟩ <;> (try simp only [kA, dO])) | refine zW ?_ | intro _)
 refine tpA [0,1,2,4,5] (.e 3 [] (.f [6,7,8,9,10,11,12,13,14] .o)) ([]) ?_
 repeat' (refine iT ?_; first | refine rA ?_ | ((refine iE ?_; refine rE ?_) <;> ((try refine Zr ?_); (first | (refine Zb (.func 236) ?_; refine qC rfl rfl (counts_dO4 _ _ _ _ _ _ _ _ _ hf1 hf2) ?_; rintro v ρ' L' hle ⟨rfl, rfl, rfl⟩ <;> (try simp only [kA, dO])) | (refine qEf ?_; try intro _)) <;> ((try simp only [kA]); refine Zj ?_; refine rN ?_))))
 unfold dO at hd
 repeat' (first | (refine Zb (.tmp 55) ?_; refine tl_call rfl rfl hd tk rfl ?_; rintro v ρ' L' hle hp) | refine zW ?_ | intro _)
 exact qE ⟨rfl, _, hp⟩
end Go.Proofs.E
namespace Go.Proofs.E
open Go
set_option linter.unusedVariables false
set_option linter.unusedSimpArgs false
set_option linter.unusedSectionVars false
set_option maxRecDepth 4000
set_option maxHeartbeats 1000000
attribute [local irreducible] Yl TL TC TE Spec ZN R1 Hp.le EnvLe TS TR YS Zp
theorem heldC_length {s : YI} (h : ∀ p ∈ s, p.1.length = 64) : (YD s).length = s.length * 64 := by
 induction s with
 | nil => rfl
 | cons p r ih =>
  have h1 := h p (by simp)
  have h2 := ih (fun q hq => h q (by simp [hq]))
  simp only [YD, List.map_cons, List.flatten_cons, List.length_append, List.length_map, List.length_cons] at *
  omega
theorem heldC_take : ∀ {s : YI} {i : Nat} (h : ∀ p ∈ s, p.1.length = 64) (hi : i < s.length), ((YD s).drop (i * 64)).take 64 = (s[i].1).map Zo
 | [], i, h, hi => by simp at hi
 | p :: r, 0, h, hi => by
  have h1 := h p (by simp)
  simp only [YD, List.map_cons, List.flatten_cons, Nat.zero_mul, List.drop_zero, List.getElem_cons_zero]
  rw [List.take_append_of_le_length (by simp [h1]), List.take_of_length_le (by simp [h1])]
 | p :: r, i + 1, h, hi => by
  have h1 := h p (by simp)
  have ih := heldC_take (s := r) (i := i) (fun q hq => h q (by simp [hq])) (by simpa using hi)
  simp only [YD, List.map_cons, List.flatten_cons, List.getElem_cons_succ] at ih ⊢
  have e : (i + 1) * 64 = (p.1.map Zo).length + i * 64 := by simp [h1]; omega
  rw [e, ← List.drop_drop, List.drop_left]
  exact ih
theorem stc_heldC : ∀ {s : YI} {i : Nat} {b : Blk} (x : Option Blk) (h : ∀ p ∈ s, p.1.length = 64) (hb : b.length = 64) (hi : i < s.length), stc (YD s) (i * 64) (b.map Zo) = YD (s.set i (b, x))
 | [], i, b, x, h, hb, hi => by simp at hi
 | p :: r, 0, b, x, h, hb, hi => by
  have h1 := h p (by simp)
  simp only [stc, YD, List.map_cons, List.flatten_cons, Nat.zero_mul, List.take_zero, List.nil_append, Nat.zero_add, List.set_cons_zero]
  congr 1
  have e : (b.map Zo).length = (p.1.map Zo).length := by simp [hb, h1]
  rw [e, List.drop_left]
 | p :: r, i + 1, b, x, h, hb, hi => by
  have h1 := h p (by simp)
  have ih := stc_heldC (s := r) (i := i) (b := b) x (fun q hq => h q (by simp [hq])) hb (by simpa using hi)
  simp only [stc, YD, List.map_cons, List.flatten_cons, List.set_cons_succ] at ih ⊢
  have e : (i + 1) * 64 = (p.1.map Zo).length + i * 64 := by simp [h1]; omega
  rw [e, List.take_length_add_append, Nat.add_assoc, ← List.drop_drop, List.drop_left, ← ih]
  simp
theorem heldC_take' {s : YI} {i : Nat} (sp : List Value) (h : ∀ p ∈ s, p.1.length = 64) (hi : i < s.length) : ((YD s ++ sp).drop (i * 64)).take 64 = (s[i].1).map Zo := by
 have hl := heldC_length h
 rw [List.drop_append_of_le_length (by omega), List.take_append_of_le_length (by simp; omega)]
 exact heldC_take h hi
theorem stc_heldC' {s : YI} {i : Nat} {b : Blk} (sp : List Value) (x : Option Blk) (h : ∀ p ∈ s, p.1.length = 64) (hb : b.length = 64) (hi : i < s.length) : stc (YD s ++ sp) (i * 64) (b.map Zo) = YD (s.set i (b, x)) ++ sp := by
 have hl := heldC_length h
 rw [← stc_heldC x h hb hi]
 unfold stc
 rw [List.take_append_of_le_length (by omega), List.drop_append_of_le_length (by simp; omega)]
 simp
theorem heldC_length' {s : YI} (sp : List Value) (h : ∀ p ∈ s, p.1.length = 64) : (YD s ++ sp).length = s.length * 64 + sp.length := by
 rw [List.length_append, heldC_length h]
def putC (s : YI) (i : Nat) (b : Blk) : YI := s.set i ((s[i]?.getD ([], none)).1, some b)
theorem Xq {s : YI} {i b} : (putC s i b).length = s.length := by simp [putC]
theorem heldC_putC {s : YI} {i : Nat} {b : Blk} (hi : i < s.length) : YD (putC s i b) = YD s := by
 unfold YD putC
 rw [List.map_set]
 congr 1
 apply List.ext_getElem? ; intro j
 rw [List.getElem?_set]
 by_cases e : i = j
 ·subst e; simp [hi]
 ·simp [e]
theorem SecsOk.putC {s : YI} {i : Nat} {b : Blk} (h : SecsOk s) (hb : b.length = 64) (hi : i < s.length) : SecsOk (putC s i b) := by
 have hm : ∀ p ∈ E.putC s i b, p ∈ s ∨ p = (s[i].1, some b) := fun p hp => by
  unfold E.putC at hp
  rcases List.mem_or_eq_of_mem_set hp with h1 | h1
  ·exact .inl h1
  ·right; rw [h1]; simp [hi]
 refine ⟨by rw [Xq]; exact h.len, by rw [Xq]; exact h.pos, fun p hp => ?_, fun p hp c hc => ?_⟩
 ·rcases hm p hp with h1 | rfl
  ·exact h.held p h1
  ·exact h.held s[i] (List.getElem_mem hi)
 ·rcases hm p hp with h1 | rfl
  ·exact h.cached p h1 c hc
  ·simp only [Option.some.injEq] at hc; subst hc; exact hb
theorem MapOk.put {s : YI} {es es' : List MapEntry} {i : Int} {b : Blk} (h : MapOk s es) (h0 : 0 ≤ i) (hi : i < s.length) (hk : Yu .i64 es') (hg : ∀ j, YM es' j = if j = i then some (bv b) else YM es j) : MapOk (putC s i.toNat b) es' := by
 refine ⟨hk, fun j => ?_⟩
 rw [hg]
 by_cases e : j = i
 ·subst e
  have : j.toNat < s.length := by omega
  simp [putC, h0, this]
 ·rw [if_neg e, h.get]
  by_cases h1 : 0 ≤ j
  ·have hne : i.toNat ≠ j.toNat := by omega
   simp only [h1, if_true, putC]
   rw [List.getElem?_set_ne hne]
  ·simp [h1]
def says1 (p : Blk × Option Blk) : Blk := p.2.getD p.1
theorem MapOk.at {s : YI} {es : List MapEntry} (h : MapOk s es) {i : Nat} (hi : i < s.length) : YM es i = (s[i].2).map bv := by
 rw [h.get]; simp [hi]
def Wj (s : YI) : Prop := ∀ p ∈ s, p.2 = none
theorem MapOk.empty {s : YI} (h : Wj s) : MapOk s [] := by
 refine ⟨fun e he => by simp at he, fun j => ?_⟩
 by_cases h1 : 0 ≤ j
 ·simp only [h1, if_true, YM, List.find?_nil, Option.map_none]
  cases hs : s[j.toNat]? with
  | none => simp
  | some p => simp [h p (List.mem_of_getElem? hs)]
 ·simp [YM, h1]
structure DS where
 secs : YI
 ops : Int
 armed : Int
 failing : Int
 dead : Bool
structure DS.Ok (D : DS) : Prop where
 secs : SecsOk D.secs
 a1 : -1 ≤ D.armed
 a2 : D.armed ≤ 9223372036854775807
 f1 : -1 ≤ D.failing
 f2 : D.failing ≤ 9223372036854775807
def XO (b : Nat) (hb : HB) (mb : Nat) (es : List MapEntry) (ck : Nat) (D : DS) : SH := [[(b, dO hb mb D.secs.length D.ops D.armed D.failing D.dead)], [(hb.b, .cells ⟨YD D.secs ++ hb.sp⟩ 117 (0, 0))], [(mb, .map ⟨es⟩ ck)]]
def cnt (n : Int) : Int := max (n - 1) (-1)
def DS.tick (D : DS) : DS := { D with ops := IntKind.i64.wrap (D.ops + 1), failing := cnt D.failing }
theorem write1 (ρ : Hp) (b : Nat) (hb : HB) (mb xb pb ib n : Nat) (ops armed failing i : Int) (dead : Bool) (es : List MapEntry) (ck : Nat) (blk : Blk) (hb64 : blk.length = 64) (hk : Yu .i64 es) :
  Spec Tryz.prog 175 [.pointer (some ⟨xb, 0, none⟩), .pointer (some ⟨pb, 0, none⟩), .pointer (some ⟨ib, 0, none⟩)] ρ
   [[(b, dO hb mb n ops armed failing dead)], [(mb, .map ⟨es⟩ ck)], [(xb, .cells ⟨blk.map Zo⟩ 117 (0, 0))], [(pb, .cells ⟨[.pointer (some ⟨b, 0, none⟩)]⟩ 26 (0, 0))], [(ib, .cells ⟨[.int .i64 i]⟩ 3 (0, 0))]]
   (fun v ρ' L' => v = .tuple ⟨[]⟩ ∧ ρ' = ρ ∧ ∃ es' ck', Yu .i64 es' ∧ (∀ j, YM es' j = if j = i then some (bv blk) else YM es j) ∧
    L' = [[(b, dO hb mb n ops armed failing dead)], [(mb, .map ⟨es'⟩ ck')], [(xb, .cells ⟨blk.map Zo⟩ 117 (0, 0))], [(pb, .cells ⟨[.pointer (some ⟨b, 0, none⟩)]⟩ 26 (0, 0))], [(ib, .cells ⟨[.int .i64 i]⟩ 3 (0, 0))]]) := by
 refine Za Tryz.func175 rfl rfl rfl fun u R => ?_
 simp only [Zf, kA, dO]
 have hl : (blk.map Zo).length = 64 := by simpa using hb64
 repeat' (first | refine zW ?_ | intro _)
 refine tc_draw 6 (by decide +kernel) (by decide +kernel) ?_
 repeat' (first | (refine jLd ?_; refine sLd ?_) | (refine jFa ?_; refine sFa ?_) | (refine jNc ?_; refine sNc ?_) | (refine j_gd ?_; first | refine sWant ?_ | refine sSkip ?_ | refine sSkipU ?_))
 all_goals refine ts_nil ?_
 refine Xr rfl rfl rfl hk (fun es' ck' h1 h2 => ?_)
 repeat' (first | refine zW ?_ | intro _)
 exact qE ⟨rfl, rfl, es', ck', h1, h2, rfl⟩
def DS.write (D : DS) (i : Int) (blk : Blk) : DS × Int :=
 if D.dead then (D, 9) else if i < 0 ∨ (D.secs.length : Int) ≤ i then (D, 2)
 else if D.armed = 0 then ({ D.tick with dead := true, secs := putC D.secs i.toNat blk }, 9)
 else if D.failing = 0 then (D.tick, 8)
 else ({ D.tick with armed := cnt D.armed, secs := putC D.secs i.toNat blk }, 0)
theorem dwrite_spec (ρ : Hp) (b : Nat) (hb : HB) (mb : Nat) (es : List MapEntry) (ck : Nat) (D : DS) (i : Int) (blk : Blk) (hb64 : blk.length = 64) (hD : D.Ok) (hm : MapOk D.secs es) :
  Spec Tryz.prog 123 [.pointer (some ⟨b, 0, none⟩), .int .i64 i, bv blk] ρ (XO b hb mb es ck D)
   (fun v ρ' L' => v = .int .i64 (D.write i blk).2 ∧ ρ' = ρ ∧ ∃ es' ck', MapOk (D.write i blk).1.secs es' ∧ L' = XO b hb mb es' ck' (D.write i blk).1) := by
 obtain ⟨s, ops, armed, failing, dead⟩ := D
 obtain ⟨hs, a1, a2, f1, f2⟩ := hD
 dsimp only at hs a1 a2 f1 f2 hm
 have hl : (blk.map Zo).length = 64 := by simpa using hb64
 have hk := hm.keys
 cases dead with
 | true =>
  have he : DS.write ⟨s, ops, armed, failing, true⟩ i blk = (⟨s, ops, armed, failing, true⟩, 9) := by simp [DS.write]
  simp only [he]
  refine Za Tryz.func123 rfl rfl rfl fun u R => ?_
  simp only [Zf, kA, XO, bv]
  repeat' (first | (refine Zb (.func 176) ?_; refine qR rfl rfl (does_dead _ _ _ _ _ _ _ _ _ _ _) ?_; try simp only [kA]) | refine zW ?_ | intro _)
  exact qE ⟨rfl, rfl, es, ck, hm, rfl⟩
 | false =>
  by_cases hi : i < 0 ∨ (s.length : Int) ≤ i
  ·have he : DS.write ⟨s, ops, armed, failing, false⟩ i blk = (⟨s, ops, armed, failing, false⟩, 2) := by simp [DS.write, hi]
   simp only [he]
   refine Za Tryz.func123 rfl rfl rfl fun u R => ?_
   simp only [Zf, kA, XO, bv]
   repeat' (first | (refine Zb (.func 176) ?_; refine qR rfl rfl (does_arg _ _ _ _ _ _ _ _ _ _ _ hi) ?_; try simp only [kA]) | refine zW ?_ | intro _)
   exact qE ⟨rfl, rfl, es, ck, hm, rfl⟩
  ·have hi0 : 0 ≤ i := by omega
   have hi1 : i < s.length := by omega
   have hlen : (putC s i.toNat blk).length = s.length := Xq
   have hheld : YD (putC s i.toNat blk) = YD s := heldC_putC (by omega)
   by_cases ha : armed = 0
   ·subst ha
    have he : DS.write ⟨s, ops, 0, failing, false⟩ i blk = (⟨putC s i.toNat blk, IntKind.i64.wrap (ops + 1), 0, cnt failing, true⟩, 9) := by simp [DS.write, hi, DS.tick]
    simp only [he]
    refine Za Tryz.func123 rfl rfl rfl fun u R => ?_
    simp only [Zf, kA, XO, bv, hlen, hheld]
    repeat' (first | (refine Zb (.func 176) ?_; refine qC rfl rfl (does_dies _ _ _ _ _ _ _ _ _ _ _ _ _ hi0 hi1 f1 f2 (write1 _ _ _ _ _ _ _ _ _ _ _ _ _ _ _ blk hb64 hk)) ?_; rintro v ρ' L' hle ⟨rfl, v0, h0, rfl, es', ck', h1, h2, rfl⟩ <;> (try simp only [kA])) | refine zW ?_ | intro _)
    exact qE ⟨rfl, rfl, es', ck', hm.put hi0 hi1 h1 h2, rfl⟩
   ·by_cases hf : failing = 0
    ·subst hf
     have he : DS.write ⟨s, ops, armed, 0, false⟩ i blk = (⟨s, IntKind.i64.wrap (ops + 1), armed, -1, false⟩, 8) := by simp [DS.write, hi, DS.tick, ha, cnt]
     simp only [he]
     refine Za Tryz.func123 rfl rfl rfl fun u R => ?_
     simp only [Zf, kA, XO, bv]
     repeat' (first | (refine Zb (.func 176) ?_; refine qR rfl rfl (does_fail_w _ _ _ _ _ _ _ _ _ _ _ hi0 hi1 ha) ?_; try simp only [kA]) | refine zW ?_ | intro _)
     exact qE ⟨rfl, rfl, es, ck, hm, rfl⟩
    ·have he : DS.write ⟨s, ops, armed, failing, false⟩ i blk = (⟨putC s i.toNat blk, IntKind.i64.wrap (ops + 1), cnt armed, cnt failing, false⟩, 0) := by simp [DS.write, hi, DS.tick, ha, hf]
     simp only [he]
     refine Za Tryz.func123 rfl rfl rfl fun u R => ?_
     simp only [Zf, kA, XO, bv, hlen, hheld]
     repeat' (first | (refine Zb (.func 176) ?_; refine qC rfl rfl (does_ok_w _ _ _ _ _ _ _ _ _ _ _ _ _ _ _ hi0 hi1 hf f1 f2 ha a1 a2 (write1 _ _ _ _ _ _ _ _ _ _ _ _ _ _ _ blk hb64 hk)) ?_; rintro v ρ' L' hle ⟨rfl, v0, h0, rfl, es', ck', h1, h2, rfl⟩ <;> (try simp only [kA])) | refine zW ?_ | intro _)
     exact qE ⟨rfl, rfl, es', ck', hm.put hi0 hi1 h1 h2, rfl⟩
end Go.Proofs.E
namespace Go.Proofs.E
open Go
set_option linter.unusedVariables false
set_option linter.unusedSimpArgs false
set_option linter.unusedSectionVars false
set_option maxRecDepth 4000
set_option maxHeartbeats 1000000
attribute [local irreducible] Yl TL TC TE Spec ZN R1 Hp.le EnvLe TS TR YS Zp TP QP
theorem read1 (ρ : Hp) (b : Nat) (hb : HB) (mb pb ib rb : Nat) (s : YI) (ops armed failing : Int) (i : Nat) (dead : Bool) (es : List MapEntry) (ck : Nat) (r : List Value) (hr : r.length = 64) (hs : SecsOk s) (hm : MapOk s es) (hi : i < s.length) :
  Spec Tryz.prog 185 [.pointer (some ⟨pb, 0, none⟩), .pointer (some ⟨ib, 0, none⟩), .pointer (some ⟨rb, 0, none⟩)] ρ
   [[(b, dO hb mb s.length ops armed failing dead)], [(hb.b, .cells ⟨YD s ++ hb.sp⟩ 117 (0, 0))], [(mb, .map ⟨es⟩ ck)], [(pb, .cells ⟨[.pointer (some ⟨b, 0, none⟩)]⟩ 26 (0, 0))], [(ib, .cells ⟨[.int .i64 i]⟩ 3 (0, 0))], [(rb, .cells ⟨r⟩ 117 (0, 0))]]
   (fun v ρ' L' => v = .tuple ⟨[]⟩ ∧ ρ' = ρ ∧ L' = [[(b, dO hb mb s.length ops armed failing dead)], [(hb.b, .cells ⟨YD s ++ hb.sp⟩ 117 (0, 0))], [(mb, .map ⟨es⟩ ck)], [(pb, .cells ⟨[.pointer (some ⟨b, 0, none⟩)]⟩ 26 (0, 0))], [(ib, .cells ⟨[.int .i64 i]⟩ 3 (0, 0))], [(rb, .cells ⟨(says1 s[i]).map Zo⟩ 117 (0, 0))]]) := by
 have hk := hm.keys
 have hat := hm.at hi
 have hh : (s[i].1.map Zo).length = 64 := by simpa using hs.held s[i] (List.getElem_mem hi)
 have ht : ((YD s ++ hb.sp).drop (0 + i * 64)).take 64 = (s[i].1).map Zo := by rw [Nat.zero_add]; exact heldC_take' hb.sp hs.held hi
 have hlen := heldC_length' hb.sp hs.held
 have o1 := Yf
 cases hc : s[i].2 with
 | none =>
  have hsay : says1 s[i] = s[i].1 := by simp [says1, hc]
  rw [hc] at hat
  simp only [Option.map_none] at hat
  have hone := Yf s[i].1
  refine Za Tryz.func185 rfl rfl rfl fun u R => ?_
  simp only [Zf, kA, dO, hsay]
  repeat' (first | refine zW ?_ | intro _)
  refine tpZ [0,1,2,3,4,5,6,7,8] (.e 9 [] (.e 10 [] (.f [11] .o))) ?_
  repeat' (refine iT ?_; first | refine rA ?_ | ((refine iE ?_; refine rE ?_) <;> ((try refine Zr ?_); (first | (refine qEf ?_; try intro _)) <;> ((try simp only [kA]); refine Zj ?_; refine rN ?_))))
  repeat' (first | refine zW ?_ | intro _)
  refine tc_draw 7 (by decide +kernel) (by decide +kernel) ?_
  repeat' (first | (refine jLd ?_; refine sLd ?_) | (refine jFa ?_; refine sFa ?_) | (refine jNc ?_; refine sNc ?_) | (refine jIa ?_; refine sIa ?_) | (refine j_gd ?_; first | refine sWant ?_ | refine sSkip ?_ | refine sSkipU ?_))
  all_goals refine ts_nil ?_
  repeat' (first | refine zW ?_ | intro _)
  exact qE ⟨rfl, rfl, rfl⟩
 | some c =>
  have hsay : says1 s[i] = c := by simp [says1, hc]
  have hcl : (c.map Zo).length = 64 := by simpa using hs.cached s[i] (List.getElem_mem hi) c hc
  rw [hc] at hat
  simp only [Option.map_some] at hat
  have hone := Yf c
  refine Za Tryz.func185 rfl rfl rfl fun u R => ?_
  simp only [Zf, kA, dO, hsay]
  repeat' (first | refine zW ?_ | intro _)
  refine tpZ [0,1,2,3,4,5,6,7,8] (.e 9 [] (.e 10 [] (.f [11] .o))) ?_
  repeat' (refine iT ?_; first | refine rA ?_ | ((refine iE ?_; refine rE ?_) <;> ((try refine Zr ?_); (first | (refine qEf ?_; try intro _)) <;> ((try simp only [kA]); refine Zj ?_; refine rN ?_))))
  repeat' (first | refine zW ?_ | intro _)
  exact qE ⟨rfl, rfl, rfl⟩
def zblk : Blk := List.replicate 64 0
theorem zblk_cells : List.replicate 64 (Value.int .u8 0) = zblk.map Zo := by rfl
def DS.read (D : DS) (i : Int) : DS × Blk × Int :=
 if D.dead then (D, zblk, 9) else if i < 0 ∨ (D.secs.length : Int) ≤ i then (D, zblk, 2)
 else if D.failing = 0 then (D.tick, zblk, 8)
 else (D.tick, says1 (D.secs[i.toNat]?.getD (zblk, none)), 0)
theorem dread_spec (ρ : Hp) (b : Nat) (hb : HB) (mb : Nat) (es : List MapEntry) (ck : Nat) (D : DS) (i : Int) (hD : D.Ok) (hm : MapOk D.secs es) :
  Spec Tryz.prog 135 [.pointer (some ⟨b, 0, none⟩), .int .i64 i] ρ (XO b hb mb es ck D)
   (fun v ρ' L' => v = .tuple ⟨[bv (D.read i).2.1, .int .i64 (D.read i).2.2]⟩ ∧ ρ' = ρ ∧ L' = XO b hb mb es ck (D.read i).1) := by
 obtain ⟨s, ops, armed, failing, dead⟩ := D
 obtain ⟨hs, a1, a2, f1, f2⟩ := hD
 dsimp only at hs a1 a2 f1 f2 hm
 have hz0 : (List.replicate 64 (Value.int .u8 0)).length = 64 := by rfl
 have hz64 : (List.replicate 64 (Value.int .u8 0)).all (·.oneCell') = true := by rfl
 cases dead with
 | true =>
  have he : DS.read ⟨s, ops, armed, failing, true⟩ i = (⟨s, ops, armed, failing, true⟩, zblk, 9) := by simp [DS.read]
  simp only [he]
  refine Za Tryz.func135 rfl rfl rfl fun u R => ?_
  simp only [Zf, kA, XO, bv, ← zblk_cells]
  repeat' (first | (refine Zb (.func 176) ?_; refine qR rfl rfl (does_dead _ _ _ _ _ _ _ _ _ _ _) ?_; try simp only [kA]) | refine zW ?_ | intro _)
  exact qE ⟨rfl, rfl, rfl⟩
 | false =>
  by_cases hi : i < 0 ∨ (s.length : Int) ≤ i
  ·have he : DS.read ⟨s, ops, armed, failing, false⟩ i = (⟨s, ops, armed, failing, false⟩, zblk, 2) := by simp [DS.read, hi]
   simp only [he]
   refine Za Tryz.func135 rfl rfl rfl fun u R => ?_
   simp only [Zf, kA, XO, bv, ← zblk_cells]
   repeat' (first | (refine Zb (.func 176) ?_; refine qR rfl rfl (does_arg _ _ _ _ _ _ _ _ _ _ _ hi) ?_; try simp only [kA]) | refine zW ?_ | intro _)
   exact qE ⟨rfl, rfl, rfl⟩
  ·have hi0 : 0 ≤ i := by omega
   have hi1 : i < s.length := by omega
   by_cases hf : failing = 0
   ·subst hf
    have he : DS.read ⟨s, ops, armed, 0, false⟩ i = (⟨s, IntKind.i64.wrap (ops + 1), armed, -1, false⟩, zblk, 8) := by simp [DS.read, hi, DS.tick, cnt]
    simp only [he]
    refine Za Tryz.func135 rfl rfl rfl fun u R => ?_
    simp only [Zf, kA, XO, bv, ← zblk_cells]
    repeat' (first | (refine Zb (.func 176) ?_; refine qR rfl rfl (does_fail_r _ _ _ _ _ _ _ _ _ hi0 hi1) ?_; try simp only [kA]) | refine zW ?_ | intro _)
    exact qE ⟨rfl, rfl, rfl⟩
   ·obtain ⟨k, rfl⟩ : ∃ k : Nat, i = k := ⟨i.toNat, by omega⟩
    have hk : k < s.length := by omega
    have hsay : (says1 s[k]).length = 64 := by
     unfold says1
     cases hc : s[k].2 with
     | none => exact hs.held s[k] (List.getElem_mem hk)
     | some c => exact hs.cached s[k] (List.getElem_mem hk) c hc
    have hsl : ((says1 s[k]).map Zo).length = 64 := by simpa using hsay
    have hone := Yf (says1 s[k])
    have he : DS.read ⟨s, ops, armed, failing, false⟩ (k : Int) = (⟨s, IntKind.i64.wrap (ops + 1), armed, cnt failing, false⟩, says1 s[k], 0) := by simp [DS.read, hi, DS.tick, hf, hk]
    simp only [he]
    refine Za Tryz.func135 rfl rfl rfl fun u R => ?_
    simp only [Zf, kA, XO, bv]
    repeat' (first | (refine Zb (.func 176) ?_; refine qC rfl rfl (does_ok_r _ _ _ _ _ _ _ _ _ _ _ _ _ hi0 hi1 hf f1 f2 (read1 _ _ _ _ _ _ _ _ _ _ _ _ _ _ _ _ hz0 hs hm hk)) ?_; rintro v ρ' L' hle ⟨rfl, v0, h0, rfl, rfl⟩ <;> (try simp only [kA])) | refine zW ?_ | intro _)
    exact qE ⟨rfl, rfl, rfl⟩
end Go.Proofs.E
namespace Go.Proofs.E
open Go
set_option linter.unusedVariables false
set_option linter.unusedSimpArgs false
set_option linter.unusedSectionVars false
set_option maxRecDepth 4000
set_option maxHeartbeats 1000000
attribute [local irreducible] Yl TL TC TE Spec ZN R1 Hp.le EnvLe TS TR YS Zp
def isP (s : YI) (i : Nat) : Bool := ((s[i]?).bind (·.2)).isSome
def Yt (s : YI) (k : Nat) : List Nat := (List.range k).filter (isP s)
def pend (s : YI) : List Nat := Yt s s.length
theorem pendTo_succ_t {s : YI} {k : Nat} (h : isP s k = true) : Yt s (k + 1) = Yt s k ++ [k] := by simp [Yt, List.range_succ, h]
theorem pendTo_succ_f {s : YI} {k : Nat} (h : isP s k = false) : Yt s (k + 1) = Yt s k := by simp [Yt, List.range_succ, h]
theorem pendTo_pre {s : YI} {k m : Nat} (h : k ≤ m) : Yt s k <+: Yt s m := by
 induction m with
 | zero =>
  have : k = 0 := by omega
  subst this; exact List.prefix_refl _
 | succ m ih =>
  by_cases e : k = m + 1
  ·subst e; exact List.prefix_refl _
  ·refine (ih (by omega)).trans ?_
   cases hp : isP s m
   ·rw [pendTo_succ_f hp]; exact List.prefix_refl _
   ·rw [pendTo_succ_t hp]; exact List.prefix_append _ _
def natE (i : Nat) : List Value := [.int .i64 i]
theorem pending1_iter (ρ0 : Hp) (b : Nat) (hb : HB) (mb bx : Nat) (s : YI) (ops armed failing : Int) (dead : Bool) (es : List MapEntry) (ck : Nat) (hm : MapOk s es) (hs : SecsOk s) :
  Iter Tryz.prog 223 [] [.pointer (some ⟨bx, 0, none⟩)] natE ρ0
   [[(bx, .cells ⟨[.pointer (some ⟨b, 0, none⟩)]⟩ 26 (0, 0))], [(b, dO hb mb s.length ops armed failing dead)], [(mb, .map ⟨es⟩ ck)]] (pend s) := by
 intro l J Jx hY ρ Lj hle hJ
 refine Za Tryz.func223 rfl rfl rfl fun u R => ?_
 simp only [Zf, kA, dO]
 have hk := hm.keys
 have hlen := hs.len
 repeat' (first | refine zW ?_ | intro _)
 refine tc_loop_e (fun (y : Nat × Hp × SH) => ⟨[(0, .func (.yield l) ⟨[]⟩ ⟨[]⟩), (1, .pointer (some ⟨bx, 0, none⟩)), (10, .int .i64 s.length), (11, .int .i64 y.1)], y.2.1,
   [[(bx, .cells ⟨[.pointer (some ⟨b, 0, none⟩)]⟩ 26 (0, 0))], [(b, dO hb mb s.length ops armed failing dead)], [(mb, .map ⟨es⟩ ck)]] ++ y.2.2 ++ R⟩)
  (fun y => y.1 ≤ s.length ∧ ρ.le y.2.1 ∧ J (Yt s y.1) y.2.1 y.2.2) (fun y => s.length - y.1) (0, ρ, Lj) rfl ⟨by simp, Hp.le_refl _, hJ⟩
  Zc rfl tk inferInstance ?_
 rintro ⟨k, ρ1, L1⟩ ⟨h1, h2, h3⟩
 dsimp only at h1 h2 h3 ⊢
 simp only [kA, dO]
 by_cases hlt : k < s.length
 ·have hat := hm.at hlt
  cases hc : s[k].2 with
  | none =>
   rw [hc] at hat
   simp only [Option.map_none] at hat
   have hp : isP s k = false := by simp [isP, hlt, hc]
   repeat' (first | refine zW ?_ | intro _)
   refine te_round_e (Lm := [_, _, _] ++ L1) (R := R) (k + 1, ρ1, L1) rfl ⟨by omega, h2, by dsimp only; rw [pendTo_succ_f hp]; exact h3⟩ Zc rfl tk inferInstance (by dsimp only; omega)
  | some c =>
   rw [hc] at hat
   simp only [Option.map_some] at hat
   have hp : isP s k = true := by simp [isP, hlt, hc]
   have hsub := pendTo_succ_t hp
   have hpre : Yt s k ++ [k] <+: pend s := by rw [← hsub]; exact pendTo_pre (by omega)
   have hone := Yf c
   have hcl : (c.map Zo).length = 64 := by simpa using hs.cached s[k] (List.getElem_mem hlt) c hc
   have hy := hY (Yt s k) k ρ1 L1 hpre (Hp.le_trans hle h2) h3
   unfold dO at hy
   repeat' (first | (refine Zb (.tmp 25) ?_; refine qY rfl rfl (hy) ?_; rintro v ρ' L' hle ⟨Lj', rfl, ⟨rfl, hj⟩ | ⟨rfl, hj⟩⟩ <;> (try simp only [kA])) | refine zW ?_ | intro _)
   ·refine te_round_e (Lm := [_, _, _] ++ Lj') (R := R) (k + 1, ρ', Lj') rfl ⟨by omega, Hp.le_trans h2 hle, by dsimp only; rw [hsub]; exact hj⟩ Zc rfl tk inferInstance (by dsimp only; omega)
   ·exact te_end rfl rfl rfl (res0 rfl) (Hp.le_trans h2 hle) tk (by infer_instance) ⟨Lj', rfl, .inr hj⟩
 ·have hk2 : k = s.length := by omega
  subst hk2
  repeat' (first | refine zW ?_ | intro _)
  exact te_end rfl rfl rfl (res0 rfl) h2 tk (by infer_instance) ⟨L1, rfl, .inl h3⟩
theorem pending_spec (ρ : Hp) (b : Nat) : Spec Tryz.prog 158 [.pointer (some ⟨b, 0, none⟩)] ρ [] (fun v ρ' L' => ∃ bx, v = .func (.func 223) ⟨[]⟩ ⟨[.pointer (some ⟨bx, 0, none⟩)]⟩ ∧ ρ' = ρ ∧ L' = [[(bx, .cells ⟨[.pointer (some ⟨b, 0, none⟩)]⟩ 26 (0, 0))]]) := by
 refine Za Tryz.func158 rfl rfl rfl fun u R => ?_
 simp only [Zf, kA]
 repeat' (first | refine zW ?_ | intro _)
 exact qE ⟨_, rfl, rfl, rfl⟩
theorem pendTo_length (s : YI) (k : Nat) : (Yt s k).length ≤ k := by
 unfold Yt
 refine Nat.le_trans (List.length_filter_le _ _) (by simp)
theorem pend_length {s : YI} (h : SecsOk s) : (pend s).length ≤ 2048 := Nat.le_trans (pendTo_length s _) h.len
theorem filter_range_pre (p : Nat → Bool) : ∀ (n : Nat) (pre : List Nat) (y : Nat), (pre ++ [y]) <+: (List.range n).filter p → pre = (List.range y).filter p ∧ p y = true ∧ y < n
 | 0, pre, y, h => by simp at h
 | n + 1, pre, y, h => by
  rw [List.range_succ, List.filter_append] at h
  cases hp : p n with
  | false =>
   have h' : (pre ++ [y]) <+: (List.range n).filter p := by simpa [hp] using h
   obtain ⟨h1, h2, h3⟩ := filter_range_pre p n pre y h'
   exact ⟨h1, h2, by omega⟩
  | true =>
   have h' : (pre ++ [y]) <+: (List.range n).filter p ++ [n] := by simpa [hp] using h
   by_cases hl : (pre ++ [y]).length ≤ ((List.range n).filter p).length
   ·have h2 : (pre ++ [y]) <+: (List.range n).filter p := List.prefix_of_prefix_length_le h' (List.prefix_append _ _) hl
    obtain ⟨h1, h2, h3⟩ := filter_range_pre p n pre y h2
    exact ⟨h1, h2, by omega⟩
   ·have hlen := h'.length_le
    have he : pre ++ [y] = (List.range n).filter p ++ [n] := h'.eq_of_length (by simp at hl hlen ⊢; omega)
    obtain ⟨h1, h2⟩ := List.append_inj' he rfl
    simp only [List.cons.injEq, and_true] at h2
    subst h2
    exact ⟨h1, hp, by omega⟩
def setAfter (keep : Nat → Bool) (s : YI) (m : Nat) : YI := s.mapIdx fun i p => if isP s i && decide ((Yt s i).length < m) && keep (Yt s i).length then (p.2.getD p.1, p.2) else p
def settled (keep : Nat → Bool) (s : YI) : YI := (setAfter keep s (pend s).length).map fun p => (p.1, none)
theorem XL {keep s m} : (setAfter keep s m).length = s.length := by simp [setAfter]
theorem Ya {keep s} : (settled keep s).length = s.length := by simp [settled, XL]
theorem setAfter_zero {keep : Nat → Bool} {s : YI} : setAfter keep s 0 = s := by
 unfold setAfter
 apply List.ext_getElem (by simp)
 intro i h1 h2
 simp
theorem heldC_settled {keep s} : YD (settled keep s) = YD (setAfter keep s (pend s).length) := by simp [YD, settled, Function.comp_def]
theorem pendTo_lt {s : YI} {i j : Nat} (h : i < j) (hp : isP s i = true) : (Yt s i).length < (Yt s j).length := by
 have := (pendTo_pre (s := s) (k := i + 1) (m := j) (by omega)).length_le
 rw [pendTo_succ_t hp] at this
 simp at this; omega
theorem setAfter_succ {keep : Nat → Bool} {s : YI} {y : Nat} {h c : Blk} (hy : s[y]? = some (h, some c)) :
  setAfter keep s ((Yt s y).length + 1) = if keep (Yt s y).length then (setAfter keep s (Yt s y).length).set y (c, some c) else setAfter keep s (Yt s y).length := by
 have hlt : y < s.length := (List.getElem?_eq_some_iff.1 hy).1
 have hyv : s[y] = (h, some c) := (List.getElem?_eq_some_iff.1 hy).2
 have hpy : isP s y = true := by simp [isP, hy]
 have key : ∀ i, i < s.length → i ≠ y → isP s i = true → ((Yt s i).length < (Yt s y).length + 1 ↔ (Yt s i).length < (Yt s y).length) := by
  intro i hi hne hp
  rcases Nat.lt_trichotomy i y with h1 | h1 | h1
  ·have := pendTo_lt h1 hp; omega
  ·exact absurd h1 hne
  ·have := pendTo_lt h1 hpy; omega
 apply List.ext_getElem
 ·split <;> simp [setAfter]
 ·intro i h1 h2
  have hi : i < s.length := by simpa [setAfter] using h1
  by_cases e : i = y
  ·subst e
   split
   ·rename_i hk
    simp [setAfter, hpy, hk, hyv]
   ·rename_i hk
    simp [setAfter, hpy, hk]
  ·have hne : y ≠ i := fun h => e h.symm
   have : ∀ (q : YI) (hq : i < q.length) (v : Blk × Option Blk) (hq2 : i < (q.set y v).length), (q.set y v)[i] = q[i] := fun q hq v hq2 => by rw [List.getElem_set_ne hne]
   cases hp : isP s i with
   | false => split <;> simp [setAfter, hp, List.getElem_set_ne hne]
   | true =>
    have hk := key i hi e hp
    split <;> simp [setAfter, hp, List.getElem_set_ne hne, hk]
theorem SecsOk.setAfter {keep : Nat → Bool} {s : YI} {m : Nat} (h : SecsOk s) : SecsOk (setAfter keep s m) := by
 have hm : ∀ p ∈ E.setAfter keep s m, ∃ q ∈ s, p.2 = q.2 ∧ (p.1 = q.1 ∨ q.2 = some p.1) := by
  intro p hp
  obtain ⟨i, hi, rfl⟩ := List.mem_iff_getElem.1 hp
  have hi' : i < s.length := by simpa [E.setAfter] using hi
  refine ⟨s[i], List.getElem_mem hi', ?_⟩
  simp only [E.setAfter, List.getElem_mapIdx]
  split
  ·refine ⟨rfl, ?_⟩
   cases hc : s[i].2 with
   | none => exact .inl rfl
   | some c => exact .inr rfl
  ·exact ⟨rfl, .inl rfl⟩
 refine ⟨by rw [XL]; exact h.len, by rw [XL]; exact h.pos, fun p hp => ?_, fun p hp c hc => ?_⟩
 ·obtain ⟨q, hq, h1, h2 | h2⟩ := hm p hp
  ·rw [h2]; exact h.held q hq
  ·exact h.cached q hq _ h2
 ·obtain ⟨q, hq, h1, h2⟩ := hm p hp
  exact h.cached q hq c (by rw [← h1]; exact hc)
theorem SecsOk.settled {keep : Nat → Bool} {s : YI} (h : SecsOk s) : SecsOk (settled keep s) := by
 have h1 := h.setAfter (keep := keep) (m := (pend s).length)
 refine ⟨by rw [Ya]; exact h.len, by rw [Ya]; exact h.pos, fun p hp => ?_, fun p hp c hc => ?_⟩
 ·obtain ⟨q, hq, rfl⟩ := List.mem_map.1 hp
  exact h1.held q hq
 ·obtain ⟨q, hq, rfl⟩ := List.mem_map.1 hp
  cases hc
theorem Xb {keep s} : Wj (settled keep s) := fun p hp => by
 obtain ⟨q, hq, rfl⟩ := List.mem_map.1 hp
 rfl
theorem settle_spec (ρ : Hp) (b : Nat) (hb : HB) (mb : Nat) (es : List MapEntry) (ck : Nat) (s : YI) (ops armed failing : Int) (dead : Bool) (kf : Nat) (kc : List Value) (Xk : SH) (keep : Nat → Bool) [hkF : ZK Tryz.prog kf]
  (hK : ∀ nth, nth < 2048 → Spec Tryz.prog kf ([.int .i64 (nth : Nat)] ++ kc) ρ Xk (fun v ρ' L' => v = .bool (keep nth) ∧ ρ' = ρ ∧ L' = Xk)) (hs : SecsOk s) (hm : MapOk s es) :
  Spec Tryz.prog 101 [.pointer (some ⟨b, 0, none⟩), .func (.func kf) ⟨[]⟩ ⟨kc⟩] ρ ([[(b, dO hb mb s.length ops armed failing dead)], [(hb.b, .cells ⟨YD s ++ hb.sp⟩ 117 (0, 0))], [(mb, .map ⟨es⟩ ck)]] ++ Xk)
   (fun v ρ' L' => v = .tuple ⟨[]⟩ ∧ ρ.le ρ' ∧ ∃ mb' ck', L' = [[(b, dO hb mb' s.length ops armed failing dead)], [(hb.b, .cells ⟨YD (settled keep s) ++ hb.sp⟩ 117 (0, 0))], [(mb', .map ⟨[]⟩ ck')]] ++ Xk) := by
 rw [heldC_settled]
 have hpl := pend_length hs
 have hk := hm.keys
 refine Za Tryz.func101 rfl rfl rfl fun u R => ?_
 simp only [Zf, kA, dO]
 repeat' (first | (refine Zb (.func 158) ?_; refine qC rfl rfl (pending_spec _ _) ?_; rintro v ρ' L' hle ⟨bx, rfl, rfl, rfl⟩ <;> (try simp only [kA])) | refine zW ?_ | intro _)
 rename_i bd bk bn
 refine tc_rangeFunc (S := [[(bx, .cells ⟨[.pointer (some ⟨b, 0, none⟩)]⟩ 26 (0, 0))], [(b, dO hb mb s.length ops armed failing dead)], [(mb, .map ⟨es⟩ ck)]])
  (L0 := [[(bd, .cells ⟨[.pointer (some ⟨b, 0, none⟩)]⟩ 26 (0, 0))], [(bk, .cells ⟨[.func (.func kf) ⟨[]⟩ ⟨kc⟩]⟩ 181 (0, 0))], [(bn, .cells ⟨[.int .i64 (0 : Nat)]⟩ 3 (0, 0))], [(hb.b, .cells ⟨YD (setAfter keep s 0) ++ hb.sp⟩ 117 (0, 0))]] ++ Xk) (R := R) (R0 := ?r0) rfl rfl (pending1_iter ρ' b hb mb bx s ops armed failing dead es ck hm hs) (Hp.le_refl _) (fun _ => rfl) rfl
  (fun pre ρ1 Lu => ρ1 = ρ' ∧ Lu = [[(bd, .cells ⟨[.pointer (some ⟨b, 0, none⟩)]⟩ 26 (0, 0))], [(bk, .cells ⟨[.func (.func kf) ⟨[]⟩ ⟨kc⟩]⟩ 181 (0, 0))], [(bn, .cells ⟨[.int .i64 (pre.length : Nat)]⟩ 3 (0, 0))], [(hb.b, .cells ⟨YD (setAfter keep s pre.length) ++ hb.sp⟩ 117 (0, 0))]] ++ Xk) (fun _ _ _ => False) ?k1 ?k2 ⟨rfl, rfl⟩ ?round ?done ?stop
 case k1 => unfold dO; exact tk
 case k2 => rw [setAfter_zero]; exact tk
 case stop => rintro D0 c ρ' Lu _ hf; exact hf.elim
 case round =>
  rintro l tm r pre y ρ1 Lu u R' hpre hle' ⟨rfl, rfl⟩ hr hrec
  simp only [envP, natE, kA]
  have hlen := hpre.length_le
  simp only [List.length_append, List.length_singleton] at hlen
  obtain ⟨hpe, hpy, hy⟩ := filter_range_pre _ _ _ _ hpre
  repeat' (first | refine zW ?_ | intro _)
  refine te_begin rfl hr (fun r' hbz hrec' => ?_)
  have hpl2 : (Yt s y).length = pre.length := by rw [hpe]; rfl
  obtain ⟨hd0, c, hsy⟩ : ∃ h c, s[y]? = some (h, some c) := by
   simp only [isP, Option.isSome_iff_exists] at hpy
   obtain ⟨c, hc⟩ := hpy
   rw [List.getElem?_eq_getElem hy] at hc ⊢
   simp only [Option.bind_some] at hc
   exact ⟨s[y].1, c, by rw [← hc]⟩
  have hsv : s[y] = (hd0, some c) := (List.getElem?_eq_some_iff.1 hsy).2
  have hat := hm.at hy
  rw [hsv] at hat
  simp only [Option.map_some] at hat
  have hc64 : c.length = 64 := hs.cached s[y] (List.getElem_mem hy) c (by rw [hsv])
  have hcl : (c.map Zo).length = 64 := by simpa using hc64
  have hone := Yf c
  have hsa := hs.setAfter (keep := keep) (m := pre.length)
  have hhl : (YD (setAfter keep s pre.length) ++ hb.sp).length = s.length * 64 + hb.sp.length := by rw [heldC_length' _ hsa.held, XL]
  have hnext := setAfter_succ (keep := keep) hsy
  rw [hpl2] at hnext
  have hst := stc_heldC' hb.sp (s := setAfter keep s pre.length) (i := y) (b := c) (some c) hsa.held hc64 (by rw [XL]; exact hy)
  repeat' (first | (refine Zb (.tmp 9) ?_; refine qC rfl rfl (hK pre.length (by omega)) ?_; rintro v ρ' L' hle ⟨rfl, rfl, hx⟩ <;> (try simp only [kA, hx])) | refine zW ?_ | intro _)
  cases hkp : keep pre.length with
  | false =>
   rw [hkp] at hnext
   simp only [Bool.false_eq_true, if_false] at hnext
   repeat' (first | refine zW ?_ | intro _)
   refine YO [(l, .loop r')] ?_
   refine te_next (Lu := [[(bd, .cells ⟨[.pointer (some ⟨b, 0, none⟩)]⟩ 26 (0, 0))], [(bk, .cells ⟨[.func (.func kf) ⟨[]⟩ ⟨kc⟩]⟩ 181 (0, 0))], [(bn, .cells ⟨[.int .i64 (pre.length + 1 : Nat)]⟩ 3 (0, 0))], [(hb.b, .cells ⟨YD (setAfter keep s pre.length) ++ hb.sp⟩ 117 (0, 0))]] ++ Xk) rfl (Hp.le_refl _) ⟨hrec'.tmps.trans hrec.tmps, hrec'.params.trans hrec.params, hrec'.assign.trans hrec.assign, hrec'.body.trans hrec.body⟩ tk tk inferInstance ?_
   refine ⟨rfl, ?_⟩
   simp [hnext]
  | true =>
   rw [hkp] at hnext
   simp only [if_true] at hnext
   rw [← hnext] at hst
   repeat' (first | refine zW ?_ | intro _)
   refine tc_draw 12 (by decide +kernel) (by decide +kernel) ?_
   repeat' (first | (refine jMv ?_; refine sMv ?_) | (refine jLd ?_; refine sLd ?_) | (refine jFa ?_; refine sFa ?_) | (refine jNc ?_; refine sNc ?_) | (refine jIa ?_; refine sIa ?_) | (refine jLu ?_; refine sLu ?_) | (refine j_gd ?_; first | refine sWant ?_ | refine sSkip ?_ | refine sSkipU ?_))
   all_goals refine ts_nil ?_
   repeat' (first | refine zW ?_ | intro _)
   rw [Nat.zero_add, hst]
   refine YO [(l, .loop r')] ?_
   refine te_next (Lu := [[(bd, .cells ⟨[.pointer (some ⟨b, 0, none⟩)]⟩ 26 (0, 0))], [(bk, .cells ⟨[.func (.func kf) ⟨[]⟩ ⟨kc⟩]⟩ 181 (0, 0))], [(bn, .cells ⟨[.int .i64 (pre.length + 1 : Nat)]⟩ 3 (0, 0))], [(hb.b, .cells ⟨YD (setAfter keep s (pre.length + 1)) ++ hb.sp⟩ 117 (0, 0))]] ++ Xk) rfl (Hp.le_refl _) ⟨hrec'.tmps.trans hrec.tmps, hrec'.params.trans hrec.params, hrec'.assign.trans hrec.assign, hrec'.body.trans hrec.body⟩ tk tk inferInstance ?_
   refine ⟨rfl, ?_⟩
   simp
 case done =>
  rintro D0 ρ1 Lu hle' ⟨rfl, rfl⟩
  simp only [kA, dO]
  repeat' (first | refine zW ?_ | intro _)
  exact te_end_d rfl rfl rfl inferInstance (res0 rfl) (Hp.le_refl _) tk (by infer_instance) ⟨rfl, Hp.le_refl _, _, _, rfl⟩
theorem sync11 (ρ : Hp) (nth : Nat) : Spec Tryz.prog 178 [.int .i64 (nth : Nat)] ρ [] (fun v ρ' L' => v = .bool true ∧ ρ' = ρ ∧ L' = []) := by
 refine Za Tryz.func178 rfl rfl rfl fun u R => ?_
 simp only [Zf, kA]
 repeat' (first | refine zW ?_ | intro _)
 exact qE ⟨rfl, rfl, rfl⟩
theorem sync2 (ρ : Hp) (X : SH) : Spec Tryz.prog 179 [] ρ X (fun v ρ' L' => v = .tuple ⟨[]⟩ ∧ ρ' = ρ ∧ L' = X) := by
 refine Za Tryz.func179 rfl rfl rfl fun u R => ?_
 simp only [Zf, kA]
 repeat' (first | refine zW ?_ | intro _)
 exact te_end rfl rfl rfl (res0 rfl) (Hp.le_refl _) take_app' (by infer_instance) ⟨rfl, rfl, rfl⟩
theorem sync1 (ρ : Hp) (b : Nat) (hb : HB) (mb bx : Nat) (es : List MapEntry) (ck : Nat) (s : YI) (ops armed failing : Int) (dead : Bool) (hs : SecsOk s) (hm : MapOk s es) :
  Spec Tryz.prog 177 [.pointer (some ⟨bx, 0, none⟩)] ρ ([(b, dO hb mb s.length ops armed failing dead)] :: [[(hb.b, .cells ⟨YD s ++ hb.sp⟩ 117 (0, 0))], [(mb, .map ⟨es⟩ ck)], [(bx, .cells ⟨[.pointer (some ⟨b, 0, none⟩)]⟩ 26 (0, 0))]])
   (fun v ρ' L' => v = .tuple ⟨[]⟩ ∧ ρ.le ρ' ∧ ∃ mb' ck', L' = [[(b, dO hb mb' s.length ops armed failing dead)], [(hb.b, .cells ⟨YD (settled (fun _ => true) s) ++ hb.sp⟩ 117 (0, 0))], [(mb', .map ⟨[]⟩ ck')]]) := by
 refine Za Tryz.func177 rfl rfl rfl fun u R => ?_
 simp only [Zf, kA]
 repeat' (first | (refine Zb (.func 101) ?_; refine qC rfl rfl (settle_spec _ _ _ _ _ _ _ _ _ _ _ 178 [] [] (fun _ => true) (fun nth _ => sync11 _ nth) hs hm) ?_; rintro v ρ' L' hle ⟨rfl, hle2, mb', ck', rfl⟩ <;> (try simp only [kA])) | refine zW ?_ | intro _)
 exact te_end rfl rfl rfl (res0 rfl) hle2 tk (by infer_instance) ⟨rfl, hle2, mb', ck', rfl⟩
def DS.sync (D : DS) : DS × Int :=
 if D.dead then (D, 9)
 else if D.armed = 0 then ({ D.tick with dead := true }, 9)
 else if D.failing = 0 then (D.tick, 8)
 else ({ D.tick with armed := cnt D.armed, secs := settled (fun _ => true) D.secs }, 0)
theorem dsync_spec (ρ : Hp) (b : Nat) (hb : HB) (mb : Nat) (es : List MapEntry) (ck : Nat) (D : DS) (hD : D.Ok) (hm : MapOk D.secs es) :
  Spec Tryz.prog 124 [.pointer (some ⟨b, 0, none⟩)] ρ (XO b hb mb es ck D)
   (fun v ρ' L' => v = .int .i64 D.sync.2 ∧ ρ.le ρ' ∧ ∃ mb' es' ck', MapOk D.sync.1.secs es' ∧ L' = XO b hb mb' es' ck' D.sync.1) := by
 obtain ⟨s, ops, armed, failing, dead⟩ := D
 obtain ⟨hs, a1, a2, f1, f2⟩ := hD
 dsimp only at hs a1 a2 f1 f2 hm
 have hpos : (0 : Int) < s.length := by have := hs.pos; omega
 cases dead with
 | true =>
  have he : DS.sync ⟨s, ops, armed, failing, true⟩ = (⟨s, ops, armed, failing, true⟩, 9) := by simp [DS.sync]
  simp only [he]
  refine Za Tryz.func124 rfl rfl rfl fun u R => ?_
  simp only [Zf, kA, XO]
  repeat' (first | (refine Zb (.func 176) ?_; refine qR rfl rfl (does_dead _ _ _ _ _ _ _ _ _ _ _) ?_; try simp only [kA]) | refine zW ?_ | intro _)
  exact qE ⟨rfl, Hp.le_refl _, mb, es, ck, hm, rfl⟩
 | false =>
  by_cases ha : armed = 0
  ·subst ha
   have he : DS.sync ⟨s, ops, 0, failing, false⟩ = (⟨s, IntKind.i64.wrap (ops + 1), 0, cnt failing, true⟩, 9) := by simp [DS.sync, DS.tick]
   simp only [he]
   refine Za Tryz.func124 rfl rfl rfl fun u R => ?_
   simp only [Zf, kA, XO]
   repeat' (first | (refine Zb (.func 176) ?_; refine qC rfl rfl (does_dies _ _ _ _ _ _ _ _ _ _ _ [] _ (Int.le_refl 0) hpos f1 f2 (sync2 _ _)) ?_; rintro v ρ' L' hle ⟨rfl, v0, h0, rfl, rfl⟩ <;> (try simp only [kA])) | refine zW ?_ | intro _)
   exact qE ⟨rfl, Hp.le_refl _, mb, es, ck, hm, rfl⟩
  ·by_cases hf : failing = 0
   ·subst hf
    have he : DS.sync ⟨s, ops, armed, 0, false⟩ = (⟨s, IntKind.i64.wrap (ops + 1), armed, -1, false⟩, 8) := by simp [DS.sync, DS.tick, ha, cnt]
    simp only [he]
    refine Za Tryz.func124 rfl rfl rfl fun u R => ?_
    simp only [Zf, kA, XO]
    repeat' (first | (refine Zb (.func 176) ?_; refine qR rfl rfl (does_fail_w _ _ _ _ _ _ _ _ _ _ _ (Int.le_refl 0) hpos ha) ?_; try simp only [kA]) | refine zW ?_ | intro _)
    exact qE ⟨rfl, Hp.le_refl _, mb, es, ck, hm, rfl⟩
   ·have he : DS.sync ⟨s, ops, armed, failing, false⟩ = (⟨settled (fun _ => true) s, IntKind.i64.wrap (ops + 1), cnt armed, cnt failing, false⟩, 0) := by simp [DS.sync, DS.tick, ha, hf]
    simp only [he]
    refine Za Tryz.func124 rfl rfl rfl fun u R => ?_
    simp only [Zf, kA, XO, Ya]
    repeat' (first | (refine Zb (.func 176) ?_; refine qC rfl rfl (does_ok_w _ _ _ _ _ _ _ _ _ _ _ _ _ _ _ (Int.le_refl 0) hpos hf f1 f2 ha a1 a2 (sync1 _ _ _ _ _ es ck s _ _ _ _ hs hm)) ?_; rintro v ρ' L' hle ⟨rfl, v0, h0, hle2, mb', ck', rfl⟩ <;> (try simp only [kA])) | refine zW ?_ | intro _)
    exact te_end rfl rfl rfl (res1 rfl (ZZ rfl)) hle2 tk (by infer_instance) ⟨rfl, hle2, mb', [], ck', MapOk.empty Xb, rfl⟩
def DS.crash (keep : Nat → Bool) (D : DS) : DS := ⟨settled keep D.secs, D.ops, -1, -1, false⟩
def DS.fail (D : DS) (n : Int) : DS × Int := if D.dead then (D, 9) else ({ D with failing := max n (-1) }, 0)
theorem len_spec (ρ : Hp) (b : Nat) (hb : HB) (mb n : Nat) (ops armed failing : Int) (dead : Bool) : Spec Tryz.prog 52 [.pointer (some ⟨b, 0, none⟩)] ρ [[(b, dO hb mb n ops armed failing dead)]]
  (fun v ρ' L' => v = .int .i64 (n : Nat) ∧ ρ' = ρ ∧ L' = [[(b, dO hb mb n ops armed failing dead)]]) := by
 refine Za Tryz.func52 rfl rfl rfl fun u R => ?_
 simp only [Zf, kA, dO]
 repeat' (first | refine zW ?_ | intro _)
 exact qE ⟨rfl, rfl, rfl⟩
def fresh (n : Nat) : YI := List.replicate n (zblk, none)
def DS.new (n : Nat) : DS := ⟨fresh n, 0, -1, -1, false⟩
theorem fresh_ok {n : Nat} (h0 : 0 < n) (h1 : n ≤ 2048) : SecsOk (fresh n) := by
 refine ⟨by simpa [fresh] using h1, by simpa [fresh] using h0, fun p hp => ?_, fun p hp c hc => ?_⟩ <;> (obtain ⟨_, rfl⟩ := List.mem_replicate.1 hp)
 ·rfl
 ·cases hc
theorem fresh_empty {n : Nat} : Wj (fresh n) := fun p hp => by obtain ⟨_, rfl⟩ := List.mem_replicate.1 hp; rfl
theorem madeCells_rep (x : Value) (m : Nat) : ∀ n, 0 < m → madeCells ⟨List.replicate m x⟩ n = ⟨List.replicate n x⟩ := by
 intro n hm
 apply Array.ext
 ·simp [madeCells]
 ·intro i h1 h2
  have h3 : i % m < m := Nat.mod_lt _ hm
  simp [madeCells, h3]
theorem heldC_fresh (n : Nat) : YD (fresh n) = List.replicate (n * 64) (.int .u8 0) := by
 unfold YD fresh
 rw [List.map_replicate]
 have : zblk.map Zo = List.replicate 64 (Value.int .u8 0) := by rfl
 rw [this, List.flatten_replicate_replicate]
theorem new_spec (ρ : Hp) (n : Nat) (h0 : 0 < n) (h1 : n ≤ 2048) : Spec Tryz.prog 8 [.int .i64 (n : Nat)] ρ [] (fun v ρ' L' => ρ' = ρ ∧ ∃ b hb mb ck, v = .tuple ⟨[.pointer (some ⟨b, 0, none⟩), .int .i64 0]⟩ ∧ L' = XO b hb mb [] ck (DS.new n)) := by
 refine Za Tryz.func8 rfl rfl rfl fun u R => ?_
 have hl : (DS.new n).secs.length = n := by simp [DS.new, fresh]
 simp only [Zf, kA, XO, hl]
 simp only [DS.new, heldC_fresh]
 repeat' (first | (refine tl_makeSlice rfl rfl (by omega) (by omega) (by omega) (by omega) rfl (fun hbn => ?_); simp only [Value.cells, madeCells_rep _ 64 _ (by decide), Int.toNat_natCast]) | refine zW ?_ | intro _)
 rename_i bm bd
 refine qE (L' := [[(bd, .cells _ 113 (0, 0))], [(hbn, _)], [(bm, .map _ _)]]) ⟨rfl, bd, ⟨hbn, n, []⟩, bm, 0, rfl, ?_⟩
 simp only [List.append_nil]
 rfl
theorem Hp.le_get {ρ ρ' : Hp} (h : ρ.le ρ') {b : Nat} {o : Obj} (hb : ρ b = some o) : ρ' b = some o := hp_get h hb
def bb (f : Bool) : Value := .bool f
structure KeepIn (ρ : Hp) (ka : Option Addr) (kn kp : Nat) (ks : List Bool) : Prop where
 le : kn ≤ kp
 len : ks.length = kn
 big : kn ≤ 9223372036854775807
 out : kn = 0 ∨ ∃ kb off C T fr, ka = some ⟨kb, off, none⟩ ∧ ρ kb = some (.cells ⟨C⟩ T fr) ∧ (C.drop off).take kn = ks.map bb
theorem KeepIn.mono {ρ ρ' : Hp} {ka kn kp ks} (h : KeepIn ρ ka kn kp ks) (hle : ρ.le ρ') : KeepIn ρ' ka kn kp ks :=
 ⟨h.le, h.len, h.big, by
  rcases h.out with h0 | ⟨kb, off, C, T, fr, h1, h2, h3⟩
  ·exact .inl h0
  ·exact .inr ⟨kb, off, C, T, fr, h1, Hp.le_get hle h2, h3⟩⟩
theorem MapOk.fail {D : DS} {es n} (h : MapOk D.secs es) : MapOk (D.fail n).1.secs es := by unfold DS.fail; split <;> exact h
theorem len_disk (ρ : Hp) (b : Nat) (hb : HB) (mb : Nat) (es : List MapEntry) (ck : Nat) (D : DS) : Spec Tryz.prog 52 [.pointer (some ⟨b, 0, none⟩)] ρ (XO b hb mb es ck D) (fun v ρ' L' => v = .int .i64 (D.secs.length : Nat) ∧ ρ' = ρ ∧ L' = XO b hb mb es ck D) := by
 refine ((len_spec ρ b hb mb D.secs.length D.ops D.armed D.failing D.dead).frame [[(hb.b, .cells ⟨YD D.secs ++ hb.sp⟩ 117 (0, 0))], [(mb, .map ⟨es⟩ ck)]]).mono ?_
 rintro v ρ' L' _ ⟨L1, rfl, rfl, rfl, rfl⟩
 exact ⟨rfl, rfl, rfl⟩
theorem read_len {D : DS} (hD : D.Ok) (i : Int) : (D.read i).2.1.length = 64 := by
 unfold DS.read
 split
 ·rfl
 ·split
  ·rfl
  ·split
   ·rfl
   ·rename_i h1 h2 h3
    have hlt : i.toNat < D.secs.length := by omega
    simp only [List.getElem?_eq_getElem hlt, Option.getD_some]
    unfold says1
    cases hc : D.secs[i.toNat].2 with
    | none => exact hD.secs.held _ (List.getElem_mem hlt)
    | some c => exact hD.secs.cached _ (List.getElem_mem hlt) c hc
theorem read_secs {D : DS} (i : Int) : (D.read i).1.secs = D.secs := by
 unfold DS.read
 split
 ·rfl
 ·split
  ·rfl
  ·split <;> rfl
theorem MapOk.read {D : DS} {es i} (h : MapOk D.secs es) : MapOk (D.read i).1.secs es := by rw [read_secs]; exact h
theorem new_okD {n : Nat} (h0 : 0 < n) (h1 : n ≤ 2048) : (DS.new n).Ok := ⟨fresh_ok h0 h1, by simp [DS.new], by simp [DS.new], by simp [DS.new], by simp [DS.new]⟩
theorem OwnS.full {n : Nat} (b : Nat) (xs : List Value) (h : xs.length = n) : OwnS (.slice (some ⟨b, 0, none⟩) n n) n xs [] 1 := ⟨.inr ⟨b, n, rfl, by omega, by simp; omega, Nat.le_refl _⟩⟩
theorem cnt_lo {n : Int} : -1 ≤ cnt n := by unfold cnt; omega
theorem cnt_hi {n : Int} (h : n ≤ 9223372036854775807) : cnt n ≤ 9223372036854775807 := by unfold cnt; omega
theorem DS.Ok.tick {D : DS} (h : D.Ok) : D.tick.Ok := ⟨h.secs, h.a1, h.a2, cnt_lo, cnt_hi h.f2⟩
theorem DS.Ok.read {D : DS} {i : Int} (h : D.Ok) : (D.read i).1.Ok := by
 unfold DS.read
 split
 ·exact h
 ·split
  ·exact h
  ·split <;> exact h.tick
theorem DS.Ok.write {D : DS} {i : Int} {b : Blk} (h : D.Ok) (hb : b.length = 64) : (D.write i b).1.Ok := by
 unfold DS.write
 split
 ·exact h
 ·split
  ·exact h
  ·rename_i h1 h2
   have hi : i.toNat < D.secs.length := by omega
   split
   ·exact ⟨h.secs.putC hb hi, h.tick.a1, h.tick.a2, h.tick.f1, h.tick.f2⟩
   ·split
    ·exact h.tick
    ·exact ⟨h.secs.putC hb hi, cnt_lo, cnt_hi h.a2, h.tick.f1, h.tick.f2⟩
theorem DS.Ok.sync {D : DS} (h : D.Ok) : D.sync.1.Ok := by
 unfold DS.sync
 split
 ·exact h
 ·split
  ·exact ⟨h.secs, h.tick.a1, h.tick.a2, h.tick.f1, h.tick.f2⟩
  ·split
   ·exact h.tick
   ·exact ⟨h.secs.settled, cnt_lo, cnt_hi h.a2, h.tick.f1, h.tick.f2⟩
theorem DS.Ok.crash {D : DS} {keep} (h : D.Ok) : (D.crash keep).Ok := ⟨h.secs.settled, by simp [DS.crash], by simp [DS.crash], by simp [DS.crash], by simp [DS.crash]⟩
structure DS.Calm (D : DS) : Prop where
 dead : D.dead = false
 armed : D.armed = -1
 failing : D.failing = -1
theorem new_calm {n} : (DS.new n).Calm := ⟨rfl, rfl, rfl⟩
theorem DS.Calm.read {D : DS} {i : Int} (h : D.Calm) : (D.read i).1.Calm := by
 obtain ⟨s, o, a, f, d⟩ := D
 obtain ⟨h1, h2, h3⟩ := h
 simp only at h1 h2 h3
 subst h1; subst h2; subst h3
 unfold DS.read
 simp only [Bool.false_eq_true, if_false]
 split
 ·exact ⟨rfl, rfl, rfl⟩
 ·exact ⟨rfl, rfl, rfl⟩
theorem DS.Calm.write {D : DS} {i : Int} {b : Blk} (h : D.Calm) : (D.write i b).1.Calm := by
 obtain ⟨s, o, a, f, d⟩ := D
 obtain ⟨h1, h2, h3⟩ := h
 simp only at h1 h2 h3
 subst h1; subst h2; subst h3
 unfold DS.write
 simp only [Bool.false_eq_true, if_false]
 split
 ·exact ⟨rfl, rfl, rfl⟩
 ·exact ⟨rfl, rfl, rfl⟩
theorem DS.Calm.sync_eq {D : DS} (h : D.Calm) : D.sync = (⟨settled (fun _ => true) D.secs, IntKind.i64.wrap (D.ops + 1), -1, -1, false⟩, 0) := by
 obtain ⟨s, o, a, f, d⟩ := D
 obtain ⟨h1, h2, h3⟩ := h
 simp only at h1 h2 h3
 subst h1; subst h2; subst h3
 rfl
end Go.Proofs.E
namespace Go.Proofs.E
open Go
set_option linter.unusedVariables false
set_option linter.unusedSimpArgs false
set_option linter.unusedSectionVars false
set_option maxRecDepth 4000
set_option maxHeartbeats 1000000
attribute [local irreducible] Yl TL TC TE Spec ZN R1 Hp.le EnvLe TS TR YS Zp TP QP
theorem isP_empty {s : YI} (h : Wj s) (j : Nat) : isP s j = false := by
 unfold isP
 cases hs : s[j]? with
 | none => rfl
 | some p =>
  have := h p (List.mem_of_getElem? hs)
  simp [this]
theorem DS.Calm.read_eq {D : DS} {i : Nat} (h : D.Calm) (hi : i < D.secs.length) : D.read i = (⟨D.secs, IntKind.i64.wrap (D.ops + 1), -1, -1, false⟩, says1 D.secs[i], 0) := by
 obtain ⟨s, o, a, f, d⟩ := D
 obtain ⟨h1, h2, h3⟩ := h
 simp only at h1 h2 h3
 subst h1; subst h2; subst h3
 simp only at hi
 have hn : ¬ ((i : Int) < 0 ∨ (s.length : Int) ≤ i) := by omega
 have hc : cnt (-1) = -1 := by decide
 unfold DS.read
 simp only [hn, if_false, Bool.false_eq_true, DS.tick, hc, show ¬ ((-1 : Int) = 0) by decide, Int.toNat_natCast, List.getElem?_eq_getElem hi, Option.getD_some]
theorem DS.Calm.write_eq {D : DS} {i : Nat} {b : Blk} (h : D.Calm) (hi : i < D.secs.length) : D.write i b = (⟨putC D.secs i b, IntKind.i64.wrap (D.ops + 1), -1, -1, false⟩, 0) := by
 obtain ⟨s, o, a, f, d⟩ := D
 obtain ⟨h1, h2, h3⟩ := h
 simp only at h1 h2 h3
 subst h1; subst h2; subst h3
 simp only at hi
 have hn : ¬ ((i : Int) < 0 ∨ (s.length : Int) ≤ i) := by omega
 have hc : cnt (-1) = -1 := by decide
 unfold DS.write
 simp only [hn, if_false, Bool.false_eq_true, DS.tick, hc, show ¬ ((-1 : Int) = 0) by decide, Int.toNat_natCast]
theorem DS.Calm.mk' {s o} : (⟨s, o, -1, -1, false⟩ : DS).Calm := ⟨rfl, rfl, rfl⟩
theorem DS.Ok.mk' {s o} (h : SecsOk s) : (⟨s, o, -1, -1, false⟩ : DS).Ok := ⟨h, by simp, by simp, by simp, by simp⟩
theorem settled_at {keep : Nat → Bool} {s : YI} {i : Nat} (hi : i < s.length) (h' : i < (settled keep s).length) :
  (settled keep s)[i] = (if isP s i && keep (Yt s i).length then (s[i].2.getD s[i].1, none) else (s[i].1, none)) := by
 have hlt : isP s i = true → (Yt s i).length < (pend s).length := fun hp => by
  have := (pendTo_pre (s := s) (k := i + 1) (m := s.length) (by omega)).length_le
  rw [pendTo_succ_t hp] at this
  simp only [List.length_append, List.length_singleton] at this
  unfold pend; omega
 simp only [settled, setAfter, List.getElem_map, List.getElem_mapIdx]
 cases hp : isP s i with
 | false => simp
 | true =>
  have := hlt hp
  simp only [this, decide_true, Bool.true_and]
  cases keep (Yt s i).length <;> simp
theorem settled_empty {f : Nat → Bool} {s : YI} (h : Wj s) : settled f s = s := by
 apply List.ext_getElem (by rw [Ya])
 intro i h1 h2
 rw [settled_at h2, isP_empty h]
 have := h s[i] (List.getElem_mem h2)
 simp only [Bool.false_and, Bool.false_eq_true, if_false]
 cases hs : s[i] with
 | mk x y => rw [hs] at this; simp only at this; rw [this]
end Go.Proofs.E
namespace Go.Proofs.E
open Go
set_option linter.unusedVariables false
set_option linter.unusedSimpArgs false
set_option linter.unusedSectionVars false
set_option maxRecDepth 4000
set_option maxHeartbeats 1000000
attribute [local irreducible] Yl TL TC TE Spec ZN R1 Hp.le EnvLe TS TR YS Zp
abbrev Bs := List UInt8
def pad (l : Bs) : Blk := (l ++ z8 64).take 64
theorem pad_len (l : Bs) : (pad l).length = 64 := by simp [pad, z8]
theorem pad_of {l : Bs} (h : l.length ≤ 64) : pad l = l ++ z8 (64 - l.length) := by
 unfold pad z8
 rw [List.take_append, List.take_of_length_le h, List.take_replicate, Nat.min_eq_left (by omega)]
theorem pad_take (l : Bs) : pad (l.take 64) = pad l := by
 by_cases h : l.length ≤ 64
 ·rw [List.take_of_length_le h]
 ·unfold pad
  rw [List.take_append_of_le_length (by simp; omega), List.take_take, List.take_append_of_le_length (by omega)]; simp
structure Hd where
 turn : Nat
 first : Nat
 size : Nat
 place : Nat
 note : Bs
deriving DecidableEq
def Zv (n : Nat) : Nat := max 1 ((n + 51) / 52)
theorem Wa (n : Nat) : 1 ≤ Zv n := by unfold Zv; omega
theorem sects_le {n : Nat} (h : n ≤ 8000) : Zv n ≤ 154 := by unfold Zv; omega
def letB : Bs := [98, 117, 114, 115, 114, 105, 110, 103]
def ZV (turn n : Nat) (b : Bs) (k : Nat) : Blk := pad (be 4 turn ++ (be 5 n ++ (be 2 b.length ++ (UInt8.ofNat k :: (b.drop (52 * k)).take 52))))
def YY (h : Hd) : Blk := pad (letB ++ (be 4 h.turn ++ (be 2 h.size ++ (be 5 h.first ++ (be 2 h.place ++ (UInt8.ofNat h.note.length :: h.note))))))
theorem partB_len (t n : Nat) (b : Bs) (k : Nat) : (ZV t n b k).length = 64 := pad_len _
theorem headB_len (h : Hd) : (YY h).length = 64 := pad_len _
def headOf (s : Blk) : Hd := ⟨Ym ((s.drop 8).take 4), Ym ((s.drop 14).take 5), Ym ((s.drop 12).take 2), Ym ((s.drop 19).take 2), (s.drop 22).take (s.getD 21 0).toNat⟩
def zHd : Hd := ⟨0, 0, 0, 0, []⟩
def Hd.Right (h : Hd) (n : Nat) : Prop := 1 ≤ h.turn ∧ h.turn ≤ 1073741824 ∧ 4 ≤ h.size ∧ h.size ≤ 1000 ∧ 1 ≤ h.first ∧ h.first ≤ 1099511627776 ∧ h.place < h.size ∧ n ≤ 32
instance (h : Hd) (n : Nat) : Decidable (h.Right n) := by unfold Hd.Right; infer_instance
def Xh (s : Blk) : Hd × Bool := if (headOf s).Right (s.getD 21 0).toNat then (headOf s, decide (YY (headOf s) = s)) else (zHd, false)
def Xw (a b : Blk) : Hd × Bool := if (Xh a).2 && (!(Xh b).2 || decide ((Xh b).1.turn ≤ (Xh a).1.turn)) then ((Xh a).1, true) else Xh b
def DS.lays : List (Nat × Blk) → DS → DS × Int
 | [], D => D.sync
 | p :: r, D => if (D.write (p.1 : Int) p.2).2 = 0 then DS.lays r (D.write (p.1 : Int) p.2).1 else D.write (p.1 : Int) p.2
def ZY (h : Hd) (n : Nat) (b : Bs) (at' : Nat) : List (Nat × Blk) := (List.range (Zv b.length)).map fun k => (2 + (at' + k) % h.size, ZV h.turn n b k)
theorem DS.Ok.lays : ∀ {l : List (Nat × Blk)} {D : DS}, D.Ok → (∀ p ∈ l, p.2.length = 64) → (DS.lays l D).1.Ok
 | [], D, h, _ => h.sync
 | p :: r, D, h, hl => by
  have h1 := hl p (by simp)
  unfold DS.lays
  split
  ·exact DS.Ok.lays (h.write h1) (fun q hq => hl q (by simp [hq]))
  ·exact h.write h1
theorem write_length (D : DS) (i : Int) (b : Blk) : (D.write i b).1.secs.length = D.secs.length := by
 unfold DS.write
 split
 ·rfl
 ·split
  ·rfl
  ·split
   ·simp [Xq]
   ·split
    ·rfl
    ·simp [Xq]
theorem sync_length (D : DS) : D.sync.1.secs.length = D.secs.length := by
 unfold DS.sync
 split
 ·rfl
 ·split
  ·rfl
  ·split
   ·rfl
   ·simp [Ya]
theorem XB : ∀ (l : List (Nat × Blk)) (D : DS), (DS.lays l D).1.secs.length = D.secs.length
 | [], D => sync_length D
 | p :: r, D => by
  unfold DS.lays
  split
  ·rw [XB, write_length]
  ·exact write_length _ _ _
structure Rd (ρ : Hp) (X : SH) (a : Option Addr) (n : Nat) (l : Bs) : Prop where
 len : l.length = n
 src : ∀ (x : Cx) (ρ' : Hp) (L R : SH), ρ.le ρ' → YJ L X R → SrcV x ρ' L a (l.map Zo)
theorem Rd.mono {ρ ρ' : Hp} {X : SH} {a : Option Addr} {n : Nat} {l : Bs} (h : Rd ρ X a n l) (hle : ρ.le ρ') : Rd ρ' X a n l := ⟨h.len, fun x ρ2 L R h2 hT => h.src x ρ2 L R (Hp.le_trans hle h2) hT⟩
theorem SIn.rd {ρ : Hp} {a : Option Addr} {n : Nat} {l : Bs} (h : SIn ρ Zo a n l) : Rd ρ [] a n l := ⟨h.len, fun x ρ' L R hle _ => (h.mono hle).srcV⟩
theorem OwnS.rd {ρ : Hp} {a : Option Addr} {n c : Nat} {l : Bs} {sp : List Value} {T : TypeId} (h : OwnS (.slice a n c) n (l.map Zo) sp 1) : Rd ρ [Zw (.slice a n c) (l.map Zo) sp T] a n l := by
 refine ⟨?_, fun x ρ' L R hle hT => ?_⟩
 ·obtain ⟨_, _, _, h2⟩ := h.len
  simpa using h2
 ·rcases h.out with ⟨e1, h1, h2, h3⟩ | ⟨b, c', e1, h2, h3, h4⟩
  ·exact .inl h2
  ·cases e1
   refine .inr ⟨b, 0, rfl, fun w hw j c hj => ?_⟩
   have hw' := hw.perm hT.out
   have hb : w.heap[b]? = some (.cells ⟨l.map Zo ++ sp⟩ T (0, 0)) := hw'.here (b, .cells ⟨l.map Zo ++ sp⟩ T (0, 0)) (by simp [Zw])
   simp only [World.cell?, hb, Option.isSome_none, Bool.false_eq_true, if_false, Nat.zero_add]
   simp only [List.getElem?_toArray]
   rw [List.getElem?_append_left (List.getElem?_eq_some_iff.1 hj).1]; exact hj
theorem SrcV.sub {x : Cx} {ρ : Hp} {L : SH} {a : Option Addr} {ys : List Value} (h : SrcV x ρ L a ys) {lo' k cap : Nat} (hk : lo' + k ≤ ys.length) (hc : ys.length ≤ cap) : SrcV x ρ L (if cap = lo' then a else a.map (·.add (lo' * 1))) ((ys.drop lo').take k) := by
 rcases h with rfl | ⟨b, off, rfl, hs⟩
 ·left; simp
 ·by_cases h0 : k = 0
  ·left; simp [h0]
  ·right
   rw [if_neg (by omega)]
   refine ⟨b, off + lo', by simp [Yw], fun w hw j c hj => ?_⟩
   have hlt : j < k := by
    have := (List.getElem?_eq_some_iff.1 hj).1
    simp at this; omega
   rw [List.getElem?_take_of_lt hlt, List.getElem?_drop] at hj
   have := hs w hw (lo' + j) c hj
   rw [Nat.add_assoc]; exact this
structure DK where
 hb : HB
 mb : Nat
 es : List MapEntry
 ck : Nat
abbrev Zs (b : Nat) (k : DK) (D : DS) : SH := XO b k.hb k.mb k.es k.ck D
structure DOk (k : DK) (D : DS) : Prop where
 ok : D.Ok
 map : MapOk D.secs k.es
structure RgS where
 h : Hd
 ents : List Bs
 used : Nat
 broken : Bool
def Yc (l : List Bs) : Nat := (l.map fun b => Zv b.length).sum
theorem usedL_append (l m : List Bs) : Yc (l ++ m) = Yc l + Yc m := by simp [Yc]
theorem usedL_cons (b : Bs) (l : List Bs) : Yc (b :: l) = Zv b.length + Yc l := by simp [Yc]
theorem Wg (l : List Bs) (n : Nat) : Yc (l.take n) + Yc (l.drop n) = Yc l := by rw [← usedL_append, List.take_append_drop]
theorem usedL_len (l : List Bs) : l.length ≤ Yc l := by
 induction l with
 | nil => simp [Yc]
 | cons b r ih => have := Wa b.length; rw [usedL_cons]; simp; omega
def RgS.next (R : RgS) : Nat := R.h.first + R.ents.length
structure RgS.Ok (R : RgS) : Prop where
 turn : 1 ≤ R.h.turn ∧ R.h.turn ≤ 1073741824
 size : 4 ≤ R.h.size ∧ R.h.size ≤ 1000
 first : 1 ≤ R.h.first
 next : R.next ≤ 1099511627776
 place : R.h.place < R.h.size
 note : R.h.note.length ≤ 32
 used : R.used = Yc R.ents
 fit : R.used ≤ R.h.size
 long : ∀ b ∈ R.ents, b.length ≤ 8000
def ZU (h : Hd) : List (Nat × Blk) := [(h.turn % 2, YY h)]
def Hd.cut (h : Hd) (n gone : Nat) (note : Bs) : Hd := ⟨h.turn + 1, h.first + n, h.size, (h.place + gone) % h.size, note⟩
def RgS.append (R : RgS) (b : Bs) (D : DS) : RgS × DS × Int :=
 if R.broken then (R, D, 8)
 else if 8000 < b.length then (R, D, 3)
 else if R.h.size - R.used < Zv b.length ∨ 1099511627776 ≤ R.next then (R, D, 6)
 else if (DS.lays (ZY R.h R.next b (R.h.place + R.used)) D).2 = 0 then (⟨R.h, R.ents ++ [b], R.used + Zv b.length, false⟩, DS.lays (ZY R.h R.next b (R.h.place + R.used)) D)
 else ({ R with broken := true }, DS.lays (ZY R.h R.next b (R.h.place + R.used)) D)
def RgS.cutH (R : RgS) (n : Nat) (note : Bs) : Hd := R.h.cut n (Yc (R.ents.take n)) note
def RgS.cut (R : RgS) (n : Int) (note : Bs) (D : DS) : RgS × DS × Int :=
 if R.broken then (R, D, 8)
 else if n < 0 ∨ (R.ents.length : Int) < n ∨ R.h.turn = 1073741824 then (R, D, 2)
 else if 32 < note.length then (R, D, 3)
 else if (DS.lays (ZU (R.cutH n.toNat note)) D).2 = 0 then (⟨R.cutH n.toNat note, R.ents.drop n.toNat, R.used - Yc (R.ents.take n.toNat), false⟩, DS.lays (ZU (R.cutH n.toNat note)) D)
 else ({ R with broken := true }, DS.lays (ZU (R.cutH n.toNat note)) D)
def ZC (size : Nat) : Hd := ⟨1, 1, size, 0, []⟩
def ZB (size : Nat) : List (Nat × Blk) := (List.range (size + 2)).map fun i => (i, zblk)
def Wf (size : Int) (D : DS) : Option RgS × DS × Int :=
 if size < 4 ∨ 1000 < size ∨ (D.secs.length : Int) < size + 2 then (none, D, 2)
 else if (DS.lays (ZB size.toNat) D).2 = 0 then
  if (DS.lays (ZU (ZC size.toNat)) (DS.lays (ZB size.toNat) D).1).2 = 0 then (some ⟨ZC size.toNat, [], 0, false⟩, DS.lays (ZU (ZC size.toNat)) (DS.lays (ZB size.toNat) D).1)
  else (none, DS.lays (ZU (ZC size.toNat)) (DS.lays (ZB size.toNat) D).1)
 else (none, DS.lays (ZB size.toNat) D)
def YX (n : Nat) (l : Bs) : Bs := (l ++ z8 n).take n
theorem XS (n : Nat) (l : Bs) : (YX n l).length = n := by simp [YX, z8]
def entGo (h : Hd) (n at' turn size : Nat) : Nat → Nat → Bs → DS → Option Bs × DS × Int
 | 0, _, acc, D => (some (YX size acc), D, 0)
 | j + 1, k, acc, D =>
  if (D.read ((2 + (at' + k) % h.size : Nat) : Int)).2.2 ≠ 0 then (none, (D.read ((2 + (at' + k) % h.size : Nat) : Int)).1, (D.read ((2 + (at' + k) % h.size : Nat) : Int)).2.2)
  else if ZV turn n (YX size (acc ++ (D.read ((2 + (at' + k) % h.size : Nat) : Int)).2.1.drop 12)) k = (D.read ((2 + (at' + k) % h.size : Nat) : Int)).2.1 then
   entGo h n at' turn size j (k + 1) (acc ++ (D.read ((2 + (at' + k) % h.size : Nat) : Int)).2.1.drop 12) (D.read ((2 + (at' + k) % h.size : Nat) : Int)).1
  else (none, (D.read ((2 + (at' + k) % h.size : Nat) : Int)).1, 0)
def Yh (s : Blk) : Nat := Ym (s.take 4)
def numOf (s : Blk) : Nat := Ym ((s.drop 4).take 5)
def Zx (s : Blk) : Nat := Ym ((s.drop 9).take 2)
def entGo0 (h : Hd) (n at' left : Nat) (s : Blk) (D : DS) : Option Bs × DS × Int :=
 if Yh s < 1 ∨ h.turn < Yh s ∨ 8000 < Zx s ∨ left < Zv (Zx s) then (none, D, 0)
 else if ZV (Yh s) n (YX (Zx s) (s.drop 12)) 0 = s then entGo h n at' (Yh s) (Zx s) (Zv (Zx s) - 1) 1 (s.drop 12) D
 else (none, D, 0)
def entryR (h : Hd) (n at' left : Nat) (D : DS) : Option Bs × DS × Int :=
 if left = 0 then (none, D, 0)
 else if (D.read ((2 + at' % h.size : Nat) : Int)).2.2 ≠ 0 then (none, (D.read ((2 + at' % h.size : Nat) : Int)).1, (D.read ((2 + at' % h.size : Nat) : Int)).2.2)
 else entGo0 h n at' left (D.read ((2 + at' % h.size : Nat) : Int)).2.1 (D.read ((2 + at' % h.size : Nat) : Int)).1
def RgS.adds (R : RgS) (b : Bs) : RgS := { R with ents := R.ents ++ [b], used := R.used + Zv b.length }
def Yx : Nat → RgS → DS → RgS × DS × Int
 | 0, R, D => (R, D, 0)
 | f + 1, R, D =>
  if R.next < 1099511627776 then
   match entryR R.h R.next (R.h.place + R.used) (R.h.size - R.used) D with
   | (some b, D', e) => if e = 0 then Yx f (R.adds b) D' else (R, D', e)
   | (none, D', e) => (R, D', e)
  else (R, D, 0)
def openH (h : Hd) (D : DS) : Option RgS × DS × Int :=
 if D.secs.length < h.size + 2 then (none, D, 140)
 else if (Yx (h.size + 1) ⟨h, [], 0, false⟩ D).2.2 ≠ 0 then (none, (Yx (h.size + 1) ⟨h, [], 0, false⟩ D).2)
 else if h.turn = 1073741824 then (none, (Yx (h.size + 1) ⟨h, [], 0, false⟩ D).2.1, 140)
 else if (DS.lays (ZU { h with turn := h.turn + 1 }) (Yx (h.size + 1) ⟨h, [], 0, false⟩ D).2.1).2 = 0 then
  (some { (Yx (h.size + 1) ⟨h, [], 0, false⟩ D).1 with h := { h with turn := h.turn + 1 } }, DS.lays (ZU { h with turn := h.turn + 1 }) (Yx (h.size + 1) ⟨h, [], 0, false⟩ D).2.1)
 else (none, DS.lays (ZU { h with turn := h.turn + 1 }) (Yx (h.size + 1) ⟨h, [], 0, false⟩ D).2.1)
def openR (D : DS) : Option RgS × DS × Int :=
 if (D.read 0).2.2 ≠ 0 then (none, (D.read 0).1, (D.read 0).2.2)
 else if ((D.read 0).1.read 1).2.2 ≠ 0 then (none, ((D.read 0).1.read 1).1, ((D.read 0).1.read 1).2.2)
 else if (Xw (D.read 0).2.1 ((D.read 0).1.read 1).2.1).2 = false then (none, ((D.read 0).1.read 1).1, 140)
 else openH (Xw (D.read 0).2.1 ((D.read 0).1.read 1).2.1).1 ((D.read 0).1.read 1).1
def Yv (s : YI) (l : List (Nat × Blk)) : YI := l.foldl (fun s p => putC s p.1 p.2) s
theorem Yq (l : List (Nat × Blk)) : ∀ (s : YI), (Yv s l).length = s.length := by
 induction l with
 | nil => intro s; rfl
 | cons p r ih => intro s; simp only [Yv, List.foldl_cons] at ih ⊢; rw [ih, Xq]
theorem putC_at {s : YI} {j i : Nat} {b : Blk} (hi : i < s.length) (h' : i < (putC s j b).length) : (putC s j b)[i] = if j = i then (s[i].1, some b) else s[i] := by
 simp only [putC, List.getElem_set]
 by_cases e : j = i
 ·subst e; simp [hi]
 ·simp [e]
theorem putAll_at : ∀ (l : List (Nat × Blk)) (s : YI) (i : Nat) (hi : i < s.length) (h' : i < (Yv s l).length), (Yv s l)[i] = s[i] ∧ (∀ p ∈ l, p.1 ≠ i) ∨ ∃ p ∈ l, p.1 = i ∧ (Yv s l)[i] = (s[i].1, some p.2)
 | [], s, i, hi, h' => .inl ⟨rfl, by simp⟩
 | p :: r, s, i, hi, h' => by
  have h1 : i < (putC s p.1 p.2).length := by rw [Xq]; exact hi
  have hat := putC_at hi h1
  rcases putAll_at r (putC s p.1 p.2) i h1 (by rw [Yq]; exact h1) with ⟨e1, e2⟩ | ⟨q, hq, e1, e2⟩
  ·by_cases hp : p.1 = i
   ·rw [if_pos hp] at hat
    exact .inr ⟨p, by simp, hp, by rw [← hat, ← e1]; rfl⟩
   ·rw [if_neg hp] at hat
    refine .inl ⟨by rw [← hat, ← e1]; rfl, fun q hq => ?_⟩
    rcases List.mem_cons.1 hq with rfl | hq
    ·exact hp
    ·exact e2 q hq
  ·refine .inr ⟨q, by simp [hq], e1, ?_⟩
   have : (putC s p.1 p.2)[i].1 = s[i].1 := by rw [hat]; split <;> rfl
   rw [← this, ← e2]; rfl
theorem lays_out : ∀ (l : List (Nat × Blk)) (D : DS), D.dead = false → (∀ p ∈ l, p.1 < D.secs.length) →
  (∃ l', l' <+: l ∧ (DS.lays l D).1.secs = Yv D.secs l' ∧ (DS.lays l D).2 ≠ 0) ∨
  ((DS.lays l D).1.secs = settled (fun _ => true) (Yv D.secs l) ∧ (DS.lays l D).2 = 0 ∧ (DS.lays l D).1.dead = false)
 | [], D, hd, _ => by
  simp only [DS.lays, DS.sync, hd, Bool.false_eq_true, if_false]
  split
  ·exact .inl ⟨[], List.prefix_refl _, rfl, by simp⟩
  ·split
   ·exact .inl ⟨[], List.prefix_refl _, rfl, by simp⟩
   ·exact .inr ⟨rfl, rfl, hd⟩
 | p :: r, D, hd, hl => by
  have hp := hl p (by simp)
  have hlt : ¬ ((p.1 : Int) < 0 ∨ (D.secs.length : Int) ≤ p.1) := by omega
  unfold DS.lays
  by_cases ha : D.armed = 0
  ·have hw : D.write p.1 p.2 = ({ D.tick with dead := true, secs := putC D.secs p.1 p.2 }, 9) := by
    unfold DS.write
    rw [if_neg (by simp [hd]), if_neg hlt, if_pos ha]; rfl
   rw [hw]
   rw [if_neg (by simp)]
   exact .inl ⟨[p], ⟨r, rfl⟩, rfl, by simp⟩
  ·by_cases hf : D.failing = 0
   ·have hw : D.write p.1 p.2 = (D.tick, 8) := by
     unfold DS.write
     rw [if_neg (by simp [hd]), if_neg hlt, if_neg ha, if_pos hf]
    rw [hw]
    rw [if_neg (by simp)]
    exact .inl ⟨[], ⟨p :: r, rfl⟩, rfl, by simp⟩
   ·have hw : D.write p.1 p.2 = ({ D.tick with armed := cnt D.armed, secs := putC D.secs p.1 p.2 }, 0) := by
     unfold DS.write
     rw [if_neg (by simp [hd]), if_neg hlt, if_neg ha, if_neg hf]; rfl
    rw [hw, if_pos rfl]
    have ih := lays_out r { D.tick with armed := cnt D.armed, secs := putC D.secs p.1 p.2 } hd (fun q hq => by simp only [Xq]; exact hl q (by simp [hq]))
    rcases ih with ⟨l', ⟨t, ht⟩, h2, h3⟩ | h
    ·exact .inl ⟨p :: l', ⟨t, by rw [← ht]; rfl⟩, h2, h3⟩
    ·exact .inr h
theorem Calm_lays : ∀ (l : List (Nat × Blk)) (D : DS), D.Calm → (∀ p ∈ l, p.1 < D.secs.length) → (DS.lays l D).2 = 0 ∧ (DS.lays l D).1.Calm ∧ (DS.lays l D).1.secs = settled (fun _ => true) (Yv D.secs l)
 | [], D, h, _ => by
  rw [DS.lays, h.sync_eq]
  exact ⟨rfl, ⟨rfl, rfl, rfl⟩, rfl⟩
 | p :: r, D, h, hl => by
  have hp := hl p (by simp)
  unfold DS.lays
  rw [h.write_eq hp, if_pos rfl]
  exact Calm_lays r _ ⟨rfl, rfl, rfl⟩ (fun q hq => by simp only [Xq]; exact hl q (by simp [hq]))
theorem settled_one {keep : Nat → Bool} {s : YI} {i : Nat} (he : Wj s) (l : List (Nat × Blk)) (hi : i < s.length) (h' : i < (settled keep (Yv s l)).length) :
  (settled keep (Yv s l))[i] = s[i] ∨ ∃ p ∈ l, p.1 = i ∧ (settled keep (Yv s l))[i] = (p.2, none) := by
 have hp : i < (Yv s l).length := by rw [Yq]; exact hi
 have hn := he s[i] (List.getElem_mem hi)
 rw [settled_at hp h']
 rcases putAll_at l s i hi hp with ⟨e, _⟩ | ⟨p, hm, e1, e2⟩
 ·left
  have hip : isP (Yv s l) i = false := by simp [isP, hp, e, hn]
  rw [hip, e]
  simp only [Bool.false_and, Bool.false_eq_true, if_false]
  rw [← hn]
 ·have hip : isP (Yv s l) i = true := by simp [isP, hp, e2]
  rw [hip, e2]
  cases hk : keep (Yt (Yv s l) i).length with
  | false => left; simp [← hn]
  | true => right; exact ⟨p, hm, e1, by simp⟩
theorem settled_all {s : YI} {i : Nat} (he : Wj s) (l : List (Nat × Blk)) (hi : i < s.length) (h' : i < (settled (fun _ => true) (Yv s l)).length) :
  (settled (fun _ => true) (Yv s l))[i] = s[i] ∧ (∀ p ∈ l, p.1 ≠ i) ∨ ∃ p ∈ l, p.1 = i ∧ (settled (fun _ => true) (Yv s l))[i] = (p.2, none) := by
 have hp : i < (Yv s l).length := by rw [Yq]; exact hi
 have hn := he s[i] (List.getElem_mem hi)
 rw [settled_at hp h']
 rcases putAll_at l s i hi hp with ⟨e, h2⟩ | ⟨p, hm, e1, e2⟩
 ·left
  have hip : isP (Yv s l) i = false := by simp [isP, hp, e, hn]
  rw [hip, e]
  simp only [Bool.false_and, Bool.false_eq_true, if_false]
  exact ⟨by rw [← hn], h2⟩
 ·have hip : isP (Yv s l) i = true := by simp [isP, hp, e2]
  rw [hip, e2]
  right; exact ⟨p, hm, e1, by simp⟩
end Go.Proofs.E
