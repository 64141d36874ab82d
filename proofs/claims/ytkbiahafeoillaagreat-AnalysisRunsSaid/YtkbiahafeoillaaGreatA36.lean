/- Laws of analysis. Part 36 of 41. -/
import Derived.Test.YtkbiahafeoillaaGreatA35
namespace Go.Proofs.E
open Go
set_option linter.unusedVariables false
set_option linter.unusedSimpArgs false
set_option linter.unusedSectionVars false
set_option maxRecDepth 4000
set_option maxHeartbeats 1000000
attribute [local irreducible] Yl TL TC TE Spec Xb R1 Hp.le EnvLe TS TR YS Zk
theorem mayT_iff (t : TxP) (r : Rc) : mayT t r = true ↔ ((r.kind = 3 ∨ r.kind = 4) ∧ t.state = 1 ∧ t.first ≤ r.next ∧ r.next ≤ t.undo) ∨ (r.kind = 5 ∧ t.state ≠ 3 ∧ t.first ≤ r.next ∧ r.next ≤ t.undo ∧ r.next < t.undo) ∨ (¬ (r.kind = 3 ∨ r.kind = 4 ∨ r.kind = 5) ∧ t.state = 1) := by
 unfold mayT WG XK
 by_cases h1 : r.kind = 3 ∨ r.kind = 4
 ·rw [if_pos h1]
  simp only [Bool.and_eq_true, decide_eq_true_eq]
  omega
 ·rw [if_neg h1]
  by_cases h2 : r.kind = 5
  ·rw [if_pos h2]
   simp only [Bool.and_eq_true, decide_eq_true_eq]
   omega
  ·rw [if_neg h2]
   simp only [decide_eq_true_eq]
   omega
theorem taken8_spec (ρ : Hp) (x : Tx) (rv : RV) (r : Rc) (k8 : r.kind = 8) : Spec Tryz.prog 160 [.agg ⟨Yk x⟩, .agg ⟨Yx rv r⟩] ρ []
  (fun z ρ' L' => z = .tuple ⟨[.agg ⟨Yk x⟩, .bool true, .int .i64 0]⟩ ∧ ρ' = ρ ∧ L' = []) := by
 refine Zd Tryz.func160 rfl rfl rfl fun u R => ?_
 simp only [Zo, List.cons_append, List.nil_append]
 by_cases c1 : x.first ≤ r.next <;> by_cases c2 : r.next ≤ x.undo <;> by_cases c3 : x.state = 1
 all_goals
  repeat' (first | refine zV ?_ | intro _)
  exact qE (L' := []) ⟨rfl, rfl, rfl⟩
theorem takenN_spec (ρ : Hp) (x : Tx) (rv : RV) (r : Rc) (k8 : r.kind ≠ 8) (k2 : 2 ≤ r.kind) (k7 : r.kind ≤ 7) (hm : ¬ mayT x.p r = true) : Spec Tryz.prog 160 [.agg ⟨Yk x⟩, .agg ⟨Yx rv r⟩] ρ []
  (fun z ρ' L' => z = .tuple ⟨[.agg ⟨Yk x⟩, .bool false, .int .i64 2]⟩ ∧ ρ' = ρ ∧ L' = []) := by
 rw [mayT_iff] at hm
 simp only [Tx.p] at hm
 refine Zd Tryz.func160 rfl rfl rfl fun u R => ?_
 simp only [Zo, List.cons_append, List.nil_append]
 obtain k | k | k | k : r.kind = 3 ∨ r.kind = 4 ∨ r.kind = 5 ∨ ¬ (r.kind = 3 ∨ r.kind = 4 ∨ r.kind = 5) := by omega
 all_goals by_cases c1 : x.first ≤ r.next <;> by_cases c2 : r.next ≤ x.undo <;> by_cases c3 : x.state = 1 <;> try (exfalso; omega)
 all_goals by_cases c4 : x.state = 3 <;> by_cases c5 : r.next < x.undo <;> try (exfalso; omega)
 all_goals
  repeat' (first | refine zV ?_ | intro _)
  exact qE (L' := []) ⟨rfl, rfl, rfl⟩
end Go.Proofs.E
