/- The law FileWrites. Part 16 of 17. -/
import Derived.Test.YtaacalchpindlaaGreatP15
namespace Go.Proofs.E
open Go Go.RowKit
set_option linter.unusedVariables false
set_option linter.unusedSimpArgs false
set_option linter.unusedSectionVars false
set_option maxRecDepth 8000
section
variable {H : Type} {enc : TypeId × Value → H} {w : World}
theorem opn_wr : Opn enc Tryz.prog w 45 (fun cs (e : WrV) => cs = wrC e ∧ WrIn (hpOf w) e) := fun fuel cs x h => by
 obtain ⟨hl, hf⟩ := Ws Tryz.underlying45 h
 have hl : cs.length = 5 := by rw [hl]; kernel_rfl
 obtain ⟨c0, c1, c2, c3, c4, rfl⟩ : ∃ c0 c1 c2 c3 c4, cs = [c0, c1, c2, c3, c4] := by
  match cs, hl with
  | [c0, c1, c2, c3, c4], _ => exact ⟨c0, c1, c2, c3, c4, rfl⟩
 obtain ⟨p, h0, p0, p1⟩ := Yo h Tryz.underlying45 0 0 1 rfl rfl rfl (by kernel_rfl) (XN Tryz.underlying3)
 obtain ⟨n, h1, n0, n1⟩ := Yo h Tryz.underlying45 1 1 1 rfl rfl rfl (by kernel_rfl) (XN Tryz.underlying37)
 obtain ⟨⟨cw, cc⟩, h2, hcI⟩ := Yo h Tryz.underlying45 2 2 3 rfl rfl rfl (by kernel_rfl) opn_cont
 simp only [List.drop_zero, List.drop_succ_cons, List.take_succ_cons, List.take_zero, List.cons.injEq, and_true, Yt] at h0 h1 h2
 obtain ⟨h2, h3, h4⟩ := h2
 subst h0; subst h1; subst h2; subst h3; subst h4
 simp only [lo, hi] at n0 n1 p0 p1
 have hn : ((n.toNat : Nat) : Int) = n := by omega
 refine ⟨⟨p, n.toNat, cw, cc⟩, ?_, ⟨⟨p0, p1⟩, by dsimp only; omega, hcI⟩⟩
 simp only [wrC, hn]
end
end Go.Proofs.E
