/- The law RosterMarks. Part 15 of 20. -/
import Derived.Test.YtkbiahafeoillaaGreatU14
namespace Go.Proofs.E
open Go
set_option linter.unusedVariables false
set_option linter.unusedSimpArgs false
set_option linter.unusedSectionVars false
set_option maxRecDepth 4000
set_option maxHeartbeats 1000000
attribute [local irreducible] Yl TL TC TE Spec Wh R1 Hp.le EnvLe TS TR YS Zq
theorem orec_spec (ρ : Hp) (o : OpD) (v : SV) (ro : Ros) (h : RosIn ρ v ro) (hL : YH ro.p ≤ 1099511627776) : Spec Tryz.prog 41 [.agg ⟨opV o⟩, .agg ⟨Yx v ro⟩] ρ [] (fun z ρ' L' => z = .agg ⟨recV o.rv (XO o ro.p)⟩ ∧ ρ' = ρ ∧ L' = []) := by
 by_cases h1 : ¬ (o.rc.kind = 3 ∨ o.rc.kind = 4 ∨ o.rc.kind = 5) ∨ (nthT ro.p o.at').stack.length = 0
 ·exact orec_A ρ o v ro h hL h1
 have h2 : (o.rc.kind = 3 ∨ o.rc.kind = 4 ∨ o.rc.kind = 5) ∧ ¬ (nthT ro.p o.at').stack.length = 0 := by omega
 by_cases h0 : 0 < v.n
 ·cases hn : o.near
  ·exact orec_N ρ o v ro hn
  ·by_cases hu : (nthT ro.p o.at').undo ≤ nextO o (nthT ro.p o.at')
   ·exact orec_B ρ o v ro h hL hn h0 h2.1 h2.2 hu
   ·exact orec_C ρ o v ro h hL hn h0 h2.1 h2.2 hu
 ·have hl := h.at'.at'.len
  have hpl : ro.p.txns = [] := List.eq_nil_of_length_eq_zero (by simp only [Ros.p, List.length_map]; omega)
  have e : nthT ro.p o.at' = zP := by unfold nthT; rw [hpl]; rfl
  exact absurd (by rw [e]; rfl) h2.2
theorem cutZ_spec (ρ : Hp) (v : SV) (ro : Ros) (h : RosIn ρ v ro) (num n : Int) (hn : i64in n) : Spec Tryz.prog 15 [.agg ⟨Yx v ro⟩, .int .i64 num, .int .i64 n] ρ []
  (fun z ρ' L' => (ρ.le ρ' ∧ ∃ (v' : SV) (ro' : Ros), z = .tuple ⟨[.agg ⟨Yx v' ro'⟩, .int .i64 (cutE ro.p num n)]⟩ ∧ RosIn ρ' v' ro' ∧ ro'.p = cutP ro.p num n) ∧ L' = []) := by
 refine Spec.freeze (Post2 := fun z ρ' => ρ.le ρ' ∧ ∃ (v' : SV) (ro' : Ros), z = .tuple ⟨[.agg ⟨Yx v' ro'⟩, .int .i64 (cutE ro.p num n)]⟩ ∧ RosIn ρ' v' ro' ∧ ro'.p = cutP ro.p num n) (cutR_spec ρ v ro h num n hn) ?_
 rintro z ρ' L' _ ⟨hl1, ⟨he, rfl, rfl⟩ | ⟨he, vv, sp, os, hR, rfl, rfl⟩⟩ ρ2 hl2 hf
 ·refine ⟨Hp.le_trans hl1 hl2, YI, ⟨0, []⟩, rfl, RosIn.z, ?_⟩
  unfold cutP asksP
  exact (if_neg (show ¬ Xo (cutF n) ro.p num = 0 from he)).symm
 ·obtain ⟨v', ro', e2, e3, e4⟩ := own_frozen (next := (cutP ro.p num n).next) hR (asks_ok (fun _ => rfl) (fun t h1 h2 _ => cutG_ok h1 h2 n) he) rfl hf
  exact ⟨Hp.le_trans hl1 hl2, v', ro', by rw [e2, he], e3, e4⟩
abbrev toldV (v : SV) (ro : Ros) (n e : Int) : List Value := [.int .i64 ro.next, .slice v.a v.n v.c, .int .i64 n, .int .i64 e]
def opK (o : OpD) : Int := (IntKind.u64.wrap o.kind).tmod 7
def runP (o : OpD) (p : Yh) : Yh := if opK o = 5 then ZT p (opN o p) else if opK o = 6 then cutP p (opN o p) o.n else YD p (XO o p)
def runN (o : OpD) (p : Yh) : Int := if opK o = 5 then markK p (opN o p) else 0
def runE (o : OpD) (p : Yh) : Int := if opK o = 5 then markE p (opN o p) else if opK o = 6 then cutE p (opN o p) o.n else Xa p (XO o p)
end Go.Proofs.E
