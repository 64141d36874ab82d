/- The law RosterRooms. Part 1 of 3. -/
import Derived.Test.YtjajdpfdhokkhaaGreatR16
import Derived.ProofKit
import Derived.OpenShut
import Derived.ChangeOld
import Derived.Below
import Derived.Carry
import Derived.SizedLaws
namespace Go.Proofs.E
open Go
set_option linter.unusedVariables false
set_option linter.unusedSimpArgs false

section
variable {x : Cx} {Q : Exit → Act → World → Prop} {E : Env} {ρ : Hp} {L : SH} {ops : Array Oper} {rest tail : List Oper} {ty : TypeId} {pos : String} {af : Array Edge} {S : World → Prop} {l : List Oper} {listed : List Bool} {fuel : Nat}
end
attribute [local irreducible] Yl TL TC TE Spec YSpec R1 Hp.le EnvLe TS TR YS Stays

section
variable {x : Cx} {E : Env} {ρ : Hp} {L : SH} {ty : TypeId}
end
/-! ## steps whose proofs are found; `i..` asks which step it is, `q..` takes it, `r..` takes it in a region of any order, `s..` in a drawn head -/
section
variable {x : Cx} {Q : Exit → Act → World → Prop} {E : Env} {ρ ρ0 : Hp} {L Ls : SH} {ops : Array Oper} {rest : List Oper} {ty : TypeId} {pos : String} {af : Array Edge} {d : Nat} {v : Value} {dd : Option Nat} {gd : Nat × Bool} {op : Op} {l : List Oper} {listed : List Bool} {fuel : Nat} {tail : List Oper}
theorem rAd (n0 : Nat) {p q : Operand} {t t' : Nat} (k : TR x l (Stays x ρ0 Ls) fuel (lset listed n0) Q ((d, v) :: E) ρ L) (hb : takeB l listed n0 = true := by decide +kernel) (hi : l[n0]? = some ⟨some d, (.binOp .add t p q t'), ty, pos, af, none⟩ := by rfl) (y : ∀ ρ', ρ0.le ρ' → Yl x ((.binOp .add t p q t')) ty E ρ' Ls v := by intro _ _; first | exact y_add rfl rfl (by simp only [Go.Proofs.E.lo, Go.Proofs.E.hi]; omega) | exact y_add_w rfl rfl) (hd : Nat.blt d x.N = true := by rfl) : TR x l (Stays x ρ0 Ls) (fuel + 1) listed Q E ρ L := tr_take n0 hb hi (ys_of' (fun _ h => h) y) hd k
theorem rRm (n0 : Nat) {p q : Operand} {t t' : Nat} (k : TR x l (Stays x ρ0 Ls) fuel (lset listed n0) Q ((d, v) :: E) ρ L) (hb : takeB l listed n0 = true := by decide +kernel) (hi : l[n0]? = some ⟨some d, (.binOp .rem t p q t'), ty, pos, af, none⟩ := by rfl) (y : ∀ ρ', ρ0.le ρ' → Yl x ((.binOp .rem t p q t')) ty E ρ' Ls v := by intro _ _; first | exact y_rem rfl rfl (by omega)) (hd : Nat.blt d x.N = true := by rfl) : TR x l (Stays x ρ0 Ls) (fuel + 1) listed Q E ρ L := tr_take n0 hb hi (ys_of' (fun _ h => h) y) hd k
end
end Go.Proofs.E

namespace Go.Proofs.E
open Go Go.RowKit Go.WideShapes
set_option linter.unusedVariables false
set_option linter.unusedSimpArgs false

/-! ## from a call's world to the symbolic heap, and back -/
section
variable {H : Type} {enc : TypeId × Value → H} {P : Program} {w : World}
def RB (cs : List Value) (b : Bool) : Prop := cs = [.bool b]
theorem opn_bool {t : TypeId} (ht : P.underlying t = some .bool) : Opn enc P w t RB := fun fuel cs x h => by
  cases fuel with
  | zero => simp [DataW.trod] at h
  | succ n =>
    unfold DataW.trod at h
    rw [ht] at h
    split at h <;> simp_all [RB]
theorem opn_fields {t : TypeId} {fs : Array Field} {fuel : Nat} {cs : List Value} {x : DataW H × List MemPlace} (ht : P.underlying t = some (.struct fs)) (h : DataW.trod enc P w 0 (fun _ => true) true fuel t cs = some x) :
    cs.length = P.cellsOf t ∧ ∀ (i : Nat) (f : Field), fs[i]? = some f → ∀ {α : Type} {R : List Value → α → Prop}, Opn enc P w f.type R → ∃ a, R ((cs.drop f.offset).take (P.cellsOf f.type)) a := by
  obtain ⟨xs, n, _, _, hl, hlen, hf⟩ := DataW.trod_struct ht h
  refine ⟨hl, fun i f hi α R hR => ?_⟩
  have := hf i f hi
  have hlt : i < fs.size := (Array.getElem?_eq_some_iff.1 hi).1
  rw [List.getElem?_eq_getElem (by omega)] at this
  exact hR _ _ _ this
theorem opn_field {t : TypeId} {fs : Array Field} {fuel : Nat} {cs : List Value} {x : DataW H × List MemPlace} (h : DataW.trod enc P w 0 (fun _ => true) true fuel t cs = some x) (ht : P.underlying t = some (.struct fs)) (i o n : Nat) {f : Field} {T : TypeId}
    (hi : fs[i]? = some f) (ho : f.offset = o) (hT : f.type = T) (hn : P.cellsOf T = n) {α : Type} {R : List Value → α → Prop} (hR : Opn enc P w T R) : ∃ a, R ((cs.drop o).take n) a := by
  subst ho; subst hn; subst hT
  exact (opn_fields ht h).2 i f hi hR
end
end Go.Proofs.E

namespace Go.Proofs.E
open Go
set_option linter.unusedVariables false
set_option linter.unusedSimpArgs false
set_option linter.unusedSectionVars false
set_option maxRecDepth 4000
set_option maxHeartbeats 1000000
attribute [local irreducible] Yl TL TC TE Spec YSpec R1 Hp.le EnvLe TS TR YS Stays
theorem rowV_len (r : Row) : (rowV r).length = 4 := rfl
end Go.Proofs.E

namespace Go.Proofs.E
open Go
set_option linter.unusedVariables false
set_option linter.unusedSimpArgs false
set_option linter.unusedSectionVars false
set_option maxRecDepth 4000
set_option maxHeartbeats 1000000
attribute [local irreducible] Yl TL TC TE Spec YSpec R1 Hp.le EnvLe TS TR YS Stays
theorem kidV_len (r : Kid) : (kidV r).length = 3 := rfl
end Go.Proofs.E

namespace Go.Proofs.E
open Go
set_option linter.unusedVariables false
set_option linter.unusedSimpArgs false
set_option linter.unusedSectionVars false
set_option maxRecDepth 4000
set_option maxHeartbeats 1000000
attribute [local irreducible] Yl TL TC TE Spec YSpec R1 Hp.le EnvLe TS TR YS Stays
/-! ## records as data -/
theorem stpV_len (x : Stp) : (stpV x).length = 6 := rfl
theorem ckPV_len (x : CkP) : (ckPV x).length = 2 := rfl
end Go.Proofs.E

namespace Go.Proofs.E
open Go Go.RowKit
set_option linter.unusedVariables false
set_option linter.unusedSimpArgs false
set_option linter.unusedSectionVars false
set_option maxRecDepth 8000
/-! ## records that came in: how they are read -/
section
variable {H : Type} {enc : TypeId × Value → H} {w : World}
theorem opnS_str : OpnS enc Tryz.prog w 9 (fun cs (l : List UInt8) => cs = [strV l]) := Opn.sized (fun fuel cs x h => by
  obtain ⟨s, rfl, _, _⟩ := DataW.trod_string Tryz.underlying9 h
  obtain ⟨⟨l⟩⟩ := s
  exact ⟨l, rfl⟩)
theorem opnS_key : OpnS enc Tryz.prog w 99 (fun cs (k : Int × Nat) => cs = keyV k.1 k.2 ∧ k.2 < 65536) := Opn.sized (fun fuel cs x h => by
  obtain ⟨hl, hf⟩ := opn_fields Tryz.underlying99 h
  have hl : cs.length = 2 := by rw [hl]; kernel_rfl
  obtain ⟨c0, c1, rfl⟩ : ∃ c0 c1, cs = [c0, c1] := by
    match cs, hl with
    | [c0, c1], _ => exact ⟨c0, c1, rfl⟩
  obtain ⟨t, h0, _⟩ := opn_field h Tryz.underlying99 0 0 1 rfl rfl rfl (by kernel_rfl) (opn_int Tryz.underlying3)
  obtain ⟨i, h1, i0, i1⟩ := opn_field h Tryz.underlying99 1 1 1 rfl rfl rfl (by kernel_rfl) (opn_int Tryz.underlying97)
  simp only [List.drop_zero, List.drop_succ_cons, List.take_succ_cons, List.take_zero, List.cons.injEq, and_true] at h0 h1
  subst h0; subst h1
  simp only [lo, hi] at i0 i1
  refine ⟨(t, i.toNat), ?_, by dsimp only; omega⟩
  have : ((i.toNat : Nat) : Int) = i := by omega
  simp only [keyV, this])
theorem opnS_row : OpnS enc Tryz.prog w 101 (fun cs (r : Row) => cs = rowV r ∧ RowFit r) := fun fuel cs x h hw => by
  obtain ⟨hl, hf⟩ := opnS_fields Tryz.underlying101 h hw
  have hl : cs.length = 4 := by rw [hl]; kernel_rfl
  obtain ⟨c0, c1, c2, c3, rfl⟩ : ∃ c0 c1 c2 c3, cs = [c0, c1, c2, c3] := by
    match cs, hl with
    | [c0, c1, c2, c3], _ => exact ⟨c0, c1, c2, c3, rfl⟩
  obtain ⟨⟨t, i⟩, h0, hi0⟩ := opnS_field h hw Tryz.underlying101 0 0 2 rfl rfl rfl (by kernel_rfl) opnS_key
  obtain ⟨v, h1, v0, v1⟩ := opnS_field h hw Tryz.underlying101 1 2 1 rfl rfl rfl (by kernel_rfl) (opn_int Tryz.underlying2).sized
  obtain ⟨s, h2⟩ := opnS_field h hw Tryz.underlying101 2 3 1 rfl rfl rfl (by kernel_rfl) opnS_str
  simp only [List.drop_zero, List.drop_succ_cons, List.take_succ_cons, List.take_zero, List.cons.injEq, and_true, keyV] at h0 h1 h2
  obtain ⟨rfl, rfl⟩ := h0
  subst h1; subst h2
  simp only [lo, hi] at v0 v1
  exact ⟨⟨t, i, v, s⟩, rfl, ⟨hi0, v0, v1⟩⟩
theorem opnS_kid : OpnS enc Tryz.prog w 224 (fun cs (k : Kid) => cs = kidV k ∧ k.id < 65536) := fun fuel cs x h hw => by
  obtain ⟨hl, hf⟩ := opnS_fields Tryz.underlying224 h hw
  have hl : cs.length = 3 := by rw [hl]; kernel_rfl
  obtain ⟨c0, c1, c2, rfl⟩ : ∃ c0 c1 c2, cs = [c0, c1, c2] := by
    match cs, hl with
    | [c0, c1, c2], _ => exact ⟨c0, c1, c2, rfl⟩
  obtain ⟨⟨t, i⟩, h0, hi0⟩ := opnS_field h hw Tryz.underlying224 0 0 2 rfl rfl rfl (by kernel_rfl) opnS_key
  obtain ⟨v, h1, _⟩ := opnS_field h hw Tryz.underlying224 1 2 1 rfl rfl rfl (by kernel_rfl) (opn_int Tryz.underlying3).sized
  simp only [List.drop_zero, List.drop_succ_cons, List.take_succ_cons, List.take_zero, List.cons.injEq, and_true, keyV] at h0 h1
  obtain ⟨rfl, rfl⟩ := h0
  subst h1
  exact ⟨⟨t, i, v⟩, rfl, hi0⟩
theorem opnS_cont : OpnS enc Tryz.prog w 110 (fun cs (x : CV × Cont) => cs = contV x.2.kind x.1 ∧ CW (hpOf w) x.1 x.2) := fun fuel cs x h hw => by
  obtain ⟨hl, hf⟩ := opnS_fields Tryz.underlying110 h hw
  have hl : cs.length = 3 := by rw [hl]; kernel_rfl
  obtain ⟨c0, c1, c2, rfl⟩ : ∃ c0 c1 c2, cs = [c0, c1, c2] := by
    match cs, hl with
    | [c0, c1, c2], _ => exact ⟨c0, c1, c2, rfl⟩
  obtain ⟨k, h0, _⟩ := opnS_field h hw Tryz.underlying110 0 0 1 rfl rfl rfl (by kernel_rfl) (opn_int Tryz.underlying3).sized
  obtain ⟨⟨ra, rn, rc, rows⟩, h1, w1⟩ := opnS_field h hw Tryz.underlying110 1 1 1 rfl rfl rfl (by kernel_rfl) (opnS_slice (sz := 4) (by' := 40) Tryz.underlying107 (by kernel_rfl) (by decide) (by kernel_rfl) opnS_row)
  obtain ⟨⟨ka, kn, kc, kids⟩, h2, w2⟩ := opnS_field h hw Tryz.underlying110 2 2 1 rfl rfl rfl (by kernel_rfl) (opnS_slice (sz := 3) (by' := 24) Tryz.underlying108 (by kernel_rfl) (by decide) (by kernel_rfl) opnS_kid)
  obtain ⟨g1, g2, g3, _⟩ := aIn_ofW rowV_len h1
  obtain ⟨k1, k2, k3, _⟩ := aIn_ofW kidV_len h2
  simp only [reachBytes] at w1 w2
  replace h1 := h1.cells
  replace h2 := h2.cells
  simp only [List.drop_zero, List.drop_succ_cons, List.take_succ_cons, List.take_zero, List.cons.injEq, and_true] at h0 h1 h2
  subst h0; subst h1; subst h2
  exact ⟨(⟨ra, rn, rc, ka, kn, kc⟩, ⟨k, rows, kids⟩), rfl, ⟨g1, k1, by dsimp only; omega, by dsimp only; omega, g3, k3, g2, k2⟩⟩
theorem opnS_image : OpnS enc Tryz.prog w 128 (fun cs (x : Im) => cs = imV x ∧ (CW (hpOf w) x.bv x.b ∧ CW (hpOf w) x.av x.a)) := fun fuel cs x h hw => by
  obtain ⟨hl, hf⟩ := opnS_fields Tryz.underlying128 h hw
  have hl : cs.length = 7 := by rw [hl]; kernel_rfl
  obtain ⟨c0, c1, c2, c3, c4, c5, c6, rfl⟩ : ∃ c0 c1 c2 c3 c4 c5 c6, cs = [c0, c1, c2, c3, c4, c5, c6] := by
    match cs, hl with
    | [c0, c1, c2, c3, c4, c5, c6], _ => exact ⟨c0, c1, c2, c3, c4, c5, c6, rfl⟩
  obtain ⟨k, h0, _⟩ := opnS_field h hw Tryz.underlying128 0 0 1 rfl rfl rfl (by kernel_rfl) (opn_int Tryz.underlying3).sized
  obtain ⟨⟨bv, b⟩, h1, w1⟩ := opnS_field h hw Tryz.underlying128 1 1 3 rfl rfl rfl (by kernel_rfl) opnS_cont
  obtain ⟨⟨av, a⟩, h2, w2⟩ := opnS_field h hw Tryz.underlying128 2 4 3 rfl rfl rfl (by kernel_rfl) opnS_cont
  simp only [List.drop_zero, List.drop_succ_cons, List.take_succ_cons, List.take_zero, List.cons.injEq, and_true, contV] at h0 h1 h2
  obtain ⟨rfl, rfl, rfl⟩ := h1
  obtain ⟨rfl, rfl, rfl⟩ := h2
  subst h0
  exact ⟨⟨k, bv, b, av, a⟩, rfl, w1, w2⟩
theorem opnS_step : OpnS enc Tryz.prog w 103 (fun cs (x : Stp) => cs = stpV x ∧ RowFit x.row) := fun fuel cs x h hw => by
  obtain ⟨hl, hf⟩ := opnS_fields Tryz.underlying103 h hw
  have hl : cs.length = 6 := by rw [hl]; kernel_rfl
  obtain ⟨c0, c1, c2, c3, c4, c5, rfl⟩ : ∃ c0 c1 c2 c3 c4 c5, cs = [c0, c1, c2, c3, c4, c5] := by
    match cs, hl with
    | [c0, c1, c2, c3, c4, c5], _ => exact ⟨c0, c1, c2, c3, c4, c5, rfl⟩
  obtain ⟨k, h0, _⟩ := opnS_field h hw Tryz.underlying103 0 0 1 rfl rfl rfl (by kernel_rfl) (opn_int Tryz.underlying3).sized
  obtain ⟨r, h1, w1⟩ := opnS_field h hw Tryz.underlying103 1 1 4 rfl rfl rfl (by kernel_rfl) opnS_row
  obtain ⟨b, h2, _⟩ := opnS_field h hw Tryz.underlying103 2 5 1 rfl rfl rfl (by kernel_rfl) (opn_int Tryz.underlying2).sized
  simp only [List.drop_zero, List.drop_succ_cons, List.take_succ_cons, List.take_zero, List.cons.injEq, and_true, rowV] at h0 h1 h2
  obtain ⟨rfl, rfl, rfl, rfl⟩ := h1
  subst h0; subst h2
  exact ⟨⟨k, r, b⟩, rfl, w1⟩
theorem opnS_ckp : OpnS enc Tryz.prog w 125 (fun cs (x : CkP) => cs = ckPV x ∧ True) := fun fuel cs x h hw => by
  obtain ⟨hl, hf⟩ := opnS_fields Tryz.underlying125 h hw
  have hl : cs.length = 2 := by rw [hl]; kernel_rfl
  obtain ⟨c0, c1, rfl⟩ : ∃ c0 c1, cs = [c0, c1] := by
    match cs, hl with
    | [c0, c1], _ => exact ⟨c0, c1, rfl⟩
  obtain ⟨k, h0, _⟩ := opnS_field h hw Tryz.underlying125 0 0 1 rfl rfl rfl (by kernel_rfl) (opn_int Tryz.underlying3).sized
  obtain ⟨f, h1, f0, f1⟩ := opnS_field h hw Tryz.underlying125 1 1 1 rfl rfl rfl (by kernel_rfl) (opn_int Tryz.underlying24).sized
  simp only [List.drop_zero, List.drop_succ_cons, List.take_succ_cons, List.take_zero, List.cons.injEq, and_true] at h0 h1
  subst h0; subst h1
  refine ⟨⟨k, f.toNat⟩, ?_, trivial⟩
  simp only [ckPV, u64_back f0]
theorem opnS_rec : OpnS enc Tryz.prog w 30 (fun cs (x : RV × Rc) => cs = recV x.1 x.2 ∧ RcW (hpOf w) x.1 x.2) := fun fuel cs x h hw => by
  obtain ⟨hl, hf⟩ := opnS_fields Tryz.underlying30 h hw
  have hl : cs.length = 10 := by rw [hl]; kernel_rfl
  obtain ⟨c0, c1, c2, c3, c4, c5, c6, c7, c8, c9, rfl⟩ : ∃ c0 c1 c2 c3 c4 c5 c6 c7 c8 c9, cs = [c0, c1, c2, c3, c4, c5, c6, c7, c8, c9] := by
    match cs, hl with
    | [c0, c1, c2, c3, c4, c5, c6, c7, c8, c9], _ => exact ⟨c0, c1, c2, c3, c4, c5, c6, c7, c8, c9, rfl⟩
  obtain ⟨k, h0, _⟩ := opnS_field h hw Tryz.underlying30 0 0 1 rfl rfl rfl (by kernel_rfl) (opn_int Tryz.underlying3).sized
  obtain ⟨l, h1, l0, _⟩ := opnS_field h hw Tryz.underlying30 1 1 1 rfl rfl rfl (by kernel_rfl) (opn_int Tryz.underlying24).sized
  obtain ⟨t, h2, _⟩ := opnS_field h hw Tryz.underlying30 2 2 1 rfl rfl rfl (by kernel_rfl) (opn_int Tryz.underlying3).sized
  obtain ⟨p, h3, p0, _⟩ := opnS_field h hw Tryz.underlying30 3 3 1 rfl rfl rfl (by kernel_rfl) (opn_int Tryz.underlying24).sized
  obtain ⟨n, h4, n0, _⟩ := opnS_field h hw Tryz.underlying30 4 4 1 rfl rfl rfl (by kernel_rfl) (opn_int Tryz.underlying24).sized
  obtain ⟨⟨ia, inn, ic, ims⟩, h5, w5⟩ := opnS_field h hw Tryz.underlying30 5 5 1 rfl rfl rfl (by kernel_rfl) (opnS_slice (sz := 7) (by' := 120) Tryz.underlying25 (by kernel_rfl) (by decide) (by kernel_rfl) opnS_image)
  obtain ⟨⟨sa, sn, sc, steps⟩, h6, w6⟩ := opnS_field h hw Tryz.underlying30 6 6 1 rfl rfl rfl (by kernel_rfl) (opnS_slice (sz := 6) (by' := 56) Tryz.underlying26 (by kernel_rfl) (by decide) (by kernel_rfl) opnS_step)
  obtain ⟨x7, h7, _⟩ := opnS_field h hw Tryz.underlying30 7 7 1 rfl rfl rfl (by kernel_rfl) (opn_int Tryz.underlying3).sized
  obtain ⟨⟨ta, tn, tc, txns⟩, h8, w8⟩ := opnS_field h hw Tryz.underlying30 8 8 1 rfl rfl rfl (by kernel_rfl) (opnS_slice (sz := 5) (by' := 40) Tryz.underlying27 (by kernel_rfl) (by decide) (by kernel_rfl) opnS_ckt)
  obtain ⟨⟨da, dn, dc, dirty⟩, h9, w9⟩ := opnS_field h hw Tryz.underlying30 9 9 1 rfl rfl rfl (by kernel_rfl) (opnS_slice (sz := 2) (by' := 16) Tryz.underlying28 (by kernel_rfl) (by decide) (by kernel_rfl) opnS_ckp)
  obtain ⟨i1, i2, i3, _⟩ := aIn_ofW imV_len h5
  obtain ⟨s1, s2, s3, _⟩ := aIn_ofW stpV_len h6
  obtain ⟨t1, t2, t3, _⟩ := aIn_ofW ckTV_len h8
  obtain ⟨d1, d2, d3, _⟩ := aIn_ofW ckPV_len h9
  simp only [reachBytes] at w5 w6 w8 w9
  replace h5 := h5.cells
  replace h6 := h6.cells
  replace h8 := h8.cells
  replace h9 := h9.cells
  simp only [List.drop_zero, List.drop_succ_cons, List.take_succ_cons, List.take_zero, List.cons.injEq, and_true] at h0 h1 h2 h3 h4 h5 h6 h7 h8 h9
  subst h0; subst h1; subst h2; subst h3; subst h4; subst h5; subst h6; subst h7; subst h8; subst h9
  refine ⟨(⟨⟨ia, inn, ic⟩, ⟨sa, sn, sc⟩, ⟨ta, tn, tc⟩, ⟨da, dn, dc⟩⟩, ⟨k, l.toNat, t, p.toNat, n.toNat, ims, steps, x7, txns, dirty⟩), ?_, ⟨⟨i1, by dsimp only; omega, i3⟩, i2, ⟨s1, by dsimp only; omega, s3⟩, ⟨t1, by dsimp only; omega, t3⟩, ⟨d1, by dsimp only; omega, d3⟩, s2⟩⟩
  simp only [recV, u64_back l0, u64_back p0, u64_back n0]
end
end Go.Proofs.E

namespace Go.Proofs.E
open Go
set_option linter.unusedVariables false
set_option linter.unusedSimpArgs false
set_option linter.unusedSectionVars false
set_option maxRecDepth 4000
set_option maxHeartbeats 1000000
attribute [local irreducible] Yl TL TC TE Spec YSpec R1 Hp.le EnvLe TS TR YS Stays
structure CkTF (t : CkT) : Prop where
  txn : 0 ≤ t.txn ∧ t.txn < 4294967296
  first : t.first < 18446744073709551616
  last : t.last < 18446744073709551616
  undo : t.undo < 18446744073709551616
  state : 0 ≤ t.state ∧ t.state < 256
structure CkPF (p : CkP) : Prop where
  page : 0 ≤ p.page ∧ p.page < 256
  since : p.since < 18446744073709551616
end Go.Proofs.E

namespace Go.Proofs.E
open Go
set_option linter.unusedVariables false
set_option linter.unusedSimpArgs false
set_option linter.unusedSectionVars false
set_option maxRecDepth 4000
set_option maxHeartbeats 1000000
attribute [local irreducible] Yl TL TC TE Spec YSpec R1 Hp.le EnvLe TS TR YS Stays
/-! ## a record and its bytes -/
theorem ckT_facts {lsn : Nat} {next : Int} {t : CkT} (h : ckTOk lsn next t = true) (hl : lsn ≤ 1099511627776) (hn : next ≤ 1073741824) : CkTF t := by
  unfold ckTOk at h
  rw [decide_eq_true_eq] at h
  obtain ⟨a1, a2, a3, a4, a5, a6, a7, a8⟩ := h
  exact ⟨by omega, by omega, by omega, by omega, by omega⟩
theorem ckP_facts {lsn : Nat} {p : CkP} (h : ckPOk lsn p = true) (hl : lsn ≤ 1099511627776) : CkPF p ∧ p.page < 64 := by
  unfold ckPOk pageOk at h
  rw [Bool.and_eq_true, decide_eq_true_eq, decide_eq_true_eq] at h
  obtain ⟨⟨a1, a2⟩, a3, a4⟩ := h
  exact ⟨⟨by omega, by omega⟩, by omega⟩
theorem recOk_lay {r : Rc} (h : recOk r = true) : LayOk r := by
  have f := recOk_facts h
  have l1 := f.lsn
  have l2 := f.next
  have l3 := f.txn
  have l4 := f.nt
  have l5 := f.kind
  exact ⟨by omega, by omega, by omega, by omega, by omega, by omega, f.il, f.im, f.sl, f.st, f.tl, fun t ht => by
      have g := ckT_facts (f.tx t ht) l1.2.1 l4.2
      exact ⟨g.txn, g.first, g.last, g.undo, g.state.1, g.state.2⟩, f.dl, fun p hp => by
      obtain ⟨g, g2⟩ := ckP_facts (f.di p hp) l1.2.1
      exact ⟨⟨g.page.1, g2⟩, g.since⟩⟩
end Go.Proofs.E

namespace Go.Proofs.E
open Go
set_option linter.unusedVariables false
set_option linter.unusedSimpArgs false
set_option linter.unusedSectionVars false
set_option maxRecDepth 4000
set_option maxHeartbeats 1000000
attribute [local irreducible] Yl TL TC TE Spec YSpec R1 Hp.le EnvLe TS TR YS Stays
-- BN
def costN (r : Rc) : Nat := if recOk r then sectsB (recB r).length else 0
theorem rcost_spec (ρ : Hp) (v : RV) (r : Rc) (h : RcIn ρ v r) : Spec Tryz.prog 46 [.agg ⟨recV v r⟩] ρ []
    (fun z ρ' L' => ρ.le ρ' ∧ z = .tuple ⟨[.int .i64 (costN r : Nat), .int .i64 (errN r)]⟩ ∧ L' = []) := by
  have hck := rcheck_spec ρ v r h
  unfold costN errN
  refine spec_enter Tryz.func46 rfl rfl rfl fun u R => ?_
  simp only [argsE, List.cons_append, List.nil_append]
  cases hok : recOk r
  · rw [hok] at hck
    repeat' (first | (refine tl_is (.func 27) ?_; refine qC rfl rfl (hck) ?_; rintro v ρ' L' hle ⟨rfl, rfl, rfl⟩ <;> (try simp only [kM, kN, kO, if_false, Bool.false_eq_true])) | (refine iBu ?_; refine tl_y (y_buildN rfl) rfl rfl ?_) | (refine i_op ?_; first | (refine i_qq ?_; refine qQ ?_) | refine qEf ?_) | refine tl_nil ?_ | (refine i_tc ?_; refine qTc ?_) | (refine i_te ?_; refine qTe ?_) | intro _)
    exact qE ⟨Hp.le_refl _, rfl, rfl⟩
  · rw [hok] at hck
    have hla := rlaid_spec ρ v r h (recOk_lay hok)
    have hb := recB_le (recOk_lay hok)
    repeat' (first | (refine tl_is (.func 27) ?_; refine qC rfl rfl (hck) ?_; rintro v ρ' L' hle ⟨rfl, rfl, rfl⟩ <;> (try simp only [kM, kN, kO, if_true])) | (refine tl_is (.func 112) ?_; refine qC rfl rfl (hla) ?_; rintro v ρ' L' hle ⟨hle1, a, c, rfl, hc, hs, rfl⟩ <;> (try simp only [kM, kN, kO])) | (refine tl_is (.func 127) ?_; refine qC rfl rfl (rsects_spec _ _ (by omega)) ?_; rintro v ρ' L' hle ⟨rfl, rfl, rfl⟩ <;> (try simp only [kM, kN, kO])) | (refine iBu ?_; refine tl_y (y_buildN rfl) rfl rfl ?_) | (refine i_op ?_; first | (refine i_qq ?_; refine qQ ?_) | refine qEf ?_) | refine tl_nil ?_ | (refine i_tc ?_; refine qTc ?_) | (refine i_te ?_; refine qTe ?_) | intro _)
    exact qE ⟨hle1, rfl, rfl⟩
end Go.Proofs.E

namespace Go.Proofs.E
open Go
set_option linter.unusedVariables false
set_option linter.unusedSimpArgs false
set_option linter.unusedSectionVars false
set_option maxRecDepth 4000
set_option maxHeartbeats 1000000
attribute [local irreducible] Yl TL TC TE Spec YSpec R1 Hp.le EnvLe TS TR YS Stays
-- BN
/-! ## what is done, as data -/
theorem over18_spec (ρ : Hp) (v : RV) (r : Rc) (h : RcW ρ v r) : Spec Tryz.prog 37 [.agg ⟨recV v r⟩] ρ [] (fun z ρ' L' => z = .bool (overB r) ∧ ρ' = ρ ∧ L' = []) := by
  have li := h.i.at'.len
  have ls := h.s.at'.len
  have lt := h.t.at'.len
  have ld := h.d.at'.len
  unfold overB
  refine spec_enter Tryz.func37 rfl rfl rfl fun u R => ?_
  simp only [argsE, List.cons_append, List.nil_append]
  by_cases hb : 17 < r.ims.length ∨ 3 < r.steps.length ∨ 9 < r.txns.length ∨ 65 < r.dirty.length
  · rw [decide_eq_true hb, Bool.true_or]
    repeat' (first | (refine iBu ?_; refine tl_y (y_buildN rfl) rfl rfl ?_) | (refine i_op ?_; first | (refine i_qq ?_; refine qQ ?_) | refine qEf ?_) | refine tl_nil ?_ | (refine i_tc ?_; refine qTc ?_) | (refine i_te ?_; refine qTe ?_) | (refine i_gd ?_; refine tl_guard rfl rfl (fun hb => ?_) (fun hb => ?_) <;> (try simp only [decide_eq_true_eq, decide_eq_false_iff_not, Bool.not_eq_true, Bool.not_eq_false, beq_iff_eq, bne_iff_ne, ne_eq, decide_eq_decide, Bool.not_eq_eq_eq_not, Bool.not_true, Bool.not_false, beq_eq_false_iff_ne, bne_eq_false_iff_eq, Bool.and_eq_true, Bool.or_eq_true, Bool.and_eq_false_imp, Bool.or_eq_false_iff, bq2, bqt, bqf] at hb)) | (refine i_cond ?_; refine tc_cond rfl (fun hb => ?_) (fun hb => ?_) <;> (try simp only [decide_eq_true_eq, decide_eq_false_iff_not, Bool.not_eq_true, Bool.not_eq_false, beq_iff_eq, bne_iff_ne, ne_eq, decide_eq_decide, Bool.not_eq_eq_eq_not, Bool.not_true, Bool.not_false, beq_eq_false_iff_ne, bne_eq_false_iff_eq, Bool.and_eq_true, Bool.or_eq_true, Bool.and_eq_false_imp, Bool.or_eq_false_iff, bq2, bqt, bqf] at hb)) | intro _)
    all_goals first | exact qE (L' := []) ⟨rfl, rfl, rfl⟩ | (exfalso; omega)
  · rw [decide_eq_false hb, Bool.false_or]
    have hA := h.i.at'
    generalize hq : r.ims.any (fun x => decide (30 < imN x)) = q
    repeat' (first | (refine iBu ?_; refine tl_y (y_buildN rfl) rfl rfl ?_) | (refine i_op ?_; first | (refine i_qq ?_; refine qQ ?_) | refine qEf ?_) | refine tl_nil ?_ | (refine i_tc ?_; refine qTc ?_) | (refine i_te ?_; refine qTe ?_) | intro _)
    refine tc_loop_g [(28, _), (29, _)] (fun (ζ : (Nat)) => [(30, .int .i64 ζ), (2, .bool false)]) (fun (ζ : (Nat)) => ρ) (fun (ζ : (Nat)) => []) (fun (ζ : (Nat)) => ζ ≤ v.i.n ∧ (r.ims.drop ζ).any (fun x => decide (30 < imN x)) = q) (fun (ζ : (Nat)) => v.i.n - ζ) (0) (⟨Nat.zero_le _, hq⟩) ev_le ev_le rfl tk ?_
    rintro k hI
    try simp only [List.cons_append, List.nil_append, List.append_assoc, List.append_eq] at hI ⊢
    try dsimp only at hI ⊢
    obtain ⟨hk, hok⟩ := hI
    by_cases hlt : k < v.i.n
    · obtain ⟨b, off, C, T, fr, e1, hb1, hfit, hc⟩ := hA.get (show k < r.ims.length by omega)
      have hmem := List.getElem_mem (show k < r.ims.length by omega)
      rw [List.drop_eq_getElem_cons (show k < r.ims.length by omega), List.any_cons] at hok
      generalize r.ims[k]'(by omega) = x at *
      obtain ⟨hxb, hxa⟩ := h.im x hmem
      have f1 := hxb.r.len
      have f2 := hxb.k.len
      have f3 := hxa.r.len
      have f4 := hxa.k.len
      have g1 := hxb.rb
      have g2 := hxb.kb
      have g3 := hxa.rb
      have g4 := hxa.kb
      rw [e1]
      by_cases hx : 30 < imN x
      · rw [decide_eq_true hx, Bool.true_or] at hok
        subst hok
        unfold imN at hx
        repeat' (first | (refine iBu ?_; refine tl_y (y_buildN rfl) rfl rfl ?_) | (refine i_op ?_; first | (refine i_qq ?_; refine qQ ?_) | refine qEf ?_) | refine tl_nil ?_ | (refine i_tc ?_; refine qTc ?_) | (refine i_te ?_; refine qTe ?_) | intro _)
        exact qE (L' := []) ⟨rfl, rfl, rfl⟩
      · rw [decide_eq_false hx, Bool.false_or] at hok
        unfold imN at hx
        repeat' (first | (refine iBu ?_; refine tl_y (y_buildN rfl) rfl rfl ?_) | (refine i_op ?_; first | (refine i_qq ?_; refine qQ ?_) | refine qEf ?_) | refine tl_nil ?_ | (refine i_tc ?_; refine qTc ?_) | (refine i_te ?_; refine qTe ?_) | intro _)
        rw [← e1]
        refine te_round_g (k + 1) (⟨hlt, hok⟩) ev_le ev_le rfl tk inferInstance (by first | omega | (dsimp only; omega))
    · have hk2 : k = r.ims.length := by omega
      rw [hk2, List.drop_length, List.any_nil] at hok
      subst hok
      repeat' (first | (refine iBu ?_; refine tl_y (y_buildN rfl) rfl rfl ?_) | (refine i_op ?_; first | (refine i_qq ?_; refine qQ ?_) | refine qEf ?_) | refine tl_nil ?_ | (refine i_tc ?_; refine qTc ?_) | (refine i_te ?_; refine qTe ?_) | intro _)
      exact qE (L' := []) ⟨rfl, rfl, rfl⟩

structure OpD where
  kind : Int
  num : Int
  n : Int
  at' : Int
  near : Bool
  rv : RV
  rc : Rc
abbrev opV (o : OpD) : List Value := [.int .i64 o.kind, .int .i64 o.num, .int .i64 o.n, .int .i64 o.at', .bool o.near, .int .i64 o.rc.kind, .int .u64 o.rc.lsn, .int .i64 o.rc.txn, .int .u64 o.rc.prev, .int .u64 o.rc.next, .slice o.rv.i.a o.rv.i.n o.rv.i.c, .slice o.rv.s.a o.rv.s.n o.rv.s.c, .int .i64 o.rc.nextTxn, .slice o.rv.t.a o.rv.t.n o.rv.t.c, .slice o.rv.d.a o.rv.d.n o.rv.d.c]
def idxU (a : Int) (n : Nat) : Nat := ((IntKind.u64.wrap a).tmod (n : Int)).toNat
theorem idxU_lt (a : Int) {n : Nat} (h : 0 < n) : idxU a n < n ∧ 0 ≤ (IntKind.u64.wrap a).tmod (n : Int) ∧ (IntKind.u64.wrap a).tmod (n : Int) < (n : Int) := by
  have h1 : 0 ≤ IntKind.u64.wrap a := by
    have h : IntKind.u64.wrap a = a % 18446744073709551616 := rfl
    omega
  have h2 : (IntKind.u64.wrap a).tmod (n : Int) = (IntKind.u64.wrap a) % (n : Int) := Int.tmod_eq_emod_of_nonneg h1
  have h3 := Int.emod_nonneg (IntKind.u64.wrap a) (show (n : Int) ≠ 0 by omega)
  have h4 := Int.emod_lt_of_pos (IntKind.u64.wrap a) (show (0 : Int) < (n : Int) by omega)
  unfold idxU
  omega
def zP : TxP := ⟨0, 0, 0, 0, 0, [], []⟩
def nthT (p : RosP) (a : Int) : TxP := p.txns.getD (idxU a p.txns.length) zP
def opN (o : OpD) (p : RosP) : Int := if 0 < p.txns.length ∧ o.near = true then (nthT p o.at').num else o.num
theorem nth_cell {ρ : Hp} {v : SV} {ro : Ros} (h : RosIn ρ v ro) (a : Int) (h0 : 0 < v.n) : ∃ b off C T fr x, v.a = some ⟨b, off, none⟩ ∧ ρ b = some (.cells ⟨C⟩ T fr) ∧ off + ((IntKind.u64.wrap a).tmod (v.n : Int)).toNat * 7 + 7 ≤ C.length ∧ (C.drop (off + ((IntKind.u64.wrap a).tmod (v.n : Int)).toNat * 7)).take 7 = txV x ∧ Tx.In ρ x ∧ x.p = nthT ro.p a ∧ nthT ro.p a ∈ ro.p.txns := by
  have hl := h.at'.at'.len
  have hi := (idxU_lt a h0).1
  obtain ⟨b, off, C, T, fr, e1, hb, hfit, hc⟩ := h.at'.at'.get (show idxU a v.n < ro.txns.length by omega)
  have hpl : ro.p.txns.length = v.n := by simp [Ros.p, hl]
  have hn : nthT ro.p a = (ro.txns[idxU a v.n]'(by omega)).p := by
    unfold nthT
    rw [hpl, getD_get (by omega)]
    simp [Ros.p]
  refine ⟨b, off, C, T, fr, _, e1, hb, hfit, hc, h.tx _ (List.getElem_mem (show idxU a v.n < ro.txns.length by omega)), hn.symm, ?_⟩
  rw [hn]
  exact List.mem_map.2 ⟨_, List.getElem_mem _, rfl⟩
theorem cell_at {C : List Value} {i sz : Nat} {l : List Value} (h : (C.drop i).take sz = l) {d : Nat} {v : Value} (hd : l[d]? = some v) : C[i + d]? = some v := by
  have h1 : d < sz := by
    have := (List.getElem?_eq_some_iff.1 hd).1
    rw [← h, List.length_take] at this
    omega
  rw [← h, List.getElem?_take_of_lt h1, List.getElem?_drop] at hd
  exact hd
theorem onum_spec (ρ : Hp) (o : OpD) (v : SV) (ro : Ros) (h : RosIn ρ v ro) : Spec Tryz.prog 117 [.agg ⟨opV o⟩, .agg ⟨rosV v ro⟩] ρ [] (fun z ρ' L' => z = .int .i64 (opN o ro.p) ∧ ρ' = ρ ∧ L' = []) := by
  have hl := h.at'.at'.len
  have hbig := h.at'.big
  have hpl : ro.p.txns.length = v.n := by simp [Ros.p, hl]
  unfold opN
  rw [hpl]
  obtain ⟨kd, num, n, a', near, rv, rc⟩ := o
  dsimp only
  refine spec_enter Tryz.func117 rfl rfl rfl fun u R => ?_
  simp only [argsE, List.cons_append, List.nil_append]
  by_cases h0 : 0 < v.n
  · cases near
    · rw [if_neg (by simp)]
      repeat' (first | (refine iBu ?_; refine tl_y (y_buildN rfl) rfl rfl ?_) | (refine i_op ?_; first | (refine i_qq ?_; refine qQ ?_) | refine qEf ?_) | refine tl_nil ?_ | (refine i_tc ?_; refine qTc ?_) | (refine i_te ?_; refine qTe ?_) | intro _)
      exact qE (L' := []) ⟨rfl, rfl, rfl⟩
    · rw [if_pos ⟨h0, rfl⟩]
      obtain ⟨b, off, C, T, fr, x, e1, hb, hfit, hc, hx, hp, hm⟩ := nth_cell h a' h0
      have hnm : (nthT ro.p a').num = x.num := by rw [← hp]
      obtain ⟨_, hk0, hk1⟩ := idxU_lt a' h0
      have hcell : C[off + ((IntKind.u64.wrap a').tmod (v.n : Int)).toNat * 7 + 0]? = some (.int .i64 x.num) := cell_at hc rfl
      rw [hnm]
      simp only [rosV]
      rw [e1]
      repeat' (first | (refine iBu ?_; refine tl_y (y_buildN rfl) rfl rfl ?_) | (refine i_op ?_; first | (refine i_qq ?_; refine qQ ?_) | refine qEf ?_) | refine tl_nil ?_ | (refine i_tc ?_; refine qTc ?_) | (refine i_te ?_; refine qTe ?_) | intro _)
      refine tc_any (Stays _ _ _) stays_refl ?_
      all_goals refine rFa 0 ?_
      all_goals refine rFull ?_
      all_goals refine rLd 1 ?_
      all_goals refine rFa 2 ?_
      all_goals refine rLd 3 ?_
      all_goals refine rCv 4 ?_
      all_goals refine rMv 5 ?_
      all_goals refine rCv 6 ?_
      all_goals refine rRm 7 ?_
      all_goals refine rIa 8 ?_
      all_goals refine rFa 9 ?_
      all_goals refine rLd 10 ?_
      all_goals refine rAs 11 ?_
      all_goals refine rDone ?_
      all_goals (repeat' (first | (refine iBu ?_; refine tl_y (y_buildN rfl) rfl rfl ?_) | (refine i_op ?_; first | (refine i_qq ?_; refine qQ ?_) | refine qEf ?_) | refine tl_nil ?_ | (refine i_tc ?_; refine qTc ?_) | (refine i_te ?_; refine qTe ?_) | intro _))
      all_goals exact qE (L' := []) ⟨rfl, rfl, rfl⟩
  · rw [if_neg (fun e => h0 e.1)]
    repeat' (first | (refine iBu ?_; refine tl_y (y_buildN rfl) rfl rfl ?_) | (refine i_op ?_; first | (refine i_qq ?_; refine qQ ?_) | refine qEf ?_) | refine tl_nil ?_ | (refine i_tc ?_; refine qTc ?_) | (refine i_te ?_; refine qTe ?_) | intro _)
    exact qE (L' := []) ⟨rfl, rfl, rfl⟩
def lastF : Nat → List TxP → Nat
  | n, [] => n
  | n, t :: r => lastF (max n t.last) r
theorem lastF_le : ∀ {l : List TxP} {n m : Nat}, n ≤ m → (∀ t ∈ l, t.last ≤ m) → lastF n l ≤ m
  | [], _, _, h, _ => h
  | t :: r, n, m, h, h2 => by
    rw [lastF]
    have := h2 t (by simp)
    exact lastF_le (by omega) (fun x hx => h2 x (by simp [hx]))
def lastP (p : RosP) : Nat := lastF 0 p.txns
theorem last18_spec (ρ : Hp) (v : SV) (ro : Ros) (h : RosIn ρ v ro) : Spec Tryz.prog 59 [.agg ⟨rosV v ro⟩] ρ [] (fun z ρ' L' => z = .int .u64 (lastP ro.p : Nat) ∧ ρ' = ρ ∧ L' = []) := by
  have hl := h.at'.at'.len
  have hA := h.at'.at'
  have hbig := h.at'.big
  refine spec_enter Tryz.func59 rfl rfl rfl fun u R => ?_
  simp only [argsE, List.cons_append, List.nil_append]
  unfold lastP
  generalize hq : lastF 0 ro.p.txns = q
  repeat' (first | (refine iBu ?_; refine tl_y (y_buildN rfl) rfl rfl ?_) | (refine i_op ?_; first | (refine i_qq ?_; refine qQ ?_) | refine qEf ?_) | refine tl_nil ?_ | (refine i_tc ?_; refine qTc ?_) | (refine i_te ?_; refine qTe ?_) | intro _)
  refine tc_loop_g [(2, _), (7, _), (8, _)] (fun (ζ : (Nat) × (Nat)) => [(9, .int .i64 ζ.1), (3, .int .u64 ζ.2)]) (fun (ζ : (Nat) × (Nat)) => ρ) (fun (ζ : (Nat) × (Nat)) => []) (fun (ζ : (Nat) × (Nat)) => ζ.1 ≤ v.n ∧ lastF ζ.2 (ro.p.txns.drop ζ.1) = q) (fun (ζ : (Nat) × (Nat)) => v.n - ζ.1) ((0, 0)) (⟨Nat.zero_le _, hq⟩) ev_le ev_le rfl tk ?_
  rintro ⟨k, n⟩ hI
  try simp only [List.cons_append, List.nil_append, List.append_assoc, List.append_eq] at hI ⊢
  try dsimp only at hI ⊢
  obtain ⟨hk, hI⟩ := hI
  by_cases hlt : k < v.n
  · obtain ⟨b, off, C, T, fr, e1, hb, hfit, hc⟩ := hA.get (show k < ro.txns.length by omega)
    have hd : ro.p.txns.drop k = (ro.txns[k]'(by omega)).p :: ro.p.txns.drop (k + 1) := by
      rw [List.drop_eq_getElem_cons (show k < ro.p.txns.length by simp [Ros.p]; omega)]
      simp [Ros.p]
    rw [hd, lastF] at hI
    generalize ro.txns[k]'(by omega) = x at *
    have hmx : max (n : Int) (x.last : Int) = ((max n x.last : Nat) : Int) := by omega
    rw [e1]
    repeat' (first | (refine iBu ?_; refine tl_y (y_buildN rfl) rfl rfl ?_) | (refine i_op ?_; first | (refine i_qq ?_; refine qQ ?_) | refine qEf ?_) | refine tl_nil ?_ | (refine i_tc ?_; refine qTc ?_) | (refine i_te ?_; refine qTe ?_) | intro _)
    try simp only [hmx]
    rw [← e1]
    refine te_round_g (k + 1, max n x.last) (⟨hlt, hI⟩) ev_le ev_le rfl tk inferInstance (by first | omega | (dsimp only; omega))
  · rw [List.drop_of_length_le (by simp [Ros.p]; omega), lastF] at hI
    subst hI
    repeat' (first | (refine iBu ?_; refine tl_y (y_buildN rfl) rfl rfl ?_) | (refine i_op ?_; first | (refine i_qq ?_; refine qQ ?_) | refine qEf ?_) | refine tl_nil ?_ | (refine i_tc ?_; refine qTc ?_) | (refine i_te ?_; refine qTe ?_) | intro _)
    exact qE (L' := []) ⟨rfl, rfl, rfl⟩
end Go.Proofs.E

namespace Go.Proofs.E
open Go
set_option linter.unusedVariables false
set_option linter.unusedSimpArgs false
set_option linter.unusedSectionVars false
set_option maxRecDepth 4000
set_option maxHeartbeats 1000000
attribute [local irreducible] Yl TL TC TE Spec YSpec R1 Hp.le EnvLe TS TR YS Stays
-- BN
def nextO (o : OpD) (t : TxP) : Nat := if t.stack.length = 0 then t.first else (t.stack.getD (idxU o.n t.stack.length) ⟨0, 0⟩).lsn
def nextU (o : OpD) (t : TxP) : Nat := if t.undo ≤ nextO o t ∧ o.rc.kind = 5 then t.first else nextO o t
def recOf (o : OpD) (p : RosP) : Rc :=
  if o.near = true then
    (if o.rc.kind = 1 then { o.rc with lsn := lastP p + 1, txn := p.next }
     else if p.txns.length = 0 ∨ o.rc.kind = 9 then { o.rc with lsn := lastP p + 1 }
     else if o.rc.kind = 3 ∨ o.rc.kind = 4 ∨ o.rc.kind = 5 then { o.rc with lsn := lastP p + 1, txn := (nthT p o.at').num, prev := (nthT p o.at').last, next := nextU o (nthT p o.at') }
     else { o.rc with lsn := lastP p + 1, txn := (nthT p o.at').num, prev := (nthT p o.at').last })
  else o.rc
theorem recOf_in {ρ : Hp} {o : OpD} {p : RosP} (h : RcIn ρ o.rv o.rc) : RcIn ρ o.rv (recOf o p) := by
  unfold recOf
  split
  · split
    · exact ⟨h.i, h.im, h.s, h.t, h.d, h.sf⟩
    · split
      · exact ⟨h.i, h.im, h.s, h.t, h.d, h.sf⟩
      · split
        · exact ⟨h.i, h.im, h.s, h.t, h.d, h.sf⟩
        · exact ⟨h.i, h.im, h.s, h.t, h.d, h.sf⟩
  · exact h
theorem orec_A (ρ : Hp) (o : OpD) (v : SV) (ro : Ros) (h : RosIn ρ v ro) (hL : lastP ro.p ≤ 1099511627776) (hC : ¬ (o.rc.kind = 3 ∨ o.rc.kind = 4 ∨ o.rc.kind = 5) ∨ (nthT ro.p o.at').stack.length = 0) : Spec Tryz.prog 45 [.agg ⟨opV o⟩, .agg ⟨rosV v ro⟩] ρ [] (fun z ρ' L' => z = .agg ⟨recV o.rv (recOf o ro.p)⟩ ∧ ρ' = ρ ∧ L' = []) := by
  have hl := h.at'.at'.len
  have hbig := h.at'.big
  have hpl : ro.p.txns.length = v.n := by simp [Ros.p, hl]
  have hla := last18_spec ρ v ro h
  have hnx : ro.p.next = ro.next := rfl
  unfold recOf nextU nextO
  rw [hpl, hnx]
  obtain ⟨kd, num, n, a', near, rv, rc⟩ := o
  dsimp only at *
  generalize lastP ro.p = lp at *
  refine spec_enter Tryz.func45 rfl rfl rfl fun u R => ?_
  simp only [argsE, List.cons_append, List.nil_append]
  cases near
  · rw [if_neg (by simp)]
    repeat' (first | (refine iBu ?_; refine tl_y (y_buildN rfl) rfl rfl ?_) | (refine i_op ?_; first | (refine i_qq ?_; refine qQ ?_) | refine qEf ?_) | refine tl_nil ?_ | (refine i_tc ?_; refine qTc ?_) | (refine i_te ?_; refine qTe ?_) | intro _)
    exact qE (L' := []) ⟨rfl, rfl, rfl⟩
  rw [if_pos rfl]
  by_cases k1 : rc.kind = 1
  · simp only [if_pos k1]
    repeat' (first | (refine tl_is (.func 59) ?_; refine qC rfl rfl (hla) ?_; rintro v ρ' L' hle ⟨rfl, rfl, rfl⟩ <;> (try simp only [kM, kN, kO])) | (refine iBu ?_; refine tl_y (y_buildN rfl) rfl rfl ?_) | (refine i_op ?_; first | (refine i_qq ?_; refine qQ ?_) | refine qEf ?_) | refine tl_nil ?_ | (refine i_tc ?_; refine qTc ?_) | (refine i_te ?_; refine qTe ?_) | intro _)
    exact qE (L' := []) ⟨rfl, rfl, rfl⟩
  simp only [if_neg k1]
  by_cases h0 : v.n = 0
  · rw [if_pos (.inl h0)]
    repeat' (first | (refine tl_is (.func 59) ?_; refine qC rfl rfl (hla) ?_; rintro v ρ' L' hle ⟨rfl, rfl, rfl⟩ <;> (try simp only [kM, kN, kO])) | (refine iBu ?_; refine tl_y (y_buildN rfl) rfl rfl ?_) | (refine i_op ?_; first | (refine i_qq ?_; refine qQ ?_) | refine qEf ?_) | refine tl_nil ?_ | (refine i_tc ?_; refine qTc ?_) | (refine i_te ?_; refine qTe ?_) | intro _)
    exact qE (L' := []) ⟨rfl, rfl, rfl⟩
  by_cases k9 : rc.kind = 9
  · rw [if_pos (.inr k9)]
    repeat' (first | (refine tl_is (.func 59) ?_; refine qC rfl rfl (hla) ?_; rintro v ρ' L' hle ⟨rfl, rfl, rfl⟩ <;> (try simp only [kM, kN, kO])) | (refine iBu ?_; refine tl_y (y_buildN rfl) rfl rfl ?_) | (refine i_op ?_; first | (refine i_qq ?_; refine qQ ?_) | refine qEf ?_) | refine tl_nil ?_ | (refine i_tc ?_; refine qTc ?_) | (refine i_te ?_; refine qTe ?_) | intro _)
    exact qE (L' := []) ⟨rfl, rfl, rfl⟩
  rw [if_neg (show ¬ (v.n = 0 ∨ rc.kind = 9) by omega)]
  obtain ⟨b, off, C, T, fr, x, e1, hb, hfit, hc, hx, hp, hm⟩ := nth_cell h a' (show 0 < v.n by omega)
  obtain ⟨_, hk0, hk1⟩ := idxU_lt a' (show 0 < v.n by omega)
  rw [← hp] at hC ⊢
  clear hp hm
  have hsl := hx.s.len
  have hsb := hx.sb
  simp only [Tx.p] at hC ⊢
  rw [hsl] at hC ⊢
  have hrv : rosV v ro = [.int .i64 ro.next, .slice (some ⟨b, off, none⟩) v.n v.c] := by rw [← e1]
  rw [hrv] at hla ⊢
  by_cases k345 : rc.kind = 3 ∨ rc.kind = 4 ∨ rc.kind = 5
  · rw [if_pos k345]
    have hs0 : x.sv.n = 0 := by omega
    simp only [if_pos hs0]
    by_cases hh : x.undo ≤ x.first ∧ rc.kind = 5
    case' pos => rw [if_pos hh]
    case' neg => rw [if_neg hh]
    all_goals rcases k345 with k5 | k5 | k5 <;> by_cases hu : x.undo ≤ x.first <;> try (exfalso; omega)
    all_goals
      repeat' (first | (refine tl_is (.func 59) ?_; refine qC rfl rfl (hla) ?_; rintro v ρ' L' hle ⟨rfl, rfl, rfl⟩ <;> (try simp only [kM, kN, kO])) | (refine iBu ?_; refine tl_y (y_buildN rfl) rfl rfl ?_) | (refine i_op ?_; first | (refine i_qq ?_; refine qQ ?_) | refine qEf ?_) | refine tl_nil ?_ | (refine i_tc ?_; refine qTc ?_) | (refine i_te ?_; refine qTe ?_) | intro _)
      refine tc_any (Stays _ _ _) stays_refl ?_
      all_goals refine rFa 0 ?_
      all_goals refine rLd 1 ?_
      all_goals refine rFa 2 ?_
      all_goals refine rLd 3 ?_
      all_goals refine rCv 4 ?_
      all_goals refine rMv 5 ?_
      all_goals refine rCv 6 ?_
      all_goals refine rRm 7 ?_
      all_goals refine rIa 8 ?_
      all_goals refine rLd 9 ?_
      all_goals (refine rStep (i := 10) ?_; ((try refine qWant ?_); (first | (refine qEf ?_; try intro _)) <;> ((try simp only [kM, kN, kO]); refine tl_nil ?_; refine rNext ?_)))
      all_goals (refine rStep (i := 11) ?_; ((try refine qWant ?_); (first | (refine qEf ?_; try intro _)) <;> ((try simp only [kM, kN, kO]); refine tl_nil ?_; refine rNext ?_)))
      all_goals refine rDone ?_
      all_goals (repeat' (first | (refine iBu ?_; refine tl_y (y_buildN rfl) rfl rfl ?_) | (refine i_op ?_; first | (refine i_qq ?_; refine qQ ?_) | refine qEf ?_) | refine tl_nil ?_ | (refine i_tc ?_; refine qTc ?_) | (refine i_te ?_; refine qTe ?_) | intro _))
      all_goals simp only [txV]
      refine tc_any (Stays _ _ ([])) (stays_of (hT := tk) (Hp.le_refl _)) ?_
      all_goals refine rFa 0 ?_
      all_goals (refine rStep2 (i := 1) (j := 2) ?_ ?_ <;> ((try refine qWant ?_); (first | (refine i_qq ?_; refine qQ ?_) | (refine qEf ?_; try intro _)) <;> ((try simp only [kM, kN, kO]); refine tl_nil ?_; refine rNext ?_)))
      all_goals (first | refine rFa 4 ?_ | (refine rStep2 (i := 1) (j := 3) ?_ ?_ <;> ((try refine qWant ?_); (first | (refine i_qq ?_; refine qQ ?_) | (refine qEf ?_; try intro _)) <;> ((try simp only [kM, kN, kO]); refine tl_nil ?_; refine rNext ?_))))
      all_goals (first | refine rFa 4 ?_ | (refine rStep2 (i := 2) (j := 5) ?_ ?_ <;> ((try refine qWant ?_); (first | (refine i_qq ?_; refine qQ ?_) | (refine qEf ?_; try intro _)) <;> ((try simp only [kM, kN, kO]); refine tl_nil ?_; refine rNext ?_))) | (refine rStep (i := 1) ?_; ((try refine qWant ?_); (first | (refine i_qq ?_; refine qQ ?_) | (refine qEf ?_; try intro _)) <;> ((try simp only [kM, kN, kO]); refine tl_nil ?_; refine rNext ?_))))
      all_goals (first | refine rFa 4 ?_ | (refine rStep2 (i := 3) (j := 5) ?_ ?_ <;> ((try refine qWant ?_); (first | (refine i_qq ?_; refine qQ ?_) | (refine qEf ?_; try intro _)) <;> ((try simp only [kM, kN, kO]); refine tl_nil ?_; refine rNext ?_))) | (refine rStep (i := 2) ?_; ((try refine qWant ?_); (first | (refine i_qq ?_; refine qQ ?_) | (refine qEf ?_; try intro _)) <;> ((try simp only [kM, kN, kO]); refine tl_nil ?_; refine rNext ?_))))
      all_goals (first | (refine rStep (i := 5) ?_; ((try refine qWant ?_); (first | (refine i_qq ?_; refine qQ ?_) | (refine qEf ?_; try intro _)) <;> ((try simp only [kM, kN, kO]); refine tl_nil ?_; refine rNext ?_))) | (refine rStep (i := 3) ?_; ((try refine qWant ?_); (first | (refine i_qq ?_; refine qQ ?_) | (refine qEf ?_; try intro _)) <;> ((try simp only [kM, kN, kO]); refine tl_nil ?_; refine rNext ?_))))
      all_goals refine rFa 6 ?_
      all_goals (refine rStep (i := 7) ?_; ((try refine qWant ?_); (first | (refine i_qq ?_; refine qQ ?_) | (refine qEf ?_; try intro _)) <;> ((try simp only [kM, kN, kO]); refine tl_nil ?_; refine rNext ?_)))
      all_goals refine rDone ?_
      all_goals (repeat' (first | (refine iBu ?_; refine tl_y (y_buildN rfl) rfl rfl ?_) | (refine i_op ?_; first | (refine i_qq ?_; refine qQ ?_) | refine qEf ?_) | refine tl_nil ?_ | (refine i_tc ?_; refine qTc ?_) | (refine i_te ?_; refine qTe ?_) | intro _))
      all_goals exact qE (L' := []) ⟨rfl, rfl, rfl⟩
  · rw [if_neg k345]
    repeat' (first | (refine tl_is (.func 59) ?_; refine qC rfl rfl (hla) ?_; rintro v ρ' L' hle ⟨rfl, rfl, rfl⟩ <;> (try simp only [kM, kN, kO])) | (refine iBu ?_; refine tl_y (y_buildN rfl) rfl rfl ?_) | (refine i_op ?_; first | (refine i_qq ?_; refine qQ ?_) | refine qEf ?_) | refine tl_nil ?_ | (refine i_tc ?_; refine qTc ?_) | (refine i_te ?_; refine qTe ?_) | intro _)
    refine tc_any (Stays _ _ _) stays_refl ?_
    all_goals refine rFa 0 ?_
    all_goals refine rLd 1 ?_
    all_goals refine rFa 2 ?_
    all_goals refine rLd 3 ?_
    all_goals refine rCv 4 ?_
    all_goals refine rMv 5 ?_
    all_goals refine rCv 6 ?_
    all_goals refine rRm 7 ?_
    all_goals refine rIa 8 ?_
    all_goals refine rLd 9 ?_
    all_goals (refine rStep (i := 10) ?_; ((try refine qWant ?_); (first | (refine qEf ?_; try intro _)) <;> ((try simp only [kM, kN, kO]); refine tl_nil ?_; refine rNext ?_)))
    all_goals (refine rStep (i := 11) ?_; ((try refine qWant ?_); (first | (refine qEf ?_; try intro _)) <;> ((try simp only [kM, kN, kO]); refine tl_nil ?_; refine rNext ?_)))
    all_goals refine rDone ?_
    all_goals (repeat' (first | (refine iBu ?_; refine tl_y (y_buildN rfl) rfl rfl ?_) | (refine i_op ?_; first | (refine i_qq ?_; refine qQ ?_) | refine qEf ?_) | refine tl_nil ?_ | (refine i_tc ?_; refine qTc ?_) | (refine i_te ?_; refine qTe ?_) | intro _))
    all_goals simp only [txV]
    refine tc_any (Stays _ _ ([])) (stays_of (hT := tk) (Hp.le_refl _)) ?_
    all_goals refine rFa 0 ?_
    all_goals (refine rStep2 (i := 1) (j := 2) ?_ ?_ <;> ((try refine qWant ?_); (first | (refine i_qq ?_; refine qQ ?_) | (refine qEf ?_; try intro _)) <;> ((try simp only [kM, kN, kO]); refine tl_nil ?_; refine rNext ?_)))
    all_goals (first | refine rFa 4 ?_ | (refine rStep2 (i := 1) (j := 3) ?_ ?_ <;> ((try refine qWant ?_); (first | (refine i_qq ?_; refine qQ ?_) | (refine qEf ?_; try intro _)) <;> ((try simp only [kM, kN, kO]); refine tl_nil ?_; refine rNext ?_))))
    all_goals (first | refine rFa 4 ?_ | (refine rStep2 (i := 2) (j := 5) ?_ ?_ <;> ((try refine qWant ?_); (first | (refine i_qq ?_; refine qQ ?_) | (refine qEf ?_; try intro _)) <;> ((try simp only [kM, kN, kO]); refine tl_nil ?_; refine rNext ?_))) | (refine rStep (i := 1) ?_; ((try refine qWant ?_); (first | (refine i_qq ?_; refine qQ ?_) | (refine qEf ?_; try intro _)) <;> ((try simp only [kM, kN, kO]); refine tl_nil ?_; refine rNext ?_))))
    all_goals (first | refine rFa 4 ?_ | (refine rStep2 (i := 3) (j := 5) ?_ ?_ <;> ((try refine qWant ?_); (first | (refine i_qq ?_; refine qQ ?_) | (refine qEf ?_; try intro _)) <;> ((try simp only [kM, kN, kO]); refine tl_nil ?_; refine rNext ?_))) | (refine rStep (i := 2) ?_; ((try refine qWant ?_); (first | (refine i_qq ?_; refine qQ ?_) | (refine qEf ?_; try intro _)) <;> ((try simp only [kM, kN, kO]); refine tl_nil ?_; refine rNext ?_))))
    all_goals (first | (refine rStep (i := 5) ?_; ((try refine qWant ?_); (first | (refine i_qq ?_; refine qQ ?_) | (refine qEf ?_; try intro _)) <;> ((try simp only [kM, kN, kO]); refine tl_nil ?_; refine rNext ?_))) | (refine rStep (i := 3) ?_; ((try refine qWant ?_); (first | (refine i_qq ?_; refine qQ ?_) | (refine qEf ?_; try intro _)) <;> ((try simp only [kM, kN, kO]); refine tl_nil ?_; refine rNext ?_))))
    all_goals refine rFa 6 ?_
    all_goals (refine rStep (i := 7) ?_; ((try refine qWant ?_); (first | (refine i_qq ?_; refine qQ ?_) | (refine qEf ?_; try intro _)) <;> ((try simp only [kM, kN, kO]); refine tl_nil ?_; refine rNext ?_)))
    all_goals refine rDone ?_
    all_goals (repeat' (first | (refine iBu ?_; refine tl_y (y_buildN rfl) rfl rfl ?_) | (refine i_op ?_; first | (refine i_qq ?_; refine qQ ?_) | refine qEf ?_) | refine tl_nil ?_ | (refine i_tc ?_; refine qTc ?_) | (refine i_te ?_; refine qTe ?_) | intro _))
    all_goals exact qE (L' := []) ⟨rfl, rfl, rfl⟩
theorem orec_N (ρ : Hp) (o : OpD) (v : SV) (ro : Ros) (hn : o.near = false) : Spec Tryz.prog 45 [.agg ⟨opV o⟩, .agg ⟨rosV v ro⟩] ρ [] (fun z ρ' L' => z = .agg ⟨recV o.rv (recOf o ro.p)⟩ ∧ ρ' = ρ ∧ L' = []) := by
  obtain ⟨kd, num, n, a', near, rv, rc⟩ := o
  subst hn
  unfold recOf
  refine spec_enter Tryz.func45 rfl rfl rfl fun u R => ?_
  simp only [argsE, List.cons_append, List.nil_append]
  rw [if_neg (by simp)]
  repeat' (first | (refine iBu ?_; refine tl_y (y_buildN rfl) rfl rfl ?_) | (refine i_op ?_; first | (refine i_qq ?_; refine qQ ?_) | refine qEf ?_) | refine tl_nil ?_ | (refine i_tc ?_; refine qTc ?_) | (refine i_te ?_; refine qTe ?_) | intro _)
  exact qE (L' := []) ⟨rfl, rfl, rfl⟩
theorem orec_B (ρ : Hp) (o : OpD) (v : SV) (ro : Ros) (h : RosIn ρ v ro) (hL : lastP ro.p ≤ 1099511627776) (hn : o.near = true) (h0 : 0 < v.n) (k345 : o.rc.kind = 3 ∨ o.rc.kind = 4 ∨ o.rc.kind = 5) (hC : ¬ (nthT ro.p o.at').stack.length = 0) (hu : (nthT ro.p o.at').undo ≤ nextO o (nthT ro.p o.at')) : Spec Tryz.prog 45 [.agg ⟨opV o⟩, .agg ⟨rosV v ro⟩] ρ [] (fun z ρ' L' => z = .agg ⟨recV o.rv (recOf o ro.p)⟩ ∧ ρ' = ρ ∧ L' = []) := by
  unfold nextO at hu
  have hl := h.at'.at'.len
  have hbig := h.at'.big
  have hpl : ro.p.txns.length = v.n := by simp [Ros.p, hl]
  have hla := last18_spec ρ v ro h
  have hnx : ro.p.next = ro.next := rfl
  unfold recOf nextU nextO
  rw [hpl, hnx]
  obtain ⟨kd, num, n, a', near, rv, rc⟩ := o
  dsimp only at *
  generalize lastP ro.p = lp at *
  refine spec_enter Tryz.func45 rfl rfl rfl fun u R => ?_
  simp only [argsE, List.cons_append, List.nil_append]
  subst hn
  rw [if_pos rfl, if_neg (show ¬ rc.kind = 1 by omega), if_neg (show ¬ (v.n = 0 ∨ rc.kind = 9) by omega), if_pos k345]
  obtain ⟨b, off, C, T, fr, x, e1, hb, hfit, hc, hx, hp, hm⟩ := nth_cell h a' (show 0 < v.n by omega)
  obtain ⟨_, hk0, hk1⟩ := idxU_lt a' (show 0 < v.n by omega)
  rw [← hp] at hC hu ⊢
  clear hp hm
  have hsl := hx.s.len
  have hsb := hx.sb
  simp only [Tx.p] at hC hu ⊢
  rw [hsl] at hC hu ⊢
  have hrv : rosV v ro = [.int .i64 ro.next, .slice (some ⟨b, off, none⟩) v.n v.c] := by rw [← e1]
  rw [hrv] at hla ⊢
  simp only [if_neg hC] at hu ⊢
  obtain ⟨i1, i2, i3⟩ := idxU_lt n (show 0 < x.sv.n by omega)
  obtain ⟨bs, offs, Cs, Ts, frs, es, hbs, hfits, hcs⟩ := hx.s.get (show idxU n x.sv.n < x.stack.length by omega)
  rw [getD_get (show idxU n x.sv.n < x.stack.length by omega)] at hu ⊢
  generalize x.stack[idxU n x.sv.n]'(by omega) = y at *
  have hcell : Cs[offs + ((IntKind.u64.wrap n).tmod (x.sv.n : Int)).toNat * 2 + 0]? = some (.int .u64 y.lsn) := cell_at hcs rfl
  by_cases hh : rc.kind = 5
  case' pos => rw [if_pos (And.intro hu hh)]
  case' neg => rw [if_neg (fun e => hh e.2)]
  all_goals rcases k345 with k5 | k5 | k5 <;> try (exfalso; omega)
  all_goals
    repeat' (first | (refine tl_is (.func 59) ?_; refine qC rfl rfl (hla) ?_; rintro v ρ' L' hle ⟨rfl, rfl, rfl⟩ <;> (try simp only [kM, kN, kO])) | (refine iBu ?_; refine tl_y (y_buildN rfl) rfl rfl ?_) | (refine i_op ?_; first | (refine i_qq ?_; refine qQ ?_) | refine qEf ?_) | refine tl_nil ?_ | (refine i_tc ?_; refine qTc ?_) | (refine i_te ?_; refine qTe ?_) | intro _)
    refine tc_any (Stays _ _ _) stays_refl ?_
    all_goals refine rFa 0 ?_
    all_goals refine rLd 1 ?_
    all_goals refine rFa 2 ?_
    all_goals refine rLd 3 ?_
    all_goals refine rCv 4 ?_
    all_goals refine rMv 5 ?_
    all_goals refine rCv 6 ?_
    all_goals refine rRm 7 ?_
    all_goals refine rIa 8 ?_
    all_goals refine rLd 9 ?_
    all_goals (refine rStep (i := 10) ?_; ((try refine qWant ?_); (first | (refine qEf ?_; try intro _)) <;> ((try simp only [kM, kN, kO]); refine tl_nil ?_; refine rNext ?_)))
    all_goals (refine rStep (i := 11) ?_; ((try refine qWant ?_); (first | (refine qEf ?_; try intro _)) <;> ((try simp only [kM, kN, kO]); refine tl_nil ?_; refine rNext ?_)))
    all_goals refine rDone ?_
    all_goals (repeat' (first | (refine iBu ?_; refine tl_y (y_buildN rfl) rfl rfl ?_) | (refine i_op ?_; first | (refine i_qq ?_; refine qQ ?_) | refine qEf ?_) | refine tl_nil ?_ | (refine i_tc ?_; refine qTc ?_) | (refine i_te ?_; refine qTe ?_) | intro _))
    all_goals simp only [txV, es]
    refine tc_any (Stays _ _ ([])) (stays_of (hT := tk) (Hp.le_refl _)) ?_
    all_goals refine rFa 0 ?_
    all_goals (refine rStep2 (i := 1) (j := 2) ?_ ?_ <;> ((try refine qWant ?_); (first | (refine i_qq ?_; refine qQ ?_) | (refine qEf ?_; try intro _)) <;> ((try simp only [kM, kN, kO]); refine tl_nil ?_; refine rNext ?_)))
    all_goals (first | refine rFa 4 ?_ | (refine rStep2 (i := 1) (j := 3) ?_ ?_ <;> ((try refine qWant ?_); (first | (refine i_qq ?_; refine qQ ?_) | (refine qEf ?_; try intro _)) <;> ((try simp only [kM, kN, kO]); refine tl_nil ?_; refine rNext ?_))))
    all_goals (first | refine rFa 4 ?_ | (refine rStep2 (i := 2) (j := 5) ?_ ?_ <;> ((try refine qWant ?_); (first | (refine i_qq ?_; refine qQ ?_) | (refine qEf ?_; try intro _)) <;> ((try simp only [kM, kN, kO]); refine tl_nil ?_; refine rNext ?_))) | (refine rStep (i := 1) ?_; ((try refine qWant ?_); (first | (refine i_qq ?_; refine qQ ?_) | (refine qEf ?_; try intro _)) <;> ((try simp only [kM, kN, kO]); refine tl_nil ?_; refine rNext ?_))))
    all_goals (first | refine rFa 4 ?_ | (refine rStep2 (i := 3) (j := 5) ?_ ?_ <;> ((try refine qWant ?_); (first | (refine i_qq ?_; refine qQ ?_) | (refine qEf ?_; try intro _)) <;> ((try simp only [kM, kN, kO]); refine tl_nil ?_; refine rNext ?_))) | (refine rStep (i := 2) ?_; ((try refine qWant ?_); (first | (refine i_qq ?_; refine qQ ?_) | (refine qEf ?_; try intro _)) <;> ((try simp only [kM, kN, kO]); refine tl_nil ?_; refine rNext ?_))))
    all_goals (first | (refine rStep (i := 5) ?_; ((try refine qWant ?_); (first | (refine i_qq ?_; refine qQ ?_) | (refine qEf ?_; try intro _)) <;> ((try simp only [kM, kN, kO]); refine tl_nil ?_; refine rNext ?_))) | (refine rStep (i := 3) ?_; ((try refine qWant ?_); (first | (refine i_qq ?_; refine qQ ?_) | (refine qEf ?_; try intro _)) <;> ((try simp only [kM, kN, kO]); refine tl_nil ?_; refine rNext ?_))))
    all_goals refine rFa 6 ?_
    all_goals (refine rStep (i := 7) ?_; ((try refine qWant ?_); (first | (refine i_qq ?_; refine qQ ?_) | (refine qEf ?_; try intro _)) <;> ((try simp only [kM, kN, kO]); refine tl_nil ?_; refine rNext ?_)))
    all_goals refine rDone ?_
    all_goals (repeat' (first | (refine iBu ?_; refine tl_y (y_buildN rfl) rfl rfl ?_) | (refine i_op ?_; first | (refine i_qq ?_; refine qQ ?_) | refine qEf ?_) | refine tl_nil ?_ | (refine i_tc ?_; refine qTc ?_) | (refine i_te ?_; refine qTe ?_) | intro _))
    all_goals
      refine tc_any (Stays _ _ ([])) (stays_of (hT := tk) (Hp.le_refl _)) ?_
      all_goals refine rFa 0 ?_
      all_goals refine rFa 2 ?_
      all_goals refine rMv 5 ?_
      all_goals refine rCv 6 ?_
      all_goals (refine rStep2 (i := 1) (j := 3) ?_ ?_ <;> ((try refine qWant ?_); (first | (refine i_qq ?_; refine qQ ?_) | (refine qEf ?_; try intro _)) <;> ((try simp only [kM, kN, kO]); refine tl_nil ?_; refine rNext ?_)))
      all_goals (first | refine rCv 4 ?_ | (refine rStep (i := 3) ?_; ((try refine qWant ?_); (first | (refine i_qq ?_; refine qQ ?_) | (refine qEf ?_; try intro _)) <;> ((try simp only [kM, kN, kO]); refine tl_nil ?_; refine rNext ?_))))
      all_goals (first | refine rCv 4 ?_ | refine rRm 7 ?_)
      all_goals (first | refine rRm 7 ?_ | (refine rStep (i := 1) ?_; ((try refine qWant ?_); (first | (refine i_qq ?_; refine qQ ?_) | (refine qEf ?_; try intro _)) <;> ((try simp only [kM, kN, kO]); refine tl_nil ?_; refine rNext ?_))))
      all_goals refine rIa 8 ?_
      all_goals refine rFa 9 ?_
      all_goals (refine rStep (i := 10) ?_; ((try refine qWant ?_); (first | (refine i_qq ?_; refine qQ ?_) | (refine qEf ?_; try intro _)) <;> ((try simp only [kM, kN, kO]); refine tl_nil ?_; refine rNext ?_)))
      all_goals refine rFa 11 ?_
      all_goals (refine rStep (i := 12) ?_; ((try refine qWant ?_); (first | (refine i_qq ?_; refine qQ ?_) | (refine qEf ?_; try intro _)) <;> ((try simp only [kM, kN, kO]); refine tl_nil ?_; refine rNext ?_)))
      all_goals refine rDone ?_
      all_goals (repeat' (first | (refine iBu ?_; refine tl_y (y_buildN rfl) rfl rfl ?_) | (refine i_op ?_; first | (refine i_qq ?_; refine qQ ?_) | refine qEf ?_) | refine tl_nil ?_ | (refine i_tc ?_; refine qTc ?_) | (refine i_te ?_; refine qTe ?_) | intro _))
      all_goals exact qE (L' := []) ⟨rfl, rfl, rfl⟩
theorem orec_C (ρ : Hp) (o : OpD) (v : SV) (ro : Ros) (h : RosIn ρ v ro) (hL : lastP ro.p ≤ 1099511627776) (hn : o.near = true) (h0 : 0 < v.n) (k345 : o.rc.kind = 3 ∨ o.rc.kind = 4 ∨ o.rc.kind = 5) (hC : ¬ (nthT ro.p o.at').stack.length = 0) (hu : ¬ (nthT ro.p o.at').undo ≤ nextO o (nthT ro.p o.at')) : Spec Tryz.prog 45 [.agg ⟨opV o⟩, .agg ⟨rosV v ro⟩] ρ [] (fun z ρ' L' => z = .agg ⟨recV o.rv (recOf o ro.p)⟩ ∧ ρ' = ρ ∧ L' = []) := by
  unfold nextO at hu
  have hl := h.at'.at'.len
  have hbig := h.at'.big
  have hpl : ro.p.txns.length = v.n := by simp [Ros.p, hl]
  have hla := last18_spec ρ v ro h
  have hnx : ro.p.next = ro.next := rfl
  unfold recOf nextU nextO
  rw [hpl, hnx]
  obtain ⟨kd, num, n, a', near, rv, rc⟩ := o
  dsimp only at *
  generalize lastP ro.p = lp at *
  refine spec_enter Tryz.func45 rfl rfl rfl fun u R => ?_
  simp only [argsE, List.cons_append, List.nil_append]
  subst hn
  rw [if_pos rfl, if_neg (show ¬ rc.kind = 1 by omega), if_neg (show ¬ (v.n = 0 ∨ rc.kind = 9) by omega), if_pos k345]
  obtain ⟨b, off, C, T, fr, x, e1, hb, hfit, hc, hx, hp, hm⟩ := nth_cell h a' (show 0 < v.n by omega)
  obtain ⟨_, hk0, hk1⟩ := idxU_lt a' (show 0 < v.n by omega)
  rw [← hp] at hC hu ⊢
  clear hp hm
  have hsl := hx.s.len
  have hsb := hx.sb
  simp only [Tx.p] at hC hu ⊢
  rw [hsl] at hC hu ⊢
  have hrv : rosV v ro = [.int .i64 ro.next, .slice (some ⟨b, off, none⟩) v.n v.c] := by rw [← e1]
  rw [hrv] at hla ⊢
  simp only [if_neg hC] at hu ⊢
  obtain ⟨i1, i2, i3⟩ := idxU_lt n (show 0 < x.sv.n by omega)
  obtain ⟨bs, offs, Cs, Ts, frs, es, hbs, hfits, hcs⟩ := hx.s.get (show idxU n x.sv.n < x.stack.length by omega)
  rw [getD_get (show idxU n x.sv.n < x.stack.length by omega)] at hu ⊢
  generalize x.stack[idxU n x.sv.n]'(by omega) = y at *
  have hcell : Cs[offs + ((IntKind.u64.wrap n).tmod (x.sv.n : Int)).toNat * 2 + 0]? = some (.int .u64 y.lsn) := cell_at hcs rfl
  rw [if_neg (fun e => hu e.1)]
  rcases k345 with k5 | k5 | k5
  all_goals
    repeat' (first | (refine tl_is (.func 59) ?_; refine qC rfl rfl (hla) ?_; rintro v ρ' L' hle ⟨rfl, rfl, rfl⟩ <;> (try simp only [kM, kN, kO])) | (refine iBu ?_; refine tl_y (y_buildN rfl) rfl rfl ?_) | (refine i_op ?_; first | (refine i_qq ?_; refine qQ ?_) | refine qEf ?_) | refine tl_nil ?_ | (refine i_tc ?_; refine qTc ?_) | (refine i_te ?_; refine qTe ?_) | intro _)
    refine tc_any (Stays _ _ _) stays_refl ?_
    all_goals refine rFa 0 ?_
    all_goals refine rLd 1 ?_
    all_goals refine rFa 2 ?_
    all_goals refine rLd 3 ?_
    all_goals refine rCv 4 ?_
    all_goals refine rMv 5 ?_
    all_goals refine rCv 6 ?_
    all_goals refine rRm 7 ?_
    all_goals refine rIa 8 ?_
    all_goals refine rLd 9 ?_
    all_goals (refine rStep (i := 10) ?_; ((try refine qWant ?_); (first | (refine qEf ?_; try intro _)) <;> ((try simp only [kM, kN, kO]); refine tl_nil ?_; refine rNext ?_)))
    all_goals (refine rStep (i := 11) ?_; ((try refine qWant ?_); (first | (refine qEf ?_; try intro _)) <;> ((try simp only [kM, kN, kO]); refine tl_nil ?_; refine rNext ?_)))
    all_goals refine rDone ?_
    all_goals (repeat' (first | (refine iBu ?_; refine tl_y (y_buildN rfl) rfl rfl ?_) | (refine i_op ?_; first | (refine i_qq ?_; refine qQ ?_) | refine qEf ?_) | refine tl_nil ?_ | (refine i_tc ?_; refine qTc ?_) | (refine i_te ?_; refine qTe ?_) | intro _))
    all_goals simp only [txV, es]
    refine tc_any (Stays _ _ ([])) (stays_of (hT := tk) (Hp.le_refl _)) ?_
    all_goals refine rFa 0 ?_
    all_goals (refine rStep2 (i := 1) (j := 2) ?_ ?_ <;> ((try refine qWant ?_); (first | (refine i_qq ?_; refine qQ ?_) | (refine qEf ?_; try intro _)) <;> ((try simp only [kM, kN, kO]); refine tl_nil ?_; refine rNext ?_)))
    all_goals (first | refine rFa 4 ?_ | (refine rStep2 (i := 1) (j := 3) ?_ ?_ <;> ((try refine qWant ?_); (first | (refine i_qq ?_; refine qQ ?_) | (refine qEf ?_; try intro _)) <;> ((try simp only [kM, kN, kO]); refine tl_nil ?_; refine rNext ?_))))
    all_goals (first | refine rFa 4 ?_ | (refine rStep2 (i := 2) (j := 5) ?_ ?_ <;> ((try refine qWant ?_); (first | (refine i_qq ?_; refine qQ ?_) | (refine qEf ?_; try intro _)) <;> ((try simp only [kM, kN, kO]); refine tl_nil ?_; refine rNext ?_))) | (refine rStep (i := 1) ?_; ((try refine qWant ?_); (first | (refine i_qq ?_; refine qQ ?_) | (refine qEf ?_; try intro _)) <;> ((try simp only [kM, kN, kO]); refine tl_nil ?_; refine rNext ?_))))
    all_goals (first | refine rFa 4 ?_ | (refine rStep2 (i := 3) (j := 5) ?_ ?_ <;> ((try refine qWant ?_); (first | (refine i_qq ?_; refine qQ ?_) | (refine qEf ?_; try intro _)) <;> ((try simp only [kM, kN, kO]); refine tl_nil ?_; refine rNext ?_))) | (refine rStep (i := 2) ?_; ((try refine qWant ?_); (first | (refine i_qq ?_; refine qQ ?_) | (refine qEf ?_; try intro _)) <;> ((try simp only [kM, kN, kO]); refine tl_nil ?_; refine rNext ?_))))
    all_goals (first | (refine rStep (i := 5) ?_; ((try refine qWant ?_); (first | (refine i_qq ?_; refine qQ ?_) | (refine qEf ?_; try intro _)) <;> ((try simp only [kM, kN, kO]); refine tl_nil ?_; refine rNext ?_))) | (refine rStep (i := 3) ?_; ((try refine qWant ?_); (first | (refine i_qq ?_; refine qQ ?_) | (refine qEf ?_; try intro _)) <;> ((try simp only [kM, kN, kO]); refine tl_nil ?_; refine rNext ?_))))
    all_goals refine rFa 6 ?_
    all_goals (refine rStep (i := 7) ?_; ((try refine qWant ?_); (first | (refine i_qq ?_; refine qQ ?_) | (refine qEf ?_; try intro _)) <;> ((try simp only [kM, kN, kO]); refine tl_nil ?_; refine rNext ?_)))
    all_goals refine rDone ?_
    all_goals (repeat' (first | (refine iBu ?_; refine tl_y (y_buildN rfl) rfl rfl ?_) | (refine i_op ?_; first | (refine i_qq ?_; refine qQ ?_) | refine qEf ?_) | refine tl_nil ?_ | (refine i_tc ?_; refine qTc ?_) | (refine i_te ?_; refine qTe ?_) | intro _))
    all_goals
      refine tc_any (Stays _ _ ([])) (stays_of (hT := tk) (Hp.le_refl _)) ?_
      all_goals refine rFa 0 ?_
      all_goals refine rFa 2 ?_
      all_goals refine rMv 5 ?_
      all_goals refine rCv 6 ?_
      all_goals (refine rStep2 (i := 1) (j := 3) ?_ ?_ <;> ((try refine qWant ?_); (first | (refine i_qq ?_; refine qQ ?_) | (refine qEf ?_; try intro _)) <;> ((try simp only [kM, kN, kO]); refine tl_nil ?_; refine rNext ?_)))
      all_goals (first | refine rCv 4 ?_ | (refine rStep (i := 3) ?_; ((try refine qWant ?_); (first | (refine i_qq ?_; refine qQ ?_) | (refine qEf ?_; try intro _)) <;> ((try simp only [kM, kN, kO]); refine tl_nil ?_; refine rNext ?_))))
      all_goals (first | refine rCv 4 ?_ | refine rRm 7 ?_)
      all_goals (first | refine rRm 7 ?_ | (refine rStep (i := 1) ?_; ((try refine qWant ?_); (first | (refine i_qq ?_; refine qQ ?_) | (refine qEf ?_; try intro _)) <;> ((try simp only [kM, kN, kO]); refine tl_nil ?_; refine rNext ?_))))
      all_goals refine rIa 8 ?_
      all_goals refine rFa 9 ?_
      all_goals (refine rStep (i := 10) ?_; ((try refine qWant ?_); (first | (refine i_qq ?_; refine qQ ?_) | (refine qEf ?_; try intro _)) <;> ((try simp only [kM, kN, kO]); refine tl_nil ?_; refine rNext ?_)))
      all_goals refine rFa 11 ?_
      all_goals (refine rStep (i := 12) ?_; ((try refine qWant ?_); (first | (refine i_qq ?_; refine qQ ?_) | (refine qEf ?_; try intro _)) <;> ((try simp only [kM, kN, kO]); refine tl_nil ?_; refine rNext ?_)))
      all_goals refine rDone ?_
      all_goals (repeat' (first | (refine iBu ?_; refine tl_y (y_buildN rfl) rfl rfl ?_) | (refine i_op ?_; first | (refine i_qq ?_; refine qQ ?_) | refine qEf ?_) | refine tl_nil ?_ | (refine i_tc ?_; refine qTc ?_) | (refine i_te ?_; refine qTe ?_) | intro _))
      all_goals exact qE (L' := []) ⟨rfl, rfl, rfl⟩
end Go.Proofs.E

namespace Go.Proofs.E
open Go
set_option linter.unusedVariables false
set_option linter.unusedSimpArgs false
set_option linter.unusedSectionVars false
set_option maxRecDepth 4000
set_option maxHeartbeats 1000000
attribute [local irreducible] Yl TL TC TE Spec YSpec R1 Hp.le EnvLe TS TR YS Stays
-- BN
theorem orec_spec (ρ : Hp) (o : OpD) (v : SV) (ro : Ros) (h : RosIn ρ v ro) (hL : lastP ro.p ≤ 1099511627776) : Spec Tryz.prog 45 [.agg ⟨opV o⟩, .agg ⟨rosV v ro⟩] ρ [] (fun z ρ' L' => z = .agg ⟨recV o.rv (recOf o ro.p)⟩ ∧ ρ' = ρ ∧ L' = []) := by
  by_cases h1 : ¬ (o.rc.kind = 3 ∨ o.rc.kind = 4 ∨ o.rc.kind = 5) ∨ (nthT ro.p o.at').stack.length = 0
  · exact orec_A ρ o v ro h hL h1
  have h2 : (o.rc.kind = 3 ∨ o.rc.kind = 4 ∨ o.rc.kind = 5) ∧ ¬ (nthT ro.p o.at').stack.length = 0 := by omega
  by_cases h0 : 0 < v.n
  · cases hn : o.near
    · exact orec_N ρ o v ro hn
    · by_cases hu : (nthT ro.p o.at').undo ≤ nextO o (nthT ro.p o.at')
      · exact orec_B ρ o v ro h hL hn h0 h2.1 h2.2 hu
      · exact orec_C ρ o v ro h hL hn h0 h2.1 h2.2 hu
  · have hl := h.at'.at'.len
    have hpl : ro.p.txns = [] := List.eq_nil_of_length_eq_zero (by simp only [Ros.p, List.length_map]; omega)
    have e : nthT ro.p o.at' = zP := by unfold nthT; rw [hpl]; rfl
    exact absurd (by rw [e]; rfl) h2.2
theorem cutZ_spec (ρ : Hp) (v : SV) (ro : Ros) (h : RosIn ρ v ro) (num n : Int) (hn : i64in n) : Spec Tryz.prog 58 [.agg ⟨rosV v ro⟩, .int .i64 num, .int .i64 n] ρ []
    (fun z ρ' L' => (ρ.le ρ' ∧ ∃ (v' : SV) (ro' : Ros), z = .tuple ⟨[.agg ⟨rosV v' ro'⟩, .int .i64 (cutE ro.p num n)]⟩ ∧ RosIn ρ' v' ro' ∧ ro'.p = cutP ro.p num n) ∧ L' = []) := by
  refine Spec.freeze (Post2 := fun z ρ' => ρ.le ρ' ∧ ∃ (v' : SV) (ro' : Ros), z = .tuple ⟨[.agg ⟨rosV v' ro'⟩, .int .i64 (cutE ro.p num n)]⟩ ∧ RosIn ρ' v' ro' ∧ ro'.p = cutP ro.p num n) (cutR_spec ρ v ro h num n hn) ?_
  rintro z ρ' L' _ ⟨hl1, ⟨he, rfl, rfl⟩ | ⟨he, vv, sp, os, hR, rfl, rfl⟩⟩ ρ2 hl2 hf
  · refine ⟨Hp.le_trans hl1 hl2, nilS, ⟨0, []⟩, rfl, RosIn.z, ?_⟩
    unfold cutP asksP
    exact (if_neg (show ¬ asksE (cutF n) ro.p num = 0 from he)).symm
  · obtain ⟨v', ro', e2, e3, e4⟩ := own_frozen (next := (cutP ro.p num n).next) hR (asks_ok (fun _ => rfl) (fun t h1 h2 _ => cutG_ok h1 h2 n) he) rfl hf
    exact ⟨Hp.le_trans hl1 hl2, v', ro', by rw [e2, he], e3, e4⟩
abbrev toldV (v : SV) (ro : Ros) (n e : Int) : List Value := [.int .i64 ro.next, .slice v.a v.n v.c, .int .i64 n, .int .i64 e]
def opK (o : OpD) : Int := (IntKind.u64.wrap o.kind).tmod 7
def runP (o : OpD) (p : RosP) : RosP := if opK o = 5 then markP' p (opN o p) else if opK o = 6 then cutP p (opN o p) o.n else takeP p (recOf o p)
def runN (o : OpD) (p : RosP) : Int := if opK o = 5 then markK p (opN o p) else 0
def runE (o : OpD) (p : RosP) : Int := if opK o = 5 then markE p (opN o p) else if opK o = 6 then cutE p (opN o p) o.n else takeE p (recOf o p)
theorem run18_spec (ρ : Hp) (o : OpD) (v : SV) (ro : Ros) (h : RosIn ρ v ro) (hL : lastP ro.p ≤ 1099511627776) (hn : i64in o.n) (hr : RcIn ρ o.rv o.rc) : Spec Tryz.prog 39 [.agg ⟨opV o⟩, .agg ⟨rosV v ro⟩] ρ [] (fun z ρ' L' => ρ.le ρ' ∧ ∃ (v' : SV) (ro' : Ros), z = .agg ⟨toldV v' ro' (runN o ro.p) (runE o ro.p)⟩ ∧ RosIn ρ' v' ro' ∧ ro'.p = runP o ro.p ∧ L' = []) := by
  have hnum := onum_spec ρ o v ro h
  have hrec := orec_spec ρ o v ro h hL
  have hri := recOf_in (p := ro.p) hr
  have hM := markZ_spec ρ v ro h (opN o ro.p)
  have hC := cutZ_spec ρ v ro h (opN o ro.p) o.n hn
  have hT := takeF_spec ρ v ro h o.rv (recOf o ro.p) hri
  unfold runN runE runP
  generalize hk : opK o = k
  unfold opK at hk
  generalize recOf o ro.p = rr at *
  generalize opN o ro.p = nn at *
  refine spec_enter Tryz.func39 rfl rfl rfl fun u R => ?_
  simp only [argsE, List.cons_append, List.nil_append]
  by_cases k5 : k = 5
  · simp only [if_pos k5]
    repeat' (first | (refine iBu ?_; refine tl_y (y_buildN rfl) rfl rfl ?_) | (refine i_op ?_; first | (refine i_qq ?_; refine qQ ?_) | refine qEf ?_) | refine tl_nil ?_ | (refine i_tc ?_; refine qTc ?_) | (refine i_te ?_; refine qTe ?_) | intro _)
    refine tc_any (Stays _ _ ([[(_, .cells ⟨rosV v ro⟩ 34 (0, 0))], [(_, .cells ⟨opV o⟩ 65 (0, 0))]])) (stays_of (hT := tk) (Hp.le_refl _)) ?_
    all_goals refine rLd 0 ?_
    all_goals refine rLd 1 ?_
    all_goals refine rLd 2 ?_
    all_goals (refine rStep (i := 3) ?_; ((try refine qWant ?_); (first | (refine tl_is (.func 117) ?_; refine qC rfl rfl (hnum) ?_; rintro v ρ' L' hle ⟨rfl, rfl, rfl⟩ <;> (try simp only [kM, kN, kO])) | (refine i_qq ?_; refine qQ ?_) | (refine qEf ?_; try intro _)) <;> ((try simp only [kM, kN, kO]); refine tl_nil ?_; refine rNext ?_)))
    all_goals (refine rStep (i := 4) ?_; ((try refine qWant ?_); (first | (refine tl_is (.func 57) ?_; refine qC rfl rfl (hM) ?_; rintro v ρ' L' hle ⟨⟨hz1, v1, r1, rfl, hR1, hp1⟩, rfl⟩ <;> (try simp only [kM, kN, kO])) | (refine i_qq ?_; refine qQ ?_) | (refine qEf ?_; try intro _)) <;> ((try simp only [kM, kN, kO]); refine tl_nil ?_; refine rNext ?_)))
    all_goals refine rMv 5 ?_
    all_goals refine rEx 6 ?_
    all_goals refine rFa 9 ?_
    all_goals (refine rStep3 (i := 7) (j := 8) (k := 10) ?_ ?_ ?_ <;> ((try refine qWant ?_); (first | (refine tl_is (.func 117) ?_; refine qC rfl rfl (hnum) ?_; rintro v ρ' L' hle ⟨rfl, rfl, rfl⟩ <;> (try simp only [kM, kN, kO])) | (refine tl_is (.func 57) ?_; refine qC rfl rfl (hM) ?_; rintro v ρ' L' hle ⟨⟨hz1, v1, r1, rfl, hR1, hp1⟩, rfl⟩ <;> (try simp only [kM, kN, kO])) | (refine i_qq ?_; refine qQ ?_) | (refine qEf ?_; try intro _)) <;> ((try simp only [kM, kN, kO]); refine tl_nil ?_; refine rNext ?_)))
    all_goals (first | (refine rStep2 (i := 8) (j := 10) ?_ ?_ <;> ((try refine qWant ?_); (first | (refine tl_is (.func 117) ?_; refine qC rfl rfl (hnum) ?_; rintro v ρ' L' hle ⟨rfl, rfl, rfl⟩ <;> (try simp only [kM, kN, kO])) | (refine tl_is (.func 57) ?_; refine qC rfl rfl (hM) ?_; rintro v ρ' L' hle ⟨⟨hz1, v1, r1, rfl, hR1, hp1⟩, rfl⟩ <;> (try simp only [kM, kN, kO])) | (refine i_qq ?_; refine qQ ?_) | (refine qEf ?_; try intro _)) <;> ((try simp only [kM, kN, kO]); refine tl_nil ?_; refine rNext ?_))) | (refine rStep2 (i := 7) (j := 10) ?_ ?_ <;> ((try refine qWant ?_); (first | (refine tl_is (.func 117) ?_; refine qC rfl rfl (hnum) ?_; rintro v ρ' L' hle ⟨rfl, rfl, rfl⟩ <;> (try simp only [kM, kN, kO])) | (refine tl_is (.func 57) ?_; refine qC rfl rfl (hM) ?_; rintro v ρ' L' hle ⟨⟨hz1, v1, r1, rfl, hR1, hp1⟩, rfl⟩ <;> (try simp only [kM, kN, kO])) | (refine i_qq ?_; refine qQ ?_) | (refine qEf ?_; try intro _)) <;> ((try simp only [kM, kN, kO]); refine tl_nil ?_; refine rNext ?_))) | (refine rStep2 (i := 7) (j := 8) ?_ ?_ <;> ((try refine qWant ?_); (first | (refine tl_is (.func 117) ?_; refine qC rfl rfl (hnum) ?_; rintro v ρ' L' hle ⟨rfl, rfl, rfl⟩ <;> (try simp only [kM, kN, kO])) | (refine tl_is (.func 57) ?_; refine qC rfl rfl (hM) ?_; rintro v ρ' L' hle ⟨⟨hz1, v1, r1, rfl, hR1, hp1⟩, rfl⟩ <;> (try simp only [kM, kN, kO])) | (refine i_qq ?_; refine qQ ?_) | (refine qEf ?_; try intro _)) <;> ((try simp only [kM, kN, kO]); refine tl_nil ?_; refine rNext ?_))))
    all_goals (first | refine rFa 11 ?_ | (refine rStep (i := 10) ?_; ((try refine qWant ?_); (first | (refine i_qq ?_; refine qQ ?_) | (refine qEf ?_; try intro _)) <;> ((try simp only [kM, kN, kO]); refine tl_nil ?_; refine rNext ?_))) | (refine rStep (i := 7) ?_; ((try refine qWant ?_); (first | (refine tl_is (.func 117) ?_; refine qC rfl rfl (hnum) ?_; rintro v ρ' L' hle ⟨rfl, rfl, rfl⟩ <;> (try simp only [kM, kN, kO])) | (refine tl_is (.func 57) ?_; refine qC rfl rfl (hM) ?_; rintro v ρ' L' hle ⟨⟨hz1, v1, r1, rfl, hR1, hp1⟩, rfl⟩ <;> (try simp only [kM, kN, kO])) | (refine i_qq ?_; refine qQ ?_) | (refine qEf ?_; try intro _)) <;> ((try simp only [kM, kN, kO]); refine tl_nil ?_; refine rNext ?_))))
    all_goals (first | refine rFa 11 ?_ | (refine rStep2 (i := 8) (j := 12) ?_ ?_ <;> ((try refine qWant ?_); (first | (refine tl_is (.func 117) ?_; refine qC rfl rfl (hnum) ?_; rintro v ρ' L' hle ⟨rfl, rfl, rfl⟩ <;> (try simp only [kM, kN, kO])) | (refine tl_is (.func 57) ?_; refine qC rfl rfl (hM) ?_; rintro v ρ' L' hle ⟨⟨hz1, v1, r1, rfl, hR1, hp1⟩, rfl⟩ <;> (try simp only [kM, kN, kO])) | (refine i_qq ?_; refine qQ ?_) | (refine qEf ?_; try intro _)) <;> ((try simp only [kM, kN, kO]); refine tl_nil ?_; refine rNext ?_))))
    all_goals (first | (refine rStep (i := 12) ?_; ((try refine qWant ?_); (first | (refine i_qq ?_; refine qQ ?_) | (refine qEf ?_; try intro _)) <;> ((try simp only [kM, kN, kO]); refine tl_nil ?_; refine rNext ?_))) | (refine rStep (i := 8) ?_; ((try refine qWant ?_); (first | (refine tl_is (.func 117) ?_; refine qC rfl rfl (hnum) ?_; rintro v ρ' L' hle ⟨rfl, rfl, rfl⟩ <;> (try simp only [kM, kN, kO])) | (refine tl_is (.func 57) ?_; refine qC rfl rfl (hM) ?_; rintro v ρ' L' hle ⟨⟨hz1, v1, r1, rfl, hR1, hp1⟩, rfl⟩ <;> (try simp only [kM, kN, kO])) | (refine i_qq ?_; refine qQ ?_) | (refine qEf ?_; try intro _)) <;> ((try simp only [kM, kN, kO]); refine tl_nil ?_; refine rNext ?_))))
    all_goals refine rFa 13 ?_
    all_goals (refine rStep (i := 14) ?_; ((try refine qWant ?_); (first | (refine i_qq ?_; refine qQ ?_) | (refine qEf ?_; try intro _)) <;> ((try simp only [kM, kN, kO]); refine tl_nil ?_; refine rNext ?_)))
    all_goals refine rDone ?_
    all_goals (repeat' (first | (refine iBu ?_; refine tl_y (y_buildN rfl) rfl rfl ?_) | (refine i_op ?_; first | (refine i_qq ?_; refine qQ ?_) | refine qEf ?_) | refine tl_nil ?_ | (refine i_tc ?_; refine qTc ?_) | (refine i_te ?_; refine qTe ?_) | intro _))
    all_goals exact qE (L' := []) ⟨hz1, v1, r1, rfl, hR1, hp1, rfl⟩
  · by_cases k6 : k = 6
    · simp only [if_neg k5, if_pos k6]
      repeat' (first | (refine iBu ?_; refine tl_y (y_buildN rfl) rfl rfl ?_) | (refine i_op ?_; first | (refine i_qq ?_; refine qQ ?_) | refine qEf ?_) | refine tl_nil ?_ | (refine i_tc ?_; refine qTc ?_) | (refine i_te ?_; refine qTe ?_) | intro _)
      refine tc_any (Stays _ _ ([[(_, .cells ⟨rosV v ro⟩ 34 (0, 0))], [(_, .cells ⟨opV o⟩ 65 (0, 0))]])) (stays_of (hT := tk) (Hp.le_refl _)) ?_
      all_goals refine rLd 0 ?_
      all_goals refine rLd 1 ?_
      all_goals refine rLd 2 ?_
      all_goals refine rFa 4 ?_
      all_goals refine rLd 5 ?_
      all_goals (refine rStep (i := 3) ?_; ((try refine qWant ?_); (first | (refine tl_is (.func 117) ?_; refine qC rfl rfl (hnum) ?_; rintro v ρ' L' hle ⟨rfl, rfl, rfl⟩ <;> (try simp only [kM, kN, kO])) | (refine i_qq ?_; refine qQ ?_) | (refine qEf ?_; try intro _)) <;> ((try simp only [kM, kN, kO]); refine tl_nil ?_; refine rNext ?_)))
      all_goals (refine rStep (i := 6) ?_; ((try refine qWant ?_); (first | (refine tl_is (.func 58) ?_; refine qC rfl rfl (hC) ?_; rintro v ρ' L' hle ⟨⟨hz1, v1, r1, rfl, hR1, hp1⟩, rfl⟩ <;> (try simp only [kM, kN, kO])) | (refine i_qq ?_; refine qQ ?_) | (refine qEf ?_; try intro _)) <;> ((try simp only [kM, kN, kO]); refine tl_nil ?_; refine rNext ?_)))
      all_goals refine rMv 7 ?_
      all_goals refine rEx 8 ?_
      all_goals refine rFa 10 ?_
      all_goals (refine rStep2 (i := 9) (j := 11) ?_ ?_ <;> ((try refine qWant ?_); (first | (refine tl_is (.func 117) ?_; refine qC rfl rfl (hnum) ?_; rintro v ρ' L' hle ⟨rfl, rfl, rfl⟩ <;> (try simp only [kM, kN, kO])) | (refine tl_is (.func 58) ?_; refine qC rfl rfl (hC) ?_; rintro v ρ' L' hle ⟨⟨hz1, v1, r1, rfl, hR1, hp1⟩, rfl⟩ <;> (try simp only [kM, kN, kO])) | (refine i_qq ?_; refine qQ ?_) | (refine qEf ?_; try intro _)) <;> ((try simp only [kM, kN, kO]); refine tl_nil ?_; refine rNext ?_)))
      all_goals (first | (refine rStep (i := 11) ?_; ((try refine qWant ?_); (first | (refine i_qq ?_; refine qQ ?_) | (refine qEf ?_; try intro _)) <;> ((try simp only [kM, kN, kO]); refine tl_nil ?_; refine rNext ?_))) | (refine rStep (i := 9) ?_; ((try refine qWant ?_); (first | (refine tl_is (.func 117) ?_; refine qC rfl rfl (hnum) ?_; rintro v ρ' L' hle ⟨rfl, rfl, rfl⟩ <;> (try simp only [kM, kN, kO])) | (refine tl_is (.func 58) ?_; refine qC rfl rfl (hC) ?_; rintro v ρ' L' hle ⟨⟨hz1, v1, r1, rfl, hR1, hp1⟩, rfl⟩ <;> (try simp only [kM, kN, kO])) | (refine i_qq ?_; refine qQ ?_) | (refine qEf ?_; try intro _)) <;> ((try simp only [kM, kN, kO]); refine tl_nil ?_; refine rNext ?_))))
      all_goals refine rFa 12 ?_
      all_goals (refine rStep (i := 13) ?_; ((try refine qWant ?_); (first | (refine i_qq ?_; refine qQ ?_) | (refine qEf ?_; try intro _)) <;> ((try simp only [kM, kN, kO]); refine tl_nil ?_; refine rNext ?_)))
      all_goals refine rDone ?_
      all_goals (repeat' (first | (refine iBu ?_; refine tl_y (y_buildN rfl) rfl rfl ?_) | (refine i_op ?_; first | (refine i_qq ?_; refine qQ ?_) | refine qEf ?_) | refine tl_nil ?_ | (refine i_tc ?_; refine qTc ?_) | (refine i_te ?_; refine qTe ?_) | intro _))
      all_goals exact qE (L' := []) ⟨hz1, v1, r1, rfl, hR1, hp1, rfl⟩
    · simp only [if_neg k5, if_neg k6]
      repeat' (first | (refine iBu ?_; refine tl_y (y_buildN rfl) rfl rfl ?_) | (refine i_op ?_; first | (refine i_qq ?_; refine qQ ?_) | refine qEf ?_) | refine tl_nil ?_ | (refine i_tc ?_; refine qTc ?_) | (refine i_te ?_; refine qTe ?_) | intro _)
      refine tc_any (Stays _ _ ([[(_, .cells ⟨rosV v ro⟩ 34 (0, 0))], [(_, .cells ⟨opV o⟩ 65 (0, 0))]])) (stays_of (hT := tk) (Hp.le_refl _)) ?_
      all_goals refine rLd 0 ?_
      all_goals refine rLd 1 ?_
      all_goals refine rLd 2 ?_
      all_goals (refine rStep (i := 3) ?_; ((try refine qWant ?_); (first | (refine tl_is (.func 45) ?_; refine qC rfl rfl (hrec) ?_; rintro v ρ' L' hle ⟨rfl, rfl, rfl⟩ <;> (try simp only [kM, kN, kO])) | (refine i_qq ?_; refine qQ ?_) | (refine qEf ?_; try intro _)) <;> ((try simp only [kM, kN, kO]); refine tl_nil ?_; refine rNext ?_)))
      all_goals (refine rStep (i := 4) ?_; ((try refine qWant ?_); (first | (refine tl_is (.func 60) ?_; refine qC rfl rfl (hT) ?_; rintro v ρ' L' hle ⟨⟨hz1, v1, r1, rfl, hR1, hp1⟩, rfl⟩ <;> (try simp only [kM, kN, kO])) | (refine i_qq ?_; refine qQ ?_) | (refine qEf ?_; try intro _)) <;> ((try simp only [kM, kN, kO]); refine tl_nil ?_; refine rNext ?_)))
      all_goals refine rMv 5 ?_
      all_goals refine rEx 6 ?_
      all_goals refine rFa 8 ?_
      all_goals (refine rStep2 (i := 7) (j := 9) ?_ ?_ <;> ((try refine qWant ?_); (first | (refine tl_is (.func 45) ?_; refine qC rfl rfl (hrec) ?_; rintro v ρ' L' hle ⟨rfl, rfl, rfl⟩ <;> (try simp only [kM, kN, kO])) | (refine tl_is (.func 60) ?_; refine qC rfl rfl (hT) ?_; rintro v ρ' L' hle ⟨⟨hz1, v1, r1, rfl, hR1, hp1⟩, rfl⟩ <;> (try simp only [kM, kN, kO])) | (refine i_qq ?_; refine qQ ?_) | (refine qEf ?_; try intro _)) <;> ((try simp only [kM, kN, kO]); refine tl_nil ?_; refine rNext ?_)))
      all_goals (first | (refine rStep (i := 9) ?_; ((try refine qWant ?_); (first | (refine i_qq ?_; refine qQ ?_) | (refine qEf ?_; try intro _)) <;> ((try simp only [kM, kN, kO]); refine tl_nil ?_; refine rNext ?_))) | (refine rStep (i := 7) ?_; ((try refine qWant ?_); (first | (refine tl_is (.func 45) ?_; refine qC rfl rfl (hrec) ?_; rintro v ρ' L' hle ⟨rfl, rfl, rfl⟩ <;> (try simp only [kM, kN, kO])) | (refine tl_is (.func 60) ?_; refine qC rfl rfl (hT) ?_; rintro v ρ' L' hle ⟨⟨hz1, v1, r1, rfl, hR1, hp1⟩, rfl⟩ <;> (try simp only [kM, kN, kO])) | (refine i_qq ?_; refine qQ ?_) | (refine qEf ?_; try intro _)) <;> ((try simp only [kM, kN, kO]); refine tl_nil ?_; refine rNext ?_))))
      all_goals refine rFa 10 ?_
      all_goals (refine rStep (i := 11) ?_; ((try refine qWant ?_); (first | (refine i_qq ?_; refine qQ ?_) | (refine qEf ?_; try intro _)) <;> ((try simp only [kM, kN, kO]); refine tl_nil ?_; refine rNext ?_)))
      all_goals refine rDone ?_
      all_goals (repeat' (first | (refine iBu ?_; refine tl_y (y_buildN rfl) rfl rfl ?_) | (refine i_op ?_; first | (refine i_qq ?_; refine qQ ?_) | refine qEf ?_) | refine tl_nil ?_ | (refine i_tc ?_; refine qTc ?_) | (refine i_te ?_; refine qTe ?_) | intro _))
      all_goals exact qE (L' := []) ⟨hz1, v1, r1, rfl, hR1, hp1, rfl⟩
end Go.Proofs.E

namespace Go.Proofs.E
open Go
set_option linter.unusedVariables false
set_option linter.unusedSimpArgs false
set_option linter.unusedSectionVars false
set_option maxRecDepth 4000
set_option maxHeartbeats 1000000
attribute [local irreducible] Yl TL TC TE Spec YSpec R1 Hp.le EnvLe TS TR YS Stays
/-! ## what an op does to what is reserved -/
def cT (t : TxP) : Int := (costL t).sum
theorem resN_map (l : List TxP) : (resL l).sum = (l.map cT).sum := by
  induction l with
  | nil => rfl
  | cons t r ih =>
    show ((t :: r).flatMap costL).sum = _
    rw [List.flatMap_cons, List.sum_append, List.map_cons, List.sum_cons]
    show (costL t).sum + (resL r).sum = _
    rw [ih]; rfl
theorem cT_eq (t : TxP) : cT t = 1 + (if t.state = 1 then 1 else 0) + (t.stack.map Lf.cost).sum := by
  unfold cT costL
  rw [List.sum_cons, List.sum_append]
  split <;> simp <;> omega
theorem sum_nn : ∀ {l : List Int}, (∀ x ∈ l, 0 ≤ x) → 0 ≤ l.sum
  | [], _ => Int.le_refl _
  | x :: r, h => by
    have h1 := h x (by simp)
    have h2 := sum_nn (l := r) (fun y hy => h y (by simp [hy]))
    rw [List.sum_cons]; omega
theorem sum_put {n : Int} {t t' : TxP} : ∀ {l : List TxP}, l.Pairwise (fun a b => a.num < b.num) → l.find? (fun x => decide (x.num = n)) = some t → ((l.map (fun x => if x.num = n then t' else x)).map cT).sum = (l.map cT).sum - cT t + cT t'
  | [], _, h => by cases h
  | x :: r, hp, h => by
    rw [List.pairwise_cons] at hp
    rw [List.find?_cons] at h
    simp only [List.map_cons, List.sum_cons]
    by_cases e : x.num = n
    · rw [if_pos e]
      rw [show decide (x.num = n) = true from decide_eq_true e] at h
      cases h
      have hm : r.map (fun x => if x.num = n then t' else x) = r := by
        conv => rhs; rw [← List.map_id r]
        refine List.map_congr_left fun y hy => ?_
        have := hp.1 y hy
        rw [if_neg (show ¬ y.num = n by omega)]; rfl
      rw [hm]; omega
    · rw [if_neg e]
      rw [show decide (x.num = n) = false from decide_eq_false e] at h
      have := sum_put (t' := t') hp.2 h
      rw [this]; omega
theorem sum_drop {n : Int} {t : TxP} : ∀ {l : List TxP}, l.Pairwise (fun a b => a.num < b.num) → l.find? (fun x => decide (x.num = n)) = some t → ((l.filter (fun x => decide (x.num ≠ n))).map cT).sum = (l.map cT).sum - cT t
  | [], _, h => by cases h
  | x :: r, hp, h => by
    rw [List.pairwise_cons] at hp
    rw [List.find?_cons] at h
    rw [List.filter_cons, List.map_cons, List.sum_cons]
    by_cases e : x.num = n
    · rw [if_neg (by simp [e])]
      rw [show decide (x.num = n) = true from decide_eq_true e] at h
      cases h
      have hm : r.filter (fun x => decide (x.num ≠ n)) = r := List.filter_eq_self.2 fun y hy => by
        have := hp.1 y hy
        simp; omega
      rw [hm]; omega
    · rw [if_pos (by simp [e]), List.map_cons, List.sum_cons]
      rw [show decide (x.num = n) = false from decide_eq_false e] at h
      have := sum_drop hp.2 h
      rw [this]; omega
theorem res_put {p : RosP} (h : RosG p) {n : Int} {t t' : TxP} (hf : findT p n = some t) (hn : t'.num = n) : resN (putT p t') = resN p - cT t + cT t' := by
  unfold resN
  rw [resN_map, resN_map]
  unfold putT
  rw [hn]
  exact sum_put h.up hf
theorem res_drop {p : RosP} (h : RosG p) {n : Int} {t : TxP} (hf : findT p n = some t) : resN (dropT p n) = resN p - cT t := by
  unfold resN
  rw [resN_map, resN_map]
  exact sum_drop h.up hf
theorem stack_nn {t : TxP} (h : TxG t) : ∀ x ∈ t.stack.map Lf.cost, 0 ≤ x := fun x hx => by
  obtain ⟨s, hs, rfl⟩ := List.mem_map.1 hx
  have := (h.st s hs).2.2.1
  omega
theorem sum_filter_le {q : Lf → Bool} : ∀ {l : List Lf}, (∀ x ∈ l, 0 ≤ x.cost) → ((l.filter q).map Lf.cost).sum ≤ (l.map Lf.cost).sum
  | [], _ => Int.le_refl _
  | x :: r, h => by
    have h1 := h x (by simp)
    have h2 := sum_filter_le (q := q) (l := r) (fun y hy => h y (by simp [hy]))
    rw [List.filter_cons, List.map_cons, List.sum_cons]
    split
    · rw [List.map_cons, List.sum_cons]; omega
    · omega
theorem cost_one {r : Rc} (h : recOk r = true) (k : 6 ≤ r.kind ∧ r.kind ≤ 8) : (costN r : Nat) = 1 := by
  unfold costN
  rw [if_pos h]
  have e : recTB r = [] := by
    unfold recTB
    rw [if_neg (by omega), if_neg (by omega), if_neg (by omega), if_neg (by omega), if_neg (by omega)]
  unfold recB recHB
  rw [e, List.append_nil]
  simp only [List.length_cons, List.length_append, be_length]
  rfl
theorem asks_next {f : TxP → Int} {g : TxP → TxP} {p : RosP} {num : Int} (he : asksE f p num = 0) : (asksP f g p num).next = p.next := by
  unfold asksP askT
  rw [if_pos he]
  split <;> rfl
theorem asks_res {f : TxP → Int} {g : TxP → TxP} {p : RosP} {num : Int} (h : RosG p) (hg : ∀ t, (g t).num = t.num) (hc : ∀ t, cT (g t) = cT t) (he : asksE f p num = 0) : resN (asksP f g p num) = resN p := by
  unfold asksP askT
  rw [if_pos he]
  split
  · rfl
  · rename_i t ht
    rw [res_put h ht ((hg t).trans (findT_mem ht).2), hc t]; omega
structure Rooms (o : OpD) (p : RosP) (r : Rc) : Prop where
  ok : rosOkP (runP o p) = true
  n1 : p.next ≤ (runP o p).next
  n2 : (runP o p).next ≤ p.next + 1
  same : 4 < opK o → resN (runP o p) = resN p
  rcok : ¬ 4 < opK o → recOk r = true
  ends : ¬ 4 < opK o → 6 ≤ r.kind ∧ r.kind ≤ 8 → (costN r : Int) + resN (runP o p) - resN p ≤ 0
  undone : ¬ 4 < opK o → r.kind = 5 → ∃ t, findT p r.txn = some t ∧ ∀ s, t.stack.getLast? = some s → r.next < s.lsn → (costN r : Int) ≤ s.cost → (costN r : Int) + resN (runP o p) - resN p ≤ 0
  begins : ¬ 4 < opK o → r.kind = 1 → r.txn = p.next ∧ (runP o p).next = p.next + 1
theorem lastP_le {p : RosP} (h : RosG p) : lastP p ≤ 1099511627776 := lastF_le (Nat.zero_le _) fun t ht => (h.tx t ht).2.2.lm
theorem opK_lt (o : OpD) : 0 ≤ opK o ∧ opK o < 7 := by
  have h : IntKind.u64.wrap o.kind = o.kind % 18446744073709551616 := rfl
  have h1 : 0 ≤ IntKind.u64.wrap o.kind := by omega
  have h2 : opK o = (IntKind.u64.wrap o.kind) % 7 := Int.tmod_eq_emod_of_nonneg h1
  omega
theorem rooms {o : OpD} {p : RosP} (h : rosOkP p = true) (he : runE o p = 0) : Rooms o p (recOf o p) := by
  have hG := rosG_iff.1 h
  have hk := opK_lt o
  by_cases k5 : opK o = 5
  · have e1 : runP o p = markP' p (opN o p) := if_pos k5
    have e2 : asksE markF p (opN o p) = 0 := by unfold runE at he; rw [if_pos k5] at he; exact he
    have e3 : (markP' p (opN o p)).next = p.next := asks_next e2
    refine ⟨?_, ?_, ?_, fun _ => ?_, fun k => absurd k (by omega), fun k => absurd k (by omega), fun k => absurd k (by omega), fun k => absurd k (by omega)⟩ <;> rw [e1]
    · exact rosG_iff.2 (asks_ok (fun _ => rfl) (fun t h1 h2 h3 => markG_ok h1 h2 h3) e2)
    · omega
    · omega
    · exact asks_res hG (fun _ => rfl) (fun _ => rfl) e2
  by_cases k6 : opK o = 6
  · have e1 : runP o p = cutP p (opN o p) o.n := (if_neg k5).trans (if_pos k6)
    have e2 : asksE (cutF o.n) p (opN o p) = 0 := by unfold runE at he; rw [if_neg k5, if_pos k6] at he; exact he
    have e3 : (cutP p (opN o p) o.n).next = p.next := asks_next e2
    refine ⟨?_, ?_, ?_, fun _ => ?_, fun k => absurd k (by omega), fun k => absurd k (by omega), fun k => absurd k (by omega), fun k => absurd k (by omega)⟩ <;> rw [e1]
    · exact rosG_iff.2 (asks_ok (fun _ => rfl) (fun t h1 h2 _ => cutG_ok h1 h2 o.n) e2)
    · omega
    · omega
    · exact asks_res hG (fun _ => rfl) (fun _ => rfl) e2
  have e1 : runP o p = takeP p (recOf o p) := (if_neg k5).trans (if_neg k6)
  have e2 : takeE p (recOf o p) = 0 := by unfold runE at he; rw [if_neg k5, if_neg k6] at he; exact he
  have e3 : takeP p (recOf o p) = takesP p (recOf o p) := if_pos e2
  generalize recOf o p = r at *
  have hr : recOk r = true := by
    unfold takeE at e2
    rw [if_pos h] at e2
    cases hr : recOk r
    · rw [hr] at e2; cases e2
    · rfl
  have e4 : takesE p r = 0 := by
    unfold takeE at e2
    rw [if_pos h, if_pos hr] at e2
    exact e2
  have hok : RosG (takesP p r) := takes_ok hG hr e4
  have hkk : 1 ≤ r.kind ∧ r.kind ≤ 9 := by
    have hr := hr
    unfold recOk at hr
    rw [Bool.and_eq_true, decide_eq_true_eq] at hr
    exact hr.1
  have e5 : runP o p = takesP p r := e1.trans e3
  by_cases r9 : r.kind = 9
  · have e6 : takesP p r = p := by unfold takesP; rw [if_pos r9]
    refine ⟨?_, ?_, ?_, fun k => absurd k (by omega), fun _ => hr, fun _ k => absurd k (by omega), fun _ k => absurd k (by omega), fun _ k => absurd k (by omega)⟩ <;> rw [e5]
    · exact rosG_iff.2 hok
    · rw [e6]; omega
    · rw [e6]; omega
  by_cases r1 : r.kind = 1
  · have e6 : (takesP p r).next = p.next + 1 := by unfold takesP; rw [if_neg r9, if_pos r1]
    have e7 : r.txn = p.next := by
      unfold takesE at e4
      rw [if_neg r9, if_pos r1] at e4
      by_cases hh : r.txn ≠ p.next ∨ p.next = 1073741824
      · rw [if_pos hh] at e4; cases e4
      · omega
    refine ⟨?_, ?_, ?_, fun k => absurd k (by omega), fun _ => hr, fun _ k => absurd k (by omega), fun _ k => absurd k (by omega), fun _ k => ⟨e7, ?_⟩⟩ <;> rw [e5]
    · exact rosG_iff.2 hok
    · rw [e6]; omega
    · rw [e6]; omega
    · exact e6
  have e6 : takesP p r = ownP p (findT p r.txn) r := by unfold takesP; rw [if_neg r9, if_neg r1]
  have e7 : ownE (findT p r.txn) r = 0 := by unfold takesE at e4; rw [if_neg r9, if_neg r1] at e4; exact e4
  cases hf : findT p r.txn with
  | none => rw [hf] at e7; cases e7
  | some t =>
    rw [hf] at e6 e7
    have hm := findT_mem hf
    have hT := (hG.tx t hm.1).2.2
    have hnn := sum_nn (stack_nn hT)
    have hnn' : ∀ x ∈ t.stack, 0 ≤ x.cost := fun x hx => by have := (hT.st x hx).2.2.1; omega
    have e8 : (takesP p r).next = p.next := by rw [e6]; unfold ownP; dsimp only; split <;> rfl
    have hmay : ¬ r.kind = 8 → mayT t r = true := fun k8 => by
      unfold ownE at e7
      dsimp only at e7
      by_cases hp : r.prev ≠ t.last
      · rw [if_pos hp] at e7; cases e7
      · rw [if_neg hp, if_neg k8] at e7
        by_cases hy : mayT t r = true
        · exact hy
        · rw [if_neg hy] at e7; cases e7
    have hput : ¬ r.kind = 8 → takesP p r = putT p (nextT t r) := fun k8 => by rw [e6]; unfold ownP; exact if_neg k8
    have hnum : (nextT t r).num = r.txn := by
      rw [← hm.2]
      unfold nextT pushT backT
      split
      · rfl
      · split
        · rfl
        · split
          · rfl
          · split <;> rfl
    have hres : ¬ r.kind = 8 → resN (takesP p r) = resN p - cT t + cT (nextT t r) := fun k8 => by
      rw [hput k8]
      exact res_put hG hf hnum
    have ht := cT_eq t
    refine ⟨?_, ?_, ?_, fun k => absurd k (by omega), fun _ => hr, fun _ k => ?_, fun _ k => ⟨t, hf, fun s hs hlt hcs => ?_⟩, fun _ k => absurd k (by omega)⟩ <;> rw [e5]
    · exact rosG_iff.2 hok
    · rw [e8]; omega
    · rw [e8]; omega
    · have hc := cost_one hr k
      have hs0 : 1 ≤ cT t := by rw [ht]; split <;> omega
      by_cases k8 : r.kind = 8
      · have e9 : takesP p r = dropT p r.txn := by rw [e6]; unfold ownP; exact if_pos k8
        rw [e9, res_drop hG hf, hc]
        omega
      · rw [hres k8, hc]
        have hl := hmay k8
        have hlive : t.state = 1 := by
          unfold mayT at hl
          rw [if_neg (by omega), if_neg (by omega)] at hl
          simpa [liveT] using hl
        rw [if_pos hlive] at ht
        by_cases k66 : r.kind = 6
        · have : cT (nextT t r) = 1 := by
            unfold nextT
            rw [if_neg (by omega), if_neg (by omega), if_neg (by omega), if_pos k66, cT_eq]
            simp
          omega
        · have : cT (nextT t r) = 1 + (t.stack.map Lf.cost).sum := by
            unfold nextT
            rw [if_neg (by omega), if_neg (by omega), if_neg (by omega), if_neg k66, cT_eq]
            simp
          omega
    · rw [hres (by omega)]
      obtain ⟨l, hl⟩ := List.getLast?_eq_some_iff.1 hs
      have e9 : nextT t r = backT { t with last := r.lsn } r.next := by
        unfold nextT
        rw [if_neg (by omega), if_pos (.inr k)]
      have hb := cT_eq (nextT t r)
      have e10 : (nextT t r).state = t.state := by rw [e9]; rfl
      have e11 : (nextT t r).stack = t.stack.filter (fun s => decide (s.lsn ≤ r.next)) := by rw [e9]; rfl
      have hsum : ((nextT t r).stack.map Lf.cost).sum ≤ (l.map Lf.cost).sum := by
        rw [e11, hl, List.filter_append, List.filter_cons_of_neg (by simp; omega), List.filter_nil, List.append_nil]
        exact sum_filter_le (fun x hx => hnn' x (by rw [hl]; simp [hx]))
      have hst : (t.stack.map Lf.cost).sum = (l.map Lf.cost).sum + s.cost := by rw [hl]; simp
      rw [e10] at hb
      omega
end Go.Proofs.E

namespace Go.Proofs.E
open Go Go.RowKit
set_option linter.unusedVariables false
set_option linter.unusedSimpArgs false
set_option linter.unusedSectionVars false
set_option maxRecDepth 8000
structure OpW (ρ : Hp) (o : OpD) : Prop where
  r : RcW ρ o.rv o.rc
  n : i64in o.n
theorem OpW.mono {ρ ρ' : Hp} {o : OpD} (h : OpW ρ o) (hle : ρ.le ρ') : OpW ρ' o := ⟨h.r.mono hle, h.n⟩
section
variable {H : Type} {enc : TypeId × Value → H} {w : World}
theorem opnS_op : OpnS enc Tryz.prog w 65 (fun cs (x : OpD) => cs = opV x ∧ OpW (hpOf w) x) := fun fuel cs x h hw => by
  obtain ⟨hl, hf⟩ := opnS_fields Tryz.underlying65 h hw
  have hl : cs.length = 15 := by rw [hl]; kernel_rfl
  obtain ⟨c0, c1, c2, c3, c4, c5, c6, c7, c8, c9, d0, d1, d2, d3, d4, rfl⟩ : ∃ c0 c1 c2 c3 c4 c5 c6 c7 c8 c9 d0 d1 d2 d3 d4, cs = [c0, c1, c2, c3, c4, c5, c6, c7, c8, c9, d0, d1, d2, d3, d4] := by
    match cs, hl with
    | [c0, c1, c2, c3, c4, c5, c6, c7, c8, c9, d0, d1, d2, d3, d4], _ => exact ⟨c0, c1, c2, c3, c4, c5, c6, c7, c8, c9, d0, d1, d2, d3, d4, rfl⟩
  obtain ⟨k, h0, _⟩ := opnS_field h hw Tryz.underlying65 0 0 1 rfl rfl rfl (by kernel_rfl) (opn_int Tryz.underlying3).sized
  obtain ⟨m, h1, _⟩ := opnS_field h hw Tryz.underlying65 1 1 1 rfl rfl rfl (by kernel_rfl) (opn_int Tryz.underlying3).sized
  obtain ⟨n, h2, hn⟩ := opnS_field h hw Tryz.underlying65 2 2 1 rfl rfl rfl (by kernel_rfl) (opn_int Tryz.underlying3).sized
  obtain ⟨a, h3, _⟩ := opnS_field h hw Tryz.underlying65 3 3 1 rfl rfl rfl (by kernel_rfl) (opn_int Tryz.underlying3).sized
  obtain ⟨b, h4⟩ := opnS_field h hw Tryz.underlying65 4 4 1 rfl rfl rfl (by kernel_rfl) (opn_bool Tryz.underlying4).sized
  obtain ⟨⟨rv, rc⟩, h5, w5⟩ := opnS_field h hw Tryz.underlying65 5 5 10 rfl rfl rfl (by kernel_rfl) opnS_rec
  simp only [RB, List.drop_zero, List.drop_succ_cons, List.take_succ_cons, List.take_zero, List.cons.injEq, and_true] at h0 h1 h2 h3 h4 h5
  obtain ⟨g0, g1, g2, g3, g4, g5, g6, g7, g8, g9⟩ := h5
  subst h0; subst h1; subst h2; subst h3; subst h4; subst g0; subst g1; subst g2; subst g3; subst g4; subst g5; subst g6; subst g7; subst g8; subst g9
  exact ⟨⟨k, m, n, a, b, rv, rc⟩, rfl, w5, hn⟩
end
theorem sum_le4 : ∀ {l : List Int}, (∀ x ∈ l, 0 ≤ x ∧ x ≤ 400) → 0 ≤ l.sum ∧ l.sum ≤ 400 * (l.length : Int)
  | [], _ => by simp
  | x :: r, h => by
    have h1 := h x (by simp)
    have h2 := sum_le4 (l := r) (fun y hy => h y (by simp [hy]))
    rw [List.sum_cons, List.length_cons]; omega
theorem resN_bd {p : RosP} (h : RosG p) : 0 ≤ resN p ∧ resN p ≤ 4000000000000000 := by
  have hg : ∀ t ∈ p.txns, TxG t := fun t ht => (h.tx t ht).2.2
  have h1 := sum_le4 (resL_in hg)
  have h2 := resL_len hg
  have h3 := h.len
  unfold resN
  omega
theorem costN_bd {r : Rc} (h : recOk r = true) : costN r ≤ 400 := by
  have h1 : (recB r).length ≤ 4000 := recB_le (recOk_lay h)
  unfold costN
  rw [if_pos h]
  unfold sectsB
  omega
end Go.Proofs.E

