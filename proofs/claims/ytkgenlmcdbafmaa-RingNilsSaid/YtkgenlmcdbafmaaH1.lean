/- What nothing tells of rings, and how many sectors entries have; the law RingNils. Part 1 of 1. -/
import Derived.Test.YtkgenlmcdbafmaaD5
import Derived.Test.YtkgenlmcdbafmaaRows
namespace Go.Proofs.E
open Go
set_option linter.unusedVariables false
set_option linter.unusedSimpArgs false
set_option linter.unusedSectionVars false
set_option maxRecDepth 4000
set_option maxHeartbeats 1000000
attribute [local irreducible] Yl TL TC TE Spec YSpec R1 Hp.le EnvLe TS TR YS Stays
variable {H : Type} {enc : TypeId × Value → H} {w : World}
theorem opn_bsl : Opn enc Try.prog w 22 (fun cs (e : BSl) => cs = [slv e] ∧ (BIn (hpOf w) e ∧ e.n ≤ 9223372036854775807)) :=
  opn_bytesK.mono (fun cs s h => by
    obtain ⟨h1, h2, h3⟩ := sIn_ofK h
    exact ⟨⟨s.1, s.2.1, s.2.2.1, s.2.2.2⟩, h.cells, ⟨h1, h2⟩, h3⟩)
theorem kfresh (ρ : Hp) : Spec Try.prog 22 [] ρ [] (fun v ρ' L' => ρ.le ρ' ∧ ∃ rb db w k D, v = .tuple ⟨[.pointer (some ⟨rb, 0, none⟩), .pointer (some ⟨db, 0, none⟩), .bool true]⟩ ∧ DOk k D ∧ RIn ρ' ⟨freshH 20, [], 0, false⟩ w ∧ Good ⟨freshH 20, [], 0, false⟩ D ∧ L' = ringC rb db ⟨freshH 20, [], 0, false⟩ w ++ diskK db k D) := by
  refine spec_enter Try.func22 rfl rfl rfl fun u R => ?_
  simp only [argsE, List.cons_append, List.nil_append]
  repeat' (first | (refine tl_is (.func 51) ?_; refine qC rfl rfl (knew _ 22 (by omega) (by omega)) ?_; rintro v ρ' L' hle ⟨rfl, db, k0, rfl, hk0, rfl⟩ <;> (try simp only [List.cons_append, List.nil_append, List.append_eq])) | (refine tl_is (.func 40) ?_; refine qC rfl rfl (kformat _ 20 (by omega) (by omega) db k0 hk0) ?_; rintro v1 ρ1 L1 hle1 ⟨hl1, rb, w1, k1, D1, rfl, hk1, hr1, g1, rfl⟩; try simp only [List.cons_append, List.nil_append, List.append_assoc]) | (refine i_op ?_; first | (refine i_qq ?_; refine qQ ?_) | refine qEf ?_) | refine tl_nil ?_ | (refine i_tc ?_; refine qTc ?_) | (refine i_te ?_; refine qTe ?_) | intro _)
  exact qE (L' := ringC rb db ⟨freshH 20, [], 0, false⟩ w1 ++ diskK db k1 D1) ⟨hl1, rb, db, w1, k1, D1, rfl, hk1, hr1, g1, rfl⟩
theorem room_spec (ρ : Hp) (a : Option Addr) (n c : Nat) (l : List BSl) (hl : SIn ρ slv a n l) (hin : ∀ e ∈ l, BIn ρ e ∧ e.n ≤ 9223372036854775807) (hbig : n ≤ 9223372036854775807) :
    Spec Try.prog 4 [.slice a n c] ρ [] (fun v ρ' L' => v = .bool true ∧ ρ.le ρ' ∧ L' = []) := by
  have hlen := hl.len
  refine spec_enter Try.func4 rfl rfl rfl fun u R => ?_
  simp only [argsE, List.cons_append, List.nil_append]
  repeat' (first | (refine tl_is (.func 21) ?_; refine qC rfl rfl (wakes4_spec _) ?_; rintro v ρ' L' hle ⟨rfl, hl1, rfl⟩ <;> (try simp only [List.cons_append, List.nil_append, List.append_eq])) | (refine tl_is (.func 22) ?_; refine qC rfl rfl (kfresh _) ?_; rintro v1 ρ1 L1 hle1 ⟨hl2, rb, db, w1, k1, D1, rfl, hk1, hr1, g1, rfl⟩; try simp only [List.cons_append, List.nil_append, List.append_assoc]) | (refine i_op ?_; first | (refine i_qq ?_; refine qQ ?_) | refine qEf ?_) | refine tl_nil ?_ | (refine i_tc ?_; refine qTc ?_) | (refine i_te ?_; refine qTe ?_) | intro _)
  refine tc_loop_g [(2, _), (3, _), (20, _), (21, _)] (fun (ζ : (Nat) × (Hp) × (RgS) × (RW) × (DK) × (DS)) => [(22, .int .i64 ζ.1)]) (fun (ζ : (Nat) × (Hp) × (RgS) × (RW) × (DK) × (DS)) => ζ.2.1) (fun (ζ : (Nat) × (Hp) × (RgS) × (RW) × (DK) × (DS)) => ringC rb db ζ.2.2.1 ζ.2.2.2.1 ++ diskK db ζ.2.2.2.2.1 ζ.2.2.2.2.2) (fun (ζ : (Nat) × (Hp) × (RgS) × (RW) × (DK) × (DS)) => (ζ.1 ≤ n ∧ ζ.1 ≤ 40) ∧ ρ1.le ζ.2.1 ∧ DOk ζ.2.2.2.2.1 ζ.2.2.2.2.2 ∧ RIn ζ.2.1 ζ.2.2.1 ζ.2.2.2.1 ∧ Good ζ.2.2.1 ζ.2.2.2.2.2 ∧ ζ.2.2.1.h = freshH 20 ∧ ζ.2.2.1.ents.length ≤ ζ.1) (fun (ζ : (Nat) × (Hp) × (RgS) × (RW) × (DK) × (DS)) => n - ζ.1) ((0, ρ1, ⟨freshH 20, [], 0, false⟩, w1, k1, D1)) (⟨⟨Nat.zero_le _, Nat.zero_le _⟩, Hp.le_refl _, hk1, hr1, g1, rfl, Nat.le_refl _⟩) ev_le ev_le rfl tk ?_
  rintro ⟨j, ρ2, R, w, k, D⟩ hI
  try simp only [List.cons_append, List.nil_append, List.append_assoc, List.append_eq] at hI ⊢
  try dsimp only at hI ⊢
  obtain ⟨⟨hj, hj4⟩, hle2', hk, hr, g, hh, hel⟩ := hI
  have hnx : R.next < 1099511627776 := by unfold RgS.next; rw [hh]; simp only [freshH]; omega
  have htn : R.h.turn < 1073741824 := by rw [hh]; simp [freshH]
  have hsz20 : R.h.size = 20 := by rw [hh]; rfl
  have hok := hr.ok
  have hle0 : (((R.minus R.ents.length []).h.size - (R.minus R.ents.length []).used : Nat) : Int) = 20 := by
    have e1 : R.used - usedL (R.ents.take R.ents.length) = 0 := by rw [List.take_of_length_le (Nat.le_refl _), hok.used]; omega
    simp only [RgS.minus, RgS.cutH, Hd.cut, e1, hh, freshH]; rfl
  have hfi0 : (((R.minus R.ents.length []).h.first : Nat) : Int) = (R.ents.length : Int) + 1 := by
    simp only [RgS.minus, RgS.cutH, Hd.cut, hh, freshH]; omega
  by_cases hlt : j < n
  · obtain ⟨b, off, C, T, fr, rfl, hb, hc⟩ := (hl.mono (Hp.le_trans hl1 (Hp.le_trans hl2 hle2'))).get (show j < l.length by omega)
    obtain ⟨he, he9⟩ := hin _ (List.getElem_mem (show j < l.length by omega))
    replace he := he.mono (Hp.le_trans hl1 (Hp.le_trans hl2 hle2'))
    generalize l[j]'(by omega) = e at *
    have hel2 := he.s.len
    have hce := he.le
    by_cases h40 : j = 40
    · repeat' (first | (refine i_op ?_; first | (refine i_qq ?_; refine qQ ?_) | refine qEf ?_) | refine tl_nil ?_ | (refine i_tc ?_; refine qTc ?_) | (refine i_te ?_; refine qTe ?_) | intro _)
      repeat' (first | (refine tl_is (.func 26) ?_; refine qC rfl rfl (all_spec _ rb db R w hr) ?_; rintro v8 ρ8 L8 hle8 ⟨hl8, els8, sp8, hown8, hb8, he8, rfl⟩; obtain ⟨a8, c8, rfl, _⟩ := hown8.slice; have hel8 : els8.length = R.ents.length := (by have := congrArg List.length he8; simpa using this); simp only [hel8]; try simp only [List.cons_append, List.nil_append, List.append_assoc]) | (refine i_op ?_; first | (refine i_qq ?_; refine qQ ?_) | refine qEf ?_) | refine tl_nil ?_ | (refine i_tc ?_; refine qTc ?_) | (refine i_te ?_; refine qTe ?_) | intro _)
      repeat' (first | (refine tl_is (.func 27) ?_; refine qC rfl rfl (gcut _ rb db R w (hr.mono hl8) k D hk g [] none 0 0 [] SIn.nil.rd R.ents.length (Nat.le_refl _) htn (by omega) hnx) ?_; rintro v9 ρ9 L9 hle9 ⟨rfl, hl9, k9, D9, w9, hk9, hr9, g9, rfl⟩; try simp only [List.cons_append, List.nil_append, List.append_assoc]) | (refine tl_is (.func 23) ?_; refine qC rfl rfl (left_spec4 _ rb db (R.minus R.ents.length []) _ hr9.ok) ?_; rintro v ρ' L' hle ⟨rfl, rfl, rfl⟩ <;> (try simp only [List.cons_append, List.nil_append, List.append_eq, hle0])) | (refine tl_is (.func 28) ?_; refine qC rfl rfl (first_spec _ rb db (R.minus R.ents.length []) _) ?_; rintro v ρ' L' hle ⟨rfl, rfl, rfl⟩ <;> (try simp only [List.cons_append, List.nil_append, List.append_eq, hfi0])) | (refine i_op ?_; first | (refine i_qq ?_; refine qQ ?_) | refine qEf ?_) | refine tl_nil ?_ | (refine i_tc ?_; refine qTc ?_) | (refine i_te ?_; refine qTe ?_) | intro _)
      have hfin := Hp.le_trans hl1 (Hp.le_trans hl2 (Hp.le_trans hle2' (Hp.le_trans hl8 hl9)))
      exact qE (L' := []) ⟨rfl, hfin, rfl⟩
    · have hm : (min (e.n : Int) 400).toNat = min e.n 400 := by omega
      have hs2 := he.s.take (hi' := min e.n 400) (Nat.min_le_left _ _)
      have hbl : (e.l.take (min e.n 400)).length = min e.n 400 := by simp; omega
      have hm4 : min e.n 400 ≤ 400 := Nat.min_le_right _ _
      have hmc : min e.n 400 ≤ e.c := by omega
      repeat' (first | (refine tl_is (.func 23) ?_; refine qC rfl rfl (left_spec4 _ rb db R w hr.ok) ?_; rintro v ρ' L' hle ⟨rfl, rfl, rfl⟩ <;> (try simp only [List.cons_append, List.nil_append, List.append_eq, hm])) | (refine i_op ?_; first | (refine i_qq ?_; refine qQ ?_) | refine qEf ?_) | refine tl_nil ?_ | (refine i_tc ?_; refine qTc ?_) | (refine i_te ?_; refine qTe ?_) | intro _)
      generalize min e.n 400 = m at *
      generalize e.l.take m = bs at *
      by_cases hfit : sects m ≤ R.h.size - R.used
      · have hpl : (((R.plus bs).h.size - (R.plus bs).used : Nat) : Int) = ((R.h.size - R.used : Nat) : Int) - ((sects m : Nat) : Int) := by
          simp only [RgS.plus, hbl]; omega
        repeat' (first | (refine tl_is (.func 24) ?_; refine qC rfl rfl (sects_nat _ m (by omega)) ?_; rintro v ρ' L' hle ⟨rfl, rfl, rfl⟩ <;> (try simp only [List.cons_append, List.nil_append, List.append_eq])) | (refine tl_is (.func 25) ?_; refine qC rfl rfl (gappend _ rb db R w hr k D hk g [] _ m _ bs hs2.rd hmc (by omega) hfit hnx) ?_; rintro v2 ρ3 L2 hle2 ⟨rfl, hl3, k2, D2, w2, hk2, hr2, g2, rfl⟩; try simp only [List.cons_append, List.nil_append, List.append_assoc]) | (refine tl_is (.func 23) ?_; refine qC rfl rfl (left_spec4 _ rb db (R.plus bs) _ hr2.ok) ?_; rintro v ρ' L' hle ⟨rfl, rfl, rfl⟩ <;> (try simp only [List.cons_append, List.nil_append, List.append_eq, hpl])) | (refine i_op ?_; first | (refine i_qq ?_; refine qQ ?_) | refine qEf ?_) | refine tl_nil ?_ | (refine i_tc ?_; refine qTc ?_) | (refine i_te ?_; refine qTe ?_) | intro _)
        refine te_round_g (j + 1, _, R.plus bs, w2, k2, D2) (⟨⟨hlt, by omega⟩, Hp.le_trans hle2' hl3, hk2, hr2, g2, hh, by show (R.ents ++ [bs]).length ≤ j + 1; simp only [List.length_append, List.length_singleton]; omega⟩) ev_le ev_le rfl tk inferInstance (by first | omega | (dsimp only; omega))
      · repeat' (first | (refine tl_is (.func 24) ?_; refine qC rfl rfl (sects_nat _ m (by omega)) ?_; rintro v ρ' L' hle ⟨rfl, rfl, rfl⟩ <;> (try simp only [List.cons_append, List.nil_append, List.append_eq])) | (refine tl_is (.func 25) ?_; refine qC rfl rfl (gfull _ rb db R w hr k D hk g [] _ m _ bs hs2.rd hmc (by omega) hfit) ?_; rintro v2 ρ3 L2 hle2 ⟨rfl, hl3, k2, w2, hk2, hr2, rfl⟩; try simp only [List.cons_append, List.nil_append, List.append_assoc]) | (refine tl_is (.func 23) ?_; refine qC rfl rfl (left_spec4 _ rb db R _ hr2.ok) ?_; rintro v ρ' L' hle ⟨rfl, rfl, rfl⟩ <;> (try simp only [List.cons_append, List.nil_append, List.append_eq])) | (refine i_op ?_; first | (refine i_qq ?_; refine qQ ?_) | refine qEf ?_) | refine tl_nil ?_ | (refine i_tc ?_; refine qTc ?_) | (refine i_te ?_; refine qTe ?_) | intro _)
        refine te_round_g (j + 1, _, R, w2, k2, D) (⟨⟨hlt, by omega⟩, Hp.le_trans hle2' hl3, hk2, hr2, g, hh, Nat.le_succ_of_le hel⟩) ev_le ev_le rfl tk inferInstance (by first | omega | (dsimp only; omega))
  · repeat' (first | (refine i_op ?_; first | (refine i_qq ?_; refine qQ ?_) | refine qEf ?_) | refine tl_nil ?_ | (refine i_tc ?_; refine qTc ?_) | (refine i_te ?_; refine qTe ?_) | intro _)
    repeat' (first | (refine tl_is (.func 26) ?_; refine qC rfl rfl (all_spec _ rb db R w hr) ?_; rintro v8 ρ8 L8 hle8 ⟨hl8, els8, sp8, hown8, hb8, he8, rfl⟩; obtain ⟨a8, c8, rfl, _⟩ := hown8.slice; have hel8 : els8.length = R.ents.length := (by have := congrArg List.length he8; simpa using this); simp only [hel8]; try simp only [List.cons_append, List.nil_append, List.append_assoc]) | (refine i_op ?_; first | (refine i_qq ?_; refine qQ ?_) | refine qEf ?_) | refine tl_nil ?_ | (refine i_tc ?_; refine qTc ?_) | (refine i_te ?_; refine qTe ?_) | intro _)
    repeat' (first | (refine tl_is (.func 27) ?_; refine qC rfl rfl (gcut _ rb db R w (hr.mono hl8) k D hk g [] none 0 0 [] SIn.nil.rd R.ents.length (Nat.le_refl _) htn (by omega) hnx) ?_; rintro v9 ρ9 L9 hle9 ⟨rfl, hl9, k9, D9, w9, hk9, hr9, g9, rfl⟩; try simp only [List.cons_append, List.nil_append, List.append_assoc]) | (refine tl_is (.func 23) ?_; refine qC rfl rfl (left_spec4 _ rb db (R.minus R.ents.length []) _ hr9.ok) ?_; rintro v ρ' L' hle ⟨rfl, rfl, rfl⟩ <;> (try simp only [List.cons_append, List.nil_append, List.append_eq, hle0])) | (refine tl_is (.func 28) ?_; refine qC rfl rfl (first_spec _ rb db (R.minus R.ents.length []) _) ?_; rintro v ρ' L' hle ⟨rfl, rfl, rfl⟩ <;> (try simp only [List.cons_append, List.nil_append, List.append_eq, hfi0])) | (refine i_op ?_; first | (refine i_qq ?_; refine qQ ?_) | refine qEf ?_) | refine tl_nil ?_ | (refine i_tc ?_; refine qTc ?_) | (refine i_te ?_; refine qTe ?_) | intro _)
    have hfin := Hp.le_trans hl1 (Hp.le_trans hl2 (Hp.le_trans hle2' (Hp.le_trans hl8 hl9)))
    exact qE (L' := []) ⟨rfl, hfin, rfl⟩
end Go.Proofs.E

namespace Go.Proofs.E
open Go
set_option linter.unusedVariables false
set_option linter.unusedSimpArgs false
set_option linter.unusedSectionVars false
set_option maxRecDepth 4000
set_option maxHeartbeats 1000000
attribute [local irreducible] Yl TL TC TE Spec YSpec R1 Hp.le EnvLe TS TR YS Stays
theorem read_nil (ρ : Hp) (i : Int) : Spec Try.prog 54 [.pointer none, .int .i64 i] ρ [] (fun v ρ' L' => v = .tuple ⟨[bv zblk, .int .i64 1]⟩ ∧ ρ' = ρ ∧ L' = []) := by
  have hz0 : (List.replicate 64 (Value.int .u8 0)).length = 64 := by rfl
  refine spec_enter Try.func54 rfl rfl rfl fun u R => ?_
  simp only [argsE, List.cons_append, List.nil_append, bv, ← zblk_cells]
  repeat' (first | (refine tl_is (.func 112) ?_; refine qC rfl rfl (does_nil _ _ _ _) ?_; rintro v ρ' L' hle ⟨rfl, rfl, rfl⟩ <;> (try simp only [List.cons_append, List.nil_append, List.append_eq])) | (refine i_op ?_; first | (refine i_qq ?_; refine qQ ?_) | refine qEf ?_) | refine tl_nil ?_ | (refine i_tc ?_; refine qTc ?_) | (refine i_te ?_; refine qTe ?_) | intro _)
  exact qE ⟨rfl, rfl, rfl⟩
theorem open_nil (ρ : Hp) : Spec Try.prog 41 [.pointer none] ρ [] (fun v ρ' L' => v = .tuple ⟨[.pointer none, .int .i64 1]⟩ ∧ ρ' = ρ ∧ L' = []) := by
  refine spec_enter Try.func41 rfl rfl rfl fun u R => ?_
  simp only [argsE, List.cons_append, List.nil_append]
  repeat' (first | (refine i_op ?_; first | (refine i_qq ?_; refine qQ ?_) | refine qEf ?_) | refine tl_nil ?_ | (refine i_tc ?_; refine qTc ?_) | (refine i_te ?_; refine qTe ?_) | intro _)
  refine tc_loop_g [(0, _), (4, _)] (fun (ζ : (Nat)) => [(13, .int .i64 ζ), (2, .pointer none), (3, .int .i64 0)]) (fun (ζ : (Nat)) => ρ) (fun (ζ : (Nat)) => []) (fun (ζ : (Nat)) => ζ = 0) (fun (ζ : (Nat)) => 0) (0) (rfl) ev_le ev_le rfl tk ?_
  rintro j hI
  try simp only [List.cons_append, List.nil_append, List.append_assoc, List.append_eq] at hI ⊢
  try dsimp only at hI ⊢
  subst hI
  repeat' (first | (refine tl_is (.func 54) ?_; refine qC rfl rfl (read_nil _ _) ?_; rintro v ρ' L' hle ⟨rfl, rfl, rfl⟩ <;> (try simp only [List.cons_append, List.nil_append, List.append_eq])) | (refine i_op ?_; first | (refine i_qq ?_; refine qQ ?_) | refine qEf ?_) | refine tl_nil ?_ | (refine i_tc ?_; refine qTc ?_) | (refine i_te ?_; refine qTe ?_) | intro _)
  exact qE ⟨rfl, rfl, rfl⟩
theorem append_nil4 (ρ : Hp) (a : Option Addr) (n c : Nat) : Spec Try.prog 25 [.pointer none, .slice a n c] ρ [] (fun v ρ' L' => v = .int .i64 1 ∧ ρ' = ρ ∧ L' = []) := by
  refine spec_enter Try.func25 rfl rfl rfl fun u R => ?_
  simp only [argsE, List.cons_append, List.nil_append]
  repeat' (first | (refine tl_is (.func 78) ?_; refine qC rfl rfl (works_nil _) ?_; rintro v ρ' L' hle ⟨rfl, rfl, rfl⟩ <;> (try simp only [List.cons_append, List.nil_append, List.append_eq])) | (refine i_op ?_; first | (refine i_qq ?_; refine qQ ?_) | refine qEf ?_) | refine tl_nil ?_ | (refine i_tc ?_; refine qTc ?_) | (refine i_te ?_; refine qTe ?_) | intro _)
  exact qE ⟨rfl, rfl, rfl⟩
theorem cut_nil4 (ρ : Hp) (m : Int) (a : Option Addr) (n c : Nat) : Spec Try.prog 27 [.pointer none, .int .i64 m, .slice a n c] ρ [] (fun v ρ' L' => v = .int .i64 1 ∧ ρ' = ρ ∧ L' = []) := by
  refine spec_enter Try.func27 rfl rfl rfl fun u R => ?_
  simp only [argsE, List.cons_append, List.nil_append]
  repeat' (first | (refine tl_is (.func 78) ?_; refine qC rfl rfl (works_nil _) ?_; rintro v ρ' L' hle ⟨rfl, rfl, rfl⟩ <;> (try simp only [List.cons_append, List.nil_append, List.append_eq])) | (refine i_op ?_; first | (refine i_qq ?_; refine qQ ?_) | refine qEf ?_) | refine tl_nil ?_ | (refine i_tc ?_; refine qTc ?_) | (refine i_te ?_; refine qTe ?_) | intro _)
  exact qE ⟨rfl, rfl, rfl⟩
theorem sectsR_spec (ρ : Hp) (n : Nat) (hn : n ≤ 4611686018427387904) : Spec Try.prog 42 [.int .i64 n] ρ [] (fun v ρ' L' => v = .int .i64 (sects n : Nat) ∧ ρ' = ρ ∧ L' = []) := by
  refine spec_enter Try.func42 rfl rfl rfl fun u R => ?_
  simp only [argsE, List.cons_append, List.nil_append]
  have e : max 1 (IntKind.i64.wrap (((n : Int) + 51).tdiv 52)) = ((sects n : Nat) : Int) := by
    rw [Int.tdiv_eq_ediv_of_nonneg (by omega), wrap_id (by simp only [lo, hi]; omega)]
    unfold sects; omega
  repeat' (first | (refine i_op ?_; first | (refine i_qq ?_; refine qQ ?_) | refine qEf ?_) | refine tl_nil ?_ | (refine i_tc ?_; refine qTc ?_) | (refine i_te ?_; refine qTe ?_) | intro _)
  rw [e]
  exact qE ⟨rfl, rfl, rfl⟩
theorem sectsR_neg (ρ : Hp) (n : Int) (hn : n < 0) : Spec Try.prog 42 [.int .i64 n] ρ [] (fun v ρ' L' => v = .int .i64 0 ∧ ρ' = ρ ∧ L' = []) := by
  refine spec_enter Try.func42 rfl rfl rfl fun u R => ?_
  simp only [argsE, List.cons_append, List.nil_append]
  repeat' (first | (refine i_op ?_; first | (refine i_qq ?_; refine qQ ?_) | refine qEf ?_) | refine tl_nil ?_ | (refine i_tc ?_; refine qTc ?_) | (refine i_te ?_; refine qTe ?_) | intro _)
  exact qE ⟨rfl, rfl, rfl⟩
theorem sects_int (ρ : Hp) (i : Int) (h0 : 0 ≤ i) (h1 : i ≤ 4611686018427387904) : Spec Try.prog 24 [.int .i64 i] ρ [] (fun v ρ' L' => v = .int .i64 (sects i.toNat : Nat) ∧ ρ' = ρ ∧ L' = []) := by
  obtain ⟨m, rfl⟩ : ∃ m : Nat, i = m := ⟨i.toNat, by omega⟩
  rw [Int.toNat_natCast]; exact sects_spec ρ m (by omega)
theorem sectsR_int (ρ : Hp) (i : Int) (h0 : 0 ≤ i) (h1 : i ≤ 4611686018427387904) : Spec Try.prog 42 [.int .i64 i] ρ [] (fun v ρ' L' => v = .int .i64 (sects i.toNat : Nat) ∧ ρ' = ρ ∧ L' = []) := by
  obtain ⟨m, rfl⟩ : ∃ m : Nat, i = m := ⟨i.toNat, by omega⟩
  rw [Int.toNat_natCast]; exact sectsR_spec ρ m (by omega)
/-- an event, and where its parts lie -/
structure EvV where
  kind : Int
  n : Int
  b : BSl
  note : BSl
  ka : Option Addr
  kn : Nat
  kp : Nat
  ks : List Bool
abbrev evC (e : EvV) : List Value := [.int .i64 e.kind, .int .i64 e.n, slv e.b, slv e.note, .slice e.ka e.kn e.kp]
structure EvIn (ρ : Hp) (e : EvV) : Prop where
  n : -9223372036854775808 ≤ e.n ∧ e.n ≤ 9223372036854775807
  kind : -9223372036854775808 ≤ e.kind ∧ e.kind ≤ 9223372036854775807
  b : BIn ρ e.b
  bbg : e.b.n ≤ 9223372036854775807
  note : BIn ρ e.note
  nb : e.note.n ≤ 9223372036854775807
  ks : SIn ρ bb e.ka e.kn e.ks
  kc : e.kn ≤ e.kp
  kb : e.kn ≤ 9223372036854775807
theorem EvIn.mono {ρ ρ' : Hp} {e : EvV} (h : EvIn ρ e) (hle : ρ.le ρ') : EvIn ρ' e := ⟨h.n, h.kind, h.b.mono hle, h.bbg, h.note.mono hle, h.nb, h.ks.mono hle, h.kc, h.kb⟩
theorem few4_spec (ρ : Hp) (e : EvV) (h : EvIn ρ e) :
    Spec Try.prog 43 [.agg ⟨evC e⟩] ρ [] (fun v ρ' L' => ρ' = ρ ∧ ∃ a1 c1 s1 a2 c2 s2 a3 c3 s3, v = .agg ⟨[.int .i64 e.kind, .int .i64 e.n, .slice a1 (min e.b.n 400) c1, .slice a2 (min e.note.n 33) c2, .slice a3 (min e.kn 40) c3]⟩ ∧
      OwnS (.slice a1 (min e.b.n 400) c1) (min e.b.n 400) ((e.b.l.take (min e.b.n 400)).map u8c) s1 1 ∧ OwnS (.slice a2 (min e.note.n 33) c2) (min e.note.n 33) ((e.note.l.take (min e.note.n 33)).map u8c) s2 1 ∧ OwnS (.slice a3 (min e.kn 40) c3) (min e.kn 40) ((e.ks.take (min e.kn 40)).map bb) s3 1 ∧
      L' = [ownC (.slice a1 (min e.b.n 400) c1) ((e.b.l.take (min e.b.n 400)).map u8c) s1 5, ownC (.slice a2 (min e.note.n 33) c2) ((e.note.l.take (min e.note.n 33)).map u8c) s2 5, ownC (.slice a3 (min e.kn 40) c3) ((e.ks.take (min e.kn 40)).map bb) s3 4]) := by
  have hl1 := h.b.s.len
  have hl2 := h.note.s.len
  have hl3 := h.ks.len
  have hc1 := h.b.le
  have hc2 := h.note.le
  have hc3 := h.kc
  have hb1 := h.bbg
  have hb2 := h.nb
  have hb3 := h.kb
  have m1 : (min (e.b.n : Int) 400).toNat = min e.b.n 400 := by omega
  have m2 : (min (e.note.n : Int) 33).toNat = min e.note.n 33 := by omega
  have m3 : (min (e.kn : Int) 40).toNat = min e.kn 40 := by omega
  have t1 := h.b.s.take (hi' := min e.b.n 400) (Nat.min_le_left _ _)
  have t2 := h.note.s.take (hi' := min e.note.n 33) (Nat.min_le_left _ _)
  have t3 := h.ks.take (hi' := min e.kn 40) (Nat.min_le_left _ _)
  have q1 : min e.b.n 400 ≤ 400 := Nat.min_le_right _ _
  have q2 : min e.note.n 33 ≤ 33 := Nat.min_le_right _ _
  have q3 : min e.kn 40 ≤ 40 := Nat.min_le_right _ _
  have t1l := t1.len
  have t2l := t2.len
  have t3l := t3.len
  refine spec_enter Try.func43 rfl rfl rfl fun u R => ?_
  simp only [argsE, List.cons_append, List.nil_append]
  repeat' (first | (simp only [m1]; refine tl_app (n := 0) (xs := []) (sp := []) (ys := (e.b.l.take (min e.b.n 400)).map u8c) (sz := 1) rfl rfl (OwnS.zero _ 1) (hR := rem_here') t1.srcV (by simpa using t1l) (u8c_one _) (by decide) rfl (by omega) (by omega) rfl (fun v1 sp1 hown1 => ?_); simp only [Nat.zero_add, List.nil_append] at hown1 ⊢; obtain ⟨a1, c1, rfl, _⟩ := hown1.slice) | (refine i_op ?_; first | (refine i_qq ?_; refine qQ ?_) | refine qEf ?_) | refine tl_nil ?_ | (refine i_tc ?_; refine qTc ?_) | (refine i_te ?_; refine qTe ?_) | intro _)
  repeat' (first | (simp only [m2]; refine tl_app (n := 0) (xs := []) (sp := []) (ys := (e.note.l.take (min e.note.n 33)).map u8c) (sz := 1) rfl rfl (OwnS.zero _ 1) (hR := rem_here') t2.srcV (by simpa using t2l) (u8c_one _) (by decide) rfl (by omega) (by omega) rfl (fun v2 sp2 hown2 => ?_); simp only [Nat.zero_add, List.nil_append] at hown2 ⊢; obtain ⟨a2, c2, rfl, _⟩ := hown2.slice) | (refine i_op ?_; first | (refine i_qq ?_; refine qQ ?_) | refine qEf ?_) | refine tl_nil ?_ | (refine i_tc ?_; refine qTc ?_) | (refine i_te ?_; refine qTe ?_) | intro _)
  repeat' (first | (simp only [m3]; refine tl_app (n := 0) (xs := []) (sp := []) (ys := (e.ks.take (min e.kn 40)).map bb) (sz := 1) rfl rfl (OwnS.zero _ 1) (hR := rem_here') t3.srcV (by simpa using t3l) (bb_one _) (by decide) rfl (by omega) (by omega) rfl (fun v3 sp3 hown3 => ?_); simp only [Nat.zero_add, List.nil_append] at hown3 ⊢; obtain ⟨a3, c3, rfl, _⟩ := hown3.slice) | (refine i_op ?_; first | (refine i_qq ?_; refine qQ ?_) | refine qEf ?_) | refine tl_nil ?_ | (refine i_tc ?_; refine qTc ?_) | (refine i_te ?_; refine qTe ?_) | intro _)
  exact qE (L' := [ownC (.slice a1 (min e.b.n 400) c1) ((e.b.l.take (min e.b.n 400)).map u8c) sp1 5, ownC (.slice a2 (min e.note.n 33) c2) ((e.note.l.take (min e.note.n 33)).map u8c) sp2 5, ownC (.slice a3 (min e.kn 40) c3) ((e.ks.take (min e.kn 40)).map bb) sp3 4]) ⟨rfl, a1, c1, sp1, a2, c2, sp2, a3, c3, sp3, rfl, hown1, hown2, hown3, rfl⟩
theorem nils4_spec (ρ : Hp) (e : EvV) (he : EvIn ρ e) (a : Option Addr) (n c : Nat) (l : List Int) (hl : SIn ρ (fun i => .int .i64 i) a n l) (hin : ∀ i ∈ l, -9223372036854775808 ≤ i ∧ i ≤ 9223372036854775807) (hbig : n ≤ 9223372036854775807) :
    Spec Try.prog 8 [.agg ⟨evC e⟩, .slice a n c] ρ [] (fun v ρ' L' => v = .bool true ∧ ρ.le ρ' ∧ L' = []) := by
  have hlen := hl.len
  have hn := fun ρ => nils_spec ρ
  refine spec_enter Try.func8 rfl rfl rfl fun u R => ?_
  simp only [argsE, List.cons_append, List.nil_append]
  repeat' (first | (refine tl_is (.func 21) ?_; refine qC rfl rfl (wakes4_spec _) ?_; rintro v ρ' L' hle ⟨rfl, hl1, rfl⟩ <;> (try simp only [List.cons_append, List.nil_append, List.append_eq])) | (refine tl_is (.func 40) ?_; refine qC rfl rfl (format_nil _ _) ?_; rintro v ρ' L' hle ⟨rfl, rfl, rfl⟩ <;> (try simp only [List.cons_append, List.nil_append, List.append_eq])) | (refine tl_is (.func 41) ?_; refine qC rfl rfl (open_nil _) ?_; rintro v ρ' L' hle ⟨rfl, rfl, rfl⟩ <;> (try simp only [List.cons_append, List.nil_append, List.append_eq])) | (refine i_op ?_; first | (refine i_qq ?_; refine qQ ?_) | refine qEf ?_) | refine tl_nil ?_ | (refine i_tc ?_; refine qTc ?_) | (refine i_te ?_; refine qTe ?_) | intro _)
  rename_i be
  refine tc_loop_g [(2, _), (36, _), (37, _)] (fun (ζ : (Nat)) => [(38, .int .i64 ζ), (4, .bool false)]) (fun (ζ : (Nat)) => ρ') (fun (ζ : (Nat)) => []) (fun (ζ : (Nat)) => ζ ≤ n) (fun (ζ : (Nat)) => n - ζ) (0) (Nat.zero_le _) ev_le ev_le rfl tk ?_
  rintro j hI
  try simp only [List.cons_append, List.nil_append, List.append_assoc, List.append_eq] at hI ⊢
  try dsimp only at hI ⊢
  by_cases hlt : j < n
  · obtain ⟨b, off, C, T, fr, rfl, hb, hc⟩ := (hl.mono hl1).get (show j < l.length by omega)
    have hi := hin _ (List.getElem_mem (show j < l.length by omega))
    generalize l[j]'(by omega) = i at *
    by_cases h20 : j < 20
    · by_cases hbg : i < 1048576
      · by_cases h0 : i < 0
        · repeat' (first | (refine tl_is (.func 24) ?_; refine qC rfl rfl (sects_neg _ i h0) ?_; rintro v ρ' L' hle ⟨rfl, rfl, rfl⟩ <;> (try simp only [List.cons_append, List.nil_append, List.append_eq])) | (refine tl_is (.func 42) ?_; refine qC rfl rfl (sectsR_neg _ i h0) ?_; rintro v ρ' L' hle ⟨rfl, rfl, rfl⟩ <;> (try simp only [List.cons_append, List.nil_append, List.append_eq])) | (refine i_op ?_; first | (refine i_qq ?_; refine qQ ?_) | refine qEf ?_) | refine tl_nil ?_ | (refine i_tc ?_; refine qTc ?_) | (refine i_te ?_; refine qTe ?_) | intro _)
          refine te_round_g (j + 1) (hlt) ev_le ev_le rfl tk inferInstance (by first | omega | (dsimp only; omega))
        · repeat' (first | (refine tl_is (.func 24) ?_; refine qC rfl rfl (sects_int _ i (by omega) (by omega)) ?_; rintro v ρ' L' hle ⟨rfl, rfl, rfl⟩ <;> (try simp only [List.cons_append, List.nil_append, List.append_eq])) | (refine tl_is (.func 42) ?_; refine qC rfl rfl (sectsR_int _ i (by omega) (by omega)) ?_; rintro v ρ' L' hle ⟨rfl, rfl, rfl⟩ <;> (try simp only [List.cons_append, List.nil_append, List.append_eq])) | (refine i_op ?_; first | (refine i_qq ?_; refine qQ ?_) | refine qEf ?_) | refine tl_nil ?_ | (refine i_tc ?_; refine qTc ?_) | (refine i_te ?_; refine qTe ?_) | intro _)
          refine te_round_g (j + 1) (hlt) ev_le ev_le rfl tk inferInstance (by first | omega | (dsimp only; omega))
      · repeat' (first | (refine i_op ?_; first | (refine i_qq ?_; refine qQ ?_) | refine qEf ?_) | refine tl_nil ?_ | (refine i_tc ?_; refine qTc ?_) | (refine i_te ?_; refine qTe ?_) | intro _)
        refine te_round_g (j + 1) (hlt) ev_le ev_le rfl tk inferInstance (by first | omega | (dsimp only; omega))
    · repeat' (first | (refine i_op ?_; first | (refine i_qq ?_; refine qQ ?_) | refine qEf ?_) | refine tl_nil ?_ | (refine i_tc ?_; refine qTc ?_) | (refine i_te ?_; refine qTe ?_) | intro _)
      refine te_round_g (j + 1) (hlt) ev_le ev_le rfl tk inferInstance (by first | omega | (dsimp only; omega))
  · repeat' (first | (refine tl_is (.func 43) ?_; refine qC rfl rfl (few4_spec _ e (he.mono hl1)) ?_; rintro v2 ρ2 L2 hle2 ⟨rfl, a1, c1, s1, a2, c2, s2, a3, c3, s3, rfl, o1, o2, o3, rfl⟩; simp only [List.cons_append, List.nil_append]) | (refine tl_is (.func 25) ?_; refine qC rfl rfl (append_nil4 _ _ _ _) ?_; rintro v ρ' L' hle ⟨rfl, rfl, rfl⟩ <;> (try simp only [List.cons_append, List.nil_append, List.append_eq])) | (refine tl_is (.func 27) ?_; refine qC rfl rfl (cut_nil4 _ _ _ _ _) ?_; rintro v ρ' L' hle ⟨rfl, rfl, rfl⟩ <;> (try simp only [List.cons_append, List.nil_append, List.append_eq])) | (refine tl_is (.func 28) ?_; refine qC rfl rfl ((hn _).1) ?_; rintro v ρ' L' hle ⟨rfl, rfl, rfl⟩ <;> (try simp only [List.cons_append, List.nil_append, List.append_eq])) | (refine tl_is (.func 23) ?_; refine qC rfl rfl ((hn _).2.1) ?_; rintro v ρ' L' hle ⟨rfl, rfl, rfl⟩ <;> (try simp only [List.cons_append, List.nil_append, List.append_eq])) | (refine tl_is (.func 45) ?_; refine qC rfl rfl ((hn _).2.2.1) ?_; rintro v ρ' L' hle ⟨rfl, rfl, rfl⟩ <;> (try simp only [List.cons_append, List.nil_append, List.append_eq])) | (refine tl_is (.func 44) ?_; refine qC rfl rfl ((hn _).2.2.2.1) ?_; rintro v ρ' L' hle ⟨rfl, rfl, rfl⟩ <;> (try simp only [List.cons_append, List.nil_append, List.append_eq])) | (refine tl_is (.func 26) ?_; refine qC rfl rfl ((hn _).2.2.2.2) ?_; rintro v ρ' L' hle ⟨rfl, rfl, rfl⟩ <;> (try simp only [List.cons_append, List.nil_append, List.append_eq])) | (refine i_op ?_; first | (refine i_qq ?_; refine qQ ?_) | refine qEf ?_) | refine tl_nil ?_ | (refine i_tc ?_; refine qTc ?_) | (refine i_te ?_; refine qTe ?_) | intro _)
    exact qE (L' := []) ⟨rfl, hl1, rfl⟩
end Go.Proofs.E

namespace Go.Proofs.E
open Go Go.RowKit
set_option linter.unusedVariables false
set_option linter.unusedSimpArgs false
set_option linter.unusedSectionVars false
set_option maxRecDepth 8000
section
variable {H : Type} {enc : TypeId × Value → H} {w : World}
theorem opn_boolK : Opn enc Try.prog w 4 (fun cs (b : Bool) => cs = [bb b] ∧ True) := (opn_bool Try.underlying4).mono (fun cs b h => ⟨b, h, trivial⟩)
theorem opn_intK : Opn enc Try.prog w 3 (fun cs (i : Int) => cs = [(fun i => Value.int .i64 i) i] ∧ (-9223372036854775808 ≤ i ∧ i ≤ 9223372036854775807)) := (opn_int Try.underlying3).mono (fun cs b h => ⟨b, h.1, h.2⟩)
theorem opn_bytesB : Opn enc Try.prog w 22 (fun cs (e : BSl) => cs = [slv e] ∧ (BIn (hpOf w) e ∧ e.n ≤ 9223372036854775807)) := opn_bsl
theorem opn_boolsK : Opn enc Try.prog w 68 (fun cs (s : Option Addr × Nat × Nat × List Bool) => cs = [.slice s.1 s.2.1 s.2.2.1] ∧ (SIn (hpOf w) bb s.1 s.2.1 s.2.2.2 ∧ s.2.1 ≤ s.2.2.1 ∧ s.2.1 ≤ 9223372036854775807)) :=
  (opn_slice (sz := 1) Try.underlying68 (by kernel_rfl) (by decide) opn_boolK).mono (fun cs s h => by
    obtain ⟨h1, _, h3, h4⟩ := aIn_ofK (g := fun b : Bool => [bb b]) (P := fun _ => True) (fun _ => rfl) h
    exact ⟨s, h.cells, sIn_of1 h1, h3, h4⟩)
theorem opn_event : Opn enc Try.prog w 70 (fun cs (e : EvV) => cs = evC e ∧ EvIn (hpOf w) e) := fun fuel cs x h => by
  obtain ⟨hl, hf⟩ := opn_fields Try.underlying70 h
  have hl : cs.length = 5 := by rw [hl]; kernel_rfl
  obtain ⟨c0, c1, c2, c3, c4, rfl⟩ : ∃ c0 c1 c2 c3 c4, cs = [c0, c1, c2, c3, c4] := by
    match cs, hl with
    | [c0, c1, c2, c3, c4], _ => exact ⟨c0, c1, c2, c3, c4, rfl⟩
  obtain ⟨k, h0, k0, k1⟩ := opn_field h Try.underlying70 0 0 1 rfl rfl rfl (by kernel_rfl) (opn_int Try.underlying3)
  obtain ⟨n, h1, n0, n1⟩ := opn_field h Try.underlying70 1 1 1 rfl rfl rfl (by kernel_rfl) (opn_int Try.underlying3)
  obtain ⟨b, h2, b0, b1⟩ := opn_field h Try.underlying70 2 2 1 rfl rfl rfl (by kernel_rfl) opn_bytesB
  obtain ⟨t, h3, t0, t1⟩ := opn_field h Try.underlying70 3 3 1 rfl rfl rfl (by kernel_rfl) opn_bytesB
  obtain ⟨⟨ka, kn, kp, ks⟩, h4, s0, s1, s2⟩ := opn_field h Try.underlying70 4 4 1 rfl rfl rfl (by kernel_rfl) opn_boolsK
  simp only [List.drop_zero, List.drop_succ_cons, List.take_succ_cons, List.take_zero, List.cons.injEq, and_true] at h0 h1 h2 h3 h4
  subst h0; subst h1; subst h2; subst h3; subst h4
  exact ⟨⟨k, n, b, t, ka, kn, kp, ks⟩, rfl, ⟨⟨n0, n1⟩, ⟨k0, k1⟩, b0, b1, t0, t1, s0, s1, s2⟩⟩
end
end Go.Proofs.E

namespace Go.Proofs.Ytkgenlmcdbafmaa.RingNilsLaw
open Go Go.ChangeShapes Go.WideShapes Go.ChangeAt Go.RowKit Go.Proofs.E
set_option linter.unusedVariables false

theorem own : ownKnob Try.prog.godebug = none := by kernel_rfl
theorem laidOut : laidOutB Try.prog = true := by kernel_rfl

set_option maxRecDepth 100000 in
theorem lifted (os : Os) (started : os.Started) (H : Type) (enc : TypeId × Value → H) :
    ReturnsInHanded {} Try.checked os 8 .any (Rows.ringNilsSpec.pre6 enc Try.prog Try.f8 Rows.ringNilsRow.domain false) (Rows.ringNilsSpec.post enc Try.prog Try.f8 false true false false) := by
  refine returnsInHanded_of_change_sized (C := Try.checked) own started (by kernel_rfl) Try.func8
    (ChangeSpec.witness6 (enc := enc) (C := Try.checked) false ⟨#[], #[.agg #[.int .i64 0, .int .i64 0, .slice none 0 0, .slice none 0 0, .slice none 0 0], .slice none 0 0], []⟩ 8 (by kernel_rfl) (by kernel_rfl) (by kernel_rfl) (by kernel_rfl)) ?_
  intro W base args ds gs before hval0 hW hcnd hsz0 _
  have hval : ∀ (j : Nat) t v, Try.f8.params[j]? = some t → args[j]? = some v → Value.okWide Try.prog W .any base t v := hval0
  have hW' := hW
  obtain ⟨p, q, hA0, hV, rfl, hfz, hnd⟩ := hW
  have hA : DataW.TrodAll enc Try.prog W 0 (fun _ => true) true Try.f8.params.toList args.toList ds p := hA0
  have hsz : (DataW.weightsEach Try.prog (Try.f8.params.toList ++ Rows.ringNilsSpec.plain.varTypes Try.prog) (ds ++ gs)).all (· ≤ reachBytes) = true := hsz0
  rw [Try.params8] at hA hval hsz
  obtain ⟨v0, vs0, d0, ds0, p0, q0, hargs, rfl, rfl, h0, r0⟩ := trodAll_cons hA
  obtain ⟨v1, vs1, d1, ds1, p1, q1, rfl, rfl, rfl, h1, r1⟩ := trodAll_cons r0
  obtain ⟨rfl, rfl, rfl⟩ := trodAll_nil r1
  obtain rfl : args = #[v0, v1] := by cases args; simp_all
  obtain ⟨rfl, rfl⟩ := trodVars_none hV
  have k0 := h0
  have k1 := h1
  have lt0 : ∀ x ∈ p0, x.block < W.heap.size := by obtain ⟨m, hm⟩ := k0; exact DataW.trod_lt m _ _ _ hm
  have lt1 : ∀ x ∈ p1, x.block < W.heap.size := by obtain ⟨m, hm⟩ := k1; exact DataW.trod_lt m _ _ _ hm
  obtain ⟨cs0, rfl, _⟩ := okWide_struct Try.underlying70 (hval 0 70 v0 rfl rfl)
  obtain ⟨o0, e0, ek0⟩ := opn_event _ _ _ h0.choose_spec
  obtain rfl : cs0 = ⟨evC o0⟩ := by
    cases cs0; simp only [Value.cells] at e0; rw [e0]
  obtain ⟨a1, n1, c1, rfl⟩ := okWide_slice Try.underlying71 (hval 1 71 v1 rfl rfl)
  have b1 := top_slice hsz (j := 1) rfl rfl Try.underlying71 k1 rfl
  have bb1 : Try.prog.bytesOf 3 = 8 := by kernel_rfl
  rw [bb1] at b1
  simp only [reachBytes] at b1
  obtain ⟨s1, e1⟩ := (opn_slice (sz := 1) Try.underlying71 (by kernel_rfl) (by decide) opn_intK) _ _ _ h1.choose_spec
  obtain ⟨⟨y1, m1, z1, x1⟩, ec1⟩ : ∃ s, s = s1 := ⟨s1, rfl⟩
  subst ec1
  have ec1 := e1.cells
  simp only [Value.cells, List.cons.injEq, Value.slice.injEq, and_true] at ec1
  obtain ⟨rfl, rfl, rfl⟩ := ec1
  clear hA0 hval0
  obtain ⟨hA1, hP1, hc1, hb1⟩ := aIn_ofK (g := fun i : Int => [(fun i => Value.int .i64 i) i]) (P := fun i => -9223372036854775808 ≤ i ∧ i ≤ 9223372036854775807) (fun x => rfl) e1
  refine (Spec.law (nils4_spec (hpOf W) o0 ek0 a1 n1 c1 x1 (sIn_of1 hA1) hP1 hb1)).mono fun e W' ⟨he, bel⟩ => ?_
  subst he
  exact ⟨_, rfl, _, _, _, [], _, [], hW', trodAll_mk1 (shut_bool Try.underlying4 _), (trodAll_cons_mk (Below.trod laidOut (by kernel_rfl) (of_decide_eq_true (by kernel_rfl)) k0 bel lt0) (trodAll_cons_mk (Below.trod laidOut (by kernel_rfl) (of_decide_eq_true (by kernel_rfl)) k1 bel lt1) trodAll_mk0)), rfl, bel.frame _, fun h => by cases h⟩

theorem over : Rows.ringNilsRow.holds Try.pinned (OpenSpec.ofChange Rows.ringNilsSpec) :=
  OpenClaim.holds_of_wide 8 Try.f8 rfl rfl rfl rfl rfl rfl rfl ⟨rfl, rfl, rfl, rfl, rfl⟩ rfl rfl rfl rfl rfl (by kernel_rfl) Try.func8 (by kernel_rfl)
    (of_decide_eq_true (by kernel_rfl)) (by unfold Func.isWrapper; first | (rw [if_pos (by decide +kernel)]; kernel_rfl) | (rw [if_neg (by decide +kernel)]; exact ⟨rfl, rfl⟩))
    (fun os started H enc _ => lifted os started H enc)

theorem proved : Rows.RingNilsSaid := over
end Go.Proofs.Ytkgenlmcdbafmaa.RingNilsLaw

