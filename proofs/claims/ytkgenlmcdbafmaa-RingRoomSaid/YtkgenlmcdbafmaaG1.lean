/- The ring of layer 4 is full just if there is no room; the law RingRoom. Part 1 of 1. -/
import Derived.Test.YtkgenlmcdbafmaaD5
import Derived.Test.YtkgenlmcdbafmaaRows
namespace Go.Proofs.E
open Go
set_option linter.unusedVariables false
set_option linter.unusedSimpArgs false
set_option linter.unusedSectionVars false
set_option maxRecDepth 4000
set_option maxHeartbeats 1000000
attribute [local irreducible] Yl TL TC TE Spec YSpec R1 Hp.le EnvLe TS TR YS Stays
variable {H : Type} {enc : TypeId × Value → H} {w : World}
theorem opn_bsl : Opn enc Try.prog w 22 (fun cs (e : BSl) => cs = [slv e] ∧ (BIn (hpOf w) e ∧ e.n ≤ 9223372036854775807)) :=
  opn_bytesK.mono (fun cs s h => by
    obtain ⟨h1, h2, h3⟩ := sIn_ofK h
    exact ⟨⟨s.1, s.2.1, s.2.2.1, s.2.2.2⟩, h.cells, ⟨h1, h2⟩, h3⟩)
theorem kfresh (ρ : Hp) : Spec Try.prog 22 [] ρ [] (fun v ρ' L' => ρ.le ρ' ∧ ∃ rb db w k D, v = .tuple ⟨[.pointer (some ⟨rb, 0, none⟩), .pointer (some ⟨db, 0, none⟩), .bool true]⟩ ∧ DOk k D ∧ RIn ρ' ⟨freshH 20, [], 0, false⟩ w ∧ Good ⟨freshH 20, [], 0, false⟩ D ∧ L' = ringC rb db ⟨freshH 20, [], 0, false⟩ w ++ diskK db k D) := by
  refine spec_enter Try.func22 rfl rfl rfl fun u R => ?_
  simp only [argsE, List.cons_append, List.nil_append]
  repeat' (first | (refine tl_is (.func 51) ?_; refine qC rfl rfl (knew _ 22 (by omega) (by omega)) ?_; rintro v ρ' L' hle ⟨rfl, db, k0, rfl, hk0, rfl⟩ <;> (try simp only [List.cons_append, List.nil_append, List.append_eq])) | (refine tl_is (.func 40) ?_; refine qC rfl rfl (kformat _ 20 (by omega) (by omega) db k0 hk0) ?_; rintro v1 ρ1 L1 hle1 ⟨hl1, rb, w1, k1, D1, rfl, hk1, hr1, g1, rfl⟩; try simp only [List.cons_append, List.nil_append, List.append_assoc]) | (refine i_op ?_; first | (refine i_qq ?_; refine qQ ?_) | refine qEf ?_) | refine tl_nil ?_ | (refine i_tc ?_; refine qTc ?_) | (refine i_te ?_; refine qTe ?_) | intro _)
  exact qE (L' := ringC rb db ⟨freshH 20, [], 0, false⟩ w1 ++ diskK db k1 D1) ⟨hl1, rb, db, w1, k1, D1, rfl, hk1, hr1, g1, rfl⟩
theorem room_spec (ρ : Hp) (a : Option Addr) (n c : Nat) (l : List BSl) (hl : SIn ρ slv a n l) (hin : ∀ e ∈ l, BIn ρ e ∧ e.n ≤ 9223372036854775807) (hbig : n ≤ 9223372036854775807) :
    Spec Try.prog 4 [.slice a n c] ρ [] (fun v ρ' L' => v = .bool true ∧ ρ.le ρ' ∧ L' = []) := by
  have hlen := hl.len
  refine spec_enter Try.func4 rfl rfl rfl fun u R => ?_
  simp only [argsE, List.cons_append, List.nil_append]
  repeat' (first | (refine tl_is (.func 21) ?_; refine qC rfl rfl (wakes4_spec _) ?_; rintro v ρ' L' hle ⟨rfl, hl1, rfl⟩ <;> (try simp only [List.cons_append, List.nil_append, List.append_eq])) | (refine tl_is (.func 22) ?_; refine qC rfl rfl (kfresh _) ?_; rintro v1 ρ1 L1 hle1 ⟨hl2, rb, db, w1, k1, D1, rfl, hk1, hr1, g1, rfl⟩; try simp only [List.cons_append, List.nil_append, List.append_assoc]) | (refine i_op ?_; first | (refine i_qq ?_; refine qQ ?_) | refine qEf ?_) | refine tl_nil ?_ | (refine i_tc ?_; refine qTc ?_) | (refine i_te ?_; refine qTe ?_) | intro _)
  refine tc_loop_g [(2, _), (3, _), (20, _), (21, _)] (fun (ζ : (Nat) × (Hp) × (RgS) × (RW) × (DK) × (DS)) => [(22, .int .i64 ζ.1)]) (fun (ζ : (Nat) × (Hp) × (RgS) × (RW) × (DK) × (DS)) => ζ.2.1) (fun (ζ : (Nat) × (Hp) × (RgS) × (RW) × (DK) × (DS)) => ringC rb db ζ.2.2.1 ζ.2.2.2.1 ++ diskK db ζ.2.2.2.2.1 ζ.2.2.2.2.2) (fun (ζ : (Nat) × (Hp) × (RgS) × (RW) × (DK) × (DS)) => (ζ.1 ≤ n ∧ ζ.1 ≤ 40) ∧ ρ1.le ζ.2.1 ∧ DOk ζ.2.2.2.2.1 ζ.2.2.2.2.2 ∧ RIn ζ.2.1 ζ.2.2.1 ζ.2.2.2.1 ∧ Good ζ.2.2.1 ζ.2.2.2.2.2 ∧ ζ.2.2.1.h = freshH 20 ∧ ζ.2.2.1.ents.length ≤ ζ.1) (fun (ζ : (Nat) × (Hp) × (RgS) × (RW) × (DK) × (DS)) => n - ζ.1) ((0, ρ1, ⟨freshH 20, [], 0, false⟩, w1, k1, D1)) (⟨⟨Nat.zero_le _, Nat.zero_le _⟩, Hp.le_refl _, hk1, hr1, g1, rfl, Nat.le_refl _⟩) ev_le ev_le rfl tk ?_
  rintro ⟨j, ρ2, R, w, k, D⟩ hI
  try simp only [List.cons_append, List.nil_append, List.append_assoc, List.append_eq] at hI ⊢
  try dsimp only at hI ⊢
  obtain ⟨⟨hj, hj4⟩, hle2', hk, hr, g, hh, hel⟩ := hI
  have hnx : R.next < 1099511627776 := by unfold RgS.next; rw [hh]; simp only [freshH]; omega
  have htn : R.h.turn < 1073741824 := by rw [hh]; simp [freshH]
  have hsz20 : R.h.size = 20 := by rw [hh]; rfl
  have hok := hr.ok
  have hle0 : (((R.minus R.ents.length []).h.size - (R.minus R.ents.length []).used : Nat) : Int) = 20 := by
    have e1 : R.used - usedL (R.ents.take R.ents.length) = 0 := by rw [List.take_of_length_le (Nat.le_refl _), hok.used]; omega
    simp only [RgS.minus, RgS.cutH, Hd.cut, e1, hh, freshH]; rfl
  have hfi0 : (((R.minus R.ents.length []).h.first : Nat) : Int) = (R.ents.length : Int) + 1 := by
    simp only [RgS.minus, RgS.cutH, Hd.cut, hh, freshH]; omega
  by_cases hlt : j < n
  · obtain ⟨b, off, C, T, fr, rfl, hb, hc⟩ := (hl.mono (Hp.le_trans hl1 (Hp.le_trans hl2 hle2'))).get (show j < l.length by omega)
    obtain ⟨he, he9⟩ := hin _ (List.getElem_mem (show j < l.length by omega))
    replace he := he.mono (Hp.le_trans hl1 (Hp.le_trans hl2 hle2'))
    generalize l[j]'(by omega) = e at *
    have hel2 := he.s.len
    have hce := he.le
    by_cases h40 : j = 40
    · repeat' (first | (refine i_op ?_; first | (refine i_qq ?_; refine qQ ?_) | refine qEf ?_) | refine tl_nil ?_ | (refine i_tc ?_; refine qTc ?_) | (refine i_te ?_; refine qTe ?_) | intro _)
      repeat' (first | (refine tl_is (.func 26) ?_; refine qC rfl rfl (all_spec _ rb db R w hr) ?_; rintro v8 ρ8 L8 hle8 ⟨hl8, els8, sp8, hown8, hb8, he8, rfl⟩; obtain ⟨a8, c8, rfl, _⟩ := hown8.slice; have hel8 : els8.length = R.ents.length := (by have := congrArg List.length he8; simpa using this); simp only [hel8]; try simp only [List.cons_append, List.nil_append, List.append_assoc]) | (refine i_op ?_; first | (refine i_qq ?_; refine qQ ?_) | refine qEf ?_) | refine tl_nil ?_ | (refine i_tc ?_; refine qTc ?_) | (refine i_te ?_; refine qTe ?_) | intro _)
      repeat' (first | (refine tl_is (.func 27) ?_; refine qC rfl rfl (gcut _ rb db R w (hr.mono hl8) k D hk g [] none 0 0 [] SIn.nil.rd R.ents.length (Nat.le_refl _) htn (by omega) hnx) ?_; rintro v9 ρ9 L9 hle9 ⟨rfl, hl9, k9, D9, w9, hk9, hr9, g9, rfl⟩; try simp only [List.cons_append, List.nil_append, List.append_assoc]) | (refine tl_is (.func 23) ?_; refine qC rfl rfl (left_spec4 _ rb db (R.minus R.ents.length []) _ hr9.ok) ?_; rintro v ρ' L' hle ⟨rfl, rfl, rfl⟩ <;> (try simp only [List.cons_append, List.nil_append, List.append_eq, hle0])) | (refine tl_is (.func 28) ?_; refine qC rfl rfl (first_spec _ rb db (R.minus R.ents.length []) _) ?_; rintro v ρ' L' hle ⟨rfl, rfl, rfl⟩ <;> (try simp only [List.cons_append, List.nil_append, List.append_eq, hfi0])) | (refine i_op ?_; first | (refine i_qq ?_; refine qQ ?_) | refine qEf ?_) | refine tl_nil ?_ | (refine i_tc ?_; refine qTc ?_) | (refine i_te ?_; refine qTe ?_) | intro _)
      have hfin := Hp.le_trans hl1 (Hp.le_trans hl2 (Hp.le_trans hle2' (Hp.le_trans hl8 hl9)))
      exact qE (L' := []) ⟨rfl, hfin, rfl⟩
    · have hm : (min (e.n : Int) 400).toNat = min e.n 400 := by omega
      have hs2 := he.s.take (hi' := min e.n 400) (Nat.min_le_left _ _)
      have hbl : (e.l.take (min e.n 400)).length = min e.n 400 := by simp; omega
      have hm4 : min e.n 400 ≤ 400 := Nat.min_le_right _ _
      have hmc : min e.n 400 ≤ e.c := by omega
      repeat' (first | (refine tl_is (.func 23) ?_; refine qC rfl rfl (left_spec4 _ rb db R w hr.ok) ?_; rintro v ρ' L' hle ⟨rfl, rfl, rfl⟩ <;> (try simp only [List.cons_append, List.nil_append, List.append_eq, hm])) | (refine i_op ?_; first | (refine i_qq ?_; refine qQ ?_) | refine qEf ?_) | refine tl_nil ?_ | (refine i_tc ?_; refine qTc ?_) | (refine i_te ?_; refine qTe ?_) | intro _)
      generalize min e.n 400 = m at *
      generalize e.l.take m = bs at *
      by_cases hfit : sects m ≤ R.h.size - R.used
      · have hpl : (((R.plus bs).h.size - (R.plus bs).used : Nat) : Int) = ((R.h.size - R.used : Nat) : Int) - ((sects m : Nat) : Int) := by
          simp only [RgS.plus, hbl]; omega
        repeat' (first | (refine tl_is (.func 24) ?_; refine qC rfl rfl (sects_nat _ m (by omega)) ?_; rintro v ρ' L' hle ⟨rfl, rfl, rfl⟩ <;> (try simp only [List.cons_append, List.nil_append, List.append_eq])) | (refine tl_is (.func 25) ?_; refine qC rfl rfl (gappend _ rb db R w hr k D hk g [] _ m _ bs hs2.rd hmc (by omega) hfit hnx) ?_; rintro v2 ρ3 L2 hle2 ⟨rfl, hl3, k2, D2, w2, hk2, hr2, g2, rfl⟩; try simp only [List.cons_append, List.nil_append, List.append_assoc]) | (refine tl_is (.func 23) ?_; refine qC rfl rfl (left_spec4 _ rb db (R.plus bs) _ hr2.ok) ?_; rintro v ρ' L' hle ⟨rfl, rfl, rfl⟩ <;> (try simp only [List.cons_append, List.nil_append, List.append_eq, hpl])) | (refine i_op ?_; first | (refine i_qq ?_; refine qQ ?_) | refine qEf ?_) | refine tl_nil ?_ | (refine i_tc ?_; refine qTc ?_) | (refine i_te ?_; refine qTe ?_) | intro _)
        refine te_round_g (j + 1, _, R.plus bs, w2, k2, D2) (⟨⟨hlt, by omega⟩, Hp.le_trans hle2' hl3, hk2, hr2, g2, hh, by show (R.ents ++ [bs]).length ≤ j + 1; simp only [List.length_append, List.length_singleton]; omega⟩) ev_le ev_le rfl tk inferInstance (by first | omega | (dsimp only; omega))
      · repeat' (first | (refine tl_is (.func 24) ?_; refine qC rfl rfl (sects_nat _ m (by omega)) ?_; rintro v ρ' L' hle ⟨rfl, rfl, rfl⟩ <;> (try simp only [List.cons_append, List.nil_append, List.append_eq])) | (refine tl_is (.func 25) ?_; refine qC rfl rfl (gfull _ rb db R w hr k D hk g [] _ m _ bs hs2.rd hmc (by omega) hfit) ?_; rintro v2 ρ3 L2 hle2 ⟨rfl, hl3, k2, w2, hk2, hr2, rfl⟩; try simp only [List.cons_append, List.nil_append, List.append_assoc]) | (refine tl_is (.func 23) ?_; refine qC rfl rfl (left_spec4 _ rb db R _ hr2.ok) ?_; rintro v ρ' L' hle ⟨rfl, rfl, rfl⟩ <;> (try simp only [List.cons_append, List.nil_append, List.append_eq])) | (refine i_op ?_; first | (refine i_qq ?_; refine qQ ?_) | refine qEf ?_) | refine tl_nil ?_ | (refine i_tc ?_; refine qTc ?_) | (refine i_te ?_; refine qTe ?_) | intro _)
        refine te_round_g (j + 1, _, R, w2, k2, D) (⟨⟨hlt, by omega⟩, Hp.le_trans hle2' hl3, hk2, hr2, g, hh, Nat.le_succ_of_le hel⟩) ev_le ev_le rfl tk inferInstance (by first | omega | (dsimp only; omega))
  · repeat' (first | (refine i_op ?_; first | (refine i_qq ?_; refine qQ ?_) | refine qEf ?_) | refine tl_nil ?_ | (refine i_tc ?_; refine qTc ?_) | (refine i_te ?_; refine qTe ?_) | intro _)
    repeat' (first | (refine tl_is (.func 26) ?_; refine qC rfl rfl (all_spec _ rb db R w hr) ?_; rintro v8 ρ8 L8 hle8 ⟨hl8, els8, sp8, hown8, hb8, he8, rfl⟩; obtain ⟨a8, c8, rfl, _⟩ := hown8.slice; have hel8 : els8.length = R.ents.length := (by have := congrArg List.length he8; simpa using this); simp only [hel8]; try simp only [List.cons_append, List.nil_append, List.append_assoc]) | (refine i_op ?_; first | (refine i_qq ?_; refine qQ ?_) | refine qEf ?_) | refine tl_nil ?_ | (refine i_tc ?_; refine qTc ?_) | (refine i_te ?_; refine qTe ?_) | intro _)
    repeat' (first | (refine tl_is (.func 27) ?_; refine qC rfl rfl (gcut _ rb db R w (hr.mono hl8) k D hk g [] none 0 0 [] SIn.nil.rd R.ents.length (Nat.le_refl _) htn (by omega) hnx) ?_; rintro v9 ρ9 L9 hle9 ⟨rfl, hl9, k9, D9, w9, hk9, hr9, g9, rfl⟩; try simp only [List.cons_append, List.nil_append, List.append_assoc]) | (refine tl_is (.func 23) ?_; refine qC rfl rfl (left_spec4 _ rb db (R.minus R.ents.length []) _ hr9.ok) ?_; rintro v ρ' L' hle ⟨rfl, rfl, rfl⟩ <;> (try simp only [List.cons_append, List.nil_append, List.append_eq, hle0])) | (refine tl_is (.func 28) ?_; refine qC rfl rfl (first_spec _ rb db (R.minus R.ents.length []) _) ?_; rintro v ρ' L' hle ⟨rfl, rfl, rfl⟩ <;> (try simp only [List.cons_append, List.nil_append, List.append_eq, hfi0])) | (refine i_op ?_; first | (refine i_qq ?_; refine qQ ?_) | refine qEf ?_) | refine tl_nil ?_ | (refine i_tc ?_; refine qTc ?_) | (refine i_te ?_; refine qTe ?_) | intro _)
    have hfin := Hp.le_trans hl1 (Hp.le_trans hl2 (Hp.le_trans hle2' (Hp.le_trans hl8 hl9)))
    exact qE (L' := []) ⟨rfl, hfin, rfl⟩
end Go.Proofs.E

namespace Go.Proofs.Ytkgenlmcdbafmaa.RingRoomLaw
open Go Go.ChangeShapes Go.WideShapes Go.ChangeAt Go.RowKit Go.Proofs.E
set_option linter.unusedVariables false

theorem own : ownKnob Try.prog.godebug = none := by kernel_rfl
theorem laidOut : laidOutB Try.prog = true := by kernel_rfl

set_option maxRecDepth 100000 in
theorem lifted (os : Os) (started : os.Started) (H : Type) (enc : TypeId × Value → H) :
    ReturnsInHanded {} Try.checked os 4 .any (Rows.ringRoomSpec.pre6 enc Try.prog Try.f4 Rows.ringRoomRow.domain false) (Rows.ringRoomSpec.post enc Try.prog Try.f4 false true false false) := by
  refine returnsInHanded_of_change_sized (C := Try.checked) own started (by kernel_rfl) Try.func4
    (ChangeSpec.witness6 (enc := enc) (C := Try.checked) false ⟨#[], #[.slice none 0 0], []⟩ 8 (by kernel_rfl) (by kernel_rfl) (by kernel_rfl) (by kernel_rfl)) ?_
  intro W base args ds gs before hval0 hW hcnd hsz0 _
  have hval : ∀ (j : Nat) t v, Try.f4.params[j]? = some t → args[j]? = some v → Value.okWide Try.prog W .any base t v := hval0
  have hW' := hW
  obtain ⟨p, q, hA0, hV, rfl, hfz, hnd⟩ := hW
  have hA : DataW.TrodAll enc Try.prog W 0 (fun _ => true) true Try.f4.params.toList args.toList ds p := hA0
  have hsz : (DataW.weightsEach Try.prog (Try.f4.params.toList ++ Rows.ringRoomSpec.plain.varTypes Try.prog) (ds ++ gs)).all (· ≤ reachBytes) = true := hsz0
  rw [Try.params4] at hA hval hsz
  obtain ⟨v0, vs0, d0, ds0, p0, q0, hargs, rfl, rfl, h0, r0⟩ := trodAll_cons hA
  obtain ⟨rfl, rfl, rfl⟩ := trodAll_nil r0
  obtain rfl : args = #[v0] := by cases args; simp_all
  obtain ⟨rfl, rfl⟩ := trodVars_none hV
  have k0 := h0
  have lt0 : ∀ x ∈ p0, x.block < W.heap.size := by obtain ⟨m, hm⟩ := k0; exact DataW.trod_lt m _ _ _ hm
  obtain ⟨a0, n0, c0, rfl⟩ := okWide_slice Try.underlying43 (hval 0 43 v0 rfl rfl)
  have b0 := top_slice hsz (j := 0) rfl rfl Try.underlying43 k0 rfl
  have bb0 : Try.prog.bytesOf 22 = 24 := by kernel_rfl
  rw [bb0] at b0
  simp only [reachBytes] at b0
  obtain ⟨s0, e0⟩ := (opn_slice (sz := 1) Try.underlying43 (by kernel_rfl) (by decide) opn_bsl) _ _ _ h0.choose_spec
  obtain ⟨⟨y0, m0, z0, x0⟩, ec0⟩ : ∃ s, s = s0 := ⟨s0, rfl⟩
  subst ec0
  have ec0 := e0.cells
  simp only [Value.cells, List.cons.injEq, Value.slice.injEq, and_true] at ec0
  obtain ⟨rfl, rfl, rfl⟩ := ec0
  clear hA0 hval0
  obtain ⟨hA0, hP0, hc0, hb0⟩ := aIn_ofK (g := fun x : BSl => [slv x]) (P := fun x => BIn (hpOf W) x ∧ x.n ≤ 9223372036854775807) (fun x => rfl) e0
  refine (Spec.law (room_spec (hpOf W) a0 n0 c0 x0 (sIn_of1 hA0) hP0 hb0)).mono fun e W' ⟨he, bel⟩ => ?_
  subst he
  exact ⟨_, rfl, _, _, _, [], _, [], hW', trodAll_mk1 (shut_bool Try.underlying4 _), (trodAll_cons_mk (Below.trod laidOut (by kernel_rfl) (of_decide_eq_true (by kernel_rfl)) k0 bel lt0) trodAll_mk0), rfl, bel.frame _, fun h => by cases h⟩

theorem over : Rows.ringRoomRow.holds Try.pinned (OpenSpec.ofChange Rows.ringRoomSpec) :=
  OpenClaim.holds_of_wide 4 Try.f4 rfl rfl rfl rfl rfl rfl rfl ⟨rfl, rfl, rfl, rfl, rfl⟩ rfl rfl rfl rfl rfl (by kernel_rfl) Try.func4 (by kernel_rfl)
    (of_decide_eq_true (by kernel_rfl)) (by unfold Func.isWrapper; first | (rw [if_pos (by decide +kernel)]; kernel_rfl) | (rw [if_neg (by decide +kernel)]; exact ⟨rfl, rfl⟩))
    (fun os started H enc _ => lifted os started H enc)

theorem proved : Rows.RingRoomSaid := over
end Go.Proofs.Ytkgenlmcdbafmaa.RingRoomLaw

