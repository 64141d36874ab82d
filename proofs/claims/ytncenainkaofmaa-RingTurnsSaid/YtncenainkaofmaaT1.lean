/- RingTurns: what is cut off in time leaves room for ever, and entries keep their numbers; for every row of entries and every number that is kept, no condition. Part 1 of 1. -/
import Derived.Test.YtncenainkaofmaaD5
import Derived.Test.YtncenainkaofmaaRows
namespace Go.Proofs.E
open Go
set_option linter.unusedVariables false
set_option linter.unusedSimpArgs false
set_option linter.unusedSectionVars false
set_option maxRecDepth 4000
set_option maxHeartbeats 1000000
attribute [local irreducible] Yl TL TC TE Spec YSpec R1 Hp.le EnvLe TS TR YS Stays
theorem gopen (ρ : Hp) (db : Nat) (k : DK) (D : DS) (hD : DOk k D) (R : RgS) (h : RO R D) (hc : D.Calm) (ht : R.h.turn < 1073741824) :
    Spec Try.prog 16 [.pointer (some ⟨db, 0, none⟩)] ρ (diskK db k D) (fun v ρ' L' => ρ.le ρ' ∧ ∃ rb w k' D', v = .tuple ⟨[.pointer (some ⟨rb, 0, none⟩), .int .i64 0]⟩ ∧ DOk k' D' ∧ RIn ρ' R.again w ∧ Good R.again D' ∧ L' = ringC rb db R.again w ++ diskK db k' D') := by
  obtain ⟨D', e, h1, h2, h3, _⟩ := h.open hc ht
  refine (open_spec ρ db k D hD).mono ?_
  rintro v ρ' L' _ ⟨hle, k', hk', ha⟩
  unfold openAns at ha
  rw [e] at ha hk'
  obtain ⟨rb, w, hv, hin, hL⟩ := ha
  exact ⟨hle, rb, w, k', D', hv, hk', hin, ⟨h1, h2, h3⟩, hL⟩
structure TurnI (R : RgS) (j : Nat) : Prop where
  size : R.h.size = 20
  turn : R.h.turn = R.h.first
  next : R.next = j + 1
  note : R.h.note = []
theorem TurnI.minus {R : RgS} {j : Nat} (h : TurnI R j) (h0 : 1 ≤ R.ents.length) : TurnI (R.minus 1 []) j := by
  have h1 := h.turn
  have h2 := h.next
  refine ⟨h.size, ?_, ?_, rfl⟩
  · simp only [RgS.minus, RgS.cutH, Hd.cut]; omega
  · simp only [RgS.next] at h2
    simp only [RgS.minus, RgS.cutH, Hd.cut, RgS.next, List.length_drop]; omega
theorem TurnI.plus {R : RgS} {j : Nat} {b : Bs} (h : TurnI R j) : TurnI (R.plus b) (j + 1) := by
  have h2 := h.next
  refine ⟨h.size, h.turn, ?_, h.note⟩
  simp only [RgS.next] at h2
  simp only [RgS.plus, RgS.next, List.length_append, List.length_singleton]; omega
theorem u64_nn (a : Int) : 0 ≤ IntKind.u64.wrap a := by
  have h : IntKind.u64.wrap a = a % 18446744073709551616 := rfl
  rw [h]; omega
theorem u64_mod (a m : Int) (h0 : 0 < m) (h1 : m ≤ 1000000) : 0 ≤ IntKind.i64.wrap ((IntKind.u64.wrap a).tmod m) ∧ IntKind.i64.wrap ((IntKind.u64.wrap a).tmod m) < m ∧ IntKind.i64.wrap ((IntKind.u64.wrap a).tmod m) = (IntKind.u64.wrap a).tmod m := by
  have h2 := u64_nn a
  have h3 : (IntKind.u64.wrap a).tmod m = (IntKind.u64.wrap a) % m := Int.tmod_eq_emod_of_nonneg h2
  have h4 := Int.emod_nonneg (IntKind.u64.wrap a) (show m ≠ 0 by omega)
  have h5 := Int.emod_lt_of_pos (IntKind.u64.wrap a) h0
  rw [h3, wrap_id (by simp only [lo, hi]; omega)]
  exact ⟨h4, h5, rfl⟩
theorem turns_spec (ρ : Hp) (a : Option Addr) (n c : Nat) (l : List BSl) (hl : SIn ρ slv a n l) (hin : ∀ e ∈ l, BIn ρ e ∧ e.n ≤ 9223372036854775807) (hbig : n ≤ 9223372036854775807) (kp : Int) (hkp : -9223372036854775808 ≤ kp ∧ kp ≤ 9223372036854775807) :
    Spec Try.prog 3 [.slice a n c, .int .i64 kp] ρ [] (fun v ρ' L' => v = .bool true ∧ ρ.le ρ' ∧ L' = []) := by
  have hlen := hl.len
  refine spec_enter Try.func3 rfl rfl rfl fun u R => ?_
  simp only [argsE, List.cons_append, List.nil_append]
  repeat' (first | (refine tl_is (.func 9) ?_; refine qC rfl rfl (wakes4_spec _) ?_; rintro v ρ' L' hle ⟨rfl, hl1, rfl⟩ <;> (try simp only [List.cons_append, List.nil_append, List.append_eq])) | (refine tl_is (.func 10) ?_; refine qC rfl rfl (kfresh _) ?_; rintro v1 ρ1 L1 hle1 ⟨hl2, rb, db, w1, k1, D1, rfl, hk1, hr1, g1, rfl⟩; try simp only [List.cons_append, List.nil_append, List.append_assoc]) | (refine i_op ?_; first | (refine i_qq ?_; refine qQ ?_) | refine qEf ?_) | refine tl_nil ?_ | (refine i_tc ?_; refine qTc ?_) | (refine i_te ?_; refine qTe ?_) | intro _)
  have hK0 := u64_mod kp 4 (by omega) (by omega)
  generalize hK : (IntKind.i64.wrap ((IntKind.u64.wrap kp).tmod 4)) = K at *
  replace hK0 := And.intro hK0.1 hK0.2.1
  clear hK
  refine tc_loop_g [(5, _), (6, _), (8, _), (28, _), (29, _)] (fun (ζ : (Nat) × (Hp) × (RgS) × (RW) × (DK) × (DS) × (Value) × (List BSl) × (List (Nat × Obj))) => [(30, .int .i64 ζ.1), (9, .int .u64 ζ.2.2.1.h.first), (10, ζ.2.2.2.2.2.2.1), (4, .bool false)]) (fun (ζ : (Nat) × (Hp) × (RgS) × (RW) × (DK) × (DS) × (Value) × (List BSl) × (List (Nat × Obj))) => ζ.2.1) (fun (ζ : (Nat) × (Hp) × (RgS) × (RW) × (DK) × (DS) × (Value) × (List BSl) × (List (Nat × Obj))) => (ringC rb db ζ.2.2.1 ζ.2.2.2.1 ++ diskK db ζ.2.2.2.2.1 ζ.2.2.2.2.2.1) ++ [ζ.2.2.2.2.2.2.2.2]) (fun (ζ : (Nat) × (Hp) × (RgS) × (RW) × (DK) × (DS) × (Value) × (List BSl) × (List (Nat × Obj))) => (ζ.1 ≤ n ∧ ζ.1 ≤ 60) ∧ ρ1.le ζ.2.1 ∧ DOk ζ.2.2.2.2.1 ζ.2.2.2.2.2.1 ∧ RIn ζ.2.1 ζ.2.2.1 ζ.2.2.2.1 ∧ Good ζ.2.2.1 ζ.2.2.2.2.2.1 ∧ TurnI ζ.2.2.1 ζ.1 ∧ OwnO ζ.2.2.2.2.2.2.1 ζ.2.2.2.2.2.2.2.1.length (ζ.2.2.2.2.2.2.2.1.map slv) 30 ζ.2.2.2.2.2.2.2.2 ∧ (∀ e ∈ ζ.2.2.2.2.2.2.2.1, BIn ζ.2.1 e) ∧ ζ.2.2.2.2.2.2.2.1.map BSl.l = ζ.2.2.1.ents) (fun (ζ : (Nat) × (Hp) × (RgS) × (RW) × (DK) × (DS) × (Value) × (List BSl) × (List (Nat × Obj))) => n - ζ.1) ((0, ρ1, ⟨freshH 20, [], 0, false⟩, w1, k1, D1, .slice none 0 0, [], [])) (⟨⟨Nat.zero_le _, Nat.zero_le _⟩, Hp.le_refl _, hk1, hr1, g1, ⟨rfl, rfl, rfl, rfl⟩, OwnO.nil, by simp, rfl⟩) ev_le ev_le rfl tk ?_
  rintro ⟨j, ρ2, R, w, k, D, v, els, ch⟩ hI
  try simp only [List.cons_append, List.nil_append, List.append_assoc, List.append_eq] at hI ⊢
  try dsimp only at hI ⊢
  obtain ⟨⟨hj, hj6⟩, hle2', hk, hr, g, ti, hown, hbe, hents⟩ := hI
  have hlm := Hp.le_trans hl1 (Hp.le_trans hl2 hle2')
  have hd8 : decide (R.h.first = R.h.first ∧ R.ents = els.map BSl.l ∧ R.h.note = BSl.l ⟨none, 0, 0, []⟩) = true := decide_eq_true ⟨rfl, hents.symm, ti.note⟩
  have hd9 : decide (R.again.h.first = R.h.first ∧ R.again.ents = els.map BSl.l ∧ R.again.h.note = BSl.l ⟨none, 0, 0, []⟩) = true := decide_eq_true ⟨rfl, hents.symm, ti.note⟩
  have htn : R.h.turn < 1073741824 := by
    have h1 := ti.turn; have h2 := ti.next; simp only [RgS.next] at h2; omega
  by_cases hlt : j < n
  · obtain ⟨b, off, C, T, fr, rfl, hb, hc⟩ := (hl.mono hlm).get (show j < l.length by omega)
    obtain ⟨he, he9⟩ := hin _ (List.getElem_mem (show j < l.length by omega))
    replace he := he.mono hlm
    generalize l[j]'(by omega) = e at *
    have hel2 := he.s.len
    have hce := he.le
    by_cases h60 : j = 60
    · skip
      repeat' (first | (refine i_op ?_; first | (refine i_qq ?_; refine qQ ?_) | refine qEf ?_) | refine tl_nil ?_ | (refine i_tc ?_; refine qTc ?_) | (refine i_te ?_; refine qTe ?_) | intro _)
      refine tl_freeze ch (h := by infer_instance) (fun ρ8 hl8 hfz8 => ?_)
      obtain ⟨a8, c8, rfl, hc8, hs8⟩ := hown.sIn hfz8
      repeat' (first | (refine tl_is (.func 15) ?_; have ho8 := of_spec _ rb db R w (hr.mono hl8) ti.size R.h.first a8 els.length c8 els hs8 (fun x hx => (hbe x hx).mono hl8) ⟨none, 0, 0, []⟩ ⟨SIn.nil, Nat.le_refl _⟩; rw [hd8] at ho8; refine qC rfl rfl ho8 ?_; rintro v7 ρ7 L7 hle7 ⟨rfl, hl7, rfl⟩; try simp only [List.cons_append, List.nil_append, List.append_assoc]) | (refine i_op ?_; first | (refine i_qq ?_; refine qQ ?_) | refine qEf ?_) | refine tl_nil ?_ | (refine i_tc ?_; refine qTc ?_) | (refine i_te ?_; refine qTe ?_) | intro _)
      repeat' (first | (refine tl_is (.func 16) ?_; refine qC rfl rfl (gopen _ db k D hk R g.ro g.calm htn) ?_; rintro v9 ρ9 L9 hle9 ⟨hl9, rb9, w9, k9, D9, rfl, hk9, hr9, g9, rfl⟩; try simp only [List.cons_append, List.nil_append, List.append_assoc]) | (refine i_op ?_; first | (refine i_qq ?_; refine qQ ?_) | refine qEf ?_) | refine tl_nil ?_ | (refine i_tc ?_; refine qTc ?_) | (refine i_te ?_; refine qTe ?_) | intro _)
      repeat' (first | (refine tl_is (.func 15) ?_; have ho9 := of_spec _ rb9 db R.again w9 hr9 ti.size R.h.first a8 els.length c8 els (hs8.mono (Hp.le_trans hl7 hl9)) (fun x hx => (hbe x hx).mono (Hp.le_trans hl8 (Hp.le_trans hl7 hl9))) ⟨none, 0, 0, []⟩ ⟨SIn.nil, Nat.le_refl _⟩; rw [hd9] at ho9; refine qC rfl rfl ho9 ?_; rintro v6 ρ6 L6 hle6 ⟨rfl, hl6, rfl⟩; try simp only [List.cons_append, List.nil_append, List.append_assoc]) | (refine i_op ?_; first | (refine i_qq ?_; refine qQ ?_) | refine qEf ?_) | refine tl_nil ?_ | (refine i_tc ?_; refine qTc ?_) | (refine i_te ?_; refine qTe ?_) | intro _)
      have hfin := Hp.le_trans hlm (Hp.le_trans hl8 (Hp.le_trans hl7 (Hp.le_trans hl9 hl6)))
      exact qE (L' := []) ⟨rfl, hfin, rfl⟩
    · have hm : (min (e.n : Int) 150).toNat = min e.n 150 := by omega
      have hs2 := he.s.take (hi' := min e.n 150) (Nat.min_le_left _ _)
      have hbl : (e.l.take (min e.n 150)).length = min e.n 150 := by simp; omega
      have hm4 : min e.n 150 ≤ 150 := Nat.min_le_right _ _
      have hmc : min e.n 150 ≤ e.c := by omega
      repeat' (first | (simp only [hm]; refine tl_app (n := 0) (xs := []) (sp := []) (ys := (e.l.take (min e.n 150)).map u8c) (sz := 1) rfl rfl (OwnS.zero _ 1) (hR := rem_here') hs2.srcV (by simpa using hbl) (u8c_one _) (by decide) rfl (by omega) (by omega) rfl (fun v1 sp1 hown1 => ?_); simp only [Nat.zero_add, List.nil_append] at hown1 ⊢; refine tl_freeze (ownC v1 ((e.l.take (min e.n 150)).map u8c) sp1 5) (h := by infer_instance) (fun ρ3 hl3 hfz => ?_); obtain ⟨a1, c1, rfl, hc1, hs1⟩ := hown1.sIn hfz) | (refine i_op ?_; first | (refine i_qq ?_; refine qQ ?_) | refine qEf ?_) | refine tl_nil ?_ | (refine i_tc ?_; refine qTc ?_) | (refine i_te ?_; refine qTe ?_) | intro _)
      generalize hmm : min e.n 150 = m at *
      generalize e.l.take m = bs at *
      have hs3 : sects m ≤ 3 := by unfold sects; omega
      refine tc_loop_g [(5, _), (6, _), (8, _), (11, _), (12, _), (28, _), (29, _), (30, _), (31, _), (32, _), (33, _), (34, _), (35, _), (36, _), (37, _), (38, _), (39, _), (40, _), (41, _), (42, _), (43, _)] (fun (ζ : (RgS) × (RW) × (DK) × (DS) × (Value) × (List BSl) × (List (Nat × Obj)) × (Hp)) => [(9, .int .u64 ζ.1.h.first), (10, ζ.2.2.2.2.1), (4, .bool false)]) (fun (ζ : (RgS) × (RW) × (DK) × (DS) × (Value) × (List BSl) × (List (Nat × Obj)) × (Hp)) => ζ.2.2.2.2.2.2.2) (fun (ζ : (RgS) × (RW) × (DK) × (DS) × (Value) × (List BSl) × (List (Nat × Obj)) × (Hp)) => (ringC rb db ζ.1 ζ.2.1 ++ diskK db ζ.2.2.1 ζ.2.2.2.1) ++ [ζ.2.2.2.2.2.2.1]) (fun (ζ : (RgS) × (RW) × (DK) × (DS) × (Value) × (List BSl) × (List (Nat × Obj)) × (Hp)) => ρ3.le ζ.2.2.2.2.2.2.2 ∧ DOk ζ.2.2.1 ζ.2.2.2.1 ∧ RIn ζ.2.2.2.2.2.2.2 ζ.1 ζ.2.1 ∧ Good ζ.1 ζ.2.2.2.1 ∧ TurnI ζ.1 j ∧ OwnO ζ.2.2.2.2.1 ζ.2.2.2.2.2.1.length (ζ.2.2.2.2.2.1.map slv) 30 ζ.2.2.2.2.2.2.1 ∧ (∀ e ∈ ζ.2.2.2.2.2.1, BIn ζ.2.2.2.2.2.2.2 e) ∧ ζ.2.2.2.2.2.1.map BSl.l = ζ.1.ents) (fun (ζ : (RgS) × (RW) × (DK) × (DS) × (Value) × (List BSl) × (List (Nat × Obj)) × (Hp)) => ζ.2.2.2.2.2.1.length) ((R, w, k, D, v, els, ch, ρ3)) (⟨Hp.le_refl _, hk, hr.mono hl3, g, ti, hown, fun x hx => (hbe x hx).mono hl3, hents⟩) ev_le ev_le rfl tk ?_
      rintro ⟨R2, w2, k2, D2, v2, els2, ch2, ρ4⟩ hI
      try simp only [List.cons_append, List.nil_append, List.append_assoc, List.append_eq] at hI ⊢
      try dsimp only at hI ⊢
      clear hk hr g ti hown hbe hents
      obtain ⟨hl4, hk, hr, g, ti, hown, hbe, hents⟩ := hI
      have hok := hr.ok
      have hus := hok.used
      have hft := hok.fit
      have hsz := ti.size
      have hul := usedL_len R2.ents
      have hlE : R2.ents.length = els2.length := by rw [← hents]; simp
      have hnx : R2.next < 1099511627776 := by rw [ti.next]; omega
      have htn : R2.h.turn < 1073741824 := by
        have h1 := ti.turn; have h2 := ti.next; simp only [RgS.next] at h2; omega
      cases els2 with
      | nil =>
        have he0 : R2.ents = [] := List.eq_nil_of_length_eq_zero (by simpa using hlE)
        have hu0 : R2.used = 0 := by rw [hus, he0]; rfl
        obtain ⟨a5, cap5, rfl, _⟩ := hown.slice
        simp only [List.length_nil, List.map_nil, Int.natCast_zero] at hown ⊢
        have hgt : ¬ K < 0 := by omega
        have hlf : ¬ (((R2.h.size - R2.used : Nat) : Int) < ((sects m : Nat) : Int)) := by omega
        repeat' (first | (refine tl_is (.func 11) ?_; refine qC rfl rfl (left_spec4 _ rb db R2 w2 hok) ?_; rintro v ρ' L' hle ⟨rfl, rfl, rfl⟩ <;> (try simp only [List.cons_append, List.nil_append, List.append_eq])) | (refine tl_is (.func 12) ?_; refine qC rfl rfl (sects_nat _ m (by omega)) ?_; rintro v ρ' L' hle ⟨rfl, rfl, rfl⟩ <;> (try simp only [List.cons_append, List.nil_append, List.append_eq])) | (refine i_op ?_; first | (refine i_qq ?_; refine qQ ?_) | refine qEf ?_) | refine tl_nil ?_ | (refine i_tc ?_; refine qTc ?_) | (refine i_te ?_; refine qTe ?_) | intro _)
        have hro := hr
        repeat' (first | (refine tl_is (.func 14) ?_; refine qC rfl rfl (gappend _ rb db R2 w2 hr k2 D2 hk g [] _ m _ bs (hs1.mono hl4).rd hc1 (by omega) (by omega) hnx) ?_; rintro v6 ρ6 L6 hle6 ⟨rfl, hl6, k6, D6, w6, hk6, hr6, g6, rfl⟩; try simp only [List.cons_append, List.nil_append, List.append_assoc]) | (refine tl_buildSlice_s rfl rfl rfl rfl (by simp) rfl rfl (fun _ => ?_)) | (refine tl_appO (ys := [slv ⟨a1, m, c1, bs⟩]) (m := 1) rfl rfl hown (hR := by infer_instance) SrcV.lit rfl rfl (by decide) rfl (by omega) (by omega) rfl (fun v7 ch7 hown7 => ?_)) | (refine i_op ?_; first | (refine i_qq ?_; refine qQ ?_) | refine qEf ?_) | refine tl_nil ?_ | (refine i_tc ?_; refine qTc ?_) | (refine i_te ?_; refine qTe ?_) | intro _)
        refine te_round_g (j + 1, ρ6, R2.plus bs, w6, k6, D6, v7, [] ++ [⟨a1, m, c1, bs⟩], ch7) (⟨⟨hlt, by omega⟩, Hp.le_trans hle2' (Hp.le_trans hl3 (Hp.le_trans hl4 hl6)), hk6, hr6, g6, ti.plus, by simpa using hown7, fun x hx => (by rcases List.mem_append.1 hx with hx | hx <;> first | exact (hbe x hx).mono hl6 | (rw [List.mem_singleton.1 hx]; exact ⟨hs1.mono (Hp.le_trans hl4 hl6), hc1⟩)), by rw [List.map_append, hents]; rfl⟩) ev_le ev_le rfl tk inferInstance (by first | omega | (dsimp only; omega))
      | cons e1 rest =>
        obtain ⟨a5, cap5, rfl, h15, hc5, htl⟩ := OwnO.tail hown
        have hdec : rest.length < (e1 :: rest).length := by simp
        have hfb : R2.h.first ≤ 61 := by have h2 := ti.next; simp only [RgS.next] at h2; omega
        have hf1 : (R2.h.first : Int) + 1 = (((R2.minus 1 []).h.first : Nat) : Int) := by simp only [RgS.minus, RgS.cutH, Hd.cut]; omega
        have hd1 : rest.map BSl.l = (R2.minus 1 []).ents := by simp only [RgS.minus]; rw [← hents]; rfl
        by_cases hcd : ((rest.length + 1 : Nat) : Int) > K ∨ (((R2.h.size - R2.used : Nat) : Int) < ((sects m : Nat) : Int))
        · rcases Classical.em (((rest.length + 1 : Nat) : Int) > K) with hq1 | hq1
          · skip
            repeat' (first | (refine tl_is (.func 11) ?_; refine qC rfl rfl (left_spec4 _ rb db R2 w2 hok) ?_; rintro v ρ' L' hle ⟨rfl, rfl, rfl⟩ <;> (try simp only [List.cons_append, List.nil_append, List.append_eq])) | (refine tl_is (.func 12) ?_; refine qC rfl rfl (sects_nat _ m (by omega)) ?_; rintro v ρ' L' hle ⟨rfl, rfl, rfl⟩ <;> (try simp only [List.cons_append, List.nil_append, List.append_eq])) | (refine tl_is (.func 13) ?_; refine qC rfl rfl (gcut _ rb db R2 w2 hr k2 D2 hk g [] none 0 0 [] SIn.nil.rd 1 (by rw [hlE]; exact h15) htn (Nat.zero_le _) hnx) ?_; rintro v9 ρ9 L9 hle9 ⟨rfl, hl9, k9, D9, w9, hk9, hr9, g9, rfl⟩; try simp only [List.cons_append, List.nil_append, List.append_assoc]) | (refine i_op ?_; first | (refine i_qq ?_; refine qQ ?_) | refine qEf ?_) | refine tl_nil ?_ | (refine i_tc ?_; refine qTc ?_) | (refine i_te ?_; refine qTe ?_) | intro _)
            rw [hf1]
            refine te_round_g (R2.minus 1 [], w9, k9, D9, .slice (if cap5 = 1 then a5 else a5.map (·.add (1 * 1))) ((e1 :: rest).length - 1) (cap5 - 1), rest, ch2, ρ9) (⟨Hp.le_trans hl4 hl9, hk9, hr9, g9, ti.minus (by rw [hlE]; exact h15), htl, fun x hx => (hbe x (List.mem_cons_of_mem _ hx)).mono hl9, hd1⟩) ev_le ev_le rfl tk inferInstance (by first | omega | (dsimp only; omega))
          · have hc2 := hcd.resolve_left hq1
            repeat' (first | (refine tl_is (.func 11) ?_; refine qC rfl rfl (left_spec4 _ rb db R2 w2 hok) ?_; rintro v ρ' L' hle ⟨rfl, rfl, rfl⟩ <;> (try simp only [List.cons_append, List.nil_append, List.append_eq])) | (refine tl_is (.func 12) ?_; refine qC rfl rfl (sects_nat _ m (by omega)) ?_; rintro v ρ' L' hle ⟨rfl, rfl, rfl⟩ <;> (try simp only [List.cons_append, List.nil_append, List.append_eq])) | (refine tl_is (.func 13) ?_; refine qC rfl rfl (gcut _ rb db R2 w2 hr k2 D2 hk g [] none 0 0 [] SIn.nil.rd 1 (by rw [hlE]; exact h15) htn (Nat.zero_le _) hnx) ?_; rintro v9 ρ9 L9 hle9 ⟨rfl, hl9, k9, D9, w9, hk9, hr9, g9, rfl⟩; try simp only [List.cons_append, List.nil_append, List.append_assoc]) | (refine i_op ?_; first | (refine i_qq ?_; refine qQ ?_) | refine qEf ?_) | refine tl_nil ?_ | (refine i_tc ?_; refine qTc ?_) | (refine i_te ?_; refine qTe ?_) | intro _)
            rw [hf1]
            refine te_round_g (R2.minus 1 [], w9, k9, D9, .slice (if cap5 = 1 then a5 else a5.map (·.add (1 * 1))) ((e1 :: rest).length - 1) (cap5 - 1), rest, ch2, ρ9) (⟨Hp.le_trans hl4 hl9, hk9, hr9, g9, ti.minus (by rw [hlE]; exact h15), htl, fun x hx => (hbe x (List.mem_cons_of_mem _ hx)).mono hl9, hd1⟩) ev_le ev_le rfl tk inferInstance (by first | omega | (dsimp only; omega))
        · have hx1 : ¬ (((rest.length + 1 : Nat) : Int) > K) := fun h => hcd (.inl h)
          have hx2 : ¬ (((R2.h.size - R2.used : Nat) : Int) < ((sects m : Nat) : Int)) := fun h => hcd (.inr h)
          repeat' (first | (refine tl_is (.func 11) ?_; refine qC rfl rfl (left_spec4 _ rb db R2 w2 hok) ?_; rintro v ρ' L' hle ⟨rfl, rfl, rfl⟩ <;> (try simp only [List.cons_append, List.nil_append, List.append_eq])) | (refine tl_is (.func 12) ?_; refine qC rfl rfl (sects_nat _ m (by omega)) ?_; rintro v ρ' L' hle ⟨rfl, rfl, rfl⟩ <;> (try simp only [List.cons_append, List.nil_append, List.append_eq])) | (refine i_op ?_; first | (refine i_qq ?_; refine qQ ?_) | refine qEf ?_) | refine tl_nil ?_ | (refine i_tc ?_; refine qTc ?_) | (refine i_te ?_; refine qTe ?_) | intro _)
          have hro := hr
          repeat' (first | (refine tl_is (.func 14) ?_; refine qC rfl rfl (gappend _ rb db R2 w2 hr k2 D2 hk g [] _ m _ bs (hs1.mono hl4).rd hc1 (by omega) (by omega) hnx) ?_; rintro v6 ρ6 L6 hle6 ⟨rfl, hl6, k6, D6, w6, hk6, hr6, g6, rfl⟩; try simp only [List.cons_append, List.nil_append, List.append_assoc]) | (refine tl_buildSlice_s rfl rfl rfl rfl (by simp) rfl rfl (fun _ => ?_)) | (refine tl_appO (ys := [slv ⟨a1, m, c1, bs⟩]) (m := 1) rfl rfl hown (hR := by infer_instance) SrcV.lit rfl rfl (by decide) rfl (by omega) (by omega) rfl (fun v7 ch7 hown7 => ?_)) | (refine i_op ?_; first | (refine i_qq ?_; refine qQ ?_) | refine qEf ?_) | refine tl_nil ?_ | (refine i_tc ?_; refine qTc ?_) | (refine i_te ?_; refine qTe ?_) | intro _)
          refine te_round_g (j + 1, ρ6, R2.plus bs, w6, k6, D6, v7, (e1 :: rest) ++ [⟨a1, m, c1, bs⟩], ch7) (⟨⟨hlt, by omega⟩, Hp.le_trans hle2' (Hp.le_trans hl3 (Hp.le_trans hl4 hl6)), hk6, hr6, g6, ti.plus, by simpa using hown7, fun x hx => (by rcases List.mem_append.1 hx with hx | hx <;> first | exact (hbe x hx).mono hl6 | (rw [List.mem_singleton.1 hx]; exact ⟨hs1.mono (Hp.le_trans hl4 hl6), hc1⟩)), by rw [List.map_append, hents]; rfl⟩) ev_le ev_le rfl tk inferInstance (by first | omega | (dsimp only; omega))
  · skip
    repeat' (first | (refine i_op ?_; first | (refine i_qq ?_; refine qQ ?_) | refine qEf ?_) | refine tl_nil ?_ | (refine i_tc ?_; refine qTc ?_) | (refine i_te ?_; refine qTe ?_) | intro _)
    refine tl_freeze ch (h := by infer_instance) (fun ρ8 hl8 hfz8 => ?_)
    obtain ⟨a8, c8, rfl, hc8, hs8⟩ := hown.sIn hfz8
    repeat' (first | (refine tl_is (.func 15) ?_; have ho8 := of_spec _ rb db R w (hr.mono hl8) ti.size R.h.first a8 els.length c8 els hs8 (fun x hx => (hbe x hx).mono hl8) ⟨none, 0, 0, []⟩ ⟨SIn.nil, Nat.le_refl _⟩; rw [hd8] at ho8; refine qC rfl rfl ho8 ?_; rintro v7 ρ7 L7 hle7 ⟨rfl, hl7, rfl⟩; try simp only [List.cons_append, List.nil_append, List.append_assoc]) | (refine i_op ?_; first | (refine i_qq ?_; refine qQ ?_) | refine qEf ?_) | refine tl_nil ?_ | (refine i_tc ?_; refine qTc ?_) | (refine i_te ?_; refine qTe ?_) | intro _)
    repeat' (first | (refine tl_is (.func 16) ?_; refine qC rfl rfl (gopen _ db k D hk R g.ro g.calm htn) ?_; rintro v9 ρ9 L9 hle9 ⟨hl9, rb9, w9, k9, D9, rfl, hk9, hr9, g9, rfl⟩; try simp only [List.cons_append, List.nil_append, List.append_assoc]) | (refine i_op ?_; first | (refine i_qq ?_; refine qQ ?_) | refine qEf ?_) | refine tl_nil ?_ | (refine i_tc ?_; refine qTc ?_) | (refine i_te ?_; refine qTe ?_) | intro _)
    repeat' (first | (refine tl_is (.func 15) ?_; have ho9 := of_spec _ rb9 db R.again w9 hr9 ti.size R.h.first a8 els.length c8 els (hs8.mono (Hp.le_trans hl7 hl9)) (fun x hx => (hbe x hx).mono (Hp.le_trans hl8 (Hp.le_trans hl7 hl9))) ⟨none, 0, 0, []⟩ ⟨SIn.nil, Nat.le_refl _⟩; rw [hd9] at ho9; refine qC rfl rfl ho9 ?_; rintro v6 ρ6 L6 hle6 ⟨rfl, hl6, rfl⟩; try simp only [List.cons_append, List.nil_append, List.append_assoc]) | (refine i_op ?_; first | (refine i_qq ?_; refine qQ ?_) | refine qEf ?_) | refine tl_nil ?_ | (refine i_tc ?_; refine qTc ?_) | (refine i_te ?_; refine qTe ?_) | intro _)
    have hfin := Hp.le_trans hlm (Hp.le_trans hl8 (Hp.le_trans hl7 (Hp.le_trans hl9 hl6)))
    exact qE (L' := []) ⟨rfl, hfin, rfl⟩
end Go.Proofs.E

namespace Go.Proofs.Ytncenainkaofmaa.RingTurnsLaw
open Go Go.ChangeShapes Go.WideShapes Go.ChangeAt Go.RowKit Go.Proofs.E
set_option linter.unusedVariables false

theorem own : ownKnob Try.prog.godebug = none := by kernel_rfl
theorem laidOut : laidOutB Try.prog = true := by kernel_rfl

set_option maxRecDepth 100000 in
theorem lifted (os : Os) (started : os.Started) (H : Type) (enc : TypeId × Value → H) :
    ReturnsInHanded {} Try.checked os 3 .any (Rows.ringTurnsSpec.pre6 enc Try.prog Try.f3 Rows.ringTurnsRow.domain false) (Rows.ringTurnsSpec.post enc Try.prog Try.f3 false true false false) := by
  refine returnsInHanded_of_change_sized (C := Try.checked) own started (by kernel_rfl) Try.func3
    (ChangeSpec.witness6 (enc := enc) (C := Try.checked) false ⟨#[], #[.slice none 0 0, .int .i64 0], []⟩ 8 (by kernel_rfl) (by kernel_rfl) (by kernel_rfl) (by kernel_rfl)) ?_
  intro W base args ds gs before hval0 hW hcnd hsz0 _
  have hval : ∀ (j : Nat) t v, Try.f3.params[j]? = some t → args[j]? = some v → Value.okWide Try.prog W .any base t v := hval0
  have hW' := hW
  obtain ⟨p, q, hA0, hV, rfl, hfz, hnd⟩ := hW
  have hA : DataW.TrodAll enc Try.prog W 0 (fun _ => true) true Try.f3.params.toList args.toList ds p := hA0
  have hsz : (DataW.weightsEach Try.prog (Try.f3.params.toList ++ Rows.ringTurnsSpec.plain.varTypes Try.prog) (ds ++ gs)).all (· ≤ reachBytes) = true := hsz0
  rw [Try.params3] at hA hval hsz
  obtain ⟨v0, vs0, d0, ds0, p0, q0, hargs, rfl, rfl, h0, r0⟩ := trodAll_cons hA
  obtain ⟨v1, vs1, d1, ds1, p1, q1, rfl, rfl, rfl, h1, r1⟩ := trodAll_cons r0
  obtain ⟨rfl, rfl, rfl⟩ := trodAll_nil r1
  obtain rfl : args = #[v0, v1] := by cases args; simp_all
  obtain ⟨rfl, rfl⟩ := trodVars_none hV
  have k0 := h0
  have k1 := h1
  have lt0 : ∀ x ∈ p0, x.block < W.heap.size := by obtain ⟨m, hm⟩ := k0; exact DataW.trod_lt m _ _ _ hm
  have lt1 : ∀ x ∈ p1, x.block < W.heap.size := by obtain ⟨m, hm⟩ := k1; exact DataW.trod_lt m _ _ _ hm
  obtain ⟨a0, n0, c0, rfl⟩ := okWide_slice Try.underlying22 (hval 0 22 v0 rfl rfl)
  have b0 := top_slice hsz (j := 0) rfl rfl Try.underlying22 k0 rfl
  have bb0 : Try.prog.bytesOf 30 = 24 := by kernel_rfl
  rw [bb0] at b0
  simp only [reachBytes] at b0
  obtain ⟨s0, e0⟩ := (opn_slice (sz := 1) Try.underlying22 (by kernel_rfl) (by decide) opn_bsl) _ _ _ h0.choose_spec
  obtain ⟨⟨y0, m0, z0, x0⟩, ec0⟩ : ∃ s, s = s0 := ⟨s0, rfl⟩
  subst ec0
  have ec0 := e0.cells
  simp only [Value.cells, List.cons.injEq, Value.slice.injEq, and_true] at ec0
  obtain ⟨rfl, rfl, rfl⟩ := ec0
  obtain ⟨a1, rfl, _, _, w1⟩ := open_int Try.underlying3 (hval 1 3 v1 rfl rfl) h1
  replace w1 := wf_bounds w1
  clear hA0 hval0
  obtain ⟨hA0, hP0, hc0, hb0⟩ := aIn_ofK (g := fun x : BSl => [slv x]) (P := fun x => BIn (hpOf W) x ∧ x.n ≤ 9223372036854775807) (fun x => rfl) e0
  refine (Spec.law (turns_spec (hpOf W) a0 n0 c0 x0 (sIn_of1 hA0) hP0 hb0 a1 w1)).mono fun e W' ⟨he, bel⟩ => ?_
  subst he
  exact ⟨_, rfl, _, _, _, [], _, [], hW', trodAll_mk1 (shut_bool Try.underlying4 _), (trodAll_cons_mk (Below.trod laidOut (by kernel_rfl) (of_decide_eq_true (by kernel_rfl)) k0 bel lt0) (trodAll_cons_mk (Below.trod laidOut (by kernel_rfl) (of_decide_eq_true (by kernel_rfl)) k1 bel lt1) trodAll_mk0)), rfl, bel.frame _, fun h => by cases h⟩

theorem over : Rows.ringTurnsRow.holds Try.pinned (OpenSpec.ofChange Rows.ringTurnsSpec) :=
  OpenClaim.holds_of_wide 3 Try.f3 rfl rfl rfl rfl rfl rfl rfl ⟨rfl, rfl, rfl, rfl, rfl⟩ rfl rfl rfl rfl rfl (by kernel_rfl) Try.func3 (by kernel_rfl)
    (of_decide_eq_true (by kernel_rfl)) (by unfold Func.isWrapper; first | (rw [if_pos (by decide +kernel)]; kernel_rfl) | (rw [if_neg (by decide +kernel)]; exact ⟨rfl, rfl⟩))
    (fun os started H enc _ => lifted os started H enc)

theorem proved : Rows.RingTurnsSaid := over
end Go.Proofs.Ytncenainkaofmaa.RingTurnsLaw

