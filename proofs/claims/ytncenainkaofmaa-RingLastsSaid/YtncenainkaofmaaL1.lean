/- RingLasts: behind a loss of power a ring has what was, or what was under way, whole, and the same once more; for every row of events, no condition. Part 1 of 1. -/
import Derived.Test.YtncenainkaofmaaD5
import Derived.Test.YtncenainkaofmaaRows
namespace Go.Proofs.E
open Go
set_option linter.unusedVariables false
set_option linter.unusedSimpArgs false
set_option linter.unusedSectionVars false
set_option maxRecDepth 4000
set_option maxHeartbeats 1000000
attribute [local irreducible] Yl TL TC TE Spec YSpec R1 Hp.le EnvLe TS TR YS Stays
theorem gopen (ρ : Hp) (db : Nat) (k : DK) (D : DS) (hD : DOk k D) (R : RgS) (h : RO R D) (hc : D.Calm) (ht : R.h.turn < 1073741824) :
    Spec Try.prog 16 [.pointer (some ⟨db, 0, none⟩)] ρ (diskK db k D) (fun v ρ' L' => ρ.le ρ' ∧ ∃ rb w k' D', v = .tuple ⟨[.pointer (some ⟨rb, 0, none⟩), .int .i64 0]⟩ ∧ DOk k' D' ∧ RIn ρ' R.again w ∧ Good R.again D' ∧ L' = ringC rb db R.again w ++ diskK db k' D') := by
  obtain ⟨D', e, h1, h2, h3, _⟩ := h.open hc ht
  refine (open_spec ρ db k D hD).mono ?_
  rintro v ρ' L' _ ⟨hle, k', hk', ha⟩
  unfold openAns at ha
  rw [e] at ha hk'
  obtain ⟨rb, w, hv, hin, hL⟩ := ha
  exact ⟨hle, rb, w, k', D', hv, hk', hin, ⟨h1, h2, h3⟩, hL⟩
structure TurnI (R : RgS) (j : Nat) : Prop where
  size : R.h.size = 20
  turn : R.h.turn = R.h.first
  next : R.next = j + 1
  note : R.h.note = []
theorem TurnI.minus {R : RgS} {j : Nat} (h : TurnI R j) (h0 : 1 ≤ R.ents.length) : TurnI (R.minus 1 []) j := by
  have h1 := h.turn
  have h2 := h.next
  refine ⟨h.size, ?_, ?_, rfl⟩
  · simp only [RgS.minus, RgS.cutH, Hd.cut]; omega
  · simp only [RgS.next] at h2
    simp only [RgS.minus, RgS.cutH, Hd.cut, RgS.next, List.length_drop]; omega
theorem TurnI.plus {R : RgS} {j : Nat} {b : Bs} (h : TurnI R j) : TurnI (R.plus b) (j + 1) := by
  have h2 := h.next
  refine ⟨h.size, h.turn, ?_, h.note⟩
  simp only [RgS.next] at h2
  simp only [RgS.plus, RgS.next, List.length_append, List.length_singleton]; omega
theorem u64_nn (a : Int) : 0 ≤ IntKind.u64.wrap a := by
  have h : IntKind.u64.wrap a = a % 18446744073709551616 := rfl
  rw [h]; omega
theorem u64_mod (a m : Int) (h0 : 0 < m) (h1 : m ≤ 1000000) : 0 ≤ IntKind.i64.wrap ((IntKind.u64.wrap a).tmod m) ∧ IntKind.i64.wrap ((IntKind.u64.wrap a).tmod m) < m ∧ IntKind.i64.wrap ((IntKind.u64.wrap a).tmod m) = (IntKind.u64.wrap a).tmod m := by
  have h2 := u64_nn a
  have h3 : (IntKind.u64.wrap a).tmod m = (IntKind.u64.wrap a) % m := Int.tmod_eq_emod_of_nonneg h2
  have h4 := Int.emod_nonneg (IntKind.u64.wrap a) (show m ≠ 0 by omega)
  have h5 := Int.emod_lt_of_pos (IntKind.u64.wrap a) h0
  rw [h3, wrap_id (by simp only [lo, hi]; omega)]
  exact ⟨h4, h5, rfl⟩
theorem turns_spec (ρ : Hp) (a : Option Addr) (n c : Nat) (l : List BSl) (hl : SIn ρ slv a n l) (hin : ∀ e ∈ l, BIn ρ e ∧ e.n ≤ 9223372036854775807) (hbig : n ≤ 9223372036854775807) (kp : Int) (hkp : -9223372036854775808 ≤ kp ∧ kp ≤ 9223372036854775807) :
    Spec Try.prog 3 [.slice a n c, .int .i64 kp] ρ [] (fun v ρ' L' => v = .bool true ∧ ρ.le ρ' ∧ L' = []) := by
  have hlen := hl.len
  refine spec_enter Try.func3 rfl rfl rfl fun u R => ?_
  simp only [argsE, List.cons_append, List.nil_append]
  repeat' (first | (refine tl_is (.func 9) ?_; refine qC rfl rfl (wakes4_spec _) ?_; rintro v ρ' L' hle ⟨rfl, hl1, rfl⟩ <;> (try simp only [List.cons_append, List.nil_append, List.append_eq])) | (refine tl_is (.func 10) ?_; refine qC rfl rfl (kfresh _) ?_; rintro v1 ρ1 L1 hle1 ⟨hl2, rb, db, w1, k1, D1, rfl, hk1, hr1, g1, rfl⟩; try simp only [List.cons_append, List.nil_append, List.append_assoc]) | (refine i_op ?_; first | (refine i_qq ?_; refine qQ ?_) | refine qEf ?_) | refine tl_nil ?_ | (refine i_tc ?_; refine qTc ?_) | (refine i_te ?_; refine qTe ?_) | intro _)
  have hK0 := u64_mod kp 4 (by omega) (by omega)
  generalize hK : (IntKind.i64.wrap ((IntKind.u64.wrap kp).tmod 4)) = K at *
  replace hK0 := And.intro hK0.1 hK0.2.1
  clear hK
  refine tc_loop_g [(5, _), (6, _), (8, _), (28, _), (29, _)] (fun (ζ : (Nat) × (Hp) × (RgS) × (RW) × (DK) × (DS) × (Value) × (List BSl) × (List (Nat × Obj))) => [(30, .int .i64 ζ.1), (9, .int .u64 ζ.2.2.1.h.first), (10, ζ.2.2.2.2.2.2.1), (4, .bool false)]) (fun (ζ : (Nat) × (Hp) × (RgS) × (RW) × (DK) × (DS) × (Value) × (List BSl) × (List (Nat × Obj))) => ζ.2.1) (fun (ζ : (Nat) × (Hp) × (RgS) × (RW) × (DK) × (DS) × (Value) × (List BSl) × (List (Nat × Obj))) => (ringC rb db ζ.2.2.1 ζ.2.2.2.1 ++ diskK db ζ.2.2.2.2.1 ζ.2.2.2.2.2.1) ++ [ζ.2.2.2.2.2.2.2.2]) (fun (ζ : (Nat) × (Hp) × (RgS) × (RW) × (DK) × (DS) × (Value) × (List BSl) × (List (Nat × Obj))) => (ζ.1 ≤ n ∧ ζ.1 ≤ 60) ∧ ρ1.le ζ.2.1 ∧ DOk ζ.2.2.2.2.1 ζ.2.2.2.2.2.1 ∧ RIn ζ.2.1 ζ.2.2.1 ζ.2.2.2.1 ∧ Good ζ.2.2.1 ζ.2.2.2.2.2.1 ∧ TurnI ζ.2.2.1 ζ.1 ∧ OwnO ζ.2.2.2.2.2.2.1 ζ.2.2.2.2.2.2.2.1.length (ζ.2.2.2.2.2.2.2.1.map slv) 30 ζ.2.2.2.2.2.2.2.2 ∧ (∀ e ∈ ζ.2.2.2.2.2.2.2.1, BIn ζ.2.1 e) ∧ ζ.2.2.2.2.2.2.2.1.map BSl.l = ζ.2.2.1.ents) (fun (ζ : (Nat) × (Hp) × (RgS) × (RW) × (DK) × (DS) × (Value) × (List BSl) × (List (Nat × Obj))) => n - ζ.1) ((0, ρ1, ⟨freshH 20, [], 0, false⟩, w1, k1, D1, .slice none 0 0, [], [])) (⟨⟨Nat.zero_le _, Nat.zero_le _⟩, Hp.le_refl _, hk1, hr1, g1, ⟨rfl, rfl, rfl, rfl⟩, OwnO.nil, by simp, rfl⟩) ev_le ev_le rfl tk ?_
  rintro ⟨j, ρ2, R, w, k, D, v, els, ch⟩ hI
  try simp only [List.cons_append, List.nil_append, List.append_assoc, List.append_eq] at hI ⊢
  try dsimp only at hI ⊢
  obtain ⟨⟨hj, hj6⟩, hle2', hk, hr, g, ti, hown, hbe, hents⟩ := hI
  have hlm := Hp.le_trans hl1 (Hp.le_trans hl2 hle2')
  have hd8 : decide (R.h.first = R.h.first ∧ R.ents = els.map BSl.l ∧ R.h.note = BSl.l ⟨none, 0, 0, []⟩) = true := decide_eq_true ⟨rfl, hents.symm, ti.note⟩
  have hd9 : decide (R.again.h.first = R.h.first ∧ R.again.ents = els.map BSl.l ∧ R.again.h.note = BSl.l ⟨none, 0, 0, []⟩) = true := decide_eq_true ⟨rfl, hents.symm, ti.note⟩
  have htn : R.h.turn < 1073741824 := by
    have h1 := ti.turn; have h2 := ti.next; simp only [RgS.next] at h2; omega
  by_cases hlt : j < n
  · obtain ⟨b, off, C, T, fr, rfl, hb, hc⟩ := (hl.mono hlm).get (show j < l.length by omega)
    obtain ⟨he, he9⟩ := hin _ (List.getElem_mem (show j < l.length by omega))
    replace he := he.mono hlm
    generalize l[j]'(by omega) = e at *
    have hel2 := he.s.len
    have hce := he.le
    by_cases h60 : j = 60
    · skip
      repeat' (first | (refine i_op ?_; first | (refine i_qq ?_; refine qQ ?_) | refine qEf ?_) | refine tl_nil ?_ | (refine i_tc ?_; refine qTc ?_) | (refine i_te ?_; refine qTe ?_) | intro _)
      refine tl_freeze ch (h := by infer_instance) (fun ρ8 hl8 hfz8 => ?_)
      obtain ⟨a8, c8, rfl, hc8, hs8⟩ := hown.sIn hfz8
      repeat' (first | (refine tl_is (.func 15) ?_; have ho8 := of_spec _ rb db R w (hr.mono hl8) ti.size R.h.first a8 els.length c8 els hs8 (fun x hx => (hbe x hx).mono hl8) ⟨none, 0, 0, []⟩ ⟨SIn.nil, Nat.le_refl _⟩; rw [hd8] at ho8; refine qC rfl rfl ho8 ?_; rintro v7 ρ7 L7 hle7 ⟨rfl, hl7, rfl⟩; try simp only [List.cons_append, List.nil_append, List.append_assoc]) | (refine i_op ?_; first | (refine i_qq ?_; refine qQ ?_) | refine qEf ?_) | refine tl_nil ?_ | (refine i_tc ?_; refine qTc ?_) | (refine i_te ?_; refine qTe ?_) | intro _)
      repeat' (first | (refine tl_is (.func 16) ?_; refine qC rfl rfl (gopen _ db k D hk R g.ro g.calm htn) ?_; rintro v9 ρ9 L9 hle9 ⟨hl9, rb9, w9, k9, D9, rfl, hk9, hr9, g9, rfl⟩; try simp only [List.cons_append, List.nil_append, List.append_assoc]) | (refine i_op ?_; first | (refine i_qq ?_; refine qQ ?_) | refine qEf ?_) | refine tl_nil ?_ | (refine i_tc ?_; refine qTc ?_) | (refine i_te ?_; refine qTe ?_) | intro _)
      repeat' (first | (refine tl_is (.func 15) ?_; have ho9 := of_spec _ rb9 db R.again w9 hr9 ti.size R.h.first a8 els.length c8 els (hs8.mono (Hp.le_trans hl7 hl9)) (fun x hx => (hbe x hx).mono (Hp.le_trans hl8 (Hp.le_trans hl7 hl9))) ⟨none, 0, 0, []⟩ ⟨SIn.nil, Nat.le_refl _⟩; rw [hd9] at ho9; refine qC rfl rfl ho9 ?_; rintro v6 ρ6 L6 hle6 ⟨rfl, hl6, rfl⟩; try simp only [List.cons_append, List.nil_append, List.append_assoc]) | (refine i_op ?_; first | (refine i_qq ?_; refine qQ ?_) | refine qEf ?_) | refine tl_nil ?_ | (refine i_tc ?_; refine qTc ?_) | (refine i_te ?_; refine qTe ?_) | intro _)
      have hfin := Hp.le_trans hlm (Hp.le_trans hl8 (Hp.le_trans hl7 (Hp.le_trans hl9 hl6)))
      exact qE (L' := []) ⟨rfl, hfin, rfl⟩
    · have hm : (min (e.n : Int) 150).toNat = min e.n 150 := by omega
      have hs2 := he.s.take (hi' := min e.n 150) (Nat.min_le_left _ _)
      have hbl : (e.l.take (min e.n 150)).length = min e.n 150 := by simp; omega
      have hm4 : min e.n 150 ≤ 150 := Nat.min_le_right _ _
      have hmc : min e.n 150 ≤ e.c := by omega
      repeat' (first | (simp only [hm]; refine tl_app (n := 0) (xs := []) (sp := []) (ys := (e.l.take (min e.n 150)).map u8c) (sz := 1) rfl rfl (OwnS.zero _ 1) (hR := rem_here') hs2.srcV (by simpa using hbl) (u8c_one _) (by decide) rfl (by omega) (by omega) rfl (fun v1 sp1 hown1 => ?_); simp only [Nat.zero_add, List.nil_append] at hown1 ⊢; refine tl_freeze (ownC v1 ((e.l.take (min e.n 150)).map u8c) sp1 5) (h := by infer_instance) (fun ρ3 hl3 hfz => ?_); obtain ⟨a1, c1, rfl, hc1, hs1⟩ := hown1.sIn hfz) | (refine i_op ?_; first | (refine i_qq ?_; refine qQ ?_) | refine qEf ?_) | refine tl_nil ?_ | (refine i_tc ?_; refine qTc ?_) | (refine i_te ?_; refine qTe ?_) | intro _)
      generalize hmm : min e.n 150 = m at *
      generalize e.l.take m = bs at *
      have hs3 : sects m ≤ 3 := by unfold sects; omega
      refine tc_loop_g [(5, _), (6, _), (8, _), (11, _), (12, _), (28, _), (29, _), (30, _), (31, _), (32, _), (33, _), (34, _), (35, _), (36, _), (37, _), (38, _), (39, _), (40, _), (41, _), (42, _), (43, _)] (fun (ζ : (RgS) × (RW) × (DK) × (DS) × (Value) × (List BSl) × (List (Nat × Obj)) × (Hp)) => [(9, .int .u64 ζ.1.h.first), (10, ζ.2.2.2.2.1), (4, .bool false)]) (fun (ζ : (RgS) × (RW) × (DK) × (DS) × (Value) × (List BSl) × (List (Nat × Obj)) × (Hp)) => ζ.2.2.2.2.2.2.2) (fun (ζ : (RgS) × (RW) × (DK) × (DS) × (Value) × (List BSl) × (List (Nat × Obj)) × (Hp)) => (ringC rb db ζ.1 ζ.2.1 ++ diskK db ζ.2.2.1 ζ.2.2.2.1) ++ [ζ.2.2.2.2.2.2.1]) (fun (ζ : (RgS) × (RW) × (DK) × (DS) × (Value) × (List BSl) × (List (Nat × Obj)) × (Hp)) => ρ3.le ζ.2.2.2.2.2.2.2 ∧ DOk ζ.2.2.1 ζ.2.2.2.1 ∧ RIn ζ.2.2.2.2.2.2.2 ζ.1 ζ.2.1 ∧ Good ζ.1 ζ.2.2.2.1 ∧ TurnI ζ.1 j ∧ OwnO ζ.2.2.2.2.1 ζ.2.2.2.2.2.1.length (ζ.2.2.2.2.2.1.map slv) 30 ζ.2.2.2.2.2.2.1 ∧ (∀ e ∈ ζ.2.2.2.2.2.1, BIn ζ.2.2.2.2.2.2.2 e) ∧ ζ.2.2.2.2.2.1.map BSl.l = ζ.1.ents) (fun (ζ : (RgS) × (RW) × (DK) × (DS) × (Value) × (List BSl) × (List (Nat × Obj)) × (Hp)) => ζ.2.2.2.2.2.1.length) ((R, w, k, D, v, els, ch, ρ3)) (⟨Hp.le_refl _, hk, hr.mono hl3, g, ti, hown, fun x hx => (hbe x hx).mono hl3, hents⟩) ev_le ev_le rfl tk ?_
      rintro ⟨R2, w2, k2, D2, v2, els2, ch2, ρ4⟩ hI
      try simp only [List.cons_append, List.nil_append, List.append_assoc, List.append_eq] at hI ⊢
      try dsimp only at hI ⊢
      clear hk hr g ti hown hbe hents
      obtain ⟨hl4, hk, hr, g, ti, hown, hbe, hents⟩ := hI
      have hok := hr.ok
      have hus := hok.used
      have hft := hok.fit
      have hsz := ti.size
      have hul := usedL_len R2.ents
      have hlE : R2.ents.length = els2.length := by rw [← hents]; simp
      have hnx : R2.next < 1099511627776 := by rw [ti.next]; omega
      have htn : R2.h.turn < 1073741824 := by
        have h1 := ti.turn; have h2 := ti.next; simp only [RgS.next] at h2; omega
      cases els2 with
      | nil =>
        have he0 : R2.ents = [] := List.eq_nil_of_length_eq_zero (by simpa using hlE)
        have hu0 : R2.used = 0 := by rw [hus, he0]; rfl
        obtain ⟨a5, cap5, rfl, _⟩ := hown.slice
        simp only [List.length_nil, List.map_nil, Int.natCast_zero] at hown ⊢
        have hgt : ¬ K < 0 := by omega
        have hlf : ¬ (((R2.h.size - R2.used : Nat) : Int) < ((sects m : Nat) : Int)) := by omega
        repeat' (first | (refine tl_is (.func 11) ?_; refine qC rfl rfl (left_spec4 _ rb db R2 w2 hok) ?_; rintro v ρ' L' hle ⟨rfl, rfl, rfl⟩ <;> (try simp only [List.cons_append, List.nil_append, List.append_eq])) | (refine tl_is (.func 12) ?_; refine qC rfl rfl (sects_nat _ m (by omega)) ?_; rintro v ρ' L' hle ⟨rfl, rfl, rfl⟩ <;> (try simp only [List.cons_append, List.nil_append, List.append_eq])) | (refine i_op ?_; first | (refine i_qq ?_; refine qQ ?_) | refine qEf ?_) | refine tl_nil ?_ | (refine i_tc ?_; refine qTc ?_) | (refine i_te ?_; refine qTe ?_) | intro _)
        have hro := hr
        repeat' (first | (refine tl_is (.func 14) ?_; refine qC rfl rfl (gappend _ rb db R2 w2 hr k2 D2 hk g [] _ m _ bs (hs1.mono hl4).rd hc1 (by omega) (by omega) hnx) ?_; rintro v6 ρ6 L6 hle6 ⟨rfl, hl6, k6, D6, w6, hk6, hr6, g6, rfl⟩; try simp only [List.cons_append, List.nil_append, List.append_assoc]) | (refine tl_buildSlice_s rfl rfl rfl rfl (by simp) rfl rfl (fun _ => ?_)) | (refine tl_appO (ys := [slv ⟨a1, m, c1, bs⟩]) (m := 1) rfl rfl hown (hR := by infer_instance) SrcV.lit rfl rfl (by decide) rfl (by omega) (by omega) rfl (fun v7 ch7 hown7 => ?_)) | (refine i_op ?_; first | (refine i_qq ?_; refine qQ ?_) | refine qEf ?_) | refine tl_nil ?_ | (refine i_tc ?_; refine qTc ?_) | (refine i_te ?_; refine qTe ?_) | intro _)
        refine te_round_g (j + 1, ρ6, R2.plus bs, w6, k6, D6, v7, [] ++ [⟨a1, m, c1, bs⟩], ch7) (⟨⟨hlt, by omega⟩, Hp.le_trans hle2' (Hp.le_trans hl3 (Hp.le_trans hl4 hl6)), hk6, hr6, g6, ti.plus, by simpa using hown7, fun x hx => (by rcases List.mem_append.1 hx with hx | hx <;> first | exact (hbe x hx).mono hl6 | (rw [List.mem_singleton.1 hx]; exact ⟨hs1.mono (Hp.le_trans hl4 hl6), hc1⟩)), by rw [List.map_append, hents]; rfl⟩) ev_le ev_le rfl tk inferInstance (by first | omega | (dsimp only; omega))
      | cons e1 rest =>
        obtain ⟨a5, cap5, rfl, h15, hc5, htl⟩ := OwnO.tail hown
        have hdec : rest.length < (e1 :: rest).length := by simp
        have hfb : R2.h.first ≤ 61 := by have h2 := ti.next; simp only [RgS.next] at h2; omega
        have hf1 : (R2.h.first : Int) + 1 = (((R2.minus 1 []).h.first : Nat) : Int) := by simp only [RgS.minus, RgS.cutH, Hd.cut]; omega
        have hd1 : rest.map BSl.l = (R2.minus 1 []).ents := by simp only [RgS.minus]; rw [← hents]; rfl
        by_cases hcd : ((rest.length + 1 : Nat) : Int) > K ∨ (((R2.h.size - R2.used : Nat) : Int) < ((sects m : Nat) : Int))
        · rcases Classical.em (((rest.length + 1 : Nat) : Int) > K) with hq1 | hq1
          · skip
            repeat' (first | (refine tl_is (.func 11) ?_; refine qC rfl rfl (left_spec4 _ rb db R2 w2 hok) ?_; rintro v ρ' L' hle ⟨rfl, rfl, rfl⟩ <;> (try simp only [List.cons_append, List.nil_append, List.append_eq])) | (refine tl_is (.func 12) ?_; refine qC rfl rfl (sects_nat _ m (by omega)) ?_; rintro v ρ' L' hle ⟨rfl, rfl, rfl⟩ <;> (try simp only [List.cons_append, List.nil_append, List.append_eq])) | (refine tl_is (.func 13) ?_; refine qC rfl rfl (gcut _ rb db R2 w2 hr k2 D2 hk g [] none 0 0 [] SIn.nil.rd 1 (by rw [hlE]; exact h15) htn (Nat.zero_le _) hnx) ?_; rintro v9 ρ9 L9 hle9 ⟨rfl, hl9, k9, D9, w9, hk9, hr9, g9, rfl⟩; try simp only [List.cons_append, List.nil_append, List.append_assoc]) | (refine i_op ?_; first | (refine i_qq ?_; refine qQ ?_) | refine qEf ?_) | refine tl_nil ?_ | (refine i_tc ?_; refine qTc ?_) | (refine i_te ?_; refine qTe ?_) | intro _)
            rw [hf1]
            refine te_round_g (R2.minus 1 [], w9, k9, D9, .slice (if cap5 = 1 then a5 else a5.map (·.add (1 * 1))) ((e1 :: rest).length - 1) (cap5 - 1), rest, ch2, ρ9) (⟨Hp.le_trans hl4 hl9, hk9, hr9, g9, ti.minus (by rw [hlE]; exact h15), htl, fun x hx => (hbe x (List.mem_cons_of_mem _ hx)).mono hl9, hd1⟩) ev_le ev_le rfl tk inferInstance (by first | omega | (dsimp only; omega))
          · have hc2 := hcd.resolve_left hq1
            repeat' (first | (refine tl_is (.func 11) ?_; refine qC rfl rfl (left_spec4 _ rb db R2 w2 hok) ?_; rintro v ρ' L' hle ⟨rfl, rfl, rfl⟩ <;> (try simp only [List.cons_append, List.nil_append, List.append_eq])) | (refine tl_is (.func 12) ?_; refine qC rfl rfl (sects_nat _ m (by omega)) ?_; rintro v ρ' L' hle ⟨rfl, rfl, rfl⟩ <;> (try simp only [List.cons_append, List.nil_append, List.append_eq])) | (refine tl_is (.func 13) ?_; refine qC rfl rfl (gcut _ rb db R2 w2 hr k2 D2 hk g [] none 0 0 [] SIn.nil.rd 1 (by rw [hlE]; exact h15) htn (Nat.zero_le _) hnx) ?_; rintro v9 ρ9 L9 hle9 ⟨rfl, hl9, k9, D9, w9, hk9, hr9, g9, rfl⟩; try simp only [List.cons_append, List.nil_append, List.append_assoc]) | (refine i_op ?_; first | (refine i_qq ?_; refine qQ ?_) | refine qEf ?_) | refine tl_nil ?_ | (refine i_tc ?_; refine qTc ?_) | (refine i_te ?_; refine qTe ?_) | intro _)
            rw [hf1]
            refine te_round_g (R2.minus 1 [], w9, k9, D9, .slice (if cap5 = 1 then a5 else a5.map (·.add (1 * 1))) ((e1 :: rest).length - 1) (cap5 - 1), rest, ch2, ρ9) (⟨Hp.le_trans hl4 hl9, hk9, hr9, g9, ti.minus (by rw [hlE]; exact h15), htl, fun x hx => (hbe x (List.mem_cons_of_mem _ hx)).mono hl9, hd1⟩) ev_le ev_le rfl tk inferInstance (by first | omega | (dsimp only; omega))
        · have hx1 : ¬ (((rest.length + 1 : Nat) : Int) > K) := fun h => hcd (.inl h)
          have hx2 : ¬ (((R2.h.size - R2.used : Nat) : Int) < ((sects m : Nat) : Int)) := fun h => hcd (.inr h)
          repeat' (first | (refine tl_is (.func 11) ?_; refine qC rfl rfl (left_spec4 _ rb db R2 w2 hok) ?_; rintro v ρ' L' hle ⟨rfl, rfl, rfl⟩ <;> (try simp only [List.cons_append, List.nil_append, List.append_eq])) | (refine tl_is (.func 12) ?_; refine qC rfl rfl (sects_nat _ m (by omega)) ?_; rintro v ρ' L' hle ⟨rfl, rfl, rfl⟩ <;> (try simp only [List.cons_append, List.nil_append, List.append_eq])) | (refine i_op ?_; first | (refine i_qq ?_; refine qQ ?_) | refine qEf ?_) | refine tl_nil ?_ | (refine i_tc ?_; refine qTc ?_) | (refine i_te ?_; refine qTe ?_) | intro _)
          have hro := hr
          repeat' (first | (refine tl_is (.func 14) ?_; refine qC rfl rfl (gappend _ rb db R2 w2 hr k2 D2 hk g [] _ m _ bs (hs1.mono hl4).rd hc1 (by omega) (by omega) hnx) ?_; rintro v6 ρ6 L6 hle6 ⟨rfl, hl6, k6, D6, w6, hk6, hr6, g6, rfl⟩; try simp only [List.cons_append, List.nil_append, List.append_assoc]) | (refine tl_buildSlice_s rfl rfl rfl rfl (by simp) rfl rfl (fun _ => ?_)) | (refine tl_appO (ys := [slv ⟨a1, m, c1, bs⟩]) (m := 1) rfl rfl hown (hR := by infer_instance) SrcV.lit rfl rfl (by decide) rfl (by omega) (by omega) rfl (fun v7 ch7 hown7 => ?_)) | (refine i_op ?_; first | (refine i_qq ?_; refine qQ ?_) | refine qEf ?_) | refine tl_nil ?_ | (refine i_tc ?_; refine qTc ?_) | (refine i_te ?_; refine qTe ?_) | intro _)
          refine te_round_g (j + 1, ρ6, R2.plus bs, w6, k6, D6, v7, (e1 :: rest) ++ [⟨a1, m, c1, bs⟩], ch7) (⟨⟨hlt, by omega⟩, Hp.le_trans hle2' (Hp.le_trans hl3 (Hp.le_trans hl4 hl6)), hk6, hr6, g6, ti.plus, by simpa using hown7, fun x hx => (by rcases List.mem_append.1 hx with hx | hx <;> first | exact (hbe x hx).mono hl6 | (rw [List.mem_singleton.1 hx]; exact ⟨hs1.mono (Hp.le_trans hl4 hl6), hc1⟩)), by rw [List.map_append, hents]; rfl⟩) ev_le ev_le rfl tk inferInstance (by first | omega | (dsimp only; omega))
  · skip
    repeat' (first | (refine i_op ?_; first | (refine i_qq ?_; refine qQ ?_) | refine qEf ?_) | refine tl_nil ?_ | (refine i_tc ?_; refine qTc ?_) | (refine i_te ?_; refine qTe ?_) | intro _)
    refine tl_freeze ch (h := by infer_instance) (fun ρ8 hl8 hfz8 => ?_)
    obtain ⟨a8, c8, rfl, hc8, hs8⟩ := hown.sIn hfz8
    repeat' (first | (refine tl_is (.func 15) ?_; have ho8 := of_spec _ rb db R w (hr.mono hl8) ti.size R.h.first a8 els.length c8 els hs8 (fun x hx => (hbe x hx).mono hl8) ⟨none, 0, 0, []⟩ ⟨SIn.nil, Nat.le_refl _⟩; rw [hd8] at ho8; refine qC rfl rfl ho8 ?_; rintro v7 ρ7 L7 hle7 ⟨rfl, hl7, rfl⟩; try simp only [List.cons_append, List.nil_append, List.append_assoc]) | (refine i_op ?_; first | (refine i_qq ?_; refine qQ ?_) | refine qEf ?_) | refine tl_nil ?_ | (refine i_tc ?_; refine qTc ?_) | (refine i_te ?_; refine qTe ?_) | intro _)
    repeat' (first | (refine tl_is (.func 16) ?_; refine qC rfl rfl (gopen _ db k D hk R g.ro g.calm htn) ?_; rintro v9 ρ9 L9 hle9 ⟨hl9, rb9, w9, k9, D9, rfl, hk9, hr9, g9, rfl⟩; try simp only [List.cons_append, List.nil_append, List.append_assoc]) | (refine i_op ?_; first | (refine i_qq ?_; refine qQ ?_) | refine qEf ?_) | refine tl_nil ?_ | (refine i_tc ?_; refine qTc ?_) | (refine i_te ?_; refine qTe ?_) | intro _)
    repeat' (first | (refine tl_is (.func 15) ?_; have ho9 := of_spec _ rb9 db R.again w9 hr9 ti.size R.h.first a8 els.length c8 els (hs8.mono (Hp.le_trans hl7 hl9)) (fun x hx => (hbe x hx).mono (Hp.le_trans hl8 (Hp.le_trans hl7 hl9))) ⟨none, 0, 0, []⟩ ⟨SIn.nil, Nat.le_refl _⟩; rw [hd9] at ho9; refine qC rfl rfl ho9 ?_; rintro v6 ρ6 L6 hle6 ⟨rfl, hl6, rfl⟩; try simp only [List.cons_append, List.nil_append, List.append_assoc]) | (refine i_op ?_; first | (refine i_qq ?_; refine qQ ?_) | refine qEf ?_) | refine tl_nil ?_ | (refine i_tc ?_; refine qTc ?_) | (refine i_te ?_; refine qTe ?_) | intro _)
    have hfin := Hp.le_trans hlm (Hp.le_trans hl8 (Hp.le_trans hl7 (Hp.le_trans hl9 hl6)))
    exact qE (L' := []) ⟨rfl, hfin, rfl⟩
end Go.Proofs.E

namespace Go.Proofs.E
open Go Go.Lib
set_option linter.unusedVariables false
set_option linter.unusedSimpArgs false
set_option linter.unusedSectionVars false
section
variable {x : Cx} {Q : Exit → Act → World → Prop} {E : Env} {ρ ρ0 : Hp} {L Ls : SH} {l : List Oper} {listed : List Bool} {fuel : Nat}
theorem rStep4 {i j k m : Nat} {o p q r : Oper} (h : TL x l.toArray [o] (QR x l (Stays x ρ0 Ls) fuel (lset listed i) Q) E ρ L) (h' : TL x l.toArray [p] (QR x l (Stays x ρ0 Ls) fuel (lset listed j) Q) E ρ L) (h'' : TL x l.toArray [q] (QR x l (Stays x ρ0 Ls) fuel (lset listed k) Q) E ρ L) (h3 : TL x l.toArray [r] (QR x l (Stays x ρ0 Ls) fuel (lset listed m) Q) E ρ L)
    (hr : Region.ready .any l.toArray ⟨listed⟩ = [i, j, k, m] := by decide +kernel) (ho : l[i]? = some o := by rfl) (hp : l[j]? = some p := by rfl) (hq : l[k]? = some q := by rfl) (hq3 : l[m]? = some r := by rfl) : TR x l (Stays x ρ0 Ls) (fuel + 1) listed Q E ρ L :=
  tr_step hr (by simp) (fun n hn => by
    rcases List.mem_cons.1 hn with rfl | hn
    · exact ⟨o, ho, h⟩
    · rcases List.mem_cons.1 hn with rfl | hn
      · exact ⟨p, hp, h'⟩
      · rcases List.mem_cons.1 hn with rfl | hn
        · exact ⟨q, hq, h''⟩
        · have : n = m := by simpa using hn
          subst this; exact ⟨r, hq3, h3⟩)
/-- a slice that is full, of whatever length and address, and only read, is appended to -/
theorem tl_app_fr {d t e sz by' n m cx : Nat} {s y : Operand} {z : Value} {xs ys : List Value} {a0 a : Option Addr} {ops : Array Oper} {rest : List Oper} {ty : TypeId} {pos : String} {af : Array Edge} [hS : TySlice x.P t e] [hZ : TySz x.P e sz] [hB : TyBytes x.P e by'] [hz : TyZero x.P e z]
    (hs : ev E s = some (.slice a0 n n)) (hy : ev E y = some (.slice a m cx)) (hx : SrcV x ρ L a0 xs) (hxl : xs.length = n * sz) (hsrc : SrcV x ρ L a ys) (hlen : ys.length = m * sz) (hy0 : ys ≠ [])
    (hsz : 0 < sz) (hzs : z.cells.toList.length = sz) (hb : (n + m) * by' ≤ 140737488355328) (hm : n + m ≤ 9223372036854775807) (hd : Nat.blt d x.N = true)
    (k : ∀ v' sp', OwnS v' (n + m) (xs ++ ys) sp' sz → TL x ops rest Q ((d, v') :: E) ρ (ownC v' (xs ++ ys) sp' e :: L)) :
    TL x ops (⟨some d, .call { callee := .builtin .append, args := #[s, y], argTypes := #[t, t] }, ty, pos, af, none⟩ :: rest) Q E ρ L := by
  by_cases hx0 : xs = []
  · have hn0 : n = 0 := by
      rw [hx0] at hxl
      rcases Nat.eq_zero_or_pos n with h | h
      · exact h
      · have := Nat.mul_pos h hsz; simp at hxl; omega
    subst hn0; subst hx0
    intro a' w ha hw
    refine wpListIn_intro rfl rfl ?_
    obtain ⟨i, g1, g2⟩ := hZ.out
    obtain ⟨i2, g3, g4⟩ := hB.out
    obtain ⟨i3, g5, g6⟩ := hz.out
    rw [g1] at g3 g5
    cases g3; cases g5
    subst g2; subst g4
    obtain ⟨bx, ox, rfl, hsr⟩ := hsrc.resolve_left hy0
    have hm0 : 0 < m := by
      rcases Nat.eq_zero_or_pos m with h | h
      · subst h; simp at hlen; exact absurd hlen hy0
      · exact h
    have hzs' : z.cells.size = i.size := by simpa using hzs
    have hcells : ∀ j c, ys[j]? = some c → w.cell? ((⟨bx, ox, none⟩ : Addr).add j) = some c := fun j c hj => by rw [addr_add]; exact hsr w hw j c hj
    have hexec : ∀ (v' : Value) (w' : World), (Builtin.append_ #[t, t] ty #[.slice a0 0 0, .slice (some ⟨bx, ox, none⟩) m cx]).run x.P w = .ok v' w' →
        (execOp a'.eval ⟨some d, .call { callee := .builtin .append, args := #[s, y], argTypes := #[t, t] }, ty, pos, af, none⟩).run x.P w = .ok (.value v') w' := fun v' w' hr => by
      simp only [execOp, resolve, Sem.run_bind, Sem.run_pure, Result.andThen_ok, invoke, builtin]
      have hargs : Array.map a'.eval #[s, y] = #[.slice a0 0 0, .slice (some ⟨bx, ox, none⟩) m cx] := by simp [ha.eval hs, ha.eval hy]
      rw [hargs, hr]
      rfl
    have hzl : ∀ c, (Builtin.zeroCells z.cells c).toList.length = c * i.size := fun c => by
      have := size_zeroCells z.cells c
      rw [hzs'] at this; simpa using this
    cases a0 with
    | none =>
      have hrun := run_append_nil (P := x.P) (w := w) t ty e i z hS.out g1 g6 ⟨bx, ox, none⟩ m cx ys hlen hcells hm0 (by omega) (by
        have hfit : Builtin.nextslicecap (0 + m) 0 * i.bytes ≤ 281474976710656 := growslice_fits (by omega) hb
        have : Builtin.nextslicecap m 0 = m := nextslicecap_zero hm0
        simp only [Nat.zero_add, this] at hfit; exact hfit)
      rw [hexec _ _ hrun]
      have hs2 := (hw.drew).new (.cells (ys.toArray ++ Builtin.zeroCells z.cells (grownCap w m 0 e - m)) e (0, 0))
      have hg : m ≤ grownCap w m 0 e := by simp only [grownCap, Question.cut]; omega
      refine k (.slice (some ⟨w.heap.size, 0, none⟩) (0 + m) (grownCap w m 0 e)) (Builtin.zeroCells z.cells (grownCap w m 0 e - m)).toList ?_ _ _ (by
        have := ha.put (Nat.le_of_ble_eq_true hd) (.slice (some ⟨w.heap.size, 0, none⟩) m (grownCap w m 0 e)); simpa using this) ?_
      · refine ⟨.inr ⟨w.heap.size, grownCap w m 0 e, rfl, by simpa using hlen, ?_, by omega⟩⟩
        rw [hzl]; simp only [List.nil_append, hlen, ← Nat.add_mul]
        rw [show m + (grownCap w m 0 e - m) = grownCap w m 0 e by omega]
      · have : ownC (.slice (some ⟨w.heap.size, 0, none⟩) (0 + m) (grownCap w m 0 e)) ([] ++ ys) (Builtin.zeroCells z.cells (grownCap w m 0 e - m)).toList e = [(w.heap.size, .cells (ys.toArray ++ Builtin.zeroCells z.cells (grownCap w m 0 e - m)) e (0, 0))] := by
          simp only [ownC, List.nil_append]
          congr 3
          apply Array.ext'; simp
        rw [this]
        exact hs2
    | some a1 =>
      have hrun := run_append_grow (P := x.P) (w := w) t ty e i z hS.out g1 g6 a1 0 0 [] (by simp) (fun j c hj => by simp at hj) ⟨bx, ox, none⟩ m cx ys hlen hcells (by omega) (by omega) (growslice_fits (by omega) hb)
      rw [hexec _ _ hrun]
      have hs2 := (hw.drew).new (.cells (([] : List Value).toArray ++ ys.toArray ++ Builtin.zeroCells z.cells (grownCap w (0 + m) 0 e - (0 + m))) e (0, 0))
      have hg : 0 + m ≤ grownCap w (0 + m) 0 e := by simp only [grownCap, Question.cut]; omega
      refine k (.slice (some ⟨w.heap.size, 0, none⟩) (0 + m) (grownCap w (0 + m) 0 e)) (Builtin.zeroCells z.cells (grownCap w (0 + m) 0 e - (0 + m))).toList ?_ _ _ (ha.put (Nat.le_of_ble_eq_true hd) _) ?_
      · refine ⟨.inr ⟨w.heap.size, grownCap w (0 + m) 0 e, rfl, by simpa using hlen, ?_, by omega⟩⟩
        rw [hzl]; simp only [List.nil_append, hlen, ← Nat.add_mul]
        rw [show m + (grownCap w (0 + m) 0 e - (0 + m)) = grownCap w (0 + m) 0 e by omega]
      · have : ownC (.slice (some ⟨w.heap.size, 0, none⟩) (0 + m) (grownCap w (0 + m) 0 e)) ([] ++ ys) (Builtin.zeroCells z.cells (grownCap w (0 + m) 0 e - (0 + m))).toList e = [(w.heap.size, .cells (([] : List Value).toArray ++ ys.toArray ++ Builtin.zeroCells z.cells (grownCap w (0 + m) 0 e - (0 + m))) e (0, 0))] := by
          simp only [ownC, List.nil_append]
          congr 3
          apply Array.ext'; simp
        rw [this]
        exact hs2
  · cases a0 with
    | none => exact absurd ((hx.resolve_left hx0).choose_spec.choose_spec.1) (by simp)
    | some a1 => exact tl_app_full hs hy hx hxl hx0 hsrc hlen hy0 hsz hzs hb hm hd k
end
end Go.Proofs.E

namespace Go.Proofs.E
open Go
set_option linter.unusedVariables false
set_option linter.unusedSimpArgs false
set_option linter.unusedSectionVars false
set_option maxRecDepth 4000
set_option maxHeartbeats 1000000
attribute [local irreducible] Yl TL TC TE Spec YSpec R1 Hp.le EnvLe TS TR YS Stays
/-! ## what is held of a ring, and what may come of it -/
structure Hs where
  first : Nat
  a : Option Addr
  n : Nat
  c : Nat
  els : List BSl
  note : BSl
abbrev hsV (H : Hs) : List Value := [.int .u64 H.first, .slice H.a H.n H.c, slv H.note]
structure HIn (ρ : Hp) (H : Hs) : Prop where
  s : SIn ρ slv H.a H.n H.els
  le : H.n ≤ H.c
  els : ∀ e ∈ H.els, BIn ρ e
  note : BIn ρ H.note
theorem HIn.mono {ρ ρ' : Hp} {H : Hs} (h : HIn ρ H) (hle : ρ.le ρ') : HIn ρ' H := ⟨h.s.mono hle, h.le, fun e he => (h.els e he).mono hle, h.note.mono hle⟩
def HR (R : RgS) (H : Hs) : Prop := R.h.first = H.first ∧ R.ents = H.els.map BSl.l ∧ R.h.note = H.note.l
instance (R : RgS) (H : Hs) : Decidable (HR R H) := by unfold HR; infer_instance
structure Bd (R : RgS) (t m : Nat) : Prop where
  size : R.h.size = 20
  turn : R.h.turn ≤ t
  next : R.next ≤ m
theorem Bd.mono {R : RgS} {t m t' m' : Nat} (h : Bd R t m) (ht : t ≤ t') (hm : m ≤ m') : Bd R t' m' := ⟨h.size, by have := h.turn; omega, by have := h.next; omega⟩
theorem Bd.plus {R : RgS} {t m : Nat} {b : Bs} (h : Bd R t m) : Bd (R.plus b) (t + 1) (m + 1) := by
  have h1 := h.turn; have h2 := h.next
  refine ⟨h.size, by simp only [RgS.plus]; omega, ?_⟩
  simp only [RgS.next] at h2
  simp only [RgS.plus, RgS.next, List.length_append, List.length_singleton]; omega
theorem Bd.minus {R : RgS} {t m n : Nat} {note : Bs} (h : Bd R t m) (hn : n ≤ R.ents.length) : Bd (R.minus n note) (t + 1) (m + 1) := by
  have h1 := h.turn; have h2 := h.next
  refine ⟨h.size, by simp only [RgS.minus, RgS.cutH, Hd.cut]; omega, ?_⟩
  simp only [RgS.next] at h2
  simp only [RgS.minus, RgS.cutH, Hd.cut, RgS.next, List.length_drop]; omega
theorem Bd.again {R : RgS} {t m : Nat} (h : Bd R t m) : Bd R.again (t + 1) m := ⟨h.size, by have := h.turn; simp only [RgS.again]; omega, h.next⟩
/-- behind an event -/
structure Aft (R' : RgS) (D' : DS) (H' N : Hs) (t m : Nat) : Prop where
  live : R'.broken = false → RO R' D' ∧ Frs R' D' ∧ HR R' H' ∧ Bd R' t m
  dead : ∀ keep, ∃ Rx, RO Rx (D'.crash keep) ∧ (HR Rx H' ∨ HR Rx N) ∧ Bd Rx t m
  hold : DS.Ok D'
theorem lays_six : ∀ (l : List (Nat × Blk)) (D : DS), (DS.lays l D).2 ≠ 6
  | [], D => by
    simp only [DS.lays, DS.sync]
    repeat' split
    all_goals simp
  | p :: r, D => by
    unfold DS.lays
    split
    · exact lays_six r _
    · unfold DS.write
      repeat' split
      all_goals simp
theorem RO.arm {R : RgS} {D : DS} (h : RO R D) (n : Int) (hn : -1 ≤ n ∧ n ≤ 9223372036854775807) : RO R (D.arm n).1 ∧ (D.arm n).2 = 0 := by
  have ha := h.alive
  unfold DS.arm
  rw [ha, if_neg (by simp)]
  have hd := h.dok
  exact ⟨⟨h.ok, h.live, h.num, ⟨hd.secs, by dsimp only; omega, by dsimp only; omega, hd.f1, hd.f2⟩, rfl, h.empty, h.len, h.head, h.other, h.has, h.none, h.bound⟩, rfl⟩
theorem RO.fail {R : RgS} {D : DS} (h : RO R D) (n : Int) (hn : -1 ≤ n ∧ n ≤ 9223372036854775807) : RO R (D.fail n).1 ∧ (D.fail n).2 = 0 := by
  have ha := h.alive
  unfold DS.fail
  rw [ha, if_neg (by simp)]
  have hd := h.dok
  exact ⟨⟨h.ok, h.live, h.num, ⟨hd.secs, hd.a1, hd.a2, by dsimp only; omega, by dsimp only; omega⟩, rfl, h.empty, h.len, h.head, h.other, h.has, h.none, h.bound⟩, rfl⟩
theorem Frs.same {R : RgS} {D D' : DS} (h : Frs R D) (hs : D'.secs = D.secs) : Frs R D' := fun q hq => by rw [img_congr hs]; exact h q hq
theorem arm_secs (D : DS) (n : Int) : (D.arm n).1.secs = D.secs := by unfold DS.arm; split <;> rfl
theorem fail_secs (D : DS) (n : Int) : (D.fail n).1.secs = D.secs := by unfold DS.fail; split <;> rfl
theorem crash_calm (D : DS) (keep : Nat → Bool) : (D.crash keep).Calm := ⟨rfl, rfl, rfl⟩
theorem Aft.same {R : RgS} {D : DS} {H N : Hs} {t m : Nat} (h : RO R D) (hf : Frs R D) (hr : HR R H) (hb : Bd R t m) : Aft R D H N (t + 1) (m + 1) :=
  ⟨fun _ => ⟨h, hf, hr, hb.mono (by omega) (by omega)⟩, fun keep => ⟨R, h.crash keep, .inl hr, hb.mono (by omega) (by omega)⟩, h.dok⟩
/-- an Append of a ring that may be -/
theorem aft_append {R : RgS} {D : DS} {H N : Hs} {t m : Nat} {b : Bs} (h : RO R D) (hf : Frs R D) (hr : HR R H) (hb : Bd R t m) (hl : b.length ≤ 400) (hm : m ≤ 1000000)
    (hN : HR (R.plus b) N) : (R.append b D).2.2 = 6 ∧ Aft (R.append b D).1 (R.append b D).2.1 H H (t + 1) (m + 1) ∨
      (R.append b D).2.2 ≠ 6 ∧ Aft (R.append b D).1 (R.append b D).2.1 (if (R.append b D).2.2 = 0 then N else H) N (t + 1) (m + 1) := by
  have hnx : R.next < 1099511627776 := by have := hb.next; omega
  by_cases hfit : sects b.length ≤ R.h.size - R.used
  · have ha := h.append hf (by omega) hfit hnx
    have hsx := lays_six (partsL R.h R.next b (R.h.place + R.used)) D
    have hok := DS.Ok.lays (l := partsL R.h R.next b (R.h.place + R.used)) h.dok partsL_len
    have e : R.append b D = if (DS.lays (partsL R.h R.next b (R.h.place + R.used)) D).2 = 0 then (R.plus b, DS.lays (partsL R.h R.next b (R.h.place + R.used)) D) else ({ R with broken := true }, DS.lays (partsL R.h R.next b (R.h.place + R.used)) D) := by
      unfold RgS.append
      rw [h.live, if_neg (by simp), if_neg (by omega), if_neg (by omega)]; rfl
    rw [e]
    generalize DS.lays (partsL R.h R.next b (R.h.place + R.used)) D = r at *
    obtain ⟨D', ec⟩ := r
    dsimp only at *
    right
    by_cases hz : ec = 0
    · subst hz
      obtain ⟨a1, a2⟩ := ha.1 rfl
      rw [if_pos rfl]
      dsimp only
      rw [if_pos rfl]
      exact ⟨hsx, Aft.mk (fun _ => ⟨a1, a2, hN, hb.plus⟩) (fun keep => ⟨_, a1.crash keep, .inl hN, hb.plus⟩) hok⟩
    · rw [if_neg hz]
      dsimp only
      rw [if_neg hz]
      refine ⟨hsx, Aft.mk (fun hx => by cases hx) (fun keep => ?_) hok⟩
      rcases ha.2 hz keep with h1 | h1
      · exact ⟨R, h1, .inl hr, hb.mono (by omega) (by omega)⟩
      · exact ⟨_, h1, .inr hN, hb.plus⟩
  · have e : R.append b D = (R, D, 6) := by
      unfold RgS.append
      rw [h.live, if_neg (by simp), if_neg (by omega), if_pos (by omega)]
    rw [e]
    left
    exact ⟨rfl, Aft.same h hf hr hb⟩
theorem aft_cut {R : RgS} {D : DS} {H N : Hs} {t m n : Nat} {note : Bs} (h : RO R D) (hf : Frs R D) (hr : HR R H) (hb : Bd R t m) (hn : n ≤ R.ents.length) (hl : note.length ≤ 32) (ht : t < 1000000) (hm : m ≤ 1000000)
    (hN : HR (R.minus n note) N) : Aft (R.cut n note D).1 (R.cut n note D).2.1 (if (R.cut n note D).2.2 = 0 then N else H) N (t + 1) (m + 1) := by
  have hnx : R.next < 1099511627776 := by have := hb.next; omega
  have htn : R.h.turn < 1073741824 := by have := hb.turn; omega
  have ha := h.cut (note := note) hn htn hl hnx
  have hok := DS.Ok.lays (l := headL (R.cutH n note)) h.dok (fun p hp => by rw [(headL_idx hp).2]; exact headB_len _)
  have e : R.cut n note D = if (DS.lays (headL (R.cutH n note)) D).2 = 0 then (R.minus n note, DS.lays (headL (R.cutH n note)) D) else ({ R with broken := true }, DS.lays (headL (R.cutH n note)) D) := by
    unfold RgS.cut
    rw [h.live, if_neg (by simp), if_neg (by omega), if_neg (by omega)]
    simp only [Int.toNat_natCast]; rfl
  rw [e]
  generalize DS.lays (headL (R.cutH n note)) D = r at *
  obtain ⟨D', ec⟩ := r
  dsimp only at *
  by_cases hz : ec = 0
  · subst hz
    obtain ⟨a1, a2⟩ := ha.1 rfl
    rw [if_pos rfl]
    dsimp only
    rw [if_pos rfl]
    exact Aft.mk (fun _ => ⟨a1, a2, hN, hb.minus hn⟩) (fun keep => ⟨_, a1.crash keep, .inl hN, hb.minus hn⟩) hok
  · rw [if_neg hz]
    dsimp only
    rw [if_neg hz]
    refine Aft.mk (fun hx => by cases hx) (fun keep => ?_) hok
    rcases ha.2 hz keep with h1 | h1
    · exact ⟨R, h1, .inl hr, hb.mono (by omega) (by omega)⟩
    · exact ⟨_, h1, .inr hN, hb.minus hn⟩
end Go.Proofs.E

namespace Go.Proofs.E
open Go
set_option linter.unusedVariables false
set_option linter.unusedSimpArgs false
set_option linter.unusedSectionVars false
set_option maxRecDepth 4000
set_option maxHeartbeats 1000000
attribute [local irreducible] Yl TL TC TE Spec YSpec R1 Hp.le EnvLe TS TR YS Stays
theorem would_spec (ρ : Hp) (rb db : Nat) (R : RgS) (w : RW) (hR : RIn ρ R w) (k : DK) (D : DS) (hD : DOk k D) (H : Hs) (hH : HIn ρ H) (e : EvV) (he : EvIn ρ e) (hb : e.b.n ≤ 400) (hnt : e.note.n ≤ 33) (t m : Nat) (ht : t ≤ 1000) (hm : m ≤ 1000) (h : RO R D) (hf : Frs R D) (hr : HR R H) (hbd : Bd R t m) :
    Spec Try.prog 20 [.agg ⟨hsV H⟩, .pointer (some ⟨rb, 0, none⟩), .agg ⟨evC e⟩] ρ (ringC rb db R w ++ diskK db k D)
      (fun v ρ' L' => ρ.le ρ' ∧ ∃ (N : Hs) (ec : Int) (R' : RgS) (w' : RW) (k' : DK) (D' : DS), v = .tuple ⟨[.agg ⟨hsV N⟩, .int .i64 ec]⟩ ∧ HIn ρ' N ∧ DOk k' D' ∧ RIn ρ' R' w' ∧ Aft R' D' (if ec = 0 then N else H) N (t + 1) (m + 1) ∧ L' = ringC rb db R' w' ++ diskK db k' D') := by
  have hbl := he.b.s.len
  have hbc := he.b.le
  have hnl := he.note.s.len
  have hlH := hH.s.len
  have hHle := hH.le
  have hle0 : R.ents.length = H.n := by rw [hr.2.1]; simpa using hlH
  have hul := usedL_len R.ents
  have hus := hR.ok.used
  have hft := hR.ok.fit
  have hsz := hbd.size
  have hK := u64_mod e.kind 12 (by omega) (by omega)
  rw [hK.2.2] at hK
  replace hK := And.intro hK.1 hK.2.1
  by_cases h5 : (IntKind.u64.wrap e.kind).tmod 12 < 5
  · refine spec_enter Try.func20 rfl rfl rfl fun u R0 => ?_
    simp only [argsE, List.cons_append, List.nil_append]
    have hap := append_spec ρ rb db R w hR k D hD [] e.b.a e.b.n e.b.c e.b.l he.b.s.rd hbc (by omega)
    have hNN : ∀ a n c, HR (R.plus e.b.l) ⟨H.first, a, n, c, H.els ++ [e.b], H.note⟩ := fun a n c => ⟨hr.1, by simp [RgS.plus, hr.2.1], hr.2.2⟩
    have hA := fun (N : Hs) (hN : HR (R.plus e.b.l) N) => aft_append (N := N) h hf hr hbd (by omega) (by omega) hN
    generalize R.append e.b.l D = r at *
    obtain ⟨R', D', ec⟩ := r
    dsimp only at hap hA
    by_cases hec : ec = 6
    · subst hec
      have hA6 := ((hA _ (hNN none 0 0)).resolve_right (fun hx => hx.1 rfl)).2
      repeat' (first | (refine tl_is (.func 14) ?_; refine qC rfl rfl hap ?_; rintro v2 ρ2 L2 hle2 ⟨rfl, hl2, k2, w2, hk2, hr2, rfl⟩; try simp only [List.cons_append, List.nil_append, List.append_assoc]) | (refine i_op ?_; first | (refine i_qq ?_; refine qQ ?_) | refine qEf ?_) | refine tl_nil ?_ | (refine i_tc ?_; refine qTc ?_) | (refine i_te ?_; refine qTe ?_) | intro _)
      exact qE (L' := ringC rb db R' w2 ++ diskK db k2 D') ⟨hl2, H, 6, R', w2, k2, D', rfl, hH.mono hl2, hk2, hr2, by simpa using hA6, rfl⟩
    · repeat' (first | (refine i_op ?_; first | (refine i_qq ?_; refine qQ ?_) | refine qEf ?_) | refine tl_nil ?_ | (refine i_tc ?_; refine qTc ?_) | (refine i_te ?_; refine qTe ?_) | intro _)
      rename_i b3 b5 b6
      repeat' (first | (refine tl_is (.func 14) ?_; refine qC rfl rfl hap ?_; rintro v2 ρ2 L2 hle2 ⟨rfl, hl2, k2, w2, hk2, hr2, rfl⟩; try simp only [List.cons_append, List.nil_append, List.append_assoc]) | (refine i_op ?_; first | (refine i_qq ?_; refine qQ ?_) | refine qEf ?_) | refine tl_nil ?_ | (refine i_tc ?_; refine qTc ?_) | (refine i_te ?_; refine qTe ?_) | intro _)
      have hsH := (hH.mono hl2).s
      have hlist : H.els.map slv ++ [slv e.b] = (H.els ++ [e.b]).map slv := by simp
      refine tc_any (Stays _ _ ([[(b5, .cells ⟨evC e⟩ 45 (0, 0))]])) (stays_of (hT := tk) (Hp.le_refl _)) ?_
      all_goals refine rFa 0 ?_
      all_goals refine rFa 2 ?_
      all_goals refine rFa 5 ?_
      all_goals refine rFa 9 ?_
      all_goals refine rLd 10 ?_
      all_goals (refine rStep4 (i := 1) (j := 3) (k := 6) (m := 11) ?_ ?_ ?_ ?_ <;> ((try refine qWant ?_); (first | (refine tl_buildSlice_s rfl rfl rfl rfl (by simp) rfl rfl (fun _ => ?_)) | (simp only [Int.toNat_natCast]; refine tl_app_fr (xs := H.els.map slv) (ys := [slv e.b]) (m := 1) (sz := 1) rfl rfl hsH.srcV (by simpa using hlH) SrcV.lit rfl (by simp) (by decide) rfl (by omega) (by omega) rfl (fun v3 sp3 hown3 => ?_); rw [hlist] at hown3 ⊢; refine tl_freeze (ownC v3 ((H.els ++ [e.b]).map slv) sp3 30) (h := by infer_instance) (fun ρ4 hl4 hfz => ?_); obtain ⟨a3, c3, rfl, hc3, hs3⟩ := hown3.sIn hfz) | (refine i_qq ?_; refine qQ ?_) | (refine qEf ?_; try intro _)) <;> ((try simp only [List.cons_append, List.nil_append, List.append_eq]); refine tl_nil ?_; refine rNext ?_)))
      all_goals (first | (refine rStep3 (i := 3) (j := 6) (k := 11) ?_ ?_ ?_ <;> ((try refine qWant ?_); (first | (refine tl_buildSlice_s rfl rfl rfl rfl (by simp) rfl rfl (fun _ => ?_)) | (simp only [Int.toNat_natCast]; refine tl_app_fr (xs := H.els.map slv) (ys := [slv e.b]) (m := 1) (sz := 1) rfl rfl hsH.srcV (by simpa using hlH) SrcV.lit rfl (by simp) (by decide) rfl (by omega) (by omega) rfl (fun v3 sp3 hown3 => ?_); rw [hlist] at hown3 ⊢; refine tl_freeze (ownC v3 ((H.els ++ [e.b]).map slv) sp3 30) (h := by infer_instance) (fun ρ4 hl4 hfz => ?_); obtain ⟨a3, c3, rfl, hc3, hs3⟩ := hown3.sIn hfz) | (refine i_qq ?_; refine qQ ?_) | (refine qEf ?_; try intro _)) <;> ((try simp only [List.cons_append, List.nil_append, List.append_eq]); refine tl_nil ?_; refine rNext ?_))) | refine rBi 4 ?_ | refine rBi 7 ?_ | (refine rStep3 (i := 1) (j := 3) (k := 6) ?_ ?_ ?_ <;> ((try refine qWant ?_); (first | (refine tl_buildSlice_s rfl rfl rfl rfl (by simp) rfl rfl (fun _ => ?_)) | (simp only [Int.toNat_natCast]; refine tl_app_fr (xs := H.els.map slv) (ys := [slv e.b]) (m := 1) (sz := 1) rfl rfl hsH.srcV (by simpa using hlH) SrcV.lit rfl (by simp) (by decide) rfl (by omega) (by omega) rfl (fun v3 sp3 hown3 => ?_); rw [hlist] at hown3 ⊢; refine tl_freeze (ownC v3 ((H.els ++ [e.b]).map slv) sp3 30) (h := by infer_instance) (fun ρ4 hl4 hfz => ?_); obtain ⟨a3, c3, rfl, hc3, hs3⟩ := hown3.sIn hfz) | (refine i_qq ?_; refine qQ ?_) | (refine qEf ?_; try intro _)) <;> ((try simp only [List.cons_append, List.nil_append, List.append_eq]); refine tl_nil ?_; refine rNext ?_))))
      all_goals (first | refine rBi 4 ?_ | refine rBi 7 ?_ | (refine rStep2 (i := 3) (j := 6) ?_ ?_ <;> ((try refine qWant ?_); (first | (refine tl_buildSlice_s rfl rfl rfl rfl (by simp) rfl rfl (fun _ => ?_)) | (simp only [Int.toNat_natCast]; refine tl_app_fr (xs := H.els.map slv) (ys := [slv e.b]) (m := 1) (sz := 1) rfl rfl hsH.srcV (by simpa using hlH) SrcV.lit rfl (by simp) (by decide) rfl (by omega) (by omega) rfl (fun v3 sp3 hown3 => ?_); rw [hlist] at hown3 ⊢; refine tl_freeze (ownC v3 ((H.els ++ [e.b]).map slv) sp3 30) (h := by infer_instance) (fun ρ4 hl4 hfz => ?_); obtain ⟨a3, c3, rfl, hc3, hs3⟩ := hown3.sIn hfz) | (refine i_qq ?_; refine qQ ?_) | (refine qEf ?_; try intro _)) <;> ((try simp only [List.cons_append, List.nil_append, List.append_eq]); refine tl_nil ?_; refine rNext ?_))) | (refine rStep3 (i := 1) (j := 6) (k := 11) ?_ ?_ ?_ <;> ((try refine qWant ?_); (first | (refine tl_buildSlice_s rfl rfl rfl rfl (by simp) rfl rfl (fun _ => ?_)) | (simp only [Int.toNat_natCast]; refine tl_app_fr (xs := H.els.map slv) (ys := [slv e.b]) (m := 1) (sz := 1) rfl rfl hsH.srcV (by simpa using hlH) SrcV.lit rfl (by simp) (by decide) rfl (by omega) (by omega) rfl (fun v3 sp3 hown3 => ?_); rw [hlist] at hown3 ⊢; refine tl_freeze (ownC v3 ((H.els ++ [e.b]).map slv) sp3 30) (h := by infer_instance) (fun ρ4 hl4 hfz => ?_); obtain ⟨a3, c3, rfl, hc3, hs3⟩ := hown3.sIn hfz) | (refine i_qq ?_; refine qQ ?_) | (refine qEf ?_; try intro _)) <;> ((try simp only [List.cons_append, List.nil_append, List.append_eq]); refine tl_nil ?_; refine rNext ?_))) | (refine rStep3 (i := 1) (j := 3) (k := 11) ?_ ?_ ?_ <;> ((try refine qWant ?_); (first | (refine tl_buildSlice_s rfl rfl rfl rfl (by simp) rfl rfl (fun _ => ?_)) | (simp only [Int.toNat_natCast]; refine tl_app_fr (xs := H.els.map slv) (ys := [slv e.b]) (m := 1) (sz := 1) rfl rfl hsH.srcV (by simpa using hlH) SrcV.lit rfl (by simp) (by decide) rfl (by omega) (by omega) rfl (fun v3 sp3 hown3 => ?_); rw [hlist] at hown3 ⊢; refine tl_freeze (ownC v3 ((H.els ++ [e.b]).map slv) sp3 30) (h := by infer_instance) (fun ρ4 hl4 hfz => ?_); obtain ⟨a3, c3, rfl, hc3, hs3⟩ := hown3.sIn hfz) | (refine i_qq ?_; refine qQ ?_) | (refine qEf ?_; try intro _)) <;> ((try simp only [List.cons_append, List.nil_append, List.append_eq]); refine tl_nil ?_; refine rNext ?_))))
      all_goals (first | (refine rStep2 (i := 6) (j := 11) ?_ ?_ <;> ((try refine qWant ?_); (first | (refine tl_buildSlice_s rfl rfl rfl rfl (by simp) rfl rfl (fun _ => ?_)) | (simp only [Int.toNat_natCast]; refine tl_app_fr (xs := H.els.map slv) (ys := [slv e.b]) (m := 1) (sz := 1) rfl rfl hsH.srcV (by simpa using hlH) SrcV.lit rfl (by simp) (by decide) rfl (by omega) (by omega) rfl (fun v3 sp3 hown3 => ?_); rw [hlist] at hown3 ⊢; refine tl_freeze (ownC v3 ((H.els ++ [e.b]).map slv) sp3 30) (h := by infer_instance) (fun ρ4 hl4 hfz => ?_); obtain ⟨a3, c3, rfl, hc3, hs3⟩ := hown3.sIn hfz) | (refine i_qq ?_; refine qQ ?_) | (refine qEf ?_; try intro _)) <;> ((try simp only [List.cons_append, List.nil_append, List.append_eq]); refine tl_nil ?_; refine rNext ?_))) | refine rBi 4 ?_ | (refine rStep2 (i := 3) (j := 11) ?_ ?_ <;> ((try refine qWant ?_); (first | (refine tl_buildSlice_s rfl rfl rfl rfl (by simp) rfl rfl (fun _ => ?_)) | (simp only [Int.toNat_natCast]; refine tl_app_fr (xs := H.els.map slv) (ys := [slv e.b]) (m := 1) (sz := 1) rfl rfl hsH.srcV (by simpa using hlH) SrcV.lit rfl (by simp) (by decide) rfl (by omega) (by omega) rfl (fun v3 sp3 hown3 => ?_); rw [hlist] at hown3 ⊢; refine tl_freeze (ownC v3 ((H.els ++ [e.b]).map slv) sp3 30) (h := by infer_instance) (fun ρ4 hl4 hfz => ?_); obtain ⟨a3, c3, rfl, hc3, hs3⟩ := hown3.sIn hfz) | (refine i_qq ?_; refine qQ ?_) | (refine qEf ?_; try intro _)) <;> ((try simp only [List.cons_append, List.nil_append, List.append_eq]); refine tl_nil ?_; refine rNext ?_))) | refine rBi 7 ?_ | (refine rStep2 (i := 1) (j := 6) ?_ ?_ <;> ((try refine qWant ?_); (first | (refine tl_buildSlice_s rfl rfl rfl rfl (by simp) rfl rfl (fun _ => ?_)) | (simp only [Int.toNat_natCast]; refine tl_app_fr (xs := H.els.map slv) (ys := [slv e.b]) (m := 1) (sz := 1) rfl rfl hsH.srcV (by simpa using hlH) SrcV.lit rfl (by simp) (by decide) rfl (by omega) (by omega) rfl (fun v3 sp3 hown3 => ?_); rw [hlist] at hown3 ⊢; refine tl_freeze (ownC v3 ((H.els ++ [e.b]).map slv) sp3 30) (h := by infer_instance) (fun ρ4 hl4 hfz => ?_); obtain ⟨a3, c3, rfl, hc3, hs3⟩ := hown3.sIn hfz) | (refine i_qq ?_; refine qQ ?_) | (refine qEf ?_; try intro _)) <;> ((try simp only [List.cons_append, List.nil_append, List.append_eq]); refine tl_nil ?_; refine rNext ?_))) | (refine rStep2 (i := 1) (j := 3) ?_ ?_ <;> ((try refine qWant ?_); (first | (refine tl_buildSlice_s rfl rfl rfl rfl (by simp) rfl rfl (fun _ => ?_)) | (simp only [Int.toNat_natCast]; refine tl_app_fr (xs := H.els.map slv) (ys := [slv e.b]) (m := 1) (sz := 1) rfl rfl hsH.srcV (by simpa using hlH) SrcV.lit rfl (by simp) (by decide) rfl (by omega) (by omega) rfl (fun v3 sp3 hown3 => ?_); rw [hlist] at hown3 ⊢; refine tl_freeze (ownC v3 ((H.els ++ [e.b]).map slv) sp3 30) (h := by infer_instance) (fun ρ4 hl4 hfz => ?_); obtain ⟨a3, c3, rfl, hc3, hs3⟩ := hown3.sIn hfz) | (refine i_qq ?_; refine qQ ?_) | (refine qEf ?_; try intro _)) <;> ((try simp only [List.cons_append, List.nil_append, List.append_eq]); refine tl_nil ?_; refine rNext ?_))))
      all_goals (first | refine rBi 7 ?_ | (refine rStep (i := 6) ?_; ((try refine qWant ?_); (first | (refine tl_buildSlice_s rfl rfl rfl rfl (by simp) rfl rfl (fun _ => ?_)) | (simp only [Int.toNat_natCast]; refine tl_app_fr (xs := H.els.map slv) (ys := [slv e.b]) (m := 1) (sz := 1) rfl rfl hsH.srcV (by simpa using hlH) SrcV.lit rfl (by simp) (by decide) rfl (by omega) (by omega) rfl (fun v3 sp3 hown3 => ?_); rw [hlist] at hown3 ⊢; refine tl_freeze (ownC v3 ((H.els ++ [e.b]).map slv) sp3 30) (h := by infer_instance) (fun ρ4 hl4 hfz => ?_); obtain ⟨a3, c3, rfl, hc3, hs3⟩ := hown3.sIn hfz) | (refine i_qq ?_; refine qQ ?_) | (refine qEf ?_; try intro _)) <;> ((try simp only [List.cons_append, List.nil_append, List.append_eq]); refine tl_nil ?_; refine rNext ?_))) | refine rBi 4 ?_ | (refine rStep (i := 3) ?_; ((try refine qWant ?_); (first | (refine tl_buildSlice_s rfl rfl rfl rfl (by simp) rfl rfl (fun _ => ?_)) | (simp only [Int.toNat_natCast]; refine tl_app_fr (xs := H.els.map slv) (ys := [slv e.b]) (m := 1) (sz := 1) rfl rfl hsH.srcV (by simpa using hlH) SrcV.lit rfl (by simp) (by decide) rfl (by omega) (by omega) rfl (fun v3 sp3 hown3 => ?_); rw [hlist] at hown3 ⊢; refine tl_freeze (ownC v3 ((H.els ++ [e.b]).map slv) sp3 30) (h := by infer_instance) (fun ρ4 hl4 hfz => ?_); obtain ⟨a3, c3, rfl, hc3, hs3⟩ := hown3.sIn hfz) | (refine i_qq ?_; refine qQ ?_) | (refine qEf ?_; try intro _)) <;> ((try simp only [List.cons_append, List.nil_append, List.append_eq]); refine tl_nil ?_; refine rNext ?_))) | (refine rStep2 (i := 1) (j := 11) ?_ ?_ <;> ((try refine qWant ?_); (first | (refine tl_buildSlice_s rfl rfl rfl rfl (by simp) rfl rfl (fun _ => ?_)) | (simp only [Int.toNat_natCast]; refine tl_app_fr (xs := H.els.map slv) (ys := [slv e.b]) (m := 1) (sz := 1) rfl rfl hsH.srcV (by simpa using hlH) SrcV.lit rfl (by simp) (by decide) rfl (by omega) (by omega) rfl (fun v3 sp3 hown3 => ?_); rw [hlist] at hown3 ⊢; refine tl_freeze (ownC v3 ((H.els ++ [e.b]).map slv) sp3 30) (h := by infer_instance) (fun ρ4 hl4 hfz => ?_); obtain ⟨a3, c3, rfl, hc3, hs3⟩ := hown3.sIn hfz) | (refine i_qq ?_; refine qQ ?_) | (refine qEf ?_; try intro _)) <;> ((try simp only [List.cons_append, List.nil_append, List.append_eq]); refine tl_nil ?_; refine rNext ?_))))
      all_goals (first | refine rSl 8 ?_ | refine rBi 7 ?_ | refine rBi 4 ?_ | (refine rStep (i := 1) ?_; ((try refine qWant ?_); (first | (refine tl_buildSlice_s rfl rfl rfl rfl (by simp) rfl rfl (fun _ => ?_)) | (simp only [Int.toNat_natCast]; refine tl_app_fr (xs := H.els.map slv) (ys := [slv e.b]) (m := 1) (sz := 1) rfl rfl hsH.srcV (by simpa using hlH) SrcV.lit rfl (by simp) (by decide) rfl (by omega) (by omega) rfl (fun v3 sp3 hown3 => ?_); rw [hlist] at hown3 ⊢; refine tl_freeze (ownC v3 ((H.els ++ [e.b]).map slv) sp3 30) (h := by infer_instance) (fun ρ4 hl4 hfz => ?_); obtain ⟨a3, c3, rfl, hc3, hs3⟩ := hown3.sIn hfz) | (refine i_qq ?_; refine qQ ?_) | (refine qEf ?_; try intro _)) <;> ((try simp only [List.cons_append, List.nil_append, List.append_eq]); refine tl_nil ?_; refine rNext ?_))))
      all_goals (first | (refine rStep (i := 11) ?_; ((try refine qWant ?_); (first | (refine tl_buildSlice_s rfl rfl rfl rfl (by simp) rfl rfl (fun _ => ?_)) | (refine i_qq ?_; refine qQ ?_) | (refine qEf ?_; try intro _)) <;> ((try simp only [List.cons_append, List.nil_append, List.append_eq]); refine tl_nil ?_; refine rNext ?_))) | refine rSl 8 ?_)
      all_goals (refine rStep (i := 12) ?_; ((try refine qWant ?_); (first | (simp only [Int.toNat_natCast]; refine tl_app_fr (xs := H.els.map slv) (ys := [slv e.b]) (m := 1) (sz := 1) rfl rfl hsH.srcV (by simpa using hlH) SrcV.lit rfl (by simp) (by decide) rfl (by omega) (by omega) rfl (fun v3 sp3 hown3 => ?_); rw [hlist] at hown3 ⊢; refine tl_freeze (ownC v3 ((H.els ++ [e.b]).map slv) sp3 30) (h := by infer_instance) (fun ρ4 hl4 hfz => ?_); obtain ⟨a3, c3, rfl, hc3, hs3⟩ := hown3.sIn hfz) | (refine i_qq ?_; refine qQ ?_) | (refine qEf ?_; try intro _)) <;> ((try simp only [List.cons_append, List.nil_append, List.append_eq]); refine tl_nil ?_; refine rNext ?_)))
      all_goals refine rFa 13 ?_
      all_goals (refine rStep (i := 14) ?_; ((try refine qWant ?_); (first | (refine i_qq ?_; refine qQ ?_) | (refine qEf ?_; try intro _)) <;> ((try simp only [List.cons_append, List.nil_append, List.append_eq]); refine tl_nil ?_; refine rNext ?_)))
      all_goals refine rDone ?_
      all_goals (repeat' (first | (refine i_op ?_; first | (refine i_qq ?_; refine qQ ?_) | refine qEf ?_) | refine tl_nil ?_ | (refine i_tc ?_; refine qTc ?_) | (refine i_te ?_; refine qTe ?_) | intro _))
      all_goals have hN4 : HIn ρ4 ⟨H.first, a3, H.n + 1, c3, H.els ++ [e.b], H.note⟩ := ⟨hs3, hc3, fun x hx => (by rcases List.mem_append.1 hx with hx | hx <;> first | exact (hH.mono (Hp.le_trans hl2 hl4)).els x hx | (rw [List.mem_singleton.1 hx]; exact he.b.mono (Hp.le_trans hl2 hl4))), (hH.mono (Hp.le_trans hl2 hl4)).note⟩
      all_goals have hA4 := ((hA _ (hNN a3 (H.n + 1) c3)).resolve_left (fun hx => hec hx.1)).2
      all_goals have hfin := Hp.le_trans hl2 hl4
      all_goals have hr4 := hr2.mono hl4
      all_goals exact qE (L' := ringC rb db R' w2 ++ diskK db k2 D') ⟨hfin, ⟨H.first, a3, H.n + 1, c3, H.els ++ [e.b], H.note⟩, ec, R', w2, k2, D', rfl, hN4, hk2, hr4, hA4, rfl⟩
  · by_cases h7 : (IntKind.u64.wrap e.kind).tmod 12 < 7
    · refine spec_enter Try.func20 rfl rfl rfl fun u R0 => ?_
      simp only [argsE, List.cons_append, List.nil_append]
      have hmd := u64_mod e.n ((H.n : Int) + 1) (by omega) (by omega)
      have hnc := he.note.le
      have hmm : (min (e.note.n : Int) 32).toNat = min e.note.n 32 := by omega
      have hs32 := he.note.s.take (hi' := min e.note.n 32) (Nat.min_le_left _ _)
      have hl32 : (e.note.l.take (min e.note.n 32)).length = min e.note.n 32 := by simp; omega
      have hq32 : min e.note.n 32 ≤ 32 := Nat.min_le_right _ _
      have hqc : min e.note.n 32 ≤ e.note.c := by omega
      obtain ⟨J, hJ⟩ : ∃ J : Nat, (IntKind.u64.wrap e.n).tmod ((H.n : Int) + 1) = (J : Int) := ⟨((IntKind.u64.wrap e.n).tmod ((H.n : Int) + 1)).toNat, by omega⟩
      have hJle : J ≤ H.n := by omega
      have hH1 : H.first ≤ 1000 := by have h1 := hbd.next; have h2 := hr.1; simp only [RgS.next] at h1; omega
      have hJ2 := hH.s.sub (lo' := J) (hi' := H.n) hJle (Nat.le_refl _) (cap := H.c) hHle
      rw [List.take_of_length_le (by simp; omega)] at hJ2
      have hNN : HR (R.minus J (e.note.l.take (min e.note.n 32))) ⟨H.first + J, if H.c = J then H.a else H.a.map (·.add (J * 1)), H.n - J, H.c - J, H.els.drop J, ⟨e.note.a, min e.note.n 32, e.note.c, e.note.l.take (min e.note.n 32)⟩⟩ := ⟨by simp only [RgS.minus, RgS.cutH, Hd.cut]; rw [hr.1], by simp only [RgS.minus]; rw [hr.2.1, List.map_drop], rfl⟩
      have hA := aft_cut (n := J) (note := e.note.l.take (min e.note.n 32)) h hf hr hbd (by omega) (by omega) (by omega) (by omega) hNN
      have hcu := cut_spec_main ρ rb db R w hR k D hD [] e.note.a (min e.note.n 32) e.note.c (e.note.l.take (min e.note.n 32)) hs32.rd J h.live (by omega) (by have := hbd.turn; omega) (by omega)
      generalize R.cut J (e.note.l.take (min e.note.n 32)) D = r at *
      obtain ⟨R', D', ec⟩ := r
      dsimp only at hA hcu
      repeat' (first | (refine i_op ?_; first | (refine i_qq ?_; refine qQ ?_) | refine qEf ?_) | refine tl_nil ?_ | (refine i_tc ?_; refine qTc ?_) | (refine i_te ?_; refine qTe ?_) | intro _)
      simp only [hJ, hmm]
      rename_i b3 b5 b6
      repeat' (first | (refine tl_is (.func 13) ?_; refine qC rfl rfl hcu ?_; rintro v2 ρ2 L2 hle2 ⟨rfl, hl2, k2, w2, hk2, hr2, rfl⟩; try simp only [List.cons_append, List.nil_append, List.append_assoc]) | (refine i_op ?_; first | (refine i_qq ?_; refine qQ ?_) | refine qEf ?_) | refine tl_nil ?_ | (refine i_tc ?_; refine qTc ?_) | (refine i_te ?_; refine qTe ?_) | intro _)
      refine tc_any (Stays _ _ ([[(b3, .cells ⟨hsV H⟩ 37 (0, 0))], [(b5, .cells ⟨evC e⟩ 45 (0, 0))]])) (stays_of (hT := tk) (Hp.le_refl _)) ?_
      all_goals refine rFa 0 ?_
      all_goals refine rLd 1 ?_
      all_goals refine rMv 2 ?_
      all_goals refine rCv 3 ?_
      all_goals refine rAd 4 ?_
      all_goals refine rFa 5 ?_
      all_goals refine rLd 6 ?_
      all_goals refine rMv 7 ?_
      all_goals refine rSl 8 ?_
      all_goals refine rFa 9 ?_
      all_goals refine rLd 10 ?_
      all_goals refine rFa 11 ?_
      all_goals refine rLd 12 ?_
      all_goals refine rBi 13 ?_
      all_goals refine rBi 14 ?_
      all_goals refine rSl 15 ?_
      all_goals refine rBu 16 ?_
      all_goals refine rMv 17 ?_
      all_goals (refine rStep (i := 18) ?_; ((try refine qWant ?_); (first | (refine qEf ?_; try intro _)) <;> ((try simp only [List.cons_append, List.nil_append, List.append_eq]); refine tl_nil ?_; refine rNext ?_)))
      all_goals refine rFull ?_
      all_goals refine rAs 19 ?_
      all_goals refine rDone ?_
      all_goals (repeat' (first | (refine i_op ?_; first | (refine i_qq ?_; refine qQ ?_) | refine qEf ?_) | refine tl_nil ?_ | (refine i_tc ?_; refine qTc ?_) | (refine i_te ?_; refine qTe ?_) | intro _))
      all_goals simp only [Int.toNat_natCast, hmm, ← Int.natCast_add]
      all_goals have hN4 : HIn ρ2 ⟨H.first + J, if H.c = J then H.a else H.a.map (·.add (J * 1)), H.n - J, H.c - J, H.els.drop J, ⟨e.note.a, min e.note.n 32, e.note.c, e.note.l.take (min e.note.n 32)⟩⟩ := ⟨hJ2.mono hl2, Nat.sub_le_sub_right hHle J, fun x hx => (hH.mono hl2).els x (List.mem_of_mem_drop hx), ⟨hs32.mono hl2, hqc⟩⟩
      all_goals exact qE (L' := ringC rb db R' w2 ++ diskK db k2 D') ⟨hl2, _, ec, R', w2, k2, D', rfl, hN4, hk2, hr2, hA, rfl⟩
    · refine spec_enter Try.func20 rfl rfl rfl fun u R0 => ?_
      simp only [argsE, List.cons_append, List.nil_append]
      repeat' (first | (refine i_op ?_; first | (refine i_qq ?_; refine qQ ?_) | refine qEf ?_) | refine tl_nil ?_ | (refine i_tc ?_; refine qTc ?_) | (refine i_te ?_; refine qTe ?_) | intro _)
      have ha := Aft.same (N := H) h hf hr hbd
      exact qE (L' := ringC rb db R w ++ diskK db k D) ⟨Hp.le_refl _, H, 0, R, w, k, D, rfl, hH, hD, hR, by simpa using ha, rfl⟩
end Go.Proofs.E

namespace Go.Proofs.E
open Go
set_option linter.unusedVariables false
set_option linter.unusedSimpArgs false
set_option linter.unusedSectionVars false
set_option maxRecDepth 4000
set_option maxHeartbeats 1000000
attribute [local irreducible] Yl TL TC TE Spec YSpec R1 Hp.le EnvLe TS TR YS Stays
theorem of_specH (ρ : Hp) (rb db : Nat) (R : RgS) (w : RW) (h : RIn ρ R w) (hz : R.h.size = 20) (H : Hs) (hH : HIn ρ H) :
    Spec Try.prog 15 [.agg ⟨hsV H⟩, .pointer (some ⟨rb, 0, none⟩)] ρ (ringC rb db R w) (fun v ρ' L' => v = .bool (decide (HR R H)) ∧ ρ.le ρ' ∧ L' = ringC rb db R w) :=
  of_spec ρ rb db R w h hz H.first H.a H.n H.c H.els hH.s hH.els H.note hH.note
theorem kcrash (ρ : Hp) (db : Nat) (k : DK) (D : DS) (hD : DOk k D) (ka : Option Addr) (kn kp : Nat) (ks : List Bool) (hk : SIn ρ bb ka kn ks) (hn : kn ≤ 40) (hp : kn ≤ kp) :
    Spec Try.prog 22 [.pointer (some ⟨db, 0, none⟩), .slice ka kn kp] ρ (diskK db k D)
      (fun v ρ' L' => v = .int .i64 0 ∧ ρ.le ρ' ∧ ∃ k', DOk k' (D.crash (keepB (ks.take 60))) ∧ L' = diskK db k' (D.crash (keepB (ks.take 60)))) :=
  (crash_in ρ db k.hb k.mb k.es k.ck D hD.ok hD.map ka kn kp kn ks ⟨hp, hk.len, by omega, hk.out⟩ (by omega)).mono (fun v ρ' L' _ ⟨h1, h2, mb', ck', h3⟩ => ⟨h1, h2, ⟨k.hb, mb', [], ck'⟩, ⟨hD.ok.crash, MapOk.empty emptyC_settled⟩, h3⟩)
theorem karm (ρ : Hp) (db : Nat) (k : DK) (D : DS) (hD : DOk k D) (n : Int) {R : RgS} (h : RO R D) (hn : -1 ≤ n ∧ n ≤ 9223372036854775807) : Spec Try.prog 18 [.pointer (some ⟨db, 0, none⟩), .int .i64 n] ρ (diskK db k D) (fun v ρ' L' => v = .int .i64 0 ∧ ρ' = ρ ∧ DOk k (D.arm n).1 ∧ L' = diskK db k (D.arm n).1) :=
  (arm_disk ρ db k.hb k.mb k.es k.ck D n).mono (fun v ρ' L' _ ⟨h1, h2, h3⟩ => ⟨by rw [h1, (h.arm n hn).2], h2, ⟨(h.arm n hn).1.dok, hD.map.arm⟩, h3⟩)
theorem kfail (ρ : Hp) (db : Nat) (k : DK) (D : DS) (hD : DOk k D) (n : Int) {R : RgS} (h : RO R D) (hn : -1 ≤ n ∧ n ≤ 9223372036854775807) : Spec Try.prog 19 [.pointer (some ⟨db, 0, none⟩), .int .i64 n] ρ (diskK db k D) (fun v ρ' L' => v = .int .i64 0 ∧ ρ' = ρ ∧ DOk k (D.fail n).1 ∧ L' = diskK db k (D.fail n).1) :=
  (fail_disk ρ db k.hb k.mb k.es k.ck D n).mono (fun v ρ' L' _ ⟨h1, h2, h3⟩ => ⟨by rw [h1, (h.fail n hn).2], h2, ⟨(h.fail n hn).1.dok, hD.map.fail⟩, h3⟩)
theorem HR.again {R : RgS} {H : Hs} (h : HR R H) : HR R.again H := h
abbrev Hs0 : Hs := ⟨1, none, 0, 0, [], ⟨none, 0, 0, []⟩⟩
theorem Hs0_in {ρ : Hp} : HIn ρ Hs0 := ⟨SIn.nil, Nat.le_refl _, by simp, ⟨SIn.nil, Nat.le_refl _⟩⟩
theorem lasts_spec (ρ : Hp) (a : Option Addr) (n c : Nat) (l : List EvV) (hl : AIn ρ 5 evC a n l) (hin : ∀ e ∈ l, EvIn ρ e) (hbig : n ≤ 9223372036854775807) :
    Spec Try.prog 4 [.slice a n c] ρ [] (fun v ρ' L' => v = .bool true ∧ ρ.le ρ' ∧ L' = []) := by
  have hlen := hl.len
  refine spec_enter Try.func4 rfl rfl rfl fun u R => ?_
  simp only [argsE, List.cons_append, List.nil_append]
  repeat' (first | (refine tl_is (.func 9) ?_; refine qC rfl rfl (wakes4_spec _) ?_; rintro v ρ' L' hle ⟨rfl, hl1, rfl⟩ <;> (try simp only [List.cons_append, List.nil_append, List.append_eq])) | (refine tl_is (.func 10) ?_; refine qC rfl rfl (kfresh _) ?_; rintro v1 ρ1 L1 hle1 ⟨hl2, rb, db, w1, k1, D1, rfl, hk1, hr1, g1, rfl⟩; try simp only [List.cons_append, List.nil_append, List.append_assoc]) | (refine i_op ?_; first | (refine i_qq ?_; refine qQ ?_) | refine qEf ?_) | refine tl_nil ?_ | (refine i_tc ?_; refine qTc ?_) | (refine i_te ?_; refine qTe ?_) | intro _)
  rename_i b6
  refine tc_loop_g [(4, _), (6, _), (25, _), (26, _)] (fun (ζ : (Nat) × (Hp) × (Nat) × (RgS) × (RW) × (DK) × (DS) × (Hs)) => [(27, .int .i64 ζ.1), (3, .pointer (some ⟨ζ.2.2.1, 0, none⟩)), (2, .bool false)]) (fun (ζ : (Nat) × (Hp) × (Nat) × (RgS) × (RW) × (DK) × (DS) × (Hs)) => ζ.2.1) (fun (ζ : (Nat) × (Hp) × (Nat) × (RgS) × (RW) × (DK) × (DS) × (Hs)) => [[(b6, .cells ⟨hsV ζ.2.2.2.2.2.2.2⟩ 37 (0, 0))]] ++ (ringC ζ.2.2.1 db ζ.2.2.2.1 ζ.2.2.2.2.1 ++ diskK db ζ.2.2.2.2.2.1 ζ.2.2.2.2.2.2.1)) (fun (ζ : (Nat) × (Hp) × (Nat) × (RgS) × (RW) × (DK) × (DS) × (Hs)) => (ζ.1 ≤ n ∧ ζ.1 ≤ 40) ∧ ρ1.le ζ.2.1 ∧ DOk ζ.2.2.2.2.2.1 ζ.2.2.2.2.2.2.1 ∧ RIn ζ.2.1 ζ.2.2.2.1 ζ.2.2.2.2.1 ∧ HIn ζ.2.1 ζ.2.2.2.2.2.2.2 ∧ RO ζ.2.2.2.1 ζ.2.2.2.2.2.2.1 ∧ Frs ζ.2.2.2.1 ζ.2.2.2.2.2.2.1 ∧ HR ζ.2.2.2.1 ζ.2.2.2.2.2.2.2 ∧ Bd ζ.2.2.2.1 (1 + 3 * ζ.1) (1 + ζ.1)) (fun (ζ : (Nat) × (Hp) × (Nat) × (RgS) × (RW) × (DK) × (DS) × (Hs)) => n - ζ.1) ((0, ρ1, rb, ⟨freshH 20, [], 0, false⟩, w1, k1, D1, Hs0)) (⟨⟨Nat.zero_le _, Nat.zero_le _⟩, Hp.le_refl _, hk1, hr1, Hs0_in, g1.ro, g1.frs, ⟨rfl, rfl, rfl⟩, ⟨rfl, by simp [freshH], by simp [freshH, RgS.next]⟩⟩) ev_le ev_le rfl tk ?_
  rintro ⟨i, ρ2, rb, R, w, k, D, H⟩ hI
  try simp only [List.cons_append, List.nil_append, List.append_assoc, List.append_eq] at hI ⊢
  try dsimp only at hI ⊢
  obtain ⟨⟨hi, hi4⟩, hle2', hk, hr, hH, hro, hfr, hHR, hbd⟩ := hI
  have hlm := Hp.le_trans hl1 (Hp.le_trans hl2 hle2')
  by_cases hlt : i < n
  · obtain ⟨b, off, C, T, fr, rfl, hb, hb5, hc⟩ := (hl.mono hlm).get (show i < l.length by omega)
    have he := (hin _ (List.getElem_mem (show i < l.length by omega))).mono hlm
    generalize l[i]'(by omega) = e at *
    by_cases h40 : i = 40
    · repeat' (first | (refine i_op ?_; first | (refine i_qq ?_; refine qQ ?_) | refine qEf ?_) | refine tl_nil ?_ | (refine i_tc ?_; refine qTc ?_) | (refine i_te ?_; refine qTe ?_) | intro _)
      exact qE (L' := []) ⟨rfl, hlm, rfl⟩
    · have hqb : min e.b.n 400 ≤ 400 := Nat.min_le_right _ _
      have hqn : min e.note.n 33 ≤ 33 := Nat.min_le_right _ _
      have hqk : min e.kn 40 ≤ 40 := Nat.min_le_right _ _
      have hK := u64_mod e.kind 12 (by omega) (by omega)
      rw [hK.2.2] at hK
      replace hK := And.intro hK.1 hK.2.1
      repeat' (first | (refine i_op ?_; first | (refine i_qq ?_; refine qQ ?_) | refine qEf ?_) | refine tl_nil ?_ | (refine i_tc ?_; refine qTc ?_) | (refine i_te ?_; refine qTe ?_) | intro _)
      rename_i b8
      refine tl_is (.func 17) ?_; refine qC rfl rfl (few4_spec _ e he) ?_; rintro v2 ρ3 L2 hle2 ⟨rfl, a1, c1, s1, a2, c2, s2, a3, c3, s3, rfl, o1, o2, o3, rfl⟩; simp only [List.cons_append, List.nil_append]; refine tl_freeze _ (h := Rem.here) (fun ρ4 hl4 hfz4 => ?_); refine tl_freeze _ (h := Rem.here) (fun ρ5 hl5 hfz5 => ?_); refine tl_freeze _ (h := Rem.here) (fun ρ6 hl6 hfz6 => ?_)
      obtain ⟨x1, y1, e1, hc1, hs1⟩ := o1.sIn hfz4
      obtain ⟨x2, y2, e2, hc2, hs2⟩ := o2.sIn hfz5
      obtain ⟨x3, y3, e3, hc3, hs3⟩ := o3.sIn hfz6
      cases e1; cases e2; cases e3
      have hl56 := Hp.le_trans hl5 hl6
      have hl46 := Hp.le_trans hl4 hl56
      have he6 : EvIn ρ6 ⟨e.kind, e.n, ⟨a1, min e.b.n 400, c1, e.b.l.take (min e.b.n 400)⟩, ⟨a2, min e.note.n 33, c2, e.note.l.take (min e.note.n 33)⟩, a3, min e.kn 40, c3, e.ks.take (min e.kn 40)⟩ := ⟨he.n, he.kind, ⟨hs1.mono hl56, hc1⟩, by dsimp only; omega, ⟨hs2.mono hl6, hc2⟩, by dsimp only; omega, hs3, hc3, by dsimp only; omega⟩
      have hcell : [Value.int .i64 e.kind, .int .i64 e.n, .slice a1 (min e.b.n 400) c1, .slice a2 (min e.note.n 33) c2, .slice a3 (min e.kn 40) c3] = evC ⟨e.kind, e.n, ⟨a1, min e.b.n 400, c1, e.b.l.take (min e.b.n 400)⟩, ⟨a2, min e.note.n 33, c2, e.note.l.take (min e.note.n 33)⟩, a3, min e.kn 40, c3, e.ks.take (min e.kn 40)⟩ := rfl
      have hlm6 := Hp.le_trans hle2' hl46
      have hr6 := hr.mono hl46
      have hH6 := hH.mono hl46
      have hen := he.n
      have hq14 : 0 ≤ (max e.n 0).tmod 14 ∧ (max e.n 0).tmod 14 < 14 := ⟨Int.tmod_nonneg _ (by omega), Int.tmod_lt_of_pos _ (by omega)⟩
      by_cases h7 : (IntKind.u64.wrap e.kind).tmod 12 = 7
      · repeat' (first | (refine tl_is (.func 18) ?_; refine qC rfl rfl (karm _ db k D hk ((max e.n 0).tmod 14) hro (by omega)) ?_; rintro v ρ' L' hle ⟨rfl, rfl, hk7, rfl⟩ <;> (try simp only [List.cons_append, List.nil_append, List.append_eq])) | (refine i_op ?_; first | (refine i_qq ?_; refine qQ ?_) | refine qEf ?_) | refine tl_nil ?_ | (refine i_tc ?_; refine qTc ?_) | (refine i_te ?_; refine qTe ?_) | intro _)
        refine te_round_g (i + 1, _, rb, R, w, k, (D.arm ((max e.n 0).tmod 14)).1, H) (⟨⟨hlt, by omega⟩, hlm6, hk7, hr6, hH6, (hro.arm _ (by omega)).1, hfr.same (arm_secs _ _), hHR, hbd.mono (by omega) (by omega)⟩) ev_le ev_le rfl tk inferInstance (by first | omega | (dsimp only; omega))
      · by_cases h8 : (IntKind.u64.wrap e.kind).tmod 12 = 8
        · repeat' (first | (refine tl_is (.func 19) ?_; refine qC rfl rfl (kfail _ db k D hk ((max e.n 0).tmod 14) hro (by omega)) ?_; rintro v ρ' L' hle ⟨rfl, rfl, hk7, rfl⟩ <;> (try simp only [List.cons_append, List.nil_append, List.append_eq])) | (refine i_op ?_; first | (refine i_qq ?_; refine qQ ?_) | refine qEf ?_) | refine tl_nil ?_ | (refine i_tc ?_; refine qTc ?_) | (refine i_te ?_; refine qTe ?_) | intro _)
          refine te_round_g (i + 1, _, rb, R, w, k, (D.fail ((max e.n 0).tmod 14)).1, H) (⟨⟨hlt, by omega⟩, hlm6, hk7, hr6, hH6, (hro.fail _ (by omega)).1, hfr.same (fail_secs _ _), hHR, hbd.mono (by omega) (by omega)⟩) ev_le ev_le rfl tk inferInstance (by first | omega | (dsimp only; omega))
        · have hkm := he6
          repeat' (first | (refine i_op ?_; first | (refine i_qq ?_; refine qQ ?_) | refine qEf ?_) | refine tl_nil ?_ | (refine i_tc ?_; refine qTc ?_) | (refine i_te ?_; refine qTe ?_) | intro _)
          refine tl_is (.func 20) ?_; refine qC rfl rfl (would_spec _ rb db R w hr6 k D hk H hH6 _ he6 (by dsimp only; omega) (by dsimp only; omega) (1 + 3 * i) (1 + i) (by omega) (by omega) hro hfr hHR hbd) ?_; rintro v7 ρ7 L7 hle7 ⟨hl7, N, ec, R', w', k', D', rfl, hN, hk', hr', hA, rfl⟩; try simp only [List.cons_append, List.nil_append, List.append_assoc, List.append_eq]
          obtain ⟨hAl, hAd, _⟩ := hA
          by_cases hz : ec = 0
          · subst hz
            rw [if_pos rfl] at hAl hAd
            have hNi := hN
            by_cases hbr : R'.broken = false
            · by_cases hk9 : (IntKind.u64.wrap e.kind).tmod 12 < 9
              · obtain ⟨q1, q2, q3, q4⟩ := hAl hbr
                repeat' (first | (refine tl_is (.func 21) ?_; refine qC rfl rfl (broken_spec _ rb db R' w') ?_; rintro v ρ' L' hle ⟨rfl, rfl, rfl⟩ <;> (try simp only [List.cons_append, List.nil_append, List.append_eq, hbr])) | (refine i_op ?_; first | (refine i_qq ?_; refine qQ ?_) | refine qEf ?_) | refine tl_nil ?_ | (refine i_tc ?_; refine qTc ?_) | (refine i_te ?_; refine qTe ?_) | intro _)
                repeat' (first | (refine tl_is (.func 15) ?_; have hof := of_specH _ rb db R' w' (hr') q4.size N (hN); rw [decide_eq_true q3] at hof; refine qC rfl rfl hof ?_; rintro va ρa La hlea ⟨rfl, hla, rfl⟩; try simp only [List.cons_append, List.nil_append, List.append_assoc, List.append_eq]) | (refine i_op ?_; first | (refine i_qq ?_; refine qQ ?_) | refine qEf ?_) | refine tl_nil ?_ | (refine i_tc ?_; refine qTc ?_) | (refine i_te ?_; refine qTe ?_) | intro _)
                refine te_round_g (i + 1, ρa, rb, R', w', k', D', N) (⟨⟨hlt, by omega⟩, Hp.le_trans hlm6 (Hp.le_trans hl7 hla), hk', hr'.mono hla, hN.mono hla, q1, q2, q3, q4.mono (by omega) (by omega)⟩) ev_le ev_le rfl tk inferInstance (by first | omega | (dsimp only; omega))
              · obtain ⟨Rx, c1', c2', c3'⟩ := hAd (keepB ((e.ks.take (min e.kn 40)).take 60))
                repeat' (first | (refine tl_is (.func 21) ?_; refine qC rfl rfl (broken_spec _ rb db R' w') ?_; rintro v ρ' L' hle ⟨rfl, rfl, rfl⟩ <;> (try simp only [List.cons_append, List.nil_append, List.append_eq, hbr])) | (refine tl_is (.func 22) ?_; refine qC rfl rfl (kcrash _ db k' D' hk' a3 (min e.kn 40) c3 _ (hs3.mono hl7) hqk hc3) ?_; rintro v8 ρ8 L8 hle8 ⟨rfl, hl8, k8, hk8, rfl⟩; try simp only [List.cons_append, List.nil_append, List.append_assoc, List.append_eq]) | (refine tl_is (.func 16) ?_; refine qC rfl rfl (gopen _ db k8 _ hk8 Rx c1' (crash_calm _ _) (by have := c3'.turn; omega)) ?_; rintro v9 ρ9 L9 hle9 ⟨hl9, rb9, w9, k9, D9, rfl, hk9, hr9, g9, rfl⟩; try simp only [List.cons_append, List.nil_append, List.append_assoc, List.append_eq]) | (refine i_op ?_; first | (refine i_qq ?_; refine qQ ?_) | refine qEf ?_) | refine tl_nil ?_ | (refine i_tc ?_; refine qTc ?_) | (refine i_te ?_; refine qTe ?_) | intro _)
                have c4' := c3'.again
                have hl79 := Hp.le_trans hl8 hl9
                by_cases hxN : HR Rx N
                · repeat' (first | (refine tl_is (.func 15) ?_; have hof := of_specH _ rb9 db Rx.again w9 (hr9) c4'.size N (hN.mono hl79); rw [decide_eq_true (show HR Rx.again N from hxN)] at hof; refine qC rfl rfl hof ?_; rintro va ρa La hlea ⟨rfl, hla, rfl⟩; try simp only [List.cons_append, List.nil_append, List.append_assoc, List.append_eq]) | (refine i_op ?_; first | (refine i_qq ?_; refine qQ ?_) | refine qEf ?_) | refine tl_nil ?_ | (refine i_tc ?_; refine qTc ?_) | (refine i_te ?_; refine qTe ?_) | intro _)
                  repeat' (first | (refine tl_is (.func 16) ?_; refine qC rfl rfl (gopen _ db k9 D9 hk9 Rx.again g9.ro g9.calm (by have := c4'.turn; omega)) ?_; rintro vb ρb Lb hleb ⟨hlb, rbb, wb, kb, Db, rfl, hkb, hrb, gb, rfl⟩; try simp only [List.cons_append, List.nil_append, List.append_assoc, List.append_eq]) | (refine i_op ?_; first | (refine i_qq ?_; refine qQ ?_) | refine qEf ?_) | refine tl_nil ?_ | (refine i_tc ?_; refine qTc ?_) | (refine i_te ?_; refine qTe ?_) | intro _)
                  repeat' (first | (refine tl_is (.func 15) ?_; have hof := of_specH _ rb9 db Rx.again w9 (hr9.mono (Hp.le_trans hla hlb)) c4'.size N (hN.mono (Hp.le_trans hl79 (Hp.le_trans hla hlb))); rw [decide_eq_true (show HR Rx.again N from hxN)] at hof; refine qC rfl rfl hof ?_; rintro vc ρc Lc hlec ⟨rfl, hlc, rfl⟩; try simp only [List.cons_append, List.nil_append, List.append_assoc, List.append_eq]) | (refine i_op ?_; first | (refine i_qq ?_; refine qQ ?_) | refine qEf ?_) | refine tl_nil ?_ | (refine i_tc ?_; refine qTc ?_) | (refine i_te ?_; refine qTe ?_) | intro _)
                  repeat' (first | (refine tl_is (.func 15) ?_; have hof := of_specH _ rbb db Rx.again.again wb (hrb.mono hlc) c4'.again.size N (hN.mono (Hp.le_trans hl79 (Hp.le_trans hla (Hp.le_trans hlb hlc)))); rw [decide_eq_true (show HR Rx.again.again N from hxN)] at hof; refine qC rfl rfl hof ?_; rintro vd ρd Ld hled ⟨rfl, hld, rfl⟩; try simp only [List.cons_append, List.nil_append, List.append_assoc, List.append_eq]) | (refine i_op ?_; first | (refine i_qq ?_; refine qQ ?_) | refine qEf ?_) | refine tl_nil ?_ | (refine i_tc ?_; refine qTc ?_) | (refine i_te ?_; refine qTe ?_) | intro _)
                  have hlbd := Hp.le_trans hlc hld
                  have hl9d := Hp.le_trans hl79 (Hp.le_trans hla (Hp.le_trans hlb hlbd))
                  refine te_round_g (i + 1, ρd, rbb, Rx.again.again, wb, kb, Db, N) (⟨⟨hlt, by omega⟩, Hp.le_trans hlm6 (Hp.le_trans hl7 hl9d), hkb, hrb.mono hlbd, hN.mono hl9d, gb.ro, gb.frs, hxN, c4'.again.mono (by omega) (by omega)⟩) ev_le ev_le rfl tk inferInstance (by first | omega | (dsimp only; omega))
                · have hxH : HR Rx N := c2'.resolve_right hxN
                  repeat' (first | (refine tl_is (.func 15) ?_; have hof := of_specH _ rb9 db Rx.again w9 (hr9) c4'.size N (hN.mono hl79); rw [decide_eq_false (show ¬ HR Rx.again N from hxN)] at hof; refine qC rfl rfl hof ?_; rintro va ρa La hlea ⟨rfl, hla, rfl⟩; try simp only [List.cons_append, List.nil_append, List.append_assoc, List.append_eq]) | (refine i_op ?_; first | (refine i_qq ?_; refine qQ ?_) | refine qEf ?_) | refine tl_nil ?_ | (refine i_tc ?_; refine qTc ?_) | (refine i_te ?_; refine qTe ?_) | intro _)
                  repeat' (first | (refine tl_is (.func 16) ?_; refine qC rfl rfl (gopen _ db k9 D9 hk9 Rx.again g9.ro g9.calm (by have := c4'.turn; omega)) ?_; rintro vb ρb Lb hleb ⟨hlb, rbb, wb, kb, Db, rfl, hkb, hrb, gb, rfl⟩; try simp only [List.cons_append, List.nil_append, List.append_assoc, List.append_eq]) | (refine i_op ?_; first | (refine i_qq ?_; refine qQ ?_) | refine qEf ?_) | refine tl_nil ?_ | (refine i_tc ?_; refine qTc ?_) | (refine i_te ?_; refine qTe ?_) | intro _)
                  repeat' (first | (refine tl_is (.func 15) ?_; have hof := of_specH _ rb9 db Rx.again w9 (hr9.mono (Hp.le_trans hla hlb)) c4'.size N (hN.mono (Hp.le_trans hl79 (Hp.le_trans hla hlb))); rw [decide_eq_true (show HR Rx.again N from hxH)] at hof; refine qC rfl rfl hof ?_; rintro vc ρc Lc hlec ⟨rfl, hlc, rfl⟩; try simp only [List.cons_append, List.nil_append, List.append_assoc, List.append_eq]) | (refine i_op ?_; first | (refine i_qq ?_; refine qQ ?_) | refine qEf ?_) | refine tl_nil ?_ | (refine i_tc ?_; refine qTc ?_) | (refine i_te ?_; refine qTe ?_) | intro _)
                  repeat' (first | (refine tl_is (.func 15) ?_; have hof := of_specH _ rbb db Rx.again.again wb (hrb.mono hlc) c4'.again.size N (hN.mono (Hp.le_trans hl79 (Hp.le_trans hla (Hp.le_trans hlb hlc)))); rw [decide_eq_true (show HR Rx.again.again N from hxH)] at hof; refine qC rfl rfl hof ?_; rintro vd ρd Ld hled ⟨rfl, hld, rfl⟩; try simp only [List.cons_append, List.nil_append, List.append_assoc, List.append_eq]) | (refine i_op ?_; first | (refine i_qq ?_; refine qQ ?_) | refine qEf ?_) | refine tl_nil ?_ | (refine i_tc ?_; refine qTc ?_) | (refine i_te ?_; refine qTe ?_) | intro _)
                  have hlbd := Hp.le_trans hlc hld
                  have hl9d := Hp.le_trans hl79 (Hp.le_trans hla (Hp.le_trans hlb hlbd))
                  refine te_round_g (i + 1, ρd, rbb, Rx.again.again, wb, kb, Db, N) (⟨⟨hlt, by omega⟩, Hp.le_trans hlm6 (Hp.le_trans hl7 hl9d), hkb, hrb.mono hlbd, hN.mono hl9d, gb.ro, gb.frs, hxH, c4'.again.mono (by omega) (by omega)⟩) ev_le ev_le rfl tk inferInstance (by first | omega | (dsimp only; omega))
            · replace hbr : R'.broken = true := by simpa using hbr
              obtain ⟨Rx, c1', c2', c3'⟩ := hAd (keepB ((e.ks.take (min e.kn 40)).take 60))
              repeat' (first | (refine tl_is (.func 21) ?_; refine qC rfl rfl (broken_spec _ rb db R' w') ?_; rintro v ρ' L' hle ⟨rfl, rfl, rfl⟩ <;> (try simp only [List.cons_append, List.nil_append, List.append_eq, hbr])) | (refine tl_is (.func 22) ?_; refine qC rfl rfl (kcrash _ db k' D' hk' a3 (min e.kn 40) c3 _ (hs3.mono hl7) hqk hc3) ?_; rintro v8 ρ8 L8 hle8 ⟨rfl, hl8, k8, hk8, rfl⟩; try simp only [List.cons_append, List.nil_append, List.append_assoc, List.append_eq]) | (refine tl_is (.func 16) ?_; refine qC rfl rfl (gopen _ db k8 _ hk8 Rx c1' (crash_calm _ _) (by have := c3'.turn; omega)) ?_; rintro v9 ρ9 L9 hle9 ⟨hl9, rb9, w9, k9, D9, rfl, hk9, hr9, g9, rfl⟩; try simp only [List.cons_append, List.nil_append, List.append_assoc, List.append_eq]) | (refine i_op ?_; first | (refine i_qq ?_; refine qQ ?_) | refine qEf ?_) | refine tl_nil ?_ | (refine i_tc ?_; refine qTc ?_) | (refine i_te ?_; refine qTe ?_) | intro _)
              have c4' := c3'.again
              have hl79 := Hp.le_trans hl8 hl9
              by_cases hxN : HR Rx N
              · repeat' (first | (refine tl_is (.func 15) ?_; have hof := of_specH _ rb9 db Rx.again w9 (hr9) c4'.size N (hN.mono hl79); rw [decide_eq_true (show HR Rx.again N from hxN)] at hof; refine qC rfl rfl hof ?_; rintro va ρa La hlea ⟨rfl, hla, rfl⟩; try simp only [List.cons_append, List.nil_append, List.append_assoc, List.append_eq]) | (refine i_op ?_; first | (refine i_qq ?_; refine qQ ?_) | refine qEf ?_) | refine tl_nil ?_ | (refine i_tc ?_; refine qTc ?_) | (refine i_te ?_; refine qTe ?_) | intro _)
                repeat' (first | (refine tl_is (.func 16) ?_; refine qC rfl rfl (gopen _ db k9 D9 hk9 Rx.again g9.ro g9.calm (by have := c4'.turn; omega)) ?_; rintro vb ρb Lb hleb ⟨hlb, rbb, wb, kb, Db, rfl, hkb, hrb, gb, rfl⟩; try simp only [List.cons_append, List.nil_append, List.append_assoc, List.append_eq]) | (refine i_op ?_; first | (refine i_qq ?_; refine qQ ?_) | refine qEf ?_) | refine tl_nil ?_ | (refine i_tc ?_; refine qTc ?_) | (refine i_te ?_; refine qTe ?_) | intro _)
                repeat' (first | (refine tl_is (.func 15) ?_; have hof := of_specH _ rb9 db Rx.again w9 (hr9.mono (Hp.le_trans hla hlb)) c4'.size N (hN.mono (Hp.le_trans hl79 (Hp.le_trans hla hlb))); rw [decide_eq_true (show HR Rx.again N from hxN)] at hof; refine qC rfl rfl hof ?_; rintro vc ρc Lc hlec ⟨rfl, hlc, rfl⟩; try simp only [List.cons_append, List.nil_append, List.append_assoc, List.append_eq]) | (refine i_op ?_; first | (refine i_qq ?_; refine qQ ?_) | refine qEf ?_) | refine tl_nil ?_ | (refine i_tc ?_; refine qTc ?_) | (refine i_te ?_; refine qTe ?_) | intro _)
                repeat' (first | (refine tl_is (.func 15) ?_; have hof := of_specH _ rbb db Rx.again.again wb (hrb.mono hlc) c4'.again.size N (hN.mono (Hp.le_trans hl79 (Hp.le_trans hla (Hp.le_trans hlb hlc)))); rw [decide_eq_true (show HR Rx.again.again N from hxN)] at hof; refine qC rfl rfl hof ?_; rintro vd ρd Ld hled ⟨rfl, hld, rfl⟩; try simp only [List.cons_append, List.nil_append, List.append_assoc, List.append_eq]) | (refine i_op ?_; first | (refine i_qq ?_; refine qQ ?_) | refine qEf ?_) | refine tl_nil ?_ | (refine i_tc ?_; refine qTc ?_) | (refine i_te ?_; refine qTe ?_) | intro _)
                have hlbd := Hp.le_trans hlc hld
                have hl9d := Hp.le_trans hl79 (Hp.le_trans hla (Hp.le_trans hlb hlbd))
                refine te_round_g (i + 1, ρd, rbb, Rx.again.again, wb, kb, Db, N) (⟨⟨hlt, by omega⟩, Hp.le_trans hlm6 (Hp.le_trans hl7 hl9d), hkb, hrb.mono hlbd, hN.mono hl9d, gb.ro, gb.frs, hxN, c4'.again.mono (by omega) (by omega)⟩) ev_le ev_le rfl tk inferInstance (by first | omega | (dsimp only; omega))
              · have hxH : HR Rx N := c2'.resolve_right hxN
                repeat' (first | (refine tl_is (.func 15) ?_; have hof := of_specH _ rb9 db Rx.again w9 (hr9) c4'.size N (hN.mono hl79); rw [decide_eq_false (show ¬ HR Rx.again N from hxN)] at hof; refine qC rfl rfl hof ?_; rintro va ρa La hlea ⟨rfl, hla, rfl⟩; try simp only [List.cons_append, List.nil_append, List.append_assoc, List.append_eq]) | (refine i_op ?_; first | (refine i_qq ?_; refine qQ ?_) | refine qEf ?_) | refine tl_nil ?_ | (refine i_tc ?_; refine qTc ?_) | (refine i_te ?_; refine qTe ?_) | intro _)
                repeat' (first | (refine tl_is (.func 16) ?_; refine qC rfl rfl (gopen _ db k9 D9 hk9 Rx.again g9.ro g9.calm (by have := c4'.turn; omega)) ?_; rintro vb ρb Lb hleb ⟨hlb, rbb, wb, kb, Db, rfl, hkb, hrb, gb, rfl⟩; try simp only [List.cons_append, List.nil_append, List.append_assoc, List.append_eq]) | (refine i_op ?_; first | (refine i_qq ?_; refine qQ ?_) | refine qEf ?_) | refine tl_nil ?_ | (refine i_tc ?_; refine qTc ?_) | (refine i_te ?_; refine qTe ?_) | intro _)
                repeat' (first | (refine tl_is (.func 15) ?_; have hof := of_specH _ rb9 db Rx.again w9 (hr9.mono (Hp.le_trans hla hlb)) c4'.size N (hN.mono (Hp.le_trans hl79 (Hp.le_trans hla hlb))); rw [decide_eq_true (show HR Rx.again N from hxH)] at hof; refine qC rfl rfl hof ?_; rintro vc ρc Lc hlec ⟨rfl, hlc, rfl⟩; try simp only [List.cons_append, List.nil_append, List.append_assoc, List.append_eq]) | (refine i_op ?_; first | (refine i_qq ?_; refine qQ ?_) | refine qEf ?_) | refine tl_nil ?_ | (refine i_tc ?_; refine qTc ?_) | (refine i_te ?_; refine qTe ?_) | intro _)
                repeat' (first | (refine tl_is (.func 15) ?_; have hof := of_specH _ rbb db Rx.again.again wb (hrb.mono hlc) c4'.again.size N (hN.mono (Hp.le_trans hl79 (Hp.le_trans hla (Hp.le_trans hlb hlc)))); rw [decide_eq_true (show HR Rx.again.again N from hxH)] at hof; refine qC rfl rfl hof ?_; rintro vd ρd Ld hled ⟨rfl, hld, rfl⟩; try simp only [List.cons_append, List.nil_append, List.append_assoc, List.append_eq]) | (refine i_op ?_; first | (refine i_qq ?_; refine qQ ?_) | refine qEf ?_) | refine tl_nil ?_ | (refine i_tc ?_; refine qTc ?_) | (refine i_te ?_; refine qTe ?_) | intro _)
                have hlbd := Hp.le_trans hlc hld
                have hl9d := Hp.le_trans hl79 (Hp.le_trans hla (Hp.le_trans hlb hlbd))
                refine te_round_g (i + 1, ρd, rbb, Rx.again.again, wb, kb, Db, N) (⟨⟨hlt, by omega⟩, Hp.le_trans hlm6 (Hp.le_trans hl7 hl9d), hkb, hrb.mono hlbd, hN.mono hl9d, gb.ro, gb.frs, hxH, c4'.again.mono (by omega) (by omega)⟩) ev_le ev_le rfl tk inferInstance (by first | omega | (dsimp only; omega))
          · rw [if_neg hz] at hAl hAd
            have hHi := hH6.mono hl7
            by_cases hbr : R'.broken = false
            · by_cases hk9 : (IntKind.u64.wrap e.kind).tmod 12 < 9
              · obtain ⟨q1, q2, q3, q4⟩ := hAl hbr
                repeat' (first | (refine tl_is (.func 21) ?_; refine qC rfl rfl (broken_spec _ rb db R' w') ?_; rintro v ρ' L' hle ⟨rfl, rfl, rfl⟩ <;> (try simp only [List.cons_append, List.nil_append, List.append_eq, hbr])) | (refine i_op ?_; first | (refine i_qq ?_; refine qQ ?_) | refine qEf ?_) | refine tl_nil ?_ | (refine i_tc ?_; refine qTc ?_) | (refine i_te ?_; refine qTe ?_) | intro _)
                repeat' (first | (refine tl_is (.func 15) ?_; have hof := of_specH _ rb db R' w' (hr') q4.size H (hHi); rw [decide_eq_true q3] at hof; refine qC rfl rfl hof ?_; rintro va ρa La hlea ⟨rfl, hla, rfl⟩; try simp only [List.cons_append, List.nil_append, List.append_assoc, List.append_eq]) | (refine i_op ?_; first | (refine i_qq ?_; refine qQ ?_) | refine qEf ?_) | refine tl_nil ?_ | (refine i_tc ?_; refine qTc ?_) | (refine i_te ?_; refine qTe ?_) | intro _)
                refine te_round_g (i + 1, ρa, rb, R', w', k', D', H) (⟨⟨hlt, by omega⟩, Hp.le_trans hlm6 (Hp.le_trans hl7 hla), hk', hr'.mono hla, hHi.mono hla, q1, q2, q3, q4.mono (by omega) (by omega)⟩) ev_le ev_le rfl tk inferInstance (by first | omega | (dsimp only; omega))
              · obtain ⟨Rx, c1', c2', c3'⟩ := hAd (keepB ((e.ks.take (min e.kn 40)).take 60))
                repeat' (first | (refine tl_is (.func 21) ?_; refine qC rfl rfl (broken_spec _ rb db R' w') ?_; rintro v ρ' L' hle ⟨rfl, rfl, rfl⟩ <;> (try simp only [List.cons_append, List.nil_append, List.append_eq, hbr])) | (refine tl_is (.func 22) ?_; refine qC rfl rfl (kcrash _ db k' D' hk' a3 (min e.kn 40) c3 _ (hs3.mono hl7) hqk hc3) ?_; rintro v8 ρ8 L8 hle8 ⟨rfl, hl8, k8, hk8, rfl⟩; try simp only [List.cons_append, List.nil_append, List.append_assoc, List.append_eq]) | (refine tl_is (.func 16) ?_; refine qC rfl rfl (gopen _ db k8 _ hk8 Rx c1' (crash_calm _ _) (by have := c3'.turn; omega)) ?_; rintro v9 ρ9 L9 hle9 ⟨hl9, rb9, w9, k9, D9, rfl, hk9, hr9, g9, rfl⟩; try simp only [List.cons_append, List.nil_append, List.append_assoc, List.append_eq]) | (refine i_op ?_; first | (refine i_qq ?_; refine qQ ?_) | refine qEf ?_) | refine tl_nil ?_ | (refine i_tc ?_; refine qTc ?_) | (refine i_te ?_; refine qTe ?_) | intro _)
                have c4' := c3'.again
                have hl79 := Hp.le_trans hl8 hl9
                by_cases hxN : HR Rx N
                · repeat' (first | (refine tl_is (.func 15) ?_; have hof := of_specH _ rb9 db Rx.again w9 (hr9) c4'.size N (hN.mono hl79); rw [decide_eq_true (show HR Rx.again N from hxN)] at hof; refine qC rfl rfl hof ?_; rintro va ρa La hlea ⟨rfl, hla, rfl⟩; try simp only [List.cons_append, List.nil_append, List.append_assoc, List.append_eq]) | (refine i_op ?_; first | (refine i_qq ?_; refine qQ ?_) | refine qEf ?_) | refine tl_nil ?_ | (refine i_tc ?_; refine qTc ?_) | (refine i_te ?_; refine qTe ?_) | intro _)
                  repeat' (first | (refine tl_is (.func 16) ?_; refine qC rfl rfl (gopen _ db k9 D9 hk9 Rx.again g9.ro g9.calm (by have := c4'.turn; omega)) ?_; rintro vb ρb Lb hleb ⟨hlb, rbb, wb, kb, Db, rfl, hkb, hrb, gb, rfl⟩; try simp only [List.cons_append, List.nil_append, List.append_assoc, List.append_eq]) | (refine i_op ?_; first | (refine i_qq ?_; refine qQ ?_) | refine qEf ?_) | refine tl_nil ?_ | (refine i_tc ?_; refine qTc ?_) | (refine i_te ?_; refine qTe ?_) | intro _)
                  repeat' (first | (refine tl_is (.func 15) ?_; have hof := of_specH _ rb9 db Rx.again w9 (hr9.mono (Hp.le_trans hla hlb)) c4'.size N (hN.mono (Hp.le_trans hl79 (Hp.le_trans hla hlb))); rw [decide_eq_true (show HR Rx.again N from hxN)] at hof; refine qC rfl rfl hof ?_; rintro vc ρc Lc hlec ⟨rfl, hlc, rfl⟩; try simp only [List.cons_append, List.nil_append, List.append_assoc, List.append_eq]) | (refine i_op ?_; first | (refine i_qq ?_; refine qQ ?_) | refine qEf ?_) | refine tl_nil ?_ | (refine i_tc ?_; refine qTc ?_) | (refine i_te ?_; refine qTe ?_) | intro _)
                  repeat' (first | (refine tl_is (.func 15) ?_; have hof := of_specH _ rbb db Rx.again.again wb (hrb.mono hlc) c4'.again.size N (hN.mono (Hp.le_trans hl79 (Hp.le_trans hla (Hp.le_trans hlb hlc)))); rw [decide_eq_true (show HR Rx.again.again N from hxN)] at hof; refine qC rfl rfl hof ?_; rintro vd ρd Ld hled ⟨rfl, hld, rfl⟩; try simp only [List.cons_append, List.nil_append, List.append_assoc, List.append_eq]) | (refine i_op ?_; first | (refine i_qq ?_; refine qQ ?_) | refine qEf ?_) | refine tl_nil ?_ | (refine i_tc ?_; refine qTc ?_) | (refine i_te ?_; refine qTe ?_) | intro _)
                  have hlbd := Hp.le_trans hlc hld
                  have hl9d := Hp.le_trans hl79 (Hp.le_trans hla (Hp.le_trans hlb hlbd))
                  refine te_round_g (i + 1, ρd, rbb, Rx.again.again, wb, kb, Db, N) (⟨⟨hlt, by omega⟩, Hp.le_trans hlm6 (Hp.le_trans hl7 hl9d), hkb, hrb.mono hlbd, hN.mono hl9d, gb.ro, gb.frs, hxN, c4'.again.mono (by omega) (by omega)⟩) ev_le ev_le rfl tk inferInstance (by first | omega | (dsimp only; omega))
                · have hxH : HR Rx H := c2'.resolve_right hxN
                  repeat' (first | (refine tl_is (.func 15) ?_; have hof := of_specH _ rb9 db Rx.again w9 (hr9) c4'.size N (hN.mono hl79); rw [decide_eq_false (show ¬ HR Rx.again N from hxN)] at hof; refine qC rfl rfl hof ?_; rintro va ρa La hlea ⟨rfl, hla, rfl⟩; try simp only [List.cons_append, List.nil_append, List.append_assoc, List.append_eq]) | (refine i_op ?_; first | (refine i_qq ?_; refine qQ ?_) | refine qEf ?_) | refine tl_nil ?_ | (refine i_tc ?_; refine qTc ?_) | (refine i_te ?_; refine qTe ?_) | intro _)
                  repeat' (first | (refine tl_is (.func 16) ?_; refine qC rfl rfl (gopen _ db k9 D9 hk9 Rx.again g9.ro g9.calm (by have := c4'.turn; omega)) ?_; rintro vb ρb Lb hleb ⟨hlb, rbb, wb, kb, Db, rfl, hkb, hrb, gb, rfl⟩; try simp only [List.cons_append, List.nil_append, List.append_assoc, List.append_eq]) | (refine i_op ?_; first | (refine i_qq ?_; refine qQ ?_) | refine qEf ?_) | refine tl_nil ?_ | (refine i_tc ?_; refine qTc ?_) | (refine i_te ?_; refine qTe ?_) | intro _)
                  repeat' (first | (refine tl_is (.func 15) ?_; have hof := of_specH _ rb9 db Rx.again w9 (hr9.mono (Hp.le_trans hla hlb)) c4'.size H (hHi.mono (Hp.le_trans hl79 (Hp.le_trans hla hlb))); rw [decide_eq_true (show HR Rx.again H from hxH)] at hof; refine qC rfl rfl hof ?_; rintro vc ρc Lc hlec ⟨rfl, hlc, rfl⟩; try simp only [List.cons_append, List.nil_append, List.append_assoc, List.append_eq]) | (refine i_op ?_; first | (refine i_qq ?_; refine qQ ?_) | refine qEf ?_) | refine tl_nil ?_ | (refine i_tc ?_; refine qTc ?_) | (refine i_te ?_; refine qTe ?_) | intro _)
                  repeat' (first | (refine tl_is (.func 15) ?_; have hof := of_specH _ rbb db Rx.again.again wb (hrb.mono hlc) c4'.again.size H (hHi.mono (Hp.le_trans hl79 (Hp.le_trans hla (Hp.le_trans hlb hlc)))); rw [decide_eq_true (show HR Rx.again.again H from hxH)] at hof; refine qC rfl rfl hof ?_; rintro vd ρd Ld hled ⟨rfl, hld, rfl⟩; try simp only [List.cons_append, List.nil_append, List.append_assoc, List.append_eq]) | (refine i_op ?_; first | (refine i_qq ?_; refine qQ ?_) | refine qEf ?_) | refine tl_nil ?_ | (refine i_tc ?_; refine qTc ?_) | (refine i_te ?_; refine qTe ?_) | intro _)
                  have hlbd := Hp.le_trans hlc hld
                  have hl9d := Hp.le_trans hl79 (Hp.le_trans hla (Hp.le_trans hlb hlbd))
                  refine te_round_g (i + 1, ρd, rbb, Rx.again.again, wb, kb, Db, H) (⟨⟨hlt, by omega⟩, Hp.le_trans hlm6 (Hp.le_trans hl7 hl9d), hkb, hrb.mono hlbd, hHi.mono hl9d, gb.ro, gb.frs, hxH, c4'.again.mono (by omega) (by omega)⟩) ev_le ev_le rfl tk inferInstance (by first | omega | (dsimp only; omega))
            · replace hbr : R'.broken = true := by simpa using hbr
              obtain ⟨Rx, c1', c2', c3'⟩ := hAd (keepB ((e.ks.take (min e.kn 40)).take 60))
              repeat' (first | (refine tl_is (.func 21) ?_; refine qC rfl rfl (broken_spec _ rb db R' w') ?_; rintro v ρ' L' hle ⟨rfl, rfl, rfl⟩ <;> (try simp only [List.cons_append, List.nil_append, List.append_eq, hbr])) | (refine tl_is (.func 22) ?_; refine qC rfl rfl (kcrash _ db k' D' hk' a3 (min e.kn 40) c3 _ (hs3.mono hl7) hqk hc3) ?_; rintro v8 ρ8 L8 hle8 ⟨rfl, hl8, k8, hk8, rfl⟩; try simp only [List.cons_append, List.nil_append, List.append_assoc, List.append_eq]) | (refine tl_is (.func 16) ?_; refine qC rfl rfl (gopen _ db k8 _ hk8 Rx c1' (crash_calm _ _) (by have := c3'.turn; omega)) ?_; rintro v9 ρ9 L9 hle9 ⟨hl9, rb9, w9, k9, D9, rfl, hk9, hr9, g9, rfl⟩; try simp only [List.cons_append, List.nil_append, List.append_assoc, List.append_eq]) | (refine i_op ?_; first | (refine i_qq ?_; refine qQ ?_) | refine qEf ?_) | refine tl_nil ?_ | (refine i_tc ?_; refine qTc ?_) | (refine i_te ?_; refine qTe ?_) | intro _)
              have c4' := c3'.again
              have hl79 := Hp.le_trans hl8 hl9
              by_cases hxN : HR Rx N
              · repeat' (first | (refine tl_is (.func 15) ?_; have hof := of_specH _ rb9 db Rx.again w9 (hr9) c4'.size N (hN.mono hl79); rw [decide_eq_true (show HR Rx.again N from hxN)] at hof; refine qC rfl rfl hof ?_; rintro va ρa La hlea ⟨rfl, hla, rfl⟩; try simp only [List.cons_append, List.nil_append, List.append_assoc, List.append_eq]) | (refine i_op ?_; first | (refine i_qq ?_; refine qQ ?_) | refine qEf ?_) | refine tl_nil ?_ | (refine i_tc ?_; refine qTc ?_) | (refine i_te ?_; refine qTe ?_) | intro _)
                repeat' (first | (refine tl_is (.func 16) ?_; refine qC rfl rfl (gopen _ db k9 D9 hk9 Rx.again g9.ro g9.calm (by have := c4'.turn; omega)) ?_; rintro vb ρb Lb hleb ⟨hlb, rbb, wb, kb, Db, rfl, hkb, hrb, gb, rfl⟩; try simp only [List.cons_append, List.nil_append, List.append_assoc, List.append_eq]) | (refine i_op ?_; first | (refine i_qq ?_; refine qQ ?_) | refine qEf ?_) | refine tl_nil ?_ | (refine i_tc ?_; refine qTc ?_) | (refine i_te ?_; refine qTe ?_) | intro _)
                repeat' (first | (refine tl_is (.func 15) ?_; have hof := of_specH _ rb9 db Rx.again w9 (hr9.mono (Hp.le_trans hla hlb)) c4'.size N (hN.mono (Hp.le_trans hl79 (Hp.le_trans hla hlb))); rw [decide_eq_true (show HR Rx.again N from hxN)] at hof; refine qC rfl rfl hof ?_; rintro vc ρc Lc hlec ⟨rfl, hlc, rfl⟩; try simp only [List.cons_append, List.nil_append, List.append_assoc, List.append_eq]) | (refine i_op ?_; first | (refine i_qq ?_; refine qQ ?_) | refine qEf ?_) | refine tl_nil ?_ | (refine i_tc ?_; refine qTc ?_) | (refine i_te ?_; refine qTe ?_) | intro _)
                repeat' (first | (refine tl_is (.func 15) ?_; have hof := of_specH _ rbb db Rx.again.again wb (hrb.mono hlc) c4'.again.size N (hN.mono (Hp.le_trans hl79 (Hp.le_trans hla (Hp.le_trans hlb hlc)))); rw [decide_eq_true (show HR Rx.again.again N from hxN)] at hof; refine qC rfl rfl hof ?_; rintro vd ρd Ld hled ⟨rfl, hld, rfl⟩; try simp only [List.cons_append, List.nil_append, List.append_assoc, List.append_eq]) | (refine i_op ?_; first | (refine i_qq ?_; refine qQ ?_) | refine qEf ?_) | refine tl_nil ?_ | (refine i_tc ?_; refine qTc ?_) | (refine i_te ?_; refine qTe ?_) | intro _)
                have hlbd := Hp.le_trans hlc hld
                have hl9d := Hp.le_trans hl79 (Hp.le_trans hla (Hp.le_trans hlb hlbd))
                refine te_round_g (i + 1, ρd, rbb, Rx.again.again, wb, kb, Db, N) (⟨⟨hlt, by omega⟩, Hp.le_trans hlm6 (Hp.le_trans hl7 hl9d), hkb, hrb.mono hlbd, hN.mono hl9d, gb.ro, gb.frs, hxN, c4'.again.mono (by omega) (by omega)⟩) ev_le ev_le rfl tk inferInstance (by first | omega | (dsimp only; omega))
              · have hxH : HR Rx H := c2'.resolve_right hxN
                repeat' (first | (refine tl_is (.func 15) ?_; have hof := of_specH _ rb9 db Rx.again w9 (hr9) c4'.size N (hN.mono hl79); rw [decide_eq_false (show ¬ HR Rx.again N from hxN)] at hof; refine qC rfl rfl hof ?_; rintro va ρa La hlea ⟨rfl, hla, rfl⟩; try simp only [List.cons_append, List.nil_append, List.append_assoc, List.append_eq]) | (refine i_op ?_; first | (refine i_qq ?_; refine qQ ?_) | refine qEf ?_) | refine tl_nil ?_ | (refine i_tc ?_; refine qTc ?_) | (refine i_te ?_; refine qTe ?_) | intro _)
                repeat' (first | (refine tl_is (.func 16) ?_; refine qC rfl rfl (gopen _ db k9 D9 hk9 Rx.again g9.ro g9.calm (by have := c4'.turn; omega)) ?_; rintro vb ρb Lb hleb ⟨hlb, rbb, wb, kb, Db, rfl, hkb, hrb, gb, rfl⟩; try simp only [List.cons_append, List.nil_append, List.append_assoc, List.append_eq]) | (refine i_op ?_; first | (refine i_qq ?_; refine qQ ?_) | refine qEf ?_) | refine tl_nil ?_ | (refine i_tc ?_; refine qTc ?_) | (refine i_te ?_; refine qTe ?_) | intro _)
                repeat' (first | (refine tl_is (.func 15) ?_; have hof := of_specH _ rb9 db Rx.again w9 (hr9.mono (Hp.le_trans hla hlb)) c4'.size H (hHi.mono (Hp.le_trans hl79 (Hp.le_trans hla hlb))); rw [decide_eq_true (show HR Rx.again H from hxH)] at hof; refine qC rfl rfl hof ?_; rintro vc ρc Lc hlec ⟨rfl, hlc, rfl⟩; try simp only [List.cons_append, List.nil_append, List.append_assoc, List.append_eq]) | (refine i_op ?_; first | (refine i_qq ?_; refine qQ ?_) | refine qEf ?_) | refine tl_nil ?_ | (refine i_tc ?_; refine qTc ?_) | (refine i_te ?_; refine qTe ?_) | intro _)
                repeat' (first | (refine tl_is (.func 15) ?_; have hof := of_specH _ rbb db Rx.again.again wb (hrb.mono hlc) c4'.again.size H (hHi.mono (Hp.le_trans hl79 (Hp.le_trans hla (Hp.le_trans hlb hlc)))); rw [decide_eq_true (show HR Rx.again.again H from hxH)] at hof; refine qC rfl rfl hof ?_; rintro vd ρd Ld hled ⟨rfl, hld, rfl⟩; try simp only [List.cons_append, List.nil_append, List.append_assoc, List.append_eq]) | (refine i_op ?_; first | (refine i_qq ?_; refine qQ ?_) | refine qEf ?_) | refine tl_nil ?_ | (refine i_tc ?_; refine qTc ?_) | (refine i_te ?_; refine qTe ?_) | intro _)
                have hlbd := Hp.le_trans hlc hld
                have hl9d := Hp.le_trans hl79 (Hp.le_trans hla (Hp.le_trans hlb hlbd))
                refine te_round_g (i + 1, ρd, rbb, Rx.again.again, wb, kb, Db, H) (⟨⟨hlt, by omega⟩, Hp.le_trans hlm6 (Hp.le_trans hl7 hl9d), hkb, hrb.mono hlbd, hHi.mono hl9d, gb.ro, gb.frs, hxH, c4'.again.mono (by omega) (by omega)⟩) ev_le ev_le rfl tk inferInstance (by first | omega | (dsimp only; omega))
  · repeat' (first | (refine i_op ?_; first | (refine i_qq ?_; refine qQ ?_) | refine qEf ?_) | refine tl_nil ?_ | (refine i_tc ?_; refine qTc ?_) | (refine i_te ?_; refine qTe ?_) | intro _)
    exact qE (L' := []) ⟨rfl, hlm, rfl⟩
end Go.Proofs.E

namespace Go.Proofs.Ytncenainkaofmaa.RingLastsLaw
open Go Go.ChangeShapes Go.WideShapes Go.ChangeAt Go.RowKit Go.Proofs.E
set_option linter.unusedVariables false

theorem own : ownKnob Try.prog.godebug = none := by kernel_rfl
theorem laidOut : laidOutB Try.prog = true := by kernel_rfl

set_option maxRecDepth 100000 in
theorem lifted (os : Os) (started : os.Started) (H : Type) (enc : TypeId × Value → H) :
    ReturnsInHanded {} Try.checked os 4 .any (Rows.ringLastsSpec.pre6 enc Try.prog Try.f4 Rows.ringLastsRow.domain false) (Rows.ringLastsSpec.post enc Try.prog Try.f4 false true false false) := by
  refine returnsInHanded_of_change_sized (C := Try.checked) own started (by kernel_rfl) Try.func4
    (ChangeSpec.witness6 (enc := enc) (C := Try.checked) false ⟨#[], #[.slice none 0 0], []⟩ 8 (by kernel_rfl) (by kernel_rfl) (by kernel_rfl) (by kernel_rfl)) ?_
  intro W base args ds gs before hval0 hW hcnd hsz0 _
  have hval : ∀ (j : Nat) t v, Try.f4.params[j]? = some t → args[j]? = some v → Value.okWide Try.prog W .any base t v := hval0
  have hW' := hW
  obtain ⟨p, q, hA0, hV, rfl, hfz, hnd⟩ := hW
  have hA : DataW.TrodAll enc Try.prog W 0 (fun _ => true) true Try.f4.params.toList args.toList ds p := hA0
  have hsz : (DataW.weightsEach Try.prog (Try.f4.params.toList ++ Rows.ringLastsSpec.plain.varTypes Try.prog) (ds ++ gs)).all (· ≤ reachBytes) = true := hsz0
  rw [Try.params4] at hA hval hsz
  obtain ⟨v0, vs0, d0, ds0, p0, q0, hargs, rfl, rfl, h0, r0⟩ := trodAll_cons hA
  obtain ⟨rfl, rfl, rfl⟩ := trodAll_nil r0
  obtain rfl : args = #[v0] := by cases args; simp_all
  obtain ⟨rfl, rfl⟩ := trodVars_none hV
  have k0 := h0
  have lt0 : ∀ x ∈ p0, x.block < W.heap.size := by obtain ⟨m, hm⟩ := k0; exact DataW.trod_lt m _ _ _ hm
  obtain ⟨a0, n0, c0, rfl⟩ := okWide_slice Try.underlying42 (hval 0 42 v0 rfl rfl)
  have b0 := top_slice hsz (j := 0) rfl rfl Try.underlying42 k0 rfl
  have bb0 : Try.prog.bytesOf 45 = 88 := by kernel_rfl
  rw [bb0] at b0
  simp only [reachBytes] at b0
  obtain ⟨s0, e0⟩ := (opn_slice (sz := 5) Try.underlying42 (by kernel_rfl) (by decide) opn_event) _ _ _ h0.choose_spec
  obtain ⟨⟨y0, m0, z0, x0⟩, ec0⟩ : ∃ s, s = s0 := ⟨s0, rfl⟩
  subst ec0
  have ec0 := e0.cells
  simp only [Value.cells, List.cons.injEq, Value.slice.injEq, and_true] at ec0
  obtain ⟨rfl, rfl, rfl⟩ := ec0
  clear hA0 hval0
  obtain ⟨hA0, hP0, hc0, hb0⟩ := aIn_ofK (g := evC) (P := EvIn (hpOf W)) (fun x => rfl) e0
  refine (Spec.law (lasts_spec (hpOf W) a0 n0 c0 x0 hA0 hP0 hb0)).mono fun e W' ⟨he, bel⟩ => ?_
  subst he
  exact ⟨_, rfl, _, _, _, [], _, [], hW', trodAll_mk1 (shut_bool Try.underlying4 _), (trodAll_cons_mk (Below.trod laidOut (by kernel_rfl) (of_decide_eq_true (by kernel_rfl)) k0 bel lt0) trodAll_mk0), rfl, bel.frame _, fun h => by cases h⟩

theorem over : Rows.ringLastsRow.holds Try.pinned (OpenSpec.ofChange Rows.ringLastsSpec) :=
  OpenClaim.holds_of_wide 4 Try.f4 rfl rfl rfl rfl rfl rfl rfl ⟨rfl, rfl, rfl, rfl, rfl⟩ rfl rfl rfl rfl rfl (by kernel_rfl) Try.func4 (by kernel_rfl)
    (of_decide_eq_true (by kernel_rfl)) (by unfold Func.isWrapper; first | (rw [if_pos (by decide +kernel)]; kernel_rfl) | (rw [if_neg (by decide +kernel)]; exact ⟨rfl, rfl⟩))
    (fun os started H enc _ => lifted os started H enc)

theorem proved : Rows.RingLastsSaid := over
end Go.Proofs.Ytncenainkaofmaa.RingLastsLaw

