/- Disks of layer 2 and rings of layer 4 as data, and what their functions come to. Part 4 of 5. -/
import Derived.Test.YtncenainkaofmaaD3
namespace Go.Proofs.E
open Go
set_option linter.unusedVariables false
set_option linter.unusedSimpArgs false
set_option linter.unusedSectionVars false
set_option maxRecDepth 4000
set_option maxHeartbeats 1000000
attribute [local irreducible] Yl TL TC TE Spec YSpec R1 Hp.le EnvLe TS TR YS Stays
theorem cut_spec_early (ρ : Hp) (rb db : Nat) (R : RgS) (w : RW) (h : RIn ρ R w) (k : DK) (D : DS) (hD : DOk k D) (X : SH) (a : Option Addr) (nn c : Nat) (note : Bs) (hb : Rd ρ X a nn note) (n : Int) (hn : -9223372036854775808 ≤ n ∧ n ≤ 9223372036854775807)
    (hbad : R.broken = true ∨ (n < 0 ∨ (R.ents.length : Int) < n ∨ R.h.turn = 1073741824) ∨ 32 < note.length) :
    Spec Try.prog 13 [.pointer (some ⟨rb, 0, none⟩), .int .i64 n, .slice a nn c] ρ (ringC rb db R w ++ (diskK db k D ++ X))
      (fun v ρ' L' => v = .int .i64 (R.cut n note D).2.2 ∧ ρ' = ρ ∧ (R.cut n note D).2.1 = D ∧ (R.cut n note D).1 = R ∧ L' = ringC rb db R w ++ (diskK db k D ++ X)) := by
  have hl := hb.len
  have hlen := h.len
  obtain ⟨ea, ecap, hev, _⟩ := h.own.len
  obtain ⟨wna, wnn, wnc, wev, els, sp⟩ := w
  dsimp only at hev hlen
  subst hev
  cases hbr : R.broken with
  | true =>
    have he : R.cut n note D = (R, D, 8) := by simp [RgS.cut, hbr]
    rw [he]
    have hw8 := works_spec ρ rb db R ⟨wna, wnn, wnc, .slice ea els.length ecap, els, sp⟩
    rw [hbr] at hw8
    simp only [if_true] at hw8
    refine spec_enter Try.func13 rfl rfl rfl fun u R0 => ?_
    simp only [argsE, List.cons_append, List.nil_append, List.append_assoc]
    repeat' (first | (refine tl_is (.func 41) ?_; refine qC rfl rfl (hw8) ?_; rintro v ρ' L' hle ⟨rfl, rfl, rfl⟩ <;> (try simp only [List.cons_append, List.nil_append, List.append_eq])) | (refine i_op ?_; first | (refine i_qq ?_; refine qQ ?_) | refine qEf ?_) | refine tl_nil ?_ | (refine i_tc ?_; refine qTc ?_) | (refine i_te ?_; refine qTe ?_) | intro _)
    exact qE (L' := ringC rb db R ⟨wna, wnn, wnc, .slice ea els.length ecap, els, sp⟩ ++ (diskK db k D ++ X)) ⟨rfl, rfl, trivial, trivial, rfl⟩
  | false =>
    have hw0 := works_spec ρ rb db R ⟨wna, wnn, wnc, .slice ea els.length ecap, els, sp⟩
    rw [hbr] at hw0
    simp only [Bool.false_eq_true, if_false] at hw0
    by_cases harg : n < 0 ∨ (R.ents.length : Int) < n ∨ R.h.turn = 1073741824
    · have he : R.cut n note D = (R, D, 2) := by unfold RgS.cut; rw [hbr, if_neg (by simp), if_pos harg]
      rw [he]
      by_cases h1 : n < 0
      · refine spec_enter Try.func13 rfl rfl rfl fun u R0 => ?_
        simp only [argsE, List.cons_append, List.nil_append, List.append_assoc]
        repeat' (first | (refine tl_is (.func 41) ?_; refine qC rfl rfl (hw0) ?_; rintro v ρ' L' hle ⟨rfl, rfl, rfl⟩ <;> (try simp only [List.cons_append, List.nil_append, List.append_eq])) | (refine i_op ?_; first | (refine i_qq ?_; refine qQ ?_) | refine qEf ?_) | refine tl_nil ?_ | (refine i_tc ?_; refine qTc ?_) | (refine i_te ?_; refine qTe ?_) | intro _)
        exact qE (L' := ringC rb db R ⟨wna, wnn, wnc, .slice ea els.length ecap, els, sp⟩ ++ (diskK db k D ++ X)) ⟨rfl, rfl, trivial, trivial, rfl⟩
      · by_cases h2 : (R.ents.length : Int) < n
        · refine spec_enter Try.func13 rfl rfl rfl fun u R0 => ?_
          simp only [argsE, List.cons_append, List.nil_append, List.append_assoc]
          repeat' (first | (refine tl_is (.func 41) ?_; refine qC rfl rfl (hw0) ?_; rintro v ρ' L' hle ⟨rfl, rfl, rfl⟩ <;> (try simp only [List.cons_append, List.nil_append, List.append_eq])) | (refine i_op ?_; first | (refine i_qq ?_; refine qQ ?_) | refine qEf ?_) | refine tl_nil ?_ | (refine i_tc ?_; refine qTc ?_) | (refine i_te ?_; refine qTe ?_) | intro _)
          exact qE (L' := ringC rb db R ⟨wna, wnn, wnc, .slice ea els.length ecap, els, sp⟩ ++ (diskK db k D ++ X)) ⟨rfl, rfl, trivial, trivial, rfl⟩
        · have h3 : R.h.turn = 1073741824 := by omega
          refine spec_enter Try.func13 rfl rfl rfl fun u R0 => ?_
          simp only [argsE, List.cons_append, List.nil_append, List.append_assoc]
          repeat' (first | (refine tl_is (.func 41) ?_; refine qC rfl rfl (hw0) ?_; rintro v ρ' L' hle ⟨rfl, rfl, rfl⟩ <;> (try simp only [List.cons_append, List.nil_append, List.append_eq])) | (refine i_op ?_; first | (refine i_qq ?_; refine qQ ?_) | refine qEf ?_) | refine tl_nil ?_ | (refine i_tc ?_; refine qTc ?_) | (refine i_te ?_; refine qTe ?_) | intro _)
          exact qE (L' := ringC rb db R ⟨wna, wnn, wnc, .slice ea els.length ecap, els, sp⟩ ++ (diskK db k D ++ X)) ⟨rfl, rfl, trivial, trivial, rfl⟩
    · have hlong : 32 < note.length := by
        rcases hbad with h | h | h
        · rw [hbr] at h; cases h
        · exact absurd h harg
        · exact h
      have hne : R.h.turn ≠ 1073741824 := fun e => harg (.inr (.inr e))
      have he : R.cut n note D = (R, D, 3) := by unfold RgS.cut; rw [hbr, if_neg (by simp), if_neg harg, if_pos hlong]
      rw [he]
      refine spec_enter Try.func13 rfl rfl rfl fun u R0 => ?_
      simp only [argsE, List.cons_append, List.nil_append, List.append_assoc]
      repeat' (first | (refine tl_is (.func 41) ?_; refine qC rfl rfl (hw0) ?_; rintro v ρ' L' hle ⟨rfl, rfl, rfl⟩ <;> (try simp only [List.cons_append, List.nil_append, List.append_eq])) | (refine i_op ?_; first | (refine i_qq ?_; refine qQ ?_) | refine qEf ?_) | refine tl_nil ?_ | (refine i_tc ?_; refine qTc ?_) | (refine i_te ?_; refine qTe ?_) | intro _)
      exact qE (L' := ringC rb db R ⟨wna, wnn, wnc, .slice ea els.length ecap, els, sp⟩ ++ (diskK db k D ++ X)) ⟨rfl, rfl, trivial, trivial, rfl⟩
end Go.Proofs.E

namespace Go.Proofs.E
open Go
set_option linter.unusedVariables false
set_option linter.unusedSimpArgs false
set_option linter.unusedSectionVars false
set_option maxRecDepth 4000
set_option maxHeartbeats 1000000
attribute [local irreducible] Yl TL TC TE Spec YSpec R1 Hp.le EnvLe TS TR YS Stays
theorem RIn.cutOk {ρ : Hp} {R : RgS} {w : RW} (h : RIn ρ R w) {n : Nat} {note : Bs} (hn : n ≤ R.ents.length) (ht : R.h.turn < 1073741824) (hnl : note.length ≤ 32) {e : BSl} (he : BIn ρ e) (hel : e.l = note) {v : Value} {sp : List Value} (ho : OwnS v (w.els.length - n) ((w.els.drop n).map slv) sp 1) :
    RIn ρ ⟨R.cutH n note, R.ents.drop n, R.used - usedL (R.ents.take n), false⟩ ⟨e.a, e.n, e.c, v, w.els.drop n, sp⟩ := by
  have hsz := h.ok.size
  have hlen := h.len
  have hus := h.ok.used
  have hft := h.ok.fit
  have htd := usedL_take_drop R.ents n
  have hnx := h.ok.next
  have hfi := h.ok.first
  have htu := h.ok.turn
  subst hel
  unfold RgS.next at hnx
  refine ⟨⟨⟨?_, ?_⟩, hsz, ?_, ?_, Nat.mod_lt _ (by omega), hnl, ?_, ?_, fun c hc => h.ok.long c (List.mem_of_mem_drop hc)⟩, he.s, he.le, by simpa using ho, ?_, fun x hx => h.els x (List.mem_of_mem_drop hx)⟩
  all_goals dsimp only [RgS.cutH, Hd.cut, RgS.next]
  any_goals simp only [List.length_drop]
  any_goals omega
  rw [h.ents, List.map_drop]
theorem cut_spec_main (ρ : Hp) (rb db : Nat) (R : RgS) (w : RW) (h : RIn ρ R w) (k : DK) (D : DS) (hD : DOk k D) (X : SH) (a : Option Addr) (nn c : Nat) (note : Bs) (hb : Rd ρ X a nn note) (m : Nat) (hbr : R.broken = false) (hm : m ≤ R.ents.length) (ht : R.h.turn < 1073741824) (hnl : note.length ≤ 32) :
    Spec Try.prog 13 [.pointer (some ⟨rb, 0, none⟩), .int .i64 m, .slice a nn c] ρ (ringC rb db R w ++ (diskK db k D ++ X))
      (fun v ρ' L' => v = .int .i64 (R.cut m note D).2.2 ∧ ρ.le ρ' ∧ ∃ k' w', DOk k' (R.cut m note D).2.1 ∧ RIn ρ' (R.cut m note D).1 w' ∧ L' = ringC rb db (R.cut m note D).1 w' ++ (diskK db k' (R.cut m note D).2.1 ++ X)) := by
  have hl := hb.len
  have hlen := h.len
  have hsz := h.ok.size
  have hus := h.ok.used
  have hft := h.ok.fit
  have hnx := h.ok.next
  have hfi := h.ok.first
  have hpl := h.ok.place
  have hul := usedL_len R.ents
  have htd := usedL_take_drop R.ents m
  have hsome : R.cut m note D = if (DS.lays (headL (R.cutH m note)) D).2 = 0 then (⟨R.cutH m note, R.ents.drop m, R.used - usedL (R.ents.take m), false⟩, DS.lays (headL (R.cutH m note)) D) else ({ R with broken := true }, DS.lays (headL (R.cutH m note)) D) := by
    unfold RgS.cut
    rw [hbr, if_neg (by simp), if_neg (by omega), if_neg (by omega)]
    simp only [Int.toNat_natCast]
  have e1 : (R.h.turn : Int) + 1 = ((R.cutH m note).turn : Int) := by simp [RgS.cutH, Hd.cut]
  have e2 : (R.h.first : Int) + (m : Int) = ((R.cutH m note).first : Int) := by simp [RgS.cutH, Hd.cut]
  have e3 : ((R.h.place : Int) + ((usedL (R.ents.take m) : Nat) : Int)).tmod (R.h.size : Int) = ((R.cutH m note).place : Int) := by
    rw [Int.tmod_eq_emod_of_nonneg (by omega)]; simp [RgS.cutH, Hd.cut]
  have hfj : (R.h.first : Int) + (m : Int) ≤ 1099511627776 := by unfold RgS.next at hnx; omega
  have e4 : (R.used : Int) - ((usedL (R.ents.take m) : Nat) : Int) = ((R.used - usedL (R.ents.take m) : Nat) : Int) := by omega
  have hcl : (R.cutH m note).turn < 4294967296 ∧ (R.cutH m note).first ≤ 1099511627776 ∧ (R.cutH m note).size < 65536 ∧ (R.cutH m note).place < 65536 := by
    have := Nat.mod_lt (R.h.place + usedL (R.ents.take m)) (show 0 < R.h.size by omega)
    dsimp only [RgS.cutH, Hd.cut]; omega
  have hw0 := works_spec ρ rb db R w
  rw [hbr] at hw0
  simp only [Bool.false_eq_true, if_false] at hw0
  have hall := fun {j : Nat} (hj : j < w.els.length) => h.at hj
  have hcutok := fun {ρ2 : Hp} (hle : ρ.le ρ2) {e : BSl} (he : BIn ρ2 e) (hel : e.l = note) {v : Value} {sp : List Value} ho => (h.mono hle).cutOk (v := v) (sp := sp) hm ht hnl he hel ho
  have hbrk := fun {ρ2 : Hp} (hle : ρ.le ρ2) => (h.mono hle).broken true
  rcases h.own.out with ⟨hev, h0, h1, h2⟩ | ⟨bx, cap, hev, g1, g2, g3⟩
  · obtain ⟨wna, wnn, wnc, wev, els, sp⟩ := w
    dsimp only at hev h0 h1 h2 hlen hcutok hbrk hw0 ⊢
    subst hev
    subst h2
    have hels : els = [] := List.eq_nil_of_length_eq_zero h0
    subst hels
    have hm0 : m = 0 := by simp at hlen; omega
    subst hm0
    simp only [ringC, ownC]
    refine spec_enter Try.func13 rfl rfl rfl fun u R0 => ?_
    simp only [argsE, List.cons_append, List.nil_append, List.append_assoc]
    repeat' (first | (refine tl_is (.func 41) ?_; refine qC rfl rfl (hw0) ?_; rintro v ρ' L' hle ⟨rfl, rfl, rfl⟩ <;> (try simp only [List.cons_append, List.nil_append, List.append_eq])) | (refine i_op ?_; first | (refine i_qq ?_; refine qQ ?_) | refine qEf ?_) | refine tl_nil ?_ | (refine i_tc ?_; refine qTc ?_) | (refine i_te ?_; refine qTe ?_) | intro _)
    refine tc_loop_g [(0, _), (1, _), (2, _), (6, _), (7, _), (47, _), (48, _)] (fun (ζ : (Nat)) => [(49, .int .i64 ζ), (8, .int .i64 (usedL (R.ents.take ζ) : Nat))]) (fun (ζ : (Nat)) => ρ') (fun (ζ : (Nat)) => []) (fun (ζ : (Nat)) => ζ = 0) (fun (ζ : (Nat)) => 0) (0) (rfl) ev_le ev_le rfl tk ?_
    rintro j hI
    try simp only [List.cons_append, List.nil_append, List.append_assoc, List.append_eq] at hI ⊢
    try dsimp only at hI ⊢
    subst hI
    repeat' (first | (refine i_op ?_; first | (refine i_qq ?_; refine qQ ?_) | refine qEf ?_) | refine tl_nil ?_ | (refine i_tc ?_; refine qTc ?_) | (refine i_te ?_; refine qTe ?_) | intro _)
    refine tc_any (Stays _ _ ([[(rb, .cells ⟨rgV R db ⟨wna, wnn, wnc, .slice none 0 0, [], []⟩⟩ 97 (0, 0))]])) (stays_of (hT := tk) (Hp.le_refl _)) ?_
    all_goals refine rMv 0 ?_
    all_goals refine rNc 1 ?_
    all_goals refine rFa 2 ?_
    all_goals refine rFa 3 ?_
    all_goals refine rLd 4 ?_
    all_goals refine rAd 5 ?_
    all_goals refine rMv 6 ?_
    all_goals refine rNc 7 ?_
    all_goals refine rFa 8 ?_
    all_goals refine rFa 9 ?_
    all_goals refine rLd 10 ?_
    all_goals refine rMv 11 ?_
    all_goals refine rCv 12 ?_
    all_goals refine rAd 13 ?_
    all_goals refine rMv 14 ?_
    all_goals refine rNc 15 ?_
    all_goals refine rFa 16 ?_
    all_goals refine rFa 17 ?_
    all_goals refine rLd 18 ?_
    all_goals refine rMv 19 ?_
    all_goals refine rNc 20 ?_
    all_goals refine rFa 21 ?_
    all_goals refine rFa 22 ?_
    all_goals refine rLd 23 ?_
    all_goals refine rMv 24 ?_
    all_goals refine rAd 25 ?_
    all_goals refine rMv 26 ?_
    all_goals refine rNc 27 ?_
    all_goals refine rFa 28 ?_
    all_goals refine rFa 29 ?_
    all_goals refine rLd 30 ?_
    all_goals refine rRm 31 ?_
    all_goals refine rMv 32 ?_
    all_goals (refine rStep2 (i := 33) (j := 35) ?_ ?_ <;> ((try refine qWant ?_); (first | (refine tl_is (.func 42) ?_; refine qC rfl rfl (cloneR_spec _ X a nn c note (hb.mono (by assumption)) (by omega)) ?_; rintro v7 ρ7 L7 hle7 ⟨hl7, e, rfl, he, hel, hen, rfl⟩; simp only [List.cons_append, List.nil_append]) | (refine qEf ?_; try intro _)) <;> ((try simp only [List.cons_append, List.nil_append, List.append_eq]); refine tl_nil ?_; refine rNext ?_)))
    all_goals (first | refine rBu 34 ?_ | (refine rStep (i := 33) ?_; ((try refine qWant ?_); (first | (refine tl_is (.func 42) ?_; refine qC rfl rfl (cloneR_spec _ X a nn c note (hb.mono (by assumption)) (by omega)) ?_; rintro v7 ρ7 L7 hle7 ⟨hl7, e, rfl, he, hel, hen, rfl⟩; simp only [List.cons_append, List.nil_append]) | (refine qEf ?_; try intro _)) <;> ((try simp only [List.cons_append, List.nil_append, List.append_eq]); refine tl_nil ?_; refine rNext ?_))))
    all_goals (first | (refine rStep (i := 35) ?_; ((try refine qWant ?_); (first | (refine qEf ?_; try intro _)) <;> ((try simp only [List.cons_append, List.nil_append, List.append_eq]); refine tl_nil ?_; refine rNext ?_))) | refine rBu 34 ?_)
    all_goals (refine rStep (i := 36) ?_; ((try refine qWant ?_); (first | (refine qEf ?_; try intro _)) <;> ((try simp only [List.cons_append, List.nil_append, List.append_eq]); refine tl_nil ?_; refine rNext ?_)))
    all_goals refine rDone ?_
    all_goals (repeat' (first | (refine i_op ?_; first | (refine i_qq ?_; refine qQ ?_) | refine qEf ?_) | refine tl_nil ?_ | (refine i_tc ?_; refine qTc ?_) | (refine i_te ?_; refine qTe ?_) | intro _))
    all_goals
      simp only [e1, e2, e3]
      rename_i bh
      have hls := laid_spec ρ7 (R.cutH 0 note) e.a e.n e.c (by have := he.s; rw [hel] at this; exact this) hcl.1 hcl.2.1 hcl.2.2.1 hcl.2.2.2 (by rw [hen]; omega) db k D hD
      refine tc_any (Stays _ _ ([[(bh, .cells ⟨hdV (R.cutH 0 note) e.a e.n e.c⟩ 95 (0, 0))], [(rb, .cells ⟨rgV R db ⟨wna, wnn, wnc, .slice none 0 0, [], []⟩⟩ 97 (0, 0))]])) (stays_of (hT := tk) (Hp.le_refl _)) ?_
      all_goals refine rLd 0 ?_
      all_goals refine rMv 1 ?_
      all_goals refine rNc 2 ?_
      all_goals refine rFa 3 ?_
      all_goals refine rLd 4 ?_
      all_goals (refine rStep (i := 5) ?_; ((try refine qWant ?_); (first | (refine tl_is (.func 43) ?_; refine qC rfl rfl hls ?_; rintro v8 ρ8 L8 hle8 ⟨rfl, hl8, k8, hD8, rfl⟩; try simp only [List.cons_append, List.nil_append, List.append_assoc]) | (refine qEf ?_; try intro _)) <;> ((try simp only [List.cons_append, List.nil_append, List.append_eq]); refine tl_nil ?_; refine rNext ?_)))
      all_goals refine rFull ?_
      all_goals refine rAs 6 ?_
      all_goals refine rDone ?_
      all_goals (repeat' (first | (refine i_op ?_; first | (refine i_qq ?_; refine qQ ?_) | refine qEf ?_) | refine tl_nil ?_ | (refine i_tc ?_; refine qTc ?_) | (refine i_te ?_; refine qTe ?_) | intro _))
      have hhe := fun (v : Value) (sp : List Value) ho => hcutok (Hp.le_trans hl7 hl8) (he.mono hl8) hel (v := v) (sp := sp) ho
      have hbk := hbrk (Hp.le_trans hl7 hl8)
      rw [hsome]
      generalize DS.lays (headL (R.cutH 0 note)) D = r at *
      obtain ⟨D', ec⟩ := r
      dsimp only at hD8 ⊢
      by_cases hz : ec = 0
      · subst hz
        rw [show ((0 : Int) != 0) = false from rfl, if_pos rfl]
        repeat' (first | (refine i_op ?_; first | (refine i_qq ?_; refine qQ ?_) | refine qEf ?_) | refine tl_nil ?_ | (refine i_tc ?_; refine qTc ?_) | (refine i_te ?_; refine qTe ?_) | intro _)
        refine tc_any (Stays _ _ ([[(bh, .cells ⟨hdV (R.cutH 0 note) e.a e.n e.c⟩ 95 (0, 0))]])) (stays_of (hT := tk) (Hp.le_refl _)) ?_
        all_goals refine rMv 0 ?_
        all_goals refine rMv 1 ?_
        all_goals refine rMv 2 ?_
        all_goals refine rLd 3 ?_
        all_goals refine rMv 4 ?_
        all_goals refine rNc 5 ?_
        all_goals refine rFa 6 ?_
        all_goals refine rMv 8 ?_
        all_goals refine rMv 11 ?_
        all_goals refine rNc 12 ?_
        all_goals refine rFa 13 ?_
        all_goals refine rMv 15 ?_
        all_goals (refine rStep2 (i := 7) (j := 14) ?_ ?_ <;> ((try refine qWant ?_); (first | (refine tl_is (.func 44) ?_; refine qC rfl rfl (clone2_nil _ _ _) ?_; rintro v9 ρ9 L9 hle9 ⟨rfl, rfl, rfl⟩; try simp only [List.cons_append, List.nil_append]) | (refine i_qq ?_; refine qQ ?_) | (refine qEf ?_; try intro _)) <;> ((try simp only [List.cons_append, List.nil_append, List.append_eq]); refine tl_nil ?_; refine rNext ?_)))
        all_goals (first | refine rSl 9 ?_ | refine rSb 16 ?_)
        all_goals (first | (refine rStep2 (i := 10) (j := 14) ?_ ?_ <;> ((try refine qWant ?_); (first | (refine tl_is (.func 44) ?_; refine qC rfl rfl (clone2_nil _ _ _) ?_; rintro v9 ρ9 L9 hle9 ⟨rfl, rfl, rfl⟩; try simp only [List.cons_append, List.nil_append]) | (refine i_qq ?_; refine qQ ?_) | (refine qEf ?_; try intro _)) <;> ((try simp only [List.cons_append, List.nil_append, List.append_eq]); refine tl_nil ?_; refine rNext ?_))) | (refine rStep (i := 7) ?_; ((try refine qWant ?_); (first | (refine tl_is (.func 44) ?_; refine qC rfl rfl (clone2_nil _ _ _) ?_; rintro v9 ρ9 L9 hle9 ⟨rfl, rfl, rfl⟩; try simp only [List.cons_append, List.nil_append]) | (refine i_qq ?_; refine qQ ?_) | (refine qEf ?_; try intro _)) <;> ((try simp only [List.cons_append, List.nil_append, List.append_eq]); refine tl_nil ?_; refine rNext ?_))))
        all_goals (first | (refine rStep (i := 14) ?_; ((try refine qWant ?_); (first | (refine tl_is (.func 44) ?_; refine qC rfl rfl (clone2_nil _ _ _) ?_; rintro v9 ρ9 L9 hle9 ⟨rfl, rfl, rfl⟩; try simp only [List.cons_append, List.nil_append]) | (refine i_qq ?_; refine qQ ?_) | (refine qEf ?_; try intro _)) <;> ((try simp only [List.cons_append, List.nil_append, List.append_eq]); refine tl_nil ?_; refine rNext ?_))) | refine rSb 16 ?_ | refine rSl 9 ?_)
        all_goals (first | refine rSb 16 ?_ | (refine rStep (i := 10) ?_; ((try refine qWant ?_); (first | (refine tl_is (.func 44) ?_; refine qC rfl rfl (clone2_nil _ _ _) ?_; rintro v9 ρ9 L9 hle9 ⟨rfl, rfl, rfl⟩; try simp only [List.cons_append, List.nil_append]) | (refine i_qq ?_; refine qQ ?_) | (refine qEf ?_; try intro _)) <;> ((try simp only [List.cons_append, List.nil_append, List.append_eq]); refine tl_nil ?_; refine rNext ?_))))
        all_goals refine rNc 17 ?_
        all_goals refine rFa 18 ?_
        all_goals (refine rStep (i := 19) ?_; ((try refine qWant ?_); (first | (refine i_qq ?_; refine qQ ?_) | (refine qEf ?_; try intro _)) <;> ((try simp only [List.cons_append, List.nil_append, List.append_eq]); refine tl_nil ?_; refine rNext ?_)))
        all_goals refine rNc 20 ?_
        all_goals refine rFa 21 ?_
        all_goals (refine rStep (i := 22) ?_; ((try refine qWant ?_); (first | (refine i_qq ?_; refine qQ ?_) | (refine qEf ?_; try intro _)) <;> ((try simp only [List.cons_append, List.nil_append, List.append_eq]); refine tl_nil ?_; refine rNext ?_)))
        all_goals refine rNc 23 ?_
        all_goals refine rFa 24 ?_
        all_goals (refine rStep (i := 25) ?_; ((try refine qWant ?_); (first | (refine i_qq ?_; refine qQ ?_) | (refine qEf ?_; try intro _)) <;> ((try simp only [List.cons_append, List.nil_append, List.append_eq]); refine tl_nil ?_; refine rNext ?_)))
        all_goals refine rDone ?_
        all_goals (repeat' (first | (refine i_op ?_; first | (refine i_qq ?_; refine qQ ?_) | refine qEf ?_) | refine tl_nil ?_ | (refine i_tc ?_; refine qTc ?_) | (refine i_te ?_; refine qTe ?_) | intro _))
        all_goals simp only [e4]
        all_goals exact qE (L' := ringC rb db ⟨R.cutH 0 note, R.ents.drop 0, R.used - usedL (R.ents.take 0), false⟩ ⟨e.a, e.n, e.c, .slice none 0 0, [].drop 0, []⟩ ++ (diskK db k8 D' ++ L7)) ⟨rfl, Hp.le_trans hl7 hl8, k8, _, hD8, hhe _ [] (OwnS.nil 1), rfl⟩
      · have hcb : (ec != 0) = true := by simpa using hz
        rw [hcb, if_neg hz]
        repeat' (first | (refine i_op ?_; first | (refine i_qq ?_; refine qQ ?_) | refine qEf ?_) | refine tl_nil ?_ | (refine i_tc ?_; refine qTc ?_) | (refine i_te ?_; refine qTe ?_) | intro _)
        exact qE (L' := ringC rb db { R with broken := true } ⟨wna, wnn, wnc, .slice none 0 0, [], []⟩ ++ (diskK db k8 D' ++ L7)) ⟨rfl, Hp.le_trans hl7 hl8, k8, _, hD8, hbk, rfl⟩
  · obtain ⟨wna, wnn, wnc, wev, els, sp⟩ := w
    dsimp only at hev g1 g2 g3 hlen hall hcutok hbrk hw0 ⊢
    subst hev
    simp only [ringC, ownC]
    refine spec_enter Try.func13 rfl rfl rfl fun u R0 => ?_
    simp only [argsE, List.cons_append, List.nil_append, List.append_assoc]
    repeat' (first | (refine tl_is (.func 41) ?_; refine qC rfl rfl (hw0) ?_; rintro v ρ' L' hle ⟨rfl, rfl, rfl⟩ <;> (try simp only [List.cons_append, List.nil_append, List.append_eq])) | (refine i_op ?_; first | (refine i_qq ?_; refine qQ ?_) | refine qEf ?_) | refine tl_nil ?_ | (refine i_tc ?_; refine qTc ?_) | (refine i_te ?_; refine qTe ?_) | intro _)
    refine tc_loop_g [(0, _), (1, _), (2, _), (6, _), (7, _), (47, _), (48, _)] (fun (ζ : (Nat)) => [(49, .int .i64 ζ), (8, .int .i64 (usedL (R.ents.take ζ) : Nat))]) (fun (ζ : (Nat)) => ρ') (fun (ζ : (Nat)) => [[(bx, .cells ⟨els.map slv ++ sp⟩ 30 (0, 0))]]) (fun (ζ : (Nat)) => ζ ≤ m) (fun (ζ : (Nat)) => m - ζ) (0) (Nat.zero_le _) ev_le ev_le rfl tk ?_
    rintro j hI
    try simp only [List.cons_append, List.nil_append, List.append_assoc, List.append_eq] at hI ⊢
    try dsimp only at hI ⊢
    by_cases hlt : j < m
    · obtain ⟨q1, q2, q3⟩ := hall (show j < els.length by omega)
      have hts := usedL_take_succ R.ents j (by omega)
      have hq2 := q2.s.len
      have hget : (els.map slv ++ sp)[0 + j * 1]? = some (slv els[j]) := by
        rw [Nat.zero_add, Nat.mul_one, List.getElem?_append_left (by simp; omega)]; simp [show j < els.length by omega]
      have hle : usedL (R.ents.take j) ≤ usedL R.ents := by have := usedL_take_drop R.ents j; omega
      have hsc := sects_le q3
      rw [← q1, hq2] at hts
      repeat' (first | (refine tl_is (.func 12) ?_; refine qC rfl rfl (sects_nat _ (els[j]).n (by omega)) ?_; rintro v ρ' L' hle ⟨rfl, rfl, rfl⟩ <;> (try simp only [List.cons_append, List.nil_append, List.append_eq])) | (refine i_op ?_; first | (refine i_qq ?_; refine qQ ?_) | refine qEf ?_) | refine tl_nil ?_ | (refine i_tc ?_; refine qTc ?_) | (refine i_te ?_; refine qTe ?_) | intro _)
      rw [show ((usedL (R.ents.take j) : Nat) : Int) + ((sects (els[j]).n : Nat) : Int) = ((usedL (R.ents.take (j + 1)) : Nat) : Int) by rw [hts]; omega]
      refine te_round_g (j + 1) (hlt) ev_le ev_le rfl tk inferInstance (by first | omega | (dsimp only; omega))
    · have hjm : j = m := by omega
      subst hjm
      repeat' (first | (refine i_op ?_; first | (refine i_qq ?_; refine qQ ?_) | refine qEf ?_) | refine tl_nil ?_ | (refine i_tc ?_; refine qTc ?_) | (refine i_te ?_; refine qTe ?_) | intro _)
      refine tc_any (Stays _ _ ([[(rb, .cells ⟨rgV R db ⟨wna, wnn, wnc, .slice (some ⟨bx, 0, none⟩) els.length cap, els, sp⟩⟩ 97 (0, 0))]])) (stays_of (hT := tk) (Hp.le_refl _)) ?_
      all_goals refine rMv 0 ?_
      all_goals refine rNc 1 ?_
      all_goals refine rFa 2 ?_
      all_goals refine rFa 3 ?_
      all_goals refine rLd 4 ?_
      all_goals refine rAd 5 ?_
      all_goals refine rMv 6 ?_
      all_goals refine rNc 7 ?_
      all_goals refine rFa 8 ?_
      all_goals refine rFa 9 ?_
      all_goals refine rLd 10 ?_
      all_goals refine rMv 11 ?_
      all_goals refine rCv 12 ?_
      all_goals refine rAd 13 ?_
      all_goals refine rMv 14 ?_
      all_goals refine rNc 15 ?_
      all_goals refine rFa 16 ?_
      all_goals refine rFa 17 ?_
      all_goals refine rLd 18 ?_
      all_goals refine rMv 19 ?_
      all_goals refine rNc 20 ?_
      all_goals refine rFa 21 ?_
      all_goals refine rFa 22 ?_
      all_goals refine rLd 23 ?_
      all_goals refine rMv 24 ?_
      all_goals refine rAd 25 ?_
      all_goals refine rMv 26 ?_
      all_goals refine rNc 27 ?_
      all_goals refine rFa 28 ?_
      all_goals refine rFa 29 ?_
      all_goals refine rLd 30 ?_
      all_goals refine rRm 31 ?_
      all_goals refine rMv 32 ?_
      all_goals (refine rStep2 (i := 33) (j := 35) ?_ ?_ <;> ((try refine qWant ?_); (first | (refine tl_is (.func 42) ?_; refine qC rfl rfl (cloneR_spec _ X a nn c note (hb.mono (by assumption)) (by omega)) ?_; rintro v7 ρ7 L7 hle7 ⟨hl7, e, rfl, he, hel, hen, rfl⟩; simp only [List.cons_append, List.nil_append]) | (refine qEf ?_; try intro _)) <;> ((try simp only [List.cons_append, List.nil_append, List.append_eq]); refine tl_nil ?_; refine rNext ?_)))
      all_goals (first | refine rBu 34 ?_ | (refine rStep (i := 33) ?_; ((try refine qWant ?_); (first | (refine tl_is (.func 42) ?_; refine qC rfl rfl (cloneR_spec _ X a nn c note (hb.mono (by assumption)) (by omega)) ?_; rintro v7 ρ7 L7 hle7 ⟨hl7, e, rfl, he, hel, hen, rfl⟩; simp only [List.cons_append, List.nil_append]) | (refine qEf ?_; try intro _)) <;> ((try simp only [List.cons_append, List.nil_append, List.append_eq]); refine tl_nil ?_; refine rNext ?_))))
      all_goals (first | (refine rStep (i := 35) ?_; ((try refine qWant ?_); (first | (refine qEf ?_; try intro _)) <;> ((try simp only [List.cons_append, List.nil_append, List.append_eq]); refine tl_nil ?_; refine rNext ?_))) | refine rBu 34 ?_)
      all_goals (refine rStep (i := 36) ?_; ((try refine qWant ?_); (first | (refine qEf ?_; try intro _)) <;> ((try simp only [List.cons_append, List.nil_append, List.append_eq]); refine tl_nil ?_; refine rNext ?_)))
      all_goals refine rDone ?_
      all_goals (repeat' (first | (refine i_op ?_; first | (refine i_qq ?_; refine qQ ?_) | refine qEf ?_) | refine tl_nil ?_ | (refine i_tc ?_; refine qTc ?_) | (refine i_te ?_; refine qTe ?_) | intro _))
      all_goals
        simp only [e1, e2, e3]
        rename_i bh
        have hls := laid_spec ρ7 (R.cutH j note) e.a e.n e.c (by have := he.s; rw [hel] at this; exact this) hcl.1 hcl.2.1 hcl.2.2.1 hcl.2.2.2 (by rw [hen]; omega) db k D hD
        refine tc_any (Stays _ _ ([[(bh, .cells ⟨hdV (R.cutH j note) e.a e.n e.c⟩ 95 (0, 0))], [(rb, .cells ⟨rgV R db ⟨wna, wnn, wnc, .slice (some ⟨bx, 0, none⟩) els.length cap, els, sp⟩⟩ 97 (0, 0))]])) (stays_of (hT := tk) (Hp.le_refl _)) ?_
        all_goals refine rLd 0 ?_
        all_goals refine rMv 1 ?_
        all_goals refine rNc 2 ?_
        all_goals refine rFa 3 ?_
        all_goals refine rLd 4 ?_
        all_goals (refine rStep (i := 5) ?_; ((try refine qWant ?_); (first | (refine tl_is (.func 43) ?_; refine qC rfl rfl hls ?_; rintro v8 ρ8 L8 hle8 ⟨rfl, hl8, k8, hD8, rfl⟩; try simp only [List.cons_append, List.nil_append, List.append_assoc]) | (refine qEf ?_; try intro _)) <;> ((try simp only [List.cons_append, List.nil_append, List.append_eq]); refine tl_nil ?_; refine rNext ?_)))
        all_goals refine rFull ?_
        all_goals refine rAs 6 ?_
        all_goals refine rDone ?_
        all_goals (repeat' (first | (refine i_op ?_; first | (refine i_qq ?_; refine qQ ?_) | refine qEf ?_) | refine tl_nil ?_ | (refine i_tc ?_; refine qTc ?_) | (refine i_te ?_; refine qTe ?_) | intro _))
        have hhe := fun (v : Value) (sp : List Value) ho => hcutok (Hp.le_trans hl7 hl8) (he.mono hl8) hel (v := v) (sp := sp) ho
        have hbk := hbrk (Hp.le_trans hl7 hl8)
        rw [hsome]
        generalize DS.lays (headL (R.cutH j note)) D = r at *
        obtain ⟨D', ec⟩ := r
        dsimp only at hD8 ⊢
        by_cases hz : ec = 0
        · subst hz
          rw [show ((0 : Int) != 0) = false from rfl, if_pos rfl]
          repeat' (first | (refine i_op ?_; first | (refine i_qq ?_; refine qQ ?_) | refine qEf ?_) | refine tl_nil ?_ | (refine i_tc ?_; refine qTc ?_) | (refine i_te ?_; refine qTe ?_) | intro _)
          obtain ⟨off, hval, hxx⟩ : ∃ off, (if cap = j then some (⟨bx, 0, none⟩ : Addr) else some ⟨bx, 0 + j * 1, none⟩) = some ⟨bx, off, none⟩ ∧ ((els.map slv ++ sp).drop off).take (els.length - j) = (els.drop j).map slv := by
            by_cases hcap : cap = j
            · refine ⟨0, by rw [if_pos hcap], ?_⟩
              have : els.length - j = 0 := by omega
              have h2 : els.drop j = [] := List.drop_eq_nil_of_le (by omega)
              rw [this, h2]; simp
            · refine ⟨j, by rw [if_neg hcap]; simp, ?_⟩
              rw [List.drop_append_of_le_length (by simp; omega), List.take_append_of_le_length (by simp), List.take_of_length_le (by simp), List.map_drop]
          refine tc_any (Stays _ _ ([[(bh, .cells ⟨hdV (R.cutH j note) e.a e.n e.c⟩ 95 (0, 0))]])) (stays_of (hT := tk) (Hp.le_refl _)) ?_
          all_goals refine rMv 0 ?_
          all_goals refine rMv 1 ?_
          all_goals refine rMv 2 ?_
          all_goals refine rLd 3 ?_
          all_goals refine rMv 4 ?_
          all_goals refine rNc 5 ?_
          all_goals refine rFa 6 ?_
          all_goals refine rMv 8 ?_
          all_goals refine rMv 11 ?_
          all_goals refine rNc 12 ?_
          all_goals refine rFa 13 ?_
          all_goals refine rMv 15 ?_
          all_goals (refine rStep2 (i := 7) (j := 14) ?_ ?_ <;> ((try refine qWant ?_); (first | (simp only [Int.toNat_natCast, Option.map_some, addr_add, hval]; refine tl_is (.func 44) ?_; refine qC rfl rfl (clone2_spec _ _ (els.length - j) _ off 30 (els.map slv ++ sp) sp _ bx cap (els.drop j) (by omega) (by simp) rfl rfl hxx) ?_; rintro v9 ρ9 L9 hle9 ⟨rfl, sp9, hown9, rfl⟩; obtain ⟨a9, c9, rfl, _⟩ := hown9.slice; simp only [List.cons_append, List.nil_append]) | (refine i_qq ?_; refine qQ ?_) | (refine qEf ?_; try intro _)) <;> ((try simp only [List.cons_append, List.nil_append, List.append_eq]); refine tl_nil ?_; refine rNext ?_)))
          all_goals (first | refine rSl 9 ?_ | refine rSb 16 ?_)
          all_goals (first | (refine rStep2 (i := 10) (j := 14) ?_ ?_ <;> ((try refine qWant ?_); (first | (simp only [Int.toNat_natCast, Option.map_some, addr_add, hval]; refine tl_is (.func 44) ?_; refine qC rfl rfl (clone2_spec _ _ (els.length - j) _ off 30 (els.map slv ++ sp) sp _ bx cap (els.drop j) (by omega) (by simp) rfl rfl hxx) ?_; rintro v9 ρ9 L9 hle9 ⟨rfl, sp9, hown9, rfl⟩; obtain ⟨a9, c9, rfl, _⟩ := hown9.slice; simp only [List.cons_append, List.nil_append]) | (refine i_qq ?_; refine qQ ?_) | (refine qEf ?_; try intro _)) <;> ((try simp only [List.cons_append, List.nil_append, List.append_eq]); refine tl_nil ?_; refine rNext ?_))) | (refine rStep (i := 7) ?_; ((try refine qWant ?_); (first | (simp only [Int.toNat_natCast, Option.map_some, addr_add, hval]; refine tl_is (.func 44) ?_; refine qC rfl rfl (clone2_spec _ _ (els.length - j) _ off 30 (els.map slv ++ sp) sp _ bx cap (els.drop j) (by omega) (by simp) rfl rfl hxx) ?_; rintro v9 ρ9 L9 hle9 ⟨rfl, sp9, hown9, rfl⟩; obtain ⟨a9, c9, rfl, _⟩ := hown9.slice; simp only [List.cons_append, List.nil_append]) | (refine i_qq ?_; refine qQ ?_) | (refine qEf ?_; try intro _)) <;> ((try simp only [List.cons_append, List.nil_append, List.append_eq]); refine tl_nil ?_; refine rNext ?_))))
          all_goals (first | (refine rStep (i := 14) ?_; ((try refine qWant ?_); (first | (simp only [Int.toNat_natCast, Option.map_some, addr_add, hval]; refine tl_is (.func 44) ?_; refine qC rfl rfl (clone2_spec _ _ (els.length - j) _ off 30 (els.map slv ++ sp) sp _ bx cap (els.drop j) (by omega) (by simp) rfl rfl hxx) ?_; rintro v9 ρ9 L9 hle9 ⟨rfl, sp9, hown9, rfl⟩; obtain ⟨a9, c9, rfl, _⟩ := hown9.slice; simp only [List.cons_append, List.nil_append]) | (refine i_qq ?_; refine qQ ?_) | (refine qEf ?_; try intro _)) <;> ((try simp only [List.cons_append, List.nil_append, List.append_eq]); refine tl_nil ?_; refine rNext ?_))) | refine rSb 16 ?_ | refine rSl 9 ?_)
          all_goals (first | refine rSb 16 ?_ | (refine rStep (i := 10) ?_; ((try refine qWant ?_); (first | (simp only [Int.toNat_natCast, Option.map_some, addr_add, hval]; refine tl_is (.func 44) ?_; refine qC rfl rfl (clone2_spec _ _ (els.length - j) _ off 30 (els.map slv ++ sp) sp _ bx cap (els.drop j) (by omega) (by simp) rfl rfl hxx) ?_; rintro v9 ρ9 L9 hle9 ⟨rfl, sp9, hown9, rfl⟩; obtain ⟨a9, c9, rfl, _⟩ := hown9.slice; simp only [List.cons_append, List.nil_append]) | (refine i_qq ?_; refine qQ ?_) | (refine qEf ?_; try intro _)) <;> ((try simp only [List.cons_append, List.nil_append, List.append_eq]); refine tl_nil ?_; refine rNext ?_))))
          all_goals refine rNc 17 ?_
          all_goals refine rFa 18 ?_
          all_goals (refine rStep (i := 19) ?_; ((try refine qWant ?_); (first | (refine i_qq ?_; refine qQ ?_) | (refine qEf ?_; try intro _)) <;> ((try simp only [List.cons_append, List.nil_append, List.append_eq]); refine tl_nil ?_; refine rNext ?_)))
          all_goals refine rNc 20 ?_
          all_goals refine rFa 21 ?_
          all_goals (refine rStep (i := 22) ?_; ((try refine qWant ?_); (first | (refine i_qq ?_; refine qQ ?_) | (refine qEf ?_; try intro _)) <;> ((try simp only [List.cons_append, List.nil_append, List.append_eq]); refine tl_nil ?_; refine rNext ?_)))
          all_goals refine rNc 23 ?_
          all_goals refine rFa 24 ?_
          all_goals (refine rStep (i := 25) ?_; ((try refine qWant ?_); (first | (refine i_qq ?_; refine qQ ?_) | (refine qEf ?_; try intro _)) <;> ((try simp only [List.cons_append, List.nil_append, List.append_eq]); refine tl_nil ?_; refine rNext ?_)))
          all_goals refine rDone ?_
          all_goals (repeat' (first | (refine i_op ?_; first | (refine i_qq ?_; refine qQ ?_) | refine qEf ?_) | refine tl_nil ?_ | (refine i_tc ?_; refine qTc ?_) | (refine i_te ?_; refine qTe ?_) | intro _))
          all_goals simp only [e4]
          all_goals exact qE (L' := ringC rb db ⟨R.cutH j note, R.ents.drop j, R.used - usedL (R.ents.take j), false⟩ ⟨e.a, e.n, e.c, _, els.drop j, sp9⟩ ++ (diskK db k8 D' ++ L7)) ⟨rfl, Hp.le_trans hl7 hl8, k8, _, hD8, hhe _ sp9 hown9, rfl⟩
        · have hcb : (ec != 0) = true := by simpa using hz
          rw [hcb, if_neg hz]
          repeat' (first | (refine i_op ?_; first | (refine i_qq ?_; refine qQ ?_) | refine qEf ?_) | refine tl_nil ?_ | (refine i_tc ?_; refine qTc ?_) | (refine i_te ?_; refine qTe ?_) | intro _)
          exact qE (L' := ringC rb db { R with broken := true } ⟨wna, wnn, wnc, .slice (some ⟨bx, 0, none⟩) els.length cap, els, sp⟩ ++ (diskK db k8 D' ++ L7)) ⟨rfl, Hp.le_trans hl7 hl8, k8, _, hD8, hbk, rfl⟩
end Go.Proofs.E

namespace Go.Proofs.E
open Go
set_option linter.unusedVariables false
set_option linter.unusedSimpArgs false
set_option linter.unusedSectionVars false
set_option maxRecDepth 4000
set_option maxHeartbeats 1000000
attribute [local irreducible] Yl TL TC TE Spec YSpec R1 Hp.le EnvLe TS TR YS Stays
theorem format_nil (ρ : Hp) (size : Int) : Spec Try.prog 39 [.pointer none, .int .i64 size] ρ [] (fun v ρ' L' => v = .tuple ⟨[.pointer none, .int .i64 1]⟩ ∧ ρ' = ρ ∧ L' = []) := by
  refine spec_enter Try.func39 rfl rfl rfl fun u R => ?_
  simp only [argsE, List.cons_append, List.nil_append]
  repeat' (first | (refine i_op ?_; first | (refine i_qq ?_; refine qQ ?_) | refine qEf ?_) | refine tl_nil ?_ | (refine i_tc ?_; refine qTc ?_) | (refine i_te ?_; refine qTe ?_) | intro _)
  exact qE ⟨rfl, rfl, rfl⟩
theorem noughtsL_64 {n : Nat} : ∀ p ∈ noughtsL n, p.2.length = 64 := fun p hp => by
  simp only [noughtsL, List.mem_map] at hp
  obtain ⟨k, _, rfl⟩ := hp; rfl
theorem fresh_rok {n : Nat} (h0 : 4 ≤ n) (h1 : n ≤ 1000) : RgS.Ok ⟨freshH n, [], 0, false⟩ :=
  ⟨by simp [freshH], ⟨h0, h1⟩, by simp [freshH], by simp [RgS.next, freshH], by simp only [freshH]; omega, by simp [freshH], rfl, Nat.zero_le _, by simp⟩
theorem fresh_rin {ρ : Hp} {n : Nat} (h0 : 4 ≤ n) (h1 : n ≤ 1000) : RIn ρ ⟨freshH n, [], 0, false⟩ ⟨none, 0, 0, .slice none 0 0, [], []⟩ :=
  ⟨fresh_rok h0 h1, SIn.nil, Nat.le_refl _, OwnS.nil 1, rfl, by simp⟩
/-- what a call that makes a ring answers -/
def ringAns (ρ' : Hp) (db : Nat) (r : Option RgS × DS × Int) (v : Value) (L' : SH) : Prop :=
  ∃ k', DOk k' r.2.1 ∧ match r.1 with
    | none => v = .tuple ⟨[.pointer none, .int .i64 r.2.2]⟩ ∧ L' = diskK db k' r.2.1
    | some R => ∃ rb w, v = .tuple ⟨[.pointer (some ⟨rb, 0, none⟩), .int .i64 0]⟩ ∧ RIn ρ' R w ∧ L' = ringC rb db R w ++ diskK db k' r.2.1
theorem format_spec (ρ : Hp) (db : Nat) (k : DK) (D : DS) (hD : DOk k D) (size : Int) (hs : -9223372036854775808 ≤ size ∧ size ≤ 9223372036854775807) :
    Spec Try.prog 39 [.pointer (some ⟨db, 0, none⟩), .int .i64 size] ρ (diskK db k D) (fun v ρ' L' => ρ.le ρ' ∧ ringAns ρ' db (formatR size D) v L') := by
  by_cases h1 : size < 4
  · have he : formatR size D = (none, D, 2) := by unfold formatR; rw [if_pos (.inl h1)]
    rw [he]
    refine spec_enter Try.func39 rfl rfl rfl fun u R => ?_
    simp only [argsE, List.cons_append, List.nil_append]
    repeat' (first | (refine i_op ?_; first | (refine i_qq ?_; refine qQ ?_) | refine qEf ?_) | refine tl_nil ?_ | (refine i_tc ?_; refine qTc ?_) | (refine i_te ?_; refine qTe ?_) | intro _)
    rename_i b3
    refine tc_any (Stays _ _ ([[(b3, .cells ⟨[.int .i64 size]⟩ 3 (0, 0))]])) (stays_of (hT := tk) (Hp.le_refl _)) ?_
    all_goals refine rLd 0 ?_
    all_goals refine rCm 1 ?_
    all_goals refine rMv 2 ?_
    all_goals (first | refine wSkip 3 ?_ | refine wSkipU 3 ?_ | refine wLd 3 ?_ | (refine tr_guard (t := 12) rfl (fun hb => ?_) (fun hb => ?_) <;> (try simp only [decide_eq_true_eq, decide_eq_false_iff_not, Bool.not_eq_true, Bool.not_eq_false, beq_iff_eq, bne_iff_ne, ne_eq, Bool.not_eq_eq_eq_not, Bool.not_true, Bool.not_false, beq_eq_false_iff_ne, bne_eq_false_iff_eq] at hb) <;> first | refine wSkip 3 ?_ | refine wSkipU 3 ?_ | refine wLd 3 ?_))
    all_goals (first | refine wSkip 4 ?_ | refine wSkipU 4 ?_ | refine wCm 4 ?_ | (refine tr_guard (t := 12) rfl (fun hb => ?_) (fun hb => ?_) <;> (try simp only [decide_eq_true_eq, decide_eq_false_iff_not, Bool.not_eq_true, Bool.not_eq_false, beq_iff_eq, bne_iff_ne, ne_eq, Bool.not_eq_eq_eq_not, Bool.not_true, Bool.not_false, beq_eq_false_iff_ne, bne_eq_false_iff_eq] at hb) <;> first | refine wSkip 4 ?_ | refine wSkipU 4 ?_ | refine wCm 4 ?_))
    all_goals refine rPk 5 ?_
    all_goals refine rMv 6 ?_
    all_goals (first | refine wSkip 7 ?_ | refine wSkipU 7 ?_ | refine wMv 7 ?_ | (refine tr_guard (t := 16) rfl (fun hb => ?_) (fun hb => ?_) <;> (try simp only [decide_eq_true_eq, decide_eq_false_iff_not, Bool.not_eq_true, Bool.not_eq_false, beq_iff_eq, bne_iff_ne, ne_eq, Bool.not_eq_eq_eq_not, Bool.not_true, Bool.not_false, beq_eq_false_iff_ne, bne_eq_false_iff_eq] at hb) <;> first | refine wSkip 7 ?_ | refine wSkipU 7 ?_ | refine wMv 7 ?_))
    all_goals (first | refine wSkip 9 ?_ | refine wSkipU 9 ?_ | refine wLd 9 ?_ | (refine tr_guard (t := 16) rfl (fun hb => ?_) (fun hb => ?_) <;> (try simp only [decide_eq_true_eq, decide_eq_false_iff_not, Bool.not_eq_true, Bool.not_eq_false, beq_iff_eq, bne_iff_ne, ne_eq, Bool.not_eq_eq_eq_not, Bool.not_true, Bool.not_false, beq_eq_false_iff_ne, bne_eq_false_iff_eq] at hb) <;> first | refine wSkip 9 ?_ | refine wSkipU 9 ?_ | refine wLd 9 ?_))
    all_goals (first | refine wSkip 10 ?_ | refine wSkipU 10 ?_ | refine wAd 10 ?_ | (refine tr_guard (t := 16) rfl (fun hb => ?_) (fun hb => ?_) <;> (try simp only [decide_eq_true_eq, decide_eq_false_iff_not, Bool.not_eq_true, Bool.not_eq_false, beq_iff_eq, bne_iff_ne, ne_eq, Bool.not_eq_eq_eq_not, Bool.not_true, Bool.not_false, beq_eq_false_iff_ne, bne_eq_false_iff_eq] at hb) <;> first | refine wSkip 10 ?_ | refine wSkipU 10 ?_ | refine wAd 10 ?_))
    all_goals (first | refine wSkip 8 ?_ | refine wSkipU 8 ?_ | (refine rStep (i := 8) ?_; ((try refine qWant ?_); (first | (refine tl_is (.func 53) ?_; refine qC rfl rfl (klen _ db k D) ?_; rintro v ρ' L' hle ⟨rfl, rfl, rfl⟩ <;> (try simp only [List.cons_append, List.nil_append, List.append_eq])) | (refine qEf ?_; try intro _)) <;> ((try simp only [List.cons_append, List.nil_append, List.append_eq]); refine tl_nil ?_; refine rNext ?_))))
    all_goals refine rFull ?_
    all_goals (first | refine wSkip 11 ?_ | refine wSkipU 11 ?_ | refine wCm 11 ?_ | (refine tr_guard (t := 16) rfl (fun hb => ?_) (fun hb => ?_) <;> (try simp only [decide_eq_true_eq, decide_eq_false_iff_not, Bool.not_eq_true, Bool.not_eq_false, beq_iff_eq, bne_iff_ne, ne_eq, Bool.not_eq_eq_eq_not, Bool.not_true, Bool.not_false, beq_eq_false_iff_ne, bne_eq_false_iff_eq] at hb) <;> first | refine wSkip 11 ?_ | refine wSkipU 11 ?_ | refine wCm 11 ?_))
    all_goals refine rPk 12 ?_
    all_goals refine rDone ?_
    all_goals (repeat' (first | (refine i_op ?_; first | (refine i_qq ?_; refine qQ ?_) | refine qEf ?_) | refine tl_nil ?_ | (refine i_tc ?_; refine qTc ?_) | (refine i_te ?_; refine qTe ?_) | intro _))
    all_goals exact qE ⟨Hp.le_refl _, k, hD, rfl, rfl⟩
  · by_cases h2 : 1000 < size
    · have he : formatR size D = (none, D, 2) := by unfold formatR; rw [if_pos (.inr (.inl h2))]
      rw [he]
      refine spec_enter Try.func39 rfl rfl rfl fun u R => ?_
      simp only [argsE, List.cons_append, List.nil_append]
      repeat' (first | (refine i_op ?_; first | (refine i_qq ?_; refine qQ ?_) | refine qEf ?_) | refine tl_nil ?_ | (refine i_tc ?_; refine qTc ?_) | (refine i_te ?_; refine qTe ?_) | intro _)
      rename_i b3
      refine tc_any (Stays _ _ ([[(b3, .cells ⟨[.int .i64 size]⟩ 3 (0, 0))]])) (stays_of (hT := tk) (Hp.le_refl _)) ?_
      all_goals refine rLd 0 ?_
      all_goals refine rCm 1 ?_
      all_goals refine rMv 2 ?_
      all_goals (first | refine wSkip 3 ?_ | refine wSkipU 3 ?_ | refine wLd 3 ?_ | (refine tr_guard (t := 12) rfl (fun hb => ?_) (fun hb => ?_) <;> (try simp only [decide_eq_true_eq, decide_eq_false_iff_not, Bool.not_eq_true, Bool.not_eq_false, beq_iff_eq, bne_iff_ne, ne_eq, Bool.not_eq_eq_eq_not, Bool.not_true, Bool.not_false, beq_eq_false_iff_ne, bne_eq_false_iff_eq] at hb) <;> first | refine wSkip 3 ?_ | refine wSkipU 3 ?_ | refine wLd 3 ?_))
      all_goals (first | refine wSkip 4 ?_ | refine wSkipU 4 ?_ | refine wCm 4 ?_ | (refine tr_guard (t := 12) rfl (fun hb => ?_) (fun hb => ?_) <;> (try simp only [decide_eq_true_eq, decide_eq_false_iff_not, Bool.not_eq_true, Bool.not_eq_false, beq_iff_eq, bne_iff_ne, ne_eq, Bool.not_eq_eq_eq_not, Bool.not_true, Bool.not_false, beq_eq_false_iff_ne, bne_eq_false_iff_eq] at hb) <;> first | refine wSkip 4 ?_ | refine wSkipU 4 ?_ | refine wCm 4 ?_))
      all_goals refine rPk 5 ?_
      all_goals refine rMv 6 ?_
      all_goals (first | refine wSkip 7 ?_ | refine wSkipU 7 ?_ | refine wMv 7 ?_ | (refine tr_guard (t := 16) rfl (fun hb => ?_) (fun hb => ?_) <;> (try simp only [decide_eq_true_eq, decide_eq_false_iff_not, Bool.not_eq_true, Bool.not_eq_false, beq_iff_eq, bne_iff_ne, ne_eq, Bool.not_eq_eq_eq_not, Bool.not_true, Bool.not_false, beq_eq_false_iff_ne, bne_eq_false_iff_eq] at hb) <;> first | refine wSkip 7 ?_ | refine wSkipU 7 ?_ | refine wMv 7 ?_))
      all_goals (first | refine wSkip 9 ?_ | refine wSkipU 9 ?_ | refine wLd 9 ?_ | (refine tr_guard (t := 16) rfl (fun hb => ?_) (fun hb => ?_) <;> (try simp only [decide_eq_true_eq, decide_eq_false_iff_not, Bool.not_eq_true, Bool.not_eq_false, beq_iff_eq, bne_iff_ne, ne_eq, Bool.not_eq_eq_eq_not, Bool.not_true, Bool.not_false, beq_eq_false_iff_ne, bne_eq_false_iff_eq] at hb) <;> first | refine wSkip 9 ?_ | refine wSkipU 9 ?_ | refine wLd 9 ?_))
      all_goals (first | refine wSkip 10 ?_ | refine wSkipU 10 ?_ | refine wAd 10 ?_ | (refine tr_guard (t := 16) rfl (fun hb => ?_) (fun hb => ?_) <;> (try simp only [decide_eq_true_eq, decide_eq_false_iff_not, Bool.not_eq_true, Bool.not_eq_false, beq_iff_eq, bne_iff_ne, ne_eq, Bool.not_eq_eq_eq_not, Bool.not_true, Bool.not_false, beq_eq_false_iff_ne, bne_eq_false_iff_eq] at hb) <;> first | refine wSkip 10 ?_ | refine wSkipU 10 ?_ | refine wAd 10 ?_))
      all_goals (first | refine wSkip 8 ?_ | refine wSkipU 8 ?_ | (refine rStep (i := 8) ?_; ((try refine qWant ?_); (first | (refine tl_is (.func 53) ?_; refine qC rfl rfl (klen _ db k D) ?_; rintro v ρ' L' hle ⟨rfl, rfl, rfl⟩ <;> (try simp only [List.cons_append, List.nil_append, List.append_eq])) | (refine qEf ?_; try intro _)) <;> ((try simp only [List.cons_append, List.nil_append, List.append_eq]); refine tl_nil ?_; refine rNext ?_))))
      all_goals refine rFull ?_
      all_goals (first | refine wSkip 11 ?_ | refine wSkipU 11 ?_ | refine wCm 11 ?_ | (refine tr_guard (t := 16) rfl (fun hb => ?_) (fun hb => ?_) <;> (try simp only [decide_eq_true_eq, decide_eq_false_iff_not, Bool.not_eq_true, Bool.not_eq_false, beq_iff_eq, bne_iff_ne, ne_eq, Bool.not_eq_eq_eq_not, Bool.not_true, Bool.not_false, beq_eq_false_iff_ne, bne_eq_false_iff_eq] at hb) <;> first | refine wSkip 11 ?_ | refine wSkipU 11 ?_ | refine wCm 11 ?_))
      all_goals refine rPk 12 ?_
      all_goals refine rDone ?_
      all_goals (repeat' (first | (refine i_op ?_; first | (refine i_qq ?_; refine qQ ?_) | refine qEf ?_) | refine tl_nil ?_ | (refine i_tc ?_; refine qTc ?_) | (refine i_te ?_; refine qTe ?_) | intro _))
      all_goals exact qE ⟨Hp.le_refl _, k, hD, rfl, rfl⟩
    · by_cases h3 : (D.secs.length : Int) < size + 2
      · have he : formatR size D = (none, D, 2) := by unfold formatR; rw [if_pos (.inr (.inr h3))]
        rw [he]
        refine spec_enter Try.func39 rfl rfl rfl fun u R => ?_
        simp only [argsE, List.cons_append, List.nil_append]
        repeat' (first | (refine i_op ?_; first | (refine i_qq ?_; refine qQ ?_) | refine qEf ?_) | refine tl_nil ?_ | (refine i_tc ?_; refine qTc ?_) | (refine i_te ?_; refine qTe ?_) | intro _)
        rename_i b3
        refine tc_any (Stays _ _ ([[(b3, .cells ⟨[.int .i64 size]⟩ 3 (0, 0))]])) (stays_of (hT := tk) (Hp.le_refl _)) ?_
        all_goals refine rLd 0 ?_
        all_goals refine rCm 1 ?_
        all_goals refine rMv 2 ?_
        all_goals (first | refine wSkip 3 ?_ | refine wSkipU 3 ?_ | refine wLd 3 ?_ | (refine tr_guard (t := 12) rfl (fun hb => ?_) (fun hb => ?_) <;> (try simp only [decide_eq_true_eq, decide_eq_false_iff_not, Bool.not_eq_true, Bool.not_eq_false, beq_iff_eq, bne_iff_ne, ne_eq, Bool.not_eq_eq_eq_not, Bool.not_true, Bool.not_false, beq_eq_false_iff_ne, bne_eq_false_iff_eq] at hb) <;> first | refine wSkip 3 ?_ | refine wSkipU 3 ?_ | refine wLd 3 ?_))
        all_goals (first | refine wSkip 4 ?_ | refine wSkipU 4 ?_ | refine wCm 4 ?_ | (refine tr_guard (t := 12) rfl (fun hb => ?_) (fun hb => ?_) <;> (try simp only [decide_eq_true_eq, decide_eq_false_iff_not, Bool.not_eq_true, Bool.not_eq_false, beq_iff_eq, bne_iff_ne, ne_eq, Bool.not_eq_eq_eq_not, Bool.not_true, Bool.not_false, beq_eq_false_iff_ne, bne_eq_false_iff_eq] at hb) <;> first | refine wSkip 4 ?_ | refine wSkipU 4 ?_ | refine wCm 4 ?_))
        all_goals refine rPk 5 ?_
        all_goals refine rMv 6 ?_
        all_goals (first | refine wSkip 7 ?_ | refine wSkipU 7 ?_ | refine wMv 7 ?_ | (refine tr_guard (t := 16) rfl (fun hb => ?_) (fun hb => ?_) <;> (try simp only [decide_eq_true_eq, decide_eq_false_iff_not, Bool.not_eq_true, Bool.not_eq_false, beq_iff_eq, bne_iff_ne, ne_eq, Bool.not_eq_eq_eq_not, Bool.not_true, Bool.not_false, beq_eq_false_iff_ne, bne_eq_false_iff_eq] at hb) <;> first | refine wSkip 7 ?_ | refine wSkipU 7 ?_ | refine wMv 7 ?_))
        all_goals (first | refine wSkip 9 ?_ | refine wSkipU 9 ?_ | refine wLd 9 ?_ | (refine tr_guard (t := 16) rfl (fun hb => ?_) (fun hb => ?_) <;> (try simp only [decide_eq_true_eq, decide_eq_false_iff_not, Bool.not_eq_true, Bool.not_eq_false, beq_iff_eq, bne_iff_ne, ne_eq, Bool.not_eq_eq_eq_not, Bool.not_true, Bool.not_false, beq_eq_false_iff_ne, bne_eq_false_iff_eq] at hb) <;> first | refine wSkip 9 ?_ | refine wSkipU 9 ?_ | refine wLd 9 ?_))
        all_goals (first | refine wSkip 10 ?_ | refine wSkipU 10 ?_ | refine wAd 10 ?_ | (refine tr_guard (t := 16) rfl (fun hb => ?_) (fun hb => ?_) <;> (try simp only [decide_eq_true_eq, decide_eq_false_iff_not, Bool.not_eq_true, Bool.not_eq_false, beq_iff_eq, bne_iff_ne, ne_eq, Bool.not_eq_eq_eq_not, Bool.not_true, Bool.not_false, beq_eq_false_iff_ne, bne_eq_false_iff_eq] at hb) <;> first | refine wSkip 10 ?_ | refine wSkipU 10 ?_ | refine wAd 10 ?_))
        all_goals (first | refine wSkip 8 ?_ | refine wSkipU 8 ?_ | (refine rStep (i := 8) ?_; ((try refine qWant ?_); (first | (refine tl_is (.func 53) ?_; refine qC rfl rfl (klen _ db k D) ?_; rintro v ρ' L' hle ⟨rfl, rfl, rfl⟩ <;> (try simp only [List.cons_append, List.nil_append, List.append_eq])) | (refine qEf ?_; try intro _)) <;> ((try simp only [List.cons_append, List.nil_append, List.append_eq]); refine tl_nil ?_; refine rNext ?_))))
        all_goals refine rFull ?_
        all_goals (first | refine wSkip 11 ?_ | refine wSkipU 11 ?_ | refine wCm 11 ?_ | (refine tr_guard (t := 16) rfl (fun hb => ?_) (fun hb => ?_) <;> (try simp only [decide_eq_true_eq, decide_eq_false_iff_not, Bool.not_eq_true, Bool.not_eq_false, beq_iff_eq, bne_iff_ne, ne_eq, Bool.not_eq_eq_eq_not, Bool.not_true, Bool.not_false, beq_eq_false_iff_ne, bne_eq_false_iff_eq] at hb) <;> first | refine wSkip 11 ?_ | refine wSkipU 11 ?_ | refine wCm 11 ?_))
        all_goals refine rPk 12 ?_
        all_goals refine rDone ?_
        all_goals (repeat' (first | (refine i_op ?_; first | (refine i_qq ?_; refine qQ ?_) | refine qEf ?_) | refine tl_nil ?_ | (refine i_tc ?_; refine qTc ?_) | (refine i_te ?_; refine qTe ?_) | intro _))
        all_goals exact qE ⟨Hp.le_refl _, k, hD, rfl, rfl⟩
      · obtain ⟨n, rfl⟩ : ∃ n : Nat, size = n := ⟨size.toNat, by omega⟩
        have hn0 : 4 ≤ n := by omega
        have hn1 : n ≤ 1000 := by omega
        have he : formatR n D = if (DS.lays (noughtsL n) D).2 = 0 then
            if (DS.lays (headL (freshH n)) (DS.lays (noughtsL n) D).1).2 = 0 then (some ⟨freshH n, [], 0, false⟩, DS.lays (headL (freshH n)) (DS.lays (noughtsL n) D).1) else (none, DS.lays (headL (freshH n)) (DS.lays (noughtsL n) D).1)
          else (none, DS.lays (noughtsL n) D) := by unfold formatR; rw [if_neg (by omega)]; simp only [Int.toNat_natCast]
        rw [he]
        refine spec_enter Try.func39 rfl rfl rfl fun u R => ?_
        simp only [argsE, List.cons_append, List.nil_append]
        repeat' (first | (refine i_op ?_; first | (refine i_qq ?_; refine qQ ?_) | refine qEf ?_) | refine tl_nil ?_ | (refine i_tc ?_; refine qTc ?_) | (refine i_te ?_; refine qTe ?_) | intro _)
        rename_i b3
        refine tc_any (Stays _ _ ([[(b3, .cells ⟨[.int .i64 n]⟩ 3 (0, 0))]])) (stays_of (hT := tk) (Hp.le_refl _)) ?_
        all_goals refine rLd 0 ?_
        all_goals refine rCm 1 ?_
        all_goals refine rMv 2 ?_
        all_goals (first | refine wSkip 3 ?_ | refine wSkipU 3 ?_ | refine wLd 3 ?_ | (refine tr_guard (t := 12) rfl (fun hb => ?_) (fun hb => ?_) <;> (try simp only [decide_eq_true_eq, decide_eq_false_iff_not, Bool.not_eq_true, Bool.not_eq_false, beq_iff_eq, bne_iff_ne, ne_eq, Bool.not_eq_eq_eq_not, Bool.not_true, Bool.not_false, beq_eq_false_iff_ne, bne_eq_false_iff_eq] at hb) <;> first | refine wSkip 3 ?_ | refine wSkipU 3 ?_ | refine wLd 3 ?_))
        all_goals (first | refine wSkip 4 ?_ | refine wSkipU 4 ?_ | refine wCm 4 ?_ | (refine tr_guard (t := 12) rfl (fun hb => ?_) (fun hb => ?_) <;> (try simp only [decide_eq_true_eq, decide_eq_false_iff_not, Bool.not_eq_true, Bool.not_eq_false, beq_iff_eq, bne_iff_ne, ne_eq, Bool.not_eq_eq_eq_not, Bool.not_true, Bool.not_false, beq_eq_false_iff_ne, bne_eq_false_iff_eq] at hb) <;> first | refine wSkip 4 ?_ | refine wSkipU 4 ?_ | refine wCm 4 ?_))
        all_goals refine rPk 5 ?_
        all_goals refine rMv 6 ?_
        all_goals (first | refine wSkip 7 ?_ | refine wSkipU 7 ?_ | refine wMv 7 ?_ | (refine tr_guard (t := 16) rfl (fun hb => ?_) (fun hb => ?_) <;> (try simp only [decide_eq_true_eq, decide_eq_false_iff_not, Bool.not_eq_true, Bool.not_eq_false, beq_iff_eq, bne_iff_ne, ne_eq, Bool.not_eq_eq_eq_not, Bool.not_true, Bool.not_false, beq_eq_false_iff_ne, bne_eq_false_iff_eq] at hb) <;> first | refine wSkip 7 ?_ | refine wSkipU 7 ?_ | refine wMv 7 ?_))
        all_goals (first | refine wSkip 9 ?_ | refine wSkipU 9 ?_ | refine wLd 9 ?_ | (refine tr_guard (t := 16) rfl (fun hb => ?_) (fun hb => ?_) <;> (try simp only [decide_eq_true_eq, decide_eq_false_iff_not, Bool.not_eq_true, Bool.not_eq_false, beq_iff_eq, bne_iff_ne, ne_eq, Bool.not_eq_eq_eq_not, Bool.not_true, Bool.not_false, beq_eq_false_iff_ne, bne_eq_false_iff_eq] at hb) <;> first | refine wSkip 9 ?_ | refine wSkipU 9 ?_ | refine wLd 9 ?_))
        all_goals (first | refine wSkip 10 ?_ | refine wSkipU 10 ?_ | refine wAd 10 ?_ | (refine tr_guard (t := 16) rfl (fun hb => ?_) (fun hb => ?_) <;> (try simp only [decide_eq_true_eq, decide_eq_false_iff_not, Bool.not_eq_true, Bool.not_eq_false, beq_iff_eq, bne_iff_ne, ne_eq, Bool.not_eq_eq_eq_not, Bool.not_true, Bool.not_false, beq_eq_false_iff_ne, bne_eq_false_iff_eq] at hb) <;> first | refine wSkip 10 ?_ | refine wSkipU 10 ?_ | refine wAd 10 ?_))
        all_goals (first | refine wSkip 8 ?_ | refine wSkipU 8 ?_ | (refine rStep (i := 8) ?_; ((try refine qWant ?_); (first | (refine tl_is (.func 53) ?_; refine qC rfl rfl (klen _ db k D) ?_; rintro v ρ' L' hle ⟨rfl, rfl, rfl⟩ <;> (try simp only [List.cons_append, List.nil_append, List.append_eq])) | (refine qEf ?_; try intro _)) <;> ((try simp only [List.cons_append, List.nil_append, List.append_eq]); refine tl_nil ?_; refine rNext ?_))))
        all_goals refine rFull ?_
        all_goals (first | refine wSkip 11 ?_ | refine wSkipU 11 ?_ | refine wCm 11 ?_ | (refine tr_guard (t := 16) rfl (fun hb => ?_) (fun hb => ?_) <;> (try simp only [decide_eq_true_eq, decide_eq_false_iff_not, Bool.not_eq_true, Bool.not_eq_false, beq_iff_eq, bne_iff_ne, ne_eq, Bool.not_eq_eq_eq_not, Bool.not_true, Bool.not_false, beq_eq_false_iff_ne, bne_eq_false_iff_eq] at hb) <;> first | refine wSkip 11 ?_ | refine wSkipU 11 ?_ | refine wCm 11 ?_))
        all_goals refine rPk 12 ?_
        all_goals refine rDone ?_
        all_goals (repeat' (first | (refine tl_is (.func 46) ?_; refine qC rfl rfl (lays_spec _ _ 83 [.pointer (some ⟨b3, 0, none⟩)] [[(b3, .cells ⟨[.int .i64 n]⟩ 3 (0, 0))]] (noughtsL n) (Hp.le_refl _) (noughts_iter _ b3 n (by omega)) noughtsL_64 db k D hD) ?_; rintro v6 ρ6 L6 hle6 ⟨rfl, hl6, k6, hD6, rfl⟩; simp only [List.cons_append, List.nil_append, List.append_assoc]) | (refine i_op ?_; first | (refine i_qq ?_; refine qQ ?_) | refine qEf ?_) | refine tl_nil ?_ | (refine i_tc ?_; refine qTc ?_) | (refine i_te ?_; refine qTe ?_) | intro _))
        all_goals generalize DS.lays (noughtsL n) D = r at *
        all_goals obtain ⟨D', ec⟩ := r
        all_goals dsimp only at hD6 ⊢
        all_goals
          by_cases hz : ec = 0
          · subst hz
            have hrd := fun ρ => laid_spec ρ (freshH n) none 0 0 SIn.nil (by simp [freshH]) (by simp [freshH]) (by simp only [freshH]; omega) (by simp [freshH]) (by omega) db k6 D' hD6
            rw [show ((0 : Int) == 0) = true from rfl, if_pos rfl]
            repeat' (first | (refine tl_is (.func 43) ?_; refine qC rfl rfl (hrd _) ?_; rintro v8 ρ8 L8 hle8 ⟨rfl, hl8, k8, hD8, rfl⟩; try simp only [List.cons_append, List.nil_append, List.append_assoc]) | (refine i_op ?_; first | (refine i_qq ?_; refine qQ ?_) | refine qEf ?_) | refine tl_nil ?_ | (refine i_tc ?_; refine qTc ?_) | (refine i_te ?_; refine qTe ?_) | intro _)
            generalize DS.lays (headL (freshH n)) D' = r at *
            obtain ⟨D'', ec⟩ := r
            dsimp only at hD8 ⊢
            by_cases hz : ec = 0
            · subst hz
              rw [show ((0 : Int) != 0) = false from rfl, if_pos rfl]
              repeat' (first | (refine i_op ?_; first | (refine i_qq ?_; refine qQ ?_) | refine qEf ?_) | refine tl_nil ?_ | (refine i_tc ?_; refine qTc ?_) | (refine i_te ?_; refine qTe ?_) | intro _)
              rename_i rb
              exact qE (L' := ringC rb db ⟨freshH n, [], 0, false⟩ ⟨none, 0, 0, .slice none 0 0, [], []⟩ ++ diskK db k8 D'') ⟨Hp.le_trans hl6 hl8, k8, hD8, rb, _, rfl, fresh_rin hn0 hn1, rfl⟩
            · have hcb : (ec != 0) = true := by simpa using hz
              rw [hcb, if_neg hz]
              repeat' (first | (refine i_op ?_; first | (refine i_qq ?_; refine qQ ?_) | refine qEf ?_) | refine tl_nil ?_ | (refine i_tc ?_; refine qTc ?_) | (refine i_te ?_; refine qTe ?_) | intro _)
              exact qE (L' := diskK db k8 D'') ⟨Hp.le_trans hl6 hl8, k8, hD8, rfl, rfl⟩
          · have hcb : (ec == 0) = false := by simpa using hz
            have hcb2 : (ec != 0) = true := by simpa using hz
            rw [hcb, if_neg hz]
            repeat' (first | (refine i_op ?_; first | (refine i_qq ?_; refine qQ ?_) | refine qEf ?_) | refine tl_nil ?_ | (refine i_tc ?_; refine qTc ?_) | (refine i_te ?_; refine qTe ?_) | intro _)
            exact qE (L' := diskK db k6 D') ⟨hl6, k6, hD6, rfl, rfl⟩
theorem first_spec (ρ : Hp) (rb db : Nat) (R : RgS) (w : RW) : Spec Try.prog 40 [.pointer (some ⟨rb, 0, none⟩)] ρ [[(rb, .cells ⟨rgV R db w⟩ 97 (0, 0))]] (fun v ρ' L' => v = .int .u64 (R.h.first : Nat) ∧ ρ' = ρ ∧ L' = [[(rb, .cells ⟨rgV R db w⟩ 97 (0, 0))]]) := by
  refine spec_enter Try.func40 rfl rfl rfl fun u R0 => ?_
  simp only [argsE, List.cons_append, List.nil_append]
  repeat' (first | (refine i_op ?_; first | (refine i_qq ?_; refine qQ ?_) | refine qEf ?_) | refine tl_nil ?_ | (refine i_tc ?_; refine qTc ?_) | (refine i_te ?_; refine qTe ?_) | intro _)
  exact qE ⟨rfl, rfl, rfl⟩
theorem left_spec4 (ρ : Hp) (rb db : Nat) (R : RgS) (w : RW) (h : R.Ok) : Spec Try.prog 11 [.pointer (some ⟨rb, 0, none⟩)] ρ [[(rb, .cells ⟨rgV R db w⟩ 97 (0, 0))]] (fun v ρ' L' => v = .int .i64 ((R.h.size - R.used : Nat) : Int) ∧ ρ' = ρ ∧ L' = [[(rb, .cells ⟨rgV R db w⟩ 97 (0, 0))]]) := by
  have hft := h.fit
  have hsz := h.size
  have e : (R.h.size : Int) - (R.used : Int) = ((R.h.size - R.used : Nat) : Int) := by omega
  refine spec_enter Try.func11 rfl rfl rfl fun u R0 => ?_
  simp only [argsE, List.cons_append, List.nil_append]
  repeat' (first | (refine i_op ?_; first | (refine i_qq ?_; refine qQ ?_) | refine qEf ?_) | refine tl_nil ?_ | (refine i_tc ?_; refine qTc ?_) | (refine i_te ?_; refine qTe ?_) | intro _)
  refine tc_any (Stays _ _ _) stays_refl ?_
  all_goals refine rMv 0 ?_
  all_goals refine rFull ?_
  all_goals refine rNc 1 ?_
  all_goals refine rFa 2 ?_
  all_goals refine rFa 3 ?_
  all_goals refine rLd 4 ?_
  all_goals refine rMv 5 ?_
  all_goals refine rNc 6 ?_
  all_goals refine rFa 7 ?_
  all_goals refine rLd 8 ?_
  all_goals refine rSb 9 ?_
  all_goals refine rAs 10 ?_
  all_goals refine rDone ?_
  all_goals (repeat' (first | (refine i_op ?_; first | (refine i_qq ?_; refine qQ ?_) | refine qEf ?_) | refine tl_nil ?_ | (refine i_tc ?_; refine qTc ?_) | (refine i_te ?_; refine qTe ?_) | intro _))
  rw [e]
  exact qE ⟨rfl, rfl, rfl⟩
theorem broken_spec (ρ : Hp) (rb db : Nat) (R : RgS) (w : RW) : Spec Try.prog 21 [.pointer (some ⟨rb, 0, none⟩)] ρ [[(rb, .cells ⟨rgV R db w⟩ 97 (0, 0))]] (fun v ρ' L' => v = .bool R.broken ∧ ρ' = ρ ∧ L' = [[(rb, .cells ⟨rgV R db w⟩ 97 (0, 0))]]) := by
  refine spec_enter Try.func21 rfl rfl rfl fun u R0 => ?_
  simp only [argsE, List.cons_append, List.nil_append]
  repeat' (first | (refine i_op ?_; first | (refine i_qq ?_; refine qQ ?_) | refine qEf ?_) | refine tl_nil ?_ | (refine i_tc ?_; refine qTc ?_) | (refine i_te ?_; refine qTe ?_) | intro _)
  exact qE ⟨rfl, rfl, rfl⟩
theorem note_spec (ρ : Hp) (rb db : Nat) (R : RgS) (w : RW) (h : RIn ρ R w) : Spec Try.prog 51 [.pointer (some ⟨rb, 0, none⟩)] ρ [[(rb, .cells ⟨rgV R db w⟩ 97 (0, 0))]] (fun v ρ' L' => ρ.le ρ' ∧ ∃ e : BSl, v = slv e ∧ BIn ρ' e ∧ e.l = R.h.note ∧ L' = [[(rb, .cells ⟨rgV R db w⟩ 97 (0, 0))]]) := by
  have hn := h.ok.note
  have hl := h.note.len
  refine spec_enter Try.func51 rfl rfl rfl fun u R0 => ?_
  simp only [argsE, List.cons_append, List.nil_append]
  repeat' (first | (refine tl_is (.func 42) ?_; refine qC rfl rfl (cloneR_spec _ [] w.na w.nn w.nc R.h.note h.note.rd (by omega)) ?_; rintro v7 ρ7 L7 hle7 ⟨hl7, e, rfl, he, hel, hen, rfl⟩; simp only [List.cons_append, List.nil_append]) | (refine i_op ?_; first | (refine i_qq ?_; refine qQ ?_) | refine qEf ?_) | refine tl_nil ?_ | (refine i_tc ?_; refine qTc ?_) | (refine i_te ?_; refine qTe ?_) | intro _)
  exact qE ⟨hl7, e, rfl, he, hel, rfl⟩
theorem nils_spec (ρ : Hp) : (Spec Try.prog 40 [.pointer none] ρ [] (fun v ρ' L' => v = .int .u64 0 ∧ ρ' = ρ ∧ L' = [])) ∧
    (Spec Try.prog 11 [.pointer none] ρ [] (fun v ρ' L' => v = .int .i64 0 ∧ ρ' = ρ ∧ L' = [])) ∧
    (Spec Try.prog 21 [.pointer none] ρ [] (fun v ρ' L' => v = .bool false ∧ ρ' = ρ ∧ L' = [])) ∧
    (Spec Try.prog 51 [.pointer none] ρ [] (fun v ρ' L' => v = .slice none 0 0 ∧ ρ' = ρ ∧ L' = [])) ∧
    (Spec Try.prog 49 [.pointer none] ρ [] (fun v ρ' L' => v = .slice none 0 0 ∧ ρ' = ρ ∧ L' = [])) := by
  refine ⟨?_, ?_, ?_, ?_, ?_⟩
  · refine spec_enter Try.func40 rfl rfl rfl fun u R0 => ?_
    simp only [argsE, List.cons_append, List.nil_append]
    repeat' (first | (refine i_op ?_; first | (refine i_qq ?_; refine qQ ?_) | refine qEf ?_) | refine tl_nil ?_ | (refine i_tc ?_; refine qTc ?_) | (refine i_te ?_; refine qTe ?_) | intro _)
    exact qE ⟨rfl, rfl, rfl⟩
  · refine spec_enter Try.func11 rfl rfl rfl fun u R0 => ?_
    simp only [argsE, List.cons_append, List.nil_append]
    repeat' (first | (refine i_op ?_; first | (refine i_qq ?_; refine qQ ?_) | refine qEf ?_) | refine tl_nil ?_ | (refine i_tc ?_; refine qTc ?_) | (refine i_te ?_; refine qTe ?_) | intro _)
    exact qE ⟨rfl, rfl, rfl⟩
  · refine spec_enter Try.func21 rfl rfl rfl fun u R0 => ?_
    simp only [argsE, List.cons_append, List.nil_append]
    repeat' (first | (refine i_op ?_; first | (refine i_qq ?_; refine qQ ?_) | refine qEf ?_) | refine tl_nil ?_ | (refine i_tc ?_; refine qTc ?_) | (refine i_te ?_; refine qTe ?_) | intro _)
    exact qE ⟨rfl, rfl, rfl⟩
  · refine spec_enter Try.func51 rfl rfl rfl fun u R0 => ?_
    simp only [argsE, List.cons_append, List.nil_append]
    repeat' (first | (refine i_op ?_; first | (refine i_qq ?_; refine qQ ?_) | refine qEf ?_) | refine tl_nil ?_ | (refine i_tc ?_; refine qTc ?_) | (refine i_te ?_; refine qTe ?_) | intro _)
    exact qE ⟨rfl, rfl, rfl⟩
  · refine spec_enter Try.func49 rfl rfl rfl fun u R0 => ?_
    simp only [argsE, List.cons_append, List.nil_append]
    repeat' (first | (refine i_op ?_; first | (refine i_qq ?_; refine qQ ?_) | refine qEf ?_) | refine tl_nil ?_ | (refine i_tc ?_; refine qTc ?_) | (refine i_te ?_; refine qTe ?_) | intro _)
    exact qE ⟨rfl, rfl, rfl⟩
end Go.Proofs.E

namespace Go.Proofs.E
open Go
set_option linter.unusedVariables false
set_option linter.unusedSimpArgs false
set_option linter.unusedSectionVars false
set_option maxRecDepth 4000
set_option maxHeartbeats 1000000
attribute [local irreducible] Yl TL TC TE Spec YSpec R1 Hp.le EnvLe TS TR YS Stays
theorem all_spec (ρ : Hp) (rb db : Nat) (R : RgS) (w : RW) (h : RIn ρ R w) :
    Spec Try.prog 49 [.pointer (some ⟨rb, 0, none⟩)] ρ (ringC rb db R w) (fun v ρ' L' => ρ.le ρ' ∧ ∃ (els' : List BSl) (sp' : List Value), OwnS v els'.length (els'.map slv) sp' 1 ∧ (∀ e ∈ els', BIn ρ' e) ∧ els'.map BSl.l = R.ents ∧ L' = ringC rb db R w ++ [ownC v (els'.map slv) sp' 30]) := by
  have hlen := h.len
  have hfit := h.ok.fit
  have hsz := h.ok.size
  have hus := h.ok.used
  have hul := usedL_len R.ents
  have hall := fun {j : Nat} (hj : j < w.els.length) => h.at hj
  rcases h.own.out with ⟨hev, h0, h1, h2⟩ | ⟨bx, cap, hev, g1, g2, g3⟩
  · have he : R.ents = [] := List.eq_nil_of_length_eq_zero (by omega)
    obtain ⟨wna, wnn, wnc, wev, els, sp⟩ := w
    dsimp only at hev h0 h1 h2 ⊢
    subst hev
    subst h2
    have hels : els = [] := List.eq_nil_of_length_eq_zero h0
    subst hels
    refine spec_enter Try.func49 rfl rfl rfl fun u R0 => ?_
    simp only [argsE, List.cons_append, List.nil_append]
    repeat' (first | (refine i_op ?_; first | (refine i_qq ?_; refine qQ ?_) | refine qEf ?_) | refine tl_nil ?_ | (refine i_tc ?_; refine qTc ?_) | (refine i_te ?_; refine qTe ?_) | intro _)
    refine tc_loop_g [(2, _), (11, _), (12, _)] (fun (ζ : (Nat)) => [(13, .int .i64 ζ), (3, .slice none 0 0)]) (fun (ζ : (Nat)) => ρ) (fun (ζ : (Nat)) => []) (fun (ζ : (Nat)) => ζ = 0) (fun (ζ : (Nat)) => 0) (0) (rfl) ev_le ev_le rfl tk ?_
    rintro j hI
    try simp only [List.cons_append, List.nil_append, List.append_assoc, List.append_eq] at hI ⊢
    try dsimp only at hI ⊢
    subst hI
    repeat' (first | (refine i_op ?_; first | (refine i_qq ?_; refine qQ ?_) | refine qEf ?_) | refine tl_nil ?_ | (refine i_tc ?_; refine qTc ?_) | (refine i_te ?_; refine qTe ?_) | intro _)
    exact qE (L' := ringC rb db R ⟨wna, wnn, wnc, .slice none 0 0, [], []⟩ ++ [[]]) ⟨Hp.le_refl _, [], [], OwnS.nil 1, fun x hx => (by cases hx), he.symm, rfl⟩
  · obtain ⟨wna, wnn, wnc, wev, els, sp⟩ := w
    dsimp only at hev g1 g2 g3 hlen hall ⊢
    subst hev
    simp only [ringC, ownC]
    refine spec_enter Try.func49 rfl rfl rfl fun u R0 => ?_
    simp only [argsE, List.cons_append, List.nil_append]
    repeat' (first | (refine i_op ?_; first | (refine i_qq ?_; refine qQ ?_) | refine qEf ?_) | refine tl_nil ?_ | (refine i_tc ?_; refine qTc ?_) | (refine i_te ?_; refine qTe ?_) | intro _)
    refine tc_loop_g [(2, _), (11, _), (12, _)] (fun (ζ : (Nat) × (Hp) × (Value) × (List BSl) × (List Value)) => [(13, .int .i64 ζ.1), (3, ζ.2.2.1)]) (fun (ζ : (Nat) × (Hp) × (Value) × (List BSl) × (List Value)) => ζ.2.1) (fun (ζ : (Nat) × (Hp) × (Value) × (List BSl) × (List Value)) => [[(bx, .cells ⟨els.map slv ++ sp⟩ 30 (0, 0))], ownC ζ.2.2.1 (ζ.2.2.2.1.map slv) ζ.2.2.2.2 30]) (fun (ζ : (Nat) × (Hp) × (Value) × (List BSl) × (List Value)) => ζ.1 ≤ els.length ∧ ρ.le ζ.2.1 ∧ OwnS ζ.2.2.1 ζ.2.2.2.1.length (ζ.2.2.2.1.map slv) ζ.2.2.2.2 1 ∧ (∀ e ∈ ζ.2.2.2.1, BIn ζ.2.1 e) ∧ ζ.2.2.2.1.map BSl.l = R.ents.take ζ.1) (fun (ζ : (Nat) × (Hp) × (Value) × (List BSl) × (List Value)) => els.length - ζ.1) ((0, ρ, .slice none 0 0, [], [])) (⟨Nat.zero_le _, Hp.le_refl _, OwnS.nil 1, by simp, rfl⟩) ev_le ev_le rfl tk ?_
    rintro ⟨j, ρ1, v, els2, sp2⟩ hI
    try simp only [List.cons_append, List.nil_append, List.append_assoc, List.append_eq] at hI ⊢
    try dsimp only at hI ⊢
    obtain ⟨hj, hle1, hown, hbin, hl⟩ := hI
    by_cases hlt : j < els.length
    · obtain ⟨q1, q2, q3⟩ := hall hlt
      have hget : (els.map slv ++ sp)[0 + j * 1]? = some (slv els[j]) := by
        rw [Nat.zero_add, Nat.mul_one, List.getElem?_append_left (by simp; omega)]; simp [hlt]
      have hl2 : els2.length = j := by have := congrArg List.length hl; simp at this; omega
      repeat' (first | (refine tl_is (.func 42) ?_; refine qC rfl rfl (cloneR_spec _ [] (els[j]).a (els[j]).n (els[j]).c (els[j]).l (q2.mono hle1).s.rd (by omega)) ?_; rintro v7 ρ7 L7 hle7 ⟨hl7, e, rfl, he, hel, hen, rfl⟩; try simp only [List.cons_append, List.nil_append]) | (refine tl_buildSlice_s rfl rfl rfl rfl (by simp) rfl rfl (fun _ => ?_)) | (refine tl_app (ys := [slv e]) (m := 1) (sz := 1) rfl rfl hown (hR := by infer_instance) SrcV.lit rfl rfl (by decide) rfl (by omega) (by omega) rfl (fun v2 sp3 hown2 => ?_); rw [show els2.map slv ++ [slv e] = (els2 ++ [e]).map slv by simp] at hown2 ⊢) | (refine i_op ?_; first | (refine i_qq ?_; refine qQ ?_) | refine qEf ?_) | refine tl_nil ?_ | (refine i_tc ?_; refine qTc ?_) | (refine i_te ?_; refine qTe ?_) | intro _)
      rw [show els2.length + 1 = (els2 ++ [e]).length by simp] at hown2
      refine te_round_g (j + 1, ρ7, v2, els2 ++ [e], sp3) (⟨hlt, Hp.le_trans hle1 hl7, hown2, fun x hx => (by rcases List.mem_append.1 hx with hx | hx <;> first | exact (hbin x hx).mono hl7 | (rw [List.mem_singleton.1 hx]; exact he)), by dsimp only; rw [List.map_append, hl, List.take_succ_eq_append_getElem (by omega), ← q1, ← hel]; rfl⟩) ev_le ev_le rfl tk inferInstance (by first | omega | (dsimp only; omega))
    · have hk : j = els.length := by omega
      rw [hk, hlen, List.take_of_length_le (Nat.le_refl _)] at hl
      repeat' (first | (refine i_op ?_; first | (refine i_qq ?_; refine qQ ?_) | refine qEf ?_) | refine tl_nil ?_ | (refine i_tc ?_; refine qTc ?_) | (refine i_te ?_; refine qTe ?_) | intro _)
      exact qE (L' := ringC rb db R ⟨wna, wnn, wnc, .slice (some ⟨bx, 0, none⟩) els.length cap, els, sp⟩ ++ [ownC v (els2.map slv) sp2 30]) ⟨hle1, els2, sp2, hown, hbin, hl, rfl⟩
end Go.Proofs.E

namespace Go.Proofs.E
open Go
set_option linter.unusedVariables false
set_option linter.unusedSimpArgs false
set_option linter.unusedSectionVars false
set_option maxRecDepth 4000
set_option maxHeartbeats 1000000
attribute [local irreducible] Yl TL TC TE Spec YSpec R1 Hp.le EnvLe TS TR YS Stays
/-! ## what a row of writes leaves -/
def putAll (s : Secs) (l : List (Nat × Blk)) : Secs := l.foldl (fun s p => putC s p.1 p.2) s
theorem putAll_length (l : List (Nat × Blk)) : ∀ (s : Secs), (putAll s l).length = s.length := by
  induction l with
  | nil => intro s; rfl
  | cons p r ih => intro s; simp only [putAll, List.foldl_cons] at ih ⊢; rw [ih, putC_length]
theorem putC_at {s : Secs} {j i : Nat} {b : Blk} (hi : i < s.length) (h' : i < (putC s j b).length) : (putC s j b)[i] = if j = i then (s[i].1, some b) else s[i] := by
  simp only [putC, List.getElem_set]
  by_cases e : j = i
  · subst e; simp [hi]
  · simp [e]
theorem putAll_at : ∀ (l : List (Nat × Blk)) (s : Secs) (i : Nat) (hi : i < s.length) (h' : i < (putAll s l).length), (putAll s l)[i] = s[i] ∧ (∀ p ∈ l, p.1 ≠ i) ∨ ∃ p ∈ l, p.1 = i ∧ (putAll s l)[i] = (s[i].1, some p.2)
  | [], s, i, hi, h' => .inl ⟨rfl, by simp⟩
  | p :: r, s, i, hi, h' => by
    have h1 : i < (putC s p.1 p.2).length := by rw [putC_length]; exact hi
    have hat := putC_at hi h1
    rcases putAll_at r (putC s p.1 p.2) i h1 (by rw [putAll_length]; exact h1) with ⟨e1, e2⟩ | ⟨q, hq, e1, e2⟩
    · by_cases hp : p.1 = i
      · rw [if_pos hp] at hat
        exact .inr ⟨p, by simp, hp, by rw [← hat, ← e1]; rfl⟩
      · rw [if_neg hp] at hat
        refine .inl ⟨by rw [← hat, ← e1]; rfl, fun q hq => ?_⟩
        rcases List.mem_cons.1 hq with rfl | hq
        · exact hp
        · exact e2 q hq
    · refine .inr ⟨q, by simp [hq], e1, ?_⟩
      have : (putC s p.1 p.2)[i].1 = s[i].1 := by rw [hat]; split <;> rfl
      rw [← this, ← e2]; rfl
theorem lays_out : ∀ (l : List (Nat × Blk)) (D : DS), D.dead = false → (∀ p ∈ l, p.1 < D.secs.length) →
    (∃ l', l' <+: l ∧ (DS.lays l D).1.secs = putAll D.secs l' ∧ (DS.lays l D).2 ≠ 0) ∨
    ((DS.lays l D).1.secs = settled (fun _ => true) (putAll D.secs l) ∧ (DS.lays l D).2 = 0 ∧ (DS.lays l D).1.dead = false)
  | [], D, hd, _ => by
    simp only [DS.lays, DS.sync, hd, Bool.false_eq_true, if_false]
    split
    · exact .inl ⟨[], List.prefix_refl _, rfl, by simp⟩
    · split
      · exact .inl ⟨[], List.prefix_refl _, rfl, by simp⟩
      · exact .inr ⟨rfl, rfl, hd⟩
  | p :: r, D, hd, hl => by
    have hp := hl p (by simp)
    have hlt : ¬ ((p.1 : Int) < 0 ∨ (D.secs.length : Int) ≤ p.1) := by omega
    unfold DS.lays
    by_cases ha : D.armed = 0
    · have hw : D.write p.1 p.2 = ({ D.tick with dead := true, secs := putC D.secs p.1 p.2 }, 9) := by
        unfold DS.write
        rw [if_neg (by simp [hd]), if_neg hlt, if_pos ha]; rfl
      rw [hw]
      rw [if_neg (by simp)]
      exact .inl ⟨[p], ⟨r, rfl⟩, rfl, by simp⟩
    · by_cases hf : D.failing = 0
      · have hw : D.write p.1 p.2 = (D.tick, 8) := by
          unfold DS.write
          rw [if_neg (by simp [hd]), if_neg hlt, if_neg ha, if_pos hf]
        rw [hw]
        rw [if_neg (by simp)]
        exact .inl ⟨[], ⟨p :: r, rfl⟩, rfl, by simp⟩
      · have hw : D.write p.1 p.2 = ({ D.tick with armed := cnt D.armed, secs := putC D.secs p.1 p.2 }, 0) := by
          unfold DS.write
          rw [if_neg (by simp [hd]), if_neg hlt, if_neg ha, if_neg hf]; rfl
        rw [hw, if_pos rfl]
        have ih := lays_out r { D.tick with armed := cnt D.armed, secs := putC D.secs p.1 p.2 } hd (fun q hq => by simp only [putC_length]; exact hl q (by simp [hq]))
        rcases ih with ⟨l', ⟨t, ht⟩, h2, h3⟩ | h
        · exact .inl ⟨p :: l', ⟨t, by rw [← ht]; rfl⟩, h2, h3⟩
        · exact .inr h
/-- a disk that has nothing in its cache, and on which nothing is to happen -/
theorem Calm_lays : ∀ (l : List (Nat × Blk)) (D : DS), D.Calm → (∀ p ∈ l, p.1 < D.secs.length) → (DS.lays l D).2 = 0 ∧ (DS.lays l D).1.Calm ∧ (DS.lays l D).1.secs = settled (fun _ => true) (putAll D.secs l)
  | [], D, h, _ => by
    rw [DS.lays, h.sync_eq]
    exact ⟨rfl, ⟨rfl, rfl, rfl⟩, rfl⟩
  | p :: r, D, h, hl => by
    have hp := hl p (by simp)
    unfold DS.lays
    rw [h.write_eq hp, if_pos rfl]
    exact Calm_lays r _ ⟨rfl, rfl, rfl⟩ (fun q hq => by simp only [putC_length]; exact hl q (by simp [hq]))
/-- what a sector says behind a settling -/
theorem settled_one {keep : Nat → Bool} {s : Secs} {i : Nat} (he : emptyC s) (l : List (Nat × Blk)) (hi : i < s.length) (h' : i < (settled keep (putAll s l)).length) :
    (settled keep (putAll s l))[i] = s[i] ∨ ∃ p ∈ l, p.1 = i ∧ (settled keep (putAll s l))[i] = (p.2, none) := by
  have hp : i < (putAll s l).length := by rw [putAll_length]; exact hi
  have hn := he s[i] (List.getElem_mem hi)
  rw [settled_at hp h']
  rcases putAll_at l s i hi hp with ⟨e, _⟩ | ⟨p, hm, e1, e2⟩
  · left
    have hip : isP (putAll s l) i = false := by simp [isP, hp, e, hn]
    rw [hip, e]
    simp only [Bool.false_and, Bool.false_eq_true, if_false]
    rw [← hn]
  · have hip : isP (putAll s l) i = true := by simp [isP, hp, e2]
    rw [hip, e2]
    cases hk : keep (pendTo (putAll s l) i).length with
    | false => left; simp [← hn]
    | true => right; exact ⟨p, hm, e1, by simp⟩
theorem settled_all {s : Secs} {i : Nat} (he : emptyC s) (l : List (Nat × Blk)) (hi : i < s.length) (h' : i < (settled (fun _ => true) (putAll s l)).length) :
    (settled (fun _ => true) (putAll s l))[i] = s[i] ∧ (∀ p ∈ l, p.1 ≠ i) ∨ ∃ p ∈ l, p.1 = i ∧ (settled (fun _ => true) (putAll s l))[i] = (p.2, none) := by
  have hp : i < (putAll s l).length := by rw [putAll_length]; exact hi
  have hn := he s[i] (List.getElem_mem hi)
  rw [settled_at hp h']
  rcases putAll_at l s i hi hp with ⟨e, h2⟩ | ⟨p, hm, e1, e2⟩
  · left
    have hip : isP (putAll s l) i = false := by simp [isP, hp, e, hn]
    rw [hip, e]
    simp only [Bool.false_and, Bool.false_eq_true, if_false]
    exact ⟨by rw [← hn], h2⟩
  · have hip : isP (putAll s l) i = true := by simp [isP, hp, e2]
    rw [hip, e2]
    right; exact ⟨p, hm, e1, by simp⟩
end Go.Proofs.E

namespace Go.Proofs.E
open Go
set_option linter.unusedVariables false
set_option linter.unusedSimpArgs false
set_option linter.unusedSectionVars false
set_option maxRecDepth 4000
set_option maxHeartbeats 1000000
attribute [local irreducible] Yl TL TC TE Spec YSpec R1 Hp.le EnvLe TS TR YS Stays
/-! ## sectors, read and laid -/
theorem mid {A B C : Bs} {n m : Nat} (hA : A.length = n) (hB : B.length = m) : ((A ++ (B ++ C)).drop n).take m = B := by
  subst hA; subst hB; rw [List.drop_left, List.take_left]
theorem fit52 (l : Bs) : fitB 52 l = l.take 52 ++ z8 (52 - l.length) := by
  unfold fitB z8
  rw [List.take_append, List.take_replicate]
  congr 2; omega
theorem pad_drop {x l : Bs} (hx : x.length = 12) (hl : l.length ≤ 52) : (pad (x ++ l)).drop 12 = fitB 52 l := by
  rw [pad_of (by simp; omega), ← hx, List.append_assoc, List.drop_left, fit52, List.take_of_length_le hl]
  congr 2; simp; omega
theorem partB_eq (t n : Nat) (b : Bs) (k : Nat) : partB t n b k = pad ((be 4 t ++ (be 5 n ++ (be 2 b.length ++ [UInt8.ofNat k]))) ++ (b.drop (52 * k)).take 52) := by
  unfold partB; simp
theorem partB_drop (t n : Nat) (b : Bs) (k : Nat) : (partB t n b k).drop 12 = fitB 52 (b.drop (52 * k)) := by
  rw [partB_eq, pad_drop (by simp [be_length]) (by simp; omega), fit52, fit52, List.take_take]
  congr 2
  simp; omega
theorem partB_congr {t n : Nat} {b c : Bs} {k : Nat} (hl : b.length = c.length) (h : (b.drop (52 * k)).take 52 = (c.drop (52 * k)).take 52) : partB t n b k = partB t n c k := by
  unfold partB; rw [hl, h]
theorem pad_pre {x l : Bs} {n : Nat} (hx : x.length ≤ n) (hn : n ≤ 64) : True := trivial
theorem partB_turn {t n : Nat} {b : Bs} {k : Nat} (ht : t < 4294967296) : turnOf (partB t n b k) = t := by
  have h : (partB t n b k).take 4 = be 4 t := by
    unfold partB pad
    rw [List.append_assoc, List.take_take, Nat.min_eq_left (by omega), List.take_left' (be_length 4 t)]
  unfold turnOf
  rw [h, unbe_be, Nat.mod_eq_of_lt (by simpa using ht)]
theorem partB_num {t n : Nat} {b : Bs} {k : Nat} (hn : n < 1099511627776) : numOf (partB t n b k) = n := by
  have h : ((partB t n b k).drop 4).take 5 = be 5 n := by
    unfold partB pad
    rw [List.drop_take, List.take_take, Nat.min_eq_left (by omega)]
    simp only [List.append_assoc]
    exact mid (be_length 4 t) (be_length 5 n)
  unfold numOf
  rw [h, unbe_be, Nat.mod_eq_of_lt (by simpa using hn)]
theorem partB_size {t n : Nat} {b : Bs} {k : Nat} (hn : b.length < 65536) : sizeOf' (partB t n b k) = b.length := by
  have h : ((partB t n b k).drop 9).take 2 = be 2 b.length := by
    unfold partB pad
    rw [List.drop_take, List.take_take, Nat.min_eq_left (by omega)]
    simp only [List.append_assoc]
    rw [← List.append_assoc (be 4 t)]
    exact mid (by simp [be_length]) (be_length 2 _)
  unfold sizeOf'
  rw [h, unbe_be, Nat.mod_eq_of_lt (by simpa using hn)]
theorem sects_mul {n k : Nat} (h : k < sects n) : 52 * k < n ∨ (k = 0 ∧ n = 0) := by unfold sects at h; omega
theorem sects_end (n : Nat) : n ≤ 52 * sects n := by unfold sects; omega
/-- what is laid of bytes behind k sectors -/
theorem fit_step {size k : Nat} {b acc : Bs} (hb : b.length = size) (hk : k < sects size) (hl : acc.length = 52 * k) (h : acc.take size = b.take (52 * k)) :
    (acc ++ fitB 52 (b.drop (52 * k))).take size = b.take (52 * (k + 1)) := by
  have hm : 52 * k ≤ size := by rcases sects_mul hk with h | h <;> omega
  have ha : acc = b.take (52 * k) := by rw [← h, List.take_of_length_le (by omega)]
  rw [List.take_append, List.take_of_length_le (by omega), hl, ha]
  by_cases h52 : 52 * (k + 1) ≤ size
  · have e : fitB 52 (b.drop (52 * k)) = (b.drop (52 * k)).take 52 := by
      rw [fit52]
      have : 52 - (b.drop (52 * k)).length = 0 := by simp; omega
      rw [this]; simp [z8]
    rw [e, List.take_take, Nat.min_eq_right (by omega), Nat.mul_add, Nat.mul_one, List.take_add]
  · have e : (fitB 52 (b.drop (52 * k))).take (size - 52 * k) = b.drop (52 * k) := by
      rw [fit52, List.take_of_length_le (l := b.drop (52 * k)) (by simp; omega), List.take_append_of_le_length (by simp; omega), List.take_of_length_le (by simp; omega)]
    rw [e, List.take_append_drop, List.take_of_length_le (by omega)]
theorem fit_of {size k : Nat} {b acc : Bs} (hb : b.length = size) (hl : acc.length = 52 * k) (h : acc.take size = b.take (52 * k)) : fitB size acc = b.take (52 * k) ++ z8 (size - 52 * k) := by
  unfold fitB z8
  rw [List.take_append, h, List.take_replicate, hl]
  congr 2; omega
theorem part_fit {t n size k : Nat} {b acc : Bs} (hb : b.length = size) (hl : acc.length = 52 * (k + 1)) (h : acc.take size = b.take (52 * (k + 1))) : partB t n (fitB size acc) k = partB t n b k := by
  refine partB_congr (by rw [fitB_len, hb]) ?_
  rw [fit_of hb hl h]
  by_cases h52 : 52 * (k + 1) ≤ size
  · rw [List.drop_append_of_le_length (by simp; omega), List.take_append_of_le_length (by simp; omega), List.drop_take, List.take_take]
    congr 1; omega
  · have e : size - 52 * (k + 1) = 0 := by omega
    rw [e]
    simp only [z8, List.replicate_zero, List.append_nil]
    rw [List.drop_take, List.take_take]
    congr 1; omega
/-! ## a scan over sectors that stay -/
def entP (g : Nat → Blk) (m n at' turn size : Nat) : Nat → Nat → Bs → Option Bs
  | 0, _, acc => some (fitB size acc)
  | j + 1, k, acc => if partB turn n (fitB size (acc ++ (g (2 + (at' + k) % m)).drop 12)) k = g (2 + (at' + k) % m) then entP g m n at' turn size j (k + 1) (acc ++ (g (2 + (at' + k) % m)).drop 12) else none
theorem entP_some {g : Nat → Blk} {m n at' t size : Nat} {b : Bs} (hb : b.length = size) (hg : ∀ k, k < sects size → g (2 + (at' + k) % m) = partB t n b k) :
    ∀ (j k : Nat) (acc : Bs), j + k = sects size → acc.length = 52 * k → acc.take size = b.take (52 * k) → entP g m n at' t size j k acc = some b
  | 0, k, acc, hjk, hl, h => by
    have hk : k = sects size := by omega
    have he := sects_end size
    subst hk
    rw [entP, fit_of hb hl h, List.take_of_length_le (by omega)]
    have e : size - 52 * sects size = 0 := by omega
    rw [e]; simp [z8]
  | j + 1, k, acc, hjk, hl, h => by
    have hk : k < sects size := by omega
    have hgk := hg k hk
    have hst := fit_step hb hk hl h
    have hl2 : (acc ++ (partB t n b k).drop 12).length = 52 * (k + 1) := by simp [partB_len, hl]; omega
    rw [entP, hgk, if_pos]
    · exact entP_some hb hg j (k + 1) _ (by omega) hl2 (by rw [partB_drop]; exact hst)
    · exact part_fit hb hl2 (by rw [partB_drop]; exact hst)
theorem entP_inv {g : Nat → Blk} {m n at' t size : Nat} {b : Bs} (hg64 : ∀ q, (g (2 + q % m)).length = 64) : ∀ (j k : Nat) (acc : Bs), j + k = sects size → acc.length = 52 * k → entP g m n at' t size j k acc = some b →
    b.length = size ∧ acc.take size = b.take (52 * k) ∧ ∀ i, k ≤ i → i < sects size → g (2 + (at' + i) % m) = partB t n b i
  | 0, k, acc, hjk, hl, h => by
    have hk : k = sects size := by omega
    have he := sects_end size
    subst hk
    simp only [entP, Option.some.injEq] at h
    subst h
    refine ⟨fitB_len _ _, ?_, fun i h1 h2 => by omega⟩
    have : fitB size acc = acc.take size := by
      unfold fitB; rw [List.take_append_of_le_length (by omega)]
    rw [this, List.take_take, Nat.min_eq_right (by omega)]
  | j + 1, k, acc, hjk, hl, h => by
    have hk : k < sects size := by omega
    rw [entP] at h
    split at h
    · rename_i hp
      have hl2 : (acc ++ (g (2 + (at' + k) % m)).drop 12).length = 52 * (k + 1) := by simp [hg64, hl]; omega
      obtain ⟨h1, h2, h3⟩ := entP_inv hg64 j (k + 1) _ (by omega) hl2 h
      have hm : 52 * k ≤ size := by rcases sects_mul hk with h | h <;> omega
      refine ⟨h1, ?_, fun i hi1 hi2 => ?_⟩
      · have := congrArg (fun l : Bs => l.take (52 * k)) h2
        simp only [List.take_take] at this
        rw [Nat.min_eq_left hm, Nat.min_eq_left (by omega), List.take_append_of_le_length (by omega)] at this
        rw [← this, List.take_of_length_le (by omega), List.take_of_length_le (by omega)]
      · by_cases e : i = k
        · subst e; rw [← hp, part_fit h1 hl2 h2]
        · exact h3 i (by omega) hi2
    · cases h
def entP0 (g : Nat → Blk) (m T n at' left : Nat) : Option Bs :=
  if left = 0 then none
  else if turnOf (g (2 + at' % m)) < 1 ∨ T < turnOf (g (2 + at' % m)) ∨ 8000 < sizeOf' (g (2 + at' % m)) ∨ left < sects (sizeOf' (g (2 + at' % m))) then none
  else entP g m n at' (turnOf (g (2 + at' % m))) (sizeOf' (g (2 + at' % m))) (sects (sizeOf' (g (2 + at' % m)))) 0 []
theorem entP0_some {g : Nat → Blk} {m T n at' left t : Nat} {b : Bs} (ht : 1 ≤ t ∧ t ≤ T) (hT : T < 4294967296) (hb : b.length ≤ 8000) (hleft : sects b.length ≤ left) (hg : ∀ k, k < sects b.length → g (2 + (at' + k) % m) = partB t n b k) :
    entP0 g m T n at' left = some b := by
  have hp := sects_pos b.length
  have h0 := hg 0 (by omega)
  rw [Nat.add_zero] at h0
  unfold entP0
  rw [h0, partB_turn (by omega), partB_size (by omega), if_neg (by omega), if_neg (by omega)]
  exact entP_some rfl hg _ 0 [] (by omega) rfl (by simp)
theorem entP0_inv {g : Nat → Blk} {m T n at' left : Nat} {b : Bs} (hg64 : ∀ q, (g (2 + q % m)).length = 64) (h : entP0 g m T n at' left = some b) :
    ∃ t, 1 ≤ t ∧ t ≤ T ∧ b.length ≤ 8000 ∧ sects b.length ≤ left ∧ ∀ k, k < sects b.length → g (2 + (at' + k) % m) = partB t n b k := by
  unfold entP0 at h
  split at h
  · cases h
  · split at h
    · cases h
    · rename_i h1 h2
      obtain ⟨g1, g2, g3⟩ := entP_inv hg64 _ 0 [] (by omega) rfl h
      exact ⟨_, by omega, by omega, by omega, by rw [g1]; omega, fun k hk => g3 k (by omega) (by rw [← g1]; exact hk)⟩
/-- there is nothing whole of that number from a place on -/
def NoAt (g : Nat → Blk) (m pos n : Nat) : Prop := ∀ t b, 1 ≤ t → t ≤ 1073741824 → b.length ≤ 8000 → sects b.length ≤ m → ∃ k, k < sects b.length ∧ g (2 + (pos + k) % m) ≠ partB t n b k
theorem NoAt.scan {g : Nat → Blk} {m T n pos left : Nat} (h : NoAt g m pos n) (hg64 : ∀ q, (g (2 + q % m)).length = 64) (hl : left ≤ m) (hT : T ≤ 1073741824) : entP0 g m T n pos left = none := by
  cases he : entP0 g m T n pos left with
  | none => rfl
  | some b =>
    obtain ⟨t, h1, h2, h3, h4, h5⟩ := entP0_inv hg64 he
    obtain ⟨k, hk, hne⟩ := h t b h1 (by omega) h3 (by omega)
    exact absurd (h5 k hk) hne
def Has (g : Nat → Blk) (m T : Nat) : Nat → Nat → List Bs → Prop
  | _, _, [] => True
  | n, pos, b :: r => (∃ t, 1 ≤ t ∧ t ≤ T ∧ ∀ k, k < sects b.length → g (2 + (pos + k) % m) = partB t n b k) ∧ Has g m T (n + 1) (pos + sects b.length) r
theorem Has.frame {g g' : Nat → Blk} {m T : Nat} : ∀ {l : List Bs} {n pos pos' : Nat}, Has g m T n pos l → pos % m = pos' % m → (∀ j, j < usedL l → g' (2 + (pos + j) % m) = g (2 + (pos + j) % m)) → Has g' m T n pos' l
  | [], n, pos, pos', _, _, _ => trivial
  | b :: r, n, pos, pos', ⟨⟨t, h1, h2, h3⟩, h4⟩, hp, hg => by
    rw [usedL_cons] at hg
    refine ⟨⟨t, h1, h2, fun k hk => ?_⟩, ?_⟩
    · have e : (pos' + k) % m = (pos + k) % m := by rw [Nat.add_mod, ← hp, ← Nat.add_mod]
      rw [e, hg k (by omega), h3 k hk]
    · refine h4.frame (by rw [Nat.add_mod, hp, ← Nat.add_mod]) (fun j hj => ?_)
      have := hg (sects b.length + j) (by omega)
      rw [← Nat.add_assoc] at this; exact this
theorem Has.le {g : Nat → Blk} {m T T' : Nat} (hT : T ≤ T') : ∀ {l : List Bs} {n pos : Nat}, Has g m T n pos l → Has g m T' n pos l
  | [], _, _, _ => trivial
  | b :: r, n, pos, ⟨⟨t, h1, h2, h3⟩, h4⟩ => ⟨⟨t, h1, by omega, h3⟩, h4.le hT⟩
theorem Has.append {g : Nat → Blk} {m T : Nat} : ∀ {l l' : List Bs} {n pos : Nat}, Has g m T n pos l → Has g m T (n + l.length) (pos + usedL l) l' → Has g m T n pos (l ++ l')
  | [], l', n, pos, _, h => by simpa [usedL] using h
  | b :: r, l', n, pos, ⟨h1, h2⟩, h => by
    refine ⟨h1, h2.append ?_⟩
    rw [usedL_cons] at h
    rw [show n + 1 + r.length = n + (b :: r).length by simp; omega, Nat.add_assoc]; exact h
theorem Has.drop {g : Nat → Blk} {m T : Nat} : ∀ {l : List Bs} {n pos : Nat} (i : Nat), Has g m T n pos l → i ≤ l.length → Has g m T (n + i) (pos + usedL (l.take i)) (l.drop i)
  | l, n, pos, 0, h, _ => by simpa [usedL] using h
  | [], n, pos, i + 1, h, hi => by simp at hi
  | b :: r, n, pos, i + 1, ⟨h1, h2⟩, hi => by
    have := h2.drop i (by simpa using hi)
    simp only [List.take_succ_cons, List.drop_succ_cons, usedL_cons]
    rw [show n + (i + 1) = n + 1 + i by omega, ← Nat.add_assoc]; exact this
end Go.Proofs.E

namespace Go.Proofs.E
open Go
set_option linter.unusedVariables false
set_option linter.unusedSimpArgs false
set_option linter.unusedSectionVars false
set_option maxRecDepth 4000
set_option maxHeartbeats 1000000
attribute [local irreducible] Yl TL TC TE Spec YSpec R1 Hp.le EnvLe TS TR YS Stays
/-! ## disks with nothing in their caches -/
def img (D : DS) (i : Nat) : Blk := (D.secs[i]?.map (·.1)).getD (z8 64)
theorem img_at {D : DS} {i : Nat} (hi : i < D.secs.length) : img D i = D.secs[i].1 := by simp [img, hi]
theorem img_len {D : DS} (h : D.Ok) (i : Nat) : (img D i).length = 64 := by
  unfold img
  cases hs : D.secs[i]? with
  | none => simp [z8]
  | some p => simpa using h.secs.held p (List.mem_of_getElem? hs)
theorem img_congr {D D' : DS} (h : D'.secs = D.secs) : img D' = img D := by funext i; simp [img, h]
structure DS.Clean (D : DS) : Prop where
  ok : D.Ok
  calm : D.Calm
  empty : emptyC D.secs
theorem DS.Clean.read {D : DS} (h : D.Clean) {i : Nat} (hi : i < D.secs.length) : ∃ D', D.read (i : Int) = (D', img D i, 0) ∧ D'.Clean ∧ D'.secs = D.secs := by
  refine ⟨⟨D.secs, IntKind.i64.wrap (D.ops + 1), -1, -1, false⟩, ?_, ⟨DS.Ok.mk' h.ok.secs, DS.Calm.mk', h.empty⟩, rfl⟩
  · rw [h.calm.read_eq hi, img_at hi]
    simp [says1, h.empty _ (List.getElem_mem hi)]
theorem entGo_clean {h : Hd} {n at' t size : Nat} (hm : 0 < h.size) : ∀ (j k : Nat) (acc : Bs) (D : DS), D.Clean → h.size + 2 ≤ D.secs.length →
    ∃ D', entGo h n at' t size j k acc D = (entP (img D) h.size n at' t size j k acc, D', 0) ∧ D'.Clean ∧ D'.secs = D.secs
  | 0, k, acc, D, hD, hl => ⟨D, rfl, hD, rfl⟩
  | j + 1, k, acc, D, hD, hl => by
    have hlt : 2 + (at' + k) % h.size < D.secs.length := by have := Nat.mod_lt (at' + k) hm; omega
    obtain ⟨D1, e1, h1, h2⟩ := hD.read hlt
    unfold entGo entP
    rw [e1]
    rw [if_neg (by simp)]
    by_cases hp : partB t n (fitB size (acc ++ (img D (2 + (at' + k) % h.size)).drop 12)) k = img D (2 + (at' + k) % h.size)
    · rw [if_pos hp, if_pos hp]
      obtain ⟨D2, e2, h3, h4⟩ := entGo_clean hm j (k + 1) (acc ++ (img D (2 + (at' + k) % h.size)).drop 12) D1 h1 (by rw [h2]; exact hl)
      rw [img_congr h2] at e2
      exact ⟨D2, e2, h3, h4.trans h2⟩
    · rw [if_neg hp, if_neg hp]
      exact ⟨D1, rfl, h1, h2⟩
theorem entryR_clean {h : Hd} {n at' left : Nat} (hm : 0 < h.size) {D : DS} (hD : D.Clean) (hl : h.size + 2 ≤ D.secs.length) :
    ∃ D', entryR h n at' left D = (entP0 (img D) h.size h.turn n at' left, D', 0) ∧ D'.Clean ∧ D'.secs = D.secs := by
  unfold entryR entP0
  split
  · exact ⟨D, rfl, hD, rfl⟩
  · have hlt : 2 + at' % h.size < D.secs.length := by have := Nat.mod_lt at' hm; omega
    obtain ⟨D1, e1, h1, h2⟩ := hD.read hlt
    rw [e1, if_neg (by simp)]
    unfold entGo0
    split
    · exact ⟨D1, rfl, h1, h2⟩
    · have hs := sects_pos (sizeOf' (img D (2 + at' % h.size)))
      have e : sects (sizeOf' (img D (2 + at' % h.size))) = (sects (sizeOf' (img D (2 + at' % h.size))) - 1) + 1 := by omega
      rw [e, entP]
      simp only [Nat.add_zero, List.nil_append, Nat.zero_add, Nat.add_sub_cancel]
      split
      · obtain ⟨D2, e2, h3, h4⟩ := entGo_clean (n := n) (at' := at') (t := turnOf (img D (2 + at' % h.size))) (size := sizeOf' (img D (2 + at' % h.size))) hm (sects (sizeOf' (img D (2 + at' % h.size))) - 1) 1 ((img D (2 + at' % h.size)).drop 12) D1 h1 (by rw [h2]; exact hl)
        rw [img_congr h2] at e2
        exact ⟨D2, e2, h3, h4.trans h2⟩
      · exact ⟨D1, rfl, h1, h2⟩
theorem found_clean : ∀ (l : List Bs) (f : Nat) (R : RgS) (D : DS), D.Clean → 0 < R.h.size → R.h.size + 2 ≤ D.secs.length → R.h.turn ≤ 1073741824 → Has (img D) R.h.size R.h.turn R.next (R.h.place + R.used) l → (∀ b ∈ l, b.length ≤ 8000) →
    R.used + usedL l ≤ R.h.size → (R.next + l.length < 1099511627776 → NoAt (img D) R.h.size (R.h.place + R.used + usedL l) (R.next + l.length)) → R.next + l.length ≤ 1099511627776 → l.length < f →
    ∃ D', foundGo f R D = ({ R with ents := R.ents ++ l, used := R.used + usedL l }, D', 0) ∧ D'.Clean ∧ D'.secs = D.secs
  | _, 0, _, _, _, _, _, _, _, _, _, _, _, h => by omega
  | [], f + 1, R, D, hD, hm, hl, hT, _, _, hfit, hno, hn, hf => by
    unfold foundGo
    have hR : ({ R with ents := R.ents ++ [], used := R.used + usedL [] } : RgS) = R := by simp [usedL]
    rw [hR]
    by_cases hlt : R.next < 1099511627776
    · rw [if_pos hlt]
      obtain ⟨D', e1, h1, h2⟩ := entryR_clean (h := R.h) (n := R.next) (at' := R.h.place + R.used) (left := R.h.size - R.used) hm hD hl
      have := (hno (by simpa using hlt)).scan (T := R.h.turn) (left := R.h.size - R.used) (fun q => img_len hD.ok _) (by omega) hT
      simp only [usedL, List.map_nil, List.sum_nil, Nat.add_zero, List.length_nil] at this
      rw [e1, this]
      exact ⟨D', rfl, h1, h2⟩
    · rw [if_neg hlt]
      exact ⟨D, rfl, hD, rfl⟩
  | b :: r, f + 1, R, D, hD, hm, hl, hT, hhas, hlong, hfit, hno, hn, hf => by
    obtain ⟨⟨t, h1, h2, h3⟩, h4⟩ := hhas
    simp only [usedL_cons] at hfit hno
    simp only [List.length_cons] at hn hno hf
    unfold foundGo
    rw [if_pos (by omega)]
    obtain ⟨D1, e1, g1, g2⟩ := entryR_clean (h := R.h) (n := R.next) (at' := R.h.place + R.used) (left := R.h.size - R.used) hm hD hl
    rw [entP0_some ⟨h1, h2⟩ (by omega) (hlong b (by simp)) (by omega) h3] at e1
    rw [e1]
    simp only [if_true]
    have hnx : (R.adds b).next = R.next + 1 := by simp [RgS.adds, RgS.next]; omega
    obtain ⟨D2, e2, g3, g4⟩ := found_clean r f (R.adds b) D1 g1 hm (by rw [g2]; exact hl) hT (by
      rw [hnx, img_congr g2]
      have : (R.adds b).h.place + (R.adds b).used = R.h.place + R.used + sects b.length := by simp [RgS.adds]; omega
      rw [this]; exact h4) (fun c hc => hlong c (by simp [hc])) (by simp only [RgS.adds]; omega) (fun hlt => by
      rw [hnx, img_congr g2] at *
      have e : (R.adds b).h.place + (R.adds b).used + usedL r = R.h.place + R.used + (sects b.length + usedL r) := by simp [RgS.adds]; omega
      rw [e, show R.next + 1 + r.length = R.next + (r.length + 1) by omega]
      exact hno (by omega)) (by rw [hnx]; omega) (by omega)
    refine ⟨D2, ?_, g3, g4.trans g2⟩
    rw [e2]
    simp [RgS.adds, usedL_cons, Nat.add_assoc]
/-! ## heads -/
theorem headB_eq {h : Hd} (hn : h.note.length ≤ 32) : headB h = letB ++ (be 4 h.turn ++ (be 2 h.size ++ (be 5 h.first ++ (be 2 h.place ++ ([UInt8.ofNat h.note.length] ++ (h.note ++ z8 (42 - h.note.length))))))) := by
  unfold headB
  rw [pad_of (by simp [be_length, letB]; omega)]
  simp only [List.append_assoc, List.cons_append, List.nil_append]
  have e : 64 - (letB ++ (be 4 h.turn ++ (be 2 h.size ++ (be 5 h.first ++ (be 2 h.place ++ (UInt8.ofNat h.note.length :: h.note)))))).length = 42 - h.note.length := by simp [be_length, letB]; omega
  rw [e]
theorem headOf_headB {h : Hd} (hr : h.Right h.note.length) (hf : h.first < 1099511627776) : headOf (headB h) = h ∧ ((headB h).getD 21 0).toNat = h.note.length := by
  obtain ⟨h1, h2, h3, h4, h5, h6, h7, h8⟩ := hr
  have e := headB_eq h8
  have hl : letB.length = 8 := rfl
  have hb4 := be_length 4 h.turn
  have hb2 := be_length 2 h.size
  have hb5 := be_length 5 h.first
  have hbp := be_length 2 h.place
  have hn8 : h.note.length < 256 := by omega
  have e21 : (headB h).getD 21 0 = UInt8.ofNat h.note.length := by
    rw [e, ← List.append_assoc, ← List.append_assoc, ← List.append_assoc, ← List.append_assoc]
    rw [List.getD_eq_getElem?_getD, List.getElem?_append_right (by simp [hl, hb4, hb2, hb5, hbp])]
    simp [hl, hb4, hb2, hb5, hbp]
  have en : (UInt8.ofNat h.note.length).toNat = h.note.length := by simp; omega
  refine ⟨?_, by rw [e21, en]⟩
  unfold headOf
  have f1 : ((headB h).drop 8).take 4 = be 4 h.turn := by rw [e]; exact mid hl hb4
  have f2 : ((headB h).drop 12).take 2 = be 2 h.size := by
    rw [e, ← List.append_assoc]; exact mid (by simp [hl, hb4]) hb2
  have f3 : ((headB h).drop 14).take 5 = be 5 h.first := by
    rw [e, ← List.append_assoc, ← List.append_assoc]; exact mid (by simp [hl, hb4, hb2]) hb5
  have f4 : ((headB h).drop 19).take 2 = be 2 h.place := by
    rw [e, ← List.append_assoc, ← List.append_assoc, ← List.append_assoc]; exact mid (by simp [hl, hb4, hb2, hb5]) hbp
  have f5 : ((headB h).drop 22).take h.note.length = h.note := by
    rw [e, ← List.append_assoc, ← List.append_assoc, ← List.append_assoc, ← List.append_assoc, ← List.append_assoc]; exact mid (by simp [hl, hb4, hb2, hb5, hbp]) rfl
  have g1 : h.turn % 256 ^ 4 = h.turn := Nat.mod_eq_of_lt (by simp; omega)
  have g2 : h.size % 256 ^ 2 = h.size := Nat.mod_eq_of_lt (by simp; omega)
  have g3 : h.first % 256 ^ 5 = h.first := Nat.mod_eq_of_lt (by simp; omega)
  have g4 : h.place % 256 ^ 2 = h.place := Nat.mod_eq_of_lt (by simp; omega)
  rw [e21, en, f1, f2, f3, f4, f5, unbe_be, unbe_be, unbe_be, unbe_be, g1, g2, g3, g4]
theorem readB_headB {h : Hd} (hr : h.Right h.note.length) (hf : h.first < 1099511627776) : readB (headB h) = (h, true) := by
  obtain ⟨h1, h2⟩ := headOf_headB hr hf
  unfold readB
  rw [h1, h2, if_pos hr]; simp
theorem RgS.Ok.right {R : RgS} (h : R.Ok) : R.h.Right R.h.note.length := ⟨h.turn.1, h.turn.2, h.size.1, h.size.2, h.first, by have := h.next; unfold RgS.next at this; omega, h.place, h.note⟩
end Go.Proofs.E

namespace Go.Proofs.E
open Go
set_option linter.unusedVariables false
set_option linter.unusedSimpArgs false
set_option linter.unusedSectionVars false
set_option maxRecDepth 4000
set_option maxHeartbeats 1000000
attribute [local irreducible] Yl TL TC TE Spec YSpec R1 Hp.le EnvLe TS TR YS Stays
/-! ## what a disk says of a ring -/
structure RO (R : RgS) (D : DS) : Prop where
  ok : R.Ok
  live : R.broken = false
  num : R.h.first < 1099511627776
  dok : D.Ok
  alive : D.dead = false
  empty : emptyC D.secs
  len : R.h.size + 2 ≤ D.secs.length
  head : img D (R.h.turn % 2) = headB R.h
  other : (readB (img D ((R.h.turn + 1) % 2))).2 = true → (readB (img D ((R.h.turn + 1) % 2))).1.turn < R.h.turn
  has : Has (img D) R.h.size R.h.turn R.h.first R.h.place R.ents
  none : R.next < 1099511627776 → NoAt (img D) R.h.size (R.h.place + R.used) R.next
  bound : ∀ q, q < R.h.size → turnOf (img D (2 + q)) ≤ R.h.turn ∧ numOf (img D (2 + q)) ≤ R.next
/-- and nothing of the entry that is next was written in this turn -/
def Frs (R : RgS) (D : DS) : Prop := ∀ q, q < R.h.size → ¬ (turnOf (img D (2 + q)) = R.h.turn ∧ numOf (img D (2 + q)) = R.next)
theorem mod2 (t : Nat) : t % 2 = 0 ∧ (t + 1) % 2 = 1 ∨ t % 2 = 1 ∧ (t + 1) % 2 = 0 := by omega
theorem RO.counts {R : RgS} {D : DS} (h : RO R D) : countsB (img D 0) (img D 1) = (R.h, true) := by
  have hr := readB_headB h.ok.right h.num
  have ho := h.other
  have hh := h.head
  rcases mod2 R.h.turn with ⟨e1, e2⟩ | ⟨e1, e2⟩
  · rw [e1] at hh; rw [e2] at ho
    unfold countsB
    rw [hh, hr]
    cases hy : (readB (img D 1)).2 with
    | false => simp
    | true => have := ho hy; simp; omega
  · rw [e1] at hh; rw [e2] at ho
    unfold countsB
    rw [hh, hr]
    cases hy : (readB (img D 0)).2 with
    | false => simp
    | true => have := ho hy; simp; omega
/-- what is on a disk behind writes, settled by some of them -/
theorem img_settled {s : Secs} {keep : Nat → Bool} {D : DS} {l : List (Nat × Blk)} (he : emptyC s) (hs : D.secs = settled keep (putAll s l)) (D0 : DS) (h0 : D0.secs = s) (i : Nat) : img D i = img D0 i ∨ ∃ p ∈ l, p.1 = i ∧ img D i = p.2 := by
  by_cases hi : i < s.length
  · have hl : i < D.secs.length := by rw [hs, settled_length, putAll_length]; exact hi
    have h' : i < (settled keep (putAll s l)).length := by rw [settled_length, putAll_length]; exact hi
    have e1 : img D i = (settled keep (putAll s l))[i].1 := by rw [img_at hl]; congr 1; simp [hs]
    have e2 : img D0 i = s[i].1 := by rw [img_at (by rw [h0]; exact hi)]; simp [h0]
    rcases settled_one (keep := keep) he l hi h' with h | ⟨p, hp, h1, h2⟩
    · left; rw [e1, e2, h]
    · right; exact ⟨p, hp, h1, by rw [e1, h2]⟩
  · left
    have a : D.secs[i]? = none := List.getElem?_eq_none (by rw [hs, settled_length, putAll_length]; omega)
    have b : D0.secs[i]? = none := List.getElem?_eq_none (by rw [h0]; omega)
    unfold img; rw [a, b]
theorem img_all {s : Secs} {D : DS} {l : List (Nat × Blk)} (he : emptyC s) (hs : D.secs = settled (fun _ => true) (putAll s l)) (D0 : DS) (h0 : D0.secs = s) {i : Nat} (hi : i < s.length) : (img D i = img D0 i ∧ ∀ p ∈ l, p.1 ≠ i) ∨ ∃ p ∈ l, p.1 = i ∧ img D i = p.2 := by
  have hl : i < D.secs.length := by rw [hs, settled_length, putAll_length]; exact hi
  have h' : i < (settled (fun _ => true) (putAll s l)).length := by rw [settled_length, putAll_length]; exact hi
  have e1 : img D i = (settled (fun _ => true) (putAll s l))[i].1 := by rw [img_at hl]; congr 1; simp [hs]
  have e2 : img D0 i = s[i].1 := by rw [img_at (by rw [h0]; exact hi)]; simp [h0]
  rcases settled_all he l hi h' with ⟨h, h2⟩ | ⟨p, hp, h1, h2⟩
  · left; exact ⟨by rw [e1, e2, h], h2⟩
  · right; exact ⟨p, hp, h1, by rw [e1, h2]⟩
/-- a head in the place of the older one: whatever else there is stays -/
theorem RO.newHead {R : RgS} {D D' : DS} {h' : Hd} {l : List Bs} {u : Nat} (h : RO R D) (hok : D'.Ok) (hal : D'.dead = false) (hem : emptyC D'.secs) (hlen : D'.secs.length = D.secs.length)
    (hi : img D' ((R.h.turn + 1) % 2) = headB h') (hs : ∀ i, i ≠ (R.h.turn + 1) % 2 → img D' i = img D i) (ht : h'.turn = R.h.turn + 1) (hz : h'.size = R.h.size)
    (hR : RgS.Ok ⟨h', l, u, false⟩) (hnum : h'.first < 1099511627776) (hhas : Has (img D) h'.size h'.turn h'.first h'.place l) (hpl : (h'.place + u) % h'.size = (R.h.place + R.used) % h'.size) (hn : h'.first + l.length = R.next) :
    RO ⟨h', l, u, false⟩ D' ∧ Frs ⟨h', l, u, false⟩ D' := by
  have hsec : ∀ q, img D' (2 + q) = img D (2 + q) := fun q => hs (2 + q) (by omega)
  have hold : img D' (R.h.turn % 2) = headB R.h := by rw [hs _ (by omega)]; exact h.head
  have hrd := readB_headB h.ok.right h.num
  refine ⟨⟨hR, rfl, hnum, hok, hal, hem, by dsimp only; rw [hlen, hz]; exact h.len, by dsimp only; rw [ht]; exact hi, ?_, ?_, ?_, ?_⟩, ?_⟩
  · dsimp only
    rw [ht, show (R.h.turn + 1 + 1) % 2 = R.h.turn % 2 by omega, hold, hrd]
    intro _; dsimp only; omega
  · exact hhas.frame rfl (fun j _ => hsec _)
  · intro hlt t b h1 h1' h2 h3
    dsimp only [RgS.next] at hlt ⊢
    rw [hn] at hlt ⊢
    dsimp only at h3
    rw [hz] at h3 hpl ⊢
    obtain ⟨k, hk, hne⟩ := h.none hlt t b h1 h1' h2 h3
    refine ⟨k, hk, ?_⟩
    have e : (h'.place + u + k) % R.h.size = (R.h.place + R.used + k) % R.h.size := by rw [Nat.add_mod, hpl, ← Nat.add_mod]
    rw [e, hsec]; exact hne
  · intro q hq
    dsimp only [RgS.next] at hq ⊢
    rw [hz] at hq
    have := h.bound q hq
    rw [hsec, hn, ht]; omega
  · intro q hq hc
    dsimp only [RgS.next] at hq hc
    rw [hz] at hq
    have := h.bound q hq
    rw [hsec, ht] at hc; omega
theorem headL_idx {h : Hd} {p : Nat × Blk} (hp : p ∈ headL h) : p.1 = h.turn % 2 ∧ p.2 = headB h := by
  simp only [headL, List.mem_singleton] at hp; subst hp; exact ⟨rfl, rfl⟩
theorem emptyC_lays {D : DS} {l : List (Nat × Blk)} {keep : Nat → Bool} (h : D.secs = settled keep (putAll D.secs l)) : emptyC D.secs := by rw [h]; exact emptyC_settled
/-- what a ring is behind an Open -/
def RgS.again (R : RgS) : RgS := { R with h := { R.h with turn := R.h.turn + 1 } }
theorem RO.open {R : RgS} {D : DS} (h : RO R D) (hc : D.Calm) (ht : R.h.turn < 1073741824) : ∃ D', openR D = (some R.again, D', 0) ∧ RO R.again D' ∧ Frs R.again D' ∧ D'.Calm ∧ D'.secs.length = D.secs.length := by
  have hcl : D.Clean := ⟨h.dok, hc, h.empty⟩
  have hsz := h.ok.size
  have hlen := h.len
  have hus := h.ok.used
  have hnx := h.ok.next
  obtain ⟨D1, e1, c1, s1⟩ := hcl.read (i := 0) (by omega)
  obtain ⟨D2, e2, c2, s2⟩ := c1.read (i := 1) (by rw [s1]; omega)
  rw [img_congr s1] at e2
  have hcnt := h.counts
  have hs2 : D2.secs = D.secs := s2.trans s1
  obtain ⟨D3, e3, c3, s3⟩ := found_clean R.ents (R.h.size + 1) ⟨R.h, [], 0, false⟩ D2 c2 (by dsimp only; omega) (by rw [hs2]; exact hlen) (by dsimp only; omega) (by
      rw [img_congr hs2]; simpa [RgS.next] using h.has) h.ok.long (by dsimp only; have := h.ok.fit; omega) (fun hlt => by
      rw [img_congr hs2]
      have := h.none (by unfold RgS.next; simpa [RgS.next] using hlt)
      rw [hus] at this
      simpa [RgS.next] using this) (by unfold RgS.next at hnx; simpa [RgS.next] using hnx) (by have := usedL_len R.ents; have := h.ok.fit; omega)
  have hs3 : D3.secs = D.secs := s3.trans hs2
  have hidx : ∀ p ∈ headL { R.h with turn := R.h.turn + 1 }, p.1 < D3.secs.length := fun p hp => by
    rw [(headL_idx hp).1, hs3]; omega
  obtain ⟨l0, l1, l2⟩ := Calm_lays (headL { R.h with turn := R.h.turn + 1 }) D3 c3.calm hidx
  have hD4ok : (DS.lays (headL { R.h with turn := R.h.turn + 1 }) D3).1.Ok := c3.ok.lays (fun p hp => by rw [(headL_idx hp).2]; exact headB_len _)
  have hall := fun {i : Nat} (hi : i < D3.secs.length) => img_all (D := (DS.lays (headL { R.h with turn := R.h.turn + 1 }) D3).1) c3.empty l2 D3 rfl hi
  have hR : ({ R with h := { R.h with turn := R.h.turn + 1 } } : RgS) = ⟨{ R.h with turn := R.h.turn + 1 }, R.ents, R.used, false⟩ := by rw [← h.live]
  have hok' : RgS.Ok ⟨{ R.h with turn := R.h.turn + 1 }, R.ents, R.used, false⟩ := ⟨⟨by dsimp only; omega, by dsimp only; omega⟩, h.ok.size, h.ok.first, h.ok.next, h.ok.place, h.ok.note, h.ok.used, h.ok.fit, h.ok.long⟩
  have hnew := h.newHead (D' := (DS.lays (headL { R.h with turn := R.h.turn + 1 }) D3).1) (h' := { R.h with turn := R.h.turn + 1 }) (l := R.ents) (u := R.used) hD4ok l1.dead (by rw [l2]; exact emptyC_settled)
    (by rw [lays_length, hs3]) (by
      rcases hall (i := (R.h.turn + 1) % 2) (by rw [hs3]; omega) with ⟨_, hno⟩ | ⟨p, hp, _, hq⟩
      · exact absurd rfl (hno _ (List.mem_singleton.2 rfl))
      · rw [hq, (headL_idx hp).2]) (fun i hi => by
      rw [← img_congr hs3]
      rcases img_settled c3.empty l2 D3 rfl i with he | ⟨p, hp, h1, _⟩
      · exact he
      · exact absurd (by rw [← h1, (headL_idx hp).1]) hi) rfl rfl hok' h.num (h.has.le (by dsimp only; omega)) rfl rfl
  refine ⟨(DS.lays (headL { R.h with turn := R.h.turn + 1 }) D3).1, ?_, by unfold RgS.again; rw [hR]; exact hnew.1, by unfold RgS.again; rw [hR]; exact hnew.2, l1, by rw [lays_length, hs3]⟩
  have e1' : D.read 0 = (D1, img D 0, 0) := e1
  have e2' : D1.read 1 = (D2, img D 1, 0) := e2
  have hul : usedL R.ents = R.used := hus.symm
  have hfin : openH R.h D2 = (some ⟨{ R.h with turn := R.h.turn + 1 }, R.ents, R.used, false⟩, (DS.lays (headL { R.h with turn := R.h.turn + 1 }) D3).1, 0) := by
    unfold openH
    rw [if_neg (by rw [hs2]; omega), e3, if_neg (by simp), if_neg (by omega), if_pos l0]
    simp only [List.nil_append, Nat.zero_add, hul]
    refine Prod.ext rfl (Prod.ext rfl l0)
  unfold openR
  rw [e1', if_neg (by simp), e2', if_neg (by simp), hcnt, if_neg (by simp), hfin]
  unfold RgS.again
  rw [hR]
end Go.Proofs.E

namespace Go.Proofs.E
open Go
set_option linter.unusedVariables false
set_option linter.unusedSimpArgs false
set_option linter.unusedSectionVars false
set_option maxRecDepth 4000
set_option maxHeartbeats 1000000
attribute [local irreducible] Yl TL TC TE Spec YSpec R1 Hp.le EnvLe TS TR YS Stays
/-! ## entries that are appended, or cut off -/
theorem mod_inj {p m i j : Nat} (h : (p + i) % m = (p + j) % m) (hi : i < m) (hj : j < m) : i = j := by
  have key : ∀ i j : Nat, i < m → j < m → i ≤ j → (p + i) % m = (p + j) % m → i = j := by
    intro i j hi hj hle h
    have h1 := Nat.div_add_mod (p + i) m
    have h2 := Nat.div_add_mod (p + j) m
    have h3 : m * ((p + j) / m) = m * ((p + i) / m) + (j - i) := by omega
    have h4 : (j - i) = m * ((p + j) / m - (p + i) / m) := by rw [Nat.mul_sub]; omega
    rcases Nat.eq_zero_or_pos ((p + j) / m - (p + i) / m) with h0 | h0
    · rw [h0] at h4; omega
    · have : m * 1 ≤ m * ((p + j) / m - (p + i) / m) := Nat.mul_le_mul_left m h0
      omega
  rcases Nat.le_total i j with hle | hle
  · exact key i j hi hj hle h
  · exact (key j i hj hi hle h.symm).symm
theorem partsL_mem {h : Hd} {n at' : Nat} {b : Bs} {p : Nat × Blk} : p ∈ partsL h n b at' ↔ ∃ k, k < sects b.length ∧ p = (2 + (at' + k) % h.size, partB h.turn n b k) := by
  simp only [partsL, List.mem_map, List.mem_range]
  constructor
  · rintro ⟨k, h1, rfl⟩; exact ⟨k, h1, rfl⟩
  · rintro ⟨k, h1, rfl⟩; exact ⟨k, h1, rfl⟩
def RgS.plus (R : RgS) (b : Bs) : RgS := ⟨R.h, R.ents ++ [b], R.used + sects b.length, false⟩
section
variable {R : RgS} {D D' : DS} {b : Bs}
structure Wrote (R : RgS) (D D' : DS) (b : Bs) : Prop where
  ok : D'.Ok
  alive : D'.dead = false
  empty : emptyC D'.secs
  len : D'.secs.length = D.secs.length
  at' : ∀ i, img D' i = img D i ∨ ∃ k, k < sects b.length ∧ i = 2 + (R.h.place + R.used + k) % R.h.size ∧ img D' i = partB R.h.turn R.next b k
theorem Wrote.old (w : Wrote R D D' b) (h : RO R D) (hfit : sects b.length ≤ R.h.size - R.used) {j : Nat} (hj : j < R.used) : img D' (2 + (R.h.place + j) % R.h.size) = img D (2 + (R.h.place + j) % R.h.size) := by
  rcases w.at' (2 + (R.h.place + j) % R.h.size) with h1 | ⟨k, hk, he, _⟩
  · exact h1
  · have := mod_inj (p := R.h.place) (i := j) (j := R.used + k) (m := R.h.size) (by rw [← Nat.add_assoc]; omega) (by omega) (by omega)
    omega
theorem Wrote.heads (w : Wrote R D D' b) {i : Nat} (hi : i < 2) : img D' i = img D i := by
  rcases w.at' i with h1 | ⟨k, hk, he, _⟩
  · exact h1
  · omega
theorem Wrote.bound (w : Wrote R D D' b) (h : RO R D) (hn : R.next < 1099511627776) {q : Nat} (hq : q < R.h.size) : turnOf (img D' (2 + q)) ≤ R.h.turn ∧ numOf (img D' (2 + q)) ≤ R.next := by
  have ht := h.ok.turn
  rcases w.at' (2 + q) with h1 | ⟨k, hk, _, he⟩
  · rw [h1]; exact h.bound q hq
  · rw [he, partB_turn (by omega), partB_num hn]; omega
theorem Wrote.whole (w : Wrote R D D' b) (h : RO R D) (hb : b.length ≤ 8000) (hfit : sects b.length ≤ R.h.size - R.used) (hn : R.next < 1099511627776)
    (hall : ∀ k, k < sects b.length → img D' (2 + (R.h.place + R.used + k) % R.h.size) = partB R.h.turn R.next b k) : RO (R.plus b) D' ∧ Frs (R.plus b) D' := by
  have ht := h.ok.turn
  have hnx : (R.plus b).next = R.next + 1 := by simp [RgS.plus, RgS.next]; omega
  have hsz := h.ok.size
  refine ⟨⟨⟨h.ok.turn, h.ok.size, h.ok.first, by rw [hnx]; omega, h.ok.place, h.ok.note, ?_, ?_, ?_⟩, rfl, h.num, w.ok, w.alive, w.empty, by rw [w.len]; exact h.len, ?_, ?_, ?_, ?_, ?_⟩, ?_⟩
  · simp only [RgS.plus, usedL_append, h.ok.used]; simp [usedL]
  · have := h.ok.fit
    simp only [RgS.plus]; omega
  · intro c hc
    simp only [RgS.plus, List.mem_append, List.mem_singleton] at hc
    rcases hc with hc | rfl
    · exact h.ok.long c hc
    · exact hb
  · rw [w.heads (by simp only [RgS.plus]; omega)]; exact h.head
  · intro h1
    rw [w.heads (by simp only [RgS.plus]; omega)] at h1 ⊢
    exact h.other h1
  · have hu := h.ok.used
    refine Has.append (h.has.frame rfl (fun j hj => w.old h hfit (by rw [hu]; exact hj))) ⟨⟨R.h.turn, ht.1, Nat.le_refl _, fun k hk => ?_⟩, trivial⟩
    have := hall k hk
    rw [hu] at this; exact this
  · intro hlt t c h1 h2 h3 h4
    rw [hnx] at hlt ⊢
    refine ⟨0, by have := sects_pos c.length; omega, fun he => ?_⟩
    have hb1 := (w.bound h hn (q := ((R.plus b).h.place + (R.plus b).used + 0) % (R.plus b).h.size) (Nat.mod_lt _ (by simp only [RgS.plus]; omega))).2
    rw [he, partB_num hlt] at hb1
    omega
  · intro q hq
    have := w.bound h hn hq
    rw [hnx]; simp only [RgS.plus]; omega
  · intro q hq hc
    have := (w.bound h hn hq).2
    rw [hnx] at hc; omega
theorem Wrote.torn (w : Wrote R D D' b) (h : RO R D) (hf : Frs R D) (hb : b.length ≤ 8000) (hfit : sects b.length ≤ R.h.size - R.used) (hn : R.next < 1099511627776)
    {k0 : Nat} (hk0 : k0 < sects b.length) (hne : img D' (2 + (R.h.place + R.used + k0) % R.h.size) ≠ partB R.h.turn R.next b k0) : RO R D' := by
  have ht := h.ok.turn
  have hsz := h.ok.size
  refine ⟨h.ok, h.live, h.num, w.ok, w.alive, w.empty, by rw [w.len]; exact h.len, ?_, ?_, ?_, ?_, fun q hq => w.bound h hn hq⟩
  · rw [w.heads (by omega)]; exact h.head
  · intro h1
    rw [w.heads (by omega)] at h1 ⊢
    exact h.other h1
  · have hu := h.ok.used
    exact h.has.frame rfl (fun j hj => w.old h hfit (by rw [hu]; exact hj))
  · intro hlt t c h1 h1' h2 h3
    by_cases hex : ∃ k, k < sects c.length ∧ img D' (2 + (R.h.place + R.used + k) % R.h.size) ≠ partB t R.next c k
    · exact hex
    · exfalso
      have hall : ∀ k, k < sects c.length → img D' (2 + (R.h.place + R.used + k) % R.h.size) = partB t R.next c k := fun k hk => by
        by_cases he : img D' (2 + (R.h.place + R.used + k) % R.h.size) = partB t R.next c k
        · exact he
        · exact absurd ⟨k, hk, he⟩ hex
      by_cases hT : t = R.h.turn
      · subst hT
        have hnew : ∀ k, k < sects c.length → k < sects b.length ∧ img D' (2 + (R.h.place + R.used + k) % R.h.size) = partB R.h.turn R.next b k := fun k hk => by
          rcases w.at' (2 + (R.h.place + R.used + k) % R.h.size) with e | ⟨k2, hk2, he, e⟩
          · exfalso
            have hq : (R.h.place + R.used + k) % R.h.size < R.h.size := Nat.mod_lt _ (by omega)
            refine hf _ hq ?_
            rw [← e, hall k hk, partB_turn (by omega), partB_num hlt]
            exact ⟨rfl, rfl⟩
          · have : k = k2 := mod_inj (p := R.h.place + R.used) (m := R.h.size) (by omega) (by omega) (by omega)
            subst this
            exact ⟨hk2, e⟩
        have h0 := sects_pos c.length
        have hsame := (hall 0 (by omega)).symm.trans (hnew 0 (by omega)).2
        have hlen : c.length = b.length := by
          have := congrArg sizeOf' hsame
          rwa [partB_size (by omega), partB_size (by omega)] at this
        exact hne (hnew k0 (by rw [hlen]; exact hk0)).2
      · obtain ⟨k, hk, hne2⟩ := h.none hlt t c h1 h1' h2 h3
        refine hne2 ?_
        rcases w.at' (2 + (R.h.place + R.used + k) % R.h.size) with e | ⟨k2, hk2, he, e⟩
        · rw [← e]; exact hall k hk
        · exfalso
          have := (hall k hk).symm.trans e
          have := congrArg turnOf this
          rw [partB_turn (by omega), partB_turn (by omega)] at this
          exact hT this
end
theorem RO.wrote {R : RgS} {D D' : DS} {b : Bs} {keep : Nat → Bool} {l : List (Nat × Blk)} (h : RO R D) (hl : l <+: partsL R.h R.next b (R.h.place + R.used)) (hok : D'.Ok) (hal : D'.dead = false) (hs : D'.secs = settled keep (putAll D.secs l)) : Wrote R D D' b :=
  ⟨hok, hal, by rw [hs]; exact emptyC_settled, by rw [hs, settled_length, putAll_length], fun i => by
    rcases img_settled h.empty hs D rfl i with e | ⟨p, hp, h1, h2⟩
    · exact .inl e
    · obtain ⟨k, hk, rfl⟩ := partsL_mem.1 (hl.subset hp)
      exact .inr ⟨k, hk, h1.symm, h2⟩⟩
theorem RO.append {R : RgS} {D : DS} {b : Bs} (h : RO R D) (hf : Frs R D) (hb : b.length ≤ 8000) (hfit : sects b.length ≤ R.h.size - R.used) (hn : R.next < 1099511627776) :
    ((DS.lays (partsL R.h R.next b (R.h.place + R.used)) D).2 = 0 → RO (R.plus b) (DS.lays (partsL R.h R.next b (R.h.place + R.used)) D).1 ∧ Frs (R.plus b) (DS.lays (partsL R.h R.next b (R.h.place + R.used)) D).1) ∧
    ((DS.lays (partsL R.h R.next b (R.h.place + R.used)) D).2 ≠ 0 → ∀ keep, RO R ((DS.lays (partsL R.h R.next b (R.h.place + R.used)) D).1.crash keep) ∨ RO (R.plus b) ((DS.lays (partsL R.h R.next b (R.h.place + R.used)) D).1.crash keep)) := by
  have hsz := h.ok.size
  have hlen := h.len
  have hok : (DS.lays (partsL R.h R.next b (R.h.place + R.used)) D).1.Ok := h.dok.lays partsL_len
  have hidx : ∀ p ∈ partsL R.h R.next b (R.h.place + R.used), p.1 < D.secs.length := fun p hp => by
    obtain ⟨k, hk, rfl⟩ := partsL_mem.1 hp
    have := Nat.mod_lt (R.h.place + R.used + k) (show 0 < R.h.size by omega)
    dsimp only; omega
  rcases lays_out (partsL R.h R.next b (R.h.place + R.used)) D h.alive hidx with ⟨l', hl', hs, hc⟩ | ⟨hs, hc, hal⟩
  · refine ⟨fun h0 => absurd h0 hc, fun _ keep => ?_⟩
    have w : Wrote R D ((DS.lays (partsL R.h R.next b (R.h.place + R.used)) D).1.crash keep) b := h.wrote hl' hok.crash rfl (by simp only [DS.crash]; rw [hs])
    by_cases hex : ∃ k, k < sects b.length ∧ img ((DS.lays (partsL R.h R.next b (R.h.place + R.used)) D).1.crash keep) (2 + (R.h.place + R.used + k) % R.h.size) ≠ partB R.h.turn R.next b k
    · obtain ⟨k, hk, hne⟩ := hex
      exact .inl (w.torn h hf hb hfit hn hk hne)
    · refine .inr (w.whole h hb hfit hn (fun k hk => ?_)).1
      by_cases he : img ((DS.lays (partsL R.h R.next b (R.h.place + R.used)) D).1.crash keep) (2 + (R.h.place + R.used + k) % R.h.size) = partB R.h.turn R.next b k
      · exact he
      · exact absurd ⟨k, hk, he⟩ hex
  · refine ⟨fun _ => ?_, fun h0 => absurd hc h0⟩
    have w := h.wrote (List.prefix_refl _) hok hal hs
    refine w.whole h hb hfit hn (fun k hk => ?_)
    have hm : (2 + (R.h.place + R.used + k) % R.h.size, partB R.h.turn R.next b k) ∈ partsL R.h R.next b (R.h.place + R.used) := partsL_mem.2 ⟨k, hk, rfl⟩
    rcases img_all h.empty hs D rfl (hidx _ hm) with ⟨_, hno⟩ | ⟨p, hp, h1, h2⟩
    · exact absurd rfl (hno _ hm)
    · obtain ⟨k2, hk2, rfl⟩ := partsL_mem.1 hp
      dsimp only at h1 h2
      have : k2 = k := mod_inj (p := R.h.place + R.used) (m := R.h.size) (by omega) (by omega) (by omega)
      subst this
      exact h2
def RgS.minus (R : RgS) (n : Nat) (note : Bs) : RgS := ⟨R.cutH n note, R.ents.drop n, R.used - usedL (R.ents.take n), false⟩
theorem RO.cut {R : RgS} {D : DS} {n : Nat} {note : Bs} (h : RO R D) (hn : n ≤ R.ents.length) (ht : R.h.turn < 1073741824) (hnote : note.length ≤ 32) (hnum : R.next < 1099511627776) :
    ((DS.lays (headL (R.cutH n note)) D).2 = 0 → RO (R.minus n note) (DS.lays (headL (R.cutH n note)) D).1 ∧ Frs (R.minus n note) (DS.lays (headL (R.cutH n note)) D).1) ∧
    ((DS.lays (headL (R.cutH n note)) D).2 ≠ 0 → ∀ keep, RO R ((DS.lays (headL (R.cutH n note)) D).1.crash keep) ∨ RO (R.minus n note) ((DS.lays (headL (R.cutH n note)) D).1.crash keep)) := by
  have hsz := h.ok.size
  have hlen := h.len
  have hus := h.ok.used
  have hft := h.ok.fit
  have htd := usedL_take_drop R.ents n
  have hnx := h.ok.next
  have hfi := h.ok.first
  have htu := h.ok.turn
  have hok : (DS.lays (headL (R.cutH n note)) D).1.Ok := h.dok.lays (fun p hp => by rw [(headL_idx hp).2]; exact headB_len _)
  have hidx : ∀ p ∈ headL (R.cutH n note), p.1 < D.secs.length := fun p hp => by rw [(headL_idx hp).1]; omega
  have hm : 0 < R.h.size := by omega
  have hok' : RgS.Ok (R.minus n note) := ⟨⟨by simp [RgS.minus, RgS.cutH, Hd.cut], by simp [RgS.minus, RgS.cutH, Hd.cut]; omega⟩, hsz, by simp only [RgS.minus, RgS.cutH, Hd.cut]; omega, by simp only [RgS.minus, RgS.cutH, Hd.cut, RgS.next, List.length_drop] at hnx ⊢; omega, Nat.mod_lt _ hm, hnote, by simp only [RgS.minus]; omega, by simp only [RgS.minus, RgS.cutH, Hd.cut]; omega, fun c hc => h.ok.long c (List.mem_of_mem_drop hc)⟩
  have hhas : Has (img D) (R.cutH n note).size (R.cutH n note).turn (R.cutH n note).first (R.cutH n note).place (R.ents.drop n) := by
    have := (h.has.drop n hn).le (T' := R.h.turn + 1) (by omega)
    exact this.frame (by simp [RgS.cutH, Hd.cut]) (fun _ _ => rfl)
  have hpl : ((R.cutH n note).place + (R.used - usedL (R.ents.take n))) % (R.cutH n note).size = (R.h.place + R.used) % (R.cutH n note).size := by
    simp only [RgS.cutH, Hd.cut]
    rw [Nat.add_mod, Nat.mod_mod, ← Nat.add_mod]
    congr 1; omega
  have hfn : (R.cutH n note).first + (R.ents.drop n).length = R.next := by simp only [RgS.cutH, Hd.cut, RgS.next, List.length_drop]; omega
  have key : ∀ {D' : DS} {keep : Nat → Bool} {l : List (Nat × Blk)}, l <+: headL (R.cutH n note) → D'.Ok → D'.dead = false → D'.secs = settled keep (putAll D.secs l) → img D' ((R.h.turn + 1) % 2) = headB (R.cutH n note) → RO (R.minus n note) D' ∧ Frs (R.minus n note) D' := by
    intro D' keep l hl hok1 hal hs hi
    refine h.newHead hok1 hal (by rw [hs]; exact emptyC_settled) (by rw [hs, settled_length, putAll_length]) hi (fun i hi => ?_) rfl rfl hok' (by unfold RgS.next at hnum; simp only [RgS.cutH, Hd.cut]; omega) hhas hpl hfn
    rcases img_settled h.empty hs D rfl i with e | ⟨p, hp, h1, _⟩
    · exact e
    · exact absurd (by rw [← h1, (headL_idx (hl.subset hp)).1]; rfl) hi
  rcases lays_out (headL (R.cutH n note)) D h.alive hidx with ⟨l', hl', hs, hc⟩ | ⟨hs, hc, hal⟩
  · refine ⟨fun h0 => absurd h0 hc, fun _ keep => ?_⟩
    have hs2 : ((DS.lays (headL (R.cutH n note)) D).1.crash keep).secs = settled keep (putAll D.secs l') := by simp only [DS.crash]; rw [hs]
    have hsame : ∀ i, i ≠ (R.h.turn + 1) % 2 → img ((DS.lays (headL (R.cutH n note)) D).1.crash keep) i = img D i := fun i hi => by
      rcases img_settled h.empty hs2 D rfl i with e | ⟨p, hp, h1, _⟩
      · exact e
      · exact absurd (by rw [← h1, (headL_idx (hl'.subset hp)).1]; rfl) hi
    rcases img_settled h.empty hs2 D rfl ((R.h.turn + 1) % 2) with e | ⟨p, hp, _, h2⟩
    · left
      have hi : ∀ i, img ((DS.lays (headL (R.cutH n note)) D).1.crash keep) i = img D i := fun i => by
        by_cases he : i = (R.h.turn + 1) % 2
        · rw [he]; exact e
        · exact hsame i he
      have hi' : img ((DS.lays (headL (R.cutH n note)) D).1.crash keep) = img D := funext hi
      exact ⟨h.ok, h.live, h.num, hok.crash, rfl, by rw [hs2]; exact emptyC_settled, by rw [hs2, settled_length, putAll_length]; exact h.len, by rw [hi']; exact h.head, by rw [hi']; exact h.other, by rw [hi']; exact h.has, by rw [hi']; exact h.none, by rw [hi']; exact h.bound⟩
    · right
      exact (key hl' hok.crash rfl hs2 (by rw [h2, (headL_idx (hl'.subset hp)).2])).1
  · refine ⟨fun _ => ?_, fun h0 => absurd hc h0⟩
    refine key (List.prefix_refl _) hok hal hs ?_
    rcases img_all h.empty hs D rfl (i := (R.h.turn + 1) % 2) (by omega) with ⟨_, hno⟩ | ⟨p, hp, _, h2⟩
    · exact absurd rfl (hno _ (List.mem_singleton.2 rfl))
    · rw [h2, (headL_idx hp).2]
theorem RO.crash {R : RgS} {D : DS} (h : RO R D) (keep : Nat → Bool) : RO R (D.crash keep) := by
  have hs : (D.crash keep).secs = D.secs := by simp only [DS.crash]; exact settled_empty h.empty
  have hi := img_congr hs
  exact ⟨h.ok, h.live, h.num, h.dok.crash, rfl, by rw [hs]; exact h.empty, by rw [hs]; exact h.len, by rw [hi]; exact h.head, by rw [hi]; exact h.other, by rw [hi]; exact h.has, by rw [hi]; exact h.none, by rw [hi]; exact h.bound⟩
end Go.Proofs.E

namespace Go.Proofs.E
open Go
set_option linter.unusedVariables false
set_option linter.unusedSimpArgs false
set_option linter.unusedSectionVars false
set_option maxRecDepth 4000
set_option maxHeartbeats 1000000
attribute [local irreducible] Yl TL TC TE Spec YSpec R1 Hp.le EnvLe TS TR YS Stays
/-! ## rings on disks on which nothing happens -/
structure Good (R : RgS) (D : DS) : Prop where
  ro : RO R D
  frs : Frs R D
  calm : D.Calm
theorem calm_pair {r : DS × Int} (h : r.2 = 0) : r = (r.1, 0) := Prod.ext rfl h
theorem Good.append {R : RgS} {D : DS} {b : Bs} (h : Good R D) (hb : b.length ≤ 8000) (hn : R.next < 1099511627776) (hfit : sects b.length ≤ R.h.size - R.used) : ∃ D', R.append b D = (R.plus b, D', 0) ∧ Good (R.plus b) D' := by
  have hsz := h.ro.ok.size
  have hlen := h.ro.len
  have hidx : ∀ p ∈ partsL R.h R.next b (R.h.place + R.used), p.1 < D.secs.length := fun p hp => by
    obtain ⟨k, hk, rfl⟩ := partsL_mem.1 hp
    have := Nat.mod_lt (R.h.place + R.used + k) (show 0 < R.h.size by omega)
    dsimp only; omega
  obtain ⟨l0, l1, l2⟩ := Calm_lays (partsL R.h R.next b (R.h.place + R.used)) D h.calm hidx
  have ha := (h.ro.append h.frs hb hfit hn).1 l0
  refine ⟨(DS.lays (partsL R.h R.next b (R.h.place + R.used)) D).1, ?_, ha.1, ha.2, l1⟩
  unfold RgS.append
  rw [h.ro.live, if_neg (by simp), if_neg (by omega), if_neg (by omega), if_pos l0, calm_pair l0]
  rfl
theorem Good.full {R : RgS} {D : DS} {b : Bs} (h : Good R D) (hb : b.length ≤ 8000) (hfit : ¬ sects b.length ≤ R.h.size - R.used) : R.append b D = (R, D, 6) := by
  unfold RgS.append
  rw [h.ro.live, if_neg (by simp), if_neg (by omega), if_pos (by omega)]
theorem Good.cut {R : RgS} {D : DS} {n : Nat} {note : Bs} (h : Good R D) (hn : n ≤ R.ents.length) (ht : R.h.turn < 1073741824) (hnote : note.length ≤ 32) (hnum : R.next < 1099511627776) : ∃ D', R.cut n note D = (R.minus n note, D', 0) ∧ Good (R.minus n note) D' := by
  have hsz := h.ro.ok.size
  have hlen := h.ro.len
  have hidx : ∀ p ∈ headL (R.cutH n note), p.1 < D.secs.length := fun p hp => by rw [(headL_idx hp).1]; omega
  obtain ⟨l0, l1, l2⟩ := Calm_lays (headL (R.cutH n note)) D h.calm hidx
  have ha := (h.ro.cut hn ht hnote hnum).1 l0
  refine ⟨(DS.lays (headL (R.cutH n note)) D).1, ?_, ha.1, ha.2, l1⟩
  unfold RgS.cut
  rw [h.ro.live, if_neg (by simp), if_neg (by omega), if_neg (by omega)]
  simp only [Int.toNat_natCast]
  rw [if_pos l0, calm_pair l0]
  rfl
theorem z8_take (n m : Nat) : unbe ((z8 n).take m) = 0 := by
  have : ∀ k, unbe (z8 k) = 0 := fun k => by
    induction k with
    | zero => rfl
    | succ k ih => simp only [z8, List.replicate_succ] at ih ⊢; rw [unbe_cons, ih]; simp
  simp only [z8, List.take_replicate]
  exact this _
theorem zblk_z : zblk = z8 64 := rfl
theorem turn_zblk : turnOf zblk = 0 := by unfold turnOf; rw [zblk_z, z8_take]
theorem num_zblk : numOf zblk = 0 := by
  unfold numOf; rw [zblk_z]; simp only [z8, List.drop_replicate]; exact z8_take _ _
theorem read_zblk : (readB zblk).2 = false := by
  have h : ¬ (headOf zblk).Right (zblk.getD 21 0).toNat := fun h => by
    have h1 := h.1
    have : (headOf zblk).turn = 0 := by
      simp only [headOf, zblk_z, z8, List.drop_replicate]; exact z8_take _ _
    omega
  unfold readB
  rw [if_neg h]
theorem Good.format {D : DS} {n : Nat} (hok : D.Ok) (hc : D.Calm) (h0 : 4 ≤ n) (h1 : n ≤ 1000) (hl : D.secs.length = n + 2) (he : emptyC D.secs) : ∃ D', formatR n D = (some ⟨freshH n, [], 0, false⟩, D', 0) ∧ Good ⟨freshH n, [], 0, false⟩ D' := by
  have hidx : ∀ p ∈ noughtsL n, p.1 < D.secs.length := fun p hp => by
    simp only [noughtsL, List.mem_map, List.mem_range] at hp
    obtain ⟨k, hk, rfl⟩ := hp
    dsimp only; omega
  obtain ⟨l0, l1, l2⟩ := Calm_lays (noughtsL n) D hc hidx
  have hok1 := hok.lays (l := noughtsL n) noughtsL_64
  have hlen1 := lays_length (noughtsL n) D
  have hemp1 : emptyC (DS.lays (noughtsL n) D).1.secs := by rw [l2]; exact emptyC_settled
  have hidx2 : ∀ p ∈ headL (freshH n), p.1 < (DS.lays (noughtsL n) D).1.secs.length := fun p hp => by
    rw [(headL_idx hp).1, hlen1, hl]; simp only [freshH]; omega
  obtain ⟨m0, m1, m2⟩ := Calm_lays (headL (freshH n)) (DS.lays (noughtsL n) D).1 l1 hidx2
  have hok2 := hok1.lays (l := headL (freshH n)) (fun p hp => by rw [(headL_idx hp).2]; exact headB_len _)
  have hlen2 := lays_length (headL (freshH n)) (DS.lays (noughtsL n) D).1
  have himg1 : ∀ i, i < n + 2 → img (DS.lays (noughtsL n) D).1 i = zblk := fun i hi => by
    rcases img_all he l2 D rfl (i := i) (by omega) with ⟨_, hno⟩ | ⟨p, hp, h1, h2⟩
    · exact absurd rfl (hno (i, zblk) (by simp only [noughtsL, List.mem_map, List.mem_range]; exact ⟨i, hi, rfl⟩))
    · simp only [noughtsL, List.mem_map, List.mem_range] at hp
      obtain ⟨k, hk, rfl⟩ := hp
      exact h2
  have himg2 : img (DS.lays (headL (freshH n)) (DS.lays (noughtsL n) D).1).1 1 = headB (freshH n) := by
    rcases img_all hemp1 m2 (DS.lays (noughtsL n) D).1 rfl (i := 1) (by omega) with ⟨_, hno⟩ | ⟨p, hp, _, h2⟩
    · exact absurd rfl (hno (1, headB (freshH n)) (List.mem_singleton.2 rfl))
    · rw [h2, (headL_idx hp).2]
  have himg3 : ∀ i, i < n + 2 → i ≠ 1 → img (DS.lays (headL (freshH n)) (DS.lays (noughtsL n) D).1).1 i = zblk := fun i hi hne => by
    rcases img_settled hemp1 m2 (DS.lays (noughtsL n) D).1 rfl i with e | ⟨p, hp, h1, _⟩
    · rw [e]; exact himg1 i hi
    · exact absurd (by rw [← h1, (headL_idx hp).1]; rfl) hne
  refine ⟨(DS.lays (headL (freshH n)) (DS.lays (noughtsL n) D).1).1, ?_, ⟨fresh_rok h0 h1, rfl, by simp [freshH], hok2, m1.dead, by rw [m2]; exact emptyC_settled, ?_, ?_, ?_, trivial, ?_, ?_⟩, ?_, m1⟩
  · unfold formatR
    rw [if_neg (by omega)]
    simp only [Int.toNat_natCast]
    rw [if_pos l0, if_pos m0, calm_pair m0]
  · show n + 2 ≤ _
    omega
  · exact himg2
  · rw [show (({ h := freshH n, ents := [], used := 0, broken := false } : RgS).h.turn + 1) % 2 = 0 from (by simp [freshH]), himg3 0 (by omega) (by omega), read_zblk]
    intro h; cases h
  · intro _ t b ht ht2 _ _
    refine ⟨0, sects_pos _, fun hx => ?_⟩
    have := congrArg turnOf hx
    rw [himg3 _ (by have := Nat.mod_lt ((freshH n).place + 0 + 0) (show 0 < (freshH n).size by simp only [freshH]; omega); simp only [freshH] at this ⊢; omega) (by omega), turn_zblk, partB_turn (by omega)] at this
    omega
  · intro q hq
    have hq2 : q < n := hq
    rw [himg3 _ (by omega) (by omega), turn_zblk, num_zblk]
    exact ⟨Nat.zero_le _, Nat.zero_le _⟩
  · intro q hq hc
    have hq2 : q < n := hq
    rw [himg3 _ (by omega) (by omega), turn_zblk] at hc
    exact absurd hc.1 (by simp [freshH])
theorem new_good {n : Nat} (h0 : 4 ≤ n) (h1 : n ≤ 1000) : ∃ D', formatR n (DS.new (n + 2)) = (some ⟨freshH n, [], 0, false⟩, D', 0) ∧ Good ⟨freshH n, [], 0, false⟩ D' :=
  Good.format (new_okD (by omega) (by omega)) new_calm h0 h1 (by simp [DS.new, fresh]) fresh_empty
end Go.Proofs.E

namespace Go.Proofs.E
open Go
set_option linter.unusedVariables false
set_option linter.unusedSimpArgs false
set_option linter.unusedSectionVars false
set_option maxRecDepth 4000
set_option maxHeartbeats 1000000
attribute [local irreducible] Yl TL TC TE Spec YSpec R1 Hp.le EnvLe TS TR YS Stays
theorem kformat (ρ : Hp) (n : Nat) (hn0 : 4 ≤ n) (hn1 : n ≤ 1000) (db : Nat) (k : DK) (hk : DOk k (DS.new (n + 2))) :
    Spec Try.prog 39 [.pointer (some ⟨db, 0, none⟩), .int .i64 n] ρ (diskK db k (DS.new (n + 2))) (fun v ρ' L' => ρ.le ρ' ∧ ∃ rb w k' D', v = .tuple ⟨[.pointer (some ⟨rb, 0, none⟩), .int .i64 0]⟩ ∧ DOk k' D' ∧ RIn ρ' ⟨freshH n, [], 0, false⟩ w ∧ Good ⟨freshH n, [], 0, false⟩ D' ∧ L' = ringC rb db ⟨freshH n, [], 0, false⟩ w ++ diskK db k' D') := by
  obtain ⟨D', e, g⟩ := new_good hn0 hn1
  refine (format_spec ρ db k (DS.new (n + 2)) hk n (by omega)).mono ?_
  rintro v ρ' L' _ ⟨hle, h⟩
  unfold ringAns at h
  rw [e] at h
  obtain ⟨k', hk', rb, w, hv, hin, hL⟩ := h
  exact ⟨hle, rb, w, k', D', hv, hk', hin, g, hL⟩
theorem knew (ρ : Hp) (n : Nat) (h0 : 0 < n) (h1 : n ≤ 2048) : Spec Try.prog 23 [.int .i64 n] ρ [] (fun v ρ' L' => ρ' = ρ ∧ ∃ b k, v = .tuple ⟨[.pointer (some ⟨b, 0, none⟩), .int .i64 0]⟩ ∧ DOk k (DS.new n) ∧ L' = diskK b k (DS.new n)) :=
  (new_spec ρ n h0 h1).mono (fun v ρ' L' _ ⟨h1', b, hb, mb, ck, h2, h3⟩ => ⟨h1', b, ⟨hb, mb, [], ck⟩, h2, ⟨new_okD h0 h1, MapOk.empty fresh_empty⟩, h3⟩)
/-- what an Append to a good ring comes to -/
theorem gappend (ρ : Hp) (rb db : Nat) (R : RgS) (w : RW) (h : RIn ρ R w) (k : DK) (D : DS) (hD : DOk k D) (g : Good R D) (X : SH) (a : Option Addr) (n c : Nat) (b : Bs) (hb : Rd ρ X a n b) (hc : n ≤ c) (hn : n ≤ 8000) (hfit : sects n ≤ R.h.size - R.used) (hnx : R.next < 1099511627776) :
    Spec Try.prog 14 [.pointer (some ⟨rb, 0, none⟩), .slice a n c] ρ (ringC rb db R w ++ (diskK db k D ++ X))
      (fun v ρ' L' => v = .int .i64 0 ∧ ρ.le ρ' ∧ ∃ k' D' w', DOk k' D' ∧ RIn ρ' (R.plus b) w' ∧ Good (R.plus b) D' ∧ L' = ringC rb db (R.plus b) w' ++ (diskK db k' D' ++ X)) := by
  have hl := hb.len
  obtain ⟨D', e, g'⟩ := g.append (b := b) (by omega) hnx (by rw [hl]; exact hfit)
  refine (append_spec ρ rb db R w h k D hD X a n c b hb hc (by omega)).mono ?_
  rintro v ρ' L' _ ⟨hv, hle, k', w', h1, h2, h3⟩
  rw [e] at hv h1 h2 h3
  exact ⟨hv, hle, k', D', w', h1, h2, g', h3⟩
theorem gfull (ρ : Hp) (rb db : Nat) (R : RgS) (w : RW) (h : RIn ρ R w) (k : DK) (D : DS) (hD : DOk k D) (g : Good R D) (X : SH) (a : Option Addr) (n c : Nat) (b : Bs) (hb : Rd ρ X a n b) (hc : n ≤ c) (hn : n ≤ 8000) (hfit : ¬ sects n ≤ R.h.size - R.used) :
    Spec Try.prog 14 [.pointer (some ⟨rb, 0, none⟩), .slice a n c] ρ (ringC rb db R w ++ (diskK db k D ++ X))
      (fun v ρ' L' => v = .int .i64 6 ∧ ρ.le ρ' ∧ ∃ k' w', DOk k' D ∧ RIn ρ' R w' ∧ L' = ringC rb db R w' ++ (diskK db k' D ++ X)) := by
  have hl := hb.len
  have e := g.full (b := b) (by omega) (by rw [hl]; exact hfit)
  refine (append_spec ρ rb db R w h k D hD X a n c b hb hc (by omega)).mono ?_
  rintro v ρ' L' _ ⟨hv, hle, k', w', h1, h2, h3⟩
  rw [e] at hv h1 h2 h3
  exact ⟨hv, hle, k', w', h1, h2, h3⟩
theorem gcut (ρ : Hp) (rb db : Nat) (R : RgS) (w : RW) (h : RIn ρ R w) (k : DK) (D : DS) (hD : DOk k D) (g : Good R D) (X : SH) (a : Option Addr) (nn c : Nat) (note : Bs) (hb : Rd ρ X a nn note) (m : Nat) (hm : m ≤ R.ents.length) (ht : R.h.turn < 1073741824) (hnl : nn ≤ 32) (hnx : R.next < 1099511627776) :
    Spec Try.prog 13 [.pointer (some ⟨rb, 0, none⟩), .int .i64 m, .slice a nn c] ρ (ringC rb db R w ++ (diskK db k D ++ X))
      (fun v ρ' L' => v = .int .i64 0 ∧ ρ.le ρ' ∧ ∃ k' D' w', DOk k' D' ∧ RIn ρ' (R.minus m note) w' ∧ Good (R.minus m note) D' ∧ L' = ringC rb db (R.minus m note) w' ++ (diskK db k' D' ++ X)) := by
  have hl := hb.len
  obtain ⟨D', e, g'⟩ := g.cut (note := note) hm ht (by omega) hnx
  refine (cut_spec_main ρ rb db R w h k D hD X a nn c note hb m g.ro.live hm ht (by omega)).mono ?_
  rintro v ρ' L' _ ⟨hv, hle, k', w', h1, h2, h3⟩
  rw [e] at hv h1 h2 h3
  exact ⟨hv, hle, k', D', w', h1, h2, g', h3⟩
theorem sIn_z {ρ : Hp} {b n : Nat} {T : TypeId} {fr : Nat × Nat} (h : ρ b = some (.cells ⟨(z8 n).map u8c⟩ T fr)) : SIn ρ u8c (some ⟨b, 0, none⟩) n (z8 n) := ⟨by simp [z8], .inr ⟨b, 0, _, _, _, rfl, h, by simp [z8]⟩⟩
theorem sIn_l {ρ : Hp} {b : Nat} {l : Bs} {T : TypeId} {fr : Nat × Nat} (h : ρ b = some (.cells ⟨l.map u8c⟩ T fr)) : SIn ρ u8c (some ⟨b, 0, none⟩) l.length l := ⟨rfl, .inr ⟨b, 0, _, _, _, rfl, h, by rw [List.drop_zero, List.take_of_length_le (by simp)]⟩⟩
abbrev wR0 : RgS := ⟨freshH 6, [], 0, false⟩
abbrev wR1 : RgS := wR0.plus (z8 100)
abbrev wR2 : RgS := wR1.plus (z8 3)
abbrev wR3 : RgS := wR2.minus 1 [7]
theorem wk_l2 : ((wR2.h.size - wR2.used : Nat) : Int) = 3 := by decide
theorem wk_l3 : ((wR3.h.size - wR3.used : Nat) : Int) = 5 := by decide
theorem wk_f3 : ((wR3.h.first : Nat) : Int) = 2 := by decide
theorem wakes4_spec (ρ : Hp) : Spec Try.prog 9 [] ρ [] (fun v ρ' L' => v = .bool true ∧ ρ.le ρ' ∧ L' = []) := by
  refine spec_enter Try.func9 rfl rfl rfl fun u R => ?_
  simp only [argsE, List.cons_append, List.nil_append]
  repeat' (first | (refine tl_is (.func 23) ?_; refine qC rfl rfl (knew _ 8 (by omega) (by omega)) ?_; rintro v ρ' L' hle ⟨rfl, db, k0, rfl, hk0, rfl⟩ <;> (try simp only [List.cons_append, List.nil_append, List.append_eq])) | (refine tl_is (.func 39) ?_; refine qC rfl rfl (kformat _ 6 (by omega) (by omega) db k0 hk0) ?_; rintro v1 ρ1 L1 hle1 ⟨hl1, rb, w1, k1, D1, rfl, hk1, hr1, g1, rfl⟩; try simp only [List.cons_append, List.nil_append, List.append_assoc]) | (refine tl_makeSlice rfl rfl (by omega) (by omega) (by omega) (by omega) rfl (fun hbn1 => ?_); simp only [Nat.mul_one, made_z8]; refine tl_freeze [(hbn1, .cells ⟨(z8 100).map u8c⟩ 5 (0, 0))] (h := Rem.here) (fun ρm1 hlm1 hfz1 => ?_); have hs1 := sIn_z (hfz1 _ (List.mem_singleton.2 rfl))) | (refine i_op ?_; first | (refine i_qq ?_; refine qQ ?_) | refine qEf ?_) | refine tl_nil ?_ | (refine i_tc ?_; refine qTc ?_) | (refine i_te ?_; refine qTe ?_) | intro _)
  repeat' (first | (refine tl_is (.func 14) ?_; refine qC rfl rfl (gappend _ rb db wR0 w1 (hr1.mono hlm1) k1 D1 hk1 g1 [] _ 100 _ (z8 100) hs1.rd (by omega) (by omega) (by decide) (by decide)) ?_; rintro v2 ρ2 L2 hle2 ⟨rfl, hl2, k2, D2, w2, hk2, hr2, g2, rfl⟩; try simp only [List.cons_append, List.nil_append, List.append_assoc]) | (refine tl_makeSlice rfl rfl (by omega) (by omega) (by omega) (by omega) rfl (fun hbn2 => ?_); simp only [Nat.mul_one, made_z8]; refine tl_freeze [(hbn2, .cells ⟨(z8 3).map u8c⟩ 5 (0, 0))] (h := Rem.here) (fun ρm2 hlm2 hfz2 => ?_); have hs2 := sIn_z (hfz2 _ (List.mem_singleton.2 rfl))) | (refine i_op ?_; first | (refine i_qq ?_; refine qQ ?_) | refine qEf ?_) | refine tl_nil ?_ | (refine i_tc ?_; refine qTc ?_) | (refine i_te ?_; refine qTe ?_) | intro _)
  repeat' (first | (refine tl_is (.func 14) ?_; refine qC rfl rfl (gappend _ rb db wR1 w2 (hr2.mono hlm2) k2 D2 hk2 g2 [] _ 3 _ (z8 3) hs2.rd (by omega) (by omega) (by decide) (by decide)) ?_; rintro v3 ρ3 L3 hle3 ⟨rfl, hl3, k3, D3, w3, hk3, hr3, g3, rfl⟩; try simp only [List.cons_append, List.nil_append, List.append_assoc]) | (refine tl_is (.func 11) ?_; refine qC rfl rfl (left_spec4 _ rb db wR2 w3 hr3.ok) ?_; rintro v ρ' L' hle ⟨rfl, rfl, rfl⟩ <;> (try simp only [List.cons_append, List.nil_append, List.append_eq, wk_l2])) | (refine tl_makeSlice rfl rfl (by omega) (by omega) (by omega) (by omega) rfl (fun hbn3 => ?_); simp only [Nat.mul_one, made_z8]; refine tl_freeze [(hbn3, .cells ⟨(z8 160).map u8c⟩ 5 (0, 0))] (h := Rem.here) (fun ρm3 hlm3 hfz3 => ?_); have hs3 := sIn_z (hfz3 _ (List.mem_singleton.2 rfl))) | (refine i_op ?_; first | (refine i_qq ?_; refine qQ ?_) | refine qEf ?_) | refine tl_nil ?_ | (refine i_tc ?_; refine qTc ?_) | (refine i_te ?_; refine qTe ?_) | intro _)
  repeat' (first | (refine tl_is (.func 14) ?_; refine qC rfl rfl (gfull _ rb db wR2 w3 (hr3.mono hlm3) k3 D3 hk3 g3 [] _ 160 _ (z8 160) hs3.rd (by omega) (by omega) (by decide)) ?_; rintro v4 ρ4 L4 hle4 ⟨rfl, hl4, k4, w4, hk4, hr4, rfl⟩; try simp only [List.cons_append, List.nil_append, List.append_assoc]) | (refine tl_buildSlice_s rfl rfl rfl rfl (by simp) rfl rfl (fun hb7 => ?_); refine tl_freeze [(hb7, .cells ⟨[(7 : UInt8)].map u8c⟩ 5 (0, 0))] (h := Rem.here) (fun ρm4 hlm4 hfz4 => ?_); have hs4 := sIn_l (hfz4 _ (List.mem_singleton.2 rfl))) | (refine i_op ?_; first | (refine i_qq ?_; refine qQ ?_) | refine qEf ?_) | refine tl_nil ?_ | (refine i_tc ?_; refine qTc ?_) | (refine i_te ?_; refine qTe ?_) | intro _)
  repeat' (first | (refine tl_is (.func 13) ?_; refine qC rfl rfl (gcut _ rb db wR2 w4 (hr4.mono hlm4) k4 D3 hk4 g3 [] _ 1 _ [7] hs4.rd 1 (by decide) (by decide) (by omega) (by decide)) ?_; rintro v5 ρ5 L5 hle5 ⟨rfl, hl5, k5, D5, w5, hk5, hr5, g5, rfl⟩; try simp only [List.cons_append, List.nil_append, List.append_assoc]) | (refine tl_is (.func 40) ?_; refine qC rfl rfl (first_spec _ rb db wR3 w5) ?_; rintro v ρ' L' hle ⟨rfl, rfl, rfl⟩ <;> (try simp only [List.cons_append, List.nil_append, List.append_eq, wk_f3])) | (refine tl_is (.func 11) ?_; refine qC rfl rfl (left_spec4 _ rb db wR3 w5 hr5.ok) ?_; rintro v ρ' L' hle ⟨rfl, rfl, rfl⟩ <;> (try simp only [List.cons_append, List.nil_append, List.append_eq, wk_l3])) | (refine tl_makeSlice rfl rfl (by omega) (by omega) (by omega) (by omega) rfl (fun hbn5 => ?_); simp only [Nat.mul_one, made_z8]; refine tl_freeze [(hbn5, .cells ⟨(z8 160).map u8c⟩ 5 (0, 0))] (h := Rem.here) (fun ρm5 hlm5 hfz5 => ?_); have hs5 := sIn_z (hfz5 _ (List.mem_singleton.2 rfl))) | (refine i_op ?_; first | (refine i_qq ?_; refine qQ ?_) | refine qEf ?_) | refine tl_nil ?_ | (refine i_tc ?_; refine qTc ?_) | (refine i_te ?_; refine qTe ?_) | intro _)
  repeat' (first | (refine tl_is (.func 14) ?_; refine qC rfl rfl (gappend _ rb db wR3 w5 (hr5.mono (by assumption)) k5 D5 hk5 g5 [] _ 160 _ (z8 160) hs5.rd (by omega) (by omega) (by decide) (by decide)) ?_; rintro v6 ρ6 L6 hle6 ⟨rfl, hl6, k6, D6, w6, hk6, hr6, g6, rfl⟩; try simp only [List.cons_append, List.nil_append, List.append_assoc]) | (refine i_op ?_; first | (refine i_qq ?_; refine qQ ?_) | refine qEf ?_) | refine tl_nil ?_ | (refine i_tc ?_; refine qTc ?_) | (refine i_te ?_; refine qTe ?_) | intro _)
  have hfin := Hp.le_trans hl1 (Hp.le_trans hlm1 (Hp.le_trans hl2 (Hp.le_trans hlm2 (Hp.le_trans hl3 (Hp.le_trans hlm3 (Hp.le_trans hl4 (Hp.le_trans hlm4 (Hp.le_trans hl5 (Hp.le_trans hlm5 (hl6))))))))))
  exact qE (L' := []) ⟨rfl, hfin, rfl⟩
end Go.Proofs.E

namespace Go.Proofs.E
open Go
set_option linter.unusedVariables false
set_option linter.unusedSimpArgs false
set_option linter.unusedSectionVars false
set_option maxRecDepth 4000
set_option maxHeartbeats 1000000
attribute [local irreducible] Yl TL TC TE Spec YSpec R1 Hp.le EnvLe TS TR YS Stays
variable {H : Type} {enc : TypeId × Value → H} {w : World}
theorem opn_bsl : Opn enc Try.prog w 30 (fun cs (e : BSl) => cs = [slv e] ∧ (BIn (hpOf w) e ∧ e.n ≤ 9223372036854775807)) :=
  opn_bytesK.mono (fun cs s h => by
    obtain ⟨h1, h2, h3⟩ := sIn_ofK h
    exact ⟨⟨s.1, s.2.1, s.2.2.1, s.2.2.2⟩, h.cells, ⟨h1, h2⟩, h3⟩)
theorem kfresh (ρ : Hp) : Spec Try.prog 10 [] ρ [] (fun v ρ' L' => ρ.le ρ' ∧ ∃ rb db w k D, v = .tuple ⟨[.pointer (some ⟨rb, 0, none⟩), .pointer (some ⟨db, 0, none⟩), .bool true]⟩ ∧ DOk k D ∧ RIn ρ' ⟨freshH 20, [], 0, false⟩ w ∧ Good ⟨freshH 20, [], 0, false⟩ D ∧ L' = ringC rb db ⟨freshH 20, [], 0, false⟩ w ++ diskK db k D) := by
  refine spec_enter Try.func10 rfl rfl rfl fun u R => ?_
  simp only [argsE, List.cons_append, List.nil_append]
  repeat' (first | (refine tl_is (.func 23) ?_; refine qC rfl rfl (knew _ 22 (by omega) (by omega)) ?_; rintro v ρ' L' hle ⟨rfl, db, k0, rfl, hk0, rfl⟩ <;> (try simp only [List.cons_append, List.nil_append, List.append_eq])) | (refine tl_is (.func 39) ?_; refine qC rfl rfl (kformat _ 20 (by omega) (by omega) db k0 hk0) ?_; rintro v1 ρ1 L1 hle1 ⟨hl1, rb, w1, k1, D1, rfl, hk1, hr1, g1, rfl⟩; try simp only [List.cons_append, List.nil_append, List.append_assoc]) | (refine i_op ?_; first | (refine i_qq ?_; refine qQ ?_) | refine qEf ?_) | refine tl_nil ?_ | (refine i_tc ?_; refine qTc ?_) | (refine i_te ?_; refine qTe ?_) | intro _)
  exact qE (L' := ringC rb db ⟨freshH 20, [], 0, false⟩ w1 ++ diskK db k1 D1) ⟨hl1, rb, db, w1, k1, D1, rfl, hk1, hr1, g1, rfl⟩
end Go.Proofs.E

namespace Go.Proofs.E
open Go
set_option linter.unusedVariables false
set_option linter.unusedSimpArgs false
set_option linter.unusedSectionVars false
set_option maxRecDepth 4000
set_option maxHeartbeats 1000000
attribute [local irreducible] Yl TL TC TE Spec YSpec R1 Hp.le EnvLe TS TR YS Stays
theorem read_nil (ρ : Hp) (i : Int) : Spec Try.prog 26 [.pointer none, .int .i64 i] ρ [] (fun v ρ' L' => v = .tuple ⟨[bv zblk, .int .i64 1]⟩ ∧ ρ' = ρ ∧ L' = []) := by
  have hz0 : (List.replicate 64 (Value.int .u8 0)).length = 64 := by rfl
  refine spec_enter Try.func26 rfl rfl rfl fun u R => ?_
  simp only [argsE, List.cons_append, List.nil_append, bv, ← zblk_cells]
  repeat' (first | (refine tl_is (.func 67) ?_; refine qC rfl rfl (does_nil _ _ _ _) ?_; rintro v ρ' L' hle ⟨rfl, rfl, rfl⟩ <;> (try simp only [List.cons_append, List.nil_append, List.append_eq])) | (refine i_op ?_; first | (refine i_qq ?_; refine qQ ?_) | refine qEf ?_) | refine tl_nil ?_ | (refine i_tc ?_; refine qTc ?_) | (refine i_te ?_; refine qTe ?_) | intro _)
  exact qE ⟨rfl, rfl, rfl⟩
theorem open_nil (ρ : Hp) : Spec Try.prog 16 [.pointer none] ρ [] (fun v ρ' L' => v = .tuple ⟨[.pointer none, .int .i64 1]⟩ ∧ ρ' = ρ ∧ L' = []) := by
  refine spec_enter Try.func16 rfl rfl rfl fun u R => ?_
  simp only [argsE, List.cons_append, List.nil_append]
  repeat' (first | (refine i_op ?_; first | (refine i_qq ?_; refine qQ ?_) | refine qEf ?_) | refine tl_nil ?_ | (refine i_tc ?_; refine qTc ?_) | (refine i_te ?_; refine qTe ?_) | intro _)
  refine tc_loop_g [(0, _), (4, _)] (fun (ζ : (Nat)) => [(13, .int .i64 ζ), (2, .pointer none), (3, .int .i64 0)]) (fun (ζ : (Nat)) => ρ) (fun (ζ : (Nat)) => []) (fun (ζ : (Nat)) => ζ = 0) (fun (ζ : (Nat)) => 0) (0) (rfl) ev_le ev_le rfl tk ?_
  rintro j hI
  try simp only [List.cons_append, List.nil_append, List.append_assoc, List.append_eq] at hI ⊢
  try dsimp only at hI ⊢
  subst hI
  repeat' (first | (refine tl_is (.func 26) ?_; refine qC rfl rfl (read_nil _ _) ?_; rintro v ρ' L' hle ⟨rfl, rfl, rfl⟩ <;> (try simp only [List.cons_append, List.nil_append, List.append_eq])) | (refine i_op ?_; first | (refine i_qq ?_; refine qQ ?_) | refine qEf ?_) | refine tl_nil ?_ | (refine i_tc ?_; refine qTc ?_) | (refine i_te ?_; refine qTe ?_) | intro _)
  exact qE ⟨rfl, rfl, rfl⟩
theorem append_nil4 (ρ : Hp) (a : Option Addr) (n c : Nat) : Spec Try.prog 14 [.pointer none, .slice a n c] ρ [] (fun v ρ' L' => v = .int .i64 1 ∧ ρ' = ρ ∧ L' = []) := by
  refine spec_enter Try.func14 rfl rfl rfl fun u R => ?_
  simp only [argsE, List.cons_append, List.nil_append]
  repeat' (first | (refine tl_is (.func 41) ?_; refine qC rfl rfl (works_nil _) ?_; rintro v ρ' L' hle ⟨rfl, rfl, rfl⟩ <;> (try simp only [List.cons_append, List.nil_append, List.append_eq])) | (refine i_op ?_; first | (refine i_qq ?_; refine qQ ?_) | refine qEf ?_) | refine tl_nil ?_ | (refine i_tc ?_; refine qTc ?_) | (refine i_te ?_; refine qTe ?_) | intro _)
  exact qE ⟨rfl, rfl, rfl⟩
theorem cut_nil4 (ρ : Hp) (m : Int) (a : Option Addr) (n c : Nat) : Spec Try.prog 13 [.pointer none, .int .i64 m, .slice a n c] ρ [] (fun v ρ' L' => v = .int .i64 1 ∧ ρ' = ρ ∧ L' = []) := by
  refine spec_enter Try.func13 rfl rfl rfl fun u R => ?_
  simp only [argsE, List.cons_append, List.nil_append]
  repeat' (first | (refine tl_is (.func 41) ?_; refine qC rfl rfl (works_nil _) ?_; rintro v ρ' L' hle ⟨rfl, rfl, rfl⟩ <;> (try simp only [List.cons_append, List.nil_append, List.append_eq])) | (refine i_op ?_; first | (refine i_qq ?_; refine qQ ?_) | refine qEf ?_) | refine tl_nil ?_ | (refine i_tc ?_; refine qTc ?_) | (refine i_te ?_; refine qTe ?_) | intro _)
  exact qE ⟨rfl, rfl, rfl⟩
theorem sectsR_spec (ρ : Hp) (n : Nat) (hn : n ≤ 4611686018427387904) : Spec Try.prog 99 [.int .i64 n] ρ [] (fun v ρ' L' => v = .int .i64 (sects n : Nat) ∧ ρ' = ρ ∧ L' = []) := by
  refine spec_enter Try.func99 rfl rfl rfl fun u R => ?_
  simp only [argsE, List.cons_append, List.nil_append]
  have e : max 1 (IntKind.i64.wrap (((n : Int) + 51).tdiv 52)) = ((sects n : Nat) : Int) := by
    rw [Int.tdiv_eq_ediv_of_nonneg (by omega), wrap_id (by simp only [lo, hi]; omega)]
    unfold sects; omega
  repeat' (first | (refine i_op ?_; first | (refine i_qq ?_; refine qQ ?_) | refine qEf ?_) | refine tl_nil ?_ | (refine i_tc ?_; refine qTc ?_) | (refine i_te ?_; refine qTe ?_) | intro _)
  rw [e]
  exact qE ⟨rfl, rfl, rfl⟩
theorem sectsR_neg (ρ : Hp) (n : Int) (hn : n < 0) : Spec Try.prog 99 [.int .i64 n] ρ [] (fun v ρ' L' => v = .int .i64 0 ∧ ρ' = ρ ∧ L' = []) := by
  refine spec_enter Try.func99 rfl rfl rfl fun u R => ?_
  simp only [argsE, List.cons_append, List.nil_append]
  repeat' (first | (refine i_op ?_; first | (refine i_qq ?_; refine qQ ?_) | refine qEf ?_) | refine tl_nil ?_ | (refine i_tc ?_; refine qTc ?_) | (refine i_te ?_; refine qTe ?_) | intro _)
  exact qE ⟨rfl, rfl, rfl⟩
theorem sects_int (ρ : Hp) (i : Int) (h0 : 0 ≤ i) (h1 : i ≤ 4611686018427387904) : Spec Try.prog 12 [.int .i64 i] ρ [] (fun v ρ' L' => v = .int .i64 (sects i.toNat : Nat) ∧ ρ' = ρ ∧ L' = []) := by
  obtain ⟨m, rfl⟩ : ∃ m : Nat, i = m := ⟨i.toNat, by omega⟩
  rw [Int.toNat_natCast]; exact sects_spec ρ m (by omega)
theorem sectsR_int (ρ : Hp) (i : Int) (h0 : 0 ≤ i) (h1 : i ≤ 4611686018427387904) : Spec Try.prog 99 [.int .i64 i] ρ [] (fun v ρ' L' => v = .int .i64 (sects i.toNat : Nat) ∧ ρ' = ρ ∧ L' = []) := by
  obtain ⟨m, rfl⟩ : ∃ m : Nat, i = m := ⟨i.toNat, by omega⟩
  rw [Int.toNat_natCast]; exact sectsR_spec ρ m (by omega)
/-- an event, and where its parts lie -/
structure EvV where
  kind : Int
  n : Int
  b : BSl
  note : BSl
  ka : Option Addr
  kn : Nat
  kp : Nat
  ks : List Bool
abbrev evC (e : EvV) : List Value := [.int .i64 e.kind, .int .i64 e.n, slv e.b, slv e.note, .slice e.ka e.kn e.kp]
structure EvIn (ρ : Hp) (e : EvV) : Prop where
  n : -9223372036854775808 ≤ e.n ∧ e.n ≤ 9223372036854775807
  kind : -9223372036854775808 ≤ e.kind ∧ e.kind ≤ 9223372036854775807
  b : BIn ρ e.b
  bbg : e.b.n ≤ 9223372036854775807
  note : BIn ρ e.note
  nb : e.note.n ≤ 9223372036854775807
  ks : SIn ρ bb e.ka e.kn e.ks
  kc : e.kn ≤ e.kp
  kb : e.kn ≤ 9223372036854775807
theorem EvIn.mono {ρ ρ' : Hp} {e : EvV} (h : EvIn ρ e) (hle : ρ.le ρ') : EvIn ρ' e := ⟨h.n, h.kind, h.b.mono hle, h.bbg, h.note.mono hle, h.nb, h.ks.mono hle, h.kc, h.kb⟩
theorem few4_spec (ρ : Hp) (e : EvV) (h : EvIn ρ e) :
    Spec Try.prog 17 [.agg ⟨evC e⟩] ρ [] (fun v ρ' L' => ρ' = ρ ∧ ∃ a1 c1 s1 a2 c2 s2 a3 c3 s3, v = .agg ⟨[.int .i64 e.kind, .int .i64 e.n, .slice a1 (min e.b.n 400) c1, .slice a2 (min e.note.n 33) c2, .slice a3 (min e.kn 40) c3]⟩ ∧
      OwnS (.slice a1 (min e.b.n 400) c1) (min e.b.n 400) ((e.b.l.take (min e.b.n 400)).map u8c) s1 1 ∧ OwnS (.slice a2 (min e.note.n 33) c2) (min e.note.n 33) ((e.note.l.take (min e.note.n 33)).map u8c) s2 1 ∧ OwnS (.slice a3 (min e.kn 40) c3) (min e.kn 40) ((e.ks.take (min e.kn 40)).map bb) s3 1 ∧
      L' = [ownC (.slice a1 (min e.b.n 400) c1) ((e.b.l.take (min e.b.n 400)).map u8c) s1 5, ownC (.slice a2 (min e.note.n 33) c2) ((e.note.l.take (min e.note.n 33)).map u8c) s2 5, ownC (.slice a3 (min e.kn 40) c3) ((e.ks.take (min e.kn 40)).map bb) s3 4]) := by
  have hl1 := h.b.s.len
  have hl2 := h.note.s.len
  have hl3 := h.ks.len
  have hc1 := h.b.le
  have hc2 := h.note.le
  have hc3 := h.kc
  have hb1 := h.bbg
  have hb2 := h.nb
  have hb3 := h.kb
  have m1 : (min (e.b.n : Int) 400).toNat = min e.b.n 400 := by omega
  have m2 : (min (e.note.n : Int) 33).toNat = min e.note.n 33 := by omega
  have m3 : (min (e.kn : Int) 40).toNat = min e.kn 40 := by omega
  have t1 := h.b.s.take (hi' := min e.b.n 400) (Nat.min_le_left _ _)
  have t2 := h.note.s.take (hi' := min e.note.n 33) (Nat.min_le_left _ _)
  have t3 := h.ks.take (hi' := min e.kn 40) (Nat.min_le_left _ _)
  have q1 : min e.b.n 400 ≤ 400 := Nat.min_le_right _ _
  have q2 : min e.note.n 33 ≤ 33 := Nat.min_le_right _ _
  have q3 : min e.kn 40 ≤ 40 := Nat.min_le_right _ _
  have t1l := t1.len
  have t2l := t2.len
  have t3l := t3.len
  refine spec_enter Try.func17 rfl rfl rfl fun u R => ?_
  simp only [argsE, List.cons_append, List.nil_append]
  repeat' (first | (simp only [m1]; refine tl_app (n := 0) (xs := []) (sp := []) (ys := (e.b.l.take (min e.b.n 400)).map u8c) (sz := 1) rfl rfl (OwnS.zero _ 1) (hR := rem_here') t1.srcV (by simpa using t1l) (u8c_one _) (by decide) rfl (by omega) (by omega) rfl (fun v1 sp1 hown1 => ?_); simp only [Nat.zero_add, List.nil_append] at hown1 ⊢; obtain ⟨a1, c1, rfl, _⟩ := hown1.slice) | (refine i_op ?_; first | (refine i_qq ?_; refine qQ ?_) | refine qEf ?_) | refine tl_nil ?_ | (refine i_tc ?_; refine qTc ?_) | (refine i_te ?_; refine qTe ?_) | intro _)
  repeat' (first | (simp only [m2]; refine tl_app (n := 0) (xs := []) (sp := []) (ys := (e.note.l.take (min e.note.n 33)).map u8c) (sz := 1) rfl rfl (OwnS.zero _ 1) (hR := rem_here') t2.srcV (by simpa using t2l) (u8c_one _) (by decide) rfl (by omega) (by omega) rfl (fun v2 sp2 hown2 => ?_); simp only [Nat.zero_add, List.nil_append] at hown2 ⊢; obtain ⟨a2, c2, rfl, _⟩ := hown2.slice) | (refine i_op ?_; first | (refine i_qq ?_; refine qQ ?_) | refine qEf ?_) | refine tl_nil ?_ | (refine i_tc ?_; refine qTc ?_) | (refine i_te ?_; refine qTe ?_) | intro _)
  repeat' (first | (simp only [m3]; refine tl_app (n := 0) (xs := []) (sp := []) (ys := (e.ks.take (min e.kn 40)).map bb) (sz := 1) rfl rfl (OwnS.zero _ 1) (hR := rem_here') t3.srcV (by simpa using t3l) (bb_one _) (by decide) rfl (by omega) (by omega) rfl (fun v3 sp3 hown3 => ?_); simp only [Nat.zero_add, List.nil_append] at hown3 ⊢; obtain ⟨a3, c3, rfl, _⟩ := hown3.slice) | (refine i_op ?_; first | (refine i_qq ?_; refine qQ ?_) | refine qEf ?_) | refine tl_nil ?_ | (refine i_tc ?_; refine qTc ?_) | (refine i_te ?_; refine qTe ?_) | intro _)
  exact qE (L' := [ownC (.slice a1 (min e.b.n 400) c1) ((e.b.l.take (min e.b.n 400)).map u8c) sp1 5, ownC (.slice a2 (min e.note.n 33) c2) ((e.note.l.take (min e.note.n 33)).map u8c) sp2 5, ownC (.slice a3 (min e.kn 40) c3) ((e.ks.take (min e.kn 40)).map bb) sp3 4]) ⟨rfl, a1, c1, sp1, a2, c2, sp2, a3, c3, sp3, rfl, hown1, hown2, hown3, rfl⟩
end Go.Proofs.E

namespace Go.Proofs.E
open Go Go.RowKit
set_option linter.unusedVariables false
set_option linter.unusedSimpArgs false
set_option linter.unusedSectionVars false
set_option maxRecDepth 8000
section
variable {H : Type} {enc : TypeId × Value → H} {w : World}
theorem opn_boolK : Opn enc Try.prog w 4 (fun cs (b : Bool) => cs = [bb b] ∧ True) := (opn_bool Try.underlying4).mono (fun cs b h => ⟨b, h, trivial⟩)
theorem opn_intK : Opn enc Try.prog w 3 (fun cs (i : Int) => cs = [(fun i => Value.int .i64 i) i] ∧ (-9223372036854775808 ≤ i ∧ i ≤ 9223372036854775807)) := (opn_int Try.underlying3).mono (fun cs b h => ⟨b, h.1, h.2⟩)
theorem opn_bytesB : Opn enc Try.prog w 30 (fun cs (e : BSl) => cs = [slv e] ∧ (BIn (hpOf w) e ∧ e.n ≤ 9223372036854775807)) := opn_bsl
theorem opn_boolsK : Opn enc Try.prog w 43 (fun cs (s : Option Addr × Nat × Nat × List Bool) => cs = [.slice s.1 s.2.1 s.2.2.1] ∧ (SIn (hpOf w) bb s.1 s.2.1 s.2.2.2 ∧ s.2.1 ≤ s.2.2.1 ∧ s.2.1 ≤ 9223372036854775807)) :=
  (opn_slice (sz := 1) Try.underlying43 (by kernel_rfl) (by decide) opn_boolK).mono (fun cs s h => by
    obtain ⟨h1, _, h3, h4⟩ := aIn_ofK (g := fun b : Bool => [bb b]) (P := fun _ => True) (fun _ => rfl) h
    exact ⟨s, h.cells, sIn_of1 h1, h3, h4⟩)
theorem opn_event : Opn enc Try.prog w 45 (fun cs (e : EvV) => cs = evC e ∧ EvIn (hpOf w) e) := fun fuel cs x h => by
  obtain ⟨hl, hf⟩ := opn_fields Try.underlying45 h
  have hl : cs.length = 5 := by rw [hl]; kernel_rfl
  obtain ⟨c0, c1, c2, c3, c4, rfl⟩ : ∃ c0 c1 c2 c3 c4, cs = [c0, c1, c2, c3, c4] := by
    match cs, hl with
    | [c0, c1, c2, c3, c4], _ => exact ⟨c0, c1, c2, c3, c4, rfl⟩
  obtain ⟨k, h0, k0, k1⟩ := opn_field h Try.underlying45 0 0 1 rfl rfl rfl (by kernel_rfl) (opn_int Try.underlying3)
  obtain ⟨n, h1, n0, n1⟩ := opn_field h Try.underlying45 1 1 1 rfl rfl rfl (by kernel_rfl) (opn_int Try.underlying3)
  obtain ⟨b, h2, b0, b1⟩ := opn_field h Try.underlying45 2 2 1 rfl rfl rfl (by kernel_rfl) opn_bytesB
  obtain ⟨t, h3, t0, t1⟩ := opn_field h Try.underlying45 3 3 1 rfl rfl rfl (by kernel_rfl) opn_bytesB
  obtain ⟨⟨ka, kn, kp, ks⟩, h4, s0, s1, s2⟩ := opn_field h Try.underlying45 4 4 1 rfl rfl rfl (by kernel_rfl) opn_boolsK
  simp only [List.drop_zero, List.drop_succ_cons, List.take_succ_cons, List.take_zero, List.cons.injEq, and_true] at h0 h1 h2 h3 h4
  subst h0; subst h1; subst h2; subst h3; subst h4
  exact ⟨⟨k, n, b, t, ka, kn, kp, ks⟩, rfl, ⟨⟨n0, n1⟩, ⟨k0, k1⟩, b0, b1, t0, t1, s0, s1, s2⟩⟩
end
end Go.Proofs.E

namespace Go.Proofs.E
open Go
set_option linter.unusedVariables false
set_option linter.unusedSimpArgs false
set_option linter.unusedSectionVars false
set_option maxRecDepth 4000
set_option maxHeartbeats 1000000
attribute [local irreducible] Yl TL TC TE Spec YSpec R1 Hp.le EnvLe TS TR YS Stays
theorem sIn_part {ρ : Hp} {b : Nat} {s : Bs} {T : TypeId} {fr : Nat × Nat} (h : ρ b = some (.cells ⟨s.map u8c⟩ T fr)) (lo' n : Nat) (hn : lo' + n ≤ s.length) : SIn ρ u8c (some ⟨b, lo', none⟩) n ((s.drop lo').take n) := by
  refine ⟨by simp; omega, .inr ⟨b, lo', _, _, _, rfl, h, by rw [List.map_take, List.map_drop]⟩⟩
theorem sector_spec (ρ : Hp) (rb rbx db : Nat) (R : RgS) (w : RW) (k : DK) (D : DS) (hD : DOk k D) (place : Int) (h0 : 0 ≤ place) (h1 : place ≤ 1000000) :
    Spec Try.prog 91 [.int .i64 place, .pointer (some ⟨rbx, 0, none⟩)] ρ ([[(rbx, .cells ⟨[.pointer (some ⟨rb, 0, none⟩)]⟩ 24 (0, 0))], [(rb, .cells ⟨rgV R db w⟩ 97 (0, 0))]] ++ diskK db k D)
      (fun v ρ' L' => v = .tuple ⟨[bv (D.read (2 + place)).2.1, .int .i64 (D.read (2 + place)).2.2]⟩ ∧ ρ' = ρ ∧ DOk k (D.read (2 + place)).1 ∧ L' = [[(rbx, .cells ⟨[.pointer (some ⟨rb, 0, none⟩)]⟩ 24 (0, 0))], [(rb, .cells ⟨rgV R db w⟩ 97 (0, 0))]] ++ diskK db k (D.read (2 + place)).1) := by
  have h64 := read_len hD.ok (2 + place)
  have hpl : ((D.read (2 + place)).2.1.map u8c).length = 64 := by simpa using h64
  have hp1 := u8c_one (D.read (2 + place)).2.1
  refine spec_enter Try.func91 rfl rfl rfl fun u R0 => ?_
  simp only [argsE, List.cons_append, List.nil_append]
  repeat' (first | (refine tl_is (.func 26) ?_; refine qC rfl rfl (kread _ db k D _ hD) ?_; rintro v ρ' L' hle ⟨rfl, rfl, hD2, rfl⟩ <;> (try simp only [List.cons_append, List.nil_append, List.append_eq])) | (refine i_op ?_; first | (refine i_qq ?_; refine qQ ?_) | refine qEf ?_) | refine tl_nil ?_ | (refine i_tc ?_; refine qTc ?_) | (refine i_te ?_; refine qTe ?_) | intro _)
  exact qE (L' := [[(rbx, .cells ⟨[.pointer (some ⟨rb, 0, none⟩)]⟩ 24 (0, 0))], [(rb, .cells ⟨rgV R db w⟩ 97 (0, 0))]] ++ diskK db k (D.read (2 + place)).1) ⟨rfl, rfl, hD2, rfl⟩
/-- what is copied behind the first k sectors of an entry -/
theorem fit_copy {size k : Nat} {acc s : Bs} (hl : acc.length = 52 * k) (hk : 52 * k ≤ size) (hs : s.length = 52) : stc ((fitB size acc).map u8c) (52 * k) ((s.map u8c).take (size - 52 * k)) = (fitB size (acc ++ s)).map u8c := by
  have e1 : fitB size acc = acc ++ z8 (size - 52 * k) := by
    unfold fitB z8
    rw [List.take_append, List.take_of_length_le (by omega), List.take_replicate, hl]
    congr 2; omega
  have e2 : fitB size (acc ++ s) = acc ++ (s.take (size - 52 * k) ++ z8 (size - 52 * k - 52)) := by
    unfold fitB z8
    rw [List.append_assoc, List.take_append, List.take_of_length_le (by omega), hl, List.take_append, List.take_replicate, hs]
    congr 3; omega
  rw [e1, e2]
  unfold stc
  simp only [List.map_append, List.map_take]
  rw [List.take_left' (by simpa using hl), ← List.drop_drop, List.drop_left' (by simpa using hl), List.append_assoc]
  congr 2
  simp only [z8, List.map_replicate, List.drop_replicate, List.length_take, List.length_map, hs]
  congr 1; omega
end Go.Proofs.E

namespace Go.Proofs.E
open Go
set_option linter.unusedVariables false
set_option linter.unusedSimpArgs false
set_option linter.unusedSectionVars false
set_option maxRecDepth 4000
set_option maxHeartbeats 1000000
attribute [local irreducible] Yl TL TC TE Spec YSpec R1 Hp.le EnvLe TS TR YS Stays
abbrev secS (rb rbx db : Nat) (R : RgS) (w : RW) : SH := [[(rbx, .cells ⟨[.pointer (some ⟨rb, 0, none⟩)]⟩ 24 (0, 0))], [(rb, .cells ⟨rgV R db w⟩ 97 (0, 0))]]
def entAns (ρ' : Hp) (r : Option Bs × DS × Int) (v : Value) : Prop := match r.1 with
  | none => v = .tuple ⟨[.slice none 0 0, .bool false, .int .i64 r.2.2]⟩
  | some b => ∃ e : BSl, v = .tuple ⟨[slv e, .bool true, .int .i64 0]⟩ ∧ BIn ρ' e ∧ e.l = b
theorem entry_spec (ρ : Hp) (rb rbx db : Nat) (R : RgS) (w : RW) (k : DK) (D : DS) (hD : DOk k D) (h : Hd) (na : Option Addr) (nn nc n at' left : Nat) (hsz : 0 < h.size) (hsz2 : h.size ≤ 1000) (hat : at' ≤ 1000000) (ht : h.turn ≤ 1073741824) (hn : n ≤ 1099511627776) (hlf : left ≤ 1000) :
    Spec Try.prog 92 [.agg ⟨hdV h na nn nc⟩, .int .u64 n, .int .i64 at', .int .i64 left, .func (.func 91) ⟨[]⟩ ⟨[.pointer (some ⟨rbx, 0, none⟩)]⟩] ρ (secS rb rbx db R w ++ diskK db k D)
      (fun v ρ' L' => ρ.le ρ' ∧ entAns ρ' (entryR h n at' left D) v ∧ DOk k (entryR h n at' left D).2.1 ∧ L' = secS rb rbx db R w ++ diskK db k (entryR h n at' left D).2.1) := by
  by_cases hl0 : left = 0
  · have he : entryR h n at' left D = (none, D, 0) := by unfold entryR; rw [if_pos hl0]
    rw [he]
    refine spec_enter Try.func92 rfl rfl rfl fun u R0 => ?_
    simp only [argsE, List.cons_append, List.nil_append]
    repeat' (first | (refine i_op ?_; first | (refine i_qq ?_; refine qQ ?_) | refine qEf ?_) | refine tl_nil ?_ | (refine i_tc ?_; refine qTc ?_) | (refine i_te ?_; refine qTe ?_) | intro _)
    exact qE (L' := secS rb rbx db R w ++ diskK db k D) ⟨Hp.le_refl _, rfl, hD, rfl⟩
  · refine spec_enter Try.func92 rfl rfl rfl fun u R0 => ?_
    simp only [argsE, List.cons_append, List.nil_append]
    generalize hRES : entryR h n at' left D = RES at *
    repeat' (first | (refine i_op ?_; first | (refine i_qq ?_; refine qQ ?_) | refine qEf ?_) | refine tl_nil ?_ | (refine i_tc ?_; refine qTc ?_) | (refine i_te ?_; refine qTe ?_) | intro _)
    rename_i hb
    refine tc_loop_g [(1, _), (2, _), (3, _), (4, _), (5, _), (10, _), (11, _), (12, _)] (fun (ζ : (Nat) × (Nat) × (Nat) × (Hp) × (Value) × (List (Nat × Obj)) × (Bs) × (DS)) => [(16, .int .i64 ζ.1), (14, .int .i64 ζ.2.2.1), (15, .int .u64 ζ.2.1), (13, ζ.2.2.2.2.1)]) (fun (ζ : (Nat) × (Nat) × (Nat) × (Hp) × (Value) × (List (Nat × Obj)) × (Bs) × (DS)) => ζ.2.2.2.1) (fun (ζ : (Nat) × (Nat) × (Nat) × (Hp) × (Value) × (List (Nat × Obj)) × (Bs) × (DS)) => [ζ.2.2.2.2.2.1, [(hb, .cells ⟨hdV h na nn nc⟩ 95 (0, 0))]] ++ (secS rb rbx db R w ++ diskK db k ζ.2.2.2.2.2.2.2)) (fun (ζ : (Nat) × (Nat) × (Nat) × (Hp) × (Value) × (List (Nat × Obj)) × (Bs) × (DS)) => ρ.le ζ.2.2.2.1 ∧ DOk k ζ.2.2.2.2.2.2.2 ∧ ((ζ.1 = 0 ∧ ζ.2.1 = 0 ∧ ζ.2.2.1 = 0 ∧ ζ.2.2.2.2.1 = .slice none 0 0 ∧ ζ.2.2.2.2.2.1 = [] ∧ ζ.2.2.2.2.2.2.2 = D) ∨ (1 ≤ ζ.1 ∧ ζ.1 ≤ sects ζ.2.2.1 ∧ ζ.2.2.2.2.2.2.1.length = 52 * ζ.1 ∧ ζ.2.2.1 ≤ 8000 ∧ ζ.2.1 ≤ 1073741824 ∧ entGo h n at' ζ.2.1 ζ.2.2.1 (sects ζ.2.2.1 - ζ.1) ζ.1 ζ.2.2.2.2.2.2.1 ζ.2.2.2.2.2.2.2 = RES ∧ ∃ bb, ζ.2.2.2.2.1 = .slice (some ⟨bb, 0, none⟩) ζ.2.2.1 ζ.2.2.1 ∧ ζ.2.2.2.2.2.1 = [(bb, .cells ⟨(fitB ζ.2.2.1 ζ.2.2.2.2.2.2.1).map u8c⟩ 5 (0, 0))]))) (fun (ζ : (Nat) × (Nat) × (Nat) × (Hp) × (Value) × (List (Nat × Obj)) × (Bs) × (DS)) => 200 - ζ.1) ((0, 0, 0, ρ, .slice none 0 0, [], [], D)) (⟨Hp.le_refl _, hD, .inl ⟨rfl, rfl, rfl, rfl, rfl, rfl⟩⟩) ev_le ev_le rfl tk ?_
    rintro ⟨k0, turn, size, ρ1, vb, c, acc, D1⟩ hI
    try simp only [List.cons_append, List.nil_append, List.append_assoc, List.append_eq] at hI ⊢
    try dsimp only at hI ⊢
    obtain ⟨hle1, hD1, hor⟩ := hI
    have hrm : ((at' : Int) + (k0 : Int)).tmod (h.size : Int) = (((at' + k0) % h.size : Nat) : Int) := by
      rw [Int.tmod_eq_emod_of_nonneg (by omega), Int.natCast_emod, Int.natCast_add]
    have hml := Nat.mod_lt (at' + k0) hsz
    have hsec := sector_spec ρ1 rb rbx db R w k D1 hD1 (((at' + k0) % h.size : Nat) : Int) (by omega) (by omega)
    have hidx : (2 : Int) + (((at' + k0) % h.size : Nat) : Int) = ((2 + (at' + k0) % h.size : Nat) : Int) := by omega
    rw [hidx] at hsec
    have h64 := read_len hD1.ok ((2 + (at' + k0) % h.size : Nat) : Int)
    rcases hor with ⟨hk0, rfl, rfl, rfl, rfl, rfl⟩ | ⟨hk0, hk1, hacc, hs8, ht8, hgo, bb, rfl, rfl⟩
    · have hE : RES = if (D1.read ((2 + (at' + k0) % h.size : Nat) : Int)).2.2 ≠ 0 then (none, (D1.read ((2 + (at' + k0) % h.size : Nat) : Int)).1, (D1.read ((2 + (at' + k0) % h.size : Nat) : Int)).2.2) else entGo0 h n at' left (D1.read ((2 + (at' + k0) % h.size : Nat) : Int)).2.1 (D1.read ((2 + (at' + k0) % h.size : Nat) : Int)).1 := by
        rw [← hRES]; unfold entryR; rw [if_neg hl0, hk0, Nat.add_zero]
      generalize D1.read ((2 + (at' + k0) % h.size : Nat) : Int) = r at *
      obtain ⟨D2, s, ec⟩ := r
      dsimp only at hsec h64 hE
      have hpl : (s.map u8c).length = 64 := by simpa using h64
      have hp1 := u8c_one s
      repeat' (first | (simp only [hrm]; refine tl_is (.tmp 32) ?_; refine qC rfl rfl hsec ?_; rintro v2 ρ2 L2 hle2 ⟨rfl, rfl, hD2, rfl⟩; simp only [List.cons_append, List.nil_append, List.append_assoc]) | (refine i_op ?_; first | (refine i_qq ?_; refine qQ ?_) | refine qEf ?_) | refine tl_nil ?_ | (refine i_tc ?_; refine qTc ?_) | (refine i_te ?_; refine qTe ?_) | intro _)
      by_cases hec : ec = 0
      · subst hec
        rw [show ((0 : Int) != 0) = false from rfl]
        rename_i bs
        refine tc_freeze [(bs, .cells ⟨s.map u8c⟩ 66 (0, 0))] (h := Rem.here) (fun ρ3 hle3 hfz => ?_)
        rw [if_neg (by simp)] at hE
        have hs4 : SIn ρ3 u8c (some ⟨bs, 0, none⟩) 4 (s.take 4) := by have := sIn_part (hfz _ (List.mem_singleton.2 rfl)) 0 4 (by omega); rwa [List.drop_zero] at this
        have hs2 : SIn ρ3 u8c (some ⟨bs, 0 + 9 * 1, none⟩) 2 ((s.drop 9).take 2) := sIn_part (hfz _ (List.mem_singleton.2 rfl)) 9 2 (by omega)
        have hn4 := numb_spec ρ3 (some ⟨bs, 0, none⟩) 4 64 _ hs4 (by omega)
        have hn2 := numb_spec ρ3 (some ⟨bs, 0 + 9 * 1, none⟩) 2 55 _ hs2 (by omega)
        have hb4 : turnOf s < 4294967296 := by have := unbe_lt (s.take 4); rw [show (s.take 4).length = 4 by simp; omega] at this; exact this
        have hb2 : sizeOf' s < 65536 := by have := unbe_lt ((s.drop 9).take 2); rw [show ((s.drop 9).take 2).length = 2 by simp; omega] at this; exact this
        change Spec _ _ _ _ _ (fun v ρ' L' => v = .int .u64 (turnOf s : Nat) ∧ ρ' = ρ3 ∧ L' = []) at hn4
        change Spec _ _ _ _ _ (fun v ρ' L' => v = .int .u64 (sizeOf' s : Nat) ∧ ρ' = ρ3 ∧ L' = []) at hn2
        repeat' (first | (refine i_op ?_; first | (refine i_qq ?_; refine qQ ?_) | refine qEf ?_) | refine tl_nil ?_ | (refine i_tc ?_; refine qTc ?_) | (refine i_te ?_; refine qTe ?_) | intro _)
        refine tc_any (Stays _ _ ([])) (stays_of (hT := tk) (Hp.le_refl _)) ?_
        all_goals refine rSl 0 ?_
        all_goals refine rSl 2 ?_
        all_goals (refine rStep (i := 1) ?_; ((try refine qWant ?_); (first | (refine tl_is (.func 124) ?_; refine qC rfl rfl (hn4) ?_; rintro v ρ' L' hle ⟨rfl, rfl, rfl⟩ <;> (try simp only [List.cons_append, List.nil_append, List.append_eq])) | (refine tl_is (.func 124) ?_; refine qC rfl rfl (hn2) ?_; rintro v ρ' L' hle ⟨rfl, rfl, rfl⟩ <;> (try simp only [List.cons_append, List.nil_append, List.append_eq])) | (refine qEf ?_; try intro _)) <;> ((try simp only [List.cons_append, List.nil_append, List.append_eq]); refine tl_nil ?_; refine rNext ?_)))
        all_goals (refine rStep (i := 3) ?_; ((try refine qWant ?_); (first | (refine tl_is (.func 124) ?_; refine qC rfl rfl (hn4) ?_; rintro v ρ' L' hle ⟨rfl, rfl, rfl⟩ <;> (try simp only [List.cons_append, List.nil_append, List.append_eq])) | (refine tl_is (.func 124) ?_; refine qC rfl rfl (hn2) ?_; rintro v ρ' L' hle ⟨rfl, rfl, rfl⟩ <;> (try simp only [List.cons_append, List.nil_append, List.append_eq])) | (refine qEf ?_; try intro _)) <;> ((try simp only [List.cons_append, List.nil_append, List.append_eq]); refine tl_nil ?_; refine rNext ?_)))
        all_goals refine rFull ?_
        all_goals refine rCv 4 ?_
        all_goals refine rAs 5 ?_
        all_goals refine rAs 6 ?_
        all_goals refine rDone ?_
        all_goals have hss := sects_spec ρ' (sizeOf' s) (by omega)
        all_goals by_cases hbad : turnOf s < 1 ∨ h.turn < turnOf s ∨ 8000 < sizeOf' s ∨ left < sects (sizeOf' s)
        · have hEb : RES = (none, D2, 0) := by rw [hE]; unfold entGo0; rw [if_pos hbad]
          by_cases h1 : turnOf s < 1
          · repeat' (first | (refine tl_is (.func 12) ?_; refine qC rfl rfl (hss) ?_; rintro v ρ' L' hle ⟨rfl, rfl, rfl⟩ <;> (try simp only [List.cons_append, List.nil_append, List.append_eq])) | (refine i_op ?_; first | (refine i_qq ?_; refine qQ ?_) | refine qEf ?_) | refine tl_nil ?_ | (refine i_tc ?_; refine qTc ?_) | (refine i_te ?_; refine qTe ?_) | intro _)
            all_goals rw [hEb]
            all_goals exact qE (L' := secS rb rbx db R w ++ diskK db k D2) ⟨Hp.le_trans hle1 ‹_›, rfl, hD2, rfl⟩
          · by_cases h2 : h.turn < turnOf s
            · repeat' (first | (refine tl_is (.func 12) ?_; refine qC rfl rfl (hss) ?_; rintro v ρ' L' hle ⟨rfl, rfl, rfl⟩ <;> (try simp only [List.cons_append, List.nil_append, List.append_eq])) | (refine i_op ?_; first | (refine i_qq ?_; refine qQ ?_) | refine qEf ?_) | refine tl_nil ?_ | (refine i_tc ?_; refine qTc ?_) | (refine i_te ?_; refine qTe ?_) | intro _)
              all_goals rw [hEb]
              all_goals exact qE (L' := secS rb rbx db R w ++ diskK db k D2) ⟨Hp.le_trans hle1 ‹_›, rfl, hD2, rfl⟩
            · by_cases h3 : 8000 < sizeOf' s
              · repeat' (first | (refine tl_is (.func 12) ?_; refine qC rfl rfl (hss) ?_; rintro v ρ' L' hle ⟨rfl, rfl, rfl⟩ <;> (try simp only [List.cons_append, List.nil_append, List.append_eq])) | (refine i_op ?_; first | (refine i_qq ?_; refine qQ ?_) | refine qEf ?_) | refine tl_nil ?_ | (refine i_tc ?_; refine qTc ?_) | (refine i_te ?_; refine qTe ?_) | intro _)
                all_goals rw [hEb]
                all_goals exact qE (L' := secS rb rbx db R w ++ diskK db k D2) ⟨Hp.le_trans hle1 ‹_›, rfl, hD2, rfl⟩
              · have h4 : left < sects (sizeOf' s) := by omega
                repeat' (first | (refine tl_is (.func 12) ?_; refine qC rfl rfl (hss) ?_; rintro v ρ' L' hle ⟨rfl, rfl, rfl⟩ <;> (try simp only [List.cons_append, List.nil_append, List.append_eq])) | (refine i_op ?_; first | (refine i_qq ?_; refine qQ ?_) | refine qEf ?_) | refine tl_nil ?_ | (refine i_tc ?_; refine qTc ?_) | (refine i_te ?_; refine qTe ?_) | intro _)
                all_goals rw [hEb]
                all_goals exact qE (L' := secS rb rbx db R w ++ diskK db k D2) ⟨Hp.le_trans hle1 ‹_›, rfl, hD2, rfl⟩
        · have hEg : RES = if partB (turnOf s) n (fitB (sizeOf' s) (s.drop 12)) 0 = s then entGo h n at' (turnOf s) (sizeOf' s) (sects (sizeOf' s) - 1) 1 (s.drop 12) D2 else (none, D2, 0) := by rw [hE]; unfold entGo0; rw [if_neg hbad]
          have g1 : 1 ≤ turnOf s := by omega
          have g2 : turnOf s ≤ h.turn := by omega
          have g3 : sizeOf' s ≤ 8000 := by omega
          have g4 : sects (sizeOf' s) ≤ left := by omega
          clear hbad
          repeat' (first | (refine tl_is (.func 12) ?_; refine qC rfl rfl (hss) ?_; rintro v ρ' L' hle ⟨rfl, rfl, rfl⟩ <;> (try simp only [List.cons_append, List.nil_append, List.append_eq])) | (refine tl_makeSlice rfl rfl (by omega) (by omega) (by omega) (by omega) rfl (fun bb => ?_); simp only [Nat.mul_one, made_z8, Int.toNat_natCast]) | (refine i_op ?_; first | (refine i_qq ?_; refine qQ ?_) | refine qEf ?_) | refine tl_nil ?_ | (refine i_tc ?_; refine qTc ?_) | (refine i_te ?_; refine qTe ?_) | intro _)
          rw [show z8 (sizeOf' s) = fitB (sizeOf' s) [] by simp [fitB, z8]]
          have hacc1 : ([] : Bs).length = 52 * k0 := by simp [hk0]
          have hk52 : 52 * k0 ≤ sizeOf' s := by omega
          have hkk : k0 < sects (sizeOf' s) := by have := sects_pos (sizeOf' s); omega
          have hrem : partB (turnOf s) n (fitB (sizeOf' s) (([] : Bs) ++ s.drop 12)) k0 ≠ s → RES = (none, D2, 0) := fun hp => by
            rw [hk0, List.nil_append] at hp; rw [hEg, if_neg hp]
          have hgo : partB (turnOf s) n (fitB (sizeOf' s) (([] : Bs) ++ s.drop 12)) k0 = s → entGo h n at' (turnOf s) (sizeOf' s) (sects (sizeOf' s) - (k0 + 1)) (k0 + 1) (([] : Bs) ++ s.drop 12) D2 = RES := fun hp => by
            rw [hk0, List.nil_append] at hp ⊢; rw [hEg, if_pos hp]
          have hst := fit_copy (size := (sizeOf' s)) (k := k0) (acc := ([] : Bs)) (s := s.drop 12) (by simpa using hacc1) hk52 (by simp; omega)
          have hsn : SIn _ u8c (some ⟨bs, 0 + 12 * 1, none⟩) 52 ((s.drop 12).take 52) := sIn_part (hfz _ (List.mem_singleton.2 rfl)) 12 52 (by omega)
          rw [List.take_of_length_le (by simp; omega)] at hsn
          have hdst : (if (sizeOf' s) = 52 * k0 then some (⟨bb, 0, none⟩ : Addr) else some ⟨bb, 0 + 52 * k0 * 1, none⟩) = some ⟨bb, 52 * k0, none⟩ := by
            by_cases hx : (sizeOf' s) = 52 * k0
            · rw [if_pos hx]; have : k0 = 0 := by rcases sects_mul hkk with h | h <;> omega
              rw [this]
            · rw [if_neg hx]; simp
          have hton : (52 * (k0 : Int)).toNat = 52 * k0 := by omega
          refine tc_any (Stays _ _ ([])) (stays_of (hT := tk) (Hp.le_refl _)) ?_
          all_goals refine rMv 0 ?_
          all_goals refine rMv 1 ?_
          all_goals refine rMl 2 ?_
          all_goals refine rSl 3 ?_
          all_goals refine rSl 4 ?_
          all_goals (refine rStep (i := 5) ?_; ((try refine qWant ?_); (first | (simp only [hton, Option.map_some, addr_add, hdst]; refine tl_copy (ys := (s.drop 12).map u8c) rfl rfl (SIn.srcV hsn) (by simp; omega) (u8c_one _) (by simp [fitB_len]; omega) rfl ?_; simp only [hst]) | (refine qEf ?_; try intro _)) <;> ((try simp only [List.cons_append, List.nil_append, List.append_eq]); refine tl_nil ?_; refine rNext ?_)))
          all_goals refine rDone ?_
          all_goals (repeat' (first | (refine i_op ?_; first | (refine i_qq ?_; refine qQ ?_) | refine qEf ?_) | refine tl_nil ?_ | (refine i_tc ?_; refine qTc ?_) | (refine i_te ?_; refine qTe ?_) | intro _))
          have hown : OwnS (.slice (some ⟨bb, 0, none⟩) (sizeOf' s) (sizeOf' s)) (sizeOf' s) ((fitB (sizeOf' s) (([] : Bs) ++ s.drop 12)).map u8c) [] 1 := ⟨.inr ⟨bb, (sizeOf' s), rfl, by simp [fitB_len], by simp [fitB_len], Nat.le_refl _⟩⟩
          have hrd := hown.rd (ρ := ρ') (T := 5)
          rw [show ownC (.slice (some ⟨bb, 0, none⟩) (sizeOf' s) (sizeOf' s)) ((fitB (sizeOf' s) (([] : Bs) ++ s.drop 12)).map u8c) [] 5 = [(bb, .cells ⟨(fitB (sizeOf' s) (([] : Bs) ++ s.drop 12)).map u8c⟩ 5 (0, 0))] by simp [ownC]] at hrd
          have hbs := hfz _ (List.mem_singleton.2 rfl)
          dsimp only at hbs
          have hld : List.take 64 (List.drop 0 (s.map u8c)) = s.map u8c := by rw [List.drop_zero, List.take_of_length_le (by omega)]
          have hpt := part_spec ρ' _ (turnOf s) n _ (sizeOf' s) (sizeOf' s) _ hrd (Nat.le_refl _) k0 (by omega) hn (by omega) hkk
          have hpl2 : ((partB (turnOf s) n (fitB (sizeOf' s) (([] : Bs) ++ s.drop 12)) k0).map u8c).length = 64 := by simp [partB_len]
          by_cases hp : partB (turnOf s) n (fitB (sizeOf' s) (([] : Bs) ++ s.drop 12)) k0 = s
          · rw [hp] at hpt
            refine tc_any (Stays _ _ ([])) (stays_of (hT := tk) (Hp.le_refl _)) ?_
            all_goals refine rMv 0 ?_
            all_goals refine rMv 1 ?_
            all_goals refine rMv 2 ?_
            all_goals refine rMv 3 ?_
            all_goals refine rLd 5 ?_
            all_goals (refine rStep (i := 4) ?_; ((try refine qWant ?_); (first | (refine tl_is (.func 89) ?_; refine qC rfl rfl hpt ?_; rintro v4 ρ4 L4 hle4 ⟨rfl, rfl, rfl⟩; try simp only [List.cons_append, List.nil_append]) | (refine qEf ?_; try intro _)) <;> ((try simp only [List.cons_append, List.nil_append, List.append_eq]); refine tl_nil ?_; refine rNext ?_)))
            all_goals refine rFull ?_
            all_goals refine rCm 6 ?_
            all_goals refine rDone ?_
            all_goals (repeat' (first | (refine i_op ?_; first | (refine i_qq ?_; refine qQ ?_) | refine qEf ?_) | refine tl_nil ?_ | (refine i_tc ?_; refine qTc ?_) | (refine i_te ?_; refine qTe ?_) | intro _))
            all_goals refine te_round_g (k0 + 1, (turnOf s), (sizeOf' s), _, _, _, ([] : Bs) ++ s.drop 12, D2) (⟨Hp.le_trans hle1 hle3, hD2, .inr ⟨by dsimp only; omega, hkk, by simp [hacc1]; omega, by dsimp only; omega, by dsimp only; omega, hgo hp, bb, rfl, rfl⟩⟩) ev_le ev_le rfl tk inferInstance (by first | omega | (dsimp only; omega))
          · have hlm1 : (partB (turnOf s) n (fitB (sizeOf' s) (([] : Bs) ++ s.drop 12)) k0).length = 64 := partB_len _ _ _ _
            refine tc_any (Stays _ _ ([])) (stays_of (hT := tk) (Hp.le_refl _)) ?_
            all_goals refine rMv 0 ?_
            all_goals refine rMv 1 ?_
            all_goals refine rMv 2 ?_
            all_goals refine rMv 3 ?_
            all_goals refine rLd 5 ?_
            all_goals (refine rStep (i := 4) ?_; ((try refine qWant ?_); (first | (refine tl_is (.func 89) ?_; refine qC rfl rfl hpt ?_; rintro v4 ρ4 L4 hle4 ⟨rfl, rfl, rfl⟩; try simp only [List.cons_append, List.nil_append]) | (refine qEf ?_; try intro _)) <;> ((try simp only [List.cons_append, List.nil_append, List.append_eq]); refine tl_nil ?_; refine rNext ?_)))
            all_goals refine rFull ?_
            all_goals refine rCm 6 ?_
            all_goals refine rDone ?_
            all_goals (repeat' (first | (refine i_op ?_; first | (refine i_qq ?_; refine qQ ?_) | refine qEf ?_) | refine tl_nil ?_ | (refine i_tc ?_; refine qTc ?_) | (refine i_te ?_; refine qTe ?_) | intro _))
            all_goals rw [hrem hp]
            all_goals exact qE (L' := secS rb rbx db R w ++ diskK db k D2) ⟨Hp.le_trans hle1 hle3, rfl, hD2, rfl⟩
      · have hcb : (ec != 0) = true := by simpa using hec
        rw [hcb]
        rw [if_pos hec] at hE
        repeat' (first | (refine i_op ?_; first | (refine i_qq ?_; refine qQ ?_) | refine qEf ?_) | refine tl_nil ?_ | (refine i_tc ?_; refine qTc ?_) | (refine i_te ?_; refine qTe ?_) | intro _)
        rw [hE]
        exact qE (L' := secS rb rbx db R w ++ diskK db k D2) ⟨hle1, rfl, hD2, rfl⟩
    · have hss := sects_spec ρ1 size (by omega)
      have h154 := sects_le hs8
      by_cases hlt : k0 < sects size
      · obtain ⟨j, hj⟩ : ∃ j, sects size - k0 = j + 1 := ⟨sects size - k0 - 1, by omega⟩
        have hj2 : sects size - (k0 + 1) = j := by omega
        have hE := hgo
        rw [hj] at hE
        simp only [entGo] at hE
        generalize D1.read ((2 + (at' + k0) % h.size : Nat) : Int) = r at *
        obtain ⟨D2, s, ec⟩ := r
        dsimp only at hsec h64 hE
        have hpl : (s.map u8c).length = 64 := by simpa using h64
        have hp1 := u8c_one s
        repeat' (first | (refine tl_is (.func 12) ?_; refine qC rfl rfl (hss) ?_; rintro v ρ' L' hle ⟨rfl, rfl, rfl⟩ <;> (try simp only [List.cons_append, List.nil_append, List.append_eq])) | (simp only [hrm]; refine tl_is (.tmp 32) ?_; refine qC rfl rfl hsec ?_; rintro v2 ρ2 L2 hle2 ⟨rfl, rfl, hD2, rfl⟩; simp only [List.cons_append, List.nil_append, List.append_assoc]) | (refine i_op ?_; first | (refine i_qq ?_; refine qQ ?_) | refine qEf ?_) | refine tl_nil ?_ | (refine i_tc ?_; refine qTc ?_) | (refine i_te ?_; refine qTe ?_) | intro _)
        by_cases hec : ec = 0
        · subst hec
          rw [show ((0 : Int) != 0) = false from rfl]
          rename_i bs
          refine tc_freeze [(bs, .cells ⟨s.map u8c⟩ 66 (0, 0))] (h := Rem.here) (fun ρ3 hle3 hfz => ?_)
          rw [if_neg (by simp)] at hE
          repeat' (first | (refine i_op ?_; first | (refine i_qq ?_; refine qQ ?_) | refine qEf ?_) | refine tl_nil ?_ | (refine i_tc ?_; refine qTc ?_) | (refine i_te ?_; refine qTe ?_) | intro _)
          have hacc1 : acc.length = 52 * k0 := hacc
          have hk52 : 52 * k0 ≤ size := by rcases sects_mul hlt with h | h <;> omega
          have hkk : k0 < sects size := hlt
          have hb4 : turn ≤ 1073741824 := ht8
          have hrem : partB turn n (fitB size (acc ++ s.drop 12)) k0 ≠ s → RES = (none, D2, 0) := fun hp => by
            rw [← hE, if_neg hp]
          have hgo2 : partB turn n (fitB size (acc ++ s.drop 12)) k0 = s → entGo h n at' turn size (sects size - (k0 + 1)) (k0 + 1) (acc ++ s.drop 12) D2 = RES := fun hp => by
            rw [hj2, ← hE, if_pos hp]
          have hst := fit_copy (size := size) (k := k0) (acc := acc) (s := s.drop 12) (by simpa using hacc1) hk52 (by simp; omega)
          have hsn : SIn _ u8c (some ⟨bs, 0 + 12 * 1, none⟩) 52 ((s.drop 12).take 52) := sIn_part (hfz _ (List.mem_singleton.2 rfl)) 12 52 (by omega)
          rw [List.take_of_length_le (by simp; omega)] at hsn
          have hdst : (if size = 52 * k0 then some (⟨bb, 0, none⟩ : Addr) else some ⟨bb, 0 + 52 * k0 * 1, none⟩) = some ⟨bb, 52 * k0, none⟩ := by
            by_cases hx : size = 52 * k0
            · rw [if_pos hx]; have : k0 = 0 := by rcases sects_mul hkk with h | h <;> omega
              rw [this]
            · rw [if_neg hx]; simp
          have hton : (52 * (k0 : Int)).toNat = 52 * k0 := by omega
          refine tc_any (Stays _ _ ([])) (stays_of (hT := tk) (Hp.le_refl _)) ?_
          all_goals refine rMv 0 ?_
          all_goals refine rMv 1 ?_
          all_goals refine rMl 2 ?_
          all_goals refine rSl 3 ?_
          all_goals refine rSl 4 ?_
          all_goals (refine rStep (i := 5) ?_; ((try refine qWant ?_); (first | (simp only [hton, Option.map_some, addr_add, hdst]; refine tl_copy (ys := (s.drop 12).map u8c) rfl rfl (SIn.srcV hsn) (by simp; omega) (u8c_one _) (by simp [fitB_len]; omega) rfl ?_; simp only [hst]) | (refine qEf ?_; try intro _)) <;> ((try simp only [List.cons_append, List.nil_append, List.append_eq]); refine tl_nil ?_; refine rNext ?_)))
          all_goals refine rDone ?_
          all_goals (repeat' (first | (refine i_op ?_; first | (refine i_qq ?_; refine qQ ?_) | refine qEf ?_) | refine tl_nil ?_ | (refine i_tc ?_; refine qTc ?_) | (refine i_te ?_; refine qTe ?_) | intro _))
          have hown : OwnS (.slice (some ⟨bb, 0, none⟩) size size) size ((fitB size (acc ++ s.drop 12)).map u8c) [] 1 := ⟨.inr ⟨bb, size, rfl, by simp [fitB_len], by simp [fitB_len], Nat.le_refl _⟩⟩
          have hrd := hown.rd (ρ := ρ3) (T := 5)
          rw [show ownC (.slice (some ⟨bb, 0, none⟩) size size) ((fitB size (acc ++ s.drop 12)).map u8c) [] 5 = [(bb, .cells ⟨(fitB size (acc ++ s.drop 12)).map u8c⟩ 5 (0, 0))] by simp [ownC]] at hrd
          have hbs := hfz _ (List.mem_singleton.2 rfl)
          dsimp only at hbs
          have hld : List.take 64 (List.drop 0 (s.map u8c)) = s.map u8c := by rw [List.drop_zero, List.take_of_length_le (by omega)]
          have hpt := part_spec ρ3 _ turn n _ size size _ hrd (Nat.le_refl _) k0 (by omega) hn (by omega) hkk
          have hpl2 : ((partB turn n (fitB size (acc ++ s.drop 12)) k0).map u8c).length = 64 := by simp [partB_len]
          by_cases hp : partB turn n (fitB size (acc ++ s.drop 12)) k0 = s
          · rw [hp] at hpt
            refine tc_any (Stays _ _ ([])) (stays_of (hT := tk) (Hp.le_refl _)) ?_
            all_goals refine rMv 0 ?_
            all_goals refine rMv 1 ?_
            all_goals refine rMv 2 ?_
            all_goals refine rMv 3 ?_
            all_goals refine rLd 5 ?_
            all_goals (refine rStep (i := 4) ?_; ((try refine qWant ?_); (first | (refine tl_is (.func 89) ?_; refine qC rfl rfl hpt ?_; rintro v4 ρ4 L4 hle4 ⟨rfl, rfl, rfl⟩; try simp only [List.cons_append, List.nil_append]) | (refine qEf ?_; try intro _)) <;> ((try simp only [List.cons_append, List.nil_append, List.append_eq]); refine tl_nil ?_; refine rNext ?_)))
            all_goals refine rFull ?_
            all_goals refine rCm 6 ?_
            all_goals refine rDone ?_
            all_goals (repeat' (first | (refine i_op ?_; first | (refine i_qq ?_; refine qQ ?_) | refine qEf ?_) | refine tl_nil ?_ | (refine i_tc ?_; refine qTc ?_) | (refine i_te ?_; refine qTe ?_) | intro _))
            all_goals refine te_round_g (k0 + 1, turn, size, _, _, _, acc ++ s.drop 12, D2) (⟨Hp.le_trans hle1 hle3, hD2, .inr ⟨by dsimp only; omega, hkk, by simp [hacc1]; omega, by dsimp only; omega, by dsimp only; omega, hgo2 hp, bb, rfl, rfl⟩⟩) ev_le ev_le rfl tk inferInstance (by first | omega | (dsimp only; omega))
          · have hlm1 : (partB turn n (fitB size (acc ++ s.drop 12)) k0).length = 64 := partB_len _ _ _ _
            refine tc_any (Stays _ _ ([])) (stays_of (hT := tk) (Hp.le_refl _)) ?_
            all_goals refine rMv 0 ?_
            all_goals refine rMv 1 ?_
            all_goals refine rMv 2 ?_
            all_goals refine rMv 3 ?_
            all_goals refine rLd 5 ?_
            all_goals (refine rStep (i := 4) ?_; ((try refine qWant ?_); (first | (refine tl_is (.func 89) ?_; refine qC rfl rfl hpt ?_; rintro v4 ρ4 L4 hle4 ⟨rfl, rfl, rfl⟩; try simp only [List.cons_append, List.nil_append]) | (refine qEf ?_; try intro _)) <;> ((try simp only [List.cons_append, List.nil_append, List.append_eq]); refine tl_nil ?_; refine rNext ?_)))
            all_goals refine rFull ?_
            all_goals refine rCm 6 ?_
            all_goals refine rDone ?_
            all_goals (repeat' (first | (refine i_op ?_; first | (refine i_qq ?_; refine qQ ?_) | refine qEf ?_) | refine tl_nil ?_ | (refine i_tc ?_; refine qTc ?_) | (refine i_te ?_; refine qTe ?_) | intro _))
            all_goals rw [hrem hp]
            all_goals exact qE (L' := secS rb rbx db R w ++ diskK db k D2) ⟨Hp.le_trans hle1 hle3, rfl, hD2, rfl⟩
        · have hcb : (ec != 0) = true := by simpa using hec
          rw [hcb]
          rw [if_pos hec] at hE
          repeat' (first | (refine i_op ?_; first | (refine i_qq ?_; refine qQ ?_) | refine qEf ?_) | refine tl_nil ?_ | (refine i_tc ?_; refine qTc ?_) | (refine i_te ?_; refine qTe ?_) | intro _)
          rw [← hE]
          exact qE (L' := secS rb rbx db R w ++ diskK db k D2) ⟨hle1, rfl, hD2, rfl⟩
      · have hks : k0 = sects size := by omega
        rw [show sects size - k0 = 0 by omega] at hgo
        simp only [entGo] at hgo
        repeat' (first | (refine tl_is (.func 12) ?_; refine qC rfl rfl (hss) ?_; rintro v ρ' L' hle ⟨rfl, rfl, rfl⟩ <;> (try simp only [List.cons_append, List.nil_append, List.append_eq])) | (refine i_op ?_; first | (refine i_qq ?_; refine qQ ?_) | refine qEf ?_) | refine tl_nil ?_ | (refine i_tc ?_; refine qTc ?_) | (refine i_te ?_; refine qTe ?_) | intro _)
        refine te_freeze [(bb, .cells ⟨(fitB size acc).map u8c⟩ 5 (0, 0))] (h := Rem.here) (fun ρ3 hle3 hfz => ?_)
        have hbb := hfz _ (List.mem_singleton.2 rfl)
        dsimp only at hbb
        have hsi : SIn ρ3 u8c (some ⟨bb, 0, none⟩) size (fitB size acc) := by have := sIn_part hbb 0 size (by simp [fitB_len]); rwa [List.drop_zero, List.take_of_length_le (by simp [fitB_len])] at this
        rw [← hgo]
        exact qE (L' := secS rb rbx db R w ++ diskK db k D1) ⟨Hp.le_trans hle1 hle3, ⟨⟨some ⟨bb, 0, none⟩, size, size, fitB size acc⟩, rfl, ⟨hsi, Nat.le_refl _⟩, rfl⟩, hD1, rfl⟩
end Go.Proofs.E

namespace Go.Proofs.E
open Go
set_option linter.unusedVariables false
set_option linter.unusedSimpArgs false
set_option linter.unusedSectionVars false
set_option maxRecDepth 4000
set_option maxHeartbeats 1000000
attribute [local irreducible] Yl TL TC TE Spec YSpec R1 Hp.le EnvLe TS TR YS Stays
theorem entGo_some {h : Hd} {n at' turn size : Nat} : ∀ (j k : Nat) (acc : Bs) (D : DS) {b : Bs} {D' : DS} {e : Int}, entGo h n at' turn size j k acc D = (some b, D', e) → b.length = size ∧ e = 0
  | 0, k, acc, D, b, D', e, hh => by
    simp only [entGo, Prod.mk.injEq, Option.some.injEq] at hh
    exact ⟨by rw [← hh.1, fitB_len], hh.2.2.symm⟩
  | j + 1, k, acc, D, b, D', e, hh => by
    simp only [entGo] at hh
    split at hh
    · cases hh
    · split at hh
      · exact entGo_some j _ _ _ hh
      · cases hh
theorem entryR_some {h : Hd} {n at' left : Nat} {D D' : DS} {b : Bs} {e : Int} (hh : entryR h n at' left D = (some b, D', e)) : b.length ≤ 8000 ∧ sects b.length ≤ left ∧ e = 0 := by
  unfold entryR at hh
  split at hh
  · cases hh
  · split at hh
    · cases hh
    · unfold entGo0 at hh
      split at hh
      · cases hh
      · rename_i hc
        split at hh
        · obtain ⟨h1, h2⟩ := entGo_some _ _ _ _ hh
          rw [h1]; exact ⟨by omega, by omega, h2⟩
        · cases hh
theorem found_spec (ρ : Hp) (rb db : Nat) (R0 : RgS) (w0 : RW) (hR0 : RIn ρ R0 w0) (k : DK) (D : DS) (hD : DOk k D) :
    Spec Try.prog 54 [.pointer (some ⟨rb, 0, none⟩)] ρ (ringC rb db R0 w0 ++ diskK db k D)
      (fun v ρ' L' => v = .int .i64 (foundGo (R0.h.size + 1) R0 D).2.2 ∧ ρ.le ρ' ∧ DOk k (foundGo (R0.h.size + 1) R0 D).2.1 ∧ ∃ w', RIn ρ' (foundGo (R0.h.size + 1) R0 D).1 w' ∧ L' = ringC rb db (foundGo (R0.h.size + 1) R0 D).1 w' ++ diskK db k (foundGo (R0.h.size + 1) R0 D).2.1) := by
  generalize hRES : foundGo (R0.h.size + 1) R0 D = RES at *
  refine spec_enter Try.func54 rfl rfl rfl fun u RR => ?_
  simp only [argsE, List.cons_append, List.nil_append]
  repeat' (first | (refine i_op ?_; first | (refine i_qq ?_; refine qQ ?_) | refine qEf ?_) | refine tl_nil ?_ | (refine i_tc ?_; refine qTc ?_) | (refine i_te ?_; refine qTe ?_) | intro _)
  rename_i rbx
  refine tc_loop_g [(1, _), (3, _)] (fun (ζ : (Nat) × (RgS) × (RW) × (Hp) × (DS)) => [(2, .int .i64 0)]) (fun (ζ : (Nat) × (RgS) × (RW) × (Hp) × (DS)) => ζ.2.2.2.1) (fun (ζ : (Nat) × (RgS) × (RW) × (Hp) × (DS)) => [[(rbx, .cells ⟨[.pointer (some ⟨rb, 0, none⟩)]⟩ 24 (0, 0))]] ++ (ringC rb db ζ.2.1 ζ.2.2.1 ++ diskK db k ζ.2.2.2.2)) (fun (ζ : (Nat) × (RgS) × (RW) × (Hp) × (DS)) => ρ.le ζ.2.2.2.1 ∧ RIn ζ.2.2.2.1 ζ.2.1 ζ.2.2.1 ∧ DOk k ζ.2.2.2.2 ∧ foundGo ζ.1 ζ.2.1 ζ.2.2.2.2 = RES ∧ ζ.2.1.h = R0.h ∧ R0.h.size + 1 ≤ ζ.1 + ζ.2.1.used) (fun (ζ : (Nat) × (RgS) × (RW) × (Hp) × (DS)) => ζ.1) ((R0.h.size + 1, R0, w0, ρ, D)) (⟨Hp.le_refl _, hR0, hD, hRES, rfl, by omega⟩) ev_le ev_le rfl tk ?_
  rintro ⟨f, R, w, ρ1, D1⟩ hI
  try simp only [List.cons_append, List.nil_append, List.append_assoc, List.append_eq] at hI ⊢
  try dsimp only at hI ⊢
  obtain ⟨hle1, hR, hD1, hgo, hh, hf⟩ := hI
  have hok := hR.ok
  have hfit := hok.fit
  have hsz := hok.size
  have hpl := hok.place
  have htu := hok.turn
  have hsz0 : R.h.size = R0.h.size := by rw [hh]
  obtain ⟨f', rfl⟩ : ∃ f', f = f' + 1 := ⟨f - 1, by omega⟩
  have hnx := next_spec ρ1 rb db R w hR
  by_cases hn : R.next < 1099511627776
  · simp only [foundGo, if_pos hn] at hgo
    have hent := entry_spec ρ1 rb rbx db R w k D1 hD1 R.h w.na w.nn w.nc R.next (R.h.place + R.used) (R.h.size - R.used) (by omega) (by omega) (by omega) (by omega) (by omega) (by omega)
    have hsome := @entryR_some R.h R.next (R.h.place + R.used) (R.h.size - R.used) D1
    generalize entryR R.h R.next (R.h.place + R.used) (R.h.size - R.used) D1 = r at *
    obtain ⟨ob, D2, e⟩ := r
    simp only [secS, List.cons_append, List.nil_append, Int.natCast_add, Int.natCast_sub hfit] at hent
    have hn' : ((R.next : Nat) : Int) < 1099511627776 := by omega
    generalize hnxe : ((R.next : Nat) : Int) = nx at *
    repeat' (first | (refine tl_is (.func 45) ?_; refine qC rfl rfl (hnx) ?_; rintro v ρ' L' hle ⟨rfl, rfl, rfl⟩ <;> (try simp only [List.cons_append, List.nil_append, List.append_eq])) | (refine i_op ?_; first | (refine i_qq ?_; refine qQ ?_) | refine qEf ?_) | refine tl_nil ?_ | (refine i_tc ?_; refine qTc ?_) | (refine i_te ?_; refine qTe ?_) | intro _)
    cases ob with
    | none =>
      by_cases he : e = 0
      · subst he
        refine tc_any (Stays _ _ ([[(rb, .cells ⟨rgV R db w⟩ 97 (0, 0))], [(rbx, .cells ⟨[.pointer (some ⟨rb, 0, none⟩)]⟩ 24 (0, 0))]])) (stays_of (hT := tk) (Hp.le_refl _)) ?_
        all_goals refine rLd 0 ?_
        all_goals refine rNc 1 ?_
        all_goals refine rFa 2 ?_
        all_goals refine rLd 3 ?_
        all_goals refine rLd 4 ?_
        all_goals refine rLd 6 ?_
        all_goals refine rNc 7 ?_
        all_goals refine rFa 8 ?_
        all_goals refine rFa 9 ?_
        all_goals refine rLd 10 ?_
        all_goals refine rLd 11 ?_
        all_goals refine rNc 12 ?_
        all_goals refine rFa 13 ?_
        all_goals refine rLd 14 ?_
        all_goals refine rAd 15 ?_
        all_goals refine rLd 16 ?_
        all_goals refine rNc 17 ?_
        all_goals refine rFa 18 ?_
        all_goals refine rFa 19 ?_
        all_goals refine rLd 20 ?_
        all_goals refine rLd 21 ?_
        all_goals refine rNc 22 ?_
        all_goals refine rFa 23 ?_
        all_goals refine rLd 24 ?_
        all_goals refine rSb 25 ?_
        all_goals refine rMv 26 ?_
        all_goals (refine rStep (i := 5) ?_; ((try refine qWant ?_); (first | (refine tl_is (.func 45) ?_; refine qC rfl rfl (hnx) ?_; rintro v ρ' L' hle ⟨rfl, rfl, rfl⟩ <;> (try simp only [List.cons_append, List.nil_append, List.append_eq])) | (refine qEf ?_; try intro _)) <;> ((try simp only [List.cons_append, List.nil_append, List.append_eq]); refine tl_nil ?_; refine rNext ?_)))
        all_goals (refine rStep (i := 27) ?_; ((try refine qWant ?_); (first | (refine tl_is (.func 92) ?_; refine qC rfl rfl hent ?_; rintro v4 ρ4 L4 hle4 ⟨hl4, hans, hD2, rfl⟩; obtain rfl := hans; try simp only [List.cons_append, List.nil_append]) | (refine qEf ?_; try intro _)) <;> ((try simp only [List.cons_append, List.nil_append, List.append_eq]); refine tl_nil ?_; refine rNext ?_)))
        all_goals refine rFull ?_
        all_goals refine rMv 28 ?_
        all_goals refine rEx 29 ?_
        all_goals refine rEx 30 ?_
        all_goals refine rEx 31 ?_
        all_goals refine rAs 32 ?_
        all_goals refine rAs 33 ?_
        all_goals refine rAs 34 ?_
        all_goals refine rDone ?_
        all_goals (repeat' (first | (refine i_op ?_; first | (refine i_qq ?_; refine qQ ?_) | refine qEf ?_) | refine tl_nil ?_ | (refine i_tc ?_; refine qTc ?_) | (refine i_te ?_; refine qTe ?_) | intro _))
        all_goals rw [← hgo]
        all_goals exact qE (L' := ringC rb db R w ++ diskK db k D2) ⟨rfl, Hp.le_trans hle1 hl4, hD2, w, hR.mono hl4, rfl⟩
      · have hcb : (e != 0) = true := by simpa using he
        refine tc_any (Stays _ _ ([[(rb, .cells ⟨rgV R db w⟩ 97 (0, 0))], [(rbx, .cells ⟨[.pointer (some ⟨rb, 0, none⟩)]⟩ 24 (0, 0))]])) (stays_of (hT := tk) (Hp.le_refl _)) ?_
        all_goals refine rLd 0 ?_
        all_goals refine rNc 1 ?_
        all_goals refine rFa 2 ?_
        all_goals refine rLd 3 ?_
        all_goals refine rLd 4 ?_
        all_goals refine rLd 6 ?_
        all_goals refine rNc 7 ?_
        all_goals refine rFa 8 ?_
        all_goals refine rFa 9 ?_
        all_goals refine rLd 10 ?_
        all_goals refine rLd 11 ?_
        all_goals refine rNc 12 ?_
        all_goals refine rFa 13 ?_
        all_goals refine rLd 14 ?_
        all_goals refine rAd 15 ?_
        all_goals refine rLd 16 ?_
        all_goals refine rNc 17 ?_
        all_goals refine rFa 18 ?_
        all_goals refine rFa 19 ?_
        all_goals refine rLd 20 ?_
        all_goals refine rLd 21 ?_
        all_goals refine rNc 22 ?_
        all_goals refine rFa 23 ?_
        all_goals refine rLd 24 ?_
        all_goals refine rSb 25 ?_
        all_goals refine rMv 26 ?_
        all_goals (refine rStep (i := 5) ?_; ((try refine qWant ?_); (first | (refine tl_is (.func 45) ?_; refine qC rfl rfl (hnx) ?_; rintro v ρ' L' hle ⟨rfl, rfl, rfl⟩ <;> (try simp only [List.cons_append, List.nil_append, List.append_eq])) | (refine qEf ?_; try intro _)) <;> ((try simp only [List.cons_append, List.nil_append, List.append_eq]); refine tl_nil ?_; refine rNext ?_)))
        all_goals (refine rStep (i := 27) ?_; ((try refine qWant ?_); (first | (refine tl_is (.func 92) ?_; refine qC rfl rfl hent ?_; rintro v4 ρ4 L4 hle4 ⟨hl4, hans, hD2, rfl⟩; obtain rfl := hans; try simp only [List.cons_append, List.nil_append]) | (refine qEf ?_; try intro _)) <;> ((try simp only [List.cons_append, List.nil_append, List.append_eq]); refine tl_nil ?_; refine rNext ?_)))
        all_goals refine rFull ?_
        all_goals refine rMv 28 ?_
        all_goals refine rEx 29 ?_
        all_goals refine rEx 30 ?_
        all_goals refine rEx 31 ?_
        all_goals refine rAs 32 ?_
        all_goals refine rAs 33 ?_
        all_goals refine rAs 34 ?_
        all_goals refine rDone ?_
        all_goals (repeat' (first | (refine i_op ?_; first | (refine i_qq ?_; refine qQ ?_) | refine qEf ?_) | refine tl_nil ?_ | (refine i_tc ?_; refine qTc ?_) | (refine i_te ?_; refine qTe ?_) | intro _))
        all_goals rw [← hgo]
        all_goals exact qE (L' := ringC rb db R w ++ diskK db k D2) ⟨rfl, Hp.le_trans hle1 hl4, hD2, w, hR.mono hl4, rfl⟩
    | some b =>
      obtain ⟨hb8, hbs, he0⟩ := hsome rfl
      simp only [he0, if_true] at hgo
      refine tc_any (Stays _ _ ([[(rb, .cells ⟨rgV R db w⟩ 97 (0, 0))], [(rbx, .cells ⟨[.pointer (some ⟨rb, 0, none⟩)]⟩ 24 (0, 0))]])) (stays_of (hT := tk) (Hp.le_refl _)) ?_
      all_goals refine rLd 0 ?_
      all_goals refine rNc 1 ?_
      all_goals refine rFa 2 ?_
      all_goals refine rLd 3 ?_
      all_goals refine rLd 4 ?_
      all_goals refine rLd 6 ?_
      all_goals refine rNc 7 ?_
      all_goals refine rFa 8 ?_
      all_goals refine rFa 9 ?_
      all_goals refine rLd 10 ?_
      all_goals refine rLd 11 ?_
      all_goals refine rNc 12 ?_
      all_goals refine rFa 13 ?_
      all_goals refine rLd 14 ?_
      all_goals refine rAd 15 ?_
      all_goals refine rLd 16 ?_
      all_goals refine rNc 17 ?_
      all_goals refine rFa 18 ?_
      all_goals refine rFa 19 ?_
      all_goals refine rLd 20 ?_
      all_goals refine rLd 21 ?_
      all_goals refine rNc 22 ?_
      all_goals refine rFa 23 ?_
      all_goals refine rLd 24 ?_
      all_goals refine rSb 25 ?_
      all_goals refine rMv 26 ?_
      all_goals (refine rStep (i := 5) ?_; ((try refine qWant ?_); (first | (refine tl_is (.func 45) ?_; refine qC rfl rfl (hnx) ?_; rintro v ρ' L' hle ⟨rfl, rfl, rfl⟩ <;> (try simp only [List.cons_append, List.nil_append, List.append_eq])) | (refine qEf ?_; try intro _)) <;> ((try simp only [List.cons_append, List.nil_append, List.append_eq]); refine tl_nil ?_; refine rNext ?_)))
      all_goals (refine rStep (i := 27) ?_; ((try refine qWant ?_); (first | (refine tl_is (.func 92) ?_; refine qC rfl rfl hent ?_; rintro v4 ρ4 L4 hle4 ⟨hl4, hans, hD2, rfl⟩; obtain ⟨e4, rfl, hb4, hbl⟩ := hans; try simp only [List.cons_append, List.nil_append]) | (refine qEf ?_; try intro _)) <;> ((try simp only [List.cons_append, List.nil_append, List.append_eq]); refine tl_nil ?_; refine rNext ?_)))
      all_goals refine rFull ?_
      all_goals refine rMv 28 ?_
      all_goals refine rEx 29 ?_
      all_goals refine rEx 30 ?_
      all_goals refine rEx 31 ?_
      all_goals refine rAs 32 ?_
      all_goals refine rAs 33 ?_
      all_goals refine rAs 34 ?_
      all_goals refine rDone ?_
      all_goals have hR4 := hR.mono hl4
      all_goals have hbl2 := hb4.s.len
      all_goals have had := adds_spec ρ4 rb db R w hR4 e4 hb4 (by rw [← hbl2, hbl]; omega) (by rw [← hbl2, hbl]; omega) hn
      all_goals simp only [hbl] at had
      all_goals (repeat' (first | (refine tl_is (.func 48) ?_; refine qC rfl rfl (had) ?_; rintro v ρ' L' hle ⟨rfl, rfl, ev', sp', hR', rfl⟩ <;> (try simp only [List.cons_append, List.nil_append, List.append_eq])) | (refine i_op ?_; first | (refine i_qq ?_; refine qQ ?_) | refine qEf ?_) | refine tl_nil ?_ | (refine i_tc ?_; refine qTc ?_) | (refine i_te ?_; refine qTe ?_) | intro _))
      all_goals have hu2 : R0.h.size + 1 ≤ f' + (R.adds b).used := by have := sects_pos b.length; simp only [RgS.adds]; omega
      all_goals refine te_round_g (f', R.adds b, ⟨w.na, w.nn, w.nc, ev', w.els ++ [e4], sp'⟩, _, D2) (⟨Hp.le_trans hle1 hl4, hR', hD2, hgo, hh, hu2⟩) ev_le ev_le rfl tk inferInstance (by first | omega | (dsimp only; omega))
  · simp only [foundGo, if_neg hn] at hgo
    have hn' : ¬ ((R.next : Nat) : Int) < 1099511627776 := by omega
    generalize hnxe : ((R.next : Nat) : Int) = nx at *
    repeat' (first | (refine tl_is (.func 45) ?_; refine qC rfl rfl (hnx) ?_; rintro v ρ' L' hle ⟨rfl, rfl, rfl⟩ <;> (try simp only [List.cons_append, List.nil_append, List.append_eq])) | (refine i_op ?_; first | (refine i_qq ?_; refine qQ ?_) | refine qEf ?_) | refine tl_nil ?_ | (refine i_tc ?_; refine qTc ?_) | (refine i_te ?_; refine qTe ?_) | intro _)
    rw [← hgo]
    exact qE (L' := ringC rb db R w ++ diskK db k D1) ⟨rfl, hle1, hD1, w, hR, rfl⟩
end Go.Proofs.E

namespace Go.Proofs.E
open Go
set_option linter.unusedVariables false
set_option linter.unusedSimpArgs false
set_option linter.unusedSectionVars false
set_option maxRecDepth 4000
set_option maxHeartbeats 1000000
attribute [local irreducible] Yl TL TC TE Spec YSpec R1 Hp.le EnvLe TS TR YS Stays
theorem hread_spec (ρ : Hp) (s : Blk) (h64 : s.length = 64) :
    Spec Try.prog 90 [bv s] ρ [] (fun v ρ' L' => ρ.le ρ' ∧ (∃ na nn nc, v = .tuple ⟨[.agg ⟨hdV (readB s).1 na nn nc⟩, .bool (readB s).2]⟩ ∧ SIn ρ' u8c na nn (readB s).1.note ∧ nn ≤ nc ∧ nn ≤ 32) ∧ L' = []) := by
  have hpl : (s.map u8c).length = 64 := by simpa using h64
  have hp1 := u8c_one s
  refine spec_enter Try.func90 rfl rfl rfl fun u RR => ?_
  simp only [argsE, List.cons_append, List.nil_append]
  repeat' (first | (refine i_op ?_; first | (refine i_qq ?_; refine qQ ?_) | refine qEf ?_) | refine tl_nil ?_ | (refine i_tc ?_; refine qTc ?_) | (refine i_te ?_; refine qTe ?_) | intro _)
  rename_i b1 b2
  simp only [Int.reduceToNat, Nat.reduceMul, Nat.reduceSub, Nat.zero_add]
  refine tc_freeze [(b1, .cells ⟨s.map u8c⟩ 66 (0, 0))] (fun ρ3 hle3 hfz => ?_)
  have hbs := hfz _ (List.mem_singleton.2 rfl)
  dsimp only at hbs
  have hld : List.take 64 (List.drop 0 (s.map u8c)) = s.map u8c := by rw [List.drop_zero, List.take_of_length_le (by omega)]
  have hx21 : (s.map u8c)[21]? = some (u8c (s.getD 21 0)) := by
    rw [List.getElem?_map, List.getD_eq_getElem?_getD, List.getElem?_eq_getElem (by omega)]; rfl
  have hn1 := numb_spec ρ3 (some ⟨b1, 8, none⟩) 4 56 _ (sIn_part hbs 8 4 (by omega)) (by omega)
  have hn2 := numb_spec ρ3 (some ⟨b1, 12, none⟩) 2 52 _ (sIn_part hbs 12 2 (by omega)) (by omega)
  have hn3 := numb_spec ρ3 (some ⟨b1, 14, none⟩) 5 50 _ (sIn_part hbs 14 5 (by omega)) (by omega)
  have hn4 := numb_spec ρ3 (some ⟨b1, 19, none⟩) 2 45 _ (sIn_part hbs 19 2 (by omega)) (by omega)
  have hl1 := unbe_lt ((s.drop 8).take 4)
  have hl2 := unbe_lt ((s.drop 12).take 2)
  have hl3 := unbe_lt ((s.drop 14).take 5)
  have hl4 := unbe_lt ((s.drop 19).take 2)
  rw [show ((s.drop 8).take 4).length = 4 by simp; omega] at hl1
  rw [show ((s.drop 12).take 2).length = 2 by simp; omega] at hl2
  rw [show ((s.drop 14).take 5).length = 5 by simp; omega] at hl3
  rw [show ((s.drop 19).take 2).length = 2 by simp; omega] at hl4
  have hh : headOf s = ⟨unbe ((s.drop 8).take 4), unbe ((s.drop 14).take 5), unbe ((s.drop 12).take 2), unbe ((s.drop 19).take 2), (s.drop 22).take (s.getD 21 0).toNat⟩ := rfl
  have hnb : (s.getD 21 0).toNat < 256 := (s.getD 21 0).toNat_lt
  have hrd : readB s = if (headOf s).Right (s.getD 21 0).toNat then (headOf s, decide (headB (headOf s) = s)) else (zHd, false) := rfl
  generalize readB s = RB at *
  simp only [u8c] at hx21
  generalize s.getD 21 0 = nb8 at *
  rw [hh] at hrd
  generalize hT : unbe ((s.drop 8).take 4) = T at *
  generalize hS : unbe ((s.drop 12).take 2) = S at *
  generalize hF : unbe ((s.drop 14).take 5) = F at *
  generalize hP : unbe ((s.drop 19).take 2) = P at *
  generalize hN : nb8.toNat = N at *
  have hrd1 : (1 ≤ T ∧ T ≤ 1073741824 ∧ 4 ≤ S ∧ S ≤ 1000 ∧ 1 ≤ F ∧ F ≤ 1099511627776 ∧ P < S ∧ N ≤ 32) → RB = (⟨T, F, S, P, (s.drop 22).take N⟩, decide (headB ⟨T, F, S, P, (s.drop 22).take N⟩ = s)) := fun h => by rw [hrd]; exact if_pos h
  have hrd2 : ¬ (1 ≤ T ∧ T ≤ 1073741824 ∧ 4 ≤ S ∧ S ≤ 1000 ∧ 1 ≤ F ∧ F ≤ 1099511627776 ∧ P < S ∧ N ≤ 32) → RB = (zHd, false) := fun h => by rw [hrd]; exact if_neg h
  clear hrd hh
  have Tz : ∃ z : Int, z = T := ⟨_, rfl⟩
  obtain ⟨Ti, hTi⟩ := Tz
  obtain ⟨Fi, hFi⟩ : ∃ z : Int, z = F := ⟨_, rfl⟩
  rw [← hTi] at hn1
  rw [← hFi] at hn3
  repeat' (first | (refine i_op ?_; first | (refine i_qq ?_; refine qQ ?_) | refine qEf ?_) | refine tl_nil ?_ | (refine i_tc ?_; refine qTc ?_) | (refine i_te ?_; refine qTe ?_) | intro _)
  refine tc_any (Stays _ _ ([])) (stays_of (hT := tk) (Hp.le_refl _)) ?_
  all_goals refine rMv 0 ?_
  all_goals refine rSl 1 ?_
  all_goals refine rMv 3 ?_
  all_goals refine rSl 4 ?_
  all_goals refine rMv 7 ?_
  all_goals refine rSl 8 ?_
  all_goals refine rMv 10 ?_
  all_goals refine rSl 11 ?_
  all_goals (refine rStep2 (i := 2) (j := 15) ?_ ?_ <;> ((try refine qWant ?_); (first | (refine tl_is (.func 124) ?_; refine qC rfl rfl (hn1) ?_; rintro v ρ' L' hle ⟨rfl, rfl, rfl⟩ <;> (try simp only [List.cons_append, List.nil_append, List.append_eq])) | (refine tl_is (.func 124) ?_; refine qC rfl rfl (hn2) ?_; rintro v ρ' L' hle ⟨rfl, rfl, rfl⟩ <;> (try simp only [List.cons_append, List.nil_append, List.append_eq])) | (refine tl_is (.func 124) ?_; refine qC rfl rfl (hn3) ?_; rintro v ρ' L' hle ⟨rfl, rfl, rfl⟩ <;> (try simp only [List.cons_append, List.nil_append, List.append_eq])) | (refine tl_is (.func 124) ?_; refine qC rfl rfl (hn4) ?_; rintro v ρ' L' hle ⟨rfl, rfl, rfl⟩ <;> (try simp only [List.cons_append, List.nil_append, List.append_eq])) | (refine qEf ?_; try intro _)) <;> ((try simp only [List.cons_append, List.nil_append, List.append_eq]); refine tl_nil ?_; refine rNext ?_)))
  all_goals (first | (refine rStep2 (i := 5) (j := 15) ?_ ?_ <;> ((try refine qWant ?_); (first | (refine tl_is (.func 124) ?_; refine qC rfl rfl (hn1) ?_; rintro v ρ' L' hle ⟨rfl, rfl, rfl⟩ <;> (try simp only [List.cons_append, List.nil_append, List.append_eq])) | (refine tl_is (.func 124) ?_; refine qC rfl rfl (hn2) ?_; rintro v ρ' L' hle ⟨rfl, rfl, rfl⟩ <;> (try simp only [List.cons_append, List.nil_append, List.append_eq])) | (refine tl_is (.func 124) ?_; refine qC rfl rfl (hn3) ?_; rintro v ρ' L' hle ⟨rfl, rfl, rfl⟩ <;> (try simp only [List.cons_append, List.nil_append, List.append_eq])) | (refine tl_is (.func 124) ?_; refine qC rfl rfl (hn4) ?_; rintro v ρ' L' hle ⟨rfl, rfl, rfl⟩ <;> (try simp only [List.cons_append, List.nil_append, List.append_eq])) | (refine qEf ?_; try intro _)) <;> ((try simp only [List.cons_append, List.nil_append, List.append_eq]); refine tl_nil ?_; refine rNext ?_))) | (refine rStep (i := 2) ?_; ((try refine qWant ?_); (first | (refine tl_is (.func 124) ?_; refine qC rfl rfl (hn1) ?_; rintro v ρ' L' hle ⟨rfl, rfl, rfl⟩ <;> (try simp only [List.cons_append, List.nil_append, List.append_eq])) | (refine tl_is (.func 124) ?_; refine qC rfl rfl (hn2) ?_; rintro v ρ' L' hle ⟨rfl, rfl, rfl⟩ <;> (try simp only [List.cons_append, List.nil_append, List.append_eq])) | (refine tl_is (.func 124) ?_; refine qC rfl rfl (hn3) ?_; rintro v ρ' L' hle ⟨rfl, rfl, rfl⟩ <;> (try simp only [List.cons_append, List.nil_append, List.append_eq])) | (refine tl_is (.func 124) ?_; refine qC rfl rfl (hn4) ?_; rintro v ρ' L' hle ⟨rfl, rfl, rfl⟩ <;> (try simp only [List.cons_append, List.nil_append, List.append_eq])) | (refine qEf ?_; try intro _)) <;> ((try simp only [List.cons_append, List.nil_append, List.append_eq]); refine tl_nil ?_; refine rNext ?_))))
  all_goals (first | refine rCv 6 ?_ | (refine rStep (i := 5) ?_; ((try refine qWant ?_); (first | (refine tl_is (.func 124) ?_; refine qC rfl rfl (hn1) ?_; rintro v ρ' L' hle ⟨rfl, rfl, rfl⟩ <;> (try simp only [List.cons_append, List.nil_append, List.append_eq])) | (refine tl_is (.func 124) ?_; refine qC rfl rfl (hn2) ?_; rintro v ρ' L' hle ⟨rfl, rfl, rfl⟩ <;> (try simp only [List.cons_append, List.nil_append, List.append_eq])) | (refine tl_is (.func 124) ?_; refine qC rfl rfl (hn3) ?_; rintro v ρ' L' hle ⟨rfl, rfl, rfl⟩ <;> (try simp only [List.cons_append, List.nil_append, List.append_eq])) | (refine tl_is (.func 124) ?_; refine qC rfl rfl (hn4) ?_; rintro v ρ' L' hle ⟨rfl, rfl, rfl⟩ <;> (try simp only [List.cons_append, List.nil_append, List.append_eq])) | (refine qEf ?_; try intro _)) <;> ((try simp only [List.cons_append, List.nil_append, List.append_eq]); refine tl_nil ?_; refine rNext ?_))))
  all_goals (first | (refine rStep2 (i := 9) (j := 15) ?_ ?_ <;> ((try refine qWant ?_); (first | (refine tl_is (.func 124) ?_; refine qC rfl rfl (hn1) ?_; rintro v ρ' L' hle ⟨rfl, rfl, rfl⟩ <;> (try simp only [List.cons_append, List.nil_append, List.append_eq])) | (refine tl_is (.func 124) ?_; refine qC rfl rfl (hn2) ?_; rintro v ρ' L' hle ⟨rfl, rfl, rfl⟩ <;> (try simp only [List.cons_append, List.nil_append, List.append_eq])) | (refine tl_is (.func 124) ?_; refine qC rfl rfl (hn3) ?_; rintro v ρ' L' hle ⟨rfl, rfl, rfl⟩ <;> (try simp only [List.cons_append, List.nil_append, List.append_eq])) | (refine tl_is (.func 124) ?_; refine qC rfl rfl (hn4) ?_; rintro v ρ' L' hle ⟨rfl, rfl, rfl⟩ <;> (try simp only [List.cons_append, List.nil_append, List.append_eq])) | (refine qEf ?_; try intro _)) <;> ((try simp only [List.cons_append, List.nil_append, List.append_eq]); refine tl_nil ?_; refine rNext ?_))) | refine rCv 6 ?_)
  all_goals (first | (refine rStep2 (i := 12) (j := 15) ?_ ?_ <;> ((try refine qWant ?_); (first | (refine tl_is (.func 124) ?_; refine qC rfl rfl (hn1) ?_; rintro v ρ' L' hle ⟨rfl, rfl, rfl⟩ <;> (try simp only [List.cons_append, List.nil_append, List.append_eq])) | (refine tl_is (.func 124) ?_; refine qC rfl rfl (hn2) ?_; rintro v ρ' L' hle ⟨rfl, rfl, rfl⟩ <;> (try simp only [List.cons_append, List.nil_append, List.append_eq])) | (refine tl_is (.func 124) ?_; refine qC rfl rfl (hn3) ?_; rintro v ρ' L' hle ⟨rfl, rfl, rfl⟩ <;> (try simp only [List.cons_append, List.nil_append, List.append_eq])) | (refine tl_is (.func 124) ?_; refine qC rfl rfl (hn4) ?_; rintro v ρ' L' hle ⟨rfl, rfl, rfl⟩ <;> (try simp only [List.cons_append, List.nil_append, List.append_eq])) | (refine qEf ?_; try intro _)) <;> ((try simp only [List.cons_append, List.nil_append, List.append_eq]); refine tl_nil ?_; refine rNext ?_))) | (refine rStep (i := 9) ?_; ((try refine qWant ?_); (first | (refine tl_is (.func 124) ?_; refine qC rfl rfl (hn1) ?_; rintro v ρ' L' hle ⟨rfl, rfl, rfl⟩ <;> (try simp only [List.cons_append, List.nil_append, List.append_eq])) | (refine tl_is (.func 124) ?_; refine qC rfl rfl (hn2) ?_; rintro v ρ' L' hle ⟨rfl, rfl, rfl⟩ <;> (try simp only [List.cons_append, List.nil_append, List.append_eq])) | (refine tl_is (.func 124) ?_; refine qC rfl rfl (hn3) ?_; rintro v ρ' L' hle ⟨rfl, rfl, rfl⟩ <;> (try simp only [List.cons_append, List.nil_append, List.append_eq])) | (refine tl_is (.func 124) ?_; refine qC rfl rfl (hn4) ?_; rintro v ρ' L' hle ⟨rfl, rfl, rfl⟩ <;> (try simp only [List.cons_append, List.nil_append, List.append_eq])) | (refine qEf ?_; try intro _)) <;> ((try simp only [List.cons_append, List.nil_append, List.append_eq]); refine tl_nil ?_; refine rNext ?_))))
  all_goals (first | refine rCv 13 ?_ | (refine rStep (i := 12) ?_; ((try refine qWant ?_); (first | (refine tl_is (.func 124) ?_; refine qC rfl rfl (hn1) ?_; rintro v ρ' L' hle ⟨rfl, rfl, rfl⟩ <;> (try simp only [List.cons_append, List.nil_append, List.append_eq])) | (refine tl_is (.func 124) ?_; refine qC rfl rfl (hn2) ?_; rintro v ρ' L' hle ⟨rfl, rfl, rfl⟩ <;> (try simp only [List.cons_append, List.nil_append, List.append_eq])) | (refine tl_is (.func 124) ?_; refine qC rfl rfl (hn3) ?_; rintro v ρ' L' hle ⟨rfl, rfl, rfl⟩ <;> (try simp only [List.cons_append, List.nil_append, List.append_eq])) | (refine tl_is (.func 124) ?_; refine qC rfl rfl (hn4) ?_; rintro v ρ' L' hle ⟨rfl, rfl, rfl⟩ <;> (try simp only [List.cons_append, List.nil_append, List.append_eq])) | (refine qEf ?_; try intro _)) <;> ((try simp only [List.cons_append, List.nil_append, List.append_eq]); refine tl_nil ?_; refine rNext ?_))))
  all_goals (first | refine rBu 14 ?_ | refine rCv 13 ?_)
  all_goals (first | (refine rStep (i := 15) ?_; ((try refine qWant ?_); (first | (refine qEf ?_; try intro _)) <;> ((try simp only [List.cons_append, List.nil_append, List.append_eq]); refine tl_nil ?_; refine rNext ?_))) | refine rBu 14 ?_)
  all_goals (refine rStep (i := 16) ?_; ((try refine qWant ?_); (first | (refine qEf ?_; try intro _)) <;> ((try simp only [List.cons_append, List.nil_append, List.append_eq]); refine tl_nil ?_; refine rNext ?_)))
  all_goals refine rDone ?_
  all_goals
    by_cases hr : 1 ≤ T ∧ T ≤ 1073741824 ∧ 4 ≤ S ∧ S ≤ 1000 ∧ 1 ≤ F ∧ F ≤ 1099511627776 ∧ P < S ∧ N ≤ 32
    · replace hrd1 := hrd1 hr
      obtain ⟨r1, r2, r3, r4, r5, r6, r7, r8⟩ := hr
      have q1 : (1 : Int) ≤ Ti := by omega
      have q2 : Ti ≤ 1073741824 := by omega
      have q5 : (1 : Int) ≤ Fi := by omega
      have q6 : Fi ≤ 1099511627776 := by omega
      rename Nat => b5
      have hnn : ((14 : Int) + (N : Int)).toNat - (14 : Int).toNat = N := by omega
      have hcl := cloneR_spec ρ' [] (some ⟨b1, 22, none⟩) N 42 _ (sIn_part hbs 22 N (by omega)).rd (by omega)
      repeat' (first | (simp only [hnn]; refine tl_is (.func 42) ?_; refine qC rfl rfl hcl ?_; rintro v5 ρ5 L5 hle5 ⟨hl5, e5, rfl, hb5, he5, hn5, rfl⟩; try simp only [List.cons_append, List.nil_append]) | (refine i_op ?_; first | (refine i_qq ?_; refine qQ ?_) | refine qEf ?_) | refine tl_nil ?_ | (refine i_tc ?_; refine qTc ?_) | (refine i_te ?_; refine qTe ?_) | intro _)
      have hfin := Hp.le_trans hle3 hl5
      have hs5 := hb5.s
      rw [he5] at hs5
      have hbs5 := hp_get hl5 hbs
      subst hTi
      subst hFi
      have hbk := hblock_spec ρ5 ⟨T, F, S, P, (s.drop 22).take N⟩ e5.a e5.n e5.c hs5 (by dsimp only; omega) r6 (by dsimp only; omega) (by dsimp only; omega) (by omega)
      have hlh : (headB ⟨T, F, S, P, (s.drop 22).take N⟩).length = 64 := headB_len _
      have hplh : ((headB ⟨T, F, S, P, (s.drop 22).take N⟩).map u8c).length = 64 := by simpa using hlh
      by_cases hbe : headB ⟨T, F, S, P, (s.drop 22).take N⟩ = s
      · rw [hbe] at hbk
        rw [decide_eq_true hbe] at hrd1
        subst hrd1
        refine tc_any (Stays _ _ ([[(b5, .cells ⟨[.int .u64 (T : Int), .int .u64 (F : Int), .int .i64 (S : Int), .int .i64 (P : Int), slv e5]⟩ 95 (0, 0))]])) (stays_of (hT := tk) (Hp.le_refl _)) ?_
        all_goals refine rLd 0 ?_
        all_goals refine rLd 1 ?_
        all_goals refine rLd 3 ?_
        all_goals (refine rStep (i := 2) ?_; ((try refine qWant ?_); (first | (refine tl_is (.func 85) ?_; refine qC rfl rfl (hbk) ?_; rintro v ρ' L' hle ⟨rfl, rfl, rfl⟩ <;> (try simp only [List.cons_append, List.nil_append, List.append_eq])) | (refine qEf ?_; try intro _)) <;> ((try simp only [List.cons_append, List.nil_append, List.append_eq]); refine tl_nil ?_; refine rNext ?_)))
        all_goals refine rCm 4 ?_
        all_goals (refine rStep (i := 5) ?_; ((try refine qWant ?_); (first | (refine qEf ?_; try intro _)) <;> ((try simp only [List.cons_append, List.nil_append, List.append_eq]); refine tl_nil ?_; refine rNext ?_)))
        all_goals refine rFull ?_
        all_goals refine rAs 6 ?_
        all_goals refine rDone ?_
        all_goals (repeat' (first | (refine i_op ?_; first | (refine i_qq ?_; refine qQ ?_) | refine qEf ?_) | refine tl_nil ?_ | (refine i_tc ?_; refine qTc ?_) | (refine i_te ?_; refine qTe ?_) | intro _))
        all_goals exact qE (L' := []) (v := .tuple ⟨[.agg ⟨hdV ⟨T, F, S, P, (s.drop 22).take N⟩ e5.a e5.n e5.c⟩, .bool true]⟩) ⟨hfin, ⟨e5.a, e5.n, e5.c, rfl, hs5, hb5.le, by omega⟩, rfl⟩
      · rw [decide_eq_false hbe] at hrd1
        subst hrd1
        refine tc_any (Stays _ _ ([[(b5, .cells ⟨[.int .u64 (T : Int), .int .u64 (F : Int), .int .i64 (S : Int), .int .i64 (P : Int), slv e5]⟩ 95 (0, 0))]])) (stays_of (hT := tk) (Hp.le_refl _)) ?_
        all_goals refine rLd 0 ?_
        all_goals refine rLd 1 ?_
        all_goals refine rLd 3 ?_
        all_goals (refine rStep (i := 2) ?_; ((try refine qWant ?_); (first | (refine tl_is (.func 85) ?_; refine qC rfl rfl (hbk) ?_; rintro v ρ' L' hle ⟨rfl, rfl, rfl⟩ <;> (try simp only [List.cons_append, List.nil_append, List.append_eq])) | (refine qEf ?_; try intro _)) <;> ((try simp only [List.cons_append, List.nil_append, List.append_eq]); refine tl_nil ?_; refine rNext ?_)))
        all_goals refine rCm 4 ?_
        all_goals (refine rStep (i := 5) ?_; ((try refine qWant ?_); (first | (refine qEf ?_; try intro _)) <;> ((try simp only [List.cons_append, List.nil_append, List.append_eq]); refine tl_nil ?_; refine rNext ?_)))
        all_goals refine rFull ?_
        all_goals refine rAs 6 ?_
        all_goals refine rDone ?_
        all_goals (repeat' (first | (refine i_op ?_; first | (refine i_qq ?_; refine qQ ?_) | refine qEf ?_) | refine tl_nil ?_ | (refine i_tc ?_; refine qTc ?_) | (refine i_te ?_; refine qTe ?_) | intro _))
        all_goals exact qE (L' := []) (v := .tuple ⟨[.agg ⟨hdV ⟨T, F, S, P, (s.drop 22).take N⟩ e5.a e5.n e5.c⟩, .bool false]⟩) ⟨hfin, ⟨e5.a, e5.n, e5.c, rfl, hs5, hb5.le, by omega⟩, rfl⟩
    · replace hrd2 := hrd2 hr
      subst hrd2
      by_cases q1 : (1 : Int) ≤ Ti
      · skip
        by_cases q2 : Ti ≤ 1073741824
        · skip
          by_cases q3 : 4 ≤ S
          · skip
            by_cases q4 : S ≤ 1000
            · skip
              by_cases q5 : (1 : Int) ≤ Fi
              · skip
                by_cases q6 : Fi ≤ 1099511627776
                · skip
                  by_cases q7 : P < S
                  · skip
                    by_cases q8 : N ≤ 32
                    · skip
                      exact absurd ⟨by omega, by omega, by omega, by omega, by omega, by omega, by omega, by omega⟩ hr
                    · repeat' (first | (refine i_op ?_; first | (refine i_qq ?_; refine qQ ?_) | refine qEf ?_) | refine tl_nil ?_ | (refine i_tc ?_; refine qTc ?_) | (refine i_te ?_; refine qTe ?_) | intro _)
                      exact qE (L' := []) (v := .tuple ⟨[.agg ⟨hdV zHd none 0 0⟩, .bool false]⟩) ⟨hle3, ⟨none, 0, 0, rfl, SIn.nil, Nat.le_refl _, Nat.zero_le _⟩, rfl⟩
                  · repeat' (first | (refine i_op ?_; first | (refine i_qq ?_; refine qQ ?_) | refine qEf ?_) | refine tl_nil ?_ | (refine i_tc ?_; refine qTc ?_) | (refine i_te ?_; refine qTe ?_) | intro _)
                    exact qE (L' := []) (v := .tuple ⟨[.agg ⟨hdV zHd none 0 0⟩, .bool false]⟩) ⟨hle3, ⟨none, 0, 0, rfl, SIn.nil, Nat.le_refl _, Nat.zero_le _⟩, rfl⟩
                · exact absurd (show Fi ≤ 1099511627776 by omega) q6
              · repeat' (first | (refine i_op ?_; first | (refine i_qq ?_; refine qQ ?_) | refine qEf ?_) | refine tl_nil ?_ | (refine i_tc ?_; refine qTc ?_) | (refine i_te ?_; refine qTe ?_) | intro _)
                exact qE (L' := []) (v := .tuple ⟨[.agg ⟨hdV zHd none 0 0⟩, .bool false]⟩) ⟨hle3, ⟨none, 0, 0, rfl, SIn.nil, Nat.le_refl _, Nat.zero_le _⟩, rfl⟩
            · repeat' (first | (refine i_op ?_; first | (refine i_qq ?_; refine qQ ?_) | refine qEf ?_) | refine tl_nil ?_ | (refine i_tc ?_; refine qTc ?_) | (refine i_te ?_; refine qTe ?_) | intro _)
              exact qE (L' := []) (v := .tuple ⟨[.agg ⟨hdV zHd none 0 0⟩, .bool false]⟩) ⟨hle3, ⟨none, 0, 0, rfl, SIn.nil, Nat.le_refl _, Nat.zero_le _⟩, rfl⟩
          · repeat' (first | (refine i_op ?_; first | (refine i_qq ?_; refine qQ ?_) | refine qEf ?_) | refine tl_nil ?_ | (refine i_tc ?_; refine qTc ?_) | (refine i_te ?_; refine qTe ?_) | intro _)
            exact qE (L' := []) (v := .tuple ⟨[.agg ⟨hdV zHd none 0 0⟩, .bool false]⟩) ⟨hle3, ⟨none, 0, 0, rfl, SIn.nil, Nat.le_refl _, Nat.zero_le _⟩, rfl⟩
        · repeat' (first | (refine i_op ?_; first | (refine i_qq ?_; refine qQ ?_) | refine qEf ?_) | refine tl_nil ?_ | (refine i_tc ?_; refine qTc ?_) | (refine i_te ?_; refine qTe ?_) | intro _)
          exact qE (L' := []) (v := .tuple ⟨[.agg ⟨hdV zHd none 0 0⟩, .bool false]⟩) ⟨hle3, ⟨none, 0, 0, rfl, SIn.nil, Nat.le_refl _, Nat.zero_le _⟩, rfl⟩
      · repeat' (first | (refine i_op ?_; first | (refine i_qq ?_; refine qQ ?_) | refine qEf ?_) | refine tl_nil ?_ | (refine i_tc ?_; refine qTc ?_) | (refine i_te ?_; refine qTe ?_) | intro _)
        exact qE (L' := []) (v := .tuple ⟨[.agg ⟨hdV zHd none 0 0⟩, .bool false]⟩) ⟨hle3, ⟨none, 0, 0, rfl, SIn.nil, Nat.le_refl _, Nat.zero_le _⟩, rfl⟩
end Go.Proofs.E

namespace Go.Proofs.E
open Go
set_option linter.unusedVariables false
set_option linter.unusedSimpArgs false
set_option linter.unusedSectionVars false
set_option maxRecDepth 4000
set_option maxHeartbeats 1000000
attribute [local irreducible] Yl TL TC TE Spec YSpec R1 Hp.le EnvLe TS TR YS Stays
theorem counts_spec (ρ : Hp) (s t : Blk) (hs : s.length = 64) (ht : t.length = 64) :
    Spec Try.prog 52 [bv s, bv t] ρ [] (fun v ρ' L' => ρ.le ρ' ∧ (∃ na nn nc, v = .tuple ⟨[.agg ⟨hdV (countsB s t).1 na nn nc⟩, .bool (countsB s t).2]⟩ ∧ SIn ρ' u8c na nn (countsB s t).1.note ∧ nn ≤ nc ∧ nn ≤ 32) ∧ L' = []) := by
  have hpl : (s.map u8c).length = 64 := by simpa using hs
  have hp1 := u8c_one s
  have hpl2 : (t.map u8c).length = 64 := by simpa using ht
  have hp2 := u8c_one t
  have hla : List.take 64 (List.drop 0 (s.map u8c)) = s.map u8c := by rw [List.drop_zero, List.take_of_length_le (by omega)]
  have hlb : List.take 64 (List.drop 0 (t.map u8c)) = t.map u8c := by rw [List.drop_zero, List.take_of_length_le (by omega)]
  have hr1 := hread_spec ρ s hs
  have hct : countsB s t = if (readB s).2 && (!(readB t).2 || decide ((readB t).1.turn ≤ (readB s).1.turn)) then ((readB s).1, true) else readB t := rfl
  have hr2 : ∀ ρ1, Spec Try.prog 90 [bv t] ρ1 [] _ := fun ρ1 => hread_spec ρ1 t ht
  generalize readB s = A at *
  generalize readB t = B at *
  generalize countsB s t = C at *
  obtain ⟨a, ab⟩ := A
  obtain ⟨b, bb⟩ := B
  dsimp only at hct hr1 hr2
  cases ab
  · cases bb
    · have hC : C = (b, false) := by simpa using hct
      clear hct
      subst hC
      refine spec_enter Try.func52 rfl rfl rfl fun u RR => ?_
      simp only [argsE, List.cons_append, List.nil_append]
      repeat' (first | (refine tl_is (.func 90) ?_; refine qC rfl rfl hr1 ?_; rintro v1 ρ1 L1 hle1 ⟨hl1, ⟨na1, nn1, nc1, rfl, hs1, hc1, hm1⟩, rfl⟩; try simp only [List.cons_append, List.nil_append]) | (refine tl_is (.func 90) ?_; refine qC rfl rfl (hr2 _) ?_; rintro v2 ρ2 L2 hle2 ⟨hl2, ⟨na2, nn2, nc2, rfl, hs2, hc2, hm2⟩, rfl⟩; try simp only [List.cons_append, List.nil_append]) | (refine i_op ?_; first | (refine i_qq ?_; refine qQ ?_) | refine qEf ?_) | refine tl_nil ?_ | (refine i_tc ?_; refine qTc ?_) | (refine i_te ?_; refine qTe ?_) | intro _)
      have hfin := Hp.le_trans hl1 hl2
      exact qE (L' := []) (v := .tuple ⟨[.agg ⟨hdV b na2 nn2 nc2⟩, .bool false]⟩) ⟨hfin, ⟨na2, nn2, nc2, rfl, hs2, hc2, hm2⟩, rfl⟩
    · have hC : C = (b, true) := by simpa using hct
      clear hct
      subst hC
      refine spec_enter Try.func52 rfl rfl rfl fun u RR => ?_
      simp only [argsE, List.cons_append, List.nil_append]
      repeat' (first | (refine tl_is (.func 90) ?_; refine qC rfl rfl hr1 ?_; rintro v1 ρ1 L1 hle1 ⟨hl1, ⟨na1, nn1, nc1, rfl, hs1, hc1, hm1⟩, rfl⟩; try simp only [List.cons_append, List.nil_append]) | (refine tl_is (.func 90) ?_; refine qC rfl rfl (hr2 _) ?_; rintro v2 ρ2 L2 hle2 ⟨hl2, ⟨na2, nn2, nc2, rfl, hs2, hc2, hm2⟩, rfl⟩; try simp only [List.cons_append, List.nil_append]) | (refine i_op ?_; first | (refine i_qq ?_; refine qQ ?_) | refine qEf ?_) | refine tl_nil ?_ | (refine i_tc ?_; refine qTc ?_) | (refine i_te ?_; refine qTe ?_) | intro _)
      have hfin := Hp.le_trans hl1 hl2
      exact qE (L' := []) (v := .tuple ⟨[.agg ⟨hdV b na2 nn2 nc2⟩, .bool true]⟩) ⟨hfin, ⟨na2, nn2, nc2, rfl, hs2, hc2, hm2⟩, rfl⟩
  · cases bb
    · have hC : C = (a, true) := by simpa using hct
      clear hct
      subst hC
      refine spec_enter Try.func52 rfl rfl rfl fun u RR => ?_
      simp only [argsE, List.cons_append, List.nil_append]
      repeat' (first | (refine tl_is (.func 90) ?_; refine qC rfl rfl hr1 ?_; rintro v1 ρ1 L1 hle1 ⟨hl1, ⟨na1, nn1, nc1, rfl, hs1, hc1, hm1⟩, rfl⟩; try simp only [List.cons_append, List.nil_append]) | (refine tl_is (.func 90) ?_; refine qC rfl rfl (hr2 _) ?_; rintro v2 ρ2 L2 hle2 ⟨hl2, ⟨na2, nn2, nc2, rfl, hs2, hc2, hm2⟩, rfl⟩; try simp only [List.cons_append, List.nil_append]) | (refine i_op ?_; first | (refine i_qq ?_; refine qQ ?_) | refine qEf ?_) | refine tl_nil ?_ | (refine i_tc ?_; refine qTc ?_) | (refine i_te ?_; refine qTe ?_) | intro _)
      have hfin := Hp.le_trans hl1 hl2
      exact qE (L' := []) (v := .tuple ⟨[.agg ⟨hdV a na1 nn1 nc1⟩, .bool true]⟩) ⟨hfin, ⟨na1, nn1, nc1, rfl, hs1.mono hl2, hc1, hm1⟩, rfl⟩
    · by_cases hg : b.turn ≤ a.turn
      · have hC : C = (a, true) := by simpa [hg] using hct
        clear hct
        subst hC
        refine spec_enter Try.func52 rfl rfl rfl fun u RR => ?_
        simp only [argsE, List.cons_append, List.nil_append]
        repeat' (first | (refine tl_is (.func 90) ?_; refine qC rfl rfl hr1 ?_; rintro v1 ρ1 L1 hle1 ⟨hl1, ⟨na1, nn1, nc1, rfl, hs1, hc1, hm1⟩, rfl⟩; try simp only [List.cons_append, List.nil_append]) | (refine tl_is (.func 90) ?_; refine qC rfl rfl (hr2 _) ?_; rintro v2 ρ2 L2 hle2 ⟨hl2, ⟨na2, nn2, nc2, rfl, hs2, hc2, hm2⟩, rfl⟩; try simp only [List.cons_append, List.nil_append]) | (refine i_op ?_; first | (refine i_qq ?_; refine qQ ?_) | refine qEf ?_) | refine tl_nil ?_ | (refine i_tc ?_; refine qTc ?_) | (refine i_te ?_; refine qTe ?_) | intro _)
        have hfin := Hp.le_trans hl1 hl2
        exact qE (L' := []) (v := .tuple ⟨[.agg ⟨hdV a na1 nn1 nc1⟩, .bool true]⟩) ⟨hfin, ⟨na1, nn1, nc1, rfl, hs1.mono hl2, hc1, hm1⟩, rfl⟩
      · have hC : C = (b, true) := by simpa [hg] using hct
        clear hct
        subst hC
        refine spec_enter Try.func52 rfl rfl rfl fun u RR => ?_
        simp only [argsE, List.cons_append, List.nil_append]
        repeat' (first | (refine tl_is (.func 90) ?_; refine qC rfl rfl hr1 ?_; rintro v1 ρ1 L1 hle1 ⟨hl1, ⟨na1, nn1, nc1, rfl, hs1, hc1, hm1⟩, rfl⟩; try simp only [List.cons_append, List.nil_append]) | (refine tl_is (.func 90) ?_; refine qC rfl rfl (hr2 _) ?_; rintro v2 ρ2 L2 hle2 ⟨hl2, ⟨na2, nn2, nc2, rfl, hs2, hc2, hm2⟩, rfl⟩; try simp only [List.cons_append, List.nil_append]) | (refine i_op ?_; first | (refine i_qq ?_; refine qQ ?_) | refine qEf ?_) | refine tl_nil ?_ | (refine i_tc ?_; refine qTc ?_) | (refine i_te ?_; refine qTe ?_) | intro _)
        have hfin := Hp.le_trans hl1 hl2
        exact qE (L' := []) (v := .tuple ⟨[.agg ⟨hdV b na2 nn2 nc2⟩, .bool true]⟩) ⟨hfin, ⟨na2, nn2, nc2, rfl, hs2, hc2, hm2⟩, rfl⟩
end Go.Proofs.E

