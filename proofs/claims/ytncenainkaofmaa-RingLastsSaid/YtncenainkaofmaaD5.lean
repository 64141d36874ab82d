/- Disks of layer 2 and rings of layer 4 as data, and what their functions come to. Part 5 of 5. -/
import Derived.Test.YtncenainkaofmaaD4
namespace Go.Proofs.E
open Go
set_option linter.unusedVariables false
set_option linter.unusedSimpArgs false
set_option linter.unusedSectionVars false
set_option maxRecDepth 4000
set_option maxHeartbeats 1000000
attribute [local irreducible] Yl TL TC TE Spec YSpec R1 Hp.le EnvLe TS TR YS Stays
def openAns (ρ' : Hp) (db : Nat) (k : DK) (r : Option RgS × DS × Int) (v : Value) (L' : SH) : Prop := match r.1 with
  | none => v = .tuple ⟨[.pointer none, .int .i64 r.2.2]⟩ ∧ L' = diskK db k r.2.1
  | some R => ∃ rb w, v = .tuple ⟨[.pointer (some ⟨rb, 0, none⟩), .int .i64 0]⟩ ∧ RIn ρ' R w ∧ L' = ringC rb db R w ++ diskK db k r.2.1
theorem readB_right {s : Blk} (h : (readB s).2 = true) : ∃ n, (readB s).1.Right n := by
  unfold readB at h ⊢
  split at h
  · rename_i hr; rw [if_pos hr]; exact ⟨_, hr⟩
  · cases h
theorem countsB_right {a b : Blk} (h : (countsB a b).2 = true) : ∃ n, (countsB a b).1.Right n := by
  unfold countsB at h ⊢
  split
  · rename_i hc; simp only [Bool.and_eq_true] at hc; exact readB_right hc.1
  · rename_i hc; rw [if_neg hc] at h; exact readB_right h
theorem foundGo_h : ∀ (f : Nat) (R : RgS) (D : DS), (foundGo f R D).1.h = R.h
  | 0, R, D => rfl
  | f + 1, R, D => by
    unfold foundGo
    split
    · split
      · split
        · rw [foundGo_h]; rfl
        · rfl
      · rfl
    · rfl
theorem open_spec (ρ : Hp) (db : Nat) (k : DK) (D : DS) (hD : DOk k D) :
    Spec Try.prog 16 [.pointer (some ⟨db, 0, none⟩)] ρ (diskK db k D) (fun v ρ' L' => ρ.le ρ' ∧ ∃ k', DOk k' (openR D).2.1 ∧ openAns ρ' db k' (openR D) v L') := by
  have hOR : openR D = if (D.read 0).2.2 ≠ 0 then (none, (D.read 0).1, (D.read 0).2.2)
    else if ((D.read 0).1.read 1).2.2 ≠ 0 then (none, ((D.read 0).1.read 1).1, ((D.read 0).1.read 1).2.2)
    else if (countsB (D.read 0).2.1 ((D.read 0).1.read 1).2.1).2 = false then (none, ((D.read 0).1.read 1).1, 140)
    else openH (countsB (D.read 0).2.1 ((D.read 0).1.read 1).2.1).1 ((D.read 0).1.read 1).1 := rfl
  have hk0 : ∀ ρ, Spec Try.prog _ _ ρ _ _ := fun ρ => kread ρ db k D 0 hD
  have hDa : DOk k (D.read 0).1 := ⟨hD.ok.read, hD.map.read⟩
  have hs0 := read_len hD.ok 0
  generalize openR D = RES at *
  generalize D.read 0 = r0 at *
  obtain ⟨Da, s0, e0⟩ := r0
  dsimp only at hOR hk0 hDa hs0
  have hk1 : ∀ ρ, Spec Try.prog _ _ ρ _ _ := fun ρ => kread ρ db k Da 1 hDa
  have hDb : DOk k (Da.read 1).1 := ⟨hDa.ok.read, hDa.map.read⟩
  have hs1 := read_len hDa.ok 1
  generalize Da.read 1 = r1 at *
  obtain ⟨Db, s1, e1⟩ := r1
  dsimp only at hOR hk1 hDb hs1
  have hpl0 : (s0.map u8c).length = 64 := by simpa using hs0
  have hpo0 := u8c_one s0
  have hpl1 : (s1.map u8c).length = 64 := by simpa using hs1
  have hpo1 := u8c_one s1
  have hst0 : stc ((z8 128).map u8c) (0 + Int.toNat 0 * 64) (s0.map u8c) = (s0 ++ z8 64).map u8c := by
    simp [stc, z8, hs0]
  have hst1 : stc ((s0 ++ z8 64).map u8c) (0 + Int.toNat 1 * 64) (s1.map u8c) = (s0 ++ s1).map u8c := by
    simp [stc, z8, hs0, hs1]
  have hl128 : ((s0 ++ z8 64).map u8c).length = 128 := by simp [z8, hs0]
  refine spec_enter Try.func16 rfl rfl rfl fun u RR => ?_
  simp only [argsE, List.cons_append, List.nil_append]
  repeat' (first | (refine i_op ?_; first | (refine i_qq ?_; refine qQ ?_) | refine qEf ?_) | refine tl_nil ?_ | (refine i_tc ?_; refine qTc ?_) | (refine i_te ?_; refine qTe ?_) | intro _)
  rename_i hb
  refine tc_loop_g [(0, _), (4, _)] (fun (ζ : (Int) × (List Value) × (DS)) => [(13, .int .i64 ζ.1), (2, .pointer none), (3, .int .i64 0)]) (fun (ζ : (Int) × (List Value) × (DS)) => ρ) (fun (ζ : (Int) × (List Value) × (DS)) => [[(hb, .cells ⟨ζ.2.1⟩ 110 (0, 0))]] ++ diskK db k ζ.2.2) (fun (ζ : (Int) × (List Value) × (DS)) => DOk k ζ.2.2 ∧ ((ζ.1 = 0 ∧ ζ.2.2 = D ∧ ζ.2.1 = (z8 128).map u8c) ∨ (ζ.1 = 1 ∧ ζ.2.2 = Da ∧ e0 = 0 ∧ ζ.2.1 = (s0 ++ z8 64).map u8c) ∨ (ζ.1 = 2 ∧ ζ.2.2 = Db ∧ e0 = 0 ∧ e1 = 0 ∧ ζ.2.1 = (s0 ++ s1).map u8c))) (fun (ζ : (Int) × (List Value) × (DS)) => (2 - ζ.1).toNat) ((0, (z8 128).map u8c, D)) (⟨hD, .inl ⟨rfl, rfl, rfl⟩⟩) ev_le ev_le rfl tk ?_
  rintro ⟨i, cs, D1⟩ hI
  try simp only [List.cons_append, List.nil_append, List.append_assoc, List.append_eq] at hI ⊢
  try dsimp only at hI ⊢
  obtain ⟨hD1, hor⟩ := hI
  rcases hor with ⟨rfl, rfl, rfl⟩ | ⟨rfl, rfl, rfl, rfl⟩ | ⟨rfl, rfl, rfl, rfl, rfl⟩
  · by_cases he : e0 = 0
    · subst he
      repeat' (first | (refine tl_is (.func 26) ?_; refine qC rfl rfl (hk0 _) ?_; rintro v ρ' L' hle ⟨rfl, rfl, hD2, rfl⟩ <;> (try simp only [List.cons_append, List.nil_append, List.append_eq])) | (refine i_op ?_; first | (refine i_qq ?_; refine qQ ?_) | refine qEf ?_) | refine tl_nil ?_ | (refine i_tc ?_; refine qTc ?_) | (refine i_te ?_; refine qTe ?_) | intro _)
      rw [hst0]
      refine te_round_g (1, (s0 ++ z8 64).map u8c, Da) (⟨hD2, .inr (.inl (by simp))⟩) ev_le ev_le rfl tk inferInstance (by first | omega | (dsimp only; omega))
    · rw [if_pos he] at hOR
      have hcb : (e0 != 0) = true := by simpa using he
      repeat' (first | (refine tl_is (.func 26) ?_; refine qC rfl rfl (hk0 _) ?_; rintro v ρ' L' hle ⟨rfl, rfl, hD2, rfl⟩ <;> (try simp only [List.cons_append, List.nil_append, List.append_eq])) | (refine i_op ?_; first | (refine i_qq ?_; refine qQ ?_) | refine qEf ?_) | refine tl_nil ?_ | (refine i_tc ?_; refine qTc ?_) | (refine i_te ?_; refine qTe ?_) | intro _)
      subst hOR
      exact qE (L' := diskK db k Da) ⟨Hp.le_refl _, k, hDa, rfl, rfl⟩
  · rw [if_neg (by simp)] at hOR
    by_cases he : e1 = 0
    · subst he
      repeat' (first | (refine tl_is (.func 26) ?_; refine qC rfl rfl (hk1 _) ?_; rintro v ρ' L' hle ⟨rfl, rfl, hD2, rfl⟩ <;> (try simp only [List.cons_append, List.nil_append, List.append_eq])) | (refine i_op ?_; first | (refine i_qq ?_; refine qQ ?_) | refine qEf ?_) | refine tl_nil ?_ | (refine i_tc ?_; refine qTc ?_) | (refine i_te ?_; refine qTe ?_) | intro _)
      rw [hst1]
      refine te_round_g (2, (s0 ++ s1).map u8c, Db) (⟨hD2, .inr (.inr (by simp))⟩) ev_le ev_le rfl tk inferInstance (by first | omega | (dsimp only; omega))
    · rw [if_pos he] at hOR
      have hcb : (e1 != 0) = true := by simpa using he
      repeat' (first | (refine tl_is (.func 26) ?_; refine qC rfl rfl (hk1 _) ?_; rintro v ρ' L' hle ⟨rfl, rfl, hD2, rfl⟩ <;> (try simp only [List.cons_append, List.nil_append, List.append_eq])) | (refine i_op ?_; first | (refine i_qq ?_; refine qQ ?_) | refine qEf ?_) | refine tl_nil ?_ | (refine i_tc ?_; refine qTc ?_) | (refine i_te ?_; refine qTe ?_) | intro _)
      subst hOR
      exact qE (L' := diskK db k Db) ⟨Hp.le_refl _, k, hDb, rfl, rfl⟩
  · rw [if_neg (by simp), if_neg (by simp)] at hOR
    have hct := fun ρ => counts_spec ρ s0 s1 hs0 hs1
    have hrt := @countsB_right s0 s1
    generalize countsB s0 s1 = c at *
    obtain ⟨h, ok⟩ := c
    dsimp only at hOR hct hrt
    have hlc : ((s0 ++ s1).map u8c).length = 128 := by simp [hs0, hs1]
    have hla : List.take 64 (List.drop (0 + Int.toNat 0 * 64) ((s0 ++ s1).map u8c)) = s0.map u8c := by simp [hs0]
    have hlb : List.take 64 (List.drop (0 + Int.toNat 1 * 64) ((s0 ++ s1).map u8c)) = s1.map u8c := by
      simp [hs0]
      exact List.take_of_length_le (by simp [hs1])
    cases ok with
    | false =>
      rw [if_pos rfl] at hOR
      repeat' (first | (refine tl_is (.func 52) ?_; refine qC rfl rfl (hct _) ?_; rintro v2 ρ2 L2 hle2 ⟨hl2, ⟨na2, nn2, nc2, rfl, hs2, hc2, hm2⟩, rfl⟩; try simp only [List.cons_append, List.nil_append]) | (refine i_op ?_; first | (refine i_qq ?_; refine qQ ?_) | refine qEf ?_) | refine tl_nil ?_ | (refine i_tc ?_; refine qTc ?_) | (refine i_te ?_; refine qTe ?_) | intro _)
      rename_i b8
      refine tc_any (Stays _ _ ([[(b8, .cells ⟨hdV h na2 nn2 nc2⟩ 95 (0, 0))]])) (stays_of (hT := tk) (Hp.le_refl _)) ?_
      all_goals refine rMv 0 ?_
      all_goals refine rUn 1 ?_
      all_goals refine rMv 2 ?_
      all_goals (first | refine wSkip 3 ?_ | refine wSkipU 3 ?_ | refine wMv 3 ?_ | (refine tr_guard (t := 39) rfl (fun hb => ?_) (fun hb => ?_) <;> (try simp only [decide_eq_true_eq, decide_eq_false_iff_not, Bool.not_eq_true, Bool.not_eq_false, beq_iff_eq, bne_iff_ne, ne_eq, Bool.not_eq_eq_eq_not, Bool.not_true, Bool.not_false, beq_eq_false_iff_ne, bne_eq_false_iff_eq] at hb) <;> first | refine wSkip 3 ?_ | refine wSkipU 3 ?_ | refine wMv 3 ?_))
      all_goals (first | refine wSkip 5 ?_ | refine wSkipU 5 ?_ | refine wFa 5 ?_ | (refine tr_guard (t := 39) rfl (fun hb => ?_) (fun hb => ?_) <;> (try simp only [decide_eq_true_eq, decide_eq_false_iff_not, Bool.not_eq_true, Bool.not_eq_false, beq_iff_eq, bne_iff_ne, ne_eq, Bool.not_eq_eq_eq_not, Bool.not_true, Bool.not_false, beq_eq_false_iff_ne, bne_eq_false_iff_eq] at hb) <;> first | refine wSkip 5 ?_ | refine wSkipU 5 ?_ | refine wFa 5 ?_))
      all_goals (first | refine wSkip 6 ?_ | refine wSkipU 6 ?_ | refine wLd 6 ?_ | (refine tr_guard (t := 39) rfl (fun hb => ?_) (fun hb => ?_) <;> (try simp only [decide_eq_true_eq, decide_eq_false_iff_not, Bool.not_eq_true, Bool.not_eq_false, beq_iff_eq, bne_iff_ne, ne_eq, Bool.not_eq_eq_eq_not, Bool.not_true, Bool.not_false, beq_eq_false_iff_ne, bne_eq_false_iff_eq] at hb) <;> first | refine wSkip 6 ?_ | refine wSkipU 6 ?_ | refine wLd 6 ?_))
      all_goals (first | refine wSkip 7 ?_ | refine wSkipU 7 ?_ | refine wAd 7 ?_ | (refine tr_guard (t := 39) rfl (fun hb => ?_) (fun hb => ?_) <;> (try simp only [decide_eq_true_eq, decide_eq_false_iff_not, Bool.not_eq_true, Bool.not_eq_false, beq_iff_eq, bne_iff_ne, ne_eq, Bool.not_eq_eq_eq_not, Bool.not_true, Bool.not_false, beq_eq_false_iff_ne, bne_eq_false_iff_eq] at hb) <;> first | refine wSkip 7 ?_ | refine wSkipU 7 ?_ | refine wAd 7 ?_))
      all_goals (first | refine wSkip 4 ?_ | refine wSkipU 4 ?_ | (refine rStep (i := 4) ?_; ((try refine qWant ?_); (first | (refine tl_is (.func 53) ?_; refine qC rfl rfl (klen _ db k _) ?_; rintro v ρ' L' hle ⟨rfl, rfl, rfl⟩ <;> (try simp only [List.cons_append, List.nil_append, List.append_eq])) | (refine qEf ?_; try intro _)) <;> ((try simp only [List.cons_append, List.nil_append, List.append_eq]); refine tl_nil ?_; refine rNext ?_))))
      all_goals refine rFull ?_
      all_goals (first | refine wSkip 8 ?_ | refine wSkipU 8 ?_ | refine wCm 8 ?_ | (refine tr_guard (t := 39) rfl (fun hb => ?_) (fun hb => ?_) <;> (try simp only [decide_eq_true_eq, decide_eq_false_iff_not, Bool.not_eq_true, Bool.not_eq_false, beq_iff_eq, bne_iff_ne, ne_eq, Bool.not_eq_eq_eq_not, Bool.not_true, Bool.not_false, beq_eq_false_iff_ne, bne_eq_false_iff_eq] at hb) <;> first | refine wSkip 8 ?_ | refine wSkipU 8 ?_ | refine wCm 8 ?_))
      all_goals refine rPk 9 ?_
      all_goals refine rDone ?_
      all_goals (repeat' (first | (refine i_op ?_; first | (refine i_qq ?_; refine qQ ?_) | refine qEf ?_) | refine tl_nil ?_ | (refine i_tc ?_; refine qTc ?_) | (refine i_te ?_; refine qTe ?_) | intro _))
      all_goals subst hOR
      all_goals exact qE (L' := diskK db k _) ⟨hl2, k, hDb, rfl, rfl⟩
    | true =>
      obtain ⟨nh, hr⟩ := hrt rfl
      unfold Hd.Right at hr
      rw [if_neg (by simp)] at hOR
      repeat' (first | (refine tl_is (.func 52) ?_; refine qC rfl rfl (hct _) ?_; rintro v2 ρ2 L2 hle2 ⟨hl2, ⟨na2, nn2, nc2, rfl, hs2, hc2, hm2⟩, rfl⟩; try simp only [List.cons_append, List.nil_append]) | (refine i_op ?_; first | (refine i_qq ?_; refine qQ ?_) | refine qEf ?_) | refine tl_nil ?_ | (refine i_tc ?_; refine qTc ?_) | (refine i_te ?_; refine qTe ?_) | intro _)
      rename_i b8
      unfold openH at hOR
      by_cases hln : D1.secs.length < h.size + 2
      · rw [if_pos hln] at hOR
        refine tc_any (Stays _ _ ([[(b8, .cells ⟨hdV h na2 nn2 nc2⟩ 95 (0, 0))]])) (stays_of (hT := tk) (Hp.le_refl _)) ?_
        all_goals refine rMv 0 ?_
        all_goals refine rUn 1 ?_
        all_goals refine rMv 2 ?_
        all_goals (first | refine wSkip 3 ?_ | refine wSkipU 3 ?_ | refine wMv 3 ?_ | (refine tr_guard (t := 39) rfl (fun hb => ?_) (fun hb => ?_) <;> (try simp only [decide_eq_true_eq, decide_eq_false_iff_not, Bool.not_eq_true, Bool.not_eq_false, beq_iff_eq, bne_iff_ne, ne_eq, Bool.not_eq_eq_eq_not, Bool.not_true, Bool.not_false, beq_eq_false_iff_ne, bne_eq_false_iff_eq] at hb) <;> first | refine wSkip 3 ?_ | refine wSkipU 3 ?_ | refine wMv 3 ?_))
        all_goals (first | refine wSkip 5 ?_ | refine wSkipU 5 ?_ | refine wFa 5 ?_ | (refine tr_guard (t := 39) rfl (fun hb => ?_) (fun hb => ?_) <;> (try simp only [decide_eq_true_eq, decide_eq_false_iff_not, Bool.not_eq_true, Bool.not_eq_false, beq_iff_eq, bne_iff_ne, ne_eq, Bool.not_eq_eq_eq_not, Bool.not_true, Bool.not_false, beq_eq_false_iff_ne, bne_eq_false_iff_eq] at hb) <;> first | refine wSkip 5 ?_ | refine wSkipU 5 ?_ | refine wFa 5 ?_))
        all_goals (first | refine wSkip 6 ?_ | refine wSkipU 6 ?_ | refine wLd 6 ?_ | (refine tr_guard (t := 39) rfl (fun hb => ?_) (fun hb => ?_) <;> (try simp only [decide_eq_true_eq, decide_eq_false_iff_not, Bool.not_eq_true, Bool.not_eq_false, beq_iff_eq, bne_iff_ne, ne_eq, Bool.not_eq_eq_eq_not, Bool.not_true, Bool.not_false, beq_eq_false_iff_ne, bne_eq_false_iff_eq] at hb) <;> first | refine wSkip 6 ?_ | refine wSkipU 6 ?_ | refine wLd 6 ?_))
        all_goals (first | refine wSkip 7 ?_ | refine wSkipU 7 ?_ | refine wAd 7 ?_ | (refine tr_guard (t := 39) rfl (fun hb => ?_) (fun hb => ?_) <;> (try simp only [decide_eq_true_eq, decide_eq_false_iff_not, Bool.not_eq_true, Bool.not_eq_false, beq_iff_eq, bne_iff_ne, ne_eq, Bool.not_eq_eq_eq_not, Bool.not_true, Bool.not_false, beq_eq_false_iff_ne, bne_eq_false_iff_eq] at hb) <;> first | refine wSkip 7 ?_ | refine wSkipU 7 ?_ | refine wAd 7 ?_))
        all_goals (first | refine wSkip 4 ?_ | refine wSkipU 4 ?_ | (refine rStep (i := 4) ?_; ((try refine qWant ?_); (first | (refine tl_is (.func 53) ?_; refine qC rfl rfl (klen _ db k _) ?_; rintro v ρ' L' hle ⟨rfl, rfl, rfl⟩ <;> (try simp only [List.cons_append, List.nil_append, List.append_eq])) | (refine qEf ?_; try intro _)) <;> ((try simp only [List.cons_append, List.nil_append, List.append_eq]); refine tl_nil ?_; refine rNext ?_))))
        all_goals refine rFull ?_
        all_goals (first | refine wSkip 8 ?_ | refine wSkipU 8 ?_ | refine wCm 8 ?_ | (refine tr_guard (t := 39) rfl (fun hb => ?_) (fun hb => ?_) <;> (try simp only [decide_eq_true_eq, decide_eq_false_iff_not, Bool.not_eq_true, Bool.not_eq_false, beq_iff_eq, bne_iff_ne, ne_eq, Bool.not_eq_eq_eq_not, Bool.not_true, Bool.not_false, beq_eq_false_iff_ne, bne_eq_false_iff_eq] at hb) <;> first | refine wSkip 8 ?_ | refine wSkipU 8 ?_ | refine wCm 8 ?_))
        all_goals refine rPk 9 ?_
        all_goals refine rDone ?_
        all_goals (repeat' (first | (refine i_op ?_; first | (refine i_qq ?_; refine qQ ?_) | refine qEf ?_) | refine tl_nil ?_ | (refine i_tc ?_; refine qTc ?_) | (refine i_te ?_; refine qTe ?_) | intro _))
        all_goals subst hOR
        all_goals exact qE (L' := diskK db k _) ⟨hl2, k, hDb, rfl, rfl⟩
      · rw [if_neg hln] at hOR
        refine tc_any (Stays _ _ ([[(b8, .cells ⟨hdV h na2 nn2 nc2⟩ 95 (0, 0))]])) (stays_of (hT := tk) (Hp.le_refl _)) ?_
        all_goals refine rMv 0 ?_
        all_goals refine rUn 1 ?_
        all_goals refine rMv 2 ?_
        all_goals (first | refine wSkip 3 ?_ | refine wSkipU 3 ?_ | refine wMv 3 ?_ | (refine tr_guard (t := 39) rfl (fun hb => ?_) (fun hb => ?_) <;> (try simp only [decide_eq_true_eq, decide_eq_false_iff_not, Bool.not_eq_true, Bool.not_eq_false, beq_iff_eq, bne_iff_ne, ne_eq, Bool.not_eq_eq_eq_not, Bool.not_true, Bool.not_false, beq_eq_false_iff_ne, bne_eq_false_iff_eq] at hb) <;> first | refine wSkip 3 ?_ | refine wSkipU 3 ?_ | refine wMv 3 ?_))
        all_goals (first | refine wSkip 5 ?_ | refine wSkipU 5 ?_ | refine wFa 5 ?_ | (refine tr_guard (t := 39) rfl (fun hb => ?_) (fun hb => ?_) <;> (try simp only [decide_eq_true_eq, decide_eq_false_iff_not, Bool.not_eq_true, Bool.not_eq_false, beq_iff_eq, bne_iff_ne, ne_eq, Bool.not_eq_eq_eq_not, Bool.not_true, Bool.not_false, beq_eq_false_iff_ne, bne_eq_false_iff_eq] at hb) <;> first | refine wSkip 5 ?_ | refine wSkipU 5 ?_ | refine wFa 5 ?_))
        all_goals (first | refine wSkip 6 ?_ | refine wSkipU 6 ?_ | refine wLd 6 ?_ | (refine tr_guard (t := 39) rfl (fun hb => ?_) (fun hb => ?_) <;> (try simp only [decide_eq_true_eq, decide_eq_false_iff_not, Bool.not_eq_true, Bool.not_eq_false, beq_iff_eq, bne_iff_ne, ne_eq, Bool.not_eq_eq_eq_not, Bool.not_true, Bool.not_false, beq_eq_false_iff_ne, bne_eq_false_iff_eq] at hb) <;> first | refine wSkip 6 ?_ | refine wSkipU 6 ?_ | refine wLd 6 ?_))
        all_goals (first | refine wSkip 7 ?_ | refine wSkipU 7 ?_ | refine wAd 7 ?_ | (refine tr_guard (t := 39) rfl (fun hb => ?_) (fun hb => ?_) <;> (try simp only [decide_eq_true_eq, decide_eq_false_iff_not, Bool.not_eq_true, Bool.not_eq_false, beq_iff_eq, bne_iff_ne, ne_eq, Bool.not_eq_eq_eq_not, Bool.not_true, Bool.not_false, beq_eq_false_iff_ne, bne_eq_false_iff_eq] at hb) <;> first | refine wSkip 7 ?_ | refine wSkipU 7 ?_ | refine wAd 7 ?_))
        all_goals (first | refine wSkip 4 ?_ | refine wSkipU 4 ?_ | (refine rStep (i := 4) ?_; ((try refine qWant ?_); (first | (refine tl_is (.func 53) ?_; refine qC rfl rfl (klen _ db k _) ?_; rintro v ρ' L' hle ⟨rfl, rfl, rfl⟩ <;> (try simp only [List.cons_append, List.nil_append, List.append_eq])) | (refine qEf ?_; try intro _)) <;> ((try simp only [List.cons_append, List.nil_append, List.append_eq]); refine tl_nil ?_; refine rNext ?_))))
        all_goals refine rFull ?_
        all_goals (first | refine wSkip 8 ?_ | refine wSkipU 8 ?_ | refine wCm 8 ?_ | (refine tr_guard (t := 39) rfl (fun hb => ?_) (fun hb => ?_) <;> (try simp only [decide_eq_true_eq, decide_eq_false_iff_not, Bool.not_eq_true, Bool.not_eq_false, beq_iff_eq, bne_iff_ne, ne_eq, Bool.not_eq_eq_eq_not, Bool.not_true, Bool.not_false, beq_eq_false_iff_ne, bne_eq_false_iff_eq] at hb) <;> first | refine wSkip 8 ?_ | refine wSkipU 8 ?_ | refine wCm 8 ?_))
        all_goals refine rPk 9 ?_
        all_goals refine rDone ?_
        all_goals (iterate 8 (first | (refine i_tc ?_; refine qTc ?_) | (refine i_te ?_; refine qTe ?_) | refine tl_nil ?_ | (refine i_op ?_; refine i_qq ?_; refine qQ ?_)))
        all_goals (refine tl_y (y_build (vs := [.agg ⟨hdV h na2 nn2 nc2⟩, .pointer (some ⟨db, 0, none⟩)]) (cells := ⟨rgV ⟨h, [], 0, false⟩ db ⟨na2, nn2, nc2, .slice none 0 0, [], []⟩⟩) rfl rfl) rfl rfl ?_)
        all_goals have hR0 : RIn _ ⟨h, [], 0, false⟩ ⟨na2, nn2, nc2, .slice none 0 0, [], []⟩ := ⟨⟨⟨hr.1, hr.2.1⟩, ⟨hr.2.2.1, hr.2.2.2.1⟩, hr.2.2.2.2.1, by unfold RgS.next; simp; exact hr.2.2.2.2.2.1, hr.2.2.2.2.2.2.1, by rw [hs2.len]; exact hm2, rfl, Nat.zero_le _, fun b hb => by cases hb⟩, hs2, hc2, OwnS.nil 1, rfl, fun e he => by cases he⟩
        all_goals have hfd := fun rb => found_spec _ rb db ⟨h, [], 0, false⟩ ⟨na2, nn2, nc2, .slice none 0 0, [], []⟩ hR0 k D1 hDb
        all_goals have hfh := foundGo_h (h.size + 1) ⟨h, [], 0, false⟩ D1
        all_goals generalize foundGo (h.size + 1) ⟨h, [], 0, false⟩ D1 = r at *
        all_goals (repeat' (first | (refine tl_is (.func 54) ?_; refine qC rfl rfl (hfd _) ?_; rintro v5 ρ5 L5 hle5 ⟨rfl, hl5, hD5, w5, hR5, rfl⟩; try simp only [List.cons_append, List.nil_append]) | (refine i_op ?_; first | (refine i_qq ?_; refine qQ ?_) | refine qEf ?_) | refine tl_nil ?_ | (refine i_tc ?_; refine qTc ?_) | (refine i_te ?_; refine qTe ?_) | intro _))
        all_goals obtain ⟨R1, D5, e5⟩ := r
        all_goals dsimp only at *
        all_goals by_cases hz : e5 = 0
        · subst hz
          rw [if_neg (by simp)] at hOR
          rw [show ((0 : Int) != 0) = false from rfl]
          subst hfh
          obtain ⟨hd, ents, used, broken⟩ := R1
          dsimp only at *
          have hfin := Hp.le_trans hl2 hl5
          by_cases ht : hd.turn = 1073741824
          · rw [if_pos ht] at hOR
            have ht' : ((hd.turn : Nat) : Int) = 1073741824 := by omega
            repeat' (first | (refine i_op ?_; first | (refine i_qq ?_; refine qQ ?_) | refine qEf ?_) | refine tl_nil ?_ | (refine i_tc ?_; refine qTc ?_) | (refine i_te ?_; refine qTe ?_) | intro _)
            subst hOR
            exact qE (L' := diskK db k D5) (v := .tuple ⟨[.pointer none, .int .i64 140]⟩) ⟨hfin, k, hD5, rfl, rfl⟩
          · rw [if_neg ht] at hOR
            have ht' : ¬ ((hd.turn : Nat) : Int) = 1073741824 := by omega
            have hn5 : SIn ρ5 u8c w5.na w5.nn hd.note := hR5.note
            have hnl5 : w5.nn ≤ 32 := by have := hR5.ok.note; have := hn5.len; dsimp only at *; omega
            have hld := laid_spec ρ5 { hd with turn := hd.turn + 1 } w5.na w5.nn w5.nc hn5 (by dsimp only; omega) (by dsimp only; omega) (by dsimp only; omega) (by dsimp only; omega) hnl5 db k D5 hD5
            have hev : ((hd.turn : Nat) : Int) + 1 = ((hd.turn + 1 : Nat) : Int) := by omega
            generalize hLD : DS.lays (headL { hd with turn := hd.turn + 1 }) D5 = r6 at *
            obtain ⟨D6, e6⟩ := r6
            dsimp only at *
            repeat' (first | (refine tl_is (.func 43) ?_; simp only [hev]; refine qC rfl rfl hld ?_; rintro v6 ρ6 L6 hle6 ⟨rfl, hl6, k6, hD6, rfl⟩; try simp only [List.cons_append, List.nil_append]) | (refine i_op ?_; first | (refine i_qq ?_; refine qQ ?_) | refine qEf ?_) | refine tl_nil ?_ | (refine i_tc ?_; refine qTc ?_) | (refine i_te ?_; refine qTe ?_) | intro _)
            have hfin6 := Hp.le_trans hfin hl6
            have hok := hR5.ok
            by_cases hz6 : e6 = 0
            · subst hz6
              rw [if_pos rfl] at hOR
              subst hOR
              rw [show ((0 : Int) != 0) = false from rfl]
              repeat' (first | (refine i_op ?_; first | (refine i_qq ?_; refine qQ ?_) | refine qEf ?_) | refine tl_nil ?_ | (refine i_tc ?_; refine qTc ?_) | (refine i_te ?_; refine qTe ?_) | intro _)
              rename_i rb6
              have hR6 : RIn ρ6 ⟨{ hd with turn := hd.turn + 1 }, ents, used, broken⟩ w5 := (RIn.mono ⟨⟨⟨by dsimp only; omega, by dsimp only; omega⟩, hok.size, hok.first, hok.next, hok.place, hok.note, hok.used, hok.fit, hok.long⟩, hR5.note, hR5.nle, hR5.own, hR5.ents, hR5.els⟩ hl6)
              exact qE (L' := ringC _ db ⟨{ hd with turn := hd.turn + 1 }, ents, used, broken⟩ w5 ++ diskK db k6 D6) ⟨hfin6, k6, hD6, _, w5, rfl, hR6, rfl⟩
            · have hcb : (e6 != 0) = true := by simpa using hz6
              rw [if_neg hz6] at hOR
              rw [hcb]
              repeat' (first | (refine i_op ?_; first | (refine i_qq ?_; refine qQ ?_) | refine qEf ?_) | refine tl_nil ?_ | (refine i_tc ?_; refine qTc ?_) | (refine i_te ?_; refine qTe ?_) | intro _)
              subst hOR
              exact qE (L' := diskK db k6 D6) (v := .tuple ⟨[.pointer none, .int .i64 e6]⟩) ⟨hfin6, k6, hD6, rfl, rfl⟩
        · have hcb : (e5 != 0) = true := by simpa using hz
          rw [if_pos hz] at hOR
          rw [hcb]
          repeat' (first | (refine i_op ?_; first | (refine i_qq ?_; refine qQ ?_) | refine qEf ?_) | refine tl_nil ?_ | (refine i_tc ?_; refine qTc ?_) | (refine i_te ?_; refine qTe ?_) | intro _)
          have hfin := Hp.le_trans hl2 hl5
          subst hOR
          exact qE (L' := diskK db k D5) (v := .tuple ⟨[.pointer none, .int .i64 e5]⟩) ⟨hfin, k, hD5, rfl, rfl⟩
end Go.Proofs.E

namespace Go.Proofs.E
open Go
set_option linter.unusedVariables false
set_option linter.unusedSimpArgs false
set_option linter.unusedSectionVars false
set_option maxRecDepth 4000
set_option maxHeartbeats 1000000
attribute [local irreducible] Yl TL TC TE Spec YSpec R1 Hp.le EnvLe TS TR YS Stays
instance : Fun Try.prog 50 := mkFun (by kernel_rfl)
theorem bytesEq_spec (ρ : Hp) (a a' : Option Addr) (n c n' c' : Nat) (l m : List UInt8) (h : SIn ρ u8c a n l) (h' : SIn ρ u8c a' n' m) :
    Spec Try.prog 50 [.slice a n c, .slice a' n' c'] ρ [] (fun v ρ' L' => v = .bool (decide (l = m)) ∧ ρ' = ρ ∧ L' = []) := by
  refine spec_enter Try.func50 rfl rfl rfl fun u R => ?_
  simp only [argsE, List.cons_append, List.nil_append]
  repeat' (first | (refine i_op ?_; first | (refine i_qq ?_; refine qQ ?_) | refine qEf ?_) | refine tl_nil ?_ | (refine i_tc ?_; refine qTc ?_) | (refine i_te ?_; refine qTe ?_) | intro _)
  exact qE ⟨rfl, rfl, rfl⟩
end Go.Proofs.E

namespace Go.Proofs.E
open Go
set_option linter.unusedVariables false
set_option linter.unusedSimpArgs false
set_option linter.unusedSectionVars false
set_option maxRecDepth 4000
set_option maxHeartbeats 1000000
attribute [local irreducible] Yl TL TC TE Spec YSpec R1 Hp.le EnvLe TS TR YS Stays
theorem pre_all {α : Type} {l m : List α} {j : Nat} (hj : j < l.length) (hm : j < m.length) (h : l.take j = m.take j) : (l.take (j + 1) = m.take (j + 1)) ↔ l[j] = m[j] := by
  rw [List.take_succ_eq_append_getElem hj, List.take_succ_eq_append_getElem hm, h]
  constructor
  · intro e; exact List.singleton_inj.1 (List.append_cancel_left e)
  · intro e; rw [e]
/-- has a ring just what is held? -/
theorem of_spec (ρ : Hp) (rb db : Nat) (R : RgS) (w : RW) (h : RIn ρ R w) (hz : R.h.size = 20) (first : Nat) (la : Option Addr) (ln lc : Nat) (L : List BSl) (hL : SIn ρ slv la ln L) (hLi : ∀ e ∈ L, BIn ρ e) (note : BSl) (hn : BIn ρ note) :
    Spec Try.prog 15 [.agg ⟨[.int .u64 first, .slice la ln lc, slv note]⟩, .pointer (some ⟨rb, 0, none⟩)] ρ (ringC rb db R w)
      (fun v ρ' L' => v = .bool (decide (R.h.first = first ∧ R.ents = L.map BSl.l ∧ R.h.note = note.l)) ∧ ρ.le ρ' ∧ L' = ringC rb db R w) := by
  have hft := h.ok.fit
  have hus := h.ok.used
  have hul := usedL_len R.ents
  have hlL := hL.len
  have hnl := h.ok.note
  have hfd : (decide (R.h.first = first ∧ R.ents = L.map BSl.l ∧ R.h.note = note.l)) = false ∨ (R.h.first = first ∧ R.ents = L.map BSl.l ∧ R.h.note = note.l) := by
    by_cases hh : R.h.first = first ∧ R.ents = L.map BSl.l ∧ R.h.note = note.l
    · exact .inr hh
    · exact .inl (decide_eq_false hh)
  generalize hans : decide (R.h.first = first ∧ R.ents = L.map BSl.l ∧ R.h.note = note.l) = ans at *
  refine spec_enter Try.func15 rfl rfl rfl fun u R0 => ?_
  simp only [argsE, List.cons_append, List.nil_append]
  repeat' (first | (refine tl_is (.func 49) ?_; refine qC rfl rfl (all_spec _ rb db R w h) ?_; rintro v1 ρ1 L1 hle1 ⟨hl1, els1, sp1, hown1, hb1, he1, rfl⟩; simp only [List.cons_append, List.nil_append, ringC]; refine tl_freeze (ownC v1 (els1.map slv) sp1 30) (h := by infer_instance) (fun ρ2 hl2 hfz => ?_); obtain ⟨a1, c1, rfl, hc1, hs1⟩ := hown1.sIn hfz) | (refine i_op ?_; first | (refine i_qq ?_; refine qQ ?_) | refine qEf ?_) | refine tl_nil ?_ | (refine i_tc ?_; refine qTc ?_) | (refine i_te ?_; refine qTe ?_) | intro _)
  rename_i b2
  have hq : ρ.le ρ2 := Hp.le_trans hl1 hl2
  have hel1 : els1.length = R.ents.length := by have := congrArg List.length he1; simpa using this
  by_cases h1 : R.h.first = first
  · by_cases h2 : R.ents.length = L.length
    · by_cases h3 : R.h.note = note.l
      · refine tc_any (Stays _ _ ([[(b2, .cells ⟨[.int .u64 first, .slice la ln lc, slv note]⟩ 37 (0, 0))]])) (stays_of (hT := tk) (Hp.le_refl _)) ?_
        all_goals refine rMv 0 ?_
        all_goals refine rFa 2 ?_
        all_goals refine rLd 3 ?_
        all_goals (refine rStep (i := 1) ?_; ((try refine qWant ?_); (first | (refine tl_is (.func 40) ?_; refine qC rfl rfl (first_spec _ rb db R w) ?_; rintro v ρ' L' hle ⟨rfl, rfl, rfl⟩ <;> (try simp only [List.cons_append, List.nil_append, List.append_eq])) | (refine qEf ?_; try intro _)) <;> ((try simp only [List.cons_append, List.nil_append, List.append_eq]); refine tl_nil ?_; refine rNext ?_)))
        all_goals refine rCm 4 ?_
        all_goals refine rMv 5 ?_
        all_goals (first | refine wSkip 6 ?_ | refine wSkipU 6 ?_ | refine wMv 6 ?_ | (refine tr_guard (t := 15) rfl (fun hb => ?_) (fun hb => ?_) <;> (try simp only [decide_eq_true_eq, decide_eq_false_iff_not, Bool.not_eq_true, Bool.not_eq_false, beq_iff_eq, bne_iff_ne, ne_eq, Bool.not_eq_eq_eq_not, Bool.not_true, Bool.not_false, beq_eq_false_iff_ne, bne_eq_false_iff_eq] at hb) <;> first | refine wSkip 6 ?_ | refine wSkipU 6 ?_ | refine wMv 6 ?_))
        all_goals (first | refine wSkip 7 ?_ | refine wSkipU 7 ?_ | refine wBi 7 ?_ | (refine tr_guard (t := 15) rfl (fun hb => ?_) (fun hb => ?_) <;> (try simp only [decide_eq_true_eq, decide_eq_false_iff_not, Bool.not_eq_true, Bool.not_eq_false, beq_iff_eq, bne_iff_ne, ne_eq, Bool.not_eq_eq_eq_not, Bool.not_true, Bool.not_false, beq_eq_false_iff_ne, bne_eq_false_iff_eq] at hb) <;> first | refine wSkip 7 ?_ | refine wSkipU 7 ?_ | refine wBi 7 ?_))
        all_goals (first | refine wSkip 8 ?_ | refine wSkipU 8 ?_ | refine wFa 8 ?_ | (refine tr_guard (t := 15) rfl (fun hb => ?_) (fun hb => ?_) <;> (try simp only [decide_eq_true_eq, decide_eq_false_iff_not, Bool.not_eq_true, Bool.not_eq_false, beq_iff_eq, bne_iff_ne, ne_eq, Bool.not_eq_eq_eq_not, Bool.not_true, Bool.not_false, beq_eq_false_iff_ne, bne_eq_false_iff_eq] at hb) <;> first | refine wSkip 8 ?_ | refine wSkipU 8 ?_ | refine wFa 8 ?_))
        all_goals (first | refine wSkip 9 ?_ | refine wSkipU 9 ?_ | refine wLd 9 ?_ | (refine tr_guard (t := 15) rfl (fun hb => ?_) (fun hb => ?_) <;> (try simp only [decide_eq_true_eq, decide_eq_false_iff_not, Bool.not_eq_true, Bool.not_eq_false, beq_iff_eq, bne_iff_ne, ne_eq, Bool.not_eq_eq_eq_not, Bool.not_true, Bool.not_false, beq_eq_false_iff_ne, bne_eq_false_iff_eq] at hb) <;> first | refine wSkip 9 ?_ | refine wSkipU 9 ?_ | refine wLd 9 ?_))
        all_goals (first | refine wSkip 10 ?_ | refine wSkipU 10 ?_ | refine wBi 10 ?_ | (refine tr_guard (t := 15) rfl (fun hb => ?_) (fun hb => ?_) <;> (try simp only [decide_eq_true_eq, decide_eq_false_iff_not, Bool.not_eq_true, Bool.not_eq_false, beq_iff_eq, bne_iff_ne, ne_eq, Bool.not_eq_eq_eq_not, Bool.not_true, Bool.not_false, beq_eq_false_iff_ne, bne_eq_false_iff_eq] at hb) <;> first | refine wSkip 10 ?_ | refine wSkipU 10 ?_ | refine wBi 10 ?_))
        all_goals (first | refine wSkip 11 ?_ | refine wSkipU 11 ?_ | refine wCm 11 ?_ | (refine tr_guard (t := 15) rfl (fun hb => ?_) (fun hb => ?_) <;> (try simp only [decide_eq_true_eq, decide_eq_false_iff_not, Bool.not_eq_true, Bool.not_eq_false, beq_iff_eq, bne_iff_ne, ne_eq, Bool.not_eq_eq_eq_not, Bool.not_true, Bool.not_false, beq_eq_false_iff_ne, bne_eq_false_iff_eq] at hb) <;> first | refine wSkip 11 ?_ | refine wSkipU 11 ?_ | refine wCm 11 ?_))
        all_goals refine rPk 12 ?_
        all_goals refine rMv 13 ?_
        all_goals (first | refine wSkip 14 ?_ | refine wSkipU 14 ?_ | refine wMv 14 ?_ | (refine tr_guard (t := 23) rfl (fun hb => ?_) (fun hb => ?_) <;> (try simp only [decide_eq_true_eq, decide_eq_false_iff_not, Bool.not_eq_true, Bool.not_eq_false, beq_iff_eq, bne_iff_ne, ne_eq, Bool.not_eq_eq_eq_not, Bool.not_true, Bool.not_false, beq_eq_false_iff_ne, bne_eq_false_iff_eq] at hb) <;> first | refine wSkip 14 ?_ | refine wSkipU 14 ?_ | refine wMv 14 ?_))
        all_goals (first | refine wSkip 16 ?_ | refine wSkipU 16 ?_ | refine wFa 16 ?_ | (refine tr_guard (t := 23) rfl (fun hb => ?_) (fun hb => ?_) <;> (try simp only [decide_eq_true_eq, decide_eq_false_iff_not, Bool.not_eq_true, Bool.not_eq_false, beq_iff_eq, bne_iff_ne, ne_eq, Bool.not_eq_eq_eq_not, Bool.not_true, Bool.not_false, beq_eq_false_iff_ne, bne_eq_false_iff_eq] at hb) <;> first | refine wSkip 16 ?_ | refine wSkipU 16 ?_ | refine wFa 16 ?_))
        all_goals (first | refine wSkip 17 ?_ | refine wSkipU 17 ?_ | refine wLd 17 ?_ | (refine tr_guard (t := 23) rfl (fun hb => ?_) (fun hb => ?_) <;> (try simp only [decide_eq_true_eq, decide_eq_false_iff_not, Bool.not_eq_true, Bool.not_eq_false, beq_iff_eq, bne_iff_ne, ne_eq, Bool.not_eq_eq_eq_not, Bool.not_true, Bool.not_false, beq_eq_false_iff_ne, bne_eq_false_iff_eq] at hb) <;> first | refine wSkip 17 ?_ | refine wSkipU 17 ?_ | refine wLd 17 ?_))
        all_goals (first | refine wSkip 15 ?_ | refine wSkipU 15 ?_ | (refine rStep (i := 15) ?_; ((try refine qWant ?_); (first | (refine tl_is (.func 51) ?_; refine qC rfl rfl (note_spec _ rb db R w (h.mono (Hp.le_trans hl1 hl2))) ?_; rintro v3 ρ3 L3 hle3 ⟨hl3, e, rfl, he, hel, rfl⟩; have he3 : decide (e.l = note.l) = true := (by rw [hel]; exact decide_eq_true h3); simp only [List.cons_append, List.nil_append]) | (refine qEf ?_; try intro _)) <;> ((try simp only [List.cons_append, List.nil_append, List.append_eq]); refine tl_nil ?_; refine rNext ?_))))
        all_goals (first | refine wSkip 18 ?_ | refine wSkipU 18 ?_ | (refine rStep (i := 18) ?_; ((try refine qWant ?_); (first | (refine tl_is (.func 50) ?_; refine qC rfl rfl (bytesEq_spec _ _ _ _ _ _ _ e.l note.l he.s (hn.mono (Hp.le_trans hl1 (Hp.le_trans hl2 hl3))).s) ?_; rintro v ρ' L' hle ⟨rfl, rfl, rfl⟩ <;> (try simp only [List.cons_append, List.nil_append, List.append_eq, he3])) | (refine qEf ?_; try intro _)) <;> ((try simp only [List.cons_append, List.nil_append, List.append_eq]); refine tl_nil ?_; refine rNext ?_))))
        all_goals refine rFull ?_
        all_goals (first | refine wSkip 19 ?_ | refine wSkipU 19 ?_ | refine wUn 19 ?_ | (refine tr_guard (t := 23) rfl (fun hb => ?_) (fun hb => ?_) <;> (try simp only [decide_eq_true_eq, decide_eq_false_iff_not, Bool.not_eq_true, Bool.not_eq_false, beq_iff_eq, bne_iff_ne, ne_eq, Bool.not_eq_eq_eq_not, Bool.not_true, Bool.not_false, beq_eq_false_iff_ne, bne_eq_false_iff_eq] at hb) <;> first | refine wSkip 19 ?_ | refine wSkipU 19 ?_ | refine wUn 19 ?_))
        all_goals refine rPk 20 ?_
        all_goals refine rDone ?_
        all_goals (repeat' (first | (refine i_op ?_; first | (refine i_qq ?_; refine qQ ?_) | refine qEf ?_) | refine tl_nil ?_ | (refine i_tc ?_; refine qTc ?_) | (refine i_te ?_; refine qTe ?_) | intro _))
        refine tc_loop_g [(1, _), (2, _), (5, _), (32, _)] (fun (ζ : (Nat)) => [(33, .int .i64 ζ), (6, .int .i64 ((20 - usedL (R.ents.take ζ) : Nat) : Int)), (4, .bool false)]) (fun (ζ : (Nat)) => ρ') (fun (ζ : (Nat)) => [[(b2, .cells ⟨[.int .u64 first, .slice la ln lc, slv note]⟩ 37 (0, 0))]]) (fun (ζ : (Nat)) => ζ ≤ els1.length ∧ R.ents.take ζ = (L.map BSl.l).take ζ) (fun (ζ : (Nat)) => els1.length - ζ) (0) (⟨Nat.zero_le _, rfl⟩) ev_le ev_le rfl tk ?_
        rintro j hI
        try simp only [List.cons_append, List.nil_append, List.append_assoc, List.append_eq] at hI ⊢
        try dsimp only at hI ⊢
        obtain ⟨hj, hpre⟩ := hI
        have hjr : j ≤ R.ents.length := by omega
        by_cases hlt : j < els1.length
        · obtain ⟨x1, o1, C1, T1, fr1, rfl, hx1, hy1⟩ := (hs1.mono hl3).get hlt
          obtain ⟨x2, o2, C2, T2, fr2, rfl, hx2, hy2⟩ := (hL.mono (Hp.le_trans hq hl3)).get (show j < L.length by omega)
          have be1 := (hb1 _ (List.getElem_mem hlt)).mono (Hp.le_trans hl2 hl3)
          have be2 := (hLi _ (List.getElem_mem (show j < L.length by omega))).mono (Hp.le_trans hq hl3)
          have hej : els1[j].l = R.ents[j]'(by omega) := by simp [← he1]
          have hLj : (L.map BSl.l)[j]'(by simp; omega) = L[j].l := by simp
          have hst := usedL_take_succ R.ents j (by omega)
          have hsum := usedL_take_drop R.ents (j + 1)
          have hlong := h.ok.long _ (List.getElem_mem (show j < R.ents.length by omega))
          have hbl1 := be1.s.len
          have hpa := pre_all (l := R.ents) (m := L.map BSl.l) (j := j) (by omega) (by simp; omega) hpre
          rw [hLj, ← hej] at hpa
          rw [← hej] at hst hlong
          rw [hbl1] at hst hlong
          generalize els1[j] = y1 at *
          generalize L[j]'(by omega) = y2 at *
          by_cases heq : y1.l = y2.l
          · have hde : decide (y1.l = y2.l) = true := decide_eq_true heq
            have hpre' := hpa.2 heq
            repeat' (first | (refine i_op ?_; first | (refine i_qq ?_; refine qQ ?_) | refine qEf ?_) | refine tl_nil ?_ | (refine i_tc ?_; refine qTc ?_) | (refine i_te ?_; refine qTe ?_) | intro _)
            refine tc_any (Stays _ _ ([[(b2, .cells ⟨[.int .u64 first, .slice (some ⟨x2, o2, none⟩) ln lc, slv note]⟩ 37 (0, 0))]])) (stays_of (hT := tk) (Hp.le_refl _)) ?_
            all_goals refine rMv 0 ?_
            all_goals refine rMv 1 ?_
            all_goals refine rIa 2 ?_
            all_goals refine rLd 3 ?_
            all_goals refine rFa 4 ?_
            all_goals refine rLd 5 ?_
            all_goals refine rMv 6 ?_
            all_goals refine rIa 7 ?_
            all_goals refine rLd 8 ?_
            all_goals (refine rStep (i := 9) ?_; ((try refine qWant ?_); (first | (refine tl_is (.func 50) ?_; refine qC rfl rfl (bytesEq_spec _ _ _ _ _ _ _ y1.l y2.l be1.s be2.s) ?_; rintro v ρ' L' hle ⟨rfl, rfl, rfl⟩ <;> (try simp only [List.cons_append, List.nil_append, List.append_eq, hde])) | (refine qEf ?_; try intro _)) <;> ((try simp only [List.cons_append, List.nil_append, List.append_eq]); refine tl_nil ?_; refine rNext ?_)))
            all_goals refine rFull ?_
            all_goals refine rUn 10 ?_
            all_goals refine rDone ?_
            all_goals (repeat' (first | (refine tl_is (.func 12) ?_; refine qC rfl rfl (sects_nat _ y1.n (by omega)) ?_; rintro v ρ' L' hle ⟨rfl, rfl, rfl⟩ <;> (try simp only [List.cons_append, List.nil_append, List.append_eq])) | (refine i_op ?_; first | (refine i_qq ?_; refine qQ ?_) | refine qEf ?_) | refine tl_nil ?_ | (refine i_tc ?_; refine qTc ?_) | (refine i_te ?_; refine qTe ?_) | intro _))
            rw [show ((20 - usedL (List.take j R.ents) : Nat) : Int) - (sects y1.n : Nat) = ((20 - usedL (R.ents.take (j + 1)) : Nat) : Int) by omega]
            refine te_round_g (j + 1) (⟨hlt, hpre'⟩) ev_le ev_le rfl tk inferInstance (by first | omega | (dsimp only; omega))
          · have hde : decide (y1.l = y2.l) = false := decide_eq_false heq
            have hv : ans = false := by
              rw [← hans]
              refine decide_eq_false (fun hh => heq (hpa.1 (by rw [hh.2.1])))
            repeat' (first | (refine i_op ?_; first | (refine i_qq ?_; refine qQ ?_) | refine qEf ?_) | refine tl_nil ?_ | (refine i_tc ?_; refine qTc ?_) | (refine i_te ?_; refine qTe ?_) | intro _)
            refine tc_any (Stays _ _ ([[(b2, .cells ⟨[.int .u64 first, .slice (some ⟨x2, o2, none⟩) ln lc, slv note]⟩ 37 (0, 0))]])) (stays_of (hT := tk) (Hp.le_refl _)) ?_
            all_goals refine rMv 0 ?_
            all_goals refine rMv 1 ?_
            all_goals refine rIa 2 ?_
            all_goals refine rLd 3 ?_
            all_goals refine rFa 4 ?_
            all_goals refine rLd 5 ?_
            all_goals refine rMv 6 ?_
            all_goals refine rIa 7 ?_
            all_goals refine rLd 8 ?_
            all_goals (refine rStep (i := 9) ?_; ((try refine qWant ?_); (first | (refine tl_is (.func 50) ?_; refine qC rfl rfl (bytesEq_spec _ _ _ _ _ _ _ y1.l y2.l be1.s be2.s) ?_; rintro v ρ' L' hle ⟨rfl, rfl, rfl⟩ <;> (try simp only [List.cons_append, List.nil_append, List.append_eq, hde])) | (refine qEf ?_; try intro _)) <;> ((try simp only [List.cons_append, List.nil_append, List.append_eq]); refine tl_nil ?_; refine rNext ?_)))
            all_goals refine rFull ?_
            all_goals refine rUn 10 ?_
            all_goals refine rDone ?_
            all_goals (repeat' (first | (refine i_op ?_; first | (refine i_qq ?_; refine qQ ?_) | refine qEf ?_) | refine tl_nil ?_ | (refine i_tc ?_; refine qTc ?_) | (refine i_te ?_; refine qTe ?_) | intro _))
            all_goals rw [hv]
            all_goals have hfin := Hp.le_trans hq hl3
            all_goals exact qE (L' := ringC rb db R w) ⟨rfl, hfin, rfl⟩
        · have hv : ans = true := by
            rw [← hans]
            rw [List.take_of_length_le (by omega), List.take_of_length_le (by simp; omega)] at hpre
            exact decide_eq_true ⟨h1, hpre, h3⟩
          have hfin := Hp.le_trans hq hl3
          have hlf : (((R.h.size - R.used : Nat) : Int) = ((20 - usedL (R.ents.take j) : Nat) : Int)) := by
            rw [List.take_of_length_le (by omega)]; omega
          repeat' (first | (refine tl_is (.func 11) ?_; refine qC rfl rfl (left_spec4 _ rb db R w h.ok) ?_; rintro v ρ' L' hle ⟨rfl, rfl, rfl⟩ <;> (try simp only [List.cons_append, List.nil_append, List.append_eq])) | (refine i_op ?_; first | (refine i_qq ?_; refine qQ ?_) | refine qEf ?_) | refine tl_nil ?_ | (refine i_tc ?_; refine qTc ?_) | (refine i_te ?_; refine qTe ?_) | intro _)
          rw [hv]
          exact qE (L' := ringC rb db R w) ⟨rfl, hfin, rfl⟩
      · have hv : ans = false := by rw [← hans]; exact decide_eq_false (fun hh => h3 hh.2.2)
        refine tc_any (Stays _ _ ([[(b2, .cells ⟨[.int .u64 first, .slice la ln lc, slv note]⟩ 37 (0, 0))]])) (stays_of (hT := tk) (Hp.le_refl _)) ?_
        all_goals refine rMv 0 ?_
        all_goals refine rFa 2 ?_
        all_goals refine rLd 3 ?_
        all_goals (refine rStep (i := 1) ?_; ((try refine qWant ?_); (first | (refine tl_is (.func 40) ?_; refine qC rfl rfl (first_spec _ rb db R w) ?_; rintro v ρ' L' hle ⟨rfl, rfl, rfl⟩ <;> (try simp only [List.cons_append, List.nil_append, List.append_eq])) | (refine qEf ?_; try intro _)) <;> ((try simp only [List.cons_append, List.nil_append, List.append_eq]); refine tl_nil ?_; refine rNext ?_)))
        all_goals refine rCm 4 ?_
        all_goals refine rMv 5 ?_
        all_goals (first | refine wSkip 6 ?_ | refine wSkipU 6 ?_ | refine wMv 6 ?_ | (refine tr_guard (t := 15) rfl (fun hb => ?_) (fun hb => ?_) <;> (try simp only [decide_eq_true_eq, decide_eq_false_iff_not, Bool.not_eq_true, Bool.not_eq_false, beq_iff_eq, bne_iff_ne, ne_eq, Bool.not_eq_eq_eq_not, Bool.not_true, Bool.not_false, beq_eq_false_iff_ne, bne_eq_false_iff_eq] at hb) <;> first | refine wSkip 6 ?_ | refine wSkipU 6 ?_ | refine wMv 6 ?_))
        all_goals (first | refine wSkip 7 ?_ | refine wSkipU 7 ?_ | refine wBi 7 ?_ | (refine tr_guard (t := 15) rfl (fun hb => ?_) (fun hb => ?_) <;> (try simp only [decide_eq_true_eq, decide_eq_false_iff_not, Bool.not_eq_true, Bool.not_eq_false, beq_iff_eq, bne_iff_ne, ne_eq, Bool.not_eq_eq_eq_not, Bool.not_true, Bool.not_false, beq_eq_false_iff_ne, bne_eq_false_iff_eq] at hb) <;> first | refine wSkip 7 ?_ | refine wSkipU 7 ?_ | refine wBi 7 ?_))
        all_goals (first | refine wSkip 8 ?_ | refine wSkipU 8 ?_ | refine wFa 8 ?_ | (refine tr_guard (t := 15) rfl (fun hb => ?_) (fun hb => ?_) <;> (try simp only [decide_eq_true_eq, decide_eq_false_iff_not, Bool.not_eq_true, Bool.not_eq_false, beq_iff_eq, bne_iff_ne, ne_eq, Bool.not_eq_eq_eq_not, Bool.not_true, Bool.not_false, beq_eq_false_iff_ne, bne_eq_false_iff_eq] at hb) <;> first | refine wSkip 8 ?_ | refine wSkipU 8 ?_ | refine wFa 8 ?_))
        all_goals (first | refine wSkip 9 ?_ | refine wSkipU 9 ?_ | refine wLd 9 ?_ | (refine tr_guard (t := 15) rfl (fun hb => ?_) (fun hb => ?_) <;> (try simp only [decide_eq_true_eq, decide_eq_false_iff_not, Bool.not_eq_true, Bool.not_eq_false, beq_iff_eq, bne_iff_ne, ne_eq, Bool.not_eq_eq_eq_not, Bool.not_true, Bool.not_false, beq_eq_false_iff_ne, bne_eq_false_iff_eq] at hb) <;> first | refine wSkip 9 ?_ | refine wSkipU 9 ?_ | refine wLd 9 ?_))
        all_goals (first | refine wSkip 10 ?_ | refine wSkipU 10 ?_ | refine wBi 10 ?_ | (refine tr_guard (t := 15) rfl (fun hb => ?_) (fun hb => ?_) <;> (try simp only [decide_eq_true_eq, decide_eq_false_iff_not, Bool.not_eq_true, Bool.not_eq_false, beq_iff_eq, bne_iff_ne, ne_eq, Bool.not_eq_eq_eq_not, Bool.not_true, Bool.not_false, beq_eq_false_iff_ne, bne_eq_false_iff_eq] at hb) <;> first | refine wSkip 10 ?_ | refine wSkipU 10 ?_ | refine wBi 10 ?_))
        all_goals (first | refine wSkip 11 ?_ | refine wSkipU 11 ?_ | refine wCm 11 ?_ | (refine tr_guard (t := 15) rfl (fun hb => ?_) (fun hb => ?_) <;> (try simp only [decide_eq_true_eq, decide_eq_false_iff_not, Bool.not_eq_true, Bool.not_eq_false, beq_iff_eq, bne_iff_ne, ne_eq, Bool.not_eq_eq_eq_not, Bool.not_true, Bool.not_false, beq_eq_false_iff_ne, bne_eq_false_iff_eq] at hb) <;> first | refine wSkip 11 ?_ | refine wSkipU 11 ?_ | refine wCm 11 ?_))
        all_goals refine rPk 12 ?_
        all_goals refine rMv 13 ?_
        all_goals (first | refine wSkip 14 ?_ | refine wSkipU 14 ?_ | refine wMv 14 ?_ | (refine tr_guard (t := 23) rfl (fun hb => ?_) (fun hb => ?_) <;> (try simp only [decide_eq_true_eq, decide_eq_false_iff_not, Bool.not_eq_true, Bool.not_eq_false, beq_iff_eq, bne_iff_ne, ne_eq, Bool.not_eq_eq_eq_not, Bool.not_true, Bool.not_false, beq_eq_false_iff_ne, bne_eq_false_iff_eq] at hb) <;> first | refine wSkip 14 ?_ | refine wSkipU 14 ?_ | refine wMv 14 ?_))
        all_goals (first | refine wSkip 16 ?_ | refine wSkipU 16 ?_ | refine wFa 16 ?_ | (refine tr_guard (t := 23) rfl (fun hb => ?_) (fun hb => ?_) <;> (try simp only [decide_eq_true_eq, decide_eq_false_iff_not, Bool.not_eq_true, Bool.not_eq_false, beq_iff_eq, bne_iff_ne, ne_eq, Bool.not_eq_eq_eq_not, Bool.not_true, Bool.not_false, beq_eq_false_iff_ne, bne_eq_false_iff_eq] at hb) <;> first | refine wSkip 16 ?_ | refine wSkipU 16 ?_ | refine wFa 16 ?_))
        all_goals (first | refine wSkip 17 ?_ | refine wSkipU 17 ?_ | refine wLd 17 ?_ | (refine tr_guard (t := 23) rfl (fun hb => ?_) (fun hb => ?_) <;> (try simp only [decide_eq_true_eq, decide_eq_false_iff_not, Bool.not_eq_true, Bool.not_eq_false, beq_iff_eq, bne_iff_ne, ne_eq, Bool.not_eq_eq_eq_not, Bool.not_true, Bool.not_false, beq_eq_false_iff_ne, bne_eq_false_iff_eq] at hb) <;> first | refine wSkip 17 ?_ | refine wSkipU 17 ?_ | refine wLd 17 ?_))
        all_goals (first | refine wSkip 15 ?_ | refine wSkipU 15 ?_ | (refine rStep (i := 15) ?_; ((try refine qWant ?_); (first | (refine tl_is (.func 51) ?_; refine qC rfl rfl (note_spec _ rb db R w (h.mono (Hp.le_trans hl1 hl2))) ?_; rintro v3 ρ3 L3 hle3 ⟨hl3, e, rfl, he, hel, rfl⟩; have he3 : decide (e.l = note.l) = false := (by rw [hel]; exact decide_eq_false h3); simp only [List.cons_append, List.nil_append]) | (refine qEf ?_; try intro _)) <;> ((try simp only [List.cons_append, List.nil_append, List.append_eq]); refine tl_nil ?_; refine rNext ?_))))
        all_goals (first | refine wSkip 18 ?_ | refine wSkipU 18 ?_ | (refine rStep (i := 18) ?_; ((try refine qWant ?_); (first | (refine tl_is (.func 50) ?_; refine qC rfl rfl (bytesEq_spec _ _ _ _ _ _ _ e.l note.l he.s (hn.mono (Hp.le_trans hl1 (Hp.le_trans hl2 hl3))).s) ?_; rintro v ρ' L' hle ⟨rfl, rfl, rfl⟩ <;> (try simp only [List.cons_append, List.nil_append, List.append_eq, he3])) | (refine qEf ?_; try intro _)) <;> ((try simp only [List.cons_append, List.nil_append, List.append_eq]); refine tl_nil ?_; refine rNext ?_))))
        all_goals refine rFull ?_
        all_goals (first | refine wSkip 19 ?_ | refine wSkipU 19 ?_ | refine wUn 19 ?_ | (refine tr_guard (t := 23) rfl (fun hb => ?_) (fun hb => ?_) <;> (try simp only [decide_eq_true_eq, decide_eq_false_iff_not, Bool.not_eq_true, Bool.not_eq_false, beq_iff_eq, bne_iff_ne, ne_eq, Bool.not_eq_eq_eq_not, Bool.not_true, Bool.not_false, beq_eq_false_iff_ne, bne_eq_false_iff_eq] at hb) <;> first | refine wSkip 19 ?_ | refine wSkipU 19 ?_ | refine wUn 19 ?_))
        all_goals refine rPk 20 ?_
        all_goals refine rDone ?_
        all_goals (repeat' (first | (refine i_op ?_; first | (refine i_qq ?_; refine qQ ?_) | refine qEf ?_) | refine tl_nil ?_ | (refine i_tc ?_; refine qTc ?_) | (refine i_te ?_; refine qTe ?_) | intro _))
        all_goals rw [hv]
        all_goals have hfin := Hp.le_trans hq hl3
        all_goals exact qE (L' := ringC rb db R w) ⟨rfl, hfin, rfl⟩
    · have hv : ans = false := by rw [← hans]; exact decide_eq_false (fun hh => h2 (by rw [hh.2.1]; simp))
      refine tc_any (Stays _ _ ([[(b2, .cells ⟨[.int .u64 first, .slice la ln lc, slv note]⟩ 37 (0, 0))]])) (stays_of (hT := tk) (Hp.le_refl _)) ?_
      all_goals refine rMv 0 ?_
      all_goals refine rFa 2 ?_
      all_goals refine rLd 3 ?_
      all_goals (refine rStep (i := 1) ?_; ((try refine qWant ?_); (first | (refine tl_is (.func 40) ?_; refine qC rfl rfl (first_spec _ rb db R w) ?_; rintro v ρ' L' hle ⟨rfl, rfl, rfl⟩ <;> (try simp only [List.cons_append, List.nil_append, List.append_eq])) | (refine qEf ?_; try intro _)) <;> ((try simp only [List.cons_append, List.nil_append, List.append_eq]); refine tl_nil ?_; refine rNext ?_)))
      all_goals refine rCm 4 ?_
      all_goals refine rMv 5 ?_
      all_goals (first | refine wSkip 6 ?_ | refine wSkipU 6 ?_ | refine wMv 6 ?_ | (refine tr_guard (t := 15) rfl (fun hb => ?_) (fun hb => ?_) <;> (try simp only [decide_eq_true_eq, decide_eq_false_iff_not, Bool.not_eq_true, Bool.not_eq_false, beq_iff_eq, bne_iff_ne, ne_eq, Bool.not_eq_eq_eq_not, Bool.not_true, Bool.not_false, beq_eq_false_iff_ne, bne_eq_false_iff_eq] at hb) <;> first | refine wSkip 6 ?_ | refine wSkipU 6 ?_ | refine wMv 6 ?_))
      all_goals (first | refine wSkip 7 ?_ | refine wSkipU 7 ?_ | refine wBi 7 ?_ | (refine tr_guard (t := 15) rfl (fun hb => ?_) (fun hb => ?_) <;> (try simp only [decide_eq_true_eq, decide_eq_false_iff_not, Bool.not_eq_true, Bool.not_eq_false, beq_iff_eq, bne_iff_ne, ne_eq, Bool.not_eq_eq_eq_not, Bool.not_true, Bool.not_false, beq_eq_false_iff_ne, bne_eq_false_iff_eq] at hb) <;> first | refine wSkip 7 ?_ | refine wSkipU 7 ?_ | refine wBi 7 ?_))
      all_goals (first | refine wSkip 8 ?_ | refine wSkipU 8 ?_ | refine wFa 8 ?_ | (refine tr_guard (t := 15) rfl (fun hb => ?_) (fun hb => ?_) <;> (try simp only [decide_eq_true_eq, decide_eq_false_iff_not, Bool.not_eq_true, Bool.not_eq_false, beq_iff_eq, bne_iff_ne, ne_eq, Bool.not_eq_eq_eq_not, Bool.not_true, Bool.not_false, beq_eq_false_iff_ne, bne_eq_false_iff_eq] at hb) <;> first | refine wSkip 8 ?_ | refine wSkipU 8 ?_ | refine wFa 8 ?_))
      all_goals (first | refine wSkip 9 ?_ | refine wSkipU 9 ?_ | refine wLd 9 ?_ | (refine tr_guard (t := 15) rfl (fun hb => ?_) (fun hb => ?_) <;> (try simp only [decide_eq_true_eq, decide_eq_false_iff_not, Bool.not_eq_true, Bool.not_eq_false, beq_iff_eq, bne_iff_ne, ne_eq, Bool.not_eq_eq_eq_not, Bool.not_true, Bool.not_false, beq_eq_false_iff_ne, bne_eq_false_iff_eq] at hb) <;> first | refine wSkip 9 ?_ | refine wSkipU 9 ?_ | refine wLd 9 ?_))
      all_goals (first | refine wSkip 10 ?_ | refine wSkipU 10 ?_ | refine wBi 10 ?_ | (refine tr_guard (t := 15) rfl (fun hb => ?_) (fun hb => ?_) <;> (try simp only [decide_eq_true_eq, decide_eq_false_iff_not, Bool.not_eq_true, Bool.not_eq_false, beq_iff_eq, bne_iff_ne, ne_eq, Bool.not_eq_eq_eq_not, Bool.not_true, Bool.not_false, beq_eq_false_iff_ne, bne_eq_false_iff_eq] at hb) <;> first | refine wSkip 10 ?_ | refine wSkipU 10 ?_ | refine wBi 10 ?_))
      all_goals (first | refine wSkip 11 ?_ | refine wSkipU 11 ?_ | refine wCm 11 ?_ | (refine tr_guard (t := 15) rfl (fun hb => ?_) (fun hb => ?_) <;> (try simp only [decide_eq_true_eq, decide_eq_false_iff_not, Bool.not_eq_true, Bool.not_eq_false, beq_iff_eq, bne_iff_ne, ne_eq, Bool.not_eq_eq_eq_not, Bool.not_true, Bool.not_false, beq_eq_false_iff_ne, bne_eq_false_iff_eq] at hb) <;> first | refine wSkip 11 ?_ | refine wSkipU 11 ?_ | refine wCm 11 ?_))
      all_goals refine rPk 12 ?_
      all_goals refine rMv 13 ?_
      all_goals (first | refine wSkip 14 ?_ | refine wSkipU 14 ?_ | refine wMv 14 ?_ | (refine tr_guard (t := 23) rfl (fun hb => ?_) (fun hb => ?_) <;> (try simp only [decide_eq_true_eq, decide_eq_false_iff_not, Bool.not_eq_true, Bool.not_eq_false, beq_iff_eq, bne_iff_ne, ne_eq, Bool.not_eq_eq_eq_not, Bool.not_true, Bool.not_false, beq_eq_false_iff_ne, bne_eq_false_iff_eq] at hb) <;> first | refine wSkip 14 ?_ | refine wSkipU 14 ?_ | refine wMv 14 ?_))
      all_goals (first | refine wSkip 16 ?_ | refine wSkipU 16 ?_ | refine wFa 16 ?_ | (refine tr_guard (t := 23) rfl (fun hb => ?_) (fun hb => ?_) <;> (try simp only [decide_eq_true_eq, decide_eq_false_iff_not, Bool.not_eq_true, Bool.not_eq_false, beq_iff_eq, bne_iff_ne, ne_eq, Bool.not_eq_eq_eq_not, Bool.not_true, Bool.not_false, beq_eq_false_iff_ne, bne_eq_false_iff_eq] at hb) <;> first | refine wSkip 16 ?_ | refine wSkipU 16 ?_ | refine wFa 16 ?_))
      all_goals (first | refine wSkip 17 ?_ | refine wSkipU 17 ?_ | refine wLd 17 ?_ | (refine tr_guard (t := 23) rfl (fun hb => ?_) (fun hb => ?_) <;> (try simp only [decide_eq_true_eq, decide_eq_false_iff_not, Bool.not_eq_true, Bool.not_eq_false, beq_iff_eq, bne_iff_ne, ne_eq, Bool.not_eq_eq_eq_not, Bool.not_true, Bool.not_false, beq_eq_false_iff_ne, bne_eq_false_iff_eq] at hb) <;> first | refine wSkip 17 ?_ | refine wSkipU 17 ?_ | refine wLd 17 ?_))
      all_goals (first | refine wSkip 15 ?_ | refine wSkipU 15 ?_ | (refine rStep (i := 15) ?_; ((try refine qWant ?_); (first | (refine tl_is (.func 51) ?_; refine qC rfl rfl (note_spec _ rb db R w (h.mono (Hp.le_trans hl1 hl2))) ?_; rintro v3 ρ3 L3 hle3 ⟨hl3, e, rfl, he, hel, rfl⟩; simp only [List.cons_append, List.nil_append]) | (refine qEf ?_; try intro _)) <;> ((try simp only [List.cons_append, List.nil_append, List.append_eq]); refine tl_nil ?_; refine rNext ?_))))
      all_goals (first | refine wSkip 18 ?_ | refine wSkipU 18 ?_ | (refine rStep (i := 18) ?_; ((try refine qWant ?_); (first | (refine tl_is (.func 50) ?_; refine qC rfl rfl (bytesEq_spec _ _ _ _ _ _ _ e.l note.l he.s (hn.mono (Hp.le_trans hl1 (Hp.le_trans hl2 hl3))).s) ?_; rintro v ρ' L' hle ⟨rfl, rfl, rfl⟩ <;> (try simp only [List.cons_append, List.nil_append, List.append_eq])) | (refine qEf ?_; try intro _)) <;> ((try simp only [List.cons_append, List.nil_append, List.append_eq]); refine tl_nil ?_; refine rNext ?_))))
      all_goals refine rFull ?_
      all_goals (first | refine wSkip 19 ?_ | refine wSkipU 19 ?_ | refine wUn 19 ?_ | (refine tr_guard (t := 23) rfl (fun hb => ?_) (fun hb => ?_) <;> (try simp only [decide_eq_true_eq, decide_eq_false_iff_not, Bool.not_eq_true, Bool.not_eq_false, beq_iff_eq, bne_iff_ne, ne_eq, Bool.not_eq_eq_eq_not, Bool.not_true, Bool.not_false, beq_eq_false_iff_ne, bne_eq_false_iff_eq] at hb) <;> first | refine wSkip 19 ?_ | refine wSkipU 19 ?_ | refine wUn 19 ?_))
      all_goals refine rPk 20 ?_
      all_goals refine rDone ?_
      all_goals (repeat' (first | (refine i_op ?_; first | (refine i_qq ?_; refine qQ ?_) | refine qEf ?_) | refine tl_nil ?_ | (refine i_tc ?_; refine qTc ?_) | (refine i_te ?_; refine qTe ?_) | intro _))
      all_goals rw [hv]
      all_goals exact qE (L' := ringC rb db R w) ⟨rfl, hq, rfl⟩
  · have hv : ans = false := by rw [← hans]; exact decide_eq_false (fun hh => h1 hh.1)
    refine tc_any (Stays _ _ ([[(b2, .cells ⟨[.int .u64 first, .slice la ln lc, slv note]⟩ 37 (0, 0))]])) (stays_of (hT := tk) (Hp.le_refl _)) ?_
    all_goals refine rMv 0 ?_
    all_goals refine rFa 2 ?_
    all_goals refine rLd 3 ?_
    all_goals (refine rStep (i := 1) ?_; ((try refine qWant ?_); (first | (refine tl_is (.func 40) ?_; refine qC rfl rfl (first_spec _ rb db R w) ?_; rintro v ρ' L' hle ⟨rfl, rfl, rfl⟩ <;> (try simp only [List.cons_append, List.nil_append, List.append_eq])) | (refine qEf ?_; try intro _)) <;> ((try simp only [List.cons_append, List.nil_append, List.append_eq]); refine tl_nil ?_; refine rNext ?_)))
    all_goals refine rCm 4 ?_
    all_goals refine rMv 5 ?_
    all_goals (first | refine wSkip 6 ?_ | refine wSkipU 6 ?_ | refine wMv 6 ?_ | (refine tr_guard (t := 15) rfl (fun hb => ?_) (fun hb => ?_) <;> (try simp only [decide_eq_true_eq, decide_eq_false_iff_not, Bool.not_eq_true, Bool.not_eq_false, beq_iff_eq, bne_iff_ne, ne_eq, Bool.not_eq_eq_eq_not, Bool.not_true, Bool.not_false, beq_eq_false_iff_ne, bne_eq_false_iff_eq] at hb) <;> first | refine wSkip 6 ?_ | refine wSkipU 6 ?_ | refine wMv 6 ?_))
    all_goals (first | refine wSkip 7 ?_ | refine wSkipU 7 ?_ | refine wBi 7 ?_ | (refine tr_guard (t := 15) rfl (fun hb => ?_) (fun hb => ?_) <;> (try simp only [decide_eq_true_eq, decide_eq_false_iff_not, Bool.not_eq_true, Bool.not_eq_false, beq_iff_eq, bne_iff_ne, ne_eq, Bool.not_eq_eq_eq_not, Bool.not_true, Bool.not_false, beq_eq_false_iff_ne, bne_eq_false_iff_eq] at hb) <;> first | refine wSkip 7 ?_ | refine wSkipU 7 ?_ | refine wBi 7 ?_))
    all_goals (first | refine wSkip 8 ?_ | refine wSkipU 8 ?_ | refine wFa 8 ?_ | (refine tr_guard (t := 15) rfl (fun hb => ?_) (fun hb => ?_) <;> (try simp only [decide_eq_true_eq, decide_eq_false_iff_not, Bool.not_eq_true, Bool.not_eq_false, beq_iff_eq, bne_iff_ne, ne_eq, Bool.not_eq_eq_eq_not, Bool.not_true, Bool.not_false, beq_eq_false_iff_ne, bne_eq_false_iff_eq] at hb) <;> first | refine wSkip 8 ?_ | refine wSkipU 8 ?_ | refine wFa 8 ?_))
    all_goals (first | refine wSkip 9 ?_ | refine wSkipU 9 ?_ | refine wLd 9 ?_ | (refine tr_guard (t := 15) rfl (fun hb => ?_) (fun hb => ?_) <;> (try simp only [decide_eq_true_eq, decide_eq_false_iff_not, Bool.not_eq_true, Bool.not_eq_false, beq_iff_eq, bne_iff_ne, ne_eq, Bool.not_eq_eq_eq_not, Bool.not_true, Bool.not_false, beq_eq_false_iff_ne, bne_eq_false_iff_eq] at hb) <;> first | refine wSkip 9 ?_ | refine wSkipU 9 ?_ | refine wLd 9 ?_))
    all_goals (first | refine wSkip 10 ?_ | refine wSkipU 10 ?_ | refine wBi 10 ?_ | (refine tr_guard (t := 15) rfl (fun hb => ?_) (fun hb => ?_) <;> (try simp only [decide_eq_true_eq, decide_eq_false_iff_not, Bool.not_eq_true, Bool.not_eq_false, beq_iff_eq, bne_iff_ne, ne_eq, Bool.not_eq_eq_eq_not, Bool.not_true, Bool.not_false, beq_eq_false_iff_ne, bne_eq_false_iff_eq] at hb) <;> first | refine wSkip 10 ?_ | refine wSkipU 10 ?_ | refine wBi 10 ?_))
    all_goals (first | refine wSkip 11 ?_ | refine wSkipU 11 ?_ | refine wCm 11 ?_ | (refine tr_guard (t := 15) rfl (fun hb => ?_) (fun hb => ?_) <;> (try simp only [decide_eq_true_eq, decide_eq_false_iff_not, Bool.not_eq_true, Bool.not_eq_false, beq_iff_eq, bne_iff_ne, ne_eq, Bool.not_eq_eq_eq_not, Bool.not_true, Bool.not_false, beq_eq_false_iff_ne, bne_eq_false_iff_eq] at hb) <;> first | refine wSkip 11 ?_ | refine wSkipU 11 ?_ | refine wCm 11 ?_))
    all_goals refine rPk 12 ?_
    all_goals refine rMv 13 ?_
    all_goals (first | refine wSkip 14 ?_ | refine wSkipU 14 ?_ | refine wMv 14 ?_ | (refine tr_guard (t := 23) rfl (fun hb => ?_) (fun hb => ?_) <;> (try simp only [decide_eq_true_eq, decide_eq_false_iff_not, Bool.not_eq_true, Bool.not_eq_false, beq_iff_eq, bne_iff_ne, ne_eq, Bool.not_eq_eq_eq_not, Bool.not_true, Bool.not_false, beq_eq_false_iff_ne, bne_eq_false_iff_eq] at hb) <;> first | refine wSkip 14 ?_ | refine wSkipU 14 ?_ | refine wMv 14 ?_))
    all_goals (first | refine wSkip 16 ?_ | refine wSkipU 16 ?_ | refine wFa 16 ?_ | (refine tr_guard (t := 23) rfl (fun hb => ?_) (fun hb => ?_) <;> (try simp only [decide_eq_true_eq, decide_eq_false_iff_not, Bool.not_eq_true, Bool.not_eq_false, beq_iff_eq, bne_iff_ne, ne_eq, Bool.not_eq_eq_eq_not, Bool.not_true, Bool.not_false, beq_eq_false_iff_ne, bne_eq_false_iff_eq] at hb) <;> first | refine wSkip 16 ?_ | refine wSkipU 16 ?_ | refine wFa 16 ?_))
    all_goals (first | refine wSkip 17 ?_ | refine wSkipU 17 ?_ | refine wLd 17 ?_ | (refine tr_guard (t := 23) rfl (fun hb => ?_) (fun hb => ?_) <;> (try simp only [decide_eq_true_eq, decide_eq_false_iff_not, Bool.not_eq_true, Bool.not_eq_false, beq_iff_eq, bne_iff_ne, ne_eq, Bool.not_eq_eq_eq_not, Bool.not_true, Bool.not_false, beq_eq_false_iff_ne, bne_eq_false_iff_eq] at hb) <;> first | refine wSkip 17 ?_ | refine wSkipU 17 ?_ | refine wLd 17 ?_))
    all_goals (first | refine wSkip 15 ?_ | refine wSkipU 15 ?_ | (refine rStep (i := 15) ?_; ((try refine qWant ?_); (first | (refine tl_is (.func 51) ?_; refine qC rfl rfl (note_spec _ rb db R w (h.mono (Hp.le_trans hl1 hl2))) ?_; rintro v3 ρ3 L3 hle3 ⟨hl3, e, rfl, he, hel, rfl⟩; simp only [List.cons_append, List.nil_append]) | (refine qEf ?_; try intro _)) <;> ((try simp only [List.cons_append, List.nil_append, List.append_eq]); refine tl_nil ?_; refine rNext ?_))))
    all_goals (first | refine wSkip 18 ?_ | refine wSkipU 18 ?_ | (refine rStep (i := 18) ?_; ((try refine qWant ?_); (first | (refine tl_is (.func 50) ?_; refine qC rfl rfl (bytesEq_spec _ _ _ _ _ _ _ e.l note.l he.s (hn.mono (Hp.le_trans hl1 (Hp.le_trans hl2 hl3))).s) ?_; rintro v ρ' L' hle ⟨rfl, rfl, rfl⟩ <;> (try simp only [List.cons_append, List.nil_append, List.append_eq])) | (refine qEf ?_; try intro _)) <;> ((try simp only [List.cons_append, List.nil_append, List.append_eq]); refine tl_nil ?_; refine rNext ?_))))
    all_goals refine rFull ?_
    all_goals (first | refine wSkip 19 ?_ | refine wSkipU 19 ?_ | refine wUn 19 ?_ | (refine tr_guard (t := 23) rfl (fun hb => ?_) (fun hb => ?_) <;> (try simp only [decide_eq_true_eq, decide_eq_false_iff_not, Bool.not_eq_true, Bool.not_eq_false, beq_iff_eq, bne_iff_ne, ne_eq, Bool.not_eq_eq_eq_not, Bool.not_true, Bool.not_false, beq_eq_false_iff_ne, bne_eq_false_iff_eq] at hb) <;> first | refine wSkip 19 ?_ | refine wSkipU 19 ?_ | refine wUn 19 ?_))
    all_goals refine rPk 20 ?_
    all_goals refine rDone ?_
    all_goals (repeat' (first | (refine i_op ?_; first | (refine i_qq ?_; refine qQ ?_) | refine qEf ?_) | refine tl_nil ?_ | (refine i_tc ?_; refine qTc ?_) | (refine i_te ?_; refine qTe ?_) | intro _))
    all_goals rw [hv]
    all_goals exact qE (L' := ringC rb db R w) ⟨rfl, hq, rfl⟩
end Go.Proofs.E

