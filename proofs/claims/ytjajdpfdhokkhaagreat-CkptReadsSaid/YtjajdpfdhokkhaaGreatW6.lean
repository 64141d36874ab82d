/- The law CkptReads. Part 6 of 14. -/
import Derived.Test.YtjajdpfdhokkhaaGreatW5
namespace Go.Proofs.E
open Go
set_option linter.unusedVariables false
set_option linter.unusedSimpArgs false
set_option linter.unusedSectionVars false
set_option maxRecDepth 4000
set_option maxHeartbeats 1000000
attribute [local irreducible] Yl TL TC TE Spec YSpec R1 Hp.le EnvLe TS TR YS Stays
theorem psTo_mem {l : List Kid} {k : Nat} {p : Int} : p ∈ psTo l k ↔ ∃ x ∈ l.take k, x.page = p := by simp only [psTo, List.mem_reverse, List.mem_map]
theorem kidsR_spec (ρ : Hp) (a : Option Addr) (n c : Nat) (l : List Kid) (h : AIn ρ 3 kidV a n l) (hn : n ≤ 1000000) (hnc : n ≤ c) (hid : ∀ r ∈ l, r.id < 65536) :
    Spec Tryz.prog 246 [.slice a n c] ρ [] (fun v ρ' L' => v = .bool (decide (1 < n) && kidsOk l) ∧ ρ' = ρ ∧ L' = []) := by
  have hl := h.len
  unfold kidsOk
  rw [risesB_split, hl]
  refine spec_enter Tryz.func246 rfl rfl rfl fun u R => ?_
  simp only [argsE, List.cons_append, List.nil_append]
  generalize hrt : (fun (i : Nat) (k : Kid) => kidOk i (psTo l i) k) = rt
  repeat' (first | (refine i_op ?_; first | (refine i_qq ?_; refine qQ ?_) | refine qEf ?_) | refine tl_nil ?_ | (refine i_tc ?_; refine qTc ?_) | (refine i_te ?_; refine qTe ?_) | intro _)
  refine tc_loop_g [(0, _), (2, _), (7, _), (8, _)] (fun (ζ : (Nat)) => [(9, .int .i64 ζ)]) (fun (ζ : (Nat)) => ρ) (fun (ζ : (Nat)) => []) (fun (ζ : (Nat)) => ζ ≤ n ∧ risesB n rt ltK l ζ = true) (fun (ζ : (Nat)) => n - ζ) (0) (⟨Nat.zero_le _, by rw [risesB, hl]; exact decide_eq_true (Nat.le_refl _)⟩) ev_le ev_le rfl tk ?_
  rintro k hI
  try simp only [List.cons_append, List.nil_append, List.append_assoc, List.append_eq] at hI ⊢
  try dsimp only at hI ⊢
  obtain ⟨hk, hok⟩ := hI
  by_cases hlt : k < n
  · have hsub := h.take (hi' := k) (by omega)
    obtain ⟨b, off, C, T, fr, rfl, hb, hfit, hc⟩ := h.get (show k < l.length by omega)
    have hs := risesB_succ (most := n) (right := rt) (lt := ltK) (show k < l.length by omega)
    rw [hok, Bool.true_and] at hs
    have hrk : rt k (l[k]'(by omega)) = kidOk k (psTo l k) (l[k]'(by omega)) := by rw [← hrt]
    rw [hrk] at hs
    have hfin := fun (e : risesB n rt ltK l (k + 1) = false) => risesB_false' e (show k + 1 ≤ n by omega)
    have hmem : l[k]'(by omega) ∈ l := List.getElem_mem _
    have hidk := hid _ hmem
    have hx : ∀ P : Prop, (kidOk k (psTo l k) (l[k]'(by omega)) = true → P) → ¬ P → (decide (1 < n) && (decide (n ≤ 4) && risesB n rt ltK l n)) = false := fun P h1 h2 => by
      have : kidOk k (psTo l k) (l[k]'(by omega)) = false := by
        cases e : kidOk k (psTo l k) (l[k]'(by omega))
        · rfl
        · exact absurd (h1 e) h2
      rw [this, Bool.false_and] at hs
      rw [hfin hs]; simp
    have hkx : kidOk k (psTo l k) (l[k]'(by omega)) = true → (l[k]'(by omega)).page ∉ psTo l k ∧ 0 < (l[k]'(by omega)).page ∧ (l[k]'(by omega)).page < 64 ∧ (0 ≤ (l[k]'(by omega)).t ∧ (l[k]'(by omega)).t < 3) ∧ (0 < k ∨ ((l[k]'(by omega)).t = 0 ∧ (l[k]'(by omega)).id = 0)) := fun e => of_decide_eq_true e
    generalize hX : l[k]'(by omega) = x at *
    by_cases p0 : 0 < x.page
    · by_cases p6 : x.page < 64
      · by_cases ht : 0 ≤ x.t ∧ x.t < 3
        · have hd : decide (0 ≤ x.t ∧ x.t < 3) = true := decide_eq_true ht
          by_cases hk0 : k = 0
          · by_cases hz : x.t = 0 ∧ x.id = 0
            · have hkk : ((x.t == 0) && (((x.id : Int) == 0) && true)) = true := by simp [hz.1, hz.2]
              repeat' (first | (refine i_op ?_; first | (refine i_qq ?_; refine qQ ?_) | refine qEf ?_) | refine tl_nil ?_ | (refine i_tc ?_; refine qTc ?_) | (refine i_te ?_; refine qTe ?_) | intro _)
              rename_i b4
              refine tc_any (Stays _ _ _) stays_refl ?_
              all_goals refine rFa 0 ?_
              all_goals refine rLd 1 ?_
              all_goals refine rCm 2 ?_
              all_goals refine rMv 3 ?_
              all_goals (first | refine wSkip 4 ?_ | refine wSkipU 4 ?_ | refine wFa 4 ?_ | (refine tr_guard (t := 17) rfl (fun hb => ?_) (fun hb => ?_) <;> (try simp only [kk] at hb) <;> first | refine wSkip 4 ?_ | refine wSkipU 4 ?_ | refine wFa 4 ?_))
              all_goals (first | refine wSkip 5 ?_ | refine wSkipU 5 ?_ | refine wLd 5 ?_ | (refine tr_guard (t := 17) rfl (fun hb => ?_) (fun hb => ?_) <;> (try simp only [kk] at hb) <;> first | refine wSkip 5 ?_ | refine wSkipU 5 ?_ | refine wLd 5 ?_))
              all_goals (first | refine wSkip 6 ?_ | refine wSkipU 6 ?_ | refine wCm 6 ?_ | (refine tr_guard (t := 17) rfl (fun hb => ?_) (fun hb => ?_) <;> (try simp only [kk] at hb) <;> first | refine wSkip 6 ?_ | refine wSkipU 6 ?_ | refine wCm 6 ?_))
              all_goals refine rPk 7 ?_
              all_goals refine rMv 8 ?_
              all_goals (first | refine wSkip 9 ?_ | refine wSkipU 9 ?_ | refine wFa 9 ?_ | (refine tr_guard (t := 22) rfl (fun hb => ?_) (fun hb => ?_) <;> (try simp only [kk] at hb) <;> first | refine wSkip 9 ?_ | refine wSkipU 9 ?_ | refine wFa 9 ?_))
              all_goals (first | refine wSkip 10 ?_ | refine wSkipU 10 ?_ | refine wFa 10 ?_ | (refine tr_guard (t := 22) rfl (fun hb => ?_) (fun hb => ?_) <;> (try simp only [kk] at hb) <;> first | refine wSkip 10 ?_ | refine wSkipU 10 ?_ | refine wFa 10 ?_))
              all_goals (first | refine wSkip 11 ?_ | refine wSkipU 11 ?_ | refine wLd 11 ?_ | (refine tr_guard (t := 22) rfl (fun hb => ?_) (fun hb => ?_) <;> (try simp only [kk] at hb) <;> first | refine wSkip 11 ?_ | refine wSkipU 11 ?_ | refine wLd 11 ?_))
              all_goals (first | refine wSkip 12 ?_ | refine wSkipU 12 ?_ | (refine rStep (i := 12) ?_; ((try refine qWant ?_); (first | (refine tl_is (.func 243) ?_; refine qC rfl rfl (tableR_spec _ _) ?_; rintro v ρ' L' hle ⟨rfl, rfl, rfl⟩ <;> (try simp only [kM, kN, kO, hd])) | (refine qEf ?_; try intro _)) <;> ((try simp only [kM, kN, kO]); refine tl_nil ?_; refine rNext ?_))))
              all_goals (first | refine wSkip 13 ?_ | refine wSkipU 13 ?_ | refine wUn 13 ?_ | (refine tr_guard (t := 22) rfl (fun hb => ?_) (fun hb => ?_) <;> (try simp only [kk] at hb) <;> first | refine wSkip 13 ?_ | refine wSkipU 13 ?_ | refine wUn 13 ?_))
              all_goals refine rPk 14 ?_
              all_goals refine rMv 15 ?_
              all_goals (first | refine wSkip 16 ?_ | refine wSkipU 16 ?_ | refine wMv 16 ?_ | (refine tr_guard (t := 29) rfl (fun hb => ?_) (fun hb => ?_) <;> (try simp only [kk] at hb) <;> first | refine wSkip 16 ?_ | refine wSkipU 16 ?_ | refine wMv 16 ?_))
              all_goals (first | refine wSkip 17 ?_ | refine wSkipU 17 ?_ | refine wCm 17 ?_ | (refine tr_guard (t := 29) rfl (fun hb => ?_) (fun hb => ?_) <;> (try simp only [kk] at hb) <;> first | refine wSkip 17 ?_ | refine wSkipU 17 ?_ | refine wCm 17 ?_))
              all_goals (first | refine wSkip 18 ?_ | refine wSkipU 18 ?_ | refine wMv 18 ?_ | (refine tr_guard (t := 29) rfl (fun hb => ?_) (fun hb => ?_) <;> (try simp only [kk] at hb) <;> first | refine wSkip 18 ?_ | refine wSkipU 18 ?_ | refine wMv 18 ?_))
              all_goals (first | refine wSkip 19 ?_ | refine wSkipU 19 ?_ | refine wFa 19 ?_ | (refine tr_guard (t := 32) rfl (fun hb => ?_) (fun hb => ?_) <;> (try simp only [kk] at hb) <;> first | refine wSkip 19 ?_ | refine wSkipU 19 ?_ | refine wFa 19 ?_))
              all_goals (first | refine wSkip 20 ?_ | refine wSkipU 20 ?_ | refine wLd 20 ?_ | (refine tr_guard (t := 32) rfl (fun hb => ?_) (fun hb => ?_) <;> (try simp only [kk] at hb) <;> first | refine wSkip 20 ?_ | refine wSkipU 20 ?_ | refine wLd 20 ?_))
              all_goals (first | refine wSkip 21 ?_ | refine wSkipU 21 ?_ | refine wBu 21 ?_ | (refine tr_guard (t := 32) rfl (fun hb => ?_) (fun hb => ?_) <;> (try simp only [kk] at hb) <;> first | refine wSkip 21 ?_ | refine wSkipU 21 ?_ | refine wBu 21 ?_))
              all_goals (first | refine wSkip 22 ?_ | refine wSkipU 22 ?_ | refine wCm 22 ?_ | (refine tr_guard (t := 32) rfl (fun hb => ?_) (fun hb => ?_) <;> (try simp only [kk] at hb) <;> first | refine wSkip 22 ?_ | refine wSkipU 22 ?_ | refine wCm 22 ?_))
              all_goals (first | refine wSkip 23 ?_ | refine wSkipU 23 ?_ | refine wPk 23 ?_ | (refine tr_guard (t := 29) rfl (fun hb => ?_) (fun hb => ?_) <;> (try simp only [kk] at hb) <;> first | refine wSkip 23 ?_ | refine wSkipU 23 ?_ | refine wPk 23 ?_))
              all_goals refine rPk 24 ?_
              all_goals refine rMv 25 ?_
              all_goals (first | refine wSkip 26 ?_ | refine wSkipU 26 ?_ | refine wMv 26 ?_ | (refine tr_guard (t := 39) rfl (fun hb => ?_) (fun hb => ?_) <;> (try simp only [kk] at hb) <;> first | refine wSkip 26 ?_ | refine wSkipU 26 ?_ | refine wMv 26 ?_))
              all_goals (first | refine wSkip 27 ?_ | refine wSkipU 27 ?_ | refine wCm 27 ?_ | (refine tr_guard (t := 39) rfl (fun hb => ?_) (fun hb => ?_) <;> (try simp only [kk] at hb) <;> first | refine wSkip 27 ?_ | refine wSkipU 27 ?_ | refine wCm 27 ?_))
              all_goals (first | refine wSkip 28 ?_ | refine wSkipU 28 ?_ | refine wMv 28 ?_ | (refine tr_guard (t := 39) rfl (fun hb => ?_) (fun hb => ?_) <;> (try simp only [kk] at hb) <;> first | refine wSkip 28 ?_ | refine wSkipU 28 ?_ | refine wMv 28 ?_))
              all_goals (first | refine wSkip 29 ?_ | refine wSkipU 29 ?_ | refine wMv 29 ?_ | (refine tr_guard (t := 42) rfl (fun hb => ?_) (fun hb => ?_) <;> (try simp only [kk] at hb) <;> first | refine wSkip 29 ?_ | refine wSkipU 29 ?_ | refine wMv 29 ?_))
              all_goals (first | refine wSkip 30 ?_ | refine wSkipU 30 ?_ | refine wMv 30 ?_ | (refine tr_guard (t := 42) rfl (fun hb => ?_) (fun hb => ?_) <;> (try simp only [kk] at hb) <;> first | refine wSkip 30 ?_ | refine wSkipU 30 ?_ | refine wMv 30 ?_))
              all_goals (first | refine wSkip 31 ?_ | refine wSkipU 31 ?_ | refine wSb 31 ?_ | (refine tr_guard (t := 42) rfl (fun hb => ?_) (fun hb => ?_) <;> (try simp only [kk] at hb) <;> first | refine wSkip 31 ?_ | refine wSkipU 31 ?_ | refine wSb 31 ?_))
              all_goals (first | refine wSkip 32 ?_ | refine wSkipU 32 ?_ | refine wIa 32 ?_ | (refine tr_guard (t := 42) rfl (fun hb => ?_) (fun hb => ?_) <;> (try simp only [kk] at hb) <;> first | refine wSkip 32 ?_ | refine wSkipU 32 ?_ | refine wIa 32 ?_))
              all_goals (first | refine wSkip 33 ?_ | refine wSkipU 33 ?_ | refine wFa 33 ?_ | (refine tr_guard (t := 42) rfl (fun hb => ?_) (fun hb => ?_) <;> (try simp only [kk] at hb) <;> first | refine wSkip 33 ?_ | refine wSkipU 33 ?_ | refine wFa 33 ?_))
              all_goals (first | refine wSkip 34 ?_ | refine wSkipU 34 ?_ | refine wLd 34 ?_ | (refine tr_guard (t := 42) rfl (fun hb => ?_) (fun hb => ?_) <;> (try simp only [kk] at hb) <;> first | refine wSkip 34 ?_ | refine wSkipU 34 ?_ | refine wLd 34 ?_))
              all_goals (first | refine wSkip 36 ?_ | refine wSkipU 36 ?_ | refine wFa 36 ?_ | (refine tr_guard (t := 42) rfl (fun hb => ?_) (fun hb => ?_) <;> (try simp only [kk] at hb) <;> first | refine wSkip 36 ?_ | refine wSkipU 36 ?_ | refine wFa 36 ?_))
              all_goals (first | refine wSkip 37 ?_ | refine wSkipU 37 ?_ | refine wLd 37 ?_ | (refine tr_guard (t := 42) rfl (fun hb => ?_) (fun hb => ?_) <;> (try simp only [kk] at hb) <;> first | refine wSkip 37 ?_ | refine wSkipU 37 ?_ | refine wLd 37 ?_))
              all_goals (first | refine wSkip 35 ?_ | refine wSkipU 35 ?_ | (refine rStep (i := 35) ?_; ((try refine qWant ?_); (first | (refine qEf ?_; try intro _)) <;> ((try simp only [kM, kN, kO]); refine tl_nil ?_; refine rNext ?_))))
              all_goals (first | refine wSkip 38 ?_ | refine wSkipU 38 ?_ | (refine rStep (i := 38) ?_; ((try refine qWant ?_); (first | (refine qEf ?_; try intro _)) <;> ((try simp only [kM, kN, kO]); refine tl_nil ?_; refine rNext ?_))))
              all_goals refine rFull ?_
              all_goals (first | refine wSkip 39 ?_ | refine wSkipU 39 ?_ | refine wCm 39 ?_ | (refine tr_guard (t := 42) rfl (fun hb => ?_) (fun hb => ?_) <;> (try simp only [kk] at hb) <;> first | refine wSkip 39 ?_ | refine wSkipU 39 ?_ | refine wCm 39 ?_))
              all_goals (first | refine wSkip 40 ?_ | refine wSkipU 40 ?_ | refine wPk 40 ?_ | (refine tr_guard (t := 39) rfl (fun hb => ?_) (fun hb => ?_) <;> (try simp only [kk] at hb) <;> first | refine wSkip 40 ?_ | refine wSkipU 40 ?_ | refine wPk 40 ?_))
              all_goals refine rPk 41 ?_
              all_goals refine rDone ?_
              repeat' (first | (refine i_op ?_; first | (refine i_qq ?_; refine qQ ?_) | refine qEf ?_) | refine tl_nil ?_ | (refine i_tc ?_; refine qTc ?_) | (refine i_te ?_; refine qTe ?_) | intro _)
              simp only [Int.toNat_natCast]
              refine tc_loop_g [(0, _), (2, _), (4, _), (7, _), (8, _), (9, _), (58, _), (59, _)] (fun (ζ : (Nat)) => [(60, .int .i64 ζ)]) (fun (ζ : (Nat)) => ρ') (fun (ζ : (Nat)) => [[(b4, .cells ⟨kidV x⟩ 224 (0, 0))]]) (fun (ζ : (Nat)) => ζ ≤ k ∧ ∀ y ∈ l.take ζ, y.page ≠ x.page) (fun (ζ : (Nat)) => k - ζ) (0) (⟨Nat.zero_le _, by simp⟩) ev_le ev_le rfl tk ?_
              rintro j hI
              try simp only [List.cons_append, List.nil_append, List.append_assoc, List.append_eq] at hI ⊢
              try dsimp only at hI ⊢
              obtain ⟨hj, hjo⟩ := hI
              by_cases hjk : j < k
              · exact absurd hjk (by omega)
              · have hj2 : j = k := by omega
                subst hj2
                have hke : kidOk j (psTo l j) x = true := decide_eq_true ⟨fun e => by obtain ⟨y, hy, he⟩ := psTo_mem.1 e; exact hjo y hy he, p0, p6, ht, .inr hz⟩
                rw [hke, Bool.true_and] at hs
                have hs' : risesB n rt ltK l (j + 1) = true := by rw [hs]; simp [hk0]
                repeat' (first | (refine i_op ?_; first | (refine i_qq ?_; refine qQ ?_) | refine qEf ?_) | refine tl_nil ?_ | (refine i_tc ?_; refine qTc ?_) | (refine i_te ?_; refine qTe ?_) | intro _)
                refine te_round_g (j + 1) (⟨hlt, hs'⟩) ev_le ev_le rfl tk inferInstance (by first | omega | (dsimp only; omega))
            · have hkk : ((x.t == 0) && (((x.id : Int) == 0) && true)) = false := by
                simp; intro h; exact fun h' => hz ⟨h, by omega⟩
              rw [hx (0 < k ∨ (x.t = 0 ∧ x.id = 0)) (fun e => (hkx e).2.2.2.2) (fun e => e.elim (by omega) hz)]
              repeat' (first | (refine i_op ?_; first | (refine i_qq ?_; refine qQ ?_) | refine qEf ?_) | refine tl_nil ?_ | (refine i_tc ?_; refine qTc ?_) | (refine i_te ?_; refine qTe ?_) | intro _)
              refine tc_any (Stays _ _ _) stays_refl ?_
              all_goals refine rFa 0 ?_
              all_goals refine rLd 1 ?_
              all_goals refine rCm 2 ?_
              all_goals refine rMv 3 ?_
              all_goals (first | refine wSkip 4 ?_ | refine wSkipU 4 ?_ | refine wFa 4 ?_ | (refine tr_guard (t := 17) rfl (fun hb => ?_) (fun hb => ?_) <;> (try simp only [kk] at hb) <;> first | refine wSkip 4 ?_ | refine wSkipU 4 ?_ | refine wFa 4 ?_))
              all_goals (first | refine wSkip 5 ?_ | refine wSkipU 5 ?_ | refine wLd 5 ?_ | (refine tr_guard (t := 17) rfl (fun hb => ?_) (fun hb => ?_) <;> (try simp only [kk] at hb) <;> first | refine wSkip 5 ?_ | refine wSkipU 5 ?_ | refine wLd 5 ?_))
              all_goals (first | refine wSkip 6 ?_ | refine wSkipU 6 ?_ | refine wCm 6 ?_ | (refine tr_guard (t := 17) rfl (fun hb => ?_) (fun hb => ?_) <;> (try simp only [kk] at hb) <;> first | refine wSkip 6 ?_ | refine wSkipU 6 ?_ | refine wCm 6 ?_))
              all_goals refine rPk 7 ?_
              all_goals refine rMv 8 ?_
              all_goals (first | refine wSkip 9 ?_ | refine wSkipU 9 ?_ | refine wFa 9 ?_ | (refine tr_guard (t := 22) rfl (fun hb => ?_) (fun hb => ?_) <;> (try simp only [kk] at hb) <;> first | refine wSkip 9 ?_ | refine wSkipU 9 ?_ | refine wFa 9 ?_))
              all_goals (first | refine wSkip 10 ?_ | refine wSkipU 10 ?_ | refine wFa 10 ?_ | (refine tr_guard (t := 22) rfl (fun hb => ?_) (fun hb => ?_) <;> (try simp only [kk] at hb) <;> first | refine wSkip 10 ?_ | refine wSkipU 10 ?_ | refine wFa 10 ?_))
              all_goals (first | refine wSkip 11 ?_ | refine wSkipU 11 ?_ | refine wLd 11 ?_ | (refine tr_guard (t := 22) rfl (fun hb => ?_) (fun hb => ?_) <;> (try simp only [kk] at hb) <;> first | refine wSkip 11 ?_ | refine wSkipU 11 ?_ | refine wLd 11 ?_))
              all_goals (first | refine wSkip 12 ?_ | refine wSkipU 12 ?_ | (refine rStep (i := 12) ?_; ((try refine qWant ?_); (first | (refine tl_is (.func 243) ?_; refine qC rfl rfl (tableR_spec _ _) ?_; rintro v ρ' L' hle ⟨rfl, rfl, rfl⟩ <;> (try simp only [kM, kN, kO, hd])) | (refine qEf ?_; try intro _)) <;> ((try simp only [kM, kN, kO]); refine tl_nil ?_; refine rNext ?_))))
              all_goals (first | refine wSkip 13 ?_ | refine wSkipU 13 ?_ | refine wUn 13 ?_ | (refine tr_guard (t := 22) rfl (fun hb => ?_) (fun hb => ?_) <;> (try simp only [kk] at hb) <;> first | refine wSkip 13 ?_ | refine wSkipU 13 ?_ | refine wUn 13 ?_))
              all_goals refine rPk 14 ?_
              all_goals refine rMv 15 ?_
              all_goals (first | refine wSkip 16 ?_ | refine wSkipU 16 ?_ | refine wMv 16 ?_ | (refine tr_guard (t := 29) rfl (fun hb => ?_) (fun hb => ?_) <;> (try simp only [kk] at hb) <;> first | refine wSkip 16 ?_ | refine wSkipU 16 ?_ | refine wMv 16 ?_))
              all_goals (first | refine wSkip 17 ?_ | refine wSkipU 17 ?_ | refine wCm 17 ?_ | (refine tr_guard (t := 29) rfl (fun hb => ?_) (fun hb => ?_) <;> (try simp only [kk] at hb) <;> first | refine wSkip 17 ?_ | refine wSkipU 17 ?_ | refine wCm 17 ?_))
              all_goals (first | refine wSkip 18 ?_ | refine wSkipU 18 ?_ | refine wMv 18 ?_ | (refine tr_guard (t := 29) rfl (fun hb => ?_) (fun hb => ?_) <;> (try simp only [kk] at hb) <;> first | refine wSkip 18 ?_ | refine wSkipU 18 ?_ | refine wMv 18 ?_))
              all_goals (first | refine wSkip 19 ?_ | refine wSkipU 19 ?_ | refine wFa 19 ?_ | (refine tr_guard (t := 32) rfl (fun hb => ?_) (fun hb => ?_) <;> (try simp only [kk] at hb) <;> first | refine wSkip 19 ?_ | refine wSkipU 19 ?_ | refine wFa 19 ?_))
              all_goals (first | refine wSkip 20 ?_ | refine wSkipU 20 ?_ | refine wLd 20 ?_ | (refine tr_guard (t := 32) rfl (fun hb => ?_) (fun hb => ?_) <;> (try simp only [kk] at hb) <;> first | refine wSkip 20 ?_ | refine wSkipU 20 ?_ | refine wLd 20 ?_))
              all_goals (first | refine wSkip 21 ?_ | refine wSkipU 21 ?_ | refine wBu 21 ?_ | (refine tr_guard (t := 32) rfl (fun hb => ?_) (fun hb => ?_) <;> (try simp only [kk] at hb) <;> first | refine wSkip 21 ?_ | refine wSkipU 21 ?_ | refine wBu 21 ?_))
              all_goals (first | refine wSkip 22 ?_ | refine wSkipU 22 ?_ | refine wCm 22 ?_ | (refine tr_guard (t := 32) rfl (fun hb => ?_) (fun hb => ?_) <;> (try simp only [kk] at hb) <;> first | refine wSkip 22 ?_ | refine wSkipU 22 ?_ | refine wCm 22 ?_))
              all_goals (first | refine wSkip 23 ?_ | refine wSkipU 23 ?_ | refine wPk 23 ?_ | (refine tr_guard (t := 29) rfl (fun hb => ?_) (fun hb => ?_) <;> (try simp only [kk] at hb) <;> first | refine wSkip 23 ?_ | refine wSkipU 23 ?_ | refine wPk 23 ?_))
              all_goals refine rPk 24 ?_
              all_goals refine rMv 25 ?_
              all_goals (first | refine wSkip 26 ?_ | refine wSkipU 26 ?_ | refine wMv 26 ?_ | (refine tr_guard (t := 39) rfl (fun hb => ?_) (fun hb => ?_) <;> (try simp only [kk] at hb) <;> first | refine wSkip 26 ?_ | refine wSkipU 26 ?_ | refine wMv 26 ?_))
              all_goals (first | refine wSkip 27 ?_ | refine wSkipU 27 ?_ | refine wCm 27 ?_ | (refine tr_guard (t := 39) rfl (fun hb => ?_) (fun hb => ?_) <;> (try simp only [kk] at hb) <;> first | refine wSkip 27 ?_ | refine wSkipU 27 ?_ | refine wCm 27 ?_))
              all_goals (first | refine wSkip 28 ?_ | refine wSkipU 28 ?_ | refine wMv 28 ?_ | (refine tr_guard (t := 39) rfl (fun hb => ?_) (fun hb => ?_) <;> (try simp only [kk] at hb) <;> first | refine wSkip 28 ?_ | refine wSkipU 28 ?_ | refine wMv 28 ?_))
              all_goals (first | refine wSkip 29 ?_ | refine wSkipU 29 ?_ | refine wMv 29 ?_ | (refine tr_guard (t := 42) rfl (fun hb => ?_) (fun hb => ?_) <;> (try simp only [kk] at hb) <;> first | refine wSkip 29 ?_ | refine wSkipU 29 ?_ | refine wMv 29 ?_))
              all_goals (first | refine wSkip 30 ?_ | refine wSkipU 30 ?_ | refine wMv 30 ?_ | (refine tr_guard (t := 42) rfl (fun hb => ?_) (fun hb => ?_) <;> (try simp only [kk] at hb) <;> first | refine wSkip 30 ?_ | refine wSkipU 30 ?_ | refine wMv 30 ?_))
              all_goals (first | refine wSkip 31 ?_ | refine wSkipU 31 ?_ | refine wSb 31 ?_ | (refine tr_guard (t := 42) rfl (fun hb => ?_) (fun hb => ?_) <;> (try simp only [kk] at hb) <;> first | refine wSkip 31 ?_ | refine wSkipU 31 ?_ | refine wSb 31 ?_))
              all_goals (first | refine wSkip 32 ?_ | refine wSkipU 32 ?_ | refine wIa 32 ?_ | (refine tr_guard (t := 42) rfl (fun hb => ?_) (fun hb => ?_) <;> (try simp only [kk] at hb) <;> first | refine wSkip 32 ?_ | refine wSkipU 32 ?_ | refine wIa 32 ?_))
              all_goals (first | refine wSkip 33 ?_ | refine wSkipU 33 ?_ | refine wFa 33 ?_ | (refine tr_guard (t := 42) rfl (fun hb => ?_) (fun hb => ?_) <;> (try simp only [kk] at hb) <;> first | refine wSkip 33 ?_ | refine wSkipU 33 ?_ | refine wFa 33 ?_))
              all_goals (first | refine wSkip 34 ?_ | refine wSkipU 34 ?_ | refine wLd 34 ?_ | (refine tr_guard (t := 42) rfl (fun hb => ?_) (fun hb => ?_) <;> (try simp only [kk] at hb) <;> first | refine wSkip 34 ?_ | refine wSkipU 34 ?_ | refine wLd 34 ?_))
              all_goals (first | refine wSkip 36 ?_ | refine wSkipU 36 ?_ | refine wFa 36 ?_ | (refine tr_guard (t := 42) rfl (fun hb => ?_) (fun hb => ?_) <;> (try simp only [kk] at hb) <;> first | refine wSkip 36 ?_ | refine wSkipU 36 ?_ | refine wFa 36 ?_))
              all_goals (first | refine wSkip 37 ?_ | refine wSkipU 37 ?_ | refine wLd 37 ?_ | (refine tr_guard (t := 42) rfl (fun hb => ?_) (fun hb => ?_) <;> (try simp only [kk] at hb) <;> first | refine wSkip 37 ?_ | refine wSkipU 37 ?_ | refine wLd 37 ?_))
              all_goals (first | refine wSkip 35 ?_ | refine wSkipU 35 ?_ | (refine rStep (i := 35) ?_; ((try refine qWant ?_); (first | (refine qEf ?_; try intro _)) <;> ((try simp only [kM, kN, kO]); refine tl_nil ?_; refine rNext ?_))))
              all_goals (first | refine wSkip 38 ?_ | refine wSkipU 38 ?_ | (refine rStep (i := 38) ?_; ((try refine qWant ?_); (first | (refine qEf ?_; try intro _)) <;> ((try simp only [kM, kN, kO]); refine tl_nil ?_; refine rNext ?_))))
              all_goals refine rFull ?_
              all_goals (first | refine wSkip 39 ?_ | refine wSkipU 39 ?_ | refine wCm 39 ?_ | (refine tr_guard (t := 42) rfl (fun hb => ?_) (fun hb => ?_) <;> (try simp only [kk] at hb) <;> first | refine wSkip 39 ?_ | refine wSkipU 39 ?_ | refine wCm 39 ?_))
              all_goals (first | refine wSkip 40 ?_ | refine wSkipU 40 ?_ | refine wPk 40 ?_ | (refine tr_guard (t := 39) rfl (fun hb => ?_) (fun hb => ?_) <;> (try simp only [kk] at hb) <;> first | refine wSkip 40 ?_ | refine wSkipU 40 ?_ | refine wPk 40 ?_))
              all_goals refine rPk 41 ?_
              all_goals refine rDone ?_
              repeat' (first | (refine i_op ?_; first | (refine i_qq ?_; refine qQ ?_) | refine qEf ?_) | refine tl_nil ?_ | (refine i_tc ?_; refine qTc ?_) | (refine i_te ?_; refine qTe ?_) | intro _)
              exact qE ⟨rfl, rfl, rfl⟩
          · have hdk : decide (k = 0) = false := decide_eq_false hk0
            rw [hdk, Bool.false_or] at hs
            obtain ⟨b2, off2, C2, T2, fr2, f1, hb2, hfit2, hc2⟩ := h.get (show k - 1 < l.length by omega)
            cases f1
            rw [hb] at hb2
            cases hb2
            have ek : ((k : Int) - 1).toNat = k - 1 := by omega
            have hkey : List.take 2 (List.drop (off + ((k : Int) - 1).toNat * 3) C) = keyV (l[k - 1]'(by omega)).t (l[k - 1]'(by omega)).id := by
              rw [ek]
              have := congrArg (List.take 2) hc2
              rw [List.take_take] at this
              exact this
            have hfit3 : off + ((k : Int) - 1).toNat * 3 + 2 ≤ C.length := by rw [ek]; omega
            obtain ⟨g1, g2⟩ := risesB_true hok (by omega)
            have hrp := (g2 (k - 1) (by omega) (by omega)).1
            have hrk1 : rt (k - 1) (l[k - 1]'(by omega)) = kidOk (k - 1) (psTo l (k - 1)) (l[k - 1]'(by omega)) := by rw [← hrt]
            rw [hrk1] at hrp
            have hrt2 := (of_decide_eq_true hrp).2.2.2.1
            have hidp := hid _ (List.getElem_mem (show k - 1 < l.length by omega))
            clear hc2 hfit2 hrk hrk1 hrp
            generalize l[k - 1]'(by omega) = y at *
            have hor := order_lt (t1 := y.t) (t2 := x.t) hidp hidk
            unfold ltK at hs
            by_cases hcm : cmpK y.t y.id x.t x.id < 0
            · rw [decide_eq_true hcm] at hs
              have hcm2 := hor.1 hcm
              repeat' (first | (refine i_op ?_; first | (refine i_qq ?_; refine qQ ?_) | refine qEf ?_) | refine tl_nil ?_ | (refine i_tc ?_; refine qTc ?_) | (refine i_te ?_; refine qTe ?_) | intro _)
              rename_i b4
              refine tc_any (Stays _ _ _) stays_refl ?_
              all_goals refine rFa 0 ?_
              all_goals refine rLd 1 ?_
              all_goals refine rCm 2 ?_
              all_goals refine rMv 3 ?_
              all_goals (first | refine wSkip 4 ?_ | refine wSkipU 4 ?_ | refine wFa 4 ?_ | (refine tr_guard (t := 17) rfl (fun hb => ?_) (fun hb => ?_) <;> (try simp only [kk] at hb) <;> first | refine wSkip 4 ?_ | refine wSkipU 4 ?_ | refine wFa 4 ?_))
              all_goals (first | refine wSkip 5 ?_ | refine wSkipU 5 ?_ | refine wLd 5 ?_ | (refine tr_guard (t := 17) rfl (fun hb => ?_) (fun hb => ?_) <;> (try simp only [kk] at hb) <;> first | refine wSkip 5 ?_ | refine wSkipU 5 ?_ | refine wLd 5 ?_))
              all_goals (first | refine wSkip 6 ?_ | refine wSkipU 6 ?_ | refine wCm 6 ?_ | (refine tr_guard (t := 17) rfl (fun hb => ?_) (fun hb => ?_) <;> (try simp only [kk] at hb) <;> first | refine wSkip 6 ?_ | refine wSkipU 6 ?_ | refine wCm 6 ?_))
              all_goals refine rPk 7 ?_
              all_goals refine rMv 8 ?_
              all_goals (first | refine wSkip 9 ?_ | refine wSkipU 9 ?_ | refine wFa 9 ?_ | (refine tr_guard (t := 22) rfl (fun hb => ?_) (fun hb => ?_) <;> (try simp only [kk] at hb) <;> first | refine wSkip 9 ?_ | refine wSkipU 9 ?_ | refine wFa 9 ?_))
              all_goals (first | refine wSkip 10 ?_ | refine wSkipU 10 ?_ | refine wFa 10 ?_ | (refine tr_guard (t := 22) rfl (fun hb => ?_) (fun hb => ?_) <;> (try simp only [kk] at hb) <;> first | refine wSkip 10 ?_ | refine wSkipU 10 ?_ | refine wFa 10 ?_))
              all_goals (first | refine wSkip 11 ?_ | refine wSkipU 11 ?_ | refine wLd 11 ?_ | (refine tr_guard (t := 22) rfl (fun hb => ?_) (fun hb => ?_) <;> (try simp only [kk] at hb) <;> first | refine wSkip 11 ?_ | refine wSkipU 11 ?_ | refine wLd 11 ?_))
              all_goals (first | refine wSkip 12 ?_ | refine wSkipU 12 ?_ | (refine rStep (i := 12) ?_; ((try refine qWant ?_); (first | (refine tl_is (.func 243) ?_; refine qC rfl rfl (tableR_spec _ _) ?_; rintro v ρ' L' hle ⟨rfl, rfl, rfl⟩ <;> (try simp only [kM, kN, kO, hd])) | (refine qEf ?_; try intro _)) <;> ((try simp only [kM, kN, kO]); refine tl_nil ?_; refine rNext ?_))))
              all_goals (first | refine wSkip 13 ?_ | refine wSkipU 13 ?_ | refine wUn 13 ?_ | (refine tr_guard (t := 22) rfl (fun hb => ?_) (fun hb => ?_) <;> (try simp only [kk] at hb) <;> first | refine wSkip 13 ?_ | refine wSkipU 13 ?_ | refine wUn 13 ?_))
              all_goals refine rPk 14 ?_
              all_goals refine rMv 15 ?_
              all_goals (first | refine wSkip 16 ?_ | refine wSkipU 16 ?_ | refine wMv 16 ?_ | (refine tr_guard (t := 29) rfl (fun hb => ?_) (fun hb => ?_) <;> (try simp only [kk] at hb) <;> first | refine wSkip 16 ?_ | refine wSkipU 16 ?_ | refine wMv 16 ?_))
              all_goals (first | refine wSkip 17 ?_ | refine wSkipU 17 ?_ | refine wCm 17 ?_ | (refine tr_guard (t := 29) rfl (fun hb => ?_) (fun hb => ?_) <;> (try simp only [kk] at hb) <;> first | refine wSkip 17 ?_ | refine wSkipU 17 ?_ | refine wCm 17 ?_))
              all_goals (first | refine wSkip 18 ?_ | refine wSkipU 18 ?_ | refine wMv 18 ?_ | (refine tr_guard (t := 29) rfl (fun hb => ?_) (fun hb => ?_) <;> (try simp only [kk] at hb) <;> first | refine wSkip 18 ?_ | refine wSkipU 18 ?_ | refine wMv 18 ?_))
              all_goals (first | refine wSkip 19 ?_ | refine wSkipU 19 ?_ | refine wFa 19 ?_ | (refine tr_guard (t := 32) rfl (fun hb => ?_) (fun hb => ?_) <;> (try simp only [kk] at hb) <;> first | refine wSkip 19 ?_ | refine wSkipU 19 ?_ | refine wFa 19 ?_))
              all_goals (first | refine wSkip 20 ?_ | refine wSkipU 20 ?_ | refine wLd 20 ?_ | (refine tr_guard (t := 32) rfl (fun hb => ?_) (fun hb => ?_) <;> (try simp only [kk] at hb) <;> first | refine wSkip 20 ?_ | refine wSkipU 20 ?_ | refine wLd 20 ?_))
              all_goals (first | refine wSkip 21 ?_ | refine wSkipU 21 ?_ | refine wBu 21 ?_ | (refine tr_guard (t := 32) rfl (fun hb => ?_) (fun hb => ?_) <;> (try simp only [kk] at hb) <;> first | refine wSkip 21 ?_ | refine wSkipU 21 ?_ | refine wBu 21 ?_))
              all_goals (first | refine wSkip 22 ?_ | refine wSkipU 22 ?_ | refine wCm 22 ?_ | (refine tr_guard (t := 32) rfl (fun hb => ?_) (fun hb => ?_) <;> (try simp only [kk] at hb) <;> first | refine wSkip 22 ?_ | refine wSkipU 22 ?_ | refine wCm 22 ?_))
              all_goals (first | refine wSkip 23 ?_ | refine wSkipU 23 ?_ | refine wPk 23 ?_ | (refine tr_guard (t := 29) rfl (fun hb => ?_) (fun hb => ?_) <;> (try simp only [kk] at hb) <;> first | refine wSkip 23 ?_ | refine wSkipU 23 ?_ | refine wPk 23 ?_))
              all_goals refine rPk 24 ?_
              all_goals refine rMv 25 ?_
              all_goals (first | refine wSkip 26 ?_ | refine wSkipU 26 ?_ | refine wMv 26 ?_ | (refine tr_guard (t := 39) rfl (fun hb => ?_) (fun hb => ?_) <;> (try simp only [kk] at hb) <;> first | refine wSkip 26 ?_ | refine wSkipU 26 ?_ | refine wMv 26 ?_))
              all_goals (first | refine wSkip 27 ?_ | refine wSkipU 27 ?_ | refine wCm 27 ?_ | (refine tr_guard (t := 39) rfl (fun hb => ?_) (fun hb => ?_) <;> (try simp only [kk] at hb) <;> first | refine wSkip 27 ?_ | refine wSkipU 27 ?_ | refine wCm 27 ?_))
              all_goals (first | refine wSkip 28 ?_ | refine wSkipU 28 ?_ | refine wMv 28 ?_ | (refine tr_guard (t := 39) rfl (fun hb => ?_) (fun hb => ?_) <;> (try simp only [kk] at hb) <;> first | refine wSkip 28 ?_ | refine wSkipU 28 ?_ | refine wMv 28 ?_))
              all_goals (first | refine wSkip 29 ?_ | refine wSkipU 29 ?_ | refine wMv 29 ?_ | (refine tr_guard (t := 42) rfl (fun hb => ?_) (fun hb => ?_) <;> (try simp only [kk] at hb) <;> first | refine wSkip 29 ?_ | refine wSkipU 29 ?_ | refine wMv 29 ?_))
              all_goals (first | refine wSkip 30 ?_ | refine wSkipU 30 ?_ | refine wMv 30 ?_ | (refine tr_guard (t := 42) rfl (fun hb => ?_) (fun hb => ?_) <;> (try simp only [kk] at hb) <;> first | refine wSkip 30 ?_ | refine wSkipU 30 ?_ | refine wMv 30 ?_))
              all_goals (first | refine wSkip 31 ?_ | refine wSkipU 31 ?_ | refine wSb 31 ?_ | (refine tr_guard (t := 42) rfl (fun hb => ?_) (fun hb => ?_) <;> (try simp only [kk] at hb) <;> first | refine wSkip 31 ?_ | refine wSkipU 31 ?_ | refine wSb 31 ?_))
              all_goals (first | refine wSkip 32 ?_ | refine wSkipU 32 ?_ | refine wIa 32 ?_ | (refine tr_guard (t := 42) rfl (fun hb => ?_) (fun hb => ?_) <;> (try simp only [kk] at hb) <;> first | refine wSkip 32 ?_ | refine wSkipU 32 ?_ | refine wIa 32 ?_))
              all_goals (first | refine wSkip 33 ?_ | refine wSkipU 33 ?_ | refine wFa 33 ?_ | (refine tr_guard (t := 42) rfl (fun hb => ?_) (fun hb => ?_) <;> (try simp only [kk] at hb) <;> first | refine wSkip 33 ?_ | refine wSkipU 33 ?_ | refine wFa 33 ?_))
              all_goals (first | refine wSkip 34 ?_ | refine wSkipU 34 ?_ | refine wLd 34 ?_ | (refine tr_guard (t := 42) rfl (fun hb => ?_) (fun hb => ?_) <;> (try simp only [kk] at hb) <;> first | refine wSkip 34 ?_ | refine wSkipU 34 ?_ | refine wLd 34 ?_))
              all_goals (first | refine wSkip 36 ?_ | refine wSkipU 36 ?_ | refine wFa 36 ?_ | (refine tr_guard (t := 42) rfl (fun hb => ?_) (fun hb => ?_) <;> (try simp only [kk] at hb) <;> first | refine wSkip 36 ?_ | refine wSkipU 36 ?_ | refine wFa 36 ?_))
              all_goals (first | refine wSkip 37 ?_ | refine wSkipU 37 ?_ | refine wLd 37 ?_ | (refine tr_guard (t := 42) rfl (fun hb => ?_) (fun hb => ?_) <;> (try simp only [kk] at hb) <;> first | refine wSkip 37 ?_ | refine wSkipU 37 ?_ | refine wLd 37 ?_))
              all_goals (first | refine wSkip 35 ?_ | refine wSkipU 35 ?_ | (refine rStep (i := 35) ?_; ((try refine qWant ?_); (first | (refine tl_is (.func 281) ?_; refine qC rfl rfl (order_spec _ y.t y.id hrt2.1 hrt2.2 hidp) ?_; rintro v ρ' L' hle ⟨rfl, rfl, rfl⟩ <;> (try simp only [kM, kN, kO])) | (refine tl_is (.func 281) ?_; refine qC rfl rfl (order_spec _ x.t x.id ht.1 ht.2 hidk) ?_; rintro v ρ' L' hle ⟨rfl, rfl, rfl⟩ <;> (try simp only [kM, kN, kO])) | (refine qEf ?_; try intro _)) <;> ((try simp only [kM, kN, kO]); refine tl_nil ?_; refine rNext ?_))))
              all_goals (first | refine wSkip 38 ?_ | refine wSkipU 38 ?_ | (refine rStep (i := 38) ?_; ((try refine qWant ?_); (first | (refine tl_is (.func 281) ?_; refine qC rfl rfl (order_spec _ y.t y.id hrt2.1 hrt2.2 hidp) ?_; rintro v ρ' L' hle ⟨rfl, rfl, rfl⟩ <;> (try simp only [kM, kN, kO])) | (refine tl_is (.func 281) ?_; refine qC rfl rfl (order_spec _ x.t x.id ht.1 ht.2 hidk) ?_; rintro v ρ' L' hle ⟨rfl, rfl, rfl⟩ <;> (try simp only [kM, kN, kO])) | (refine qEf ?_; try intro _)) <;> ((try simp only [kM, kN, kO]); refine tl_nil ?_; refine rNext ?_))))
              all_goals refine rFull ?_
              all_goals (first | refine wSkip 39 ?_ | refine wSkipU 39 ?_ | refine wCm 39 ?_ | (refine tr_guard (t := 42) rfl (fun hb => ?_) (fun hb => ?_) <;> (try simp only [kk] at hb) <;> first | refine wSkip 39 ?_ | refine wSkipU 39 ?_ | refine wCm 39 ?_))
              all_goals (first | refine wSkip 40 ?_ | refine wSkipU 40 ?_ | refine wPk 40 ?_ | (refine tr_guard (t := 39) rfl (fun hb => ?_) (fun hb => ?_) <;> (try simp only [kk] at hb) <;> first | refine wSkip 40 ?_ | refine wSkipU 40 ?_ | refine wPk 40 ?_))
              all_goals refine rPk 41 ?_
              all_goals refine rDone ?_
              repeat' (first | (refine i_op ?_; first | (refine i_qq ?_; refine qQ ?_) | refine qEf ?_) | refine tl_nil ?_ | (refine i_tc ?_; refine qTc ?_) | (refine i_te ?_; refine qTe ?_) | intro _)
              simp only [Int.toNat_natCast]
              refine tc_loop_g [(0, _), (2, _), (4, _), (7, _), (8, _), (9, _), (58, _), (59, _)] (fun (ζ : (Nat)) => [(60, .int .i64 ζ)]) (fun (ζ : (Nat)) => ρ') (fun (ζ : (Nat)) => [[(b4, .cells ⟨kidV x⟩ 224 (0, 0))]]) (fun (ζ : (Nat)) => ζ ≤ k ∧ ∀ y ∈ l.take ζ, y.page ≠ x.page) (fun (ζ : (Nat)) => k - ζ) (0) (⟨Nat.zero_le _, by simp⟩) ev_le ev_le rfl tk ?_
              rintro j hI
              try simp only [List.cons_append, List.nil_append, List.append_assoc, List.append_eq] at hI ⊢
              try dsimp only at hI ⊢
              obtain ⟨hj, hjo⟩ := hI
              by_cases hjk : j < k
              · obtain ⟨b3, off3, C3, T3, fr3, f3, hb3, hfit3, hc3⟩ := h.get (show j < l.length by omega)
                cases f3
                rw [hb] at hb3
                cases hb3
                have htj := List.take_succ_eq_append_getElem (show j < l.length by omega)
                have hjm : l[j]'(by omega) ∈ l.take k := by
                  rw [List.mem_take_iff_getElem]
                  exact ⟨j, by omega, rfl⟩
                generalize hZ : l[j]'(by omega) = z at *
                by_cases hp : z.page = x.page
                · rw [hx (x.page ∉ psTo l k) (fun e => (hkx e).1) (fun e => e (psTo_mem.2 ⟨z, hjm, hp⟩))]
                  repeat' (first | (refine i_op ?_; first | (refine i_qq ?_; refine qQ ?_) | refine qEf ?_) | refine tl_nil ?_ | (refine i_tc ?_; refine qTc ?_) | (refine i_te ?_; refine qTe ?_) | intro _)
                  exact qE ⟨rfl, rfl, rfl⟩
                · have hjn : ∀ y ∈ l.take (j + 1), y.page ≠ x.page := by
                      intro y hy
                      rw [htj] at hy
                      rcases List.mem_append.1 hy with hy | hy
                      · exact hjo y hy
                      · rw [List.mem_singleton.1 hy]; exact hp
                  repeat' (first | (refine i_op ?_; first | (refine i_qq ?_; refine qQ ?_) | refine qEf ?_) | refine tl_nil ?_ | (refine i_tc ?_; refine qTc ?_) | (refine i_te ?_; refine qTe ?_) | intro _)
                  refine te_round_g (j + 1) (⟨hjk, hjn⟩) ev_le ev_le rfl tk inferInstance (by first | omega | (dsimp only; omega))
              · have hj2 : j = k := by omega
                subst hj2
                have hke : kidOk j (psTo l j) x = true := decide_eq_true ⟨fun e => by obtain ⟨y, hy, he⟩ := psTo_mem.1 e; exact hjo y hy he, p0, p6, ht, .inl (by omega)⟩
                rw [hke, Bool.true_and] at hs
                have hs' : risesB n rt ltK l (j + 1) = true := hs
                repeat' (first | (refine i_op ?_; first | (refine i_qq ?_; refine qQ ?_) | refine qEf ?_) | refine tl_nil ?_ | (refine i_tc ?_; refine qTc ?_) | (refine i_te ?_; refine qTe ?_) | intro _)
                refine te_round_g (j + 1) (⟨hlt, hs'⟩) ev_le ev_le rfl tk inferInstance (by first | omega | (dsimp only; omega))
            · rw [decide_eq_false hcm, Bool.and_false] at hs
              have hcm2 : ¬ (y.t * 65536 + y.id < x.t * 65536 + x.id) := fun h => hcm (hor.2 h)
              rw [hfin hs]
              simp only [Bool.and_false]
              repeat' (first | (refine i_op ?_; first | (refine i_qq ?_; refine qQ ?_) | refine qEf ?_) | refine tl_nil ?_ | (refine i_tc ?_; refine qTc ?_) | (refine i_te ?_; refine qTe ?_) | intro _)
              refine tc_any (Stays _ _ _) stays_refl ?_
              all_goals refine rFa 0 ?_
              all_goals refine rLd 1 ?_
              all_goals refine rCm 2 ?_
              all_goals refine rMv 3 ?_
              all_goals (first | refine wSkip 4 ?_ | refine wSkipU 4 ?_ | refine wFa 4 ?_ | (refine tr_guard (t := 17) rfl (fun hb => ?_) (fun hb => ?_) <;> (try simp only [kk] at hb) <;> first | refine wSkip 4 ?_ | refine wSkipU 4 ?_ | refine wFa 4 ?_))
              all_goals (first | refine wSkip 5 ?_ | refine wSkipU 5 ?_ | refine wLd 5 ?_ | (refine tr_guard (t := 17) rfl (fun hb => ?_) (fun hb => ?_) <;> (try simp only [kk] at hb) <;> first | refine wSkip 5 ?_ | refine wSkipU 5 ?_ | refine wLd 5 ?_))
              all_goals (first | refine wSkip 6 ?_ | refine wSkipU 6 ?_ | refine wCm 6 ?_ | (refine tr_guard (t := 17) rfl (fun hb => ?_) (fun hb => ?_) <;> (try simp only [kk] at hb) <;> first | refine wSkip 6 ?_ | refine wSkipU 6 ?_ | refine wCm 6 ?_))
              all_goals refine rPk 7 ?_
              all_goals refine rMv 8 ?_
              all_goals (first | refine wSkip 9 ?_ | refine wSkipU 9 ?_ | refine wFa 9 ?_ | (refine tr_guard (t := 22) rfl (fun hb => ?_) (fun hb => ?_) <;> (try simp only [kk] at hb) <;> first | refine wSkip 9 ?_ | refine wSkipU 9 ?_ | refine wFa 9 ?_))
              all_goals (first | refine wSkip 10 ?_ | refine wSkipU 10 ?_ | refine wFa 10 ?_ | (refine tr_guard (t := 22) rfl (fun hb => ?_) (fun hb => ?_) <;> (try simp only [kk] at hb) <;> first | refine wSkip 10 ?_ | refine wSkipU 10 ?_ | refine wFa 10 ?_))
              all_goals (first | refine wSkip 11 ?_ | refine wSkipU 11 ?_ | refine wLd 11 ?_ | (refine tr_guard (t := 22) rfl (fun hb => ?_) (fun hb => ?_) <;> (try simp only [kk] at hb) <;> first | refine wSkip 11 ?_ | refine wSkipU 11 ?_ | refine wLd 11 ?_))
              all_goals (first | refine wSkip 12 ?_ | refine wSkipU 12 ?_ | (refine rStep (i := 12) ?_; ((try refine qWant ?_); (first | (refine tl_is (.func 243) ?_; refine qC rfl rfl (tableR_spec _ _) ?_; rintro v ρ' L' hle ⟨rfl, rfl, rfl⟩ <;> (try simp only [kM, kN, kO, hd])) | (refine qEf ?_; try intro _)) <;> ((try simp only [kM, kN, kO]); refine tl_nil ?_; refine rNext ?_))))
              all_goals (first | refine wSkip 13 ?_ | refine wSkipU 13 ?_ | refine wUn 13 ?_ | (refine tr_guard (t := 22) rfl (fun hb => ?_) (fun hb => ?_) <;> (try simp only [kk] at hb) <;> first | refine wSkip 13 ?_ | refine wSkipU 13 ?_ | refine wUn 13 ?_))
              all_goals refine rPk 14 ?_
              all_goals refine rMv 15 ?_
              all_goals (first | refine wSkip 16 ?_ | refine wSkipU 16 ?_ | refine wMv 16 ?_ | (refine tr_guard (t := 29) rfl (fun hb => ?_) (fun hb => ?_) <;> (try simp only [kk] at hb) <;> first | refine wSkip 16 ?_ | refine wSkipU 16 ?_ | refine wMv 16 ?_))
              all_goals (first | refine wSkip 17 ?_ | refine wSkipU 17 ?_ | refine wCm 17 ?_ | (refine tr_guard (t := 29) rfl (fun hb => ?_) (fun hb => ?_) <;> (try simp only [kk] at hb) <;> first | refine wSkip 17 ?_ | refine wSkipU 17 ?_ | refine wCm 17 ?_))
              all_goals (first | refine wSkip 18 ?_ | refine wSkipU 18 ?_ | refine wMv 18 ?_ | (refine tr_guard (t := 29) rfl (fun hb => ?_) (fun hb => ?_) <;> (try simp only [kk] at hb) <;> first | refine wSkip 18 ?_ | refine wSkipU 18 ?_ | refine wMv 18 ?_))
              all_goals (first | refine wSkip 19 ?_ | refine wSkipU 19 ?_ | refine wFa 19 ?_ | (refine tr_guard (t := 32) rfl (fun hb => ?_) (fun hb => ?_) <;> (try simp only [kk] at hb) <;> first | refine wSkip 19 ?_ | refine wSkipU 19 ?_ | refine wFa 19 ?_))
              all_goals (first | refine wSkip 20 ?_ | refine wSkipU 20 ?_ | refine wLd 20 ?_ | (refine tr_guard (t := 32) rfl (fun hb => ?_) (fun hb => ?_) <;> (try simp only [kk] at hb) <;> first | refine wSkip 20 ?_ | refine wSkipU 20 ?_ | refine wLd 20 ?_))
              all_goals (first | refine wSkip 21 ?_ | refine wSkipU 21 ?_ | refine wBu 21 ?_ | (refine tr_guard (t := 32) rfl (fun hb => ?_) (fun hb => ?_) <;> (try simp only [kk] at hb) <;> first | refine wSkip 21 ?_ | refine wSkipU 21 ?_ | refine wBu 21 ?_))
              all_goals (first | refine wSkip 22 ?_ | refine wSkipU 22 ?_ | refine wCm 22 ?_ | (refine tr_guard (t := 32) rfl (fun hb => ?_) (fun hb => ?_) <;> (try simp only [kk] at hb) <;> first | refine wSkip 22 ?_ | refine wSkipU 22 ?_ | refine wCm 22 ?_))
              all_goals (first | refine wSkip 23 ?_ | refine wSkipU 23 ?_ | refine wPk 23 ?_ | (refine tr_guard (t := 29) rfl (fun hb => ?_) (fun hb => ?_) <;> (try simp only [kk] at hb) <;> first | refine wSkip 23 ?_ | refine wSkipU 23 ?_ | refine wPk 23 ?_))
              all_goals refine rPk 24 ?_
              all_goals refine rMv 25 ?_
              all_goals (first | refine wSkip 26 ?_ | refine wSkipU 26 ?_ | refine wMv 26 ?_ | (refine tr_guard (t := 39) rfl (fun hb => ?_) (fun hb => ?_) <;> (try simp only [kk] at hb) <;> first | refine wSkip 26 ?_ | refine wSkipU 26 ?_ | refine wMv 26 ?_))
              all_goals (first | refine wSkip 27 ?_ | refine wSkipU 27 ?_ | refine wCm 27 ?_ | (refine tr_guard (t := 39) rfl (fun hb => ?_) (fun hb => ?_) <;> (try simp only [kk] at hb) <;> first | refine wSkip 27 ?_ | refine wSkipU 27 ?_ | refine wCm 27 ?_))
              all_goals (first | refine wSkip 28 ?_ | refine wSkipU 28 ?_ | refine wMv 28 ?_ | (refine tr_guard (t := 39) rfl (fun hb => ?_) (fun hb => ?_) <;> (try simp only [kk] at hb) <;> first | refine wSkip 28 ?_ | refine wSkipU 28 ?_ | refine wMv 28 ?_))
              all_goals (first | refine wSkip 29 ?_ | refine wSkipU 29 ?_ | refine wMv 29 ?_ | (refine tr_guard (t := 42) rfl (fun hb => ?_) (fun hb => ?_) <;> (try simp only [kk] at hb) <;> first | refine wSkip 29 ?_ | refine wSkipU 29 ?_ | refine wMv 29 ?_))
              all_goals (first | refine wSkip 30 ?_ | refine wSkipU 30 ?_ | refine wMv 30 ?_ | (refine tr_guard (t := 42) rfl (fun hb => ?_) (fun hb => ?_) <;> (try simp only [kk] at hb) <;> first | refine wSkip 30 ?_ | refine wSkipU 30 ?_ | refine wMv 30 ?_))
              all_goals (first | refine wSkip 31 ?_ | refine wSkipU 31 ?_ | refine wSb 31 ?_ | (refine tr_guard (t := 42) rfl (fun hb => ?_) (fun hb => ?_) <;> (try simp only [kk] at hb) <;> first | refine wSkip 31 ?_ | refine wSkipU 31 ?_ | refine wSb 31 ?_))
              all_goals (first | refine wSkip 32 ?_ | refine wSkipU 32 ?_ | refine wIa 32 ?_ | (refine tr_guard (t := 42) rfl (fun hb => ?_) (fun hb => ?_) <;> (try simp only [kk] at hb) <;> first | refine wSkip 32 ?_ | refine wSkipU 32 ?_ | refine wIa 32 ?_))
              all_goals (first | refine wSkip 33 ?_ | refine wSkipU 33 ?_ | refine wFa 33 ?_ | (refine tr_guard (t := 42) rfl (fun hb => ?_) (fun hb => ?_) <;> (try simp only [kk] at hb) <;> first | refine wSkip 33 ?_ | refine wSkipU 33 ?_ | refine wFa 33 ?_))
              all_goals (first | refine wSkip 34 ?_ | refine wSkipU 34 ?_ | refine wLd 34 ?_ | (refine tr_guard (t := 42) rfl (fun hb => ?_) (fun hb => ?_) <;> (try simp only [kk] at hb) <;> first | refine wSkip 34 ?_ | refine wSkipU 34 ?_ | refine wLd 34 ?_))
              all_goals (first | refine wSkip 36 ?_ | refine wSkipU 36 ?_ | refine wFa 36 ?_ | (refine tr_guard (t := 42) rfl (fun hb => ?_) (fun hb => ?_) <;> (try simp only [kk] at hb) <;> first | refine wSkip 36 ?_ | refine wSkipU 36 ?_ | refine wFa 36 ?_))
              all_goals (first | refine wSkip 37 ?_ | refine wSkipU 37 ?_ | refine wLd 37 ?_ | (refine tr_guard (t := 42) rfl (fun hb => ?_) (fun hb => ?_) <;> (try simp only [kk] at hb) <;> first | refine wSkip 37 ?_ | refine wSkipU 37 ?_ | refine wLd 37 ?_))
              all_goals (first | refine wSkip 35 ?_ | refine wSkipU 35 ?_ | (refine rStep (i := 35) ?_; ((try refine qWant ?_); (first | (refine tl_is (.func 281) ?_; refine qC rfl rfl (order_spec _ y.t y.id hrt2.1 hrt2.2 hidp) ?_; rintro v ρ' L' hle ⟨rfl, rfl, rfl⟩ <;> (try simp only [kM, kN, kO])) | (refine tl_is (.func 281) ?_; refine qC rfl rfl (order_spec _ x.t x.id ht.1 ht.2 hidk) ?_; rintro v ρ' L' hle ⟨rfl, rfl, rfl⟩ <;> (try simp only [kM, kN, kO])) | (refine qEf ?_; try intro _)) <;> ((try simp only [kM, kN, kO]); refine tl_nil ?_; refine rNext ?_))))
              all_goals (first | refine wSkip 38 ?_ | refine wSkipU 38 ?_ | (refine rStep (i := 38) ?_; ((try refine qWant ?_); (first | (refine tl_is (.func 281) ?_; refine qC rfl rfl (order_spec _ y.t y.id hrt2.1 hrt2.2 hidp) ?_; rintro v ρ' L' hle ⟨rfl, rfl, rfl⟩ <;> (try simp only [kM, kN, kO])) | (refine tl_is (.func 281) ?_; refine qC rfl rfl (order_spec _ x.t x.id ht.1 ht.2 hidk) ?_; rintro v ρ' L' hle ⟨rfl, rfl, rfl⟩ <;> (try simp only [kM, kN, kO])) | (refine qEf ?_; try intro _)) <;> ((try simp only [kM, kN, kO]); refine tl_nil ?_; refine rNext ?_))))
              all_goals refine rFull ?_
              all_goals (first | refine wSkip 39 ?_ | refine wSkipU 39 ?_ | refine wCm 39 ?_ | (refine tr_guard (t := 42) rfl (fun hb => ?_) (fun hb => ?_) <;> (try simp only [kk] at hb) <;> first | refine wSkip 39 ?_ | refine wSkipU 39 ?_ | refine wCm 39 ?_))
              all_goals (first | refine wSkip 40 ?_ | refine wSkipU 40 ?_ | refine wPk 40 ?_ | (refine tr_guard (t := 39) rfl (fun hb => ?_) (fun hb => ?_) <;> (try simp only [kk] at hb) <;> first | refine wSkip 40 ?_ | refine wSkipU 40 ?_ | refine wPk 40 ?_))
              all_goals refine rPk 41 ?_
              all_goals refine rDone ?_
              repeat' (first | (refine i_op ?_; first | (refine i_qq ?_; refine qQ ?_) | refine qEf ?_) | refine tl_nil ?_ | (refine i_tc ?_; refine qTc ?_) | (refine i_te ?_; refine qTe ?_) | intro _)
              exact qE ⟨rfl, rfl, rfl⟩
        · have hd : decide (0 ≤ x.t ∧ x.t < 3) = false := decide_eq_false ht
          rw [hx (0 ≤ x.t ∧ x.t < 3) (fun e => (hkx e).2.2.2.1) ht]
          repeat' (first | (refine i_op ?_; first | (refine i_qq ?_; refine qQ ?_) | refine qEf ?_) | refine tl_nil ?_ | (refine i_tc ?_; refine qTc ?_) | (refine i_te ?_; refine qTe ?_) | intro _)
          refine tc_any (Stays _ _ _) stays_refl ?_
          all_goals refine rFa 0 ?_
          all_goals refine rLd 1 ?_
          all_goals refine rCm 2 ?_
          all_goals refine rMv 3 ?_
          all_goals (first | refine wSkip 4 ?_ | refine wSkipU 4 ?_ | refine wFa 4 ?_ | (refine tr_guard (t := 17) rfl (fun hb => ?_) (fun hb => ?_) <;> (try simp only [kk] at hb) <;> first | refine wSkip 4 ?_ | refine wSkipU 4 ?_ | refine wFa 4 ?_))
          all_goals (first | refine wSkip 5 ?_ | refine wSkipU 5 ?_ | refine wLd 5 ?_ | (refine tr_guard (t := 17) rfl (fun hb => ?_) (fun hb => ?_) <;> (try simp only [kk] at hb) <;> first | refine wSkip 5 ?_ | refine wSkipU 5 ?_ | refine wLd 5 ?_))
          all_goals (first | refine wSkip 6 ?_ | refine wSkipU 6 ?_ | refine wCm 6 ?_ | (refine tr_guard (t := 17) rfl (fun hb => ?_) (fun hb => ?_) <;> (try simp only [kk] at hb) <;> first | refine wSkip 6 ?_ | refine wSkipU 6 ?_ | refine wCm 6 ?_))
          all_goals refine rPk 7 ?_
          all_goals refine rMv 8 ?_
          all_goals (first | refine wSkip 9 ?_ | refine wSkipU 9 ?_ | refine wFa 9 ?_ | (refine tr_guard (t := 22) rfl (fun hb => ?_) (fun hb => ?_) <;> (try simp only [kk] at hb) <;> first | refine wSkip 9 ?_ | refine wSkipU 9 ?_ | refine wFa 9 ?_))
          all_goals (first | refine wSkip 10 ?_ | refine wSkipU 10 ?_ | refine wFa 10 ?_ | (refine tr_guard (t := 22) rfl (fun hb => ?_) (fun hb => ?_) <;> (try simp only [kk] at hb) <;> first | refine wSkip 10 ?_ | refine wSkipU 10 ?_ | refine wFa 10 ?_))
          all_goals (first | refine wSkip 11 ?_ | refine wSkipU 11 ?_ | refine wLd 11 ?_ | (refine tr_guard (t := 22) rfl (fun hb => ?_) (fun hb => ?_) <;> (try simp only [kk] at hb) <;> first | refine wSkip 11 ?_ | refine wSkipU 11 ?_ | refine wLd 11 ?_))
          all_goals (first | refine wSkip 12 ?_ | refine wSkipU 12 ?_ | (refine rStep (i := 12) ?_; ((try refine qWant ?_); (first | (refine tl_is (.func 243) ?_; refine qC rfl rfl (tableR_spec _ _) ?_; rintro v ρ' L' hle ⟨rfl, rfl, rfl⟩ <;> (try simp only [kM, kN, kO, hd])) | (refine qEf ?_; try intro _)) <;> ((try simp only [kM, kN, kO]); refine tl_nil ?_; refine rNext ?_))))
          all_goals (first | refine wSkip 13 ?_ | refine wSkipU 13 ?_ | refine wUn 13 ?_ | (refine tr_guard (t := 22) rfl (fun hb => ?_) (fun hb => ?_) <;> (try simp only [kk] at hb) <;> first | refine wSkip 13 ?_ | refine wSkipU 13 ?_ | refine wUn 13 ?_))
          all_goals refine rPk 14 ?_
          all_goals refine rMv 15 ?_
          all_goals (first | refine wSkip 16 ?_ | refine wSkipU 16 ?_ | refine wMv 16 ?_ | (refine tr_guard (t := 29) rfl (fun hb => ?_) (fun hb => ?_) <;> (try simp only [kk] at hb) <;> first | refine wSkip 16 ?_ | refine wSkipU 16 ?_ | refine wMv 16 ?_))
          all_goals (first | refine wSkip 17 ?_ | refine wSkipU 17 ?_ | refine wCm 17 ?_ | (refine tr_guard (t := 29) rfl (fun hb => ?_) (fun hb => ?_) <;> (try simp only [kk] at hb) <;> first | refine wSkip 17 ?_ | refine wSkipU 17 ?_ | refine wCm 17 ?_))
          all_goals (first | refine wSkip 18 ?_ | refine wSkipU 18 ?_ | refine wMv 18 ?_ | (refine tr_guard (t := 29) rfl (fun hb => ?_) (fun hb => ?_) <;> (try simp only [kk] at hb) <;> first | refine wSkip 18 ?_ | refine wSkipU 18 ?_ | refine wMv 18 ?_))
          all_goals (first | refine wSkip 19 ?_ | refine wSkipU 19 ?_ | refine wFa 19 ?_ | (refine tr_guard (t := 32) rfl (fun hb => ?_) (fun hb => ?_) <;> (try simp only [kk] at hb) <;> first | refine wSkip 19 ?_ | refine wSkipU 19 ?_ | refine wFa 19 ?_))
          all_goals (first | refine wSkip 20 ?_ | refine wSkipU 20 ?_ | refine wLd 20 ?_ | (refine tr_guard (t := 32) rfl (fun hb => ?_) (fun hb => ?_) <;> (try simp only [kk] at hb) <;> first | refine wSkip 20 ?_ | refine wSkipU 20 ?_ | refine wLd 20 ?_))
          all_goals (first | refine wSkip 21 ?_ | refine wSkipU 21 ?_ | refine wBu 21 ?_ | (refine tr_guard (t := 32) rfl (fun hb => ?_) (fun hb => ?_) <;> (try simp only [kk] at hb) <;> first | refine wSkip 21 ?_ | refine wSkipU 21 ?_ | refine wBu 21 ?_))
          all_goals (first | refine wSkip 22 ?_ | refine wSkipU 22 ?_ | refine wCm 22 ?_ | (refine tr_guard (t := 32) rfl (fun hb => ?_) (fun hb => ?_) <;> (try simp only [kk] at hb) <;> first | refine wSkip 22 ?_ | refine wSkipU 22 ?_ | refine wCm 22 ?_))
          all_goals (first | refine wSkip 23 ?_ | refine wSkipU 23 ?_ | refine wPk 23 ?_ | (refine tr_guard (t := 29) rfl (fun hb => ?_) (fun hb => ?_) <;> (try simp only [kk] at hb) <;> first | refine wSkip 23 ?_ | refine wSkipU 23 ?_ | refine wPk 23 ?_))
          all_goals refine rPk 24 ?_
          all_goals refine rMv 25 ?_
          all_goals (first | refine wSkip 26 ?_ | refine wSkipU 26 ?_ | refine wMv 26 ?_ | (refine tr_guard (t := 39) rfl (fun hb => ?_) (fun hb => ?_) <;> (try simp only [kk] at hb) <;> first | refine wSkip 26 ?_ | refine wSkipU 26 ?_ | refine wMv 26 ?_))
          all_goals (first | refine wSkip 27 ?_ | refine wSkipU 27 ?_ | refine wCm 27 ?_ | (refine tr_guard (t := 39) rfl (fun hb => ?_) (fun hb => ?_) <;> (try simp only [kk] at hb) <;> first | refine wSkip 27 ?_ | refine wSkipU 27 ?_ | refine wCm 27 ?_))
          all_goals (first | refine wSkip 28 ?_ | refine wSkipU 28 ?_ | refine wMv 28 ?_ | (refine tr_guard (t := 39) rfl (fun hb => ?_) (fun hb => ?_) <;> (try simp only [kk] at hb) <;> first | refine wSkip 28 ?_ | refine wSkipU 28 ?_ | refine wMv 28 ?_))
          all_goals (first | refine wSkip 29 ?_ | refine wSkipU 29 ?_ | refine wMv 29 ?_ | (refine tr_guard (t := 42) rfl (fun hb => ?_) (fun hb => ?_) <;> (try simp only [kk] at hb) <;> first | refine wSkip 29 ?_ | refine wSkipU 29 ?_ | refine wMv 29 ?_))
          all_goals (first | refine wSkip 30 ?_ | refine wSkipU 30 ?_ | refine wMv 30 ?_ | (refine tr_guard (t := 42) rfl (fun hb => ?_) (fun hb => ?_) <;> (try simp only [kk] at hb) <;> first | refine wSkip 30 ?_ | refine wSkipU 30 ?_ | refine wMv 30 ?_))
          all_goals (first | refine wSkip 31 ?_ | refine wSkipU 31 ?_ | refine wSb 31 ?_ | (refine tr_guard (t := 42) rfl (fun hb => ?_) (fun hb => ?_) <;> (try simp only [kk] at hb) <;> first | refine wSkip 31 ?_ | refine wSkipU 31 ?_ | refine wSb 31 ?_))
          all_goals (first | refine wSkip 32 ?_ | refine wSkipU 32 ?_ | refine wIa 32 ?_ | (refine tr_guard (t := 42) rfl (fun hb => ?_) (fun hb => ?_) <;> (try simp only [kk] at hb) <;> first | refine wSkip 32 ?_ | refine wSkipU 32 ?_ | refine wIa 32 ?_))
          all_goals (first | refine wSkip 33 ?_ | refine wSkipU 33 ?_ | refine wFa 33 ?_ | (refine tr_guard (t := 42) rfl (fun hb => ?_) (fun hb => ?_) <;> (try simp only [kk] at hb) <;> first | refine wSkip 33 ?_ | refine wSkipU 33 ?_ | refine wFa 33 ?_))
          all_goals (first | refine wSkip 34 ?_ | refine wSkipU 34 ?_ | refine wLd 34 ?_ | (refine tr_guard (t := 42) rfl (fun hb => ?_) (fun hb => ?_) <;> (try simp only [kk] at hb) <;> first | refine wSkip 34 ?_ | refine wSkipU 34 ?_ | refine wLd 34 ?_))
          all_goals (first | refine wSkip 36 ?_ | refine wSkipU 36 ?_ | refine wFa 36 ?_ | (refine tr_guard (t := 42) rfl (fun hb => ?_) (fun hb => ?_) <;> (try simp only [kk] at hb) <;> first | refine wSkip 36 ?_ | refine wSkipU 36 ?_ | refine wFa 36 ?_))
          all_goals (first | refine wSkip 37 ?_ | refine wSkipU 37 ?_ | refine wLd 37 ?_ | (refine tr_guard (t := 42) rfl (fun hb => ?_) (fun hb => ?_) <;> (try simp only [kk] at hb) <;> first | refine wSkip 37 ?_ | refine wSkipU 37 ?_ | refine wLd 37 ?_))
          all_goals (first | refine wSkip 35 ?_ | refine wSkipU 35 ?_ | (refine rStep (i := 35) ?_; ((try refine qWant ?_); (first | (refine qEf ?_; try intro _)) <;> ((try simp only [kM, kN, kO]); refine tl_nil ?_; refine rNext ?_))))
          all_goals (first | refine wSkip 38 ?_ | refine wSkipU 38 ?_ | (refine rStep (i := 38) ?_; ((try refine qWant ?_); (first | (refine qEf ?_; try intro _)) <;> ((try simp only [kM, kN, kO]); refine tl_nil ?_; refine rNext ?_))))
          all_goals refine rFull ?_
          all_goals (first | refine wSkip 39 ?_ | refine wSkipU 39 ?_ | refine wCm 39 ?_ | (refine tr_guard (t := 42) rfl (fun hb => ?_) (fun hb => ?_) <;> (try simp only [kk] at hb) <;> first | refine wSkip 39 ?_ | refine wSkipU 39 ?_ | refine wCm 39 ?_))
          all_goals (first | refine wSkip 40 ?_ | refine wSkipU 40 ?_ | refine wPk 40 ?_ | (refine tr_guard (t := 39) rfl (fun hb => ?_) (fun hb => ?_) <;> (try simp only [kk] at hb) <;> first | refine wSkip 40 ?_ | refine wSkipU 40 ?_ | refine wPk 40 ?_))
          all_goals refine rPk 41 ?_
          all_goals refine rDone ?_
          repeat' (first | (refine i_op ?_; first | (refine i_qq ?_; refine qQ ?_) | refine qEf ?_) | refine tl_nil ?_ | (refine i_tc ?_; refine qTc ?_) | (refine i_te ?_; refine qTe ?_) | intro _)
          exact qE ⟨rfl, rfl, rfl⟩
      · rw [hx (x.page < 64) (fun e => (hkx e).2.2.1) p6]
        repeat' (first | (refine i_op ?_; first | (refine i_qq ?_; refine qQ ?_) | refine qEf ?_) | refine tl_nil ?_ | (refine i_tc ?_; refine qTc ?_) | (refine i_te ?_; refine qTe ?_) | intro _)
        refine tc_any (Stays _ _ _) stays_refl ?_
        all_goals refine rFa 0 ?_
        all_goals refine rLd 1 ?_
        all_goals refine rCm 2 ?_
        all_goals refine rMv 3 ?_
        all_goals (first | refine wSkip 4 ?_ | refine wSkipU 4 ?_ | refine wFa 4 ?_ | (refine tr_guard (t := 17) rfl (fun hb => ?_) (fun hb => ?_) <;> (try simp only [kk] at hb) <;> first | refine wSkip 4 ?_ | refine wSkipU 4 ?_ | refine wFa 4 ?_))
        all_goals (first | refine wSkip 5 ?_ | refine wSkipU 5 ?_ | refine wLd 5 ?_ | (refine tr_guard (t := 17) rfl (fun hb => ?_) (fun hb => ?_) <;> (try simp only [kk] at hb) <;> first | refine wSkip 5 ?_ | refine wSkipU 5 ?_ | refine wLd 5 ?_))
        all_goals (first | refine wSkip 6 ?_ | refine wSkipU 6 ?_ | refine wCm 6 ?_ | (refine tr_guard (t := 17) rfl (fun hb => ?_) (fun hb => ?_) <;> (try simp only [kk] at hb) <;> first | refine wSkip 6 ?_ | refine wSkipU 6 ?_ | refine wCm 6 ?_))
        all_goals refine rPk 7 ?_
        all_goals refine rMv 8 ?_
        all_goals (first | refine wSkip 9 ?_ | refine wSkipU 9 ?_ | refine wFa 9 ?_ | (refine tr_guard (t := 22) rfl (fun hb => ?_) (fun hb => ?_) <;> (try simp only [kk] at hb) <;> first | refine wSkip 9 ?_ | refine wSkipU 9 ?_ | refine wFa 9 ?_))
        all_goals (first | refine wSkip 10 ?_ | refine wSkipU 10 ?_ | refine wFa 10 ?_ | (refine tr_guard (t := 22) rfl (fun hb => ?_) (fun hb => ?_) <;> (try simp only [kk] at hb) <;> first | refine wSkip 10 ?_ | refine wSkipU 10 ?_ | refine wFa 10 ?_))
        all_goals (first | refine wSkip 11 ?_ | refine wSkipU 11 ?_ | refine wLd 11 ?_ | (refine tr_guard (t := 22) rfl (fun hb => ?_) (fun hb => ?_) <;> (try simp only [kk] at hb) <;> first | refine wSkip 11 ?_ | refine wSkipU 11 ?_ | refine wLd 11 ?_))
        all_goals (first | refine wSkip 12 ?_ | refine wSkipU 12 ?_ | (refine rStep (i := 12) ?_; ((try refine qWant ?_); (first | (refine qEf ?_; try intro _)) <;> ((try simp only [kM, kN, kO]); refine tl_nil ?_; refine rNext ?_))))
        all_goals (first | refine wSkip 13 ?_ | refine wSkipU 13 ?_ | refine wUn 13 ?_ | (refine tr_guard (t := 22) rfl (fun hb => ?_) (fun hb => ?_) <;> (try simp only [kk] at hb) <;> first | refine wSkip 13 ?_ | refine wSkipU 13 ?_ | refine wUn 13 ?_))
        all_goals refine rPk 14 ?_
        all_goals refine rMv 15 ?_
        all_goals (first | refine wSkip 16 ?_ | refine wSkipU 16 ?_ | refine wMv 16 ?_ | (refine tr_guard (t := 29) rfl (fun hb => ?_) (fun hb => ?_) <;> (try simp only [kk] at hb) <;> first | refine wSkip 16 ?_ | refine wSkipU 16 ?_ | refine wMv 16 ?_))
        all_goals (first | refine wSkip 17 ?_ | refine wSkipU 17 ?_ | refine wCm 17 ?_ | (refine tr_guard (t := 29) rfl (fun hb => ?_) (fun hb => ?_) <;> (try simp only [kk] at hb) <;> first | refine wSkip 17 ?_ | refine wSkipU 17 ?_ | refine wCm 17 ?_))
        all_goals (first | refine wSkip 18 ?_ | refine wSkipU 18 ?_ | refine wMv 18 ?_ | (refine tr_guard (t := 29) rfl (fun hb => ?_) (fun hb => ?_) <;> (try simp only [kk] at hb) <;> first | refine wSkip 18 ?_ | refine wSkipU 18 ?_ | refine wMv 18 ?_))
        all_goals (first | refine wSkip 19 ?_ | refine wSkipU 19 ?_ | refine wFa 19 ?_ | (refine tr_guard (t := 32) rfl (fun hb => ?_) (fun hb => ?_) <;> (try simp only [kk] at hb) <;> first | refine wSkip 19 ?_ | refine wSkipU 19 ?_ | refine wFa 19 ?_))
        all_goals (first | refine wSkip 20 ?_ | refine wSkipU 20 ?_ | refine wLd 20 ?_ | (refine tr_guard (t := 32) rfl (fun hb => ?_) (fun hb => ?_) <;> (try simp only [kk] at hb) <;> first | refine wSkip 20 ?_ | refine wSkipU 20 ?_ | refine wLd 20 ?_))
        all_goals (first | refine wSkip 21 ?_ | refine wSkipU 21 ?_ | refine wBu 21 ?_ | (refine tr_guard (t := 32) rfl (fun hb => ?_) (fun hb => ?_) <;> (try simp only [kk] at hb) <;> first | refine wSkip 21 ?_ | refine wSkipU 21 ?_ | refine wBu 21 ?_))
        all_goals (first | refine wSkip 22 ?_ | refine wSkipU 22 ?_ | refine wCm 22 ?_ | (refine tr_guard (t := 32) rfl (fun hb => ?_) (fun hb => ?_) <;> (try simp only [kk] at hb) <;> first | refine wSkip 22 ?_ | refine wSkipU 22 ?_ | refine wCm 22 ?_))
        all_goals (first | refine wSkip 23 ?_ | refine wSkipU 23 ?_ | refine wPk 23 ?_ | (refine tr_guard (t := 29) rfl (fun hb => ?_) (fun hb => ?_) <;> (try simp only [kk] at hb) <;> first | refine wSkip 23 ?_ | refine wSkipU 23 ?_ | refine wPk 23 ?_))
        all_goals refine rPk 24 ?_
        all_goals refine rMv 25 ?_
        all_goals (first | refine wSkip 26 ?_ | refine wSkipU 26 ?_ | refine wMv 26 ?_ | (refine tr_guard (t := 39) rfl (fun hb => ?_) (fun hb => ?_) <;> (try simp only [kk] at hb) <;> first | refine wSkip 26 ?_ | refine wSkipU 26 ?_ | refine wMv 26 ?_))
        all_goals (first | refine wSkip 27 ?_ | refine wSkipU 27 ?_ | refine wCm 27 ?_ | (refine tr_guard (t := 39) rfl (fun hb => ?_) (fun hb => ?_) <;> (try simp only [kk] at hb) <;> first | refine wSkip 27 ?_ | refine wSkipU 27 ?_ | refine wCm 27 ?_))
        all_goals (first | refine wSkip 28 ?_ | refine wSkipU 28 ?_ | refine wMv 28 ?_ | (refine tr_guard (t := 39) rfl (fun hb => ?_) (fun hb => ?_) <;> (try simp only [kk] at hb) <;> first | refine wSkip 28 ?_ | refine wSkipU 28 ?_ | refine wMv 28 ?_))
        all_goals (first | refine wSkip 29 ?_ | refine wSkipU 29 ?_ | refine wMv 29 ?_ | (refine tr_guard (t := 42) rfl (fun hb => ?_) (fun hb => ?_) <;> (try simp only [kk] at hb) <;> first | refine wSkip 29 ?_ | refine wSkipU 29 ?_ | refine wMv 29 ?_))
        all_goals (first | refine wSkip 30 ?_ | refine wSkipU 30 ?_ | refine wMv 30 ?_ | (refine tr_guard (t := 42) rfl (fun hb => ?_) (fun hb => ?_) <;> (try simp only [kk] at hb) <;> first | refine wSkip 30 ?_ | refine wSkipU 30 ?_ | refine wMv 30 ?_))
        all_goals (first | refine wSkip 31 ?_ | refine wSkipU 31 ?_ | refine wSb 31 ?_ | (refine tr_guard (t := 42) rfl (fun hb => ?_) (fun hb => ?_) <;> (try simp only [kk] at hb) <;> first | refine wSkip 31 ?_ | refine wSkipU 31 ?_ | refine wSb 31 ?_))
        all_goals (first | refine wSkip 32 ?_ | refine wSkipU 32 ?_ | refine wIa 32 ?_ | (refine tr_guard (t := 42) rfl (fun hb => ?_) (fun hb => ?_) <;> (try simp only [kk] at hb) <;> first | refine wSkip 32 ?_ | refine wSkipU 32 ?_ | refine wIa 32 ?_))
        all_goals (first | refine wSkip 33 ?_ | refine wSkipU 33 ?_ | refine wFa 33 ?_ | (refine tr_guard (t := 42) rfl (fun hb => ?_) (fun hb => ?_) <;> (try simp only [kk] at hb) <;> first | refine wSkip 33 ?_ | refine wSkipU 33 ?_ | refine wFa 33 ?_))
        all_goals (first | refine wSkip 34 ?_ | refine wSkipU 34 ?_ | refine wLd 34 ?_ | (refine tr_guard (t := 42) rfl (fun hb => ?_) (fun hb => ?_) <;> (try simp only [kk] at hb) <;> first | refine wSkip 34 ?_ | refine wSkipU 34 ?_ | refine wLd 34 ?_))
        all_goals (first | refine wSkip 36 ?_ | refine wSkipU 36 ?_ | refine wFa 36 ?_ | (refine tr_guard (t := 42) rfl (fun hb => ?_) (fun hb => ?_) <;> (try simp only [kk] at hb) <;> first | refine wSkip 36 ?_ | refine wSkipU 36 ?_ | refine wFa 36 ?_))
        all_goals (first | refine wSkip 37 ?_ | refine wSkipU 37 ?_ | refine wLd 37 ?_ | (refine tr_guard (t := 42) rfl (fun hb => ?_) (fun hb => ?_) <;> (try simp only [kk] at hb) <;> first | refine wSkip 37 ?_ | refine wSkipU 37 ?_ | refine wLd 37 ?_))
        all_goals (first | refine wSkip 35 ?_ | refine wSkipU 35 ?_ | (refine rStep (i := 35) ?_; ((try refine qWant ?_); (first | (refine qEf ?_; try intro _)) <;> ((try simp only [kM, kN, kO]); refine tl_nil ?_; refine rNext ?_))))
        all_goals (first | refine wSkip 38 ?_ | refine wSkipU 38 ?_ | (refine rStep (i := 38) ?_; ((try refine qWant ?_); (first | (refine qEf ?_; try intro _)) <;> ((try simp only [kM, kN, kO]); refine tl_nil ?_; refine rNext ?_))))
        all_goals refine rFull ?_
        all_goals (first | refine wSkip 39 ?_ | refine wSkipU 39 ?_ | refine wCm 39 ?_ | (refine tr_guard (t := 42) rfl (fun hb => ?_) (fun hb => ?_) <;> (try simp only [kk] at hb) <;> first | refine wSkip 39 ?_ | refine wSkipU 39 ?_ | refine wCm 39 ?_))
        all_goals (first | refine wSkip 40 ?_ | refine wSkipU 40 ?_ | refine wPk 40 ?_ | (refine tr_guard (t := 39) rfl (fun hb => ?_) (fun hb => ?_) <;> (try simp only [kk] at hb) <;> first | refine wSkip 40 ?_ | refine wSkipU 40 ?_ | refine wPk 40 ?_))
        all_goals refine rPk 41 ?_
        all_goals refine rDone ?_
        repeat' (first | (refine i_op ?_; first | (refine i_qq ?_; refine qQ ?_) | refine qEf ?_) | refine tl_nil ?_ | (refine i_tc ?_; refine qTc ?_) | (refine i_te ?_; refine qTe ?_) | intro _)
        exact qE ⟨rfl, rfl, rfl⟩
    · rw [hx (0 < x.page) (fun e => (hkx e).2.1) p0]
      repeat' (first | (refine i_op ?_; first | (refine i_qq ?_; refine qQ ?_) | refine qEf ?_) | refine tl_nil ?_ | (refine i_tc ?_; refine qTc ?_) | (refine i_te ?_; refine qTe ?_) | intro _)
      refine tc_any (Stays _ _ _) stays_refl ?_
      all_goals refine rFa 0 ?_
      all_goals refine rLd 1 ?_
      all_goals refine rCm 2 ?_
      all_goals refine rMv 3 ?_
      all_goals (first | refine wSkip 4 ?_ | refine wSkipU 4 ?_ | refine wFa 4 ?_ | (refine tr_guard (t := 17) rfl (fun hb => ?_) (fun hb => ?_) <;> (try simp only [kk] at hb) <;> first | refine wSkip 4 ?_ | refine wSkipU 4 ?_ | refine wFa 4 ?_))
      all_goals (first | refine wSkip 5 ?_ | refine wSkipU 5 ?_ | refine wLd 5 ?_ | (refine tr_guard (t := 17) rfl (fun hb => ?_) (fun hb => ?_) <;> (try simp only [kk] at hb) <;> first | refine wSkip 5 ?_ | refine wSkipU 5 ?_ | refine wLd 5 ?_))
      all_goals (first | refine wSkip 6 ?_ | refine wSkipU 6 ?_ | refine wCm 6 ?_ | (refine tr_guard (t := 17) rfl (fun hb => ?_) (fun hb => ?_) <;> (try simp only [kk] at hb) <;> first | refine wSkip 6 ?_ | refine wSkipU 6 ?_ | refine wCm 6 ?_))
      all_goals refine rPk 7 ?_
      all_goals refine rMv 8 ?_
      all_goals (first | refine wSkip 9 ?_ | refine wSkipU 9 ?_ | refine wFa 9 ?_ | (refine tr_guard (t := 22) rfl (fun hb => ?_) (fun hb => ?_) <;> (try simp only [kk] at hb) <;> first | refine wSkip 9 ?_ | refine wSkipU 9 ?_ | refine wFa 9 ?_))
      all_goals (first | refine wSkip 10 ?_ | refine wSkipU 10 ?_ | refine wFa 10 ?_ | (refine tr_guard (t := 22) rfl (fun hb => ?_) (fun hb => ?_) <;> (try simp only [kk] at hb) <;> first | refine wSkip 10 ?_ | refine wSkipU 10 ?_ | refine wFa 10 ?_))
      all_goals (first | refine wSkip 11 ?_ | refine wSkipU 11 ?_ | refine wLd 11 ?_ | (refine tr_guard (t := 22) rfl (fun hb => ?_) (fun hb => ?_) <;> (try simp only [kk] at hb) <;> first | refine wSkip 11 ?_ | refine wSkipU 11 ?_ | refine wLd 11 ?_))
      all_goals (first | refine wSkip 12 ?_ | refine wSkipU 12 ?_ | (refine rStep (i := 12) ?_; ((try refine qWant ?_); (first | (refine qEf ?_; try intro _)) <;> ((try simp only [kM, kN, kO]); refine tl_nil ?_; refine rNext ?_))))
      all_goals (first | refine wSkip 13 ?_ | refine wSkipU 13 ?_ | refine wUn 13 ?_ | (refine tr_guard (t := 22) rfl (fun hb => ?_) (fun hb => ?_) <;> (try simp only [kk] at hb) <;> first | refine wSkip 13 ?_ | refine wSkipU 13 ?_ | refine wUn 13 ?_))
      all_goals refine rPk 14 ?_
      all_goals refine rMv 15 ?_
      all_goals (first | refine wSkip 16 ?_ | refine wSkipU 16 ?_ | refine wMv 16 ?_ | (refine tr_guard (t := 29) rfl (fun hb => ?_) (fun hb => ?_) <;> (try simp only [kk] at hb) <;> first | refine wSkip 16 ?_ | refine wSkipU 16 ?_ | refine wMv 16 ?_))
      all_goals (first | refine wSkip 17 ?_ | refine wSkipU 17 ?_ | refine wCm 17 ?_ | (refine tr_guard (t := 29) rfl (fun hb => ?_) (fun hb => ?_) <;> (try simp only [kk] at hb) <;> first | refine wSkip 17 ?_ | refine wSkipU 17 ?_ | refine wCm 17 ?_))
      all_goals (first | refine wSkip 18 ?_ | refine wSkipU 18 ?_ | refine wMv 18 ?_ | (refine tr_guard (t := 29) rfl (fun hb => ?_) (fun hb => ?_) <;> (try simp only [kk] at hb) <;> first | refine wSkip 18 ?_ | refine wSkipU 18 ?_ | refine wMv 18 ?_))
      all_goals (first | refine wSkip 19 ?_ | refine wSkipU 19 ?_ | refine wFa 19 ?_ | (refine tr_guard (t := 32) rfl (fun hb => ?_) (fun hb => ?_) <;> (try simp only [kk] at hb) <;> first | refine wSkip 19 ?_ | refine wSkipU 19 ?_ | refine wFa 19 ?_))
      all_goals (first | refine wSkip 20 ?_ | refine wSkipU 20 ?_ | refine wLd 20 ?_ | (refine tr_guard (t := 32) rfl (fun hb => ?_) (fun hb => ?_) <;> (try simp only [kk] at hb) <;> first | refine wSkip 20 ?_ | refine wSkipU 20 ?_ | refine wLd 20 ?_))
      all_goals (first | refine wSkip 21 ?_ | refine wSkipU 21 ?_ | refine wBu 21 ?_ | (refine tr_guard (t := 32) rfl (fun hb => ?_) (fun hb => ?_) <;> (try simp only [kk] at hb) <;> first | refine wSkip 21 ?_ | refine wSkipU 21 ?_ | refine wBu 21 ?_))
      all_goals (first | refine wSkip 22 ?_ | refine wSkipU 22 ?_ | refine wCm 22 ?_ | (refine tr_guard (t := 32) rfl (fun hb => ?_) (fun hb => ?_) <;> (try simp only [kk] at hb) <;> first | refine wSkip 22 ?_ | refine wSkipU 22 ?_ | refine wCm 22 ?_))
      all_goals (first | refine wSkip 23 ?_ | refine wSkipU 23 ?_ | refine wPk 23 ?_ | (refine tr_guard (t := 29) rfl (fun hb => ?_) (fun hb => ?_) <;> (try simp only [kk] at hb) <;> first | refine wSkip 23 ?_ | refine wSkipU 23 ?_ | refine wPk 23 ?_))
      all_goals refine rPk 24 ?_
      all_goals refine rMv 25 ?_
      all_goals (first | refine wSkip 26 ?_ | refine wSkipU 26 ?_ | refine wMv 26 ?_ | (refine tr_guard (t := 39) rfl (fun hb => ?_) (fun hb => ?_) <;> (try simp only [kk] at hb) <;> first | refine wSkip 26 ?_ | refine wSkipU 26 ?_ | refine wMv 26 ?_))
      all_goals (first | refine wSkip 27 ?_ | refine wSkipU 27 ?_ | refine wCm 27 ?_ | (refine tr_guard (t := 39) rfl (fun hb => ?_) (fun hb => ?_) <;> (try simp only [kk] at hb) <;> first | refine wSkip 27 ?_ | refine wSkipU 27 ?_ | refine wCm 27 ?_))
      all_goals (first | refine wSkip 28 ?_ | refine wSkipU 28 ?_ | refine wMv 28 ?_ | (refine tr_guard (t := 39) rfl (fun hb => ?_) (fun hb => ?_) <;> (try simp only [kk] at hb) <;> first | refine wSkip 28 ?_ | refine wSkipU 28 ?_ | refine wMv 28 ?_))
      all_goals (first | refine wSkip 29 ?_ | refine wSkipU 29 ?_ | refine wMv 29 ?_ | (refine tr_guard (t := 42) rfl (fun hb => ?_) (fun hb => ?_) <;> (try simp only [kk] at hb) <;> first | refine wSkip 29 ?_ | refine wSkipU 29 ?_ | refine wMv 29 ?_))
      all_goals (first | refine wSkip 30 ?_ | refine wSkipU 30 ?_ | refine wMv 30 ?_ | (refine tr_guard (t := 42) rfl (fun hb => ?_) (fun hb => ?_) <;> (try simp only [kk] at hb) <;> first | refine wSkip 30 ?_ | refine wSkipU 30 ?_ | refine wMv 30 ?_))
      all_goals (first | refine wSkip 31 ?_ | refine wSkipU 31 ?_ | refine wSb 31 ?_ | (refine tr_guard (t := 42) rfl (fun hb => ?_) (fun hb => ?_) <;> (try simp only [kk] at hb) <;> first | refine wSkip 31 ?_ | refine wSkipU 31 ?_ | refine wSb 31 ?_))
      all_goals (first | refine wSkip 32 ?_ | refine wSkipU 32 ?_ | refine wIa 32 ?_ | (refine tr_guard (t := 42) rfl (fun hb => ?_) (fun hb => ?_) <;> (try simp only [kk] at hb) <;> first | refine wSkip 32 ?_ | refine wSkipU 32 ?_ | refine wIa 32 ?_))
      all_goals (first | refine wSkip 33 ?_ | refine wSkipU 33 ?_ | refine wFa 33 ?_ | (refine tr_guard (t := 42) rfl (fun hb => ?_) (fun hb => ?_) <;> (try simp only [kk] at hb) <;> first | refine wSkip 33 ?_ | refine wSkipU 33 ?_ | refine wFa 33 ?_))
      all_goals (first | refine wSkip 34 ?_ | refine wSkipU 34 ?_ | refine wLd 34 ?_ | (refine tr_guard (t := 42) rfl (fun hb => ?_) (fun hb => ?_) <;> (try simp only [kk] at hb) <;> first | refine wSkip 34 ?_ | refine wSkipU 34 ?_ | refine wLd 34 ?_))
      all_goals (first | refine wSkip 36 ?_ | refine wSkipU 36 ?_ | refine wFa 36 ?_ | (refine tr_guard (t := 42) rfl (fun hb => ?_) (fun hb => ?_) <;> (try simp only [kk] at hb) <;> first | refine wSkip 36 ?_ | refine wSkipU 36 ?_ | refine wFa 36 ?_))
      all_goals (first | refine wSkip 37 ?_ | refine wSkipU 37 ?_ | refine wLd 37 ?_ | (refine tr_guard (t := 42) rfl (fun hb => ?_) (fun hb => ?_) <;> (try simp only [kk] at hb) <;> first | refine wSkip 37 ?_ | refine wSkipU 37 ?_ | refine wLd 37 ?_))
      all_goals (first | refine wSkip 35 ?_ | refine wSkipU 35 ?_ | (refine rStep (i := 35) ?_; ((try refine qWant ?_); (first | (refine qEf ?_; try intro _)) <;> ((try simp only [kM, kN, kO]); refine tl_nil ?_; refine rNext ?_))))
      all_goals (first | refine wSkip 38 ?_ | refine wSkipU 38 ?_ | (refine rStep (i := 38) ?_; ((try refine qWant ?_); (first | (refine qEf ?_; try intro _)) <;> ((try simp only [kM, kN, kO]); refine tl_nil ?_; refine rNext ?_))))
      all_goals refine rFull ?_
      all_goals (first | refine wSkip 39 ?_ | refine wSkipU 39 ?_ | refine wCm 39 ?_ | (refine tr_guard (t := 42) rfl (fun hb => ?_) (fun hb => ?_) <;> (try simp only [kk] at hb) <;> first | refine wSkip 39 ?_ | refine wSkipU 39 ?_ | refine wCm 39 ?_))
      all_goals (first | refine wSkip 40 ?_ | refine wSkipU 40 ?_ | refine wPk 40 ?_ | (refine tr_guard (t := 39) rfl (fun hb => ?_) (fun hb => ?_) <;> (try simp only [kk] at hb) <;> first | refine wSkip 40 ?_ | refine wSkipU 40 ?_ | refine wPk 40 ?_))
      all_goals refine rPk 41 ?_
      all_goals refine rDone ?_
      repeat' (first | (refine i_op ?_; first | (refine i_qq ?_; refine qQ ?_) | refine qEf ?_) | refine tl_nil ?_ | (refine i_tc ?_; refine qTc ?_) | (refine i_te ?_; refine qTe ?_) | intro _)
      exact qE ⟨rfl, rfl, rfl⟩
  · have hk2 : k = n := by omega
    subst hk2
    rw [hok, Bool.and_true]
    by_cases h2 : 1 < k
    · by_cases h4 : k ≤ 4
      · rw [decide_eq_true h4, decide_eq_true h2]
        repeat' (first | (refine i_op ?_; first | (refine i_qq ?_; refine qQ ?_) | refine qEf ?_) | refine tl_nil ?_ | (refine i_tc ?_; refine qTc ?_) | (refine i_te ?_; refine qTe ?_) | intro _)
        exact qE ⟨rfl, rfl, rfl⟩
      · rw [decide_eq_false h4, Bool.and_false]
        repeat' (first | (refine i_op ?_; first | (refine i_qq ?_; refine qQ ?_) | refine qEf ?_) | refine tl_nil ?_ | (refine i_tc ?_; refine qTc ?_) | (refine i_te ?_; refine qTe ?_) | intro _)
        exact qE ⟨rfl, rfl, rfl⟩
    · rw [decide_eq_false h2, Bool.false_and]
      repeat' (first | (refine i_op ?_; first | (refine i_qq ?_; refine qQ ?_) | refine qEf ?_) | refine tl_nil ?_ | (refine i_tc ?_; refine qTc ?_) | (refine i_te ?_; refine qTe ?_) | intro _)
      exact qE ⟨rfl, rfl, rfl⟩
end Go.Proofs.E

namespace Go.Proofs.E
open Go
set_option linter.unusedVariables false
set_option linter.unusedSimpArgs false
set_option linter.unusedSectionVars false
set_option maxRecDepth 4000
set_option maxHeartbeats 1000000
attribute [local irreducible] Yl TL TC TE Spec YSpec R1 Hp.le EnvLe TS TR YS Stays
theorem right_spec (ρ : Hp) (v : CV) (c : Cont) (h : CIn ρ v c.rows c.kids) (hir : ∀ r ∈ c.rows, r.id < 65536) (hik : ∀ k ∈ c.kids, k.id < 65536) : Spec Tryz.prog 178 [.agg ⟨contV c.kind v⟩] ρ [] (fun r ρ' L' => r = .bool (contOk c) ∧ ρ' = ρ ∧ L' = []) := by
  obtain ⟨kind, rows, kids⟩ := c
  obtain ⟨ra, rn, rc, ka, kn, kc⟩ := v
  obtain ⟨hr, hk, hrb, hkb, hrc, hkc⟩ := h
  dsimp only at hr hk hrb hkb hrc hkc hir hik
  have hrl := hr.len
  have hkl := hk.len
  have hrs := rowsR_spec ρ ra rn rc rows hr hrb hir
  have hks := kidsR_spec ρ ka kn kc kids hk hkb hkc hik
  generalize hq : contOk ⟨kind, rows, kids⟩ = q
  unfold contOk at hq
  simp only [hrl, hkl] at hq
  refine spec_enter Tryz.func178 rfl rfl rfl fun u R => ?_
  simp only [argsE, List.cons_append, List.nil_append]
  by_cases k0 : kind = 0
  · rw [if_pos k0] at hq
    by_cases hz : rn = 0
    · by_cases hz2 : kn = 0
      · rw [decide_eq_true (show rn + kn = 0 by omega)] at hq
        subst hq
        repeat' (first | (refine i_op ?_; first | (refine i_qq ?_; refine qQ ?_) | refine qEf ?_) | refine tl_nil ?_ | (refine i_tc ?_; refine qTc ?_) | (refine i_te ?_; refine qTe ?_) | intro _)
        exact qE ⟨rfl, rfl, rfl⟩
      · rw [decide_eq_false (show ¬ rn + kn = 0 by omega)] at hq
        subst hq
        repeat' (first | (refine i_op ?_; first | (refine i_qq ?_; refine qQ ?_) | refine qEf ?_) | refine tl_nil ?_ | (refine i_tc ?_; refine qTc ?_) | (refine i_te ?_; refine qTe ?_) | intro _)
        exact qE ⟨rfl, rfl, rfl⟩
    · rw [decide_eq_false (show ¬ rn + kn = 0 by omega)] at hq
      subst hq
      repeat' (first | (refine i_op ?_; first | (refine i_qq ?_; refine qQ ?_) | refine qEf ?_) | refine tl_nil ?_ | (refine i_tc ?_; refine qTc ?_) | (refine i_te ?_; refine qTe ?_) | intro _)
      exact qE ⟨rfl, rfl, rfl⟩
  · rw [if_neg k0] at hq
    by_cases k1 : kind = 1
    · rw [if_pos k1] at hq
      by_cases hz : kn = 0
      · rw [decide_eq_true hz, Bool.true_and] at hq
        rw [hq] at hrs
        repeat' (first | (refine tl_is (.func 245) ?_; refine qC rfl rfl (hrs) ?_; rintro v ρ' L' hle ⟨rfl, rfl, rfl⟩ <;> (try simp only [kM, kN, kO])) | (refine i_op ?_; first | (refine i_qq ?_; refine qQ ?_) | refine qEf ?_) | refine tl_nil ?_ | (refine i_tc ?_; refine qTc ?_) | (refine i_te ?_; refine qTe ?_) | intro _)
        exact qE ⟨rfl, rfl, rfl⟩
      · rw [decide_eq_false hz, Bool.false_and] at hq
        subst hq
        repeat' (first | (refine i_op ?_; first | (refine i_qq ?_; refine qQ ?_) | refine qEf ?_) | refine tl_nil ?_ | (refine i_tc ?_; refine qTc ?_) | (refine i_te ?_; refine qTe ?_) | intro _)
        exact qE ⟨rfl, rfl, rfl⟩
    · rw [if_neg k1] at hq
      by_cases k2 : kind = 2
      · rw [if_pos k2] at hq
        by_cases hz : rn = 0
        · rw [decide_eq_true hz, Bool.true_and] at hq
          rw [hq] at hks
          repeat' (first | (refine tl_is (.func 246) ?_; refine qC rfl rfl (hks) ?_; rintro v ρ' L' hle ⟨rfl, rfl, rfl⟩ <;> (try simp only [kM, kN, kO])) | (refine i_op ?_; first | (refine i_qq ?_; refine qQ ?_) | refine qEf ?_) | refine tl_nil ?_ | (refine i_tc ?_; refine qTc ?_) | (refine i_te ?_; refine qTe ?_) | intro _)
          exact qE ⟨rfl, rfl, rfl⟩
        · rw [decide_eq_false hz, Bool.false_and] at hq
          subst hq
          repeat' (first | (refine i_op ?_; first | (refine i_qq ?_; refine qQ ?_) | refine qEf ?_) | refine tl_nil ?_ | (refine i_tc ?_; refine qTc ?_) | (refine i_te ?_; refine qTe ?_) | intro _)
          exact qE ⟨rfl, rfl, rfl⟩
      · rw [if_neg k2] at hq
        subst hq
        repeat' (first | (refine i_op ?_; first | (refine i_qq ?_; refine qQ ?_) | refine qEf ?_) | refine tl_nil ?_ | (refine i_tc ?_; refine qTc ?_) | (refine i_te ?_; refine qTe ?_) | intro _)
        exact qE ⟨rfl, rfl, rfl⟩
end Go.Proofs.E

namespace Go.Proofs.E
open Go
set_option linter.unusedVariables false
set_option linter.unusedSimpArgs false
set_option linter.unusedSectionVars false
set_option maxRecDepth 4000
set_option maxHeartbeats 1000000
attribute [local irreducible] Yl TL TC TE Spec YSpec R1 Hp.le EnvLe TS TR YS Stays
/-! ## records as data -/
/-- a content that stands in memory, with what may stand in rows and kids -/
structure CI (ρ : Hp) (v : CV) (c : Cont) : Prop where
  cin : CIn ρ v c.rows c.kids
  row : ∀ r ∈ c.rows, RowFit r
  kid : ∀ k ∈ c.kids, k.id < 65536
theorem CI.mono {ρ ρ' v c} (h : CI ρ v c) (hle : ρ.le ρ') : CI ρ' v c := ⟨h.cin.mono hle, h.row, h.kid⟩
theorem CI.nil {ρ : Hp} : CI ρ ⟨none, 0, 0, none, 0, 0⟩ ⟨0, [], []⟩ := ⟨CIn.nil, by simp, by simp⟩
/-- an image: what it says, and where its rows and kids stand -/
structure Im where
  page : Int
  bv : CV
  b : Cont
  av : CV
  a : Cont
abbrev imV (x : Im) : List Value := [.int .i64 x.page, .int .i64 x.b.kind, .slice x.bv.ra x.bv.rn x.bv.rc, .slice x.bv.ka x.bv.kn x.bv.kc, .int .i64 x.a.kind, .slice x.av.ra x.av.rn x.av.rc, .slice x.av.ka x.av.kn x.av.kc]
structure Im.In (ρ : Hp) (x : Im) : Prop where
  b : CI ρ x.bv x.b
  a : CI ρ x.av x.a
theorem Im.In.mono {ρ ρ' x} (h : Im.In ρ x) (hle : ρ.le ρ') : Im.In ρ' x := ⟨h.b.mono hle, h.a.mono hle⟩
/-- what an image says -/
abbrev Im.says (x : Im) : Int × Cont × Cont := (x.page, x.b, x.a)
structure Stp where
  kind : Int
  row : Row
  by' : Int
deriving DecidableEq
abbrev stpV (s : Stp) : List Value := [.int .i64 s.kind, .int .i64 s.row.t, .int .u16 s.row.id, .int .i64 s.row.val, strV s.row.note, .int .i64 s.by']
structure CkT where
  txn : Int
  first : Nat
  last : Nat
  undo : Nat
  state : Int
deriving DecidableEq
abbrev ckTV (t : CkT) : List Value := [.int .i64 t.txn, .int .u64 t.first, .int .u64 t.last, .int .u64 t.undo, .int .i64 t.state]
structure CkP where
  page : Int
  since : Nat
deriving DecidableEq
abbrev ckPV (p : CkP) : List Value := [.int .i64 p.page, .int .u64 p.since]
structure Rc where
  kind : Int
  lsn : Nat
  txn : Int
  prev : Nat
  next : Nat
  ims : List Im
  steps : List Stp
  nextTxn : Int
  txns : List CkT
  dirty : List CkP
/-- where a slice stands -/
structure SV where
  a : Option Addr
  n : Nat
  c : Nat
abbrev SV.v (s : SV) : Value := .slice s.a s.n s.c
structure RV where
  i : SV
  s : SV
  t : SV
  d : SV
abbrev recV (v : RV) (r : Rc) : List Value := [.int .i64 r.kind, .int .u64 r.lsn, .int .i64 r.txn, .int .u64 r.prev, .int .u64 r.next, .slice v.i.a v.i.n v.i.c, .slice v.s.a v.s.n v.s.c, .int .i64 r.nextTxn, .slice v.t.a v.t.n v.t.c, .slice v.d.a v.d.n v.d.c]
theorem imV_len (x : Im) : (imV x).length = 7 := rfl
theorem stpV_len (x : Stp) : (stpV x).length = 6 := rfl
theorem ckTV_len (x : CkT) : (ckTV x).length = 5 := rfl
theorem ckPV_len (x : CkP) : (ckPV x).length = 2 := rfl
/-- a slice of parts, not too long -/
structure AS (ρ : Hp) (sz : Nat) {α : Type} (g : α → List Value) (s : SV) (l : List α) : Prop where
  at' : AIn ρ sz g s.a s.n l
  big : s.n ≤ 1000000
  cap : s.n ≤ s.c
theorem AS.mono {ρ ρ' : Hp} {sz : Nat} {α : Type} {g : α → List Value} {s : SV} {l : List α} (h : AS ρ sz g s l) (hle : ρ.le ρ') : AS ρ' sz g s l := ⟨h.at'.mono hle, h.big, h.cap⟩
theorem AS.nil {ρ : Hp} {sz : Nat} {α : Type} {g : α → List Value} : AS ρ sz g ⟨none, 0, 0⟩ [] := ⟨AIn.nil, Nat.zero_le _, Nat.le_refl _⟩
/-- a record stands in memory -/
structure RcIn (ρ : Hp) (v : RV) (r : Rc) : Prop where
  i : AS ρ 7 imV v.i r.ims
  im : ∀ x ∈ r.ims, Im.In ρ x
  s : AS ρ 6 stpV v.s r.steps
  t : AS ρ 5 ckTV v.t r.txns
  d : AS ρ 2 ckPV v.d r.dirty
  sf : ∀ s ∈ r.steps, RowFit s.row
theorem RcIn.mono {ρ ρ' v r} (h : RcIn ρ v r) (hle : ρ.le ρ') : RcIn ρ' v r := ⟨h.i.mono hle, fun x hx => (h.im x hx).mono hle, h.s.mono hle, h.t.mono hle, h.d.mono hle, h.sf⟩
/-! ### which records may be -/
def upB {α : Type} (right : α → Bool) (by' : α → Int) (l : List α) (k : Nat) : Bool := risesB l.length (fun _ x => right x) (fun y x => decide (by' y < by' x)) l k
def pageOk (n : Int) : Bool := decide (0 ≤ n ∧ n < 64)
def imOk (before : Bool) (x : Im) : Bool := pageOk x.page && (contOk x.a && (contOk x.b && (before || decide (x.b.kind = 0))))
def imsOk (before : Bool) (l : List Im) : Bool := decide (l.length ≤ 16) && upB (imOk before) Im.page l l.length
def onlyOk (s : Stp) : Bool := decide (s.row.val = 0 ∧ s.row.note = []) && decide (0 ≤ s.row.t ∧ s.row.t < 3)
def stepOk (s : Stp) : Bool :=
  if s.kind = 1 then onlyOk s
  else if s.kind = 4 then onlyOk s && decide (s.by' = 0)
  else if s.kind = 2 ∨ s.kind = 3 then decide (s.by' = 0) && rowOk s.row
  else false
def ckTOk (lsn : Nat) (next : Int) (t : CkT) : Bool := decide (1 ≤ t.txn ∧ t.txn < next ∧ 1 ≤ t.first ∧ t.first ≤ t.last ∧ t.last < lsn ∧ t.undo ≤ t.last ∧ 1 ≤ t.state ∧ t.state ≤ 3)
def ckPOk (lsn : Nat) (p : CkP) : Bool := pageOk p.page && decide (1 ≤ p.since ∧ p.since < lsn)
def headOk (r : Rc) : Bool := decide (1 ≤ r.lsn ∧ r.lsn ≤ 1099511627776 ∧ r.prev < r.lsn ∧ 0 ≤ r.txn ∧ r.txn ≤ 1073741824 ∧ (r.kind = 9 ↔ r.txn = 0) ∧ ((r.kind = 9 ∨ r.kind = 1) ↔ r.prev = 0))
/-- what is asked of a kind: what it blanks -/
def askOk (r : Rc) : Bool :=
  if r.kind = 2 then decide (0 < r.ims.length) && imsOk true r.ims
  else if r.kind = 3 then decide (r.next < r.prev)
  else if r.kind = 4 then decide (r.next < r.prev) && (decide (0 < r.steps.length ∧ r.steps.length ≤ 2) && r.steps.all stepOk)
  else if r.kind = 5 then decide (r.next < r.lsn) && imsOk false r.ims
  else if r.kind = 9 then decide (1 ≤ r.nextTxn ∧ r.nextTxn ≤ 1073741824 ∧ r.txns.length ≤ 8) && (upB (ckTOk r.lsn r.nextTxn) CkT.txn r.txns r.txns.length && upB (ckPOk r.lsn) CkP.page r.dirty r.dirty.length)
  else true
/-- nothing besides -/
def bareOk (r : Rc) : Bool := decide (
  (r.next = 0 ∨ r.kind = 3 ∨ r.kind = 4 ∨ r.kind = 5) ∧ (r.ims = [] ∨ r.kind = 2 ∨ r.kind = 5) ∧ (r.steps = [] ∨ r.kind = 4) ∧
  ((r.txns = [] ∧ r.dirty = [] ∧ r.nextTxn = 0) ∨ r.kind = 9))
def recOk (r : Rc) : Bool := decide (1 ≤ r.kind ∧ r.kind ≤ 9) && (headOk r && (askOk r && bareOk r))
end Go.Proofs.E

