/- The law RecordLays. Part 10 of 21. -/
import Derived.Test.YtjajdpfdhokkhaaGreatQ9
namespace Go.Proofs.E
open Go
set_option linter.unusedVariables false
set_option linter.unusedSimpArgs false
set_option linter.unusedSectionVars false
set_option maxRecDepth 4000
set_option maxHeartbeats 1000000
attribute [local irreducible] Yl TL TC TE Spec YSpec R1 Hp.le EnvLe TS TR YS Stays
theorem psTo_mem {l : List Kid} {k : Nat} {p : Int} : p ∈ psTo l k ↔ ∃ x ∈ l.take k, x.page = p := by simp only [psTo, List.mem_reverse, List.mem_map]
theorem kidsR_spec (ρ : Hp) (a : Option Addr) (n c : Nat) (l : List Kid) (h : AIn ρ 3 kidV a n l) (hn : n ≤ 1000000) (hnc : n ≤ c) (hid : ∀ r ∈ l, r.id < 65536) :
    Spec Tryz.prog 246 [.slice a n c] ρ [] (fun v ρ' L' => v = .bool (decide (1 < n) && kidsOk l) ∧ ρ' = ρ ∧ L' = []) := by
  have hl := h.len
  unfold kidsOk
  rw [risesB_split, hl]
  refine spec_enter Tryz.func246 rfl rfl rfl fun u R => ?_
  simp only [argsE, List.cons_append, List.nil_append]
  generalize hrt : (fun (i : Nat) (k : Kid) => kidOk i (psTo l i) k) = rt
  repeat' (first | (refine i_op ?_; first | (refine i_qq ?_; refine qQ ?_) | refine qEf ?_) | refine tl_nil ?_ | (refine i_tc ?_; refine qTc ?_) | (refine i_te ?_; refine qTe ?_) | intro _)
  refine tc_loop_g [(0, _), (2, _), (7, _), (8, _)] (fun (ζ : (Nat)) => [(9, .int .i64 ζ)]) (fun (ζ : (Nat)) => ρ) (fun (ζ : (Nat)) => []) (fun (ζ : (Nat)) => ζ ≤ n ∧ risesB n rt ltK l ζ = true) (fun (ζ : (Nat)) => n - ζ) (0) (⟨Nat.zero_le _, by rw [risesB, hl]; exact decide_eq_true (Nat.le_refl _)⟩) ev_le ev_le rfl tk ?_
  rintro k hI
  try simp only [List.cons_append, List.nil_append, List.append_assoc, List.append_eq] at hI ⊢
  try dsimp only at hI ⊢
  obtain ⟨hk, hok⟩ := hI
  by_cases hlt : k < n
  · have hsub := h.take (hi' := k) (by omega)
    obtain ⟨b, off, C, T, fr, rfl, hb, hfit, hc⟩ := h.get (show k < l.length by omega)
    have hs := risesB_succ (most := n) (right := rt) (lt := ltK) (show k < l.length by omega)
    rw [hok, Bool.true_and] at hs
    have hrk : rt k (l[k]'(by omega)) = kidOk k (psTo l k) (l[k]'(by omega)) := by rw [← hrt]
    rw [hrk] at hs
    have hfin := fun (e : risesB n rt ltK l (k + 1) = false) => risesB_false' e (show k + 1 ≤ n by omega)
    have hmem : l[k]'(by omega) ∈ l := List.getElem_mem _
    have hidk := hid _ hmem
    have hx : ∀ P : Prop, (kidOk k (psTo l k) (l[k]'(by omega)) = true → P) → ¬ P → (decide (1 < n) && (decide (n ≤ 4) && risesB n rt ltK l n)) = false := fun P h1 h2 => by
      have : kidOk k (psTo l k) (l[k]'(by omega)) = false := by
        cases e : kidOk k (psTo l k) (l[k]'(by omega))
        · rfl
        · exact absurd (h1 e) h2
      rw [this, Bool.false_and] at hs
      rw [hfin hs]; simp
    have hkx : kidOk k (psTo l k) (l[k]'(by omega)) = true → (l[k]'(by omega)).page ∉ psTo l k ∧ 0 < (l[k]'(by omega)).page ∧ (l[k]'(by omega)).page < 64 ∧ (0 ≤ (l[k]'(by omega)).t ∧ (l[k]'(by omega)).t < 3) ∧ (0 < k ∨ ((l[k]'(by omega)).t = 0 ∧ (l[k]'(by omega)).id = 0)) := fun e => of_decide_eq_true e
    generalize hX : l[k]'(by omega) = x at *
    by_cases p0 : 0 < x.page
    · by_cases p6 : x.page < 64
      · by_cases ht : 0 ≤ x.t ∧ x.t < 3
        · have hd : decide (0 ≤ x.t ∧ x.t < 3) = true := decide_eq_true ht
          by_cases hk0 : k = 0
          · by_cases hz : x.t = 0 ∧ x.id = 0
            · have hkk : ((x.t == 0) && (((x.id : Int) == 0) && true)) = true := by simp [hz.1, hz.2]
              repeat' (first | (refine i_op ?_; first | (refine i_qq ?_; refine qQ ?_) | refine qEf ?_) | refine tl_nil ?_ | (refine i_tc ?_; refine qTc ?_) | (refine i_te ?_; refine qTe ?_) | intro _)
              rename_i b4
              refine tc_any (Stays _ _ _) stays_refl ?_
              all_goals refine rFa 0 ?_
              all_goals refine rLd 1 ?_
              all_goals refine rCm 2 ?_
              all_goals refine rMv 3 ?_
              all_goals (first | refine wSkip 4 ?_ | refine wSkipU 4 ?_ | refine wFa 4 ?_ | (refine tr_guard (t := 17) rfl (fun hb => ?_) (fun hb => ?_) <;> (try simp only [kk] at hb) <;> first | refine wSkip 4 ?_ | refine wSkipU 4 ?_ | refine wFa 4 ?_))
              all_goals (first | refine wSkip 5 ?_ | refine wSkipU 5 ?_ | refine wLd 5 ?_ | (refine tr_guard (t := 17) rfl (fun hb => ?_) (fun hb => ?_) <;> (try simp only [kk] at hb) <;> first | refine wSkip 5 ?_ | refine wSkipU 5 ?_ | refine wLd 5 ?_))
              all_goals (first | refine wSkip 6 ?_ | refine wSkipU 6 ?_ | refine wCm 6 ?_ | (refine tr_guard (t := 17) rfl (fun hb => ?_) (fun hb => ?_) <;> (try simp only [kk] at hb) <;> first | refine wSkip 6 ?_ | refine wSkipU 6 ?_ | refine wCm 6 ?_))
              all_goals refine rPk 7 ?_
              all_goals refine rMv 8 ?_
              all_goals (first | refine wSkip 9 ?_ | refine wSkipU 9 ?_ | refine wFa 9 ?_ | (refine tr_guard (t := 22) rfl (fun hb => ?_) (fun hb => ?_) <;> (try simp only [kk] at hb) <;> first | refine wSkip 9 ?_ | refine wSkipU 9 ?_ | refine wFa 9 ?_))
              all_goals (first | refine wSkip 10 ?_ | refine wSkipU 10 ?_ | refine wFa 10 ?_ | (refine tr_guard (t := 22) rfl (fun hb => ?_) (fun hb => ?_) <;> (try simp only [kk] at hb) <;> first | refine wSkip 10 ?_ | refine wSkipU 10 ?_ | refine wFa 10 ?_))
              all_goals (first | refine wSkip 11 ?_ | refine wSkipU 11 ?_ | refine wLd 11 ?_ | (refine tr_guard (t := 22) rfl (fun hb => ?_) (fun hb => ?_) <;> (try simp only [kk] at hb) <;> first | refine wSkip 11 ?_ | refine wSkipU 11 ?_ | refine wLd 11 ?_))
              all_goals (first | refine wSkip 12 ?_ | refine wSkipU 12 ?_ | (refine rStep (i := 12) ?_; ((try refine qWant ?_); (first | (refine tl_is (.func 243) ?_; refine qC rfl rfl (tableR_spec _ _) ?_; rintro v ρ' L' hle ⟨rfl, rfl, rfl⟩ <;> (try simp only [kM, kN, kO, hd])) | (refine qEf ?_; try intro _)) <;> ((try simp only [kM, kN, kO]); refine tl_nil ?_; refine rNext ?_))))
              all_goals (first | refine wSkip 13 ?_ | refine wSkipU 13 ?_ | refine wUn 13 ?_ | (refine tr_guard (t := 22) rfl (fun hb => ?_) (fun hb => ?_) <;> (try simp only [kk] at hb) <;> first | refine wSkip 13 ?_ | refine wSkipU 13 ?_ | refine wUn 13 ?_))
              all_goals refine rPk 14 ?_
              all_goals refine rMv 15 ?_
              all_goals (first | refine wSkip 16 ?_ | refine wSkipU 16 ?_ | refine wMv 16 ?_ | (refine tr_guard (t := 29) rfl (fun hb => ?_) (fun hb => ?_) <;> (try simp only [kk] at hb) <;> first | refine wSkip 16 ?_ | refine wSkipU 16 ?_ | refine wMv 16 ?_))
              all_goals (first | refine wSkip 17 ?_ | refine wSkipU 17 ?_ | refine wCm 17 ?_ | (refine tr_guard (t := 29) rfl (fun hb => ?_) (fun hb => ?_) <;> (try simp only [kk] at hb) <;> first | refine wSkip 17 ?_ | refine wSkipU 17 ?_ | refine wCm 17 ?_))
              all_goals (first | refine wSkip 18 ?_ | refine wSkipU 18 ?_ | refine wMv 18 ?_ | (refine tr_guard (t := 29) rfl (fun hb => ?_) (fun hb => ?_) <;> (try simp only [kk] at hb) <;> first | refine wSkip 18 ?_ | refine wSkipU 18 ?_ | refine wMv 18 ?_))
              all_goals (first | refine wSkip 19 ?_ | refine wSkipU 19 ?_ | refine wFa 19 ?_ | (refine tr_guard (t := 32) rfl (fun hb => ?_) (fun hb => ?_) <;> (try simp only [kk] at hb) <;> first | refine wSkip 19 ?_ | refine wSkipU 19 ?_ | refine wFa 19 ?_))
              all_goals (first | refine wSkip 20 ?_ | refine wSkipU 20 ?_ | refine wLd 20 ?_ | (refine tr_guard (t := 32) rfl (fun hb => ?_) (fun hb => ?_) <;> (try simp only [kk] at hb) <;> first | refine wSkip 20 ?_ | refine wSkipU 20 ?_ | refine wLd 20 ?_))
              all_goals (first | refine wSkip 21 ?_ | refine wSkipU 21 ?_ | refine wBu 21 ?_ | (refine tr_guard (t := 32) rfl (fun hb => ?_) (fun hb => ?_) <;> (try simp only [kk] at hb) <;> first | refine wSkip 21 ?_ | refine wSkipU 21 ?_ | refine wBu 21 ?_))
              all_goals (first | refine wSkip 22 ?_ | refine wSkipU 22 ?_ | refine wCm 22 ?_ | (refine tr_guard (t := 32) rfl (fun hb => ?_) (fun hb => ?_) <;> (try simp only [kk] at hb) <;> first | refine wSkip 22 ?_ | refine wSkipU 22 ?_ | refine wCm 22 ?_))
              all_goals (first | refine wSkip 23 ?_ | refine wSkipU 23 ?_ | refine wPk 23 ?_ | (refine tr_guard (t := 29) rfl (fun hb => ?_) (fun hb => ?_) <;> (try simp only [kk] at hb) <;> first | refine wSkip 23 ?_ | refine wSkipU 23 ?_ | refine wPk 23 ?_))
              all_goals refine rPk 24 ?_
              all_goals refine rMv 25 ?_
              all_goals (first | refine wSkip 26 ?_ | refine wSkipU 26 ?_ | refine wMv 26 ?_ | (refine tr_guard (t := 39) rfl (fun hb => ?_) (fun hb => ?_) <;> (try simp only [kk] at hb) <;> first | refine wSkip 26 ?_ | refine wSkipU 26 ?_ | refine wMv 26 ?_))
              all_goals (first | refine wSkip 27 ?_ | refine wSkipU 27 ?_ | refine wCm 27 ?_ | (refine tr_guard (t := 39) rfl (fun hb => ?_) (fun hb => ?_) <;> (try simp only [kk] at hb) <;> first | refine wSkip 27 ?_ | refine wSkipU 27 ?_ | refine wCm 27 ?_))
              all_goals (first | refine wSkip 28 ?_ | refine wSkipU 28 ?_ | refine wMv 28 ?_ | (refine tr_guard (t := 39) rfl (fun hb => ?_) (fun hb => ?_) <;> (try simp only [kk] at hb) <;> first | refine wSkip 28 ?_ | refine wSkipU 28 ?_ | refine wMv 28 ?_))
              all_goals (first | refine wSkip 29 ?_ | refine wSkipU 29 ?_ | refine wMv 29 ?_ | (refine tr_guard (t := 42) rfl (fun hb => ?_) (fun hb => ?_) <;> (try simp only [kk] at hb) <;> first | refine wSkip 29 ?_ | refine wSkipU 29 ?_ | refine wMv 29 ?_))
              all_goals (first | refine wSkip 30 ?_ | refine wSkipU 30 ?_ | refine wMv 30 ?_ | (refine tr_guard (t := 42) rfl (fun hb => ?_) (fun hb => ?_) <;> (try simp only [kk] at hb) <;> first | refine wSkip 30 ?_ | refine wSkipU 30 ?_ | refine wMv 30 ?_))
              all_goals (first | refine wSkip 31 ?_ | refine wSkipU 31 ?_ | refine wSb 31 ?_ | (refine tr_guard (t := 42) rfl (fun hb => ?_) (fun hb => ?_) <;> (try simp only [kk] at hb) <;> first | refine wSkip 31 ?_ | refine wSkipU 31 ?_ | refine wSb 31 ?_))
              all_goals (first | refine wSkip 32 ?_ | refine wSkipU 32 ?_ | refine wIa 32 ?_ | (refine tr_guard (t := 42) rfl (fun hb => ?_) (fun hb => ?_) <;> (try simp only [kk] at hb) <;> first | refine wSkip 32 ?_ | refine wSkipU 32 ?_ | refine wIa 32 ?_))
              all_goals (first | refine wSkip 33 ?_ | refine wSkipU 33 ?_ | refine wFa 33 ?_ | (refine tr_guard (t := 42) rfl (fun hb => ?_) (fun hb => ?_) <;> (try simp only [kk] at hb) <;> first | refine wSkip 33 ?_ | refine wSkipU 33 ?_ | refine wFa 33 ?_))
              all_goals (first | refine wSkip 34 ?_ | refine wSkipU 34 ?_ | refine wLd 34 ?_ | (refine tr_guard (t := 42) rfl (fun hb => ?_) (fun hb => ?_) <;> (try simp only [kk] at hb) <;> first | refine wSkip 34 ?_ | refine wSkipU 34 ?_ | refine wLd 34 ?_))
              all_goals (first | refine wSkip 36 ?_ | refine wSkipU 36 ?_ | refine wFa 36 ?_ | (refine tr_guard (t := 42) rfl (fun hb => ?_) (fun hb => ?_) <;> (try simp only [kk] at hb) <;> first | refine wSkip 36 ?_ | refine wSkipU 36 ?_ | refine wFa 36 ?_))
              all_goals (first | refine wSkip 37 ?_ | refine wSkipU 37 ?_ | refine wLd 37 ?_ | (refine tr_guard (t := 42) rfl (fun hb => ?_) (fun hb => ?_) <;> (try simp only [kk] at hb) <;> first | refine wSkip 37 ?_ | refine wSkipU 37 ?_ | refine wLd 37 ?_))
              all_goals (first | refine wSkip 35 ?_ | refine wSkipU 35 ?_ | (refine rStep (i := 35) ?_; ((try refine qWant ?_); (first | (refine qEf ?_; try intro _)) <;> ((try simp only [kM, kN, kO]); refine tl_nil ?_; refine rNext ?_))))
              all_goals (first | refine wSkip 38 ?_ | refine wSkipU 38 ?_ | (refine rStep (i := 38) ?_; ((try refine qWant ?_); (first | (refine qEf ?_; try intro _)) <;> ((try simp only [kM, kN, kO]); refine tl_nil ?_; refine rNext ?_))))
              all_goals refine rFull ?_
              all_goals (first | refine wSkip 39 ?_ | refine wSkipU 39 ?_ | refine wCm 39 ?_ | (refine tr_guard (t := 42) rfl (fun hb => ?_) (fun hb => ?_) <;> (try simp only [kk] at hb) <;> first | refine wSkip 39 ?_ | refine wSkipU 39 ?_ | refine wCm 39 ?_))
              all_goals (first | refine wSkip 40 ?_ | refine wSkipU 40 ?_ | refine wPk 40 ?_ | (refine tr_guard (t := 39) rfl (fun hb => ?_) (fun hb => ?_) <;> (try simp only [kk] at hb) <;> first | refine wSkip 40 ?_ | refine wSkipU 40 ?_ | refine wPk 40 ?_))
              all_goals refine rPk 41 ?_
              all_goals refine rDone ?_
              repeat' (first | (refine i_op ?_; first | (refine i_qq ?_; refine qQ ?_) | refine qEf ?_) | refine tl_nil ?_ | (refine i_tc ?_; refine qTc ?_) | (refine i_te ?_; refine qTe ?_) | intro _)
              simp only [Int.toNat_natCast]
              refine tc_loop_g [(0, _), (2, _), (4, _), (7, _), (8, _), (9, _), (58, _), (59, _)] (fun (ζ : (Nat)) => [(60, .int .i64 ζ)]) (fun (ζ : (Nat)) => ρ') (fun (ζ : (Nat)) => [[(b4, .cells ⟨kidV x⟩ 224 (0, 0))]]) (fun (ζ : (Nat)) => ζ ≤ k ∧ ∀ y ∈ l.take ζ, y.page ≠ x.page) (fun (ζ : (Nat)) => k - ζ) (0) (⟨Nat.zero_le _, by simp⟩) ev_le ev_le rfl tk ?_
              rintro j hI
              try simp only [List.cons_append, List.nil_append, List.append_assoc, List.append_eq] at hI ⊢
              try dsimp only at hI ⊢
              obtain ⟨hj, hjo⟩ := hI
              by_cases hjk : j < k
              · exact absurd hjk (by omega)
              · have hj2 : j = k := by omega
                subst hj2
                have hke : kidOk j (psTo l j) x = true := decide_eq_true ⟨fun e => by obtain ⟨y, hy, he⟩ := psTo_mem.1 e; exact hjo y hy he, p0, p6, ht, .inr hz⟩
                rw [hke, Bool.true_and] at hs
                have hs' : risesB n rt ltK l (j + 1) = true := by rw [hs]; simp [hk0]
                repeat' (first | (refine i_op ?_; first | (refine i_qq ?_; refine qQ ?_) | refine qEf ?_) | refine tl_nil ?_ | (refine i_tc ?_; refine qTc ?_) | (refine i_te ?_; refine qTe ?_) | intro _)
                refine te_round_g (j + 1) (⟨hlt, hs'⟩) ev_le ev_le rfl tk inferInstance (by first | omega | (dsimp only; omega))
            · have hkk : ((x.t == 0) && (((x.id : Int) == 0) && true)) = false := by
                simp; intro h; exact fun h' => hz ⟨h, by omega⟩
              rw [hx (0 < k ∨ (x.t = 0 ∧ x.id = 0)) (fun e => (hkx e).2.2.2.2) (fun e => e.elim (by omega) hz)]
              repeat' (first | (refine i_op ?_; first | (refine i_qq ?_; refine qQ ?_) | refine qEf ?_) | refine tl_nil ?_ | (refine i_tc ?_; refine qTc ?_) | (refine i_te ?_; refine qTe ?_) | intro _)
              refine tc_any (Stays _ _ _) stays_refl ?_
              all_goals refine rFa 0 ?_
              all_goals refine rLd 1 ?_
              all_goals refine rCm 2 ?_
              all_goals refine rMv 3 ?_
              all_goals (first | refine wSkip 4 ?_ | refine wSkipU 4 ?_ | refine wFa 4 ?_ | (refine tr_guard (t := 17) rfl (fun hb => ?_) (fun hb => ?_) <;> (try simp only [kk] at hb) <;> first | refine wSkip 4 ?_ | refine wSkipU 4 ?_ | refine wFa 4 ?_))
              all_goals (first | refine wSkip 5 ?_ | refine wSkipU 5 ?_ | refine wLd 5 ?_ | (refine tr_guard (t := 17) rfl (fun hb => ?_) (fun hb => ?_) <;> (try simp only [kk] at hb) <;> first | refine wSkip 5 ?_ | refine wSkipU 5 ?_ | refine wLd 5 ?_))
              all_goals (first | refine wSkip 6 ?_ | refine wSkipU 6 ?_ | refine wCm 6 ?_ | (refine tr_guard (t := 17) rfl (fun hb => ?_) (fun hb => ?_) <;> (try simp only [kk] at hb) <;> first | refine wSkip 6 ?_ | refine wSkipU 6 ?_ | refine wCm 6 ?_))
              all_goals refine rPk 7 ?_
              all_goals refine rMv 8 ?_
              all_goals (first | refine wSkip 9 ?_ | refine wSkipU 9 ?_ | refine wFa 9 ?_ | (refine tr_guard (t := 22) rfl (fun hb => ?_) (fun hb => ?_) <;> (try simp only [kk] at hb) <;> first | refine wSkip 9 ?_ | refine wSkipU 9 ?_ | refine wFa 9 ?_))
              all_goals (first | refine wSkip 10 ?_ | refine wSkipU 10 ?_ | refine wFa 10 ?_ | (refine tr_guard (t := 22) rfl (fun hb => ?_) (fun hb => ?_) <;> (try simp only [kk] at hb) <;> first | refine wSkip 10 ?_ | refine wSkipU 10 ?_ | refine wFa 10 ?_))
              all_goals (first | refine wSkip 11 ?_ | refine wSkipU 11 ?_ | refine wLd 11 ?_ | (refine tr_guard (t := 22) rfl (fun hb => ?_) (fun hb => ?_) <;> (try simp only [kk] at hb) <;> first | refine wSkip 11 ?_ | refine wSkipU 11 ?_ | refine wLd 11 ?_))
              all_goals (first | refine wSkip 12 ?_ | refine wSkipU 12 ?_ | (refine rStep (i := 12) ?_; ((try refine qWant ?_); (first | (refine tl_is (.func 243) ?_; refine qC rfl rfl (tableR_spec _ _) ?_; rintro v ρ' L' hle ⟨rfl, rfl, rfl⟩ <;> (try simp only [kM, kN, kO, hd])) | (refine qEf ?_; try intro _)) <;> ((try simp only [kM, kN, kO]); refine tl_nil ?_; refine rNext ?_))))
              all_goals (first | refine wSkip 13 ?_ | refine wSkipU 13 ?_ | refine wUn 13 ?_ | (refine tr_guard (t := 22) rfl (fun hb => ?_) (fun hb => ?_) <;> (try simp only [kk] at hb) <;> first | refine wSkip 13 ?_ | refine wSkipU 13 ?_ | refine wUn 13 ?_))
              all_goals refine rPk 14 ?_
              all_goals refine rMv 15 ?_
              all_goals (first | refine wSkip 16 ?_ | refine wSkipU 16 ?_ | refine wMv 16 ?_ | (refine tr_guard (t := 29) rfl (fun hb => ?_) (fun hb => ?_) <;> (try simp only [kk] at hb) <;> first | refine wSkip 16 ?_ | refine wSkipU 16 ?_ | refine wMv 16 ?_))
              all_goals (first | refine wSkip 17 ?_ | refine wSkipU 17 ?_ | refine wCm 17 ?_ | (refine tr_guard (t := 29) rfl (fun hb => ?_) (fun hb => ?_) <;> (try simp only [kk] at hb) <;> first | refine wSkip 17 ?_ | refine wSkipU 17 ?_ | refine wCm 17 ?_))
              all_goals (first | refine wSkip 18 ?_ | refine wSkipU 18 ?_ | refine wMv 18 ?_ | (refine tr_guard (t := 29) rfl (fun hb => ?_) (fun hb => ?_) <;> (try simp only [kk] at hb) <;> first | refine wSkip 18 ?_ | refine wSkipU 18 ?_ | refine wMv 18 ?_))
              all_goals (first | refine wSkip 19 ?_ | refine wSkipU 19 ?_ | refine wFa 19 ?_ | (refine tr_guard (t := 32) rfl (fun hb => ?_) (fun hb => ?_) <;> (try simp only [kk] at hb) <;> first | refine wSkip 19 ?_ | refine wSkipU 19 ?_ | refine wFa 19 ?_))
              all_goals (first | refine wSkip 20 ?_ | refine wSkipU 20 ?_ | refine wLd 20 ?_ | (refine tr_guard (t := 32) rfl (fun hb => ?_) (fun hb => ?_) <;> (try simp only [kk] at hb) <;> first | refine wSkip 20 ?_ | refine wSkipU 20 ?_ | refine wLd 20 ?_))
              all_goals (first | refine wSkip 21 ?_ | refine wSkipU 21 ?_ | refine wBu 21 ?_ | (refine tr_guard (t := 32) rfl (fun hb => ?_) (fun hb => ?_) <;> (try simp only [kk] at hb) <;> first | refine wSkip 21 ?_ | refine wSkipU 21 ?_ | refine wBu 21 ?_))
              all_goals (first | refine wSkip 22 ?_ | refine wSkipU 22 ?_ | refine wCm 22 ?_ | (refine tr_guard (t := 32) rfl (fun hb => ?_) (fun hb => ?_) <;> (try simp only [kk] at hb) <;> first | refine wSkip 22 ?_ | refine wSkipU 22 ?_ | refine wCm 22 ?_))
              all_goals (first | refine wSkip 23 ?_ | refine wSkipU 23 ?_ | refine wPk 23 ?_ | (refine tr_guard (t := 29) rfl (fun hb => ?_) (fun hb => ?_) <;> (try simp only [kk] at hb) <;> first | refine wSkip 23 ?_ | refine wSkipU 23 ?_ | refine wPk 23 ?_))
              all_goals refine rPk 24 ?_
              all_goals refine rMv 25 ?_
              all_goals (first | refine wSkip 26 ?_ | refine wSkipU 26 ?_ | refine wMv 26 ?_ | (refine tr_guard (t := 39) rfl (fun hb => ?_) (fun hb => ?_) <;> (try simp only [kk] at hb) <;> first | refine wSkip 26 ?_ | refine wSkipU 26 ?_ | refine wMv 26 ?_))
              all_goals (first | refine wSkip 27 ?_ | refine wSkipU 27 ?_ | refine wCm 27 ?_ | (refine tr_guard (t := 39) rfl (fun hb => ?_) (fun hb => ?_) <;> (try simp only [kk] at hb) <;> first | refine wSkip 27 ?_ | refine wSkipU 27 ?_ | refine wCm 27 ?_))
              all_goals (first | refine wSkip 28 ?_ | refine wSkipU 28 ?_ | refine wMv 28 ?_ | (refine tr_guard (t := 39) rfl (fun hb => ?_) (fun hb => ?_) <;> (try simp only [kk] at hb) <;> first | refine wSkip 28 ?_ | refine wSkipU 28 ?_ | refine wMv 28 ?_))
              all_goals (first | refine wSkip 29 ?_ | refine wSkipU 29 ?_ | refine wMv 29 ?_ | (refine tr_guard (t := 42) rfl (fun hb => ?_) (fun hb => ?_) <;> (try simp only [kk] at hb) <;> first | refine wSkip 29 ?_ | refine wSkipU 29 ?_ | refine wMv 29 ?_))
              all_goals (first | refine wSkip 30 ?_ | refine wSkipU 30 ?_ | refine wMv 30 ?_ | (refine tr_guard (t := 42) rfl (fun hb => ?_) (fun hb => ?_) <;> (try simp only [kk] at hb) <;> first | refine wSkip 30 ?_ | refine wSkipU 30 ?_ | refine wMv 30 ?_))
              all_goals (first | refine wSkip 31 ?_ | refine wSkipU 31 ?_ | refine wSb 31 ?_ | (refine tr_guard (t := 42) rfl (fun hb => ?_) (fun hb => ?_) <;> (try simp only [kk] at hb) <;> first | refine wSkip 31 ?_ | refine wSkipU 31 ?_ | refine wSb 31 ?_))
              all_goals (first | refine wSkip 32 ?_ | refine wSkipU 32 ?_ | refine wIa 32 ?_ | (refine tr_guard (t := 42) rfl (fun hb => ?_) (fun hb => ?_) <;> (try simp only [kk] at hb) <;> first | refine wSkip 32 ?_ | refine wSkipU 32 ?_ | refine wIa 32 ?_))
              all_goals (first | refine wSkip 33 ?_ | refine wSkipU 33 ?_ | refine wFa 33 ?_ | (refine tr_guard (t := 42) rfl (fun hb => ?_) (fun hb => ?_) <;> (try simp only [kk] at hb) <;> first | refine wSkip 33 ?_ | refine wSkipU 33 ?_ | refine wFa 33 ?_))
              all_goals (first | refine wSkip 34 ?_ | refine wSkipU 34 ?_ | refine wLd 34 ?_ | (refine tr_guard (t := 42) rfl (fun hb => ?_) (fun hb => ?_) <;> (try simp only [kk] at hb) <;> first | refine wSkip 34 ?_ | refine wSkipU 34 ?_ | refine wLd 34 ?_))
              all_goals (first | refine wSkip 36 ?_ | refine wSkipU 36 ?_ | refine wFa 36 ?_ | (refine tr_guard (t := 42) rfl (fun hb => ?_) (fun hb => ?_) <;> (try simp only [kk] at hb) <;> first | refine wSkip 36 ?_ | refine wSkipU 36 ?_ | refine wFa 36 ?_))
              all_goals (first | refine wSkip 37 ?_ | refine wSkipU 37 ?_ | refine wLd 37 ?_ | (refine tr_guard (t := 42) rfl (fun hb => ?_) (fun hb => ?_) <;> (try simp only [kk] at hb) <;> first | refine wSkip 37 ?_ | refine wSkipU 37 ?_ | refine wLd 37 ?_))
              all_goals (first | refine wSkip 35 ?_ | refine wSkipU 35 ?_ | (refine rStep (i := 35) ?_; ((try refine qWant ?_); (first | (refine qEf ?_; try intro _)) <;> ((try simp only [kM, kN, kO]); refine tl_nil ?_; refine rNext ?_))))
              all_goals (first | refine wSkip 38 ?_ | refine wSkipU 38 ?_ | (refine rStep (i := 38) ?_; ((try refine qWant ?_); (first | (refine qEf ?_; try intro _)) <;> ((try simp only [kM, kN, kO]); refine tl_nil ?_; refine rNext ?_))))
              all_goals refine rFull ?_
              all_goals (first | refine wSkip 39 ?_ | refine wSkipU 39 ?_ | refine wCm 39 ?_ | (refine tr_guard (t := 42) rfl (fun hb => ?_) (fun hb => ?_) <;> (try simp only [kk] at hb) <;> first | refine wSkip 39 ?_ | refine wSkipU 39 ?_ | refine wCm 39 ?_))
              all_goals (first | refine wSkip 40 ?_ | refine wSkipU 40 ?_ | refine wPk 40 ?_ | (refine tr_guard (t := 39) rfl (fun hb => ?_) (fun hb => ?_) <;> (try simp only [kk] at hb) <;> first | refine wSkip 40 ?_ | refine wSkipU 40 ?_ | refine wPk 40 ?_))
              all_goals refine rPk 41 ?_
              all_goals refine rDone ?_
              repeat' (first | (refine i_op ?_; first | (refine i_qq ?_; refine qQ ?_) | refine qEf ?_) | refine tl_nil ?_ | (refine i_tc ?_; refine qTc ?_) | (refine i_te ?_; refine qTe ?_) | intro _)
              exact qE ⟨rfl, rfl, rfl⟩
          · have hdk : decide (k = 0) = false := decide_eq_false hk0
            rw [hdk, Bool.false_or] at hs
            obtain ⟨b2, off2, C2, T2, fr2, f1, hb2, hfit2, hc2⟩ := h.get (show k - 1 < l.length by omega)
            cases f1
            rw [hb] at hb2
            cases hb2
            have ek : ((k : Int) - 1).toNat = k - 1 := by omega
            have hkey : List.take 2 (List.drop (off + ((k : Int) - 1).toNat * 3) C) = keyV (l[k - 1]'(by omega)).t (l[k - 1]'(by omega)).id := by
              rw [ek]
              have := congrArg (List.take 2) hc2
              rw [List.take_take] at this
              exact this
            have hfit3 : off + ((k : Int) - 1).toNat * 3 + 2 ≤ C.length := by rw [ek]; omega
            obtain ⟨g1, g2⟩ := risesB_true hok (by omega)
            have hrp := (g2 (k - 1) (by omega) (by omega)).1
            have hrk1 : rt (k - 1) (l[k - 1]'(by omega)) = kidOk (k - 1) (psTo l (k - 1)) (l[k - 1]'(by omega)) := by rw [← hrt]
            rw [hrk1] at hrp
            have hrt2 := (of_decide_eq_true hrp).2.2.2.1
            have hidp := hid _ (List.getElem_mem (show k - 1 < l.length by omega))
            clear hc2 hfit2 hrk hrk1 hrp
            generalize l[k - 1]'(by omega) = y at *
            have hor := order_lt (t1 := y.t) (t2 := x.t) hidp hidk
            unfold ltK at hs
            by_cases hcm : cmpK y.t y.id x.t x.id < 0
            · rw [decide_eq_true hcm] at hs
              have hcm2 := hor.1 hcm
              repeat' (first | (refine i_op ?_; first | (refine i_qq ?_; refine qQ ?_) | refine qEf ?_) | refine tl_nil ?_ | (refine i_tc ?_; refine qTc ?_) | (refine i_te ?_; refine qTe ?_) | intro _)
              rename_i b4
              refine tc_any (Stays _ _ _) stays_refl ?_
              all_goals refine rFa 0 ?_
              all_goals refine rLd 1 ?_
              all_goals refine rCm 2 ?_
              all_goals refine rMv 3 ?_
              all_goals (first | refine wSkip 4 ?_ | refine wSkipU 4 ?_ | refine wFa 4 ?_ | (refine tr_guard (t := 17) rfl (fun hb => ?_) (fun hb => ?_) <;> (try simp only [kk] at hb) <;> first | refine wSkip 4 ?_ | refine wSkipU 4 ?_ | refine wFa 4 ?_))
              all_goals (first | refine wSkip 5 ?_ | refine wSkipU 5 ?_ | refine wLd 5 ?_ | (refine tr_guard (t := 17) rfl (fun hb => ?_) (fun hb => ?_) <;> (try simp only [kk] at hb) <;> first | refine wSkip 5 ?_ | refine wSkipU 5 ?_ | refine wLd 5 ?_))
              all_goals (first | refine wSkip 6 ?_ | refine wSkipU 6 ?_ | refine wCm 6 ?_ | (refine tr_guard (t := 17) rfl (fun hb => ?_) (fun hb => ?_) <;> (try simp only [kk] at hb) <;> first | refine wSkip 6 ?_ | refine wSkipU 6 ?_ | refine wCm 6 ?_))
              all_goals refine rPk 7 ?_
              all_goals refine rMv 8 ?_
              all_goals (first | refine wSkip 9 ?_ | refine wSkipU 9 ?_ | refine wFa 9 ?_ | (refine tr_guard (t := 22) rfl (fun hb => ?_) (fun hb => ?_) <;> (try simp only [kk] at hb) <;> first | refine wSkip 9 ?_ | refine wSkipU 9 ?_ | refine wFa 9 ?_))
              all_goals (first | refine wSkip 10 ?_ | refine wSkipU 10 ?_ | refine wFa 10 ?_ | (refine tr_guard (t := 22) rfl (fun hb => ?_) (fun hb => ?_) <;> (try simp only [kk] at hb) <;> first | refine wSkip 10 ?_ | refine wSkipU 10 ?_ | refine wFa 10 ?_))
              all_goals (first | refine wSkip 11 ?_ | refine wSkipU 11 ?_ | refine wLd 11 ?_ | (refine tr_guard (t := 22) rfl (fun hb => ?_) (fun hb => ?_) <;> (try simp only [kk] at hb) <;> first | refine wSkip 11 ?_ | refine wSkipU 11 ?_ | refine wLd 11 ?_))
              all_goals (first | refine wSkip 12 ?_ | refine wSkipU 12 ?_ | (refine rStep (i := 12) ?_; ((try refine qWant ?_); (first | (refine tl_is (.func 243) ?_; refine qC rfl rfl (tableR_spec _ _) ?_; rintro v ρ' L' hle ⟨rfl, rfl, rfl⟩ <;> (try simp only [kM, kN, kO, hd])) | (refine qEf ?_; try intro _)) <;> ((try simp only [kM, kN, kO]); refine tl_nil ?_; refine rNext ?_))))
              all_goals (first | refine wSkip 13 ?_ | refine wSkipU 13 ?_ | refine wUn 13 ?_ | (refine tr_guard (t := 22) rfl (fun hb => ?_) (fun hb => ?_) <;> (try simp only [kk] at hb) <;> first | refine wSkip 13 ?_ | refine wSkipU 13 ?_ | refine wUn 13 ?_))
              all_goals refine rPk 14 ?_
              all_goals refine rMv 15 ?_
              all_goals (first | refine wSkip 16 ?_ | refine wSkipU 16 ?_ | refine wMv 16 ?_ | (refine tr_guard (t := 29) rfl (fun hb => ?_) (fun hb => ?_) <;> (try simp only [kk] at hb) <;> first | refine wSkip 16 ?_ | refine wSkipU 16 ?_ | refine wMv 16 ?_))
              all_goals (first | refine wSkip 17 ?_ | refine wSkipU 17 ?_ | refine wCm 17 ?_ | (refine tr_guard (t := 29) rfl (fun hb => ?_) (fun hb => ?_) <;> (try simp only [kk] at hb) <;> first | refine wSkip 17 ?_ | refine wSkipU 17 ?_ | refine wCm 17 ?_))
              all_goals (first | refine wSkip 18 ?_ | refine wSkipU 18 ?_ | refine wMv 18 ?_ | (refine tr_guard (t := 29) rfl (fun hb => ?_) (fun hb => ?_) <;> (try simp only [kk] at hb) <;> first | refine wSkip 18 ?_ | refine wSkipU 18 ?_ | refine wMv 18 ?_))
              all_goals (first | refine wSkip 19 ?_ | refine wSkipU 19 ?_ | refine wFa 19 ?_ | (refine tr_guard (t := 32) rfl (fun hb => ?_) (fun hb => ?_) <;> (try simp only [kk] at hb) <;> first | refine wSkip 19 ?_ | refine wSkipU 19 ?_ | refine wFa 19 ?_))
              all_goals (first | refine wSkip 20 ?_ | refine wSkipU 20 ?_ | refine wLd 20 ?_ | (refine tr_guard (t := 32) rfl (fun hb => ?_) (fun hb => ?_) <;> (try simp only [kk] at hb) <;> first | refine wSkip 20 ?_ | refine wSkipU 20 ?_ | refine wLd 20 ?_))
              all_goals (first | refine wSkip 21 ?_ | refine wSkipU 21 ?_ | refine wBu 21 ?_ | (refine tr_guard (t := 32) rfl (fun hb => ?_) (fun hb => ?_) <;> (try simp only [kk] at hb) <;> first | refine wSkip 21 ?_ | refine wSkipU 21 ?_ | refine wBu 21 ?_))
              all_goals (first | refine wSkip 22 ?_ | refine wSkipU 22 ?_ | refine wCm 22 ?_ | (refine tr_guard (t := 32) rfl (fun hb => ?_) (fun hb => ?_) <;> (try simp only [kk] at hb) <;> first | refine wSkip 22 ?_ | refine wSkipU 22 ?_ | refine wCm 22 ?_))
              all_goals (first | refine wSkip 23 ?_ | refine wSkipU 23 ?_ | refine wPk 23 ?_ | (refine tr_guard (t := 29) rfl (fun hb => ?_) (fun hb => ?_) <;> (try simp only [kk] at hb) <;> first | refine wSkip 23 ?_ | refine wSkipU 23 ?_ | refine wPk 23 ?_))
              all_goals refine rPk 24 ?_
              all_goals refine rMv 25 ?_
              all_goals (first | refine wSkip 26 ?_ | refine wSkipU 26 ?_ | refine wMv 26 ?_ | (refine tr_guard (t := 39) rfl (fun hb => ?_) (fun hb => ?_) <;> (try simp only [kk] at hb) <;> first | refine wSkip 26 ?_ | refine wSkipU 26 ?_ | refine wMv 26 ?_))
              all_goals (first | refine wSkip 27 ?_ | refine wSkipU 27 ?_ | refine wCm 27 ?_ | (refine tr_guard (t := 39) rfl (fun hb => ?_) (fun hb => ?_) <;> (try simp only [kk] at hb) <;> first | refine wSkip 27 ?_ | refine wSkipU 27 ?_ | refine wCm 27 ?_))
              all_goals (first | refine wSkip 28 ?_ | refine wSkipU 28 ?_ | refine wMv 28 ?_ | (refine tr_guard (t := 39) rfl (fun hb => ?_) (fun hb => ?_) <;> (try simp only [kk] at hb) <;> first | refine wSkip 28 ?_ | refine wSkipU 28 ?_ | refine wMv 28 ?_))
              all_goals (first | refine wSkip 29 ?_ | refine wSkipU 29 ?_ | refine wMv 29 ?_ | (refine tr_guard (t := 42) rfl (fun hb => ?_) (fun hb => ?_) <;> (try simp only [kk] at hb) <;> first | refine wSkip 29 ?_ | refine wSkipU 29 ?_ | refine wMv 29 ?_))
              all_goals (first | refine wSkip 30 ?_ | refine wSkipU 30 ?_ | refine wMv 30 ?_ | (refine tr_guard (t := 42) rfl (fun hb => ?_) (fun hb => ?_) <;> (try simp only [kk] at hb) <;> first | refine wSkip 30 ?_ | refine wSkipU 30 ?_ | refine wMv 30 ?_))
              all_goals (first | refine wSkip 31 ?_ | refine wSkipU 31 ?_ | refine wSb 31 ?_ | (refine tr_guard (t := 42) rfl (fun hb => ?_) (fun hb => ?_) <;> (try simp only [kk] at hb) <;> first | refine wSkip 31 ?_ | refine wSkipU 31 ?_ | refine wSb 31 ?_))
              all_goals (first | refine wSkip 32 ?_ | refine wSkipU 32 ?_ | refine wIa 32 ?_ | (refine tr_guard (t := 42) rfl (fun hb => ?_) (fun hb => ?_) <;> (try simp only [kk] at hb) <;> first | refine wSkip 32 ?_ | refine wSkipU 32 ?_ | refine wIa 32 ?_))
              all_goals (first | refine wSkip 33 ?_ | refine wSkipU 33 ?_ | refine wFa 33 ?_ | (refine tr_guard (t := 42) rfl (fun hb => ?_) (fun hb => ?_) <;> (try simp only [kk] at hb) <;> first | refine wSkip 33 ?_ | refine wSkipU 33 ?_ | refine wFa 33 ?_))
              all_goals (first | refine wSkip 34 ?_ | refine wSkipU 34 ?_ | refine wLd 34 ?_ | (refine tr_guard (t := 42) rfl (fun hb => ?_) (fun hb => ?_) <;> (try simp only [kk] at hb) <;> first | refine wSkip 34 ?_ | refine wSkipU 34 ?_ | refine wLd 34 ?_))
              all_goals (first | refine wSkip 36 ?_ | refine wSkipU 36 ?_ | refine wFa 36 ?_ | (refine tr_guard (t := 42) rfl (fun hb => ?_) (fun hb => ?_) <;> (try simp only [kk] at hb) <;> first | refine wSkip 36 ?_ | refine wSkipU 36 ?_ | refine wFa 36 ?_))
              all_goals (first | refine wSkip 37 ?_ | refine wSkipU 37 ?_ | refine wLd 37 ?_ | (refine tr_guard (t := 42) rfl (fun hb => ?_) (fun hb => ?_) <;> (try simp only [kk] at hb) <;> first | refine wSkip 37 ?_ | refine wSkipU 37 ?_ | refine wLd 37 ?_))
              all_goals (first | refine wSkip 35 ?_ | refine wSkipU 35 ?_ | (refine rStep (i := 35) ?_; ((try refine qWant ?_); (first | (refine tl_is (.func 281) ?_; refine qC rfl rfl (order_spec _ y.t y.id hrt2.1 hrt2.2 hidp) ?_; rintro v ρ' L' hle ⟨rfl, rfl, rfl⟩ <;> (try simp only [kM, kN, kO])) | (refine tl_is (.func 281) ?_; refine qC rfl rfl (order_spec _ x.t x.id ht.1 ht.2 hidk) ?_; rintro v ρ' L' hle ⟨rfl, rfl, rfl⟩ <;> (try simp only [kM, kN, kO])) | (refine qEf ?_; try intro _)) <;> ((try simp only [kM, kN, kO]); refine tl_nil ?_; refine rNext ?_))))
              all_goals (first | refine wSkip 38 ?_ | refine wSkipU 38 ?_ | (refine rStep (i := 38) ?_; ((try refine qWant ?_); (first | (refine tl_is (.func 281) ?_; refine qC rfl rfl (order_spec _ y.t y.id hrt2.1 hrt2.2 hidp) ?_; rintro v ρ' L' hle ⟨rfl, rfl, rfl⟩ <;> (try simp only [kM, kN, kO])) | (refine tl_is (.func 281) ?_; refine qC rfl rfl (order_spec _ x.t x.id ht.1 ht.2 hidk) ?_; rintro v ρ' L' hle ⟨rfl, rfl, rfl⟩ <;> (try simp only [kM, kN, kO])) | (refine qEf ?_; try intro _)) <;> ((try simp only [kM, kN, kO]); refine tl_nil ?_; refine rNext ?_))))
              all_goals refine rFull ?_
              all_goals (first | refine wSkip 39 ?_ | refine wSkipU 39 ?_ | refine wCm 39 ?_ | (refine tr_guard (t := 42) rfl (fun hb => ?_) (fun hb => ?_) <;> (try simp only [kk] at hb) <;> first | refine wSkip 39 ?_ | refine wSkipU 39 ?_ | refine wCm 39 ?_))
              all_goals (first | refine wSkip 40 ?_ | refine wSkipU 40 ?_ | refine wPk 40 ?_ | (refine tr_guard (t := 39) rfl (fun hb => ?_) (fun hb => ?_) <;> (try simp only [kk] at hb) <;> first | refine wSkip 40 ?_ | refine wSkipU 40 ?_ | refine wPk 40 ?_))
              all_goals refine rPk 41 ?_
              all_goals refine rDone ?_
              repeat' (first | (refine i_op ?_; first | (refine i_qq ?_; refine qQ ?_) | refine qEf ?_) | refine tl_nil ?_ | (refine i_tc ?_; refine qTc ?_) | (refine i_te ?_; refine qTe ?_) | intro _)
              simp only [Int.toNat_natCast]
              refine tc_loop_g [(0, _), (2, _), (4, _), (7, _), (8, _), (9, _), (58, _), (59, _)] (fun (ζ : (Nat)) => [(60, .int .i64 ζ)]) (fun (ζ : (Nat)) => ρ') (fun (ζ : (Nat)) => [[(b4, .cells ⟨kidV x⟩ 224 (0, 0))]]) (fun (ζ : (Nat)) => ζ ≤ k ∧ ∀ y ∈ l.take ζ, y.page ≠ x.page) (fun (ζ : (Nat)) => k - ζ) (0) (⟨Nat.zero_le _, by simp⟩) ev_le ev_le rfl tk ?_
              rintro j hI
              try simp only [List.cons_append, List.nil_append, List.append_assoc, List.append_eq] at hI ⊢
              try dsimp only at hI ⊢
              obtain ⟨hj, hjo⟩ := hI
              by_cases hjk : j < k
              · obtain ⟨b3, off3, C3, T3, fr3, f3, hb3, hfit3, hc3⟩ := h.get (show j < l.length by omega)
                cases f3
                rw [hb] at hb3
                cases hb3
                have htj := List.take_succ_eq_append_getElem (show j < l.length by omega)
                have hjm : l[j]'(by omega) ∈ l.take k := by
                  rw [List.mem_take_iff_getElem]
                  exact ⟨j, by omega, rfl⟩
                generalize hZ : l[j]'(by omega) = z at *
                by_cases hp : z.page = x.page
                · rw [hx (x.page ∉ psTo l k) (fun e => (hkx e).1) (fun e => e (psTo_mem.2 ⟨z, hjm, hp⟩))]
                  repeat' (first | (refine i_op ?_; first | (refine i_qq ?_; refine qQ ?_) | refine qEf ?_) | refine tl_nil ?_ | (refine i_tc ?_; refine qTc ?_) | (refine i_te ?_; refine qTe ?_) | intro _)
                  exact qE ⟨rfl, rfl, rfl⟩
                · have hjn : ∀ y ∈ l.take (j + 1), y.page ≠ x.page := by
                      intro y hy
                      rw [htj] at hy
                      rcases List.mem_append.1 hy with hy | hy
                      · exact hjo y hy
                      · rw [List.mem_singleton.1 hy]; exact hp
                  repeat' (first | (refine i_op ?_; first | (refine i_qq ?_; refine qQ ?_) | refine qEf ?_) | refine tl_nil ?_ | (refine i_tc ?_; refine qTc ?_) | (refine i_te ?_; refine qTe ?_) | intro _)
                  refine te_round_g (j + 1) (⟨hjk, hjn⟩) ev_le ev_le rfl tk inferInstance (by first | omega | (dsimp only; omega))
              · have hj2 : j = k := by omega
                subst hj2
                have hke : kidOk j (psTo l j) x = true := decide_eq_true ⟨fun e => by obtain ⟨y, hy, he⟩ := psTo_mem.1 e; exact hjo y hy he, p0, p6, ht, .inl (by omega)⟩
                rw [hke, Bool.true_and] at hs
                have hs' : risesB n rt ltK l (j + 1) = true := hs
                repeat' (first | (refine i_op ?_; first | (refine i_qq ?_; refine qQ ?_) | refine qEf ?_) | refine tl_nil ?_ | (refine i_tc ?_; refine qTc ?_) | (refine i_te ?_; refine qTe ?_) | intro _)
                refine te_round_g (j + 1) (⟨hlt, hs'⟩) ev_le ev_le rfl tk inferInstance (by first | omega | (dsimp only; omega))
            · rw [decide_eq_false hcm, Bool.and_false] at hs
              have hcm2 : ¬ (y.t * 65536 + y.id < x.t * 65536 + x.id) := fun h => hcm (hor.2 h)
              rw [hfin hs]
              simp only [Bool.and_false]
              repeat' (first | (refine i_op ?_; first | (refine i_qq ?_; refine qQ ?_) | refine qEf ?_) | refine tl_nil ?_ | (refine i_tc ?_; refine qTc ?_) | (refine i_te ?_; refine qTe ?_) | intro _)
              refine tc_any (Stays _ _ _) stays_refl ?_
              all_goals refine rFa 0 ?_
              all_goals refine rLd 1 ?_
              all_goals refine rCm 2 ?_
              all_goals refine rMv 3 ?_
              all_goals (first | refine wSkip 4 ?_ | refine wSkipU 4 ?_ | refine wFa 4 ?_ | (refine tr_guard (t := 17) rfl (fun hb => ?_) (fun hb => ?_) <;> (try simp only [kk] at hb) <;> first | refine wSkip 4 ?_ | refine wSkipU 4 ?_ | refine wFa 4 ?_))
              all_goals (first | refine wSkip 5 ?_ | refine wSkipU 5 ?_ | refine wLd 5 ?_ | (refine tr_guard (t := 17) rfl (fun hb => ?_) (fun hb => ?_) <;> (try simp only [kk] at hb) <;> first | refine wSkip 5 ?_ | refine wSkipU 5 ?_ | refine wLd 5 ?_))
              all_goals (first | refine wSkip 6 ?_ | refine wSkipU 6 ?_ | refine wCm 6 ?_ | (refine tr_guard (t := 17) rfl (fun hb => ?_) (fun hb => ?_) <;> (try simp only [kk] at hb) <;> first | refine wSkip 6 ?_ | refine wSkipU 6 ?_ | refine wCm 6 ?_))
              all_goals refine rPk 7 ?_
              all_goals refine rMv 8 ?_
              all_goals (first | refine wSkip 9 ?_ | refine wSkipU 9 ?_ | refine wFa 9 ?_ | (refine tr_guard (t := 22) rfl (fun hb => ?_) (fun hb => ?_) <;> (try simp only [kk] at hb) <;> first | refine wSkip 9 ?_ | refine wSkipU 9 ?_ | refine wFa 9 ?_))
              all_goals (first | refine wSkip 10 ?_ | refine wSkipU 10 ?_ | refine wFa 10 ?_ | (refine tr_guard (t := 22) rfl (fun hb => ?_) (fun hb => ?_) <;> (try simp only [kk] at hb) <;> first | refine wSkip 10 ?_ | refine wSkipU 10 ?_ | refine wFa 10 ?_))
              all_goals (first | refine wSkip 11 ?_ | refine wSkipU 11 ?_ | refine wLd 11 ?_ | (refine tr_guard (t := 22) rfl (fun hb => ?_) (fun hb => ?_) <;> (try simp only [kk] at hb) <;> first | refine wSkip 11 ?_ | refine wSkipU 11 ?_ | refine wLd 11 ?_))
              all_goals (first | refine wSkip 12 ?_ | refine wSkipU 12 ?_ | (refine rStep (i := 12) ?_; ((try refine qWant ?_); (first | (refine tl_is (.func 243) ?_; refine qC rfl rfl (tableR_spec _ _) ?_; rintro v ρ' L' hle ⟨rfl, rfl, rfl⟩ <;> (try simp only [kM, kN, kO, hd])) | (refine qEf ?_; try intro _)) <;> ((try simp only [kM, kN, kO]); refine tl_nil ?_; refine rNext ?_))))
              all_goals (first | refine wSkip 13 ?_ | refine wSkipU 13 ?_ | refine wUn 13 ?_ | (refine tr_guard (t := 22) rfl (fun hb => ?_) (fun hb => ?_) <;> (try simp only [kk] at hb) <;> first | refine wSkip 13 ?_ | refine wSkipU 13 ?_ | refine wUn 13 ?_))
              all_goals refine rPk 14 ?_
              all_goals refine rMv 15 ?_
              all_goals (first | refine wSkip 16 ?_ | refine wSkipU 16 ?_ | refine wMv 16 ?_ | (refine tr_guard (t := 29) rfl (fun hb => ?_) (fun hb => ?_) <;> (try simp only [kk] at hb) <;> first | refine wSkip 16 ?_ | refine wSkipU 16 ?_ | refine wMv 16 ?_))
              all_goals (first | refine wSkip 17 ?_ | refine wSkipU 17 ?_ | refine wCm 17 ?_ | (refine tr_guard (t := 29) rfl (fun hb => ?_) (fun hb => ?_) <;> (try simp only [kk] at hb) <;> first | refine wSkip 17 ?_ | refine wSkipU 17 ?_ | refine wCm 17 ?_))
              all_goals (first | refine wSkip 18 ?_ | refine wSkipU 18 ?_ | refine wMv 18 ?_ | (refine tr_guard (t := 29) rfl (fun hb => ?_) (fun hb => ?_) <;> (try simp only [kk] at hb) <;> first | refine wSkip 18 ?_ | refine wSkipU 18 ?_ | refine wMv 18 ?_))
              all_goals (first | refine wSkip 19 ?_ | refine wSkipU 19 ?_ | refine wFa 19 ?_ | (refine tr_guard (t := 32) rfl (fun hb => ?_) (fun hb => ?_) <;> (try simp only [kk] at hb) <;> first | refine wSkip 19 ?_ | refine wSkipU 19 ?_ | refine wFa 19 ?_))
              all_goals (first | refine wSkip 20 ?_ | refine wSkipU 20 ?_ | refine wLd 20 ?_ | (refine tr_guard (t := 32) rfl (fun hb => ?_) (fun hb => ?_) <;> (try simp only [kk] at hb) <;> first | refine wSkip 20 ?_ | refine wSkipU 20 ?_ | refine wLd 20 ?_))
              all_goals (first | refine wSkip 21 ?_ | refine wSkipU 21 ?_ | refine wBu 21 ?_ | (refine tr_guard (t := 32) rfl (fun hb => ?_) (fun hb => ?_) <;> (try simp only [kk] at hb) <;> first | refine wSkip 21 ?_ | refine wSkipU 21 ?_ | refine wBu 21 ?_))
              all_goals (first | refine wSkip 22 ?_ | refine wSkipU 22 ?_ | refine wCm 22 ?_ | (refine tr_guard (t := 32) rfl (fun hb => ?_) (fun hb => ?_) <;> (try simp only [kk] at hb) <;> first | refine wSkip 22 ?_ | refine wSkipU 22 ?_ | refine wCm 22 ?_))
              all_goals (first | refine wSkip 23 ?_ | refine wSkipU 23 ?_ | refine wPk 23 ?_ | (refine tr_guard (t := 29) rfl (fun hb => ?_) (fun hb => ?_) <;> (try simp only [kk] at hb) <;> first | refine wSkip 23 ?_ | refine wSkipU 23 ?_ | refine wPk 23 ?_))
              all_goals refine rPk 24 ?_
              all_goals refine rMv 25 ?_
              all_goals (first | refine wSkip 26 ?_ | refine wSkipU 26 ?_ | refine wMv 26 ?_ | (refine tr_guard (t := 39) rfl (fun hb => ?_) (fun hb => ?_) <;> (try simp only [kk] at hb) <;> first | refine wSkip 26 ?_ | refine wSkipU 26 ?_ | refine wMv 26 ?_))
              all_goals (first | refine wSkip 27 ?_ | refine wSkipU 27 ?_ | refine wCm 27 ?_ | (refine tr_guard (t := 39) rfl (fun hb => ?_) (fun hb => ?_) <;> (try simp only [kk] at hb) <;> first | refine wSkip 27 ?_ | refine wSkipU 27 ?_ | refine wCm 27 ?_))
              all_goals (first | refine wSkip 28 ?_ | refine wSkipU 28 ?_ | refine wMv 28 ?_ | (refine tr_guard (t := 39) rfl (fun hb => ?_) (fun hb => ?_) <;> (try simp only [kk] at hb) <;> first | refine wSkip 28 ?_ | refine wSkipU 28 ?_ | refine wMv 28 ?_))
              all_goals (first | refine wSkip 29 ?_ | refine wSkipU 29 ?_ | refine wMv 29 ?_ | (refine tr_guard (t := 42) rfl (fun hb => ?_) (fun hb => ?_) <;> (try simp only [kk] at hb) <;> first | refine wSkip 29 ?_ | refine wSkipU 29 ?_ | refine wMv 29 ?_))
              all_goals (first | refine wSkip 30 ?_ | refine wSkipU 30 ?_ | refine wMv 30 ?_ | (refine tr_guard (t := 42) rfl (fun hb => ?_) (fun hb => ?_) <;> (try simp only [kk] at hb) <;> first | refine wSkip 30 ?_ | refine wSkipU 30 ?_ | refine wMv 30 ?_))
              all_goals (first | refine wSkip 31 ?_ | refine wSkipU 31 ?_ | refine wSb 31 ?_ | (refine tr_guard (t := 42) rfl (fun hb => ?_) (fun hb => ?_) <;> (try simp only [kk] at hb) <;> first | refine wSkip 31 ?_ | refine wSkipU 31 ?_ | refine wSb 31 ?_))
              all_goals (first | refine wSkip 32 ?_ | refine wSkipU 32 ?_ | refine wIa 32 ?_ | (refine tr_guard (t := 42) rfl (fun hb => ?_) (fun hb => ?_) <;> (try simp only [kk] at hb) <;> first | refine wSkip 32 ?_ | refine wSkipU 32 ?_ | refine wIa 32 ?_))
              all_goals (first | refine wSkip 33 ?_ | refine wSkipU 33 ?_ | refine wFa 33 ?_ | (refine tr_guard (t := 42) rfl (fun hb => ?_) (fun hb => ?_) <;> (try simp only [kk] at hb) <;> first | refine wSkip 33 ?_ | refine wSkipU 33 ?_ | refine wFa 33 ?_))
              all_goals (first | refine wSkip 34 ?_ | refine wSkipU 34 ?_ | refine wLd 34 ?_ | (refine tr_guard (t := 42) rfl (fun hb => ?_) (fun hb => ?_) <;> (try simp only [kk] at hb) <;> first | refine wSkip 34 ?_ | refine wSkipU 34 ?_ | refine wLd 34 ?_))
              all_goals (first | refine wSkip 36 ?_ | refine wSkipU 36 ?_ | refine wFa 36 ?_ | (refine tr_guard (t := 42) rfl (fun hb => ?_) (fun hb => ?_) <;> (try simp only [kk] at hb) <;> first | refine wSkip 36 ?_ | refine wSkipU 36 ?_ | refine wFa 36 ?_))
              all_goals (first | refine wSkip 37 ?_ | refine wSkipU 37 ?_ | refine wLd 37 ?_ | (refine tr_guard (t := 42) rfl (fun hb => ?_) (fun hb => ?_) <;> (try simp only [kk] at hb) <;> first | refine wSkip 37 ?_ | refine wSkipU 37 ?_ | refine wLd 37 ?_))
              all_goals (first | refine wSkip 35 ?_ | refine wSkipU 35 ?_ | (refine rStep (i := 35) ?_; ((try refine qWant ?_); (first | (refine tl_is (.func 281) ?_; refine qC rfl rfl (order_spec _ y.t y.id hrt2.1 hrt2.2 hidp) ?_; rintro v ρ' L' hle ⟨rfl, rfl, rfl⟩ <;> (try simp only [kM, kN, kO])) | (refine tl_is (.func 281) ?_; refine qC rfl rfl (order_spec _ x.t x.id ht.1 ht.2 hidk) ?_; rintro v ρ' L' hle ⟨rfl, rfl, rfl⟩ <;> (try simp only [kM, kN, kO])) | (refine qEf ?_; try intro _)) <;> ((try simp only [kM, kN, kO]); refine tl_nil ?_; refine rNext ?_))))
              all_goals (first | refine wSkip 38 ?_ | refine wSkipU 38 ?_ | (refine rStep (i := 38) ?_; ((try refine qWant ?_); (first | (refine tl_is (.func 281) ?_; refine qC rfl rfl (order_spec _ y.t y.id hrt2.1 hrt2.2 hidp) ?_; rintro v ρ' L' hle ⟨rfl, rfl, rfl⟩ <;> (try simp only [kM, kN, kO])) | (refine tl_is (.func 281) ?_; refine qC rfl rfl (order_spec _ x.t x.id ht.1 ht.2 hidk) ?_; rintro v ρ' L' hle ⟨rfl, rfl, rfl⟩ <;> (try simp only [kM, kN, kO])) | (refine qEf ?_; try intro _)) <;> ((try simp only [kM, kN, kO]); refine tl_nil ?_; refine rNext ?_))))
              all_goals refine rFull ?_
              all_goals (first | refine wSkip 39 ?_ | refine wSkipU 39 ?_ | refine wCm 39 ?_ | (refine tr_guard (t := 42) rfl (fun hb => ?_) (fun hb => ?_) <;> (try simp only [kk] at hb) <;> first | refine wSkip 39 ?_ | refine wSkipU 39 ?_ | refine wCm 39 ?_))
              all_goals (first | refine wSkip 40 ?_ | refine wSkipU 40 ?_ | refine wPk 40 ?_ | (refine tr_guard (t := 39) rfl (fun hb => ?_) (fun hb => ?_) <;> (try simp only [kk] at hb) <;> first | refine wSkip 40 ?_ | refine wSkipU 40 ?_ | refine wPk 40 ?_))
              all_goals refine rPk 41 ?_
              all_goals refine rDone ?_
              repeat' (first | (refine i_op ?_; first | (refine i_qq ?_; refine qQ ?_) | refine qEf ?_) | refine tl_nil ?_ | (refine i_tc ?_; refine qTc ?_) | (refine i_te ?_; refine qTe ?_) | intro _)
              exact qE ⟨rfl, rfl, rfl⟩
        · have hd : decide (0 ≤ x.t ∧ x.t < 3) = false := decide_eq_false ht
          rw [hx (0 ≤ x.t ∧ x.t < 3) (fun e => (hkx e).2.2.2.1) ht]
          repeat' (first | (refine i_op ?_; first | (refine i_qq ?_; refine qQ ?_) | refine qEf ?_) | refine tl_nil ?_ | (refine i_tc ?_; refine qTc ?_) | (refine i_te ?_; refine qTe ?_) | intro _)
          refine tc_any (Stays _ _ _) stays_refl ?_
          all_goals refine rFa 0 ?_
          all_goals refine rLd 1 ?_
          all_goals refine rCm 2 ?_
          all_goals refine rMv 3 ?_
          all_goals (first | refine wSkip 4 ?_ | refine wSkipU 4 ?_ | refine wFa 4 ?_ | (refine tr_guard (t := 17) rfl (fun hb => ?_) (fun hb => ?_) <;> (try simp only [kk] at hb) <;> first | refine wSkip 4 ?_ | refine wSkipU 4 ?_ | refine wFa 4 ?_))
          all_goals (first | refine wSkip 5 ?_ | refine wSkipU 5 ?_ | refine wLd 5 ?_ | (refine tr_guard (t := 17) rfl (fun hb => ?_) (fun hb => ?_) <;> (try simp only [kk] at hb) <;> first | refine wSkip 5 ?_ | refine wSkipU 5 ?_ | refine wLd 5 ?_))
          all_goals (first | refine wSkip 6 ?_ | refine wSkipU 6 ?_ | refine wCm 6 ?_ | (refine tr_guard (t := 17) rfl (fun hb => ?_) (fun hb => ?_) <;> (try simp only [kk] at hb) <;> first | refine wSkip 6 ?_ | refine wSkipU 6 ?_ | refine wCm 6 ?_))
          all_goals refine rPk 7 ?_
          all_goals refine rMv 8 ?_
          all_goals (first | refine wSkip 9 ?_ | refine wSkipU 9 ?_ | refine wFa 9 ?_ | (refine tr_guard (t := 22) rfl (fun hb => ?_) (fun hb => ?_) <;> (try simp only [kk] at hb) <;> first | refine wSkip 9 ?_ | refine wSkipU 9 ?_ | refine wFa 9 ?_))
          all_goals (first | refine wSkip 10 ?_ | refine wSkipU 10 ?_ | refine wFa 10 ?_ | (refine tr_guard (t := 22) rfl (fun hb => ?_) (fun hb => ?_) <;> (try simp only [kk] at hb) <;> first | refine wSkip 10 ?_ | refine wSkipU 10 ?_ | refine wFa 10 ?_))
          all_goals (first | refine wSkip 11 ?_ | refine wSkipU 11 ?_ | refine wLd 11 ?_ | (refine tr_guard (t := 22) rfl (fun hb => ?_) (fun hb => ?_) <;> (try simp only [kk] at hb) <;> first | refine wSkip 11 ?_ | refine wSkipU 11 ?_ | refine wLd 11 ?_))
          all_goals (first | refine wSkip 12 ?_ | refine wSkipU 12 ?_ | (refine rStep (i := 12) ?_; ((try refine qWant ?_); (first | (refine tl_is (.func 243) ?_; refine qC rfl rfl (tableR_spec _ _) ?_; rintro v ρ' L' hle ⟨rfl, rfl, rfl⟩ <;> (try simp only [kM, kN, kO, hd])) | (refine qEf ?_; try intro _)) <;> ((try simp only [kM, kN, kO]); refine tl_nil ?_; refine rNext ?_))))
          all_goals (first | refine wSkip 13 ?_ | refine wSkipU 13 ?_ | refine wUn 13 ?_ | (refine tr_guard (t := 22) rfl (fun hb => ?_) (fun hb => ?_) <;> (try simp only [kk] at hb) <;> first | refine wSkip 13 ?_ | refine wSkipU 13 ?_ | refine wUn 13 ?_))
          all_goals refine rPk 14 ?_
          all_goals refine rMv 15 ?_
          all_goals (first | refine wSkip 16 ?_ | refine wSkipU 16 ?_ | refine wMv 16 ?_ | (refine tr_guard (t := 29) rfl (fun hb => ?_) (fun hb => ?_) <;> (try simp only [kk] at hb) <;> first | refine wSkip 16 ?_ | refine wSkipU 16 ?_ | refine wMv 16 ?_))
          all_goals (first | refine wSkip 17 ?_ | refine wSkipU 17 ?_ | refine wCm 17 ?_ | (refine tr_guard (t := 29) rfl (fun hb => ?_) (fun hb => ?_) <;> (try simp only [kk] at hb) <;> first | refine wSkip 17 ?_ | refine wSkipU 17 ?_ | refine wCm 17 ?_))
          all_goals (first | refine wSkip 18 ?_ | refine wSkipU 18 ?_ | refine wMv 18 ?_ | (refine tr_guard (t := 29) rfl (fun hb => ?_) (fun hb => ?_) <;> (try simp only [kk] at hb) <;> first | refine wSkip 18 ?_ | refine wSkipU 18 ?_ | refine wMv 18 ?_))
          all_goals (first | refine wSkip 19 ?_ | refine wSkipU 19 ?_ | refine wFa 19 ?_ | (refine tr_guard (t := 32) rfl (fun hb => ?_) (fun hb => ?_) <;> (try simp only [kk] at hb) <;> first | refine wSkip 19 ?_ | refine wSkipU 19 ?_ | refine wFa 19 ?_))
          all_goals (first | refine wSkip 20 ?_ | refine wSkipU 20 ?_ | refine wLd 20 ?_ | (refine tr_guard (t := 32) rfl (fun hb => ?_) (fun hb => ?_) <;> (try simp only [kk] at hb) <;> first | refine wSkip 20 ?_ | refine wSkipU 20 ?_ | refine wLd 20 ?_))
          all_goals (first | refine wSkip 21 ?_ | refine wSkipU 21 ?_ | refine wBu 21 ?_ | (refine tr_guard (t := 32) rfl (fun hb => ?_) (fun hb => ?_) <;> (try simp only [kk] at hb) <;> first | refine wSkip 21 ?_ | refine wSkipU 21 ?_ | refine wBu 21 ?_))
          all_goals (first | refine wSkip 22 ?_ | refine wSkipU 22 ?_ | refine wCm 22 ?_ | (refine tr_guard (t := 32) rfl (fun hb => ?_) (fun hb => ?_) <;> (try simp only [kk] at hb) <;> first | refine wSkip 22 ?_ | refine wSkipU 22 ?_ | refine wCm 22 ?_))
          all_goals (first | refine wSkip 23 ?_ | refine wSkipU 23 ?_ | refine wPk 23 ?_ | (refine tr_guard (t := 29) rfl (fun hb => ?_) (fun hb => ?_) <;> (try simp only [kk] at hb) <;> first | refine wSkip 23 ?_ | refine wSkipU 23 ?_ | refine wPk 23 ?_))
          all_goals refine rPk 24 ?_
          all_goals refine rMv 25 ?_
          all_goals (first | refine wSkip 26 ?_ | refine wSkipU 26 ?_ | refine wMv 26 ?_ | (refine tr_guard (t := 39) rfl (fun hb => ?_) (fun hb => ?_) <;> (try simp only [kk] at hb) <;> first | refine wSkip 26 ?_ | refine wSkipU 26 ?_ | refine wMv 26 ?_))
          all_goals (first | refine wSkip 27 ?_ | refine wSkipU 27 ?_ | refine wCm 27 ?_ | (refine tr_guard (t := 39) rfl (fun hb => ?_) (fun hb => ?_) <;> (try simp only [kk] at hb) <;> first | refine wSkip 27 ?_ | refine wSkipU 27 ?_ | refine wCm 27 ?_))
          all_goals (first | refine wSkip 28 ?_ | refine wSkipU 28 ?_ | refine wMv 28 ?_ | (refine tr_guard (t := 39) rfl (fun hb => ?_) (fun hb => ?_) <;> (try simp only [kk] at hb) <;> first | refine wSkip 28 ?_ | refine wSkipU 28 ?_ | refine wMv 28 ?_))
          all_goals (first | refine wSkip 29 ?_ | refine wSkipU 29 ?_ | refine wMv 29 ?_ | (refine tr_guard (t := 42) rfl (fun hb => ?_) (fun hb => ?_) <;> (try simp only [kk] at hb) <;> first | refine wSkip 29 ?_ | refine wSkipU 29 ?_ | refine wMv 29 ?_))
          all_goals (first | refine wSkip 30 ?_ | refine wSkipU 30 ?_ | refine wMv 30 ?_ | (refine tr_guard (t := 42) rfl (fun hb => ?_) (fun hb => ?_) <;> (try simp only [kk] at hb) <;> first | refine wSkip 30 ?_ | refine wSkipU 30 ?_ | refine wMv 30 ?_))
          all_goals (first | refine wSkip 31 ?_ | refine wSkipU 31 ?_ | refine wSb 31 ?_ | (refine tr_guard (t := 42) rfl (fun hb => ?_) (fun hb => ?_) <;> (try simp only [kk] at hb) <;> first | refine wSkip 31 ?_ | refine wSkipU 31 ?_ | refine wSb 31 ?_))
          all_goals (first | refine wSkip 32 ?_ | refine wSkipU 32 ?_ | refine wIa 32 ?_ | (refine tr_guard (t := 42) rfl (fun hb => ?_) (fun hb => ?_) <;> (try simp only [kk] at hb) <;> first | refine wSkip 32 ?_ | refine wSkipU 32 ?_ | refine wIa 32 ?_))
          all_goals (first | refine wSkip 33 ?_ | refine wSkipU 33 ?_ | refine wFa 33 ?_ | (refine tr_guard (t := 42) rfl (fun hb => ?_) (fun hb => ?_) <;> (try simp only [kk] at hb) <;> first | refine wSkip 33 ?_ | refine wSkipU 33 ?_ | refine wFa 33 ?_))
          all_goals (first | refine wSkip 34 ?_ | refine wSkipU 34 ?_ | refine wLd 34 ?_ | (refine tr_guard (t := 42) rfl (fun hb => ?_) (fun hb => ?_) <;> (try simp only [kk] at hb) <;> first | refine wSkip 34 ?_ | refine wSkipU 34 ?_ | refine wLd 34 ?_))
          all_goals (first | refine wSkip 36 ?_ | refine wSkipU 36 ?_ | refine wFa 36 ?_ | (refine tr_guard (t := 42) rfl (fun hb => ?_) (fun hb => ?_) <;> (try simp only [kk] at hb) <;> first | refine wSkip 36 ?_ | refine wSkipU 36 ?_ | refine wFa 36 ?_))
          all_goals (first | refine wSkip 37 ?_ | refine wSkipU 37 ?_ | refine wLd 37 ?_ | (refine tr_guard (t := 42) rfl (fun hb => ?_) (fun hb => ?_) <;> (try simp only [kk] at hb) <;> first | refine wSkip 37 ?_ | refine wSkipU 37 ?_ | refine wLd 37 ?_))
          all_goals (first | refine wSkip 35 ?_ | refine wSkipU 35 ?_ | (refine rStep (i := 35) ?_; ((try refine qWant ?_); (first | (refine qEf ?_; try intro _)) <;> ((try simp only [kM, kN, kO]); refine tl_nil ?_; refine rNext ?_))))
          all_goals (first | refine wSkip 38 ?_ | refine wSkipU 38 ?_ | (refine rStep (i := 38) ?_; ((try refine qWant ?_); (first | (refine qEf ?_; try intro _)) <;> ((try simp only [kM, kN, kO]); refine tl_nil ?_; refine rNext ?_))))
          all_goals refine rFull ?_
          all_goals (first | refine wSkip 39 ?_ | refine wSkipU 39 ?_ | refine wCm 39 ?_ | (refine tr_guard (t := 42) rfl (fun hb => ?_) (fun hb => ?_) <;> (try simp only [kk] at hb) <;> first | refine wSkip 39 ?_ | refine wSkipU 39 ?_ | refine wCm 39 ?_))
          all_goals (first | refine wSkip 40 ?_ | refine wSkipU 40 ?_ | refine wPk 40 ?_ | (refine tr_guard (t := 39) rfl (fun hb => ?_) (fun hb => ?_) <;> (try simp only [kk] at hb) <;> first | refine wSkip 40 ?_ | refine wSkipU 40 ?_ | refine wPk 40 ?_))
          all_goals refine rPk 41 ?_
          all_goals refine rDone ?_
          repeat' (first | (refine i_op ?_; first | (refine i_qq ?_; refine qQ ?_) | refine qEf ?_) | refine tl_nil ?_ | (refine i_tc ?_; refine qTc ?_) | (refine i_te ?_; refine qTe ?_) | intro _)
          exact qE ⟨rfl, rfl, rfl⟩
      · rw [hx (x.page < 64) (fun e => (hkx e).2.2.1) p6]
        repeat' (first | (refine i_op ?_; first | (refine i_qq ?_; refine qQ ?_) | refine qEf ?_) | refine tl_nil ?_ | (refine i_tc ?_; refine qTc ?_) | (refine i_te ?_; refine qTe ?_) | intro _)
        refine tc_any (Stays _ _ _) stays_refl ?_
        all_goals refine rFa 0 ?_
        all_goals refine rLd 1 ?_
        all_goals refine rCm 2 ?_
        all_goals refine rMv 3 ?_
        all_goals (first | refine wSkip 4 ?_ | refine wSkipU 4 ?_ | refine wFa 4 ?_ | (refine tr_guard (t := 17) rfl (fun hb => ?_) (fun hb => ?_) <;> (try simp only [kk] at hb) <;> first | refine wSkip 4 ?_ | refine wSkipU 4 ?_ | refine wFa 4 ?_))
        all_goals (first | refine wSkip 5 ?_ | refine wSkipU 5 ?_ | refine wLd 5 ?_ | (refine tr_guard (t := 17) rfl (fun hb => ?_) (fun hb => ?_) <;> (try simp only [kk] at hb) <;> first | refine wSkip 5 ?_ | refine wSkipU 5 ?_ | refine wLd 5 ?_))
        all_goals (first | refine wSkip 6 ?_ | refine wSkipU 6 ?_ | refine wCm 6 ?_ | (refine tr_guard (t := 17) rfl (fun hb => ?_) (fun hb => ?_) <;> (try simp only [kk] at hb) <;> first | refine wSkip 6 ?_ | refine wSkipU 6 ?_ | refine wCm 6 ?_))
        all_goals refine rPk 7 ?_
        all_goals refine rMv 8 ?_
        all_goals (first | refine wSkip 9 ?_ | refine wSkipU 9 ?_ | refine wFa 9 ?_ | (refine tr_guard (t := 22) rfl (fun hb => ?_) (fun hb => ?_) <;> (try simp only [kk] at hb) <;> first | refine wSkip 9 ?_ | refine wSkipU 9 ?_ | refine wFa 9 ?_))
        all_goals (first | refine wSkip 10 ?_ | refine wSkipU 10 ?_ | refine wFa 10 ?_ | (refine tr_guard (t := 22) rfl (fun hb => ?_) (fun hb => ?_) <;> (try simp only [kk] at hb) <;> first | refine wSkip 10 ?_ | refine wSkipU 10 ?_ | refine wFa 10 ?_))
        all_goals (first | refine wSkip 11 ?_ | refine wSkipU 11 ?_ | refine wLd 11 ?_ | (refine tr_guard (t := 22) rfl (fun hb => ?_) (fun hb => ?_) <;> (try simp only [kk] at hb) <;> first | refine wSkip 11 ?_ | refine wSkipU 11 ?_ | refine wLd 11 ?_))
        all_goals (first | refine wSkip 12 ?_ | refine wSkipU 12 ?_ | (refine rStep (i := 12) ?_; ((try refine qWant ?_); (first | (refine qEf ?_; try intro _)) <;> ((try simp only [kM, kN, kO]); refine tl_nil ?_; refine rNext ?_))))
        all_goals (first | refine wSkip 13 ?_ | refine wSkipU 13 ?_ | refine wUn 13 ?_ | (refine tr_guard (t := 22) rfl (fun hb => ?_) (fun hb => ?_) <;> (try simp only [kk] at hb) <;> first | refine wSkip 13 ?_ | refine wSkipU 13 ?_ | refine wUn 13 ?_))
        all_goals refine rPk 14 ?_
        all_goals refine rMv 15 ?_
        all_goals (first | refine wSkip 16 ?_ | refine wSkipU 16 ?_ | refine wMv 16 ?_ | (refine tr_guard (t := 29) rfl (fun hb => ?_) (fun hb => ?_) <;> (try simp only [kk] at hb) <;> first | refine wSkip 16 ?_ | refine wSkipU 16 ?_ | refine wMv 16 ?_))
        all_goals (first | refine wSkip 17 ?_ | refine wSkipU 17 ?_ | refine wCm 17 ?_ | (refine tr_guard (t := 29) rfl (fun hb => ?_) (fun hb => ?_) <;> (try simp only [kk] at hb) <;> first | refine wSkip 17 ?_ | refine wSkipU 17 ?_ | refine wCm 17 ?_))
        all_goals (first | refine wSkip 18 ?_ | refine wSkipU 18 ?_ | refine wMv 18 ?_ | (refine tr_guard (t := 29) rfl (fun hb => ?_) (fun hb => ?_) <;> (try simp only [kk] at hb) <;> first | refine wSkip 18 ?_ | refine wSkipU 18 ?_ | refine wMv 18 ?_))
        all_goals (first | refine wSkip 19 ?_ | refine wSkipU 19 ?_ | refine wFa 19 ?_ | (refine tr_guard (t := 32) rfl (fun hb => ?_) (fun hb => ?_) <;> (try simp only [kk] at hb) <;> first | refine wSkip 19 ?_ | refine wSkipU 19 ?_ | refine wFa 19 ?_))
        all_goals (first | refine wSkip 20 ?_ | refine wSkipU 20 ?_ | refine wLd 20 ?_ | (refine tr_guard (t := 32) rfl (fun hb => ?_) (fun hb => ?_) <;> (try simp only [kk] at hb) <;> first | refine wSkip 20 ?_ | refine wSkipU 20 ?_ | refine wLd 20 ?_))
        all_goals (first | refine wSkip 21 ?_ | refine wSkipU 21 ?_ | refine wBu 21 ?_ | (refine tr_guard (t := 32) rfl (fun hb => ?_) (fun hb => ?_) <;> (try simp only [kk] at hb) <;> first | refine wSkip 21 ?_ | refine wSkipU 21 ?_ | refine wBu 21 ?_))
        all_goals (first | refine wSkip 22 ?_ | refine wSkipU 22 ?_ | refine wCm 22 ?_ | (refine tr_guard (t := 32) rfl (fun hb => ?_) (fun hb => ?_) <;> (try simp only [kk] at hb) <;> first | refine wSkip 22 ?_ | refine wSkipU 22 ?_ | refine wCm 22 ?_))
        all_goals (first | refine wSkip 23 ?_ | refine wSkipU 23 ?_ | refine wPk 23 ?_ | (refine tr_guard (t := 29) rfl (fun hb => ?_) (fun hb => ?_) <;> (try simp only [kk] at hb) <;> first | refine wSkip 23 ?_ | refine wSkipU 23 ?_ | refine wPk 23 ?_))
        all_goals refine rPk 24 ?_
        all_goals refine rMv 25 ?_
        all_goals (first | refine wSkip 26 ?_ | refine wSkipU 26 ?_ | refine wMv 26 ?_ | (refine tr_guard (t := 39) rfl (fun hb => ?_) (fun hb => ?_) <;> (try simp only [kk] at hb) <;> first | refine wSkip 26 ?_ | refine wSkipU 26 ?_ | refine wMv 26 ?_))
        all_goals (first | refine wSkip 27 ?_ | refine wSkipU 27 ?_ | refine wCm 27 ?_ | (refine tr_guard (t := 39) rfl (fun hb => ?_) (fun hb => ?_) <;> (try simp only [kk] at hb) <;> first | refine wSkip 27 ?_ | refine wSkipU 27 ?_ | refine wCm 27 ?_))
        all_goals (first | refine wSkip 28 ?_ | refine wSkipU 28 ?_ | refine wMv 28 ?_ | (refine tr_guard (t := 39) rfl (fun hb => ?_) (fun hb => ?_) <;> (try simp only [kk] at hb) <;> first | refine wSkip 28 ?_ | refine wSkipU 28 ?_ | refine wMv 28 ?_))
        all_goals (first | refine wSkip 29 ?_ | refine wSkipU 29 ?_ | refine wMv 29 ?_ | (refine tr_guard (t := 42) rfl (fun hb => ?_) (fun hb => ?_) <;> (try simp only [kk] at hb) <;> first | refine wSkip 29 ?_ | refine wSkipU 29 ?_ | refine wMv 29 ?_))
        all_goals (first | refine wSkip 30 ?_ | refine wSkipU 30 ?_ | refine wMv 30 ?_ | (refine tr_guard (t := 42) rfl (fun hb => ?_) (fun hb => ?_) <;> (try simp only [kk] at hb) <;> first | refine wSkip 30 ?_ | refine wSkipU 30 ?_ | refine wMv 30 ?_))
        all_goals (first | refine wSkip 31 ?_ | refine wSkipU 31 ?_ | refine wSb 31 ?_ | (refine tr_guard (t := 42) rfl (fun hb => ?_) (fun hb => ?_) <;> (try simp only [kk] at hb) <;> first | refine wSkip 31 ?_ | refine wSkipU 31 ?_ | refine wSb 31 ?_))
        all_goals (first | refine wSkip 32 ?_ | refine wSkipU 32 ?_ | refine wIa 32 ?_ | (refine tr_guard (t := 42) rfl (fun hb => ?_) (fun hb => ?_) <;> (try simp only [kk] at hb) <;> first | refine wSkip 32 ?_ | refine wSkipU 32 ?_ | refine wIa 32 ?_))
        all_goals (first | refine wSkip 33 ?_ | refine wSkipU 33 ?_ | refine wFa 33 ?_ | (refine tr_guard (t := 42) rfl (fun hb => ?_) (fun hb => ?_) <;> (try simp only [kk] at hb) <;> first | refine wSkip 33 ?_ | refine wSkipU 33 ?_ | refine wFa 33 ?_))
        all_goals (first | refine wSkip 34 ?_ | refine wSkipU 34 ?_ | refine wLd 34 ?_ | (refine tr_guard (t := 42) rfl (fun hb => ?_) (fun hb => ?_) <;> (try simp only [kk] at hb) <;> first | refine wSkip 34 ?_ | refine wSkipU 34 ?_ | refine wLd 34 ?_))
        all_goals (first | refine wSkip 36 ?_ | refine wSkipU 36 ?_ | refine wFa 36 ?_ | (refine tr_guard (t := 42) rfl (fun hb => ?_) (fun hb => ?_) <;> (try simp only [kk] at hb) <;> first | refine wSkip 36 ?_ | refine wSkipU 36 ?_ | refine wFa 36 ?_))
        all_goals (first | refine wSkip 37 ?_ | refine wSkipU 37 ?_ | refine wLd 37 ?_ | (refine tr_guard (t := 42) rfl (fun hb => ?_) (fun hb => ?_) <;> (try simp only [kk] at hb) <;> first | refine wSkip 37 ?_ | refine wSkipU 37 ?_ | refine wLd 37 ?_))
        all_goals (first | refine wSkip 35 ?_ | refine wSkipU 35 ?_ | (refine rStep (i := 35) ?_; ((try refine qWant ?_); (first | (refine qEf ?_; try intro _)) <;> ((try simp only [kM, kN, kO]); refine tl_nil ?_; refine rNext ?_))))
        all_goals (first | refine wSkip 38 ?_ | refine wSkipU 38 ?_ | (refine rStep (i := 38) ?_; ((try refine qWant ?_); (first | (refine qEf ?_; try intro _)) <;> ((try simp only [kM, kN, kO]); refine tl_nil ?_; refine rNext ?_))))
        all_goals refine rFull ?_
        all_goals (first | refine wSkip 39 ?_ | refine wSkipU 39 ?_ | refine wCm 39 ?_ | (refine tr_guard (t := 42) rfl (fun hb => ?_) (fun hb => ?_) <;> (try simp only [kk] at hb) <;> first | refine wSkip 39 ?_ | refine wSkipU 39 ?_ | refine wCm 39 ?_))
        all_goals (first | refine wSkip 40 ?_ | refine wSkipU 40 ?_ | refine wPk 40 ?_ | (refine tr_guard (t := 39) rfl (fun hb => ?_) (fun hb => ?_) <;> (try simp only [kk] at hb) <;> first | refine wSkip 40 ?_ | refine wSkipU 40 ?_ | refine wPk 40 ?_))
        all_goals refine rPk 41 ?_
        all_goals refine rDone ?_
        repeat' (first | (refine i_op ?_; first | (refine i_qq ?_; refine qQ ?_) | refine qEf ?_) | refine tl_nil ?_ | (refine i_tc ?_; refine qTc ?_) | (refine i_te ?_; refine qTe ?_) | intro _)
        exact qE ⟨rfl, rfl, rfl⟩
    · rw [hx (0 < x.page) (fun e => (hkx e).2.1) p0]
      repeat' (first | (refine i_op ?_; first | (refine i_qq ?_; refine qQ ?_) | refine qEf ?_) | refine tl_nil ?_ | (refine i_tc ?_; refine qTc ?_) | (refine i_te ?_; refine qTe ?_) | intro _)
      refine tc_any (Stays _ _ _) stays_refl ?_
      all_goals refine rFa 0 ?_
      all_goals refine rLd 1 ?_
      all_goals refine rCm 2 ?_
      all_goals refine rMv 3 ?_
      all_goals (first | refine wSkip 4 ?_ | refine wSkipU 4 ?_ | refine wFa 4 ?_ | (refine tr_guard (t := 17) rfl (fun hb => ?_) (fun hb => ?_) <;> (try simp only [kk] at hb) <;> first | refine wSkip 4 ?_ | refine wSkipU 4 ?_ | refine wFa 4 ?_))
      all_goals (first | refine wSkip 5 ?_ | refine wSkipU 5 ?_ | refine wLd 5 ?_ | (refine tr_guard (t := 17) rfl (fun hb => ?_) (fun hb => ?_) <;> (try simp only [kk] at hb) <;> first | refine wSkip 5 ?_ | refine wSkipU 5 ?_ | refine wLd 5 ?_))
      all_goals (first | refine wSkip 6 ?_ | refine wSkipU 6 ?_ | refine wCm 6 ?_ | (refine tr_guard (t := 17) rfl (fun hb => ?_) (fun hb => ?_) <;> (try simp only [kk] at hb) <;> first | refine wSkip 6 ?_ | refine wSkipU 6 ?_ | refine wCm 6 ?_))
      all_goals refine rPk 7 ?_
      all_goals refine rMv 8 ?_
      all_goals (first | refine wSkip 9 ?_ | refine wSkipU 9 ?_ | refine wFa 9 ?_ | (refine tr_guard (t := 22) rfl (fun hb => ?_) (fun hb => ?_) <;> (try simp only [kk] at hb) <;> first | refine wSkip 9 ?_ | refine wSkipU 9 ?_ | refine wFa 9 ?_))
      all_goals (first | refine wSkip 10 ?_ | refine wSkipU 10 ?_ | refine wFa 10 ?_ | (refine tr_guard (t := 22) rfl (fun hb => ?_) (fun hb => ?_) <;> (try simp only [kk] at hb) <;> first | refine wSkip 10 ?_ | refine wSkipU 10 ?_ | refine wFa 10 ?_))
      all_goals (first | refine wSkip 11 ?_ | refine wSkipU 11 ?_ | refine wLd 11 ?_ | (refine tr_guard (t := 22) rfl (fun hb => ?_) (fun hb => ?_) <;> (try simp only [kk] at hb) <;> first | refine wSkip 11 ?_ | refine wSkipU 11 ?_ | refine wLd 11 ?_))
      all_goals (first | refine wSkip 12 ?_ | refine wSkipU 12 ?_ | (refine rStep (i := 12) ?_; ((try refine qWant ?_); (first | (refine qEf ?_; try intro _)) <;> ((try simp only [kM, kN, kO]); refine tl_nil ?_; refine rNext ?_))))
      all_goals (first | refine wSkip 13 ?_ | refine wSkipU 13 ?_ | refine wUn 13 ?_ | (refine tr_guard (t := 22) rfl (fun hb => ?_) (fun hb => ?_) <;> (try simp only [kk] at hb) <;> first | refine wSkip 13 ?_ | refine wSkipU 13 ?_ | refine wUn 13 ?_))
      all_goals refine rPk 14 ?_
      all_goals refine rMv 15 ?_
      all_goals (first | refine wSkip 16 ?_ | refine wSkipU 16 ?_ | refine wMv 16 ?_ | (refine tr_guard (t := 29) rfl (fun hb => ?_) (fun hb => ?_) <;> (try simp only [kk] at hb) <;> first | refine wSkip 16 ?_ | refine wSkipU 16 ?_ | refine wMv 16 ?_))
      all_goals (first | refine wSkip 17 ?_ | refine wSkipU 17 ?_ | refine wCm 17 ?_ | (refine tr_guard (t := 29) rfl (fun hb => ?_) (fun hb => ?_) <;> (try simp only [kk] at hb) <;> first | refine wSkip 17 ?_ | refine wSkipU 17 ?_ | refine wCm 17 ?_))
      all_goals (first | refine wSkip 18 ?_ | refine wSkipU 18 ?_ | refine wMv 18 ?_ | (refine tr_guard (t := 29) rfl (fun hb => ?_) (fun hb => ?_) <;> (try simp only [kk] at hb) <;> first | refine wSkip 18 ?_ | refine wSkipU 18 ?_ | refine wMv 18 ?_))
      all_goals (first | refine wSkip 19 ?_ | refine wSkipU 19 ?_ | refine wFa 19 ?_ | (refine tr_guard (t := 32) rfl (fun hb => ?_) (fun hb => ?_) <;> (try simp only [kk] at hb) <;> first | refine wSkip 19 ?_ | refine wSkipU 19 ?_ | refine wFa 19 ?_))
      all_goals (first | refine wSkip 20 ?_ | refine wSkipU 20 ?_ | refine wLd 20 ?_ | (refine tr_guard (t := 32) rfl (fun hb => ?_) (fun hb => ?_) <;> (try simp only [kk] at hb) <;> first | refine wSkip 20 ?_ | refine wSkipU 20 ?_ | refine wLd 20 ?_))
      all_goals (first | refine wSkip 21 ?_ | refine wSkipU 21 ?_ | refine wBu 21 ?_ | (refine tr_guard (t := 32) rfl (fun hb => ?_) (fun hb => ?_) <;> (try simp only [kk] at hb) <;> first | refine wSkip 21 ?_ | refine wSkipU 21 ?_ | refine wBu 21 ?_))
      all_goals (first | refine wSkip 22 ?_ | refine wSkipU 22 ?_ | refine wCm 22 ?_ | (refine tr_guard (t := 32) rfl (fun hb => ?_) (fun hb => ?_) <;> (try simp only [kk] at hb) <;> first | refine wSkip 22 ?_ | refine wSkipU 22 ?_ | refine wCm 22 ?_))
      all_goals (first | refine wSkip 23 ?_ | refine wSkipU 23 ?_ | refine wPk 23 ?_ | (refine tr_guard (t := 29) rfl (fun hb => ?_) (fun hb => ?_) <;> (try simp only [kk] at hb) <;> first | refine wSkip 23 ?_ | refine wSkipU 23 ?_ | refine wPk 23 ?_))
      all_goals refine rPk 24 ?_
      all_goals refine rMv 25 ?_
      all_goals (first | refine wSkip 26 ?_ | refine wSkipU 26 ?_ | refine wMv 26 ?_ | (refine tr_guard (t := 39) rfl (fun hb => ?_) (fun hb => ?_) <;> (try simp only [kk] at hb) <;> first | refine wSkip 26 ?_ | refine wSkipU 26 ?_ | refine wMv 26 ?_))
      all_goals (first | refine wSkip 27 ?_ | refine wSkipU 27 ?_ | refine wCm 27 ?_ | (refine tr_guard (t := 39) rfl (fun hb => ?_) (fun hb => ?_) <;> (try simp only [kk] at hb) <;> first | refine wSkip 27 ?_ | refine wSkipU 27 ?_ | refine wCm 27 ?_))
      all_goals (first | refine wSkip 28 ?_ | refine wSkipU 28 ?_ | refine wMv 28 ?_ | (refine tr_guard (t := 39) rfl (fun hb => ?_) (fun hb => ?_) <;> (try simp only [kk] at hb) <;> first | refine wSkip 28 ?_ | refine wSkipU 28 ?_ | refine wMv 28 ?_))
      all_goals (first | refine wSkip 29 ?_ | refine wSkipU 29 ?_ | refine wMv 29 ?_ | (refine tr_guard (t := 42) rfl (fun hb => ?_) (fun hb => ?_) <;> (try simp only [kk] at hb) <;> first | refine wSkip 29 ?_ | refine wSkipU 29 ?_ | refine wMv 29 ?_))
      all_goals (first | refine wSkip 30 ?_ | refine wSkipU 30 ?_ | refine wMv 30 ?_ | (refine tr_guard (t := 42) rfl (fun hb => ?_) (fun hb => ?_) <;> (try simp only [kk] at hb) <;> first | refine wSkip 30 ?_ | refine wSkipU 30 ?_ | refine wMv 30 ?_))
      all_goals (first | refine wSkip 31 ?_ | refine wSkipU 31 ?_ | refine wSb 31 ?_ | (refine tr_guard (t := 42) rfl (fun hb => ?_) (fun hb => ?_) <;> (try simp only [kk] at hb) <;> first | refine wSkip 31 ?_ | refine wSkipU 31 ?_ | refine wSb 31 ?_))
      all_goals (first | refine wSkip 32 ?_ | refine wSkipU 32 ?_ | refine wIa 32 ?_ | (refine tr_guard (t := 42) rfl (fun hb => ?_) (fun hb => ?_) <;> (try simp only [kk] at hb) <;> first | refine wSkip 32 ?_ | refine wSkipU 32 ?_ | refine wIa 32 ?_))
      all_goals (first | refine wSkip 33 ?_ | refine wSkipU 33 ?_ | refine wFa 33 ?_ | (refine tr_guard (t := 42) rfl (fun hb => ?_) (fun hb => ?_) <;> (try simp only [kk] at hb) <;> first | refine wSkip 33 ?_ | refine wSkipU 33 ?_ | refine wFa 33 ?_))
      all_goals (first | refine wSkip 34 ?_ | refine wSkipU 34 ?_ | refine wLd 34 ?_ | (refine tr_guard (t := 42) rfl (fun hb => ?_) (fun hb => ?_) <;> (try simp only [kk] at hb) <;> first | refine wSkip 34 ?_ | refine wSkipU 34 ?_ | refine wLd 34 ?_))
      all_goals (first | refine wSkip 36 ?_ | refine wSkipU 36 ?_ | refine wFa 36 ?_ | (refine tr_guard (t := 42) rfl (fun hb => ?_) (fun hb => ?_) <;> (try simp only [kk] at hb) <;> first | refine wSkip 36 ?_ | refine wSkipU 36 ?_ | refine wFa 36 ?_))
      all_goals (first | refine wSkip 37 ?_ | refine wSkipU 37 ?_ | refine wLd 37 ?_ | (refine tr_guard (t := 42) rfl (fun hb => ?_) (fun hb => ?_) <;> (try simp only [kk] at hb) <;> first | refine wSkip 37 ?_ | refine wSkipU 37 ?_ | refine wLd 37 ?_))
      all_goals (first | refine wSkip 35 ?_ | refine wSkipU 35 ?_ | (refine rStep (i := 35) ?_; ((try refine qWant ?_); (first | (refine qEf ?_; try intro _)) <;> ((try simp only [kM, kN, kO]); refine tl_nil ?_; refine rNext ?_))))
      all_goals (first | refine wSkip 38 ?_ | refine wSkipU 38 ?_ | (refine rStep (i := 38) ?_; ((try refine qWant ?_); (first | (refine qEf ?_; try intro _)) <;> ((try simp only [kM, kN, kO]); refine tl_nil ?_; refine rNext ?_))))
      all_goals refine rFull ?_
      all_goals (first | refine wSkip 39 ?_ | refine wSkipU 39 ?_ | refine wCm 39 ?_ | (refine tr_guard (t := 42) rfl (fun hb => ?_) (fun hb => ?_) <;> (try simp only [kk] at hb) <;> first | refine wSkip 39 ?_ | refine wSkipU 39 ?_ | refine wCm 39 ?_))
      all_goals (first | refine wSkip 40 ?_ | refine wSkipU 40 ?_ | refine wPk 40 ?_ | (refine tr_guard (t := 39) rfl (fun hb => ?_) (fun hb => ?_) <;> (try simp only [kk] at hb) <;> first | refine wSkip 40 ?_ | refine wSkipU 40 ?_ | refine wPk 40 ?_))
      all_goals refine rPk 41 ?_
      all_goals refine rDone ?_
      repeat' (first | (refine i_op ?_; first | (refine i_qq ?_; refine qQ ?_) | refine qEf ?_) | refine tl_nil ?_ | (refine i_tc ?_; refine qTc ?_) | (refine i_te ?_; refine qTe ?_) | intro _)
      exact qE ⟨rfl, rfl, rfl⟩
  · have hk2 : k = n := by omega
    subst hk2
    rw [hok, Bool.and_true]
    by_cases h2 : 1 < k
    · by_cases h4 : k ≤ 4
      · rw [decide_eq_true h4, decide_eq_true h2]
        repeat' (first | (refine i_op ?_; first | (refine i_qq ?_; refine qQ ?_) | refine qEf ?_) | refine tl_nil ?_ | (refine i_tc ?_; refine qTc ?_) | (refine i_te ?_; refine qTe ?_) | intro _)
        exact qE ⟨rfl, rfl, rfl⟩
      · rw [decide_eq_false h4, Bool.and_false]
        repeat' (first | (refine i_op ?_; first | (refine i_qq ?_; refine qQ ?_) | refine qEf ?_) | refine tl_nil ?_ | (refine i_tc ?_; refine qTc ?_) | (refine i_te ?_; refine qTe ?_) | intro _)
        exact qE ⟨rfl, rfl, rfl⟩
    · rw [decide_eq_false h2, Bool.false_and]
      repeat' (first | (refine i_op ?_; first | (refine i_qq ?_; refine qQ ?_) | refine qEf ?_) | refine tl_nil ?_ | (refine i_tc ?_; refine qTc ?_) | (refine i_te ?_; refine qTe ?_) | intro _)
      exact qE ⟨rfl, rfl, rfl⟩
end Go.Proofs.E

namespace Go.Proofs.E
open Go
set_option linter.unusedVariables false
set_option linter.unusedSimpArgs false
set_option linter.unusedSectionVars false
set_option maxRecDepth 4000
set_option maxHeartbeats 1000000
attribute [local irreducible] Yl TL TC TE Spec YSpec R1 Hp.le EnvLe TS TR YS Stays
theorem right_spec (ρ : Hp) (v : CV) (c : Cont) (h : CIn ρ v c.rows c.kids) (hir : ∀ r ∈ c.rows, r.id < 65536) (hik : ∀ k ∈ c.kids, k.id < 65536) : Spec Tryz.prog 178 [.agg ⟨contV c.kind v⟩] ρ [] (fun r ρ' L' => r = .bool (contOk c) ∧ ρ' = ρ ∧ L' = []) := by
  obtain ⟨kind, rows, kids⟩ := c
  obtain ⟨ra, rn, rc, ka, kn, kc⟩ := v
  obtain ⟨hr, hk, hrb, hkb, hrc, hkc⟩ := h
  dsimp only at hr hk hrb hkb hrc hkc hir hik
  have hrl := hr.len
  have hkl := hk.len
  have hrs := rowsR_spec ρ ra rn rc rows hr hrb hir
  have hks := kidsR_spec ρ ka kn kc kids hk hkb hkc hik
  generalize hq : contOk ⟨kind, rows, kids⟩ = q
  unfold contOk at hq
  simp only [hrl, hkl] at hq
  refine spec_enter Tryz.func178 rfl rfl rfl fun u R => ?_
  simp only [argsE, List.cons_append, List.nil_append]
  by_cases k0 : kind = 0
  · rw [if_pos k0] at hq
    by_cases hz : rn = 0
    · by_cases hz2 : kn = 0
      · rw [decide_eq_true (show rn + kn = 0 by omega)] at hq
        subst hq
        repeat' (first | (refine i_op ?_; first | (refine i_qq ?_; refine qQ ?_) | refine qEf ?_) | refine tl_nil ?_ | (refine i_tc ?_; refine qTc ?_) | (refine i_te ?_; refine qTe ?_) | intro _)
        exact qE ⟨rfl, rfl, rfl⟩
      · rw [decide_eq_false (show ¬ rn + kn = 0 by omega)] at hq
        subst hq
        repeat' (first | (refine i_op ?_; first | (refine i_qq ?_; refine qQ ?_) | refine qEf ?_) | refine tl_nil ?_ | (refine i_tc ?_; refine qTc ?_) | (refine i_te ?_; refine qTe ?_) | intro _)
        exact qE ⟨rfl, rfl, rfl⟩
    · rw [decide_eq_false (show ¬ rn + kn = 0 by omega)] at hq
      subst hq
      repeat' (first | (refine i_op ?_; first | (refine i_qq ?_; refine qQ ?_) | refine qEf ?_) | refine tl_nil ?_ | (refine i_tc ?_; refine qTc ?_) | (refine i_te ?_; refine qTe ?_) | intro _)
      exact qE ⟨rfl, rfl, rfl⟩
  · rw [if_neg k0] at hq
    by_cases k1 : kind = 1
    · rw [if_pos k1] at hq
      by_cases hz : kn = 0
      · rw [decide_eq_true hz, Bool.true_and] at hq
        rw [hq] at hrs
        repeat' (first | (refine tl_is (.func 245) ?_; refine qC rfl rfl (hrs) ?_; rintro v ρ' L' hle ⟨rfl, rfl, rfl⟩ <;> (try simp only [kM, kN, kO])) | (refine i_op ?_; first | (refine i_qq ?_; refine qQ ?_) | refine qEf ?_) | refine tl_nil ?_ | (refine i_tc ?_; refine qTc ?_) | (refine i_te ?_; refine qTe ?_) | intro _)
        exact qE ⟨rfl, rfl, rfl⟩
      · rw [decide_eq_false hz, Bool.false_and] at hq
        subst hq
        repeat' (first | (refine i_op ?_; first | (refine i_qq ?_; refine qQ ?_) | refine qEf ?_) | refine tl_nil ?_ | (refine i_tc ?_; refine qTc ?_) | (refine i_te ?_; refine qTe ?_) | intro _)
        exact qE ⟨rfl, rfl, rfl⟩
    · rw [if_neg k1] at hq
      by_cases k2 : kind = 2
      · rw [if_pos k2] at hq
        by_cases hz : rn = 0
        · rw [decide_eq_true hz, Bool.true_and] at hq
          rw [hq] at hks
          repeat' (first | (refine tl_is (.func 246) ?_; refine qC rfl rfl (hks) ?_; rintro v ρ' L' hle ⟨rfl, rfl, rfl⟩ <;> (try simp only [kM, kN, kO])) | (refine i_op ?_; first | (refine i_qq ?_; refine qQ ?_) | refine qEf ?_) | refine tl_nil ?_ | (refine i_tc ?_; refine qTc ?_) | (refine i_te ?_; refine qTe ?_) | intro _)
          exact qE ⟨rfl, rfl, rfl⟩
        · rw [decide_eq_false hz, Bool.false_and] at hq
          subst hq
          repeat' (first | (refine i_op ?_; first | (refine i_qq ?_; refine qQ ?_) | refine qEf ?_) | refine tl_nil ?_ | (refine i_tc ?_; refine qTc ?_) | (refine i_te ?_; refine qTe ?_) | intro _)
          exact qE ⟨rfl, rfl, rfl⟩
      · rw [if_neg k2] at hq
        subst hq
        repeat' (first | (refine i_op ?_; first | (refine i_qq ?_; refine qQ ?_) | refine qEf ?_) | refine tl_nil ?_ | (refine i_tc ?_; refine qTc ?_) | (refine i_te ?_; refine qTe ?_) | intro _)
        exact qE ⟨rfl, rfl, rfl⟩
theorem keyR_spec (ρ : Hp) (t : Int) (id : Nat) (h0 : 0 ≤ t) (h3 : t < 256) (hid : id < 65536) :
    Spec Tryz.prog 202 [.agg ⟨keyV t id⟩] ρ [] (fun r ρ' L' => ρ' = ρ ∧ ∃ b, r = .slice (some ⟨b, 0, none⟩) 3 3 ∧ L' = [[(b, .cells ⟨(keyB t id).map u8c⟩ 5 (0, 0))]]) := by
  refine spec_enter Tryz.func202 rfl rfl rfl fun u R => ?_
  simp only [argsE, List.cons_append, List.nil_append]
  repeat' (first | (refine tl_buildSlice_s rfl rfl rfl rfl (by simp) rfl rfl (fun _ => ?_); simp only [tB_eq h0 h3, u8_wrap]) | (refine i_op ?_; first | (refine i_qq ?_; refine qQ ?_) | refine qEf ?_) | refine tl_nil ?_ | (refine i_tc ?_; refine qTc ?_) | (refine i_te ?_; refine qTe ?_) | intro _)
  have e : [u8c (tB t), Value.int .u8 ((id : Int) / 2 ^ 8), u8c (UInt8.ofNat id)] = (keyB t id).map u8c := by
    have e1 : (id : Int) / 2 ^ 8 = ((id / 256 : Nat) : Int) := by omega
    have e2 : Value.int .u8 ((id / 256 : Nat) : Int) = u8c (UInt8.ofNat (id / 256)) := by
      have := u8_wrap (id / 256)
      rwa [wrap_id (by simp only [lo, hi]; omega)] at this
    rw [e1, e2]
    simp [keyB, be]
  rw [e]
  exact qE ⟨rfl, _, rfl, rfl⟩
theorem shr_byte (V m : Nat) : Value.int .u8 (IntKind.u8.wrap ((V : Int) / 2 ^ (8 * m))) = u8c (UInt8.ofNat (V / 256 ^ m)) := by
  have h2 : (2 ^ (8 * m) : Nat) = 256 ^ m := by rw [Nat.pow_mul]
  have h3 : ((2 : Int) ^ (8 * m)) = ((2 ^ (8 * m) : Nat) : Int) := by rw [Int.natCast_pow]; rfl
  rw [h3, h2, ← Int.natCast_ediv, u8_wrap]
theorem be8_take_succ (V j : Nat) (hj : j < 8) : (be 8 V).take (j + 1) = (be 8 V).take j ++ [UInt8.ofNat (V / 256 ^ (7 - j))] := by
  rw [List.take_succ_eq_append_getElem (by rw [be_length]; exact hj)]
  congr 2
  rcases (show j = 0 ∨ j = 1 ∨ j = 2 ∨ j = 3 ∨ j = 4 ∨ j = 5 ∨ j = 6 ∨ j = 7 by omega) with rfl | rfl | rfl | rfl | rfl | rfl | rfl | rfl <;> rfl
theorem rowR6_spec (ρ : Hp) (r : Row) (hr : rowOk r = true) (hid : r.id < 65536) :
    Spec Tryz.prog 201 [.agg ⟨rowV r⟩] ρ [] (fun v ρ' L' => ρ.le ρ' ∧ ∃ sp, OwnS v (rowB r).length ((rowB r).map u8c) sp 1 ∧ L' = [ownC v ((rowB r).map u8c) sp 5]) := by
  obtain ⟨h0, h3, h8⟩ := rowOk_iff hr
  have hlb := lenB (n := r.note.length) (by omega)
  have hkl : (keyB r.t r.id).length = 3 := by simp [keyB, be_length]
  refine spec_enter Tryz.func201 rfl rfl rfl fun u R => ?_
  simp only [argsE, List.cons_append, List.nil_append]
  repeat' (first | (refine tl_is (.func 202) ?_; refine qC rfl rfl (keyR_spec _ r.t r.id h0 (by omega) hid) ?_; rintro v ρ' L' hle ⟨rfl, bk, rfl, rfl⟩ <;> (try simp only [kM, kN, kO])) | (refine i_op ?_; first | (refine i_qq ?_; refine qQ ?_) | refine qEf ?_) | refine tl_nil ?_ | (refine i_tc ?_; refine qTc ?_) | (refine i_te ?_; refine qTe ?_) | intro _)
  rename_i b1
  rw [show (keyB r.t r.id).map u8c = (keyB r.t r.id ++ (be 8 (vN r.val)).take 0).map u8c by simp, own_chunk bk 3 3]
  have hown0 : OwnS (.slice (some ⟨bk, 0, none⟩) 3 3) (3 + 0) ((keyB r.t r.id ++ (be 8 (vN r.val)).take 0).map u8c) [] 1 := ⟨.inr ⟨bk, 3, rfl, by simp [hkl], by simp [hkl], Nat.le_refl _⟩⟩
  generalize Value.slice (some ⟨bk, 0, none⟩) 3 3 = v0 at *
  refine tc_loop_g [(1, _), (2, _)] (fun (ζ : (Nat) × (Value) × (List Value)) => [(4, .int .i64 (7 - (ζ.1 : Int))), (3, ζ.2.1)]) (fun (ζ : (Nat) × (Value) × (List Value)) => ρ') (fun (ζ : (Nat) × (Value) × (List Value)) => [ownC ζ.2.1 ((keyB r.t r.id ++ (be 8 (vN r.val)).take ζ.1).map u8c) ζ.2.2 5]) (fun (ζ : (Nat) × (Value) × (List Value)) => ζ.1 ≤ 8 ∧ OwnS ζ.2.1 (3 + ζ.1) ((keyB r.t r.id ++ (be 8 (vN r.val)).take ζ.1).map u8c) ζ.2.2 1) (fun (ζ : (Nat) × (Value) × (List Value)) => 8 - ζ.1) ((0, v0, [])) (⟨Nat.zero_le _, hown0⟩) ev_le ev_le rfl tk ?_
  rintro ⟨j, v, sp⟩ hI
  try simp only [List.cons_append, List.nil_append, List.append_assoc, List.append_eq] at hI ⊢
  try dsimp only at hI ⊢
  obtain ⟨hj, hown⟩ := hI
  by_cases hj8 : j < 8
  · have hsh := shr_byte (vN r.val) (7 - j)
    have hts := be8_take_succ (vN r.val) j hj8
    have hxx : (keyB r.t r.id ++ (be 8 (vN r.val)).take j).map u8c ++ [u8c (UInt8.ofNat (vN r.val / 256 ^ (7 - j)))] = (keyB r.t r.id ++ (be 8 (vN r.val)).take (j + 1)).map u8c := by rw [hts]; simp
    repeat' (first | (refine iCv ?_; refine tl_y (y_conv (k := .u64) rfl) rfl rfl ?_; simp only [vN_eq]) | (refine iSr ?_; refine tl_y (y_shr (c := 8 * (7 - j)) rfl rfl (by omega) (by simp only [IntKind.bits]; omega)) rfl rfl ?_) | (refine iCv ?_; refine tl_y (y_conv (k := .u8) rfl) rfl rfl ?_; rw [hsh]) | (refine tl_buildSlice_s rfl rfl rfl rfl (by simp) rfl rfl (fun _ => ?_)) | (refine i_op ?_; first | (refine i_qq ?_; refine qQ ?_) | refine qEf ?_) | refine tl_nil ?_ | (refine i_tc ?_; refine qTc ?_) | (refine i_te ?_; refine qTe ?_) | intro _)
    refine tl_app (ys := [u8c (UInt8.ofNat (vN r.val / 256 ^ (7 - j)))]) (m := 1) rfl rfl hown (hR := by infer_instance) SrcV.lit rfl rfl (by decide) rfl (by omega) (by omega) rfl (fun v2 sp2 hown2 => ?_)
    rw [hxx] at hown2 ⊢
    repeat' (first | (refine i_op ?_; first | (refine i_qq ?_; refine qQ ?_) | refine qEf ?_) | refine tl_nil ?_ | (refine i_tc ?_; refine qTc ?_) | (refine i_te ?_; refine qTe ?_) | intro _)
    have e7 : (7 - (j : Int) - 1) = 7 - ((j + 1 : Nat) : Int) := by omega
    rw [e7]
    refine te_round_g (j + 1, v2, sp2) (⟨hj8, hown2⟩) ev_le ev_le rfl tk inferInstance (by first | omega | (dsimp only; omega))
  · obtain rfl : j = 8 := by omega
    have e8 : (be 8 (vN r.val)).take 8 = be 8 (vN r.val) := List.take_of_length_le (by rw [be_length]; exact Nat.le_refl _)
    rw [e8] at hown ⊢
    repeat' (first | (refine i_op ?_; first | (refine i_qq ?_; refine qQ ?_) | refine qEf ?_) | refine tl_nil ?_ | (refine i_tc ?_; refine qTc ?_) | (refine i_te ?_; refine qTe ?_) | intro _)
    refine tc_any (Stays _ _ ([[(b1, .cells ⟨rowV r⟩ 101 (0, 0))]])) (stays_of (hT := tk) (Hp.le_refl _)) ?_
    all_goals refine rMv 0 ?_
    all_goals refine rFa 1 ?_
    all_goals refine rLd 2 ?_
    all_goals refine rBi 3 ?_
    all_goals refine rCv 4 ?_
    all_goals refine rFa 7 ?_
    all_goals refine rLd 8 ?_
    all_goals (refine rStep (i := 5) ?_; ((try refine qWant ?_); (first | (refine tl_buildSlice_s rfl rfl rfl rfl (by simp) rfl rfl (fun _ => ?_); simp only [hlb]) | (refine qEf ?_; try intro _)) <;> ((try simp only [kM, kN, kO]); refine tl_nil ?_; refine rNext ?_)))
    all_goals (refine rStep (i := 6) ?_; ((try refine qWant ?_); (first | (refine tl_app (ys := [u8c (UInt8.ofNat r.note.length)]) (m := 1) rfl rfl hown (hR := by infer_instance) SrcV.lit rfl rfl (by decide) rfl (by omega) (by omega) rfl (fun v4 sp4 hown4 => ?_)) | (refine tl_app_str (l := r.note) rfl rfl hown4 (hR := by infer_instance) (by omega) rfl (fun v5 sp5 hown5 => ?_)) | (refine qEf ?_; try intro _)) <;> ((try simp only [kM, kN, kO]); refine tl_nil ?_; refine rNext ?_)))
    all_goals (refine rStep (i := 9) ?_; ((try refine qWant ?_); (first | (refine tl_app (ys := [u8c (UInt8.ofNat r.note.length)]) (m := 1) rfl rfl hown (hR := by infer_instance) SrcV.lit rfl rfl (by decide) rfl (by omega) (by omega) rfl (fun v4 sp4 hown4 => ?_)) | (refine tl_app_str (l := r.note) rfl rfl hown4 (hR := by infer_instance) (by omega) rfl (fun v5 sp5 hown5 => ?_)) | (refine qEf ?_; try intro _)) <;> ((try simp only [kM, kN, kO]); refine tl_nil ?_; refine rNext ?_)))
    all_goals refine rFull ?_
    all_goals refine rAs 10 ?_
    all_goals refine rDone ?_
    have e : (keyB r.t r.id ++ be 8 (vN r.val)).map u8c ++ [u8c (UInt8.ofNat r.note.length)] ++ r.note.map u8c = (rowB r).map u8c := by simp [rowB]
    have e2 : 3 + 8 + 1 + r.note.length = (rowB r).length := by simp [rowB, hkl, be_length]; omega
    rw [e] at hown5 ⊢
    repeat' (first | (refine i_op ?_; first | (refine i_qq ?_; refine qQ ?_) | refine qEf ?_) | refine tl_nil ?_ | (refine i_tc ?_; refine qTc ?_) | (refine i_te ?_; refine qTe ?_) | intro _)
    rw [e2] at hown5
    exact qE ⟨Hp.le_refl _, sp5, hown5, rfl⟩
end Go.Proofs.E

namespace Go.Proofs.E
open Go
set_option linter.unusedVariables false
set_option linter.unusedSimpArgs false
set_option linter.unusedSectionVars false
set_option maxRecDepth 4000
set_option maxHeartbeats 1000000
attribute [local irreducible] Yl TL TC TE Spec YSpec R1 Hp.le EnvLe TS TR YS Stays
-- BN
/-! ## the document's records: which may be -/
theorem rpage12_spec (ρ : Hp) (n : Int) : Spec Tryz.prog 177 [.int .i64 n] ρ [] (fun v ρ' L' => v = .bool (pageOk n) ∧ ρ' = ρ ∧ L' = []) := by
  refine spec_enter Tryz.func177 rfl rfl rfl fun u R => ?_
  simp only [argsE, List.cons_append, List.nil_append]
  repeat' (first | (refine iBu ?_; refine tl_y (y_buildN rfl) rfl rfl ?_) | (refine i_op ?_; first | (refine i_qq ?_; refine qQ ?_) | refine qEf ?_) | refine tl_nil ?_ | (refine i_tc ?_; refine qTc ?_) | (refine i_te ?_; refine qTe ?_) | (refine i_gd ?_; refine tl_guard rfl rfl (fun hb => ?_) (fun hb => ?_) <;> (try simp only [decide_eq_true_eq, decide_eq_false_iff_not, Bool.not_eq_true, Bool.not_eq_false, beq_iff_eq, bne_iff_ne, ne_eq, decide_eq_decide, Bool.not_eq_eq_eq_not, Bool.not_true, Bool.not_false, beq_eq_false_iff_ne, bne_eq_false_iff_eq, Bool.and_eq_true, Bool.or_eq_true, Bool.and_eq_false_imp, Bool.or_eq_false_iff, bq2, bqt, bqf] at hb)) | (refine i_cond ?_; refine tc_cond rfl (fun hb => ?_) (fun hb => ?_) <;> (try simp only [decide_eq_true_eq, decide_eq_false_iff_not, Bool.not_eq_true, Bool.not_eq_false, beq_iff_eq, bne_iff_ne, ne_eq, decide_eq_decide, Bool.not_eq_eq_eq_not, Bool.not_true, Bool.not_false, beq_eq_false_iff_ne, bne_eq_false_iff_eq, Bool.and_eq_true, Bool.or_eq_true, Bool.and_eq_false_imp, Bool.or_eq_false_iff, bq2, bqt, bqf] at hb)) | intro _)
  all_goals (refine qF (L' := []) ?_; exact ⟨bool_eq (by simp [pageOk]; (try omega)), rfl, rfl⟩)
theorem step12_spec (ρ : Hp) (s : Stp) (hf : RowFit s.row) : Spec Tryz.prog 179 [.agg ⟨stpV s⟩] ρ [] (fun v ρ' L' => v = .bool (stepOk s) ∧ ρ' = ρ ∧ L' = []) := by
  obtain ⟨kind, row, bb⟩ := s
  have hck := rightRow_spec ρ row
  have ho := rowV_only row
  unfold stepOk onlyOk
  dsimp only
  generalize hP : decide (row.val = 0 ∧ row.note = []) = P at *
  generalize hQ : rowOk row = Q at *
  refine spec_enter Tryz.func179 rfl rfl rfl fun u R => ?_
  simp only [argsE, List.cons_append, List.nil_append]
  cases P <;> cases Q
  all_goals (repeat' (first | (refine iBu ?_; refine tl_y (v := .agg ⟨rowV ⟨row.t, row.id, 0, []⟩⟩) (y_build rfl rfl) rfl rfl ?_) | (refine iCm ?_; refine tl_y (y_eqc_l rfl rfl ho) rfl rfl ?_) | (refine tl_is (.func 247) ?_; refine qC rfl rfl (hck) ?_; rintro v ρ' L' hle ⟨rfl, rfl, rfl⟩ <;> (try simp only [kM, kN, kO])) | (refine iBu ?_; refine tl_y (y_buildN rfl) rfl rfl ?_) | (refine i_op ?_; first | (refine i_qq ?_; refine qQ ?_) | refine qEf ?_) | refine tl_nil ?_ | (refine i_tc ?_; refine qTc ?_) | (refine i_te ?_; refine qTe ?_) | (refine i_gd ?_; refine tl_guard rfl rfl (fun hb => ?_) (fun hb => ?_) <;> (try simp only [decide_eq_true_eq, decide_eq_false_iff_not, Bool.not_eq_true, Bool.not_eq_false, beq_iff_eq, bne_iff_ne, ne_eq, decide_eq_decide, Bool.not_eq_eq_eq_not, Bool.not_true, Bool.not_false, beq_eq_false_iff_ne, bne_eq_false_iff_eq, Bool.and_eq_true, Bool.or_eq_true, Bool.and_eq_false_imp, Bool.or_eq_false_iff, bq2, bqt, bqf] at hb)) | (refine i_cond ?_; refine tc_cond rfl (fun hb => ?_) (fun hb => ?_) <;> (try simp only [decide_eq_true_eq, decide_eq_false_iff_not, Bool.not_eq_true, Bool.not_eq_false, beq_iff_eq, bne_iff_ne, ne_eq, decide_eq_decide, Bool.not_eq_eq_eq_not, Bool.not_true, Bool.not_false, beq_eq_false_iff_ne, bne_eq_false_iff_eq, Bool.and_eq_true, Bool.or_eq_true, Bool.and_eq_false_imp, Bool.or_eq_false_iff, bq2, bqt, bqf] at hb)) | intro _))
  all_goals (refine qF (L' := []) ?_; exact ⟨bool_eq (by clear ho hck; (repeat' split) <;> simp_all <;> omega), rfl, rfl⟩)
theorem steps12_spec (ρ : Hp) (s : SV) (l : List Stp) (h : AS ρ 6 stpV s l) (hf : ∀ x ∈ l, RowFit x.row) : Spec Tryz.prog 96 [.slice s.a s.n s.c] ρ [] (fun v ρ' L' => v = .bool (decide (0 < l.length ∧ l.length ≤ 2) && l.all stepOk) ∧ ρ' = ρ ∧ L' = []) := by
  have hl := h.at'.len
  have hn := h.big
  have hA := h.at'
  rw [hl]
  generalize hq : l.all stepOk = q
  refine spec_enter Tryz.func96 rfl rfl rfl fun u R => ?_
  simp only [argsE, List.cons_append, List.nil_append]
  repeat' (first | (refine iBu ?_; refine tl_y (y_buildN rfl) rfl rfl ?_) | (refine i_op ?_; first | (refine i_qq ?_; refine qQ ?_) | refine qEf ?_) | refine tl_nil ?_ | (refine i_tc ?_; refine qTc ?_) | (refine i_te ?_; refine qTe ?_) | intro _)
  refine tc_loop_g [(0, _), (5, _), (6, _)] (fun (ζ : (Nat)) => [(7, .int .i64 ζ), (2, .bool false)]) (fun (ζ : (Nat)) => ρ) (fun (ζ : (Nat)) => []) (fun (ζ : (Nat)) => ζ ≤ s.n ∧ (l.drop ζ).all stepOk = q) (fun (ζ : (Nat)) => s.n - ζ) (0) (⟨Nat.zero_le _, hq⟩) ev_le ev_le rfl tk ?_
  rintro k hI
  try simp only [List.cons_append, List.nil_append, List.append_assoc, List.append_eq] at hI ⊢
  try dsimp only at hI ⊢
  obtain ⟨hk, hok⟩ := hI
  by_cases hlt : k < s.n
  · obtain ⟨b, off, C, T, fr, e1, hb, hfit, hc⟩ := hA.get (show k < l.length by omega)
    have hmem := List.getElem_mem (show k < l.length by omega)
    rw [List.drop_eq_getElem_cons (show k < l.length by omega), List.all_cons] at hok
    generalize l[k]'(by omega) = x at *
    have hst := step12_spec ρ x (hf x hmem)
    rw [e1]
    cases hx : stepOk x
    · rw [hx, Bool.false_and] at hok
      rw [hx] at hst
      subst hok
      rw [Bool.and_false]
      repeat' (first | (refine tl_is (.func 179) ?_; refine qC rfl rfl (hst) ?_; rintro v ρ' L' hle ⟨rfl, rfl, rfl⟩ <;> (try simp only [kM, kN, kO])) | (refine iBu ?_; refine tl_y (y_buildN rfl) rfl rfl ?_) | (refine i_op ?_; first | (refine i_qq ?_; refine qQ ?_) | refine qEf ?_) | refine tl_nil ?_ | (refine i_tc ?_; refine qTc ?_) | (refine i_te ?_; refine qTe ?_) | intro _)
      exact qE (L' := []) ⟨rfl, rfl, rfl⟩
    · rw [hx, Bool.true_and] at hok
      rw [hx] at hst
      repeat' (first | (refine tl_is (.func 179) ?_; refine qC rfl rfl (hst) ?_; rintro v ρ' L' hle ⟨rfl, rfl, rfl⟩ <;> (try simp only [kM, kN, kO])) | (refine iBu ?_; refine tl_y (y_buildN rfl) rfl rfl ?_) | (refine i_op ?_; first | (refine i_qq ?_; refine qQ ?_) | refine qEf ?_) | refine tl_nil ?_ | (refine i_tc ?_; refine qTc ?_) | (refine i_te ?_; refine qTe ?_) | intro _)
      rw [← e1]
      refine te_round_g (k + 1) (⟨hlt, hok⟩) ev_le ev_le rfl tk inferInstance (by first | omega | (dsimp only; omega))
  · have hk2 : k = l.length := by omega
    rw [hk2, List.drop_length, List.all_nil] at hok
    subst hok
    rw [Bool.and_true]
    repeat' (first | (refine iBu ?_; refine tl_y (y_buildN rfl) rfl rfl ?_) | (refine i_op ?_; first | (refine i_qq ?_; refine qQ ?_) | refine qEf ?_) | refine tl_nil ?_ | (refine i_tc ?_; refine qTc ?_) | (refine i_te ?_; refine qTe ?_) | (refine i_gd ?_; refine tl_guard rfl rfl (fun hb => ?_) (fun hb => ?_) <;> (try simp only [decide_eq_true_eq, decide_eq_false_iff_not, Bool.not_eq_true, Bool.not_eq_false, beq_iff_eq, bne_iff_ne, ne_eq, decide_eq_decide, Bool.not_eq_eq_eq_not, Bool.not_true, Bool.not_false, beq_eq_false_iff_ne, bne_eq_false_iff_eq, Bool.and_eq_true, Bool.or_eq_true, Bool.and_eq_false_imp, Bool.or_eq_false_iff, bq2, bqt, bqf] at hb)) | (refine i_cond ?_; refine tc_cond rfl (fun hb => ?_) (fun hb => ?_) <;> (try simp only [decide_eq_true_eq, decide_eq_false_iff_not, Bool.not_eq_true, Bool.not_eq_false, beq_iff_eq, bne_iff_ne, ne_eq, decide_eq_decide, Bool.not_eq_eq_eq_not, Bool.not_true, Bool.not_false, beq_eq_false_iff_ne, bne_eq_false_iff_eq, Bool.and_eq_true, Bool.or_eq_true, Bool.and_eq_false_imp, Bool.or_eq_false_iff, bq2, bqt, bqf] at hb)) | intro _)
    all_goals (refine qF (L' := []) ?_; exact ⟨bool_eq (by (try simp [*]); first | done | omega | (intros; omega) | (constructor <;> intros <;> (try simp_all) <;> omega)), rfl, rfl⟩)
end Go.Proofs.E

