/- Records of layer 12 as data, their bytes, what their functions come to, and which of them may be. Part 12 of 18. -/
import Derived.Test.YtbchgeledcfklaaGreatJ11
namespace Go.Proofs.E
open Go
set_option linter.unusedVariables false
set_option linter.unusedSimpArgs false
set_option linter.unusedSectionVars false
set_option maxRecDepth 4000
set_option maxHeartbeats 1000000
attribute [local irreducible] Yl TL TC TE Spec YSpec R1 Hp.le EnvLe TS TR YS Stays
-- BN
theorem contV_nil : contV 0 nilCV = [.int .i64 0, .slice none 0 0, .slice none 0 0] := rfl
theorem tkT_fst_bad {α : Type} {t : List UInt8 → α × Int × Int} {z : α} {s : RS3} (h : okS s = false) : tkT t z s = (z, s) := by unfold tkT; rw [h]; rfl
theorem tkT_err {α : Type} {t : List UInt8 → α × Int × Int} {z : α} {s : RS3} (h : okS s = true) (he : (t s.1).2.2 ≠ 0) : tkT t z s = (z, s.1, s.2.1, true) := by unfold tkT; rw [h, if_pos rfl, if_neg he]
theorem tkT_ok {α : Type} {t : List UInt8 → α × Int × Int} {z : α} {s : RS3} (h : okS s = true) (he : (t s.1).2.2 = 0) : tkT t z s = ((t s.1).1, skipS (t s.1).2.1 s) := by unfold tkT; rw [h, if_pos rfl, if_pos he]
theorem RdAt.flag {ρ a n c ra rn rc R l st b} (h : RdAt ρ a n c ra rn rc R (l, st, b)) (b' : Bool) : RdAt ρ a n c ra rn rc R (l, st, b') := ⟨h.at', h.cap, h.rest, h.rcap, h.big, h.suf⟩
theorem rtakenC_spec (ρ : Hp) (tb br : Nat) (v : RV) (r : Rc) (s : RS3) {a n c ra rn rc Rs} (h : RdAt ρ a n c ra rn rc Rs s) :
    Spec Tryz.prog 154 [.pointer (some ⟨tb, 0, none⟩), .func (.func 155) ⟨[]⟩ ⟨[]⟩] ρ (rdL tb br a n c ra rn rc v r s)
      (fun z ρ' L' => ρ.le ρ' ∧ ∃ cv a' n' c', z = .agg ⟨contV (tkT takeContR ztC s).1.kind cv⟩ ∧ CI ρ' cv (tkT takeContR ztC s).1 ∧ RdAt ρ' a' n' c' ra rn rc Rs (tkT takeContR ztC s).2 ∧ L' = rdL tb br a' n' c' ra rn rc v r (tkT takeContR ztC s).2) := by
  have hok := rok_spec ρ tb br a n c ra rn rc v r s
  have hsl := h.at'.len
  have hrl := h.rest.len
  have hrb := h.big
  have hrc := h.rcap
  have hcap := h.cap
  obtain ⟨X, hX⟩ := h.suf
  have hXl := congrArg List.length hX
  rw [List.length_append] at hXl
  refine spec_enter Tryz.func154 rfl rfl rfl fun u R => ?_
  simp only [argsE, List.cons_append, List.nil_append]
  cases ho : okS s
  · rw [ho] at hok
    rw [tkT_fst_bad ho]
    repeat' (first | (refine tl_is (.func 87) ?_; refine qC rfl rfl (hok) ?_; rintro v ρ' L' hle ⟨rfl, rfl, rfl⟩ <;> (try simp only [kM, kN, kO])) | (refine iBu ?_; refine tl_y (y_buildN rfl) rfl rfl ?_) | (refine i_op ?_; first | (refine i_qq ?_; refine qQ ?_) | refine qEf ?_) | refine tl_nil ?_ | (refine i_tc ?_; refine qTc ?_) | (refine i_te ?_; refine qTe ?_) | intro _)
    exact qE ⟨Hp.le_refl _, nilCV, a, n, c, rfl, CI.nil, h, rfl⟩
  · rw [ho] at hok
    obtain ⟨l, st, bad⟩ := s
    have h2 := okS_iff ho
    simp only [Prod.mk.injEq] at h2
    obtain ⟨rfl, rfl⟩ := h2
    dsimp only at hsl hX hXl
    have hlo : ((rn : Int) - (n : Int)).toNat = rn - n := by omega
    have hsub := h.rest.sub (lo' := ((rn : Int) - (n : Int)).toNat) (hi' := rn) (by omega) (Nat.le_refl _) (cap := rc) hrc
    have hdl : (List.drop ((rn : Int) - (n : Int)).toNat Rs).take (rn - ((rn : Int) - (n : Int)).toNat) = l := by
      rw [hlo, hX, show rn - n = X.length by omega, List.drop_left' rfl, List.take_of_length_le (by omega)]
    rw [hdl] at hsub
    have htc := takeCont_spec ρ _ _ (rc - ((rn : Int) - (n : Int)).toNat) l hsub (by omega)
    by_cases he : (takeContR l).2.2 = 0
    · obtain ⟨m, e1, hm, g1, g2, g3⟩ := takeCont_ok he
      have hraw := fun ρ (h : SIn ρ u8c a n l) => raw_spec ρ br a n c l h hcap 0 m (by omega)
      have hskip := fun {ρ a' n' c'} (h : RdAt ρ a n c ra rn rc Rs (l, 0, false)) (h1 : SIn ρ u8c a' n' (rawR m l 0).2.1) (h2 : n' ≤ c') => h.skip (m : Int) (by simpa using h1) h2
      rw [tkT_ok ho he]
      dsimp only
      rw [e1] at htc ⊢
      rw [he] at htc
      unfold skipS at hskip ⊢
      simp only [Int.toNat_natCast] at hskip ⊢
      generalize (takeContR l).1 = x at *
      generalize rawR m l 0 = q at *
      repeat' (first | (refine tl_is (.func 87) ?_; refine qC rfl rfl (hok) ?_; rintro v ρ' L' hle ⟨rfl, rfl, rfl⟩ <;> (try simp only [kM, kN, kO])) | (refine iBu ?_; refine tl_y (y_buildN rfl) rfl rfl ?_) | (refine i_op ?_; first | (refine i_qq ?_; refine qQ ?_) | refine qEf ?_) | refine tl_nil ?_ | (refine i_tc ?_; refine qTc ?_) | (refine i_te ?_; refine qTe ?_) | intro _)
      refine tc_any (Stays _ _ _) stays_refl ?_
      all_goals refine rMv 0 ?_
      all_goals refine rMv 1 ?_
      all_goals refine rNc 2 ?_
      all_goals refine rFa 3 ?_
      all_goals refine rLd 4 ?_
      all_goals refine rMv 5 ?_
      all_goals refine rNc 6 ?_
      all_goals refine rFa 7 ?_
      all_goals refine rLd 8 ?_
      all_goals refine rBi 9 ?_
      all_goals refine rMv 10 ?_
      all_goals refine rNc 11 ?_
      all_goals refine rFa 12 ?_
      all_goals refine rLd 13 ?_
      all_goals (refine rStep2 (i := 14) (j := 22) ?_ ?_ <;> ((try refine qWant ?_); (first | (refine tl_is (.func 88) ?_; refine qC rfl rfl (left_spec _ br a n c 0) ?_; rintro v ρ' L' hle ⟨rfl, rfl, rfl⟩ <;> (try simp only [kM, kN, kO])) | (refine qEf ?_; try intro _)) <;> ((try simp only [kM, kN, kO]); refine tl_nil ?_; refine rNext ?_)))
      all_goals (first | refine rSb 15 ?_ | (refine rStep (i := 14) ?_; ((try refine qWant ?_); (first | (refine tl_is (.func 88) ?_; refine qC rfl rfl (left_spec _ br a n c 0) ?_; rintro v ρ' L' hle ⟨rfl, rfl, rfl⟩ <;> (try simp only [kM, kN, kO])) | (refine qEf ?_; try intro _)) <;> ((try simp only [kM, kN, kO]); refine tl_nil ?_; refine rNext ?_))))
      all_goals (first | refine rSb 15 ?_ | refine rSl 16 ?_)
      all_goals (first | refine rSl 16 ?_ | (refine rStep2 (i := 17) (j := 22) ?_ ?_ <;> ((try refine qWant ?_); (first | (refine tl_is (.tmp 14) ?_; refine qC rfl rfl (htc) ?_; rintro v ρ' L' hle ⟨hle1, w, rfl, hC, rfl⟩ <;> (try simp only [kM, kN, kO])) | (refine qEf ?_; try intro _)) <;> ((try simp only [kM, kN, kO]); refine tl_nil ?_; refine rNext ?_))))
      all_goals (first | refine rMv 18 ?_ | (refine rStep (i := 17) ?_; ((try refine qWant ?_); (first | (refine tl_is (.tmp 14) ?_; refine qC rfl rfl (htc) ?_; rintro v ρ' L' hle ⟨hle1, w, rfl, hC, rfl⟩ <;> (try simp only [kM, kN, kO])) | (refine qEf ?_; try intro _)) <;> ((try simp only [kM, kN, kO]); refine tl_nil ?_; refine rNext ?_))))
      all_goals (first | refine rMv 18 ?_ | refine rEx 19 ?_)
      all_goals (first | refine rEx 19 ?_ | refine rEx 20 ?_)
      all_goals (first | refine rEx 20 ?_ | refine rEx 21 ?_)
      all_goals (first | refine rEx 21 ?_ | (refine rStep (i := 22) ?_; ((try refine qWant ?_); (first | (refine qEf ?_; try intro _)) <;> ((try simp only [kM, kN, kO]); refine tl_nil ?_; refine rNext ?_))))
      all_goals (refine rStep (i := 23) ?_; ((try refine qWant ?_); (first | (refine qEf ?_; try intro _)) <;> ((try simp only [kM, kN, kO]); refine tl_nil ?_; refine rNext ?_)))
      all_goals refine rFull ?_
      all_goals refine rAs 24 ?_
      all_goals refine rAs 25 ?_
      all_goals refine rDone ?_
      all_goals (repeat' (first | (refine tl_is (.func 216) ?_; refine qC rfl rfl (hraw _ (h.at'.mono (by assumption))) ?_; rintro v ρ' L' hle ⟨hle2, va, vn, vc, a', n', c', rfl, hvc, hs1, hs2, hc', rfl⟩ <;> (try simp only [kM, kN, kO])) | (refine iBu ?_; refine tl_y (y_buildN rfl) rfl rfl ?_) | (refine i_op ?_; first | (refine i_qq ?_; refine qQ ?_) | refine qEf ?_) | refine tl_nil ?_ | (refine i_tc ?_; refine qTc ?_) | (refine i_te ?_; refine qTe ?_) | intro _))
      all_goals exact qE ⟨Hp.le_trans hle1 hle2, w, a', n', c', rfl, ⟨hC.mono hle2, g3.row, fun k hk => (g3.kid k hk).id⟩, hskip (h.mono (Hp.le_trans hle1 hle2)) hs2 hc', rfl⟩
    · rw [tkT_err ho he]
      obtain ⟨f1, f2⟩ := takeCont_bad he
      rw [f1, f2] at htc
      dsimp only
      generalize (takeContR l).2.2 = e at *
      repeat' (first | (refine tl_is (.func 87) ?_; refine qC rfl rfl (hok) ?_; rintro v ρ' L' hle ⟨rfl, rfl, rfl⟩ <;> (try simp only [kM, kN, kO])) | (refine iBu ?_; refine tl_y (y_buildN rfl) rfl rfl ?_) | (refine i_op ?_; first | (refine i_qq ?_; refine qQ ?_) | refine qEf ?_) | refine tl_nil ?_ | (refine i_tc ?_; refine qTc ?_) | (refine i_te ?_; refine qTe ?_) | intro _)
      refine tc_any (Stays _ _ _) stays_refl ?_
      all_goals refine rMv 0 ?_
      all_goals refine rMv 1 ?_
      all_goals refine rNc 2 ?_
      all_goals refine rFa 3 ?_
      all_goals refine rLd 4 ?_
      all_goals refine rMv 5 ?_
      all_goals refine rNc 6 ?_
      all_goals refine rFa 7 ?_
      all_goals refine rLd 8 ?_
      all_goals refine rBi 9 ?_
      all_goals refine rMv 10 ?_
      all_goals refine rNc 11 ?_
      all_goals refine rFa 12 ?_
      all_goals refine rLd 13 ?_
      all_goals (refine rStep2 (i := 14) (j := 22) ?_ ?_ <;> ((try refine qWant ?_); (first | (refine tl_is (.func 88) ?_; refine qC rfl rfl (left_spec _ br a n c 0) ?_; rintro v ρ' L' hle ⟨rfl, rfl, rfl⟩ <;> (try simp only [kM, kN, kO])) | (refine qEf ?_; try intro _)) <;> ((try simp only [kM, kN, kO]); refine tl_nil ?_; refine rNext ?_)))
      all_goals (first | refine rSb 15 ?_ | (refine rStep (i := 14) ?_; ((try refine qWant ?_); (first | (refine tl_is (.func 88) ?_; refine qC rfl rfl (left_spec _ br a n c 0) ?_; rintro v ρ' L' hle ⟨rfl, rfl, rfl⟩ <;> (try simp only [kM, kN, kO])) | (refine qEf ?_; try intro _)) <;> ((try simp only [kM, kN, kO]); refine tl_nil ?_; refine rNext ?_))))
      all_goals (first | refine rSb 15 ?_ | refine rSl 16 ?_)
      all_goals (first | refine rSl 16 ?_ | (refine rStep2 (i := 17) (j := 22) ?_ ?_ <;> ((try refine qWant ?_); (first | (refine tl_is (.tmp 14) ?_; refine qC rfl rfl (htc) ?_; rintro v ρ' L' hle ⟨hle1, w, rfl, hC, rfl⟩ <;> (try simp only [kM, kN, kO])) | (refine qEf ?_; try intro _)) <;> ((try simp only [kM, kN, kO]); refine tl_nil ?_; refine rNext ?_))))
      all_goals (first | refine rMv 18 ?_ | (refine rStep (i := 17) ?_; ((try refine qWant ?_); (first | (refine tl_is (.tmp 14) ?_; refine qC rfl rfl (htc) ?_; rintro v ρ' L' hle ⟨hle1, w, rfl, hC, rfl⟩ <;> (try simp only [kM, kN, kO])) | (refine qEf ?_; try intro _)) <;> ((try simp only [kM, kN, kO]); refine tl_nil ?_; refine rNext ?_))))
      all_goals (first | refine rMv 18 ?_ | refine rEx 19 ?_)
      all_goals (first | refine rEx 19 ?_ | refine rEx 20 ?_)
      all_goals (first | refine rEx 20 ?_ | refine rEx 21 ?_)
      all_goals (first | refine rEx 21 ?_ | (refine rStep (i := 22) ?_; ((try refine qWant ?_); (first | (refine qEf ?_; try intro _)) <;> ((try simp only [kM, kN, kO]); refine tl_nil ?_; refine rNext ?_))))
      all_goals (refine rStep (i := 23) ?_; ((try refine qWant ?_); (first | (refine qEf ?_; try intro _)) <;> ((try simp only [kM, kN, kO]); refine tl_nil ?_; refine rNext ?_)))
      all_goals refine rFull ?_
      all_goals refine rAs 24 ?_
      all_goals refine rAs 25 ?_
      all_goals refine rDone ?_
      all_goals (repeat' (first | (refine iBu ?_; refine tl_y (y_buildN rfl) rfl rfl ?_) | (refine i_op ?_; first | (refine i_qq ?_; refine qQ ?_) | refine qEf ?_) | refine tl_nil ?_ | (refine i_tc ?_; refine qTc ?_) | (refine i_te ?_; refine qTe ?_) | intro _))
      all_goals exact qE ⟨hle1, nilCV, a, n, c, rfl, CI.nil, (h.mono hle1).flag true, rfl⟩
theorem rowFit_z : RowFit ztR := ⟨by decide, by decide⟩
theorem takeRow_bad {l : List UInt8} (h : (takeRowR l).2.2 ≠ 0) : (takeRowR l).1 = ztR ∧ (takeRowR l).2.1 = 0 := by
  unfold takeRowR at h ⊢
  dsimp only at h ⊢
  generalize rowR l 0 false = r at *
  obtain ⟨x, l2, st2, b2⟩ := r
  dsimp only at h ⊢
  unfold takenE at h
  unfold takenN
  cases b2
  · simp only [Bool.false_eq_true, if_false] at h ⊢
    simp [h]
  · simp
theorem rtakenR_spec (ρ : Hp) (tb br : Nat) (v : RV) (r : Rc) (s : RS3) {a n c ra rn rc Rs} (h : RdAt ρ a n c ra rn rc Rs s) :
    Spec Tryz.prog 158 [.pointer (some ⟨tb, 0, none⟩), .func (.func 159) ⟨[]⟩ ⟨[]⟩] ρ (rdL tb br a n c ra rn rc v r s)
      (fun z ρ' L' => ρ.le ρ' ∧ RowFit (tkT takeRowR ztR s).1 ∧ ∃ a' n' c', z = .agg ⟨rowV (tkT takeRowR ztR s).1⟩ ∧ RdAt ρ' a' n' c' ra rn rc Rs (tkT takeRowR ztR s).2 ∧ L' = rdL tb br a' n' c' ra rn rc v r (tkT takeRowR ztR s).2) := by
  have hok := rok_spec ρ tb br a n c ra rn rc v r s
  have hsl := h.at'.len
  have hrl := h.rest.len
  have hrb := h.big
  have hrc := h.rcap
  have hcap := h.cap
  obtain ⟨X, hX⟩ := h.suf
  have hXl := congrArg List.length hX
  rw [List.length_append] at hXl
  refine spec_enter Tryz.func158 rfl rfl rfl fun u R => ?_
  simp only [argsE, List.cons_append, List.nil_append]
  cases ho : okS s
  · rw [ho] at hok
    rw [tkT_fst_bad ho]
    repeat' (first | (refine tl_is (.func 87) ?_; refine qC rfl rfl (hok) ?_; rintro v ρ' L' hle ⟨rfl, rfl, rfl⟩ <;> (try simp only [kM, kN, kO])) | (refine iBu ?_; refine tl_y (y_buildN rfl) rfl rfl ?_) | (refine i_op ?_; first | (refine i_qq ?_; refine qQ ?_) | refine qEf ?_) | refine tl_nil ?_ | (refine i_tc ?_; refine qTc ?_) | (refine i_te ?_; refine qTe ?_) | intro _)
    exact qE ⟨Hp.le_refl _, rowFit_z, a, n, c, rfl, h, rfl⟩
  · rw [ho] at hok
    obtain ⟨l, st, bad⟩ := s
    have h2 := okS_iff ho
    simp only [Prod.mk.injEq] at h2
    obtain ⟨rfl, rfl⟩ := h2
    dsimp only at hsl hX hXl
    have hlo : ((rn : Int) - (n : Int)).toNat = rn - n := by omega
    have hsub := h.rest.sub (lo' := ((rn : Int) - (n : Int)).toNat) (hi' := rn) (by omega) (Nat.le_refl _) (cap := rc) hrc
    have hdl : (List.drop ((rn : Int) - (n : Int)).toNat Rs).take (rn - ((rn : Int) - (n : Int)).toNat) = l := by
      rw [hlo, hX, show rn - n = X.length by omega, List.drop_left' rfl, List.take_of_length_le (by omega)]
    rw [hdl] at hsub
    have htc := takeRow_spec ρ _ _ (rc - ((rn : Int) - (n : Int)).toNat) l hsub (by omega)
    by_cases he : (takeRowR l).2.2 = 0
    · obtain ⟨m, e1, hm, g1, g2, g3⟩ := takeRow_ok he
      have hraw := fun ρ (h : SIn ρ u8c a n l) => raw_spec ρ br a n c l h hcap 0 m (by omega)
      have hskip := fun {ρ a' n' c'} (h : RdAt ρ a n c ra rn rc Rs (l, 0, false)) (h1 : SIn ρ u8c a' n' (rawR m l 0).2.1) (h2 : n' ≤ c') => h.skip (m : Int) (by simpa using h1) h2
      rw [tkT_ok ho he]
      dsimp only
      rw [e1] at htc ⊢
      rw [he] at htc
      unfold skipS at hskip ⊢
      simp only [Int.toNat_natCast] at hskip ⊢
      generalize (takeRowR l).1 = x at *
      generalize rawR m l 0 = q at *
      repeat' (first | (refine tl_is (.func 87) ?_; refine qC rfl rfl (hok) ?_; rintro v ρ' L' hle ⟨rfl, rfl, rfl⟩ <;> (try simp only [kM, kN, kO])) | (refine iBu ?_; refine tl_y (y_buildN rfl) rfl rfl ?_) | (refine i_op ?_; first | (refine i_qq ?_; refine qQ ?_) | refine qEf ?_) | refine tl_nil ?_ | (refine i_tc ?_; refine qTc ?_) | (refine i_te ?_; refine qTe ?_) | intro _)
      refine tc_any (Stays _ _ _) stays_refl ?_
      all_goals refine rMv 0 ?_
      all_goals refine rMv 1 ?_
      all_goals refine rNc 2 ?_
      all_goals refine rFa 3 ?_
      all_goals refine rLd 4 ?_
      all_goals refine rMv 5 ?_
      all_goals refine rNc 6 ?_
      all_goals refine rFa 7 ?_
      all_goals refine rLd 8 ?_
      all_goals refine rBi 9 ?_
      all_goals refine rMv 10 ?_
      all_goals refine rNc 11 ?_
      all_goals refine rFa 12 ?_
      all_goals refine rLd 13 ?_
      all_goals (refine rStep2 (i := 14) (j := 22) ?_ ?_ <;> ((try refine qWant ?_); (first | (refine tl_is (.func 88) ?_; refine qC rfl rfl (left_spec _ br a n c 0) ?_; rintro v ρ' L' hle ⟨rfl, rfl, rfl⟩ <;> (try simp only [kM, kN, kO])) | (refine qEf ?_; try intro _)) <;> ((try simp only [kM, kN, kO]); refine tl_nil ?_; refine rNext ?_)))
      all_goals (first | refine rSb 15 ?_ | (refine rStep (i := 14) ?_; ((try refine qWant ?_); (first | (refine tl_is (.func 88) ?_; refine qC rfl rfl (left_spec _ br a n c 0) ?_; rintro v ρ' L' hle ⟨rfl, rfl, rfl⟩ <;> (try simp only [kM, kN, kO])) | (refine qEf ?_; try intro _)) <;> ((try simp only [kM, kN, kO]); refine tl_nil ?_; refine rNext ?_))))
      all_goals (first | refine rSb 15 ?_ | refine rSl 16 ?_)
      all_goals (first | refine rSl 16 ?_ | (refine rStep2 (i := 17) (j := 22) ?_ ?_ <;> ((try refine qWant ?_); (first | (refine tl_is (.tmp 14) ?_; refine qC rfl rfl (htc) ?_; rintro v ρ' L' hle ⟨rfl, hle1, rfl⟩ <;> (try simp only [kM, kN, kO])) | (refine qEf ?_; try intro _)) <;> ((try simp only [kM, kN, kO]); refine tl_nil ?_; refine rNext ?_))))
      all_goals (first | refine rMv 18 ?_ | (refine rStep (i := 17) ?_; ((try refine qWant ?_); (first | (refine tl_is (.tmp 14) ?_; refine qC rfl rfl (htc) ?_; rintro v ρ' L' hle ⟨rfl, hle1, rfl⟩ <;> (try simp only [kM, kN, kO])) | (refine qEf ?_; try intro _)) <;> ((try simp only [kM, kN, kO]); refine tl_nil ?_; refine rNext ?_))))
      all_goals (first | refine rMv 18 ?_ | refine rEx 19 ?_)
      all_goals (first | refine rEx 19 ?_ | refine rEx 20 ?_)
      all_goals (first | refine rEx 20 ?_ | refine rEx 21 ?_)
      all_goals (first | refine rEx 21 ?_ | (refine rStep (i := 22) ?_; ((try refine qWant ?_); (first | (refine qEf ?_; try intro _)) <;> ((try simp only [kM, kN, kO]); refine tl_nil ?_; refine rNext ?_))))
      all_goals (refine rStep (i := 23) ?_; ((try refine qWant ?_); (first | (refine qEf ?_; try intro _)) <;> ((try simp only [kM, kN, kO]); refine tl_nil ?_; refine rNext ?_)))
      all_goals refine rFull ?_
      all_goals refine rAs 24 ?_
      all_goals refine rAs 25 ?_
      all_goals refine rDone ?_
      all_goals (repeat' (first | (refine tl_is (.func 216) ?_; refine qC rfl rfl (hraw _ (h.at'.mono (by assumption))) ?_; rintro v ρ' L' hle ⟨hle2, va, vn, vc, a', n', c', rfl, hvc, hs1, hs2, hc', rfl⟩ <;> (try simp only [kM, kN, kO])) | (refine iBu ?_; refine tl_y (y_buildN rfl) rfl rfl ?_) | (refine i_op ?_; first | (refine i_qq ?_; refine qQ ?_) | refine qEf ?_) | refine tl_nil ?_ | (refine i_tc ?_; refine qTc ?_) | (refine i_te ?_; refine qTe ?_) | intro _))
      all_goals exact qE ⟨Hp.le_trans hle1 hle2, g3, a', n', c', rfl, hskip (h.mono (Hp.le_trans hle1 hle2)) hs2 hc', rfl⟩
    · rw [tkT_err ho he]
      obtain ⟨f1, f2⟩ := takeRow_bad he
      rw [f1, f2] at htc
      dsimp only
      generalize (takeRowR l).2.2 = e at *
      repeat' (first | (refine tl_is (.func 87) ?_; refine qC rfl rfl (hok) ?_; rintro v ρ' L' hle ⟨rfl, rfl, rfl⟩ <;> (try simp only [kM, kN, kO])) | (refine iBu ?_; refine tl_y (y_buildN rfl) rfl rfl ?_) | (refine i_op ?_; first | (refine i_qq ?_; refine qQ ?_) | refine qEf ?_) | refine tl_nil ?_ | (refine i_tc ?_; refine qTc ?_) | (refine i_te ?_; refine qTe ?_) | intro _)
      refine tc_any (Stays _ _ _) stays_refl ?_
      all_goals refine rMv 0 ?_
      all_goals refine rMv 1 ?_
      all_goals refine rNc 2 ?_
      all_goals refine rFa 3 ?_
      all_goals refine rLd 4 ?_
      all_goals refine rMv 5 ?_
      all_goals refine rNc 6 ?_
      all_goals refine rFa 7 ?_
      all_goals refine rLd 8 ?_
      all_goals refine rBi 9 ?_
      all_goals refine rMv 10 ?_
      all_goals refine rNc 11 ?_
      all_goals refine rFa 12 ?_
      all_goals refine rLd 13 ?_
      all_goals (refine rStep2 (i := 14) (j := 22) ?_ ?_ <;> ((try refine qWant ?_); (first | (refine tl_is (.func 88) ?_; refine qC rfl rfl (left_spec _ br a n c 0) ?_; rintro v ρ' L' hle ⟨rfl, rfl, rfl⟩ <;> (try simp only [kM, kN, kO])) | (refine qEf ?_; try intro _)) <;> ((try simp only [kM, kN, kO]); refine tl_nil ?_; refine rNext ?_)))
      all_goals (first | refine rSb 15 ?_ | (refine rStep (i := 14) ?_; ((try refine qWant ?_); (first | (refine tl_is (.func 88) ?_; refine qC rfl rfl (left_spec _ br a n c 0) ?_; rintro v ρ' L' hle ⟨rfl, rfl, rfl⟩ <;> (try simp only [kM, kN, kO])) | (refine qEf ?_; try intro _)) <;> ((try simp only [kM, kN, kO]); refine tl_nil ?_; refine rNext ?_))))
      all_goals (first | refine rSb 15 ?_ | refine rSl 16 ?_)
      all_goals (first | refine rSl 16 ?_ | (refine rStep2 (i := 17) (j := 22) ?_ ?_ <;> ((try refine qWant ?_); (first | (refine tl_is (.tmp 14) ?_; refine qC rfl rfl (htc) ?_; rintro v ρ' L' hle ⟨rfl, hle1, rfl⟩ <;> (try simp only [kM, kN, kO])) | (refine qEf ?_; try intro _)) <;> ((try simp only [kM, kN, kO]); refine tl_nil ?_; refine rNext ?_))))
      all_goals (first | refine rMv 18 ?_ | (refine rStep (i := 17) ?_; ((try refine qWant ?_); (first | (refine tl_is (.tmp 14) ?_; refine qC rfl rfl (htc) ?_; rintro v ρ' L' hle ⟨rfl, hle1, rfl⟩ <;> (try simp only [kM, kN, kO])) | (refine qEf ?_; try intro _)) <;> ((try simp only [kM, kN, kO]); refine tl_nil ?_; refine rNext ?_))))
      all_goals (first | refine rMv 18 ?_ | refine rEx 19 ?_)
      all_goals (first | refine rEx 19 ?_ | refine rEx 20 ?_)
      all_goals (first | refine rEx 20 ?_ | refine rEx 21 ?_)
      all_goals (first | refine rEx 21 ?_ | (refine rStep (i := 22) ?_; ((try refine qWant ?_); (first | (refine qEf ?_; try intro _)) <;> ((try simp only [kM, kN, kO]); refine tl_nil ?_; refine rNext ?_))))
      all_goals (refine rStep (i := 23) ?_; ((try refine qWant ?_); (first | (refine qEf ?_; try intro _)) <;> ((try simp only [kM, kN, kO]); refine tl_nil ?_; refine rNext ?_)))
      all_goals refine rFull ?_
      all_goals refine rAs 24 ?_
      all_goals refine rAs 25 ?_
      all_goals refine rDone ?_
      all_goals (repeat' (first | (refine iBu ?_; refine tl_y (y_buildN rfl) rfl rfl ?_) | (refine i_op ?_; first | (refine i_qq ?_; refine qQ ?_) | refine qEf ?_) | refine tl_nil ?_ | (refine i_tc ?_; refine qTc ?_) | (refine i_te ?_; refine qTe ?_) | intro _))
      all_goals exact qE ⟨hle1, rowFit_z, a, n, c, rfl, (h.mono hle1).flag true, rfl⟩
end Go.Proofs.E

namespace Go.Proofs.E
open Go
set_option linter.unusedVariables false
set_option linter.unusedSimpArgs false
set_option linter.unusedSectionVars false
set_option maxRecDepth 4000
set_option maxHeartbeats 1000000
attribute [local irreducible] Yl TL TC TE Spec YSpec R1 Hp.le EnvLe TS TR YS Stays
-- BN
abbrev cbC (cb tb : Nat) : List (Nat × Obj) := [(cb, .cells ⟨[.pointer (some ⟨tb, 0, none⟩)]⟩ 127 (0, 0))]
theorem rchange1_spec (ρ : Hp) (tb br cb : Nat) (v : RV) (r : Rc) (s : RS3) {a n c ra rn rc Rs} (h : RdAt ρ a n c ra rn rc Rs s) :
    Spec Tryz.prog 153 [.pointer (some ⟨cb, 0, none⟩)] ρ (cbC cb tb :: rdL tb br a n c ra rn rc v r s)
      (fun z ρ' L' => ρ.le ρ' ∧ ∃ x a' n' c', z = .agg ⟨imV x⟩ ∧ Im.In ρ' x ∧ x.plain = (imD (decide (r.kind = 2)) s).1 ∧ RdAt ρ' a' n' c' ra rn rc Rs (imD (decide (r.kind = 2)) s).2 ∧ L' = cbC cb tb :: rdL tb br a' n' c' ra rn rc v r (imD (decide (r.kind = 2)) s).2) := by
  have h8 := n8_spec ρ br h
  have hlt := rdN_lt 1 s
  unfold imD
  rw [show rdL tb br a n c ra rn rc v r s = [reC tb br ra rn rc v r (rdN 1 s).2.2.2, rdC br a n c s.2.1] from rfl]
  generalize rdN 1 s = p at *
  obtain ⟨x1, s1⟩ := p
  dsimp only at h8 hlt ⊢
  unfold imDa imDb
  have hC := fun ρ a n c (h : RdAt ρ a n c ra rn rc Rs s1) => rtakenC_spec ρ tb br v r s1 h
  refine spec_enter Tryz.func153 rfl rfl rfl fun u R => ?_
  simp only [argsE, List.cons_append, List.nil_append]
  by_cases h2 : r.kind = 2
  · simp only [decide_eq_true h2, if_true]
    generalize tkT takeContR ztC s1 = q1 at *
    obtain ⟨b, s2⟩ := q1
    dsimp only at hC ⊢
    have hC2 := fun ρ a n c (h : RdAt ρ a n c ra rn rc Rs s2) => rtakenC_spec ρ tb br v r s2 h
    generalize tkT takeContR ztC s2 = q2 at *
    obtain ⟨ca, s3⟩ := q2
    dsimp only at hC2 ⊢
    repeat' (first | (refine tl_is (.func 79) ?_; refine qC rfl rfl (h8) ?_; rintro v ρ' L' hle ⟨rfl, rfl, a1, n1, c1, h1, rfl⟩ <;> (try simp only [kM, kN, kO])) | (refine tl_is (.func 154) ?_; refine qC rfl rfl (hC _ _ _ _ h1) ?_; rintro v ρ' L' hle ⟨hl2, w2, a2, n2, c2, rfl, hw2, g2, rfl⟩ <;> (try simp only [kM, kN, kO])) | (refine tl_is (.func 154) ?_; refine qC rfl rfl (hC2 _ _ _ _ g2) ?_; rintro v ρ' L' hle ⟨hl3, w3, a3, n3, c3, rfl, hw3, g3, rfl⟩ <;> (try simp only [kM, kN, kO])) | (refine iBu ?_; refine tl_y (y_buildN rfl) rfl rfl ?_) | (refine i_op ?_; first | (refine i_qq ?_; refine qQ ?_) | refine qEf ?_) | refine tl_nil ?_ | (refine i_tc ?_; refine qTc ?_) | (refine i_te ?_; refine qTe ?_) | intro _)
    exact qE ⟨Hp.le_trans hl2 hl3, ⟨x1, w2, b, w3, ca⟩, a3, n3, c3, rfl, ⟨hw2.mono hl3, hw3⟩, rfl, g3, rfl⟩
  · simp only [decide_eq_false h2, Bool.false_eq_true, if_false]
    generalize tkT takeContR ztC s1 = q1 at *
    obtain ⟨ca, s2⟩ := q1
    dsimp only at hC ⊢
    repeat' (first | (refine tl_is (.func 79) ?_; refine qC rfl rfl (h8) ?_; rintro v ρ' L' hle ⟨rfl, rfl, a1, n1, c1, h1, rfl⟩ <;> (try simp only [kM, kN, kO])) | (refine tl_is (.func 154) ?_; refine qC rfl rfl (hC _ _ _ _ h1) ?_; rintro v ρ' L' hle ⟨hl2, w2, a2, n2, c2, rfl, hw2, g2, rfl⟩ <;> (try simp only [kM, kN, kO])) | (refine iBu ?_; refine tl_y (y_buildN rfl) rfl rfl ?_) | (refine i_op ?_; first | (refine i_qq ?_; refine qQ ?_) | refine qEf ?_) | refine tl_nil ?_ | (refine i_tc ?_; refine qTc ?_) | (refine i_te ?_; refine qTe ?_) | intro _)
    exact qE ⟨hl2, ⟨x1, nilCV, ztC, w2, ca⟩, a2, n2, c2, rfl, ⟨CI.nil, hw2⟩, rfl, g2, rfl⟩
theorem rdone1_spec (ρ : Hp) (tb br cb : Nat) (v : RV) (r : Rc) (s : RS3) {a n c ra rn rc Rs} (h : RdAt ρ a n c ra rn rc Rs s) :
    Spec Tryz.prog 157 [.pointer (some ⟨cb, 0, none⟩)] ρ (cbC cb tb :: rdL tb br a n c ra rn rc v r s)
      (fun z ρ' L' => ρ.le ρ' ∧ z = .agg ⟨stpV (stpD s).1⟩ ∧ RowFit (stpD s).1.row ∧ ∃ a' n' c', RdAt ρ' a' n' c' ra rn rc Rs (stpD s).2 ∧ L' = cbC cb tb :: rdL tb br a' n' c' ra rn rc v r (stpD s).2) := by
  have h8 := n8_spec ρ br h
  have hlt := rdN_lt 1 s
  unfold stpD
  rw [show rdL tb br a n c ra rn rc v r s = [reC tb br ra rn rc v r (rdN 1 s).2.2.2, rdC br a n c s.2.1] from rfl]
  generalize rdN 1 s = p at *
  obtain ⟨x1, s1⟩ := p
  dsimp only at h8 hlt ⊢
  refine spec_enter Tryz.func157 rfl rfl rfl fun u R => ?_
  simp only [argsE, List.cons_append, List.nil_append]
  by_cases h23 : x1 = 2 ∨ x1 = 3
  · unfold stpDt stpDr
    rw [if_pos h23]
    have hC := fun ρ a n c (h : RdAt ρ a n c ra rn rc Rs s1) => rtakenR_spec ρ tb br v r s1 h
    generalize tkT takeRowR ztR s1 = q1 at *
    obtain ⟨b, s2⟩ := q1
    dsimp only at hC ⊢
    rcases h23 with e | e
    all_goals (repeat' (first | (refine tl_is (.func 79) ?_; refine qC rfl rfl (h8) ?_; rintro v ρ' L' hle ⟨rfl, rfl, a1, n1, c1, h1, rfl⟩ <;> (try simp only [kM, kN, kO])) | (refine tl_is (.func 158) ?_; refine qC rfl rfl (hC _ _ _ _ h1) ?_; rintro v ρ' L' hle ⟨hl2, hf, a2, n2, c2, rfl, g2, rfl⟩ <;> (try simp only [kM, kN, kO])) | (refine iBu ?_; refine tl_y (y_buildN rfl) rfl rfl ?_) | (refine i_op ?_; first | (refine i_qq ?_; refine qQ ?_) | refine qEf ?_) | refine tl_nil ?_ | (refine i_tc ?_; refine qTc ?_) | (refine i_te ?_; refine qTe ?_) | intro _))
    all_goals exact qE ⟨hl2, rfl, hf, a2, n2, c2, g2, rfl⟩
  · unfold stpDt stpDi
    rw [if_neg h23]
    have k8 := fun ρ a n c (h : RdAt ρ a n c ra rn rc Rs s1) => n8_spec ρ br h
    have hlt1 := rdN_lt 1 s1
    rw [show s1.2.2 = (rdN 1 s1).2.2.2 from rfl]
    generalize rdN 1 s1 = p1 at *
    obtain ⟨x2, s2⟩ := p1
    dsimp only at k8 hlt1 ⊢
    have k16 := fun ρ a n c (h : RdAt ρ a n c ra rn rc Rs s2) => n16_spec ρ br h
    have hlt2 := rdN_lt 2 s2
    rw [show s2.2.2 = (rdN 2 s2).2.2.2 from rfl]
    generalize rdN 2 s2 = p2 at *
    obtain ⟨x3, s3⟩ := p2
    dsimp only at k16 hlt2 ⊢
    unfold stpDb
    by_cases hx1 : x1 = 1
    · rw [if_pos hx1]
      have k64 := fun ρ a n c (h : RdAt ρ a n c ra rn rc Rs s3) => n64_spec ρ br h
      have hlt3 := rdN_lt 8 s3
      rw [show s3.2.2 = (rdN 8 s3).2.2.2 from rfl]
      generalize rdN 8 s3 = p3 at *
      obtain ⟨x4, s4⟩ := p3
      dsimp only at k64 hlt3 ⊢
      repeat' (first | (refine tl_is (.func 79) ?_; refine qC rfl rfl (h8) ?_; rintro v ρ' L' hle ⟨rfl, rfl, a1, n1, c1, h1, rfl⟩ <;> (try simp only [kM, kN, kO])) | (refine tl_is (.func 79) ?_; refine qC rfl rfl (k8 _ _ _ _ h1) ?_; rintro v ρ' L' hle ⟨rfl, rfl, a2, n2, c2, h2, rfl⟩ <;> (try simp only [kM, kN, kO])) | (refine tl_is (.func 160) ?_; refine qC rfl rfl (k16 _ _ _ _ h2) ?_; rintro v ρ' L' hle ⟨rfl, rfl, a3, n3, c3, h3, rfl⟩ <;> (try simp only [kM, kN, kO])) | (refine tl_is (.func 80) ?_; refine qC rfl rfl (k64 _ _ _ _ h3) ?_; rintro v ρ' L' hle ⟨rfl, rfl, a4, n4, c4, h4, rfl⟩ <;> (try simp only [kM, kN, kO])) | (refine iBu ?_; refine tl_y (y_buildN rfl) rfl rfl ?_) | (refine i_op ?_; first | (refine i_qq ?_; refine qQ ?_) | refine qEf ?_) | refine tl_nil ?_ | (refine i_tc ?_; refine qTc ?_) | (refine i_te ?_; refine qTe ?_) | intro _)
      exact qE ⟨Hp.le_refl _, rfl, ⟨by dsimp only; omega, by dsimp only; decide⟩, a4, n4, c4, h4, rfl⟩
    · rw [if_neg hx1]
      repeat' (first | (refine tl_is (.func 79) ?_; refine qC rfl rfl (h8) ?_; rintro v ρ' L' hle ⟨rfl, rfl, a1, n1, c1, h1, rfl⟩ <;> (try simp only [kM, kN, kO])) | (refine tl_is (.func 79) ?_; refine qC rfl rfl (k8 _ _ _ _ h1) ?_; rintro v ρ' L' hle ⟨rfl, rfl, a2, n2, c2, h2, rfl⟩ <;> (try simp only [kM, kN, kO])) | (refine tl_is (.func 160) ?_; refine qC rfl rfl (k16 _ _ _ _ h2) ?_; rintro v ρ' L' hle ⟨rfl, rfl, a3, n3, c3, h3, rfl⟩ <;> (try simp only [kM, kN, kO])) | (refine iBu ?_; refine tl_y (y_buildN rfl) rfl rfl ?_) | (refine i_op ?_; first | (refine i_qq ?_; refine qQ ?_) | refine qEf ?_) | refine tl_nil ?_ | (refine i_tc ?_; refine qTc ?_) | (refine i_te ?_; refine qTe ?_) | intro _)
      exact qE ⟨Hp.le_refl _, rfl, ⟨by dsimp only; omega, by dsimp only; decide⟩, a3, n3, c3, h3, rfl⟩
theorem rckpt2_spec (ρ : Hp) (tb br cb : Nat) (v : RV) (r : Rc) (s : RS3) {a n c ra rn rc Rs} (h : RdAt ρ a n c ra rn rc Rs s) :
    Spec Tryz.prog 164 [.pointer (some ⟨cb, 0, none⟩)] ρ (cbC cb tb :: rdL tb br a n c ra rn rc v r s)
      (fun z ρ' L' => ρ.le ρ' ∧ z = .agg ⟨ckPV (ckPD s).1⟩ ∧ True ∧ ∃ a' n' c', RdAt ρ' a' n' c' ra rn rc Rs (ckPD s).2 ∧ L' = cbC cb tb :: rdL tb br a' n' c' ra rn rc v r (ckPD s).2) := by
  have h8 := n8_spec ρ br h
  have hlt := rdN_lt 1 s
  unfold ckPD
  rw [show rdL tb br a n c ra rn rc v r s = [reC tb br ra rn rc v r (rdN 1 s).2.2.2, rdC br a n c s.2.1] from rfl]
  generalize rdN 1 s = p at *
  obtain ⟨x1, s1⟩ := p
  dsimp only at h8 hlt ⊢
  unfold ckPr
  have k64 := fun ρ a n c (h : RdAt ρ a n c ra rn rc Rs s1) => n64_spec ρ br h
  have hlt3 := rdN_lt 8 s1
  rw [show s1.2.2 = (rdN 8 s1).2.2.2 from rfl]
  generalize rdN 8 s1 = p3 at *
  obtain ⟨x4, s4⟩ := p3
  dsimp only at k64 hlt3 ⊢
  refine spec_enter Tryz.func164 rfl rfl rfl fun u R => ?_
  simp only [argsE, List.cons_append, List.nil_append]
  repeat' (first | (refine tl_is (.func 79) ?_; refine qC rfl rfl (h8) ?_; rintro v ρ' L' hle ⟨rfl, rfl, a1, n1, c1, h1, rfl⟩ <;> (try simp only [kM, kN, kO])) | (refine tl_is (.func 80) ?_; refine qC rfl rfl (k64 _ _ _ _ h1) ?_; rintro v ρ' L' hle ⟨rfl, rfl, a4, n4, c4, h4, rfl⟩ <;> (try simp only [kM, kN, kO])) | (refine iBu ?_; refine tl_y (y_buildN rfl) rfl rfl ?_) | (refine i_op ?_; first | (refine i_qq ?_; refine qQ ?_) | refine qEf ?_) | refine tl_nil ?_ | (refine i_tc ?_; refine qTc ?_) | (refine i_te ?_; refine qTe ?_) | intro _)
  exact qE ⟨Hp.le_refl _, rfl, trivial, a4, n4, c4, h4, rfl⟩
theorem rckpt1_spec (ρ : Hp) (tb br cb : Nat) (v : RV) (r : Rc) (s : RS3) {a n c ra rn rc Rs} (h : RdAt ρ a n c ra rn rc Rs s) :
    Spec Tryz.prog 162 [.pointer (some ⟨cb, 0, none⟩)] ρ (cbC cb tb :: rdL tb br a n c ra rn rc v r s)
      (fun z ρ' L' => ρ.le ρ' ∧ z = .agg ⟨ckTV (ckTD s).1⟩ ∧ True ∧ ∃ a' n' c', RdAt ρ' a' n' c' ra rn rc Rs (ckTD s).2 ∧ L' = cbC cb tb :: rdL tb br a' n' c' ra rn rc v r (ckTD s).2) := by
  have h8 := n32_spec ρ br h
  have hlt := rdN_lt 4 s
  unfold ckTD
  rw [show rdL tb br a n c ra rn rc v r s = [reC tb br ra rn rc v r (rdN 4 s).2.2.2, rdC br a n c s.2.1] from rfl]
  generalize rdN 4 s = p at *
  obtain ⟨x1, s1⟩ := p
  dsimp only at h8 hlt ⊢
  unfold ckTf
  have k1 := fun ρ a n c (h : RdAt ρ a n c ra rn rc Rs s1) => n64_spec ρ br h
  have hlt1 := rdN_lt 8 s1
  rw [show s1.2.2 = (rdN 8 s1).2.2.2 from rfl]
  generalize rdN 8 s1 = p1 at *
  obtain ⟨x2, s2⟩ := p1
  dsimp only at k1 hlt1 ⊢
  unfold ckTl
  have k2 := fun ρ a n c (h : RdAt ρ a n c ra rn rc Rs s2) => n64_spec ρ br h
  have hlt2 := rdN_lt 8 s2
  rw [show s2.2.2 = (rdN 8 s2).2.2.2 from rfl]
  generalize rdN 8 s2 = p2 at *
  obtain ⟨x3, s3⟩ := p2
  dsimp only at k2 hlt2 ⊢
  unfold ckTu
  have k3 := fun ρ a n c (h : RdAt ρ a n c ra rn rc Rs s3) => n64_spec ρ br h
  have hlt3 := rdN_lt 8 s3
  rw [show s3.2.2 = (rdN 8 s3).2.2.2 from rfl]
  generalize rdN 8 s3 = p3 at *
  obtain ⟨x4, s4⟩ := p3
  dsimp only at k3 hlt3 ⊢
  unfold ckTe
  have k4 := fun ρ a n c (h : RdAt ρ a n c ra rn rc Rs s4) => n8_spec ρ br h
  have hlt4 := rdN_lt 1 s4
  rw [show s4.2.2 = (rdN 1 s4).2.2.2 from rfl]
  generalize rdN 1 s4 = p4 at *
  obtain ⟨x5, s5⟩ := p4
  dsimp only at k4 hlt4 ⊢
  refine spec_enter Tryz.func162 rfl rfl rfl fun u R => ?_
  simp only [argsE, List.cons_append, List.nil_append]
  repeat' (first | (refine tl_is (.func 81) ?_; refine qC rfl rfl (h8) ?_; rintro v ρ' L' hle ⟨rfl, rfl, a1, n1, c1, h1, rfl⟩ <;> (try simp only [kM, kN, kO])) | (refine iBu ?_; refine tl_y (y_buildN rfl) rfl rfl ?_) | (refine i_op ?_; first | (refine i_qq ?_; refine qQ ?_) | refine qEf ?_) | refine tl_nil ?_ | (refine i_tc ?_; refine qTc ?_) | (refine i_te ?_; refine qTe ?_) | intro _)
  refine tc_any (Stays _ _ ([[(_, .cells ⟨[.pointer (some ⟨tb, 0, none⟩)]⟩ 127 (0, 0))], [(tb, _)]])) (stays_of (hT := tk) (Hp.le_refl _)) ?_
  all_goals refine rLd 0 ?_
  all_goals refine rNc 1 ?_
  all_goals refine rFa 2 ?_
  all_goals refine rLd 3 ?_
  all_goals refine rLd 5 ?_
  all_goals refine rNc 6 ?_
  all_goals refine rFa 7 ?_
  all_goals refine rLd 8 ?_
  all_goals refine rLd 10 ?_
  all_goals refine rNc 11 ?_
  all_goals refine rFa 12 ?_
  all_goals refine rLd 13 ?_
  all_goals (refine rStep (i := 4) ?_; ((try refine qWant ?_); (first | (refine tl_is (.func 80) ?_; refine qC rfl rfl (k1 _ _ _ _ h1) ?_; rintro v ρ' L' hle ⟨rfl, rfl, a2, n2, c2, g2, rfl⟩ <;> (try simp only [kM, kN, kO])) | (refine tl_is (.func 80) ?_; refine qC rfl rfl (k2 _ _ _ _ g2) ?_; rintro v ρ' L' hle ⟨rfl, rfl, a3, n3, c3, g3, rfl⟩ <;> (try simp only [kM, kN, kO])) | (refine tl_is (.func 80) ?_; refine qC rfl rfl (k3 _ _ _ _ g3) ?_; rintro v ρ' L' hle ⟨rfl, rfl, a4, n4, c4, g4, rfl⟩ <;> (try simp only [kM, kN, kO])) | (refine qEf ?_; try intro _)) <;> ((try simp only [kM, kN, kO]); refine tl_nil ?_; refine rNext ?_)))
  all_goals refine rFa 15 ?_
  all_goals (refine rStep (i := 9) ?_; ((try refine qWant ?_); (first | (refine tl_is (.func 80) ?_; refine qC rfl rfl (k1 _ _ _ _ h1) ?_; rintro v ρ' L' hle ⟨rfl, rfl, a2, n2, c2, g2, rfl⟩ <;> (try simp only [kM, kN, kO])) | (refine tl_is (.func 80) ?_; refine qC rfl rfl (k2 _ _ _ _ g2) ?_; rintro v ρ' L' hle ⟨rfl, rfl, a3, n3, c3, g3, rfl⟩ <;> (try simp only [kM, kN, kO])) | (refine tl_is (.func 80) ?_; refine qC rfl rfl (k3 _ _ _ _ g3) ?_; rintro v ρ' L' hle ⟨rfl, rfl, a4, n4, c4, g4, rfl⟩ <;> (try simp only [kM, kN, kO])) | (refine qEf ?_; try intro _)) <;> ((try simp only [kM, kN, kO]); refine tl_nil ?_; refine rNext ?_)))
  all_goals (refine rStep (i := 14) ?_; ((try refine qWant ?_); (first | (refine tl_is (.func 80) ?_; refine qC rfl rfl (k1 _ _ _ _ h1) ?_; rintro v ρ' L' hle ⟨rfl, rfl, a2, n2, c2, g2, rfl⟩ <;> (try simp only [kM, kN, kO])) | (refine tl_is (.func 80) ?_; refine qC rfl rfl (k2 _ _ _ _ g2) ?_; rintro v ρ' L' hle ⟨rfl, rfl, a3, n3, c3, g3, rfl⟩ <;> (try simp only [kM, kN, kO])) | (refine tl_is (.func 80) ?_; refine qC rfl rfl (k3 _ _ _ _ g3) ?_; rintro v ρ' L' hle ⟨rfl, rfl, a4, n4, c4, g4, rfl⟩ <;> (try simp only [kM, kN, kO])) | (refine qEf ?_; try intro _)) <;> ((try simp only [kM, kN, kO]); refine tl_nil ?_; refine rNext ?_)))
  all_goals (refine rStep (i := 16) ?_; ((try refine qWant ?_); (first | (refine qEf ?_; try intro _)) <;> ((try simp only [kM, kN, kO]); refine tl_nil ?_; refine rNext ?_)))
  all_goals refine rFa 17 ?_
  all_goals (refine rStep (i := 18) ?_; ((try refine qWant ?_); (first | (refine qEf ?_; try intro _)) <;> ((try simp only [kM, kN, kO]); refine tl_nil ?_; refine rNext ?_)))
  all_goals refine rFa 19 ?_
  all_goals (refine rStep (i := 20) ?_; ((try refine qWant ?_); (first | (refine qEf ?_; try intro _)) <;> ((try simp only [kM, kN, kO]); refine tl_nil ?_; refine rNext ?_)))
  all_goals refine rDone ?_
  all_goals (repeat' (first | (refine tl_is (.func 79) ?_; refine qC rfl rfl (k4 _ _ _ _ g4) ?_; rintro v ρ' L' hle ⟨rfl, rfl, a5, n5, c5, g5, rfl⟩ <;> (try simp only [kM, kN, kO])) | (refine iBu ?_; refine tl_y (y_buildN rfl) rfl rfl ?_) | (refine i_op ?_; first | (refine i_qq ?_; refine qQ ?_) | refine qEf ?_) | refine tl_nil ?_ | (refine i_tc ?_; refine qTc ?_) | (refine i_te ?_; refine qTe ?_) | intro _))
  all_goals exact qE ⟨Hp.le_refl _, rfl, trivial, a5, n5, c5, g5, rfl⟩
end Go.Proofs.E

