/- The law CkptReads. Part 5 of 14. -/
import Derived.Test.YtjajdpfdhokkhaaGreatW4
namespace Go.Proofs.E
open Go
set_option linter.unusedVariables false
set_option linter.unusedSimpArgs false
set_option linter.unusedSectionVars false
set_option maxRecDepth 4000
set_option maxHeartbeats 1000000
attribute [local irreducible] Yl TL TC TE Spec YSpec R1 Hp.le EnvLe TS TR YS Stays
structure MetOk (es : List MapEntry) (ps : List Int) : Prop where
  keys : IntKeys .i64 es
  get : ∀ p, mget es p = if p ∈ ps then some (.bool true) else none
theorem MetOk.nil : MetOk [] [] := ⟨by intro e he; simp at he, fun p => by simp [mget]⟩
def kidOk (i : Nat) (ps : List Int) (k : Kid) : Bool := decide (k.page ∉ ps ∧ 0 < k.page ∧ k.page < 64 ∧ (0 ≤ k.t ∧ k.t < 3) ∧ (0 < i ∨ (k.t = 0 ∧ k.id = 0)))
theorem kidV_len (r : Kid) : (kidV r).length = 3 := rfl
theorem inner1_spec (ρ : Hp) (r : Kid) : Spec Tryz.prog 306 [.agg ⟨kidV r⟩] ρ [] (fun v ρ' L' => v = .agg ⟨keyV r.t r.id⟩ ∧ ρ' = ρ ∧ L' = []) := by
  refine spec_enter Tryz.func306 rfl rfl rfl fun u R => ?_
  simp only [argsE, List.cons_append, List.nil_append]
  repeat' (first | (refine i_op ?_; first | (refine i_qq ?_; refine qQ ?_) | refine qEf ?_) | refine tl_nil ?_ | (refine i_tc ?_; refine qTc ?_) | (refine i_te ?_; refine qTe ?_) | intro _)
  exact qE ⟨rfl, rfl, rfl⟩
abbrev metL (bx mb : Nat) (es : List MapEntry) (ck : Nat) : SH := [[(bx, .cells ⟨[.map (some mb)]⟩ 335 (0, 0))], [(mb, .map ⟨es⟩ ck)]]
theorem inner2_spec (ρ : Hp) (bx mb : Nat) (es : List MapEntry) (ck : Nat) (ps : List Int) (hm : MetOk es ps) (i : Nat) (k : Kid) : Spec Tryz.prog 307 [.int .i64 i, .agg ⟨kidV k⟩, .pointer (some ⟨bx, 0, none⟩)] ρ (metL bx mb es ck)
    (fun v ρ' L' => v = .bool (kidOk i ps k) ∧ ρ' = ρ ∧ ∃ es' ck', MetOk es' (k.page :: ps) ∧ L' = metL bx mb es' ck') := by
  obtain ⟨t, id, page⟩ := k
  have hes := hm.keys
  have hg := hm.get page
  dsimp only at hg ⊢
  generalize hq : kidOk i ps ⟨t, id, page⟩ = q
  have hfin : ∀ es', IntKeys .i64 es' → (∀ j, mget es' j = if j = page then some (.bool true) else mget es j) → MetOk es' (page :: ps) := fun es' h1 h2 => ⟨h1, fun p => by
    rw [h2 p, hm.get p]
    by_cases e : p = page <;> simp [e]⟩
  refine spec_enter Tryz.func307 rfl rfl rfl fun u R => ?_
  simp only [argsE, List.cons_append, List.nil_append]
  by_cases hp : page ∈ ps
  · rw [if_pos hp] at hg
    have hq' : q = false := by rw [← hq]; exact decide_eq_false (fun h => h.1 hp)
    subst hq'
    repeat' (first | (refine tl_mapUpdate rfl rfl rfl hes (fun es' ck' h1 h2 => ?_)) | (refine i_op ?_; first | (refine i_qq ?_; refine qQ ?_) | refine qEf ?_) | refine tl_nil ?_ | (refine i_tc ?_; refine qTc ?_) | (refine i_te ?_; refine qTe ?_) | intro _)
    exact qE ⟨rfl, rfl, es', ck', hfin es' h1 h2, rfl⟩
  · rw [if_neg hp] at hg
    by_cases hp0 : 0 < page
    · by_cases hp6 : page < 64
      · by_cases ht : 0 ≤ t ∧ t < 3
        · have hd : decide (0 ≤ t ∧ t < 3) = true := decide_eq_true ht
          by_cases hi : 0 < i
          · have hq' : q = true := by rw [← hq]; exact decide_eq_true ⟨hp, hp0, hp6, ht, .inl hi⟩
            subst hq'
            repeat' (first | (refine tl_mapUpdate rfl rfl rfl hes (fun es' ck' h1 h2 => ?_)) | (refine tl_is (.func 280) ?_; refine qC rfl rfl (table_spec _ _) ?_; rintro v ρ' L' hle ⟨rfl, rfl, rfl⟩ <;> (try simp only [kM, kN, kO, hd])) | (refine i_op ?_; first | (refine i_qq ?_; refine qQ ?_) | refine qEf ?_) | refine tl_nil ?_ | (refine i_tc ?_; refine qTc ?_) | (refine i_te ?_; refine qTe ?_) | intro _)
            exact qE ⟨rfl, rfl, es', ck', hfin es' h1 h2, rfl⟩
          · by_cases hz : t = 0 ∧ id = 0
            · have hq' : q = true := by rw [← hq]; exact decide_eq_true ⟨hp, hp0, hp6, ht, .inr hz⟩
              subst hq'
              obtain ⟨rfl, rfl⟩ := hz
              repeat' (first | (refine tl_mapUpdate rfl rfl rfl hes (fun es' ck' h1 h2 => ?_)) | (refine tl_is (.func 280) ?_; refine qC rfl rfl (table_spec _ _) ?_; rintro v ρ' L' hle ⟨rfl, rfl, rfl⟩ <;> (try simp only [kM, kN, kO, hd])) | (refine i_op ?_; first | (refine i_qq ?_; refine qQ ?_) | refine qEf ?_) | refine tl_nil ?_ | (refine i_tc ?_; refine qTc ?_) | (refine i_te ?_; refine qTe ?_) | intro _)
              exact qE ⟨rfl, rfl, es', ck', hfin es' h1 h2, rfl⟩
            · have hq' : q = false := by rw [← hq]; exact decide_eq_false (fun h => h.2.2.2.2.elim hi hz)
              subst hq'
              have hk : ((t == 0) && (((id : Int) == 0) && true)) = false := by
                simp; intro h; exact fun h' => hz ⟨h, by omega⟩
              repeat' (first | (refine tl_mapUpdate rfl rfl rfl hes (fun es' ck' h1 h2 => ?_)) | (refine tl_is (.func 280) ?_; refine qC rfl rfl (table_spec _ _) ?_; rintro v ρ' L' hle ⟨rfl, rfl, rfl⟩ <;> (try simp only [kM, kN, kO, hd])) | (refine i_op ?_; first | (refine i_qq ?_; refine qQ ?_) | refine qEf ?_) | refine tl_nil ?_ | (refine i_tc ?_; refine qTc ?_) | (refine i_te ?_; refine qTe ?_) | intro _)
              exact qE ⟨by first | rfl | exact congrArg Value.bool hk, rfl, es', ck', hfin es' h1 h2, rfl⟩
        · have hd : decide (0 ≤ t ∧ t < 3) = false := decide_eq_false ht
          have hq' : q = false := by rw [← hq]; exact decide_eq_false (fun h => ht h.2.2.2.1)
          subst hq'
          repeat' (first | (refine tl_mapUpdate rfl rfl rfl hes (fun es' ck' h1 h2 => ?_)) | (refine tl_is (.func 280) ?_; refine qC rfl rfl (table_spec _ _) ?_; rintro v ρ' L' hle ⟨rfl, rfl, rfl⟩ <;> (try simp only [kM, kN, kO, hd])) | (refine i_op ?_; first | (refine i_qq ?_; refine qQ ?_) | refine qEf ?_) | refine tl_nil ?_ | (refine i_tc ?_; refine qTc ?_) | (refine i_te ?_; refine qTe ?_) | intro _)
          exact qE ⟨rfl, rfl, es', ck', hfin es' h1 h2, rfl⟩
      · have hq' : q = false := by rw [← hq]; exact decide_eq_false (fun h => hp6 h.2.2.1)
        subst hq'
        repeat' (first | (refine tl_mapUpdate rfl rfl rfl hes (fun es' ck' h1 h2 => ?_)) | (refine i_op ?_; first | (refine i_qq ?_; refine qQ ?_) | refine qEf ?_) | refine tl_nil ?_ | (refine i_tc ?_; refine qTc ?_) | (refine i_te ?_; refine qTe ?_) | intro _)
        exact qE ⟨rfl, rfl, es', ck', hfin es' h1 h2, rfl⟩
    · have hq' : q = false := by rw [← hq]; exact decide_eq_false (fun h => hp0 h.2.1)
      subst hq'
      repeat' (first | (refine tl_mapUpdate rfl rfl rfl hes (fun es' ck' h1 h2 => ?_)) | (refine i_op ?_; first | (refine i_qq ?_; refine qQ ?_) | refine qEf ?_) | refine tl_nil ?_ | (refine i_tc ?_; refine qTc ?_) | (refine i_te ?_; refine qTe ?_) | intro _)
      exact qE ⟨rfl, rfl, es', ck', hfin es' h1 h2, rfl⟩
def psTo (l : List Kid) (k : Nat) : List Int := ((l.take k).map Kid.page).reverse
theorem psTo_succ {l : List Kid} {k : Nat} (h : k < l.length) : psTo l (k + 1) = l[k].page :: psTo l k := by
  unfold psTo; rw [List.take_succ_eq_append_getElem h, List.map_append, List.reverse_append]; rfl
def ltK (y x : Kid) : Bool := decide (cmpK y.t y.id x.t x.id < 0)
def kidsOk (l : List Kid) : Bool := risesB 4 (fun i k => kidOk i (psTo l i) k) ltK l l.length
theorem risesKid_spec (ρ : Hp) (a : Option Addr) (n c : Nat) (l : List Kid) (h : AIn ρ 3 kidV a n l) (hn : n ≤ 1000000) (bx mb ck0 : Nat) :
    Spec Tryz.prog 305 [.slice a n c, .int .i64 4, .func (.func 306) ⟨[]⟩ ⟨[]⟩, .func (.func 307) ⟨[]⟩ ⟨[.pointer (some ⟨bx, 0, none⟩)]⟩] ρ (metL bx mb [] ck0) (fun v ρ' L' => v = .bool (kidsOk l) ∧ ρ' = ρ ∧ L' = []) := by
  have hl := h.len
  unfold kidsOk
  rw [hl]
  refine spec_enter Tryz.func305 rfl rfl rfl fun u R => ?_
  simp only [argsE, List.cons_append, List.nil_append]
  generalize hr : (fun (i : Nat) (k : Kid) => kidOk i (psTo l i) k) = rt
  repeat' (first | (refine i_op ?_; first | (refine i_qq ?_; refine qQ ?_) | refine qEf ?_) | refine tl_nil ?_ | (refine i_tc ?_; refine qTc ?_) | (refine i_te ?_; refine qTe ?_) | intro _)
  have e0 : decide ((n : Int) ≤ 4) = risesB 4 rt ltK l 0 := by
    rw [risesB]; simp [hl]; omega
  rw [e0]
  refine tc_loop_g [(0, _), (2, _), (3, _), (8, _), (16, _), (17, _)] (fun (ζ : (Nat) × (List MapEntry) × (Nat)) => [(18, .int .i64 ζ.1), (9, .bool (risesB 4 rt ltK l ζ.1))]) (fun (ζ : (Nat) × (List MapEntry) × (Nat)) => ρ) (fun (ζ : (Nat) × (List MapEntry) × (Nat)) => metL bx mb ζ.2.1 ζ.2.2) (fun (ζ : (Nat) × (List MapEntry) × (Nat)) => ζ.1 ≤ n ∧ MetOk ζ.2.1 (psTo l ζ.1)) (fun (ζ : (Nat) × (List MapEntry) × (Nat)) => n - ζ.1) ((0, [], ck0)) (⟨Nat.zero_le _, MetOk.nil⟩) ev_le ev_le rfl tk ?_
  rintro ⟨k, es, ck⟩ hI
  try simp only [List.cons_append, List.nil_append, List.append_assoc, List.append_eq] at hI ⊢
  try dsimp only at hI ⊢
  obtain ⟨hI, hm⟩ := hI
  by_cases hlt : k < n
  · obtain ⟨b, off, C, T, fr, rfl, hb, hfit, hc⟩ := h.get (show k < l.length by omega)
    have hs := risesB_succ (most := 4) (right := rt) (lt := ltK) (show k < l.length by omega)
    have hfin := fun (e : risesB 4 rt ltK l (k + 1) = false) => risesB_false' e (show k + 1 ≤ n by omega)
    have hps := psTo_succ (show k < l.length by omega)
    have hrk : rt k l[k] = kidOk k (psTo l k) l[k] := by rw [← hr]
    cases hok : risesB 4 rt ltK l k
    · rw [hok, Bool.false_and] at hs
      rw [hfin hs]
      generalize l[k] = x at *
      repeat' (first | (refine i_op ?_; first | (refine i_qq ?_; refine qQ ?_) | refine qEf ?_) | refine tl_nil ?_ | (refine i_tc ?_; refine qTc ?_) | (refine i_te ?_; refine qTe ?_) | intro _)
      rename_i b11
      refine tc_any (Stays _ _ ([[(b11, .cells ⟨kidV x⟩ 224 (0, 0))]])) (stays_of (hT := tk) (Hp.le_refl _)) ?_
      all_goals refine rMv 0 ?_
      all_goals refine rMv 1 ?_
      all_goals (first | refine wSkip 2 ?_ | refine wSkipU 2 ?_ | refine wMv 2 ?_ | (refine tr_guard (t := 24) rfl (fun hb => ?_) (fun hb => ?_) <;> (try simp only [kk] at hb) <;> first | refine wSkip 2 ?_ | refine wSkipU 2 ?_ | refine wMv 2 ?_))
      all_goals (first | refine wSkip 3 ?_ | refine wSkipU 3 ?_ | refine wMv 3 ?_ | (refine tr_guard (t := 24) rfl (fun hb => ?_) (fun hb => ?_) <;> (try simp only [kk] at hb) <;> first | refine wSkip 3 ?_ | refine wSkipU 3 ?_ | refine wMv 3 ?_))
      all_goals (first | refine wSkip 4 ?_ | refine wSkipU 4 ?_ | refine wLd 4 ?_ | (refine tr_guard (t := 24) rfl (fun hb => ?_) (fun hb => ?_) <;> (try simp only [kk] at hb) <;> first | refine wSkip 4 ?_ | refine wSkipU 4 ?_ | refine wLd 4 ?_))
      all_goals (first | refine wSkip 5 ?_ | refine wSkipU 5 ?_ | (refine rStep (i := 5) ?_; ((try refine qWant ?_); (first | (refine qEf ?_; try intro _)) <;> ((try simp only [kM, kN, kO]); refine tl_nil ?_; refine rNext ?_))))
      all_goals refine rPk 6 ?_
      all_goals refine rMv 7 ?_
      all_goals (first | refine wSkip 8 ?_ | refine wSkipU 8 ?_ | refine wMv 8 ?_ | (refine tr_guard (t := 30) rfl (fun hb => ?_) (fun hb => ?_) <;> (try simp only [kk] at hb) <;> first | refine wSkip 8 ?_ | refine wSkipU 8 ?_ | refine wMv 8 ?_))
      all_goals (first | refine wSkip 9 ?_ | refine wSkipU 9 ?_ | refine wCm 9 ?_ | (refine tr_guard (t := 30) rfl (fun hb => ?_) (fun hb => ?_) <;> (try simp only [kk] at hb) <;> first | refine wSkip 9 ?_ | refine wSkipU 9 ?_ | refine wCm 9 ?_))
      all_goals (first | refine wSkip 10 ?_ | refine wSkipU 10 ?_ | refine wMv 10 ?_ | (refine tr_guard (t := 30) rfl (fun hb => ?_) (fun hb => ?_) <;> (try simp only [kk] at hb) <;> first | refine wSkip 10 ?_ | refine wSkipU 10 ?_ | refine wMv 10 ?_))
      all_goals (first | refine wSkip 11 ?_ | refine wSkipU 11 ?_ | refine wMv 11 ?_ | (refine tr_guard (t := 33) rfl (fun hb => ?_) (fun hb => ?_) <;> (try simp only [kk] at hb) <;> first | refine wSkip 11 ?_ | refine wSkipU 11 ?_ | refine wMv 11 ?_))
      all_goals (first | refine wSkip 12 ?_ | refine wSkipU 12 ?_ | refine wMv 12 ?_ | (refine tr_guard (t := 33) rfl (fun hb => ?_) (fun hb => ?_) <;> (try simp only [kk] at hb) <;> first | refine wSkip 12 ?_ | refine wSkipU 12 ?_ | refine wMv 12 ?_))
      all_goals (first | refine wSkip 13 ?_ | refine wSkipU 13 ?_ | refine wMv 13 ?_ | (refine tr_guard (t := 33) rfl (fun hb => ?_) (fun hb => ?_) <;> (try simp only [kk] at hb) <;> first | refine wSkip 13 ?_ | refine wSkipU 13 ?_ | refine wMv 13 ?_))
      all_goals (first | refine wSkip 14 ?_ | refine wSkipU 14 ?_ | refine wSb 14 ?_ | (refine tr_guard (t := 33) rfl (fun hb => ?_) (fun hb => ?_) <;> (try simp only [kk] at hb) <;> first | refine wSkip 14 ?_ | refine wSkipU 14 ?_ | refine wSb 14 ?_))
      all_goals (first | refine wSkip 15 ?_ | refine wSkipU 15 ?_ | refine wIa 15 ?_ | (refine tr_guard (t := 33) rfl (fun hb => ?_) (fun hb => ?_) <;> (try simp only [kk] at hb) <;> first | refine wSkip 15 ?_ | refine wSkipU 15 ?_ | refine wIa 15 ?_))
      all_goals (first | refine wSkip 16 ?_ | refine wSkipU 16 ?_ | refine wLd 16 ?_ | (refine tr_guard (t := 33) rfl (fun hb => ?_) (fun hb => ?_) <;> (try simp only [kk] at hb) <;> first | refine wSkip 16 ?_ | refine wSkipU 16 ?_ | refine wLd 16 ?_))
      all_goals (first | refine wSkip 18 ?_ | refine wSkipU 18 ?_ | refine wMv 18 ?_ | (refine tr_guard (t := 33) rfl (fun hb => ?_) (fun hb => ?_) <;> (try simp only [kk] at hb) <;> first | refine wSkip 18 ?_ | refine wSkipU 18 ?_ | refine wMv 18 ?_))
      all_goals (first | refine wSkip 19 ?_ | refine wSkipU 19 ?_ | refine wLd 19 ?_ | (refine tr_guard (t := 33) rfl (fun hb => ?_) (fun hb => ?_) <;> (try simp only [kk] at hb) <;> first | refine wSkip 19 ?_ | refine wSkipU 19 ?_ | refine wLd 19 ?_))
      all_goals (first | refine wSkip 17 ?_ | refine wSkipU 17 ?_ | (refine rStep (i := 17) ?_; ((try refine qWant ?_); (first | (refine qEf ?_; try intro _)) <;> ((try simp only [kM, kN, kO]); refine tl_nil ?_; refine rNext ?_))))
      all_goals (first | refine wSkip 20 ?_ | refine wSkipU 20 ?_ | (refine rStep (i := 20) ?_; ((try refine qWant ?_); (first | (refine qEf ?_; try intro _)) <;> ((try simp only [kM, kN, kO]); refine tl_nil ?_; refine rNext ?_))))
      all_goals (first | refine wSkip 21 ?_ | refine wSkipU 21 ?_ | (refine rStep (i := 21) ?_; ((try refine qWant ?_); (first | (refine qEf ?_; try intro _)) <;> ((try simp only [kM, kN, kO]); refine tl_nil ?_; refine rNext ?_))))
      all_goals refine rFull ?_
      all_goals (first | refine wSkip 22 ?_ | refine wSkipU 22 ?_ | refine wCm 22 ?_ | (refine tr_guard (t := 33) rfl (fun hb => ?_) (fun hb => ?_) <;> (try simp only [kk] at hb) <;> first | refine wSkip 22 ?_ | refine wSkipU 22 ?_ | refine wCm 22 ?_))
      all_goals (first | refine wSkip 23 ?_ | refine wSkipU 23 ?_ | refine wPk 23 ?_ | (refine tr_guard (t := 30) rfl (fun hb => ?_) (fun hb => ?_) <;> (try simp only [kk] at hb) <;> first | refine wSkip 23 ?_ | refine wSkipU 23 ?_ | refine wPk 23 ?_))
      all_goals refine rPk 24 ?_
      all_goals refine rAs 25 ?_
      all_goals refine rDone ?_
      repeat' (first | (refine i_op ?_; first | (refine i_qq ?_; refine qQ ?_) | refine qEf ?_) | refine tl_nil ?_ | (refine i_tc ?_; refine qTc ?_) | (refine i_te ?_; refine qTe ?_) | intro _)
      exact qE ⟨rfl, rfl, rfl⟩
    · rw [hok, Bool.true_and, hrk] at hs
      cases hx : kidOk k (psTo l k) l[k]
      · rw [hx, Bool.false_and] at hs
        rw [hfin hs]
        generalize l[k] = x at *
        repeat' (first | (refine i_op ?_; first | (refine i_qq ?_; refine qQ ?_) | refine qEf ?_) | refine tl_nil ?_ | (refine i_tc ?_; refine qTc ?_) | (refine i_te ?_; refine qTe ?_) | intro _)
        rename_i b11
        refine tc_any (Stays _ _ ([[(b11, .cells ⟨kidV x⟩ 224 (0, 0))]])) (stays_of (hT := tk) (Hp.le_refl _)) ?_
        all_goals refine rMv 0 ?_
        all_goals refine rMv 1 ?_
        all_goals (first | refine wSkip 2 ?_ | refine wSkipU 2 ?_ | refine wMv 2 ?_ | (refine tr_guard (t := 24) rfl (fun hb => ?_) (fun hb => ?_) <;> (try simp only [kk] at hb) <;> first | refine wSkip 2 ?_ | refine wSkipU 2 ?_ | refine wMv 2 ?_))
        all_goals (first | refine wSkip 3 ?_ | refine wSkipU 3 ?_ | refine wMv 3 ?_ | (refine tr_guard (t := 24) rfl (fun hb => ?_) (fun hb => ?_) <;> (try simp only [kk] at hb) <;> first | refine wSkip 3 ?_ | refine wSkipU 3 ?_ | refine wMv 3 ?_))
        all_goals (first | refine wSkip 4 ?_ | refine wSkipU 4 ?_ | refine wLd 4 ?_ | (refine tr_guard (t := 24) rfl (fun hb => ?_) (fun hb => ?_) <;> (try simp only [kk] at hb) <;> first | refine wSkip 4 ?_ | refine wSkipU 4 ?_ | refine wLd 4 ?_))
        all_goals (first | refine wSkip 5 ?_ | refine wSkipU 5 ?_ | (refine rStep (i := 5) ?_; ((try refine qWant ?_); (first | (refine tl_is (.tmp 25) ?_; refine qC rfl rfl (inner2_spec _ bx mb es ck _ hm k x) ?_; rintro v ρ' L' hle ⟨rfl, rfl, es', ck', hm', rfl⟩ <;> (try simp only [kM, kN, kO, hx])) | (refine tl_is (.tmp 34) ?_; refine qC rfl rfl (inner1_spec _ _) ?_; rintro v ρ' L' hle ⟨rfl, rfl, rfl⟩ <;> (try simp only [kM, kN, kO])) | (refine tl_is (.tmp 41) ?_; refine qC rfl rfl (inner1_spec _ _) ?_; rintro v ρ' L' hle ⟨rfl, rfl, rfl⟩ <;> (try simp only [kM, kN, kO])) | (refine qEf ?_; try intro _)) <;> ((try simp only [kM, kN, kO]); refine tl_nil ?_; refine rNext ?_))))
        all_goals refine rPk 6 ?_
        all_goals refine rMv 7 ?_
        all_goals (first | refine wSkip 8 ?_ | refine wSkipU 8 ?_ | refine wMv 8 ?_ | (refine tr_guard (t := 30) rfl (fun hb => ?_) (fun hb => ?_) <;> (try simp only [kk] at hb) <;> first | refine wSkip 8 ?_ | refine wSkipU 8 ?_ | refine wMv 8 ?_))
        all_goals (first | refine wSkip 9 ?_ | refine wSkipU 9 ?_ | refine wCm 9 ?_ | (refine tr_guard (t := 30) rfl (fun hb => ?_) (fun hb => ?_) <;> (try simp only [kk] at hb) <;> first | refine wSkip 9 ?_ | refine wSkipU 9 ?_ | refine wCm 9 ?_))
        all_goals (first | refine wSkip 10 ?_ | refine wSkipU 10 ?_ | refine wMv 10 ?_ | (refine tr_guard (t := 30) rfl (fun hb => ?_) (fun hb => ?_) <;> (try simp only [kk] at hb) <;> first | refine wSkip 10 ?_ | refine wSkipU 10 ?_ | refine wMv 10 ?_))
        all_goals (first | refine wSkip 11 ?_ | refine wSkipU 11 ?_ | refine wMv 11 ?_ | (refine tr_guard (t := 33) rfl (fun hb => ?_) (fun hb => ?_) <;> (try simp only [kk] at hb) <;> first | refine wSkip 11 ?_ | refine wSkipU 11 ?_ | refine wMv 11 ?_))
        all_goals (first | refine wSkip 12 ?_ | refine wSkipU 12 ?_ | refine wMv 12 ?_ | (refine tr_guard (t := 33) rfl (fun hb => ?_) (fun hb => ?_) <;> (try simp only [kk] at hb) <;> first | refine wSkip 12 ?_ | refine wSkipU 12 ?_ | refine wMv 12 ?_))
        all_goals (first | refine wSkip 13 ?_ | refine wSkipU 13 ?_ | refine wMv 13 ?_ | (refine tr_guard (t := 33) rfl (fun hb => ?_) (fun hb => ?_) <;> (try simp only [kk] at hb) <;> first | refine wSkip 13 ?_ | refine wSkipU 13 ?_ | refine wMv 13 ?_))
        all_goals (first | refine wSkip 14 ?_ | refine wSkipU 14 ?_ | refine wSb 14 ?_ | (refine tr_guard (t := 33) rfl (fun hb => ?_) (fun hb => ?_) <;> (try simp only [kk] at hb) <;> first | refine wSkip 14 ?_ | refine wSkipU 14 ?_ | refine wSb 14 ?_))
        all_goals (first | refine wSkip 15 ?_ | refine wSkipU 15 ?_ | refine wIa 15 ?_ | (refine tr_guard (t := 33) rfl (fun hb => ?_) (fun hb => ?_) <;> (try simp only [kk] at hb) <;> first | refine wSkip 15 ?_ | refine wSkipU 15 ?_ | refine wIa 15 ?_))
        all_goals (first | refine wSkip 16 ?_ | refine wSkipU 16 ?_ | refine wLd 16 ?_ | (refine tr_guard (t := 33) rfl (fun hb => ?_) (fun hb => ?_) <;> (try simp only [kk] at hb) <;> first | refine wSkip 16 ?_ | refine wSkipU 16 ?_ | refine wLd 16 ?_))
        all_goals (first | refine wSkip 18 ?_ | refine wSkipU 18 ?_ | refine wMv 18 ?_ | (refine tr_guard (t := 33) rfl (fun hb => ?_) (fun hb => ?_) <;> (try simp only [kk] at hb) <;> first | refine wSkip 18 ?_ | refine wSkipU 18 ?_ | refine wMv 18 ?_))
        all_goals (first | refine wSkip 19 ?_ | refine wSkipU 19 ?_ | refine wLd 19 ?_ | (refine tr_guard (t := 33) rfl (fun hb => ?_) (fun hb => ?_) <;> (try simp only [kk] at hb) <;> first | refine wSkip 19 ?_ | refine wSkipU 19 ?_ | refine wLd 19 ?_))
        all_goals (first | refine wSkip 17 ?_ | refine wSkipU 17 ?_ | (refine rStep (i := 17) ?_; ((try refine qWant ?_); (first | (refine tl_is (.tmp 25) ?_; refine qC rfl rfl (inner2_spec _ bx mb es ck _ hm k x) ?_; rintro v ρ' L' hle ⟨rfl, rfl, es', ck', hm', rfl⟩ <;> (try simp only [kM, kN, kO, hx])) | (refine tl_is (.tmp 34) ?_; refine qC rfl rfl (inner1_spec _ _) ?_; rintro v ρ' L' hle ⟨rfl, rfl, rfl⟩ <;> (try simp only [kM, kN, kO])) | (refine tl_is (.tmp 41) ?_; refine qC rfl rfl (inner1_spec _ _) ?_; rintro v ρ' L' hle ⟨rfl, rfl, rfl⟩ <;> (try simp only [kM, kN, kO])) | (refine qEf ?_; try intro _)) <;> ((try simp only [kM, kN, kO]); refine tl_nil ?_; refine rNext ?_))))
        all_goals (first | refine wSkip 20 ?_ | refine wSkipU 20 ?_ | (refine rStep (i := 20) ?_; ((try refine qWant ?_); (first | (refine tl_is (.tmp 25) ?_; refine qC rfl rfl (inner2_spec _ bx mb es ck _ hm k x) ?_; rintro v ρ' L' hle ⟨rfl, rfl, es', ck', hm', rfl⟩ <;> (try simp only [kM, kN, kO, hx])) | (refine tl_is (.tmp 34) ?_; refine qC rfl rfl (inner1_spec _ _) ?_; rintro v ρ' L' hle ⟨rfl, rfl, rfl⟩ <;> (try simp only [kM, kN, kO])) | (refine tl_is (.tmp 41) ?_; refine qC rfl rfl (inner1_spec _ _) ?_; rintro v ρ' L' hle ⟨rfl, rfl, rfl⟩ <;> (try simp only [kM, kN, kO])) | (refine qEf ?_; try intro _)) <;> ((try simp only [kM, kN, kO]); refine tl_nil ?_; refine rNext ?_))))
        all_goals (first | refine wSkip 21 ?_ | refine wSkipU 21 ?_ | (refine rStep (i := 21) ?_; ((try refine qWant ?_); (first | (refine tl_is (.func 317) ?_; refine qC rfl rfl (compare_spec _ _ _ _ _) ?_; rintro v ρ' L' hle ⟨rfl, rfl, rfl⟩ <;> (try simp only [kM, kN, kO])) | (refine qEf ?_; try intro _)) <;> ((try simp only [kM, kN, kO]); refine tl_nil ?_; refine rNext ?_))))
        all_goals refine rFull ?_
        all_goals (first | refine wSkip 22 ?_ | refine wSkipU 22 ?_ | refine wCm 22 ?_ | (refine tr_guard (t := 33) rfl (fun hb => ?_) (fun hb => ?_) <;> (try simp only [kk] at hb) <;> first | refine wSkip 22 ?_ | refine wSkipU 22 ?_ | refine wCm 22 ?_))
        all_goals (first | refine wSkip 23 ?_ | refine wSkipU 23 ?_ | refine wPk 23 ?_ | (refine tr_guard (t := 30) rfl (fun hb => ?_) (fun hb => ?_) <;> (try simp only [kk] at hb) <;> first | refine wSkip 23 ?_ | refine wSkipU 23 ?_ | refine wPk 23 ?_))
        all_goals refine rPk 24 ?_
        all_goals refine rAs 25 ?_
        all_goals refine rDone ?_
        repeat' (first | (refine i_op ?_; first | (refine i_qq ?_; refine qQ ?_) | refine qEf ?_) | refine tl_nil ?_ | (refine i_tc ?_; refine qTc ?_) | (refine i_te ?_; refine qTe ?_) | intro _)
        exact qE ⟨rfl, rfl, rfl⟩
      · rw [hx, Bool.true_and] at hs
        by_cases hk0 : k = 0
        · have hs' : risesB 4 rt ltK l (k + 1) = true := by rw [hs]; simp [hk0]
          generalize l[k] = x at *
          repeat' (first | (refine i_op ?_; first | (refine i_qq ?_; refine qQ ?_) | refine qEf ?_) | refine tl_nil ?_ | (refine i_tc ?_; refine qTc ?_) | (refine i_te ?_; refine qTe ?_) | intro _)
          rename_i b11
          refine tc_any (Stays _ _ ([[(b11, .cells ⟨kidV x⟩ 224 (0, 0))]])) (stays_of (hT := tk) (Hp.le_refl _)) ?_
          all_goals refine rMv 0 ?_
          all_goals refine rMv 1 ?_
          all_goals (first | refine wSkip 2 ?_ | refine wSkipU 2 ?_ | refine wMv 2 ?_ | (refine tr_guard (t := 24) rfl (fun hb => ?_) (fun hb => ?_) <;> (try simp only [kk] at hb) <;> first | refine wSkip 2 ?_ | refine wSkipU 2 ?_ | refine wMv 2 ?_))
          all_goals (first | refine wSkip 3 ?_ | refine wSkipU 3 ?_ | refine wMv 3 ?_ | (refine tr_guard (t := 24) rfl (fun hb => ?_) (fun hb => ?_) <;> (try simp only [kk] at hb) <;> first | refine wSkip 3 ?_ | refine wSkipU 3 ?_ | refine wMv 3 ?_))
          all_goals (first | refine wSkip 4 ?_ | refine wSkipU 4 ?_ | refine wLd 4 ?_ | (refine tr_guard (t := 24) rfl (fun hb => ?_) (fun hb => ?_) <;> (try simp only [kk] at hb) <;> first | refine wSkip 4 ?_ | refine wSkipU 4 ?_ | refine wLd 4 ?_))
          all_goals (first | refine wSkip 5 ?_ | refine wSkipU 5 ?_ | (refine rStep (i := 5) ?_; ((try refine qWant ?_); (first | (refine tl_is (.tmp 25) ?_; refine qC rfl rfl (inner2_spec _ bx mb es ck _ hm k x) ?_; rintro v ρ' L' hle ⟨rfl, rfl, es', ck', hm', rfl⟩ <;> (try simp only [kM, kN, kO, hx])) | (refine tl_is (.tmp 34) ?_; refine qC rfl rfl (inner1_spec _ _) ?_; rintro v ρ' L' hle ⟨rfl, rfl, rfl⟩ <;> (try simp only [kM, kN, kO])) | (refine tl_is (.tmp 41) ?_; refine qC rfl rfl (inner1_spec _ _) ?_; rintro v ρ' L' hle ⟨rfl, rfl, rfl⟩ <;> (try simp only [kM, kN, kO])) | (refine qEf ?_; try intro _)) <;> ((try simp only [kM, kN, kO]); refine tl_nil ?_; refine rNext ?_))))
          all_goals refine rPk 6 ?_
          all_goals refine rMv 7 ?_
          all_goals (first | refine wSkip 8 ?_ | refine wSkipU 8 ?_ | refine wMv 8 ?_ | (refine tr_guard (t := 30) rfl (fun hb => ?_) (fun hb => ?_) <;> (try simp only [kk] at hb) <;> first | refine wSkip 8 ?_ | refine wSkipU 8 ?_ | refine wMv 8 ?_))
          all_goals (first | refine wSkip 9 ?_ | refine wSkipU 9 ?_ | refine wCm 9 ?_ | (refine tr_guard (t := 30) rfl (fun hb => ?_) (fun hb => ?_) <;> (try simp only [kk] at hb) <;> first | refine wSkip 9 ?_ | refine wSkipU 9 ?_ | refine wCm 9 ?_))
          all_goals (first | refine wSkip 10 ?_ | refine wSkipU 10 ?_ | refine wMv 10 ?_ | (refine tr_guard (t := 30) rfl (fun hb => ?_) (fun hb => ?_) <;> (try simp only [kk] at hb) <;> first | refine wSkip 10 ?_ | refine wSkipU 10 ?_ | refine wMv 10 ?_))
          all_goals (first | refine wSkip 11 ?_ | refine wSkipU 11 ?_ | refine wMv 11 ?_ | (refine tr_guard (t := 33) rfl (fun hb => ?_) (fun hb => ?_) <;> (try simp only [kk] at hb) <;> first | refine wSkip 11 ?_ | refine wSkipU 11 ?_ | refine wMv 11 ?_))
          all_goals (first | refine wSkip 12 ?_ | refine wSkipU 12 ?_ | refine wMv 12 ?_ | (refine tr_guard (t := 33) rfl (fun hb => ?_) (fun hb => ?_) <;> (try simp only [kk] at hb) <;> first | refine wSkip 12 ?_ | refine wSkipU 12 ?_ | refine wMv 12 ?_))
          all_goals (first | refine wSkip 13 ?_ | refine wSkipU 13 ?_ | refine wMv 13 ?_ | (refine tr_guard (t := 33) rfl (fun hb => ?_) (fun hb => ?_) <;> (try simp only [kk] at hb) <;> first | refine wSkip 13 ?_ | refine wSkipU 13 ?_ | refine wMv 13 ?_))
          all_goals (first | refine wSkip 14 ?_ | refine wSkipU 14 ?_ | refine wSb 14 ?_ | (refine tr_guard (t := 33) rfl (fun hb => ?_) (fun hb => ?_) <;> (try simp only [kk] at hb) <;> first | refine wSkip 14 ?_ | refine wSkipU 14 ?_ | refine wSb 14 ?_))
          all_goals (first | refine wSkip 15 ?_ | refine wSkipU 15 ?_ | refine wIa 15 ?_ | (refine tr_guard (t := 33) rfl (fun hb => ?_) (fun hb => ?_) <;> (try simp only [kk] at hb) <;> first | refine wSkip 15 ?_ | refine wSkipU 15 ?_ | refine wIa 15 ?_))
          all_goals (first | refine wSkip 16 ?_ | refine wSkipU 16 ?_ | refine wLd 16 ?_ | (refine tr_guard (t := 33) rfl (fun hb => ?_) (fun hb => ?_) <;> (try simp only [kk] at hb) <;> first | refine wSkip 16 ?_ | refine wSkipU 16 ?_ | refine wLd 16 ?_))
          all_goals (first | refine wSkip 18 ?_ | refine wSkipU 18 ?_ | refine wMv 18 ?_ | (refine tr_guard (t := 33) rfl (fun hb => ?_) (fun hb => ?_) <;> (try simp only [kk] at hb) <;> first | refine wSkip 18 ?_ | refine wSkipU 18 ?_ | refine wMv 18 ?_))
          all_goals (first | refine wSkip 19 ?_ | refine wSkipU 19 ?_ | refine wLd 19 ?_ | (refine tr_guard (t := 33) rfl (fun hb => ?_) (fun hb => ?_) <;> (try simp only [kk] at hb) <;> first | refine wSkip 19 ?_ | refine wSkipU 19 ?_ | refine wLd 19 ?_))
          all_goals (first | refine wSkip 17 ?_ | refine wSkipU 17 ?_ | (refine rStep (i := 17) ?_; ((try refine qWant ?_); (first | (refine tl_is (.tmp 25) ?_; refine qC rfl rfl (inner2_spec _ bx mb es ck _ hm k x) ?_; rintro v ρ' L' hle ⟨rfl, rfl, es', ck', hm', rfl⟩ <;> (try simp only [kM, kN, kO, hx])) | (refine tl_is (.tmp 34) ?_; refine qC rfl rfl (inner1_spec _ _) ?_; rintro v ρ' L' hle ⟨rfl, rfl, rfl⟩ <;> (try simp only [kM, kN, kO])) | (refine tl_is (.tmp 41) ?_; refine qC rfl rfl (inner1_spec _ _) ?_; rintro v ρ' L' hle ⟨rfl, rfl, rfl⟩ <;> (try simp only [kM, kN, kO])) | (refine qEf ?_; try intro _)) <;> ((try simp only [kM, kN, kO]); refine tl_nil ?_; refine rNext ?_))))
          all_goals (first | refine wSkip 20 ?_ | refine wSkipU 20 ?_ | (refine rStep (i := 20) ?_; ((try refine qWant ?_); (first | (refine tl_is (.tmp 25) ?_; refine qC rfl rfl (inner2_spec _ bx mb es ck _ hm k x) ?_; rintro v ρ' L' hle ⟨rfl, rfl, es', ck', hm', rfl⟩ <;> (try simp only [kM, kN, kO, hx])) | (refine tl_is (.tmp 34) ?_; refine qC rfl rfl (inner1_spec _ _) ?_; rintro v ρ' L' hle ⟨rfl, rfl, rfl⟩ <;> (try simp only [kM, kN, kO])) | (refine tl_is (.tmp 41) ?_; refine qC rfl rfl (inner1_spec _ _) ?_; rintro v ρ' L' hle ⟨rfl, rfl, rfl⟩ <;> (try simp only [kM, kN, kO])) | (refine qEf ?_; try intro _)) <;> ((try simp only [kM, kN, kO]); refine tl_nil ?_; refine rNext ?_))))
          all_goals (first | refine wSkip 21 ?_ | refine wSkipU 21 ?_ | (refine rStep (i := 21) ?_; ((try refine qWant ?_); (first | (refine tl_is (.func 317) ?_; refine qC rfl rfl (compare_spec _ _ _ _ _) ?_; rintro v ρ' L' hle ⟨rfl, rfl, rfl⟩ <;> (try simp only [kM, kN, kO])) | (refine qEf ?_; try intro _)) <;> ((try simp only [kM, kN, kO]); refine tl_nil ?_; refine rNext ?_))))
          all_goals refine rFull ?_
          all_goals (first | refine wSkip 22 ?_ | refine wSkipU 22 ?_ | refine wCm 22 ?_ | (refine tr_guard (t := 33) rfl (fun hb => ?_) (fun hb => ?_) <;> (try simp only [kk] at hb) <;> first | refine wSkip 22 ?_ | refine wSkipU 22 ?_ | refine wCm 22 ?_))
          all_goals (first | refine wSkip 23 ?_ | refine wSkipU 23 ?_ | refine wPk 23 ?_ | (refine tr_guard (t := 30) rfl (fun hb => ?_) (fun hb => ?_) <;> (try simp only [kk] at hb) <;> first | refine wSkip 23 ?_ | refine wSkipU 23 ?_ | refine wPk 23 ?_))
          all_goals refine rPk 24 ?_
          all_goals refine rAs 25 ?_
          all_goals refine rDone ?_
          repeat' (first | (refine i_op ?_; first | (refine i_qq ?_; refine qQ ?_) | refine qEf ?_) | refine tl_nil ?_ | (refine i_tc ?_; refine qTc ?_) | (refine i_te ?_; refine qTe ?_) | intro _)
          rw [← hs']
          refine te_round_g (k + 1, es', ck') (⟨hlt, by dsimp only; rw [hps]; exact hm'⟩) ev_le ev_le rfl tk inferInstance (by first | omega | (dsimp only; omega))
        · have hd : decide (k = 0) = false := decide_eq_false hk0
          obtain ⟨b2, off2, C2, T2, fr2, f1, hb2, hfit2, hc2⟩ := h.get (show k - 1 < l.length by omega)
          cases f1
          rw [hb] at hb2
          cases hb2
          have ek : ((k : Int) - 1).toNat = k - 1 := by omega
          rw [← ek] at hfit2
          have hc3 : List.take 3 (List.drop (off + ((k : Int) - 1).toNat * 3) C) = kidV (l[k - 1]'(by omega)) := by rw [ek]; exact hc2
          clear hc2
          rw [hd, Bool.false_or] at hs
          generalize l[k] = x at *
          generalize l[k - 1]'(by omega) = y at *
          unfold ltK at hs
          by_cases hcm : cmpK y.t y.id x.t x.id < 0
          · rw [decide_eq_true hcm] at hs
            repeat' (first | (refine i_op ?_; first | (refine i_qq ?_; refine qQ ?_) | refine qEf ?_) | refine tl_nil ?_ | (refine i_tc ?_; refine qTc ?_) | (refine i_te ?_; refine qTe ?_) | intro _)
            rename_i b11
            refine tc_any (Stays _ _ ([[(b11, .cells ⟨kidV x⟩ 224 (0, 0))]])) (stays_of (hT := tk) (Hp.le_refl _)) ?_
            all_goals refine rMv 0 ?_
            all_goals refine rMv 1 ?_
            all_goals (first | refine wSkip 2 ?_ | refine wSkipU 2 ?_ | refine wMv 2 ?_ | (refine tr_guard (t := 24) rfl (fun hb => ?_) (fun hb => ?_) <;> (try simp only [kk] at hb) <;> first | refine wSkip 2 ?_ | refine wSkipU 2 ?_ | refine wMv 2 ?_))
            all_goals (first | refine wSkip 3 ?_ | refine wSkipU 3 ?_ | refine wMv 3 ?_ | (refine tr_guard (t := 24) rfl (fun hb => ?_) (fun hb => ?_) <;> (try simp only [kk] at hb) <;> first | refine wSkip 3 ?_ | refine wSkipU 3 ?_ | refine wMv 3 ?_))
            all_goals (first | refine wSkip 4 ?_ | refine wSkipU 4 ?_ | refine wLd 4 ?_ | (refine tr_guard (t := 24) rfl (fun hb => ?_) (fun hb => ?_) <;> (try simp only [kk] at hb) <;> first | refine wSkip 4 ?_ | refine wSkipU 4 ?_ | refine wLd 4 ?_))
            all_goals (first | refine wSkip 5 ?_ | refine wSkipU 5 ?_ | (refine rStep (i := 5) ?_; ((try refine qWant ?_); (first | (refine tl_is (.tmp 25) ?_; refine qC rfl rfl (inner2_spec _ bx mb es ck _ hm k x) ?_; rintro v ρ' L' hle ⟨rfl, rfl, es', ck', hm', rfl⟩ <;> (try simp only [kM, kN, kO, hx])) | (refine tl_is (.tmp 34) ?_; refine qC rfl rfl (inner1_spec _ _) ?_; rintro v ρ' L' hle ⟨rfl, rfl, rfl⟩ <;> (try simp only [kM, kN, kO])) | (refine tl_is (.tmp 41) ?_; refine qC rfl rfl (inner1_spec _ _) ?_; rintro v ρ' L' hle ⟨rfl, rfl, rfl⟩ <;> (try simp only [kM, kN, kO])) | (refine qEf ?_; try intro _)) <;> ((try simp only [kM, kN, kO]); refine tl_nil ?_; refine rNext ?_))))
            all_goals refine rPk 6 ?_
            all_goals refine rMv 7 ?_
            all_goals (first | refine wSkip 8 ?_ | refine wSkipU 8 ?_ | refine wMv 8 ?_ | (refine tr_guard (t := 30) rfl (fun hb => ?_) (fun hb => ?_) <;> (try simp only [kk] at hb) <;> first | refine wSkip 8 ?_ | refine wSkipU 8 ?_ | refine wMv 8 ?_))
            all_goals (first | refine wSkip 9 ?_ | refine wSkipU 9 ?_ | refine wCm 9 ?_ | (refine tr_guard (t := 30) rfl (fun hb => ?_) (fun hb => ?_) <;> (try simp only [kk] at hb) <;> first | refine wSkip 9 ?_ | refine wSkipU 9 ?_ | refine wCm 9 ?_))
            all_goals (first | refine wSkip 10 ?_ | refine wSkipU 10 ?_ | refine wMv 10 ?_ | (refine tr_guard (t := 30) rfl (fun hb => ?_) (fun hb => ?_) <;> (try simp only [kk] at hb) <;> first | refine wSkip 10 ?_ | refine wSkipU 10 ?_ | refine wMv 10 ?_))
            all_goals (first | refine wSkip 11 ?_ | refine wSkipU 11 ?_ | refine wMv 11 ?_ | (refine tr_guard (t := 33) rfl (fun hb => ?_) (fun hb => ?_) <;> (try simp only [kk] at hb) <;> first | refine wSkip 11 ?_ | refine wSkipU 11 ?_ | refine wMv 11 ?_))
            all_goals (first | refine wSkip 12 ?_ | refine wSkipU 12 ?_ | refine wMv 12 ?_ | (refine tr_guard (t := 33) rfl (fun hb => ?_) (fun hb => ?_) <;> (try simp only [kk] at hb) <;> first | refine wSkip 12 ?_ | refine wSkipU 12 ?_ | refine wMv 12 ?_))
            all_goals (first | refine wSkip 13 ?_ | refine wSkipU 13 ?_ | refine wMv 13 ?_ | (refine tr_guard (t := 33) rfl (fun hb => ?_) (fun hb => ?_) <;> (try simp only [kk] at hb) <;> first | refine wSkip 13 ?_ | refine wSkipU 13 ?_ | refine wMv 13 ?_))
            all_goals (first | refine wSkip 14 ?_ | refine wSkipU 14 ?_ | refine wSb 14 ?_ | (refine tr_guard (t := 33) rfl (fun hb => ?_) (fun hb => ?_) <;> (try simp only [kk] at hb) <;> first | refine wSkip 14 ?_ | refine wSkipU 14 ?_ | refine wSb 14 ?_))
            all_goals (first | refine wSkip 15 ?_ | refine wSkipU 15 ?_ | refine wIa 15 ?_ | (refine tr_guard (t := 33) rfl (fun hb => ?_) (fun hb => ?_) <;> (try simp only [kk] at hb) <;> first | refine wSkip 15 ?_ | refine wSkipU 15 ?_ | refine wIa 15 ?_))
            all_goals (first | refine wSkip 16 ?_ | refine wSkipU 16 ?_ | refine wLd 16 ?_ | (refine tr_guard (t := 33) rfl (fun hb => ?_) (fun hb => ?_) <;> (try simp only [kk] at hb) <;> first | refine wSkip 16 ?_ | refine wSkipU 16 ?_ | refine wLd 16 ?_))
            all_goals (first | refine wSkip 18 ?_ | refine wSkipU 18 ?_ | refine wMv 18 ?_ | (refine tr_guard (t := 33) rfl (fun hb => ?_) (fun hb => ?_) <;> (try simp only [kk] at hb) <;> first | refine wSkip 18 ?_ | refine wSkipU 18 ?_ | refine wMv 18 ?_))
            all_goals (first | refine wSkip 19 ?_ | refine wSkipU 19 ?_ | refine wLd 19 ?_ | (refine tr_guard (t := 33) rfl (fun hb => ?_) (fun hb => ?_) <;> (try simp only [kk] at hb) <;> first | refine wSkip 19 ?_ | refine wSkipU 19 ?_ | refine wLd 19 ?_))
            all_goals (first | refine wSkip 17 ?_ | refine wSkipU 17 ?_ | (refine rStep (i := 17) ?_; ((try refine qWant ?_); (first | (refine tl_is (.tmp 25) ?_; refine qC rfl rfl (inner2_spec _ bx mb es ck _ hm k x) ?_; rintro v ρ' L' hle ⟨rfl, rfl, es', ck', hm', rfl⟩ <;> (try simp only [kM, kN, kO, hx])) | (refine tl_is (.tmp 34) ?_; refine qC rfl rfl (inner1_spec _ _) ?_; rintro v ρ' L' hle ⟨rfl, rfl, rfl⟩ <;> (try simp only [kM, kN, kO])) | (refine tl_is (.tmp 41) ?_; refine qC rfl rfl (inner1_spec _ _) ?_; rintro v ρ' L' hle ⟨rfl, rfl, rfl⟩ <;> (try simp only [kM, kN, kO])) | (refine qEf ?_; try intro _)) <;> ((try simp only [kM, kN, kO]); refine tl_nil ?_; refine rNext ?_))))
            all_goals (first | refine wSkip 20 ?_ | refine wSkipU 20 ?_ | (refine rStep (i := 20) ?_; ((try refine qWant ?_); (first | (refine tl_is (.tmp 25) ?_; refine qC rfl rfl (inner2_spec _ bx mb es ck _ hm k x) ?_; rintro v ρ' L' hle ⟨rfl, rfl, es', ck', hm', rfl⟩ <;> (try simp only [kM, kN, kO, hx])) | (refine tl_is (.tmp 34) ?_; refine qC rfl rfl (inner1_spec _ _) ?_; rintro v ρ' L' hle ⟨rfl, rfl, rfl⟩ <;> (try simp only [kM, kN, kO])) | (refine tl_is (.tmp 41) ?_; refine qC rfl rfl (inner1_spec _ _) ?_; rintro v ρ' L' hle ⟨rfl, rfl, rfl⟩ <;> (try simp only [kM, kN, kO])) | (refine qEf ?_; try intro _)) <;> ((try simp only [kM, kN, kO]); refine tl_nil ?_; refine rNext ?_))))
            all_goals (first | refine wSkip 21 ?_ | refine wSkipU 21 ?_ | (refine rStep (i := 21) ?_; ((try refine qWant ?_); (first | (refine tl_is (.func 317) ?_; refine qC rfl rfl (compare_spec _ _ _ _ _) ?_; rintro v ρ' L' hle ⟨rfl, rfl, rfl⟩ <;> (try simp only [kM, kN, kO])) | (refine qEf ?_; try intro _)) <;> ((try simp only [kM, kN, kO]); refine tl_nil ?_; refine rNext ?_))))
            all_goals refine rFull ?_
            all_goals (first | refine wSkip 22 ?_ | refine wSkipU 22 ?_ | refine wCm 22 ?_ | (refine tr_guard (t := 33) rfl (fun hb => ?_) (fun hb => ?_) <;> (try simp only [kk] at hb) <;> first | refine wSkip 22 ?_ | refine wSkipU 22 ?_ | refine wCm 22 ?_))
            all_goals (first | refine wSkip 23 ?_ | refine wSkipU 23 ?_ | refine wPk 23 ?_ | (refine tr_guard (t := 30) rfl (fun hb => ?_) (fun hb => ?_) <;> (try simp only [kk] at hb) <;> first | refine wSkip 23 ?_ | refine wSkipU 23 ?_ | refine wPk 23 ?_))
            all_goals refine rPk 24 ?_
            all_goals refine rAs 25 ?_
            all_goals refine rDone ?_
            all_goals (repeat' (first | (refine i_op ?_; first | (refine i_qq ?_; refine qQ ?_) | refine qEf ?_) | refine tl_nil ?_ | (refine i_tc ?_; refine qTc ?_) | (refine i_te ?_; refine qTe ?_) | intro _))
            all_goals rw [← show risesB 4 rt ltK l (k + 1) = true from hs]
            all_goals refine te_round_g (k + 1, es', ck') (⟨hlt, by dsimp only; rw [hps]; exact hm'⟩) ev_le ev_le rfl tk inferInstance (by first | omega | (dsimp only; omega))
          · rw [decide_eq_false hcm] at hs
            rw [hfin hs]
            repeat' (first | (refine i_op ?_; first | (refine i_qq ?_; refine qQ ?_) | refine qEf ?_) | refine tl_nil ?_ | (refine i_tc ?_; refine qTc ?_) | (refine i_te ?_; refine qTe ?_) | intro _)
            rename_i b11
            refine tc_any (Stays _ _ ([[(b11, .cells ⟨kidV x⟩ 224 (0, 0))]])) (stays_of (hT := tk) (Hp.le_refl _)) ?_
            all_goals refine rMv 0 ?_
            all_goals refine rMv 1 ?_
            all_goals (first | refine wSkip 2 ?_ | refine wSkipU 2 ?_ | refine wMv 2 ?_ | (refine tr_guard (t := 24) rfl (fun hb => ?_) (fun hb => ?_) <;> (try simp only [kk] at hb) <;> first | refine wSkip 2 ?_ | refine wSkipU 2 ?_ | refine wMv 2 ?_))
            all_goals (first | refine wSkip 3 ?_ | refine wSkipU 3 ?_ | refine wMv 3 ?_ | (refine tr_guard (t := 24) rfl (fun hb => ?_) (fun hb => ?_) <;> (try simp only [kk] at hb) <;> first | refine wSkip 3 ?_ | refine wSkipU 3 ?_ | refine wMv 3 ?_))
            all_goals (first | refine wSkip 4 ?_ | refine wSkipU 4 ?_ | refine wLd 4 ?_ | (refine tr_guard (t := 24) rfl (fun hb => ?_) (fun hb => ?_) <;> (try simp only [kk] at hb) <;> first | refine wSkip 4 ?_ | refine wSkipU 4 ?_ | refine wLd 4 ?_))
            all_goals (first | refine wSkip 5 ?_ | refine wSkipU 5 ?_ | (refine rStep (i := 5) ?_; ((try refine qWant ?_); (first | (refine tl_is (.tmp 25) ?_; refine qC rfl rfl (inner2_spec _ bx mb es ck _ hm k x) ?_; rintro v ρ' L' hle ⟨rfl, rfl, es', ck', hm', rfl⟩ <;> (try simp only [kM, kN, kO, hx])) | (refine tl_is (.tmp 34) ?_; refine qC rfl rfl (inner1_spec _ _) ?_; rintro v ρ' L' hle ⟨rfl, rfl, rfl⟩ <;> (try simp only [kM, kN, kO])) | (refine tl_is (.tmp 41) ?_; refine qC rfl rfl (inner1_spec _ _) ?_; rintro v ρ' L' hle ⟨rfl, rfl, rfl⟩ <;> (try simp only [kM, kN, kO])) | (refine qEf ?_; try intro _)) <;> ((try simp only [kM, kN, kO]); refine tl_nil ?_; refine rNext ?_))))
            all_goals refine rPk 6 ?_
            all_goals refine rMv 7 ?_
            all_goals (first | refine wSkip 8 ?_ | refine wSkipU 8 ?_ | refine wMv 8 ?_ | (refine tr_guard (t := 30) rfl (fun hb => ?_) (fun hb => ?_) <;> (try simp only [kk] at hb) <;> first | refine wSkip 8 ?_ | refine wSkipU 8 ?_ | refine wMv 8 ?_))
            all_goals (first | refine wSkip 9 ?_ | refine wSkipU 9 ?_ | refine wCm 9 ?_ | (refine tr_guard (t := 30) rfl (fun hb => ?_) (fun hb => ?_) <;> (try simp only [kk] at hb) <;> first | refine wSkip 9 ?_ | refine wSkipU 9 ?_ | refine wCm 9 ?_))
            all_goals (first | refine wSkip 10 ?_ | refine wSkipU 10 ?_ | refine wMv 10 ?_ | (refine tr_guard (t := 30) rfl (fun hb => ?_) (fun hb => ?_) <;> (try simp only [kk] at hb) <;> first | refine wSkip 10 ?_ | refine wSkipU 10 ?_ | refine wMv 10 ?_))
            all_goals (first | refine wSkip 11 ?_ | refine wSkipU 11 ?_ | refine wMv 11 ?_ | (refine tr_guard (t := 33) rfl (fun hb => ?_) (fun hb => ?_) <;> (try simp only [kk] at hb) <;> first | refine wSkip 11 ?_ | refine wSkipU 11 ?_ | refine wMv 11 ?_))
            all_goals (first | refine wSkip 12 ?_ | refine wSkipU 12 ?_ | refine wMv 12 ?_ | (refine tr_guard (t := 33) rfl (fun hb => ?_) (fun hb => ?_) <;> (try simp only [kk] at hb) <;> first | refine wSkip 12 ?_ | refine wSkipU 12 ?_ | refine wMv 12 ?_))
            all_goals (first | refine wSkip 13 ?_ | refine wSkipU 13 ?_ | refine wMv 13 ?_ | (refine tr_guard (t := 33) rfl (fun hb => ?_) (fun hb => ?_) <;> (try simp only [kk] at hb) <;> first | refine wSkip 13 ?_ | refine wSkipU 13 ?_ | refine wMv 13 ?_))
            all_goals (first | refine wSkip 14 ?_ | refine wSkipU 14 ?_ | refine wSb 14 ?_ | (refine tr_guard (t := 33) rfl (fun hb => ?_) (fun hb => ?_) <;> (try simp only [kk] at hb) <;> first | refine wSkip 14 ?_ | refine wSkipU 14 ?_ | refine wSb 14 ?_))
            all_goals (first | refine wSkip 15 ?_ | refine wSkipU 15 ?_ | refine wIa 15 ?_ | (refine tr_guard (t := 33) rfl (fun hb => ?_) (fun hb => ?_) <;> (try simp only [kk] at hb) <;> first | refine wSkip 15 ?_ | refine wSkipU 15 ?_ | refine wIa 15 ?_))
            all_goals (first | refine wSkip 16 ?_ | refine wSkipU 16 ?_ | refine wLd 16 ?_ | (refine tr_guard (t := 33) rfl (fun hb => ?_) (fun hb => ?_) <;> (try simp only [kk] at hb) <;> first | refine wSkip 16 ?_ | refine wSkipU 16 ?_ | refine wLd 16 ?_))
            all_goals (first | refine wSkip 18 ?_ | refine wSkipU 18 ?_ | refine wMv 18 ?_ | (refine tr_guard (t := 33) rfl (fun hb => ?_) (fun hb => ?_) <;> (try simp only [kk] at hb) <;> first | refine wSkip 18 ?_ | refine wSkipU 18 ?_ | refine wMv 18 ?_))
            all_goals (first | refine wSkip 19 ?_ | refine wSkipU 19 ?_ | refine wLd 19 ?_ | (refine tr_guard (t := 33) rfl (fun hb => ?_) (fun hb => ?_) <;> (try simp only [kk] at hb) <;> first | refine wSkip 19 ?_ | refine wSkipU 19 ?_ | refine wLd 19 ?_))
            all_goals (first | refine wSkip 17 ?_ | refine wSkipU 17 ?_ | (refine rStep (i := 17) ?_; ((try refine qWant ?_); (first | (refine tl_is (.tmp 25) ?_; refine qC rfl rfl (inner2_spec _ bx mb es ck _ hm k x) ?_; rintro v ρ' L' hle ⟨rfl, rfl, es', ck', hm', rfl⟩ <;> (try simp only [kM, kN, kO, hx])) | (refine tl_is (.tmp 34) ?_; refine qC rfl rfl (inner1_spec _ _) ?_; rintro v ρ' L' hle ⟨rfl, rfl, rfl⟩ <;> (try simp only [kM, kN, kO])) | (refine tl_is (.tmp 41) ?_; refine qC rfl rfl (inner1_spec _ _) ?_; rintro v ρ' L' hle ⟨rfl, rfl, rfl⟩ <;> (try simp only [kM, kN, kO])) | (refine qEf ?_; try intro _)) <;> ((try simp only [kM, kN, kO]); refine tl_nil ?_; refine rNext ?_))))
            all_goals (first | refine wSkip 20 ?_ | refine wSkipU 20 ?_ | (refine rStep (i := 20) ?_; ((try refine qWant ?_); (first | (refine tl_is (.tmp 25) ?_; refine qC rfl rfl (inner2_spec _ bx mb es ck _ hm k x) ?_; rintro v ρ' L' hle ⟨rfl, rfl, es', ck', hm', rfl⟩ <;> (try simp only [kM, kN, kO, hx])) | (refine tl_is (.tmp 34) ?_; refine qC rfl rfl (inner1_spec _ _) ?_; rintro v ρ' L' hle ⟨rfl, rfl, rfl⟩ <;> (try simp only [kM, kN, kO])) | (refine tl_is (.tmp 41) ?_; refine qC rfl rfl (inner1_spec _ _) ?_; rintro v ρ' L' hle ⟨rfl, rfl, rfl⟩ <;> (try simp only [kM, kN, kO])) | (refine qEf ?_; try intro _)) <;> ((try simp only [kM, kN, kO]); refine tl_nil ?_; refine rNext ?_))))
            all_goals (first | refine wSkip 21 ?_ | refine wSkipU 21 ?_ | (refine rStep (i := 21) ?_; ((try refine qWant ?_); (first | (refine tl_is (.func 317) ?_; refine qC rfl rfl (compare_spec _ _ _ _ _) ?_; rintro v ρ' L' hle ⟨rfl, rfl, rfl⟩ <;> (try simp only [kM, kN, kO])) | (refine qEf ?_; try intro _)) <;> ((try simp only [kM, kN, kO]); refine tl_nil ?_; refine rNext ?_))))
            all_goals refine rFull ?_
            all_goals (first | refine wSkip 22 ?_ | refine wSkipU 22 ?_ | refine wCm 22 ?_ | (refine tr_guard (t := 33) rfl (fun hb => ?_) (fun hb => ?_) <;> (try simp only [kk] at hb) <;> first | refine wSkip 22 ?_ | refine wSkipU 22 ?_ | refine wCm 22 ?_))
            all_goals (first | refine wSkip 23 ?_ | refine wSkipU 23 ?_ | refine wPk 23 ?_ | (refine tr_guard (t := 30) rfl (fun hb => ?_) (fun hb => ?_) <;> (try simp only [kk] at hb) <;> first | refine wSkip 23 ?_ | refine wSkipU 23 ?_ | refine wPk 23 ?_))
            all_goals refine rPk 24 ?_
            all_goals refine rAs 25 ?_
            all_goals refine rDone ?_
            all_goals (repeat' (first | (refine i_op ?_; first | (refine i_qq ?_; refine qQ ?_) | refine qEf ?_) | refine tl_nil ?_ | (refine i_tc ?_; refine qTc ?_) | (refine i_te ?_; refine qTe ?_) | intro _))
            all_goals exact qE ⟨rfl, rfl, rfl⟩
  · have hk2 : k = n := by omega
    subst hk2
    repeat' (first | (refine i_op ?_; first | (refine i_qq ?_; refine qQ ?_) | refine qEf ?_) | refine tl_nil ?_ | (refine i_tc ?_; refine qTc ?_) | (refine i_te ?_; refine qTe ?_) | intro _)
    exact qE ⟨rfl, rfl, rfl⟩
end Go.Proofs.E

namespace Go.Proofs.E
open Go
set_option linter.unusedVariables false
set_option linter.unusedSimpArgs false
set_option linter.unusedSectionVars false
set_option maxRecDepth 4000
set_option maxHeartbeats 1000000
attribute [local irreducible] Yl TL TC TE Spec YSpec R1 Hp.le EnvLe TS TR YS Stays
structure CV where
  ra : Option Addr
  rn : Nat
  rc : Nat
  ka : Option Addr
  kn : Nat
  kc : Nat
structure Cont where
  kind : Int
  rows : List Row
  kids : List Kid
deriving DecidableEq
abbrev contV (k : Int) (v : CV) : List Value := [.int .i64 k, .slice v.ra v.rn v.rc, .slice v.ka v.kn v.kc]
structure CIn (ρ : Hp) (v : CV) (rows : List Row) (kids : List Kid) : Prop where
  r : AIn ρ 4 rowV v.ra v.rn rows
  k : AIn ρ 3 kidV v.ka v.kn kids
  rb : v.rn ≤ 1000000
  kb : v.kn ≤ 1000000
  rc : v.rn ≤ v.rc
  kc : v.kn ≤ v.kc
theorem CIn.mono {ρ ρ' v rows kids} (h : CIn ρ v rows kids) (hle : ρ.le ρ') : CIn ρ' v rows kids := ⟨h.r.mono hle, h.k.mono hle, h.rb, h.kb, h.rc, h.kc⟩
theorem leafc_spec (ρ : Hp) (a : Option Addr) (n c : Nat) (l : List Row) (h : AIn ρ 4 rowV a n l) (hn : n ≤ 1000000) : Spec Tryz.prog 282 [.slice a n c] ρ [] (fun v ρ' L' => v = .bool (rowsOk l) ∧ ρ' = ρ ∧ L' = []) := by
  refine spec_enter Tryz.func282 rfl rfl rfl fun u R => ?_
  simp only [argsE, List.cons_append, List.nil_append]
  repeat' (first | (refine tl_is (.func 302) ?_; refine qC rfl rfl (risesRow_spec _ a n c l h hn) ?_; rintro v ρ' L' hle ⟨rfl, rfl, rfl⟩ <;> (try simp only [kM, kN, kO])) | (refine i_op ?_; first | (refine i_qq ?_; refine qQ ?_) | refine qEf ?_) | refine tl_nil ?_ | (refine i_tc ?_; refine qTc ?_) | (refine i_te ?_; refine qTe ?_) | intro _)
  exact qE ⟨rfl, rfl, rfl⟩
theorem innerc_spec (ρ : Hp) (a : Option Addr) (n c : Nat) (l : List Kid) (h : AIn ρ 3 kidV a n l) (hn : n ≤ 1000000) : Spec Tryz.prog 283 [.slice a n c] ρ [] (fun v ρ' L' => v = .bool (decide (1 < n) && kidsOk l) ∧ ρ' = ρ ∧ L' = []) := by
  refine spec_enter Tryz.func283 rfl rfl rfl fun u R => ?_
  simp only [argsE, List.cons_append, List.nil_append]
  by_cases h1 : 1 < n
  · rw [decide_eq_true h1, Bool.true_and]
    repeat' (first | (refine tl_is (.func 305) ?_; refine qC rfl rfl (risesKid_spec _ a n c l h hn _ _ _) ?_; rintro v ρ' L' hle ⟨rfl, rfl, rfl⟩ <;> (try simp only [kM, kN, kO])) | (refine i_op ?_; first | (refine i_qq ?_; refine qQ ?_) | refine qEf ?_) | refine tl_nil ?_ | (refine i_tc ?_; refine qTc ?_) | (refine i_te ?_; refine qTe ?_) | intro _)
    exact qE ⟨rfl, rfl, rfl⟩
  · rw [decide_eq_false h1, Bool.false_and]
    repeat' (first | (refine i_op ?_; first | (refine i_qq ?_; refine qQ ?_) | refine qEf ?_) | refine tl_nil ?_ | (refine i_tc ?_; refine qTc ?_) | (refine i_te ?_; refine qTe ?_) | intro _)
    exact qE ⟨rfl, rfl, rfl⟩
def contOk (c : Cont) : Bool :=
  if c.kind = 0 then decide (c.rows.length + c.kids.length = 0)
  else if c.kind = 1 then decide (c.kids.length = 0) && rowsOk c.rows
  else if c.kind = 2 then decide (c.rows.length = 0) && (decide (1 < c.kids.length) && kidsOk c.kids)
  else false
theorem check_spec (ρ : Hp) (v : CV) (c : Cont) (h : CIn ρ v c.rows c.kids) : Spec Tryz.prog 251 [.agg ⟨contV c.kind v⟩] ρ [] (fun r ρ' L' => r = .int .i64 (if contOk c then 0 else 160) ∧ ρ' = ρ ∧ L' = []) := by
  obtain ⟨kind, rows, kids⟩ := c
  obtain ⟨ra, rn, rc, ka, kn, kc⟩ := v
  obtain ⟨hr, hk, hrb, hkb, _, _⟩ := h
  dsimp only at hr hk hrb hkb
  have hrl := hr.len
  have hkl := hk.len
  have hrs := leafc_spec ρ ra rn rc rows hr hrb
  have hks := innerc_spec ρ ka kn kc kids hk hkb
  generalize hq : contOk ⟨kind, rows, kids⟩ = q
  unfold contOk at hq
  simp only [hrl, hkl] at hq
  refine spec_enter Tryz.func251 rfl rfl rfl fun u R => ?_
  simp only [argsE, List.cons_append, List.nil_append]
  by_cases k0 : kind = 0
  · rw [if_pos k0] at hq
    by_cases hz : rn + kn = 0
    · rw [decide_eq_true hz] at hq
      subst hq
      repeat' (first | (refine i_op ?_; first | (refine i_qq ?_; refine qQ ?_) | refine qEf ?_) | refine tl_nil ?_ | (refine i_tc ?_; refine qTc ?_) | (refine i_te ?_; refine qTe ?_) | intro _)
      exact qE ⟨rfl, rfl, rfl⟩
    · rw [decide_eq_false hz] at hq
      subst hq
      repeat' (first | (refine i_op ?_; first | (refine i_qq ?_; refine qQ ?_) | refine qEf ?_) | refine tl_nil ?_ | (refine i_tc ?_; refine qTc ?_) | (refine i_te ?_; refine qTe ?_) | intro _)
      exact qE ⟨rfl, rfl, rfl⟩
  · rw [if_neg k0] at hq
    by_cases k1 : kind = 1
    · rw [if_pos k1] at hq
      by_cases hz : kn = 0
      · rw [decide_eq_true hz, Bool.true_and] at hq
        rw [hq] at hrs
        cases q
        all_goals (repeat' (first | (refine tl_is (.func 282) ?_; refine qC rfl rfl (hrs) ?_; rintro v ρ' L' hle ⟨rfl, rfl, rfl⟩ <;> (try simp only [kM, kN, kO])) | (refine i_op ?_; first | (refine i_qq ?_; refine qQ ?_) | refine qEf ?_) | refine tl_nil ?_ | (refine i_tc ?_; refine qTc ?_) | (refine i_te ?_; refine qTe ?_) | intro _))
        all_goals exact qE ⟨rfl, rfl, rfl⟩
      · rw [decide_eq_false hz, Bool.false_and] at hq
        subst hq
        repeat' (first | (refine i_op ?_; first | (refine i_qq ?_; refine qQ ?_) | refine qEf ?_) | refine tl_nil ?_ | (refine i_tc ?_; refine qTc ?_) | (refine i_te ?_; refine qTe ?_) | intro _)
        exact qE ⟨rfl, rfl, rfl⟩
    · rw [if_neg k1] at hq
      by_cases k2 : kind = 2
      · rw [if_pos k2] at hq
        by_cases hz : rn = 0
        · rw [decide_eq_true hz, Bool.true_and] at hq
          rw [hq] at hks
          cases q
          all_goals (repeat' (first | (refine tl_is (.func 283) ?_; refine qC rfl rfl (hks) ?_; rintro v ρ' L' hle ⟨rfl, rfl, rfl⟩ <;> (try simp only [kM, kN, kO])) | (refine i_op ?_; first | (refine i_qq ?_; refine qQ ?_) | refine qEf ?_) | refine tl_nil ?_ | (refine i_tc ?_; refine qTc ?_) | (refine i_te ?_; refine qTe ?_) | intro _))
          all_goals exact qE ⟨rfl, rfl, rfl⟩
        · rw [decide_eq_false hz, Bool.false_and] at hq
          subst hq
          repeat' (first | (refine i_op ?_; first | (refine i_qq ?_; refine qQ ?_) | refine qEf ?_) | refine tl_nil ?_ | (refine i_tc ?_; refine qTc ?_) | (refine i_te ?_; refine qTe ?_) | intro _)
          exact qE ⟨rfl, rfl, rfl⟩
      · rw [if_neg k2] at hq
        subst hq
        repeat' (first | (refine i_op ?_; first | (refine i_qq ?_; refine qQ ?_) | refine qEf ?_) | refine tl_nil ?_ | (refine i_tc ?_; refine qTc ?_) | (refine i_te ?_; refine qTe ?_) | intro _)
        exact qE ⟨rfl, rfl, rfl⟩
end Go.Proofs.E

namespace Go.Proofs.E
open Go
set_option linter.unusedVariables false
set_option linter.unusedSimpArgs false
set_option linter.unusedSectionVars false
set_option maxRecDepth 4000
set_option maxHeartbeats 1000000
attribute [local irreducible] Yl TL TC TE Spec YSpec R1 Hp.le EnvLe TS TR YS Stays
theorem CIn.nil {ρ : Hp} : CIn ρ ⟨none, 0, 0, none, 0, 0⟩ [] [] := ⟨AIn.nil, AIn.nil, by decide, by decide, by decide, by decide⟩
end Go.Proofs.E

namespace Go.Proofs.E
open Go
set_option linter.unusedVariables false
set_option linter.unusedSimpArgs false
set_option linter.unusedSectionVars false
set_option maxRecDepth 4000
set_option maxHeartbeats 1000000
attribute [local irreducible] Yl TL TC TE Spec YSpec R1 Hp.le EnvLe TS TR YS Stays
/-! ## codec: bytes of rows -/
theorem rowOk_iff {r : Row} (h : rowOk r = true) : 0 ≤ r.t ∧ r.t < 3 ∧ r.note.length ≤ 8 := by
  have := of_decide_eq_true h
  exact ⟨this.1.1, this.1.2, this.2⟩
end Go.Proofs.E

namespace Go.Proofs.E
open Go
set_option linter.unusedVariables false
set_option linter.unusedSimpArgs false
set_option linter.unusedSectionVars false
set_option maxRecDepth 4000
set_option maxHeartbeats 1000000
attribute [local irreducible] Yl TL TC TE Spec YSpec R1 Hp.le EnvLe TS TR YS Stays
theorem risesB_true {α : Type} {most : Nat} {right : Nat → α → Bool} {lt : α → α → Bool} {l : List α} : ∀ {k : Nat}, risesB most right lt l k = true → k ≤ l.length → l.length ≤ most ∧ ∀ i (h : i < l.length), i < k → right i l[i] = true ∧ (i = 0 ∨ lt (l[i - 1]'(by omega)) l[i] = true)
  | 0, h, _ => ⟨of_decide_eq_true h, fun i _ hi => by omega⟩
  | k + 1, h, hk => by
    rw [risesB_succ (show k < l.length by omega), Bool.and_eq_true, Bool.and_eq_true] at h
    obtain ⟨h1, h2, h3⟩ := h
    obtain ⟨g1, g2⟩ := risesB_true h1 (by omega)
    refine ⟨g1, fun i hi hik => ?_⟩
    by_cases e : i < k
    · exact g2 i hi e
    · have : i = k := by omega
      subst this
      refine ⟨h2, ?_⟩
      simpa using h3
end Go.Proofs.E

namespace Go.Proofs.E
open Go
set_option linter.unusedVariables false
set_option linter.unusedSimpArgs false
set_option linter.unusedSectionVars false
set_option maxRecDepth 4000
set_option maxHeartbeats 1000000
attribute [local irreducible] Yl TL TC TE Spec YSpec R1 Hp.le EnvLe TS TR YS Stays
/-! ## codec: which are one -/
instance : Fun Tryz.prog 30 := mkFun (by kernel_rfl)
instance (priority := 1200) eqRow {x y : Row} : EqC Tryz.prog 8 101 (.agg ⟨rowV x⟩) (.agg ⟨rowV y⟩) (decide (x = y)) := by
  have h : EqC Tryz.prog 8 101 (.agg ⟨[.int .i64 x.t, .int .u16 x.id, .int .i64 x.val, strV x.note]⟩) (.agg ⟨[.int .i64 y.t, .int .u16 y.id, .int .i64 y.val, strV y.note]⟩) _ := inferInstance
  refine ⟨fun d w hd => ?_⟩
  rw [h.out d w hd]
  congr 1
  obtain ⟨t, i, v, n⟩ := x
  obtain ⟨t', i', v', n'⟩ := y
  simp only [Row.mk.injEq, Bool.and_true, Bool.decide_and]
  have e : ((i : Int) == (i' : Int)) = decide (i = i') := by
    by_cases h : i = i'
    · subst h; simp
    · rw [decide_eq_false h]; simp only [beq_eq_false_iff_ne, ne_eq]; omega
  rw [e]
  by_cases h1 : t = t' <;> by_cases h2 : i = i' <;> by_cases h3 : v = v' <;> simp [h1, h2, h3]
instance (priority := 1200) eqKid {x y : Kid} : EqC Tryz.prog 8 224 (.agg ⟨kidV x⟩) (.agg ⟨kidV y⟩) (decide (x = y)) := by
  have h : EqC Tryz.prog 8 224 (.agg ⟨[.int .i64 x.t, .int .u16 x.id, .int .i64 x.page]⟩) (.agg ⟨[.int .i64 y.t, .int .u16 y.id, .int .i64 y.page]⟩) _ := inferInstance
  refine ⟨fun d w hd => ?_⟩
  rw [h.out d w hd]
  congr 1
  obtain ⟨t, i, v⟩ := x
  obtain ⟨t', i', v'⟩ := y
  simp only [Kid.mk.injEq, Bool.and_true, Bool.decide_and]
  have e : ((i : Int) == (i' : Int)) = decide (i = i') := by
    by_cases h : i = i'
    · subst h; simp
    · rw [decide_eq_false h]; simp only [beq_eq_false_iff_ne, ne_eq]; omega
  rw [e]
  by_cases h1 : t = t' <;> by_cases h2 : i = i' <;> by_cases h3 : v = v' <;> simp [h1, h2, h3]
end Go.Proofs.E

namespace Go.Proofs.E
open Go
set_option linter.unusedVariables false
set_option linter.unusedSimpArgs false
set_option linter.unusedSectionVars false
set_option maxRecDepth 4000
set_option maxHeartbeats 1000000
attribute [local irreducible] Yl TL TC TE Spec YSpec R1 Hp.le EnvLe TS TR YS Stays
/-! ## what is taken is what its bytes are -/
structure RowFit (r : Row) : Prop where
  id : r.id < 65536
  val : -9223372036854775808 ≤ r.val ∧ r.val ≤ 9223372036854775807
end Go.Proofs.E

namespace Go.Proofs.E
open Go
set_option linter.unusedVariables false
set_option linter.unusedSimpArgs false
set_option linter.unusedSectionVars false
set_option maxRecDepth 4000
set_option maxHeartbeats 1000000
attribute [local irreducible] Yl TL TC TE Spec YSpec R1 Hp.le EnvLe TS TR YS Stays
structure CInW (ρ : Hp) (v : CV) (rows : List Row) (kids : List Kid) : Prop where
  r : AIn ρ 4 rowV v.ra v.rn rows
  k : AIn ρ 3 kidV v.ka v.kn kids
  rb : v.rn ≤ 9223372036854775807
  kb : v.kn ≤ 9223372036854775807
  rc : v.rn ≤ v.rc
  kc : v.kn ≤ v.kc
theorem CInW.mono {ρ ρ' v rows kids} (h : CInW ρ v rows kids) (hle : ρ.le ρ') : CInW ρ' v rows kids := ⟨h.r.mono hle, h.k.mono hle, h.rb, h.kb, h.rc, h.kc⟩
end Go.Proofs.E

namespace Go.Proofs.E
open Go
set_option linter.unusedVariables false
set_option linter.unusedSimpArgs false
set_option linter.unusedSectionVars false
set_option maxRecDepth 4000
set_option maxHeartbeats 1000000
attribute [local irreducible] Yl TL TC TE Spec YSpec R1 Hp.le EnvLe TS TR YS Stays
/-! ## the document's codec: what may be -/
theorem tableR_spec (ρ : Hp) (n : Int) : Spec Tryz.prog 243 [.int .i64 n] ρ [] (fun v ρ' L' => v = .bool (decide (0 ≤ n ∧ n < 3)) ∧ ρ' = ρ ∧ L' = []) := by
  refine spec_enter Tryz.func243 rfl rfl rfl fun u R => ?_
  simp only [argsE, List.cons_append, List.nil_append]
  by_cases h0 : 0 ≤ n
  · by_cases h1 : n < 3
    · rw [decide_eq_true ⟨h0, h1⟩]
      repeat' (first | (refine i_op ?_; first | (refine i_qq ?_; refine qQ ?_) | refine qEf ?_) | refine tl_nil ?_ | (refine i_tc ?_; refine qTc ?_) | (refine i_te ?_; refine qTe ?_) | intro _)
      exact qE ⟨rfl, rfl, rfl⟩
    · rw [decide_eq_false (fun h => h1 h.2)]
      repeat' (first | (refine i_op ?_; first | (refine i_qq ?_; refine qQ ?_) | refine qEf ?_) | refine tl_nil ?_ | (refine i_tc ?_; refine qTc ?_) | (refine i_te ?_; refine qTe ?_) | intro _)
      exact qE ⟨rfl, rfl, rfl⟩
  · rw [decide_eq_false (fun h => h0 h.1)]
    repeat' (first | (refine i_op ?_; first | (refine i_qq ?_; refine qQ ?_) | refine qEf ?_) | refine tl_nil ?_ | (refine i_tc ?_; refine qTc ?_) | (refine i_te ?_; refine qTe ?_) | intro _)
    exact qE ⟨rfl, rfl, rfl⟩
theorem order_spec (ρ : Hp) (t : Int) (id : Nat) (h0 : 0 ≤ t) (h3 : t < 3) (hid : id < 65536) : Spec Tryz.prog 281 [.agg ⟨keyV t id⟩] ρ [] (fun v ρ' L' => v = .int .i64 (t * 65536 + id) ∧ ρ' = ρ ∧ L' = []) := by
  refine spec_enter Tryz.func281 rfl rfl rfl fun u R => ?_
  simp only [argsE, List.cons_append, List.nil_append]
  repeat' (first | (refine i_op ?_; first | (refine i_qq ?_; refine qQ ?_) | refine qEf ?_) | refine tl_nil ?_ | (refine i_tc ?_; refine qTc ?_) | (refine i_te ?_; refine qTe ?_) | intro _)
  exact qE ⟨rfl, rfl, rfl⟩
theorem order_lt {t1 t2 : Int} {i1 i2 : Nat} (h1 : i1 < 65536) (h2 : i2 < 65536) : cmpK t1 i1 t2 i2 < 0 ↔ t1 * 65536 + i1 < t2 * 65536 + i2 := by
  rw [cmpK_lt]; omega
theorem rightRow_spec (ρ : Hp) (r : Row) : Spec Tryz.prog 247 [.agg ⟨rowV r⟩] ρ [] (fun v ρ' L' => v = .bool (rowOk r) ∧ ρ' = ρ ∧ L' = []) := by
  obtain ⟨t, id, val, note⟩ := r
  refine spec_enter Tryz.func247 rfl rfl rfl fun u R => ?_
  simp only [argsE, List.cons_append, List.nil_append, rowOk]
  by_cases h1 : 0 ≤ t ∧ t < 3
  · have hd : decide (0 ≤ t ∧ t < 3) = true := decide_eq_true h1
    by_cases h2 : note.length ≤ 8
    · rw [decide_eq_true ⟨h1, h2⟩]
      repeat' (first | (refine tl_is (.func 243) ?_; refine qC rfl rfl (tableR_spec _ _) ?_; rintro v ρ' L' hle ⟨rfl, rfl, rfl⟩ <;> (try simp only [kM, kN, kO, hd])) | (refine i_op ?_; first | (refine i_qq ?_; refine qQ ?_) | refine qEf ?_) | refine tl_nil ?_ | (refine i_tc ?_; refine qTc ?_) | (refine i_te ?_; refine qTe ?_) | intro _)
      exact qE ⟨rfl, rfl, rfl⟩
    · rw [decide_eq_false (fun h => h2 h.2)]
      repeat' (first | (refine tl_is (.func 243) ?_; refine qC rfl rfl (tableR_spec _ _) ?_; rintro v ρ' L' hle ⟨rfl, rfl, rfl⟩ <;> (try simp only [kM, kN, kO, hd])) | (refine i_op ?_; first | (refine i_qq ?_; refine qQ ?_) | refine qEf ?_) | refine tl_nil ?_ | (refine i_tc ?_; refine qTc ?_) | (refine i_te ?_; refine qTe ?_) | intro _)
      exact qE ⟨rfl, rfl, rfl⟩
  · have hd : decide (0 ≤ t ∧ t < 3) = false := decide_eq_false h1
    rw [decide_eq_false (fun h => h1 h.1)]
    repeat' (first | (refine tl_is (.func 243) ?_; refine qC rfl rfl (tableR_spec _ _) ?_; rintro v ρ' L' hle ⟨rfl, rfl, rfl⟩ <;> (try simp only [kM, kN, kO, hd])) | (refine i_op ?_; first | (refine i_qq ?_; refine qQ ?_) | refine qEf ?_) | refine tl_nil ?_ | (refine i_tc ?_; refine qTc ?_) | (refine i_te ?_; refine qTe ?_) | intro _)
    exact qE ⟨rfl, rfl, rfl⟩
theorem risesB_split {α : Type} {most : Nat} {right : Nat → α → Bool} {lt : α → α → Bool} {l : List α} : ∀ k, risesB most right lt l k = (decide (l.length ≤ most) && risesB l.length right lt l k)
  | 0 => by simp [risesB]
  | k + 1 => by rw [risesB, risesB_split k, risesB, Bool.and_assoc]
theorem rowsR_spec (ρ : Hp) (a : Option Addr) (n c : Nat) (l : List Row) (h : AIn ρ 4 rowV a n l) (hn : n ≤ 1000000) (hid : ∀ r ∈ l, r.id < 65536) :
    Spec Tryz.prog 245 [.slice a n c] ρ [] (fun v ρ' L' => v = .bool (rowsOk l) ∧ ρ' = ρ ∧ L' = []) := by
  have hl := h.len
  unfold rowsOk
  rw [risesB_split, hl]
  refine spec_enter Tryz.func245 rfl rfl rfl fun u R => ?_
  simp only [argsE, List.cons_append, List.nil_append]
  generalize hrt : (fun (_ : Nat) (r : Row) => rowOk r) = rt
  repeat' (first | (refine i_op ?_; first | (refine i_qq ?_; refine qQ ?_) | refine qEf ?_) | refine tl_nil ?_ | (refine i_tc ?_; refine qTc ?_) | (refine i_te ?_; refine qTe ?_) | intro _)
  refine tc_loop_g [(0, _), (2, _), (5, _), (6, _)] (fun (ζ : (Nat)) => [(7, .int .i64 ζ)]) (fun (ζ : (Nat)) => ρ) (fun (ζ : (Nat)) => []) (fun (ζ : (Nat)) => ζ ≤ n ∧ risesB n rt ltR l ζ = true) (fun (ζ : (Nat)) => n - ζ) (0) (⟨Nat.zero_le _, by rw [risesB, hl]; exact decide_eq_true (Nat.le_refl _)⟩) ev_le ev_le rfl tk ?_
  rintro k hI
  try simp only [List.cons_append, List.nil_append, List.append_assoc, List.append_eq] at hI ⊢
  try dsimp only at hI ⊢
  obtain ⟨hk, hok⟩ := hI
  by_cases hlt : k < n
  · obtain ⟨b, off, C, T, fr, rfl, hb, hfit, hc⟩ := h.get (show k < l.length by omega)
    have hs := risesB_succ (most := n) (right := rt) (lt := ltR) (show k < l.length by omega)
    rw [hok, Bool.true_and] at hs
    have hrk : rt k (l[k]'(by omega)) = rowOk (l[k]'(by omega)) := by rw [← hrt]
    rw [hrk] at hs
    have hfin := fun (e : risesB n rt ltR l (k + 1) = false) => risesB_false' e (show k + 1 ≤ n by omega)
    have hmem : l[k]'(by omega) ∈ l := List.getElem_mem _
    have hidk := hid _ hmem
    cases hx : rowOk (l[k]'(by omega))
    · rw [hx, Bool.false_and] at hs
      rw [hfin hs, Bool.and_false]
      generalize l[k]'(by omega) = x at *
      repeat' (first | (refine i_op ?_; first | (refine i_qq ?_; refine qQ ?_) | refine qEf ?_) | refine tl_nil ?_ | (refine i_tc ?_; refine qTc ?_) | (refine i_te ?_; refine qTe ?_) | intro _)
      refine tc_any (Stays _ _ _) stays_refl ?_
      all_goals refine rLd 0 ?_
      all_goals (refine rStep (i := 1) ?_; ((try refine qWant ?_); (first | (refine tl_is (.func 247) ?_; refine qC rfl rfl (rightRow_spec _ x) ?_; rintro v ρ' L' hle ⟨rfl, rfl, rfl⟩ <;> (try simp only [kM, kN, kO, hx])) | (refine qEf ?_; try intro _)) <;> ((try simp only [kM, kN, kO]); refine tl_nil ?_; refine rNext ?_)))
      all_goals refine rUn 2 ?_
      all_goals refine rMv 3 ?_
      all_goals (first | refine wSkip 4 ?_ | refine wSkipU 4 ?_ | refine wMv 4 ?_ | (refine tr_guard (t := 15) rfl (fun hb => ?_) (fun hb => ?_) <;> (try simp only [kk] at hb) <;> first | refine wSkip 4 ?_ | refine wSkipU 4 ?_ | refine wMv 4 ?_))
      all_goals (first | refine wSkip 5 ?_ | refine wSkipU 5 ?_ | refine wCm 5 ?_ | (refine tr_guard (t := 15) rfl (fun hb => ?_) (fun hb => ?_) <;> (try simp only [kk] at hb) <;> first | refine wSkip 5 ?_ | refine wSkipU 5 ?_ | refine wCm 5 ?_))
      all_goals (first | refine wSkip 6 ?_ | refine wSkipU 6 ?_ | refine wMv 6 ?_ | (refine tr_guard (t := 15) rfl (fun hb => ?_) (fun hb => ?_) <;> (try simp only [kk] at hb) <;> first | refine wSkip 6 ?_ | refine wSkipU 6 ?_ | refine wMv 6 ?_))
      all_goals (first | refine wSkip 7 ?_ | refine wSkipU 7 ?_ | refine wMv 7 ?_ | (refine tr_guard (t := 18) rfl (fun hb => ?_) (fun hb => ?_) <;> (try simp only [kk] at hb) <;> first | refine wSkip 7 ?_ | refine wSkipU 7 ?_ | refine wMv 7 ?_))
      all_goals (first | refine wSkip 8 ?_ | refine wSkipU 8 ?_ | refine wMv 8 ?_ | (refine tr_guard (t := 18) rfl (fun hb => ?_) (fun hb => ?_) <;> (try simp only [kk] at hb) <;> first | refine wSkip 8 ?_ | refine wSkipU 8 ?_ | refine wMv 8 ?_))
      all_goals (first | refine wSkip 9 ?_ | refine wSkipU 9 ?_ | refine wSb 9 ?_ | (refine tr_guard (t := 18) rfl (fun hb => ?_) (fun hb => ?_) <;> (try simp only [kk] at hb) <;> first | refine wSkip 9 ?_ | refine wSkipU 9 ?_ | refine wSb 9 ?_))
      all_goals (first | refine wSkip 10 ?_ | refine wSkipU 10 ?_ | refine wIa 10 ?_ | (refine tr_guard (t := 18) rfl (fun hb => ?_) (fun hb => ?_) <;> (try simp only [kk] at hb) <;> first | refine wSkip 10 ?_ | refine wSkipU 10 ?_ | refine wIa 10 ?_))
      all_goals (first | refine wSkip 11 ?_ | refine wSkipU 11 ?_ | refine wFa 11 ?_ | (refine tr_guard (t := 18) rfl (fun hb => ?_) (fun hb => ?_) <;> (try simp only [kk] at hb) <;> first | refine wSkip 11 ?_ | refine wSkipU 11 ?_ | refine wFa 11 ?_))
      all_goals (first | refine wSkip 12 ?_ | refine wSkipU 12 ?_ | refine wLd 12 ?_ | (refine tr_guard (t := 18) rfl (fun hb => ?_) (fun hb => ?_) <;> (try simp only [kk] at hb) <;> first | refine wSkip 12 ?_ | refine wSkipU 12 ?_ | refine wLd 12 ?_))
      all_goals (first | refine wSkip 14 ?_ | refine wSkipU 14 ?_ | refine wFa 14 ?_ | (refine tr_guard (t := 18) rfl (fun hb => ?_) (fun hb => ?_) <;> (try simp only [kk] at hb) <;> first | refine wSkip 14 ?_ | refine wSkipU 14 ?_ | refine wFa 14 ?_))
      all_goals (first | refine wSkip 15 ?_ | refine wSkipU 15 ?_ | refine wLd 15 ?_ | (refine tr_guard (t := 18) rfl (fun hb => ?_) (fun hb => ?_) <;> (try simp only [kk] at hb) <;> first | refine wSkip 15 ?_ | refine wSkipU 15 ?_ | refine wLd 15 ?_))
      all_goals (first | refine wSkip 13 ?_ | refine wSkipU 13 ?_ | (refine rStep (i := 13) ?_; ((try refine qWant ?_); (first | (refine qEf ?_; try intro _)) <;> ((try simp only [kM, kN, kO]); refine tl_nil ?_; refine rNext ?_))))
      all_goals (first | refine wSkip 16 ?_ | refine wSkipU 16 ?_ | (refine rStep (i := 16) ?_; ((try refine qWant ?_); (first | (refine qEf ?_; try intro _)) <;> ((try simp only [kM, kN, kO]); refine tl_nil ?_; refine rNext ?_))))
      all_goals refine rFull ?_
      all_goals (first | refine wSkip 17 ?_ | refine wSkipU 17 ?_ | refine wCm 17 ?_ | (refine tr_guard (t := 18) rfl (fun hb => ?_) (fun hb => ?_) <;> (try simp only [kk] at hb) <;> first | refine wSkip 17 ?_ | refine wSkipU 17 ?_ | refine wCm 17 ?_))
      all_goals (first | refine wSkip 18 ?_ | refine wSkipU 18 ?_ | refine wPk 18 ?_ | (refine tr_guard (t := 15) rfl (fun hb => ?_) (fun hb => ?_) <;> (try simp only [kk] at hb) <;> first | refine wSkip 18 ?_ | refine wSkipU 18 ?_ | refine wPk 18 ?_))
      all_goals refine rPk 19 ?_
      all_goals refine rDone ?_
      repeat' (first | (refine i_op ?_; first | (refine i_qq ?_; refine qQ ?_) | refine qEf ?_) | refine tl_nil ?_ | (refine i_tc ?_; refine qTc ?_) | (refine i_te ?_; refine qTe ?_) | intro _)
      exact qE ⟨rfl, rfl, rfl⟩
    · rw [hx, Bool.true_and] at hs
      by_cases hk0 : k = 0
      · have hs' : risesB n rt ltR l (k + 1) = true := by rw [hs]; simp [hk0]
        generalize l[k]'(by omega) = x at *
        repeat' (first | (refine i_op ?_; first | (refine i_qq ?_; refine qQ ?_) | refine qEf ?_) | refine tl_nil ?_ | (refine i_tc ?_; refine qTc ?_) | (refine i_te ?_; refine qTe ?_) | intro _)
        refine tc_any (Stays _ _ _) stays_refl ?_
        all_goals refine rLd 0 ?_
        all_goals (refine rStep (i := 1) ?_; ((try refine qWant ?_); (first | (refine tl_is (.func 247) ?_; refine qC rfl rfl (rightRow_spec _ x) ?_; rintro v ρ' L' hle ⟨rfl, rfl, rfl⟩ <;> (try simp only [kM, kN, kO, hx])) | (refine qEf ?_; try intro _)) <;> ((try simp only [kM, kN, kO]); refine tl_nil ?_; refine rNext ?_)))
        all_goals refine rUn 2 ?_
        all_goals refine rMv 3 ?_
        all_goals (first | refine wSkip 4 ?_ | refine wSkipU 4 ?_ | refine wMv 4 ?_ | (refine tr_guard (t := 15) rfl (fun hb => ?_) (fun hb => ?_) <;> (try simp only [kk] at hb) <;> first | refine wSkip 4 ?_ | refine wSkipU 4 ?_ | refine wMv 4 ?_))
        all_goals (first | refine wSkip 5 ?_ | refine wSkipU 5 ?_ | refine wCm 5 ?_ | (refine tr_guard (t := 15) rfl (fun hb => ?_) (fun hb => ?_) <;> (try simp only [kk] at hb) <;> first | refine wSkip 5 ?_ | refine wSkipU 5 ?_ | refine wCm 5 ?_))
        all_goals (first | refine wSkip 6 ?_ | refine wSkipU 6 ?_ | refine wMv 6 ?_ | (refine tr_guard (t := 15) rfl (fun hb => ?_) (fun hb => ?_) <;> (try simp only [kk] at hb) <;> first | refine wSkip 6 ?_ | refine wSkipU 6 ?_ | refine wMv 6 ?_))
        all_goals (first | refine wSkip 7 ?_ | refine wSkipU 7 ?_ | refine wMv 7 ?_ | (refine tr_guard (t := 18) rfl (fun hb => ?_) (fun hb => ?_) <;> (try simp only [kk] at hb) <;> first | refine wSkip 7 ?_ | refine wSkipU 7 ?_ | refine wMv 7 ?_))
        all_goals (first | refine wSkip 8 ?_ | refine wSkipU 8 ?_ | refine wMv 8 ?_ | (refine tr_guard (t := 18) rfl (fun hb => ?_) (fun hb => ?_) <;> (try simp only [kk] at hb) <;> first | refine wSkip 8 ?_ | refine wSkipU 8 ?_ | refine wMv 8 ?_))
        all_goals (first | refine wSkip 9 ?_ | refine wSkipU 9 ?_ | refine wSb 9 ?_ | (refine tr_guard (t := 18) rfl (fun hb => ?_) (fun hb => ?_) <;> (try simp only [kk] at hb) <;> first | refine wSkip 9 ?_ | refine wSkipU 9 ?_ | refine wSb 9 ?_))
        all_goals (first | refine wSkip 10 ?_ | refine wSkipU 10 ?_ | refine wIa 10 ?_ | (refine tr_guard (t := 18) rfl (fun hb => ?_) (fun hb => ?_) <;> (try simp only [kk] at hb) <;> first | refine wSkip 10 ?_ | refine wSkipU 10 ?_ | refine wIa 10 ?_))
        all_goals (first | refine wSkip 11 ?_ | refine wSkipU 11 ?_ | refine wFa 11 ?_ | (refine tr_guard (t := 18) rfl (fun hb => ?_) (fun hb => ?_) <;> (try simp only [kk] at hb) <;> first | refine wSkip 11 ?_ | refine wSkipU 11 ?_ | refine wFa 11 ?_))
        all_goals (first | refine wSkip 12 ?_ | refine wSkipU 12 ?_ | refine wLd 12 ?_ | (refine tr_guard (t := 18) rfl (fun hb => ?_) (fun hb => ?_) <;> (try simp only [kk] at hb) <;> first | refine wSkip 12 ?_ | refine wSkipU 12 ?_ | refine wLd 12 ?_))
        all_goals (first | refine wSkip 14 ?_ | refine wSkipU 14 ?_ | refine wFa 14 ?_ | (refine tr_guard (t := 18) rfl (fun hb => ?_) (fun hb => ?_) <;> (try simp only [kk] at hb) <;> first | refine wSkip 14 ?_ | refine wSkipU 14 ?_ | refine wFa 14 ?_))
        all_goals (first | refine wSkip 15 ?_ | refine wSkipU 15 ?_ | refine wLd 15 ?_ | (refine tr_guard (t := 18) rfl (fun hb => ?_) (fun hb => ?_) <;> (try simp only [kk] at hb) <;> first | refine wSkip 15 ?_ | refine wSkipU 15 ?_ | refine wLd 15 ?_))
        all_goals (first | refine wSkip 13 ?_ | refine wSkipU 13 ?_ | (refine rStep (i := 13) ?_; ((try refine qWant ?_); (first | (refine qEf ?_; try intro _)) <;> ((try simp only [kM, kN, kO]); refine tl_nil ?_; refine rNext ?_))))
        all_goals (first | refine wSkip 16 ?_ | refine wSkipU 16 ?_ | (refine rStep (i := 16) ?_; ((try refine qWant ?_); (first | (refine qEf ?_; try intro _)) <;> ((try simp only [kM, kN, kO]); refine tl_nil ?_; refine rNext ?_))))
        all_goals refine rFull ?_
        all_goals (first | refine wSkip 17 ?_ | refine wSkipU 17 ?_ | refine wCm 17 ?_ | (refine tr_guard (t := 18) rfl (fun hb => ?_) (fun hb => ?_) <;> (try simp only [kk] at hb) <;> first | refine wSkip 17 ?_ | refine wSkipU 17 ?_ | refine wCm 17 ?_))
        all_goals (first | refine wSkip 18 ?_ | refine wSkipU 18 ?_ | refine wPk 18 ?_ | (refine tr_guard (t := 15) rfl (fun hb => ?_) (fun hb => ?_) <;> (try simp only [kk] at hb) <;> first | refine wSkip 18 ?_ | refine wSkipU 18 ?_ | refine wPk 18 ?_))
        all_goals refine rPk 19 ?_
        all_goals refine rDone ?_
        repeat' (first | (refine i_op ?_; first | (refine i_qq ?_; refine qQ ?_) | refine qEf ?_) | refine tl_nil ?_ | (refine i_tc ?_; refine qTc ?_) | (refine i_te ?_; refine qTe ?_) | intro _)
        refine te_round_g (k + 1) (⟨hlt, hs'⟩) ev_le ev_le rfl tk inferInstance (by first | omega | (dsimp only; omega))
      · have hd : decide (k = 0) = false := decide_eq_false hk0
        rw [hd, Bool.false_or] at hs
        obtain ⟨b2, off2, C2, T2, fr2, f1, hb2, hfit2, hc2⟩ := h.get (show k - 1 < l.length by omega)
        cases f1
        rw [hb] at hb2
        cases hb2
        have ek : ((k : Int) - 1).toNat = k - 1 := by omega
        have hkey : List.take 2 (List.drop (off + ((k : Int) - 1).toNat * 4) C) = keyV (l[k - 1]'(by omega)).t (l[k - 1]'(by omega)).id := by
          rw [ek]
          have := congrArg (List.take 2) hc2
          rw [List.take_take] at this
          exact this
        have hfit3 : off + ((k : Int) - 1).toNat * 4 + 2 ≤ C.length := by rw [ek]; omega
        obtain ⟨g1, g2⟩ := risesB_true hok (by omega)
        have hrp := (g2 (k - 1) (by omega) (by omega)).1
        have hrk1 : rt (k - 1) (l[k - 1]'(by omega)) = rowOk (l[k - 1]'(by omega)) := by rw [← hrt]
        rw [hrk1] at hrp
        have hidp := hid _ (List.getElem_mem (show k - 1 < l.length by omega))
        clear hc2 hfit2 hrk hrk1
        generalize l[k]'(by omega) = x at *
        generalize l[k - 1]'(by omega) = y at *
        obtain ⟨y0, y3, _⟩ := rowOk_iff hrp
        obtain ⟨x0, x3, _⟩ := rowOk_iff hx
        have hor := order_lt (t1 := y.t) (t2 := x.t) hidp hidk
        unfold ltR at hs
        by_cases hcm : cmpK y.t y.id x.t x.id < 0
        · rw [decide_eq_true hcm] at hs
          have hcm2 := hor.1 hcm
          repeat' (first | (refine i_op ?_; first | (refine i_qq ?_; refine qQ ?_) | refine qEf ?_) | refine tl_nil ?_ | (refine i_tc ?_; refine qTc ?_) | (refine i_te ?_; refine qTe ?_) | intro _)
          refine tc_any (Stays _ _ _) stays_refl ?_
          all_goals refine rLd 0 ?_
          all_goals (refine rStep (i := 1) ?_; ((try refine qWant ?_); (first | (refine tl_is (.func 247) ?_; refine qC rfl rfl (rightRow_spec _ x) ?_; rintro v ρ' L' hle ⟨rfl, rfl, rfl⟩ <;> (try simp only [kM, kN, kO, hx])) | (refine qEf ?_; try intro _)) <;> ((try simp only [kM, kN, kO]); refine tl_nil ?_; refine rNext ?_)))
          all_goals refine rUn 2 ?_
          all_goals refine rMv 3 ?_
          all_goals (first | refine wSkip 4 ?_ | refine wSkipU 4 ?_ | refine wMv 4 ?_ | (refine tr_guard (t := 15) rfl (fun hb => ?_) (fun hb => ?_) <;> (try simp only [kk] at hb) <;> first | refine wSkip 4 ?_ | refine wSkipU 4 ?_ | refine wMv 4 ?_))
          all_goals (first | refine wSkip 5 ?_ | refine wSkipU 5 ?_ | refine wCm 5 ?_ | (refine tr_guard (t := 15) rfl (fun hb => ?_) (fun hb => ?_) <;> (try simp only [kk] at hb) <;> first | refine wSkip 5 ?_ | refine wSkipU 5 ?_ | refine wCm 5 ?_))
          all_goals (first | refine wSkip 6 ?_ | refine wSkipU 6 ?_ | refine wMv 6 ?_ | (refine tr_guard (t := 15) rfl (fun hb => ?_) (fun hb => ?_) <;> (try simp only [kk] at hb) <;> first | refine wSkip 6 ?_ | refine wSkipU 6 ?_ | refine wMv 6 ?_))
          all_goals (first | refine wSkip 7 ?_ | refine wSkipU 7 ?_ | refine wMv 7 ?_ | (refine tr_guard (t := 18) rfl (fun hb => ?_) (fun hb => ?_) <;> (try simp only [kk] at hb) <;> first | refine wSkip 7 ?_ | refine wSkipU 7 ?_ | refine wMv 7 ?_))
          all_goals (first | refine wSkip 8 ?_ | refine wSkipU 8 ?_ | refine wMv 8 ?_ | (refine tr_guard (t := 18) rfl (fun hb => ?_) (fun hb => ?_) <;> (try simp only [kk] at hb) <;> first | refine wSkip 8 ?_ | refine wSkipU 8 ?_ | refine wMv 8 ?_))
          all_goals (first | refine wSkip 9 ?_ | refine wSkipU 9 ?_ | refine wSb 9 ?_ | (refine tr_guard (t := 18) rfl (fun hb => ?_) (fun hb => ?_) <;> (try simp only [kk] at hb) <;> first | refine wSkip 9 ?_ | refine wSkipU 9 ?_ | refine wSb 9 ?_))
          all_goals (first | refine wSkip 10 ?_ | refine wSkipU 10 ?_ | refine wIa 10 ?_ | (refine tr_guard (t := 18) rfl (fun hb => ?_) (fun hb => ?_) <;> (try simp only [kk] at hb) <;> first | refine wSkip 10 ?_ | refine wSkipU 10 ?_ | refine wIa 10 ?_))
          all_goals (first | refine wSkip 11 ?_ | refine wSkipU 11 ?_ | refine wFa 11 ?_ | (refine tr_guard (t := 18) rfl (fun hb => ?_) (fun hb => ?_) <;> (try simp only [kk] at hb) <;> first | refine wSkip 11 ?_ | refine wSkipU 11 ?_ | refine wFa 11 ?_))
          all_goals (first | refine wSkip 12 ?_ | refine wSkipU 12 ?_ | refine wLd 12 ?_ | (refine tr_guard (t := 18) rfl (fun hb => ?_) (fun hb => ?_) <;> (try simp only [kk] at hb) <;> first | refine wSkip 12 ?_ | refine wSkipU 12 ?_ | refine wLd 12 ?_))
          all_goals (first | refine wSkip 14 ?_ | refine wSkipU 14 ?_ | refine wFa 14 ?_ | (refine tr_guard (t := 18) rfl (fun hb => ?_) (fun hb => ?_) <;> (try simp only [kk] at hb) <;> first | refine wSkip 14 ?_ | refine wSkipU 14 ?_ | refine wFa 14 ?_))
          all_goals (first | refine wSkip 15 ?_ | refine wSkipU 15 ?_ | refine wLd 15 ?_ | (refine tr_guard (t := 18) rfl (fun hb => ?_) (fun hb => ?_) <;> (try simp only [kk] at hb) <;> first | refine wSkip 15 ?_ | refine wSkipU 15 ?_ | refine wLd 15 ?_))
          all_goals (first | refine wSkip 13 ?_ | refine wSkipU 13 ?_ | (refine rStep (i := 13) ?_; ((try refine qWant ?_); (first | (refine tl_is (.func 281) ?_; refine qC rfl rfl (order_spec _ y.t y.id y0 y3 hidp) ?_; rintro v ρ' L' hle ⟨rfl, rfl, rfl⟩ <;> (try simp only [kM, kN, kO])) | (refine tl_is (.func 281) ?_; refine qC rfl rfl (order_spec _ x.t x.id x0 x3 hidk) ?_; rintro v ρ' L' hle ⟨rfl, rfl, rfl⟩ <;> (try simp only [kM, kN, kO])) | (refine qEf ?_; try intro _)) <;> ((try simp only [kM, kN, kO]); refine tl_nil ?_; refine rNext ?_))))
          all_goals (first | refine wSkip 16 ?_ | refine wSkipU 16 ?_ | (refine rStep (i := 16) ?_; ((try refine qWant ?_); (first | (refine tl_is (.func 281) ?_; refine qC rfl rfl (order_spec _ y.t y.id y0 y3 hidp) ?_; rintro v ρ' L' hle ⟨rfl, rfl, rfl⟩ <;> (try simp only [kM, kN, kO])) | (refine tl_is (.func 281) ?_; refine qC rfl rfl (order_spec _ x.t x.id x0 x3 hidk) ?_; rintro v ρ' L' hle ⟨rfl, rfl, rfl⟩ <;> (try simp only [kM, kN, kO])) | (refine qEf ?_; try intro _)) <;> ((try simp only [kM, kN, kO]); refine tl_nil ?_; refine rNext ?_))))
          all_goals refine rFull ?_
          all_goals (first | refine wSkip 17 ?_ | refine wSkipU 17 ?_ | refine wCm 17 ?_ | (refine tr_guard (t := 18) rfl (fun hb => ?_) (fun hb => ?_) <;> (try simp only [kk] at hb) <;> first | refine wSkip 17 ?_ | refine wSkipU 17 ?_ | refine wCm 17 ?_))
          all_goals (first | refine wSkip 18 ?_ | refine wSkipU 18 ?_ | refine wPk 18 ?_ | (refine tr_guard (t := 15) rfl (fun hb => ?_) (fun hb => ?_) <;> (try simp only [kk] at hb) <;> first | refine wSkip 18 ?_ | refine wSkipU 18 ?_ | refine wPk 18 ?_))
          all_goals refine rPk 19 ?_
          all_goals refine rDone ?_
          all_goals (repeat' (first | (refine i_op ?_; first | (refine i_qq ?_; refine qQ ?_) | refine qEf ?_) | refine tl_nil ?_ | (refine i_tc ?_; refine qTc ?_) | (refine i_te ?_; refine qTe ?_) | intro _))
          all_goals refine te_round_g (k + 1) (⟨hlt, hs⟩) ev_le ev_le rfl tk inferInstance (by first | omega | (dsimp only; omega))
        · rw [decide_eq_false hcm] at hs
          rw [hfin hs, Bool.and_false]
          have hcm2 : ¬ (y.t * 65536 + y.id < x.t * 65536 + x.id) := fun h => hcm (hor.2 h)
          repeat' (first | (refine i_op ?_; first | (refine i_qq ?_; refine qQ ?_) | refine qEf ?_) | refine tl_nil ?_ | (refine i_tc ?_; refine qTc ?_) | (refine i_te ?_; refine qTe ?_) | intro _)
          refine tc_any (Stays _ _ _) stays_refl ?_
          all_goals refine rLd 0 ?_
          all_goals (refine rStep (i := 1) ?_; ((try refine qWant ?_); (first | (refine tl_is (.func 247) ?_; refine qC rfl rfl (rightRow_spec _ x) ?_; rintro v ρ' L' hle ⟨rfl, rfl, rfl⟩ <;> (try simp only [kM, kN, kO, hx])) | (refine qEf ?_; try intro _)) <;> ((try simp only [kM, kN, kO]); refine tl_nil ?_; refine rNext ?_)))
          all_goals refine rUn 2 ?_
          all_goals refine rMv 3 ?_
          all_goals (first | refine wSkip 4 ?_ | refine wSkipU 4 ?_ | refine wMv 4 ?_ | (refine tr_guard (t := 15) rfl (fun hb => ?_) (fun hb => ?_) <;> (try simp only [kk] at hb) <;> first | refine wSkip 4 ?_ | refine wSkipU 4 ?_ | refine wMv 4 ?_))
          all_goals (first | refine wSkip 5 ?_ | refine wSkipU 5 ?_ | refine wCm 5 ?_ | (refine tr_guard (t := 15) rfl (fun hb => ?_) (fun hb => ?_) <;> (try simp only [kk] at hb) <;> first | refine wSkip 5 ?_ | refine wSkipU 5 ?_ | refine wCm 5 ?_))
          all_goals (first | refine wSkip 6 ?_ | refine wSkipU 6 ?_ | refine wMv 6 ?_ | (refine tr_guard (t := 15) rfl (fun hb => ?_) (fun hb => ?_) <;> (try simp only [kk] at hb) <;> first | refine wSkip 6 ?_ | refine wSkipU 6 ?_ | refine wMv 6 ?_))
          all_goals (first | refine wSkip 7 ?_ | refine wSkipU 7 ?_ | refine wMv 7 ?_ | (refine tr_guard (t := 18) rfl (fun hb => ?_) (fun hb => ?_) <;> (try simp only [kk] at hb) <;> first | refine wSkip 7 ?_ | refine wSkipU 7 ?_ | refine wMv 7 ?_))
          all_goals (first | refine wSkip 8 ?_ | refine wSkipU 8 ?_ | refine wMv 8 ?_ | (refine tr_guard (t := 18) rfl (fun hb => ?_) (fun hb => ?_) <;> (try simp only [kk] at hb) <;> first | refine wSkip 8 ?_ | refine wSkipU 8 ?_ | refine wMv 8 ?_))
          all_goals (first | refine wSkip 9 ?_ | refine wSkipU 9 ?_ | refine wSb 9 ?_ | (refine tr_guard (t := 18) rfl (fun hb => ?_) (fun hb => ?_) <;> (try simp only [kk] at hb) <;> first | refine wSkip 9 ?_ | refine wSkipU 9 ?_ | refine wSb 9 ?_))
          all_goals (first | refine wSkip 10 ?_ | refine wSkipU 10 ?_ | refine wIa 10 ?_ | (refine tr_guard (t := 18) rfl (fun hb => ?_) (fun hb => ?_) <;> (try simp only [kk] at hb) <;> first | refine wSkip 10 ?_ | refine wSkipU 10 ?_ | refine wIa 10 ?_))
          all_goals (first | refine wSkip 11 ?_ | refine wSkipU 11 ?_ | refine wFa 11 ?_ | (refine tr_guard (t := 18) rfl (fun hb => ?_) (fun hb => ?_) <;> (try simp only [kk] at hb) <;> first | refine wSkip 11 ?_ | refine wSkipU 11 ?_ | refine wFa 11 ?_))
          all_goals (first | refine wSkip 12 ?_ | refine wSkipU 12 ?_ | refine wLd 12 ?_ | (refine tr_guard (t := 18) rfl (fun hb => ?_) (fun hb => ?_) <;> (try simp only [kk] at hb) <;> first | refine wSkip 12 ?_ | refine wSkipU 12 ?_ | refine wLd 12 ?_))
          all_goals (first | refine wSkip 14 ?_ | refine wSkipU 14 ?_ | refine wFa 14 ?_ | (refine tr_guard (t := 18) rfl (fun hb => ?_) (fun hb => ?_) <;> (try simp only [kk] at hb) <;> first | refine wSkip 14 ?_ | refine wSkipU 14 ?_ | refine wFa 14 ?_))
          all_goals (first | refine wSkip 15 ?_ | refine wSkipU 15 ?_ | refine wLd 15 ?_ | (refine tr_guard (t := 18) rfl (fun hb => ?_) (fun hb => ?_) <;> (try simp only [kk] at hb) <;> first | refine wSkip 15 ?_ | refine wSkipU 15 ?_ | refine wLd 15 ?_))
          all_goals (first | refine wSkip 13 ?_ | refine wSkipU 13 ?_ | (refine rStep (i := 13) ?_; ((try refine qWant ?_); (first | (refine tl_is (.func 281) ?_; refine qC rfl rfl (order_spec _ y.t y.id y0 y3 hidp) ?_; rintro v ρ' L' hle ⟨rfl, rfl, rfl⟩ <;> (try simp only [kM, kN, kO])) | (refine tl_is (.func 281) ?_; refine qC rfl rfl (order_spec _ x.t x.id x0 x3 hidk) ?_; rintro v ρ' L' hle ⟨rfl, rfl, rfl⟩ <;> (try simp only [kM, kN, kO])) | (refine qEf ?_; try intro _)) <;> ((try simp only [kM, kN, kO]); refine tl_nil ?_; refine rNext ?_))))
          all_goals (first | refine wSkip 16 ?_ | refine wSkipU 16 ?_ | (refine rStep (i := 16) ?_; ((try refine qWant ?_); (first | (refine tl_is (.func 281) ?_; refine qC rfl rfl (order_spec _ y.t y.id y0 y3 hidp) ?_; rintro v ρ' L' hle ⟨rfl, rfl, rfl⟩ <;> (try simp only [kM, kN, kO])) | (refine tl_is (.func 281) ?_; refine qC rfl rfl (order_spec _ x.t x.id x0 x3 hidk) ?_; rintro v ρ' L' hle ⟨rfl, rfl, rfl⟩ <;> (try simp only [kM, kN, kO])) | (refine qEf ?_; try intro _)) <;> ((try simp only [kM, kN, kO]); refine tl_nil ?_; refine rNext ?_))))
          all_goals refine rFull ?_
          all_goals (first | refine wSkip 17 ?_ | refine wSkipU 17 ?_ | refine wCm 17 ?_ | (refine tr_guard (t := 18) rfl (fun hb => ?_) (fun hb => ?_) <;> (try simp only [kk] at hb) <;> first | refine wSkip 17 ?_ | refine wSkipU 17 ?_ | refine wCm 17 ?_))
          all_goals (first | refine wSkip 18 ?_ | refine wSkipU 18 ?_ | refine wPk 18 ?_ | (refine tr_guard (t := 15) rfl (fun hb => ?_) (fun hb => ?_) <;> (try simp only [kk] at hb) <;> first | refine wSkip 18 ?_ | refine wSkipU 18 ?_ | refine wPk 18 ?_))
          all_goals refine rPk 19 ?_
          all_goals refine rDone ?_
          all_goals (repeat' (first | (refine i_op ?_; first | (refine i_qq ?_; refine qQ ?_) | refine qEf ?_) | refine tl_nil ?_ | (refine i_tc ?_; refine qTc ?_) | (refine i_te ?_; refine qTe ?_) | intro _))
          all_goals exact qE ⟨rfl, rfl, rfl⟩
  · have hk2 : k = n := by omega
    subst hk2
    rw [hok, Bool.and_true]
    by_cases h4 : k ≤ 4
    · rw [decide_eq_true h4]
      repeat' (first | (refine i_op ?_; first | (refine i_qq ?_; refine qQ ?_) | refine qEf ?_) | refine tl_nil ?_ | (refine i_tc ?_; refine qTc ?_) | (refine i_te ?_; refine qTe ?_) | intro _)
      exact qE ⟨rfl, rfl, rfl⟩
    · rw [decide_eq_false h4]
      repeat' (first | (refine i_op ?_; first | (refine i_qq ?_; refine qQ ?_) | refine qEf ?_) | refine tl_nil ?_ | (refine i_tc ?_; refine qTc ?_) | (refine i_te ?_; refine qTe ?_) | intro _)
      exact qE ⟨rfl, rfl, rfl⟩
end Go.Proofs.E

