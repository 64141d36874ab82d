/- Records of layer 12 as data, their bytes, what their functions come to, and which of them may be. Part 7 of 18. -/
import Derived.Test.YtbchgeledcfklaaGreatJ6
namespace Go.Proofs.E
open Go
set_option linter.unusedVariables false
set_option linter.unusedSimpArgs false
set_option linter.unusedSectionVars false
set_option maxRecDepth 4000
set_option maxHeartbeats 1000000
attribute [local irreducible] Yl TL TC TE Spec YSpec R1 Hp.le EnvLe TS TR YS Stays
structure MetOk (es : List MapEntry) (ps : List Int) : Prop where
  keys : IntKeys .i64 es
  get : ∀ p, mget es p = if p ∈ ps then some (.bool true) else none
theorem MetOk.nil : MetOk [] [] := ⟨by intro e he; simp at he, fun p => by simp [mget]⟩
def kidOk (i : Nat) (ps : List Int) (k : Kid) : Bool := decide (k.page ∉ ps ∧ 0 < k.page ∧ k.page < 64 ∧ (0 ≤ k.t ∧ k.t < 3) ∧ (0 < i ∨ (k.t = 0 ∧ k.id = 0)))
theorem kidV_len (r : Kid) : (kidV r).length = 3 := rfl
theorem kidV_one (r : Kid) : (kidV r).all (·.oneCell') = true := rfl
theorem inner1_spec (ρ : Hp) (r : Kid) : Spec Tryz.prog 275 [.agg ⟨kidV r⟩] ρ [] (fun v ρ' L' => v = .agg ⟨keyV r.t r.id⟩ ∧ ρ' = ρ ∧ L' = []) := by
  refine spec_enter Tryz.func275 rfl rfl rfl fun u R => ?_
  simp only [argsE, List.cons_append, List.nil_append]
  repeat' (first | (refine i_op ?_; first | (refine i_qq ?_; refine qQ ?_) | refine qEf ?_) | refine tl_nil ?_ | (refine i_tc ?_; refine qTc ?_) | (refine i_te ?_; refine qTe ?_) | intro _)
  exact qE ⟨rfl, rfl, rfl⟩
abbrev metL (bx mb : Nat) (es : List MapEntry) (ck : Nat) : SH := [[(bx, .cells ⟨[.map (some mb)]⟩ 295 (0, 0))], [(mb, .map ⟨es⟩ ck)]]
theorem inner2_spec (ρ : Hp) (bx mb : Nat) (es : List MapEntry) (ck : Nat) (ps : List Int) (hm : MetOk es ps) (i : Nat) (k : Kid) : Spec Tryz.prog 276 [.int .i64 i, .agg ⟨kidV k⟩, .pointer (some ⟨bx, 0, none⟩)] ρ (metL bx mb es ck)
    (fun v ρ' L' => v = .bool (kidOk i ps k) ∧ ρ' = ρ ∧ ∃ es' ck', MetOk es' (k.page :: ps) ∧ L' = metL bx mb es' ck') := by
  obtain ⟨t, id, page⟩ := k
  have hes := hm.keys
  have hg := hm.get page
  dsimp only at hg ⊢
  generalize hq : kidOk i ps ⟨t, id, page⟩ = q
  have hfin : ∀ es', IntKeys .i64 es' → (∀ j, mget es' j = if j = page then some (.bool true) else mget es j) → MetOk es' (page :: ps) := fun es' h1 h2 => ⟨h1, fun p => by
    rw [h2 p, hm.get p]
    by_cases e : p = page <;> simp [e]⟩
  refine spec_enter Tryz.func276 rfl rfl rfl fun u R => ?_
  simp only [argsE, List.cons_append, List.nil_append]
  by_cases hp : page ∈ ps
  · rw [if_pos hp] at hg
    have hq' : q = false := by rw [← hq]; exact decide_eq_false (fun h => h.1 hp)
    subst hq'
    repeat' (first | (refine tl_mapUpdate rfl rfl rfl hes (fun es' ck' h1 h2 => ?_)) | (refine i_op ?_; first | (refine i_qq ?_; refine qQ ?_) | refine qEf ?_) | refine tl_nil ?_ | (refine i_tc ?_; refine qTc ?_) | (refine i_te ?_; refine qTe ?_) | intro _)
    exact qE ⟨rfl, rfl, es', ck', hfin es' h1 h2, rfl⟩
  · rw [if_neg hp] at hg
    by_cases hp0 : 0 < page
    · by_cases hp6 : page < 64
      · by_cases ht : 0 ≤ t ∧ t < 3
        · have hd : decide (0 ≤ t ∧ t < 3) = true := decide_eq_true ht
          by_cases hi : 0 < i
          · have hq' : q = true := by rw [← hq]; exact decide_eq_true ⟨hp, hp0, hp6, ht, .inl hi⟩
            subst hq'
            repeat' (first | (refine tl_mapUpdate rfl rfl rfl hes (fun es' ck' h1 h2 => ?_)) | (refine tl_is (.func 253) ?_; refine qC rfl rfl (table_spec _ _) ?_; rintro v ρ' L' hle ⟨rfl, rfl, rfl⟩ <;> (try simp only [kM, kN, kO, hd])) | (refine i_op ?_; first | (refine i_qq ?_; refine qQ ?_) | refine qEf ?_) | refine tl_nil ?_ | (refine i_tc ?_; refine qTc ?_) | (refine i_te ?_; refine qTe ?_) | intro _)
            exact qE ⟨rfl, rfl, es', ck', hfin es' h1 h2, rfl⟩
          · by_cases hz : t = 0 ∧ id = 0
            · have hq' : q = true := by rw [← hq]; exact decide_eq_true ⟨hp, hp0, hp6, ht, .inr hz⟩
              subst hq'
              obtain ⟨rfl, rfl⟩ := hz
              repeat' (first | (refine tl_mapUpdate rfl rfl rfl hes (fun es' ck' h1 h2 => ?_)) | (refine tl_is (.func 253) ?_; refine qC rfl rfl (table_spec _ _) ?_; rintro v ρ' L' hle ⟨rfl, rfl, rfl⟩ <;> (try simp only [kM, kN, kO, hd])) | (refine i_op ?_; first | (refine i_qq ?_; refine qQ ?_) | refine qEf ?_) | refine tl_nil ?_ | (refine i_tc ?_; refine qTc ?_) | (refine i_te ?_; refine qTe ?_) | intro _)
              exact qE ⟨rfl, rfl, es', ck', hfin es' h1 h2, rfl⟩
            · have hq' : q = false := by rw [← hq]; exact decide_eq_false (fun h => h.2.2.2.2.elim hi hz)
              subst hq'
              have hk : ((t == 0) && (((id : Int) == 0) && true)) = false := by
                simp; intro h; exact fun h' => hz ⟨h, by omega⟩
              repeat' (first | (refine tl_mapUpdate rfl rfl rfl hes (fun es' ck' h1 h2 => ?_)) | (refine tl_is (.func 253) ?_; refine qC rfl rfl (table_spec _ _) ?_; rintro v ρ' L' hle ⟨rfl, rfl, rfl⟩ <;> (try simp only [kM, kN, kO, hd])) | (refine i_op ?_; first | (refine i_qq ?_; refine qQ ?_) | refine qEf ?_) | refine tl_nil ?_ | (refine i_tc ?_; refine qTc ?_) | (refine i_te ?_; refine qTe ?_) | intro _)
              exact qE ⟨by first | rfl | exact congrArg Value.bool hk, rfl, es', ck', hfin es' h1 h2, rfl⟩
        · have hd : decide (0 ≤ t ∧ t < 3) = false := decide_eq_false ht
          have hq' : q = false := by rw [← hq]; exact decide_eq_false (fun h => ht h.2.2.2.1)
          subst hq'
          repeat' (first | (refine tl_mapUpdate rfl rfl rfl hes (fun es' ck' h1 h2 => ?_)) | (refine tl_is (.func 253) ?_; refine qC rfl rfl (table_spec _ _) ?_; rintro v ρ' L' hle ⟨rfl, rfl, rfl⟩ <;> (try simp only [kM, kN, kO, hd])) | (refine i_op ?_; first | (refine i_qq ?_; refine qQ ?_) | refine qEf ?_) | refine tl_nil ?_ | (refine i_tc ?_; refine qTc ?_) | (refine i_te ?_; refine qTe ?_) | intro _)
          exact qE ⟨rfl, rfl, es', ck', hfin es' h1 h2, rfl⟩
      · have hq' : q = false := by rw [← hq]; exact decide_eq_false (fun h => hp6 h.2.2.1)
        subst hq'
        repeat' (first | (refine tl_mapUpdate rfl rfl rfl hes (fun es' ck' h1 h2 => ?_)) | (refine i_op ?_; first | (refine i_qq ?_; refine qQ ?_) | refine qEf ?_) | refine tl_nil ?_ | (refine i_tc ?_; refine qTc ?_) | (refine i_te ?_; refine qTe ?_) | intro _)
        exact qE ⟨rfl, rfl, es', ck', hfin es' h1 h2, rfl⟩
    · have hq' : q = false := by rw [← hq]; exact decide_eq_false (fun h => hp0 h.2.1)
      subst hq'
      repeat' (first | (refine tl_mapUpdate rfl rfl rfl hes (fun es' ck' h1 h2 => ?_)) | (refine i_op ?_; first | (refine i_qq ?_; refine qQ ?_) | refine qEf ?_) | refine tl_nil ?_ | (refine i_tc ?_; refine qTc ?_) | (refine i_te ?_; refine qTe ?_) | intro _)
      exact qE ⟨rfl, rfl, es', ck', hfin es' h1 h2, rfl⟩
def psTo (l : List Kid) (k : Nat) : List Int := ((l.take k).map Kid.page).reverse
theorem psTo_succ {l : List Kid} {k : Nat} (h : k < l.length) : psTo l (k + 1) = l[k].page :: psTo l k := by
  unfold psTo; rw [List.take_succ_eq_append_getElem h, List.map_append, List.reverse_append]; rfl
def ltK (y x : Kid) : Bool := decide (cmpK y.t y.id x.t x.id < 0)
def kidsOk (l : List Kid) : Bool := risesB 4 (fun i k => kidOk i (psTo l i) k) ltK l l.length
theorem risesKid_spec (ρ : Hp) (a : Option Addr) (n c : Nat) (l : List Kid) (h : AIn ρ 3 kidV a n l) (hn : n ≤ 1000000) (bx mb ck0 : Nat) :
    Spec Tryz.prog 274 [.slice a n c, .int .i64 4, .func (.func 275) ⟨[]⟩ ⟨[]⟩, .func (.func 276) ⟨[]⟩ ⟨[.pointer (some ⟨bx, 0, none⟩)]⟩] ρ (metL bx mb [] ck0) (fun v ρ' L' => v = .bool (kidsOk l) ∧ ρ' = ρ ∧ L' = []) := by
  have hl := h.len
  unfold kidsOk
  rw [hl]
  refine spec_enter Tryz.func274 rfl rfl rfl fun u R => ?_
  simp only [argsE, List.cons_append, List.nil_append]
  generalize hr : (fun (i : Nat) (k : Kid) => kidOk i (psTo l i) k) = rt
  repeat' (first | (refine i_op ?_; first | (refine i_qq ?_; refine qQ ?_) | refine qEf ?_) | refine tl_nil ?_ | (refine i_tc ?_; refine qTc ?_) | (refine i_te ?_; refine qTe ?_) | intro _)
  have e0 : decide ((n : Int) ≤ 4) = risesB 4 rt ltK l 0 := by
    rw [risesB]; simp [hl]; omega
  rw [e0]
  refine tc_loop_g [(0, _), (2, _), (3, _), (8, _), (16, _), (17, _)] (fun (ζ : (Nat) × (List MapEntry) × (Nat)) => [(18, .int .i64 ζ.1), (9, .bool (risesB 4 rt ltK l ζ.1))]) (fun (ζ : (Nat) × (List MapEntry) × (Nat)) => ρ) (fun (ζ : (Nat) × (List MapEntry) × (Nat)) => metL bx mb ζ.2.1 ζ.2.2) (fun (ζ : (Nat) × (List MapEntry) × (Nat)) => ζ.1 ≤ n ∧ MetOk ζ.2.1 (psTo l ζ.1)) (fun (ζ : (Nat) × (List MapEntry) × (Nat)) => n - ζ.1) ((0, [], ck0)) (⟨Nat.zero_le _, MetOk.nil⟩) ev_le ev_le rfl tk ?_
  rintro ⟨k, es, ck⟩ hI
  try simp only [List.cons_append, List.nil_append, List.append_assoc, List.append_eq] at hI ⊢
  try dsimp only at hI ⊢
  obtain ⟨hI, hm⟩ := hI
  by_cases hlt : k < n
  · obtain ⟨b, off, C, T, fr, rfl, hb, hfit, hc⟩ := h.get (show k < l.length by omega)
    have hs := risesB_succ (most := 4) (right := rt) (lt := ltK) (show k < l.length by omega)
    have hfin := fun (e : risesB 4 rt ltK l (k + 1) = false) => risesB_false' e (show k + 1 ≤ n by omega)
    have hps := psTo_succ (show k < l.length by omega)
    have hrk : rt k l[k] = kidOk k (psTo l k) l[k] := by rw [← hr]
    cases hok : risesB 4 rt ltK l k
    · rw [hok, Bool.false_and] at hs
      rw [hfin hs]
      generalize l[k] = x at *
      repeat' (first | (refine i_op ?_; first | (refine i_qq ?_; refine qQ ?_) | refine qEf ?_) | refine tl_nil ?_ | (refine i_tc ?_; refine qTc ?_) | (refine i_te ?_; refine qTe ?_) | intro _)
      rename_i b11
      refine tc_any (Stays _ _ ([[(b11, .cells ⟨kidV x⟩ 164 (0, 0))]])) (stays_of (hT := tk) (Hp.le_refl _)) ?_
      all_goals refine rMv 0 ?_
      all_goals refine rMv 1 ?_
      all_goals (first | refine wSkip 2 ?_ | refine wSkipU 2 ?_ | refine wMv 2 ?_ | (refine tr_guard (t := 24) rfl (fun hb => ?_) (fun hb => ?_) <;> (try simp only [kk] at hb) <;> first | refine wSkip 2 ?_ | refine wSkipU 2 ?_ | refine wMv 2 ?_))
      all_goals (first | refine wSkip 3 ?_ | refine wSkipU 3 ?_ | refine wMv 3 ?_ | (refine tr_guard (t := 24) rfl (fun hb => ?_) (fun hb => ?_) <;> (try simp only [kk] at hb) <;> first | refine wSkip 3 ?_ | refine wSkipU 3 ?_ | refine wMv 3 ?_))
      all_goals (first | refine wSkip 4 ?_ | refine wSkipU 4 ?_ | refine wLd 4 ?_ | (refine tr_guard (t := 24) rfl (fun hb => ?_) (fun hb => ?_) <;> (try simp only [kk] at hb) <;> first | refine wSkip 4 ?_ | refine wSkipU 4 ?_ | refine wLd 4 ?_))
      all_goals (first | refine wSkip 5 ?_ | refine wSkipU 5 ?_ | (refine rStep (i := 5) ?_; ((try refine qWant ?_); (first | (refine qEf ?_; try intro _)) <;> ((try simp only [kM, kN, kO]); refine tl_nil ?_; refine rNext ?_))))
      all_goals refine rPk 6 ?_
      all_goals refine rMv 7 ?_
      all_goals (first | refine wSkip 8 ?_ | refine wSkipU 8 ?_ | refine wMv 8 ?_ | (refine tr_guard (t := 30) rfl (fun hb => ?_) (fun hb => ?_) <;> (try simp only [kk] at hb) <;> first | refine wSkip 8 ?_ | refine wSkipU 8 ?_ | refine wMv 8 ?_))
      all_goals (first | refine wSkip 9 ?_ | refine wSkipU 9 ?_ | refine wCm 9 ?_ | (refine tr_guard (t := 30) rfl (fun hb => ?_) (fun hb => ?_) <;> (try simp only [kk] at hb) <;> first | refine wSkip 9 ?_ | refine wSkipU 9 ?_ | refine wCm 9 ?_))
      all_goals (first | refine wSkip 10 ?_ | refine wSkipU 10 ?_ | refine wMv 10 ?_ | (refine tr_guard (t := 30) rfl (fun hb => ?_) (fun hb => ?_) <;> (try simp only [kk] at hb) <;> first | refine wSkip 10 ?_ | refine wSkipU 10 ?_ | refine wMv 10 ?_))
      all_goals (first | refine wSkip 11 ?_ | refine wSkipU 11 ?_ | refine wMv 11 ?_ | (refine tr_guard (t := 33) rfl (fun hb => ?_) (fun hb => ?_) <;> (try simp only [kk] at hb) <;> first | refine wSkip 11 ?_ | refine wSkipU 11 ?_ | refine wMv 11 ?_))
      all_goals (first | refine wSkip 12 ?_ | refine wSkipU 12 ?_ | refine wMv 12 ?_ | (refine tr_guard (t := 33) rfl (fun hb => ?_) (fun hb => ?_) <;> (try simp only [kk] at hb) <;> first | refine wSkip 12 ?_ | refine wSkipU 12 ?_ | refine wMv 12 ?_))
      all_goals (first | refine wSkip 13 ?_ | refine wSkipU 13 ?_ | refine wMv 13 ?_ | (refine tr_guard (t := 33) rfl (fun hb => ?_) (fun hb => ?_) <;> (try simp only [kk] at hb) <;> first | refine wSkip 13 ?_ | refine wSkipU 13 ?_ | refine wMv 13 ?_))
      all_goals (first | refine wSkip 14 ?_ | refine wSkipU 14 ?_ | refine wSb 14 ?_ | (refine tr_guard (t := 33) rfl (fun hb => ?_) (fun hb => ?_) <;> (try simp only [kk] at hb) <;> first | refine wSkip 14 ?_ | refine wSkipU 14 ?_ | refine wSb 14 ?_))
      all_goals (first | refine wSkip 15 ?_ | refine wSkipU 15 ?_ | refine wIa 15 ?_ | (refine tr_guard (t := 33) rfl (fun hb => ?_) (fun hb => ?_) <;> (try simp only [kk] at hb) <;> first | refine wSkip 15 ?_ | refine wSkipU 15 ?_ | refine wIa 15 ?_))
      all_goals (first | refine wSkip 16 ?_ | refine wSkipU 16 ?_ | refine wLd 16 ?_ | (refine tr_guard (t := 33) rfl (fun hb => ?_) (fun hb => ?_) <;> (try simp only [kk] at hb) <;> first | refine wSkip 16 ?_ | refine wSkipU 16 ?_ | refine wLd 16 ?_))
      all_goals (first | refine wSkip 18 ?_ | refine wSkipU 18 ?_ | refine wMv 18 ?_ | (refine tr_guard (t := 33) rfl (fun hb => ?_) (fun hb => ?_) <;> (try simp only [kk] at hb) <;> first | refine wSkip 18 ?_ | refine wSkipU 18 ?_ | refine wMv 18 ?_))
      all_goals (first | refine wSkip 19 ?_ | refine wSkipU 19 ?_ | refine wLd 19 ?_ | (refine tr_guard (t := 33) rfl (fun hb => ?_) (fun hb => ?_) <;> (try simp only [kk] at hb) <;> first | refine wSkip 19 ?_ | refine wSkipU 19 ?_ | refine wLd 19 ?_))
      all_goals (first | refine wSkip 17 ?_ | refine wSkipU 17 ?_ | (refine rStep (i := 17) ?_; ((try refine qWant ?_); (first | (refine qEf ?_; try intro _)) <;> ((try simp only [kM, kN, kO]); refine tl_nil ?_; refine rNext ?_))))
      all_goals (first | refine wSkip 20 ?_ | refine wSkipU 20 ?_ | (refine rStep (i := 20) ?_; ((try refine qWant ?_); (first | (refine qEf ?_; try intro _)) <;> ((try simp only [kM, kN, kO]); refine tl_nil ?_; refine rNext ?_))))
      all_goals (first | refine wSkip 21 ?_ | refine wSkipU 21 ?_ | (refine rStep (i := 21) ?_; ((try refine qWant ?_); (first | (refine qEf ?_; try intro _)) <;> ((try simp only [kM, kN, kO]); refine tl_nil ?_; refine rNext ?_))))
      all_goals refine rFull ?_
      all_goals (first | refine wSkip 22 ?_ | refine wSkipU 22 ?_ | refine wCm 22 ?_ | (refine tr_guard (t := 33) rfl (fun hb => ?_) (fun hb => ?_) <;> (try simp only [kk] at hb) <;> first | refine wSkip 22 ?_ | refine wSkipU 22 ?_ | refine wCm 22 ?_))
      all_goals (first | refine wSkip 23 ?_ | refine wSkipU 23 ?_ | refine wPk 23 ?_ | (refine tr_guard (t := 30) rfl (fun hb => ?_) (fun hb => ?_) <;> (try simp only [kk] at hb) <;> first | refine wSkip 23 ?_ | refine wSkipU 23 ?_ | refine wPk 23 ?_))
      all_goals refine rPk 24 ?_
      all_goals refine rAs 25 ?_
      all_goals refine rDone ?_
      repeat' (first | (refine i_op ?_; first | (refine i_qq ?_; refine qQ ?_) | refine qEf ?_) | refine tl_nil ?_ | (refine i_tc ?_; refine qTc ?_) | (refine i_te ?_; refine qTe ?_) | intro _)
      exact qE ⟨rfl, rfl, rfl⟩
    · rw [hok, Bool.true_and, hrk] at hs
      cases hx : kidOk k (psTo l k) l[k]
      · rw [hx, Bool.false_and] at hs
        rw [hfin hs]
        generalize l[k] = x at *
        repeat' (first | (refine i_op ?_; first | (refine i_qq ?_; refine qQ ?_) | refine qEf ?_) | refine tl_nil ?_ | (refine i_tc ?_; refine qTc ?_) | (refine i_te ?_; refine qTe ?_) | intro _)
        rename_i b11
        refine tc_any (Stays _ _ ([[(b11, .cells ⟨kidV x⟩ 164 (0, 0))]])) (stays_of (hT := tk) (Hp.le_refl _)) ?_
        all_goals refine rMv 0 ?_
        all_goals refine rMv 1 ?_
        all_goals (first | refine wSkip 2 ?_ | refine wSkipU 2 ?_ | refine wMv 2 ?_ | (refine tr_guard (t := 24) rfl (fun hb => ?_) (fun hb => ?_) <;> (try simp only [kk] at hb) <;> first | refine wSkip 2 ?_ | refine wSkipU 2 ?_ | refine wMv 2 ?_))
        all_goals (first | refine wSkip 3 ?_ | refine wSkipU 3 ?_ | refine wMv 3 ?_ | (refine tr_guard (t := 24) rfl (fun hb => ?_) (fun hb => ?_) <;> (try simp only [kk] at hb) <;> first | refine wSkip 3 ?_ | refine wSkipU 3 ?_ | refine wMv 3 ?_))
        all_goals (first | refine wSkip 4 ?_ | refine wSkipU 4 ?_ | refine wLd 4 ?_ | (refine tr_guard (t := 24) rfl (fun hb => ?_) (fun hb => ?_) <;> (try simp only [kk] at hb) <;> first | refine wSkip 4 ?_ | refine wSkipU 4 ?_ | refine wLd 4 ?_))
        all_goals (first | refine wSkip 5 ?_ | refine wSkipU 5 ?_ | (refine rStep (i := 5) ?_; ((try refine qWant ?_); (first | (refine tl_is (.tmp 25) ?_; refine qC rfl rfl (inner2_spec _ bx mb es ck _ hm k x) ?_; rintro v ρ' L' hle ⟨rfl, rfl, es', ck', hm', rfl⟩ <;> (try simp only [kM, kN, kO, hx])) | (refine tl_is (.tmp 34) ?_; refine qC rfl rfl (inner1_spec _ _) ?_; rintro v ρ' L' hle ⟨rfl, rfl, rfl⟩ <;> (try simp only [kM, kN, kO])) | (refine tl_is (.tmp 41) ?_; refine qC rfl rfl (inner1_spec _ _) ?_; rintro v ρ' L' hle ⟨rfl, rfl, rfl⟩ <;> (try simp only [kM, kN, kO])) | (refine qEf ?_; try intro _)) <;> ((try simp only [kM, kN, kO]); refine tl_nil ?_; refine rNext ?_))))
        all_goals refine rPk 6 ?_
        all_goals refine rMv 7 ?_
        all_goals (first | refine wSkip 8 ?_ | refine wSkipU 8 ?_ | refine wMv 8 ?_ | (refine tr_guard (t := 30) rfl (fun hb => ?_) (fun hb => ?_) <;> (try simp only [kk] at hb) <;> first | refine wSkip 8 ?_ | refine wSkipU 8 ?_ | refine wMv 8 ?_))
        all_goals (first | refine wSkip 9 ?_ | refine wSkipU 9 ?_ | refine wCm 9 ?_ | (refine tr_guard (t := 30) rfl (fun hb => ?_) (fun hb => ?_) <;> (try simp only [kk] at hb) <;> first | refine wSkip 9 ?_ | refine wSkipU 9 ?_ | refine wCm 9 ?_))
        all_goals (first | refine wSkip 10 ?_ | refine wSkipU 10 ?_ | refine wMv 10 ?_ | (refine tr_guard (t := 30) rfl (fun hb => ?_) (fun hb => ?_) <;> (try simp only [kk] at hb) <;> first | refine wSkip 10 ?_ | refine wSkipU 10 ?_ | refine wMv 10 ?_))
        all_goals (first | refine wSkip 11 ?_ | refine wSkipU 11 ?_ | refine wMv 11 ?_ | (refine tr_guard (t := 33) rfl (fun hb => ?_) (fun hb => ?_) <;> (try simp only [kk] at hb) <;> first | refine wSkip 11 ?_ | refine wSkipU 11 ?_ | refine wMv 11 ?_))
        all_goals (first | refine wSkip 12 ?_ | refine wSkipU 12 ?_ | refine wMv 12 ?_ | (refine tr_guard (t := 33) rfl (fun hb => ?_) (fun hb => ?_) <;> (try simp only [kk] at hb) <;> first | refine wSkip 12 ?_ | refine wSkipU 12 ?_ | refine wMv 12 ?_))
        all_goals (first | refine wSkip 13 ?_ | refine wSkipU 13 ?_ | refine wMv 13 ?_ | (refine tr_guard (t := 33) rfl (fun hb => ?_) (fun hb => ?_) <;> (try simp only [kk] at hb) <;> first | refine wSkip 13 ?_ | refine wSkipU 13 ?_ | refine wMv 13 ?_))
        all_goals (first | refine wSkip 14 ?_ | refine wSkipU 14 ?_ | refine wSb 14 ?_ | (refine tr_guard (t := 33) rfl (fun hb => ?_) (fun hb => ?_) <;> (try simp only [kk] at hb) <;> first | refine wSkip 14 ?_ | refine wSkipU 14 ?_ | refine wSb 14 ?_))
        all_goals (first | refine wSkip 15 ?_ | refine wSkipU 15 ?_ | refine wIa 15 ?_ | (refine tr_guard (t := 33) rfl (fun hb => ?_) (fun hb => ?_) <;> (try simp only [kk] at hb) <;> first | refine wSkip 15 ?_ | refine wSkipU 15 ?_ | refine wIa 15 ?_))
        all_goals (first | refine wSkip 16 ?_ | refine wSkipU 16 ?_ | refine wLd 16 ?_ | (refine tr_guard (t := 33) rfl (fun hb => ?_) (fun hb => ?_) <;> (try simp only [kk] at hb) <;> first | refine wSkip 16 ?_ | refine wSkipU 16 ?_ | refine wLd 16 ?_))
        all_goals (first | refine wSkip 18 ?_ | refine wSkipU 18 ?_ | refine wMv 18 ?_ | (refine tr_guard (t := 33) rfl (fun hb => ?_) (fun hb => ?_) <;> (try simp only [kk] at hb) <;> first | refine wSkip 18 ?_ | refine wSkipU 18 ?_ | refine wMv 18 ?_))
        all_goals (first | refine wSkip 19 ?_ | refine wSkipU 19 ?_ | refine wLd 19 ?_ | (refine tr_guard (t := 33) rfl (fun hb => ?_) (fun hb => ?_) <;> (try simp only [kk] at hb) <;> first | refine wSkip 19 ?_ | refine wSkipU 19 ?_ | refine wLd 19 ?_))
        all_goals (first | refine wSkip 17 ?_ | refine wSkipU 17 ?_ | (refine rStep (i := 17) ?_; ((try refine qWant ?_); (first | (refine tl_is (.tmp 25) ?_; refine qC rfl rfl (inner2_spec _ bx mb es ck _ hm k x) ?_; rintro v ρ' L' hle ⟨rfl, rfl, es', ck', hm', rfl⟩ <;> (try simp only [kM, kN, kO, hx])) | (refine tl_is (.tmp 34) ?_; refine qC rfl rfl (inner1_spec _ _) ?_; rintro v ρ' L' hle ⟨rfl, rfl, rfl⟩ <;> (try simp only [kM, kN, kO])) | (refine tl_is (.tmp 41) ?_; refine qC rfl rfl (inner1_spec _ _) ?_; rintro v ρ' L' hle ⟨rfl, rfl, rfl⟩ <;> (try simp only [kM, kN, kO])) | (refine qEf ?_; try intro _)) <;> ((try simp only [kM, kN, kO]); refine tl_nil ?_; refine rNext ?_))))
        all_goals (first | refine wSkip 20 ?_ | refine wSkipU 20 ?_ | (refine rStep (i := 20) ?_; ((try refine qWant ?_); (first | (refine tl_is (.tmp 25) ?_; refine qC rfl rfl (inner2_spec _ bx mb es ck _ hm k x) ?_; rintro v ρ' L' hle ⟨rfl, rfl, es', ck', hm', rfl⟩ <;> (try simp only [kM, kN, kO, hx])) | (refine tl_is (.tmp 34) ?_; refine qC rfl rfl (inner1_spec _ _) ?_; rintro v ρ' L' hle ⟨rfl, rfl, rfl⟩ <;> (try simp only [kM, kN, kO])) | (refine tl_is (.tmp 41) ?_; refine qC rfl rfl (inner1_spec _ _) ?_; rintro v ρ' L' hle ⟨rfl, rfl, rfl⟩ <;> (try simp only [kM, kN, kO])) | (refine qEf ?_; try intro _)) <;> ((try simp only [kM, kN, kO]); refine tl_nil ?_; refine rNext ?_))))
        all_goals (first | refine wSkip 21 ?_ | refine wSkipU 21 ?_ | (refine rStep (i := 21) ?_; ((try refine qWant ?_); (first | (refine tl_is (.func 280) ?_; refine qC rfl rfl (compare_spec _ _ _ _ _) ?_; rintro v ρ' L' hle ⟨rfl, rfl, rfl⟩ <;> (try simp only [kM, kN, kO])) | (refine qEf ?_; try intro _)) <;> ((try simp only [kM, kN, kO]); refine tl_nil ?_; refine rNext ?_))))
        all_goals refine rFull ?_
        all_goals (first | refine wSkip 22 ?_ | refine wSkipU 22 ?_ | refine wCm 22 ?_ | (refine tr_guard (t := 33) rfl (fun hb => ?_) (fun hb => ?_) <;> (try simp only [kk] at hb) <;> first | refine wSkip 22 ?_ | refine wSkipU 22 ?_ | refine wCm 22 ?_))
        all_goals (first | refine wSkip 23 ?_ | refine wSkipU 23 ?_ | refine wPk 23 ?_ | (refine tr_guard (t := 30) rfl (fun hb => ?_) (fun hb => ?_) <;> (try simp only [kk] at hb) <;> first | refine wSkip 23 ?_ | refine wSkipU 23 ?_ | refine wPk 23 ?_))
        all_goals refine rPk 24 ?_
        all_goals refine rAs 25 ?_
        all_goals refine rDone ?_
        repeat' (first | (refine i_op ?_; first | (refine i_qq ?_; refine qQ ?_) | refine qEf ?_) | refine tl_nil ?_ | (refine i_tc ?_; refine qTc ?_) | (refine i_te ?_; refine qTe ?_) | intro _)
        exact qE ⟨rfl, rfl, rfl⟩
      · rw [hx, Bool.true_and] at hs
        by_cases hk0 : k = 0
        · have hs' : risesB 4 rt ltK l (k + 1) = true := by rw [hs]; simp [hk0]
          generalize l[k] = x at *
          repeat' (first | (refine i_op ?_; first | (refine i_qq ?_; refine qQ ?_) | refine qEf ?_) | refine tl_nil ?_ | (refine i_tc ?_; refine qTc ?_) | (refine i_te ?_; refine qTe ?_) | intro _)
          rename_i b11
          refine tc_any (Stays _ _ ([[(b11, .cells ⟨kidV x⟩ 164 (0, 0))]])) (stays_of (hT := tk) (Hp.le_refl _)) ?_
          all_goals refine rMv 0 ?_
          all_goals refine rMv 1 ?_
          all_goals (first | refine wSkip 2 ?_ | refine wSkipU 2 ?_ | refine wMv 2 ?_ | (refine tr_guard (t := 24) rfl (fun hb => ?_) (fun hb => ?_) <;> (try simp only [kk] at hb) <;> first | refine wSkip 2 ?_ | refine wSkipU 2 ?_ | refine wMv 2 ?_))
          all_goals (first | refine wSkip 3 ?_ | refine wSkipU 3 ?_ | refine wMv 3 ?_ | (refine tr_guard (t := 24) rfl (fun hb => ?_) (fun hb => ?_) <;> (try simp only [kk] at hb) <;> first | refine wSkip 3 ?_ | refine wSkipU 3 ?_ | refine wMv 3 ?_))
          all_goals (first | refine wSkip 4 ?_ | refine wSkipU 4 ?_ | refine wLd 4 ?_ | (refine tr_guard (t := 24) rfl (fun hb => ?_) (fun hb => ?_) <;> (try simp only [kk] at hb) <;> first | refine wSkip 4 ?_ | refine wSkipU 4 ?_ | refine wLd 4 ?_))
          all_goals (first | refine wSkip 5 ?_ | refine wSkipU 5 ?_ | (refine rStep (i := 5) ?_; ((try refine qWant ?_); (first | (refine tl_is (.tmp 25) ?_; refine qC rfl rfl (inner2_spec _ bx mb es ck _ hm k x) ?_; rintro v ρ' L' hle ⟨rfl, rfl, es', ck', hm', rfl⟩ <;> (try simp only [kM, kN, kO, hx])) | (refine tl_is (.tmp 34) ?_; refine qC rfl rfl (inner1_spec _ _) ?_; rintro v ρ' L' hle ⟨rfl, rfl, rfl⟩ <;> (try simp only [kM, kN, kO])) | (refine tl_is (.tmp 41) ?_; refine qC rfl rfl (inner1_spec _ _) ?_; rintro v ρ' L' hle ⟨rfl, rfl, rfl⟩ <;> (try simp only [kM, kN, kO])) | (refine qEf ?_; try intro _)) <;> ((try simp only [kM, kN, kO]); refine tl_nil ?_; refine rNext ?_))))
          all_goals refine rPk 6 ?_
          all_goals refine rMv 7 ?_
          all_goals (first | refine wSkip 8 ?_ | refine wSkipU 8 ?_ | refine wMv 8 ?_ | (refine tr_guard (t := 30) rfl (fun hb => ?_) (fun hb => ?_) <;> (try simp only [kk] at hb) <;> first | refine wSkip 8 ?_ | refine wSkipU 8 ?_ | refine wMv 8 ?_))
          all_goals (first | refine wSkip 9 ?_ | refine wSkipU 9 ?_ | refine wCm 9 ?_ | (refine tr_guard (t := 30) rfl (fun hb => ?_) (fun hb => ?_) <;> (try simp only [kk] at hb) <;> first | refine wSkip 9 ?_ | refine wSkipU 9 ?_ | refine wCm 9 ?_))
          all_goals (first | refine wSkip 10 ?_ | refine wSkipU 10 ?_ | refine wMv 10 ?_ | (refine tr_guard (t := 30) rfl (fun hb => ?_) (fun hb => ?_) <;> (try simp only [kk] at hb) <;> first | refine wSkip 10 ?_ | refine wSkipU 10 ?_ | refine wMv 10 ?_))
          all_goals (first | refine wSkip 11 ?_ | refine wSkipU 11 ?_ | refine wMv 11 ?_ | (refine tr_guard (t := 33) rfl (fun hb => ?_) (fun hb => ?_) <;> (try simp only [kk] at hb) <;> first | refine wSkip 11 ?_ | refine wSkipU 11 ?_ | refine wMv 11 ?_))
          all_goals (first | refine wSkip 12 ?_ | refine wSkipU 12 ?_ | refine wMv 12 ?_ | (refine tr_guard (t := 33) rfl (fun hb => ?_) (fun hb => ?_) <;> (try simp only [kk] at hb) <;> first | refine wSkip 12 ?_ | refine wSkipU 12 ?_ | refine wMv 12 ?_))
          all_goals (first | refine wSkip 13 ?_ | refine wSkipU 13 ?_ | refine wMv 13 ?_ | (refine tr_guard (t := 33) rfl (fun hb => ?_) (fun hb => ?_) <;> (try simp only [kk] at hb) <;> first | refine wSkip 13 ?_ | refine wSkipU 13 ?_ | refine wMv 13 ?_))
          all_goals (first | refine wSkip 14 ?_ | refine wSkipU 14 ?_ | refine wSb 14 ?_ | (refine tr_guard (t := 33) rfl (fun hb => ?_) (fun hb => ?_) <;> (try simp only [kk] at hb) <;> first | refine wSkip 14 ?_ | refine wSkipU 14 ?_ | refine wSb 14 ?_))
          all_goals (first | refine wSkip 15 ?_ | refine wSkipU 15 ?_ | refine wIa 15 ?_ | (refine tr_guard (t := 33) rfl (fun hb => ?_) (fun hb => ?_) <;> (try simp only [kk] at hb) <;> first | refine wSkip 15 ?_ | refine wSkipU 15 ?_ | refine wIa 15 ?_))
          all_goals (first | refine wSkip 16 ?_ | refine wSkipU 16 ?_ | refine wLd 16 ?_ | (refine tr_guard (t := 33) rfl (fun hb => ?_) (fun hb => ?_) <;> (try simp only [kk] at hb) <;> first | refine wSkip 16 ?_ | refine wSkipU 16 ?_ | refine wLd 16 ?_))
          all_goals (first | refine wSkip 18 ?_ | refine wSkipU 18 ?_ | refine wMv 18 ?_ | (refine tr_guard (t := 33) rfl (fun hb => ?_) (fun hb => ?_) <;> (try simp only [kk] at hb) <;> first | refine wSkip 18 ?_ | refine wSkipU 18 ?_ | refine wMv 18 ?_))
          all_goals (first | refine wSkip 19 ?_ | refine wSkipU 19 ?_ | refine wLd 19 ?_ | (refine tr_guard (t := 33) rfl (fun hb => ?_) (fun hb => ?_) <;> (try simp only [kk] at hb) <;> first | refine wSkip 19 ?_ | refine wSkipU 19 ?_ | refine wLd 19 ?_))
          all_goals (first | refine wSkip 17 ?_ | refine wSkipU 17 ?_ | (refine rStep (i := 17) ?_; ((try refine qWant ?_); (first | (refine tl_is (.tmp 25) ?_; refine qC rfl rfl (inner2_spec _ bx mb es ck _ hm k x) ?_; rintro v ρ' L' hle ⟨rfl, rfl, es', ck', hm', rfl⟩ <;> (try simp only [kM, kN, kO, hx])) | (refine tl_is (.tmp 34) ?_; refine qC rfl rfl (inner1_spec _ _) ?_; rintro v ρ' L' hle ⟨rfl, rfl, rfl⟩ <;> (try simp only [kM, kN, kO])) | (refine tl_is (.tmp 41) ?_; refine qC rfl rfl (inner1_spec _ _) ?_; rintro v ρ' L' hle ⟨rfl, rfl, rfl⟩ <;> (try simp only [kM, kN, kO])) | (refine qEf ?_; try intro _)) <;> ((try simp only [kM, kN, kO]); refine tl_nil ?_; refine rNext ?_))))
          all_goals (first | refine wSkip 20 ?_ | refine wSkipU 20 ?_ | (refine rStep (i := 20) ?_; ((try refine qWant ?_); (first | (refine tl_is (.tmp 25) ?_; refine qC rfl rfl (inner2_spec _ bx mb es ck _ hm k x) ?_; rintro v ρ' L' hle ⟨rfl, rfl, es', ck', hm', rfl⟩ <;> (try simp only [kM, kN, kO, hx])) | (refine tl_is (.tmp 34) ?_; refine qC rfl rfl (inner1_spec _ _) ?_; rintro v ρ' L' hle ⟨rfl, rfl, rfl⟩ <;> (try simp only [kM, kN, kO])) | (refine tl_is (.tmp 41) ?_; refine qC rfl rfl (inner1_spec _ _) ?_; rintro v ρ' L' hle ⟨rfl, rfl, rfl⟩ <;> (try simp only [kM, kN, kO])) | (refine qEf ?_; try intro _)) <;> ((try simp only [kM, kN, kO]); refine tl_nil ?_; refine rNext ?_))))
          all_goals (first | refine wSkip 21 ?_ | refine wSkipU 21 ?_ | (refine rStep (i := 21) ?_; ((try refine qWant ?_); (first | (refine tl_is (.func 280) ?_; refine qC rfl rfl (compare_spec _ _ _ _ _) ?_; rintro v ρ' L' hle ⟨rfl, rfl, rfl⟩ <;> (try simp only [kM, kN, kO])) | (refine qEf ?_; try intro _)) <;> ((try simp only [kM, kN, kO]); refine tl_nil ?_; refine rNext ?_))))
          all_goals refine rFull ?_
          all_goals (first | refine wSkip 22 ?_ | refine wSkipU 22 ?_ | refine wCm 22 ?_ | (refine tr_guard (t := 33) rfl (fun hb => ?_) (fun hb => ?_) <;> (try simp only [kk] at hb) <;> first | refine wSkip 22 ?_ | refine wSkipU 22 ?_ | refine wCm 22 ?_))
          all_goals (first | refine wSkip 23 ?_ | refine wSkipU 23 ?_ | refine wPk 23 ?_ | (refine tr_guard (t := 30) rfl (fun hb => ?_) (fun hb => ?_) <;> (try simp only [kk] at hb) <;> first | refine wSkip 23 ?_ | refine wSkipU 23 ?_ | refine wPk 23 ?_))
          all_goals refine rPk 24 ?_
          all_goals refine rAs 25 ?_
          all_goals refine rDone ?_
          repeat' (first | (refine i_op ?_; first | (refine i_qq ?_; refine qQ ?_) | refine qEf ?_) | refine tl_nil ?_ | (refine i_tc ?_; refine qTc ?_) | (refine i_te ?_; refine qTe ?_) | intro _)
          rw [← hs']
          refine te_round_g (k + 1, es', ck') (⟨hlt, by dsimp only; rw [hps]; exact hm'⟩) ev_le ev_le rfl tk inferInstance (by first | omega | (dsimp only; omega))
        · have hd : decide (k = 0) = false := decide_eq_false hk0
          obtain ⟨b2, off2, C2, T2, fr2, f1, hb2, hfit2, hc2⟩ := h.get (show k - 1 < l.length by omega)
          cases f1
          rw [hb] at hb2
          cases hb2
          have ek : ((k : Int) - 1).toNat = k - 1 := by omega
          rw [← ek] at hfit2
          have hc3 : List.take 3 (List.drop (off + ((k : Int) - 1).toNat * 3) C) = kidV (l[k - 1]'(by omega)) := by rw [ek]; exact hc2
          clear hc2
          rw [hd, Bool.false_or] at hs
          generalize l[k] = x at *
          generalize l[k - 1]'(by omega) = y at *
          unfold ltK at hs
          by_cases hcm : cmpK y.t y.id x.t x.id < 0
          · rw [decide_eq_true hcm] at hs
            repeat' (first | (refine i_op ?_; first | (refine i_qq ?_; refine qQ ?_) | refine qEf ?_) | refine tl_nil ?_ | (refine i_tc ?_; refine qTc ?_) | (refine i_te ?_; refine qTe ?_) | intro _)
            rename_i b11
            refine tc_any (Stays _ _ ([[(b11, .cells ⟨kidV x⟩ 164 (0, 0))]])) (stays_of (hT := tk) (Hp.le_refl _)) ?_
            all_goals refine rMv 0 ?_
            all_goals refine rMv 1 ?_
            all_goals (first | refine wSkip 2 ?_ | refine wSkipU 2 ?_ | refine wMv 2 ?_ | (refine tr_guard (t := 24) rfl (fun hb => ?_) (fun hb => ?_) <;> (try simp only [kk] at hb) <;> first | refine wSkip 2 ?_ | refine wSkipU 2 ?_ | refine wMv 2 ?_))
            all_goals (first | refine wSkip 3 ?_ | refine wSkipU 3 ?_ | refine wMv 3 ?_ | (refine tr_guard (t := 24) rfl (fun hb => ?_) (fun hb => ?_) <;> (try simp only [kk] at hb) <;> first | refine wSkip 3 ?_ | refine wSkipU 3 ?_ | refine wMv 3 ?_))
            all_goals (first | refine wSkip 4 ?_ | refine wSkipU 4 ?_ | refine wLd 4 ?_ | (refine tr_guard (t := 24) rfl (fun hb => ?_) (fun hb => ?_) <;> (try simp only [kk] at hb) <;> first | refine wSkip 4 ?_ | refine wSkipU 4 ?_ | refine wLd 4 ?_))
            all_goals (first | refine wSkip 5 ?_ | refine wSkipU 5 ?_ | (refine rStep (i := 5) ?_; ((try refine qWant ?_); (first | (refine tl_is (.tmp 25) ?_; refine qC rfl rfl (inner2_spec _ bx mb es ck _ hm k x) ?_; rintro v ρ' L' hle ⟨rfl, rfl, es', ck', hm', rfl⟩ <;> (try simp only [kM, kN, kO, hx])) | (refine tl_is (.tmp 34) ?_; refine qC rfl rfl (inner1_spec _ _) ?_; rintro v ρ' L' hle ⟨rfl, rfl, rfl⟩ <;> (try simp only [kM, kN, kO])) | (refine tl_is (.tmp 41) ?_; refine qC rfl rfl (inner1_spec _ _) ?_; rintro v ρ' L' hle ⟨rfl, rfl, rfl⟩ <;> (try simp only [kM, kN, kO])) | (refine qEf ?_; try intro _)) <;> ((try simp only [kM, kN, kO]); refine tl_nil ?_; refine rNext ?_))))
            all_goals refine rPk 6 ?_
            all_goals refine rMv 7 ?_
            all_goals (first | refine wSkip 8 ?_ | refine wSkipU 8 ?_ | refine wMv 8 ?_ | (refine tr_guard (t := 30) rfl (fun hb => ?_) (fun hb => ?_) <;> (try simp only [kk] at hb) <;> first | refine wSkip 8 ?_ | refine wSkipU 8 ?_ | refine wMv 8 ?_))
            all_goals (first | refine wSkip 9 ?_ | refine wSkipU 9 ?_ | refine wCm 9 ?_ | (refine tr_guard (t := 30) rfl (fun hb => ?_) (fun hb => ?_) <;> (try simp only [kk] at hb) <;> first | refine wSkip 9 ?_ | refine wSkipU 9 ?_ | refine wCm 9 ?_))
            all_goals (first | refine wSkip 10 ?_ | refine wSkipU 10 ?_ | refine wMv 10 ?_ | (refine tr_guard (t := 30) rfl (fun hb => ?_) (fun hb => ?_) <;> (try simp only [kk] at hb) <;> first | refine wSkip 10 ?_ | refine wSkipU 10 ?_ | refine wMv 10 ?_))
            all_goals (first | refine wSkip 11 ?_ | refine wSkipU 11 ?_ | refine wMv 11 ?_ | (refine tr_guard (t := 33) rfl (fun hb => ?_) (fun hb => ?_) <;> (try simp only [kk] at hb) <;> first | refine wSkip 11 ?_ | refine wSkipU 11 ?_ | refine wMv 11 ?_))
            all_goals (first | refine wSkip 12 ?_ | refine wSkipU 12 ?_ | refine wMv 12 ?_ | (refine tr_guard (t := 33) rfl (fun hb => ?_) (fun hb => ?_) <;> (try simp only [kk] at hb) <;> first | refine wSkip 12 ?_ | refine wSkipU 12 ?_ | refine wMv 12 ?_))
            all_goals (first | refine wSkip 13 ?_ | refine wSkipU 13 ?_ | refine wMv 13 ?_ | (refine tr_guard (t := 33) rfl (fun hb => ?_) (fun hb => ?_) <;> (try simp only [kk] at hb) <;> first | refine wSkip 13 ?_ | refine wSkipU 13 ?_ | refine wMv 13 ?_))
            all_goals (first | refine wSkip 14 ?_ | refine wSkipU 14 ?_ | refine wSb 14 ?_ | (refine tr_guard (t := 33) rfl (fun hb => ?_) (fun hb => ?_) <;> (try simp only [kk] at hb) <;> first | refine wSkip 14 ?_ | refine wSkipU 14 ?_ | refine wSb 14 ?_))
            all_goals (first | refine wSkip 15 ?_ | refine wSkipU 15 ?_ | refine wIa 15 ?_ | (refine tr_guard (t := 33) rfl (fun hb => ?_) (fun hb => ?_) <;> (try simp only [kk] at hb) <;> first | refine wSkip 15 ?_ | refine wSkipU 15 ?_ | refine wIa 15 ?_))
            all_goals (first | refine wSkip 16 ?_ | refine wSkipU 16 ?_ | refine wLd 16 ?_ | (refine tr_guard (t := 33) rfl (fun hb => ?_) (fun hb => ?_) <;> (try simp only [kk] at hb) <;> first | refine wSkip 16 ?_ | refine wSkipU 16 ?_ | refine wLd 16 ?_))
            all_goals (first | refine wSkip 18 ?_ | refine wSkipU 18 ?_ | refine wMv 18 ?_ | (refine tr_guard (t := 33) rfl (fun hb => ?_) (fun hb => ?_) <;> (try simp only [kk] at hb) <;> first | refine wSkip 18 ?_ | refine wSkipU 18 ?_ | refine wMv 18 ?_))
            all_goals (first | refine wSkip 19 ?_ | refine wSkipU 19 ?_ | refine wLd 19 ?_ | (refine tr_guard (t := 33) rfl (fun hb => ?_) (fun hb => ?_) <;> (try simp only [kk] at hb) <;> first | refine wSkip 19 ?_ | refine wSkipU 19 ?_ | refine wLd 19 ?_))
            all_goals (first | refine wSkip 17 ?_ | refine wSkipU 17 ?_ | (refine rStep (i := 17) ?_; ((try refine qWant ?_); (first | (refine tl_is (.tmp 25) ?_; refine qC rfl rfl (inner2_spec _ bx mb es ck _ hm k x) ?_; rintro v ρ' L' hle ⟨rfl, rfl, es', ck', hm', rfl⟩ <;> (try simp only [kM, kN, kO, hx])) | (refine tl_is (.tmp 34) ?_; refine qC rfl rfl (inner1_spec _ _) ?_; rintro v ρ' L' hle ⟨rfl, rfl, rfl⟩ <;> (try simp only [kM, kN, kO])) | (refine tl_is (.tmp 41) ?_; refine qC rfl rfl (inner1_spec _ _) ?_; rintro v ρ' L' hle ⟨rfl, rfl, rfl⟩ <;> (try simp only [kM, kN, kO])) | (refine qEf ?_; try intro _)) <;> ((try simp only [kM, kN, kO]); refine tl_nil ?_; refine rNext ?_))))
            all_goals (first | refine wSkip 20 ?_ | refine wSkipU 20 ?_ | (refine rStep (i := 20) ?_; ((try refine qWant ?_); (first | (refine tl_is (.tmp 25) ?_; refine qC rfl rfl (inner2_spec _ bx mb es ck _ hm k x) ?_; rintro v ρ' L' hle ⟨rfl, rfl, es', ck', hm', rfl⟩ <;> (try simp only [kM, kN, kO, hx])) | (refine tl_is (.tmp 34) ?_; refine qC rfl rfl (inner1_spec _ _) ?_; rintro v ρ' L' hle ⟨rfl, rfl, rfl⟩ <;> (try simp only [kM, kN, kO])) | (refine tl_is (.tmp 41) ?_; refine qC rfl rfl (inner1_spec _ _) ?_; rintro v ρ' L' hle ⟨rfl, rfl, rfl⟩ <;> (try simp only [kM, kN, kO])) | (refine qEf ?_; try intro _)) <;> ((try simp only [kM, kN, kO]); refine tl_nil ?_; refine rNext ?_))))
            all_goals (first | refine wSkip 21 ?_ | refine wSkipU 21 ?_ | (refine rStep (i := 21) ?_; ((try refine qWant ?_); (first | (refine tl_is (.func 280) ?_; refine qC rfl rfl (compare_spec _ _ _ _ _) ?_; rintro v ρ' L' hle ⟨rfl, rfl, rfl⟩ <;> (try simp only [kM, kN, kO])) | (refine qEf ?_; try intro _)) <;> ((try simp only [kM, kN, kO]); refine tl_nil ?_; refine rNext ?_))))
            all_goals refine rFull ?_
            all_goals (first | refine wSkip 22 ?_ | refine wSkipU 22 ?_ | refine wCm 22 ?_ | (refine tr_guard (t := 33) rfl (fun hb => ?_) (fun hb => ?_) <;> (try simp only [kk] at hb) <;> first | refine wSkip 22 ?_ | refine wSkipU 22 ?_ | refine wCm 22 ?_))
            all_goals (first | refine wSkip 23 ?_ | refine wSkipU 23 ?_ | refine wPk 23 ?_ | (refine tr_guard (t := 30) rfl (fun hb => ?_) (fun hb => ?_) <;> (try simp only [kk] at hb) <;> first | refine wSkip 23 ?_ | refine wSkipU 23 ?_ | refine wPk 23 ?_))
            all_goals refine rPk 24 ?_
            all_goals refine rAs 25 ?_
            all_goals refine rDone ?_
            all_goals (repeat' (first | (refine i_op ?_; first | (refine i_qq ?_; refine qQ ?_) | refine qEf ?_) | refine tl_nil ?_ | (refine i_tc ?_; refine qTc ?_) | (refine i_te ?_; refine qTe ?_) | intro _))
            all_goals rw [← show risesB 4 rt ltK l (k + 1) = true from hs]
            all_goals refine te_round_g (k + 1, es', ck') (⟨hlt, by dsimp only; rw [hps]; exact hm'⟩) ev_le ev_le rfl tk inferInstance (by first | omega | (dsimp only; omega))
          · rw [decide_eq_false hcm] at hs
            rw [hfin hs]
            repeat' (first | (refine i_op ?_; first | (refine i_qq ?_; refine qQ ?_) | refine qEf ?_) | refine tl_nil ?_ | (refine i_tc ?_; refine qTc ?_) | (refine i_te ?_; refine qTe ?_) | intro _)
            rename_i b11
            refine tc_any (Stays _ _ ([[(b11, .cells ⟨kidV x⟩ 164 (0, 0))]])) (stays_of (hT := tk) (Hp.le_refl _)) ?_
            all_goals refine rMv 0 ?_
            all_goals refine rMv 1 ?_
            all_goals (first | refine wSkip 2 ?_ | refine wSkipU 2 ?_ | refine wMv 2 ?_ | (refine tr_guard (t := 24) rfl (fun hb => ?_) (fun hb => ?_) <;> (try simp only [kk] at hb) <;> first | refine wSkip 2 ?_ | refine wSkipU 2 ?_ | refine wMv 2 ?_))
            all_goals (first | refine wSkip 3 ?_ | refine wSkipU 3 ?_ | refine wMv 3 ?_ | (refine tr_guard (t := 24) rfl (fun hb => ?_) (fun hb => ?_) <;> (try simp only [kk] at hb) <;> first | refine wSkip 3 ?_ | refine wSkipU 3 ?_ | refine wMv 3 ?_))
            all_goals (first | refine wSkip 4 ?_ | refine wSkipU 4 ?_ | refine wLd 4 ?_ | (refine tr_guard (t := 24) rfl (fun hb => ?_) (fun hb => ?_) <;> (try simp only [kk] at hb) <;> first | refine wSkip 4 ?_ | refine wSkipU 4 ?_ | refine wLd 4 ?_))
            all_goals (first | refine wSkip 5 ?_ | refine wSkipU 5 ?_ | (refine rStep (i := 5) ?_; ((try refine qWant ?_); (first | (refine tl_is (.tmp 25) ?_; refine qC rfl rfl (inner2_spec _ bx mb es ck _ hm k x) ?_; rintro v ρ' L' hle ⟨rfl, rfl, es', ck', hm', rfl⟩ <;> (try simp only [kM, kN, kO, hx])) | (refine tl_is (.tmp 34) ?_; refine qC rfl rfl (inner1_spec _ _) ?_; rintro v ρ' L' hle ⟨rfl, rfl, rfl⟩ <;> (try simp only [kM, kN, kO])) | (refine tl_is (.tmp 41) ?_; refine qC rfl rfl (inner1_spec _ _) ?_; rintro v ρ' L' hle ⟨rfl, rfl, rfl⟩ <;> (try simp only [kM, kN, kO])) | (refine qEf ?_; try intro _)) <;> ((try simp only [kM, kN, kO]); refine tl_nil ?_; refine rNext ?_))))
            all_goals refine rPk 6 ?_
            all_goals refine rMv 7 ?_
            all_goals (first | refine wSkip 8 ?_ | refine wSkipU 8 ?_ | refine wMv 8 ?_ | (refine tr_guard (t := 30) rfl (fun hb => ?_) (fun hb => ?_) <;> (try simp only [kk] at hb) <;> first | refine wSkip 8 ?_ | refine wSkipU 8 ?_ | refine wMv 8 ?_))
            all_goals (first | refine wSkip 9 ?_ | refine wSkipU 9 ?_ | refine wCm 9 ?_ | (refine tr_guard (t := 30) rfl (fun hb => ?_) (fun hb => ?_) <;> (try simp only [kk] at hb) <;> first | refine wSkip 9 ?_ | refine wSkipU 9 ?_ | refine wCm 9 ?_))
            all_goals (first | refine wSkip 10 ?_ | refine wSkipU 10 ?_ | refine wMv 10 ?_ | (refine tr_guard (t := 30) rfl (fun hb => ?_) (fun hb => ?_) <;> (try simp only [kk] at hb) <;> first | refine wSkip 10 ?_ | refine wSkipU 10 ?_ | refine wMv 10 ?_))
            all_goals (first | refine wSkip 11 ?_ | refine wSkipU 11 ?_ | refine wMv 11 ?_ | (refine tr_guard (t := 33) rfl (fun hb => ?_) (fun hb => ?_) <;> (try simp only [kk] at hb) <;> first | refine wSkip 11 ?_ | refine wSkipU 11 ?_ | refine wMv 11 ?_))
            all_goals (first | refine wSkip 12 ?_ | refine wSkipU 12 ?_ | refine wMv 12 ?_ | (refine tr_guard (t := 33) rfl (fun hb => ?_) (fun hb => ?_) <;> (try simp only [kk] at hb) <;> first | refine wSkip 12 ?_ | refine wSkipU 12 ?_ | refine wMv 12 ?_))
            all_goals (first | refine wSkip 13 ?_ | refine wSkipU 13 ?_ | refine wMv 13 ?_ | (refine tr_guard (t := 33) rfl (fun hb => ?_) (fun hb => ?_) <;> (try simp only [kk] at hb) <;> first | refine wSkip 13 ?_ | refine wSkipU 13 ?_ | refine wMv 13 ?_))
            all_goals (first | refine wSkip 14 ?_ | refine wSkipU 14 ?_ | refine wSb 14 ?_ | (refine tr_guard (t := 33) rfl (fun hb => ?_) (fun hb => ?_) <;> (try simp only [kk] at hb) <;> first | refine wSkip 14 ?_ | refine wSkipU 14 ?_ | refine wSb 14 ?_))
            all_goals (first | refine wSkip 15 ?_ | refine wSkipU 15 ?_ | refine wIa 15 ?_ | (refine tr_guard (t := 33) rfl (fun hb => ?_) (fun hb => ?_) <;> (try simp only [kk] at hb) <;> first | refine wSkip 15 ?_ | refine wSkipU 15 ?_ | refine wIa 15 ?_))
            all_goals (first | refine wSkip 16 ?_ | refine wSkipU 16 ?_ | refine wLd 16 ?_ | (refine tr_guard (t := 33) rfl (fun hb => ?_) (fun hb => ?_) <;> (try simp only [kk] at hb) <;> first | refine wSkip 16 ?_ | refine wSkipU 16 ?_ | refine wLd 16 ?_))
            all_goals (first | refine wSkip 18 ?_ | refine wSkipU 18 ?_ | refine wMv 18 ?_ | (refine tr_guard (t := 33) rfl (fun hb => ?_) (fun hb => ?_) <;> (try simp only [kk] at hb) <;> first | refine wSkip 18 ?_ | refine wSkipU 18 ?_ | refine wMv 18 ?_))
            all_goals (first | refine wSkip 19 ?_ | refine wSkipU 19 ?_ | refine wLd 19 ?_ | (refine tr_guard (t := 33) rfl (fun hb => ?_) (fun hb => ?_) <;> (try simp only [kk] at hb) <;> first | refine wSkip 19 ?_ | refine wSkipU 19 ?_ | refine wLd 19 ?_))
            all_goals (first | refine wSkip 17 ?_ | refine wSkipU 17 ?_ | (refine rStep (i := 17) ?_; ((try refine qWant ?_); (first | (refine tl_is (.tmp 25) ?_; refine qC rfl rfl (inner2_spec _ bx mb es ck _ hm k x) ?_; rintro v ρ' L' hle ⟨rfl, rfl, es', ck', hm', rfl⟩ <;> (try simp only [kM, kN, kO, hx])) | (refine tl_is (.tmp 34) ?_; refine qC rfl rfl (inner1_spec _ _) ?_; rintro v ρ' L' hle ⟨rfl, rfl, rfl⟩ <;> (try simp only [kM, kN, kO])) | (refine tl_is (.tmp 41) ?_; refine qC rfl rfl (inner1_spec _ _) ?_; rintro v ρ' L' hle ⟨rfl, rfl, rfl⟩ <;> (try simp only [kM, kN, kO])) | (refine qEf ?_; try intro _)) <;> ((try simp only [kM, kN, kO]); refine tl_nil ?_; refine rNext ?_))))
            all_goals (first | refine wSkip 20 ?_ | refine wSkipU 20 ?_ | (refine rStep (i := 20) ?_; ((try refine qWant ?_); (first | (refine tl_is (.tmp 25) ?_; refine qC rfl rfl (inner2_spec _ bx mb es ck _ hm k x) ?_; rintro v ρ' L' hle ⟨rfl, rfl, es', ck', hm', rfl⟩ <;> (try simp only [kM, kN, kO, hx])) | (refine tl_is (.tmp 34) ?_; refine qC rfl rfl (inner1_spec _ _) ?_; rintro v ρ' L' hle ⟨rfl, rfl, rfl⟩ <;> (try simp only [kM, kN, kO])) | (refine tl_is (.tmp 41) ?_; refine qC rfl rfl (inner1_spec _ _) ?_; rintro v ρ' L' hle ⟨rfl, rfl, rfl⟩ <;> (try simp only [kM, kN, kO])) | (refine qEf ?_; try intro _)) <;> ((try simp only [kM, kN, kO]); refine tl_nil ?_; refine rNext ?_))))
            all_goals (first | refine wSkip 21 ?_ | refine wSkipU 21 ?_ | (refine rStep (i := 21) ?_; ((try refine qWant ?_); (first | (refine tl_is (.func 280) ?_; refine qC rfl rfl (compare_spec _ _ _ _ _) ?_; rintro v ρ' L' hle ⟨rfl, rfl, rfl⟩ <;> (try simp only [kM, kN, kO])) | (refine qEf ?_; try intro _)) <;> ((try simp only [kM, kN, kO]); refine tl_nil ?_; refine rNext ?_))))
            all_goals refine rFull ?_
            all_goals (first | refine wSkip 22 ?_ | refine wSkipU 22 ?_ | refine wCm 22 ?_ | (refine tr_guard (t := 33) rfl (fun hb => ?_) (fun hb => ?_) <;> (try simp only [kk] at hb) <;> first | refine wSkip 22 ?_ | refine wSkipU 22 ?_ | refine wCm 22 ?_))
            all_goals (first | refine wSkip 23 ?_ | refine wSkipU 23 ?_ | refine wPk 23 ?_ | (refine tr_guard (t := 30) rfl (fun hb => ?_) (fun hb => ?_) <;> (try simp only [kk] at hb) <;> first | refine wSkip 23 ?_ | refine wSkipU 23 ?_ | refine wPk 23 ?_))
            all_goals refine rPk 24 ?_
            all_goals refine rAs 25 ?_
            all_goals refine rDone ?_
            all_goals (repeat' (first | (refine i_op ?_; first | (refine i_qq ?_; refine qQ ?_) | refine qEf ?_) | refine tl_nil ?_ | (refine i_tc ?_; refine qTc ?_) | (refine i_te ?_; refine qTe ?_) | intro _))
            all_goals exact qE ⟨rfl, rfl, rfl⟩
  · have hk2 : k = n := by omega
    subst hk2
    repeat' (first | (refine i_op ?_; first | (refine i_qq ?_; refine qQ ?_) | refine qEf ?_) | refine tl_nil ?_ | (refine i_tc ?_; refine qTc ?_) | (refine i_te ?_; refine qTe ?_) | intro _)
    exact qE ⟨rfl, rfl, rfl⟩
end Go.Proofs.E

namespace Go.Proofs.E
open Go
set_option linter.unusedVariables false
set_option linter.unusedSimpArgs false
set_option linter.unusedSectionVars false
set_option maxRecDepth 4000
set_option maxHeartbeats 1000000
attribute [local irreducible] Yl TL TC TE Spec YSpec R1 Hp.le EnvLe TS TR YS Stays
structure CV where
  ra : Option Addr
  rn : Nat
  rc : Nat
  ka : Option Addr
  kn : Nat
  kc : Nat
structure Cont where
  kind : Int
  rows : List Row
  kids : List Kid
deriving DecidableEq
abbrev contV (k : Int) (v : CV) : List Value := [.int .i64 k, .slice v.ra v.rn v.rc, .slice v.ka v.kn v.kc]
structure CIn (ρ : Hp) (v : CV) (rows : List Row) (kids : List Kid) : Prop where
  r : AIn ρ 4 rowV v.ra v.rn rows
  k : AIn ρ 3 kidV v.ka v.kn kids
  rb : v.rn ≤ 1000000
  kb : v.kn ≤ 1000000
  rc : v.rn ≤ v.rc
  kc : v.kn ≤ v.kc
theorem CIn.mono {ρ ρ' v rows kids} (h : CIn ρ v rows kids) (hle : ρ.le ρ') : CIn ρ' v rows kids := ⟨h.r.mono hle, h.k.mono hle, h.rb, h.kb, h.rc, h.kc⟩
theorem leafc_spec (ρ : Hp) (a : Option Addr) (n c : Nat) (l : List Row) (h : AIn ρ 4 rowV a n l) (hn : n ≤ 1000000) : Spec Tryz.prog 258 [.slice a n c] ρ [] (fun v ρ' L' => v = .bool (rowsOk l) ∧ ρ' = ρ ∧ L' = []) := by
  refine spec_enter Tryz.func258 rfl rfl rfl fun u R => ?_
  simp only [argsE, List.cons_append, List.nil_append]
  repeat' (first | (refine tl_is (.func 271) ?_; refine qC rfl rfl (risesRow_spec _ a n c l h hn) ?_; rintro v ρ' L' hle ⟨rfl, rfl, rfl⟩ <;> (try simp only [kM, kN, kO])) | (refine i_op ?_; first | (refine i_qq ?_; refine qQ ?_) | refine qEf ?_) | refine tl_nil ?_ | (refine i_tc ?_; refine qTc ?_) | (refine i_te ?_; refine qTe ?_) | intro _)
  exact qE ⟨rfl, rfl, rfl⟩
theorem innerc_spec (ρ : Hp) (a : Option Addr) (n c : Nat) (l : List Kid) (h : AIn ρ 3 kidV a n l) (hn : n ≤ 1000000) : Spec Tryz.prog 259 [.slice a n c] ρ [] (fun v ρ' L' => v = .bool (decide (1 < n) && kidsOk l) ∧ ρ' = ρ ∧ L' = []) := by
  refine spec_enter Tryz.func259 rfl rfl rfl fun u R => ?_
  simp only [argsE, List.cons_append, List.nil_append]
  by_cases h1 : 1 < n
  · rw [decide_eq_true h1, Bool.true_and]
    repeat' (first | (refine tl_is (.func 274) ?_; refine qC rfl rfl (risesKid_spec _ a n c l h hn _ _ _) ?_; rintro v ρ' L' hle ⟨rfl, rfl, rfl⟩ <;> (try simp only [kM, kN, kO])) | (refine i_op ?_; first | (refine i_qq ?_; refine qQ ?_) | refine qEf ?_) | refine tl_nil ?_ | (refine i_tc ?_; refine qTc ?_) | (refine i_te ?_; refine qTe ?_) | intro _)
    exact qE ⟨rfl, rfl, rfl⟩
  · rw [decide_eq_false h1, Bool.false_and]
    repeat' (first | (refine i_op ?_; first | (refine i_qq ?_; refine qQ ?_) | refine qEf ?_) | refine tl_nil ?_ | (refine i_tc ?_; refine qTc ?_) | (refine i_te ?_; refine qTe ?_) | intro _)
    exact qE ⟨rfl, rfl, rfl⟩
def contOk (c : Cont) : Bool :=
  if c.kind = 0 then decide (c.rows.length + c.kids.length = 0)
  else if c.kind = 1 then decide (c.kids.length = 0) && rowsOk c.rows
  else if c.kind = 2 then decide (c.rows.length = 0) && (decide (1 < c.kids.length) && kidsOk c.kids)
  else false
theorem check_spec (ρ : Hp) (v : CV) (c : Cont) (h : CIn ρ v c.rows c.kids) : Spec Tryz.prog 236 [.agg ⟨contV c.kind v⟩] ρ [] (fun r ρ' L' => r = .int .i64 (if contOk c then 0 else 160) ∧ ρ' = ρ ∧ L' = []) := by
  obtain ⟨kind, rows, kids⟩ := c
  obtain ⟨ra, rn, rc, ka, kn, kc⟩ := v
  obtain ⟨hr, hk, hrb, hkb, _, _⟩ := h
  dsimp only at hr hk hrb hkb
  have hrl := hr.len
  have hkl := hk.len
  have hrs := leafc_spec ρ ra rn rc rows hr hrb
  have hks := innerc_spec ρ ka kn kc kids hk hkb
  generalize hq : contOk ⟨kind, rows, kids⟩ = q
  unfold contOk at hq
  simp only [hrl, hkl] at hq
  refine spec_enter Tryz.func236 rfl rfl rfl fun u R => ?_
  simp only [argsE, List.cons_append, List.nil_append]
  by_cases k0 : kind = 0
  · rw [if_pos k0] at hq
    by_cases hz : rn + kn = 0
    · rw [decide_eq_true hz] at hq
      subst hq
      repeat' (first | (refine i_op ?_; first | (refine i_qq ?_; refine qQ ?_) | refine qEf ?_) | refine tl_nil ?_ | (refine i_tc ?_; refine qTc ?_) | (refine i_te ?_; refine qTe ?_) | intro _)
      exact qE ⟨rfl, rfl, rfl⟩
    · rw [decide_eq_false hz] at hq
      subst hq
      repeat' (first | (refine i_op ?_; first | (refine i_qq ?_; refine qQ ?_) | refine qEf ?_) | refine tl_nil ?_ | (refine i_tc ?_; refine qTc ?_) | (refine i_te ?_; refine qTe ?_) | intro _)
      exact qE ⟨rfl, rfl, rfl⟩
  · rw [if_neg k0] at hq
    by_cases k1 : kind = 1
    · rw [if_pos k1] at hq
      by_cases hz : kn = 0
      · rw [decide_eq_true hz, Bool.true_and] at hq
        rw [hq] at hrs
        cases q
        all_goals (repeat' (first | (refine tl_is (.func 258) ?_; refine qC rfl rfl (hrs) ?_; rintro v ρ' L' hle ⟨rfl, rfl, rfl⟩ <;> (try simp only [kM, kN, kO])) | (refine i_op ?_; first | (refine i_qq ?_; refine qQ ?_) | refine qEf ?_) | refine tl_nil ?_ | (refine i_tc ?_; refine qTc ?_) | (refine i_te ?_; refine qTe ?_) | intro _))
        all_goals exact qE ⟨rfl, rfl, rfl⟩
      · rw [decide_eq_false hz, Bool.false_and] at hq
        subst hq
        repeat' (first | (refine i_op ?_; first | (refine i_qq ?_; refine qQ ?_) | refine qEf ?_) | refine tl_nil ?_ | (refine i_tc ?_; refine qTc ?_) | (refine i_te ?_; refine qTe ?_) | intro _)
        exact qE ⟨rfl, rfl, rfl⟩
    · rw [if_neg k1] at hq
      by_cases k2 : kind = 2
      · rw [if_pos k2] at hq
        by_cases hz : rn = 0
        · rw [decide_eq_true hz, Bool.true_and] at hq
          rw [hq] at hks
          cases q
          all_goals (repeat' (first | (refine tl_is (.func 259) ?_; refine qC rfl rfl (hks) ?_; rintro v ρ' L' hle ⟨rfl, rfl, rfl⟩ <;> (try simp only [kM, kN, kO])) | (refine i_op ?_; first | (refine i_qq ?_; refine qQ ?_) | refine qEf ?_) | refine tl_nil ?_ | (refine i_tc ?_; refine qTc ?_) | (refine i_te ?_; refine qTe ?_) | intro _))
          all_goals exact qE ⟨rfl, rfl, rfl⟩
        · rw [decide_eq_false hz, Bool.false_and] at hq
          subst hq
          repeat' (first | (refine i_op ?_; first | (refine i_qq ?_; refine qQ ?_) | refine qEf ?_) | refine tl_nil ?_ | (refine i_tc ?_; refine qTc ?_) | (refine i_te ?_; refine qTe ?_) | intro _)
          exact qE ⟨rfl, rfl, rfl⟩
      · rw [if_neg k2] at hq
        subst hq
        repeat' (first | (refine i_op ?_; first | (refine i_qq ?_; refine qQ ?_) | refine qEf ?_) | refine tl_nil ?_ | (refine i_tc ?_; refine qTc ?_) | (refine i_te ?_; refine qTe ?_) | intro _)
        exact qE ⟨rfl, rfl, rfl⟩
end Go.Proofs.E

namespace Go.Proofs.E
open Go
set_option linter.unusedVariables false
set_option linter.unusedSimpArgs false
set_option linter.unusedSectionVars false
set_option maxRecDepth 4000
set_option maxHeartbeats 1000000
attribute [local irreducible] Yl TL TC TE Spec YSpec R1 Hp.le EnvLe TS TR YS Stays
/-! ## codec: what is taken -/
def manyTo {α : Type} (f : List UInt8 → Int → Bool → α × RS3) : Nat → List UInt8 → Int → Bool → List α × RS3
  | 0, l, st, bad => ([], l, st, bad)
  | n + 1, l, st, bad => if !bad && decide (st = 0) then ((f l st bad).1 :: (manyTo f n (f l st bad).2.1 (f l st bad).2.2.1 (f l st bad).2.2.2).1, (manyTo f n (f l st bad).2.1 (f l st bad).2.2.1 (f l st bad).2.2.2).2) else ([], l, st, bad)
theorem manyTo_stop {α : Type} {f : List UInt8 → Int → Bool → α × RS3} {n : Nat} {l : List UInt8} {st : Int} {bad : Bool} (h : (!bad && decide (st = 0)) = false) : manyTo f n l st bad = ([], l, st, bad) := by
  cases n with
  | zero => rfl
  | succ n => rw [manyTo, h]; rfl
def manyR {α : Type} (f : List UInt8 → Int → Bool → α × RS3) (l : List UInt8) (st : Int) (bad : Bool) : List α × RS3 :=
  manyTo f (numR 1 l st).1 (numR 1 l st).2.1 (numR 1 l st).2.2 (needB bad (numR 1 l st).2.2 (decide (((numR 1 l st).1 : Int) ≤ 4)))
theorem manyRow_spec (ρ : Hp) (bt br : Nat) (all : Int) (bad : Bool) (vk vr vs : Value) (a : Option Addr) (n c : Nat) (l : List UInt8) (h : SIn ρ u8c a n l) (hc : n ≤ c) (st : Int) :
    Spec Tryz.prog 267 [.pointer (some ⟨bt, 0, none⟩), .int .i64 4, .func (.func 221) ⟨[.pointer (some ⟨bt, 0, none⟩)]⟩ ⟨[]⟩] ρ [tkC bt br all bad vk vr vs, rdC br a n c st]
      (fun v ρ' L' => ρ.le ρ' ∧ ∃ sa sn sc a' n' c', v = .slice sa sn sc ∧ sn ≤ sc ∧ sn ≤ 255 ∧ AIn ρ' 4 rowV sa sn (manyR rowR l st bad).1 ∧ SIn ρ' u8c a' n' (manyR rowR l st bad).2.1 ∧ n' ≤ c' ∧ L' = [tkC bt br all (manyR rowR l st bad).2.2.2 vk vr vs, rdC br a' n' c' (manyR rowR l st bad).2.2.1]) := by
  have hn1 := u8_spec ρ br a n c l h hc st
  have hb1 := numR_lt 1 l st
  generalize hq : manyR rowR l st bad = q
  unfold manyR at hq
  generalize numR 1 l st = r1 at *
  obtain ⟨x1, l1, st1⟩ := r1
  dsimp only at hq hn1 hb1
  have hb255 : x1 < 256 := by simpa using hb1
  generalize hB1 : needB bad st1 (decide ((x1 : Int) ≤ 4)) = b1 at *
  refine spec_enter Tryz.func267 rfl rfl rfl fun u R => ?_
  simp only [argsE, List.cons_append, List.nil_append]
  repeat' (first | (refine tl_is (.func 79) ?_; refine qC rfl rfl (hn1) ?_; rintro v ρ' L' hle ⟨rfl, rfl, a1, n1, c1, h1, hc1, rfl⟩ <;> (try simp only [kM, kN, kO])) | (refine tl_is (.func 249) ?_; refine qC rfl rfl (need_spec _ bt br all bad vk vr vs a1 n1 c1 st1 (decide ((x1 : Int) ≤ 4))) ?_; rintro v ρ' L' hle ⟨rfl, rfl, rfl⟩ <;> (try simp only [kM, kN, kO, hB1])) | (refine i_op ?_; first | (refine i_qq ?_; refine qQ ?_) | refine qEf ?_) | refine tl_nil ?_ | (refine i_tc ?_; refine qTc ?_) | (refine i_te ?_; refine qTe ?_) | intro _)
  refine tc_loop_g [(0, _), (2, _), (6, _), (7, _)] (fun (ζ : (Nat) × (Hp) × (Value) × (List Value) × (List Row) × (Option Addr) × (Nat) × (Nat) × (List UInt8) × (Int) × (Bool)) => [(9, .int .i64 ζ.1), (8, ζ.2.2.1)]) (fun (ζ : (Nat) × (Hp) × (Value) × (List Value) × (List Row) × (Option Addr) × (Nat) × (Nat) × (List UInt8) × (Int) × (Bool)) => ζ.2.1) (fun (ζ : (Nat) × (Hp) × (Value) × (List Value) × (List Row) × (Option Addr) × (Nat) × (Nat) × (List UInt8) × (Int) × (Bool)) => [ownC ζ.2.2.1 ((ζ.2.2.2.2.1.map rowV).flatten) ζ.2.2.2.1 60, tkC bt br all ζ.2.2.2.2.2.2.2.2.2.2 vk vr vs, rdC br ζ.2.2.2.2.2.1 ζ.2.2.2.2.2.2.1 ζ.2.2.2.2.2.2.2.1 ζ.2.2.2.2.2.2.2.2.2.1]) (fun (ζ : (Nat) × (Hp) × (Value) × (List Value) × (List Row) × (Option Addr) × (Nat) × (Nat) × (List UInt8) × (Int) × (Bool)) => ζ.1 ≤ x1 ∧ ρ'.le ζ.2.1 ∧ OwnS ζ.2.2.1 ζ.1 ((ζ.2.2.2.2.1.map rowV).flatten) ζ.2.2.2.1 4 ∧ ζ.2.2.2.2.1.length = ζ.1 ∧ SIn ζ.2.1 u8c ζ.2.2.2.2.2.1 ζ.2.2.2.2.2.2.1 ζ.2.2.2.2.2.2.2.2.1 ∧ ζ.2.2.2.2.2.2.1 ≤ ζ.2.2.2.2.2.2.2.1 ∧ q = (ζ.2.2.2.2.1 ++ (manyTo rowR (x1 - ζ.1) ζ.2.2.2.2.2.2.2.2.1 ζ.2.2.2.2.2.2.2.2.2.1 ζ.2.2.2.2.2.2.2.2.2.2).1, (manyTo rowR (x1 - ζ.1) ζ.2.2.2.2.2.2.2.2.1 ζ.2.2.2.2.2.2.2.2.2.1 ζ.2.2.2.2.2.2.2.2.2.2).2)) (fun (ζ : (Nat) × (Hp) × (Value) × (List Value) × (List Row) × (Option Addr) × (Nat) × (Nat) × (List UInt8) × (Int) × (Bool)) => x1 - ζ.1) ((0, ρ', .slice none 0 0, [], [], a1, n1, c1, l1, st1, b1)) (⟨Nat.zero_le _, Hp.le_refl _, OwnS.nil 4, rfl, h1, hc1, by simp [hq]⟩) ev_le ev_le rfl tk ?_
  rintro ⟨i, ρ1, v, sp, acc, a2, n2, c2, l2, st2, bad2⟩ hI
  try simp only [List.cons_append, List.nil_append, List.append_assoc, List.append_eq] at hI ⊢
  try dsimp only at hI ⊢
  obtain ⟨hi, hle1, hown, hal, h2, hc2, hq2⟩ := hI
  obtain ⟨va, vc, rfl, _⟩ := hown.len
  have hg : ∀ x ∈ acc, (rowV x).length = 4 := fun x _ => rowV_len x
  by_cases hlt : i < x1
  · cases hok : (!bad2 && decide (st2 = 0))
    · rw [manyTo_stop hok] at hq2
      simp only [List.append_nil] at hq2
      subst hq2
      repeat' (first | (refine tl_is (.func 252) ?_; refine qC rfl rfl (ok_spec _ bt br all bad2 vk vr vs a2 n2 c2 st2) ?_; rintro v ρ' L' hle ⟨rfl, rfl, rfl⟩ <;> (try simp only [kM, kN, kO, hok])) | (refine i_op ?_; first | (refine i_qq ?_; refine qQ ?_) | refine qEf ?_) | refine tl_nil ?_ | (refine i_tc ?_; refine qTc ?_) | (refine i_te ?_; refine qTe ?_) | intro _)
      refine te_freeze (ownC (.slice va i vc) ((acc.map rowV).flatten) sp 60) (fun ρ3 hle3 hfz => ?_)
      obtain ⟨sa, sc, e1, hsc, hA⟩ := hown.aIn hal hg hfz
      cases e1
      exact qE ⟨Hp.le_trans hle1 hle3, _, _, _, a2, n2, c2, rfl, hsc, by omega, hA, h2.mono hle3, hc2, rfl⟩
    · rw [show x1 - i = (x1 - (i + 1)) + 1 by omega, manyTo, if_pos hok] at hq2
      have hrow := fun ρ h => trow_spec ρ bt br all bad2 vk vr vs a2 n2 c2 l2 h hc2 st2
      generalize rowR l2 st2 bad2 = r at *
      obtain ⟨x, l3, st3, bad3⟩ := r
      dsimp only at hq2 hrow
      repeat' (first | (refine tl_is (.func 252) ?_; refine qC rfl rfl (ok_spec _ bt br all bad2 vk vr vs a2 n2 c2 st2) ?_; rintro v ρ' L' hle ⟨rfl, rfl, rfl⟩ <;> (try simp only [kM, kN, kO, hok])) | (refine tl_is (.tmp 31) ?_; refine qC rfl rfl (hrow _ h2) ?_; rintro v ρ' L' hle ⟨rfl, hle3, a3, n3, c3, h3, hc3, rfl⟩ <;> (try simp only [kM, kN, kO])) | (refine i_op ?_; first | (refine i_qq ?_; refine qQ ?_) | refine qEf ?_) | refine tl_nil ?_ | (refine i_tc ?_; refine qTc ?_) | (refine i_te ?_; refine qTe ?_) | intro _)
      refine tl_buildSliceA (css := [rowV x]) (sz := 4) rfl rfl rfl rfl (by simp) (by simp) rfl (fun bs => ?_)
      simp only [List.flatten_cons, List.flatten_nil, List.append_nil]
      refine tl_app (ys := rowV x) (m := 1) rfl rfl hown (hR := by infer_instance) (SrcV.lit) rfl rfl (by decide) rfl (by omega) (by omega) rfl (fun v' sp' hown' => ?_)
      have hm : (acc.map rowV).flatten ++ rowV x = ((acc ++ [x]).map rowV).flatten := by simp
      rw [hm] at hown' ⊢
      repeat' (first | (refine i_op ?_; first | (refine i_qq ?_; refine qQ ?_) | refine qEf ?_) | refine tl_nil ?_ | (refine i_tc ?_; refine qTc ?_) | (refine i_te ?_; refine qTe ?_) | intro _)
      refine te_round_g (i + 1, _, v', sp', acc ++ [x], a3, n3, c3, l3, st3, bad3) (⟨hlt, Hp.le_trans hle1 hle3, hown', by simp [hal], h3, hc3, by rw [hq2]; simp⟩) ev_le ev_le rfl tk inferInstance (by first | omega | (dsimp only; omega))
  · have hi2 : i = x1 := by omega
    subst hi2
    rw [Nat.sub_self, manyTo] at hq2
    simp only [List.append_nil] at hq2
    subst hq2
    repeat' (first | (refine i_op ?_; first | (refine i_qq ?_; refine qQ ?_) | refine qEf ?_) | refine tl_nil ?_ | (refine i_tc ?_; refine qTc ?_) | (refine i_te ?_; refine qTe ?_) | intro _)
    refine te_freeze (ownC (.slice va i vc) ((acc.map rowV).flatten) sp 60) (fun ρ3 hle3 hfz => ?_)
    obtain ⟨sa, sc, e1, hsc, hA⟩ := hown.aIn hal hg hfz
    cases e1
    exact qE ⟨Hp.le_trans hle1 hle3, _, _, _, a2, n2, c2, rfl, hsc, by omega, hA, h2.mono hle3, hc2, rfl⟩
def kidRB (l : List UInt8) (st : Int) (bad : Bool) : Kid × RS3 := ((kidR l st).1, (kidR l st).2.1, (kidR l st).2.2, bad)
theorem tkidB_spec (ρ : Hp) (bt br : Nat) (all : Int) (bad : Bool) (vk vr vs : Value) (a : Option Addr) (n c : Nat) (l : List UInt8) (h : SIn ρ u8c a n l) (hc : n ≤ c) (st : Int) :
    Spec Tryz.prog 269 [.pointer (some ⟨bt, 0, none⟩)] ρ [tkC bt br all bad vk vr vs, rdC br a n c st]
      (fun v ρ' L' => v = .agg ⟨kidV (kidRB l st bad).1⟩ ∧ ρ.le ρ' ∧ ∃ a' n' c', SIn ρ' u8c a' n' (kidRB l st bad).2.1 ∧ n' ≤ c' ∧ L' = [tkC bt br all (kidRB l st bad).2.2.2 vk vr vs, rdC br a' n' c' (kidRB l st bad).2.2.1]) := by
  refine (tkid_spec ρ bt br all bad vk vr vs a n c l h hc st).mono ?_
  rintro v ρ' L' hle ⟨h1, h2, h3⟩
  exact ⟨h1, hle, h3⟩
theorem manyKid_spec (ρ : Hp) (bt br : Nat) (all : Int) (bad : Bool) (vk vr vs : Value) (a : Option Addr) (n c : Nat) (l : List UInt8) (h : SIn ρ u8c a n l) (hc : n ≤ c) (st : Int) :
    Spec Tryz.prog 268 [.pointer (some ⟨bt, 0, none⟩), .int .i64 4, .func (.func 269) ⟨[.pointer (some ⟨bt, 0, none⟩)]⟩ ⟨[]⟩] ρ [tkC bt br all bad vk vr vs, rdC br a n c st]
      (fun v ρ' L' => ρ.le ρ' ∧ ∃ sa sn sc a' n' c', v = .slice sa sn sc ∧ sn ≤ sc ∧ sn ≤ 255 ∧ AIn ρ' 3 kidV sa sn (manyR kidRB l st bad).1 ∧ SIn ρ' u8c a' n' (manyR kidRB l st bad).2.1 ∧ n' ≤ c' ∧ L' = [tkC bt br all (manyR kidRB l st bad).2.2.2 vk vr vs, rdC br a' n' c' (manyR kidRB l st bad).2.2.1]) := by
  have hn1 := u8_spec ρ br a n c l h hc st
  have hb1 := numR_lt 1 l st
  generalize hq : manyR kidRB l st bad = q
  unfold manyR at hq
  generalize numR 1 l st = r1 at *
  obtain ⟨x1, l1, st1⟩ := r1
  dsimp only at hq hn1 hb1
  have hb255 : x1 < 256 := by simpa using hb1
  generalize hB1 : needB bad st1 (decide ((x1 : Int) ≤ 4)) = b1 at *
  refine spec_enter Tryz.func268 rfl rfl rfl fun u R => ?_
  simp only [argsE, List.cons_append, List.nil_append]
  repeat' (first | (refine tl_is (.func 79) ?_; refine qC rfl rfl (hn1) ?_; rintro v ρ' L' hle ⟨rfl, rfl, a1, n1, c1, h1, hc1, rfl⟩ <;> (try simp only [kM, kN, kO])) | (refine tl_is (.func 249) ?_; refine qC rfl rfl (need_spec _ bt br all bad vk vr vs a1 n1 c1 st1 (decide ((x1 : Int) ≤ 4))) ?_; rintro v ρ' L' hle ⟨rfl, rfl, rfl⟩ <;> (try simp only [kM, kN, kO, hB1])) | (refine i_op ?_; first | (refine i_qq ?_; refine qQ ?_) | refine qEf ?_) | refine tl_nil ?_ | (refine i_tc ?_; refine qTc ?_) | (refine i_te ?_; refine qTe ?_) | intro _)
  refine tc_loop_g [(0, _), (2, _), (6, _), (7, _)] (fun (ζ : (Nat) × (Hp) × (Value) × (List Value) × (List Kid) × (Option Addr) × (Nat) × (Nat) × (List UInt8) × (Int) × (Bool)) => [(9, .int .i64 ζ.1), (8, ζ.2.2.1)]) (fun (ζ : (Nat) × (Hp) × (Value) × (List Value) × (List Kid) × (Option Addr) × (Nat) × (Nat) × (List UInt8) × (Int) × (Bool)) => ζ.2.1) (fun (ζ : (Nat) × (Hp) × (Value) × (List Value) × (List Kid) × (Option Addr) × (Nat) × (Nat) × (List UInt8) × (Int) × (Bool)) => [ownC ζ.2.2.1 ((ζ.2.2.2.2.1.map kidV).flatten) ζ.2.2.2.1 164, tkC bt br all ζ.2.2.2.2.2.2.2.2.2.2 vk vr vs, rdC br ζ.2.2.2.2.2.1 ζ.2.2.2.2.2.2.1 ζ.2.2.2.2.2.2.2.1 ζ.2.2.2.2.2.2.2.2.2.1]) (fun (ζ : (Nat) × (Hp) × (Value) × (List Value) × (List Kid) × (Option Addr) × (Nat) × (Nat) × (List UInt8) × (Int) × (Bool)) => ζ.1 ≤ x1 ∧ ρ'.le ζ.2.1 ∧ OwnS ζ.2.2.1 ζ.1 ((ζ.2.2.2.2.1.map kidV).flatten) ζ.2.2.2.1 3 ∧ ζ.2.2.2.2.1.length = ζ.1 ∧ SIn ζ.2.1 u8c ζ.2.2.2.2.2.1 ζ.2.2.2.2.2.2.1 ζ.2.2.2.2.2.2.2.2.1 ∧ ζ.2.2.2.2.2.2.1 ≤ ζ.2.2.2.2.2.2.2.1 ∧ q = (ζ.2.2.2.2.1 ++ (manyTo kidRB (x1 - ζ.1) ζ.2.2.2.2.2.2.2.2.1 ζ.2.2.2.2.2.2.2.2.2.1 ζ.2.2.2.2.2.2.2.2.2.2).1, (manyTo kidRB (x1 - ζ.1) ζ.2.2.2.2.2.2.2.2.1 ζ.2.2.2.2.2.2.2.2.2.1 ζ.2.2.2.2.2.2.2.2.2.2).2)) (fun (ζ : (Nat) × (Hp) × (Value) × (List Value) × (List Kid) × (Option Addr) × (Nat) × (Nat) × (List UInt8) × (Int) × (Bool)) => x1 - ζ.1) ((0, ρ', .slice none 0 0, [], [], a1, n1, c1, l1, st1, b1)) (⟨Nat.zero_le _, Hp.le_refl _, OwnS.nil 3, rfl, h1, hc1, by simp [hq]⟩) ev_le ev_le rfl tk ?_
  rintro ⟨i, ρ1, v, sp, acc, a2, n2, c2, l2, st2, bad2⟩ hI
  try simp only [List.cons_append, List.nil_append, List.append_assoc, List.append_eq] at hI ⊢
  try dsimp only at hI ⊢
  obtain ⟨hi, hle1, hown, hal, h2, hc2, hq2⟩ := hI
  obtain ⟨va, vc, rfl, _⟩ := hown.len
  have hg : ∀ x ∈ acc, (kidV x).length = 3 := fun x _ => kidV_len x
  by_cases hlt : i < x1
  · cases hok : (!bad2 && decide (st2 = 0))
    · rw [manyTo_stop hok] at hq2
      simp only [List.append_nil] at hq2
      subst hq2
      repeat' (first | (refine tl_is (.func 252) ?_; refine qC rfl rfl (ok_spec _ bt br all bad2 vk vr vs a2 n2 c2 st2) ?_; rintro v ρ' L' hle ⟨rfl, rfl, rfl⟩ <;> (try simp only [kM, kN, kO, hok])) | (refine i_op ?_; first | (refine i_qq ?_; refine qQ ?_) | refine qEf ?_) | refine tl_nil ?_ | (refine i_tc ?_; refine qTc ?_) | (refine i_te ?_; refine qTe ?_) | intro _)
      refine te_freeze (ownC (.slice va i vc) ((acc.map kidV).flatten) sp 164) (fun ρ3 hle3 hfz => ?_)
      obtain ⟨sa, sc, e1, hsc, hA⟩ := hown.aIn hal hg hfz
      cases e1
      exact qE ⟨Hp.le_trans hle1 hle3, _, _, _, a2, n2, c2, rfl, hsc, by omega, hA, h2.mono hle3, hc2, rfl⟩
    · rw [show x1 - i = (x1 - (i + 1)) + 1 by omega, manyTo, if_pos hok] at hq2
      have hrow := fun ρ h => tkidB_spec ρ bt br all bad2 vk vr vs a2 n2 c2 l2 h hc2 st2
      generalize kidRB l2 st2 bad2 = r at *
      obtain ⟨x, l3, st3, bad3⟩ := r
      dsimp only at hq2 hrow
      repeat' (first | (refine tl_is (.func 252) ?_; refine qC rfl rfl (ok_spec _ bt br all bad2 vk vr vs a2 n2 c2 st2) ?_; rintro v ρ' L' hle ⟨rfl, rfl, rfl⟩ <;> (try simp only [kM, kN, kO, hok])) | (refine tl_is (.tmp 31) ?_; refine qC rfl rfl (hrow _ h2) ?_; rintro v ρ' L' hle ⟨rfl, hle3, a3, n3, c3, h3, hc3, rfl⟩ <;> (try simp only [kM, kN, kO])) | (refine i_op ?_; first | (refine i_qq ?_; refine qQ ?_) | refine qEf ?_) | refine tl_nil ?_ | (refine i_tc ?_; refine qTc ?_) | (refine i_te ?_; refine qTe ?_) | intro _)
      refine tl_buildSliceA (css := [kidV x]) (sz := 3) rfl rfl rfl rfl (by simp) (by simp) rfl (fun bs => ?_)
      simp only [List.flatten_cons, List.flatten_nil, List.append_nil]
      refine tl_app (ys := kidV x) (m := 1) rfl rfl hown (hR := by infer_instance) (SrcV.lit) rfl rfl (by decide) rfl (by omega) (by omega) rfl (fun v' sp' hown' => ?_)
      have hm : (acc.map kidV).flatten ++ kidV x = ((acc ++ [x]).map kidV).flatten := by simp
      rw [hm] at hown' ⊢
      repeat' (first | (refine i_op ?_; first | (refine i_qq ?_; refine qQ ?_) | refine qEf ?_) | refine tl_nil ?_ | (refine i_tc ?_; refine qTc ?_) | (refine i_te ?_; refine qTe ?_) | intro _)
      refine te_round_g (i + 1, _, v', sp', acc ++ [x], a3, n3, c3, l3, st3, bad3) (⟨hlt, Hp.le_trans hle1 hle3, hown', by simp [hal], h3, hc3, by rw [hq2]; simp⟩) ev_le ev_le rfl tk inferInstance (by first | omega | (dsimp only; omega))
  · have hi2 : i = x1 := by omega
    subst hi2
    rw [Nat.sub_self, manyTo] at hq2
    simp only [List.append_nil] at hq2
    subst hq2
    repeat' (first | (refine i_op ?_; first | (refine i_qq ?_; refine qQ ?_) | refine qEf ?_) | refine tl_nil ?_ | (refine i_tc ?_; refine qTc ?_) | (refine i_te ?_; refine qTe ?_) | intro _)
    refine te_freeze (ownC (.slice va i vc) ((acc.map kidV).flatten) sp 164) (fun ρ3 hle3 hfz => ?_)
    obtain ⟨sa, sc, e1, hsc, hA⟩ := hown.aIn hal hg hfz
    cases e1
    exact qE ⟨Hp.le_trans hle1 hle3, _, _, _, a2, n2, c2, rfl, hsc, by omega, hA, h2.mono hle3, hc2, rfl⟩
theorem tleaf_spec (ρ : Hp) (bt br : Nat) (all : Int) (bad : Bool) (vk vr vs : Value) (h1 : vk.oneCell' = true) (h2 : vr.oneCell' = true) (h3 : vs.oneCell' = true) (a : Option Addr) (n c : Nat) (l : List UInt8) (h : SIn ρ u8c a n l) (hc : n ≤ c) (st : Int) :
    Spec Tryz.prog 250 [.pointer (some ⟨bt, 0, none⟩)] ρ [tkC bt br all bad vk vr vs, rdC br a n c st]
      (fun v ρ' L' => v = .tuple ⟨[]⟩ ∧ ρ.le ρ' ∧ ∃ sa sn sc a' n' c', sn ≤ sc ∧ sn ≤ 255 ∧ AIn ρ' 4 rowV sa sn (manyR rowR l st bad).1 ∧ SIn ρ' u8c a' n' (manyR rowR l st bad).2.1 ∧ n' ≤ c' ∧ L' = [tkC bt br all (manyR rowR l st bad).2.2.2 vk (.slice sa sn sc) vs, rdC br a' n' c' (manyR rowR l st bad).2.2.1]) := by
  have hm := manyRow_spec ρ bt br all bad vk vr vs a n c l h hc st
  refine spec_enter Tryz.func250 rfl rfl rfl fun u R => ?_
  simp only [argsE, List.cons_append, List.nil_append]
  repeat' (first | (refine tl_is (.func 267) ?_; refine qC rfl rfl (hm) ?_; rintro v ρ' L' hle ⟨hle1, sa, sn, sc, a', n', c', rfl, q1, q2, q3, q4, q5, rfl⟩ <;> (try simp only [kM, kN, kO])) | (refine i_op ?_; first | (refine i_qq ?_; refine qQ ?_) | refine qEf ?_) | refine tl_nil ?_ | (refine i_tc ?_; refine qTc ?_) | (refine i_te ?_; refine qTe ?_) | intro _)
  exact qE ⟨rfl, hle1, sa, sn, sc, a', n', c', q1, q2, q3, q4, q5, rfl⟩
theorem tinner_spec (ρ : Hp) (bt br : Nat) (all : Int) (bad : Bool) (vk vr vs : Value) (h1 : vk.oneCell' = true) (h2 : vr.oneCell' = true) (h3 : vs.oneCell' = true) (a : Option Addr) (n c : Nat) (l : List UInt8) (h : SIn ρ u8c a n l) (hc : n ≤ c) (st : Int) :
    Spec Tryz.prog 251 [.pointer (some ⟨bt, 0, none⟩)] ρ [tkC bt br all bad vk vr vs, rdC br a n c st]
      (fun v ρ' L' => v = .tuple ⟨[]⟩ ∧ ρ.le ρ' ∧ ∃ sa sn sc a' n' c', sn ≤ sc ∧ sn ≤ 255 ∧ AIn ρ' 3 kidV sa sn (manyR kidRB l st bad).1 ∧ SIn ρ' u8c a' n' (manyR kidRB l st bad).2.1 ∧ n' ≤ c' ∧ L' = [tkC bt br all (manyR kidRB l st bad).2.2.2 vk vr (.slice sa sn sc), rdC br a' n' c' (manyR kidRB l st bad).2.2.1]) := by
  have hm := manyKid_spec ρ bt br all bad vk vr vs a n c l h hc st
  refine spec_enter Tryz.func251 rfl rfl rfl fun u R => ?_
  simp only [argsE, List.cons_append, List.nil_append]
  repeat' (first | (refine tl_is (.func 268) ?_; refine qC rfl rfl (hm) ?_; rintro v ρ' L' hle ⟨hle1, sa, sn, sc, a', n', c', rfl, q1, q2, q3, q4, q5, rfl⟩ <;> (try simp only [kM, kN, kO])) | (refine i_op ?_; first | (refine i_qq ?_; refine qQ ?_) | refine qEf ?_) | refine tl_nil ?_ | (refine i_tc ?_; refine qTc ?_) | (refine i_te ?_; refine qTe ?_) | intro _)
  exact qE ⟨rfl, hle1, sa, sn, sc, a', n', c', q1, q2, q3, q4, q5, rfl⟩
end Go.Proofs.E

namespace Go.Proofs.E
open Go
set_option linter.unusedVariables false
set_option linter.unusedSimpArgs false
set_option linter.unusedSectionVars false
set_option maxRecDepth 4000
set_option maxHeartbeats 1000000
attribute [local irreducible] Yl TL TC TE Spec YSpec R1 Hp.le EnvLe TS TR YS Stays
theorem from_spec (ρ : Hp) (a : Option Addr) (n c : Nat) (l : List UInt8) (h : SIn ρ u8c a n l) (hn : n ≤ 1000000) :
    Spec Tryz.prog 217 [.slice a n c] ρ [] (fun v ρ' L' => ρ.le ρ' ∧ ∃ bt br a' c', v = .pointer (some ⟨bt, 0, none⟩) ∧ n ≤ c' ∧ SIn ρ' u8c a' n l ∧ L' = [tkC bt br n false (.int .i64 0) (.slice none 0 0) (.slice none 0 0), rdC br a' n c' 0]) := by
  have hr := read_spec ρ a n c l h hn
  refine spec_enter Tryz.func217 rfl rfl rfl fun u R => ?_
  simp only [argsE, List.cons_append, List.nil_append]
  repeat' (first | (refine tl_is (.func 78) ?_; refine qC rfl rfl (hr) ?_; rintro v ρ' L' hle ⟨hle, br, a', c', rfl, hc', hs, rfl⟩ <;> (try simp only [kM, kN, kO])) | (refine i_op ?_; first | (refine i_qq ?_; refine qQ ?_) | refine qEf ?_) | refine tl_nil ?_ | (refine i_tc ?_; refine qTc ?_) | (refine i_te ?_; refine qTe ?_) | intro _)
  exact qE ⟨hle, _, br, a', c', rfl, hc', hs, rfl⟩
def takenN (all : Int) (left : Nat) (bad : Bool) (st : Int) : Int := if bad then 0 else if st ≠ 0 then 0 else all - left
def takenE (bad : Bool) (st : Int) : Int := if bad then 161 else st
theorem takenRow_spec (ρ : Hp) (bt br : Nat) (all : Nat) (hall : all ≤ 1000000) (bad : Bool) (vk vr vs : Value) (a : Option Addr) (n c : Nat) (st : Int) (r : Row) (hn : n ≤ all) :
    Spec Tryz.prog 220 [.pointer (some ⟨bt, 0, none⟩), .agg ⟨rowV r⟩] ρ [tkC bt br all bad vk vr vs, rdC br a n c st]
      (fun v ρ' L' => v = .tuple ⟨[.agg ⟨rowV (if bad || decide (st ≠ 0) then ⟨0, 0, 0, []⟩ else r)⟩, .int .i64 (takenN all n bad st), .int .i64 (takenE bad st)]⟩ ∧ ρ' = ρ ∧ L' = []) := by
  refine spec_enter Tryz.func220 rfl rfl rfl fun u R => ?_
  simp only [argsE, List.cons_append, List.nil_append, takenN, takenE]
  cases bad
  · by_cases h : st = 0
    · subst h
      simp only [Bool.false_or, ne_eq, not_true_eq_false, decide_false, Bool.false_eq_true, if_false]
      repeat' (first | (refine tl_is (.func 165) ?_; refine qC rfl rfl (err_spec _ br a n c 0) ?_; rintro v ρ' L' hle ⟨rfl, rfl, rfl⟩ <;> (try simp only [kM, kN, kO])) | (refine i_op ?_; first | (refine i_qq ?_; refine qQ ?_) | refine qEf ?_) | refine tl_nil ?_ | (refine i_tc ?_; refine qTc ?_) | (refine i_te ?_; refine qTe ?_) | intro _)
      rename_i b3 b4 b7
      refine tc_any (Stays _ _ ([tkC bt br all false vk vr vs, [(b3, .cells ⟨rowV r⟩ 60 (0, 0))]])) (stays_of (hT := tk) (Hp.le_refl _)) ?_
      all_goals refine rLd 0 ?_
      all_goals refine rMv 1 ?_
      all_goals refine rNc 2 ?_
      all_goals refine rFa 3 ?_
      all_goals refine rLd 4 ?_
      all_goals refine rMv 5 ?_
      all_goals refine rNc 6 ?_
      all_goals refine rFa 7 ?_
      all_goals refine rLd 8 ?_
      all_goals (refine rStep (i := 9) ?_; ((try refine qWant ?_); (first | (refine tl_is (.func 88) ?_; refine qC rfl rfl (left_spec _ br a n c 0) ?_; rintro v ρ' L' hle ⟨rfl, rfl, rfl⟩ <;> (try simp only [kM, kN, kO])) | (refine qEf ?_; try intro _)) <;> ((try simp only [kM, kN, kO]); refine tl_nil ?_; refine rNext ?_)))
      all_goals refine rSb 10 ?_
      all_goals (refine rStep (i := 11) ?_; ((try refine qWant ?_); (first | (refine qEf ?_; try intro _)) <;> ((try simp only [kM, kN, kO]); refine tl_nil ?_; refine rNext ?_)))
      all_goals refine rFull ?_
      all_goals refine rAs 12 ?_
      all_goals refine rAs 13 ?_
      all_goals refine rDone ?_
      repeat' (first | (refine i_op ?_; first | (refine i_qq ?_; refine qQ ?_) | refine qEf ?_) | refine tl_nil ?_ | (refine i_tc ?_; refine qTc ?_) | (refine i_te ?_; refine qTe ?_) | intro _)
      exact qE ⟨rfl, rfl, rfl⟩
    · simp only [Bool.false_or, ne_eq, h, not_false_eq_true, decide_true, if_true, Bool.false_eq_true, if_false]
      repeat' (first | (refine tl_is (.func 165) ?_; refine qC rfl rfl (err_spec _ br a n c st) ?_; rintro v ρ' L' hle ⟨rfl, rfl, rfl⟩ <;> (try simp only [kM, kN, kO])) | (refine i_op ?_; first | (refine i_qq ?_; refine qQ ?_) | refine qEf ?_) | refine tl_nil ?_ | (refine i_tc ?_; refine qTc ?_) | (refine i_te ?_; refine qTe ?_) | intro _)
      rename_i b3 b4 b7
      refine tc_any (Stays _ _ ([tkC bt br all false vk vr vs, [(b7, .cells ⟨rowV ⟨0, 0, 0, []⟩⟩ 60 (0, 0))]])) (stays_of (hT := tk) (Hp.le_refl _)) ?_
      all_goals refine rLd 0 ?_
      all_goals refine rMv 1 ?_
      all_goals refine rNc 2 ?_
      all_goals refine rFa 3 ?_
      all_goals refine rLd 4 ?_
      all_goals (refine rStep (i := 5) ?_; ((try refine qWant ?_); (first | (refine tl_is (.func 165) ?_; refine qC rfl rfl (err_spec _ br a n c st) ?_; rintro v ρ' L' hle ⟨rfl, rfl, rfl⟩ <;> (try simp only [kM, kN, kO])) | (refine qEf ?_; try intro _)) <;> ((try simp only [kM, kN, kO]); refine tl_nil ?_; refine rNext ?_)))
      all_goals (refine rStep (i := 6) ?_; ((try refine qWant ?_); (first | (refine qEf ?_; try intro _)) <;> ((try simp only [kM, kN, kO]); refine tl_nil ?_; refine rNext ?_)))
      all_goals refine rFull ?_
      all_goals refine rAs 7 ?_
      all_goals refine rAs 8 ?_
      all_goals refine rDone ?_
      repeat' (first | (refine i_op ?_; first | (refine i_qq ?_; refine qQ ?_) | refine qEf ?_) | refine tl_nil ?_ | (refine i_tc ?_; refine qTc ?_) | (refine i_te ?_; refine qTe ?_) | intro _)
      exact qE ⟨rfl, rfl, rfl⟩
  · simp only [Bool.true_or, if_true]
    repeat' (first | (refine i_op ?_; first | (refine i_qq ?_; refine qQ ?_) | refine qEf ?_) | refine tl_nil ?_ | (refine i_tc ?_; refine qTc ?_) | (refine i_te ?_; refine qTe ?_) | intro _)
    exact qE ⟨rfl, rfl, rfl⟩
theorem takenCont_spec (ρ : Hp) (bt br : Nat) (all : Nat) (hall : all ≤ 1000000) (bad : Bool) (vk vr vs : Value) (a : Option Addr) (n c : Nat) (st : Int) (k : Int) (w : CV) (hn : n ≤ all) :
    Spec Tryz.prog 218 [.pointer (some ⟨bt, 0, none⟩), .agg ⟨contV k w⟩] ρ [tkC bt br all bad vk vr vs, rdC br a n c st]
      (fun v ρ' L' => v = .tuple ⟨[.agg ⟨if bad || decide (st ≠ 0) then contV 0 ⟨none, 0, 0, none, 0, 0⟩ else contV k w⟩, .int .i64 (takenN all n bad st), .int .i64 (takenE bad st)]⟩ ∧ ρ' = ρ ∧ L' = []) := by
  refine spec_enter Tryz.func218 rfl rfl rfl fun u R => ?_
  simp only [argsE, List.cons_append, List.nil_append, takenN, takenE]
  cases bad
  · by_cases h : st = 0
    · subst h
      simp only [Bool.false_or, ne_eq, not_true_eq_false, decide_false, Bool.false_eq_true, if_false]
      repeat' (first | (refine tl_is (.func 165) ?_; refine qC rfl rfl (err_spec _ br a n c 0) ?_; rintro v ρ' L' hle ⟨rfl, rfl, rfl⟩ <;> (try simp only [kM, kN, kO])) | (refine i_op ?_; first | (refine i_qq ?_; refine qQ ?_) | refine qEf ?_) | refine tl_nil ?_ | (refine i_tc ?_; refine qTc ?_) | (refine i_te ?_; refine qTe ?_) | intro _)
      rename_i b3 b4 b7
      refine tc_any (Stays _ _ ([tkC bt br all false vk vr vs, [(b3, .cells ⟨contV k w⟩ 66 (0, 0))]])) (stays_of (hT := tk) (Hp.le_refl _)) ?_
      all_goals refine rLd 0 ?_
      all_goals refine rMv 1 ?_
      all_goals refine rNc 2 ?_
      all_goals refine rFa 3 ?_
      all_goals refine rLd 4 ?_
      all_goals refine rMv 5 ?_
      all_goals refine rNc 6 ?_
      all_goals refine rFa 7 ?_
      all_goals refine rLd 8 ?_
      all_goals (refine rStep (i := 9) ?_; ((try refine qWant ?_); (first | (refine tl_is (.func 88) ?_; refine qC rfl rfl (left_spec _ br a n c 0) ?_; rintro v ρ' L' hle ⟨rfl, rfl, rfl⟩ <;> (try simp only [kM, kN, kO])) | (refine qEf ?_; try intro _)) <;> ((try simp only [kM, kN, kO]); refine tl_nil ?_; refine rNext ?_)))
      all_goals refine rSb 10 ?_
      all_goals (refine rStep (i := 11) ?_; ((try refine qWant ?_); (first | (refine qEf ?_; try intro _)) <;> ((try simp only [kM, kN, kO]); refine tl_nil ?_; refine rNext ?_)))
      all_goals refine rFull ?_
      all_goals refine rAs 12 ?_
      all_goals refine rAs 13 ?_
      all_goals refine rDone ?_
      repeat' (first | (refine i_op ?_; first | (refine i_qq ?_; refine qQ ?_) | refine qEf ?_) | refine tl_nil ?_ | (refine i_tc ?_; refine qTc ?_) | (refine i_te ?_; refine qTe ?_) | intro _)
      exact qE ⟨rfl, rfl, rfl⟩
    · simp only [Bool.false_or, ne_eq, h, not_false_eq_true, decide_true, if_true, Bool.false_eq_true, if_false]
      repeat' (first | (refine tl_is (.func 165) ?_; refine qC rfl rfl (err_spec _ br a n c st) ?_; rintro v ρ' L' hle ⟨rfl, rfl, rfl⟩ <;> (try simp only [kM, kN, kO])) | (refine i_op ?_; first | (refine i_qq ?_; refine qQ ?_) | refine qEf ?_) | refine tl_nil ?_ | (refine i_tc ?_; refine qTc ?_) | (refine i_te ?_; refine qTe ?_) | intro _)
      rename_i b3 b4 b7
      refine tc_any (Stays _ _ ([tkC bt br all false vk vr vs, [(b7, .cells ⟨contV 0 ⟨none, 0, 0, none, 0, 0⟩⟩ 66 (0, 0))]])) (stays_of (hT := tk) (Hp.le_refl _)) ?_
      all_goals refine rLd 0 ?_
      all_goals refine rMv 1 ?_
      all_goals refine rNc 2 ?_
      all_goals refine rFa 3 ?_
      all_goals refine rLd 4 ?_
      all_goals (refine rStep (i := 5) ?_; ((try refine qWant ?_); (first | (refine tl_is (.func 165) ?_; refine qC rfl rfl (err_spec _ br a n c st) ?_; rintro v ρ' L' hle ⟨rfl, rfl, rfl⟩ <;> (try simp only [kM, kN, kO])) | (refine qEf ?_; try intro _)) <;> ((try simp only [kM, kN, kO]); refine tl_nil ?_; refine rNext ?_)))
      all_goals (refine rStep (i := 6) ?_; ((try refine qWant ?_); (first | (refine qEf ?_; try intro _)) <;> ((try simp only [kM, kN, kO]); refine tl_nil ?_; refine rNext ?_)))
      all_goals refine rFull ?_
      all_goals refine rAs 7 ?_
      all_goals refine rAs 8 ?_
      all_goals refine rDone ?_
      repeat' (first | (refine i_op ?_; first | (refine i_qq ?_; refine qQ ?_) | refine qEf ?_) | refine tl_nil ?_ | (refine i_tc ?_; refine qTc ?_) | (refine i_te ?_; refine qTe ?_) | intro _)
      exact qE ⟨rfl, rfl, rfl⟩
  · simp only [Bool.true_or, if_true]
    repeat' (first | (refine i_op ?_; first | (refine i_qq ?_; refine qQ ?_) | refine qEf ?_) | refine tl_nil ?_ | (refine i_tc ?_; refine qTc ?_) | (refine i_te ?_; refine qTe ?_) | intro _)
    exact qE ⟨rfl, rfl, rfl⟩
end Go.Proofs.E

namespace Go.Proofs.E
open Go
set_option linter.unusedVariables false
set_option linter.unusedSimpArgs false
set_option linter.unusedSectionVars false
set_option maxRecDepth 4000
set_option maxHeartbeats 1000000
attribute [local irreducible] Yl TL TC TE Spec YSpec R1 Hp.le EnvLe TS TR YS Stays
def contM (x1 : Nat) (l1 : List UInt8) (st1 : Int) (b1 : Bool) : (List Row × List Kid) × RS3 :=
  if !b1 && decide (st1 = 0) then
    if x1 = 1 then (((manyR rowR l1 st1 b1).1, []), (manyR rowR l1 st1 b1).2)
    else if x1 = 2 then (([], (manyR kidRB l1 st1 b1).1), (manyR kidRB l1 st1 b1).2)
    else (([], []), l1, st1, b1)
  else (([], []), l1, st1, b1)
def contE (x1 : Nat) (m : (List Row × List Kid) × RS3) : Cont × RS3 := (⟨x1, m.1.1, m.1.2⟩, m.2.1, m.2.2.1, needB m.2.2.2 m.2.2.1 (contOk ⟨x1, m.1.1, m.1.2⟩))
def contentR (l : List UInt8) : Cont × RS3 :=
  contE (numR 1 l 0).1 (contM (numR 1 l 0).1 (numR 1 l 0).2.1 (numR 1 l 0).2.2 (needB false (numR 1 l 0).2.2 (decide (((numR 1 l 0).1 : Int) ≤ 2))))
theorem CIn.nil {ρ : Hp} : CIn ρ ⟨none, 0, 0, none, 0, 0⟩ [] [] := ⟨AIn.nil, AIn.nil, by decide, by decide, by decide, by decide⟩
theorem content_spec (ρ : Hp) (bt br : Nat) (all : Int) (a : Option Addr) (n c : Nat) (l : List UInt8) (h : SIn ρ u8c a n l) (hc : n ≤ c) :
    Spec Tryz.prog 219 [.pointer (some ⟨bt, 0, none⟩)] ρ [tkC bt br all false (.int .i64 0) (.slice none 0 0) (.slice none 0 0), rdC br a n c 0]
      (fun v ρ' L' => ρ.le ρ' ∧ ∃ w a' n' c', v = .agg ⟨contV (contentR l).1.kind w⟩ ∧ CIn ρ' w (contentR l).1.rows (contentR l).1.kids ∧ SIn ρ' u8c a' n' (contentR l).2.1 ∧ n' ≤ c' ∧
        L' = [tkC bt br all (contentR l).2.2.2 (.int .i64 (contentR l).1.kind) (.slice w.ra w.rn w.rc) (.slice w.ka w.kn w.kc), rdC br a' n' c' (contentR l).2.2.1]) := by
  have hn1 := u8_spec ρ br a n c l h hc 0
  have hb1 := numR_lt 1 l 0
  generalize hq : contentR l = q
  unfold contentR at hq
  generalize numR 1 l 0 = r1 at *
  obtain ⟨x1, l1, st1⟩ := r1
  dsimp only at hq hn1 hb1
  generalize hB1 : needB false st1 (decide ((x1 : Int) ≤ 2)) = b1 at *
  have hnil : IntKeys .i64 [] := by intro e he; simp at he
  have hg0 : ∀ k : Int, mget [] k = none := fun _ => rfl
  refine spec_enter Tryz.func219 rfl rfl rfl fun u R => ?_
  simp only [argsE, List.cons_append, List.nil_append]
  rcases (show (x1 : Int) = 1 ∨ (x1 : Int) = 2 ∨ (x1 : Int) = 0 ∨ (2 : Int) < (x1 : Int) by omega) with hx | hx | hx | hx
  · rw [decide_eq_true (show (x1 : Int) ≤ 2 by omega)] at hB1
    repeat' (first | (refine tl_is (.func 79) ?_; refine qC rfl rfl (hn1) ?_; rintro v ρ' L' hle ⟨rfl, rfl, a1, n1, c1, h1, hc1, rfl⟩ <;> (try simp only [kM, kN, kO])) | (refine tl_is (.func 249) ?_; refine qC rfl rfl (need_spec _ bt br all false _ _ _ a1 n1 c1 st1 _) ?_; rintro v ρ' L' hle ⟨rfl, rfl, rfl⟩ <;> (try simp only [kM, kN, kO, hB1])) | (refine tl_insert rfl rfl rfl hnil (fun es1 ck1 i1 i2 => ?_)) | (refine tl_insert rfl rfl rfl i1 (fun es2 ck2 j1 j2 => ?_); have hg := j2 (x1 : Int); rw [i2, if_neg (by omega), if_pos hx] at hg) | (refine i_op ?_; first | (refine i_qq ?_; refine qQ ?_) | refine qEf ?_) | refine tl_nil ?_ | (refine i_tc ?_; refine qTc ?_) | (refine i_te ?_; refine qTe ?_) | intro _)
    cases hok : (!b1 && decide (st1 = 0))
    · have hm : contM x1 l1 st1 b1 = (([], []), l1, st1, b1) := by rw [contM, hok]; rfl
      rw [hm] at hq
      have hck := fun ρ => check_spec ρ ⟨none, 0, 0, none, 0, 0⟩ ⟨x1, [], []⟩ CIn.nil
      simp only [contE] at hq
      generalize hB2 : needB b1 st1 (contOk ⟨x1, [], []⟩) = b2 at *
      subst hq
      repeat' (first | (refine tl_is (.func 252) ?_; refine qC rfl rfl (ok_spec _ bt br all b1 _ _ _ a1 n1 c1 st1) ?_; rintro v ρ' L' hle ⟨rfl, rfl, rfl⟩ <;> (try simp only [kM, kN, kO, hok])) | (refine i_op ?_; first | (refine i_qq ?_; refine qQ ?_) | refine qEf ?_) | refine tl_nil ?_ | (refine i_tc ?_; refine qTc ?_) | (refine i_te ?_; refine qTe ?_) | intro _)
      cases hco : contOk ⟨x1, [], []⟩
      all_goals rw [hco] at hck hB2
      all_goals (repeat' (first | (refine tl_is (.func 236) ?_; refine qC rfl rfl (hck _) ?_; rintro v ρ' L' hle ⟨rfl, rfl, rfl⟩ <;> (try simp only [kM, kN, kO, if_true, if_false, Bool.false_eq_true])) | (refine tl_is (.func 249) ?_; refine qC rfl rfl (need_spec _ bt br all b1 _ _ _ a1 n1 c1 st1 _) ?_; rintro v ρ' L' hle ⟨rfl, rfl, rfl⟩ <;> (try simp only [kM, kN, kO, hB2])) | (refine i_op ?_; first | (refine i_qq ?_; refine qQ ?_) | refine qEf ?_) | refine tl_nil ?_ | (refine i_tc ?_; refine qTc ?_) | (refine i_te ?_; refine qTe ?_) | intro _))
      all_goals exact qE ⟨Hp.le_refl _, ⟨none, 0, 0, none, 0, 0⟩, a1, n1, c1, rfl, CIn.nil, h1, hc1, rfl⟩
    · have hlf := fun ρ (h : SIn ρ u8c a1 n1 l1) => tleaf_spec ρ bt br all b1 (.int .i64 x1) (.slice none 0 0) (.slice none 0 0) rfl rfl rfl a1 n1 c1 l1 h hc1 st1
      have hm : contM x1 l1 st1 b1 = (((manyR rowR l1 st1 b1).1, []), (manyR rowR l1 st1 b1).2) := by rw [contM, if_pos hok, if_pos (by omega)]
      rw [hm] at hq
      generalize manyR rowR l1 st1 b1 = m at *
      obtain ⟨xs, l2, st2, b2⟩ := m
      dsimp only at hq hlf
      have hck := fun ρ w h => check_spec ρ w ⟨x1, xs, []⟩ h
      simp only [contE] at hq
      generalize hB2 : needB b2 st2 (contOk ⟨x1, xs, []⟩) = b3 at *
      subst hq
      repeat' (first | (refine tl_is (.func 252) ?_; refine qC rfl rfl (ok_spec _ bt br all b1 _ _ _ a1 n1 c1 st1) ?_; rintro v ρ' L' hle ⟨rfl, rfl, rfl⟩ <;> (try simp only [kM, kN, kO, hok])) | (refine tl_is (.tmp 40) ?_; refine qC rfl rfl (hlf _ h1) ?_; rintro v ρ' L' hle ⟨rfl, hle2, sa, sn, sc, a2, n2, c2, hsc, hs255, hA, h2, hc2, rfl⟩ <;> (try simp only [kM, kN, kO])) | (refine i_op ?_; first | (refine i_qq ?_; refine qQ ?_) | refine qEf ?_) | refine tl_nil ?_ | (refine i_tc ?_; refine qTc ?_) | (refine i_te ?_; refine qTe ?_) | intro _)
      have hC : CIn ρ' ⟨sa, sn, sc, none, 0, 0⟩ xs [] := ⟨hA, AIn.nil, by dsimp only; omega, Nat.zero_le _, hsc, Nat.le_refl _⟩
      cases hco : contOk ⟨x1, xs, []⟩
      all_goals rw [hco] at hck hB2
      all_goals (repeat' (first | (refine tl_is (.func 236) ?_; refine qC rfl rfl (hck _ _ hC) ?_; rintro v ρ' L' hle ⟨rfl, rfl, rfl⟩ <;> (try simp only [kM, kN, kO, if_true, if_false, Bool.false_eq_true])) | (refine tl_is (.func 249) ?_; refine qC rfl rfl (need_spec _ bt br all b2 _ _ _ a2 n2 c2 st2 _) ?_; rintro v ρ' L' hle ⟨rfl, rfl, rfl⟩ <;> (try simp only [kM, kN, kO, hB2])) | (refine i_op ?_; first | (refine i_qq ?_; refine qQ ?_) | refine qEf ?_) | refine tl_nil ?_ | (refine i_tc ?_; refine qTc ?_) | (refine i_te ?_; refine qTe ?_) | intro _))
      all_goals exact qE ⟨hle2, ⟨sa, sn, sc, none, 0, 0⟩, a2, n2, c2, rfl, hC, h2, hc2, rfl⟩
  · rw [decide_eq_true (show (x1 : Int) ≤ 2 by omega)] at hB1
    repeat' (first | (refine tl_is (.func 79) ?_; refine qC rfl rfl (hn1) ?_; rintro v ρ' L' hle ⟨rfl, rfl, a1, n1, c1, h1, hc1, rfl⟩ <;> (try simp only [kM, kN, kO])) | (refine tl_is (.func 249) ?_; refine qC rfl rfl (need_spec _ bt br all false _ _ _ a1 n1 c1 st1 _) ?_; rintro v ρ' L' hle ⟨rfl, rfl, rfl⟩ <;> (try simp only [kM, kN, kO, hB1])) | (refine tl_insert rfl rfl rfl hnil (fun es1 ck1 i1 i2 => ?_)) | (refine tl_insert rfl rfl rfl i1 (fun es2 ck2 j1 j2 => ?_); have hg := j2 (x1 : Int); rw [if_pos hx] at hg) | (refine i_op ?_; first | (refine i_qq ?_; refine qQ ?_) | refine qEf ?_) | refine tl_nil ?_ | (refine i_tc ?_; refine qTc ?_) | (refine i_te ?_; refine qTe ?_) | intro _)
    cases hok : (!b1 && decide (st1 = 0))
    · have hm : contM x1 l1 st1 b1 = (([], []), l1, st1, b1) := by rw [contM, hok]; rfl
      rw [hm] at hq
      have hck := fun ρ => check_spec ρ ⟨none, 0, 0, none, 0, 0⟩ ⟨x1, [], []⟩ CIn.nil
      simp only [contE] at hq
      generalize hB2 : needB b1 st1 (contOk ⟨x1, [], []⟩) = b2 at *
      subst hq
      repeat' (first | (refine tl_is (.func 252) ?_; refine qC rfl rfl (ok_spec _ bt br all b1 _ _ _ a1 n1 c1 st1) ?_; rintro v ρ' L' hle ⟨rfl, rfl, rfl⟩ <;> (try simp only [kM, kN, kO, hok])) | (refine i_op ?_; first | (refine i_qq ?_; refine qQ ?_) | refine qEf ?_) | refine tl_nil ?_ | (refine i_tc ?_; refine qTc ?_) | (refine i_te ?_; refine qTe ?_) | intro _)
      cases hco : contOk ⟨x1, [], []⟩
      all_goals rw [hco] at hck hB2
      all_goals (repeat' (first | (refine tl_is (.func 236) ?_; refine qC rfl rfl (hck _) ?_; rintro v ρ' L' hle ⟨rfl, rfl, rfl⟩ <;> (try simp only [kM, kN, kO, if_true, if_false, Bool.false_eq_true])) | (refine tl_is (.func 249) ?_; refine qC rfl rfl (need_spec _ bt br all b1 _ _ _ a1 n1 c1 st1 _) ?_; rintro v ρ' L' hle ⟨rfl, rfl, rfl⟩ <;> (try simp only [kM, kN, kO, hB2])) | (refine i_op ?_; first | (refine i_qq ?_; refine qQ ?_) | refine qEf ?_) | refine tl_nil ?_ | (refine i_tc ?_; refine qTc ?_) | (refine i_te ?_; refine qTe ?_) | intro _))
      all_goals exact qE ⟨Hp.le_refl _, ⟨none, 0, 0, none, 0, 0⟩, a1, n1, c1, rfl, CIn.nil, h1, hc1, rfl⟩
    · have hlf := fun ρ (h : SIn ρ u8c a1 n1 l1) => tinner_spec ρ bt br all b1 (.int .i64 x1) (.slice none 0 0) (.slice none 0 0) rfl rfl rfl a1 n1 c1 l1 h hc1 st1
      have hm : contM x1 l1 st1 b1 = (([], (manyR kidRB l1 st1 b1).1), (manyR kidRB l1 st1 b1).2) := by rw [contM, if_pos hok, if_neg (by omega), if_pos (by omega)]
      rw [hm] at hq
      generalize manyR kidRB l1 st1 b1 = m at *
      obtain ⟨xs, l2, st2, b2⟩ := m
      dsimp only at hq hlf
      have hck := fun ρ w h => check_spec ρ w ⟨x1, [], xs⟩ h
      simp only [contE] at hq
      generalize hB2 : needB b2 st2 (contOk ⟨x1, [], xs⟩) = b3 at *
      subst hq
      repeat' (first | (refine tl_is (.func 252) ?_; refine qC rfl rfl (ok_spec _ bt br all b1 _ _ _ a1 n1 c1 st1) ?_; rintro v ρ' L' hle ⟨rfl, rfl, rfl⟩ <;> (try simp only [kM, kN, kO, hok])) | (refine tl_is (.tmp 40) ?_; refine qC rfl rfl (hlf _ h1) ?_; rintro v ρ' L' hle ⟨rfl, hle2, sa, sn, sc, a2, n2, c2, hsc, hs255, hA, h2, hc2, rfl⟩ <;> (try simp only [kM, kN, kO])) | (refine i_op ?_; first | (refine i_qq ?_; refine qQ ?_) | refine qEf ?_) | refine tl_nil ?_ | (refine i_tc ?_; refine qTc ?_) | (refine i_te ?_; refine qTe ?_) | intro _)
      have hC : CIn ρ' ⟨none, 0, 0, sa, sn, sc⟩ [] xs := ⟨AIn.nil, hA, Nat.zero_le _, by dsimp only; omega, Nat.le_refl _, hsc⟩
      cases hco : contOk ⟨x1, [], xs⟩
      all_goals rw [hco] at hck hB2
      all_goals (repeat' (first | (refine tl_is (.func 236) ?_; refine qC rfl rfl (hck _ _ hC) ?_; rintro v ρ' L' hle ⟨rfl, rfl, rfl⟩ <;> (try simp only [kM, kN, kO, if_true, if_false, Bool.false_eq_true])) | (refine tl_is (.func 249) ?_; refine qC rfl rfl (need_spec _ bt br all b2 _ _ _ a2 n2 c2 st2 _) ?_; rintro v ρ' L' hle ⟨rfl, rfl, rfl⟩ <;> (try simp only [kM, kN, kO, hB2])) | (refine i_op ?_; first | (refine i_qq ?_; refine qQ ?_) | refine qEf ?_) | refine tl_nil ?_ | (refine i_tc ?_; refine qTc ?_) | (refine i_te ?_; refine qTe ?_) | intro _))
      all_goals exact qE ⟨hle2, ⟨none, 0, 0, sa, sn, sc⟩, a2, n2, c2, rfl, hC, h2, hc2, rfl⟩
  · rw [decide_eq_true (show (x1 : Int) ≤ 2 by omega)] at hB1
    repeat' (first | (refine tl_is (.func 79) ?_; refine qC rfl rfl (hn1) ?_; rintro v ρ' L' hle ⟨rfl, rfl, a1, n1, c1, h1, hc1, rfl⟩ <;> (try simp only [kM, kN, kO])) | (refine tl_is (.func 249) ?_; refine qC rfl rfl (need_spec _ bt br all false _ _ _ a1 n1 c1 st1 _) ?_; rintro v ρ' L' hle ⟨rfl, rfl, rfl⟩ <;> (try simp only [kM, kN, kO, hB1])) | (refine tl_insert rfl rfl rfl hnil (fun es1 ck1 i1 i2 => ?_)) | (refine tl_insert rfl rfl rfl i1 (fun es2 ck2 j1 j2 => ?_); have hg := j2 (x1 : Int); rw [i2, if_neg (by omega), if_neg (by omega), hg0] at hg) | (refine i_op ?_; first | (refine i_qq ?_; refine qQ ?_) | refine qEf ?_) | refine tl_nil ?_ | (refine i_tc ?_; refine qTc ?_) | (refine i_te ?_; refine qTe ?_) | intro _)
    have hm : contM x1 l1 st1 b1 = (([], []), l1, st1, b1) := by
      rw [contM]
      split
      · rw [if_neg (by omega), if_neg (by omega)]
      · rfl
    rw [hm] at hq
    have hck := fun ρ => check_spec ρ ⟨none, 0, 0, none, 0, 0⟩ ⟨x1, [], []⟩ CIn.nil
    simp only [contE] at hq
    generalize hB2 : needB b1 st1 (contOk ⟨x1, [], []⟩) = b2 at *
    subst hq
    cases hco : contOk ⟨x1, [], []⟩
    all_goals rw [hco] at hck hB2
    all_goals (repeat' (first | (refine tl_is (.func 236) ?_; refine qC rfl rfl (hck _) ?_; rintro v ρ' L' hle ⟨rfl, rfl, rfl⟩ <;> (try simp only [kM, kN, kO, if_true, if_false, Bool.false_eq_true])) | (refine tl_is (.func 249) ?_; refine qC rfl rfl (need_spec _ bt br all b1 _ _ _ a1 n1 c1 st1 _) ?_; rintro v ρ' L' hle ⟨rfl, rfl, rfl⟩ <;> (try simp only [kM, kN, kO, hB2])) | (refine i_op ?_; first | (refine i_qq ?_; refine qQ ?_) | refine qEf ?_) | refine tl_nil ?_ | (refine i_tc ?_; refine qTc ?_) | (refine i_te ?_; refine qTe ?_) | intro _))
    all_goals exact qE ⟨Hp.le_refl _, ⟨none, 0, 0, none, 0, 0⟩, a1, n1, c1, rfl, CIn.nil, h1, hc1, rfl⟩
  · rw [decide_eq_false (show ¬ (x1 : Int) ≤ 2 by omega)] at hB1
    repeat' (first | (refine tl_is (.func 79) ?_; refine qC rfl rfl (hn1) ?_; rintro v ρ' L' hle ⟨rfl, rfl, a1, n1, c1, h1, hc1, rfl⟩ <;> (try simp only [kM, kN, kO])) | (refine tl_is (.func 249) ?_; refine qC rfl rfl (need_spec _ bt br all false _ _ _ a1 n1 c1 st1 _) ?_; rintro v ρ' L' hle ⟨rfl, rfl, rfl⟩ <;> (try simp only [kM, kN, kO, hB1])) | (refine tl_insert rfl rfl rfl hnil (fun es1 ck1 i1 i2 => ?_)) | (refine tl_insert rfl rfl rfl i1 (fun es2 ck2 j1 j2 => ?_); have hg := j2 (x1 : Int); rw [i2, if_neg (by omega), if_neg (by omega), hg0] at hg) | (refine i_op ?_; first | (refine i_qq ?_; refine qQ ?_) | refine qEf ?_) | refine tl_nil ?_ | (refine i_tc ?_; refine qTc ?_) | (refine i_te ?_; refine qTe ?_) | intro _)
    have hm : contM x1 l1 st1 b1 = (([], []), l1, st1, b1) := by
      rw [contM]
      split
      · rw [if_neg (by omega), if_neg (by omega)]
      · rfl
    rw [hm] at hq
    have hck := fun ρ => check_spec ρ ⟨none, 0, 0, none, 0, 0⟩ ⟨x1, [], []⟩ CIn.nil
    simp only [contE] at hq
    generalize hB2 : needB b1 st1 (contOk ⟨x1, [], []⟩) = b2 at *
    subst hq
    cases hco : contOk ⟨x1, [], []⟩
    all_goals rw [hco] at hck hB2
    all_goals (repeat' (first | (refine tl_is (.func 236) ?_; refine qC rfl rfl (hck _) ?_; rintro v ρ' L' hle ⟨rfl, rfl, rfl⟩ <;> (try simp only [kM, kN, kO, if_true, if_false, Bool.false_eq_true])) | (refine tl_is (.func 249) ?_; refine qC rfl rfl (need_spec _ bt br all b1 _ _ _ a1 n1 c1 st1 _) ?_; rintro v ρ' L' hle ⟨rfl, rfl, rfl⟩ <;> (try simp only [kM, kN, kO, hB2])) | (refine i_op ?_; first | (refine i_qq ?_; refine qQ ?_) | refine qEf ?_) | refine tl_nil ?_ | (refine i_tc ?_; refine qTc ?_) | (refine i_te ?_; refine qTe ?_) | intro _))
    all_goals exact qE ⟨Hp.le_refl _, ⟨none, 0, 0, none, 0, 0⟩, a1, n1, c1, rfl, CIn.nil, h1, hc1, rfl⟩
end Go.Proofs.E

namespace Go.Proofs.E
open Go
set_option linter.unusedVariables false
set_option linter.unusedSimpArgs false
set_option linter.unusedSectionVars false
set_option maxRecDepth 4000
set_option maxHeartbeats 1000000
attribute [local irreducible] Yl TL TC TE Spec YSpec R1 Hp.le EnvLe TS TR YS Stays
theorem numR_len (k : Nat) (l : List UInt8) (st : Int) : (numR k l st).2.1.length ≤ l.length := by
  unfold numR; split
  · exact Nat.le_refl _
  · split
    · exact Nat.le_refl _
    · simp
theorem rawR_len (k : Nat) (l : List UInt8) (st : Int) : (rawR k l st).2.1.length ≤ l.length := by
  unfold rawR; split
  · exact Nat.le_refl _
  · split
    · exact Nat.le_refl _
    · simp
theorem rowR_len (l : List UInt8) (st : Int) (bad : Bool) : (rowR l st bad).2.1.length ≤ l.length := by
  unfold rowR
  dsimp only
  have e1 := numR_len 1 l st
  generalize numR 1 l st = r1 at *
  have e2 := numR_len 2 r1.2.1 r1.2.2
  generalize numR 2 r1.2.1 r1.2.2 = r2 at *
  have e3 := numR_len 8 r2.2.1 r2.2.2
  generalize numR 8 r2.2.1 r2.2.2 = r3 at *
  have e4 := numR_len 1 r3.2.1 r3.2.2
  generalize numR 1 r3.2.1 r3.2.2 = r4 at *
  have e5 := rawR_len r4.1 r4.2.1 r4.2.2
  split
  · split <;> dsimp only <;> omega
  · dsimp only; omega
theorem kidR_len (l : List UInt8) (st : Int) : (kidR l st).2.1.length ≤ l.length := by
  unfold kidR
  dsimp only
  have e1 := numR_len 1 l st
  generalize numR 1 l st = r1 at *
  have e2 := numR_len 2 r1.2.1 r1.2.2
  generalize numR 2 r1.2.1 r1.2.2 = r2 at *
  have e3 := numR_len 1 r2.2.1 r2.2.2
  omega
theorem manyTo_len {α : Type} {f : List UInt8 → Int → Bool → α × RS3} (hf : ∀ l st bad, (f l st bad).2.1.length ≤ l.length) : ∀ (n : Nat) (l : List UInt8) (st : Int) (bad : Bool), (manyTo f n l st bad).2.1.length ≤ l.length
  | 0, l, st, bad => Nat.le_refl _
  | n + 1, l, st, bad => by
    rw [manyTo]
    split
    · exact Nat.le_trans (manyTo_len hf n _ _ _) (hf l st bad)
    · exact Nat.le_refl _
theorem manyR_len {α : Type} {f : List UInt8 → Int → Bool → α × RS3} (hf : ∀ l st bad, (f l st bad).2.1.length ≤ l.length) (l : List UInt8) (st : Int) (bad : Bool) : (manyR f l st bad).2.1.length ≤ l.length :=
  Nat.le_trans (manyTo_len hf _ _ _ _) (numR_len 1 l st)
theorem contentR_len (l : List UInt8) : (contentR l).2.1.length ≤ l.length := by
  unfold contentR contE
  dsimp only
  have e1 := numR_len 1 l 0
  generalize numR 1 l 0 = r1 at *
  have h2 : ∀ b, (contM r1.1 r1.2.1 r1.2.2 b).2.1.length ≤ r1.2.1.length := fun b => by
    unfold contM
    have a1 := manyR_len (f := rowR) rowR_len r1.2.1 r1.2.2 b
    have a2 := manyR_len (f := kidRB) (fun l st bad => kidR_len l st) r1.2.1 r1.2.2 b
    split
    · split
      · exact a1
      · split
        · exact a2
        · exact Nat.le_refl _
    · exact Nat.le_refl _
  exact Nat.le_trans (h2 _) e1
def takeRowR (l : List UInt8) : Row × Int × Int :=
  let r := rowR l 0 false
  (if r.2.2.2 || decide (r.2.2.1 ≠ 0) then ⟨0, 0, 0, []⟩ else r.1, takenN l.length r.2.1.length r.2.2.2 r.2.2.1, takenE r.2.2.2 r.2.2.1)
def takeContR (l : List UInt8) : Cont × Int × Int :=
  let r := contentR l
  (if r.2.2.2 || decide (r.2.2.1 ≠ 0) then ⟨0, [], []⟩ else r.1, takenN l.length r.2.1.length r.2.2.2 r.2.2.1, takenE r.2.2.2 r.2.2.1)
theorem takeRow_spec (ρ : Hp) (a : Option Addr) (n c : Nat) (l : List UInt8) (h : SIn ρ u8c a n l) (hn : n ≤ 1000000) :
    Spec Tryz.prog 159 [.slice a n c] ρ [] (fun v ρ' L' => v = .tuple ⟨[.agg ⟨rowV (takeRowR l).1⟩, .int .i64 (takeRowR l).2.1, .int .i64 (takeRowR l).2.2]⟩ ∧ ρ.le ρ' ∧ L' = []) := by
  have hf := from_spec ρ a n c l h hn
  have hl := h.len
  have hlen := rowR_len l 0 false
  unfold takeRowR
  dsimp only
  rw [hl] at hlen ⊢
  refine spec_enter Tryz.func159 rfl rfl rfl fun u R => ?_
  simp only [argsE, List.cons_append, List.nil_append]
  repeat' (first | (refine tl_is (.func 217) ?_; refine qC rfl rfl (hf) ?_; rintro v ρ' L' hle ⟨hle1, bt, br, a1, c1, rfl, hc1, h1, rfl⟩ <;> (try simp only [kM, kN, kO])) | (refine i_op ?_; first | (refine i_qq ?_; refine qQ ?_) | refine qEf ?_) | refine tl_nil ?_ | (refine i_tc ?_; refine qTc ?_) | (refine i_te ?_; refine qTe ?_) | intro _)
  have hr := trow_spec _ bt br n false (.int .i64 0) (.slice none 0 0) (.slice none 0 0) a1 n c1 l h1 hc1 0
  generalize rowR l 0 false = r at *
  obtain ⟨x, l2, st2, b2⟩ := r
  dsimp only at hr hlen ⊢
  repeat' (first | (refine tl_is (.func 221) ?_; refine qC rfl rfl (hr) ?_; rintro v ρ' L' hle ⟨rfl, hle2, a2, n2, c2, h2, hc2, rfl⟩ <;> (try simp only [kM, kN, kO])) | (refine i_op ?_; first | (refine i_qq ?_; refine qQ ?_) | refine qEf ?_) | refine tl_nil ?_ | (refine i_tc ?_; refine qTc ?_) | (refine i_te ?_; refine qTe ?_) | intro _)
  have hl2 := h2.len
  rw [hl2]
  repeat' (first | (refine tl_is (.func 220) ?_; refine qC rfl rfl (takenRow_spec _ bt br n hn b2 _ _ _ a2 n2 c2 st2 x (by omega)) ?_; rintro v ρ' L' hle ⟨rfl, rfl, rfl⟩ <;> (try simp only [kM, kN, kO])) | (refine i_op ?_; first | (refine i_qq ?_; refine qQ ?_) | refine qEf ?_) | refine tl_nil ?_ | (refine i_tc ?_; refine qTc ?_) | (refine i_te ?_; refine qTe ?_) | intro _)
  exact qE ⟨rfl, Hp.le_trans hle1 hle2, rfl⟩
theorem takeCont_spec (ρ : Hp) (a : Option Addr) (n c : Nat) (l : List UInt8) (h : SIn ρ u8c a n l) (hn : n ≤ 1000000) :
    Spec Tryz.prog 155 [.slice a n c] ρ [] (fun v ρ' L' => ρ.le ρ' ∧ ∃ w, v = .tuple ⟨[.agg ⟨contV (takeContR l).1.kind w⟩, .int .i64 (takeContR l).2.1, .int .i64 (takeContR l).2.2]⟩ ∧ CIn ρ' w (takeContR l).1.rows (takeContR l).1.kids ∧ L' = []) := by
  have hf := from_spec ρ a n c l h hn
  have hl := h.len
  have hlen := contentR_len l
  unfold takeContR
  dsimp only
  rw [hl] at hlen ⊢
  refine spec_enter Tryz.func155 rfl rfl rfl fun u R => ?_
  simp only [argsE, List.cons_append, List.nil_append]
  repeat' (first | (refine tl_is (.func 217) ?_; refine qC rfl rfl (hf) ?_; rintro v ρ' L' hle ⟨hle1, bt, br, a1, c1, rfl, hc1, h1, rfl⟩ <;> (try simp only [kM, kN, kO])) | (refine i_op ?_; first | (refine i_qq ?_; refine qQ ?_) | refine qEf ?_) | refine tl_nil ?_ | (refine i_tc ?_; refine qTc ?_) | (refine i_te ?_; refine qTe ?_) | intro _)
  have hr := content_spec _ bt br n a1 n c1 l h1 hc1
  generalize contentR l = r at *
  obtain ⟨x, l2, st2, b2⟩ := r
  dsimp only at hr hlen ⊢
  repeat' (first | (refine tl_is (.func 219) ?_; refine qC rfl rfl (hr) ?_; rintro v ρ' L' hle ⟨hle2, w, a2, n2, c2, rfl, hC, h2, hc2, rfl⟩ <;> (try simp only [kM, kN, kO])) | (refine i_op ?_; first | (refine i_qq ?_; refine qQ ?_) | refine qEf ?_) | refine tl_nil ?_ | (refine i_tc ?_; refine qTc ?_) | (refine i_te ?_; refine qTe ?_) | intro _)
  have hl2 := h2.len
  rw [hl2]
  have ht := fun ρ => takenCont_spec ρ bt br n hn b2 (.int .i64 x.kind) (.slice w.ra w.rn w.rc) (.slice w.ka w.kn w.kc) a2 n2 c2 st2 x.kind w (by omega)
  by_cases hb : (b2 || decide (st2 ≠ 0)) = true
  · rw [if_pos hb] at ht
    rw [if_pos hb]
    repeat' (first | (refine tl_is (.func 218) ?_; refine qC rfl rfl (ht _) ?_; rintro v ρ' L' hle ⟨rfl, rfl, rfl⟩ <;> (try simp only [kM, kN, kO])) | (refine i_op ?_; first | (refine i_qq ?_; refine qQ ?_) | refine qEf ?_) | refine tl_nil ?_ | (refine i_tc ?_; refine qTc ?_) | (refine i_te ?_; refine qTe ?_) | intro _)
    exact qE ⟨Hp.le_trans hle1 hle2, ⟨none, 0, 0, none, 0, 0⟩, rfl, CIn.nil, rfl⟩
  · rw [if_neg hb] at ht
    rw [if_neg hb]
    repeat' (first | (refine tl_is (.func 218) ?_; refine qC rfl rfl (ht _) ?_; rintro v ρ' L' hle ⟨rfl, rfl, rfl⟩ <;> (try simp only [kM, kN, kO])) | (refine i_op ?_; first | (refine i_qq ?_; refine qQ ?_) | refine qEf ?_) | refine tl_nil ?_ | (refine i_tc ?_; refine qTc ?_) | (refine i_te ?_; refine qTe ?_) | intro _)
    exact qE ⟨Hp.le_trans hle1 hle2, w, rfl, hC, rfl⟩
end Go.Proofs.E

