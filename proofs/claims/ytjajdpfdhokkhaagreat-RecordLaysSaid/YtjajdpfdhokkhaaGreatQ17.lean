/- The law RecordLays. Part 17 of 21. -/
import Derived.Test.YtjajdpfdhokkhaaGreatQ16
namespace Go.Proofs.E
open Go
set_option linter.unusedVariables false
set_option linter.unusedSimpArgs false
set_option linter.unusedSectionVars false
set_option maxRecDepth 4000
set_option maxHeartbeats 1000000
attribute [local irreducible] Yl TL TC TE Spec YSpec R1 Hp.le EnvLe TS TR YS Stays
-- BN
theorem pagesN_succ (l : List Stp) (k : Nat) (h : k < l.length) : pagesN (l.take (k + 1)) = pagesN (l.take k) + stepN l[k] := by
  unfold pagesN
  rw [List.take_succ_eq_append_getElem h, List.map_append, List.sum_append]
  simp
theorem pagesN_le (l : List Stp) : pagesN l ≤ l.length * 12 := by
  unfold pagesN
  induction l with
  | nil => simp
  | cons a r ih =>
    have : stepN a ≤ 12 := by unfold stepN; split <;> omega
    simp only [List.map_cons, List.sum_cons, List.length_cons]; omega
theorem undR_nil : (recB (undR [])).length = 30 := by decide
theorem rreserve_spec (ρ : Hp) (v : RV) (r : Rc) (h : RcIn ρ v r) : Spec Tryz.prog 77 [.agg ⟨recV v r⟩] ρ []
    (fun z ρ' L' => ρ.le ρ' ∧ z = .tuple ⟨[.int .i64 (reserveN r : Nat), .int .i64 (errN r)]⟩ ∧ L' = []) := by
  have hck := rcheck_spec ρ v r h
  unfold reserveN errN
  refine spec_enter Tryz.func77 rfl rfl rfl fun u R => ?_
  simp only [argsE, List.cons_append, List.nil_append]
  cases hok : recOk r
  · rw [hok] at hck
    repeat' (first | (refine tl_is (.func 27) ?_; refine qC rfl rfl (hck) ?_; rintro v ρ' L' hle ⟨rfl, rfl, rfl⟩ <;> (try simp only [kM, kN, kO, if_false, Bool.false_eq_true])) | (refine iBu ?_; refine tl_y (y_buildN rfl) rfl rfl ?_) | (refine i_op ?_; first | (refine i_qq ?_; refine qQ ?_) | refine qEf ?_) | refine tl_nil ?_ | (refine i_tc ?_; refine qTc ?_) | (refine i_te ?_; refine qTe ?_) | intro _)
    exact qE (L' := []) ⟨Hp.le_refl _, rfl, rfl⟩
  · rw [hok] at hck
    simp only [if_true]
    have hF := recOk_facts hok
    by_cases k1 : r.kind = 1
    · rw [if_pos k1]
      repeat' (first | (refine tl_is (.func 27) ?_; refine qC rfl rfl (hck) ?_; rintro v ρ' L' hle ⟨rfl, rfl, rfl⟩ <;> (try simp only [kM, kN, kO, if_true])) | (refine iBu ?_; refine tl_y (y_buildN rfl) rfl rfl ?_) | (refine i_op ?_; first | (refine i_qq ?_; refine qQ ?_) | refine qEf ?_) | refine tl_nil ?_ | (refine i_tc ?_; refine qTc ?_) | (refine i_te ?_; refine qTe ?_) | intro _)
      exact qE (L' := []) ⟨Hp.le_refl _, rfl, rfl⟩
    · rw [if_neg k1]
      by_cases k2 : r.kind = 2
      · rw [if_pos k2]
        have hA := h.i.at'
        have hl := hA.len
        have hil := hF.il
        have hlay := undR_lay hil (fun x hx => (hF.im x hx).2.2)
        repeat' (first | (refine tl_is (.func 27) ?_; refine qC rfl rfl (hck) ?_; rintro v ρ' L' hle ⟨rfl, rfl, rfl⟩ <;> (try simp only [kM, kN, kO, if_true])) | (refine iBu ?_; refine tl_y (y_buildN rfl) rfl rfl ?_) | (refine i_op ?_; first | (refine i_qq ?_; refine qQ ?_) | refine qEf ?_) | refine tl_nil ?_ | (refine i_tc ?_; refine qTc ?_) | (refine i_te ?_; refine qTe ?_) | intro _)
        rename_i rb ub
        refine tc_loop_g [(1, _), (2, _), (3, _), (5, _), (6, _), (19, _), (25, _), (26, _)] (fun (ζ : (Nat) × (Value) × (List Value)) => [(27, .int .i64 ζ.1)]) (fun (ζ : (Nat) × (Value) × (List Value)) => ρ') (fun (ζ : (Nat) × (Value) × (List Value)) => [[(ub, .cells ⟨[.int .i64 5, .int .u64 0, .int .i64 0, .int .u64 0, .int .u64 0, ζ.2.1, .slice none 0 0, .int .i64 0, .slice none 0 0, .slice none 0 0]⟩ 30 (0, 0))], ownC ζ.2.1 ((((r.ims.take ζ.1).map undI).map imV).flatten) ζ.2.2 128, [(rb, .cells ⟨recV v r⟩ 30 (0, 0))]]) (fun (ζ : (Nat) × (Value) × (List Value)) => ζ.1 ≤ v.i.n ∧ OwnS ζ.2.1 ζ.1 ((((r.ims.take ζ.1).map undI).map imV).flatten) ζ.2.2 7) (fun (ζ : (Nat) × (Value) × (List Value)) => v.i.n - ζ.1) ((0, .slice none 0 0, [])) (⟨Nat.zero_le _, OwnS.nil 7⟩) ev_le ev_le rfl tk ?_
        rintro ⟨k, vv, sp⟩ hI
        try simp only [List.cons_append, List.nil_append, List.append_assoc, List.append_eq] at hI ⊢
        try dsimp only at hI ⊢
        obtain ⟨hk, hown⟩ := hI
        obtain ⟨va, vc, rfl, _⟩ := hown.slice
        by_cases hlt : k < v.i.n
        · obtain ⟨b, off, C, T, fr, e1, hb, hfit, hc⟩ := hA.get (show k < r.ims.length by omega)
          have hx := List.take_succ_eq_append_getElem (show k < r.ims.length by omega)
          generalize r.ims[k]'(by omega) = x at *
          rw [e1]
          repeat' (first | (refine iBu ?_; refine tl_y (y_buildN rfl) rfl rfl ?_) | (refine i_op ?_; first | (refine i_qq ?_; refine qQ ?_) | refine qEf ?_) | refine tl_nil ?_ | (refine i_tc ?_; refine qTc ?_) | (refine i_te ?_; refine qTe ?_) | intro _)
          refine tl_buildSliceA (css := [imV (undI x)]) (sz := 7) rfl rfl rfl rfl (by simp) (by simp) rfl (fun bs => ?_)
          simp only [List.flatten_cons, List.flatten_nil, List.append_nil]
          refine tl_app (ys := imV (undI x)) (m := 1) rfl rfl hown (hR := by infer_instance) (SrcV.lit) rfl rfl (by decide) rfl (by omega) (by omega) rfl (fun v' sp' hown' => ?_)
          have hm : (((r.ims.take k).map undI).map imV).flatten ++ imV (undI x) = (((r.ims.take (k + 1)).map undI).map imV).flatten := by rw [hx]; simp
          rw [hm] at hown' ⊢
          obtain ⟨va', vc', rfl, _⟩ := hown'.slice
          repeat' (first | (refine iBu ?_; refine tl_y (y_buildN rfl) rfl rfl ?_) | (refine i_op ?_; first | (refine i_qq ?_; refine qQ ?_) | refine qEf ?_) | refine tl_nil ?_ | (refine i_tc ?_; refine qTc ?_) | (refine i_te ?_; refine qTe ?_) | intro _)
          rw [← e1]
          refine te_round_g (k + 1, _, sp') (⟨hlt, hown'⟩) ev_le ev_le rfl tk inferInstance (by first | omega | (dsimp only; omega))
        · have hk2 : k = r.ims.length := by omega
          rw [show r.ims.take k = r.ims by rw [hk2, List.take_length]] at hown ⊢
          refine tc_freeze (ownC (.slice va k vc) (((r.ims.map undI).map imV).flatten) sp 128) (fun ρ3 hle3 hfz => ?_)
          obtain ⟨sa, sc, e1, hsc, hA2⟩ := hown.aIn (by simp; omega) (fun x _ => imV_len x) hfz
          cases e1
          have hU : RcIn ρ3 ⟨⟨va, k, vc⟩, ⟨none, 0, 0⟩, ⟨none, 0, 0⟩, ⟨none, 0, 0⟩⟩ (undR r.ims) := ⟨⟨hA2, by dsimp only; omega, hsc⟩, fun x hx => by
            obtain ⟨y, hy, rfl⟩ := List.mem_map.1 hx
            exact ⟨CI.nil, ((h.im y hy).b).mono hle3⟩, AS.nil, AS.nil, AS.nil, by simp [undR]⟩
          have hla := rlaid_spec ρ3 _ _ hU hlay
          have hb4 := recB_le hlay
          repeat' (first | (refine tl_is (.func 112) ?_; refine qC rfl rfl (hla) ?_; rintro v ρ' L' hle ⟨hl1, a, c, rfl, hc, hs, rfl⟩ <;> (try simp only [kM, kN, kO])) | (simp only [Int.add_zero]; refine tl_is (.func 127) ?_; refine qC rfl rfl (rsects_spec _ _ (by omega)) ?_; rintro z1 ρ1 L1 hle0 ⟨rfl, rfl, rfl⟩; simp only [List.cons_append, List.nil_append]) | (refine iBu ?_; refine tl_y (y_buildN rfl) rfl rfl ?_) | (refine i_op ?_; first | (refine i_qq ?_; refine qQ ?_) | refine qEf ?_) | refine tl_nil ?_ | (refine i_tc ?_; refine qTc ?_) | (refine i_te ?_; refine qTe ?_) | intro _)
          exact qE (L' := []) ⟨Hp.le_trans hle3 hl1, rfl, rfl⟩
      · rw [if_neg k2]
        by_cases k4 : r.kind = 4
        · rw [if_pos k4]
          have hA := h.s.at'
          have hl := hA.len
          have hsl := hF.sl
          have hU : ∀ ρ, RcIn ρ ⟨⟨none, 0, 0⟩, ⟨none, 0, 0⟩, ⟨none, 0, 0⟩, ⟨none, 0, 0⟩⟩ (undR []) := fun ρ => ⟨AS.nil, by simp [undR], AS.nil, AS.nil, AS.nil, by simp [undR]⟩
          have hla := fun ρ => rlaid_spec ρ _ _ (hU ρ) (undR_lay (l := []) (by simp) (by simp))
          rw [undR_nil] at hla
          repeat' (first | (refine tl_is (.func 27) ?_; refine qC rfl rfl (hck) ?_; rintro v ρ' L' hle ⟨rfl, rfl, rfl⟩ <;> (try simp only [kM, kN, kO, if_true])) | (refine iBu ?_; refine tl_y (y_buildN rfl) rfl rfl ?_) | (refine i_op ?_; first | (refine i_qq ?_; refine qQ ?_) | refine qEf ?_) | refine tl_nil ?_ | (refine i_tc ?_; refine qTc ?_) | (refine i_te ?_; refine qTe ?_) | intro _)
          rename_i rb ub
          refine tc_loop_g [(2, _), (3, _), (5, _), (6, _), (43, _), (44, _)] (fun (ζ : (Nat) × (Nat)) => [(45, .int .i64 ζ.1), (9, .int .i64 ζ.2)]) (fun (ζ : (Nat) × (Nat)) => ρ') (fun (ζ : (Nat) × (Nat)) => [[(rb, .cells ⟨recV v r⟩ 30 (0, 0))]]) (fun (ζ : (Nat) × (Nat)) => ζ.1 ≤ v.s.n ∧ ζ.2 = pagesN (r.steps.take ζ.1)) (fun (ζ : (Nat) × (Nat)) => v.s.n - ζ.1) ((0, 0)) (⟨Nat.zero_le _, rfl⟩) ev_le ev_le rfl tk ?_
          rintro ⟨k, n⟩ hI
          try simp only [List.cons_append, List.nil_append, List.append_assoc, List.append_eq] at hI ⊢
          try dsimp only at hI ⊢
          obtain ⟨hk, hn⟩ := hI
          have hple := pagesN_le (r.steps.take k)
          have htl : (r.steps.take k).length ≤ 2 := by simp; omega
          by_cases hlt : k < v.s.n
          · obtain ⟨b, off, C, T, fr, e1, hb, hfit, hc⟩ := hA.get (show k < r.steps.length by omega)
            have hx := pagesN_succ r.steps k (by omega)
            generalize r.steps[k]'(by omega) = x at *
            rw [e1]
            unfold stepN at hx
            by_cases h34 : x.kind = 3 ∨ x.kind = 4
            · rw [if_pos h34] at hx
              rcases h34 with e | e
              all_goals (repeat' (first | (refine iBu ?_; refine tl_y (y_buildN rfl) rfl rfl ?_) | (refine i_op ?_; first | (refine i_qq ?_; refine qQ ?_) | refine qEf ?_) | refine tl_nil ?_ | (refine i_tc ?_; refine qTc ?_) | (refine i_te ?_; refine qTe ?_) | intro _))
              all_goals rw [← e1]
              all_goals refine te_round_g (k + 1, n + 12) (⟨hlt, by dsimp only; omega⟩) ev_le ev_le rfl tk inferInstance (by first | omega | (dsimp only; omega))
            · rw [if_neg h34] at hx
              repeat' (first | (refine iBu ?_; refine tl_y (y_buildN rfl) rfl rfl ?_) | (refine i_op ?_; first | (refine i_qq ?_; refine qQ ?_) | refine qEf ?_) | refine tl_nil ?_ | (refine i_tc ?_; refine qTc ?_) | (refine i_te ?_; refine qTe ?_) | intro _)
              rw [← e1]
              refine te_round_g (k + 1, n + 1) (⟨hlt, by dsimp only; omega⟩) ev_le ev_le rfl tk inferInstance (by first | omega | (dsimp only; omega))
          · rw [show r.steps.take k = r.steps by rw [show k = r.steps.length by omega, List.take_length]] at hn hple htl
            subst hn
            repeat' (first | (refine tl_is (.func 112) ?_; refine qC rfl rfl (hla _) ?_; rintro v ρ' L' hle ⟨hl1, a, c, rfl, hc, hs, rfl⟩ <;> (try simp only [kM, kN, kO])) | (rw [show ((30 : Nat) : Int) + min ((pagesN r.steps : Nat) : Int) 16 * 83 = ((30 + min (pagesN r.steps) 16 * 83 : Nat) : Int) by omega]; refine tl_is (.func 127) ?_; refine qC rfl rfl (rsects_spec _ _ (by omega)) ?_; rintro z1 ρ1 L1 hle0 ⟨rfl, rfl, rfl⟩; simp only [List.cons_append, List.nil_append]) | (refine iBu ?_; refine tl_y (y_buildN rfl) rfl rfl ?_) | (refine i_op ?_; first | (refine i_qq ?_; refine qQ ?_) | refine qEf ?_) | refine tl_nil ?_ | (refine i_tc ?_; refine qTc ?_) | (refine i_te ?_; refine qTe ?_) | intro _)
            exact qE (L' := []) ⟨hl1, rfl, rfl⟩
        · rw [if_neg k4]
          repeat' (first | (refine tl_is (.func 27) ?_; refine qC rfl rfl (hck) ?_; rintro v ρ' L' hle ⟨rfl, rfl, rfl⟩ <;> (try simp only [kM, kN, kO, if_true])) | (refine iBu ?_; refine tl_y (y_buildN rfl) rfl rfl ?_) | (refine i_op ?_; first | (refine i_qq ?_; refine qQ ?_) | refine qEf ?_) | refine tl_nil ?_ | (refine i_tc ?_; refine qTc ?_) | (refine i_te ?_; refine qTe ?_) | intro _)
          exact qE (L' := []) ⟨Hp.le_refl _, rfl, rfl⟩
end Go.Proofs.E

namespace Go.Proofs.E
open Go
set_option linter.unusedVariables false
set_option linter.unusedSimpArgs false
set_option linter.unusedSectionVars false
set_option maxRecDepth 4000
set_option maxHeartbeats 1000000
attribute [local irreducible] Yl TL TC TE Spec YSpec R1 Hp.le EnvLe TS TR YS Stays
theorem OwnS.pos {v n xs sp sz} (h : OwnS v n xs sp sz) (h0 : 0 < n) : ∃ b cap, v = .slice (some ⟨b, 0, none⟩) n cap := by
  rcases h.out with ⟨_, h2, _⟩ | ⟨b, cap, h1, _⟩
  · omega
  · exact ⟨b, cap, h1⟩
def shortR (r : Row) : Row := ⟨r.t, r.id, r.val, r.note.take 9⟩
def fewC (c : Cont) : Cont := ⟨c.kind, (c.rows.take 5).map shortR, c.kids.take 5⟩
theorem take_min9 (l : List UInt8) : l.take (min (l.length : Int) 9).toNat = l.take 9 := by
  by_cases h : l.length ≤ 9
  · rw [show (min (l.length : Int) 9).toNat = l.length by omega, List.take_of_length_le (Nat.le_refl _), List.take_of_length_le h]
  · rw [show (min (l.length : Int) 9).toNat = 9 by omega]
structure CInW (ρ : Hp) (v : CV) (rows : List Row) (kids : List Kid) : Prop where
  r : AIn ρ 4 rowV v.ra v.rn rows
  k : AIn ρ 3 kidV v.ka v.kn kids
  rb : v.rn ≤ 9223372036854775807
  kb : v.kn ≤ 9223372036854775807
  rc : v.rn ≤ v.rc
  kc : v.kn ≤ v.kc
theorem CInW.mono {ρ ρ' v rows kids} (h : CInW ρ v rows kids) (hle : ρ.le ρ') : CInW ρ' v rows kids := ⟨h.r.mono hle, h.k.mono hle, h.rb, h.kb, h.rc, h.kc⟩
theorem flatK_one (l : List Kid) : ((l.map kidV).flatten).all (·.oneCell') = true := by
  induction l with
  | nil => rfl
  | cons k r ih => simp only [List.map_cons, List.flatten_cons, List.all_append, ih, Bool.and_true]; rfl
theorem flatR_one (l : List Row) : ((l.map rowV).flatten).all (·.oneCell') = true := by
  induction l with
  | nil => rfl
  | cons k r ih => simp only [List.map_cons, List.flatten_cons, List.all_append, ih, Bool.and_true]; rfl
theorem take_five {α : Type} (l : List α) (n m : Nat) (h : l.length = n) (hm : m = min n 5) : l.take m = l.take 5 := by
  by_cases h5 : n ≤ 5
  · rw [show m = n by omega, List.take_of_length_le (by omega), List.take_of_length_le (by omega)]
  · rw [show m = 5 by omega]
theorem row_get {sp : List Value} : ∀ (acc : List Row) (k : Nat) (r : Row), acc[k]? = some r → ((acc.map rowV).flatten ++ sp)[0 + k * 4 + 3]? = some (strV r.note)
  | [], k, r, h => by cases h
  | a :: t, 0, r, h => by cases h; rfl
  | a :: t, k + 1, r, h => by
    have ih := row_get (sp := sp) t k r (by simpa using h)
    rw [show 0 + (k + 1) * 4 + 3 = (0 + k * 4 + 3) + 4 by omega]
    simpa only [List.map_cons, List.flatten_cons, rowV, List.cons_append, List.nil_append, List.getElem?_cons_succ] using ih
theorem row_set {sp : List Value} (s : List UInt8) : ∀ (acc : List Row) (k : Nat) (r : Row), acc[k]? = some r → ((acc.map rowV).flatten ++ sp).set (0 + k * 4 + 3) (strV s) = ((acc.set k ⟨r.t, r.id, r.val, s⟩).map rowV).flatten ++ sp
  | [], k, r, h => by cases h
  | a :: t, 0, r, h => by cases h; rfl
  | a :: t, k + 1, r, h => by
    have ih := row_set (sp := sp) s t k r (by simpa using h)
    rw [show 0 + (k + 1) * 4 + 3 = (0 + k * 4 + 3) + 4 by omega]
    simp only [List.map_cons, List.flatten_cons, rowV, List.cons_append, List.nil_append, List.set_cons_succ]
    rw [ih]
theorem row_setL {sp : List Value} (s : List UInt8) {acc : List Row} {k : Nat} {r : Row} (h : acc[k]? = some r) : SetL ((acc.map rowV).flatten ++ sp) (0 + k * 4 + 3) (strV s) (((acc.set k ⟨r.t, r.id, r.val, s⟩).map rowV).flatten ++ sp) := by
  have h1 := row_get (sp := sp) acc k r h
  have hlt : 0 + k * 4 + 3 < ((acc.map rowV).flatten ++ sp).length := by
    rcases Nat.lt_or_ge (0 + k * 4 + 3) ((acc.map rowV).flatten ++ sp).length with hh | hh
    · exact hh
    · rw [List.getElem?_eq_none hh] at h1; cases h1
  refine ⟨hlt, ?_⟩
  rw [← row_set s acc k r h, List.set_eq_take_append_cons_drop, if_pos hlt]
  simp [stc]
theorem set_step (RS : List Row) (k : Nat) (h : k < RS.length) : ((RS.take k).map shortR ++ RS.drop k).set k (shortR RS[k]) = (RS.take (k + 1)).map shortR ++ RS.drop (k + 1) := by
  rw [List.set_append_right _ _ (by simp; omega), List.drop_eq_getElem_cons h, List.take_succ_eq_append_getElem h]
  rw [show k - ((RS.take k).map shortR).length = 0 by simp; omega]
  simp only [List.set_cons_zero, List.map_append, List.map_cons, List.map_nil, List.append_assoc, List.cons_append, List.nil_append]
theorem get_step (RS : List Row) (k : Nat) (h : k < RS.length) : ((RS.take k).map shortR ++ RS.drop k)[k]? = some RS[k] := by
  rw [List.getElem?_append_right (by simp; omega), List.drop_eq_getElem_cons h]
  simp [show k - min k RS.length = 0 by omega]
theorem content12_spec (ρ : Hp) (w : CV) (c : Cont) (h : CInW ρ w c.rows c.kids) :
    Spec Tryz.prog 94 [.agg ⟨contV c.kind w⟩] ρ [] (fun v ρ' L' => ρ.le ρ' ∧ ∃ w', v = .agg ⟨contV c.kind w'⟩ ∧ CIn ρ' w' (fewC c).rows (fewC c).kids ∧ L' = []) := by
  obtain ⟨kind, rows, kids⟩ := c
  obtain ⟨ra, rn, rc, ka, kn, kc⟩ := w
  obtain ⟨hr, hk, hrb, hkb, hrc, hkc⟩ := h
  dsimp only at hr hk hrb hkb hrc hkc
  have hrl := hr.len
  have hkl := hk.len
  dsimp only [fewC, contV]
  obtain ⟨m, hm⟩ : ∃ m, m = min kn 5 := ⟨_, rfl⟩
  obtain ⟨q, hq⟩ : ∃ q, q = min rn 5 := ⟨_, rfl⟩
  have hmt : (min (kn : Int) 5).toNat = m := by omega
  have hqt : (min (rn : Int) 5).toNat = q := by omega
  have hk5 := hk.take (hi' := m) (by omega)
  have hr5 := hr.take (hi' := q) (by omega)
  rw [take_five _ _ _ hkl hm] at hk5
  rw [take_five _ _ _ hrl hq] at hr5
  have hm5 : m ≤ 5 := by omega
  have hq5 : q ≤ 5 := by omega
  generalize kids.take 5 = KS at *
  generalize rows.take 5 = RS at *
  refine spec_enter Tryz.func94 rfl rfl rfl fun u R => ?_
  simp only [argsE, List.cons_append, List.nil_append]
  repeat' (first | (refine i_op ?_; first | (refine i_qq ?_; refine qQ ?_) | refine qEf ?_) | refine tl_nil ?_ | (refine i_tc ?_; refine qTc ?_) | (refine i_te ?_; refine qTe ?_) | intro _)
  rename_i b1 b2
  refine tc_cut_k R [] (fun (ζ : (Option Addr) × (Nat) × (List Value) × (Option Addr) × (Nat) × (List Value)) => [(1, .pointer (some ⟨b1, 0, none⟩)), (2, .pointer (some ⟨b2, 0, none⟩))]) (fun (ζ : (Option Addr) × (Nat) × (List Value) × (Option Addr) × (Nat) × (List Value)) => ρ) (fun (ζ : (Option Addr) × (Nat) × (List Value) × (Option Addr) × (Nat) × (List Value)) => [ownC (.slice ζ.1 q ζ.2.1) (RS.map rowV).flatten ζ.2.2.1 101, ownC (.slice ζ.2.2.2.1 m ζ.2.2.2.2.1) (KS.map kidV).flatten ζ.2.2.2.2.2 224, [(b1, .cells ⟨[.int .i64 kind, .slice ζ.1 q ζ.2.1, .slice ζ.2.2.2.1 m ζ.2.2.2.2.1]⟩ 110 (0, 0))], [(b2, .cells ⟨[.int .i64 0, .slice none 0 0, .slice none 0 0]⟩ 110 (0, 0))]]) (fun (ζ : (Option Addr) × (Nat) × (List Value) × (Option Addr) × (Nat) × (List Value)) => OwnS (.slice ζ.1 q ζ.2.1) q (RS.map rowV).flatten ζ.2.2.1 4 ∧ OwnS (.slice ζ.2.2.2.1 m ζ.2.2.2.2.1) m (KS.map kidV).flatten ζ.2.2.2.2.2 3) ev_le ?_ ?_
  · refine tc_phase 19 (Stays _ _ ([[(b1, .cells ⟨[.int .i64 kind, .slice ra rn rc, .slice ka kn kc]⟩ 110 (0, 0))]])) (by decide +kernel) (stays_of (hT := tk) (Hp.le_refl _)) ?_
    simp only [List.take_succ_cons, List.take_zero]
    all_goals refine rFa 1 ?_
    all_goals refine rLd 2 ?_
    all_goals refine rFa 3 ?_
    all_goals refine rLd 4 ?_
    all_goals refine rBi 5 ?_
    all_goals refine rBi 6 ?_
    all_goals refine rSl 7 ?_
    all_goals refine rFa 10 ?_
    all_goals refine rLd 11 ?_
    all_goals refine rFa 12 ?_
    all_goals refine rLd 13 ?_
    all_goals refine rBi 14 ?_
    all_goals refine rBi 15 ?_
    all_goals refine rSl 16 ?_
    all_goals (refine rStep2 (i := 0) (j := 9) ?_ ?_ <;> ((try refine qWant ?_); (first | (refine qEf ?_; try intro _)) <;> ((try simp only [kM, kN, kO]); refine tl_nil ?_; refine rNext ?_)))
    all_goals (first | (refine rStep2 (i := 8) (j := 9) ?_ ?_ <;> ((try refine qWant ?_); (first | (simp only [hqt]; refine tl_app (n := 0) (xs := []) (sp := []) (ys := (RS.map rowV).flatten) (m := q) (sz := 4) rfl rfl (OwnS.zero _ 4) (hR := by first | exact rem_here' | exact rem_there' rem_here' | exact rem_there' (rem_there' rem_here')) (AIn.srcV hr5) (by rw [flat_len rowV 4 _ (fun x _ => rfl), hr5.len]) (flatR_one _) (by decide) rfl (by omega) (by omega) rfl (fun v1 sp1 hown1 => ?_); simp only [Nat.zero_add, List.nil_append] at hown1 ⊢; obtain ⟨a1, c1, rfl, hlen1⟩ := hown1.len) | (simp only [hmt]; refine tl_app (n := 0) (xs := []) (sp := []) (ys := (KS.map kidV).flatten) (m := m) (sz := 3) rfl rfl (OwnS.zero _ 3) (hR := by first | exact rem_here' | exact rem_there' rem_here' | exact rem_there' (rem_there' rem_here')) (AIn.srcV hk5) (by rw [flat_len kidV 3 _ (fun x _ => rfl), hk5.len]) (flatK_one _) (by decide) rfl (by omega) (by omega) rfl (fun v2 sp2 hown2 => ?_); simp only [Nat.zero_add, List.nil_append] at hown2 ⊢; obtain ⟨a2, c2, rfl, hlen2⟩ := hown2.len) | (refine qEf ?_; try intro _)) <;> ((try simp only [kM, kN, kO]); refine tl_nil ?_; refine rNext ?_))) | (refine rStep (i := 0) ?_; ((try refine qWant ?_); (first | (refine qEf ?_; try intro _)) <;> ((try simp only [kM, kN, kO]); refine tl_nil ?_; refine rNext ?_))))
    all_goals (first | refine rFa 18 ?_ | (refine rStep (i := 8) ?_; ((try refine qWant ?_); (first | (simp only [hqt]; refine tl_app (n := 0) (xs := []) (sp := []) (ys := (RS.map rowV).flatten) (m := q) (sz := 4) rfl rfl (OwnS.zero _ 4) (hR := by first | exact rem_here' | exact rem_there' rem_here' | exact rem_there' (rem_there' rem_here')) (AIn.srcV hr5) (by rw [flat_len rowV 4 _ (fun x _ => rfl), hr5.len]) (flatR_one _) (by decide) rfl (by omega) (by omega) rfl (fun v1 sp1 hown1 => ?_); simp only [Nat.zero_add, List.nil_append] at hown1 ⊢; obtain ⟨a1, c1, rfl, hlen1⟩ := hown1.len) | (simp only [hmt]; refine tl_app (n := 0) (xs := []) (sp := []) (ys := (KS.map kidV).flatten) (m := m) (sz := 3) rfl rfl (OwnS.zero _ 3) (hR := by first | exact rem_here' | exact rem_there' rem_here' | exact rem_there' (rem_there' rem_here')) (AIn.srcV hk5) (by rw [flat_len kidV 3 _ (fun x _ => rfl), hk5.len]) (flatK_one _) (by decide) rfl (by omega) (by omega) rfl (fun v2 sp2 hown2 => ?_); simp only [Nat.zero_add, List.nil_append] at hown2 ⊢; obtain ⟨a2, c2, rfl, hlen2⟩ := hown2.len) | (refine qEf ?_; try intro _)) <;> ((try simp only [kM, kN, kO]); refine tl_nil ?_; refine rNext ?_))))
    all_goals (first | refine rFa 18 ?_ | (refine rStep (i := 9) ?_; ((try refine qWant ?_); (first | (refine qEf ?_; try intro _)) <;> ((try simp only [kM, kN, kO]); refine tl_nil ?_; refine rNext ?_))))
    all_goals (refine rStep (i := 17) ?_; ((try refine qWant ?_); (first | (simp only [hqt]; refine tl_app (n := 0) (xs := []) (sp := []) (ys := (RS.map rowV).flatten) (m := q) (sz := 4) rfl rfl (OwnS.zero _ 4) (hR := by first | exact rem_here' | exact rem_there' rem_here' | exact rem_there' (rem_there' rem_here')) (AIn.srcV hr5) (by rw [flat_len rowV 4 _ (fun x _ => rfl), hr5.len]) (flatR_one _) (by decide) rfl (by omega) (by omega) rfl (fun v1 sp1 hown1 => ?_); simp only [Nat.zero_add, List.nil_append] at hown1 ⊢; obtain ⟨a1, c1, rfl, hlen1⟩ := hown1.len) | (simp only [hmt]; refine tl_app (n := 0) (xs := []) (sp := []) (ys := (KS.map kidV).flatten) (m := m) (sz := 3) rfl rfl (OwnS.zero _ 3) (hR := by first | exact rem_here' | exact rem_there' rem_here' | exact rem_there' (rem_there' rem_here')) (AIn.srcV hk5) (by rw [flat_len kidV 3 _ (fun x _ => rfl), hk5.len]) (flatK_one _) (by decide) rfl (by omega) (by omega) rfl (fun v2 sp2 hown2 => ?_); simp only [Nat.zero_add, List.nil_append] at hown2 ⊢; obtain ⟨a2, c2, rfl, hlen2⟩ := hown2.len) | (refine qEf ?_; try intro _)) <;> ((try simp only [kM, kN, kO]); refine tl_nil ?_; refine rNext ?_)))
    all_goals refine rDone ?_
    all_goals refine te_phase (fuel := 3) (m := [true, true, true, true, true, true, true, true, true, true, true, true, true, true, true, true, true, true, true, false, false, false]) (Stays _ _ ([])) rfl rfl (stays_of (hT := tk) (Hp.le_refl _)) ?_
    all_goals (refine rStep (i := 19) ?_; ((try refine qWant ?_); (first | (refine qEf ?_; try intro _)) <;> ((try simp only [kM, kN, kO]); refine tl_nil ?_; refine rNext ?_)))
    all_goals refine rFa 20 ?_
    all_goals (refine rStep (i := 21) ?_; ((try refine qWant ?_); (first | (refine qEf ?_; try intro _)) <;> ((try simp only [kM, kN, kO]); refine tl_nil ?_; refine rNext ?_)))
    all_goals refine rDone ?_
    all_goals refine te_cut_g ((a1, c1, sp1, a2, c2, sp2)) (⟨hown1, hown2⟩) ev_le ev_le rfl tk inferInstance
  · rintro ⟨a1, c1, sp1, a2, c2, sp2⟩ ⟨hown1, hown2⟩
    simp only [List.cons_append, List.nil_append] at hown1 hown2 ⊢
    have hRl := hr5.len
    repeat' (first | (refine i_op ?_; first | (refine i_qq ?_; refine qQ ?_) | refine qEf ?_) | refine tl_nil ?_ | (refine i_tc ?_; refine qTc ?_) | (refine i_te ?_; refine qTe ?_) | intro _)
    refine tc_loop_g [(1, _), (2, _), (26, _)] (fun (ζ : (Nat) × (List Row)) => [(27, .int .i64 ζ.1)]) (fun (ζ : (Nat) × (List Row)) => ρ) (fun (ζ : (Nat) × (List Row)) => [ownC (.slice a1 q c1) (ζ.2.map rowV).flatten sp1 101, [(b1, .cells ⟨[.int .i64 kind, .slice a1 q c1, .slice a2 m c2]⟩ 110 (0, 0))]]) (fun (ζ : (Nat) × (List Row)) => ζ.1 ≤ q ∧ ζ.2 = (RS.take ζ.1).map shortR ++ RS.drop ζ.1) (fun (ζ : (Nat) × (List Row)) => q - ζ.1) ((0, RS)) (⟨Nat.zero_le _, by simp⟩) ev_le ev_le rfl tk ?_
    rintro ⟨k, acc⟩ hI
    try simp only [List.cons_append, List.nil_append, List.append_assoc, List.append_eq] at hI ⊢
    try dsimp only at hI ⊢
    obtain ⟨hk0, hacc⟩ := hI
    by_cases hlt : k < q
    · have hal : acc.length = q := by rw [hacc]; simp; omega
      obtain ⟨pb, pc, e1⟩ := hown1.pos (by omega)
      cases e1
      have hkR : k < RS.length := by rw [hRl]; exact hlt
      have hkv := get_step RS k hkR
      have hset := set_step RS k hkR
      rw [← hacc] at hkv
      rw [← hacc] at hset
      generalize RS[k]'hkR = r at *
      have hld := row_get (sp := sp1) acc k r hkv
      haveI hst := row_setL (sp := sp1) (r.note.take (min (r.note.length : Int) 9).toNat) hkv
      have e9 := take_min9 r.note
      repeat' (first | (refine i_op ?_; first | (refine i_qq ?_; refine qQ ?_) | refine qEf ?_) | refine tl_nil ?_ | (refine i_tc ?_; refine qTc ?_) | (refine i_te ?_; refine qTe ?_) | intro _)
      rw [show ownC (.slice (some ⟨pb, 0, none⟩) q c1) ((acc.map rowV).flatten) sp1 101 = [(pb, .cells ⟨(acc.map rowV).flatten ++ sp1⟩ 101 (0, 0))] from rfl]
      refine tc_phase 20 (Stays _ _ ([[(pb, .cells ⟨(acc.map rowV).flatten ++ sp1⟩ 101 (0, 0))], [(b1, .cells ⟨[.int .i64 kind, .slice (some ⟨pb, 0, none⟩) q c1, .slice a2 m c2]⟩ 110 (0, 0))]])) (by decide +kernel) (stays_of (hT := tk) (Hp.le_refl _)) ?_
      simp only [List.take_succ_cons, List.take_zero]
      all_goals refine rFa 0 ?_
      all_goals refine rLd 1 ?_
      all_goals refine rMv 2 ?_
      all_goals refine rFa 3 ?_
      all_goals refine rLd 4 ?_
      all_goals refine rMv 5 ?_
      all_goals refine rIa 6 ?_
      all_goals refine rFa 7 ?_
      all_goals refine rLd 8 ?_
      all_goals refine rFa 9 ?_
      all_goals refine rLd 10 ?_
      all_goals refine rMv 11 ?_
      all_goals refine rIa 12 ?_
      all_goals refine rFa 13 ?_
      all_goals refine rLd 14 ?_
      all_goals refine rBi 15 ?_
      all_goals refine rBi 16 ?_
      all_goals refine rSl 17 ?_
      all_goals refine rIa 18 ?_
      all_goals refine rFa 19 ?_
      all_goals refine rDone ?_
      all_goals refine te_phase (fuel := 1) (m := [true, true, true, true, true, true, true, true, true, true, true, true, true, true, true, true, true, true, true, true, false]) (Stays _ _ ([])) rfl rfl (stays_of (hT := tk) (Hp.le_refl _)) ?_
      all_goals (refine rStep (i := 20) ?_; ((try refine qWant ?_); (first | (refine qEf ?_; try intro _)) <;> ((try simp only [kM, kN, kO]); refine tl_nil ?_; refine rNext ?_)))
      all_goals refine rDone ?_
      all_goals rw [e9]
      all_goals (repeat' (first | (refine i_op ?_; first | (refine i_qq ?_; refine qQ ?_) | refine qEf ?_) | refine tl_nil ?_ | (refine i_tc ?_; refine qTc ?_) | (refine i_te ?_; refine qTe ?_) | intro _))
      have hsr : (⟨r.t, r.id, r.val, r.note.take 9⟩ : Row) = shortR r := rfl
      rw [hsr]
      rw [← show ownC (.slice (some ⟨pb, 0, none⟩) q c1) (((acc.set k (shortR r)).map rowV).flatten) sp1 101 = [(pb, .cells ⟨((acc.set k (shortR r)).map rowV).flatten ++ sp1⟩ 101 (0, 0))] from rfl]
      refine te_round_g (k + 1, acc.set k (shortR r)) (⟨hlt, hset⟩) ev_le ev_le rfl tk inferInstance (by first | omega | (dsimp only; omega))
    · have hkq : k = q := by omega
      have hfin : acc = RS.map shortR := by rw [hacc, List.take_of_length_le (by omega), List.drop_eq_nil_of_le (by omega), List.append_nil]
      have hal : acc.length = q := by rw [hfin]; simp; omega
      have hown1' : OwnS (.slice a1 q c1) q ((acc.map rowV).flatten) sp1 4 := by
        have hL : ((acc.map rowV).flatten).length = ((RS.map rowV).flatten).length := by rw [flat_len rowV 4 _ (fun x _ => rfl), flat_len rowV 4 _ (fun x _ => rfl), hal, hRl]
        rcases hown1.out with ⟨h1, h2, h3, h4⟩ | ⟨b, cap, h1, h2, h3, h4⟩
        · exact ⟨.inl ⟨h1, h2, List.eq_nil_of_length_eq_zero (by rw [hL, h3]; rfl), h4⟩⟩
        · exact ⟨.inr ⟨b, cap, h1, by rw [hL]; exact h2, by rw [hL]; exact h3, h4⟩⟩
      refine tc_freeze (ownC (.slice a1 q c1) ((acc.map rowV).flatten) sp1 101) (fun ρ1 hle1 hfz1 => ?_)
      obtain ⟨a3, c3, e3, hc3, hA3⟩ := hown1'.aIn hal (fun x _ => rfl) hfz1
      cases e3
      refine tc_freeze (ownC (.slice a2 m c2) ((KS.map kidV).flatten) sp2 224) (fun ρ2 hle2 hfz2 => ?_)
      obtain ⟨a4, c4, e4, hc4, hA4⟩ := hown2.aIn hk5.len (fun x _ => rfl) hfz2
      cases e4
      repeat' (first | (refine i_op ?_; first | (refine i_qq ?_; refine qQ ?_) | refine qEf ?_) | refine tl_nil ?_ | (refine i_tc ?_; refine qTc ?_) | (refine i_te ?_; refine qTe ?_) | intro _)
      exact qE (L' := []) ⟨Hp.le_trans hle1 hle2, ⟨a1, q, c1, a2, m, c2⟩, rfl, ⟨by rw [← hfin]; exact hA3.mono hle2, hA4, by dsimp only; omega, by dsimp only; omega, hc3, hc4⟩, rfl⟩
end Go.Proofs.E

namespace Go.Proofs.E
open Go
set_option linter.unusedVariables false
set_option linter.unusedSimpArgs false
set_option linter.unusedSectionVars false
set_option maxRecDepth 4000
set_option maxHeartbeats 1000000
attribute [local irreducible] Yl TL TC TE Spec YSpec R1 Hp.le EnvLe TS TR YS Stays
-- BN
def fewIm (x : Im) : Im := ⟨x.page, nilCV, fewC x.b, nilCV, fewC x.a⟩
def shortS (s : Stp) : Stp := ⟨s.kind, shortR s.row, s.by'⟩
def fewR (r : Rc) : Rc := { r with ims := (r.ims.take 17).map fewIm, steps := (r.steps.take 3).map shortS, txns := r.txns.take 9, dirty := r.dirty.take 65 }
theorem CW.few {ρ v c} (h : CW ρ v c) : CInW ρ v c.rows c.kids := ⟨h.r, h.k, by have := h.rb; omega, by have := h.kb; omega, h.rc, h.kc⟩
theorem fewC_fit {ρ v c} (h : CW ρ v c) {ρ' v'} (h' : CIn ρ' v' (fewC c).rows (fewC c).kids) : CI ρ' v' (fewC c) := ⟨h', fun r hr => by
    obtain ⟨y, hy, rfl⟩ := List.mem_map.1 hr
    have := h.row y (List.mem_of_mem_take hy)
    exact ⟨this.id, this.val⟩, fun k hk => h.kid k (List.mem_of_mem_take hk)⟩
theorem flat_one {α : Type} (g : α → List Value) (hg : ∀ x, (g x).all (·.oneCell') = true) (l : List α) : ((l.map g).flatten).all (·.oneCell') = true := by
  induction l with
  | nil => rfl
  | cons k r ih => simp only [List.map_cons, List.flatten_cons, List.all_append, ih, Bool.and_true]; exact hg k
theorem take_some {α : Type} (c : Nat) (l : List α) (n m : Nat) (h : l.length = n) (hm : m = min n c) : l.take m = l.take c := by
  by_cases h5 : n ≤ c
  · rw [show m = n by omega, List.take_of_length_le (by omega), List.take_of_length_le (by omega)]
  · rw [show m = c by omega]
theorem stp_get {sp : List Value} : ∀ (acc : List Stp) (k : Nat) (r : Stp), acc[k]? = some r → ((acc.map stpV).flatten ++ sp)[0 + k * 6 + 1 + 3]? = some (strV r.row.note)
  | [], k, r, h => by cases h
  | a :: t, 0, r, h => by cases h; rfl
  | a :: t, k + 1, r, h => by
    have ih := stp_get (sp := sp) t k r (by simpa using h)
    rw [show 0 + (k + 1) * 6 + 1 + 3 = (0 + k * 6 + 1 + 3) + 6 by omega]
    simpa only [List.map_cons, List.flatten_cons, stpV, List.cons_append, List.nil_append, List.getElem?_cons_succ] using ih
def noteS (r : Stp) (s : List UInt8) : Stp := ⟨r.kind, ⟨r.row.t, r.row.id, r.row.val, s⟩, r.by'⟩
theorem stp_set {sp : List Value} (s : List UInt8) : ∀ (acc : List Stp) (k : Nat) (r : Stp), acc[k]? = some r → ((acc.map stpV).flatten ++ sp).set (0 + k * 6 + 1 + 3) (strV s) = ((acc.set k (noteS r s)).map stpV).flatten ++ sp
  | [], k, r, h => by cases h
  | a :: t, 0, r, h => by cases h; rfl
  | a :: t, k + 1, r, h => by
    have ih := stp_set (sp := sp) s t k r (by simpa using h)
    rw [show 0 + (k + 1) * 6 + 1 + 3 = (0 + k * 6 + 1 + 3) + 6 by omega]
    simp only [List.map_cons, List.flatten_cons, stpV, List.cons_append, List.nil_append, List.set_cons_succ]
    rw [ih]
theorem stp_setL {sp : List Value} (s : List UInt8) {acc : List Stp} {k : Nat} {r : Stp} (h : acc[k]? = some r) : SetL ((acc.map stpV).flatten ++ sp) (0 + k * 6 + 1 + 3) (strV s) (((acc.set k (noteS r s)).map stpV).flatten ++ sp) := by
  have h1 := stp_get (sp := sp) acc k r h
  have hlt : 0 + k * 6 + 1 + 3 < ((acc.map stpV).flatten ++ sp).length := by
    rcases Nat.lt_or_ge (0 + k * 6 + 1 + 3) ((acc.map stpV).flatten ++ sp).length with hh | hh
    · exact hh
    · rw [List.getElem?_eq_none hh] at h1; cases h1
  refine ⟨hlt, ?_⟩
  rw [← stp_set s acc k r h, List.set_eq_take_append_cons_drop, if_pos hlt]
  simp [stc]
theorem set_stepG {α : Type} (f : α → α) (RS : List α) (k : Nat) (h : k < RS.length) : ((RS.take k).map f ++ RS.drop k).set k (f RS[k]) = (RS.take (k + 1)).map f ++ RS.drop (k + 1) := by
  rw [List.set_append_right _ _ (by simp; omega), List.drop_eq_getElem_cons h, List.take_succ_eq_append_getElem h]
  rw [show k - ((RS.take k).map f).length = 0 by simp; omega]
  simp only [List.set_cons_zero, List.map_append, List.map_cons, List.map_nil, List.append_assoc, List.cons_append, List.nil_append]
theorem get_stepG {α : Type} (f : α → α) (RS : List α) (k : Nat) (h : k < RS.length) : ((RS.take k).map f ++ RS.drop k)[k]? = some RS[k] := by
  rw [List.getElem?_append_right (by simp; omega), List.drop_eq_getElem_cons h]
  simp [show k - min k RS.length = 0 by omega]
theorem few12_spec (ρ : Hp) (v : RV) (r : Rc) (h : RcW ρ v r) : Spec Tryz.prog 25 [.agg ⟨recV v r⟩] ρ []
    (fun z ρ' L' => ρ.le ρ' ∧ ∃ v' r', z = .agg ⟨recV v' r'⟩ ∧ RcIn ρ' v' r' ∧ r'.plain = fewR r ∧ L' = []) := by
  obtain ⟨hi, him, hs, ht, hd, hsf⟩ := h
  have hsl := hs.at'.len
  have hsb := hs.big
  have htl := ht.at'.len
  have htb := ht.big
  have hdl := hd.at'.len
  have hdb := hd.big
  have cs := hs.cap
  have ct := ht.cap
  have cd := hd.cap
  obtain ⟨ms, hms⟩ : ∃ m, m = min v.s.n 3 := ⟨_, rfl⟩
  obtain ⟨mt, hmt⟩ : ∃ m, m = min v.t.n 9 := ⟨_, rfl⟩
  obtain ⟨md, hmd⟩ : ∃ m, m = min v.d.n 65 := ⟨_, rfl⟩
  have hsm : (min (v.s.n : Int) 3).toNat = ms := by omega
  have htm : (min (v.t.n : Int) 9).toNat = mt := by omega
  have hdm : (min (v.d.n : Int) 65).toNat = md := by omega
  have hS := hs.at'.take (hi' := ms) (by omega)
  have hT := ht.at'.take (hi' := mt) (by omega)
  have hD := hd.at'.take (hi' := md) (by omega)
  rw [take_some 3 _ _ _ hsl hms] at hS
  rw [take_some 9 _ _ _ htl hmt] at hT
  rw [take_some 65 _ _ _ hdl hmd] at hD
  have hSf : ∀ s ∈ r.steps.take 3, RowFit s.row := fun s hh => hsf s (List.mem_of_mem_take hh)
  have hil := hi.at'.len
  have hib := hi.big
  refine spec_enter Tryz.func25 rfl rfl rfl fun u R => ?_
  simp only [argsE, List.cons_append, List.nil_append]
  repeat' (first | (refine iBu ?_; refine tl_y (y_buildN rfl) rfl rfl ?_) | (refine i_op ?_; first | (refine i_qq ?_; refine qQ ?_) | refine qEf ?_) | refine tl_nil ?_ | (refine i_tc ?_; refine qTc ?_) | (refine i_te ?_; refine qTe ?_) | intro _)
  rename_i b1 b2
  refine tc_loop_g [(1, _), (2, _), (8, _), (9, _)] (fun (ζ : (Nat) × (Hp) × (Value) × (List Value) × (List Im)) => [(10, .int .i64 ζ.1), (3, ζ.2.2.1)]) (fun (ζ : (Nat) × (Hp) × (Value) × (List Value) × (List Im)) => ζ.2.1) (fun (ζ : (Nat) × (Hp) × (Value) × (List Value) × (List Im)) => [ownC ζ.2.2.1 ((ζ.2.2.2.2.map imV).flatten) ζ.2.2.2.1 128]) (fun (ζ : (Nat) × (Hp) × (Value) × (List Value) × (List Im)) => ζ.1 ≤ v.i.n ∧ ρ.le ζ.2.1 ∧ OwnS ζ.2.2.1 ζ.2.2.2.2.length ((ζ.2.2.2.2.map imV).flatten) ζ.2.2.2.1 7 ∧ ζ.2.2.2.2.map Im.plain = (r.ims.take (min ζ.1 17)).map fewIm ∧ (∀ x ∈ ζ.2.2.2.2, Im.In ζ.2.1 x)) (fun (ζ : (Nat) × (Hp) × (Value) × (List Value) × (List Im)) => v.i.n - ζ.1) ((0, ρ, .slice none 0 0, [], [])) (⟨Nat.zero_le _, Hp.le_refl _, OwnS.nil 7, by simp, by simp⟩) ev_le ev_le rfl tk ?_
  rintro ⟨k, ρ1, vv, sp, acc⟩ hI
  try simp only [List.cons_append, List.nil_append, List.append_assoc, List.append_eq] at hI ⊢
  try dsimp only at hI ⊢
  obtain ⟨hk, hle1, hown, hacc, hin⟩ := hI
  have hal : acc.length = min k 17 := by have := congrArg List.length hacc; simp at this; omega
  obtain ⟨va, vc, rfl, _⟩ := hown.slice
  by_cases hlt : k < v.i.n
  · obtain ⟨b, off, C, T, fr, e1, hb, hfit, hc⟩ := (hi.at'.mono hle1).get (show k < r.ims.length by omega)
    have hts := List.take_succ_eq_append_getElem (show k < r.ims.length by omega)
    obtain ⟨hxb, hxa⟩ := him _ (List.getElem_mem (show k < r.ims.length by omega))
    generalize r.ims[k]'(by omega) = x at *
    rw [e1]
    by_cases h16 : k ≤ 16
    · have hcb := content12_spec ρ1 x.bv x.b (hxb.mono hle1).few
      have hca := fun ρ2 (hle : ρ1.le ρ2) => content12_spec ρ2 x.av x.a (hxa.mono (Hp.le_trans hle1 hle)).few
      repeat' (first | (refine iBu ?_; refine tl_y (y_buildN rfl) rfl rfl ?_) | (refine i_op ?_; first | (refine i_qq ?_; refine qQ ?_) | refine qEf ?_) | refine tl_nil ?_ | (refine i_tc ?_; refine qTc ?_) | (refine i_te ?_; refine qTe ?_) | intro _)
      refine tc_any (Stays _ _ ([[(_, .cells ⟨imV x⟩ 128 (0, 0))]])) (stays_of (hT := tk) (Hp.le_refl _)) ?_
      all_goals refine rMv 0 ?_
      all_goals refine rFa 1 ?_
      all_goals refine rLd 2 ?_
      all_goals refine rFa 3 ?_
      all_goals refine rLd 4 ?_
      all_goals refine rFa 6 ?_
      all_goals refine rLd 7 ?_
      all_goals (refine rStep (i := 5) ?_; ((try refine qWant ?_); (first | (refine tl_is (.func 94) ?_; refine qC rfl rfl (hcb) ?_; rintro v ρ' L' hle ⟨hl2, w2, rfl, hC2, rfl⟩ <;> (try simp only [kM, kN, kO])) | (refine tl_is (.func 94) ?_; refine qC rfl rfl (hca _ hl2) ?_; rintro v ρ' L' hle ⟨hl3, w3, rfl, hC3, rfl⟩ <;> (try simp only [kM, kN, kO])) | (refine qEf ?_; try intro _)) <;> ((try simp only [kM, kN, kO]); refine tl_nil ?_; refine rNext ?_)))
      all_goals (refine rStep (i := 8) ?_; ((try refine qWant ?_); (first | (refine tl_is (.func 94) ?_; refine qC rfl rfl (hcb) ?_; rintro v ρ' L' hle ⟨hl2, w2, rfl, hC2, rfl⟩ <;> (try simp only [kM, kN, kO])) | (refine tl_is (.func 94) ?_; refine qC rfl rfl (hca _ hl2) ?_; rintro v ρ' L' hle ⟨hl3, w3, rfl, hC3, rfl⟩ <;> (try simp only [kM, kN, kO])) | (refine qEf ?_; try intro _)) <;> ((try simp only [kM, kN, kO]); refine tl_nil ?_; refine rNext ?_)))
      all_goals refine rBu 9 ?_ (y := fun _ _ => y_buildN rfl)
      all_goals (refine rStep (i := 10) ?_; ((try refine qWant ?_); (first | (refine tl_buildSliceA (css := [[.int .i64 x.page, .int .i64 x.b.kind, .slice w2.ra w2.rn w2.rc, .slice w2.ka w2.kn w2.kc, .int .i64 x.a.kind, .slice w3.ra w3.rn w3.rc, .slice w3.ka w3.kn w3.kc]]) (sz := 7) rfl rfl rfl rfl (by simp) (by simp) rfl (fun bs => ?_); simp only [List.flatten_cons, List.flatten_nil, List.append_nil]) | (refine qEf ?_; try intro _)) <;> ((try simp only [kM, kN, kO]); refine tl_nil ?_; refine rNext ?_)))
      all_goals (refine rStep (i := 11) ?_; ((try refine qWant ?_); (first | (refine tl_buildSliceA (css := [[.int .i64 x.page, .int .i64 x.b.kind, .slice w2.ra w2.rn w2.rc, .slice w2.ka w2.kn w2.kc, .int .i64 x.a.kind, .slice w3.ra w3.rn w3.rc, .slice w3.ka w3.kn w3.kc]]) (sz := 7) rfl rfl rfl rfl (by simp) (by simp) rfl (fun bs => ?_); simp only [List.flatten_cons, List.flatten_nil, List.append_nil]) | (refine tl_app (ys := [.int .i64 x.page, .int .i64 x.b.kind, .slice w2.ra w2.rn w2.rc, .slice w2.ka w2.kn w2.kc, .int .i64 x.a.kind, .slice w3.ra w3.rn w3.rc, .slice w3.ka w3.kn w3.kc]) (m := 1) rfl rfl hown (hR := by infer_instance) (SrcV.lit) rfl rfl (by decide) rfl (by omega) (by omega) rfl (fun v' sp' hown' => ?_)) | (refine qEf ?_; try intro _)) <;> ((try simp only [kM, kN, kO]); refine tl_nil ?_; refine rNext ?_)))
      all_goals refine rFull ?_
      all_goals refine rAs 12 ?_
      all_goals refine rDone ?_
      all_goals (
        have hy : ∃ y : Im, (⟨x.page, w2, fewC x.b, w3, fewC x.a⟩ : Im) = y := ⟨_, rfl⟩
        obtain ⟨y, hy⟩ := hy
        have hyp : y.plain = fewIm x := by rw [← hy]; rfl
        have hyi : Im.In ρ' y := by rw [← hy]; exact ⟨(fewC_fit hxb hC2).mono hl3, fewC_fit hxa hC3⟩
        have hyl : [.int .i64 x.page, .int .i64 x.b.kind, .slice w2.ra w2.rn w2.rc, .slice w2.ka w2.kn w2.kc, .int .i64 x.a.kind, .slice w3.ra w3.rn w3.rc, .slice w3.ka w3.kn w3.kc] = imV y := by rw [← hy]; rfl
        rw [hyl] at hown' ⊢
        have hm : (acc.map imV).flatten ++ imV y = ((acc ++ [y]).map imV).flatten := by simp
        rw [hm] at hown' ⊢
        have hac2 : (acc ++ [y]).map Im.plain = (r.ims.take (min (k + 1) 17)).map fewIm := by
          rw [List.map_append, hacc, show min k 17 = k by omega, show min (k + 1) 17 = k + 1 by omega, hts]
          simp [hyp]
        have hin2 : ∀ z ∈ acc ++ [y], Im.In ρ' z := fun z hz => by
          rcases List.mem_append.1 hz with hz | hz
          · exact (hin z hz).mono (Hp.le_trans hl2 hl3)
          · rw [List.mem_singleton.1 hz]; exact hyi
        have hown2 : OwnS v' (acc ++ [y]).length (((acc ++ [y]).map imV).flatten) sp' 7 := by simpa using hown'
        obtain ⟨va', vc', rfl, _⟩ := hown2.slice
        skip)
      all_goals (repeat' (first | (refine iBu ?_; refine tl_y (y_buildN rfl) rfl rfl ?_) | (refine i_op ?_; first | (refine i_qq ?_; refine qQ ?_) | refine qEf ?_) | refine tl_nil ?_ | (refine i_tc ?_; refine qTc ?_) | (refine i_te ?_; refine qTe ?_) | intro _))
      all_goals rw [← e1]
      all_goals refine te_round_g (k + 1, _, _, sp', acc ++ [y]) (⟨hlt, Hp.le_trans hle1 (Hp.le_trans hl2 hl3), hown2, hac2, hin2⟩) ev_le ev_le rfl tk inferInstance (by first | omega | (dsimp only; omega))
    · have hacc' : acc.map Im.plain = (r.ims.take (min (k + 1) 17)).map fewIm := by rw [hacc, show min k 17 = 17 by omega, show min (k + 1) 17 = 17 by omega]
      repeat' (first | (refine iBu ?_; refine tl_y (y_buildN rfl) rfl rfl ?_) | (refine i_op ?_; first | (refine i_qq ?_; refine qQ ?_) | refine qEf ?_) | refine tl_nil ?_ | (refine i_tc ?_; refine qTc ?_) | (refine i_te ?_; refine qTe ?_) | intro _)
      rw [← e1]
      refine te_round_g (k + 1, ρ1, _, sp, acc) (⟨hlt, hle1, hown, hacc', hin⟩) ev_le ev_le rfl tk inferInstance (by first | omega | (dsimp only; omega))
  · have hk2 : k = v.i.n := by omega
    have hacc2 : acc.map Im.plain = (r.ims.take 17).map fewIm := by rw [hacc, take_some 17 r.ims v.i.n (min k 17) hil (by omega)]
    have hρ := hle1
    have hSl := hS.len
    have hTl := hT.len
    have hDl := hD.len
    unfold fewR
    generalize hSS : r.steps.take 3 = SS at *
    generalize hTT : r.txns.take 9 = TT at *
    generalize hDD : r.dirty.take 65 = DD at *
    refine tc_freeze (ownC (.slice va acc.length vc) ((acc.map imV).flatten) sp 128) (fun ρ2 hle2 hfz => ?_)
    obtain ⟨sa, sc, e1, hsc, hAI⟩ := hown.aIn rfl (fun x _ => imV_len x) hfz
    cases e1
    have hρ := Hp.le_trans hρ hle2
    clear hfz
    repeat' (first | (simp only [hsm]; refine tl_app (n := 0) (xs := []) (sp := []) (ys := (SS.map stpV).flatten) (m := ms) (sz := 6) rfl rfl (OwnS.zero _ 6) (hR := rem_here') (AIn.srcV (hS.mono hρ)) (by rw [flat_len stpV 6 _ (fun x _ => rfl), hSl]) (flat_one stpV stpV_one _) (by decide) rfl (by omega) (by omega) rfl (fun v1 sp1 hown1 => ?_); simp only [Nat.zero_add, List.nil_append] at hown1 ⊢; obtain ⟨a1, c1, rfl, hlen1⟩ := hown1.len) | (refine iBu ?_; refine tl_y (y_buildN rfl) rfl rfl ?_) | (refine i_op ?_; first | (refine i_qq ?_; refine qQ ?_) | refine qEf ?_) | refine tl_nil ?_ | (refine i_tc ?_; refine qTc ?_) | (refine i_te ?_; refine qTe ?_) | intro _)
    refine tc_loop_g [(1, _), (2, _), (44, _)] (fun (ζ : (Nat) × (List Stp)) => [(45, .int .i64 ζ.1)]) (fun (ζ : (Nat) × (List Stp)) => ρ2) (fun (ζ : (Nat) × (List Stp)) => [ownC (.slice a1 ms c1) (ζ.2.map stpV).flatten sp1 103, [(b1, .cells ⟨[.int .i64 r.kind, .int .u64 r.lsn, .int .i64 r.txn, .int .u64 r.prev, .int .u64 r.next, .slice va acc.length vc, .slice a1 ms c1, .int .i64 r.nextTxn, .slice v.t.a v.t.n v.t.c, .slice v.d.a v.d.n v.d.c]⟩ 30 (0, 0))]]) (fun (ζ : (Nat) × (List Stp)) => ζ.1 ≤ ms ∧ ζ.2 = (SS.take ζ.1).map shortS ++ SS.drop ζ.1) (fun (ζ : (Nat) × (List Stp)) => ms - ζ.1) ((0, SS)) (⟨Nat.zero_le _, by simp⟩) ev_le ev_le rfl tk ?_
    rintro ⟨j, accS⟩ hI
    try simp only [List.cons_append, List.nil_append, List.append_assoc, List.append_eq] at hI ⊢
    try dsimp only at hI ⊢
    obtain ⟨hj0, haccS⟩ := hI
    have halS : accS.length = ms := by rw [haccS]; simp; omega
    by_cases hlj : j < ms
    · obtain ⟨pb, pc, e1⟩ := hown1.pos (by omega)
      cases e1
      have hkR : j < SS.length := by omega
      have hkv := get_stepG shortS SS j hkR
      have hset := set_stepG shortS SS j hkR
      rw [← haccS] at hkv
      rw [← haccS] at hset
      generalize SS[j]'hkR = x at *
      have hld := stp_get (sp := sp1) accS j x hkv
      haveI hst := stp_setL (sp := sp1) (x.row.note.take (min (x.row.note.length : Int) 9).toNat) hkv
      have e9 := take_min9 x.row.note
      repeat' (first | (refine iBu ?_; refine tl_y (y_buildN rfl) rfl rfl ?_) | (refine i_op ?_; first | (refine i_qq ?_; refine qQ ?_) | refine qEf ?_) | refine tl_nil ?_ | (refine i_tc ?_; refine qTc ?_) | (refine i_te ?_; refine qTe ?_) | intro _)
      rw [show ownC (.slice (some ⟨pb, 0, none⟩) ms c1) ((accS.map stpV).flatten) sp1 103 = [(pb, .cells ⟨(accS.map stpV).flatten ++ sp1⟩ 103 (0, 0))] from rfl]
      refine tc_phase 23 (Stays _ _ ([[(pb, .cells ⟨(accS.map stpV).flatten ++ sp1⟩ 103 (0, 0))], [(b1, .cells ⟨[.int .i64 r.kind, .int .u64 r.lsn, .int .i64 r.txn, .int .u64 r.prev, .int .u64 r.next, .slice va acc.length vc, .slice (some ⟨pb, 0, none⟩) ms c1, .int .i64 r.nextTxn, .slice v.t.a v.t.n v.t.c, .slice v.d.a v.d.n v.d.c]⟩ 30 (0, 0))]])) (by decide +kernel) (stays_of (hT := tk) (Hp.le_refl _)) ?_
      simp only [List.take_succ_cons, List.take_zero]
      all_goals refine rFa 0 ?_
      all_goals refine rLd 1 ?_
      all_goals refine rMv 2 ?_
      all_goals refine rFa 3 ?_
      all_goals refine rLd 4 ?_
      all_goals refine rMv 5 ?_
      all_goals refine rIa 6 ?_
      all_goals refine rFa 7 ?_
      all_goals refine rFa 8 ?_
      all_goals refine rLd 9 ?_
      all_goals refine rFa 10 ?_
      all_goals refine rLd 11 ?_
      all_goals refine rMv 12 ?_
      all_goals refine rIa 13 ?_
      all_goals refine rFa 14 ?_
      all_goals refine rFa 15 ?_
      all_goals refine rLd 16 ?_
      all_goals refine rBi 17 ?_
      all_goals refine rBi 18 ?_
      all_goals refine rSl 19 ?_
      all_goals refine rIa 20 ?_
      all_goals refine rFa 21 ?_
      all_goals refine rFa 22 ?_
      all_goals refine rDone ?_
      all_goals refine te_phase (fuel := 1) (m := [true, true, true, true, true, true, true, true, true, true, true, true, true, true, true, true, true, true, true, true, true, true, true, false]) (Stays _ _ ([])) rfl rfl (stays_of (hT := tk) (Hp.le_refl _)) ?_
      all_goals (refine rStep (i := 23) ?_; ((try refine qWant ?_); (first | (refine qEf ?_; try intro _)) <;> ((try simp only [kM, kN, kO]); refine tl_nil ?_; refine rNext ?_)))
      all_goals refine rDone ?_
      all_goals rw [e9]
      all_goals (repeat' (first | (refine iBu ?_; refine tl_y (y_buildN rfl) rfl rfl ?_) | (refine i_op ?_; first | (refine i_qq ?_; refine qQ ?_) | refine qEf ?_) | refine tl_nil ?_ | (refine i_tc ?_; refine qTc ?_) | (refine i_te ?_; refine qTe ?_) | intro _))
      have hsr : noteS x (x.row.note.take 9) = shortS x := rfl
      rw [hsr]
      rw [← show ownC (.slice (some ⟨pb, 0, none⟩) ms c1) (((accS.set j (shortS x)).map stpV).flatten) sp1 103 = [(pb, .cells ⟨((accS.set j (shortS x)).map stpV).flatten ++ sp1⟩ 103 (0, 0))] from rfl]
      refine te_round_g (j + 1, accS.set j (shortS x)) (⟨hlj, hset⟩) ev_le ev_le rfl tk inferInstance (by first | omega | (dsimp only; omega))
    · have hfin : accS = SS.map shortS := by rw [haccS, List.take_of_length_le (by omega), List.drop_eq_nil_of_le (by omega), List.append_nil]
      have hown1' : OwnS (.slice a1 ms c1) ms ((accS.map stpV).flatten) sp1 6 := by
        have hL : ((accS.map stpV).flatten).length = ((SS.map stpV).flatten).length := by rw [flat_len stpV 6 _ (fun x _ => rfl), flat_len stpV 6 _ (fun x _ => rfl), halS, hSl]
        rcases hown1.out with ⟨h1, h2, h3, h4⟩ | ⟨b, cap, h1, h2, h3, h4⟩
        · exact ⟨.inl ⟨h1, h2, List.eq_nil_of_length_eq_zero (by rw [hL, h3]; rfl), h4⟩⟩
        · exact ⟨.inr ⟨b, cap, h1, by rw [hL]; exact h2, by rw [hL]; exact h3, h4⟩⟩
      refine tc_freeze (ownC (.slice a1 ms c1) ((accS.map stpV).flatten) sp1 103) (fun ρ3 hle3 hfz => ?_)
      obtain ⟨sa3, sc3, e3, hsc3, hAS⟩ := hown1'.aIn halS (fun x _ => stpV_len x) hfz
      cases e3
      have hρ := Hp.le_trans hρ hle3
      clear hfz
      repeat' (first | (simp only [htm]; refine tl_app (n := 0) (xs := []) (sp := []) (ys := (TT.map ckTV).flatten) (m := mt) (sz := 5) rfl rfl (OwnS.zero _ 5) (hR := rem_here') (AIn.srcV (hT.mono hρ)) (by rw [flat_len ckTV 5 _ (fun x _ => rfl), hTl]) (flat_one ckTV ckTV_one _) (by decide) rfl (by omega) (by omega) rfl (fun v4 sp4 hown4 => ?_); simp only [Nat.zero_add, List.nil_append] at hown4 ⊢; refine tl_freeze _ (h := Rem.here) (fun ρ4 hle4 hfz => ?_); obtain ⟨a4, c4, rfl, hsc4, hAT⟩ := hown4.aIn hTl (fun x _ => ckTV_len x) hfz; clear hfz) | (simp only [hdm]; refine tl_app (n := 0) (xs := []) (sp := []) (ys := (DD.map ckPV).flatten) (m := md) (sz := 2) rfl rfl (OwnS.zero _ 2) (hR := rem_here') (AIn.srcV ((hD.mono hρ).mono hle4)) (by rw [flat_len ckPV 2 _ (fun x _ => rfl), hDl]) (flat_one ckPV ckPV_one _) (by decide) rfl (by omega) (by omega) rfl (fun v5 sp5 hown5 => ?_); simp only [Nat.zero_add, List.nil_append] at hown5 ⊢; refine tl_freeze _ (h := Rem.here) (fun ρ5 hle5 hfz => ?_); obtain ⟨a5, c5, rfl, hsc5, hAD⟩ := hown5.aIn hDl (fun x _ => ckPV_len x) hfz; clear hfz) | (refine iBu ?_; refine tl_y (y_buildN rfl) rfl rfl ?_) | (refine i_op ?_; first | (refine i_qq ?_; refine qQ ?_) | refine qEf ?_) | refine tl_nil ?_ | (refine i_tc ?_; refine qTc ?_) | (refine i_te ?_; refine qTe ?_) | intro _)
      have h25 := Hp.le_trans hle3 (Hp.le_trans hle4 hle5)
      exact qE (L' := []) ⟨Hp.le_trans hρ (Hp.le_trans hle4 hle5), ⟨⟨va, acc.length, vc⟩, ⟨a1, ms, c1⟩, ⟨a4, mt, c4⟩, ⟨a5, md, c5⟩⟩, { r with ims := acc, steps := accS, txns := TT, dirty := DD }, rfl, ⟨⟨hAI.mono h25, by dsimp only; omega, hsc⟩, fun x hx => (hin x hx).mono (Hp.le_trans hle2 h25), ⟨hAS.mono (Hp.le_trans hle4 hle5), by dsimp only; omega, hsc3⟩, ⟨hAT.mono hle5, by dsimp only; omega, hsc4⟩, ⟨hAD, by dsimp only; omega, hsc5⟩, by rw [hfin]; intro s hs2; obtain ⟨y, hy, rfl⟩ := List.mem_map.1 hs2; exact ⟨(hSf y hy).id, (hSf y hy).val⟩⟩, by rw [hfin, ← hacc2], rfl⟩
end Go.Proofs.E

namespace Go.Proofs.E
open Go
set_option linter.unusedVariables false
set_option linter.unusedSimpArgs false
set_option linter.unusedSectionVars false
set_option maxRecDepth 4000
set_option maxHeartbeats 1000000
attribute [local irreducible] Yl TL TC TE Spec YSpec R1 Hp.le EnvLe TS TR YS Stays
-- BN
def wkR : Rc := ⟨4, 5, 7, 4, 1, [], [⟨1, ⟨0, 3, 0, []⟩, -2⟩], 0, [], []⟩
theorem wkR_ok : recOk wkR = true := by decide +kernel
theorem wkR_len : (recB wkR).length = 42 := by decide +kernel
theorem wkR_cost : costN wkR = 1 := by decide +kernel
theorem wkR_res : reserveN wkR = 3 := by decide +kernel
theorem wkR_f : RcF wkR := ⟨by simp [wkR], by
  intro s hs
  simp only [wkR, List.mem_singleton] at hs
  subst hs
  exact ⟨⟨by decide, by decide⟩, by decide, by decide⟩⟩
theorem wkR_dec : decOk (recB wkR) = true ∧ decR (recB wkR) = wkR.plain := dec_enc wkR_ok wkR_f
theorem wakes12_spec (ρ : Hp) : Spec Tryz.prog 21 [] ρ [] (fun v ρ' L' => v = .bool true ∧ ρ.le ρ' ∧ L' = []) := by
  have hρ := Hp.le_refl ρ
  refine spec_enter Tryz.func21 rfl rfl rfl fun u R => ?_
  simp only [argsE, List.cons_append, List.nil_append]
  repeat' (first | (refine tl_buildSliceA (css := [stpV ⟨1, ⟨0, 3, 0, []⟩, -2⟩]) (sz := 6) rfl rfl rfl rfl (by simp) (by simp) rfl (fun bs => ?_); simp only [List.flatten_cons, List.flatten_nil, List.append_nil]; refine tl_freeze _ (h := Rem.here) (fun ρz hlz hfz => ?_); have hbs := hfz _ (List.mem_singleton.2 rfl); clear hfz; have hρ := Hp.le_trans hρ hlz; clear hlz; (try simp only [List.nil_append])) | (refine iBu ?_; refine tl_y (y_buildN rfl) rfl rfl ?_) | (refine i_op ?_; first | (refine i_qq ?_; refine qQ ?_) | refine qEf ?_) | refine tl_nil ?_ | (refine i_tc ?_; refine qTc ?_) | (refine i_te ?_; refine qTe ?_) | intro _)
  have hA : AIn ρz 6 stpV (some ⟨bs, 0, none⟩) 1 [⟨1, ⟨0, 3, 0, []⟩, -2⟩] := ⟨rfl, .inr ⟨bs, 0, _, _, _, rfl, hbs, Nat.le_refl _, rfl⟩, by simp⟩
  have hR : ∀ {ρ2}, ρz.le ρ2 → RcIn ρ2 ⟨⟨none, 0, 0⟩, ⟨some ⟨bs, 0, none⟩, 1, 1⟩, ⟨none, 0, 0⟩, ⟨none, 0, 0⟩⟩ wkR := fun hle => ⟨AS.nil, by simp [wkR], ⟨hA.mono hle, by dsimp only; omega, by dsimp only; omega⟩, AS.nil, AS.nil, fun s hs => (wkR_f.st s hs).row⟩
  rw [show [Value.int .i64 4, .int .u64 5, .int .i64 7, .int .u64 4, .int .u64 1, .slice none 0 0, .slice (some ⟨bs, 0, none⟩) 1 1, .int .i64 0, .slice none 0 0, .slice none 0 0] = recV ⟨⟨none, 0, 0⟩, ⟨some ⟨bs, 0, none⟩, 1, 1⟩, ⟨none, 0, 0⟩, ⟨none, 0, 0⟩⟩ wkR from rfl]
  generalize hv : (⟨⟨none, 0, 0⟩, ⟨some ⟨bs, 0, none⟩, 1, 1⟩, ⟨none, 0, 0⟩, ⟨none, 0, 0⟩⟩ : RV) = wv at *
  obtain ⟨w, hw⟩ : ∃ w, wkR = w := ⟨_, rfl⟩
  have q1 := wkR_ok
  have q2 := wkR_len
  have q3 := wkR_cost
  have q4 := wkR_res
  obtain ⟨q5, q6⟩ := wkR_dec
  have q7 : w.kind = 4 := by rw [← hw]; rfl
  rw [hw] at q1 q2 q3 q4 q5 q6 hR ⊢
  have hE := fun ρ h => rencode_spec ρ wv w h
  simp only [q1, if_true] at hE
  have hC := fun ρ h => rcost_spec ρ wv w h
  have hV := fun ρ h => rreserve_spec ρ wv w h
  unfold errN at hC hV
  simp only [q1, if_true, q3, q4] at hC hV
  have hU := fun ρ h => undoable_spec ρ wv w h
  rw [q1, q7] at hU
  have hZ := fun ρ => rcheck_spec ρ nilRV zeroRc (nilRV_in _ _ _ _)
  have hl0 := Hp.le_refl ρz
  repeat' (first | (refine tl_is (.func 29) ?_; refine qC rfl rfl (hE _ (hR hl0)) ?_; rintro v ρ' L' hle ⟨hl1, a, n, c, rfl, hc, hs, rfl⟩ <;> (try simp only [kM, kN, kO])) | (refine iBu ?_; refine tl_y (y_buildN rfl) rfl rfl ?_) | (refine i_op ?_; first | (refine i_qq ?_; refine qQ ?_) | refine qEf ?_) | refine tl_nil ?_ | (refine i_tc ?_; refine qTc ?_) | (refine i_te ?_; refine qTe ?_) | intro _)
  have hn := hs.len
  rw [q2] at hn
  have hD := rdecode_spec _ a n c _ hs hc (by omega)
  rw [q5] at hD
  simp only [if_true] at hD
  rw [q6] at hD
  repeat' (first | (refine tl_is (.func 22) ?_; refine qC rfl rfl (hD) ?_; rintro v ρ' L' hle ⟨hl2, v2, r2, rfl, hr2, hp2, rfl⟩ <;> (try simp only [kM, kN, kO])) | (refine tl_is (.func 46) ?_; refine qC rfl rfl (hC _ (hR (Hp.le_trans hl1 hl2))) ?_; rintro v ρ' L' hle ⟨hl3, rfl, rfl⟩ <;> (try simp only [kM, kN, kO])) | (refine tl_is (.func 77) ?_; refine qC rfl rfl (hV _ (hR (Hp.le_trans hl1 (Hp.le_trans hl2 hl3)))) ?_; rintro v ρ' L' hle ⟨hl4, rfl, rfl⟩ <;> (try simp only [kM, kN, kO])) | (refine iBu ?_; refine tl_y (y_buildN rfl) rfl rfl ?_) | (refine i_op ?_; first | (refine i_qq ?_; refine qQ ?_) | refine qEf ?_) | refine tl_nil ?_ | (refine i_tc ?_; refine qTc ?_) | (refine i_te ?_; refine qTe ?_) | intro _)
  have hl14 := Hp.le_trans hl1 (Hp.le_trans hl2 (Hp.le_trans hl3 hl4))
  have hS := recSameG_spec _ v2 wv r2 w (hr2.mono (Hp.le_trans hl3 hl4)) (hR hl14)
  have hS1 : ∀ b : Bool, (b = true ↔ r2.plain = w.plain) → b = true := fun b h => h.2 hp2
  subst hn
  repeat' (first | (refine tl_is (.func 28) ?_; refine qC rfl rfl (hS) ?_; rintro v ρ' L' hle ⟨⟨b, rfl, hb⟩, rfl, rfl⟩ <;> (try simp only [kM, kN, kO]); (obtain rfl := hS1 b hb)) | (refine tl_is (.func 78) ?_; refine qC rfl rfl (hU _ (hR hl14)) ?_; rintro v ρ' L' hle ⟨rfl, rfl, rfl⟩ <;> (try simp only [kM, kN, kO])) | (refine tl_is (.func 27) ?_; refine qC rfl rfl (hZ _) ?_; rintro v ρ' L' hle ⟨rfl, rfl, rfl⟩ <;> (try simp only [kM, kN, kO])) | (refine iBu ?_; refine tl_y (y_buildN rfl) rfl rfl ?_) | (refine i_op ?_; first | (refine i_qq ?_; refine qQ ?_) | refine qEf ?_) | refine tl_nil ?_ | (refine i_tc ?_; refine qTc ?_) | (refine i_te ?_; refine qTe ?_) | intro _)
  exact qE (L' := []) ⟨rfl, Hp.le_trans hρ hl14, rfl⟩
end Go.Proofs.E

