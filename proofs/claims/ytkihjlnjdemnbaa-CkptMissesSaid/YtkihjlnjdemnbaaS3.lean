/- The law CkptMisses. Part 3 of 3. -/
import Derived.Test.YtkihjlnjdemnbaaS2
import Derived.Test.YtkihjlnjdemnbaaRows
namespace Go.Proofs.E
open Go
set_option linter.unusedVariables false
set_option linter.unusedSimpArgs false
set_option linter.unusedSectionVars false
set_option maxRecDepth 4000
set_option maxHeartbeats 1000000
attribute [local irreducible] Yl TL TC TE Spec YSpec R1 Hp.le EnvLe TS TR YS Stays
-- BN
structure DdD where
  s : SV
  p : List Int
  w : Bool
  m : Bool
abbrev ddV (x : DdD) : List Value := [.slice x.s.a x.s.n x.s.c, .bool x.w, .bool x.m]
structure MapF (es : List MapEntry) (f : Int → Nat) : Prop where
  keys : IntKeys .i64 es
  get : ∀ p, (mget es p = none ∧ f p = 0) ∨ mget es p = some (.int .u64 (f p : Nat))
theorem MapF.nil : MapF [] (fun _ => 0) := ⟨by intro e he; simp at he, fun p => .inl ⟨by simp [mget], rfl⟩⟩
theorem MapF.upd {es es' : List MapEntry} {f : Int → Nat} {p : Int} {v : Nat} (h : MapF es f) (h1 : IntKeys .i64 es') (h2 : ∀ j, mget es' j = if j = p then some (.int .u64 (v : Nat)) else mget es j) : MapF es' (fun q => if q = p then v else f q) := ⟨h1, fun q => by
  rw [h2 q]
  by_cases e : q = p
  · right; simp [e]
  · simp only [if_neg e]; exact h.get q⟩
abbrev lvV (x : RV × Rc) : List Value := recV x.1 x.2
abbrev lvF (lv : List (RV × Rc)) : List Value := (lv.map lvV).flatten
theorem new_spec (ρ : Hp) : Spec Try.prog 25 [] ρ [] (fun z ρ' L' => z = .agg ⟨rosV nilS R0⟩ ∧ ρ' = ρ ∧ L' = []) := by
  refine spec_enter Try.func25 rfl rfl rfl fun u R => ?_
  simp only [argsE, List.cons_append, List.nil_append]
  repeat' (first | (refine iBu ?_; refine tl_y (y_buildN rfl) rfl rfl ?_) | (refine i_op ?_; first | (refine i_qq ?_; refine qQ ?_) | refine qEf ?_) | refine tl_nil ?_ | (refine i_tc ?_; refine qTc ?_) | (refine i_te ?_; refine qTe ?_) | intro _)
  exact qE (L' := []) ⟨rfl, rfl, rfl⟩
theorem lvF_len (lv : List (RV × Rc)) : (lvF lv).length = lv.length * 10 := flatN_len (sz := 10) (g := lvV) (fun _ => rfl) lv
theorem mark0_in (ρ : Hp) : RcIn ρ zRV (makeX R0 [] 1) := ⟨AS.nil, by simp [makeX], AS.nil, AS.nil, AS.nil, by simp [makeX]⟩
theorem hpAt {ρ ρ' : Hp} (h : ρ.le ρ') {b : Nat} {o : Obj} (hb : ρ b = some o) : ρ' b = some o := by unfold Hp.le at h; exact h _ _ hb
theorem tbl_len : ∀ {l : List CkP} {last : Int}, last ≤ 63 → tblB last l = true → (l.length : Int) + last ≤ 63
  | [], last, h, _ => by simp; omega
  | p :: r, last, h, ht => by
    rw [tblB, Bool.and_eq_true, decide_eq_true_eq] at ht
    have := tbl_len (l := r) (last := p.page) (by omega) ht.2
    simp only [List.length_cons]; omega
theorem missesLaw_spec (ρ : Hp) (a : Option Addr) (n c : Nat) (l : List DdD) (h : AIn ρ 3 ddV a n l) (hP : ∀ x ∈ l, SIn ρ i64c x.s.a x.s.n x.p ∧ x.s.n ≤ 9223372036854775807) (hn : n ≤ 9223372036854775807) :
    Spec Try.prog 6 [.slice a n c] ρ [] (fun z ρ' L' => z = .bool true ∧ ρ.le ρ' ∧ L' = []) := by
  have hl := h.len
  refine spec_enter Try.func6 rfl rfl rfl fun u R => ?_
  simp only [argsE, List.cons_append, List.nil_append]
  repeat' (first | (refine tl_is (.func 8) ?_; refine qC rfl rfl (wakes22_spec _) ?_; rintro v ρ' L' hle ⟨rfl, hl1, rfl⟩ <;> (try simp only [List.cons_append, List.nil_append, List.append_eq])) | (refine tl_buildSliceA (css := [lvV (zRV, makeX R0 [] 1)]) (sz := 10) rfl rfl rfl rfl (by simp) (by simp) rfl (fun bs => ?_); simp only [List.flatten_cons, List.flatten_nil, List.append_nil]) | (refine iBu ?_; refine tl_y (y_buildN rfl) rfl rfl ?_) | (refine i_op ?_; first | (refine i_qq ?_; refine qQ ?_) | refine qEf ?_) | refine tl_nil ?_ | (refine i_tc ?_; refine qTc ?_) | (refine i_te ?_; refine qTe ?_) | intro _)
  refine tl_app (n := 0) (xs := []) (sp := []) (ys := lvV (zRV, makeX R0 [] 1)) (m := 1) (sz := 10) rfl rfl (OwnS.nil 10) (hR := rem_nil') (SrcV.lit) rfl rfl (by decide) rfl (by omega) (by omega) rfl (fun v' sp' hown' => ?_)
  simp only [Nat.zero_add, List.nil_append] at hown' ⊢
  repeat' (first | (refine iBu ?_; refine tl_y (y_buildN rfl) rfl rfl ?_) | (refine i_op ?_; first | (refine i_qq ?_; refine qQ ?_) | refine qEf ?_) | refine tl_nil ?_ | (refine i_tc ?_; refine qTc ?_) | (refine i_te ?_; refine qTe ?_) | intro _)
  rename_i b5 b6 b7
  refine tc_loop_g [(5, _), (6, _), (7, _), (43, _), (44, _)] (fun (ζ : (Nat) × (Hp) × (SV) × (Value) × (List Value) × (List MapEntry) × (Nat) × (List MapEntry) × (Nat) × (RV) × (List CkP) × (List (RV × Rc)) × ((Int → Nat)) × ((Int → Nat)) × (List CkP) × (Nat)) => [(45, .int .i64 ζ.1), (2, .bool false), (3, .slice ζ.2.2.1.a ζ.2.2.1.n ζ.2.2.1.c), (4, ζ.2.2.2.1)]) (fun (ζ : (Nat) × (Hp) × (SV) × (Value) × (List Value) × (List MapEntry) × (Nat) × (List MapEntry) × (Nat) × (RV) × (List CkP) × (List (RV × Rc)) × ((Int → Nat)) × ((Int → Nat)) × (List CkP) × (Nat)) => ζ.2.1) (fun (ζ : (Nat) × (Hp) × (SV) × (Value) × (List Value) × (List MapEntry) × (Nat) × (List MapEntry) × (Nat) × (RV) × (List CkP) × (List (RV × Rc)) × ((Int → Nat)) × ((Int → Nat)) × (List CkP) × (Nat)) => [ownC ζ.2.2.2.1 (lvF ζ.2.2.2.2.2.2.2.2.2.2.2.1) ζ.2.2.2.2.1 32, [(b5, .map ⟨ζ.2.2.2.2.2.1⟩ ζ.2.2.2.2.2.2.1)], [(b6, .map ⟨ζ.2.2.2.2.2.2.2.1⟩ ζ.2.2.2.2.2.2.2.2.1)], [(b7, .cells ⟨recV ζ.2.2.2.2.2.2.2.2.2.1 (makeX R0 ζ.2.2.2.2.2.2.2.2.2.2.2.2.2.2.1 ζ.2.2.2.2.2.2.2.2.2.2.2.2.2.2.2)⟩ 32 (0, 0))]]) (fun (ζ : (Nat) × (Hp) × (SV) × (Value) × (List Value) × (List MapEntry) × (Nat) × (List MapEntry) × (Nat) × (RV) × (List CkP) × (List (RV × Rc)) × ((Int → Nat)) × ((Int → Nat)) × (List CkP) × (Nat)) => ζ.1 ≤ n ∧ ζ.1 ≤ 60 ∧ ρ'.le ζ.2.1 ∧ AS ζ.2.1 2 ckPV ζ.2.2.1 ζ.2.2.2.2.2.2.2.2.2.2.1 ∧ OwnS ζ.2.2.2.1 ζ.2.2.2.2.2.2.2.2.2.2.2.1.length (lvF ζ.2.2.2.2.2.2.2.2.2.2.2.1) ζ.2.2.2.2.1 10 ∧ MapF ζ.2.2.2.2.2.1 ζ.2.2.2.2.2.2.2.2.2.2.2.2.1 ∧ MapF ζ.2.2.2.2.2.2.2.1 ζ.2.2.2.2.2.2.2.2.2.2.2.2.2.1 ∧ RcIn ζ.2.1 ζ.2.2.2.2.2.2.2.2.2.1 (makeX R0 ζ.2.2.2.2.2.2.2.2.2.2.2.2.2.2.1 ζ.2.2.2.2.2.2.2.2.2.2.2.2.2.2.2) ∧ (∀ x ∈ ζ.2.2.2.2.2.2.2.2.2.2.2.1, RcIn ζ.2.1 x.1 x.2 ∧ x.1.i.n ≤ 6) ∧ ζ.2.2.2.2.2.2.2.2.2.2.2.1.length ≤ ζ.1 + 1 ∧ Inv ζ.2.2.2.2.2.2.2.2.2.2.1 (ζ.2.2.2.2.2.2.2.2.2.2.2.1.map (·.2)) ζ.2.2.2.2.2.2.2.2.2.2.2.2.1 ζ.2.2.2.2.2.2.2.2.2.2.2.2.2.1 ζ.2.2.2.2.2.2.2.2.2.2.2.2.2.2.1 ζ.2.2.2.2.2.2.2.2.2.2.2.2.2.2.2) (fun (ζ : (Nat) × (Hp) × (SV) × (Value) × (List Value) × (List MapEntry) × (Nat) × (List MapEntry) × (Nat) × (RV) × (List CkP) × (List (RV × Rc)) × ((Int → Nat)) × ((Int → Nat)) × (List CkP) × (Nat)) => n - ζ.1) ((0, ρ', nilS, v', sp', [], 0, [], 0, zRV, [], [(zRV, makeX R0 [] 1)], (fun _ => 0), (fun _ => 0), [], 1)) (⟨Nat.zero_le _, Nat.zero_le _, Hp.le_refl _, AS.nil, hown', MapF.nil, MapF.nil, mark0_in _, fun x hx => by rw [List.mem_singleton.1 hx]; exact ⟨mark0_in _, Nat.zero_le _⟩, Nat.le_refl _, Inv.zero⟩) ev_le ev_le rfl tk ?_
  rintro ⟨k, ρ2, s, vv, sp, es5, ck5, es6, ck6, vC, d, lv, disk, now, dC, cC⟩ hI
  try simp only [List.cons_append, List.nil_append, List.append_assoc, List.append_eq] at hI ⊢
  try dsimp only at hI ⊢
  obtain ⟨hk, hk60, hle2, hsd, hown, hm5, hm6, hrC, hlv, hlk, hI⟩ := hI
  obtain ⟨va, vc, rfl, hvc⟩ := hown.slice
  have hz2 : ρ.le ρ2 := Hp.le_trans hl1 hle2
  have hlen : (lv.map (·.2)).length = lv.length := List.length_map ..
  by_cases hlt : k < n
  · by_cases hk6 : k < 60
    · obtain ⟨b, off, C, T, fr, e1, hb, hfit, hcc⟩ := (h.mono hz2).get (show k < l.length by omega)
      obtain ⟨hxs, hxn⟩ := hP _ (List.getElem_mem (show k < l.length by omega))
      generalize l[k]'(by omega) = x at *
      obtain ⟨xs, xp, xw, xm⟩ := x
      dsimp only at hxs hxn
      have hpg := pages_spec ρ2 xs.a xs.n xs.c xp (hxs.mono hz2) hxn xw xm
      rw [e1]
      have hE := hI.mkE (show (lv.map (·.2)).length < 1000000 by omega)
      rw [hlen] at hE
      have hmR : makeR R0 d (lv.length + 1) = makeX R0 d (lv.length + 1) := by unfold makeR; rw [if_pos hE]
      have hM := fun ρ1 (h1 : ρ2.le ρ1) => make_spec ρ1 nilS R0 ⟨AS.nil, by simp [R0]⟩ s d (hsd.mono h1) (lv.length + 1)
      rw [hmR, hE] at hM
      cases xm
      · cases xw
        · repeat' (first | (refine tl_is (.func 24) ?_; refine qC rfl rfl (hpg) ?_; rintro v ρ' L' hle ⟨hl3, so, own, rfl, hso, hpo, rfl⟩ <;> (try simp only [List.cons_append, List.nil_append, List.append_eq])) | (refine iBu ?_; refine tl_y (y_buildN rfl) rfl rfl ?_) | (refine i_op ?_; first | (refine i_qq ?_; refine qQ ?_) | refine qEf ?_) | refine tl_nil ?_ | (refine i_tc ?_; refine qTc ?_) | (refine i_te ?_; refine qTe ?_) | (refine i_gd ?_; refine tl_guard rfl rfl (fun hb => ?_) (fun hb => ?_) <;> (try simp only [decide_eq_true_eq, decide_eq_false_iff_not, Bool.not_eq_true, Bool.not_eq_false, beq_iff_eq, bne_iff_ne, ne_eq, decide_eq_decide, Bool.not_eq_eq_eq_not, Bool.not_true, Bool.not_false, beq_eq_false_iff_ne, bne_eq_false_iff_eq, Bool.and_eq_true, Bool.or_eq_true, Bool.and_eq_false_imp, Bool.or_eq_false_iff, bq2, bqt, bqf] at hb)) | (refine i_cond ?_; refine tc_cond rfl (fun hb => ?_) (fun hb => ?_) <;> (try simp only [decide_eq_true_eq, decide_eq_false_iff_not, Bool.not_eq_true, Bool.not_eq_false, beq_iff_eq, bne_iff_ne, ne_eq, decide_eq_decide, Bool.not_eq_eq_eq_not, Bool.not_true, Bool.not_false, beq_eq_false_iff_ne, bne_eq_false_iff_eq, Bool.and_eq_true, Bool.or_eq_true, Bool.and_eq_false_imp, Bool.or_eq_false_iff, bq2, bqt, bqf] at hb)) | intro _)
          · rw [← e1]
            refine te_round_g (k + 1, ρ', s, Value.slice va lv.length vc, sp, es5, ck5, es6, ck6, vC, d, lv, disk, now, dC, cC) (⟨hlt, by dsimp only; omega, Hp.le_trans hle2 hl3, hsd.mono hl3, hown, hm5, hm6, hrC.mono hl3, fun y hy => ⟨(hlv y hy).1.mono hl3, (hlv y hy).2⟩, by dsimp only; omega, hI⟩) ev_le ev_le rfl tk inferInstance (by first | omega | (dsimp only; omega))
          · rename_i b9
            have hol := hso.len
            have hcl := hI.cl
            have hc1 := hI.c1
            rw [hlen] at hcl
            have hok : recOk (chgR (lv.length + 1) own) = true := chg_ok (by omega) (by omega) (by omega) hpo.len hpo.mem hpo.up
            have hI4 := hI.touch (own := own) (by rw [hlen]; exact hok)
            rw [hlen] at hI4
            have hso6 := hpo.len
            have hCh := change_spec ρ' (lv.length + 1) so.a so.n so.c own hso (by omega)
            have hT := fun ρ1 v1 (h1 : ρ'.le ρ1) (hr1 : RcIn ρ1 v1 (chgR (lv.length + 1) own)) (hn1 : v1.i.n = so.n) => touch_spec ρ1 s d ((hsd.mono hl3).mono h1) (by have := tbl_len (last := -1) (by omega) hI.tbl; omega) v1 _ hr1 (by omega)
            have htE : touchE d (chgR (lv.length + 1) own) = 0 := by unfold touchE; rw [hI.tbl, hok]; rfl
            have htR : touchR d (chgR (lv.length + 1) own) = touchP (chgR (lv.length + 1) own) d := by unfold touchR; rw [hI.tbl, hok]; rfl
            rw [htE, htR] at hT
            repeat' (first | (refine tl_is (.func 26) ?_; refine qC rfl rfl (hCh) ?_; rintro v ρ' L' hle ⟨hl4, v4, rfl, hR4, hn4, rfl⟩ <;> (try simp only [List.cons_append, List.nil_append, List.append_eq])) | (refine tl_is (.func 13) ?_; refine qC rfl rfl (hT _ v4 hl4 hR4 hn4) ?_; rintro v ρ' L' hle ⟨hl5, s5, rfl, hs5, rfl⟩ <;> (try simp only [List.cons_append, List.nil_append, List.append_eq])) | (refine tl_buildSliceA (css := [lvV (v4, chgR (lv.length + 1) own)]) (sz := 10) rfl rfl rfl rfl (by simp) (by simp) rfl (fun bs => ?_); simp only [List.flatten_cons, List.flatten_nil, List.append_nil]) | (refine tl_app (ys := lvV (v4, chgR (lv.length + 1) own)) (m := 1) rfl rfl hown (hR := by infer_instance) (SrcV.lit) rfl rfl (by decide) rfl (by omega) (by omega) rfl (fun v9 sp9 hown' => ?_)) | (refine iBu ?_; refine tl_y (y_buildN rfl) rfl rfl ?_) | (refine i_op ?_; first | (refine i_qq ?_; refine qQ ?_) | refine qEf ?_) | refine tl_nil ?_ | (refine i_tc ?_; refine qTc ?_) | (refine i_te ?_; refine qTe ?_) | intro _)
            have hmm : lvF lv ++ lvV (v4, chgR (lv.length + 1) own) = lvF (lv ++ [(v4, chgR (lv.length + 1) own)]) := by simp [lvF]
            rw [hmm] at hown' ⊢
            have hz5 := Hp.le_trans hl4 hl5
            have hz25 := Hp.le_trans hl3 hz5
            refine tc_loop_g [(2, _), (3, _), (4, _), (5, _), (6, _), (7, _), (11, _), (43, _), (44, _), (45, _), (75, _), (76, _)] (fun (ζ : (Nat) × (List MapEntry) × (Nat)) => [(77, .int .i64 ζ.1)]) (fun (ζ : (Nat) × (List MapEntry) × (Nat)) => ρ') (fun (ζ : (Nat) × (List MapEntry) × (Nat)) => [ownC v9 (lvF (lv ++ [(v4, chgR (lv.length + 1) own)])) sp9 32, [(b5, .map ⟨es5⟩ ck5)], [(b6, .map ⟨ζ.2.1⟩ ζ.2.2)], [(b7, .cells ⟨recV vC (makeX R0 dC cC)⟩ 32 (0, 0))]]) (fun (ζ : (Nat) × (List MapEntry) × (Nat)) => ζ.1 ≤ so.n ∧ MapF ζ.2.1 (fun p => if p ∈ own.take ζ.1 then lv.length + 1 else now p)) (fun (ζ : (Nat) × (List MapEntry) × (Nat)) => so.n - ζ.1) ((0, es6, ck6)) (⟨Nat.zero_le _, by simpa using hm6⟩) ev_le ev_le rfl tk ?_
            rintro ⟨j, es, ck⟩ hI
            try simp only [List.cons_append, List.nil_append, List.append_assoc, List.append_eq] at hI ⊢
            try dsimp only at hI ⊢
            obtain ⟨hj, hme⟩ := hI
            by_cases hjt : j < so.n
            · obtain ⟨bo, oo, Co, To, fo, e2, hbo, hco⟩ := (hso.mono hz5).get (show j < own.length by omega)
              have ht1 := List.take_succ_eq_append_getElem (show j < own.length by omega)
              generalize own[j]'(by omega) = p at *
              rw [e2]
              have hke := hme.keys
              repeat' (first | (refine tl_mapUpdate rfl rfl rfl hke (fun es' ck' h1 h2 => ?_)) | (refine iBu ?_; refine tl_y (y_buildN rfl) rfl rfl ?_) | (refine i_op ?_; first | (refine i_qq ?_; refine qQ ?_) | refine qEf ?_) | refine tl_nil ?_ | (refine i_tc ?_; refine qTc ?_) | (refine i_te ?_; refine qTe ?_) | intro _)
              rw [← e2]
              refine te_round_g (j + 1, es', ck') (?_) ev_le ev_le rfl tk inferInstance (by first | omega | (dsimp only; omega))
              refine ⟨hjt, ?_⟩
              have hu := hme.upd (v := lv.length + 1) h1 h2
              have hf : (fun q => if q ∈ own.take (j + 1) then lv.length + 1 else now q) = fun q => if q = p then lv.length + 1 else (if q ∈ own.take j then lv.length + 1 else now q) := by
                funext q
                rw [ht1]
                by_cases hq : q = p
                · simp [hq]
                · simp [hq]
              dsimp only
              rw [hf]
              exact hu
            · have hk2 : own.take j = own := List.take_of_length_le (by omega)
              rw [hk2] at hme
              repeat' (first | (refine iBu ?_; refine tl_y (y_buildN rfl) rfl rfl ?_) | (refine i_op ?_; first | (refine i_qq ?_; refine qQ ?_) | refine qEf ?_) | refine tl_nil ?_ | (refine i_tc ?_; refine qTc ?_) | (refine i_te ?_; refine qTe ?_) | intro _)
              rw [← e1]
              refine te_round_g (k + 1, ρ', s5, v9, sp9, es5, ck5, es, ck, vC, touchP (chgR (lv.length + 1) own) d, lv ++ [(v4, chgR (lv.length + 1) own)], disk, (fun p => if p ∈ own then lv.length + 1 else now p), dC, cC) (?_) ev_le ev_le rfl tk inferInstance (by first | omega | (dsimp only; omega))
              refine ⟨hlt, by dsimp only; omega, Hp.le_trans hle2 hz25, hs5, by rw [List.length_append]; exact hown', hm5, hme, hrC.mono hz25, fun y hy => ?_, by simp; omega, by rw [List.map_append]; exact hI4⟩
              rcases List.mem_append.1 hy with h1 | h1
              · exact ⟨(hlv y h1).1.mono hz25, (hlv y h1).2⟩
              · rw [List.mem_singleton.1 h1]; exact ⟨hR4.mono hl5, by dsimp only; omega⟩
        · repeat' (first | (refine tl_is (.func 24) ?_; refine qC rfl rfl (hpg) ?_; rintro v ρ' L' hle ⟨hl3, so, own, rfl, hso, hpo, rfl⟩ <;> (try simp only [List.cons_append, List.nil_append, List.append_eq])) | (refine iBu ?_; refine tl_y (y_buildN rfl) rfl rfl ?_) | (refine i_op ?_; first | (refine i_qq ?_; refine qQ ?_) | refine qEf ?_) | refine tl_nil ?_ | (refine i_tc ?_; refine qTc ?_) | (refine i_te ?_; refine qTe ?_) | (refine i_gd ?_; refine tl_guard rfl rfl (fun hb => ?_) (fun hb => ?_) <;> (try simp only [decide_eq_true_eq, decide_eq_false_iff_not, Bool.not_eq_true, Bool.not_eq_false, beq_iff_eq, bne_iff_ne, ne_eq, decide_eq_decide, Bool.not_eq_eq_eq_not, Bool.not_true, Bool.not_false, beq_eq_false_iff_ne, bne_eq_false_iff_eq, Bool.and_eq_true, Bool.or_eq_true, Bool.and_eq_false_imp, Bool.or_eq_false_iff, bq2, bqt, bqf] at hb)) | (refine i_cond ?_; refine tc_cond rfl (fun hb => ?_) (fun hb => ?_) <;> (try simp only [decide_eq_true_eq, decide_eq_false_iff_not, Bool.not_eq_true, Bool.not_eq_false, beq_iff_eq, bne_iff_ne, ne_eq, decide_eq_decide, Bool.not_eq_eq_eq_not, Bool.not_true, Bool.not_false, beq_eq_false_iff_ne, bne_eq_false_iff_eq, Bool.and_eq_true, Bool.or_eq_true, Bool.and_eq_false_imp, Bool.or_eq_false_iff, bq2, bqt, bqf] at hb)) | intro _)
          · rw [← e1]
            refine te_round_g (k + 1, ρ', s, Value.slice va lv.length vc, sp, es5, ck5, es6, ck6, vC, d, lv, disk, now, dC, cC) (⟨hlt, by dsimp only; omega, Hp.le_trans hle2 hl3, hsd.mono hl3, hown, hm5, hm6, hrC.mono hl3, fun y hy => ⟨(hlv y hy).1.mono hl3, (hlv y hy).2⟩, by dsimp only; omega, hI⟩) ev_le ev_le rfl tk inferInstance (by first | omega | (dsimp only; omega))
          · rename_i b9
            have hol := hso.len
            obtain ⟨bo, oo, Co, To, fo, e2, hbo, hco⟩ := hso.get (show 0 < own.length by omega)
            have hmem0 := List.getElem_mem (show 0 < own.length by omega)
            generalize hp0 : own[0]'(by omega) = p at *
            have hlk0 := hI.lack p
            have hC := clean_spec ρ' s d (hsd.mono hl3) (by have := tbl_len (last := -1) (by omega) hI.tbl; omega) p
            have hg5 := hm5.get p
            have hg6 := hm6.get p
            rw [e2]
            by_cases hs : disk p < now p
            · rw [decide_eq_true hs] at hlk0
              have hcE : cleanE p d = 0 := by unfold cleanE cleanE1; rw [hI.tbl, hlk0]; rfl
              have hcR : cleanR p d = delP p d := by unfold cleanR cleanE1; rw [hlk0, hI.tbl]; rfl
              rw [hcE, hcR] at hC
              repeat' (first | (refine tl_is (.func 17) ?_; refine qC rfl rfl (hC) ?_; rintro v ρ' L' hle ⟨hl4, s4, rfl, hs4, rfl⟩ <;> (try simp only [List.cons_append, List.nil_append, List.append_eq])) | (refine iBu ?_; refine tl_y (y_buildN rfl) rfl rfl ?_) | (refine i_op ?_; first | (refine i_qq ?_; refine qQ ?_) | refine qEf ?_) | refine tl_nil ?_ | (refine i_tc ?_; refine qTc ?_) | (refine i_te ?_; refine qTe ?_) | intro _)
              have hbo4 := hpAt hl4 hbo
              have hk5 := hm5.keys
              have hk6 := hm6.keys
              have hz4 := Hp.le_trans hl3 hl4
              have hI4 := hI.clean p
              rw [hlk0, if_pos rfl] at hI4
              rcases hg6 with ⟨g6, z6⟩ | g6
              · omega
              · rcases hg5 with ⟨g5, z5⟩ | g5
                · skip
                  refine tc_any (Stays _ _ _) stays_refl ?_
                  all_goals refine rMv 0 ?_
                  all_goals refine rFull ?_
                  all_goals refine rCm 1 ?_
                  all_goals refine rMv 2 ?_
                  all_goals refine rMv 3 ?_
                  all_goals refine rIa 4 ?_
                  all_goals refine rLd 5 ?_
                  all_goals refine rLu 6 ?_
                  all_goals refine rMv 7 ?_
                  all_goals refine rMv 8 ?_
                  all_goals refine rIa 9 ?_
                  all_goals refine rLd 10 ?_
                  all_goals refine rLu 11 ?_
                  all_goals refine rCm 12 ?_
                  all_goals refine rCm 13 ?_
                  all_goals refine rDone ?_
                  all_goals (repeat' (first | (refine iBu ?_; refine tl_y (y_buildN rfl) rfl rfl ?_) | (refine i_op ?_; first | (refine i_qq ?_; refine qQ ?_) | refine qEf ?_) | refine tl_nil ?_ | (refine i_tc ?_; refine qTc ?_) | (refine i_te ?_; refine qTe ?_) | intro _))
                  refine tc_any (Stays _ _ ([[(b6, .map ⟨es6⟩ ck6)]])) (stays_of (hT := tk) (Hp.le_refl _)) ?_
                  all_goals refine rMv 0 ?_
                  all_goals refine rMv 1 ?_
                  all_goals refine rIa 2 ?_
                  all_goals refine rLd 3 ?_
                  all_goals refine rMv 4 ?_
                  all_goals refine rMv 5 ?_
                  all_goals refine rIa 6 ?_
                  all_goals refine rLd 7 ?_
                  all_goals refine rLu 8 ?_
                  all_goals (refine rStep (i := 9) ?_; ((try refine qWant ?_); (first | (refine tl_mapUpdate rfl rfl rfl hk5 (fun es' ck' h1 h2 => ?_)) | (refine qEf ?_; try intro _)) <;> ((try simp only [List.cons_append, List.nil_append, List.append_eq]); refine tl_nil ?_; refine rNext ?_)))
                  all_goals refine rDone ?_
                  all_goals (repeat' (first | (refine iBu ?_; refine tl_y (y_buildN rfl) rfl rfl ?_) | (refine i_op ?_; first | (refine i_qq ?_; refine qQ ?_) | refine qEf ?_) | refine tl_nil ?_ | (refine i_tc ?_; refine qTc ?_) | (refine i_te ?_; refine qTe ?_) | intro _))
                  all_goals rw [← e1]
                  all_goals refine te_round_g (k + 1, ρ', s4, Value.slice va lv.length vc, sp, es', ck', es6, ck6, vC, delP p d, lv, (fun q => if q = p then now p else disk q), now, dC, cC) (⟨hlt, by dsimp only; omega, Hp.le_trans hle2 hz4, hs4, hown, hm5.upd h1 h2, hm6, hrC.mono hz4, fun y hy => ⟨(hlv y hy).1.mono hz4, (hlv y hy).2⟩, by dsimp only; omega, hI4⟩) ev_le ev_le rfl tk inferInstance (by first | omega | (dsimp only; omega))
                · skip
                  refine tc_any (Stays _ _ _) stays_refl ?_
                  all_goals refine rMv 0 ?_
                  all_goals refine rFull ?_
                  all_goals refine rCm 1 ?_
                  all_goals refine rMv 2 ?_
                  all_goals refine rMv 3 ?_
                  all_goals refine rIa 4 ?_
                  all_goals refine rLd 5 ?_
                  all_goals refine rLu 6 ?_
                  all_goals refine rMv 7 ?_
                  all_goals refine rMv 8 ?_
                  all_goals refine rIa 9 ?_
                  all_goals refine rLd 10 ?_
                  all_goals refine rLu 11 ?_
                  all_goals refine rCm 12 ?_
                  all_goals refine rCm 13 ?_
                  all_goals refine rDone ?_
                  all_goals (repeat' (first | (refine iBu ?_; refine tl_y (y_buildN rfl) rfl rfl ?_) | (refine i_op ?_; first | (refine i_qq ?_; refine qQ ?_) | refine qEf ?_) | refine tl_nil ?_ | (refine i_tc ?_; refine qTc ?_) | (refine i_te ?_; refine qTe ?_) | intro _))
                  refine tc_any (Stays _ _ ([[(b6, .map ⟨es6⟩ ck6)]])) (stays_of (hT := tk) (Hp.le_refl _)) ?_
                  all_goals refine rMv 0 ?_
                  all_goals refine rMv 1 ?_
                  all_goals refine rIa 2 ?_
                  all_goals refine rLd 3 ?_
                  all_goals refine rMv 4 ?_
                  all_goals refine rMv 5 ?_
                  all_goals refine rIa 6 ?_
                  all_goals refine rLd 7 ?_
                  all_goals refine rLu 8 ?_
                  all_goals (refine rStep (i := 9) ?_; ((try refine qWant ?_); (first | (refine tl_mapUpdate rfl rfl rfl hk5 (fun es' ck' h1 h2 => ?_)) | (refine qEf ?_; try intro _)) <;> ((try simp only [List.cons_append, List.nil_append, List.append_eq]); refine tl_nil ?_; refine rNext ?_)))
                  all_goals refine rDone ?_
                  all_goals (repeat' (first | (refine iBu ?_; refine tl_y (y_buildN rfl) rfl rfl ?_) | (refine i_op ?_; first | (refine i_qq ?_; refine qQ ?_) | refine qEf ?_) | refine tl_nil ?_ | (refine i_tc ?_; refine qTc ?_) | (refine i_te ?_; refine qTe ?_) | intro _))
                  all_goals rw [← e1]
                  all_goals refine te_round_g (k + 1, ρ', s4, Value.slice va lv.length vc, sp, es', ck', es6, ck6, vC, delP p d, lv, (fun q => if q = p then now p else disk q), now, dC, cC) (⟨hlt, by dsimp only; omega, Hp.le_trans hle2 hz4, hs4, hown, hm5.upd h1 h2, hm6, hrC.mono hz4, fun y hy => ⟨(hlv y hy).1.mono hz4, (hlv y hy).2⟩, by dsimp only; omega, hI4⟩) ev_le ev_le rfl tk inferInstance (by first | omega | (dsimp only; omega))
            · rw [decide_eq_false hs] at hlk0
              have hcE : cleanE p d = 4 := by unfold cleanE cleanE1; rw [hI.tbl, hlk0]; rfl
              rw [hcE] at hC
              generalize cleanR p d = dx at hC
              have hdn := hI.dn p
              repeat' (first | (refine tl_is (.func 17) ?_; refine qC rfl rfl (hC) ?_; rintro v ρ' L' hle ⟨hl4, s4, rfl, hs4, rfl⟩ <;> (try simp only [List.cons_append, List.nil_append, List.append_eq])) | (refine iBu ?_; refine tl_y (y_buildN rfl) rfl rfl ?_) | (refine i_op ?_; first | (refine i_qq ?_; refine qQ ?_) | refine qEf ?_) | refine tl_nil ?_ | (refine i_tc ?_; refine qTc ?_) | (refine i_te ?_; refine qTe ?_) | intro _)
              have hbo4 := hpAt hl4 hbo
              have hk5 := hm5.keys
              have hk6 := hm6.keys
              have hz4 := Hp.le_trans hl3 hl4
              have hI4 := hI.clean p
              rw [hlk0, if_neg (by decide)] at hI4
              rcases hg6 with ⟨g6, z6⟩ | g6
              all_goals rcases hg5 with ⟨g5, z5⟩ | g5
              all_goals refine tc_any (Stays _ _ _) stays_refl ?_
              all_goals refine rMv 0 ?_
              all_goals refine rFull ?_
              all_goals refine rCm 1 ?_
              all_goals refine rMv 2 ?_
              all_goals refine rMv 3 ?_
              all_goals refine rIa 4 ?_
              all_goals refine rLd 5 ?_
              all_goals refine rLu 6 ?_
              all_goals refine rMv 7 ?_
              all_goals refine rMv 8 ?_
              all_goals refine rIa 9 ?_
              all_goals refine rLd 10 ?_
              all_goals refine rLu 11 ?_
              all_goals refine rCm 12 ?_
              all_goals refine rCm 13 ?_
              all_goals refine rDone ?_
              all_goals (repeat' (first | (refine iBu ?_; refine tl_y (y_buildN rfl) rfl rfl ?_) | (refine i_op ?_; first | (refine i_qq ?_; refine qQ ?_) | refine qEf ?_) | refine tl_nil ?_ | (refine i_tc ?_; refine qTc ?_) | (refine i_te ?_; refine qTe ?_) | intro _))
              all_goals refine tc_any (Stays _ _ ([[(b6, .map ⟨es6⟩ ck6)]])) (stays_of (hT := tk) (Hp.le_refl _)) ?_
              all_goals refine rMv 0 ?_
              all_goals refine rMv 1 ?_
              all_goals refine rIa 2 ?_
              all_goals refine rLd 3 ?_
              all_goals refine rMv 4 ?_
              all_goals refine rMv 5 ?_
              all_goals refine rIa 6 ?_
              all_goals refine rLd 7 ?_
              all_goals refine rLu 8 ?_
              all_goals (refine rStep (i := 9) ?_; ((try refine qWant ?_); (first | (refine tl_mapUpdate rfl rfl rfl hk5 (fun es' ck' h1 h2 => ?_)) | (refine qEf ?_; try intro _)) <;> ((try simp only [List.cons_append, List.nil_append, List.append_eq]); refine tl_nil ?_; refine rNext ?_)))
              all_goals refine rDone ?_
              all_goals (repeat' (first | (refine iBu ?_; refine tl_y (y_buildN rfl) rfl rfl ?_) | (refine i_op ?_; first | (refine i_qq ?_; refine qQ ?_) | refine qEf ?_) | refine tl_nil ?_ | (refine i_tc ?_; refine qTc ?_) | (refine i_te ?_; refine qTe ?_) | intro _))
              all_goals rw [← e1]
              all_goals refine te_round_g (k + 1, ρ', s, Value.slice va lv.length vc, sp, es', ck', es6, ck6, vC, d, lv, (fun q => if q = p then now p else disk q), now, dC, cC) (⟨hlt, by dsimp only; omega, Hp.le_trans hle2 hz4, hsd.mono hz4, hown, (by first | exact hm5.upd h1 h2 | (rw [z6]; exact hm5.upd h1 h2)), hm6, hrC.mono hz4, fun y hy => ⟨(hlv y hy).1.mono hz4, (hlv y hy).2⟩, by dsimp only; omega, hI4⟩) ev_le ev_le rfl tk inferInstance (by first | omega | (dsimp only; omega))
      · repeat' (first | (refine tl_is (.func 24) ?_; refine qC rfl rfl (hpg) ?_; rintro v ρ' L' hle ⟨hl3, so, own, rfl, hso, hpo, rfl⟩ <;> (try simp only [List.cons_append, List.nil_append, List.append_eq])) | (refine tl_is (.func 25) ?_; refine qC rfl rfl (new_spec _) ?_; rintro v ρ' L' hle ⟨rfl, rfl, rfl⟩ <;> (try simp only [List.cons_append, List.nil_append, List.append_eq])) | (refine tl_is (.func 21) ?_; refine qC rfl rfl (hM _ hl3) ?_; rintro v ρ' L' hle ⟨hl4, v1, rfl, hR1, rfl⟩ <;> (try simp only [List.cons_append, List.nil_append, List.append_eq])) | (refine iBu ?_; refine tl_y (y_buildN rfl) rfl rfl ?_) | (refine i_op ?_; first | (refine i_qq ?_; refine qQ ?_) | refine qEf ?_) | refine tl_nil ?_ | (refine i_tc ?_; refine qTc ?_) | (refine i_te ?_; refine qTe ?_) | intro _)
        rename_i b9 ρ3 hlx hly b12
        have hz4 := Hp.le_trans hl3 hl4
        refine tc_any (Stays _ _ ([[(b12, .cells ⟨lvV (v1, makeX R0 d (lv.length + 1))⟩ 32 (0, 0))]])) (stays_of (hT := tk) (Hp.le_refl _)) ?_
        all_goals refine rLd 0 ?_
        all_goals refine rMv 1 ?_
        all_goals refine rLd 2 ?_
        all_goals (refine rStep (i := 3) ?_; ((try refine qWant ?_); (first | (refine tl_buildSliceA (css := [lvV (v1, makeX R0 d (lv.length + 1))]) (sz := 10) rfl rfl rfl rfl (by simp) (by simp) rfl (fun bs => ?_); simp only [List.flatten_cons, List.flatten_nil, List.append_nil]) | (refine qEf ?_; try intro _)) <;> ((try simp only [List.cons_append, List.nil_append, List.append_eq]); refine tl_nil ?_; refine rNext ?_)))
        all_goals (refine rStep (i := 4) ?_; ((try refine qWant ?_); (first | (refine tl_buildSliceA (css := [lvV (v1, makeX R0 d (lv.length + 1))]) (sz := 10) rfl rfl rfl rfl (by simp) (by simp) rfl (fun bs => ?_); simp only [List.flatten_cons, List.flatten_nil, List.append_nil]) | (refine tl_app (ys := lvV (v1, makeX R0 d (lv.length + 1))) (m := 1) rfl rfl hown (hR := by infer_instance) (SrcV.lit) rfl rfl (by decide) rfl (by omega) (by omega) rfl (fun v9 sp9 hown' => ?_)) | (refine qEf ?_; try intro _)) <;> ((try simp only [List.cons_append, List.nil_append, List.append_eq]); refine tl_nil ?_; refine rNext ?_)))
        all_goals (refine rStep (i := 5) ?_; ((try refine qWant ?_); (first | (refine qEf ?_; try intro _)) <;> ((try simp only [List.cons_append, List.nil_append, List.append_eq]); refine tl_nil ?_; refine rNext ?_)))
        all_goals refine rFull ?_
        all_goals refine rAs 6 ?_
        all_goals refine rDone ?_
        all_goals (
          have hmm : lvF lv ++ lvV (v1, makeX R0 d (lv.length + 1)) = lvF (lv ++ [(v1, makeX R0 d (lv.length + 1))]) := by simp [lvF]
          rw [hmm] at hown' ⊢)
        all_goals (repeat' (first | (refine iBu ?_; refine tl_y (y_buildN rfl) rfl rfl ?_) | (refine i_op ?_; first | (refine i_qq ?_; refine qQ ?_) | refine qEf ?_) | refine tl_nil ?_ | (refine i_tc ?_; refine qTc ?_) | (refine i_te ?_; refine qTe ?_) | intro _))
        all_goals rw [← e1]
        all_goals refine te_round_g (k + 1, ρ', s, v9, sp9, es5, ck5, es6, ck6, v1, d, lv ++ [(v1, makeX R0 d (lv.length + 1))], disk, now, d, lv.length + 1) (?_) ev_le ev_le rfl tk inferInstance (by first | omega | (dsimp only; omega))
        all_goals (
          refine ⟨hlt, by dsimp only; omega, Hp.le_trans hle2 hz4, hsd.mono hz4, by rw [List.length_append]; exact hown', hm5, hm6, hR1, fun y hy => ?_, by simp; omega, by have := hI.mark (show (lv.map (·.2)).length < 1000000 by omega); rw [hlen] at this; rw [List.map_append]; exact this⟩
          rcases List.mem_append.1 hy with h1 | h1
          · exact ⟨(hlv y h1).1.mono hz4, (hlv y h1).2⟩
          · rw [List.mem_singleton.1 h1]; exact ⟨hR1, by have := hR1.i.at'.len; simp only [makeX, List.length_nil] at this; dsimp only; omega⟩)
    · obtain ⟨b, off, C, T, fr, e1, hb, hfit, hcc⟩ := (h.mono hz2).get (show k < l.length by omega)
      generalize l[k]'(by omega) = x at *
      rw [e1]
      repeat' (first | (refine iBu ?_; refine tl_y (y_buildN rfl) rfl rfl ?_) | (refine i_op ?_; first | (refine i_qq ?_; refine qQ ?_) | refine qEf ?_) | refine tl_nil ?_ | (refine i_tc ?_; refine qTc ?_) | (refine i_te ?_; refine qTe ?_) | intro _)
      refine tl_freeze (ownC (Value.slice va lv.length vc) (lvF lv) sp 32) (fun ρ3 hle3 hfz => ?_)
      obtain ⟨sa, sc, f1, hsc, hA⟩ := hown.aIn (l := lv) rfl (fun x _ => rfl) hfz
      cases f1
      have hB := back_of (hI.mark0 (by omega))
      have hz3 := Hp.le_trans hz2 hle3
      have hCt := cut_spec ρ3 vC _ (hrC.mono hle3)
      have hRd := fun ρ1 (h1 : ρ3.le ρ1) => read_ck_spec ρ1 vC _ ((hrC.mono hle3).mono h1)
      rw [hB.ros, hB.e, hB.d] at hRd
      rw [hB.is0] at hCt
      have hEnd := fun t (hT : TI (lv.map (·.2)) dC cC (lv.map (·.2)).length t) r hr p => misses_end hI (by omega) hT (r := r) hr (p := p)
      have hcut : cutN (makeX R0 dC cC) ≤ cC := by rw [hB.cut]; exact leastN_le.1
      have hlsn : (makeX R0 dC cC).lsn = cC := rfl
      generalize cutN (makeX R0 dC cC) = cn at *
      repeat' (first | (refine tl_is (.func 27) ?_; refine qC rfl rfl (hCt) ?_; rintro v ρ' L' hle ⟨hl4, rfl, rfl⟩ <;> (try simp only [List.cons_append, List.nil_append, List.append_eq])) | (refine tl_is (.func 28) ?_; refine qC rfl rfl (hRd _ hl4) ?_; rintro v ρ' L' hle ⟨hl5, s2, s3, rfl, hs2, hs3, rfl⟩ <;> (try simp only [List.cons_append, List.nil_append, List.append_eq])) | (refine iBu ?_; refine tl_y (y_buildN rfl) rfl rfl ?_) | (refine i_op ?_; first | (refine i_qq ?_; refine qQ ?_) | refine qEf ?_) | refine tl_nil ?_ | (refine i_tc ?_; refine qTc ?_) | (refine i_te ?_; refine qTe ?_) | intro _)
      have hInv := hI
      have hl6 := Hp.le_trans hl4 hl5
      refine tc_loop_g [(4, _), (5, _), (7, _), (21, _), (167, _), (168, _)] (fun (ζ : (Nat) × (Hp) × (SV) × (List CkP)) => [(169, .int .i64 ζ.1), (2, .bool false), (22, .int .i64 0), (24, .slice ζ.2.2.1.a ζ.2.2.1.n ζ.2.2.1.c)]) (fun (ζ : (Nat) × (Hp) × (SV) × (List CkP)) => ζ.2.1) (fun (ζ : (Nat) × (Hp) × (SV) × (List CkP)) => [[(b5, .map ⟨es5⟩ ck5)], [(b7, .cells ⟨recV vC (makeX R0 dC cC)⟩ 32 (0, 0))]]) (fun (ζ : (Nat) × (Hp) × (SV) × (List CkP)) => ζ.1 ≤ lv.length ∧ ρ'.le ζ.2.1 ∧ AS ζ.2.1 2 ckPV ζ.2.2.1 ζ.2.2.2 ∧ TI (lv.map (·.2)) dC cC ζ.1 ζ.2.2.2) (fun (ζ : (Nat) × (Hp) × (SV) × (List CkP)) => lv.length - ζ.1) ((0, ρ', s3, dC)) (⟨Nat.zero_le _, Hp.le_refl _, hs3, hInv.ti0⟩) ev_le ev_le rfl tk ?_
      rintro ⟨j, ρ4, s4, t⟩ hI
      try simp only [List.cons_append, List.nil_append, List.append_assoc, List.append_eq] at hI ⊢
      try dsimp only at hI ⊢
      obtain ⟨hj, hle4, hs4, hT⟩ := hI
      have hl34 := Hp.le_trans hl6 hle4
      have hl24 := Hp.le_trans hle3 hl34
      have hA4 := hA.mono hl34
      by_cases hjt : j < lv.length
      · obtain ⟨bo, oo, Co, To, fo, e2, hbo, hfo, hco⟩ := hA4.get hjt
        have hxm := hlv _ (List.getElem_mem hjt)
        have hjm : j < (lv.map (·.2)).length := by rw [List.length_map]; exact hjt
        have hgm : (lv.map (·.2))[j] = (lv[j]).2 := List.getElem_map ..
        have hlo := hInv.logs j hjm
        have hTs1 := fun h => hT.step hInv hjm h
        have hTs2 := fun h => hT.skip hjm h
        rw [hgm] at hlo hTs1 hTs2
        clear hgm
        generalize lv[j] = y at *
        have hyR := hxm.1.mono hl24
        rw [e2]
        by_cases hc : cC < y.2.lsn
        · have hTc := touch_spec ρ4 s4 t hs4 (by have := tbl_len (last := -1) (by omega) hT.tbl; omega) y.1 y.2 hyR (by omega)
          have htE : touchE t y.2 = 0 := by unfold touchE; rw [hT.tbl, hlo.2]; rfl
          have htR : touchR t y.2 = touchP y.2 t := by unfold touchR; rw [hT.tbl, hlo.2]; rfl
          rw [htE, htR] at hTc
          repeat' (first | (refine tl_is (.func 13) ?_; refine qC rfl rfl (hTc) ?_; rintro v ρ' L' hle ⟨hl7, s6, rfl, hs6, rfl⟩ <;> (try simp only [List.cons_append, List.nil_append, List.append_eq])) | (refine iBu ?_; refine tl_y (y_buildN rfl) rfl rfl ?_) | (refine i_op ?_; first | (refine i_qq ?_; refine qQ ?_) | refine qEf ?_) | refine tl_nil ?_ | (refine i_tc ?_; refine qTc ?_) | (refine i_te ?_; refine qTe ?_) | intro _)
          rw [← e2]
          refine te_round_g (j + 1, ρ', s6, touchP y.2 t) (⟨hjt, Hp.le_trans hle4 hl7, hs6, hTs1 hc⟩) ev_le ev_le rfl tk inferInstance (by first | omega | (dsimp only; omega))
        · repeat' (first | (refine iBu ?_; refine tl_y (y_buildN rfl) rfl rfl ?_) | (refine i_op ?_; first | (refine i_qq ?_; refine qQ ?_) | refine qEf ?_) | refine tl_nil ?_ | (refine i_tc ?_; refine qTc ?_) | (refine i_te ?_; refine qTe ?_) | intro _)
          rw [← e2]
          refine te_round_g (j + 1, ρ4, s4, t) (⟨hjt, hle4, hs4, hTs2 hc⟩) ev_le ev_le rfl tk inferInstance (by first | omega | (dsimp only; omega))
      · have hjl : j = (lv.map (·.2)).length := by rw [List.length_map]; omega
        rw [hjl] at hT
        have hE0 := hEnd t hT
        repeat' (first | (refine iBu ?_; refine tl_y (y_buildN rfl) rfl rfl ?_) | (refine i_op ?_; first | (refine i_qq ?_; refine qQ ?_) | refine qEf ?_) | refine tl_nil ?_ | (refine i_tc ?_; refine qTc ?_) | (refine i_te ?_; refine qTe ?_) | intro _)
        refine tc_loop_g [(5, _), (21, _), (24, _), (187, _), (188, _)] (fun (ζ : (Nat)) => [(189, .int .i64 ζ), (2, .bool false)]) (fun (ζ : (Nat)) => ρ4) (fun (ζ : (Nat)) => [[(b5, .map ⟨es5⟩ ck5)]]) (fun (ζ : (Nat)) => ζ ≤ lv.length) (fun (ζ : (Nat)) => lv.length - ζ) (0) (Nat.zero_le _) ev_le ev_le rfl tk ?_
        rintro i hI
        try simp only [List.cons_append, List.nil_append, List.append_assoc, List.append_eq] at hI ⊢
        try dsimp only at hI ⊢
        by_cases hit : i < lv.length
        · obtain ⟨bo, oo, Co, To, fo, e3, hbo, hfo, hco⟩ := hA4.get hit
          have hxm := hlv _ (List.getElem_mem hit)
          have hym : (lv[i]).2 ∈ lv.map (·.2) := List.mem_map.2 ⟨_, List.getElem_mem hit, rfl⟩
          generalize lv[i] = y at *
          have hyR := hxm.1.mono hl24
          rw [e3]
          repeat' (first | (refine iBu ?_; refine tl_y (y_buildN rfl) rfl rfl ?_) | (refine i_op ?_; first | (refine i_qq ?_; refine qQ ?_) | refine qEf ?_) | refine tl_nil ?_ | (refine i_tc ?_; refine qTc ?_) | (refine i_te ?_; refine qTe ?_) | intro _)
          rename_i b29
          refine tc_loop_g [(5, _), (21, _), (24, _), (29, _), (187, _), (188, _), (189, _)] (fun (ζ : (Nat)) => [(193, .int .i64 ζ), (2, .bool false)]) (fun (ζ : (Nat)) => ρ4) (fun (ζ : (Nat)) => [[(b5, .map ⟨es5⟩ ck5)], [(b29, .cells ⟨lvV y⟩ 32 (0, 0))]]) (fun (ζ : (Nat)) => ζ ≤ 6) (fun (ζ : (Nat)) => 6 - ζ) (0) (Nat.zero_le _) ev_le ev_le rfl tk ?_
          rintro q hI
          try simp only [List.cons_append, List.nil_append, List.append_assoc, List.append_eq] at hI ⊢
          try dsimp only at hI ⊢
          by_cases hq6 : q < 6
          · have hRe := redoes_spec ρ4 y.1 y.2 hyR (q : Int)
            have hNe := needs_spec ρ4 s4 t hs4 y.1 y.2 hyR (q : Int)
            have hE := hE0 y.2 hym (q : Int)
            have hg5 := hm5.get (q : Int)
            have hk5 := hm5.keys
            obtain ⟨k0, c0, hc0⟩ : ∃ k0 c0, contO (redoI y.2 (q : Int)) = contV k0 c0 := by unfold contO; split <;> exact ⟨_, _, rfl⟩
            rw [hc0] at hRe
            clear hc0
            generalize needsB t y.2 (q : Int) = nb at *
            generalize (redoI y.2 (q : Int)).isSome = rb at *
            generalize disk (q : Int) = dq at *
            by_cases hd : rb = true ∧ dq < y.2.lsn
            · obtain ⟨hE1, hE2⟩ := hE hd.1 hd.2
              obtain ⟨rfl, hd⟩ := hd
              rw [hE2] at hNe
              rcases hg5 with ⟨g5, rfl⟩ | g5
              all_goals (repeat' (first | (refine tl_is (.func 29) ?_; refine qC rfl rfl (hRe) ?_; rintro v ρ' L' hle ⟨rfl, rfl, rfl⟩ <;> (try simp only [List.cons_append, List.nil_append, List.append_eq])) | (refine tl_is (.func 19) ?_; refine qC rfl rfl (hNe) ?_; rintro v ρ' L' hle ⟨rfl, rfl, rfl⟩ <;> (try simp only [List.cons_append, List.nil_append, List.append_eq])) | (refine iBu ?_; refine tl_y (y_buildN rfl) rfl rfl ?_) | (refine i_op ?_; first | (refine i_qq ?_; refine qQ ?_) | refine qEf ?_) | refine tl_nil ?_ | (refine i_tc ?_; refine qTc ?_) | (refine i_te ?_; refine qTe ?_) | intro _))
              all_goals refine te_round_g (q + 1) (hq6) ev_le ev_le rfl tk inferInstance (by first | omega | (dsimp only; omega))
            · rcases hg5 with ⟨g5, rfl⟩ | g5
              all_goals cases rb
              all_goals simp only [true_and, Bool.false_eq_true, false_and, not_false_eq_true] at hd
              all_goals (repeat' (first | (refine tl_is (.func 29) ?_; refine qC rfl rfl (hRe) ?_; rintro v ρ' L' hle ⟨rfl, rfl, rfl⟩ <;> (try simp only [List.cons_append, List.nil_append, List.append_eq])) | (refine tl_is (.func 19) ?_; refine qC rfl rfl (hNe) ?_; rintro v ρ' L' hle ⟨rfl, rfl, rfl⟩ <;> (try simp only [List.cons_append, List.nil_append, List.append_eq])) | (refine iBu ?_; refine tl_y (y_buildN rfl) rfl rfl ?_) | (refine i_op ?_; first | (refine i_qq ?_; refine qQ ?_) | refine qEf ?_) | refine tl_nil ?_ | (refine i_tc ?_; refine qTc ?_) | (refine i_te ?_; refine qTe ?_) | intro _))
              all_goals refine te_round_g (q + 1) (hq6) ev_le ev_le rfl tk inferInstance (by first | omega | (dsimp only; omega))
          · repeat' (first | (refine iBu ?_; refine tl_y (y_buildN rfl) rfl rfl ?_) | (refine i_op ?_; first | (refine i_qq ?_; refine qQ ?_) | refine qEf ?_) | refine tl_nil ?_ | (refine i_tc ?_; refine qTc ?_) | (refine i_te ?_; refine qTe ?_) | intro _)
            rw [← e3]
            refine te_round_g (i + 1) (hit) ev_le ev_le rfl tk inferInstance (by first | omega | (dsimp only; omega))
        · repeat' (first | (refine iBu ?_; refine tl_y (y_buildN rfl) rfl rfl ?_) | (refine i_op ?_; first | (refine i_qq ?_; refine qQ ?_) | refine qEf ?_) | refine tl_nil ?_ | (refine i_tc ?_; refine qTc ?_) | (refine i_te ?_; refine qTe ?_) | intro _)
          have hfin : ρ.le ρ4 := Hp.le_trans hz2 hl24
          exact qE (L' := []) ⟨rfl, hfin, rfl⟩ (hle := hfin)
  · skip
    repeat' (first | (refine iBu ?_; refine tl_y (y_buildN rfl) rfl rfl ?_) | (refine i_op ?_; first | (refine i_qq ?_; refine qQ ?_) | refine qEf ?_) | refine tl_nil ?_ | (refine i_tc ?_; refine qTc ?_) | (refine i_te ?_; refine qTe ?_) | intro _)
    refine tl_freeze (ownC (Value.slice va lv.length vc) (lvF lv) sp 32) (fun ρ3 hle3 hfz => ?_)
    obtain ⟨sa, sc, f1, hsc, hA⟩ := hown.aIn (l := lv) rfl (fun x _ => rfl) hfz
    cases f1
    have hB := back_of (hI.mark0 (by omega))
    have hz3 := Hp.le_trans hz2 hle3
    have hCt := cut_spec ρ3 vC _ (hrC.mono hle3)
    have hRd := fun ρ1 (h1 : ρ3.le ρ1) => read_ck_spec ρ1 vC _ ((hrC.mono hle3).mono h1)
    rw [hB.ros, hB.e, hB.d] at hRd
    rw [hB.is0] at hCt
    have hEnd := fun t (hT : TI (lv.map (·.2)) dC cC (lv.map (·.2)).length t) r hr p => misses_end hI (by omega) hT (r := r) hr (p := p)
    have hcut : cutN (makeX R0 dC cC) ≤ cC := by rw [hB.cut]; exact leastN_le.1
    have hlsn : (makeX R0 dC cC).lsn = cC := rfl
    generalize cutN (makeX R0 dC cC) = cn at *
    repeat' (first | (refine tl_is (.func 27) ?_; refine qC rfl rfl (hCt) ?_; rintro v ρ' L' hle ⟨hl4, rfl, rfl⟩ <;> (try simp only [List.cons_append, List.nil_append, List.append_eq])) | (refine tl_is (.func 28) ?_; refine qC rfl rfl (hRd _ hl4) ?_; rintro v ρ' L' hle ⟨hl5, s2, s3, rfl, hs2, hs3, rfl⟩ <;> (try simp only [List.cons_append, List.nil_append, List.append_eq])) | (refine iBu ?_; refine tl_y (y_buildN rfl) rfl rfl ?_) | (refine i_op ?_; first | (refine i_qq ?_; refine qQ ?_) | refine qEf ?_) | refine tl_nil ?_ | (refine i_tc ?_; refine qTc ?_) | (refine i_te ?_; refine qTe ?_) | intro _)
    have hInv := hI
    have hl6 := Hp.le_trans hl4 hl5
    refine tc_loop_g [(4, _), (5, _), (7, _), (21, _), (167, _), (168, _)] (fun (ζ : (Nat) × (Hp) × (SV) × (List CkP)) => [(169, .int .i64 ζ.1), (2, .bool false), (22, .int .i64 0), (24, .slice ζ.2.2.1.a ζ.2.2.1.n ζ.2.2.1.c)]) (fun (ζ : (Nat) × (Hp) × (SV) × (List CkP)) => ζ.2.1) (fun (ζ : (Nat) × (Hp) × (SV) × (List CkP)) => [[(b5, .map ⟨es5⟩ ck5)], [(b7, .cells ⟨recV vC (makeX R0 dC cC)⟩ 32 (0, 0))]]) (fun (ζ : (Nat) × (Hp) × (SV) × (List CkP)) => ζ.1 ≤ lv.length ∧ ρ'.le ζ.2.1 ∧ AS ζ.2.1 2 ckPV ζ.2.2.1 ζ.2.2.2 ∧ TI (lv.map (·.2)) dC cC ζ.1 ζ.2.2.2) (fun (ζ : (Nat) × (Hp) × (SV) × (List CkP)) => lv.length - ζ.1) ((0, ρ', s3, dC)) (⟨Nat.zero_le _, Hp.le_refl _, hs3, hInv.ti0⟩) ev_le ev_le rfl tk ?_
    rintro ⟨j, ρ4, s4, t⟩ hI
    try simp only [List.cons_append, List.nil_append, List.append_assoc, List.append_eq] at hI ⊢
    try dsimp only at hI ⊢
    obtain ⟨hj, hle4, hs4, hT⟩ := hI
    have hl34 := Hp.le_trans hl6 hle4
    have hl24 := Hp.le_trans hle3 hl34
    have hA4 := hA.mono hl34
    by_cases hjt : j < lv.length
    · obtain ⟨bo, oo, Co, To, fo, e2, hbo, hfo, hco⟩ := hA4.get hjt
      have hxm := hlv _ (List.getElem_mem hjt)
      have hjm : j < (lv.map (·.2)).length := by rw [List.length_map]; exact hjt
      have hgm : (lv.map (·.2))[j] = (lv[j]).2 := List.getElem_map ..
      have hlo := hInv.logs j hjm
      have hTs1 := fun h => hT.step hInv hjm h
      have hTs2 := fun h => hT.skip hjm h
      rw [hgm] at hlo hTs1 hTs2
      clear hgm
      generalize lv[j] = y at *
      have hyR := hxm.1.mono hl24
      rw [e2]
      by_cases hc : cC < y.2.lsn
      · have hTc := touch_spec ρ4 s4 t hs4 (by have := tbl_len (last := -1) (by omega) hT.tbl; omega) y.1 y.2 hyR (by omega)
        have htE : touchE t y.2 = 0 := by unfold touchE; rw [hT.tbl, hlo.2]; rfl
        have htR : touchR t y.2 = touchP y.2 t := by unfold touchR; rw [hT.tbl, hlo.2]; rfl
        rw [htE, htR] at hTc
        repeat' (first | (refine tl_is (.func 13) ?_; refine qC rfl rfl (hTc) ?_; rintro v ρ' L' hle ⟨hl7, s6, rfl, hs6, rfl⟩ <;> (try simp only [List.cons_append, List.nil_append, List.append_eq])) | (refine iBu ?_; refine tl_y (y_buildN rfl) rfl rfl ?_) | (refine i_op ?_; first | (refine i_qq ?_; refine qQ ?_) | refine qEf ?_) | refine tl_nil ?_ | (refine i_tc ?_; refine qTc ?_) | (refine i_te ?_; refine qTe ?_) | intro _)
        rw [← e2]
        refine te_round_g (j + 1, ρ', s6, touchP y.2 t) (⟨hjt, Hp.le_trans hle4 hl7, hs6, hTs1 hc⟩) ev_le ev_le rfl tk inferInstance (by first | omega | (dsimp only; omega))
      · repeat' (first | (refine iBu ?_; refine tl_y (y_buildN rfl) rfl rfl ?_) | (refine i_op ?_; first | (refine i_qq ?_; refine qQ ?_) | refine qEf ?_) | refine tl_nil ?_ | (refine i_tc ?_; refine qTc ?_) | (refine i_te ?_; refine qTe ?_) | intro _)
        rw [← e2]
        refine te_round_g (j + 1, ρ4, s4, t) (⟨hjt, hle4, hs4, hTs2 hc⟩) ev_le ev_le rfl tk inferInstance (by first | omega | (dsimp only; omega))
    · have hjl : j = (lv.map (·.2)).length := by rw [List.length_map]; omega
      rw [hjl] at hT
      have hE0 := hEnd t hT
      repeat' (first | (refine iBu ?_; refine tl_y (y_buildN rfl) rfl rfl ?_) | (refine i_op ?_; first | (refine i_qq ?_; refine qQ ?_) | refine qEf ?_) | refine tl_nil ?_ | (refine i_tc ?_; refine qTc ?_) | (refine i_te ?_; refine qTe ?_) | intro _)
      refine tc_loop_g [(5, _), (21, _), (24, _), (187, _), (188, _)] (fun (ζ : (Nat)) => [(189, .int .i64 ζ), (2, .bool false)]) (fun (ζ : (Nat)) => ρ4) (fun (ζ : (Nat)) => [[(b5, .map ⟨es5⟩ ck5)]]) (fun (ζ : (Nat)) => ζ ≤ lv.length) (fun (ζ : (Nat)) => lv.length - ζ) (0) (Nat.zero_le _) ev_le ev_le rfl tk ?_
      rintro i hI
      try simp only [List.cons_append, List.nil_append, List.append_assoc, List.append_eq] at hI ⊢
      try dsimp only at hI ⊢
      by_cases hit : i < lv.length
      · obtain ⟨bo, oo, Co, To, fo, e3, hbo, hfo, hco⟩ := hA4.get hit
        have hxm := hlv _ (List.getElem_mem hit)
        have hym : (lv[i]).2 ∈ lv.map (·.2) := List.mem_map.2 ⟨_, List.getElem_mem hit, rfl⟩
        generalize lv[i] = y at *
        have hyR := hxm.1.mono hl24
        rw [e3]
        repeat' (first | (refine iBu ?_; refine tl_y (y_buildN rfl) rfl rfl ?_) | (refine i_op ?_; first | (refine i_qq ?_; refine qQ ?_) | refine qEf ?_) | refine tl_nil ?_ | (refine i_tc ?_; refine qTc ?_) | (refine i_te ?_; refine qTe ?_) | intro _)
        rename_i b29
        refine tc_loop_g [(5, _), (21, _), (24, _), (29, _), (187, _), (188, _), (189, _)] (fun (ζ : (Nat)) => [(193, .int .i64 ζ), (2, .bool false)]) (fun (ζ : (Nat)) => ρ4) (fun (ζ : (Nat)) => [[(b5, .map ⟨es5⟩ ck5)], [(b29, .cells ⟨lvV y⟩ 32 (0, 0))]]) (fun (ζ : (Nat)) => ζ ≤ 6) (fun (ζ : (Nat)) => 6 - ζ) (0) (Nat.zero_le _) ev_le ev_le rfl tk ?_
        rintro q hI
        try simp only [List.cons_append, List.nil_append, List.append_assoc, List.append_eq] at hI ⊢
        try dsimp only at hI ⊢
        by_cases hq6 : q < 6
        · have hRe := redoes_spec ρ4 y.1 y.2 hyR (q : Int)
          have hNe := needs_spec ρ4 s4 t hs4 y.1 y.2 hyR (q : Int)
          have hE := hE0 y.2 hym (q : Int)
          have hg5 := hm5.get (q : Int)
          have hk5 := hm5.keys
          obtain ⟨k0, c0, hc0⟩ : ∃ k0 c0, contO (redoI y.2 (q : Int)) = contV k0 c0 := by unfold contO; split <;> exact ⟨_, _, rfl⟩
          rw [hc0] at hRe
          clear hc0
          generalize needsB t y.2 (q : Int) = nb at *
          generalize (redoI y.2 (q : Int)).isSome = rb at *
          generalize disk (q : Int) = dq at *
          by_cases hd : rb = true ∧ dq < y.2.lsn
          · obtain ⟨hE1, hE2⟩ := hE hd.1 hd.2
            obtain ⟨rfl, hd⟩ := hd
            rw [hE2] at hNe
            rcases hg5 with ⟨g5, rfl⟩ | g5
            all_goals (repeat' (first | (refine tl_is (.func 29) ?_; refine qC rfl rfl (hRe) ?_; rintro v ρ' L' hle ⟨rfl, rfl, rfl⟩ <;> (try simp only [List.cons_append, List.nil_append, List.append_eq])) | (refine tl_is (.func 19) ?_; refine qC rfl rfl (hNe) ?_; rintro v ρ' L' hle ⟨rfl, rfl, rfl⟩ <;> (try simp only [List.cons_append, List.nil_append, List.append_eq])) | (refine iBu ?_; refine tl_y (y_buildN rfl) rfl rfl ?_) | (refine i_op ?_; first | (refine i_qq ?_; refine qQ ?_) | refine qEf ?_) | refine tl_nil ?_ | (refine i_tc ?_; refine qTc ?_) | (refine i_te ?_; refine qTe ?_) | intro _))
            all_goals refine te_round_g (q + 1) (hq6) ev_le ev_le rfl tk inferInstance (by first | omega | (dsimp only; omega))
          · rcases hg5 with ⟨g5, rfl⟩ | g5
            all_goals cases rb
            all_goals simp only [true_and, Bool.false_eq_true, false_and, not_false_eq_true] at hd
            all_goals (repeat' (first | (refine tl_is (.func 29) ?_; refine qC rfl rfl (hRe) ?_; rintro v ρ' L' hle ⟨rfl, rfl, rfl⟩ <;> (try simp only [List.cons_append, List.nil_append, List.append_eq])) | (refine tl_is (.func 19) ?_; refine qC rfl rfl (hNe) ?_; rintro v ρ' L' hle ⟨rfl, rfl, rfl⟩ <;> (try simp only [List.cons_append, List.nil_append, List.append_eq])) | (refine iBu ?_; refine tl_y (y_buildN rfl) rfl rfl ?_) | (refine i_op ?_; first | (refine i_qq ?_; refine qQ ?_) | refine qEf ?_) | refine tl_nil ?_ | (refine i_tc ?_; refine qTc ?_) | (refine i_te ?_; refine qTe ?_) | intro _))
            all_goals refine te_round_g (q + 1) (hq6) ev_le ev_le rfl tk inferInstance (by first | omega | (dsimp only; omega))
        · repeat' (first | (refine iBu ?_; refine tl_y (y_buildN rfl) rfl rfl ?_) | (refine i_op ?_; first | (refine i_qq ?_; refine qQ ?_) | refine qEf ?_) | refine tl_nil ?_ | (refine i_tc ?_; refine qTc ?_) | (refine i_te ?_; refine qTe ?_) | intro _)
          rw [← e3]
          refine te_round_g (i + 1) (hit) ev_le ev_le rfl tk inferInstance (by first | omega | (dsimp only; omega))
      · repeat' (first | (refine iBu ?_; refine tl_y (y_buildN rfl) rfl rfl ?_) | (refine i_op ?_; first | (refine i_qq ?_; refine qQ ?_) | refine qEf ?_) | refine tl_nil ?_ | (refine i_tc ?_; refine qTc ?_) | (refine i_te ?_; refine qTe ?_) | intro _)
        have hfin : ρ.le ρ4 := Hp.le_trans hz2 hl24
        exact qE (L' := []) ⟨rfl, hfin, rfl⟩ (hle := hfin)
end Go.Proofs.E

namespace Go.Proofs.E
open Go Go.RowKit
set_option linter.unusedVariables false
set_option linter.unusedSimpArgs false
set_option linter.unusedSectionVars false
set_option maxRecDepth 8000
section
variable {H : Type} {enc : TypeId × Value → H} {w : World}
theorem opnS_deed : OpnS enc Try.prog w 56 (fun cs (x : DdD) => cs = ddV x ∧ SIn (hpOf w) i64c x.s.a x.s.n x.p ∧ x.s.n ≤ 9223372036854775807) := fun fuel cs x h hw => by
  obtain ⟨hl, hf⟩ := opnS_fields Try.underlying56 h hw
  have hl : cs.length = 3 := by rw [hl]; kernel_rfl
  obtain ⟨c0, c1, c2, rfl⟩ : ∃ c0 c1 c2, cs = [c0, c1, c2] := by
    match cs, hl with
    | [c0, c1, c2], _ => exact ⟨c0, c1, c2, rfl⟩
  obtain ⟨⟨sa, sn, sc, st⟩, h0, w0⟩ := opnS_field h hw Try.underlying56 0 0 1 rfl rfl rfl (by kernel_rfl) (opnS_slice (sz := 1) (by' := 8) Try.underlying24 (by kernel_rfl) (by decide) (by kernel_rfl) opnS_i64)
  obtain ⟨b, h1⟩ := opnS_field h hw Try.underlying56 1 1 1 rfl rfl rfl (by kernel_rfl) (opn_bool Try.underlying4).sized
  obtain ⟨b2, h2⟩ := opnS_field h hw Try.underlying56 2 2 1 rfl rfl rfl (by kernel_rfl) (opn_bool Try.underlying4).sized
  obtain ⟨s1, s2, s3, s4⟩ := aIn_ofW (g := fun x : Int => [i64c x]) (fun _ => rfl) h0
  replace h0 := h0.cells
  simp only [RB, List.drop_zero, List.drop_succ_cons, List.take_succ_cons, List.take_zero, List.cons.injEq, and_true] at h0 h1 h2
  subst h0; subst h1; subst h2
  exact ⟨⟨⟨sa, sn, sc⟩, st, b, b2⟩, rfl, sIn_ofA s1, s4⟩
end
end Go.Proofs.E

namespace Go.Proofs.Ytkihjlnjdemnbaa.CkptMissesLaw
open Go Go.ChangeShapes Go.WideShapes Go.ChangeAt Go.RowKit Go.Proofs.E
set_option linter.unusedVariables false

theorem own : ownKnob Try.prog.godebug = none := by kernel_rfl
theorem laidOut : laidOutB Try.prog = true := by kernel_rfl

set_option maxRecDepth 100000 in
theorem lifted (os : Os) (started : os.Started) (H : Type) (enc : TypeId × Value → H) :
    ReturnsInHanded {} Try.checked os 6 .any (Rows.ckptMissesSpec.pre6 enc Try.prog Try.f6 Rows.ckptMissesRow.domain false) (Rows.ckptMissesSpec.post enc Try.prog Try.f6 false true false false) := by
  refine returnsInHanded_of_change_sized (C := Try.checked) own started (by kernel_rfl) Try.func6
    (ChangeSpec.witness6 (enc := enc) (C := Try.checked) false ⟨#[], #[.slice none 0 0], []⟩ 8 (by kernel_rfl) (by kernel_rfl) (by kernel_rfl) (by kernel_rfl)) ?_
  intro W base args ds gs before hval0 hW hcnd hsz0 _
  have hval : ∀ (j : Nat) t v, Try.f6.params[j]? = some t → args[j]? = some v → Value.okWide Try.prog W .any base t v := hval0
  have hW' := hW
  obtain ⟨p, q, hA0, hV, rfl, hfz, hnd⟩ := hW
  have hA : DataW.TrodAll enc Try.prog W 0 (fun _ => true) true Try.f6.params.toList args.toList ds p := hA0
  have hsz : (DataW.weightsEach Try.prog (Try.f6.params.toList ++ Rows.ckptMissesSpec.plain.varTypes Try.prog) (ds ++ gs)).all (· ≤ reachBytes) = true := hsz0
  rw [Try.params6] at hA hval hsz
  obtain ⟨v0, vs0, d0, ds0, p0, q0, hargs, rfl, rfl, h0, r0⟩ := trodAll_cons hA
  obtain ⟨rfl, rfl, rfl⟩ := trodAll_nil r0
  obtain rfl : args = #[v0] := by cases args; simp_all
  obtain ⟨rfl, rfl⟩ := trodVars_none hV
  have k0 := h0
  have lt0 : ∀ x ∈ p0, x.block < W.heap.size := by obtain ⟨m, hm⟩ := k0; exact DataW.trod_lt m _ _ _ hm
  obtain ⟨a0, n0, c0, rfl⟩ := okWide_slice Try.underlying53 (hval 0 53 v0 rfl rfl)
  obtain ⟨s0, e0, b0⟩ := (opnS_slice (sz := 3) (by' := 32) Try.underlying53 (by kernel_rfl) (by decide) (by kernel_rfl) opnS_deed) _ _ _ h0.choose_spec (wts_of hsz (j := 0) rfl rfl)
  simp only [reachBytes] at b0
  obtain ⟨⟨y0, m0, z0, x0⟩, ec0⟩ : ∃ s, s = s0 := ⟨s0, rfl⟩
  subst ec0
  have ec0 := e0.cells
  simp only [Value.cells, List.cons.injEq, Value.slice.injEq, and_true] at ec0
  obtain ⟨rfl, rfl, rfl⟩ := ec0
  clear hA0 hval0
  obtain ⟨hA0, hP0, hc0, hb0⟩ := aIn_ofW (g := ddV) (fun _ => rfl) e0
  refine (Spec.law (missesLaw_spec (hpOf W) a0 n0 c0 x0 hA0 hP0 hb0)).mono fun e W' ⟨he, bel⟩ => ?_
  subst he
  exact ⟨_, rfl, _, _, _, [], _, [], hW', trodAll_mk1 (shut_bool Try.underlying4 _), (trodAll_cons_mk (Below.trod laidOut (by kernel_rfl) (of_decide_eq_true (by kernel_rfl)) k0 bel lt0) trodAll_mk0), rfl, bel.frame _, fun h => by cases h⟩

theorem over : Rows.ckptMissesRow.holds Try.pinned (OpenSpec.ofChange Rows.ckptMissesSpec) :=
  OpenClaim.holds_of_wide 6 Try.f6 rfl rfl rfl rfl rfl rfl rfl ⟨rfl, rfl, rfl, rfl, rfl⟩ rfl rfl rfl rfl rfl (by kernel_rfl) Try.func6 (by kernel_rfl)
    (of_decide_eq_true (by kernel_rfl)) (by unfold Func.isWrapper; first | (rw [if_pos (by decide +kernel)]; kernel_rfl) | (rw [if_neg (by decide +kernel)]; exact ⟨rfl, rfl⟩))
    (fun os started H enc _ => lifted os started H enc)

theorem proved : Rows.CkptMissesSaid := over
end Go.Proofs.Ytkihjlnjdemnbaa.CkptMissesLaw

