/- The law RosterRooms. Part 2 of 3. -/
import Derived.Test.YtjajdpfdhokkhaaGreatX1
namespace Go.Proofs.E
open Go
set_option linter.unusedVariables false
set_option linter.unusedSimpArgs false
set_option linter.unusedSectionVars false
set_option maxRecDepth 4000
set_option maxHeartbeats 1000000
attribute [local irreducible] Yl TL TC TE Spec YSpec R1 Hp.le EnvLe TS TR YS Stays
-- BN
instance instFunCost : Fun Tryz.prog 46 := mkFun (by kernel_rfl)
theorem rosRooms_spec (ρ : Hp) (a : Option Addr) (n c : Nat) (l : List OpD) (h : AIn ρ 15 opV a n l) (hw : ∀ x ∈ l, OpW ρ x) (hn : n ≤ 9223372036854775807) :
    Spec Tryz.prog 9 [.slice a n c] ρ [] (fun z ρ' L' => z = .bool true ∧ ρ.le ρ' ∧ L' = []) := by
  have hl := h.len
  refine spec_enter Tryz.func9 rfl rfl rfl fun u R => ?_
  simp only [argsE, List.cons_append, List.nil_append]
  repeat' (first | (refine tl_is (.func 32) ?_; refine qC rfl rfl (wakes18_spec _) ?_; rintro v ρ' L' hle ⟨rfl, hz1, rfl⟩ <;> (try simp only [kM, kN, kO])) | (refine tl_is (.func 35) ?_; refine qC rfl rfl (rnew_spec _) ?_; rintro v ρ' L' hle ⟨rfl, rfl, rfl⟩ <;> (try simp only [kM, kN, kO])) | (refine iBu ?_; refine tl_y (y_buildN rfl) rfl rfl ?_) | (refine i_op ?_; first | (refine i_qq ?_; refine qQ ?_) | refine qEf ?_) | refine tl_nil ?_ | (refine i_tc ?_; refine qTc ?_) | (refine i_te ?_; refine qTe ?_) | intro _)
  rename_i b3
  refine tc_loop_g [(3, _), (18, _), (19, _)] (fun (ζ : (Nat) × (Hp) × (SV) × (Ros)) => [(20, .int .i64 ζ.1), (2, .bool false)]) (fun (ζ : (Nat) × (Hp) × (SV) × (Ros)) => ζ.2.1) (fun (ζ : (Nat) × (Hp) × (SV) × (Ros)) => [[(b3, .cells ⟨rosV ζ.2.2.1 ζ.2.2.2⟩ 34 (0, 0))]]) (fun (ζ : (Nat) × (Hp) × (SV) × (Ros)) => ζ.1 ≤ n ∧ ρ.le ζ.2.1 ∧ RosIn ζ.2.1 ζ.2.2.1 ζ.2.2.2 ∧ rosOkP ζ.2.2.2.p = true) (fun (ζ : (Nat) × (Hp) × (SV) × (Ros)) => n - ζ.1) ((0, ρ', nilS, ⟨1, []⟩)) (⟨Nat.zero_le _, hz1, rnew_in _, show rosOkP ⟨1, []⟩ = true by decide⟩) ev_le ev_le rfl tk ?_
  rintro ⟨k, ρ1, v, ro⟩ hI
  try simp only [List.cons_append, List.nil_append, List.append_assoc, List.append_eq] at hI ⊢
  try dsimp only at hI ⊢
  obtain ⟨hk, hle0, hR, hok⟩ := hI
  by_cases hlt : k < n
  · obtain ⟨b, off, C, T, fr, e1, hb, hfit, hcc⟩ := (h.mono hle0).get (show k < l.length by omega)
    have hwx := (hw _ (List.getElem_mem (show k < l.length by omega))).mono hle0
    generalize l[k]'(by omega) = o at *
    rw [e1]
    by_cases h60 : k = 60
    · repeat' (first | (refine iBu ?_; refine tl_y (y_buildN rfl) rfl rfl ?_) | (refine i_op ?_; first | (refine i_qq ?_; refine qQ ?_) | refine qEf ?_) | refine tl_nil ?_ | (refine i_tc ?_; refine qTc ?_) | (refine i_te ?_; refine qTe ?_) | intro _)
      exact qE (L' := []) (hle := hle0) ⟨rfl, hle0, rfl⟩
    have hov := over18_spec ρ1 o.rv o.rc hwx.r
    cases ho : overB o.rc
    case' true =>
      rw [ho] at hov
      repeat' (first | (refine tl_is (.func 37) ?_; refine qC rfl rfl (hov) ?_; rintro v ρ' L' hle ⟨rfl, rfl, rfl⟩ <;> (try simp only [kM, kN, kO])) | (refine iBu ?_; refine tl_y (y_buildN rfl) rfl rfl ?_) | (refine i_op ?_; first | (refine i_qq ?_; refine qQ ?_) | refine qEf ?_) | refine tl_nil ?_ | (refine i_tc ?_; refine qTc ?_) | (refine i_te ?_; refine qTe ?_) | intro _)
      rw [← e1]
      refine te_round_g (k + 1, ρ', v, ro) (⟨hlt, hle0, hR, hok⟩) ev_le ev_le rfl tk inferInstance (by first | omega | (dsimp only; omega))
    rw [ho] at hov
    have hG := rosG_iff.1 hok
    have hrun := run18_spec ρ1 o v ro hR (lastP_le hG) hwx.n (hwx.r.in' ho).1
    by_cases he : runE o ro.p = 0
    case' neg =>
      repeat' (first | (refine tl_is (.func 37) ?_; refine qC rfl rfl (hov) ?_; rintro v ρ' L' hle ⟨rfl, rfl, rfl⟩ <;> (try simp only [kM, kN, kO])) | (refine tl_is (.func 39) ?_; refine qC rfl rfl (hrun) ?_; rintro v ρ' L' hle ⟨hz1, v1, r1, rfl, hR1, hp1, rfl⟩ <;> (try simp only [kM, kN, kO])) | (refine iBu ?_; refine tl_y (y_buildN rfl) rfl rfl ?_) | (refine i_op ?_; first | (refine i_qq ?_; refine qQ ?_) | refine qEf ?_) | refine tl_nil ?_ | (refine i_tc ?_; refine qTc ?_) | (refine i_te ?_; refine qTe ?_) | intro _)
      rw [← e1]
      refine te_round_g (k + 1, ρ', v, ro) (⟨hlt, Hp.le_trans hle0 hz1, hR.mono hz1, hok⟩) ev_le ev_le rfl tk inferInstance (by first | omega | (dsimp only; omega))
    have hm := rooms hok he
    have hk7 := opK_lt o
    rw [he] at hrun
    have hck : ∀ ρ2 v2 r2, RosIn ρ2 v2 r2 → r2.p = runP o ro.p → Spec Tryz.prog 42 [.agg ⟨rosV v2 r2⟩] ρ2 [] (fun z ρ' L' => z = .int .i64 0 ∧ ρ' = ρ2 ∧ L' = []) := fun ρ2 v2 r2 h2 hp => by
      have := roscheck_spec ρ2 v2 r2 h2
      rw [if_pos (by rw [← rosOk_p, hp]; exact hm.ok)] at this
      exact this
    have hrs : ∀ ρ2 v2 r2, RosIn ρ2 v2 r2 → r2.p = runP o ro.p → Spec Tryz.prog 44 [.agg ⟨rosV v2 r2⟩] ρ2 [] (fun z ρ' L' => ρ2.le ρ' ∧ z = .int .i64 (resN (runP o ro.p)) ∧ L' = []) := fun ρ2 v2 r2 h2 hp => by
      have := reserved_spec ρ2 v2 r2 h2
      rw [if_pos (by rw [← rosOk_p, hp]; exact hm.ok), hp] at this
      exact this
    have hrw : ∀ ρ2, RosIn ρ2 v ro → Spec Tryz.prog 44 [.agg ⟨rosV v ro⟩] ρ2 [] (fun z ρ' L' => ρ2.le ρ' ∧ z = .int .i64 (resN ro.p) ∧ L' = []) := fun ρ2 h2 => by
      have := reserved_spec ρ2 v ro h2
      rw [if_pos (by rw [← rosOk_p]; exact hok)] at this
      exact this
    have hrun2 : Spec Tryz.prog 39 [.agg ⟨opV o⟩, .agg ⟨rosV v ro⟩] ρ1 [] (fun z ρ' L' => ρ1.le ρ' ∧ ∃ (v' : SV) (ro' : Ros), z = .agg ⟨toldV v' ro' (runN o ro.p) 0⟩ ∧ RosIn ρ' v' ro' ∧ ro'.p = runP o ro.p ∧ (ro.next ≤ ro'.next ∧ ro'.next ≤ ro.next + 1 ∧ 1 ≤ ro.next ∧ ro.next ≤ 1073741824 ∧ ro'.next = (runP o ro.p).next) ∧ L' = []) := by
      refine hrun.mono ?_
      rintro z ρ' L' _ ⟨h1, v', ro', h2, h3, h4, h5⟩
      have hn1 := hm.n1
      have hn2 := hm.n2
      have hn3 := hG.n1
      have hn4 := hG.n2
      have hn5 : ro'.next = (runP o ro.p).next := congrArg RosP.next h4
      rw [show ro.p.next = ro.next from rfl] at hn1 hn2 hn3 hn4
      exact ⟨h1, v', ro', h2, h3, h4, ⟨by omega, by omega, hn3, hn4, hn5⟩, h5⟩
    have hbd := resN_bd hG
    have hbd2 := resN_bd (rosG_iff.1 hm.ok)
    have hsame := hm.same
    have hend := hm.ends
    have hund := hm.undone
    generalize resN (runP o ro.p) = res1 at *
    generalize resN ro.p = res0 at *
    by_cases h4 : 4 < opK o
    · have hs := hsame h4
      unfold opK at h4 hk7
      repeat' (first | (refine tl_is (.func 37) ?_; refine qC rfl rfl (hov) ?_; rintro v ρ' L' hle ⟨rfl, rfl, rfl⟩ <;> (try simp only [kM, kN, kO])) | (refine tl_is (.func 39) ?_; refine qC rfl rfl (hrun2) ?_; rintro v ρ' L' hle ⟨hz1, v1, r1, rfl, hR1, hp1, ⟨hn1, hn2, hn3, hn4, hn5⟩, rfl⟩ <;> (try simp only [kM, kN, kO])) | (refine tl_is (.func 42) ?_; refine qC rfl rfl ((hck _ v1 r1 hR1 hp1)) ?_; rintro v ρ' L' hle ⟨rfl, rfl, rfl⟩ <;> (try simp only [kM, kN, kO])) | (refine iBu ?_; refine tl_y (y_buildN rfl) rfl rfl ?_) | (refine i_op ?_; first | (refine i_qq ?_; refine qQ ?_) | refine qEf ?_) | refine tl_nil ?_ | (refine i_tc ?_; refine qTc ?_) | (refine i_te ?_; refine qTe ?_) | intro _)
      refine tc_any (Stays _ _ ([[(_, .cells ⟨rosV v1 r1⟩ 34 (0, 0))], [(_, .cells ⟨rosV v ro⟩ 34 (0, 0))]])) (stays_of (hT := tk) (Hp.le_refl _)) ?_
      all_goals refine rLd 0 ?_
      all_goals refine rLd 2 ?_
      all_goals (refine rStep (i := 1) ?_; ((try refine qWant ?_); (first | (refine tl_is (.func 44) ?_; refine qC rfl rfl (hrs _ v1 r1 hR1 hp1) ?_; rintro v ρ' L' hle ⟨hz2, rfl, rfl⟩ <;> (try simp only [kM, kN, kO])) | (refine tl_is (.func 44) ?_; refine qC rfl rfl (hrw _ (hR.mono (Hp.le_trans hz1 hz2))) ?_; rintro v ρ' L' hle ⟨hz3, rfl, rfl⟩ <;> (try simp only [kM, kN, kO])) | (refine qEf ?_; try intro _)) <;> ((try simp only [kM, kN, kO]); refine tl_nil ?_; refine rNext ?_)))
      all_goals (refine rStep (i := 3) ?_; ((try refine qWant ?_); (first | (refine tl_is (.func 44) ?_; refine qC rfl rfl (hrs _ v1 r1 hR1 hp1) ?_; rintro v ρ' L' hle ⟨hz2, rfl, rfl⟩ <;> (try simp only [kM, kN, kO])) | (refine tl_is (.func 44) ?_; refine qC rfl rfl (hrw _ (hR.mono (Hp.le_trans hz1 hz2))) ?_; rintro v ρ' L' hle ⟨hz3, rfl, rfl⟩ <;> (try simp only [kM, kN, kO])) | (refine qEf ?_; try intro _)) <;> ((try simp only [kM, kN, kO]); refine tl_nil ?_; refine rNext ?_)))
      all_goals refine rFull ?_
      all_goals refine rCm 4 ?_
      all_goals refine rDone ?_
      all_goals (repeat' (first | (refine iBu ?_; refine tl_y (y_buildN rfl) rfl rfl ?_) | (refine i_op ?_; first | (refine i_qq ?_; refine qQ ?_) | refine qEf ?_) | refine tl_nil ?_ | (refine i_tc ?_; refine qTc ?_) | (refine i_te ?_; refine qTe ?_) | intro _))
      all_goals rw [← e1]
      all_goals refine te_round_g (k + 1, ρ', v1, r1) (⟨hlt, Hp.le_trans hle0 (Hp.le_trans hz1 (Hp.le_trans hz2 hz3)), hR1.mono (Hp.le_trans hz2 hz3), by rw [hp1]; exact hm.ok⟩) ev_le ev_le rfl tk inferInstance (by first | omega | (dsimp only; omega))
    have h4' : ¬ 4 < (IntKind.u64.wrap o.kind).tmod 7 := h4
    have hr := hm.rcok h4
    have hcb := costN_bd hr
    have hrec := fun ρ2 (h2 : RosIn ρ2 v ro) => orec_spec ρ2 o v ro h2 (lastP_le hG)
    have hri : ∀ ρ2, ρ1.le ρ2 → RcIn ρ2 o.rv (recOf o ro.p) := fun ρ2 h2 => recOf_in ((hwx.r.in' ho).1.mono h2)
    replace hend := hend h4
    replace hund := hund h4
    have hbeg := hm.begins h4
    have hmok := hm.ok
    have herr : errN (recOf o ro.p) = 0 := if_pos hr
    clear hm
    generalize recOf o ro.p = r at *
    have hcost := fun ρ2 (h2 : RcIn ρ2 o.rv r) => rcost_spec ρ2 o.rv r h2
    simp only [herr] at hcost
    have hfind := fun ρ2 (h2 : RosIn ρ2 v ro) => rfind_spec ρ2 v ro h2 r.txn
    simp only [if_pos (show rosOk ro = true by rw [← rosOk_p]; exact hok)] at hfind
    generalize costN r = cN at *
    by_cases k5 : r.kind = 5
    · obtain ⟨t, hft, hst⟩ := hund k5
      have hfind5 : ∀ ρ2, RosIn ρ2 v ro → Spec Tryz.prog 47 [.agg ⟨rosV v ro⟩, .int .i64 r.txn] ρ2 [] (fun z ρ' L' => ρ' = ρ2 ∧ ∃ x, z = .tuple ⟨[.agg ⟨txV x⟩, .bool true]⟩ ∧ Tx.In ρ' x ∧ x.p = t ∧ L' = []) := fun ρ2 h2 => by
        refine (hfind ρ2 h2).mono ?_
        rintro z ρ' L' _ ⟨q1, x, b, q2, q3, ⟨t', q4, q5, q6⟩ | ⟨q4, _⟩, q7⟩
        · rw [hft] at q4
          cases q4
          exact ⟨q1, x, by rw [q2, q5], q3, q6, q7⟩
        · rw [hft] at q4; cases q4
      clear hfind
      repeat' (first | (refine tl_is (.func 37) ?_; refine qC rfl rfl (hov) ?_; rintro v ρ' L' hle ⟨rfl, rfl, rfl⟩ <;> (try simp only [kM, kN, kO])) | (refine tl_is (.func 39) ?_; refine qC rfl rfl (hrun2) ?_; rintro v ρ' L' hle ⟨hz1, v1, r1, rfl, hR1, hp1, ⟨hn1, hn2, hn3, hn4, hn5⟩, rfl⟩ <;> (try simp only [kM, kN, kO])) | (refine tl_is (.func 42) ?_; refine qC rfl rfl ((hck _ v1 r1 hR1 hp1)) ?_; rintro v ρ' L' hle ⟨rfl, rfl, rfl⟩ <;> (try simp only [kM, kN, kO])) | (refine tl_is (.func 45) ?_; refine qC rfl rfl ((hrec _ (hR.mono hz1))) ?_; rintro v ρ' L' hle ⟨rfl, rfl, rfl⟩ <;> (try simp only [kM, kN, kO])) | (refine tl_is (.func 46) ?_; refine qC rfl rfl ((hcost _ (hri _ hz1))) ?_; rintro v ρ' L' hle ⟨hz2, rfl, rfl⟩ <;> (try simp only [kM, kN, kO])) | (refine iBu ?_; refine tl_y (y_buildN rfl) rfl rfl ?_) | (refine i_op ?_; first | (refine i_qq ?_; refine qQ ?_) | refine qEf ?_) | refine tl_nil ?_ | (refine i_tc ?_; refine qTc ?_) | (refine i_te ?_; refine qTe ?_) | intro _)
      refine tc_any (Stays _ _ ([[(_, .cells ⟨rosV v1 r1⟩ 34 (0, 0))], [(_, .cells ⟨rosV v ro⟩ 34 (0, 0))]])) (stays_of (hT := tk) (Hp.le_refl _)) ?_
      all_goals refine rMv 0 ?_
      all_goals refine rLd 1 ?_
      all_goals refine rLd 4 ?_
      all_goals (refine rStep (i := 2) ?_; ((try refine qWant ?_); (first | (refine tl_is (.func 44) ?_; refine qC rfl rfl (hrs _ v1 r1 (hR1.mono hz2) hp1) ?_; rintro v ρ' L' hle ⟨hz3, rfl, rfl⟩ <;> (try simp only [kM, kN, kO])) | (refine tl_is (.func 44) ?_; refine qC rfl rfl (hrw _ (hR.mono (Hp.le_trans hz1 (Hp.le_trans hz2 hz3)))) ?_; rintro v ρ' L' hle ⟨hz4, rfl, rfl⟩ <;> (try simp only [kM, kN, kO])) | (refine qEf ?_; try intro _)) <;> ((try simp only [kM, kN, kO]); refine tl_nil ?_; refine rNext ?_)))
      all_goals refine rAd 3 ?_
      all_goals (refine rStep (i := 5) ?_; ((try refine qWant ?_); (first | (refine tl_is (.func 44) ?_; refine qC rfl rfl (hrs _ v1 r1 (hR1.mono hz2) hp1) ?_; rintro v ρ' L' hle ⟨hz3, rfl, rfl⟩ <;> (try simp only [kM, kN, kO])) | (refine tl_is (.func 44) ?_; refine qC rfl rfl (hrw _ (hR.mono (Hp.le_trans hz1 (Hp.le_trans hz2 hz3)))) ?_; rintro v ρ' L' hle ⟨hz4, rfl, rfl⟩ <;> (try simp only [kM, kN, kO])) | (refine qEf ?_; try intro _)) <;> ((try simp only [kM, kN, kO]); refine tl_nil ?_; refine rNext ?_)))
      all_goals refine rFull ?_
      all_goals refine rSb 6 ?_
      all_goals refine rAs 7 ?_
      all_goals refine rDone ?_
      all_goals (repeat' (first | (refine tl_is (.func 47) ?_; refine qC rfl rfl ((hfind5 _ (hR.mono (Hp.le_trans hz1 (Hp.le_trans hz2 (Hp.le_trans hz3 hz4)))))) ?_; rintro v ρ' L' hle ⟨rfl, x, rfl, hX, hxp, rfl⟩ <;> (try simp only [kM, kN, kO])) | (refine iBu ?_; refine tl_y (y_buildN rfl) rfl rfl ?_) | (refine i_op ?_; first | (refine i_qq ?_; refine qQ ?_) | refine qEf ?_) | refine tl_nil ?_ | (refine i_tc ?_; refine qTc ?_) | (refine i_te ?_; refine qTe ?_) | intro _))
      all_goals
        have hsl := hX.s.len
        have hsb := hX.sb
        have hsp : x.stack = t.stack := congrArg TxP.stack hxp
        clear hxp
        by_cases hs0 : x.sv.n = 0
        · refine tc_any (Stays _ _ _) stays_refl ?_
          all_goals refine rMv 0 ?_
          all_goals refine rFull ?_
          all_goals refine rCm 1 ?_
          all_goals refine rMv 2 ?_
          all_goals (first | refine wSkip 3 ?_ | refine wSkipU 3 ?_ | refine wFa 3 ?_ | (refine tr_guard (t := 106) rfl (fun hb => ?_) (fun hb => ?_) <;> (try simp only [kk] at hb) <;> first | refine wSkip 3 ?_ | refine wSkipU 3 ?_ | refine wFa 3 ?_))
          all_goals (first | refine wSkip 4 ?_ | refine wSkipU 4 ?_ | refine wLd 4 ?_ | (refine tr_guard (t := 106) rfl (fun hb => ?_) (fun hb => ?_) <;> (try simp only [kk] at hb) <;> first | refine wSkip 4 ?_ | refine wSkipU 4 ?_ | refine wLd 4 ?_))
          all_goals (first | refine wSkip 5 ?_ | refine wSkipU 5 ?_ | refine wFa 5 ?_ | (refine tr_guard (t := 106) rfl (fun hb => ?_) (fun hb => ?_) <;> (try simp only [kk] at hb) <;> first | refine wSkip 5 ?_ | refine wSkipU 5 ?_ | refine wFa 5 ?_))
          all_goals (first | refine wSkip 6 ?_ | refine wSkipU 6 ?_ | refine wLd 6 ?_ | (refine tr_guard (t := 106) rfl (fun hb => ?_) (fun hb => ?_) <;> (try simp only [kk] at hb) <;> first | refine wSkip 6 ?_ | refine wSkipU 6 ?_ | refine wLd 6 ?_))
          all_goals (first | refine wSkip 7 ?_ | refine wSkipU 7 ?_ | refine wMv 7 ?_ | (refine tr_guard (t := 106) rfl (fun hb => ?_) (fun hb => ?_) <;> (try simp only [kk] at hb) <;> first | refine wSkip 7 ?_ | refine wSkipU 7 ?_ | refine wMv 7 ?_))
          all_goals (first | refine wSkip 8 ?_ | refine wSkipU 8 ?_ | refine wSb 8 ?_ | (refine tr_guard (t := 106) rfl (fun hb => ?_) (fun hb => ?_) <;> (try simp only [kk] at hb) <;> first | refine wSkip 8 ?_ | refine wSkipU 8 ?_ | refine wSb 8 ?_))
          all_goals (first | refine wSkip 9 ?_ | refine wSkipU 9 ?_ | refine wIa 9 ?_ | (refine tr_guard (t := 106) rfl (fun hb => ?_) (fun hb => ?_) <;> (try simp only [kk] at hb) <;> first | refine wSkip 9 ?_ | refine wSkipU 9 ?_ | refine wIa 9 ?_))
          all_goals (first | refine wSkip 10 ?_ | refine wSkipU 10 ?_ | refine wFa 10 ?_ | (refine tr_guard (t := 106) rfl (fun hb => ?_) (fun hb => ?_) <;> (try simp only [kk] at hb) <;> first | refine wSkip 10 ?_ | refine wSkipU 10 ?_ | refine wFa 10 ?_))
          all_goals (first | refine wSkip 11 ?_ | refine wSkipU 11 ?_ | refine wLd 11 ?_ | (refine tr_guard (t := 106) rfl (fun hb => ?_) (fun hb => ?_) <;> (try simp only [kk] at hb) <;> first | refine wSkip 11 ?_ | refine wSkipU 11 ?_ | refine wLd 11 ?_))
          all_goals (first | refine wSkip 12 ?_ | refine wSkipU 12 ?_ | refine wCm 12 ?_ | (refine tr_guard (t := 106) rfl (fun hb => ?_) (fun hb => ?_) <;> (try simp only [kk] at hb) <;> first | refine wSkip 12 ?_ | refine wSkipU 12 ?_ | refine wCm 12 ?_))
          all_goals refine rPk 13 ?_
          all_goals refine rMv 14 ?_
          all_goals (first | refine wSkip 15 ?_ | refine wSkipU 15 ?_ | refine wMv 15 ?_ | (refine tr_guard (t := 118) rfl (fun hb => ?_) (fun hb => ?_) <;> (try simp only [kk] at hb) <;> first | refine wSkip 15 ?_ | refine wSkipU 15 ?_ | refine wMv 15 ?_))
          all_goals (first | refine wSkip 16 ?_ | refine wSkipU 16 ?_ | refine wFa 16 ?_ | (refine tr_guard (t := 118) rfl (fun hb => ?_) (fun hb => ?_) <;> (try simp only [kk] at hb) <;> first | refine wSkip 16 ?_ | refine wSkipU 16 ?_ | refine wFa 16 ?_))
          all_goals (first | refine wSkip 17 ?_ | refine wSkipU 17 ?_ | refine wLd 17 ?_ | (refine tr_guard (t := 118) rfl (fun hb => ?_) (fun hb => ?_) <;> (try simp only [kk] at hb) <;> first | refine wSkip 17 ?_ | refine wSkipU 17 ?_ | refine wLd 17 ?_))
          all_goals (first | refine wSkip 18 ?_ | refine wSkipU 18 ?_ | refine wMv 18 ?_ | (refine tr_guard (t := 118) rfl (fun hb => ?_) (fun hb => ?_) <;> (try simp only [kk] at hb) <;> first | refine wSkip 18 ?_ | refine wSkipU 18 ?_ | refine wMv 18 ?_))
          all_goals (first | refine wSkip 19 ?_ | refine wSkipU 19 ?_ | refine wSb 19 ?_ | (refine tr_guard (t := 118) rfl (fun hb => ?_) (fun hb => ?_) <;> (try simp only [kk] at hb) <;> first | refine wSkip 19 ?_ | refine wSkipU 19 ?_ | refine wSb 19 ?_))
          all_goals (first | refine wSkip 20 ?_ | refine wSkipU 20 ?_ | refine wIa 20 ?_ | (refine tr_guard (t := 118) rfl (fun hb => ?_) (fun hb => ?_) <;> (try simp only [kk] at hb) <;> first | refine wSkip 20 ?_ | refine wSkipU 20 ?_ | refine wIa 20 ?_))
          all_goals (first | refine wSkip 21 ?_ | refine wSkipU 21 ?_ | refine wFa 21 ?_ | (refine tr_guard (t := 118) rfl (fun hb => ?_) (fun hb => ?_) <;> (try simp only [kk] at hb) <;> first | refine wSkip 21 ?_ | refine wSkipU 21 ?_ | refine wFa 21 ?_))
          all_goals (first | refine wSkip 22 ?_ | refine wSkipU 22 ?_ | refine wLd 22 ?_ | (refine tr_guard (t := 118) rfl (fun hb => ?_) (fun hb => ?_) <;> (try simp only [kk] at hb) <;> first | refine wSkip 22 ?_ | refine wSkipU 22 ?_ | refine wLd 22 ?_))
          all_goals (first | refine wSkip 23 ?_ | refine wSkipU 23 ?_ | refine wCm 23 ?_ | (refine tr_guard (t := 118) rfl (fun hb => ?_) (fun hb => ?_) <;> (try simp only [kk] at hb) <;> first | refine wSkip 23 ?_ | refine wSkipU 23 ?_ | refine wCm 23 ?_))
          all_goals refine rPk 24 ?_
          all_goals refine rMv 25 ?_
          all_goals (first | refine wSkip 26 ?_ | refine wSkipU 26 ?_ | refine wMv 26 ?_ | (refine tr_guard (t := 129) rfl (fun hb => ?_) (fun hb => ?_) <;> (try simp only [kk] at hb) <;> first | refine wSkip 26 ?_ | refine wSkipU 26 ?_ | refine wMv 26 ?_))
          all_goals (first | refine wSkip 27 ?_ | refine wSkipU 27 ?_ | refine wCm 27 ?_ | (refine tr_guard (t := 129) rfl (fun hb => ?_) (fun hb => ?_) <;> (try simp only [kk] at hb) <;> first | refine wSkip 27 ?_ | refine wSkipU 27 ?_ | refine wCm 27 ?_))
          all_goals refine rPk 28 ?_
          all_goals refine rDone ?_
          all_goals (repeat' (first | (refine iBu ?_; refine tl_y (y_buildN rfl) rfl rfl ?_) | (refine i_op ?_; first | (refine i_qq ?_; refine qQ ?_) | refine qEf ?_) | refine tl_nil ?_ | (refine i_tc ?_; refine qTc ?_) | (refine i_te ?_; refine qTe ?_) | intro _))
          all_goals rw [← e1]
          all_goals refine te_round_g (k + 1, ρ', v1, r1) (⟨hlt, Hp.le_trans hle0 (Hp.le_trans hz1 (Hp.le_trans hz2 (Hp.le_trans hz3 hz4))), hR1.mono (Hp.le_trans hz2 (Hp.le_trans hz3 hz4)), by rw [hp1]; exact hmok⟩) ev_le ev_le rfl tk inferInstance (by first | omega | (dsimp only; omega))
        · obtain ⟨bs, offs, Cs, Ts, frs, es, hbs, hfits, hcs⟩ := hX.s.get (show ((x.sv.n : Int) - 1).toNat < x.stack.length by omega)
          have hgl : t.stack.getLast? = some (x.stack[((x.sv.n : Int) - 1).toNat]'(by omega)) := by
            rw [← hsp, List.getLast?_eq_getElem?, List.getElem?_eq_getElem (by omega)]
            congr 2
            omega
          have hst := hst _ hgl
          clear hgl
          generalize x.stack[((x.sv.n : Int) - 1).toNat]'(by omega) = y at *
          have hc0 : Cs[offs + ((x.sv.n : Int) - 1).toNat * 2 + 0]? = some (.int .u64 y.lsn) := cell_at hcs rfl
          have hc1 : Cs[offs + ((x.sv.n : Int) - 1).toNat * 2 + 1]? = some (.int .i64 y.cost) := cell_at hcs rfl
          have hi0 : (0 : Int) ≤ (x.sv.n : Int) - 1 := by omega
          simp only [txV]
          rw [es]
          have hg : r.next < y.lsn → (cN : Int) ≤ y.cost → (cN : Int) + res1 - res0 ≤ 0 := hst
          clear hst
          by_cases g1 : r.next < y.lsn <;> by_cases g2 : (cN : Int) ≤ y.cost
          all_goals
            try replace hg := hg g1
            try replace hg := hg g2
            refine tc_any (Stays _ _ _) stays_refl ?_
            all_goals refine rMv 0 ?_
            all_goals refine rFull ?_
            all_goals refine rCm 1 ?_
            all_goals refine rMv 2 ?_
            all_goals (first | refine wSkip 3 ?_ | refine wSkipU 3 ?_ | refine wFa 3 ?_ | (refine tr_guard (t := 106) rfl (fun hb => ?_) (fun hb => ?_) <;> (try simp only [kk] at hb) <;> first | refine wSkip 3 ?_ | refine wSkipU 3 ?_ | refine wFa 3 ?_))
            all_goals (first | refine wSkip 4 ?_ | refine wSkipU 4 ?_ | refine wLd 4 ?_ | (refine tr_guard (t := 106) rfl (fun hb => ?_) (fun hb => ?_) <;> (try simp only [kk] at hb) <;> first | refine wSkip 4 ?_ | refine wSkipU 4 ?_ | refine wLd 4 ?_))
            all_goals (first | refine wSkip 5 ?_ | refine wSkipU 5 ?_ | refine wFa 5 ?_ | (refine tr_guard (t := 106) rfl (fun hb => ?_) (fun hb => ?_) <;> (try simp only [kk] at hb) <;> first | refine wSkip 5 ?_ | refine wSkipU 5 ?_ | refine wFa 5 ?_))
            all_goals (first | refine wSkip 6 ?_ | refine wSkipU 6 ?_ | refine wLd 6 ?_ | (refine tr_guard (t := 106) rfl (fun hb => ?_) (fun hb => ?_) <;> (try simp only [kk] at hb) <;> first | refine wSkip 6 ?_ | refine wSkipU 6 ?_ | refine wLd 6 ?_))
            all_goals (first | refine wSkip 7 ?_ | refine wSkipU 7 ?_ | refine wMv 7 ?_ | (refine tr_guard (t := 106) rfl (fun hb => ?_) (fun hb => ?_) <;> (try simp only [kk] at hb) <;> first | refine wSkip 7 ?_ | refine wSkipU 7 ?_ | refine wMv 7 ?_))
            all_goals (first | refine wSkip 8 ?_ | refine wSkipU 8 ?_ | refine wSb 8 ?_ | (refine tr_guard (t := 106) rfl (fun hb => ?_) (fun hb => ?_) <;> (try simp only [kk] at hb) <;> first | refine wSkip 8 ?_ | refine wSkipU 8 ?_ | refine wSb 8 ?_))
            all_goals (first | refine wSkip 9 ?_ | refine wSkipU 9 ?_ | refine wIa 9 ?_ | (refine tr_guard (t := 106) rfl (fun hb => ?_) (fun hb => ?_) <;> (try simp only [kk] at hb) <;> first | refine wSkip 9 ?_ | refine wSkipU 9 ?_ | refine wIa 9 ?_))
            all_goals (first | refine wSkip 10 ?_ | refine wSkipU 10 ?_ | refine wFa 10 ?_ | (refine tr_guard (t := 106) rfl (fun hb => ?_) (fun hb => ?_) <;> (try simp only [kk] at hb) <;> first | refine wSkip 10 ?_ | refine wSkipU 10 ?_ | refine wFa 10 ?_))
            all_goals (first | refine wSkip 11 ?_ | refine wSkipU 11 ?_ | refine wLd 11 ?_ | (refine tr_guard (t := 106) rfl (fun hb => ?_) (fun hb => ?_) <;> (try simp only [kk] at hb) <;> first | refine wSkip 11 ?_ | refine wSkipU 11 ?_ | refine wLd 11 ?_))
            all_goals (first | refine wSkip 12 ?_ | refine wSkipU 12 ?_ | refine wCm 12 ?_ | (refine tr_guard (t := 106) rfl (fun hb => ?_) (fun hb => ?_) <;> (try simp only [kk] at hb) <;> first | refine wSkip 12 ?_ | refine wSkipU 12 ?_ | refine wCm 12 ?_))
            all_goals refine rPk 13 ?_
            all_goals refine rMv 14 ?_
            all_goals (first | refine wSkip 15 ?_ | refine wSkipU 15 ?_ | refine wMv 15 ?_ | (refine tr_guard (t := 118) rfl (fun hb => ?_) (fun hb => ?_) <;> (try simp only [kk] at hb) <;> first | refine wSkip 15 ?_ | refine wSkipU 15 ?_ | refine wMv 15 ?_))
            all_goals (first | refine wSkip 16 ?_ | refine wSkipU 16 ?_ | refine wFa 16 ?_ | (refine tr_guard (t := 118) rfl (fun hb => ?_) (fun hb => ?_) <;> (try simp only [kk] at hb) <;> first | refine wSkip 16 ?_ | refine wSkipU 16 ?_ | refine wFa 16 ?_))
            all_goals (first | refine wSkip 17 ?_ | refine wSkipU 17 ?_ | refine wLd 17 ?_ | (refine tr_guard (t := 118) rfl (fun hb => ?_) (fun hb => ?_) <;> (try simp only [kk] at hb) <;> first | refine wSkip 17 ?_ | refine wSkipU 17 ?_ | refine wLd 17 ?_))
            all_goals (first | refine wSkip 18 ?_ | refine wSkipU 18 ?_ | refine wMv 18 ?_ | (refine tr_guard (t := 118) rfl (fun hb => ?_) (fun hb => ?_) <;> (try simp only [kk] at hb) <;> first | refine wSkip 18 ?_ | refine wSkipU 18 ?_ | refine wMv 18 ?_))
            all_goals (first | refine wSkip 19 ?_ | refine wSkipU 19 ?_ | refine wSb 19 ?_ | (refine tr_guard (t := 118) rfl (fun hb => ?_) (fun hb => ?_) <;> (try simp only [kk] at hb) <;> first | refine wSkip 19 ?_ | refine wSkipU 19 ?_ | refine wSb 19 ?_))
            all_goals (first | refine wSkip 20 ?_ | refine wSkipU 20 ?_ | refine wIa 20 ?_ | (refine tr_guard (t := 118) rfl (fun hb => ?_) (fun hb => ?_) <;> (try simp only [kk] at hb) <;> first | refine wSkip 20 ?_ | refine wSkipU 20 ?_ | refine wIa 20 ?_))
            all_goals (first | refine wSkip 21 ?_ | refine wSkipU 21 ?_ | refine wFa 21 ?_ | (refine tr_guard (t := 118) rfl (fun hb => ?_) (fun hb => ?_) <;> (try simp only [kk] at hb) <;> first | refine wSkip 21 ?_ | refine wSkipU 21 ?_ | refine wFa 21 ?_))
            all_goals (first | refine wSkip 22 ?_ | refine wSkipU 22 ?_ | refine wLd 22 ?_ | (refine tr_guard (t := 118) rfl (fun hb => ?_) (fun hb => ?_) <;> (try simp only [kk] at hb) <;> first | refine wSkip 22 ?_ | refine wSkipU 22 ?_ | refine wLd 22 ?_))
            all_goals (first | refine wSkip 23 ?_ | refine wSkipU 23 ?_ | refine wCm 23 ?_ | (refine tr_guard (t := 118) rfl (fun hb => ?_) (fun hb => ?_) <;> (try simp only [kk] at hb) <;> first | refine wSkip 23 ?_ | refine wSkipU 23 ?_ | refine wCm 23 ?_))
            all_goals refine rPk 24 ?_
            all_goals refine rMv 25 ?_
            all_goals (first | refine wSkip 26 ?_ | refine wSkipU 26 ?_ | refine wMv 26 ?_ | (refine tr_guard (t := 129) rfl (fun hb => ?_) (fun hb => ?_) <;> (try simp only [kk] at hb) <;> first | refine wSkip 26 ?_ | refine wSkipU 26 ?_ | refine wMv 26 ?_))
            all_goals (first | refine wSkip 27 ?_ | refine wSkipU 27 ?_ | refine wCm 27 ?_ | (refine tr_guard (t := 129) rfl (fun hb => ?_) (fun hb => ?_) <;> (try simp only [kk] at hb) <;> first | refine wSkip 27 ?_ | refine wSkipU 27 ?_ | refine wCm 27 ?_))
            all_goals refine rPk 28 ?_
            all_goals refine rDone ?_
            all_goals (repeat' (first | (refine iBu ?_; refine tl_y (y_buildN rfl) rfl rfl ?_) | (refine i_op ?_; first | (refine i_qq ?_; refine qQ ?_) | refine qEf ?_) | refine tl_nil ?_ | (refine i_tc ?_; refine qTc ?_) | (refine i_te ?_; refine qTe ?_) | intro _))
            all_goals rw [← e1]
            all_goals refine te_round_g (k + 1, ρ', v1, r1) (⟨hlt, Hp.le_trans hle0 (Hp.le_trans hz1 (Hp.le_trans hz2 (Hp.le_trans hz3 hz4))), hR1.mono (Hp.le_trans hz2 (Hp.le_trans hz3 hz4)), by rw [hp1]; exact hmok⟩) ev_le ev_le rfl tk inferInstance (by first | omega | (dsimp only; omega))
    have hg : 6 ≤ r.kind ∧ r.kind ≤ 8 → (cN : Int) + res1 - res0 ≤ 0 := hend
    by_cases k1 : r.kind = 1
    · obtain ⟨b1, b2⟩ := hbeg k1
      rw [show ro.p.next = ro.next from rfl] at b1 b2
      clear hg
      repeat' (first | (refine tl_is (.func 37) ?_; refine qC rfl rfl (hov) ?_; rintro v ρ' L' hle ⟨rfl, rfl, rfl⟩ <;> (try simp only [kM, kN, kO])) | (refine tl_is (.func 39) ?_; refine qC rfl rfl (hrun2) ?_; rintro v ρ' L' hle ⟨hz1, v1, r1, rfl, hR1, hp1, ⟨hn1, hn2, hn3, hn4, hn5⟩, rfl⟩ <;> (try simp only [kM, kN, kO])) | (refine tl_is (.func 42) ?_; refine qC rfl rfl ((hck _ v1 r1 hR1 hp1)) ?_; rintro v ρ' L' hle ⟨rfl, rfl, rfl⟩ <;> (try simp only [kM, kN, kO])) | (refine tl_is (.func 45) ?_; refine qC rfl rfl ((hrec _ (hR.mono hz1))) ?_; rintro v ρ' L' hle ⟨rfl, rfl, rfl⟩ <;> (try simp only [kM, kN, kO])) | (refine tl_is (.func 46) ?_; refine qC rfl rfl ((hcost _ (hri _ hz1))) ?_; rintro v ρ' L' hle ⟨hz2, rfl, rfl⟩ <;> (try simp only [kM, kN, kO])) | (refine iBu ?_; refine tl_y (y_buildN rfl) rfl rfl ?_) | (refine i_op ?_; first | (refine i_qq ?_; refine qQ ?_) | refine qEf ?_) | refine tl_nil ?_ | (refine i_tc ?_; refine qTc ?_) | (refine i_te ?_; refine qTe ?_) | intro _)
      refine tc_any (Stays _ _ ([[(_, .cells ⟨rosV v1 r1⟩ 34 (0, 0))], [(_, .cells ⟨rosV v ro⟩ 34 (0, 0))]])) (stays_of (hT := tk) (Hp.le_refl _)) ?_
      all_goals refine rMv 0 ?_
      all_goals refine rLd 1 ?_
      all_goals refine rLd 4 ?_
      all_goals (refine rStep (i := 2) ?_; ((try refine qWant ?_); (first | (refine tl_is (.func 44) ?_; refine qC rfl rfl (hrs _ v1 r1 (hR1.mono hz2) hp1) ?_; rintro v ρ' L' hle ⟨hz3, rfl, rfl⟩ <;> (try simp only [kM, kN, kO])) | (refine tl_is (.func 44) ?_; refine qC rfl rfl (hrw _ (hR.mono (Hp.le_trans hz1 (Hp.le_trans hz2 hz3)))) ?_; rintro v ρ' L' hle ⟨hz4, rfl, rfl⟩ <;> (try simp only [kM, kN, kO])) | (refine qEf ?_; try intro _)) <;> ((try simp only [kM, kN, kO]); refine tl_nil ?_; refine rNext ?_)))
      all_goals refine rAd 3 ?_
      all_goals (refine rStep (i := 5) ?_; ((try refine qWant ?_); (first | (refine tl_is (.func 44) ?_; refine qC rfl rfl (hrs _ v1 r1 (hR1.mono hz2) hp1) ?_; rintro v ρ' L' hle ⟨hz3, rfl, rfl⟩ <;> (try simp only [kM, kN, kO])) | (refine tl_is (.func 44) ?_; refine qC rfl rfl (hrw _ (hR.mono (Hp.le_trans hz1 (Hp.le_trans hz2 hz3)))) ?_; rintro v ρ' L' hle ⟨hz4, rfl, rfl⟩ <;> (try simp only [kM, kN, kO])) | (refine qEf ?_; try intro _)) <;> ((try simp only [kM, kN, kO]); refine tl_nil ?_; refine rNext ?_)))
      all_goals refine rFull ?_
      all_goals refine rSb 6 ?_
      all_goals refine rAs 7 ?_
      all_goals refine rDone ?_
      all_goals (repeat' (first | (refine tl_is (.func 47) ?_; refine qC rfl rfl ((hfind _ (hR.mono (Hp.le_trans hz1 (Hp.le_trans hz2 (Hp.le_trans hz3 hz4)))))) ?_; rintro v ρ' L' hle ⟨rfl, x, bb, rfl, hX, hF, rfl⟩ <;> (try simp only [kM, kN, kO])) | (refine iBu ?_; refine tl_y (y_buildN rfl) rfl rfl ?_) | (refine i_op ?_; first | (refine i_qq ?_; refine qQ ?_) | refine qEf ?_) | refine tl_nil ?_ | (refine i_tc ?_; refine qTc ?_) | (refine i_te ?_; refine qTe ?_) | intro _))
      all_goals rw [← e1]
      all_goals refine te_round_g (k + 1, ρ', v1, r1) (⟨hlt, Hp.le_trans hle0 (Hp.le_trans hz1 (Hp.le_trans hz2 (Hp.le_trans hz3 hz4))), hR1.mono (Hp.le_trans hz2 (Hp.le_trans hz3 hz4)), by rw [hp1]; exact hmok⟩) ev_le ev_le rfl tk inferInstance (by first | omega | (dsimp only; omega))
    by_cases k68 : 6 ≤ r.kind ∧ r.kind ≤ 8
    · have hg := hg k68
      obtain k6 | k6 | k6 : r.kind = 6 ∨ r.kind = 7 ∨ r.kind = 8 := by omega
      all_goals
        repeat' (first | (refine tl_is (.func 37) ?_; refine qC rfl rfl (hov) ?_; rintro v ρ' L' hle ⟨rfl, rfl, rfl⟩ <;> (try simp only [kM, kN, kO])) | (refine tl_is (.func 39) ?_; refine qC rfl rfl (hrun2) ?_; rintro v ρ' L' hle ⟨hz1, v1, r1, rfl, hR1, hp1, ⟨hn1, hn2, hn3, hn4, hn5⟩, rfl⟩ <;> (try simp only [kM, kN, kO])) | (refine tl_is (.func 42) ?_; refine qC rfl rfl ((hck _ v1 r1 hR1 hp1)) ?_; rintro v ρ' L' hle ⟨rfl, rfl, rfl⟩ <;> (try simp only [kM, kN, kO])) | (refine tl_is (.func 45) ?_; refine qC rfl rfl ((hrec _ (hR.mono hz1))) ?_; rintro v ρ' L' hle ⟨rfl, rfl, rfl⟩ <;> (try simp only [kM, kN, kO])) | (refine tl_is (.func 46) ?_; refine qC rfl rfl ((hcost _ (hri _ hz1))) ?_; rintro v ρ' L' hle ⟨hz2, rfl, rfl⟩ <;> (try simp only [kM, kN, kO])) | (refine iBu ?_; refine tl_y (y_buildN rfl) rfl rfl ?_) | (refine i_op ?_; first | (refine i_qq ?_; refine qQ ?_) | refine qEf ?_) | refine tl_nil ?_ | (refine i_tc ?_; refine qTc ?_) | (refine i_te ?_; refine qTe ?_) | intro _)
        refine tc_any (Stays _ _ ([[(_, .cells ⟨rosV v1 r1⟩ 34 (0, 0))], [(_, .cells ⟨rosV v ro⟩ 34 (0, 0))]])) (stays_of (hT := tk) (Hp.le_refl _)) ?_
        all_goals refine rMv 0 ?_
        all_goals refine rLd 1 ?_
        all_goals refine rLd 4 ?_
        all_goals (refine rStep (i := 2) ?_; ((try refine qWant ?_); (first | (refine tl_is (.func 44) ?_; refine qC rfl rfl (hrs _ v1 r1 (hR1.mono hz2) hp1) ?_; rintro v ρ' L' hle ⟨hz3, rfl, rfl⟩ <;> (try simp only [kM, kN, kO])) | (refine tl_is (.func 44) ?_; refine qC rfl rfl (hrw _ (hR.mono (Hp.le_trans hz1 (Hp.le_trans hz2 hz3)))) ?_; rintro v ρ' L' hle ⟨hz4, rfl, rfl⟩ <;> (try simp only [kM, kN, kO])) | (refine qEf ?_; try intro _)) <;> ((try simp only [kM, kN, kO]); refine tl_nil ?_; refine rNext ?_)))
        all_goals refine rAd 3 ?_
        all_goals (refine rStep (i := 5) ?_; ((try refine qWant ?_); (first | (refine tl_is (.func 44) ?_; refine qC rfl rfl (hrs _ v1 r1 (hR1.mono hz2) hp1) ?_; rintro v ρ' L' hle ⟨hz3, rfl, rfl⟩ <;> (try simp only [kM, kN, kO])) | (refine tl_is (.func 44) ?_; refine qC rfl rfl (hrw _ (hR.mono (Hp.le_trans hz1 (Hp.le_trans hz2 hz3)))) ?_; rintro v ρ' L' hle ⟨hz4, rfl, rfl⟩ <;> (try simp only [kM, kN, kO])) | (refine qEf ?_; try intro _)) <;> ((try simp only [kM, kN, kO]); refine tl_nil ?_; refine rNext ?_)))
        all_goals refine rFull ?_
        all_goals refine rSb 6 ?_
        all_goals refine rAs 7 ?_
        all_goals refine rDone ?_
        all_goals (repeat' (first | (refine tl_is (.func 47) ?_; refine qC rfl rfl ((hfind _ (hR.mono (Hp.le_trans hz1 (Hp.le_trans hz2 (Hp.le_trans hz3 hz4)))))) ?_; rintro v ρ' L' hle ⟨rfl, x, bb, rfl, hX, hF, rfl⟩ <;> (try simp only [kM, kN, kO])) | (refine iBu ?_; refine tl_y (y_buildN rfl) rfl rfl ?_) | (refine i_op ?_; first | (refine i_qq ?_; refine qQ ?_) | refine qEf ?_) | refine tl_nil ?_ | (refine i_tc ?_; refine qTc ?_) | (refine i_te ?_; refine qTe ?_) | intro _))
        all_goals rw [← e1]
        all_goals refine te_round_g (k + 1, ρ', v1, r1) (⟨hlt, Hp.le_trans hle0 (Hp.le_trans hz1 (Hp.le_trans hz2 (Hp.le_trans hz3 hz4))), hR1.mono (Hp.le_trans hz2 (Hp.le_trans hz3 hz4)), by rw [hp1]; exact hmok⟩) ev_le ev_le rfl tk inferInstance (by first | omega | (dsimp only; omega))
    clear hg
    repeat' (first | (refine tl_is (.func 37) ?_; refine qC rfl rfl (hov) ?_; rintro v ρ' L' hle ⟨rfl, rfl, rfl⟩ <;> (try simp only [kM, kN, kO])) | (refine tl_is (.func 39) ?_; refine qC rfl rfl (hrun2) ?_; rintro v ρ' L' hle ⟨hz1, v1, r1, rfl, hR1, hp1, ⟨hn1, hn2, hn3, hn4, hn5⟩, rfl⟩ <;> (try simp only [kM, kN, kO])) | (refine tl_is (.func 42) ?_; refine qC rfl rfl ((hck _ v1 r1 hR1 hp1)) ?_; rintro v ρ' L' hle ⟨rfl, rfl, rfl⟩ <;> (try simp only [kM, kN, kO])) | (refine tl_is (.func 45) ?_; refine qC rfl rfl ((hrec _ (hR.mono hz1))) ?_; rintro v ρ' L' hle ⟨rfl, rfl, rfl⟩ <;> (try simp only [kM, kN, kO])) | (refine tl_is (.func 46) ?_; refine qC rfl rfl ((hcost _ (hri _ hz1))) ?_; rintro v ρ' L' hle ⟨hz2, rfl, rfl⟩ <;> (try simp only [kM, kN, kO])) | (refine iBu ?_; refine tl_y (y_buildN rfl) rfl rfl ?_) | (refine i_op ?_; first | (refine i_qq ?_; refine qQ ?_) | refine qEf ?_) | refine tl_nil ?_ | (refine i_tc ?_; refine qTc ?_) | (refine i_te ?_; refine qTe ?_) | intro _)
    refine tc_any (Stays _ _ ([[(_, .cells ⟨rosV v1 r1⟩ 34 (0, 0))], [(_, .cells ⟨rosV v ro⟩ 34 (0, 0))]])) (stays_of (hT := tk) (Hp.le_refl _)) ?_
    all_goals refine rMv 0 ?_
    all_goals refine rLd 1 ?_
    all_goals refine rLd 4 ?_
    all_goals (refine rStep (i := 2) ?_; ((try refine qWant ?_); (first | (refine tl_is (.func 44) ?_; refine qC rfl rfl (hrs _ v1 r1 (hR1.mono hz2) hp1) ?_; rintro v ρ' L' hle ⟨hz3, rfl, rfl⟩ <;> (try simp only [kM, kN, kO])) | (refine tl_is (.func 44) ?_; refine qC rfl rfl (hrw _ (hR.mono (Hp.le_trans hz1 (Hp.le_trans hz2 hz3)))) ?_; rintro v ρ' L' hle ⟨hz4, rfl, rfl⟩ <;> (try simp only [kM, kN, kO])) | (refine qEf ?_; try intro _)) <;> ((try simp only [kM, kN, kO]); refine tl_nil ?_; refine rNext ?_)))
    all_goals refine rAd 3 ?_
    all_goals (refine rStep (i := 5) ?_; ((try refine qWant ?_); (first | (refine tl_is (.func 44) ?_; refine qC rfl rfl (hrs _ v1 r1 (hR1.mono hz2) hp1) ?_; rintro v ρ' L' hle ⟨hz3, rfl, rfl⟩ <;> (try simp only [kM, kN, kO])) | (refine tl_is (.func 44) ?_; refine qC rfl rfl (hrw _ (hR.mono (Hp.le_trans hz1 (Hp.le_trans hz2 hz3)))) ?_; rintro v ρ' L' hle ⟨hz4, rfl, rfl⟩ <;> (try simp only [kM, kN, kO])) | (refine qEf ?_; try intro _)) <;> ((try simp only [kM, kN, kO]); refine tl_nil ?_; refine rNext ?_)))
    all_goals refine rFull ?_
    all_goals refine rSb 6 ?_
    all_goals refine rAs 7 ?_
    all_goals refine rDone ?_
    all_goals (repeat' (first | (refine tl_is (.func 47) ?_; refine qC rfl rfl ((hfind _ (hR.mono (Hp.le_trans hz1 (Hp.le_trans hz2 (Hp.le_trans hz3 hz4)))))) ?_; rintro v ρ' L' hle ⟨rfl, x, bb, rfl, hX, hF, rfl⟩ <;> (try simp only [kM, kN, kO])) | (refine iBu ?_; refine tl_y (y_buildN rfl) rfl rfl ?_) | (refine i_op ?_; first | (refine i_qq ?_; refine qQ ?_) | refine qEf ?_) | refine tl_nil ?_ | (refine i_tc ?_; refine qTc ?_) | (refine i_te ?_; refine qTe ?_) | intro _))
    all_goals rw [← e1]
    all_goals refine te_round_g (k + 1, ρ', v1, r1) (⟨hlt, Hp.le_trans hle0 (Hp.le_trans hz1 (Hp.le_trans hz2 (Hp.le_trans hz3 hz4))), hR1.mono (Hp.le_trans hz2 (Hp.le_trans hz3 hz4)), by rw [hp1]; exact hmok⟩) ev_le ev_le rfl tk inferInstance (by first | omega | (dsimp only; omega))
  · repeat' (first | (refine iBu ?_; refine tl_y (y_buildN rfl) rfl rfl ?_) | (refine i_op ?_; first | (refine i_qq ?_; refine qQ ?_) | refine qEf ?_) | refine tl_nil ?_ | (refine i_tc ?_; refine qTc ?_) | (refine i_te ?_; refine qTe ?_) | intro _)
    exact qE (L' := []) (hle := hle0) ⟨rfl, hle0, rfl⟩
end Go.Proofs.E

