/- DiskForks holds of every size and every two rows of operations (no condition): the reference of layer 2, and the walk of the law. Part 2 of 2. -/
import Derived.Test.YthbgnmilbgecfaaFo1
import Derived.Test.YthbgnmilbgecfaaRows
namespace Go.Proofs.E
open Go
set_option linter.unusedVariables false
set_option linter.unusedSimpArgs false
set_option linter.unusedSectionVars false
set_option maxRecDepth 4000
set_option maxHeartbeats 1000000
attribute [local irreducible] Yl TL TC TE Spec YSpec R1 Hp.le EnvLe TS TR YS Stays
/-! ## Pending of the reference; what both tell -/
theorem pendingR_spec (ρ : Hp) (D : DS) (a : Option Addr) (cap : Nat) (hR : RefIn ρ a cap D.secs) :
    Spec Try.prog 51 [.agg ⟨refV D a cap⟩] ρ [] (fun v ρ' L' => ρ' = ρ ∧ ∃ sp, OwnS v (pend D.secs).length ((pend D.secs).map iv) sp 1 ∧ L' = [ownC v ((pend D.secs).map iv) sp 3]) := by
  obtain ⟨s, ops, armed, failing, dead⟩ := D
  obtain ⟨hs, b, sp, T, rfl, hb⟩ := hR
  dsimp only at hs hb ⊢
  have hlen := hs.len
  have hpos := hs.pos
  have hcl := secC_length hs
  refine spec_enter Try.func51 rfl rfl rfl fun u R => ?_
  simp only [argsE, List.cons_append, List.nil_append, refV]
  repeat' (first | (refine i_op ?_; first | (refine iMv ?_; refine qMv ?_) | (refine iLd ?_; refine qLd ?_) | (refine iFa ?_; refine qFa ?_) | (refine iAd ?_; refine qAd ?_) | (refine iSb ?_; refine qSb ?_) | (refine iMl ?_; refine qMl ?_) | (refine iRm ?_; refine qRm ?_) | (refine iQu ?_; refine qQu ?_) | (refine iSr ?_; refine qSr ?_) | (refine iSh ?_; refine qSh ?_) | (refine iCm ?_; refine qCm ?_) | (refine iEx ?_; refine qEx ?_) | (refine iAs ?_; refine qAs ?_) | (refine iPk ?_; refine qPk ?_) | (refine iNc ?_; refine qNc ?_) | (refine iIa ?_; refine qIa ?_) | (refine iCv ?_; refine qCv ?_) | (refine iBi ?_; refine qBi ?_) | (refine iUn ?_; refine qUn ?_) | (refine iFl ?_; refine qFl ?_) | (refine iLu ?_; refine qLu ?_) | (refine iBu ?_; refine qBu ?_) | (refine iSl ?_; refine qSl ?_) | (refine iMf ?_; refine qMf ?_) | (refine iMi ?_; refine qMi ?_) | (refine iTa ?_; refine qTa ?_) | (refine iSt ?_; refine qSt ?_) | (refine iAl ?_; first | refine qAlA (fun _ => ?_) | refine qAlS (fun _ => ?_)) | (refine iBx ?_; first | refine qBxA (fun _ => ?_) | refine qBxS (fun _ => ?_)) | (refine iMm ?_; refine qMm (fun _ => ?_)) | (refine iBs ?_; refine qBs (fun _ => ?_)) | (refine i_gd ?_; first | refine qWant ?_ | refine qSkip ?_ | refine qSkip0 ?_ | refine qSkipU ?_)) | refine tl_nil ?_ | refine tc_seq ?_ | refine tc_region ?_ | refine te_seq ?_ | (refine i_cond ?_; first | refine qCt ?_ | refine qCf ?_) | refine tc_block ?_ | refine te_block_normal ?_ | refine te_block_ret ?_ | refine te_then_ret ?_ | refine te_block_hit ?_ | (refine i_miss ?_; refine qMiss ?_) | refine te_then_exit ?_ | refine tc_exit ?_ | refine tc_ret ?_ | refine tc_skip ?_)
  refine tc_loop_g [(2, _), (7, _), (8, _)] (fun (y : (Nat) × (Value) × (List Value)) => [(9, .int .i64 y.1), (3, y.2.1)]) (fun (y : (Nat) × (Value) × (List Value)) => ρ) (fun (y : (Nat) × (Value) × (List Value)) => [ownC y.2.1 ((pendTo s y.1).map iv) y.2.2 3]) (fun (y : (Nat) × (Value) × (List Value)) => y.1 ≤ s.length ∧ OwnS y.2.1 (pendTo s y.1).length ((pendTo s y.1).map iv) y.2.2 1) (fun (y : (Nat) × (Value) × (List Value)) => s.length - y.1) ((0, .slice none 0 0, [])) (⟨Nat.zero_le _, OwnS.nil 1⟩) ev_le ev_le rfl tk ?_
  rintro ⟨k, v, q⟩ hI
  try simp only [List.cons_append, List.nil_append] at hI ⊢
  try dsimp only at hI ⊢
  obtain ⟨hk, hown⟩ := hI
  obtain ⟨ra, rc, rfl, hrl⟩ := hown.len
  by_cases hlt : k < s.length
  · have hget := secC_get hs hlt sp
    have hmem := List.getElem_mem hlt
    have hheld := hs.held s[k] hmem
    have hcached := hs.cached s[k] hmem
    have e1 := secV_is hheld hcached
    have hvl := secV_len hheld hcached
    have hvo := secV_one s[k]
    have hpl := pendTo_length s k
    cases hc : s[k].2 with
    | none =>
      have hp : isP s k = false := by simp [isP, hlt, hc]
      have hps := pendTo_succ_f hp
      rw [hc] at e1
      simp only [Option.isSome_none] at e1
      generalize secV s[k] = S at *
      have hln : 0 + k * 129 + 129 ≤ (secC s ++ sp).length := by rw [List.length_append, hcl]; omega
      repeat' (first | (refine i_op ?_; first | (refine iMv ?_; refine qMv ?_) | (refine iLd ?_; refine qLd ?_) | (refine iFa ?_; refine qFa ?_) | (refine iAd ?_; refine qAd ?_) | (refine iSb ?_; refine qSb ?_) | (refine iMl ?_; refine qMl ?_) | (refine iRm ?_; refine qRm ?_) | (refine iQu ?_; refine qQu ?_) | (refine iSr ?_; refine qSr ?_) | (refine iSh ?_; refine qSh ?_) | (refine iCm ?_; refine qCm ?_) | (refine iEx ?_; refine qEx ?_) | (refine iAs ?_; refine qAs ?_) | (refine iPk ?_; refine qPk ?_) | (refine iNc ?_; refine qNc ?_) | (refine iIa ?_; refine qIa ?_) | (refine iCv ?_; refine qCv ?_) | (refine iBi ?_; refine qBi ?_) | (refine iUn ?_; refine qUn ?_) | (refine iFl ?_; refine qFl ?_) | (refine iLu ?_; refine qLu ?_) | (refine iBu ?_; refine qBu ?_) | (refine iSl ?_; refine qSl ?_) | (refine iMf ?_; refine qMf ?_) | (refine iMi ?_; refine qMi ?_) | (refine iTa ?_; refine qTa ?_) | (refine iSt ?_; refine qSt ?_) | (refine iAl ?_; first | refine qAlA (fun _ => ?_) | refine qAlS (fun _ => ?_)) | (refine iBx ?_; first | refine qBxA (fun _ => ?_) | refine qBxS (fun _ => ?_)) | (refine iMm ?_; refine qMm (fun _ => ?_)) | (refine iBs ?_; refine qBs (fun _ => ?_)) | (refine i_gd ?_; first | refine qWant ?_ | refine qSkip ?_ | refine qSkip0 ?_ | refine qSkipU ?_)) | refine tl_nil ?_ | refine tc_seq ?_ | refine tc_region ?_ | refine te_seq ?_ | (refine i_cond ?_; first | refine qCt ?_ | refine qCf ?_) | refine tc_block ?_ | refine te_block_normal ?_ | refine te_block_ret ?_ | refine te_then_ret ?_ | refine te_block_hit ?_ | (refine i_miss ?_; refine qMiss ?_) | refine te_then_exit ?_ | refine tc_exit ?_ | refine tc_ret ?_ | refine tc_skip ?_)
      rw [← hps] at hown ⊢
      refine te_round_g (k + 1, .slice ra (pendTo s (k + 1)).length rc, q) (⟨hlt, hown⟩) ev_le ev_le rfl tk inferInstance (by dsimp only; omega)
    | some c =>
      have hp : isP s k = true := by simp [isP, hlt, hc]
      have hps := pendTo_succ_t hp
      rw [hc] at e1
      simp only [Option.isSome_some] at e1
      generalize secV s[k] = S at *
      have hln : 0 + k * 129 + 129 ≤ (secC s ++ sp).length := by rw [List.length_append, hcl]; omega
      repeat' (first | (refine tl_buildSlice_s rfl rfl rfl rfl (by simp) rfl rfl (fun _ => ?_)) | (refine i_op ?_; first | (refine iMv ?_; refine qMv ?_) | (refine iLd ?_; refine qLd ?_) | (refine iFa ?_; refine qFa ?_) | (refine iAd ?_; refine qAd ?_) | (refine iSb ?_; refine qSb ?_) | (refine iMl ?_; refine qMl ?_) | (refine iRm ?_; refine qRm ?_) | (refine iQu ?_; refine qQu ?_) | (refine iSr ?_; refine qSr ?_) | (refine iSh ?_; refine qSh ?_) | (refine iCm ?_; refine qCm ?_) | (refine iEx ?_; refine qEx ?_) | (refine iAs ?_; refine qAs ?_) | (refine iPk ?_; refine qPk ?_) | (refine iNc ?_; refine qNc ?_) | (refine iIa ?_; refine qIa ?_) | (refine iCv ?_; refine qCv ?_) | (refine iBi ?_; refine qBi ?_) | (refine iUn ?_; refine qUn ?_) | (refine iFl ?_; refine qFl ?_) | (refine iLu ?_; refine qLu ?_) | (refine iBu ?_; refine qBu ?_) | (refine iSl ?_; refine qSl ?_) | (refine iMf ?_; refine qMf ?_) | (refine iMi ?_; refine qMi ?_) | (refine iTa ?_; refine qTa ?_) | (refine iSt ?_; refine qSt ?_) | (refine iAl ?_; first | refine qAlA (fun _ => ?_) | refine qAlS (fun _ => ?_)) | (refine iBx ?_; first | refine qBxA (fun _ => ?_) | refine qBxS (fun _ => ?_)) | (refine iMm ?_; refine qMm (fun _ => ?_)) | (refine iBs ?_; refine qBs (fun _ => ?_)) | (refine i_gd ?_; first | refine qWant ?_ | refine qSkip ?_ | refine qSkip0 ?_ | refine qSkipU ?_)) | refine tl_nil ?_ | refine tc_seq ?_ | refine tc_region ?_ | refine te_seq ?_ | (refine i_cond ?_; first | refine qCt ?_ | refine qCf ?_) | refine tc_block ?_ | refine te_block_normal ?_ | refine te_block_ret ?_ | refine te_then_ret ?_ | refine te_block_hit ?_ | (refine i_miss ?_; refine qMiss ?_) | refine te_then_exit ?_ | refine tc_exit ?_ | refine tc_ret ?_ | refine tc_skip ?_)
      refine tl_append (ys := [iv k]) (m := 1) rfl rfl hown (hR := by infer_instance) (Src.find (n := 1) rfl) rfl rfl (by decide) rfl (by omega) (by omega) rfl (fun v' sp' hown' => ?_)
      have hm : (pendTo s k).map iv ++ [iv k] = (pendTo s (k + 1)).map iv := by rw [hps]; simp
      have hn : (pendTo s k).length + 1 = (pendTo s (k + 1)).length := by rw [hps]; simp
      rw [hm] at hown' ⊢
      rw [hn] at hown'
      repeat' (first | (refine i_op ?_; first | (refine iMv ?_; refine qMv ?_) | (refine iLd ?_; refine qLd ?_) | (refine iFa ?_; refine qFa ?_) | (refine iAd ?_; refine qAd ?_) | (refine iSb ?_; refine qSb ?_) | (refine iMl ?_; refine qMl ?_) | (refine iRm ?_; refine qRm ?_) | (refine iQu ?_; refine qQu ?_) | (refine iSr ?_; refine qSr ?_) | (refine iSh ?_; refine qSh ?_) | (refine iCm ?_; refine qCm ?_) | (refine iEx ?_; refine qEx ?_) | (refine iAs ?_; refine qAs ?_) | (refine iPk ?_; refine qPk ?_) | (refine iNc ?_; refine qNc ?_) | (refine iIa ?_; refine qIa ?_) | (refine iCv ?_; refine qCv ?_) | (refine iBi ?_; refine qBi ?_) | (refine iUn ?_; refine qUn ?_) | (refine iFl ?_; refine qFl ?_) | (refine iLu ?_; refine qLu ?_) | (refine iBu ?_; refine qBu ?_) | (refine iSl ?_; refine qSl ?_) | (refine iMf ?_; refine qMf ?_) | (refine iMi ?_; refine qMi ?_) | (refine iTa ?_; refine qTa ?_) | (refine iSt ?_; refine qSt ?_) | (refine iAl ?_; first | refine qAlA (fun _ => ?_) | refine qAlS (fun _ => ?_)) | (refine iBx ?_; first | refine qBxA (fun _ => ?_) | refine qBxS (fun _ => ?_)) | (refine iMm ?_; refine qMm (fun _ => ?_)) | (refine iBs ?_; refine qBs (fun _ => ?_)) | (refine i_gd ?_; first | refine qWant ?_ | refine qSkip ?_ | refine qSkip0 ?_ | refine qSkipU ?_)) | refine tl_nil ?_ | refine tc_seq ?_ | refine tc_region ?_ | refine te_seq ?_ | (refine i_cond ?_; first | refine qCt ?_ | refine qCf ?_) | refine tc_block ?_ | refine te_block_normal ?_ | refine te_block_ret ?_ | refine te_then_ret ?_ | refine te_block_hit ?_ | (refine i_miss ?_; refine qMiss ?_) | refine te_then_exit ?_ | refine tc_exit ?_ | refine tc_ret ?_ | refine tc_skip ?_)
      refine te_round_g (k + 1, v', sp') (⟨hlt, hown'⟩) ev_le ev_le rfl tk inferInstance (by dsimp only; omega)
  · have hk2 : k = s.length := by omega
    subst hk2
    repeat' (first | (refine i_op ?_; first | (refine iMv ?_; refine qMv ?_) | (refine iLd ?_; refine qLd ?_) | (refine iFa ?_; refine qFa ?_) | (refine iAd ?_; refine qAd ?_) | (refine iSb ?_; refine qSb ?_) | (refine iMl ?_; refine qMl ?_) | (refine iRm ?_; refine qRm ?_) | (refine iQu ?_; refine qQu ?_) | (refine iSr ?_; refine qSr ?_) | (refine iSh ?_; refine qSh ?_) | (refine iCm ?_; refine qCm ?_) | (refine iEx ?_; refine qEx ?_) | (refine iAs ?_; refine qAs ?_) | (refine iPk ?_; refine qPk ?_) | (refine iNc ?_; refine qNc ?_) | (refine iIa ?_; refine qIa ?_) | (refine iCv ?_; refine qCv ?_) | (refine iBi ?_; refine qBi ?_) | (refine iUn ?_; refine qUn ?_) | (refine iFl ?_; refine qFl ?_) | (refine iLu ?_; refine qLu ?_) | (refine iBu ?_; refine qBu ?_) | (refine iSl ?_; refine qSl ?_) | (refine iMf ?_; refine qMf ?_) | (refine iMi ?_; refine qMi ?_) | (refine iTa ?_; refine qTa ?_) | (refine iSt ?_; refine qSt ?_) | (refine iAl ?_; first | refine qAlA (fun _ => ?_) | refine qAlS (fun _ => ?_)) | (refine iBx ?_; first | refine qBxA (fun _ => ?_) | refine qBxS (fun _ => ?_)) | (refine iMm ?_; refine qMm (fun _ => ?_)) | (refine iBs ?_; refine qBs (fun _ => ?_)) | (refine i_gd ?_; first | refine qWant ?_ | refine qSkip ?_ | refine qSkip0 ?_ | refine qSkipU ?_)) | refine tl_nil ?_ | refine tc_seq ?_ | refine tc_region ?_ | refine te_seq ?_ | (refine i_cond ?_; first | refine qCt ?_ | refine qCf ?_) | refine tc_block ?_ | refine te_block_normal ?_ | refine te_block_ret ?_ | refine te_then_ret ?_ | refine te_block_hit ?_ | (refine i_miss ?_; refine qMiss ?_) | refine te_then_exit ?_ | refine tc_exit ?_ | refine tc_ret ?_ | refine tc_skip ?_)
    exact qE ⟨rfl, q, hown, rfl⟩
theorem ops_disk (ρ : Hp) (b : Nat) (hb : HB) (mb : Nat) (es : List MapEntry) (ck : Nat) (D : DS) : Spec Try.prog 32 [.pointer (some ⟨b, 0, none⟩)] ρ (diskL b hb mb es ck D) (fun v ρ' L' => v = .int .i64 D.ops ∧ ρ' = ρ ∧ L' = diskL b hb mb es ck D) := by
  refine ((ops_spec ρ b hb mb D.secs.length D.ops D.armed D.failing D.dead).frame [[(hb.b, .cells ⟨heldC D.secs ++ hb.sp⟩ 34 (0, 0))], [(mb, .map ⟨es⟩ ck)]]).mono ?_
  rintro v ρ' L' _ ⟨L1, rfl, rfl, rfl, rfl⟩
  exact ⟨rfl, rfl, rfl⟩
theorem slEq_zero (ρ : Hp) (a1 a2 : Option Addr) (c1 c2 : Nat) : Spec Try.prog 16 [.slice a1 0 c1, .slice a2 0 c2] ρ [] (fun v ρ' L' => v = .bool true ∧ ρ' = ρ ∧ L' = []) := by
  refine spec_enter Try.func16 rfl rfl rfl fun u R => ?_
  simp only [argsE, List.cons_append, List.nil_append]
  repeat' (first | (refine i_op ?_; first | (refine iMv ?_; refine qMv ?_) | (refine iLd ?_; refine qLd ?_) | (refine iFa ?_; refine qFa ?_) | (refine iAd ?_; refine qAd ?_) | (refine iSb ?_; refine qSb ?_) | (refine iMl ?_; refine qMl ?_) | (refine iRm ?_; refine qRm ?_) | (refine iQu ?_; refine qQu ?_) | (refine iSr ?_; refine qSr ?_) | (refine iSh ?_; refine qSh ?_) | (refine iCm ?_; refine qCm ?_) | (refine iEx ?_; refine qEx ?_) | (refine iAs ?_; refine qAs ?_) | (refine iPk ?_; refine qPk ?_) | (refine iNc ?_; refine qNc ?_) | (refine iIa ?_; refine qIa ?_) | (refine iCv ?_; refine qCv ?_) | (refine iBi ?_; refine qBi ?_) | (refine iUn ?_; refine qUn ?_) | (refine iFl ?_; refine qFl ?_) | (refine iLu ?_; refine qLu ?_) | (refine iBu ?_; refine qBu ?_) | (refine iSl ?_; refine qSl ?_) | (refine iMf ?_; refine qMf ?_) | (refine iMi ?_; refine qMi ?_) | (refine iTa ?_; refine qTa ?_) | (refine iSt ?_; refine qSt ?_) | (refine iAl ?_; first | refine qAlA (fun _ => ?_) | refine qAlS (fun _ => ?_)) | (refine iBx ?_; first | refine qBxA (fun _ => ?_) | refine qBxS (fun _ => ?_)) | (refine iMm ?_; refine qMm (fun _ => ?_)) | (refine iBs ?_; refine qBs (fun _ => ?_)) | (refine i_gd ?_; first | refine qWant ?_ | refine qSkip ?_ | refine qSkip0 ?_ | refine qSkipU ?_)) | refine tl_nil ?_ | refine tc_seq ?_ | refine tc_region ?_ | refine te_seq ?_ | (refine i_cond ?_; first | refine qCt ?_ | refine qCf ?_) | refine tc_block ?_ | refine te_block_normal ?_ | refine te_block_ret ?_ | refine te_then_ret ?_ | refine te_block_hit ?_ | (refine i_miss ?_; refine qMiss ?_) | refine te_then_exit ?_ | refine tc_exit ?_ | refine tc_ret ?_ | refine tc_skip ?_)
  refine tc_loop_g [(0, _), (1, _), (4, _), (12, _)] (fun (y : (Nat)) => [(13, .int .i64 y)]) (fun (y : (Nat)) => ρ) (fun (y : (Nat)) => []) (fun (y : (Nat)) => y = 0) (fun (y : (Nat)) => y) (0) (rfl) ev_le ev_le rfl tk ?_
  rintro k hI
  try simp only [List.cons_append, List.nil_append] at hI ⊢
  try dsimp only at hI ⊢
  subst hI
  repeat' (first | (refine i_op ?_; first | (refine iMv ?_; refine qMv ?_) | (refine iLd ?_; refine qLd ?_) | (refine iFa ?_; refine qFa ?_) | (refine iAd ?_; refine qAd ?_) | (refine iSb ?_; refine qSb ?_) | (refine iMl ?_; refine qMl ?_) | (refine iRm ?_; refine qRm ?_) | (refine iQu ?_; refine qQu ?_) | (refine iSr ?_; refine qSr ?_) | (refine iSh ?_; refine qSh ?_) | (refine iCm ?_; refine qCm ?_) | (refine iEx ?_; refine qEx ?_) | (refine iAs ?_; refine qAs ?_) | (refine iPk ?_; refine qPk ?_) | (refine iNc ?_; refine qNc ?_) | (refine iIa ?_; refine qIa ?_) | (refine iCv ?_; refine qCv ?_) | (refine iBi ?_; refine qBi ?_) | (refine iUn ?_; refine qUn ?_) | (refine iFl ?_; refine qFl ?_) | (refine iLu ?_; refine qLu ?_) | (refine iBu ?_; refine qBu ?_) | (refine iSl ?_; refine qSl ?_) | (refine iMf ?_; refine qMf ?_) | (refine iMi ?_; refine qMi ?_) | (refine iTa ?_; refine qTa ?_) | (refine iSt ?_; refine qSt ?_) | (refine iAl ?_; first | refine qAlA (fun _ => ?_) | refine qAlS (fun _ => ?_)) | (refine iBx ?_; first | refine qBxA (fun _ => ?_) | refine qBxS (fun _ => ?_)) | (refine iMm ?_; refine qMm (fun _ => ?_)) | (refine iBs ?_; refine qBs (fun _ => ?_)) | (refine i_gd ?_; first | refine qWant ?_ | refine qSkip ?_ | refine qSkip0 ?_ | refine qSkipU ?_)) | refine tl_nil ?_ | refine tc_seq ?_ | refine tc_region ?_ | refine te_seq ?_ | (refine i_cond ?_; first | refine qCt ?_ | refine qCf ?_) | refine tc_block ?_ | refine te_block_normal ?_ | refine te_block_ret ?_ | refine te_then_ret ?_ | refine te_block_hit ?_ | (refine i_miss ?_; refine qMiss ?_) | refine te_then_exit ?_ | refine tc_exit ?_ | refine tc_ret ?_ | refine tc_skip ?_)
  exact qE ⟨rfl, rfl, rfl⟩
theorem slEq_same (ρ : Hp) (v w : Value) (l : List Nat) (s1 s2 : List Value) (T1 T2 : TypeId) (h1 : OwnS v l.length (l.map iv) s1 1) (h2 : OwnS w l.length (l.map iv) s2 1) (hl : l.length ≤ 1000000) :
    Spec Try.prog 16 [v, w] ρ [ownC v (l.map iv) s1 T1, ownC w (l.map iv) s2 T2] (fun r ρ' L' => r = .bool true ∧ ρ' = ρ ∧ L' = [ownC v (l.map iv) s1 T1, ownC w (l.map iv) s2 T2]) := by
  by_cases h0 : l = []
  · subst h0
    obtain ⟨a1, c1, rfl, _⟩ := h1.len
    obtain ⟨a2, c2, rfl, _⟩ := h2.len
    refine ((slEq_zero ρ a1 a2 c1 c2).frame [ownC (.slice a1 0 c1) [] s1 T1, ownC (.slice a2 0 c2) [] s2 T2]).mono ?_
    rintro v ρ' L' _ ⟨L1, rfl, rfl, rfl, rfl⟩
    exact ⟨rfl, rfl, rfl⟩
  · have hp : 0 < l.length := List.length_pos_iff.2 h0
    obtain ⟨b1, c1, rfl⟩ := h1.pos hp
    obtain ⟨b2, c2, rfl⟩ := h2.pos hp
    refine (slEq_spec ρ b1 b2 c1 c2 l l s1 s2 T1 T2 (0, 0) (0, 0) rfl hl).mono ?_
    rintro v ρ' L' _ ⟨rfl, rfl, rfl⟩
    exact ⟨by simp, rfl, rfl⟩
theorem says_spec (ρ : Hp) (b : Nat) (hb : HB) (mb : Nat) (es : List MapEntry) (ck : Nat) (D : DS) (hD : D.Ok) (hm : MapOk D.secs es) (a : Option Addr) (cap : Nat) (hR : RefIn ρ a cap D.secs) :
    Spec Try.prog 30 [.pointer (some ⟨b, 0, none⟩), .agg ⟨refV D a cap⟩] ρ (diskL b hb mb es ck D) (fun v ρ' L' => v = .bool true ∧ ρ.le ρ' ∧ L' = diskL b hb mb es ck D) := by
  have hpl := pend_length hD.secs
  have hle := fun ρ => len_disk ρ b hb mb es ck D
  have hop := fun ρ => ops_disk ρ b hb mb es ck D
  have hde := fun ρ => dead_disk ρ b hb mb es ck D
  have hpe := fun ρ => pendingM_spec ρ b hb mb es ck D hD hm
  have hpr := fun ρ' (h : ρ.le ρ') => pendingR_spec ρ' D a cap (hR.mono h)
  have hsl : D.secs.length ≤ 2048 := hD.secs.len
  generalize diskL b hb mb es ck D = X at *
  obtain ⟨s, ops, armed, failing, dead⟩ := D
  dsimp only at hsl hpl hle hop hde hpe hpr
  refine spec_enter Try.func30 rfl rfl rfl fun u R => ?_
  simp only [argsE, List.cons_append, List.nil_append, refV] at hpr ⊢
  repeat' (first | (refine i_op ?_; first | (refine iMv ?_; refine qMv ?_) | (refine iLd ?_; refine qLd ?_) | (refine iFa ?_; refine qFa ?_) | (refine iAd ?_; refine qAd ?_) | (refine iSb ?_; refine qSb ?_) | (refine iMl ?_; refine qMl ?_) | (refine iRm ?_; refine qRm ?_) | (refine iQu ?_; refine qQu ?_) | (refine iSr ?_; refine qSr ?_) | (refine iSh ?_; refine qSh ?_) | (refine iCm ?_; refine qCm ?_) | (refine iEx ?_; refine qEx ?_) | (refine iAs ?_; refine qAs ?_) | (refine iPk ?_; refine qPk ?_) | (refine iNc ?_; refine qNc ?_) | (refine iIa ?_; refine qIa ?_) | (refine iCv ?_; refine qCv ?_) | (refine iBi ?_; refine qBi ?_) | (refine iUn ?_; refine qUn ?_) | (refine iFl ?_; refine qFl ?_) | (refine iLu ?_; refine qLu ?_) | (refine iBu ?_; refine qBu ?_) | (refine iSl ?_; refine qSl ?_) | (refine iMf ?_; refine qMf ?_) | (refine iMi ?_; refine qMi ?_) | (refine iTa ?_; refine qTa ?_) | (refine iSt ?_; refine qSt ?_) | (refine iAl ?_; first | refine qAlA (fun _ => ?_) | refine qAlS (fun _ => ?_)) | (refine iBx ?_; first | refine qBxA (fun _ => ?_) | refine qBxS (fun _ => ?_)) | (refine iMm ?_; refine qMm (fun _ => ?_)) | (refine iBs ?_; refine qBs (fun _ => ?_)) | (refine i_gd ?_; first | refine qWant ?_ | refine qSkip ?_ | refine qSkip0 ?_ | refine qSkipU ?_)) | refine tl_nil ?_ | refine tc_seq ?_ | refine tc_region ?_ | refine te_seq ?_ | (refine i_cond ?_; first | refine qCt ?_ | refine qCf ?_) | refine tc_block ?_ | refine te_block_normal ?_ | refine te_block_ret ?_ | refine te_then_ret ?_ | refine te_block_hit ?_ | (refine i_miss ?_; refine qMiss ?_) | refine te_then_exit ?_ | refine tc_exit ?_ | refine tc_ret ?_ | refine tc_skip ?_)
  rename_i b3
  refine tc_any (Stays _ _ ([[(b3, .cells ⟨[.slice a s.length cap, .int .i64 ops, .int .i64 armed, .int .i64 failing, .bool dead]⟩ 60 (0, 0))]])) (stays_of (Hp.le_refl _)) ?_
  all_goals refine rMv 0 ?_
  all_goals refine rFa 2 ?_
  all_goals refine rLd 3 ?_
  all_goals refine rBi 4 ?_
  all_goals (refine rStep (i := 1) ?_; ((try refine qWant ?_); (first | (refine tl_is (.func 11) ?_; refine qC rfl rfl (hle _) ?_; rintro v ρ' L' hle ⟨rfl, rfl, rfl⟩ <;> (try simp only [List.cons_append, List.nil_append, List.append_eq])) | (refine tl_is (.func 32) ?_; refine qC rfl rfl (hop _) ?_; rintro v ρ' L' hle ⟨rfl, rfl, rfl⟩ <;> (try simp only [List.cons_append, List.nil_append, List.append_eq])) | (refine tl_is (.func 21) ?_; refine qC rfl rfl (hde _) ?_; rintro v ρ' L' hle ⟨rfl, rfl, rfl⟩ <;> (try simp only [List.cons_append, List.nil_append, List.append_eq])) | (refine tl_is (.func 17) ?_; refine qC rfl rfl (hpe _) ?_; rintro v ρ' L' hle ⟨hle2, sp1, hown1, rfl⟩ <;> (try simp only [List.cons_append, List.nil_append, List.append_eq, List.append_assoc])) | (refine tl_is (.func 51) ?_; refine qC rfl rfl (hpr _ hle2) ?_; rintro v ρ' L' hle ⟨rfl, sp2, hown2, rfl⟩ <;> (try simp only [List.cons_append, List.nil_append, List.append_eq])) | (refine tl_is (.func 16) ?_; refine qC rfl rfl (slEq_same _ _ _ _ _ _ 3 3 hown1 hown2 (by omega)) ?_; rintro v ρ' L' hle ⟨rfl, rfl, rfl⟩ <;> (try simp only [List.cons_append, List.nil_append, List.append_eq])) | (refine iSt ?_; refine qSt ?_) | (refine iAl ?_; first | refine qAlA (fun _ => ?_) | refine qAlS (fun _ => ?_)) | (refine iBx ?_; first | refine qBxA (fun _ => ?_) | refine qBxS (fun _ => ?_)) | (refine iMm ?_; refine qMm (fun _ => ?_)) | (refine iBs ?_; refine qBs (fun _ => ?_))); (try simp only [List.cons_append, List.nil_append, List.append_eq]); refine tl_nil ?_; refine rNext ?_))
  all_goals (first | refine rAd 5 ?_ | refine rSb 5 ?_ | refine rMl 5 ?_ | refine rRm 5 ?_ | refine rQu 5 ?_ | refine rSr 5 ?_ | refine rSh 5 ?_ | refine rCm 5 ?_)
  all_goals refine rMv 6 ?_
  all_goals (first | refine wSkip 7 ?_ | refine wSkipU 7 ?_ | refine wMv 7 ?_ | (refine tr_guard (t := 11) rfl (fun hb => ?_) (fun hb => ?_) <;> (try simp only [decide_eq_true_eq, decide_eq_false_iff_not, Bool.not_eq_true, Bool.not_eq_false, beq_iff_eq, bne_iff_ne, ne_eq, Bool.not_eq_eq_eq_not, Bool.not_true, Bool.not_false, beq_eq_false_iff_ne, bne_eq_false_iff_eq] at hb) <;> first | refine wSkip 7 ?_ | refine wSkipU 7 ?_ | refine wMv 7 ?_))
  all_goals (first | refine wSkip 9 ?_ | refine wSkipU 9 ?_ | refine wFa 9 ?_ | (refine tr_guard (t := 11) rfl (fun hb => ?_) (fun hb => ?_) <;> (try simp only [decide_eq_true_eq, decide_eq_false_iff_not, Bool.not_eq_true, Bool.not_eq_false, beq_iff_eq, bne_iff_ne, ne_eq, Bool.not_eq_eq_eq_not, Bool.not_true, Bool.not_false, beq_eq_false_iff_ne, bne_eq_false_iff_eq] at hb) <;> first | refine wSkip 9 ?_ | refine wSkipU 9 ?_ | refine wFa 9 ?_))
  all_goals (first | refine wSkip 10 ?_ | refine wSkipU 10 ?_ | refine wLd 10 ?_ | (refine tr_guard (t := 11) rfl (fun hb => ?_) (fun hb => ?_) <;> (try simp only [decide_eq_true_eq, decide_eq_false_iff_not, Bool.not_eq_true, Bool.not_eq_false, beq_iff_eq, bne_iff_ne, ne_eq, Bool.not_eq_eq_eq_not, Bool.not_true, Bool.not_false, beq_eq_false_iff_ne, bne_eq_false_iff_eq] at hb) <;> first | refine wSkip 10 ?_ | refine wSkipU 10 ?_ | refine wLd 10 ?_))
  all_goals (first | refine wSkip 8 ?_ | refine wSkipU 8 ?_ | (refine rStep (i := 8) ?_; ((try refine qWant ?_); (first | (refine tl_is (.func 11) ?_; refine qC rfl rfl (hle _) ?_; rintro v ρ' L' hle ⟨rfl, rfl, rfl⟩ <;> (try simp only [List.cons_append, List.nil_append, List.append_eq])) | (refine tl_is (.func 32) ?_; refine qC rfl rfl (hop _) ?_; rintro v ρ' L' hle ⟨rfl, rfl, rfl⟩ <;> (try simp only [List.cons_append, List.nil_append, List.append_eq])) | (refine tl_is (.func 21) ?_; refine qC rfl rfl (hde _) ?_; rintro v ρ' L' hle ⟨rfl, rfl, rfl⟩ <;> (try simp only [List.cons_append, List.nil_append, List.append_eq])) | (refine tl_is (.func 17) ?_; refine qC rfl rfl (hpe _) ?_; rintro v ρ' L' hle ⟨hle2, sp1, hown1, rfl⟩ <;> (try simp only [List.cons_append, List.nil_append, List.append_eq, List.append_assoc])) | (refine tl_is (.func 51) ?_; refine qC rfl rfl (hpr _ hle2) ?_; rintro v ρ' L' hle ⟨rfl, sp2, hown2, rfl⟩ <;> (try simp only [List.cons_append, List.nil_append, List.append_eq])) | (refine tl_is (.func 16) ?_; refine qC rfl rfl (slEq_same _ _ _ _ _ _ 3 3 hown1 hown2 (by omega)) ?_; rintro v ρ' L' hle ⟨rfl, rfl, rfl⟩ <;> (try simp only [List.cons_append, List.nil_append, List.append_eq])) | (refine iSt ?_; refine qSt ?_) | (refine iAl ?_; first | refine qAlA (fun _ => ?_) | refine qAlS (fun _ => ?_)) | (refine iBx ?_; first | refine qBxA (fun _ => ?_) | refine qBxS (fun _ => ?_)) | (refine iMm ?_; refine qMm (fun _ => ?_)) | (refine iBs ?_; refine qBs (fun _ => ?_))); (try simp only [List.cons_append, List.nil_append, List.append_eq]); refine tl_nil ?_; refine rNext ?_)))
  all_goals (first | refine wSkip 11 ?_ | refine wSkipU 11 ?_ | refine wAd 11 ?_ | refine wSb 11 ?_ | refine wMl 11 ?_ | refine wRm 11 ?_ | refine wQu 11 ?_ | refine wSr 11 ?_ | refine wSh 11 ?_ | refine wCm 11 ?_ | (refine tr_guard (t := 11) rfl (fun hb => ?_) (fun hb => ?_) <;> (try simp only [decide_eq_true_eq, decide_eq_false_iff_not, Bool.not_eq_true, Bool.not_eq_false, beq_iff_eq, bne_iff_ne, ne_eq, Bool.not_eq_eq_eq_not, Bool.not_true, Bool.not_false, beq_eq_false_iff_ne, bne_eq_false_iff_eq] at hb) <;> first | refine wSkip 11 ?_ | refine wSkipU 11 ?_ | refine wAd 11 ?_ | refine wSb 11 ?_ | refine wMl 11 ?_ | refine wRm 11 ?_ | refine wQu 11 ?_ | refine wSr 11 ?_ | refine wSh 11 ?_ | refine wCm 11 ?_))
  all_goals refine rPk 12 ?_
  all_goals refine rMv 13 ?_
  all_goals (first | refine wSkip 14 ?_ | refine wSkipU 14 ?_ | refine wMv 14 ?_ | (refine tr_guard (t := 18) rfl (fun hb => ?_) (fun hb => ?_) <;> (try simp only [decide_eq_true_eq, decide_eq_false_iff_not, Bool.not_eq_true, Bool.not_eq_false, beq_iff_eq, bne_iff_ne, ne_eq, Bool.not_eq_eq_eq_not, Bool.not_true, Bool.not_false, beq_eq_false_iff_ne, bne_eq_false_iff_eq] at hb) <;> first | refine wSkip 14 ?_ | refine wSkipU 14 ?_ | refine wMv 14 ?_))
  all_goals (first | refine wSkip 16 ?_ | refine wSkipU 16 ?_ | refine wFa 16 ?_ | (refine tr_guard (t := 18) rfl (fun hb => ?_) (fun hb => ?_) <;> (try simp only [decide_eq_true_eq, decide_eq_false_iff_not, Bool.not_eq_true, Bool.not_eq_false, beq_iff_eq, bne_iff_ne, ne_eq, Bool.not_eq_eq_eq_not, Bool.not_true, Bool.not_false, beq_eq_false_iff_ne, bne_eq_false_iff_eq] at hb) <;> first | refine wSkip 16 ?_ | refine wSkipU 16 ?_ | refine wFa 16 ?_))
  all_goals (first | refine wSkip 17 ?_ | refine wSkipU 17 ?_ | refine wLd 17 ?_ | (refine tr_guard (t := 18) rfl (fun hb => ?_) (fun hb => ?_) <;> (try simp only [decide_eq_true_eq, decide_eq_false_iff_not, Bool.not_eq_true, Bool.not_eq_false, beq_iff_eq, bne_iff_ne, ne_eq, Bool.not_eq_eq_eq_not, Bool.not_true, Bool.not_false, beq_eq_false_iff_ne, bne_eq_false_iff_eq] at hb) <;> first | refine wSkip 17 ?_ | refine wSkipU 17 ?_ | refine wLd 17 ?_))
  all_goals (first | refine wSkip 15 ?_ | refine wSkipU 15 ?_ | (refine rStep (i := 15) ?_; ((try refine qWant ?_); (first | (refine tl_is (.func 11) ?_; refine qC rfl rfl (hle _) ?_; rintro v ρ' L' hle ⟨rfl, rfl, rfl⟩ <;> (try simp only [List.cons_append, List.nil_append, List.append_eq])) | (refine tl_is (.func 32) ?_; refine qC rfl rfl (hop _) ?_; rintro v ρ' L' hle ⟨rfl, rfl, rfl⟩ <;> (try simp only [List.cons_append, List.nil_append, List.append_eq])) | (refine tl_is (.func 21) ?_; refine qC rfl rfl (hde _) ?_; rintro v ρ' L' hle ⟨rfl, rfl, rfl⟩ <;> (try simp only [List.cons_append, List.nil_append, List.append_eq])) | (refine tl_is (.func 17) ?_; refine qC rfl rfl (hpe _) ?_; rintro v ρ' L' hle ⟨hle2, sp1, hown1, rfl⟩ <;> (try simp only [List.cons_append, List.nil_append, List.append_eq, List.append_assoc])) | (refine tl_is (.func 51) ?_; refine qC rfl rfl (hpr _ hle2) ?_; rintro v ρ' L' hle ⟨rfl, sp2, hown2, rfl⟩ <;> (try simp only [List.cons_append, List.nil_append, List.append_eq])) | (refine tl_is (.func 16) ?_; refine qC rfl rfl (slEq_same _ _ _ _ _ _ 3 3 hown1 hown2 (by omega)) ?_; rintro v ρ' L' hle ⟨rfl, rfl, rfl⟩ <;> (try simp only [List.cons_append, List.nil_append, List.append_eq])) | (refine iSt ?_; refine qSt ?_) | (refine iAl ?_; first | refine qAlA (fun _ => ?_) | refine qAlS (fun _ => ?_)) | (refine iBx ?_; first | refine qBxA (fun _ => ?_) | refine qBxS (fun _ => ?_)) | (refine iMm ?_; refine qMm (fun _ => ?_)) | (refine iBs ?_; refine qBs (fun _ => ?_))); (try simp only [List.cons_append, List.nil_append, List.append_eq]); refine tl_nil ?_; refine rNext ?_)))
  all_goals (first | refine wSkip 18 ?_ | refine wSkipU 18 ?_ | refine wAd 18 ?_ | refine wSb 18 ?_ | refine wMl 18 ?_ | refine wRm 18 ?_ | refine wQu 18 ?_ | refine wSr 18 ?_ | refine wSh 18 ?_ | refine wCm 18 ?_ | (refine tr_guard (t := 18) rfl (fun hb => ?_) (fun hb => ?_) <;> (try simp only [decide_eq_true_eq, decide_eq_false_iff_not, Bool.not_eq_true, Bool.not_eq_false, beq_iff_eq, bne_iff_ne, ne_eq, Bool.not_eq_eq_eq_not, Bool.not_true, Bool.not_false, beq_eq_false_iff_ne, bne_eq_false_iff_eq] at hb) <;> first | refine wSkip 18 ?_ | refine wSkipU 18 ?_ | refine wAd 18 ?_ | refine wSb 18 ?_ | refine wMl 18 ?_ | refine wRm 18 ?_ | refine wQu 18 ?_ | refine wSr 18 ?_ | refine wSh 18 ?_ | refine wCm 18 ?_))
  all_goals refine rPk 19 ?_
  all_goals refine rMv 20 ?_
  all_goals (first | refine wSkip 21 ?_ | refine wSkipU 21 ?_ | refine wMv 21 ?_ | (refine tr_guard (t := 25) rfl (fun hb => ?_) (fun hb => ?_) <;> (try simp only [decide_eq_true_eq, decide_eq_false_iff_not, Bool.not_eq_true, Bool.not_eq_false, beq_iff_eq, bne_iff_ne, ne_eq, Bool.not_eq_eq_eq_not, Bool.not_true, Bool.not_false, beq_eq_false_iff_ne, bne_eq_false_iff_eq] at hb) <;> first | refine wSkip 21 ?_ | refine wSkipU 21 ?_ | refine wMv 21 ?_))
  all_goals (first | refine wSkip 23 ?_ | refine wSkipU 23 ?_ | refine wLd 23 ?_ | (refine tr_guard (t := 25) rfl (fun hb => ?_) (fun hb => ?_) <;> (try simp only [decide_eq_true_eq, decide_eq_false_iff_not, Bool.not_eq_true, Bool.not_eq_false, beq_iff_eq, bne_iff_ne, ne_eq, Bool.not_eq_eq_eq_not, Bool.not_true, Bool.not_false, beq_eq_false_iff_ne, bne_eq_false_iff_eq] at hb) <;> first | refine wSkip 23 ?_ | refine wSkipU 23 ?_ | refine wLd 23 ?_))
  all_goals (first | refine wSkip 22 ?_ | refine wSkipU 22 ?_ | (refine rStep (i := 22) ?_; ((try refine qWant ?_); (first | (refine tl_is (.func 11) ?_; refine qC rfl rfl (hle _) ?_; rintro v ρ' L' hle ⟨rfl, rfl, rfl⟩ <;> (try simp only [List.cons_append, List.nil_append, List.append_eq])) | (refine tl_is (.func 32) ?_; refine qC rfl rfl (hop _) ?_; rintro v ρ' L' hle ⟨rfl, rfl, rfl⟩ <;> (try simp only [List.cons_append, List.nil_append, List.append_eq])) | (refine tl_is (.func 21) ?_; refine qC rfl rfl (hde _) ?_; rintro v ρ' L' hle ⟨rfl, rfl, rfl⟩ <;> (try simp only [List.cons_append, List.nil_append, List.append_eq])) | (refine tl_is (.func 17) ?_; refine qC rfl rfl (hpe _) ?_; rintro v ρ' L' hle ⟨hle2, sp1, hown1, rfl⟩ <;> (try simp only [List.cons_append, List.nil_append, List.append_eq, List.append_assoc])) | (refine tl_is (.func 51) ?_; refine qC rfl rfl (hpr _ hle2) ?_; rintro v ρ' L' hle ⟨rfl, sp2, hown2, rfl⟩ <;> (try simp only [List.cons_append, List.nil_append, List.append_eq])) | (refine tl_is (.func 16) ?_; refine qC rfl rfl (slEq_same _ _ _ _ _ _ 3 3 hown1 hown2 (by omega)) ?_; rintro v ρ' L' hle ⟨rfl, rfl, rfl⟩ <;> (try simp only [List.cons_append, List.nil_append, List.append_eq])) | (refine iSt ?_; refine qSt ?_) | (refine iAl ?_; first | refine qAlA (fun _ => ?_) | refine qAlS (fun _ => ?_)) | (refine iBx ?_; first | refine qBxA (fun _ => ?_) | refine qBxS (fun _ => ?_)) | (refine iMm ?_; refine qMm (fun _ => ?_)) | (refine iBs ?_; refine qBs (fun _ => ?_))); (try simp only [List.cons_append, List.nil_append, List.append_eq]); refine tl_nil ?_; refine rNext ?_)))
  all_goals (first | refine wSkip 24 ?_ | refine wSkipU 24 ?_ | (refine rStep (i := 24) ?_; ((try refine qWant ?_); (first | (refine tl_is (.func 11) ?_; refine qC rfl rfl (hle _) ?_; rintro v ρ' L' hle ⟨rfl, rfl, rfl⟩ <;> (try simp only [List.cons_append, List.nil_append, List.append_eq])) | (refine tl_is (.func 32) ?_; refine qC rfl rfl (hop _) ?_; rintro v ρ' L' hle ⟨rfl, rfl, rfl⟩ <;> (try simp only [List.cons_append, List.nil_append, List.append_eq])) | (refine tl_is (.func 21) ?_; refine qC rfl rfl (hde _) ?_; rintro v ρ' L' hle ⟨rfl, rfl, rfl⟩ <;> (try simp only [List.cons_append, List.nil_append, List.append_eq])) | (refine tl_is (.func 17) ?_; refine qC rfl rfl (hpe _) ?_; rintro v ρ' L' hle ⟨hle2, sp1, hown1, rfl⟩ <;> (try simp only [List.cons_append, List.nil_append, List.append_eq, List.append_assoc])) | (refine tl_is (.func 51) ?_; refine qC rfl rfl (hpr _ hle2) ?_; rintro v ρ' L' hle ⟨rfl, sp2, hown2, rfl⟩ <;> (try simp only [List.cons_append, List.nil_append, List.append_eq])) | (refine tl_is (.func 16) ?_; refine qC rfl rfl (slEq_same _ _ _ _ _ _ 3 3 hown1 hown2 (by omega)) ?_; rintro v ρ' L' hle ⟨rfl, rfl, rfl⟩ <;> (try simp only [List.cons_append, List.nil_append, List.append_eq])) | (refine iSt ?_; refine qSt ?_) | (refine iAl ?_; first | refine qAlA (fun _ => ?_) | refine qAlS (fun _ => ?_)) | (refine iBx ?_; first | refine qBxA (fun _ => ?_) | refine qBxS (fun _ => ?_)) | (refine iMm ?_; refine qMm (fun _ => ?_)) | (refine iBs ?_; refine qBs (fun _ => ?_))); (try simp only [List.cons_append, List.nil_append, List.append_eq]); refine tl_nil ?_; refine rNext ?_)))
  all_goals (first | refine wSkip 25 ?_ | refine wSkipU 25 ?_ | (refine rStep (i := 25) ?_; ((try refine qWant ?_); (first | (refine tl_is (.func 11) ?_; refine qC rfl rfl (hle _) ?_; rintro v ρ' L' hle ⟨rfl, rfl, rfl⟩ <;> (try simp only [List.cons_append, List.nil_append, List.append_eq])) | (refine tl_is (.func 32) ?_; refine qC rfl rfl (hop _) ?_; rintro v ρ' L' hle ⟨rfl, rfl, rfl⟩ <;> (try simp only [List.cons_append, List.nil_append, List.append_eq])) | (refine tl_is (.func 21) ?_; refine qC rfl rfl (hde _) ?_; rintro v ρ' L' hle ⟨rfl, rfl, rfl⟩ <;> (try simp only [List.cons_append, List.nil_append, List.append_eq])) | (refine tl_is (.func 17) ?_; refine qC rfl rfl (hpe _) ?_; rintro v ρ' L' hle ⟨hle2, sp1, hown1, rfl⟩ <;> (try simp only [List.cons_append, List.nil_append, List.append_eq, List.append_assoc])) | (refine tl_is (.func 51) ?_; refine qC rfl rfl (hpr _ hle2) ?_; rintro v ρ' L' hle ⟨rfl, sp2, hown2, rfl⟩ <;> (try simp only [List.cons_append, List.nil_append, List.append_eq])) | (refine tl_is (.func 16) ?_; refine qC rfl rfl (slEq_same _ _ _ _ _ _ 3 3 hown1 hown2 (by omega)) ?_; rintro v ρ' L' hle ⟨rfl, rfl, rfl⟩ <;> (try simp only [List.cons_append, List.nil_append, List.append_eq])) | (refine iSt ?_; refine qSt ?_) | (refine iAl ?_; first | refine qAlA (fun _ => ?_) | refine qAlS (fun _ => ?_)) | (refine iBx ?_; first | refine qBxA (fun _ => ?_) | refine qBxS (fun _ => ?_)) | (refine iMm ?_; refine qMm (fun _ => ?_)) | (refine iBs ?_; refine qBs (fun _ => ?_))); (try simp only [List.cons_append, List.nil_append, List.append_eq]); refine tl_nil ?_; refine rNext ?_)))
  all_goals refine rFull ?_
  all_goals refine rPk 26 ?_
  all_goals refine rAs 27 ?_
  all_goals refine rDone ?_
  repeat' (first | (refine i_op ?_; first | (refine iMv ?_; refine qMv ?_) | (refine iLd ?_; refine qLd ?_) | (refine iFa ?_; refine qFa ?_) | (refine iAd ?_; refine qAd ?_) | (refine iSb ?_; refine qSb ?_) | (refine iMl ?_; refine qMl ?_) | (refine iRm ?_; refine qRm ?_) | (refine iQu ?_; refine qQu ?_) | (refine iSr ?_; refine qSr ?_) | (refine iSh ?_; refine qSh ?_) | (refine iCm ?_; refine qCm ?_) | (refine iEx ?_; refine qEx ?_) | (refine iAs ?_; refine qAs ?_) | (refine iPk ?_; refine qPk ?_) | (refine iNc ?_; refine qNc ?_) | (refine iIa ?_; refine qIa ?_) | (refine iCv ?_; refine qCv ?_) | (refine iBi ?_; refine qBi ?_) | (refine iUn ?_; refine qUn ?_) | (refine iFl ?_; refine qFl ?_) | (refine iLu ?_; refine qLu ?_) | (refine iBu ?_; refine qBu ?_) | (refine iSl ?_; refine qSl ?_) | (refine iMf ?_; refine qMf ?_) | (refine iMi ?_; refine qMi ?_) | (refine iTa ?_; refine qTa ?_) | (refine iSt ?_; refine qSt ?_) | (refine iAl ?_; first | refine qAlA (fun _ => ?_) | refine qAlS (fun _ => ?_)) | (refine iBx ?_; first | refine qBxA (fun _ => ?_) | refine qBxS (fun _ => ?_)) | (refine iMm ?_; refine qMm (fun _ => ?_)) | (refine iBs ?_; refine qBs (fun _ => ?_)) | (refine i_gd ?_; first | refine qWant ?_ | refine qSkip ?_ | refine qSkip0 ?_ | refine qSkipU ?_)) | refine tl_nil ?_ | refine tc_seq ?_ | refine tc_region ?_ | refine te_seq ?_ | (refine i_cond ?_; first | refine qCt ?_ | refine qCf ?_) | refine tc_block ?_ | refine te_block_normal ?_ | refine te_block_ret ?_ | refine te_then_ret ?_ | refine te_block_hit ?_ | (refine i_miss ?_; refine qMiss ?_) | refine te_then_exit ?_ | refine tc_exit ?_ | refine tc_ret ?_ | refine tc_skip ?_)
  exact qE ⟨rfl, hle2, rfl⟩
end Go.Proofs.E

namespace Go.Proofs.E
open Go
set_option linter.unusedVariables false
set_option linter.unusedSimpArgs false
set_option linter.unusedSectionVars false
set_option maxRecDepth 4000
set_option maxHeartbeats 1000000
attribute [local irreducible] Yl TL TC TE Spec YSpec R1 Hp.le EnvLe TS TR YS Stays
theorem run_okB {D : DS} {o : OpV} {ks : List Bool} (h : D.Ok) (hn : o.n ≤ 9223372036854775807) : (D.run o ks).1.Ok := by
  unfold DS.run
  split
  · exact h.read
  split
  · exact h.sync
  split
  · unfold DS.arm
    split
    · exact h
    · exact ⟨h.secs, by dsimp only; omega, by dsimp only; omega, h.f1, h.f2⟩
  split
  · unfold DS.fail
    split
    · exact h
    · exact ⟨h.secs, h.a1, h.a2, by dsimp only; omega, by dsimp only; omega⟩
  split
  · exact h.crash
  · exact h.write rfl
structure OpsB (ops : List (OpV × List Bool)) : Prop where
  out : ∀ i (h : i < ops.length), ops[i].1.n ≤ 9223372036854775807
theorem settled_get {keep : Nat → Bool} {s : Secs} {i : Nat} (hi : i < (settled keep s).length) : (settled keep s)[i].2 = none := emptyC_settled _ (List.getElem_mem hi)
theorem forks_spec (ρ : Hp) (k0 : Int) (oa : Option Addr) (n cap : Nat) (ops : List (OpV × List Bool)) (hO : OpsIn ρ oa n ops) (hB : OpsB ops) (oa' : Option Addr) (n' cap' : Nat) (ops' : List (OpV × List Bool)) (hO' : OpsIn ρ oa' n' ops') (hB' : OpsB ops') :
    Spec Try.prog 6 [.int .i64 k0, .slice oa n cap, .slice oa' n' cap'] ρ [] (fun v ρ' L' => v = .bool true ∧ ρ.le ρ' ∧ L' = []) := by
  have hbig := hO.big
  have hon := hO.len
  have hbig' := hO'.big
  have hon' := hO'.len
  have hsz0 := sizeN_pos (k := k0)
  have hsz1 : sizeN k0 ≤ 2048 := Nat.le_trans sizeN_le (by decide)
  refine spec_enter Try.func6 rfl rfl rfl fun u R => ?_
  simp only [argsE, List.cons_append, List.nil_append]
  repeat' (first | (refine tl_is (.func 9) ?_; refine qC rfl rfl (wakes_spec _) ?_; rintro v ρ' L' hle ⟨rfl, hle1, rfl⟩ <;> (try simp only [List.cons_append, List.nil_append, List.append_eq])) | (refine tl_is (.func 27) ?_; refine qC rfl rfl (size_spec _ _) ?_; rintro v ρ' L' hle ⟨rfl, rfl, rfl⟩ <;> (try simp only [List.cons_append, List.nil_append, List.append_eq])) | (refine tl_is (.func 26) ?_; refine qC rfl rfl (new_spec _ (sizeN k0) hsz0 hsz1) ?_; rintro v ρ' L' hle ⟨rfl, b, hb, mb, ck, rfl, rfl⟩ <;> (try simp only [List.cons_append, List.nil_append, List.append_eq])) | (refine tl_is (.func 28) ?_; refine qC rfl rfl (newR_spec _ (sizeN k0) hsz0 hsz1) ?_; rintro v ρ' L' hle ⟨hle2, a, c, rfl, hR, rfl⟩ <;> (try simp only [List.cons_append, List.nil_append, List.append_eq])) | (refine i_op ?_; first | (refine iMv ?_; refine qMv ?_) | (refine iLd ?_; refine qLd ?_) | (refine iFa ?_; refine qFa ?_) | (refine iAd ?_; refine qAd ?_) | (refine iSb ?_; refine qSb ?_) | (refine iMl ?_; refine qMl ?_) | (refine iRm ?_; refine qRm ?_) | (refine iQu ?_; refine qQu ?_) | (refine iSr ?_; refine qSr ?_) | (refine iSh ?_; refine qSh ?_) | (refine iCm ?_; refine qCm ?_) | (refine iEx ?_; refine qEx ?_) | (refine iAs ?_; refine qAs ?_) | (refine iPk ?_; refine qPk ?_) | (refine iNc ?_; refine qNc ?_) | (refine iIa ?_; refine qIa ?_) | (refine iCv ?_; refine qCv ?_) | (refine iBi ?_; refine qBi ?_) | (refine iUn ?_; refine qUn ?_) | (refine iFl ?_; refine qFl ?_) | (refine iLu ?_; refine qLu ?_) | (refine iBu ?_; refine qBu ?_) | (refine iSl ?_; refine qSl ?_) | (refine iMf ?_; refine qMf ?_) | (refine iMi ?_; refine qMi ?_) | (refine iTa ?_; refine qTa ?_) | (refine iSt ?_; refine qSt ?_) | (refine iAl ?_; first | refine qAlA (fun _ => ?_) | refine qAlS (fun _ => ?_)) | (refine iBx ?_; first | refine qBxA (fun _ => ?_) | refine qBxS (fun _ => ?_)) | (refine iMm ?_; refine qMm (fun _ => ?_)) | (refine iBs ?_; refine qBs (fun _ => ?_)) | (refine i_gd ?_; first | refine qWant ?_ | refine qSkip ?_ | refine qSkip0 ?_ | refine qSkipU ?_)) | refine tl_nil ?_ | refine tc_seq ?_ | refine tc_region ?_ | refine te_seq ?_ | (refine i_cond ?_; first | refine qCt ?_ | refine qCf ?_) | refine tc_block ?_ | refine te_block_normal ?_ | refine te_block_ret ?_ | refine te_then_ret ?_ | refine te_block_hit ?_ | (refine i_miss ?_; refine qMiss ?_) | refine te_then_exit ?_ | refine tc_exit ?_ | refine tc_ret ?_ | refine tc_skip ?_)
  rename_i b9
  refine tc_loop_g [(2, _), (6, _), (7, _), (9, _), (38, _), (39, _)] (fun (y : (Nat) × (Hp) × (Nat) × (List MapEntry) × (Nat) × (DS) × (Option Addr) × (Nat)) => [(40, .int .i64 y.1)]) (fun (y : (Nat) × (Hp) × (Nat) × (List MapEntry) × (Nat) × (DS) × (Option Addr) × (Nat)) => y.2.1) (fun (y : (Nat) × (Hp) × (Nat) × (List MapEntry) × (Nat) × (DS) × (Option Addr) × (Nat)) => diskL b hb y.2.2.1 y.2.2.2.1 y.2.2.2.2.1 y.2.2.2.2.2.1 ++ [[(b9, .cells ⟨refV y.2.2.2.2.2.1 y.2.2.2.2.2.2.1 y.2.2.2.2.2.2.2⟩ 60 (0, 0))]]) (fun (y : (Nat) × (Hp) × (Nat) × (List MapEntry) × (Nat) × (DS) × (Option Addr) × (Nat)) => y.1 ≤ n ∧ ρ.le y.2.1 ∧ y.2.2.2.2.2.1.Ok ∧ MapOk y.2.2.2.2.2.1.secs y.2.2.2.1 ∧ RefIn y.2.1 y.2.2.2.2.2.2.1 y.2.2.2.2.2.2.2 y.2.2.2.2.2.1.secs) (fun (y : (Nat) × (Hp) × (Nat) × (List MapEntry) × (Nat) × (DS) × (Option Addr) × (Nat)) => n - y.1) ((0, ρ', mb, [], ck, DS.new (sizeN k0), a, c)) (⟨Nat.zero_le _, Hp.le_trans hle1 hle2, new_okD hsz0 hsz1, MapOk.empty fresh_empty, hR⟩) ev_le ev_le rfl tk ?_
  rintro ⟨k, ρ1, m1, es1, ck1, D, a1, c1⟩ hI
  try simp only [List.cons_append, List.nil_append, List.append_assoc, List.append_eq] at hI ⊢
  try dsimp only at hI ⊢
  obtain ⟨h1, h2, h3, h4, h5⟩ := hI
  by_cases hlt : k < n
  · have hk : k < ops.length := by omega
    obtain ⟨ob, off, C, T, fr, rfl, hC, hle5, hcs, hkp⟩ := (hO.mono h2).out k hk
    have hnb := hB.out k hk
    generalize ops[k] = p at hcs hkp hnb
    obtain ⟨⟨kind, at', m, fill, ka, kn, kp⟩, ks⟩ := p
    dsimp only [OpV.cells] at hcs hkp hnb
    by_cases h30 : k < 30
    · have hok := run_okB (o := ⟨kind, at', m, fill, ka, kn, kp⟩) (ks := ks) h3 hnb
      have hrun := run_spec ρ1 b hb m1 es1 ck1 D ⟨kind, at', m, fill, ka, kn, kp⟩ ks h3 h4 hkp
      have hwa := fun ρ' (h : ρ1.le ρ') => wants_spec ρ' D h3 a1 c1 (h5.mono h) ⟨kind, at', m, fill, ka, kn, kp⟩ ks (hkp.mono h)
      generalize DS.run ⟨kind, at', m, fill, ka, kn, kp⟩ ks D = r at *
      obtain ⟨D', blk, e⟩ := r
      dsimp only at hok hrun hwa
      repeat' (first | (refine tl_is (.func 22) ?_; refine qC rfl rfl (hrun) ?_; rintro v ρ' L' hle ⟨rfl, hle3, m2, es2, ck2, hm2, rfl⟩ <;> (try simp only [List.cons_append, List.nil_append, List.append_eq])) | (refine tl_is (.func 29) ?_; refine qC rfl rfl (hwa _ hle3) ?_; rintro v ρ' L' hle ⟨hle4, a2, c2, rfl, hR2, rfl⟩ <;> (try simp only [List.cons_append, List.nil_append, List.append_eq])) | (refine i_op ?_; first | (refine iMv ?_; refine qMv ?_) | (refine iLd ?_; refine qLd ?_) | (refine iFa ?_; refine qFa ?_) | (refine iAd ?_; refine qAd ?_) | (refine iSb ?_; refine qSb ?_) | (refine iMl ?_; refine qMl ?_) | (refine iRm ?_; refine qRm ?_) | (refine iQu ?_; refine qQu ?_) | (refine iSr ?_; refine qSr ?_) | (refine iSh ?_; refine qSh ?_) | (refine iCm ?_; refine qCm ?_) | (refine iEx ?_; refine qEx ?_) | (refine iAs ?_; refine qAs ?_) | (refine iPk ?_; refine qPk ?_) | (refine iNc ?_; refine qNc ?_) | (refine iIa ?_; refine qIa ?_) | (refine iCv ?_; refine qCv ?_) | (refine iBi ?_; refine qBi ?_) | (refine iUn ?_; refine qUn ?_) | (refine iFl ?_; refine qFl ?_) | (refine iLu ?_; refine qLu ?_) | (refine iBu ?_; refine qBu ?_) | (refine iSl ?_; refine qSl ?_) | (refine iMf ?_; refine qMf ?_) | (refine iMi ?_; refine qMi ?_) | (refine iTa ?_; refine qTa ?_) | (refine iSt ?_; refine qSt ?_) | (refine iAl ?_; first | refine qAlA (fun _ => ?_) | refine qAlS (fun _ => ?_)) | (refine iBx ?_; first | refine qBxA (fun _ => ?_) | refine qBxS (fun _ => ?_)) | (refine iMm ?_; refine qMm (fun _ => ?_)) | (refine iBs ?_; refine qBs (fun _ => ?_)) | (refine i_gd ?_; first | refine qWant ?_ | refine qSkip ?_ | refine qSkip0 ?_ | refine qSkipU ?_)) | refine tl_nil ?_ | refine tc_seq ?_ | refine tc_region ?_ | refine te_seq ?_ | (refine i_cond ?_; first | refine qCt ?_ | refine qCf ?_) | refine tc_block ?_ | refine te_block_normal ?_ | refine te_block_ret ?_ | refine te_then_ret ?_ | refine te_block_hit ?_ | (refine i_miss ?_; refine qMiss ?_) | refine te_then_exit ?_ | refine tc_exit ?_ | refine tc_ret ?_ | refine tc_skip ?_)
      refine te_round_g (k + 1, _, m2, es2, ck2, D', a2, c2) (⟨hlt, Hp.le_trans h2 (Hp.le_trans hle3 hle4), hok, hm2, hR2⟩) ev_le ev_le rfl tk inferInstance (by dsimp only; omega)
    · repeat' (first | (refine i_op ?_; first | (refine iMv ?_; refine qMv ?_) | (refine iLd ?_; refine qLd ?_) | (refine iFa ?_; refine qFa ?_) | (refine iAd ?_; refine qAd ?_) | (refine iSb ?_; refine qSb ?_) | (refine iMl ?_; refine qMl ?_) | (refine iRm ?_; refine qRm ?_) | (refine iQu ?_; refine qQu ?_) | (refine iSr ?_; refine qSr ?_) | (refine iSh ?_; refine qSh ?_) | (refine iCm ?_; refine qCm ?_) | (refine iEx ?_; refine qEx ?_) | (refine iAs ?_; refine qAs ?_) | (refine iPk ?_; refine qPk ?_) | (refine iNc ?_; refine qNc ?_) | (refine iIa ?_; refine qIa ?_) | (refine iCv ?_; refine qCv ?_) | (refine iBi ?_; refine qBi ?_) | (refine iUn ?_; refine qUn ?_) | (refine iFl ?_; refine qFl ?_) | (refine iLu ?_; refine qLu ?_) | (refine iBu ?_; refine qBu ?_) | (refine iSl ?_; refine qSl ?_) | (refine iMf ?_; refine qMf ?_) | (refine iMi ?_; refine qMi ?_) | (refine iTa ?_; refine qTa ?_) | (refine iSt ?_; refine qSt ?_) | (refine iAl ?_; first | refine qAlA (fun _ => ?_) | refine qAlS (fun _ => ?_)) | (refine iBx ?_; first | refine qBxA (fun _ => ?_) | refine qBxS (fun _ => ?_)) | (refine iMm ?_; refine qMm (fun _ => ?_)) | (refine iBs ?_; refine qBs (fun _ => ?_)) | (refine i_gd ?_; first | refine qWant ?_ | refine qSkip ?_ | refine qSkip0 ?_ | refine qSkipU ?_)) | refine tl_nil ?_ | refine tc_seq ?_ | refine tc_region ?_ | refine te_seq ?_ | (refine i_cond ?_; first | refine qCt ?_ | refine qCf ?_) | refine tc_block ?_ | refine te_block_normal ?_ | refine te_block_ret ?_ | refine te_then_ret ?_ | refine te_block_hit ?_ | (refine i_miss ?_; refine qMiss ?_) | refine te_then_exit ?_ | refine tc_exit ?_ | refine tc_ret ?_ | refine tc_skip ?_)
      refine te_round_g (k + 1, ρ1, m1, es1, ck1, D, a1, c1) (⟨hlt, h2, h3, h4, h5⟩) ev_le ev_le rfl tk inferInstance (by dsimp only; omega)
  · have hk2 : k = n := by omega
    subst hk2
    repeat' (first | (refine i_op ?_; first | (refine iMv ?_; refine qMv ?_) | (refine iLd ?_; refine qLd ?_) | (refine iFa ?_; refine qFa ?_) | (refine iAd ?_; refine qAd ?_) | (refine iSb ?_; refine qSb ?_) | (refine iMl ?_; refine qMl ?_) | (refine iRm ?_; refine qRm ?_) | (refine iQu ?_; refine qQu ?_) | (refine iSr ?_; refine qSr ?_) | (refine iSh ?_; refine qSh ?_) | (refine iCm ?_; refine qCm ?_) | (refine iEx ?_; refine qEx ?_) | (refine iAs ?_; refine qAs ?_) | (refine iPk ?_; refine qPk ?_) | (refine iNc ?_; refine qNc ?_) | (refine iIa ?_; refine qIa ?_) | (refine iCv ?_; refine qCv ?_) | (refine iBi ?_; refine qBi ?_) | (refine iUn ?_; refine qUn ?_) | (refine iFl ?_; refine qFl ?_) | (refine iLu ?_; refine qLu ?_) | (refine iBu ?_; refine qBu ?_) | (refine iSl ?_; refine qSl ?_) | (refine iMf ?_; refine qMf ?_) | (refine iMi ?_; refine qMi ?_) | (refine iTa ?_; refine qTa ?_) | (refine iSt ?_; refine qSt ?_) | (refine iAl ?_; first | refine qAlA (fun _ => ?_) | refine qAlS (fun _ => ?_)) | (refine iBx ?_; first | refine qBxA (fun _ => ?_) | refine qBxS (fun _ => ?_)) | (refine iMm ?_; refine qMm (fun _ => ?_)) | (refine iBs ?_; refine qBs (fun _ => ?_)) | (refine i_gd ?_; first | refine qWant ?_ | refine qSkip ?_ | refine qSkip0 ?_ | refine qSkipU ?_)) | refine tl_nil ?_ | refine tc_seq ?_ | refine tc_region ?_ | refine te_seq ?_ | (refine i_cond ?_; first | refine qCt ?_ | refine qCf ?_) | refine tc_block ?_ | refine te_block_normal ?_ | refine te_block_ret ?_ | refine te_then_ret ?_ | refine te_block_hit ?_ | (refine i_miss ?_; refine qMiss ?_) | refine te_then_exit ?_ | refine tc_exit ?_ | refine tc_ret ?_ | refine tc_skip ?_)
    refine tc_any (Stays _ _ ([[(b9, .cells ⟨refV D a1 c1⟩ 60 (0, 0))]])) (stays_of (Hp.le_refl _)) ?_
    all_goals refine rMv 0 ?_
    all_goals refine rLd 2 ?_
    all_goals (refine rStep2 (i := 1) (j := 3) ?_ ?_ <;> ((try refine qWant ?_); (first | (refine tl_is (.func 23) ?_; refine qC rfl rfl (copy_spec _ b hb m1 es1 ck1 D h3) ?_; rintro v ρ' L' hle ⟨rfl, bc, hbc, mbc, rfl, rfl⟩ <;> (try simp only [List.cons_append, List.nil_append, List.append_eq, List.append_assoc])) | (refine iSt ?_; refine qSt ?_) | (refine iAl ?_; first | refine qAlA (fun _ => ?_) | refine qAlS (fun _ => ?_)) | (refine iBx ?_; first | refine qBxA (fun _ => ?_) | refine qBxS (fun _ => ?_)) | (refine iMm ?_; refine qMm (fun _ => ?_)) | (refine iBs ?_; refine qBs (fun _ => ?_))); (try simp only [List.cons_append, List.nil_append, List.append_eq]); refine tl_nil ?_; refine rNext ?_))
    all_goals (first | (refine rStep (i := 3) ?_; ((try refine qWant ?_); (first | (refine tl_is (.func 23) ?_; refine qC rfl rfl (copy_spec _ b hb m1 es1 ck1 D h3) ?_; rintro v ρ' L' hle ⟨rfl, bc, hbc, mbc, rfl, rfl⟩ <;> (try simp only [List.cons_append, List.nil_append, List.append_eq, List.append_assoc])) | (refine iSt ?_; refine qSt ?_) | (refine iAl ?_; first | refine qAlA (fun _ => ?_) | refine qAlS (fun _ => ?_)) | (refine iBx ?_; first | refine qBxA (fun _ => ?_) | refine qBxS (fun _ => ?_)) | (refine iMm ?_; refine qMm (fun _ => ?_)) | (refine iBs ?_; refine qBs (fun _ => ?_))); (try simp only [List.cons_append, List.nil_append, List.append_eq]); refine tl_nil ?_; refine rNext ?_)) | (refine rStep (i := 1) ?_; ((try refine qWant ?_); (first | (refine tl_is (.func 23) ?_; refine qC rfl rfl (copy_spec _ b hb m1 es1 ck1 D h3) ?_; rintro v ρ' L' hle ⟨rfl, bc, hbc, mbc, rfl, rfl⟩ <;> (try simp only [List.cons_append, List.nil_append, List.append_eq, List.append_assoc])) | (refine iSt ?_; refine qSt ?_) | (refine iAl ?_; first | refine qAlA (fun _ => ?_) | refine qAlS (fun _ => ?_)) | (refine iBx ?_; first | refine qBxA (fun _ => ?_) | refine qBxS (fun _ => ?_)) | (refine iMm ?_; refine qMm (fun _ => ?_)) | (refine iBs ?_; refine qBs (fun _ => ?_))); (try simp only [List.cons_append, List.nil_append, List.append_eq]); refine tl_nil ?_; refine rNext ?_)))
    all_goals refine rAs 4 ?_
    all_goals (refine rStep (i := 5) ?_; ((try refine qWant ?_); (first | (refine tl_is (.func 23) ?_; refine qC rfl rfl (copy_spec _ b hb m1 es1 ck1 D h3) ?_; rintro v ρ' L' hle ⟨rfl, bc, hbc, mbc, rfl, rfl⟩ <;> (try simp only [List.cons_append, List.nil_append, List.append_eq, List.append_assoc])) | (refine iSt ?_; refine qSt ?_) | (refine iAl ?_; first | refine qAlA (fun _ => ?_) | refine qAlS (fun _ => ?_)) | (refine iBx ?_; first | refine qBxA (fun _ => ?_) | refine qBxS (fun _ => ?_)) | (refine iMm ?_; refine qMm (fun _ => ?_)) | (refine iBs ?_; refine qBs (fun _ => ?_))); (try simp only [List.cons_append, List.nil_append, List.append_eq]); refine tl_nil ?_; refine rNext ?_))
    all_goals refine rDone ?_
    all_goals
      rename_i b13
      repeat' (first | (refine i_op ?_; first | (refine iMv ?_; refine qMv ?_) | (refine iLd ?_; refine qLd ?_) | (refine iFa ?_; refine qFa ?_) | (refine iAd ?_; refine qAd ?_) | (refine iSb ?_; refine qSb ?_) | (refine iMl ?_; refine qMl ?_) | (refine iRm ?_; refine qRm ?_) | (refine iQu ?_; refine qQu ?_) | (refine iSr ?_; refine qSr ?_) | (refine iSh ?_; refine qSh ?_) | (refine iCm ?_; refine qCm ?_) | (refine iEx ?_; refine qEx ?_) | (refine iAs ?_; refine qAs ?_) | (refine iPk ?_; refine qPk ?_) | (refine iNc ?_; refine qNc ?_) | (refine iIa ?_; refine qIa ?_) | (refine iCv ?_; refine qCv ?_) | (refine iBi ?_; refine qBi ?_) | (refine iUn ?_; refine qUn ?_) | (refine iFl ?_; refine qFl ?_) | (refine iLu ?_; refine qLu ?_) | (refine iBu ?_; refine qBu ?_) | (refine iSl ?_; refine qSl ?_) | (refine iMf ?_; refine qMf ?_) | (refine iMi ?_; refine qMi ?_) | (refine iTa ?_; refine qTa ?_) | (refine iSt ?_; refine qSt ?_) | (refine iAl ?_; first | refine qAlA (fun _ => ?_) | refine qAlS (fun _ => ?_)) | (refine iBx ?_; first | refine qBxA (fun _ => ?_) | refine qBxS (fun _ => ?_)) | (refine iMm ?_; refine qMm (fun _ => ?_)) | (refine iBs ?_; refine qBs (fun _ => ?_)) | (refine i_gd ?_; first | refine qWant ?_ | refine qSkip ?_ | refine qSkip0 ?_ | refine qSkipU ?_)) | refine tl_nil ?_ | refine tc_seq ?_ | refine tc_region ?_ | refine te_seq ?_ | (refine i_cond ?_; first | refine qCt ?_ | refine qCf ?_) | refine tc_block ?_ | refine te_block_normal ?_ | refine te_block_ret ?_ | refine te_then_ret ?_ | refine te_block_hit ?_ | (refine i_miss ?_; refine qMiss ?_) | refine te_then_exit ?_ | refine tc_exit ?_ | refine tc_ret ?_ | refine tc_skip ?_)
      refine tc_loop_g [(6, _), (7, _), (9, _), (12, _), (13, _), (61, _), (62, _)] (fun (y : (Nat) × (Hp) × (Nat) × (List MapEntry) × (Nat) × (DS) × (Option Addr) × (Nat)) => [(63, .int .i64 y.1)]) (fun (y : (Nat) × (Hp) × (Nat) × (List MapEntry) × (Nat) × (DS) × (Option Addr) × (Nat)) => y.2.1) (fun (y : (Nat) × (Hp) × (Nat) × (List MapEntry) × (Nat) × (DS) × (Option Addr) × (Nat)) => diskL bc hbc y.2.2.1 y.2.2.2.1 y.2.2.2.2.1 y.2.2.2.2.2.1 ++ [[(b13, .cells ⟨refV y.2.2.2.2.2.1 y.2.2.2.2.2.2.1 y.2.2.2.2.2.2.2⟩ 60 (0, 0))]]) (fun (y : (Nat) × (Hp) × (Nat) × (List MapEntry) × (Nat) × (DS) × (Option Addr) × (Nat)) => y.1 ≤ n' ∧ ρ'.le y.2.1 ∧ y.2.2.2.2.2.1.Ok ∧ MapOk y.2.2.2.2.2.1.secs y.2.2.2.1 ∧ RefIn y.2.1 y.2.2.2.2.2.2.1 y.2.2.2.2.2.2.2 y.2.2.2.2.2.1.secs) (fun (y : (Nat) × (Hp) × (Nat) × (List MapEntry) × (Nat) × (DS) × (Option Addr) × (Nat)) => n' - y.1) ((0, ρ', mbc, es1, ck1, D, a1, c1)) (⟨Nat.zero_le _, Hp.le_refl _, h3, h4, h5⟩) ev_le ev_le rfl tk ?_
      rintro ⟨k', ρ2, m2, es2, ck2, D2, a2, c2⟩ hI
      try simp only [List.cons_append, List.nil_append, List.append_assoc, List.append_eq] at hI ⊢
      try dsimp only at hI ⊢
      obtain ⟨g1, g2, g3, g4, g5⟩ := hI
      by_cases hlt' : k' < n'
      · have hk : k' < ops'.length := by omega
        obtain ⟨ob, off, C, T, fr, rfl, hC, hle5, hcs, hkp⟩ := (hO'.mono (Hp.le_trans h2 g2)).out k' hk
        have hnb := hB'.out k' hk
        generalize ops'[k'] = p at hcs hkp hnb
        obtain ⟨⟨kind, at', m, fill, ka, kn, kp⟩, ks⟩ := p
        dsimp only [OpV.cells] at hcs hkp hnb
        by_cases h30 : k' < 30
        · have hok := run_okB (o := ⟨kind, at', m, fill, ka, kn, kp⟩) (ks := ks) g3 hnb
          have hbl := run_blk g3 (o := ⟨kind, at', m, fill, ka, kn, kp⟩) (ks := ks)
          have hrun := run_spec ρ2 bc hbc m2 es2 ck2 D2 ⟨kind, at', m, fill, ka, kn, kp⟩ ks g3 g4 hkp
          have hwa := fun ρ' (h : ρ2.le ρ') => wants_spec ρ' D2 g3 a2 c2 (g5.mono h) ⟨kind, at', m, fill, ka, kn, kp⟩ ks (hkp.mono h)
          generalize DS.run ⟨kind, at', m, fill, ka, kn, kp⟩ ks D2 = r at *
          obtain ⟨D', blk, e⟩ := r
          dsimp only at hok hrun hwa hbl
          have hbl' : (blk.map u8c).length = 64 := by simpa using hbl
          have hone := u8c_one blk
          repeat' (first | (refine tl_is (.func 22) ?_; refine qC rfl rfl (hrun) ?_; rintro v ρ' L' hle ⟨rfl, hle3, m3, es3, ck3, hm3, rfl⟩ <;> (try simp only [List.cons_append, List.nil_append, List.append_eq, bv])) | (refine tl_is (.func 29) ?_; refine qC rfl rfl (hwa _ hle3) ?_; rintro v ρ' L' hle ⟨hle4, a3, c3, rfl, hR3, rfl⟩ <;> (try simp only [List.cons_append, List.nil_append, List.append_eq, bv])) | (refine i_op ?_; first | (refine iMv ?_; refine qMv ?_) | (refine iLd ?_; refine qLd ?_) | (refine iFa ?_; refine qFa ?_) | (refine iAd ?_; refine qAd ?_) | (refine iSb ?_; refine qSb ?_) | (refine iMl ?_; refine qMl ?_) | (refine iRm ?_; refine qRm ?_) | (refine iQu ?_; refine qQu ?_) | (refine iSr ?_; refine qSr ?_) | (refine iSh ?_; refine qSh ?_) | (refine iCm ?_; refine qCm ?_) | (refine iEx ?_; refine qEx ?_) | (refine iAs ?_; refine qAs ?_) | (refine iPk ?_; refine qPk ?_) | (refine iNc ?_; refine qNc ?_) | (refine iIa ?_; refine qIa ?_) | (refine iCv ?_; refine qCv ?_) | (refine iBi ?_; refine qBi ?_) | (refine iUn ?_; refine qUn ?_) | (refine iFl ?_; refine qFl ?_) | (refine iLu ?_; refine qLu ?_) | (refine iBu ?_; refine qBu ?_) | (refine iSl ?_; refine qSl ?_) | (refine iMf ?_; refine qMf ?_) | (refine iMi ?_; refine qMi ?_) | (refine iTa ?_; refine qTa ?_) | (refine iSt ?_; refine qSt ?_) | (refine iAl ?_; first | refine qAlA (fun _ => ?_) | refine qAlS (fun _ => ?_)) | (refine iBx ?_; first | refine qBxA (fun _ => ?_) | refine qBxS (fun _ => ?_)) | (refine iMm ?_; refine qMm (fun _ => ?_)) | (refine iBs ?_; refine qBs (fun _ => ?_)) | (refine i_gd ?_; first | refine qWant ?_ | refine qSkip ?_ | refine qSkip0 ?_ | refine qSkipU ?_)) | refine tl_nil ?_ | refine tc_seq ?_ | refine tc_region ?_ | refine te_seq ?_ | (refine i_cond ?_; first | refine qCt ?_ | refine qCf ?_) | refine tc_block ?_ | refine te_block_normal ?_ | refine te_block_ret ?_ | refine te_then_ret ?_ | refine te_block_hit ?_ | (refine i_miss ?_; refine qMiss ?_) | refine te_then_exit ?_ | refine tc_exit ?_ | refine tc_ret ?_ | refine tc_skip ?_)
          refine te_round_g (k' + 1, _, m3, es3, ck3, D', a3, c3) (⟨hlt', Hp.le_trans g2 (Hp.le_trans hle3 hle4), hok, hm3, hR3⟩) ev_le ev_le rfl tk inferInstance (by dsimp only; omega)
        · repeat' (first | (refine i_op ?_; first | (refine iMv ?_; refine qMv ?_) | (refine iLd ?_; refine qLd ?_) | (refine iFa ?_; refine qFa ?_) | (refine iAd ?_; refine qAd ?_) | (refine iSb ?_; refine qSb ?_) | (refine iMl ?_; refine qMl ?_) | (refine iRm ?_; refine qRm ?_) | (refine iQu ?_; refine qQu ?_) | (refine iSr ?_; refine qSr ?_) | (refine iSh ?_; refine qSh ?_) | (refine iCm ?_; refine qCm ?_) | (refine iEx ?_; refine qEx ?_) | (refine iAs ?_; refine qAs ?_) | (refine iPk ?_; refine qPk ?_) | (refine iNc ?_; refine qNc ?_) | (refine iIa ?_; refine qIa ?_) | (refine iCv ?_; refine qCv ?_) | (refine iBi ?_; refine qBi ?_) | (refine iUn ?_; refine qUn ?_) | (refine iFl ?_; refine qFl ?_) | (refine iLu ?_; refine qLu ?_) | (refine iBu ?_; refine qBu ?_) | (refine iSl ?_; refine qSl ?_) | (refine iMf ?_; refine qMf ?_) | (refine iMi ?_; refine qMi ?_) | (refine iTa ?_; refine qTa ?_) | (refine iSt ?_; refine qSt ?_) | (refine iAl ?_; first | refine qAlA (fun _ => ?_) | refine qAlS (fun _ => ?_)) | (refine iBx ?_; first | refine qBxA (fun _ => ?_) | refine qBxS (fun _ => ?_)) | (refine iMm ?_; refine qMm (fun _ => ?_)) | (refine iBs ?_; refine qBs (fun _ => ?_)) | (refine i_gd ?_; first | refine qWant ?_ | refine qSkip ?_ | refine qSkip0 ?_ | refine qSkipU ?_)) | refine tl_nil ?_ | refine tc_seq ?_ | refine tc_region ?_ | refine te_seq ?_ | (refine i_cond ?_; first | refine qCt ?_ | refine qCf ?_) | refine tc_block ?_ | refine te_block_normal ?_ | refine te_block_ret ?_ | refine te_then_ret ?_ | refine te_block_hit ?_ | (refine i_miss ?_; refine qMiss ?_) | refine te_then_exit ?_ | refine tc_exit ?_ | refine tc_ret ?_ | refine tc_skip ?_)
          refine te_round_g (k' + 1, ρ2, m2, es2, ck2, D2, a2, c2) (⟨hlt', g2, g3, g4, g5⟩) ev_le ev_le rfl tk inferInstance (by dsimp only; omega)
      · have hk2 : k' = n' := by omega
        subst hk2
        have hcr := fun ρ => crash_spec ρ b hb m1 es1 ck1 D h3 h4 none 0 0 [] (fun _ => false) (fun bk nth _ => crash1_over ρ bk nth none 0 0 [] (by omega))
        simp only [List.append_nil] at hcr
        have hcR := fun ρ1 (h : RefIn ρ1 a1 c1 D.secs) => crashR_spec ρ1 D a1 c1 h none 0 0 (by omega) (fun _ => false) ⟨(by intro h; cases h), fun _ _ _ => rfl, fun _ n hn => by omega⟩
        repeat' (first | (refine tl_is (.func 30) ?_; refine qC rfl rfl (says_spec _ bc hbc m2 es2 ck2 D2 g3 g4 a2 c2 g5) ?_; rintro v ρ' L' hle ⟨rfl, hle3, rfl⟩ <;> (try simp only [List.cons_append, List.nil_append, List.append_eq])) | (refine tl_is (.func 30) ?_; refine qC rfl rfl (says_spec _ b hb m1 es1 ck1 D h3 h4 a1 c1 (h5.mono (Hp.le_trans g2 hle3))) ?_; rintro v ρ' L' hle ⟨rfl, hle4, rfl⟩ <;> (try simp only [List.cons_append, List.nil_append, List.append_eq])) | (refine tl_is (.func 18) ?_; refine qC rfl rfl (hcr _) ?_; rintro v ρ' L' hle ⟨rfl, hle5, mb5, ck5, rfl⟩ <;> (try simp only [List.cons_append, List.nil_append, List.append_eq])) | (refine tl_is (.func 31) ?_; refine qC rfl rfl (hcR _ (h5.mono (Hp.le_trans g2 (Hp.le_trans hle3 (Hp.le_trans hle4 hle5))))) ?_; rintro v ρ' L' hle ⟨hle6, a6, c6, rfl, hR6, rfl⟩ <;> (try simp only [List.cons_append, List.nil_append, List.append_eq])) | (refine i_op ?_; first | (refine iMv ?_; refine qMv ?_) | (refine iLd ?_; refine qLd ?_) | (refine iFa ?_; refine qFa ?_) | (refine iAd ?_; refine qAd ?_) | (refine iSb ?_; refine qSb ?_) | (refine iMl ?_; refine qMl ?_) | (refine iRm ?_; refine qRm ?_) | (refine iQu ?_; refine qQu ?_) | (refine iSr ?_; refine qSr ?_) | (refine iSh ?_; refine qSh ?_) | (refine iCm ?_; refine qCm ?_) | (refine iEx ?_; refine qEx ?_) | (refine iAs ?_; refine qAs ?_) | (refine iPk ?_; refine qPk ?_) | (refine iNc ?_; refine qNc ?_) | (refine iIa ?_; refine qIa ?_) | (refine iCv ?_; refine qCv ?_) | (refine iBi ?_; refine qBi ?_) | (refine iUn ?_; refine qUn ?_) | (refine iFl ?_; refine qFl ?_) | (refine iLu ?_; refine qLu ?_) | (refine iBu ?_; refine qBu ?_) | (refine iSl ?_; refine qSl ?_) | (refine iMf ?_; refine qMf ?_) | (refine iMi ?_; refine qMi ?_) | (refine iTa ?_; refine qTa ?_) | (refine iSt ?_; refine qSt ?_) | (refine iAl ?_; first | refine qAlA (fun _ => ?_) | refine qAlS (fun _ => ?_)) | (refine iBx ?_; first | refine qBxA (fun _ => ?_) | refine qBxS (fun _ => ?_)) | (refine iMm ?_; refine qMm (fun _ => ?_)) | (refine iBs ?_; refine qBs (fun _ => ?_)) | (refine i_gd ?_; first | refine qWant ?_ | refine qSkip ?_ | refine qSkip0 ?_ | refine qSkipU ?_)) | refine tl_nil ?_ | refine tc_seq ?_ | refine tc_region ?_ | refine te_seq ?_ | (refine i_cond ?_; first | refine qCt ?_ | refine qCf ?_) | refine tc_block ?_ | refine te_block_normal ?_ | refine te_block_ret ?_ | refine te_then_ret ?_ | refine te_block_hit ?_ | (refine i_miss ?_; refine qMiss ?_) | refine te_then_exit ?_ | refine tc_exit ?_ | refine tc_ret ?_ | refine tc_skip ?_)
        have hS : SecsOk (settled (fun _ => false) D.secs) := h3.secs.settled
        have hemp : emptyC (settled (fun _ => false) D.secs) := emptyC_settled
        have hm5 : MapOk (settled (fun _ => false) D.secs) [] := MapOk.empty hemp
        simp only [DS.crash] at hR6 ⊢
        generalize settled (fun _ => false) D.secs = S at *
        have hSl := hS.len
        have hfin := Hp.le_trans h2 (Hp.le_trans g2 (Hp.le_trans hle3 (Hp.le_trans hle4 (Hp.le_trans hle5 hle6))))
        obtain ⟨sb, sp, T, rfl, hsb⟩ := hR6.out
        refine tc_loop_g [(6, _), (7, _), (110, _), (111, _)] (fun (y : (Nat) × (Int)) => [(112, .int .i64 y.1)]) (fun (y : (Nat) × (Int)) => ρ') (fun (y : (Nat) × (Int)) => diskL b hb mb5 [] ck5 ⟨S, y.2, -1, -1, false⟩) (fun (y : (Nat) × (Int)) => y.1 ≤ S.length) (fun (y : (Nat) × (Int)) => S.length - y.1) ((0, D.ops)) (Nat.zero_le _) ev_le ev_le rfl tk ?_
        rintro ⟨j, o⟩ hI
        try simp only [List.cons_append, List.nil_append, List.append_assoc, List.append_eq] at hI ⊢
        try dsimp only at hI ⊢
        by_cases hj : j < S.length
        · have hget := secC_get hS hj sp
          have hmem := List.getElem_mem hj
          have hheld := hS.held S[j] hmem
          have hcached := hS.cached S[j] hmem
          have e2 := secV_held hheld
          have hvl := secV_len hheld hcached
          have hvo := secV_one S[j]
          have hse : says1 S[j] = S[j].1 := by simp [says1, hemp S[j] hmem]
          have hln : 0 + j * 129 + 129 ≤ (secC S ++ sp).length := by rw [List.length_append, secC_length hS]; omega
          have hbl' : (S[j].1.map u8c).length = 64 := by simpa using hheld
          have hone := u8c_one S[j].1
          have hrd := fun ρ => read_at (ρ := ρ) (b := b) (hb := hb) (mb := mb5) (es := []) (ck := ck5) (DS.Calm.read_eq (D := ⟨S, o, -1, -1, false⟩) ⟨rfl, rfl, rfl⟩ hj) (DS.Ok.mk' hS) hm5
          rw [hse] at hrd
          generalize secV S[j] = V at *
          generalize S[j].1 = W at *
          repeat' (first | (refine tl_is (.func 13) ?_; refine qC rfl rfl (hrd _) ?_; rintro v ρ' L' hle ⟨rfl, rfl, rfl⟩ <;> (try simp only [List.cons_append, List.nil_append, List.append_eq, bv])) | (refine i_op ?_; first | (refine iMv ?_; refine qMv ?_) | (refine iLd ?_; refine qLd ?_) | (refine iFa ?_; refine qFa ?_) | (refine iAd ?_; refine qAd ?_) | (refine iSb ?_; refine qSb ?_) | (refine iMl ?_; refine qMl ?_) | (refine iRm ?_; refine qRm ?_) | (refine iQu ?_; refine qQu ?_) | (refine iSr ?_; refine qSr ?_) | (refine iSh ?_; refine qSh ?_) | (refine iCm ?_; refine qCm ?_) | (refine iEx ?_; refine qEx ?_) | (refine iAs ?_; refine qAs ?_) | (refine iPk ?_; refine qPk ?_) | (refine iNc ?_; refine qNc ?_) | (refine iIa ?_; refine qIa ?_) | (refine iCv ?_; refine qCv ?_) | (refine iBi ?_; refine qBi ?_) | (refine iUn ?_; refine qUn ?_) | (refine iFl ?_; refine qFl ?_) | (refine iLu ?_; refine qLu ?_) | (refine iBu ?_; refine qBu ?_) | (refine iSl ?_; refine qSl ?_) | (refine iMf ?_; refine qMf ?_) | (refine iMi ?_; refine qMi ?_) | (refine iTa ?_; refine qTa ?_) | (refine iSt ?_; refine qSt ?_) | (refine iAl ?_; first | refine qAlA (fun _ => ?_) | refine qAlS (fun _ => ?_)) | (refine iBx ?_; first | refine qBxA (fun _ => ?_) | refine qBxS (fun _ => ?_)) | (refine iMm ?_; refine qMm (fun _ => ?_)) | (refine iBs ?_; refine qBs (fun _ => ?_)) | (refine i_gd ?_; first | refine qWant ?_ | refine qSkip ?_ | refine qSkip0 ?_ | refine qSkipU ?_)) | refine tl_nil ?_ | refine tc_seq ?_ | refine tc_region ?_ | refine te_seq ?_ | (refine i_cond ?_; first | refine qCt ?_ | refine qCf ?_) | refine tc_block ?_ | refine te_block_normal ?_ | refine te_block_ret ?_ | refine te_then_ret ?_ | refine te_block_hit ?_ | (refine i_miss ?_; refine qMiss ?_) | refine te_then_exit ?_ | refine tc_exit ?_ | refine tc_ret ?_ | refine tc_skip ?_)
          refine te_round_g (j + 1, _) (hj) ev_le ev_le rfl tk inferInstance (by dsimp only; omega)
        · have hj2 : j = S.length := by omega
          subst hj2
          repeat' (first | (refine i_op ?_; first | (refine iMv ?_; refine qMv ?_) | (refine iLd ?_; refine qLd ?_) | (refine iFa ?_; refine qFa ?_) | (refine iAd ?_; refine qAd ?_) | (refine iSb ?_; refine qSb ?_) | (refine iMl ?_; refine qMl ?_) | (refine iRm ?_; refine qRm ?_) | (refine iQu ?_; refine qQu ?_) | (refine iSr ?_; refine qSr ?_) | (refine iSh ?_; refine qSh ?_) | (refine iCm ?_; refine qCm ?_) | (refine iEx ?_; refine qEx ?_) | (refine iAs ?_; refine qAs ?_) | (refine iPk ?_; refine qPk ?_) | (refine iNc ?_; refine qNc ?_) | (refine iIa ?_; refine qIa ?_) | (refine iCv ?_; refine qCv ?_) | (refine iBi ?_; refine qBi ?_) | (refine iUn ?_; refine qUn ?_) | (refine iFl ?_; refine qFl ?_) | (refine iLu ?_; refine qLu ?_) | (refine iBu ?_; refine qBu ?_) | (refine iSl ?_; refine qSl ?_) | (refine iMf ?_; refine qMf ?_) | (refine iMi ?_; refine qMi ?_) | (refine iTa ?_; refine qTa ?_) | (refine iSt ?_; refine qSt ?_) | (refine iAl ?_; first | refine qAlA (fun _ => ?_) | refine qAlS (fun _ => ?_)) | (refine iBx ?_; first | refine qBxA (fun _ => ?_) | refine qBxS (fun _ => ?_)) | (refine iMm ?_; refine qMm (fun _ => ?_)) | (refine iBs ?_; refine qBs (fun _ => ?_)) | (refine i_gd ?_; first | refine qWant ?_ | refine qSkip ?_ | refine qSkip0 ?_ | refine qSkipU ?_)) | refine tl_nil ?_ | refine tc_seq ?_ | refine tc_region ?_ | refine te_seq ?_ | (refine i_cond ?_; first | refine qCt ?_ | refine qCf ?_) | refine tc_block ?_ | refine te_block_normal ?_ | refine te_block_ret ?_ | refine te_then_ret ?_ | refine te_block_hit ?_ | (refine i_miss ?_; refine qMiss ?_) | refine te_then_exit ?_ | refine tc_exit ?_ | refine tc_ret ?_ | refine tc_skip ?_)
          exact qE ⟨rfl, hfin, rfl⟩
end Go.Proofs.E

namespace Go.Proofs.E
open Go Go.RowKit
set_option linter.unusedVariables false
set_option linter.unusedSimpArgs false
set_option linter.unusedSectionVars false
section
variable {H : Type} {enc : TypeId × Value → H} {w : World}
theorem opn_opB : Opn enc Try.prog w 25 (fun cs (o : OpV × List Bool) => cs = o.1.cells ∧ KeepIn (hpOf w) o.1.ka o.1.kn o.1.kp o.2 ∧ o.1.n ≤ 9223372036854775807) := fun fuel cs x h => by
  obtain ⟨hl, hf⟩ := opn_fields Try.underlying25 h
  have hl : cs.length = 5 := by rw [hl]; kernel_rfl
  obtain ⟨c0, c1, c2, c3, c4, rfl⟩ : ∃ c0 c1 c2 c3 c4, cs = [c0, c1, c2, c3, c4] := by
    match cs, hl with
    | [c0, c1, c2, c3, c4], _ => exact ⟨c0, c1, c2, c3, c4, rfl⟩
  obtain ⟨k, h0, _⟩ := opn_field h Try.underlying25 0 0 1 rfl rfl rfl (by kernel_rfl) (opn_int Try.underlying3)
  obtain ⟨a, h1, _⟩ := opn_field h Try.underlying25 1 1 1 rfl rfl rfl (by kernel_rfl) (opn_int Try.underlying3)
  obtain ⟨m, h2, _, m1⟩ := opn_field h Try.underlying25 2 2 1 rfl rfl rfl (by kernel_rfl) (opn_int Try.underlying3)
  obtain ⟨y, h3, y0, y1⟩ := opn_field h Try.underlying25 3 3 1 rfl rfl rfl (by kernel_rfl) (opn_int Try.underlying5)
  obtain ⟨⟨ka, kn, kp, ks⟩, h4⟩ := opn_field h Try.underlying25 4 4 1 rfl rfl rfl (by kernel_rfl) (opn_slice (sz := 1) Try.underlying23 (by kernel_rfl) (by decide) (opn_bool Try.underlying4))
  have hk := keepIn_of h4
  replace h4 := h4.cells
  simp only [List.drop_zero, List.drop_succ_cons, List.take_succ_cons, List.take_zero, List.cons.injEq, and_true] at h0 h1 h2 h3 h4
  subst h0; subst h1; subst h2; subst h3; subst h4
  simp only [lo, hi] at y0 y1 m1
  refine ⟨(⟨k, a, m, UInt8.ofNat y.toNat, ka, kn, kp⟩, ks), ?_, hk, m1⟩
  simp only [OpV.cells, u8c]
  have : ((UInt8.ofNat y.toNat).toNat : Int) = y := by simp [UInt8.toNat_ofNat]; omega
  rw [this]
theorem opn_opsB : Opn enc Try.prog w 22 (RS (hpOf w) 5 (fun cs (o : OpV × List Bool) => cs = o.1.cells ∧ KeepIn (hpOf w) o.1.ka o.1.kn o.1.kp o.2 ∧ o.1.n ≤ 9223372036854775807)) :=
  opn_slice Try.underlying22 (by kernel_rfl) (by decide) opn_opB
theorem opsInB_of {ρ : Hp} {cs : List Value} {s : Option Addr × Nat × Nat × List (OpV × List Bool)} (h : RS ρ 5 (fun cs (o : OpV × List Bool) => cs = o.1.cells ∧ KeepIn ρ o.1.ka o.1.kn o.1.kp o.2 ∧ o.1.n ≤ 9223372036854775807) cs s) (hb : s.2.1 ≤ 9223372036854775806) : OpsIn ρ s.1 s.2.1 s.2.2.2 ∧ OpsB s.2.2.2 := by
  obtain ⟨a, n, c, ks⟩ := s
  obtain ⟨h1, h2, h3, h4, h5⟩ := h
  dsimp only at h1 h2 h3 h4 h5 hb ⊢
  refine ⟨⟨h4, hb, fun i hi => ?_⟩, ⟨fun i hi => ?_⟩⟩
  · obtain ⟨b, off, C, T, fr, e1, e2, e3, e4, e5, _⟩ := h5 i hi
    exact ⟨b, off, C, T, fr, e1, e2, e3, e4, e5⟩
  · obtain ⟨b, off, C, T, fr, e1, e2, e3, e4, e5, e6⟩ := h5 i hi
    exact e6
end
end Go.Proofs.E

namespace Go.Proofs.Ythbgnmilbgecfaa.DiskForksLaw
open Go Go.ChangeShapes Go.WideShapes Go.ChangeAt Go.RowKit Go.Proofs.E
set_option linter.unusedVariables false

theorem own : ownKnob Try.prog.godebug = none := by kernel_rfl
theorem laidOut : laidOutB Try.prog = true := by kernel_rfl

set_option maxRecDepth 100000 in
theorem lifted (os : Os) (started : os.Started) (H : Type) (enc : TypeId × Value → H) :
    ReturnsInHanded {} Try.checked os 6 .any (Rows.diskForksSpec.pre6 enc Try.prog Try.f6 Rows.diskForksRow.domain false) (Rows.diskForksSpec.post enc Try.prog Try.f6 false true false false) := by
  refine returnsInHanded_of_change_sized (C := Try.checked) own started (by kernel_rfl) Try.func6
    (ChangeSpec.witness6 (enc := enc) (C := Try.checked) false ⟨#[], #[.int .i64 0, .slice none 0 0, .slice none 0 0], []⟩ 8 (by kernel_rfl) (by kernel_rfl) (by kernel_rfl) (by kernel_rfl)) ?_
  intro W base args ds gs before hval0 hW hcnd hsz0 _
  have hval : ∀ (j : Nat) t v, Try.f6.params[j]? = some t → args[j]? = some v → Value.okWide Try.prog W .any base t v := hval0
  have hW' := hW
  obtain ⟨p, q, hA0, hV, rfl, hfz, hnd⟩ := hW
  have hA : DataW.TrodAll enc Try.prog W 0 (fun _ => true) true Try.f6.params.toList args.toList ds p := hA0
  have hsz : (DataW.weightsEach Try.prog (Try.f6.params.toList ++ Rows.diskForksSpec.plain.varTypes Try.prog) (ds ++ gs)).all (· ≤ reachBytes) = true := hsz0
  rw [Try.params6] at hA hval hsz
  obtain ⟨v0, vs0, d0, ds0, p0, q0, hargs, rfl, rfl, h0, r0⟩ := trodAll_cons hA
  obtain ⟨v1, vs1, d1, ds1, p1, q1, rfl, rfl, rfl, h1, r1⟩ := trodAll_cons r0
  obtain ⟨v2, vs2, d2, ds2, p2, q2, rfl, rfl, rfl, h2, r2⟩ := trodAll_cons r1
  obtain ⟨rfl, rfl, rfl⟩ := trodAll_nil r2
  obtain rfl : args = #[v0, v1, v2] := by cases args; simp_all
  obtain ⟨rfl, rfl⟩ := trodVars_none hV
  have k0 := h0
  have k1 := h1
  have k2 := h2
  have lt0 : ∀ x ∈ p0, x.block < W.heap.size := by obtain ⟨m, hm⟩ := k0; exact DataW.trod_lt m _ _ _ hm
  have lt1 : ∀ x ∈ p1, x.block < W.heap.size := by obtain ⟨m, hm⟩ := k1; exact DataW.trod_lt m _ _ _ hm
  have lt2 : ∀ x ∈ p2, x.block < W.heap.size := by obtain ⟨m, hm⟩ := k2; exact DataW.trod_lt m _ _ _ hm
  obtain ⟨a0, rfl, _, _, w0⟩ := open_int Try.underlying3 (hval 0 3 v0 rfl rfl) h0
  replace w0 := wf_bounds w0
  obtain ⟨a1, n1, c1, rfl⟩ := okWide_slice Try.underlying22 (hval 1 22 v1 rfl rfl)
  have b1 := top_slice hsz (j := 1) rfl rfl Try.underlying22 k1 rfl
  have bb1 : Try.prog.bytesOf 25 = 56 := by kernel_rfl
  rw [bb1] at b1
  simp only [reachBytes] at b1
  obtain ⟨s1, e1⟩ := opn_opsB _ _ _ h1.choose_spec
  obtain ⟨⟨y1, m1, z1, x1⟩, ec1⟩ : ∃ s, s = s1 := ⟨s1, rfl⟩
  subst ec1
  have ec1 := e1.cells
  simp only [Value.cells, List.cons.injEq, Value.slice.injEq, and_true] at ec1
  obtain ⟨rfl, rfl, rfl⟩ := ec1
  obtain ⟨a2, n2, c2, rfl⟩ := okWide_slice Try.underlying22 (hval 2 22 v2 rfl rfl)
  have b2 := top_slice hsz (j := 2) rfl rfl Try.underlying22 k2 rfl
  have bb2 : Try.prog.bytesOf 25 = 56 := by kernel_rfl
  rw [bb2] at b2
  simp only [reachBytes] at b2
  obtain ⟨s2, e2⟩ := opn_opsB _ _ _ h2.choose_spec
  obtain ⟨⟨y2, m2, z2, x2⟩, ec2⟩ : ∃ s, s = s2 := ⟨s2, rfl⟩
  subst ec2
  have ec2 := e2.cells
  simp only [Value.cells, List.cons.injEq, Value.slice.injEq, and_true] at ec2
  obtain ⟨rfl, rfl, rfl⟩ := ec2
  clear hA0 hval0
  obtain ⟨hO, hB⟩ := opsInB_of e1 (by dsimp only; omega)
  obtain ⟨hO', hB'⟩ := opsInB_of e2 (by dsimp only; omega)
  refine (Spec.law (forks_spec (hpOf W) a0 a1 n1 c1 x1 hO hB a2 n2 c2 x2 hO' hB')).mono fun e W' ⟨he, bel⟩ => ?_
  subst he
  exact ⟨_, rfl, _, _, _, [], _, [], hW', trodAll_mk1 (shut_bool Try.underlying4 _), (trodAll_cons_mk (Below.trod laidOut (by kernel_rfl) (of_decide_eq_true (by kernel_rfl)) k0 bel lt0) (trodAll_cons_mk (Below.trod laidOut (by kernel_rfl) (of_decide_eq_true (by kernel_rfl)) k1 bel lt1) (trodAll_cons_mk (Below.trod laidOut (by kernel_rfl) (of_decide_eq_true (by kernel_rfl)) k2 bel lt2) trodAll_mk0))), rfl, bel.frame _, fun h => by cases h⟩

theorem over : Rows.diskForksRow.holds Try.pinned (OpenSpec.ofChange Rows.diskForksSpec) :=
  OpenClaim.holds_of_wide 6 Try.f6 rfl rfl rfl rfl rfl rfl rfl ⟨rfl, rfl, rfl, rfl, rfl⟩ rfl rfl rfl rfl rfl (by kernel_rfl) Try.func6 (by kernel_rfl)
    (of_decide_eq_true (by kernel_rfl)) (by unfold Func.isWrapper; first | (rw [if_pos (by decide +kernel)]; kernel_rfl) | (rw [if_neg (by decide +kernel)]; exact ⟨rfl, rfl⟩))
    (fun os started H enc _ => lifted os started H enc)

theorem proved : Rows.DiskForksSaid := over
end Go.Proofs.Ythbgnmilbgecfaa.DiskForksLaw

