/- The law RecordLays. Part 13 of 21. -/
import Derived.Test.YtjajdpfdhokkhaaGreatQ12
namespace Go.Proofs.E
open Go
set_option linter.unusedVariables false
set_option linter.unusedSimpArgs false
set_option linter.unusedSectionVars false
set_option maxRecDepth 4000
set_option maxHeartbeats 1000000
attribute [local irreducible] Yl TL TC TE Spec YSpec R1 Hp.le EnvLe TS TR YS Stays
-- BN
theorem wckpt_spec (ρ : Hp) (wb : Nat) (v : RV) (r : Rc) (w : Value) (l : List UInt8) (sp : List Value) (hown : OwnB w l sp) (hn : l.length ≤ 70000) (h : RcIn ρ v r) (hL : LayOk r) :
    Spec Tryz.prog 200 [.pointer (some ⟨wb, 0, none⟩)] ρ [bytC w l sp, wrC wb v r w] (WrP ρ wb v r (l ++ (be 4 r.nextTxn.toNat ++ (listB ckTB r.txns ++ listB ckPB r.dirty)))) := by
  have hρ := Hp.le_refl ρ
  have hA := h.t.at'
  have hl := hA.len
  have hA2 := h.d.at'
  have hl2 := hA2.len
  have hil := hL.tl
  have hil2 := hL.dl
  refine spec_enter Tryz.func200 rfl rfl rfl fun u R => ?_
  simp only [argsE, List.cons_append, List.nil_append]
  repeat' (first | (refine tl_buildSlice_s rfl rfl rfl rfl (by simp) rfl rfl (fun bs => ?_); refine tl_freeze _ (h := Rem.here) (fun ρz hlz hfz => ?_); have hbs := hfz _ (List.mem_singleton.2 rfl); clear hfz; have hρ := Hp.le_trans hρ hlz; clear hlz; (try simp only [List.nil_append])) | (refine tl_is (.func 195) ?_; refine qC rfl rfl (wtxn_spec _ wb v r w l sp hown (by omega) r.nextTxn hL.nextTxn) ?_; rintro v ρ' L' hle ⟨rfl, hl1, w0, sp0, hown, rfl⟩ <;> (try simp only [kM, kN, kO]); have hρ := Hp.le_trans hρ hl1; clear hl1) | (refine tl_is (.func 193) ?_; refine qC rfl rfl (wbyte_spec _ wb v r w0 _ sp0 hown (by (try simp only [List.length_append, List.length_cons, List.length_nil, List.length_map, be_length]) <;> omega) _ (v.t.n : Int) hbs (by omega)) ?_; rintro v ρ' L' hle ⟨rfl, hl1, w1, sp1, hown, rfl⟩ <;> (try simp only [kM, kN, kO]); have hρ := Hp.le_trans hρ hl1; clear hl1) | (refine iBu ?_; refine tl_y (y_buildN rfl) rfl rfl ?_) | (refine i_op ?_; first | (refine i_qq ?_; refine qQ ?_) | refine qEf ?_) | refine tl_nil ?_ | (refine i_tc ?_; refine qTc ?_) | (refine i_te ?_; refine qTe ?_) | intro _)
  obtain ⟨B, hB⟩ : ∃ B, l ++ be 4 r.nextTxn.toNat ++ [tB (v.t.n : Int)] = B := ⟨_, rfl⟩
  rw [hB] at hown ⊢
  have hBl : B.length ≤ 80001 := by rw [← hB]; simp [be_length]; omega
  have hfin : B ++ r.txns.flatMap ckTB = l ++ (be 4 r.nextTxn.toNat ++ listB ckTB r.txns) := by rw [← hB]; simp [listB, hl, tB]
  rw [show bytC w1 B sp1 = bytC w1 (B ++ (r.txns.take 0).flatMap ckTB) sp1 by simp]
  refine tc_loop_g [(0, _), (26, _), (27, _)] (fun (ζ : (Nat) × (Hp) × (Value) × (List Value)) => [(28, .int .i64 ζ.1)]) (fun (ζ : (Nat) × (Hp) × (Value) × (List Value)) => ζ.2.1) (fun (ζ : (Nat) × (Hp) × (Value) × (List Value)) => [bytC ζ.2.2.1 (B ++ (r.txns.take ζ.1).flatMap ckTB) ζ.2.2.2, wrC wb v r ζ.2.2.1]) (fun (ζ : (Nat) × (Hp) × (Value) × (List Value)) => ζ.1 ≤ v.t.n ∧ ρ.le ζ.2.1 ∧ OwnB ζ.2.2.1 (B ++ (r.txns.take ζ.1).flatMap ckTB) ζ.2.2.2) (fun (ζ : (Nat) × (Hp) × (Value) × (List Value)) => v.t.n - ζ.1) ((0, ρ', w1, sp1)) (⟨Nat.zero_le _, hρ, by simpa using hown⟩) ev_le ev_le rfl tk ?_
  rintro ⟨k, ρ1, w2, sp2⟩ hI
  try simp only [List.cons_append, List.nil_append, List.append_assoc, List.append_eq] at hI ⊢
  try dsimp only at hI ⊢
  obtain ⟨hk, hle1, hown⟩ := hI
  clear hρ
  by_cases hlt : k < v.t.n
  · obtain ⟨b, off, C, T, fr, e1, hbb, hfit, hcc⟩ := (hA.mono hle1).get (show k < r.txns.length by omega)
    have hts := flatMap_app ckTB r.txns k (by omega)
    have hmem := List.getElem_mem (show k < r.txns.length by omega)
    obtain ⟨g1, g2, g3, g4, g5⟩ := hL.tx _ hmem
    have hfl := flatMap_le ckTB 29 (r.txns.take k) (fun x _ => Nat.le_of_eq (ckTB_len x))
    have htl : (r.txns.take k).length ≤ 8 := by simp; omega
    generalize r.txns[k]'(by omega) = x at *
    have hxl : (B ++ (r.txns.take k).flatMap ckTB).length ≤ 83000 := by simp only [List.length_append]; omega
    have hmm : B ++ (r.txns.take k).flatMap ckTB ++ ckTB x = B ++ (r.txns.take (k + 1)).flatMap ckTB := by rw [hts]; simp
    generalize hX : B ++ (r.txns.take k).flatMap ckTB = X at *
    have hρ := Hp.le_refl ρ1
    rw [e1]
    repeat' (first | (refine tl_buildSlice_s rfl rfl rfl rfl (by simp) rfl rfl (fun bs => ?_); refine tl_freeze _ (h := Rem.here) (fun ρz hlz hfz => ?_); have hbs := hfz _ (List.mem_singleton.2 rfl); clear hfz; have hρ := Hp.le_trans hρ hlz; clear hlz; (try simp only [List.nil_append])) | (refine tl_is (.func 195) ?_; refine qC rfl rfl (wtxn_spec _ wb v r w2 X sp2 hown (by omega) x.txn g1) ?_; rintro v ρ' L' hle ⟨rfl, hl1, w3, sp3, hown, rfl⟩ <;> (try simp only [kM, kN, kO]); have hρ := Hp.le_trans hρ hl1; clear hl1) | (refine tl_is (.func 194) ?_; refine qC rfl rfl (wlong3_spec _ wb v r w3 _ sp3 hown (by (try simp only [List.length_append, List.length_cons, List.length_nil, List.length_map, be_length]) <;> omega) _ x.first x.last x.undo hbs g2 g3 g4) ?_; rintro v ρ' L' hle ⟨rfl, hl1, w4, sp4, hown, rfl⟩ <;> (try simp only [kM, kN, kO]); have hρ := Hp.le_trans hρ hl1; clear hl1) | (refine tl_is (.func 193) ?_; refine qC rfl rfl (wbyte_spec _ wb v r w4 _ sp4 hown (by (try simp only [List.length_append, List.length_cons, List.length_nil, List.length_map, be_length]) <;> omega) _ x.state hbs g5) ?_; rintro v ρ' L' hle ⟨rfl, hl1, w5, sp5, hown, rfl⟩ <;> (try simp only [kM, kN, kO]); have hρ := Hp.le_trans hρ hl1; clear hl1) | (refine iBu ?_; refine tl_y (y_buildN rfl) rfl rfl ?_) | (refine i_op ?_; first | (refine i_qq ?_; refine qQ ?_) | refine qEf ?_) | refine tl_nil ?_ | (refine i_tc ?_; refine qTc ?_) | (refine i_te ?_; refine qTe ?_) | intro _)
    rw [← e1]
    have e2 : X ++ be 4 x.txn.toNat ++ (be 8 x.first ++ (be 8 x.last ++ be 8 x.undo)) ++ [tB x.state] = B ++ (r.txns.take (k + 1)).flatMap ckTB := by rw [← hmm]; simp [ckTB]
    rw [e2] at hown ⊢
    refine te_round_g (k + 1, _, w5, sp5) (⟨hlt, Hp.le_trans hle1 hρ, hown⟩) ev_le ev_le rfl tk inferInstance (by first | omega | (dsimp only; omega))
  · rw [show r.txns.take k = r.txns by rw [show k = r.txns.length by omega, List.take_length], hfin] at hown ⊢
    have hρ := hle1
    obtain ⟨B2, hB2⟩ : ∃ B2, l ++ (be 4 r.nextTxn.toNat ++ listB ckTB r.txns) = B2 := ⟨_, rfl⟩
    have hlT : (listB ckTB r.txns).length ≤ 300 := by
      have := flatMap_le ckTB 29 r.txns (fun x _ => Nat.le_of_eq (ckTB_len x))
      unfold listB; rw [List.length_cons]; omega
    have hB2l : B2.length ≤ 71000 := by rw [← hB2]; simp [be_length]; omega
    rw [hB2] at hown ⊢
    repeat' (first | (refine tl_buildSlice_s rfl rfl rfl rfl (by simp) rfl rfl (fun bs => ?_); refine tl_freeze _ (h := Rem.here) (fun ρz hlz hfz => ?_); have hbs := hfz _ (List.mem_singleton.2 rfl); clear hfz; have hρ := Hp.le_trans hρ hlz; clear hlz; (try simp only [List.nil_append])) | (refine tl_is (.func 193) ?_; refine qC rfl rfl (wbyte_spec _ wb v r w2 B2 sp2 hown (by omega) _ (v.d.n : Int) hbs (by omega)) ?_; rintro v ρ' L' hle ⟨rfl, hl1, w1, sp1, hown, rfl⟩ <;> (try simp only [kM, kN, kO]); have hρ := Hp.le_trans hρ hl1; clear hl1) | (refine iBu ?_; refine tl_y (y_buildN rfl) rfl rfl ?_) | (refine i_op ?_; first | (refine i_qq ?_; refine qQ ?_) | refine qEf ?_) | refine tl_nil ?_ | (refine i_tc ?_; refine qTc ?_) | (refine i_te ?_; refine qTe ?_) | intro _)
    obtain ⟨B3, hB3⟩ : ∃ B3, B2 ++ [tB (v.d.n : Int)] = B3 := ⟨_, rfl⟩
    rw [hB3] at hown ⊢
    have hBl3 : B3.length ≤ 80001 := by rw [← hB3]; simp; omega
    have hfin3 : B3 ++ r.dirty.flatMap ckPB = l ++ (be 4 r.nextTxn.toNat ++ (listB ckTB r.txns ++ listB ckPB r.dirty)) := by rw [← hB3, ← hB2]; simp [listB, hl2, tB]
    rw [show bytC w1 B3 sp1 = bytC w1 (B3 ++ (r.dirty.take 0).flatMap ckPB) sp1 by simp]
    refine tc_loop_g [(0, _), (64, _), (65, _)] (fun (ζ : (Nat) × (Hp) × (Value) × (List Value)) => [(66, .int .i64 ζ.1)]) (fun (ζ : (Nat) × (Hp) × (Value) × (List Value)) => ζ.2.1) (fun (ζ : (Nat) × (Hp) × (Value) × (List Value)) => [bytC ζ.2.2.1 (B3 ++ (r.dirty.take ζ.1).flatMap ckPB) ζ.2.2.2, wrC wb v r ζ.2.2.1]) (fun (ζ : (Nat) × (Hp) × (Value) × (List Value)) => ζ.1 ≤ v.d.n ∧ ρ.le ζ.2.1 ∧ OwnB ζ.2.2.1 (B3 ++ (r.dirty.take ζ.1).flatMap ckPB) ζ.2.2.2) (fun (ζ : (Nat) × (Hp) × (Value) × (List Value)) => v.d.n - ζ.1) ((0, ρ', w1, sp1)) (⟨Nat.zero_le _, hρ, by simpa using hown⟩) ev_le ev_le rfl tk ?_
    rintro ⟨j, ρ2, w3, sp3⟩ hI
    try simp only [List.cons_append, List.nil_append, List.append_assoc, List.append_eq] at hI ⊢
    try dsimp only at hI ⊢
    obtain ⟨hj, hle2, hown⟩ := hI
    clear hρ
    by_cases hlj : j < v.d.n
    · obtain ⟨b, off, C, T, fr, e1, hbb, hfit, hcc⟩ := (hA2.mono hle2).get (show j < r.dirty.length by omega)
      have hts := flatMap_app ckPB r.dirty j (by omega)
      have hmem := List.getElem_mem (show j < r.dirty.length by omega)
      obtain ⟨g1, g2⟩ := hL.di _ hmem
      have hfl := flatMap_le ckPB 9 (r.dirty.take j) (fun x _ => Nat.le_of_eq (ckPB_len x))
      have htl : (r.dirty.take j).length ≤ 64 := by simp; omega
      generalize r.dirty[j]'(by omega) = x at *
      have hxl : (B3 ++ (r.dirty.take j).flatMap ckPB).length ≤ 83000 := by simp only [List.length_append]; omega
      have hmm : B3 ++ (r.dirty.take j).flatMap ckPB ++ ckPB x = B3 ++ (r.dirty.take (j + 1)).flatMap ckPB := by rw [hts]; simp
      generalize hX : B3 ++ (r.dirty.take j).flatMap ckPB = X at *
      have hρ := Hp.le_refl ρ2
      rw [e1]
      repeat' (first | (refine tl_buildSlice_s rfl rfl rfl rfl (by simp) rfl rfl (fun bs => ?_); refine tl_freeze _ (h := Rem.here) (fun ρz hlz hfz => ?_); have hbs := hfz _ (List.mem_singleton.2 rfl); clear hfz; have hρ := Hp.le_trans hρ hlz; clear hlz; (try simp only [List.nil_append])) | (refine tl_is (.func 193) ?_; refine qC rfl rfl (wbyte_spec _ wb v r w3 X sp3 hown (by omega) _ x.page hbs (by omega)) ?_; rintro v ρ' L' hle ⟨rfl, hl1, w4, sp4, hown, rfl⟩ <;> (try simp only [kM, kN, kO]); have hρ := Hp.le_trans hρ hl1; clear hl1) | (refine tl_is (.func 194) ?_; refine qC rfl rfl (wlong_spec _ wb v r w4 _ sp4 hown (by (try simp only [List.length_append, List.length_cons, List.length_nil, List.length_map, be_length]) <;> omega) _ x.since hbs g2) ?_; rintro v ρ' L' hle ⟨rfl, hl1, w5, sp5, hown, rfl⟩ <;> (try simp only [kM, kN, kO]); have hρ := Hp.le_trans hρ hl1; clear hl1) | (refine iBu ?_; refine tl_y (y_buildN rfl) rfl rfl ?_) | (refine i_op ?_; first | (refine i_qq ?_; refine qQ ?_) | refine qEf ?_) | refine tl_nil ?_ | (refine i_tc ?_; refine qTc ?_) | (refine i_te ?_; refine qTe ?_) | intro _)
      rw [← e1]
      have e2 : X ++ [tB x.page] ++ be 8 x.since = B3 ++ (r.dirty.take (j + 1)).flatMap ckPB := by rw [← hmm]; simp [ckPB]
      rw [e2] at hown ⊢
      refine te_round_g (j + 1, _, w5, sp5) (⟨hlj, Hp.le_trans hle2 hρ, hown⟩) ev_le ev_le rfl tk inferInstance (by first | omega | (dsimp only; omega))
    · rw [show r.dirty.take j = r.dirty by rw [show j = r.dirty.length by omega, List.take_length], hfin3] at hown ⊢
      repeat' (first | (refine iBu ?_; refine tl_y (y_buildN rfl) rfl rfl ?_) | (refine i_op ?_; first | (refine i_qq ?_; refine qQ ?_) | refine qEf ?_) | refine tl_nil ?_ | (refine i_tc ?_; refine qTc ?_) | (refine i_te ?_; refine qTe ?_) | intro _)
      exact qE ⟨rfl, hle2, w3, sp3, hown, rfl⟩
end Go.Proofs.E

namespace Go.Proofs.E
open Go
set_option linter.unusedVariables false
set_option linter.unusedSimpArgs false
set_option linter.unusedSectionVars false
set_option maxRecDepth 4000
set_option maxHeartbeats 1000000
attribute [local irreducible] Yl TL TC TE Spec YSpec R1 Hp.le EnvLe TS TR YS Stays
-- BN
def layF (k : Int) : Nat := if k = 2 then 196 else if k = 3 then 197 else if k = 4 then 198 else if k = 5 then 199 else 200
theorem lay_spec (wb : Nat) (v : RV) (r : Rc) (hL : LayOk r) (hk : r.kind = 2 ∨ r.kind = 3 ∨ r.kind = 4 ∨ r.kind = 5 ∨ r.kind = 9) : Fun Tryz.prog (layF r.kind) ∧ ∀ (ρ : Hp) (w : Value) (l : List UInt8) (sp : List Value), OwnB w l sp → l.length ≤ 60000 → RcIn ρ v r →
    Spec Tryz.prog (layF r.kind) [.pointer (some ⟨wb, 0, none⟩)] ρ [bytC w l sp, wrC wb v r w] (WrP ρ wb v r (l ++ recTB r)) := by
  unfold layF recTB
  rcases hk with e | e | e | e | e
  · rw [if_pos e, if_pos e]
    exact ⟨inferInstance, fun ρ w l sp hown hn h => wimages_spec ρ wb v r w l sp hown (by omega) h hL⟩
  · rw [if_neg (by omega), if_pos e, if_neg (by omega), if_pos e]
    exact ⟨inferInstance, fun ρ w l sp hown hn h => wnested_spec ρ wb v r w l sp hown (by omega) hL.next⟩
  · rw [if_neg (by omega), if_neg (by omega), if_pos e, if_neg (by omega), if_neg (by omega), if_pos e]
    exact ⟨inferInstance, fun ρ w l sp hown hn h => wdone_spec ρ wb v r w l sp hown (by omega) h hL⟩
  · rw [if_neg (by omega), if_neg (by omega), if_neg (by omega), if_pos e, if_neg (by omega), if_neg (by omega), if_neg (by omega), if_pos e]
    exact ⟨inferInstance, fun ρ w l sp hown hn h => wundone_spec ρ wb v r w l sp hown (by omega) h hL⟩
  · rw [if_neg (by omega), if_neg (by omega), if_neg (by omega), if_neg (by omega), if_neg (by omega), if_neg (by omega), if_neg (by omega), if_neg (by omega), if_pos e]
    exact ⟨inferInstance, fun ρ w l sp hown hn h => wckpt_spec ρ wb v r w l sp hown (by omega) h hL⟩
theorem layF_chain {f : Nat → Option Value} {k : Int} (hk : k = 2 ∨ k = 3 ∨ k = 4 ∨ k = 5 ∨ k = 9) : (if k = 9 then f 200 else if k = 5 then f 199 else if k = 4 then f 198 else if k = 3 then f 197 else if k = 2 then f 196 else none) = f (layF k) := by
  unfold layF
  rcases hk with e | e | e | e | e <;> subst e <;> rfl
theorem recTB_none {r : Rc} (hk : ¬ (r.kind = 2 ∨ r.kind = 3 ∨ r.kind = 4 ∨ r.kind = 5 ∨ r.kind = 9)) : recTB r = [] := by
  unfold recTB
  rw [if_neg (by omega), if_neg (by omega), if_neg (by omega), if_neg (by omega), if_neg (by omega)]
theorem rlaid_spec (ρ : Hp) (v : RV) (r : Rc) (h : RcIn ρ v r) (hL : LayOk r) : Spec Tryz.prog 112 [.agg ⟨recV v r⟩] ρ []
    (fun z ρ' L' => ρ.le ρ' ∧ ∃ a c, z = .slice a (recB r).length c ∧ (recB r).length ≤ c ∧ SIn ρ' u8c a (recB r).length (recB r) ∧ L' = []) := by
  have hρ := Hp.le_refl ρ
  have hnil : IntKeys .i64 [] := by intro e he; simp at he
  have hg0 : ∀ k : Int, mget [] k = none := fun _ => rfl
  have k1 := hL.kind
  have k2 := hL.lsn
  have k3 := hL.txn
  have k4 := hL.prev
  refine spec_enter Tryz.func112 rfl rfl rfl fun u R => ?_
  simp only [argsE, List.cons_append, List.nil_append]
  repeat' (first | (refine tl_buildSlice_s rfl rfl rfl rfl (by simp) rfl rfl (fun bs => ?_); refine tl_freeze _ (h := Rem.here) (fun ρz hlz hfz => ?_); have hbs := hfz _ (List.mem_singleton.2 rfl); clear hfz; have hρ := Hp.le_trans hρ hlz; clear hlz; (try simp only [List.nil_append])) | (rename_i rb wb; refine tl_is (.func 193) ?_; refine tl_call rfl rfl (wbyte_spec _ _ v r (.slice none 0 0) [] [] (OwnS.nil 1) (by decide) _ r.kind hbs k1) (take_cons' rem_nil' (take_cons' rem_here' take_nil')) rfl ?_; rintro z1 ρ1 L1 hle0 ⟨rfl, hl1, w1, sp1, hown, rfl⟩; simp only [List.cons_append, List.nil_append] at hown ⊢; have hρ := Hp.le_trans hρ hl1; clear hl1) | (refine tl_is (.func 194) ?_; refine qC rfl rfl ((wlong_spec _ _ v r w1 _ sp1 hown (by (try simp only [List.length_append, List.length_cons, List.length_nil, List.length_map, be_length]) <;> omega) _ r.lsn hbs k2)) ?_; rintro v ρ' L' hle ⟨rfl, hl1, w2, sp2, hown, rfl⟩ <;> (try simp only [kM, kN, kO]); have hρ := Hp.le_trans hρ hl1; clear hl1) | (refine tl_is (.func 195) ?_; refine qC rfl rfl ((wtxn_spec _ _ v r w2 _ sp2 hown (by (try simp only [List.length_append, List.length_cons, List.length_nil, List.length_map, be_length]) <;> omega) r.txn k3)) ?_; rintro v ρ' L' hle ⟨rfl, hl1, w3, sp3, hown, rfl⟩ <;> (try simp only [kM, kN, kO]); have hρ := Hp.le_trans hρ hl1; clear hl1) | (refine tl_is (.func 194) ?_; refine qC rfl rfl ((wlong_spec _ _ v r w3 _ sp3 hown (by (try simp only [List.length_append, List.length_cons, List.length_nil, List.length_map, be_length]) <;> omega) _ r.prev hbs k4)) ?_; rintro v ρ' L' hle ⟨rfl, hl1, w4, sp4, hown, rfl⟩ <;> (try simp only [kM, kN, kO]); have hρ := Hp.le_trans hρ hl1; clear hl1) | (refine tl_insert rfl rfl rfl hnil (fun es1 ck1 i1 j1 => ?_)) | (refine tl_insert rfl rfl rfl i1 (fun es2 ck2 i2 j2 => ?_)) | (refine tl_insert rfl rfl rfl i2 (fun es3 ck3 i3 j3 => ?_)) | (refine tl_insert rfl rfl rfl i3 (fun es4 ck4 i4 j4 => ?_)) | (refine iBu ?_; refine tl_y (y_buildN rfl) rfl rfl ?_) | (refine i_op ?_; first | (refine i_qq ?_; refine qQ ?_) | refine qEf ?_) | refine tl_nil ?_ | (refine i_tc ?_; refine qTc ?_) | (refine i_te ?_; refine qTe ?_) | intro _)
  rename_i mb
  refine tl_insert rfl rfl rfl i4 (fun es5 ck5 i5 j5 => ?_)
  have hg := j5 r.kind
  rw [j4, j3, j2, j1, hg0] at hg
  clear j1 j2 j3 j4 j5 i1 i2 i3 i4
  have hH : tB r.kind :: (be 8 r.lsn ++ be 4 r.txn.toNat ++ be 8 r.prev) = recHB r := by simp [recHB]
  have hHl : (recHB r).length ≤ 100 := by simp [recHB, be_length]
  simp only [List.cons_append, List.nil_append, hH] at hown ⊢
  by_cases hk : r.kind = 2 ∨ r.kind = 3 ∨ r.kind = 4 ∨ r.kind = 5 ∨ r.kind = 9
  · obtain ⟨hF, hS⟩ := lay_spec wb v r hL hk
    have hS := fun ρ (hle : Hp.le _ ρ) => hS ρ w4 _ sp4 hown (by omega) (h.mono hle)
    have hgF : mget es5 r.kind = some (Value.func (.func (layF r.kind)) ⟨[.pointer (some ⟨wb, 0, none⟩)]⟩ ⟨[]⟩) := by
      rw [hg]
      exact layF_chain (f := fun F => some (Value.func (.func F) ⟨[.pointer (some ⟨wb, 0, none⟩)]⟩ ⟨[]⟩)) hk
    clear hg
    generalize layF r.kind = F at *
    repeat' (first | (refine tl_is (.tmp 46) ?_; refine qC rfl rfl (hS _ hρ) ?_; rintro v ρ' L' hle ⟨rfl, hl1, w5, sp5, hown, rfl⟩ <;> (try simp only [kM, kN, kO]); have hρ := Hp.le_trans hρ hl1; clear hl1) | (refine iBu ?_; refine tl_y (y_buildN rfl) rfl rfl ?_) | (refine i_op ?_; first | (refine i_qq ?_; refine qQ ?_) | refine qEf ?_) | refine tl_nil ?_ | (refine i_tc ?_; refine qTc ?_) | (refine i_te ?_; refine qTe ?_) | intro _)
    have hB : recHB r ++ recTB r = recB r := rfl
    rw [hB] at hown ⊢
    obtain ⟨va, vc, rfl, _⟩ := hown.slice
    repeat' (first | (refine iBu ?_; refine tl_y (y_buildN rfl) rfl rfl ?_) | (refine i_op ?_; first | (refine i_qq ?_; refine qQ ?_) | refine qEf ?_) | refine tl_nil ?_ | (refine i_tc ?_; refine qTc ?_) | (refine i_te ?_; refine qTe ?_) | intro _)
    refine te_freeze (bytC (.slice va (recB r).length vc) (recB r) sp5) (h := by repeat (first | exact rem_here' | apply rem_there')) (fun ρ6 hle6 hfz => ?_)
    obtain ⟨a6, c6, e6, hc6, hs6⟩ := hown.sIn hfz
    cases e6
    exact qE ⟨Hp.le_trans hρ hle6, va, vc, rfl, hc6, hs6, rfl⟩
  · have hgN : mget es5 r.kind = none := by
      rw [hg]
      simp only [show ¬ r.kind = 9 by omega, show ¬ r.kind = 5 by omega, show ¬ r.kind = 4 by omega, show ¬ r.kind = 3 by omega, show ¬ r.kind = 2 by omega, if_false]
    clear hg
    have hB : recHB r = recB r := by unfold recB; rw [recTB_none hk, List.append_nil]
    rw [hB] at hown ⊢
    obtain ⟨va, vc, rfl, _⟩ := hown.slice
    repeat' (first | (refine iBu ?_; refine tl_y (y_buildN rfl) rfl rfl ?_) | (refine i_op ?_; first | (refine i_qq ?_; refine qQ ?_) | refine qEf ?_) | refine tl_nil ?_ | (refine i_tc ?_; refine qTc ?_) | (refine i_te ?_; refine qTe ?_) | intro _)
    refine te_freeze (bytC (.slice va (recB r).length vc) (recB r) sp4) (h := by repeat (first | exact rem_here' | apply rem_there')) (fun ρ6 hle6 hfz => ?_)
    obtain ⟨a6, c6, e6, hc6, hs6⟩ := hown.sIn hfz
    cases e6
    exact qE ⟨Hp.le_trans hρ hle6, va, vc, rfl, hc6, hs6, rfl⟩
end Go.Proofs.E

namespace Go.Proofs.E
open Go
set_option linter.unusedVariables false
set_option linter.unusedSimpArgs false
set_option linter.unusedSectionVars false
set_option maxRecDepth 4000
set_option maxHeartbeats 1000000
attribute [local irreducible] Yl TL TC TE Spec YSpec R1 Hp.le EnvLe TS TR YS Stays
-- BN
def sectsB (n : Nat) : Nat := max 1 ((n + 51) / 52)
theorem rsects_spec (ρ : Hp) (n : Nat) (hn : n ≤ 4611686018427387904) : Spec Tryz.prog 127 [.int .i64 n] ρ [] (fun v ρ' L' => v = .int .i64 (sectsB n : Nat) ∧ ρ' = ρ ∧ L' = []) := by
  refine spec_enter Tryz.func127 rfl rfl rfl fun u R => ?_
  simp only [argsE, List.cons_append, List.nil_append]
  have e : max 1 (IntKind.i64.wrap (((n : Int) + 52 - 1).tdiv 52)) = ((sectsB n : Nat) : Int) := by
    rw [Int.tdiv_eq_ediv_of_nonneg (by omega), wrap_id (by simp only [lo, hi]; omega)]
    unfold sectsB; omega
  repeat' (first | (refine iBu ?_; refine tl_y (y_buildN rfl) rfl rfl ?_) | (refine i_op ?_; first | (refine i_qq ?_; refine qQ ?_) | refine qEf ?_) | refine tl_nil ?_ | (refine i_tc ?_; refine qTc ?_) | (refine i_te ?_; refine qTe ?_) | intro _)
  rw [e]
  exact qE ⟨rfl, rfl, rfl⟩
theorem listB_le {α : Type} (f : α → List UInt8) (m : Nat) (l : List α) (h : ∀ x ∈ l, (f x).length ≤ m) : (listB f l).length ≤ 1 + l.length * m := by
  have := flatMap_le f m l h
  unfold listB
  rw [List.length_cons]; omega
theorem recB_le {r : Rc} (h : LayOk r) : (recB r).length ≤ 4000 := by
  have h1 : (recHB r).length = 21 := by simp [recHB, be_length]
  have h2 : (imsB r).length ≤ 1 + r.ims.length * 165 := listB_le _ 165 r.ims (fun x hx => imB_len (h.im x hx).2.1 (h.im x hx).2.2)
  have h3 : (listB stpB r.steps).length ≤ 1 + r.steps.length * 21 := listB_le _ 21 r.steps (fun x hx => stpB_len (h.st x hx))
  have h4 : (listB ckTB r.txns).length ≤ 1 + r.txns.length * 29 := listB_le _ 29 r.txns (fun x hx => Nat.le_of_eq (ckTB_len x))
  have h5 : (listB ckPB r.dirty).length ≤ 1 + r.dirty.length * 9 := listB_le _ 9 r.dirty (fun x hx => Nat.le_of_eq (ckPB_len x))
  have a1 := h.il
  have a2 := h.sl
  have a3 := h.tl
  have a4 := h.dl
  have h6 : (recTB r).length ≤ 3900 := by
    unfold recTB
    split
    · omega
    · split
      · rw [be_length]; omega
      · split
        · rw [List.length_append, be_length]; omega
        · split
          · rw [List.length_append, be_length]; omega
          · split
            · rw [List.length_append, List.length_append, be_length]; omega
            · simp
  unfold recB
  rw [List.length_append]; omega
theorem rencode_spec (ρ : Hp) (v : RV) (r : Rc) (h : RcIn ρ v r) : Spec Tryz.prog 29 [.agg ⟨recV v r⟩] ρ []
    (fun z ρ' L' => ρ.le ρ' ∧ ∃ a n c, z = .tuple ⟨[.slice a n c, .int .i64 (if recOk r then 0 else 220)]⟩ ∧ n ≤ c ∧ SIn ρ' u8c a n (if recOk r then recB r else []) ∧ L' = []) := by
  have hck := rcheck_spec ρ v r h
  refine spec_enter Tryz.func29 rfl rfl rfl fun u R => ?_
  simp only [argsE, List.cons_append, List.nil_append]
  cases hok : recOk r
  · rw [hok] at hck
    repeat' (first | (refine tl_is (.func 27) ?_; refine qC rfl rfl (hck) ?_; rintro v ρ' L' hle ⟨rfl, rfl, rfl⟩ <;> (try simp only [kM, kN, kO, if_false, Bool.false_eq_true])) | (refine iBu ?_; refine tl_y (y_buildN rfl) rfl rfl ?_) | (refine i_op ?_; first | (refine i_qq ?_; refine qQ ?_) | refine qEf ?_) | refine tl_nil ?_ | (refine i_tc ?_; refine qTc ?_) | (refine i_te ?_; refine qTe ?_) | intro _)
    exact qE ⟨Hp.le_refl _, none, 0, 0, rfl, Nat.le_refl _, SIn.nil, rfl⟩
  · rw [hok] at hck
    have hla := rlaid_spec ρ v r h (recOk_lay hok)
    repeat' (first | (refine tl_is (.func 27) ?_; refine qC rfl rfl (hck) ?_; rintro v ρ' L' hle ⟨rfl, rfl, rfl⟩ <;> (try simp only [kM, kN, kO, if_true])) | (refine tl_is (.func 112) ?_; refine qC rfl rfl (hla) ?_; rintro v ρ' L' hle ⟨hle1, a, c, rfl, hc, hs, rfl⟩ <;> (try simp only [kM, kN, kO])) | (refine iBu ?_; refine tl_y (y_buildN rfl) rfl rfl ?_) | (refine i_op ?_; first | (refine i_qq ?_; refine qQ ?_) | refine qEf ?_) | refine tl_nil ?_ | (refine i_tc ?_; refine qTc ?_) | (refine i_te ?_; refine qTe ?_) | intro _)
    exact qE ⟨hle1, a, _, c, rfl, hc, hs, rfl⟩
def costN (r : Rc) : Nat := if recOk r then sectsB (recB r).length else 0
def errN (r : Rc) : Int := if recOk r then 0 else 220
theorem rcost_spec (ρ : Hp) (v : RV) (r : Rc) (h : RcIn ρ v r) : Spec Tryz.prog 46 [.agg ⟨recV v r⟩] ρ []
    (fun z ρ' L' => ρ.le ρ' ∧ z = .tuple ⟨[.int .i64 (costN r : Nat), .int .i64 (errN r)]⟩ ∧ L' = []) := by
  have hck := rcheck_spec ρ v r h
  unfold costN errN
  refine spec_enter Tryz.func46 rfl rfl rfl fun u R => ?_
  simp only [argsE, List.cons_append, List.nil_append]
  cases hok : recOk r
  · rw [hok] at hck
    repeat' (first | (refine tl_is (.func 27) ?_; refine qC rfl rfl (hck) ?_; rintro v ρ' L' hle ⟨rfl, rfl, rfl⟩ <;> (try simp only [kM, kN, kO, if_false, Bool.false_eq_true])) | (refine iBu ?_; refine tl_y (y_buildN rfl) rfl rfl ?_) | (refine i_op ?_; first | (refine i_qq ?_; refine qQ ?_) | refine qEf ?_) | refine tl_nil ?_ | (refine i_tc ?_; refine qTc ?_) | (refine i_te ?_; refine qTe ?_) | intro _)
    exact qE ⟨Hp.le_refl _, rfl, rfl⟩
  · rw [hok] at hck
    have hla := rlaid_spec ρ v r h (recOk_lay hok)
    have hb := recB_le (recOk_lay hok)
    repeat' (first | (refine tl_is (.func 27) ?_; refine qC rfl rfl (hck) ?_; rintro v ρ' L' hle ⟨rfl, rfl, rfl⟩ <;> (try simp only [kM, kN, kO, if_true])) | (refine tl_is (.func 112) ?_; refine qC rfl rfl (hla) ?_; rintro v ρ' L' hle ⟨hle1, a, c, rfl, hc, hs, rfl⟩ <;> (try simp only [kM, kN, kO])) | (refine tl_is (.func 127) ?_; refine qC rfl rfl (rsects_spec _ _ (by omega)) ?_; rintro v ρ' L' hle ⟨rfl, rfl, rfl⟩ <;> (try simp only [kM, kN, kO])) | (refine iBu ?_; refine tl_y (y_buildN rfl) rfl rfl ?_) | (refine i_op ?_; first | (refine i_qq ?_; refine qQ ?_) | refine qEf ?_) | refine tl_nil ?_ | (refine i_tc ?_; refine qTc ?_) | (refine i_te ?_; refine qTe ?_) | intro _)
    exact qE ⟨hle1, rfl, rfl⟩
theorem undoable_spec (ρ : Hp) (v : RV) (r : Rc) (h : RcIn ρ v r) : Spec Tryz.prog 78 [.agg ⟨recV v r⟩] ρ []
    (fun z ρ' L' => z = .bool (recOk r && decide (r.kind = 2 ∨ r.kind = 4)) ∧ ρ' = ρ ∧ L' = []) := by
  have hck := rcheck_spec ρ v r h
  refine spec_enter Tryz.func78 rfl rfl rfl fun u R => ?_
  simp only [argsE, List.cons_append, List.nil_append]
  cases hok : recOk r
  · rw [hok] at hck
    repeat' (first | (refine tl_is (.func 27) ?_; refine qC rfl rfl (hck) ?_; rintro v ρ' L' hle ⟨rfl, rfl, rfl⟩ <;> (try simp only [kM, kN, kO, if_false, Bool.false_eq_true])) | (refine iBu ?_; refine tl_y (y_buildN rfl) rfl rfl ?_) | (refine i_op ?_; first | (refine i_qq ?_; refine qQ ?_) | refine qEf ?_) | refine tl_nil ?_ | (refine i_tc ?_; refine qTc ?_) | (refine i_te ?_; refine qTe ?_) | intro _)
    exact qE ⟨rfl, rfl, rfl⟩
  · rw [hok] at hck
    by_cases h2 : r.kind = 2
    · repeat' (first | (refine tl_is (.func 27) ?_; refine qC rfl rfl (hck) ?_; rintro v ρ' L' hle ⟨rfl, rfl, rfl⟩ <;> (try simp only [kM, kN, kO, if_true])) | (refine iBu ?_; refine tl_y (y_buildN rfl) rfl rfl ?_) | (refine i_op ?_; first | (refine i_qq ?_; refine qQ ?_) | refine qEf ?_) | refine tl_nil ?_ | (refine i_tc ?_; refine qTc ?_) | (refine i_te ?_; refine qTe ?_) | intro _)
      refine qF (L' := []) ?_
      exact ⟨by simp [h2], rfl, rfl⟩
    · repeat' (first | (refine tl_is (.func 27) ?_; refine qC rfl rfl (hck) ?_; rintro v ρ' L' hle ⟨rfl, rfl, rfl⟩ <;> (try simp only [kM, kN, kO, if_true])) | (refine iBu ?_; refine tl_y (y_buildN rfl) rfl rfl ?_) | (refine i_op ?_; first | (refine i_qq ?_; refine qQ ?_) | refine qEf ?_) | refine tl_nil ?_ | (refine i_tc ?_; refine qTc ?_) | (refine i_te ?_; refine qTe ?_) | intro _)
      refine qF (L' := []) ?_
      exact ⟨bool_eq (by (try simp [*]); first | done | omega | (intros; omega) | (constructor <;> intros <;> (try simp_all) <;> omega)), rfl, rfl⟩
def undI (x : Im) : Im := ⟨0, nilCV, ztC, x.bv, x.b⟩
def undR (l : List Im) : Rc := ⟨5, 0, 0, 0, 0, l.map undI, [], 0, [], []⟩
def stepN (s : Stp) : Nat := if s.kind = 3 ∨ s.kind = 4 then 12 else 1
def pagesN (l : List Stp) : Nat := (l.map stepN).sum
def reserveN (r : Rc) : Nat :=
  if recOk r then (if r.kind = 1 then 2 else if r.kind = 2 then sectsB (recB (undR r.ims)).length else if r.kind = 4 then sectsB (30 + min (pagesN r.steps) 16 * 83) else 0) else 0
theorem contOk_z : contOk ztC = true := by decide
theorem undR_lay {l : List Im} (h1 : l.length ≤ 16) (h2 : ∀ x ∈ l, contOk x.b = true) : LayOk (undR l) := by
  refine ⟨by simp [undR], by simp [undR], by simp [undR], by simp [undR], by simp [undR], by simp [undR], by simp [undR]; omega, ?_, by simp [undR], by simp [undR], by simp [undR], by simp [undR], by simp [undR], by simp [undR]⟩
  intro x hx
  obtain ⟨y, hy, rfl⟩ := List.mem_map.1 hx
  exact ⟨by simp [undI], h2 y hy, contOk_z⟩
end Go.Proofs.E

namespace Go.Proofs.E
open Go
set_option linter.unusedVariables false
set_option linter.unusedSimpArgs false
set_option linter.unusedSectionVars false
set_option maxRecDepth 4000
set_option maxHeartbeats 1000000
attribute [local irreducible] Yl TL TC TE Spec YSpec R1 Hp.le EnvLe TS TR YS Stays
-- BN
/-! ## record: the reader -/
theorem u32_spec (ρ : Hp) (br : Nat) (a : Option Addr) (n c : Nat) (l : List UInt8) (h : SIn ρ u8c a n l) (hc : n ≤ c) (st : Int) :
    Spec Tryz.prog 82 [.pointer (some ⟨br, 0, none⟩)] ρ [rdC br a n c st]
      (fun v ρ' L' => v = .int .u32 ((numR 4 l st).1 : Nat) ∧ ρ' = ρ ∧ ∃ a' n' c', SIn ρ u8c a' n' (numR 4 l st).2.1 ∧ n' ≤ c' ∧ L' = [rdC br a' n' c' (numR 4 l st).2.2]) := by
  have hb := numR_lt 4 l st
  have hn := number_spec ρ br a n c l h hc st 4 (by omega)
  generalize numR 4 l st = r at *
  refine spec_enter Tryz.func82 rfl rfl rfl fun u R => ?_
  simp only [argsE, List.cons_append, List.nil_append]
  repeat' (first | (refine tl_is (.func 160) ?_; refine qC rfl rfl (hn) ?_; rintro v ρ' L' hle ⟨rfl, rfl, a', n', c', hs', hc', rfl⟩ <;> (try simp only [kM, kN, kO])) | (refine iBu ?_; refine tl_y (y_buildN rfl) rfl rfl ?_) | (refine i_op ?_; first | (refine i_qq ?_; refine qQ ?_) | refine qEf ?_) | refine tl_nil ?_ | (refine i_tc ?_; refine qTc ?_) | (refine i_te ?_; refine qTe ?_) | intro _)
  exact qE ⟨rfl, rfl, a', n', c', hs', hc', rfl⟩
abbrev reC (tb br : Nat) (ra : Option Addr) (rn rc : Nat) (v : RV) (r : Rc) (bad : Bool) : List (Nat × Obj) := [(tb, .cells ⟨[.pointer (some ⟨br, 0, none⟩), .slice ra rn rc, .int .i64 r.kind, .int .u64 r.lsn, .int .i64 r.txn, .int .u64 r.prev, .int .u64 r.next, .slice v.i.a v.i.n v.i.c, .slice v.s.a v.s.n v.s.c, .int .i64 r.nextTxn, .slice v.t.a v.t.n v.t.c, .slice v.d.a v.d.n v.d.c, .bool bad]⟩ 138 (0, 0))]
/-- what a reader stands on -/
structure RdAt (ρ : Hp) (a : Option Addr) (n c : Nat) (ra : Option Addr) (rn rc : Nat) (R : List UInt8) (s : RS3) : Prop where
  at' : SIn ρ u8c a n s.1
  cap : n ≤ c
  rest : SIn ρ u8c ra rn R
  rcap : rn ≤ rc
  big : rn ≤ 1000000
  suf : ∃ X, R = X ++ s.1
theorem RdAt.mono {ρ ρ' a n c ra rn rc R s} (h : RdAt ρ a n c ra rn rc R s) (hle : ρ.le ρ') : RdAt ρ' a n c ra rn rc R s := ⟨h.at'.mono hle, h.cap, h.rest.mono hle, h.rcap, h.big, h.suf⟩
theorem numR_suf (k : Nat) (l : List UInt8) (st : Int) : ∃ X, l = X ++ (numR k l st).2.1 := by
  unfold numR
  split
  · exact ⟨[], rfl⟩
  · split
    · exact ⟨[], rfl⟩
    · exact ⟨l.take k, (List.take_append_drop k l).symm⟩
theorem rawR_suf (k : Nat) (l : List UInt8) (st : Int) : ∃ X, l = X ++ (rawR k l st).2.1 := by
  unfold rawR
  split
  · exact ⟨[], rfl⟩
  · split
    · exact ⟨[], rfl⟩
    · exact ⟨l.take k, (List.take_append_drop k l).symm⟩
theorem RdAt.num {ρ a n c ra rn rc R s} (h : RdAt ρ a n c ra rn rc R s) (k : Nat) {a' n' c'} (h1 : SIn ρ u8c a' n' (numR k s.1 s.2.1).2.1) (h2 : n' ≤ c') : RdAt ρ a' n' c' ra rn rc R (rdN k s).2 := by
  obtain ⟨X, hX⟩ := h.suf
  obtain ⟨Y, hY⟩ := numR_suf k s.1 s.2.1
  exact ⟨h1, h2, h.rest, h.rcap, h.big, X ++ Y, by rw [List.append_assoc, hX]; exact congrArg (X ++ ·) hY⟩
theorem RdAt.skip {ρ a n c ra rn rc R s} (h : RdAt ρ a n c ra rn rc R s) (k : Int) {a' n' c'} (h1 : SIn ρ u8c a' n' (rawR k.toNat s.1 s.2.1).2.1) (h2 : n' ≤ c') : RdAt ρ a' n' c' ra rn rc R (skipS k s) := by
  obtain ⟨X, hX⟩ := h.suf
  obtain ⟨Y, hY⟩ := rawR_suf k.toNat s.1 s.2.1
  exact ⟨h1, h2, h.rest, h.rcap, h.big, X ++ Y, by rw [List.append_assoc, hX]; exact congrArg (X ++ ·) hY⟩
/-- the reader's chunks at a state -/
abbrev rdL (tb br : Nat) (a : Option Addr) (n c : Nat) (ra : Option Addr) (rn rc : Nat) (v : RV) (r : Rc) (s : RS3) : SH := [reC tb br ra rn rc v r s.2.2, rdC br a n c s.2.1]
theorem n8_spec (ρ : Hp) (br : Nat) {a n c ra rn rc R} {s : RS3} (h : RdAt ρ a n c ra rn rc R s) : Spec Tryz.prog 80 [.pointer (some ⟨br, 0, none⟩)] ρ [rdC br a n c s.2.1]
    (fun v ρ' L' => v = .int .u8 ((rdN 1 s).1 : Nat) ∧ ρ' = ρ ∧ ∃ a' n' c', RdAt ρ a' n' c' ra rn rc R (rdN 1 s).2 ∧ L' = [rdC br a' n' c' (rdN 1 s).2.2.1]) := by
  refine (u8_spec ρ br a n c s.1 h.at' h.cap s.2.1).mono ?_
  rintro v ρ' L' _ ⟨h1, h2, a', n', c', h3, h4, h5⟩
  exact ⟨h1, h2, a', n', c', h.num 1 h3 h4, h5⟩
theorem n16_spec (ρ : Hp) (br : Nat) {a n c ra rn rc R} {s : RS3} (h : RdAt ρ a n c ra rn rc R s) : Spec Tryz.prog 169 [.pointer (some ⟨br, 0, none⟩)] ρ [rdC br a n c s.2.1]
    (fun v ρ' L' => v = .int .u16 ((rdN 2 s).1 : Nat) ∧ ρ' = ρ ∧ ∃ a' n' c', RdAt ρ a' n' c' ra rn rc R (rdN 2 s).2 ∧ L' = [rdC br a' n' c' (rdN 2 s).2.2.1]) := by
  refine (u16_spec ρ br a n c s.1 h.at' h.cap s.2.1).mono ?_
  rintro v ρ' L' _ ⟨h1, h2, a', n', c', h3, h4, h5⟩
  exact ⟨h1, h2, a', n', c', h.num 2 h3 h4, h5⟩
theorem n32_spec (ρ : Hp) (br : Nat) {a n c ra rn rc R} {s : RS3} (h : RdAt ρ a n c ra rn rc R s) : Spec Tryz.prog 82 [.pointer (some ⟨br, 0, none⟩)] ρ [rdC br a n c s.2.1]
    (fun v ρ' L' => v = .int .u32 ((rdN 4 s).1 : Nat) ∧ ρ' = ρ ∧ ∃ a' n' c', RdAt ρ a' n' c' ra rn rc R (rdN 4 s).2 ∧ L' = [rdC br a' n' c' (rdN 4 s).2.2.1]) := by
  refine (u32_spec ρ br a n c s.1 h.at' h.cap s.2.1).mono ?_
  rintro v ρ' L' _ ⟨h1, h2, a', n', c', h3, h4, h5⟩
  exact ⟨h1, h2, a', n', c', h.num 4 h3 h4, h5⟩
theorem n64_spec (ρ : Hp) (br : Nat) {a n c ra rn rc R} {s : RS3} (h : RdAt ρ a n c ra rn rc R s) : Spec Tryz.prog 81 [.pointer (some ⟨br, 0, none⟩)] ρ [rdC br a n c s.2.1]
    (fun v ρ' L' => v = .int .u64 ((rdN 8 s).1 : Nat) ∧ ρ' = ρ ∧ ∃ a' n' c', RdAt ρ a' n' c' ra rn rc R (rdN 8 s).2 ∧ L' = [rdC br a' n' c' (rdN 8 s).2.2.1]) := by
  refine (u64_spec ρ br a n c s.1 h.at' h.cap s.2.1).mono ?_
  rintro v ρ' L' _ ⟨h1, h2, a', n', c', h3, h4, h5⟩
  exact ⟨h1, h2, a', n', c', h.num 8 h3 h4, h5⟩
theorem rdN_lt (k : Nat) (s : RS3) : (rdN k s).1 < 256 ^ k := numR_lt k s.1 s.2.1
theorem rdN_bad (k : Nat) (s : RS3) : (rdN k s).2.2.2 = s.2.2 := rfl
theorem rok_spec (ρ : Hp) (tb br : Nat) (a : Option Addr) (n c : Nat) (ra : Option Addr) (rn rc : Nat) (v : RV) (r : Rc) (s : RS3) : Spec Tryz.prog 88 [.pointer (some ⟨tb, 0, none⟩)] ρ (rdL tb br a n c ra rn rc v r s)
    (fun z ρ' L' => z = .bool (okS s) ∧ ρ' = ρ ∧ L' = rdL tb br a n c ra rn rc v r s) := by
  obtain ⟨l, st, bad⟩ := s
  unfold okS rdL
  refine spec_enter Tryz.func88 rfl rfl rfl fun u R => ?_
  simp only [argsE, List.cons_append, List.nil_append]
  cases bad
  · repeat' (first | (refine tl_is (.func 174) ?_; refine qC rfl rfl (err_spec _ br a n c st) ?_; rintro v ρ' L' hle ⟨rfl, rfl, rfl⟩ <;> (try simp only [kM, kN, kO])) | (refine iBu ?_; refine tl_y (y_buildN rfl) rfl rfl ?_) | (refine i_op ?_; first | (refine i_qq ?_; refine qQ ?_) | refine qEf ?_) | refine tl_nil ?_ | (refine i_tc ?_; refine qTc ?_) | (refine i_te ?_; refine qTe ?_) | intro _)
    refine qF (L' := [reC tb br ra rn rc v r false, rdC br a n c st]) ?_
    exact ⟨bool_eq (by (try simp [*]); first | done | omega | (intros; omega) | (constructor <;> intros <;> (try simp_all) <;> omega)), rfl, rfl⟩
  · repeat' (first | (refine iBu ?_; refine tl_y (y_buildN rfl) rfl rfl ?_) | (refine i_op ?_; first | (refine i_qq ?_; refine qQ ?_) | refine qEf ?_) | refine tl_nil ?_ | (refine i_tc ?_; refine qTc ?_) | (refine i_te ?_; refine qTe ?_) | intro _)
    exact qE ⟨rfl, rfl, rfl⟩
end Go.Proofs.E

namespace Go.Proofs.E
open Go
set_option linter.unusedVariables false
set_option linter.unusedSimpArgs false
set_option linter.unusedSectionVars false
set_option maxRecDepth 4000
set_option maxHeartbeats 1000000
attribute [local irreducible] Yl TL TC TE Spec YSpec R1 Hp.le EnvLe TS TR YS Stays
-- BN
theorem tkT_fst_bad {α : Type} {t : List UInt8 → α × Int × Int} {z : α} {s : RS3} (h : okS s = false) : tkT t z s = (z, s) := by unfold tkT; rw [h]; rfl
theorem tkT_err {α : Type} {t : List UInt8 → α × Int × Int} {z : α} {s : RS3} (h : okS s = true) (he : (t s.1).2.2 ≠ 0) : tkT t z s = (z, s.1, s.2.1, true) := by unfold tkT; rw [h, if_pos rfl, if_neg he]
theorem tkT_ok {α : Type} {t : List UInt8 → α × Int × Int} {z : α} {s : RS3} (h : okS s = true) (he : (t s.1).2.2 = 0) : tkT t z s = ((t s.1).1, skipS (t s.1).2.1 s) := by unfold tkT; rw [h, if_pos rfl, if_pos he]
theorem RdAt.flag {ρ a n c ra rn rc R l st b} (h : RdAt ρ a n c ra rn rc R (l, st, b)) (b' : Bool) : RdAt ρ a n c ra rn rc R (l, st, b') := ⟨h.at', h.cap, h.rest, h.rcap, h.big, h.suf⟩
theorem rtakenC_spec (ρ : Hp) (tb br : Nat) (v : RV) (r : Rc) (s : RS3) {a n c ra rn rc Rs} (h : RdAt ρ a n c ra rn rc Rs s) :
    Spec Tryz.prog 163 [.pointer (some ⟨tb, 0, none⟩), .func (.func 164) ⟨[]⟩ ⟨[]⟩] ρ (rdL tb br a n c ra rn rc v r s)
      (fun z ρ' L' => ρ.le ρ' ∧ ∃ cv a' n' c', z = .agg ⟨contV (tkT takeContR ztC s).1.kind cv⟩ ∧ CI ρ' cv (tkT takeContR ztC s).1 ∧ RdAt ρ' a' n' c' ra rn rc Rs (tkT takeContR ztC s).2 ∧ L' = rdL tb br a' n' c' ra rn rc v r (tkT takeContR ztC s).2) := by
  have hok := rok_spec ρ tb br a n c ra rn rc v r s
  have hsl := h.at'.len
  have hrl := h.rest.len
  have hrb := h.big
  have hrc := h.rcap
  have hcap := h.cap
  obtain ⟨X, hX⟩ := h.suf
  have hXl := congrArg List.length hX
  rw [List.length_append] at hXl
  refine spec_enter Tryz.func163 rfl rfl rfl fun u R => ?_
  simp only [argsE, List.cons_append, List.nil_append]
  cases ho : okS s
  · rw [ho] at hok
    rw [tkT_fst_bad ho]
    repeat' (first | (refine tl_is (.func 88) ?_; refine qC rfl rfl (hok) ?_; rintro v ρ' L' hle ⟨rfl, rfl, rfl⟩ <;> (try simp only [kM, kN, kO])) | (refine iBu ?_; refine tl_y (y_buildN rfl) rfl rfl ?_) | (refine i_op ?_; first | (refine i_qq ?_; refine qQ ?_) | refine qEf ?_) | refine tl_nil ?_ | (refine i_tc ?_; refine qTc ?_) | (refine i_te ?_; refine qTe ?_) | intro _)
    exact qE ⟨Hp.le_refl _, nilCV, a, n, c, rfl, CI.nil, h, rfl⟩
  · rw [ho] at hok
    obtain ⟨l, st, bad⟩ := s
    have h2 := okS_iff ho
    simp only [Prod.mk.injEq] at h2
    obtain ⟨rfl, rfl⟩ := h2
    dsimp only at hsl hX hXl
    have hlo : ((rn : Int) - (n : Int)).toNat = rn - n := by omega
    have hsub := h.rest.sub (lo' := ((rn : Int) - (n : Int)).toNat) (hi' := rn) (by omega) (Nat.le_refl _) (cap := rc) hrc
    have hdl : (List.drop ((rn : Int) - (n : Int)).toNat Rs).take (rn - ((rn : Int) - (n : Int)).toNat) = l := by
      rw [hlo, hX, show rn - n = X.length by omega, List.drop_left' rfl, List.take_of_length_le (by omega)]
    rw [hdl] at hsub
    have htc := takeCont_spec ρ _ _ (rc - ((rn : Int) - (n : Int)).toNat) l hsub (by omega)
    by_cases he : (takeContR l).2.2 = 0
    · obtain ⟨m, e1, hm, g1, g2, g3⟩ := takeCont_ok he
      have hraw := fun ρ (h : SIn ρ u8c a n l) => raw_spec ρ br a n c l h hcap 0 m (by omega)
      have hskip := fun {ρ a' n' c'} (h : RdAt ρ a n c ra rn rc Rs (l, 0, false)) (h1 : SIn ρ u8c a' n' (rawR m l 0).2.1) (h2 : n' ≤ c') => h.skip (m : Int) (by simpa using h1) h2
      rw [tkT_ok ho he]
      dsimp only
      rw [e1] at htc ⊢
      rw [he] at htc
      unfold skipS at hskip ⊢
      simp only [Int.toNat_natCast] at hskip ⊢
      generalize (takeContR l).1 = x at *
      generalize rawR m l 0 = q at *
      repeat' (first | (refine tl_is (.func 88) ?_; refine qC rfl rfl (hok) ?_; rintro v ρ' L' hle ⟨rfl, rfl, rfl⟩ <;> (try simp only [kM, kN, kO])) | (refine iBu ?_; refine tl_y (y_buildN rfl) rfl rfl ?_) | (refine i_op ?_; first | (refine i_qq ?_; refine qQ ?_) | refine qEf ?_) | refine tl_nil ?_ | (refine i_tc ?_; refine qTc ?_) | (refine i_te ?_; refine qTe ?_) | intro _)
      refine tc_any (Stays _ _ _) stays_refl ?_
      all_goals refine rMv 0 ?_
      all_goals refine rMv 1 ?_
      all_goals refine rNc 2 ?_
      all_goals refine rFa 3 ?_
      all_goals refine rLd 4 ?_
      all_goals refine rMv 5 ?_
      all_goals refine rNc 6 ?_
      all_goals refine rFa 7 ?_
      all_goals refine rLd 8 ?_
      all_goals refine rBi 9 ?_
      all_goals refine rMv 10 ?_
      all_goals refine rNc 11 ?_
      all_goals refine rFa 12 ?_
      all_goals refine rLd 13 ?_
      all_goals (refine rStep2 (i := 14) (j := 22) ?_ ?_ <;> ((try refine qWant ?_); (first | (refine tl_is (.func 89) ?_; refine qC rfl rfl (left_spec _ br a n c 0) ?_; rintro v ρ' L' hle ⟨rfl, rfl, rfl⟩ <;> (try simp only [kM, kN, kO])) | (refine qEf ?_; try intro _)) <;> ((try simp only [kM, kN, kO]); refine tl_nil ?_; refine rNext ?_)))
      all_goals (first | refine rSb 15 ?_ | (refine rStep (i := 14) ?_; ((try refine qWant ?_); (first | (refine tl_is (.func 89) ?_; refine qC rfl rfl (left_spec _ br a n c 0) ?_; rintro v ρ' L' hle ⟨rfl, rfl, rfl⟩ <;> (try simp only [kM, kN, kO])) | (refine qEf ?_; try intro _)) <;> ((try simp only [kM, kN, kO]); refine tl_nil ?_; refine rNext ?_))))
      all_goals (first | refine rSb 15 ?_ | refine rSl 16 ?_)
      all_goals (first | refine rSl 16 ?_ | (refine rStep2 (i := 17) (j := 22) ?_ ?_ <;> ((try refine qWant ?_); (first | (refine tl_is (.tmp 14) ?_; refine qC rfl rfl (htc) ?_; rintro v ρ' L' hle ⟨hle1, w, rfl, hC, rfl⟩ <;> (try simp only [kM, kN, kO])) | (refine qEf ?_; try intro _)) <;> ((try simp only [kM, kN, kO]); refine tl_nil ?_; refine rNext ?_))))
      all_goals (first | refine rMv 18 ?_ | (refine rStep (i := 17) ?_; ((try refine qWant ?_); (first | (refine tl_is (.tmp 14) ?_; refine qC rfl rfl (htc) ?_; rintro v ρ' L' hle ⟨hle1, w, rfl, hC, rfl⟩ <;> (try simp only [kM, kN, kO])) | (refine qEf ?_; try intro _)) <;> ((try simp only [kM, kN, kO]); refine tl_nil ?_; refine rNext ?_))))
      all_goals (first | refine rMv 18 ?_ | refine rEx 19 ?_)
      all_goals (first | refine rEx 19 ?_ | refine rEx 20 ?_)
      all_goals (first | refine rEx 20 ?_ | refine rEx 21 ?_)
      all_goals (first | refine rEx 21 ?_ | (refine rStep (i := 22) ?_; ((try refine qWant ?_); (first | (refine qEf ?_; try intro _)) <;> ((try simp only [kM, kN, kO]); refine tl_nil ?_; refine rNext ?_))))
      all_goals (refine rStep (i := 23) ?_; ((try refine qWant ?_); (first | (refine qEf ?_; try intro _)) <;> ((try simp only [kM, kN, kO]); refine tl_nil ?_; refine rNext ?_)))
      all_goals refine rFull ?_
      all_goals refine rAs 24 ?_
      all_goals refine rAs 25 ?_
      all_goals refine rDone ?_
      all_goals (repeat' (first | (refine tl_is (.func 236) ?_; refine qC rfl rfl (hraw _ (h.at'.mono (by assumption))) ?_; rintro v ρ' L' hle ⟨hle2, va, vn, vc, a', n', c', rfl, hvc, hs1, hs2, hc', rfl⟩ <;> (try simp only [kM, kN, kO])) | (refine iBu ?_; refine tl_y (y_buildN rfl) rfl rfl ?_) | (refine i_op ?_; first | (refine i_qq ?_; refine qQ ?_) | refine qEf ?_) | refine tl_nil ?_ | (refine i_tc ?_; refine qTc ?_) | (refine i_te ?_; refine qTe ?_) | intro _))
      all_goals exact qE ⟨Hp.le_trans hle1 hle2, w, a', n', c', rfl, ⟨hC.mono hle2, g3.row, fun k hk => (g3.kid k hk).id⟩, hskip (h.mono (Hp.le_trans hle1 hle2)) hs2 hc', rfl⟩
    · rw [tkT_err ho he]
      obtain ⟨f1, f2⟩ := takeCont_bad he
      rw [f1, f2] at htc
      dsimp only
      generalize (takeContR l).2.2 = e at *
      repeat' (first | (refine tl_is (.func 88) ?_; refine qC rfl rfl (hok) ?_; rintro v ρ' L' hle ⟨rfl, rfl, rfl⟩ <;> (try simp only [kM, kN, kO])) | (refine iBu ?_; refine tl_y (y_buildN rfl) rfl rfl ?_) | (refine i_op ?_; first | (refine i_qq ?_; refine qQ ?_) | refine qEf ?_) | refine tl_nil ?_ | (refine i_tc ?_; refine qTc ?_) | (refine i_te ?_; refine qTe ?_) | intro _)
      refine tc_any (Stays _ _ _) stays_refl ?_
      all_goals refine rMv 0 ?_
      all_goals refine rMv 1 ?_
      all_goals refine rNc 2 ?_
      all_goals refine rFa 3 ?_
      all_goals refine rLd 4 ?_
      all_goals refine rMv 5 ?_
      all_goals refine rNc 6 ?_
      all_goals refine rFa 7 ?_
      all_goals refine rLd 8 ?_
      all_goals refine rBi 9 ?_
      all_goals refine rMv 10 ?_
      all_goals refine rNc 11 ?_
      all_goals refine rFa 12 ?_
      all_goals refine rLd 13 ?_
      all_goals (refine rStep2 (i := 14) (j := 22) ?_ ?_ <;> ((try refine qWant ?_); (first | (refine tl_is (.func 89) ?_; refine qC rfl rfl (left_spec _ br a n c 0) ?_; rintro v ρ' L' hle ⟨rfl, rfl, rfl⟩ <;> (try simp only [kM, kN, kO])) | (refine qEf ?_; try intro _)) <;> ((try simp only [kM, kN, kO]); refine tl_nil ?_; refine rNext ?_)))
      all_goals (first | refine rSb 15 ?_ | (refine rStep (i := 14) ?_; ((try refine qWant ?_); (first | (refine tl_is (.func 89) ?_; refine qC rfl rfl (left_spec _ br a n c 0) ?_; rintro v ρ' L' hle ⟨rfl, rfl, rfl⟩ <;> (try simp only [kM, kN, kO])) | (refine qEf ?_; try intro _)) <;> ((try simp only [kM, kN, kO]); refine tl_nil ?_; refine rNext ?_))))
      all_goals (first | refine rSb 15 ?_ | refine rSl 16 ?_)
      all_goals (first | refine rSl 16 ?_ | (refine rStep2 (i := 17) (j := 22) ?_ ?_ <;> ((try refine qWant ?_); (first | (refine tl_is (.tmp 14) ?_; refine qC rfl rfl (htc) ?_; rintro v ρ' L' hle ⟨hle1, w, rfl, hC, rfl⟩ <;> (try simp only [kM, kN, kO])) | (refine qEf ?_; try intro _)) <;> ((try simp only [kM, kN, kO]); refine tl_nil ?_; refine rNext ?_))))
      all_goals (first | refine rMv 18 ?_ | (refine rStep (i := 17) ?_; ((try refine qWant ?_); (first | (refine tl_is (.tmp 14) ?_; refine qC rfl rfl (htc) ?_; rintro v ρ' L' hle ⟨hle1, w, rfl, hC, rfl⟩ <;> (try simp only [kM, kN, kO])) | (refine qEf ?_; try intro _)) <;> ((try simp only [kM, kN, kO]); refine tl_nil ?_; refine rNext ?_))))
      all_goals (first | refine rMv 18 ?_ | refine rEx 19 ?_)
      all_goals (first | refine rEx 19 ?_ | refine rEx 20 ?_)
      all_goals (first | refine rEx 20 ?_ | refine rEx 21 ?_)
      all_goals (first | refine rEx 21 ?_ | (refine rStep (i := 22) ?_; ((try refine qWant ?_); (first | (refine qEf ?_; try intro _)) <;> ((try simp only [kM, kN, kO]); refine tl_nil ?_; refine rNext ?_))))
      all_goals (refine rStep (i := 23) ?_; ((try refine qWant ?_); (first | (refine qEf ?_; try intro _)) <;> ((try simp only [kM, kN, kO]); refine tl_nil ?_; refine rNext ?_)))
      all_goals refine rFull ?_
      all_goals refine rAs 24 ?_
      all_goals refine rAs 25 ?_
      all_goals refine rDone ?_
      all_goals (repeat' (first | (refine iBu ?_; refine tl_y (y_buildN rfl) rfl rfl ?_) | (refine i_op ?_; first | (refine i_qq ?_; refine qQ ?_) | refine qEf ?_) | refine tl_nil ?_ | (refine i_tc ?_; refine qTc ?_) | (refine i_te ?_; refine qTe ?_) | intro _))
      all_goals exact qE ⟨hle1, nilCV, a, n, c, rfl, CI.nil, (h.mono hle1).flag true, rfl⟩
theorem rowFit_z : RowFit ztR := ⟨by decide, by decide⟩
theorem takeRow_bad {l : List UInt8} (h : (takeRowR l).2.2 ≠ 0) : (takeRowR l).1 = ztR ∧ (takeRowR l).2.1 = 0 := by
  unfold takeRowR at h ⊢
  dsimp only at h ⊢
  generalize rowR l 0 false = r at *
  obtain ⟨x, l2, st2, b2⟩ := r
  dsimp only at h ⊢
  unfold takenE at h
  unfold takenN
  cases b2
  · simp only [Bool.false_eq_true, if_false] at h ⊢
    simp [h]
  · simp
theorem rtakenR_spec (ρ : Hp) (tb br : Nat) (v : RV) (r : Rc) (s : RS3) {a n c ra rn rc Rs} (h : RdAt ρ a n c ra rn rc Rs s) :
    Spec Tryz.prog 167 [.pointer (some ⟨tb, 0, none⟩), .func (.func 168) ⟨[]⟩ ⟨[]⟩] ρ (rdL tb br a n c ra rn rc v r s)
      (fun z ρ' L' => ρ.le ρ' ∧ RowFit (tkT takeRowR ztR s).1 ∧ ∃ a' n' c', z = .agg ⟨rowV (tkT takeRowR ztR s).1⟩ ∧ RdAt ρ' a' n' c' ra rn rc Rs (tkT takeRowR ztR s).2 ∧ L' = rdL tb br a' n' c' ra rn rc v r (tkT takeRowR ztR s).2) := by
  have hok := rok_spec ρ tb br a n c ra rn rc v r s
  have hsl := h.at'.len
  have hrl := h.rest.len
  have hrb := h.big
  have hrc := h.rcap
  have hcap := h.cap
  obtain ⟨X, hX⟩ := h.suf
  have hXl := congrArg List.length hX
  rw [List.length_append] at hXl
  refine spec_enter Tryz.func167 rfl rfl rfl fun u R => ?_
  simp only [argsE, List.cons_append, List.nil_append]
  cases ho : okS s
  · rw [ho] at hok
    rw [tkT_fst_bad ho]
    repeat' (first | (refine tl_is (.func 88) ?_; refine qC rfl rfl (hok) ?_; rintro v ρ' L' hle ⟨rfl, rfl, rfl⟩ <;> (try simp only [kM, kN, kO])) | (refine iBu ?_; refine tl_y (y_buildN rfl) rfl rfl ?_) | (refine i_op ?_; first | (refine i_qq ?_; refine qQ ?_) | refine qEf ?_) | refine tl_nil ?_ | (refine i_tc ?_; refine qTc ?_) | (refine i_te ?_; refine qTe ?_) | intro _)
    exact qE ⟨Hp.le_refl _, rowFit_z, a, n, c, rfl, h, rfl⟩
  · rw [ho] at hok
    obtain ⟨l, st, bad⟩ := s
    have h2 := okS_iff ho
    simp only [Prod.mk.injEq] at h2
    obtain ⟨rfl, rfl⟩ := h2
    dsimp only at hsl hX hXl
    have hlo : ((rn : Int) - (n : Int)).toNat = rn - n := by omega
    have hsub := h.rest.sub (lo' := ((rn : Int) - (n : Int)).toNat) (hi' := rn) (by omega) (Nat.le_refl _) (cap := rc) hrc
    have hdl : (List.drop ((rn : Int) - (n : Int)).toNat Rs).take (rn - ((rn : Int) - (n : Int)).toNat) = l := by
      rw [hlo, hX, show rn - n = X.length by omega, List.drop_left' rfl, List.take_of_length_le (by omega)]
    rw [hdl] at hsub
    have htc := takeRow_spec ρ _ _ (rc - ((rn : Int) - (n : Int)).toNat) l hsub (by omega)
    by_cases he : (takeRowR l).2.2 = 0
    · obtain ⟨m, e1, hm, g1, g2, g3⟩ := takeRow_ok he
      have hraw := fun ρ (h : SIn ρ u8c a n l) => raw_spec ρ br a n c l h hcap 0 m (by omega)
      have hskip := fun {ρ a' n' c'} (h : RdAt ρ a n c ra rn rc Rs (l, 0, false)) (h1 : SIn ρ u8c a' n' (rawR m l 0).2.1) (h2 : n' ≤ c') => h.skip (m : Int) (by simpa using h1) h2
      rw [tkT_ok ho he]
      dsimp only
      rw [e1] at htc ⊢
      rw [he] at htc
      unfold skipS at hskip ⊢
      simp only [Int.toNat_natCast] at hskip ⊢
      generalize (takeRowR l).1 = x at *
      generalize rawR m l 0 = q at *
      repeat' (first | (refine tl_is (.func 88) ?_; refine qC rfl rfl (hok) ?_; rintro v ρ' L' hle ⟨rfl, rfl, rfl⟩ <;> (try simp only [kM, kN, kO])) | (refine iBu ?_; refine tl_y (y_buildN rfl) rfl rfl ?_) | (refine i_op ?_; first | (refine i_qq ?_; refine qQ ?_) | refine qEf ?_) | refine tl_nil ?_ | (refine i_tc ?_; refine qTc ?_) | (refine i_te ?_; refine qTe ?_) | intro _)
      refine tc_any (Stays _ _ _) stays_refl ?_
      all_goals refine rMv 0 ?_
      all_goals refine rMv 1 ?_
      all_goals refine rNc 2 ?_
      all_goals refine rFa 3 ?_
      all_goals refine rLd 4 ?_
      all_goals refine rMv 5 ?_
      all_goals refine rNc 6 ?_
      all_goals refine rFa 7 ?_
      all_goals refine rLd 8 ?_
      all_goals refine rBi 9 ?_
      all_goals refine rMv 10 ?_
      all_goals refine rNc 11 ?_
      all_goals refine rFa 12 ?_
      all_goals refine rLd 13 ?_
      all_goals (refine rStep2 (i := 14) (j := 22) ?_ ?_ <;> ((try refine qWant ?_); (first | (refine tl_is (.func 89) ?_; refine qC rfl rfl (left_spec _ br a n c 0) ?_; rintro v ρ' L' hle ⟨rfl, rfl, rfl⟩ <;> (try simp only [kM, kN, kO])) | (refine qEf ?_; try intro _)) <;> ((try simp only [kM, kN, kO]); refine tl_nil ?_; refine rNext ?_)))
      all_goals (first | refine rSb 15 ?_ | (refine rStep (i := 14) ?_; ((try refine qWant ?_); (first | (refine tl_is (.func 89) ?_; refine qC rfl rfl (left_spec _ br a n c 0) ?_; rintro v ρ' L' hle ⟨rfl, rfl, rfl⟩ <;> (try simp only [kM, kN, kO])) | (refine qEf ?_; try intro _)) <;> ((try simp only [kM, kN, kO]); refine tl_nil ?_; refine rNext ?_))))
      all_goals (first | refine rSb 15 ?_ | refine rSl 16 ?_)
      all_goals (first | refine rSl 16 ?_ | (refine rStep2 (i := 17) (j := 22) ?_ ?_ <;> ((try refine qWant ?_); (first | (refine tl_is (.tmp 14) ?_; refine qC rfl rfl (htc) ?_; rintro v ρ' L' hle ⟨rfl, hle1, rfl⟩ <;> (try simp only [kM, kN, kO])) | (refine qEf ?_; try intro _)) <;> ((try simp only [kM, kN, kO]); refine tl_nil ?_; refine rNext ?_))))
      all_goals (first | refine rMv 18 ?_ | (refine rStep (i := 17) ?_; ((try refine qWant ?_); (first | (refine tl_is (.tmp 14) ?_; refine qC rfl rfl (htc) ?_; rintro v ρ' L' hle ⟨rfl, hle1, rfl⟩ <;> (try simp only [kM, kN, kO])) | (refine qEf ?_; try intro _)) <;> ((try simp only [kM, kN, kO]); refine tl_nil ?_; refine rNext ?_))))
      all_goals (first | refine rMv 18 ?_ | refine rEx 19 ?_)
      all_goals (first | refine rEx 19 ?_ | refine rEx 20 ?_)
      all_goals (first | refine rEx 20 ?_ | refine rEx 21 ?_)
      all_goals (first | refine rEx 21 ?_ | (refine rStep (i := 22) ?_; ((try refine qWant ?_); (first | (refine qEf ?_; try intro _)) <;> ((try simp only [kM, kN, kO]); refine tl_nil ?_; refine rNext ?_))))
      all_goals (refine rStep (i := 23) ?_; ((try refine qWant ?_); (first | (refine qEf ?_; try intro _)) <;> ((try simp only [kM, kN, kO]); refine tl_nil ?_; refine rNext ?_)))
      all_goals refine rFull ?_
      all_goals refine rAs 24 ?_
      all_goals refine rAs 25 ?_
      all_goals refine rDone ?_
      all_goals (repeat' (first | (refine tl_is (.func 236) ?_; refine qC rfl rfl (hraw _ (h.at'.mono (by assumption))) ?_; rintro v ρ' L' hle ⟨hle2, va, vn, vc, a', n', c', rfl, hvc, hs1, hs2, hc', rfl⟩ <;> (try simp only [kM, kN, kO])) | (refine iBu ?_; refine tl_y (y_buildN rfl) rfl rfl ?_) | (refine i_op ?_; first | (refine i_qq ?_; refine qQ ?_) | refine qEf ?_) | refine tl_nil ?_ | (refine i_tc ?_; refine qTc ?_) | (refine i_te ?_; refine qTe ?_) | intro _))
      all_goals exact qE ⟨Hp.le_trans hle1 hle2, g3, a', n', c', rfl, hskip (h.mono (Hp.le_trans hle1 hle2)) hs2 hc', rfl⟩
    · rw [tkT_err ho he]
      obtain ⟨f1, f2⟩ := takeRow_bad he
      rw [f1, f2] at htc
      dsimp only
      generalize (takeRowR l).2.2 = e at *
      repeat' (first | (refine tl_is (.func 88) ?_; refine qC rfl rfl (hok) ?_; rintro v ρ' L' hle ⟨rfl, rfl, rfl⟩ <;> (try simp only [kM, kN, kO])) | (refine iBu ?_; refine tl_y (y_buildN rfl) rfl rfl ?_) | (refine i_op ?_; first | (refine i_qq ?_; refine qQ ?_) | refine qEf ?_) | refine tl_nil ?_ | (refine i_tc ?_; refine qTc ?_) | (refine i_te ?_; refine qTe ?_) | intro _)
      refine tc_any (Stays _ _ _) stays_refl ?_
      all_goals refine rMv 0 ?_
      all_goals refine rMv 1 ?_
      all_goals refine rNc 2 ?_
      all_goals refine rFa 3 ?_
      all_goals refine rLd 4 ?_
      all_goals refine rMv 5 ?_
      all_goals refine rNc 6 ?_
      all_goals refine rFa 7 ?_
      all_goals refine rLd 8 ?_
      all_goals refine rBi 9 ?_
      all_goals refine rMv 10 ?_
      all_goals refine rNc 11 ?_
      all_goals refine rFa 12 ?_
      all_goals refine rLd 13 ?_
      all_goals (refine rStep2 (i := 14) (j := 22) ?_ ?_ <;> ((try refine qWant ?_); (first | (refine tl_is (.func 89) ?_; refine qC rfl rfl (left_spec _ br a n c 0) ?_; rintro v ρ' L' hle ⟨rfl, rfl, rfl⟩ <;> (try simp only [kM, kN, kO])) | (refine qEf ?_; try intro _)) <;> ((try simp only [kM, kN, kO]); refine tl_nil ?_; refine rNext ?_)))
      all_goals (first | refine rSb 15 ?_ | (refine rStep (i := 14) ?_; ((try refine qWant ?_); (first | (refine tl_is (.func 89) ?_; refine qC rfl rfl (left_spec _ br a n c 0) ?_; rintro v ρ' L' hle ⟨rfl, rfl, rfl⟩ <;> (try simp only [kM, kN, kO])) | (refine qEf ?_; try intro _)) <;> ((try simp only [kM, kN, kO]); refine tl_nil ?_; refine rNext ?_))))
      all_goals (first | refine rSb 15 ?_ | refine rSl 16 ?_)
      all_goals (first | refine rSl 16 ?_ | (refine rStep2 (i := 17) (j := 22) ?_ ?_ <;> ((try refine qWant ?_); (first | (refine tl_is (.tmp 14) ?_; refine qC rfl rfl (htc) ?_; rintro v ρ' L' hle ⟨rfl, hle1, rfl⟩ <;> (try simp only [kM, kN, kO])) | (refine qEf ?_; try intro _)) <;> ((try simp only [kM, kN, kO]); refine tl_nil ?_; refine rNext ?_))))
      all_goals (first | refine rMv 18 ?_ | (refine rStep (i := 17) ?_; ((try refine qWant ?_); (first | (refine tl_is (.tmp 14) ?_; refine qC rfl rfl (htc) ?_; rintro v ρ' L' hle ⟨rfl, hle1, rfl⟩ <;> (try simp only [kM, kN, kO])) | (refine qEf ?_; try intro _)) <;> ((try simp only [kM, kN, kO]); refine tl_nil ?_; refine rNext ?_))))
      all_goals (first | refine rMv 18 ?_ | refine rEx 19 ?_)
      all_goals (first | refine rEx 19 ?_ | refine rEx 20 ?_)
      all_goals (first | refine rEx 20 ?_ | refine rEx 21 ?_)
      all_goals (first | refine rEx 21 ?_ | (refine rStep (i := 22) ?_; ((try refine qWant ?_); (first | (refine qEf ?_; try intro _)) <;> ((try simp only [kM, kN, kO]); refine tl_nil ?_; refine rNext ?_))))
      all_goals (refine rStep (i := 23) ?_; ((try refine qWant ?_); (first | (refine qEf ?_; try intro _)) <;> ((try simp only [kM, kN, kO]); refine tl_nil ?_; refine rNext ?_)))
      all_goals refine rFull ?_
      all_goals refine rAs 24 ?_
      all_goals refine rAs 25 ?_
      all_goals refine rDone ?_
      all_goals (repeat' (first | (refine iBu ?_; refine tl_y (y_buildN rfl) rfl rfl ?_) | (refine i_op ?_; first | (refine i_qq ?_; refine qQ ?_) | refine qEf ?_) | refine tl_nil ?_ | (refine i_tc ?_; refine qTc ?_) | (refine i_te ?_; refine qTe ?_) | intro _))
      all_goals exact qE ⟨hle1, rowFit_z, a, n, c, rfl, (h.mono hle1).flag true, rfl⟩
end Go.Proofs.E

namespace Go.Proofs.E
open Go
set_option linter.unusedVariables false
set_option linter.unusedSimpArgs false
set_option linter.unusedSectionVars false
set_option maxRecDepth 4000
set_option maxHeartbeats 1000000
attribute [local irreducible] Yl TL TC TE Spec YSpec R1 Hp.le EnvLe TS TR YS Stays
-- BN
abbrev cbC (cb tb : Nat) : List (Nat × Obj) := [(cb, .cells ⟨[.pointer (some ⟨tb, 0, none⟩)]⟩ 134 (0, 0))]
theorem rchange1_spec (ρ : Hp) (tb br cb : Nat) (v : RV) (r : Rc) (s : RS3) {a n c ra rn rc Rs} (h : RdAt ρ a n c ra rn rc Rs s) :
    Spec Tryz.prog 162 [.pointer (some ⟨cb, 0, none⟩)] ρ (cbC cb tb :: rdL tb br a n c ra rn rc v r s)
      (fun z ρ' L' => ρ.le ρ' ∧ ∃ x a' n' c', z = .agg ⟨imV x⟩ ∧ Im.In ρ' x ∧ x.plain = (imD (decide (r.kind = 2)) s).1 ∧ RdAt ρ' a' n' c' ra rn rc Rs (imD (decide (r.kind = 2)) s).2 ∧ L' = cbC cb tb :: rdL tb br a' n' c' ra rn rc v r (imD (decide (r.kind = 2)) s).2) := by
  have h8 := n8_spec ρ br h
  have hlt := rdN_lt 1 s
  unfold imD
  rw [show rdL tb br a n c ra rn rc v r s = [reC tb br ra rn rc v r (rdN 1 s).2.2.2, rdC br a n c s.2.1] from rfl]
  generalize rdN 1 s = p at *
  obtain ⟨x1, s1⟩ := p
  dsimp only at h8 hlt ⊢
  unfold imDa imDb
  have hC := fun ρ a n c (h : RdAt ρ a n c ra rn rc Rs s1) => rtakenC_spec ρ tb br v r s1 h
  refine spec_enter Tryz.func162 rfl rfl rfl fun u R => ?_
  simp only [argsE, List.cons_append, List.nil_append]
  by_cases h2 : r.kind = 2
  · simp only [decide_eq_true h2, if_true]
    generalize tkT takeContR ztC s1 = q1 at *
    obtain ⟨b, s2⟩ := q1
    dsimp only at hC ⊢
    have hC2 := fun ρ a n c (h : RdAt ρ a n c ra rn rc Rs s2) => rtakenC_spec ρ tb br v r s2 h
    generalize tkT takeContR ztC s2 = q2 at *
    obtain ⟨ca, s3⟩ := q2
    dsimp only at hC2 ⊢
    repeat' (first | (refine tl_is (.func 80) ?_; refine qC rfl rfl (h8) ?_; rintro v ρ' L' hle ⟨rfl, rfl, a1, n1, c1, h1, rfl⟩ <;> (try simp only [kM, kN, kO])) | (refine tl_is (.func 163) ?_; refine qC rfl rfl (hC _ _ _ _ h1) ?_; rintro v ρ' L' hle ⟨hl2, w2, a2, n2, c2, rfl, hw2, g2, rfl⟩ <;> (try simp only [kM, kN, kO])) | (refine tl_is (.func 163) ?_; refine qC rfl rfl (hC2 _ _ _ _ g2) ?_; rintro v ρ' L' hle ⟨hl3, w3, a3, n3, c3, rfl, hw3, g3, rfl⟩ <;> (try simp only [kM, kN, kO])) | (refine iBu ?_; refine tl_y (y_buildN rfl) rfl rfl ?_) | (refine i_op ?_; first | (refine i_qq ?_; refine qQ ?_) | refine qEf ?_) | refine tl_nil ?_ | (refine i_tc ?_; refine qTc ?_) | (refine i_te ?_; refine qTe ?_) | intro _)
    exact qE ⟨Hp.le_trans hl2 hl3, ⟨x1, w2, b, w3, ca⟩, a3, n3, c3, rfl, ⟨hw2.mono hl3, hw3⟩, rfl, g3, rfl⟩
  · simp only [decide_eq_false h2, Bool.false_eq_true, if_false]
    generalize tkT takeContR ztC s1 = q1 at *
    obtain ⟨ca, s2⟩ := q1
    dsimp only at hC ⊢
    repeat' (first | (refine tl_is (.func 80) ?_; refine qC rfl rfl (h8) ?_; rintro v ρ' L' hle ⟨rfl, rfl, a1, n1, c1, h1, rfl⟩ <;> (try simp only [kM, kN, kO])) | (refine tl_is (.func 163) ?_; refine qC rfl rfl (hC _ _ _ _ h1) ?_; rintro v ρ' L' hle ⟨hl2, w2, a2, n2, c2, rfl, hw2, g2, rfl⟩ <;> (try simp only [kM, kN, kO])) | (refine iBu ?_; refine tl_y (y_buildN rfl) rfl rfl ?_) | (refine i_op ?_; first | (refine i_qq ?_; refine qQ ?_) | refine qEf ?_) | refine tl_nil ?_ | (refine i_tc ?_; refine qTc ?_) | (refine i_te ?_; refine qTe ?_) | intro _)
    exact qE ⟨hl2, ⟨x1, nilCV, ztC, w2, ca⟩, a2, n2, c2, rfl, ⟨CI.nil, hw2⟩, rfl, g2, rfl⟩
theorem rdone1_spec (ρ : Hp) (tb br cb : Nat) (v : RV) (r : Rc) (s : RS3) {a n c ra rn rc Rs} (h : RdAt ρ a n c ra rn rc Rs s) :
    Spec Tryz.prog 166 [.pointer (some ⟨cb, 0, none⟩)] ρ (cbC cb tb :: rdL tb br a n c ra rn rc v r s)
      (fun z ρ' L' => ρ.le ρ' ∧ z = .agg ⟨stpV (stpD s).1⟩ ∧ RowFit (stpD s).1.row ∧ ∃ a' n' c', RdAt ρ' a' n' c' ra rn rc Rs (stpD s).2 ∧ L' = cbC cb tb :: rdL tb br a' n' c' ra rn rc v r (stpD s).2) := by
  have h8 := n8_spec ρ br h
  have hlt := rdN_lt 1 s
  unfold stpD
  rw [show rdL tb br a n c ra rn rc v r s = [reC tb br ra rn rc v r (rdN 1 s).2.2.2, rdC br a n c s.2.1] from rfl]
  generalize rdN 1 s = p at *
  obtain ⟨x1, s1⟩ := p
  dsimp only at h8 hlt ⊢
  refine spec_enter Tryz.func166 rfl rfl rfl fun u R => ?_
  simp only [argsE, List.cons_append, List.nil_append]
  by_cases h23 : x1 = 2 ∨ x1 = 3
  · unfold stpDt stpDr
    rw [if_pos h23]
    have hC := fun ρ a n c (h : RdAt ρ a n c ra rn rc Rs s1) => rtakenR_spec ρ tb br v r s1 h
    generalize tkT takeRowR ztR s1 = q1 at *
    obtain ⟨b, s2⟩ := q1
    dsimp only at hC ⊢
    rcases h23 with e | e
    all_goals (repeat' (first | (refine tl_is (.func 80) ?_; refine qC rfl rfl (h8) ?_; rintro v ρ' L' hle ⟨rfl, rfl, a1, n1, c1, h1, rfl⟩ <;> (try simp only [kM, kN, kO])) | (refine tl_is (.func 167) ?_; refine qC rfl rfl (hC _ _ _ _ h1) ?_; rintro v ρ' L' hle ⟨hl2, hf, a2, n2, c2, rfl, g2, rfl⟩ <;> (try simp only [kM, kN, kO])) | (refine iBu ?_; refine tl_y (y_buildN rfl) rfl rfl ?_) | (refine i_op ?_; first | (refine i_qq ?_; refine qQ ?_) | refine qEf ?_) | refine tl_nil ?_ | (refine i_tc ?_; refine qTc ?_) | (refine i_te ?_; refine qTe ?_) | intro _))
    all_goals exact qE ⟨hl2, rfl, hf, a2, n2, c2, g2, rfl⟩
  · unfold stpDt stpDi
    rw [if_neg h23]
    have k8 := fun ρ a n c (h : RdAt ρ a n c ra rn rc Rs s1) => n8_spec ρ br h
    have hlt1 := rdN_lt 1 s1
    rw [show s1.2.2 = (rdN 1 s1).2.2.2 from rfl]
    generalize rdN 1 s1 = p1 at *
    obtain ⟨x2, s2⟩ := p1
    dsimp only at k8 hlt1 ⊢
    have k16 := fun ρ a n c (h : RdAt ρ a n c ra rn rc Rs s2) => n16_spec ρ br h
    have hlt2 := rdN_lt 2 s2
    rw [show s2.2.2 = (rdN 2 s2).2.2.2 from rfl]
    generalize rdN 2 s2 = p2 at *
    obtain ⟨x3, s3⟩ := p2
    dsimp only at k16 hlt2 ⊢
    unfold stpDb
    by_cases hx1 : x1 = 1
    · rw [if_pos hx1]
      have k64 := fun ρ a n c (h : RdAt ρ a n c ra rn rc Rs s3) => n64_spec ρ br h
      have hlt3 := rdN_lt 8 s3
      rw [show s3.2.2 = (rdN 8 s3).2.2.2 from rfl]
      generalize rdN 8 s3 = p3 at *
      obtain ⟨x4, s4⟩ := p3
      dsimp only at k64 hlt3 ⊢
      repeat' (first | (refine tl_is (.func 80) ?_; refine qC rfl rfl (h8) ?_; rintro v ρ' L' hle ⟨rfl, rfl, a1, n1, c1, h1, rfl⟩ <;> (try simp only [kM, kN, kO])) | (refine tl_is (.func 80) ?_; refine qC rfl rfl (k8 _ _ _ _ h1) ?_; rintro v ρ' L' hle ⟨rfl, rfl, a2, n2, c2, h2, rfl⟩ <;> (try simp only [kM, kN, kO])) | (refine tl_is (.func 169) ?_; refine qC rfl rfl (k16 _ _ _ _ h2) ?_; rintro v ρ' L' hle ⟨rfl, rfl, a3, n3, c3, h3, rfl⟩ <;> (try simp only [kM, kN, kO])) | (refine tl_is (.func 81) ?_; refine qC rfl rfl (k64 _ _ _ _ h3) ?_; rintro v ρ' L' hle ⟨rfl, rfl, a4, n4, c4, h4, rfl⟩ <;> (try simp only [kM, kN, kO])) | (refine iBu ?_; refine tl_y (y_buildN rfl) rfl rfl ?_) | (refine i_op ?_; first | (refine i_qq ?_; refine qQ ?_) | refine qEf ?_) | refine tl_nil ?_ | (refine i_tc ?_; refine qTc ?_) | (refine i_te ?_; refine qTe ?_) | intro _)
      exact qE ⟨Hp.le_refl _, rfl, ⟨by dsimp only; omega, by dsimp only; decide⟩, a4, n4, c4, h4, rfl⟩
    · rw [if_neg hx1]
      repeat' (first | (refine tl_is (.func 80) ?_; refine qC rfl rfl (h8) ?_; rintro v ρ' L' hle ⟨rfl, rfl, a1, n1, c1, h1, rfl⟩ <;> (try simp only [kM, kN, kO])) | (refine tl_is (.func 80) ?_; refine qC rfl rfl (k8 _ _ _ _ h1) ?_; rintro v ρ' L' hle ⟨rfl, rfl, a2, n2, c2, h2, rfl⟩ <;> (try simp only [kM, kN, kO])) | (refine tl_is (.func 169) ?_; refine qC rfl rfl (k16 _ _ _ _ h2) ?_; rintro v ρ' L' hle ⟨rfl, rfl, a3, n3, c3, h3, rfl⟩ <;> (try simp only [kM, kN, kO])) | (refine iBu ?_; refine tl_y (y_buildN rfl) rfl rfl ?_) | (refine i_op ?_; first | (refine i_qq ?_; refine qQ ?_) | refine qEf ?_) | refine tl_nil ?_ | (refine i_tc ?_; refine qTc ?_) | (refine i_te ?_; refine qTe ?_) | intro _)
      exact qE ⟨Hp.le_refl _, rfl, ⟨by dsimp only; omega, by dsimp only; decide⟩, a3, n3, c3, h3, rfl⟩
theorem rckpt2_spec (ρ : Hp) (tb br cb : Nat) (v : RV) (r : Rc) (s : RS3) {a n c ra rn rc Rs} (h : RdAt ρ a n c ra rn rc Rs s) :
    Spec Tryz.prog 173 [.pointer (some ⟨cb, 0, none⟩)] ρ (cbC cb tb :: rdL tb br a n c ra rn rc v r s)
      (fun z ρ' L' => ρ.le ρ' ∧ z = .agg ⟨ckPV (ckPD s).1⟩ ∧ True ∧ ∃ a' n' c', RdAt ρ' a' n' c' ra rn rc Rs (ckPD s).2 ∧ L' = cbC cb tb :: rdL tb br a' n' c' ra rn rc v r (ckPD s).2) := by
  have h8 := n8_spec ρ br h
  have hlt := rdN_lt 1 s
  unfold ckPD
  rw [show rdL tb br a n c ra rn rc v r s = [reC tb br ra rn rc v r (rdN 1 s).2.2.2, rdC br a n c s.2.1] from rfl]
  generalize rdN 1 s = p at *
  obtain ⟨x1, s1⟩ := p
  dsimp only at h8 hlt ⊢
  unfold ckPr
  have k64 := fun ρ a n c (h : RdAt ρ a n c ra rn rc Rs s1) => n64_spec ρ br h
  have hlt3 := rdN_lt 8 s1
  rw [show s1.2.2 = (rdN 8 s1).2.2.2 from rfl]
  generalize rdN 8 s1 = p3 at *
  obtain ⟨x4, s4⟩ := p3
  dsimp only at k64 hlt3 ⊢
  refine spec_enter Tryz.func173 rfl rfl rfl fun u R => ?_
  simp only [argsE, List.cons_append, List.nil_append]
  repeat' (first | (refine tl_is (.func 80) ?_; refine qC rfl rfl (h8) ?_; rintro v ρ' L' hle ⟨rfl, rfl, a1, n1, c1, h1, rfl⟩ <;> (try simp only [kM, kN, kO])) | (refine tl_is (.func 81) ?_; refine qC rfl rfl (k64 _ _ _ _ h1) ?_; rintro v ρ' L' hle ⟨rfl, rfl, a4, n4, c4, h4, rfl⟩ <;> (try simp only [kM, kN, kO])) | (refine iBu ?_; refine tl_y (y_buildN rfl) rfl rfl ?_) | (refine i_op ?_; first | (refine i_qq ?_; refine qQ ?_) | refine qEf ?_) | refine tl_nil ?_ | (refine i_tc ?_; refine qTc ?_) | (refine i_te ?_; refine qTe ?_) | intro _)
  exact qE ⟨Hp.le_refl _, rfl, trivial, a4, n4, c4, h4, rfl⟩
theorem rckpt1_spec (ρ : Hp) (tb br cb : Nat) (v : RV) (r : Rc) (s : RS3) {a n c ra rn rc Rs} (h : RdAt ρ a n c ra rn rc Rs s) :
    Spec Tryz.prog 171 [.pointer (some ⟨cb, 0, none⟩)] ρ (cbC cb tb :: rdL tb br a n c ra rn rc v r s)
      (fun z ρ' L' => ρ.le ρ' ∧ z = .agg ⟨ckTV (ckTD s).1⟩ ∧ True ∧ ∃ a' n' c', RdAt ρ' a' n' c' ra rn rc Rs (ckTD s).2 ∧ L' = cbC cb tb :: rdL tb br a' n' c' ra rn rc v r (ckTD s).2) := by
  have h8 := n32_spec ρ br h
  have hlt := rdN_lt 4 s
  unfold ckTD
  rw [show rdL tb br a n c ra rn rc v r s = [reC tb br ra rn rc v r (rdN 4 s).2.2.2, rdC br a n c s.2.1] from rfl]
  generalize rdN 4 s = p at *
  obtain ⟨x1, s1⟩ := p
  dsimp only at h8 hlt ⊢
  unfold ckTf
  have k1 := fun ρ a n c (h : RdAt ρ a n c ra rn rc Rs s1) => n64_spec ρ br h
  have hlt1 := rdN_lt 8 s1
  rw [show s1.2.2 = (rdN 8 s1).2.2.2 from rfl]
  generalize rdN 8 s1 = p1 at *
  obtain ⟨x2, s2⟩ := p1
  dsimp only at k1 hlt1 ⊢
  unfold ckTl
  have k2 := fun ρ a n c (h : RdAt ρ a n c ra rn rc Rs s2) => n64_spec ρ br h
  have hlt2 := rdN_lt 8 s2
  rw [show s2.2.2 = (rdN 8 s2).2.2.2 from rfl]
  generalize rdN 8 s2 = p2 at *
  obtain ⟨x3, s3⟩ := p2
  dsimp only at k2 hlt2 ⊢
  unfold ckTu
  have k3 := fun ρ a n c (h : RdAt ρ a n c ra rn rc Rs s3) => n64_spec ρ br h
  have hlt3 := rdN_lt 8 s3
  rw [show s3.2.2 = (rdN 8 s3).2.2.2 from rfl]
  generalize rdN 8 s3 = p3 at *
  obtain ⟨x4, s4⟩ := p3
  dsimp only at k3 hlt3 ⊢
  unfold ckTe
  have k4 := fun ρ a n c (h : RdAt ρ a n c ra rn rc Rs s4) => n8_spec ρ br h
  have hlt4 := rdN_lt 1 s4
  rw [show s4.2.2 = (rdN 1 s4).2.2.2 from rfl]
  generalize rdN 1 s4 = p4 at *
  obtain ⟨x5, s5⟩ := p4
  dsimp only at k4 hlt4 ⊢
  refine spec_enter Tryz.func171 rfl rfl rfl fun u R => ?_
  simp only [argsE, List.cons_append, List.nil_append]
  repeat' (first | (refine tl_is (.func 82) ?_; refine qC rfl rfl (h8) ?_; rintro v ρ' L' hle ⟨rfl, rfl, a1, n1, c1, h1, rfl⟩ <;> (try simp only [kM, kN, kO])) | (refine iBu ?_; refine tl_y (y_buildN rfl) rfl rfl ?_) | (refine i_op ?_; first | (refine i_qq ?_; refine qQ ?_) | refine qEf ?_) | refine tl_nil ?_ | (refine i_tc ?_; refine qTc ?_) | (refine i_te ?_; refine qTe ?_) | intro _)
  refine tc_any (Stays _ _ ([[(_, .cells ⟨[.pointer (some ⟨tb, 0, none⟩)]⟩ 134 (0, 0))], [(tb, _)]])) (stays_of (hT := tk) (Hp.le_refl _)) ?_
  all_goals refine rLd 0 ?_
  all_goals refine rNc 1 ?_
  all_goals refine rFa 2 ?_
  all_goals refine rLd 3 ?_
  all_goals refine rLd 5 ?_
  all_goals refine rNc 6 ?_
  all_goals refine rFa 7 ?_
  all_goals refine rLd 8 ?_
  all_goals refine rLd 10 ?_
  all_goals refine rNc 11 ?_
  all_goals refine rFa 12 ?_
  all_goals refine rLd 13 ?_
  all_goals (refine rStep (i := 4) ?_; ((try refine qWant ?_); (first | (refine tl_is (.func 81) ?_; refine qC rfl rfl (k1 _ _ _ _ h1) ?_; rintro v ρ' L' hle ⟨rfl, rfl, a2, n2, c2, g2, rfl⟩ <;> (try simp only [kM, kN, kO])) | (refine tl_is (.func 81) ?_; refine qC rfl rfl (k2 _ _ _ _ g2) ?_; rintro v ρ' L' hle ⟨rfl, rfl, a3, n3, c3, g3, rfl⟩ <;> (try simp only [kM, kN, kO])) | (refine tl_is (.func 81) ?_; refine qC rfl rfl (k3 _ _ _ _ g3) ?_; rintro v ρ' L' hle ⟨rfl, rfl, a4, n4, c4, g4, rfl⟩ <;> (try simp only [kM, kN, kO])) | (refine qEf ?_; try intro _)) <;> ((try simp only [kM, kN, kO]); refine tl_nil ?_; refine rNext ?_)))
  all_goals refine rFa 15 ?_
  all_goals (refine rStep (i := 9) ?_; ((try refine qWant ?_); (first | (refine tl_is (.func 81) ?_; refine qC rfl rfl (k1 _ _ _ _ h1) ?_; rintro v ρ' L' hle ⟨rfl, rfl, a2, n2, c2, g2, rfl⟩ <;> (try simp only [kM, kN, kO])) | (refine tl_is (.func 81) ?_; refine qC rfl rfl (k2 _ _ _ _ g2) ?_; rintro v ρ' L' hle ⟨rfl, rfl, a3, n3, c3, g3, rfl⟩ <;> (try simp only [kM, kN, kO])) | (refine tl_is (.func 81) ?_; refine qC rfl rfl (k3 _ _ _ _ g3) ?_; rintro v ρ' L' hle ⟨rfl, rfl, a4, n4, c4, g4, rfl⟩ <;> (try simp only [kM, kN, kO])) | (refine qEf ?_; try intro _)) <;> ((try simp only [kM, kN, kO]); refine tl_nil ?_; refine rNext ?_)))
  all_goals (refine rStep (i := 14) ?_; ((try refine qWant ?_); (first | (refine tl_is (.func 81) ?_; refine qC rfl rfl (k1 _ _ _ _ h1) ?_; rintro v ρ' L' hle ⟨rfl, rfl, a2, n2, c2, g2, rfl⟩ <;> (try simp only [kM, kN, kO])) | (refine tl_is (.func 81) ?_; refine qC rfl rfl (k2 _ _ _ _ g2) ?_; rintro v ρ' L' hle ⟨rfl, rfl, a3, n3, c3, g3, rfl⟩ <;> (try simp only [kM, kN, kO])) | (refine tl_is (.func 81) ?_; refine qC rfl rfl (k3 _ _ _ _ g3) ?_; rintro v ρ' L' hle ⟨rfl, rfl, a4, n4, c4, g4, rfl⟩ <;> (try simp only [kM, kN, kO])) | (refine qEf ?_; try intro _)) <;> ((try simp only [kM, kN, kO]); refine tl_nil ?_; refine rNext ?_)))
  all_goals (refine rStep (i := 16) ?_; ((try refine qWant ?_); (first | (refine qEf ?_; try intro _)) <;> ((try simp only [kM, kN, kO]); refine tl_nil ?_; refine rNext ?_)))
  all_goals refine rFa 17 ?_
  all_goals (refine rStep (i := 18) ?_; ((try refine qWant ?_); (first | (refine qEf ?_; try intro _)) <;> ((try simp only [kM, kN, kO]); refine tl_nil ?_; refine rNext ?_)))
  all_goals refine rFa 19 ?_
  all_goals (refine rStep (i := 20) ?_; ((try refine qWant ?_); (first | (refine qEf ?_; try intro _)) <;> ((try simp only [kM, kN, kO]); refine tl_nil ?_; refine rNext ?_)))
  all_goals refine rDone ?_
  all_goals (repeat' (first | (refine tl_is (.func 80) ?_; refine qC rfl rfl (k4 _ _ _ _ g4) ?_; rintro v ρ' L' hle ⟨rfl, rfl, a5, n5, c5, g5, rfl⟩ <;> (try simp only [kM, kN, kO])) | (refine iBu ?_; refine tl_y (y_buildN rfl) rfl rfl ?_) | (refine i_op ?_; first | (refine i_qq ?_; refine qQ ?_) | refine qEf ?_) | refine tl_nil ?_ | (refine i_tc ?_; refine qTc ?_) | (refine i_te ?_; refine qTe ?_) | intro _))
  all_goals exact qE ⟨Hp.le_refl _, rfl, trivial, a5, n5, c5, g5, rfl⟩
end Go.Proofs.E

