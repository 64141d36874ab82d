/- The law RecordLays. Part 18 of 21. -/
import Derived.Test.YtjajdpfdhokkhaaGreatQ17
namespace Go.Proofs.E
open Go
set_option linter.unusedVariables false
set_option linter.unusedSimpArgs false
set_option linter.unusedSectionVars false
set_option maxRecDepth 4000
set_option maxHeartbeats 1000000
attribute [local irreducible] Yl TL TC TE Spec YSpec R1 Hp.le EnvLe TS TR YS Stays
theorem bytesR_spec (ρ : Hp) (w : CV) (c : Cont) (h : CIn ρ w c.rows c.kids) (hok : contOk c = true) (hir : ∀ r ∈ c.rows, r.id < 65536) (hik : ∀ k ∈ c.kids, k.id < 65536) :
    Spec Tryz.prog 114 [.agg ⟨contV c.kind w⟩] ρ [] (fun v ρ' L' => ρ.le ρ' ∧ ∃ a n c', v = .slice a n c' ∧ n ≤ c' ∧ SIn ρ' u8c a n (contB c) ∧ L' = []) := by
  obtain ⟨hkind, hrl, hkl, hrow, hkid⟩ := contOk_facts hok
  obtain ⟨kind, rows, kids⟩ := c
  obtain ⟨ra, rn, rc, ka, kn, kc⟩ := w
  obtain ⟨hr, hk, hrb, hkb, hrc, hkc⟩ := h
  dsimp only at hkind hrc hkc hr hk hrb hkb hrow hkid hrl hkl hir hik ⊢
  have hrn := hr.len
  have hkn := hk.len
  have hcr := lenB (n := rn) (by omega)
  have hck := lenB (n := kn) (by omega)
  have hkB := tB_eq (t := kind) (by omega) (by omega)
  refine spec_enter Tryz.func114 rfl rfl rfl fun u R => ?_
  simp only [argsE, List.cons_append, List.nil_append]
  dsimp only [contV]
  repeat' (first | (refine tl_buildSlice_s rfl rfl rfl rfl (by simp) rfl rfl (fun _ => ?_); simp only [hkB]) | (refine i_op ?_; first | (refine i_qq ?_; refine qQ ?_) | refine qEf ?_) | refine tl_nil ?_ | (refine i_tc ?_; refine qTc ?_) | (refine i_te ?_; refine qTe ?_) | intro _)
  rename_i b1 b2
  rw [show ([(b2, Obj.cells ⟨[u8c (tB kind)]⟩ 5 (0, 0))] : List (Nat × Obj)) = ownC (.slice (some ⟨b2, 0, none⟩) 1 1) ([tB kind].map u8c) [] 5 from rfl]
  have hown0 : OwnS (.slice (some ⟨b2, 0, none⟩) 1 1) 1 ([tB kind].map u8c) [] 1 := ⟨.inr ⟨b2, 1, rfl, rfl, rfl, Nat.le_refl _⟩⟩
  generalize Value.slice (some ⟨b2, 0, none⟩) 1 1 = v0 at *
  rcases hkind with ⟨rfl, rfl, rfl⟩ | ⟨rfl, rfl⟩ | ⟨rfl, rfl, hk1⟩
  · repeat' (first | (refine i_op ?_; first | (refine i_qq ?_; refine qQ ?_) | refine qEf ?_) | refine tl_nil ?_ | (refine i_tc ?_; refine qTc ?_) | (refine i_te ?_; refine qTe ?_) | intro _)
    refine te_freeze _ (h := Rem.here) (fun ρ6 hle6 hfz => ?_)
    obtain ⟨a6, c6, rfl, hc6, hs6⟩ := hown0.sIn hfz
    exact qE ⟨hle6, a6, _, c6, rfl, hc6, hs6, rfl⟩
  · have hX : ∀ B0, [tB 1] ++ [UInt8.ofNat rn] = B0 → B0.length = 2 := fun B0 e => by rw [← e]; rfl
    repeat' (first | (refine tl_buildSlice_s rfl rfl rfl rfl (by simp) rfl rfl (fun _ => ?_); simp only [hcr]) | (refine tl_app (ys := [u8c (UInt8.ofNat rn)]) (m := 1) rfl rfl hown0 (hR := by infer_instance) SrcV.lit rfl rfl (by decide) rfl (by omega) (by omega) rfl (fun v1 sp1 hown1 => ?_); rw [show [tB 1].map u8c ++ [u8c (UInt8.ofNat rn)] = (([tB 1] ++ [UInt8.ofNat rn]) ++ (rows.take 0).flatMap rowB).map u8c by simp] at hown1 ⊢) | (refine i_op ?_; first | (refine i_qq ?_; refine qQ ?_) | refine qEf ?_) | refine tl_nil ?_ | (refine i_tc ?_; refine qTc ?_) | (refine i_te ?_; refine qTe ?_) | intro _)
    generalize hB0 : [tB 1] ++ [UInt8.ofNat rn] = B0 at *
    have hBl := hX _ rfl
    clear hX
    refine tc_loop_g [(1, _), (2, _), (13, _), (24, _), (25, _)] (fun (ζ : (Nat) × (Hp) × (Value) × (List Value)) => [(26, .int .i64 ζ.1), (3, ζ.2.2.1)]) (fun (ζ : (Nat) × (Hp) × (Value) × (List Value)) => ζ.2.1) (fun (ζ : (Nat) × (Hp) × (Value) × (List Value)) => [ownC ζ.2.2.1 ((B0 ++ (rows.take ζ.1).flatMap rowB).map u8c) ζ.2.2.2 5, [(b1, .cells ⟨[.int .i64 1, .slice ra rn rc, .slice ka kn kc]⟩ 110 (0, 0))]]) (fun (ζ : (Nat) × (Hp) × (Value) × (List Value)) => ζ.1 ≤ rn ∧ ρ.le ζ.2.1 ∧ OwnS ζ.2.2.1 (B0 ++ (rows.take ζ.1).flatMap rowB).length ((B0 ++ (rows.take ζ.1).flatMap rowB).map u8c) ζ.2.2.2 1) (fun (ζ : (Nat) × (Hp) × (Value) × (List Value)) => rn - ζ.1) ((0, ρ, v1, sp1)) (⟨Nat.zero_le _, Hp.le_refl _, by simpa [hBl] using hown1⟩) ev_le ev_le rfl tk ?_
    rintro ⟨k, ρ1, v, sp⟩ hI
    try simp only [List.cons_append, List.nil_append, List.append_assoc, List.append_eq] at hI ⊢
    try dsimp only at hI ⊢
    obtain ⟨hkn0, hle1, hown⟩ := hI
    by_cases hlt : k < rn
    · obtain ⟨b, off, C, T, fr, rfl, hb, hfit, hc⟩ := (hr.mono hle1).get (show k < rows.length by omega)
      have hmem : rows[k]'(by omega) ∈ rows := List.getElem_mem _
      have hro := hrow _ hmem
      have hid := hir _ hmem
      have hts := flatMap_take_succ rowB rows k (by omega)
      have hfl := flatMap_le rowB 20 (rows.take k) (fun x hx => rowB_le (hrow x (List.mem_of_mem_take hx)))
      have htl : (rows.take k).length ≤ 4 := by simp; omega
      have hXl : (B0 ++ (rows.take k).flatMap rowB).length ≤ 100 := by simp only [List.length_append]; omega
      have hll : (B0 ++ (rows.take k).flatMap rowB).length + (rowB (rows[k]'(by omega))).length = (B0 ++ (rows.take (k + 1)).flatMap rowB).length := by rw [hts]; simp; omega
      have hmm : B0 ++ (rows.take k).flatMap rowB ++ rowB (rows[k]'(by omega)) = B0 ++ (rows.take (k + 1)).flatMap rowB := by rw [hts]; simp
      have hrb20 := rowB_le hro
      generalize rows[k]'(by omega) = x at *
      repeat' (first | (refine tl_is (.func 201) ?_; refine qC rfl rfl (rowR6_spec _ x hro hid) ?_; rintro v2 ρ2 L2 hle0 ⟨hle2, sp2, hown2, rfl⟩; simp only [List.cons_append, List.nil_append]; refine tl_freeze _ (h := Rem.here) (fun ρ3 hle3 hfz => ?_); obtain ⟨a3, c3, rfl, hc3, hs3⟩ := hown2.sIn hfz) | (refine tl_app (ys := (rowB x).map u8c) (m := (rowB x).length) rfl rfl hown (hR := by infer_instance) (SIn.srcV hs3) (by simp) (u8c_one _) (by decide) rfl (by omega) (by omega) rfl (fun v5 sp5 hown5 => ?_); rw [← List.map_append, hmm] at hown5 ⊢; rw [hll] at hown5) | (refine i_op ?_; first | (refine i_qq ?_; refine qQ ?_) | refine qEf ?_) | refine tl_nil ?_ | (refine i_tc ?_; refine qTc ?_) | (refine i_te ?_; refine qTe ?_) | intro _)
      refine te_round_g (k + 1, _, v5, sp5) (⟨hlt, Hp.le_trans hle1 (Hp.le_trans hle2 hle3), hown5⟩) ev_le ev_le rfl tk inferInstance (by first | omega | (dsimp only; omega))
    · have hk2 : k = rn := by omega
      subst hk2
      rw [List.take_of_length_le (by omega)] at hown ⊢
      have hfin : B0 ++ rows.flatMap rowB = contB ⟨1, rows, []⟩ := by rw [← hB0]; simp [contB, cntB, hrn]
      rw [hfin] at hown ⊢
      repeat' (first | (refine i_op ?_; first | (refine i_qq ?_; refine qQ ?_) | refine qEf ?_) | refine tl_nil ?_ | (refine i_tc ?_; refine qTc ?_) | (refine i_te ?_; refine qTe ?_) | intro _)
      refine te_freeze _ (h := Rem.here) (fun ρ6 hle6 hfz => ?_)
      obtain ⟨a6, c6, rfl, hc6, hs6⟩ := hown.sIn hfz
      exact qE ⟨Hp.le_trans hle1 hle6, a6, _, c6, rfl, hc6, hs6, rfl⟩
  · have hX : ∀ B0, [tB 2] ++ [UInt8.ofNat kn] = B0 → B0.length = 2 := fun B0 e => by rw [← e]; rfl
    repeat' (first | (refine tl_buildSlice_s rfl rfl rfl rfl (by simp) rfl rfl (fun _ => ?_); simp only [hck]) | (refine tl_app (ys := [u8c (UInt8.ofNat kn)]) (m := 1) rfl rfl hown0 (hR := by infer_instance) SrcV.lit rfl rfl (by decide) rfl (by omega) (by omega) rfl (fun v1 sp1 hown1 => ?_); rw [show [tB 2].map u8c ++ [u8c (UInt8.ofNat kn)] = (([tB 2] ++ [UInt8.ofNat kn]) ++ (kids.take 0).flatMap kidB).map u8c by simp] at hown1 ⊢) | (refine i_op ?_; first | (refine i_qq ?_; refine qQ ?_) | refine qEf ?_) | refine tl_nil ?_ | (refine i_tc ?_; refine qTc ?_) | (refine i_te ?_; refine qTe ?_) | intro _)
    generalize hB0 : [tB 2] ++ [UInt8.ofNat kn] = B0 at *
    have hBl := hX _ rfl
    clear hX
    refine tc_loop_g [(2, _), (45, _), (46, _)] (fun (ζ : (Nat) × (Value) × (List Value)) => [(47, .int .i64 ζ.1), (3, ζ.2.1)]) (fun (ζ : (Nat) × (Value) × (List Value)) => ρ) (fun (ζ : (Nat) × (Value) × (List Value)) => [ownC ζ.2.1 ((B0 ++ (kids.take ζ.1).flatMap kidB).map u8c) ζ.2.2 5]) (fun (ζ : (Nat) × (Value) × (List Value)) => ζ.1 ≤ kn ∧ OwnS ζ.2.1 (B0 ++ (kids.take ζ.1).flatMap kidB).length ((B0 ++ (kids.take ζ.1).flatMap kidB).map u8c) ζ.2.2 1) (fun (ζ : (Nat) × (Value) × (List Value)) => kn - ζ.1) ((0, v1, sp1)) (⟨Nat.zero_le _, by simpa [hBl] using hown1⟩) ev_le ev_le rfl tk ?_
    rintro ⟨j, v, sp⟩ hI
    try simp only [List.cons_append, List.nil_append, List.append_assoc, List.append_eq] at hI ⊢
    try dsimp only at hI ⊢
    obtain ⟨hj0, hown⟩ := hI
    by_cases hlj : j < kn
    · obtain ⟨b, off, C, T, fr, rfl, hb, hfit, hc⟩ := hk.get (show j < kids.length by omega)
      have hmem : kids[j]'(by omega) ∈ kids := List.getElem_mem _
      have hko := hkid _ hmem
      have hid := hik _ hmem
      have hts := flatMap_take_succ kidB kids j (by omega)
      have hfk := flatMap_le kidB 4 (kids.take j) (fun x hx => Nat.le_of_eq (kidB_len x))
      have htl : (kids.take j).length ≤ 4 := by simp; omega
      have hXl : (B0 ++ (kids.take j).flatMap kidB).length ≤ 200 := by simp only [List.length_append]; omega
      have hmm : B0 ++ (kids.take j).flatMap kidB ++ keyB (kids[j]'(by omega)).t (kids[j]'(by omega)).id ++ [tB (kids[j]'(by omega)).page] = B0 ++ (kids.take (j + 1)).flatMap kidB := by rw [hts]; simp [kidB]
      have hll : (B0 ++ (kids.take j).flatMap kidB).length + 3 + 1 = (B0 ++ (kids.take (j + 1)).flatMap kidB).length := by rw [hts]; simp [kidB_len]; omega
      have hpg := tB_eq (t := (kids[j]'(by omega)).page) (by omega) (by omega)
      generalize kids[j]'(by omega) = x at *
      generalize hX : B0 ++ (kids.take j).flatMap kidB = X at *
      have hkl : (keyB x.t x.id).length = 3 := by simp [keyB, be_length]
      repeat' (first | (refine i_op ?_; first | (refine i_qq ?_; refine qQ ?_) | refine qEf ?_) | refine tl_nil ?_ | (refine i_tc ?_; refine qTc ?_) | (refine i_te ?_; refine qTe ?_) | intro _)
      rename_i b9
      refine tc_any (Stays _ _ ([[(b9, .cells ⟨kidV x⟩ 224 (0, 0))]])) (stays_of (hT := tk) (Hp.le_refl _)) ?_
      all_goals refine rMv 0 ?_
      all_goals refine rFa 1 ?_
      all_goals refine rLd 2 ?_
      all_goals refine rFa 5 ?_
      all_goals refine rLd 6 ?_
      all_goals refine rCv 7 ?_
      all_goals (refine rStep2 (i := 3) (j := 8) ?_ ?_ <;> ((try refine qWant ?_); (first | (refine tl_is (.func 202) ?_; refine qC rfl rfl (keyR_spec _ x.t x.id hko.1.1 (by omega) hid) ?_; rintro v ρ' L' hle ⟨rfl, bk, rfl, rfl⟩ <;> (try simp only [kM, kN, kO])) | (refine tl_buildSlice_s rfl rfl rfl rfl (by simp) rfl rfl (fun _ => ?_); simp only [hpg]) | (refine qEf ?_; try intro _)) <;> ((try simp only [kM, kN, kO]); refine tl_nil ?_; refine rNext ?_)))
      all_goals (first | (refine rStep2 (i := 4) (j := 8) ?_ ?_ <;> ((try refine qWant ?_); (first | (refine tl_buildSlice_s rfl rfl rfl rfl (by simp) rfl rfl (fun _ => ?_); simp only [hpg]) | (refine tl_app (ys := (keyB x.t x.id).map u8c) (m := 3) rfl rfl hown (hR := by infer_instance) (SrcV.find (l := (keyB x.t x.id).map u8c) (T := 5) (fr := (0, 0)) (n := 3) (by rw [List.drop_zero]; exact List.take_of_length_le (by simp [hkl]))) (by simp [hkl]) (u8c_one _) (by decide) rfl (by omega) (by omega) rfl (fun v4 sp4 hown4 => ?_)) | (refine tl_app (ys := [u8c (tB x.page)]) (m := 1) rfl rfl hown4 (hR := by infer_instance) SrcV.lit rfl rfl (by decide) rfl (by omega) (by omega) rfl (fun v5 sp5 hown5 => ?_); rw [show X.map u8c ++ (keyB x.t x.id).map u8c ++ [u8c (tB x.page)] = (X ++ keyB x.t x.id ++ [tB x.page]).map u8c by simp, hmm] at hown5 ⊢; rw [hll] at hown5) | (refine qEf ?_; try intro _)) <;> ((try simp only [kM, kN, kO]); refine tl_nil ?_; refine rNext ?_))) | (refine rStep (i := 3) ?_; ((try refine qWant ?_); (first | (refine tl_is (.func 202) ?_; refine qC rfl rfl (keyR_spec _ x.t x.id hko.1.1 (by omega) hid) ?_; rintro v ρ' L' hle ⟨rfl, bk, rfl, rfl⟩ <;> (try simp only [kM, kN, kO])) | (refine qEf ?_; try intro _)) <;> ((try simp only [kM, kN, kO]); refine tl_nil ?_; refine rNext ?_))))
      all_goals (first | (refine rStep (i := 8) ?_; ((try refine qWant ?_); (first | (refine tl_buildSlice_s rfl rfl rfl rfl (by simp) rfl rfl (fun _ => ?_); simp only [hpg]) | (refine qEf ?_; try intro _)) <;> ((try simp only [kM, kN, kO]); refine tl_nil ?_; refine rNext ?_))) | (refine rStep (i := 4) ?_; ((try refine qWant ?_); (first | (refine tl_app (ys := (keyB x.t x.id).map u8c) (m := 3) rfl rfl hown (hR := by infer_instance) (SrcV.find (l := (keyB x.t x.id).map u8c) (T := 5) (fr := (0, 0)) (n := 3) (by rw [List.drop_zero]; exact List.take_of_length_le (by simp [hkl]))) (by simp [hkl]) (u8c_one _) (by decide) rfl (by omega) (by omega) rfl (fun v4 sp4 hown4 => ?_)) | (refine tl_app (ys := [u8c (tB x.page)]) (m := 1) rfl rfl hown4 (hR := by infer_instance) SrcV.lit rfl rfl (by decide) rfl (by omega) (by omega) rfl (fun v5 sp5 hown5 => ?_); rw [show X.map u8c ++ (keyB x.t x.id).map u8c ++ [u8c (tB x.page)] = (X ++ keyB x.t x.id ++ [tB x.page]).map u8c by simp, hmm] at hown5 ⊢; rw [hll] at hown5) | (refine qEf ?_; try intro _)) <;> ((try simp only [kM, kN, kO]); refine tl_nil ?_; refine rNext ?_))))
      all_goals (refine rStep (i := 9) ?_; ((try refine qWant ?_); (first | (refine tl_app (ys := (keyB x.t x.id).map u8c) (m := 3) rfl rfl hown (hR := by infer_instance) (SrcV.find (l := (keyB x.t x.id).map u8c) (T := 5) (fr := (0, 0)) (n := 3) (by rw [List.drop_zero]; exact List.take_of_length_le (by simp [hkl]))) (by simp [hkl]) (u8c_one _) (by decide) rfl (by omega) (by omega) rfl (fun v4 sp4 hown4 => ?_)) | (refine tl_app (ys := [u8c (tB x.page)]) (m := 1) rfl rfl hown4 (hR := by infer_instance) SrcV.lit rfl rfl (by decide) rfl (by omega) (by omega) rfl (fun v5 sp5 hown5 => ?_); rw [show X.map u8c ++ (keyB x.t x.id).map u8c ++ [u8c (tB x.page)] = (X ++ keyB x.t x.id ++ [tB x.page]).map u8c by simp, hmm] at hown5 ⊢; rw [hll] at hown5) | (refine qEf ?_; try intro _)) <;> ((try simp only [kM, kN, kO]); refine tl_nil ?_; refine rNext ?_)))
      all_goals refine rFull ?_
      all_goals refine rAs 10 ?_
      all_goals refine rDone ?_
      all_goals (repeat' (first | (refine i_op ?_; first | (refine i_qq ?_; refine qQ ?_) | refine qEf ?_) | refine tl_nil ?_ | (refine i_tc ?_; refine qTc ?_) | (refine i_te ?_; refine qTe ?_) | intro _))
      all_goals refine te_round_g (j + 1, v5, sp5) (⟨hlj, hown5⟩) ev_le ev_le rfl tk inferInstance (by first | omega | (dsimp only; omega))
    · have hj2 : j = kn := by omega
      subst hj2
      rw [List.take_of_length_le (by omega)] at hown ⊢
      have hfin : B0 ++ kids.flatMap kidB = contB ⟨2, [], kids⟩ := by rw [← hB0]; simp [contB, cntB, hkn]
      rw [hfin] at hown ⊢
      repeat' (first | (refine i_op ?_; first | (refine i_qq ?_; refine qQ ?_) | refine qEf ?_) | refine tl_nil ?_ | (refine i_tc ?_; refine qTc ?_) | (refine i_te ?_; refine qTe ?_) | intro _)
      refine te_freeze _ (h := Rem.here) (fun ρ6 hle6 hfz => ?_)
      obtain ⟨a6, c6, rfl, hc6, hs6⟩ := hown.sIn hfz
      exact qE ⟨hle6, a6, _, c6, rfl, hc6, hs6, rfl⟩
end Go.Proofs.E

