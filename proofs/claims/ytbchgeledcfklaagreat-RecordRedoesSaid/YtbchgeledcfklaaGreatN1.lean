/- The law RecordRedoes. Part 1 of 1. -/
import Derived.Test.YtbchgeledcfklaaGreatJ18
import Derived.Test.YtbchgeledcfklaaGreatRows
namespace Go.Proofs.E
open Go
set_option linter.unusedVariables false
set_option linter.unusedSimpArgs false
set_option linter.unusedSectionVars false
set_option maxRecDepth 4000
set_option maxHeartbeats 1000000
attribute [local irreducible] Yl TL TC TE Spec YSpec R1 Hp.le EnvLe TS TR YS Stays
theorem bytesR_spec (ρ : Hp) (w : CV) (c : Cont) (h : CIn ρ w c.rows c.kids) (hok : contOk c = true) (hir : ∀ r ∈ c.rows, r.id < 65536) (hik : ∀ k ∈ c.kids, k.id < 65536) :
    Spec Tryz.prog 113 [.agg ⟨contV c.kind w⟩] ρ [] (fun v ρ' L' => ρ.le ρ' ∧ ∃ a n c', v = .slice a n c' ∧ n ≤ c' ∧ SIn ρ' u8c a n (contB c) ∧ L' = []) := by
  obtain ⟨hkind, hrl, hkl, hrow, hkid⟩ := contOk_facts hok
  obtain ⟨kind, rows, kids⟩ := c
  obtain ⟨ra, rn, rc, ka, kn, kc⟩ := w
  obtain ⟨hr, hk, hrb, hkb, hrc, hkc⟩ := h
  dsimp only at hkind hrc hkc hr hk hrb hkb hrow hkid hrl hkl hir hik ⊢
  have hrn := hr.len
  have hkn := hk.len
  have hcr := lenB (n := rn) (by omega)
  have hck := lenB (n := kn) (by omega)
  have hkB := tB_eq (t := kind) (by omega) (by omega)
  refine spec_enter Tryz.func113 rfl rfl rfl fun u R => ?_
  simp only [argsE, List.cons_append, List.nil_append]
  dsimp only [contV]
  repeat' (first | (refine tl_buildSlice_s rfl rfl rfl rfl (by simp) rfl rfl (fun _ => ?_); simp only [hkB]) | (refine i_op ?_; first | (refine i_qq ?_; refine qQ ?_) | refine qEf ?_) | refine tl_nil ?_ | (refine i_tc ?_; refine qTc ?_) | (refine i_te ?_; refine qTe ?_) | intro _)
  rename_i b1 b2
  rw [show ([(b2, Obj.cells ⟨[u8c (tB kind)]⟩ 5 (0, 0))] : List (Nat × Obj)) = ownC (.slice (some ⟨b2, 0, none⟩) 1 1) ([tB kind].map u8c) [] 5 from rfl]
  have hown0 : OwnS (.slice (some ⟨b2, 0, none⟩) 1 1) 1 ([tB kind].map u8c) [] 1 := ⟨.inr ⟨b2, 1, rfl, rfl, rfl, Nat.le_refl _⟩⟩
  generalize Value.slice (some ⟨b2, 0, none⟩) 1 1 = v0 at *
  rcases hkind with ⟨rfl, rfl, rfl⟩ | ⟨rfl, rfl⟩ | ⟨rfl, rfl, hk1⟩
  · repeat' (first | (refine i_op ?_; first | (refine i_qq ?_; refine qQ ?_) | refine qEf ?_) | refine tl_nil ?_ | (refine i_tc ?_; refine qTc ?_) | (refine i_te ?_; refine qTe ?_) | intro _)
    refine te_freeze _ (h := Rem.here) (fun ρ6 hle6 hfz => ?_)
    obtain ⟨a6, c6, rfl, hc6, hs6⟩ := hown0.sIn hfz
    exact qE ⟨hle6, a6, _, c6, rfl, hc6, hs6, rfl⟩
  · have hX : ∀ B0, [tB 1] ++ [UInt8.ofNat rn] = B0 → B0.length = 2 := fun B0 e => by rw [← e]; rfl
    repeat' (first | (refine tl_buildSlice_s rfl rfl rfl rfl (by simp) rfl rfl (fun _ => ?_); simp only [hcr]) | (refine tl_app (ys := [u8c (UInt8.ofNat rn)]) (m := 1) rfl rfl hown0 (hR := by infer_instance) SrcV.lit rfl rfl (by decide) rfl (by omega) (by omega) rfl (fun v1 sp1 hown1 => ?_); rw [show [tB 1].map u8c ++ [u8c (UInt8.ofNat rn)] = (([tB 1] ++ [UInt8.ofNat rn]) ++ (rows.take 0).flatMap rowB).map u8c by simp] at hown1 ⊢) | (refine i_op ?_; first | (refine i_qq ?_; refine qQ ?_) | refine qEf ?_) | refine tl_nil ?_ | (refine i_tc ?_; refine qTc ?_) | (refine i_te ?_; refine qTe ?_) | intro _)
    generalize hB0 : [tB 1] ++ [UInt8.ofNat rn] = B0 at *
    have hBl := hX _ rfl
    clear hX
    refine tc_loop_g [(1, _), (2, _), (13, _), (24, _), (25, _)] (fun (ζ : (Nat) × (Hp) × (Value) × (List Value)) => [(26, .int .i64 ζ.1), (3, ζ.2.2.1)]) (fun (ζ : (Nat) × (Hp) × (Value) × (List Value)) => ζ.2.1) (fun (ζ : (Nat) × (Hp) × (Value) × (List Value)) => [ownC ζ.2.2.1 ((B0 ++ (rows.take ζ.1).flatMap rowB).map u8c) ζ.2.2.2 5, [(b1, .cells ⟨[.int .i64 1, .slice ra rn rc, .slice ka kn kc]⟩ 66 (0, 0))]]) (fun (ζ : (Nat) × (Hp) × (Value) × (List Value)) => ζ.1 ≤ rn ∧ ρ.le ζ.2.1 ∧ OwnS ζ.2.2.1 (B0 ++ (rows.take ζ.1).flatMap rowB).length ((B0 ++ (rows.take ζ.1).flatMap rowB).map u8c) ζ.2.2.2 1) (fun (ζ : (Nat) × (Hp) × (Value) × (List Value)) => rn - ζ.1) ((0, ρ, v1, sp1)) (⟨Nat.zero_le _, Hp.le_refl _, by simpa [hBl] using hown1⟩) ev_le ev_le rfl tk ?_
    rintro ⟨k, ρ1, v, sp⟩ hI
    try simp only [List.cons_append, List.nil_append, List.append_assoc, List.append_eq] at hI ⊢
    try dsimp only at hI ⊢
    obtain ⟨hkn0, hle1, hown⟩ := hI
    by_cases hlt : k < rn
    · obtain ⟨b, off, C, T, fr, rfl, hb, hfit, hc⟩ := (hr.mono hle1).get (show k < rows.length by omega)
      have hmem : rows[k]'(by omega) ∈ rows := List.getElem_mem _
      have hro := hrow _ hmem
      have hid := hir _ hmem
      have hts := flatMap_take_succ rowB rows k (by omega)
      have hfl := flatMap_le rowB 20 (rows.take k) (fun x hx => rowB_le (hrow x (List.mem_of_mem_take hx)))
      have htl : (rows.take k).length ≤ 4 := by simp; omega
      have hXl : (B0 ++ (rows.take k).flatMap rowB).length ≤ 100 := by simp only [List.length_append]; omega
      have hll : (B0 ++ (rows.take k).flatMap rowB).length + (rowB (rows[k]'(by omega))).length = (B0 ++ (rows.take (k + 1)).flatMap rowB).length := by rw [hts]; simp; omega
      have hmm : B0 ++ (rows.take k).flatMap rowB ++ rowB (rows[k]'(by omega)) = B0 ++ (rows.take (k + 1)).flatMap rowB := by rw [hts]; simp
      have hrb20 := rowB_le hro
      generalize rows[k]'(by omega) = x at *
      repeat' (first | (refine tl_is (.func 190) ?_; refine qC rfl rfl (rowR6_spec _ x hro hid) ?_; rintro v2 ρ2 L2 hle0 ⟨hle2, sp2, hown2, rfl⟩; simp only [List.cons_append, List.nil_append]; refine tl_freeze _ (h := Rem.here) (fun ρ3 hle3 hfz => ?_); obtain ⟨a3, c3, rfl, hc3, hs3⟩ := hown2.sIn hfz) | (refine tl_app (ys := (rowB x).map u8c) (m := (rowB x).length) rfl rfl hown (hR := by infer_instance) (SIn.srcV hs3) (by simp) (u8c_one _) (by decide) rfl (by omega) (by omega) rfl (fun v5 sp5 hown5 => ?_); rw [← List.map_append, hmm] at hown5 ⊢; rw [hll] at hown5) | (refine i_op ?_; first | (refine i_qq ?_; refine qQ ?_) | refine qEf ?_) | refine tl_nil ?_ | (refine i_tc ?_; refine qTc ?_) | (refine i_te ?_; refine qTe ?_) | intro _)
      refine te_round_g (k + 1, _, v5, sp5) (⟨hlt, Hp.le_trans hle1 (Hp.le_trans hle2 hle3), hown5⟩) ev_le ev_le rfl tk inferInstance (by first | omega | (dsimp only; omega))
    · have hk2 : k = rn := by omega
      subst hk2
      rw [List.take_of_length_le (by omega)] at hown ⊢
      have hfin : B0 ++ rows.flatMap rowB = contB ⟨1, rows, []⟩ := by rw [← hB0]; simp [contB, cntB, hrn]
      rw [hfin] at hown ⊢
      repeat' (first | (refine i_op ?_; first | (refine i_qq ?_; refine qQ ?_) | refine qEf ?_) | refine tl_nil ?_ | (refine i_tc ?_; refine qTc ?_) | (refine i_te ?_; refine qTe ?_) | intro _)
      refine te_freeze _ (h := Rem.here) (fun ρ6 hle6 hfz => ?_)
      obtain ⟨a6, c6, rfl, hc6, hs6⟩ := hown.sIn hfz
      exact qE ⟨Hp.le_trans hle1 hle6, a6, _, c6, rfl, hc6, hs6, rfl⟩
  · have hX : ∀ B0, [tB 2] ++ [UInt8.ofNat kn] = B0 → B0.length = 2 := fun B0 e => by rw [← e]; rfl
    repeat' (first | (refine tl_buildSlice_s rfl rfl rfl rfl (by simp) rfl rfl (fun _ => ?_); simp only [hck]) | (refine tl_app (ys := [u8c (UInt8.ofNat kn)]) (m := 1) rfl rfl hown0 (hR := by infer_instance) SrcV.lit rfl rfl (by decide) rfl (by omega) (by omega) rfl (fun v1 sp1 hown1 => ?_); rw [show [tB 2].map u8c ++ [u8c (UInt8.ofNat kn)] = (([tB 2] ++ [UInt8.ofNat kn]) ++ (kids.take 0).flatMap kidB).map u8c by simp] at hown1 ⊢) | (refine i_op ?_; first | (refine i_qq ?_; refine qQ ?_) | refine qEf ?_) | refine tl_nil ?_ | (refine i_tc ?_; refine qTc ?_) | (refine i_te ?_; refine qTe ?_) | intro _)
    generalize hB0 : [tB 2] ++ [UInt8.ofNat kn] = B0 at *
    have hBl := hX _ rfl
    clear hX
    refine tc_loop_g [(2, _), (45, _), (46, _)] (fun (ζ : (Nat) × (Value) × (List Value)) => [(47, .int .i64 ζ.1), (3, ζ.2.1)]) (fun (ζ : (Nat) × (Value) × (List Value)) => ρ) (fun (ζ : (Nat) × (Value) × (List Value)) => [ownC ζ.2.1 ((B0 ++ (kids.take ζ.1).flatMap kidB).map u8c) ζ.2.2 5]) (fun (ζ : (Nat) × (Value) × (List Value)) => ζ.1 ≤ kn ∧ OwnS ζ.2.1 (B0 ++ (kids.take ζ.1).flatMap kidB).length ((B0 ++ (kids.take ζ.1).flatMap kidB).map u8c) ζ.2.2 1) (fun (ζ : (Nat) × (Value) × (List Value)) => kn - ζ.1) ((0, v1, sp1)) (⟨Nat.zero_le _, by simpa [hBl] using hown1⟩) ev_le ev_le rfl tk ?_
    rintro ⟨j, v, sp⟩ hI
    try simp only [List.cons_append, List.nil_append, List.append_assoc, List.append_eq] at hI ⊢
    try dsimp only at hI ⊢
    obtain ⟨hj0, hown⟩ := hI
    by_cases hlj : j < kn
    · obtain ⟨b, off, C, T, fr, rfl, hb, hfit, hc⟩ := hk.get (show j < kids.length by omega)
      have hmem : kids[j]'(by omega) ∈ kids := List.getElem_mem _
      have hko := hkid _ hmem
      have hid := hik _ hmem
      have hts := flatMap_take_succ kidB kids j (by omega)
      have hfk := flatMap_le kidB 4 (kids.take j) (fun x hx => Nat.le_of_eq (kidB_len x))
      have htl : (kids.take j).length ≤ 4 := by simp; omega
      have hXl : (B0 ++ (kids.take j).flatMap kidB).length ≤ 200 := by simp only [List.length_append]; omega
      have hmm : B0 ++ (kids.take j).flatMap kidB ++ keyB (kids[j]'(by omega)).t (kids[j]'(by omega)).id ++ [tB (kids[j]'(by omega)).page] = B0 ++ (kids.take (j + 1)).flatMap kidB := by rw [hts]; simp [kidB]
      have hll : (B0 ++ (kids.take j).flatMap kidB).length + 3 + 1 = (B0 ++ (kids.take (j + 1)).flatMap kidB).length := by rw [hts]; simp [kidB_len]; omega
      have hpg := tB_eq (t := (kids[j]'(by omega)).page) (by omega) (by omega)
      generalize kids[j]'(by omega) = x at *
      generalize hX : B0 ++ (kids.take j).flatMap kidB = X at *
      have hkl : (keyB x.t x.id).length = 3 := by simp [keyB, be_length]
      repeat' (first | (refine i_op ?_; first | (refine i_qq ?_; refine qQ ?_) | refine qEf ?_) | refine tl_nil ?_ | (refine i_tc ?_; refine qTc ?_) | (refine i_te ?_; refine qTe ?_) | intro _)
      rename_i b9
      refine tc_any (Stays _ _ ([[(b9, .cells ⟨kidV x⟩ 164 (0, 0))]])) (stays_of (hT := tk) (Hp.le_refl _)) ?_
      all_goals refine rMv 0 ?_
      all_goals refine rFa 1 ?_
      all_goals refine rLd 2 ?_
      all_goals refine rFa 5 ?_
      all_goals refine rLd 6 ?_
      all_goals refine rCv 7 ?_
      all_goals (refine rStep2 (i := 3) (j := 8) ?_ ?_ <;> ((try refine qWant ?_); (first | (refine tl_is (.func 191) ?_; refine qC rfl rfl (keyR_spec _ x.t x.id hko.1.1 (by omega) hid) ?_; rintro v ρ' L' hle ⟨rfl, bk, rfl, rfl⟩ <;> (try simp only [kM, kN, kO])) | (refine tl_buildSlice_s rfl rfl rfl rfl (by simp) rfl rfl (fun _ => ?_); simp only [hpg]) | (refine qEf ?_; try intro _)) <;> ((try simp only [kM, kN, kO]); refine tl_nil ?_; refine rNext ?_)))
      all_goals (first | (refine rStep2 (i := 4) (j := 8) ?_ ?_ <;> ((try refine qWant ?_); (first | (refine tl_buildSlice_s rfl rfl rfl rfl (by simp) rfl rfl (fun _ => ?_); simp only [hpg]) | (refine tl_app (ys := (keyB x.t x.id).map u8c) (m := 3) rfl rfl hown (hR := by infer_instance) (SrcV.find (l := (keyB x.t x.id).map u8c) (T := 5) (fr := (0, 0)) (n := 3) (by rw [List.drop_zero]; exact List.take_of_length_le (by simp [hkl]))) (by simp [hkl]) (u8c_one _) (by decide) rfl (by omega) (by omega) rfl (fun v4 sp4 hown4 => ?_)) | (refine tl_app (ys := [u8c (tB x.page)]) (m := 1) rfl rfl hown4 (hR := by infer_instance) SrcV.lit rfl rfl (by decide) rfl (by omega) (by omega) rfl (fun v5 sp5 hown5 => ?_); rw [show X.map u8c ++ (keyB x.t x.id).map u8c ++ [u8c (tB x.page)] = (X ++ keyB x.t x.id ++ [tB x.page]).map u8c by simp, hmm] at hown5 ⊢; rw [hll] at hown5) | (refine qEf ?_; try intro _)) <;> ((try simp only [kM, kN, kO]); refine tl_nil ?_; refine rNext ?_))) | (refine rStep (i := 3) ?_; ((try refine qWant ?_); (first | (refine tl_is (.func 191) ?_; refine qC rfl rfl (keyR_spec _ x.t x.id hko.1.1 (by omega) hid) ?_; rintro v ρ' L' hle ⟨rfl, bk, rfl, rfl⟩ <;> (try simp only [kM, kN, kO])) | (refine qEf ?_; try intro _)) <;> ((try simp only [kM, kN, kO]); refine tl_nil ?_; refine rNext ?_))))
      all_goals (first | (refine rStep (i := 8) ?_; ((try refine qWant ?_); (first | (refine tl_buildSlice_s rfl rfl rfl rfl (by simp) rfl rfl (fun _ => ?_); simp only [hpg]) | (refine qEf ?_; try intro _)) <;> ((try simp only [kM, kN, kO]); refine tl_nil ?_; refine rNext ?_))) | (refine rStep (i := 4) ?_; ((try refine qWant ?_); (first | (refine tl_app (ys := (keyB x.t x.id).map u8c) (m := 3) rfl rfl hown (hR := by infer_instance) (SrcV.find (l := (keyB x.t x.id).map u8c) (T := 5) (fr := (0, 0)) (n := 3) (by rw [List.drop_zero]; exact List.take_of_length_le (by simp [hkl]))) (by simp [hkl]) (u8c_one _) (by decide) rfl (by omega) (by omega) rfl (fun v4 sp4 hown4 => ?_)) | (refine tl_app (ys := [u8c (tB x.page)]) (m := 1) rfl rfl hown4 (hR := by infer_instance) SrcV.lit rfl rfl (by decide) rfl (by omega) (by omega) rfl (fun v5 sp5 hown5 => ?_); rw [show X.map u8c ++ (keyB x.t x.id).map u8c ++ [u8c (tB x.page)] = (X ++ keyB x.t x.id ++ [tB x.page]).map u8c by simp, hmm] at hown5 ⊢; rw [hll] at hown5) | (refine qEf ?_; try intro _)) <;> ((try simp only [kM, kN, kO]); refine tl_nil ?_; refine rNext ?_))))
      all_goals (refine rStep (i := 9) ?_; ((try refine qWant ?_); (first | (refine tl_app (ys := (keyB x.t x.id).map u8c) (m := 3) rfl rfl hown (hR := by infer_instance) (SrcV.find (l := (keyB x.t x.id).map u8c) (T := 5) (fr := (0, 0)) (n := 3) (by rw [List.drop_zero]; exact List.take_of_length_le (by simp [hkl]))) (by simp [hkl]) (u8c_one _) (by decide) rfl (by omega) (by omega) rfl (fun v4 sp4 hown4 => ?_)) | (refine tl_app (ys := [u8c (tB x.page)]) (m := 1) rfl rfl hown4 (hR := by infer_instance) SrcV.lit rfl rfl (by decide) rfl (by omega) (by omega) rfl (fun v5 sp5 hown5 => ?_); rw [show X.map u8c ++ (keyB x.t x.id).map u8c ++ [u8c (tB x.page)] = (X ++ keyB x.t x.id ++ [tB x.page]).map u8c by simp, hmm] at hown5 ⊢; rw [hll] at hown5) | (refine qEf ?_; try intro _)) <;> ((try simp only [kM, kN, kO]); refine tl_nil ?_; refine rNext ?_)))
      all_goals refine rFull ?_
      all_goals refine rAs 10 ?_
      all_goals refine rDone ?_
      all_goals (repeat' (first | (refine i_op ?_; first | (refine i_qq ?_; refine qQ ?_) | refine qEf ?_) | refine tl_nil ?_ | (refine i_tc ?_; refine qTc ?_) | (refine i_te ?_; refine qTe ?_) | intro _))
      all_goals refine te_round_g (j + 1, v5, sp5) (⟨hlj, hown5⟩) ev_le ev_le rfl tk inferInstance (by first | omega | (dsimp only; omega))
    · have hj2 : j = kn := by omega
      subst hj2
      rw [List.take_of_length_le (by omega)] at hown ⊢
      have hfin : B0 ++ kids.flatMap kidB = contB ⟨2, [], kids⟩ := by rw [← hB0]; simp [contB, cntB, hkn]
      rw [hfin] at hown ⊢
      repeat' (first | (refine i_op ?_; first | (refine i_qq ?_; refine qQ ?_) | refine qEf ?_) | refine tl_nil ?_ | (refine i_tc ?_; refine qTc ?_) | (refine i_te ?_; refine qTe ?_) | intro _)
      refine te_freeze _ (h := Rem.here) (fun ρ6 hle6 hfz => ?_)
      obtain ⟨a6, c6, rfl, hc6, hs6⟩ := hown.sIn hfz
      exact qE ⟨hle6, a6, _, c6, rfl, hc6, hs6, rfl⟩
end Go.Proofs.E

namespace Go.Proofs.E
open Go
set_option linter.unusedVariables false
set_option linter.unusedSimpArgs false
set_option linter.unusedSectionVars false
set_option maxRecDepth 4000
set_option maxHeartbeats 1000000
attribute [local irreducible] Yl TL TC TE Spec YSpec R1 Hp.le EnvLe TS TR YS Stays
theorem sameR_spec (ρ : Hp) (w w' : CV) (c d : Cont) (h : CIn ρ w c.rows c.kids) (h' : CIn ρ w' d.rows d.kids) :
    Spec Tryz.prog 41 [.agg ⟨contV c.kind w⟩, .agg ⟨contV d.kind w'⟩] ρ [] (fun v ρ' L' => v = .bool (decide (c = d)) ∧ ρ' = ρ ∧ L' = []) := by
  obtain ⟨kind, rows, kids⟩ := c
  obtain ⟨kind', rows', kids'⟩ := d
  obtain ⟨ra, rn, rc, ka, kn, kc⟩ := w
  obtain ⟨ra', rn', rc', ka', kn', kc'⟩ := w'
  obtain ⟨hr, hk, hrb, hkb, hrc, hkc⟩ := h
  obtain ⟨hr', hk', hrb', hkb', hrc', hkc'⟩ := h'
  dsimp only at hrc hkc hr hk hrb hkb hrc' hkc' hr' hk' hrb' hkb' ⊢
  have hrn := hr.len
  have hkn := hk.len
  have hrn' := hr'.len
  have hkn' := hk'.len
  simp only [Cont.mk.injEq]
  refine spec_enter Tryz.func41 rfl rfl rfl fun u R => ?_
  simp only [argsE, List.cons_append, List.nil_append, contV]
  by_cases h1 : kind = kind'
  · by_cases h2 : rn = rn'
    · by_cases h3 : kn = kn'
      · subst h1; subst h2; subst h3
        repeat' (first | (refine i_op ?_; first | (refine i_qq ?_; refine qQ ?_) | refine qEf ?_) | refine tl_nil ?_ | (refine i_tc ?_; refine qTc ?_) | (refine i_te ?_; refine qTe ?_) | intro _)
        rename_i b1 b2
        refine tc_loop_g [(2, _), (3, _), (4, _), (32, _)] (fun (ζ : (Nat)) => [(33, .int .i64 ζ)]) (fun (ζ : (Nat)) => ρ) (fun (ζ : (Nat)) => [[(b2, .cells ⟨[.int .i64 kind, .slice ra' rn rc', .slice ka' kn kc']⟩ 66 (0, 0))], [(b1, .cells ⟨[.int .i64 kind, .slice ra rn rc, .slice ka kn kc]⟩ 66 (0, 0))]]) (fun (ζ : (Nat)) => ζ ≤ rn ∧ rows.take ζ = rows'.take ζ) (fun (ζ : (Nat)) => rn - ζ) (0) (⟨Nat.zero_le _, rfl⟩) ev_le ev_le rfl tk ?_
        rintro k hI
        try simp only [List.cons_append, List.nil_append, List.append_assoc, List.append_eq] at hI ⊢
        try dsimp only at hI ⊢
        obtain ⟨hk0, hpre⟩ := hI
        by_cases hlt : k < rn
        · obtain ⟨b, off, C, T, fr, rfl, hb, hfit, hc⟩ := hr.get (show k < rows.length by omega)
          obtain ⟨b', off', C', T', fr', rfl, hb', hfit', hc'⟩ := hr'.get (show k < rows'.length by omega)
          have ht1 := List.take_succ_eq_append_getElem (show k < rows.length by omega)
          have ht2 := List.take_succ_eq_append_getElem (show k < rows'.length by omega)
          have hf : rows = rows' → rows[k]'(by omega) = rows'[k]'(by omega) := fun e => by subst e; rfl
          generalize rows[k]'(by omega) = x at *
          generalize rows'[k]'(by omega) = y at *
          by_cases he : x = y
          · have hd : decide (x = y) = true := decide_eq_true he
            repeat' (first | (refine i_op ?_; first | (refine i_qq ?_; refine qQ ?_) | refine qEf ?_) | refine tl_nil ?_ | (refine i_tc ?_; refine qTc ?_) | (refine i_te ?_; refine qTe ?_) | intro _)
            refine tc_any (Stays _ _ ([[(b2, .cells ⟨[.int .i64 kind, .slice (some ⟨b', off', none⟩) rn rc', .slice ka' kn kc']⟩ 66 (0, 0))], [(b1, .cells ⟨[.int .i64 kind, .slice (some ⟨b, off, none⟩) rn rc, .slice ka kn kc]⟩ 66 (0, 0))]])) (stays_of (hT := tk) (Hp.le_refl _)) ?_
            all_goals refine rFa 0 ?_
            all_goals refine rFull ?_
            all_goals refine rLd 1 ?_
            all_goals refine rMv 2 ?_
            all_goals refine rIa 3 ?_
            all_goals refine rLd 4 ?_
            all_goals refine rFa 5 ?_
            all_goals refine rLd 6 ?_
            all_goals refine rMv 7 ?_
            all_goals refine rIa 8 ?_
            all_goals refine rLd 9 ?_
            all_goals refine rCm 10 ?_
            all_goals refine rDone ?_
            repeat' (first | (refine i_op ?_; first | (refine i_qq ?_; refine qQ ?_) | refine qEf ?_) | refine tl_nil ?_ | (refine i_tc ?_; refine qTc ?_) | (refine i_te ?_; refine qTe ?_) | intro _)
            refine te_round_g (k + 1) (⟨hlt, by rw [ht1, ht2, hpre, he]⟩) ev_le ev_le rfl tk inferInstance (by first | omega | (dsimp only; omega))
          · have hd : decide (x = y) = false := decide_eq_false he
            rw [decide_eq_false (fun e => he (hf e.2.1))]
            repeat' (first | (refine i_op ?_; first | (refine i_qq ?_; refine qQ ?_) | refine qEf ?_) | refine tl_nil ?_ | (refine i_tc ?_; refine qTc ?_) | (refine i_te ?_; refine qTe ?_) | intro _)
            refine tc_any (Stays _ _ ([[(b2, .cells ⟨[.int .i64 kind, .slice (some ⟨b', off', none⟩) rn rc', .slice ka' kn kc']⟩ 66 (0, 0))], [(b1, .cells ⟨[.int .i64 kind, .slice (some ⟨b, off, none⟩) rn rc, .slice ka kn kc]⟩ 66 (0, 0))]])) (stays_of (hT := tk) (Hp.le_refl _)) ?_
            all_goals refine rFa 0 ?_
            all_goals refine rFull ?_
            all_goals refine rLd 1 ?_
            all_goals refine rMv 2 ?_
            all_goals refine rIa 3 ?_
            all_goals refine rLd 4 ?_
            all_goals refine rFa 5 ?_
            all_goals refine rLd 6 ?_
            all_goals refine rMv 7 ?_
            all_goals refine rIa 8 ?_
            all_goals refine rLd 9 ?_
            all_goals refine rCm 10 ?_
            all_goals refine rDone ?_
            repeat' (first | (refine i_op ?_; first | (refine i_qq ?_; refine qQ ?_) | refine qEf ?_) | refine tl_nil ?_ | (refine i_tc ?_; refine qTc ?_) | (refine i_te ?_; refine qTe ?_) | intro _)
            exact qE ⟨rfl, rfl, rfl⟩
        · have hk2 : k = rn := by omega
          subst hk2
          rw [List.take_of_length_le (by omega), List.take_of_length_le (by omega)] at hpre
          subst hpre
          repeat' (first | (refine i_op ?_; first | (refine i_qq ?_; refine qQ ?_) | refine qEf ?_) | refine tl_nil ?_ | (refine i_tc ?_; refine qTc ?_) | (refine i_te ?_; refine qTe ?_) | intro _)
          refine tc_loop_g [(2, _), (3, _), (4, _), (50, _)] (fun (ζ : (Nat)) => [(51, .int .i64 ζ)]) (fun (ζ : (Nat)) => ρ) (fun (ζ : (Nat)) => [[(b2, .cells ⟨[.int .i64 kind, .slice ra' k rc', .slice ka' kn kc']⟩ 66 (0, 0))], [(b1, .cells ⟨[.int .i64 kind, .slice ra k rc, .slice ka kn kc]⟩ 66 (0, 0))]]) (fun (ζ : (Nat)) => ζ ≤ kn ∧ kids.take ζ = kids'.take ζ) (fun (ζ : (Nat)) => kn - ζ) (0) (⟨Nat.zero_le _, rfl⟩) ev_le ev_le rfl tk ?_
          rintro j hI
          try simp only [List.cons_append, List.nil_append, List.append_assoc, List.append_eq] at hI ⊢
          try dsimp only at hI ⊢
          obtain ⟨hj0, hpre⟩ := hI
          by_cases hlj : j < kn
          · obtain ⟨b, off, C, T, fr, rfl, hb, hfit, hc⟩ := hk.get (show j < kids.length by omega)
            obtain ⟨b', off', C', T', fr', rfl, hb', hfit', hc'⟩ := hk'.get (show j < kids'.length by omega)
            have ht1 := List.take_succ_eq_append_getElem (show j < kids.length by omega)
            have ht2 := List.take_succ_eq_append_getElem (show j < kids'.length by omega)
            have hf : kids = kids' → kids[j]'(by omega) = kids'[j]'(by omega) := fun e => by subst e; rfl
            generalize kids[j]'(by omega) = x at *
            generalize kids'[j]'(by omega) = y at *
            by_cases he : x = y
            · have hd : decide (x = y) = true := decide_eq_true he
              repeat' (first | (refine i_op ?_; first | (refine i_qq ?_; refine qQ ?_) | refine qEf ?_) | refine tl_nil ?_ | (refine i_tc ?_; refine qTc ?_) | (refine i_te ?_; refine qTe ?_) | intro _)
              refine tc_any (Stays _ _ ([[(b2, .cells ⟨[.int .i64 kind, .slice ra' k rc', .slice (some ⟨b', off', none⟩) kn kc']⟩ 66 (0, 0))], [(b1, .cells ⟨[.int .i64 kind, .slice ra k rc, .slice (some ⟨b, off, none⟩) kn kc]⟩ 66 (0, 0))]])) (stays_of (hT := tk) (Hp.le_refl _)) ?_
              all_goals refine rFa 0 ?_
              all_goals refine rFull ?_
              all_goals refine rLd 1 ?_
              all_goals refine rMv 2 ?_
              all_goals refine rIa 3 ?_
              all_goals refine rLd 4 ?_
              all_goals refine rFa 5 ?_
              all_goals refine rLd 6 ?_
              all_goals refine rMv 7 ?_
              all_goals refine rIa 8 ?_
              all_goals refine rLd 9 ?_
              all_goals refine rCm 10 ?_
              all_goals refine rDone ?_
              repeat' (first | (refine i_op ?_; first | (refine i_qq ?_; refine qQ ?_) | refine qEf ?_) | refine tl_nil ?_ | (refine i_tc ?_; refine qTc ?_) | (refine i_te ?_; refine qTe ?_) | intro _)
              refine te_round_g (j + 1) (⟨hlj, by rw [ht1, ht2, hpre, he]⟩) ev_le ev_le rfl tk inferInstance (by first | omega | (dsimp only; omega))
            · have hd : decide (x = y) = false := decide_eq_false he
              rw [decide_eq_false (fun e => he (hf e.2.2))]
              repeat' (first | (refine i_op ?_; first | (refine i_qq ?_; refine qQ ?_) | refine qEf ?_) | refine tl_nil ?_ | (refine i_tc ?_; refine qTc ?_) | (refine i_te ?_; refine qTe ?_) | intro _)
              refine tc_any (Stays _ _ ([[(b2, .cells ⟨[.int .i64 kind, .slice ra' k rc', .slice (some ⟨b', off', none⟩) kn kc']⟩ 66 (0, 0))], [(b1, .cells ⟨[.int .i64 kind, .slice ra k rc, .slice (some ⟨b, off, none⟩) kn kc]⟩ 66 (0, 0))]])) (stays_of (hT := tk) (Hp.le_refl _)) ?_
              all_goals refine rFa 0 ?_
              all_goals refine rFull ?_
              all_goals refine rLd 1 ?_
              all_goals refine rMv 2 ?_
              all_goals refine rIa 3 ?_
              all_goals refine rLd 4 ?_
              all_goals refine rFa 5 ?_
              all_goals refine rLd 6 ?_
              all_goals refine rMv 7 ?_
              all_goals refine rIa 8 ?_
              all_goals refine rLd 9 ?_
              all_goals refine rCm 10 ?_
              all_goals refine rDone ?_
              repeat' (first | (refine i_op ?_; first | (refine i_qq ?_; refine qQ ?_) | refine qEf ?_) | refine tl_nil ?_ | (refine i_tc ?_; refine qTc ?_) | (refine i_te ?_; refine qTe ?_) | intro _)
              exact qE ⟨rfl, rfl, rfl⟩
          · have hj2 : j = kn := by omega
            subst hj2
            rw [List.take_of_length_le (by omega), List.take_of_length_le (by omega)] at hpre
            subst hpre
            rw [decide_eq_true ⟨trivial, trivial, rfl⟩]
            repeat' (first | (refine i_op ?_; first | (refine i_qq ?_; refine qQ ?_) | refine qEf ?_) | refine tl_nil ?_ | (refine i_tc ?_; refine qTc ?_) | (refine i_te ?_; refine qTe ?_) | intro _)
            exact qE ⟨rfl, rfl, rfl⟩
      · rw [decide_eq_false (fun e => h3 (by rw [← hkn, ← hkn', e.2.2]))]
        repeat' (first | (refine i_op ?_; first | (refine i_qq ?_; refine qQ ?_) | refine qEf ?_) | refine tl_nil ?_ | (refine i_tc ?_; refine qTc ?_) | (refine i_te ?_; refine qTe ?_) | intro _)
        exact qE ⟨rfl, rfl, rfl⟩
    · rw [decide_eq_false (fun e => h2 (by rw [← hrn, ← hrn', e.2.1]))]
      repeat' (first | (refine i_op ?_; first | (refine i_qq ?_; refine qQ ?_) | refine qEf ?_) | refine tl_nil ?_ | (refine i_tc ?_; refine qTc ?_) | (refine i_te ?_; refine qTe ?_) | intro _)
      exact qE ⟨rfl, rfl, rfl⟩
  · rw [decide_eq_false (fun e => h1 e.1)]
    repeat' (first | (refine i_op ?_; first | (refine i_qq ?_; refine qQ ?_) | refine qEf ?_) | refine tl_nil ?_ | (refine i_tc ?_; refine qTc ?_) | (refine i_te ?_; refine qTe ?_) | intro _)
    exact qE ⟨rfl, rfl, rfl⟩
end Go.Proofs.E

namespace Go.Proofs.E
open Go
set_option linter.unusedVariables false
set_option linter.unusedSimpArgs false
set_option linter.unusedSectionVars false
set_option maxRecDepth 4000
set_option maxHeartbeats 1000000
attribute [local irreducible] Yl TL TC TE Spec YSpec R1 Hp.le EnvLe TS TR YS Stays
-- BN
def redoI (r : Rc) (page : Int) : Option Im := if recOk r then r.ims.find? (fun x => decide (x.page = page)) else none
def contO (o : Option Im) : List Value := match o with | some x => contV x.a.kind x.av | none => contV 0 ⟨none, 0, 0, none, 0, 0⟩
theorem idx_find {l : List Im} {page : Int} : (idxI (fun x : Im => decide (x.page = page)) l = -1 ∧ l.find? (fun x => decide (x.page = page)) = none) ∨ ∃ i, ∃ h : i < l.length, idxI (fun x : Im => decide (x.page = page)) l = (i : Int) ∧ l.find? (fun x => decide (x.page = page)) = some l[i] := by
  unfold idxI
  cases hf : l.findIdx? (fun x : Im => decide (x.page = page)) with
  | none =>
    left
    rw [List.findIdx?_eq_none_iff] at hf
    exact ⟨rfl, List.find?_eq_none.2 (fun x hx => by rw [hf x hx]; simp)⟩
  | some i =>
    right
    obtain ⟨h1, h2, h3⟩ := List.findIdx?_eq_some_iff_getElem.1 hf
    exact ⟨i, h1, rfl, List.find?_eq_some_iff_getElem.2 ⟨h2, i, h1, rfl, fun j hj => by have := h3 j hj; simpa using this⟩⟩
theorem redoes_spec (ρ : Hp) (v : RV) (r : Rc) (h : RcIn ρ v r) (page : Int) : Spec Tryz.prog 39 [.agg ⟨recV v r⟩, .int .i64 page] ρ []
    (fun z ρ' L' => z = .tuple ⟨[.agg ⟨contO (redoI r page)⟩, .bool (redoI r page).isSome]⟩ ∧ ρ' = ρ ∧ L' = []) := by
  have hck := rcheck_spec ρ v r h
  have hidx := fun nb => idxIm_spec ρ v.i.a v.i.n v.i.c r.ims h.i.at' h.i.big nb page
  have hin := h.i.at'.len
  have hn := h.i.big
  refine spec_enter Tryz.func39 rfl rfl rfl fun u R => ?_
  simp only [argsE, List.cons_append, List.nil_append]
  unfold redoI
  rcases idx_find (l := r.ims) (page := page) with ⟨e1, e2⟩ | ⟨i, hi, e1, e2⟩
  · rw [e1] at hidx
    rw [e2]
    have : (if recOk r = true then none else none : Option Im) = none := by split <;> rfl
    rw [this]
    repeat' (first | (refine tl_is (.func 115) ?_; refine qC rfl rfl (hidx _) ?_; rintro v ρ' L' hle ⟨rfl, rfl, rfl⟩ <;> (try simp only [kM, kN, kO])) | (refine iBu ?_; refine tl_y (y_buildN rfl) rfl rfl ?_) | (refine i_op ?_; first | (refine i_qq ?_; refine qQ ?_) | refine qEf ?_) | refine tl_nil ?_ | (refine i_tc ?_; refine qTc ?_) | (refine i_te ?_; refine qTe ?_) | intro _)
    exact qE ⟨rfl, rfl, rfl⟩
  · rw [e1] at hidx
    rw [e2]
    cases hok : recOk r
    · rw [hok] at hck
      repeat' (first | (refine tl_is (.func 115) ?_; refine qC rfl rfl (hidx _) ?_; rintro v ρ' L' hle ⟨rfl, rfl, rfl⟩ <;> (try simp only [kM, kN, kO])) | (refine tl_is (.func 34) ?_; refine qC rfl rfl (hck) ?_; rintro v ρ' L' hle ⟨rfl, rfl, rfl⟩ <;> (try simp only [kM, kN, kO, if_false, Bool.false_eq_true])) | (refine iBu ?_; refine tl_y (y_buildN rfl) rfl rfl ?_) | (refine i_op ?_; first | (refine i_qq ?_; refine qQ ?_) | refine qEf ?_) | refine tl_nil ?_ | (refine i_tc ?_; refine qTc ?_) | (refine i_te ?_; refine qTe ?_) | intro _)
      exact qE ⟨rfl, rfl, rfl⟩
    · rw [hok] at hck
      obtain ⟨b, off, C, T, fr, f1, hb, hfit, hc⟩ := h.i.at'.get hi
      have hsub : List.take 3 (List.drop (off + i * 7 + 4) C) = contV r.ims[i].a.kind r.ims[i].av := by
        have := congrArg (fun l => (l.drop 4).take 3) hc
        simp only [List.drop_take, List.take_take, List.drop_drop] at this
        exact this
      rw [if_pos rfl]
      generalize r.ims[i] = x at *
      rw [show recV v r = [.int .i64 r.kind, .int .u64 r.lsn, .int .i64 r.txn, .int .u64 r.prev, .int .u64 r.next, .slice (some ⟨b, off, none⟩) v.i.n v.i.c, .slice v.s.a v.s.n v.s.c, .int .i64 r.nextTxn, .slice v.t.a v.t.n v.t.c, .slice v.d.a v.d.n v.d.c] by rw [← f1]]
      rw [show recV v r = [.int .i64 r.kind, .int .u64 r.lsn, .int .i64 r.txn, .int .u64 r.prev, .int .u64 r.next, .slice (some ⟨b, off, none⟩) v.i.n v.i.c, .slice v.s.a v.s.n v.s.c, .int .i64 r.nextTxn, .slice v.t.a v.t.n v.t.c, .slice v.d.a v.d.n v.d.c] by rw [← f1]] at hck
      rw [f1] at hidx
      repeat' (first | (refine tl_is (.func 115) ?_; refine qC rfl rfl (hidx _) ?_; rintro v ρ' L' hle ⟨rfl, rfl, rfl⟩ <;> (try simp only [kM, kN, kO])) | (refine tl_is (.func 34) ?_; refine qC rfl rfl (hck) ?_; rintro v ρ' L' hle ⟨rfl, rfl, rfl⟩ <;> (try simp only [kM, kN, kO, if_true])) | (refine iBu ?_; refine tl_y (y_buildN rfl) rfl rfl ?_) | (refine i_op ?_; first | (refine i_qq ?_; refine qQ ?_) | refine qEf ?_) | refine tl_nil ?_ | (refine i_tc ?_; refine qTc ?_) | (refine i_te ?_; refine qTe ?_) | intro _)
      exact qE ⟨rfl, rfl, rfl⟩
end Go.Proofs.E

namespace Go.Proofs.E
open Go
set_option linter.unusedVariables false
set_option linter.unusedSimpArgs false
set_option linter.unusedSectionVars false
set_option maxRecDepth 4000
set_option maxHeartbeats 1000000
attribute [local irreducible] Yl TL TC TE Spec YSpec R1 Hp.le EnvLe TS TR YS Stays
-- BN
/-! ## the document's tables -/
theorem redoes12_spec (ρ : Hp) (v : RV) (r : Rc) (h : RcIn ρ v r) (page : Int) : Spec Tryz.prog 40 [.agg ⟨recV v r⟩, .int .i64 page] ρ []
    (fun z ρ' L' => z = .tuple ⟨[.agg ⟨contO (r.ims.find? (fun x => decide (x.page = page)))⟩, .bool (r.ims.find? (fun x => decide (x.page = page))).isSome]⟩ ∧ ρ' = ρ ∧ L' = []) := by
  have hl := h.i.at'.len
  have hn := h.i.big
  have hA := h.i.at'
  generalize hq : r.ims.find? (fun x => decide (x.page = page)) = q
  refine spec_enter Tryz.func40 rfl rfl rfl fun u R => ?_
  simp only [argsE, List.cons_append, List.nil_append]
  repeat' (first | (refine iBu ?_; refine tl_y (y_buildN rfl) rfl rfl ?_) | (refine i_op ?_; first | (refine i_qq ?_; refine qQ ?_) | refine qEf ?_) | refine tl_nil ?_ | (refine i_tc ?_; refine qTc ?_) | (refine i_te ?_; refine qTe ?_) | intro _)
  rename_i b2 b4
  refine tc_loop_g [(1, _), (4, _), (9, _), (10, _)] (fun (ζ : (Nat)) => [(11, .int .i64 ζ), (5, .bool false)]) (fun (ζ : (Nat)) => ρ) (fun (ζ : (Nat)) => [[(b4, .cells ⟨[.int .i64 0, .slice none 0 0, .slice none 0 0]⟩ 66 (0, 0))]]) (fun (ζ : (Nat)) => ζ ≤ v.i.n ∧ (r.ims.drop ζ).find? (fun x => decide (x.page = page)) = q) (fun (ζ : (Nat)) => v.i.n - ζ) (0) (⟨Nat.zero_le _, hq⟩) ev_le ev_le rfl tk ?_
  rintro k hI
  try simp only [List.cons_append, List.nil_append, List.append_assoc, List.append_eq] at hI ⊢
  try dsimp only at hI ⊢
  obtain ⟨hk, hok⟩ := hI
  by_cases hlt : k < v.i.n
  · obtain ⟨b, off, C, T, fr, e1, hb, hfit, hc⟩ := hA.get (show k < r.ims.length by omega)
    rw [List.drop_eq_getElem_cons (show k < r.ims.length by omega), List.find?_cons] at hok
    generalize r.ims[k]'(by omega) = x at *
    rw [e1]
    by_cases hx : x.page = page
    · rw [decide_eq_true hx] at hok
      subst hok
      repeat' (first | (refine iBu ?_; refine tl_y (y_buildN rfl) rfl rfl ?_) | (refine i_op ?_; first | (refine i_qq ?_; refine qQ ?_) | refine qEf ?_) | refine tl_nil ?_ | (refine i_tc ?_; refine qTc ?_) | (refine i_te ?_; refine qTe ?_) | intro _)
      exact qE (L' := []) ⟨rfl, rfl, rfl⟩
    · rw [decide_eq_false hx] at hok
      repeat' (first | (refine iBu ?_; refine tl_y (y_buildN rfl) rfl rfl ?_) | (refine i_op ?_; first | (refine i_qq ?_; refine qQ ?_) | refine qEf ?_) | refine tl_nil ?_ | (refine i_tc ?_; refine qTc ?_) | (refine i_te ?_; refine qTe ?_) | intro _)
      rw [← e1]
      refine te_round_g (k + 1) (⟨hlt, hok⟩) ev_le ev_le rfl tk inferInstance (by first | omega | (dsimp only; omega))
  · have hk2 : k = r.ims.length := by omega
    rw [hk2, List.drop_length, List.find?_nil] at hok
    subst hok
    repeat' (first | (refine iBu ?_; refine tl_y (y_buildN rfl) rfl rfl ?_) | (refine i_op ?_; first | (refine i_qq ?_; refine qQ ?_) | refine qEf ?_) | refine tl_nil ?_ | (refine i_tc ?_; refine qTc ?_) | (refine i_te ?_; refine qTe ?_) | intro _)
    exact qE (L' := []) ⟨rfl, rfl, rfl⟩
end Go.Proofs.E

namespace Go.Proofs.E
open Go
set_option linter.unusedVariables false
set_option linter.unusedSimpArgs false
set_option linter.unusedSectionVars false
set_option maxRecDepth 4000
set_option maxHeartbeats 1000000
attribute [local irreducible] Yl TL TC TE Spec YSpec R1 Hp.le EnvLe TS TR YS Stays
-- BN
theorem redoes12Law_spec (ρ : Hp) (v : RV) (r0 : Rc) (h0 : RcW ρ v r0) (pa : Option Addr) (pn pc : Nat) (pl : List Int) (hp : SIn ρ i64c pa pn pl) (hpn : pn ≤ 9223372036854775807) :
    Spec Tryz.prog 9 [.agg ⟨recV v r0⟩, .slice pa pn pc] ρ [] (fun z ρ' L' => z = .bool true ∧ ρ.le ρ' ∧ L' = []) := by
  have hpl := hp.len
  refine spec_enter Tryz.func9 rfl rfl rfl fun u R => ?_
  simp only [argsE, List.cons_append, List.nil_append]
  repeat' (first | (refine tl_is (.func 23) ?_; refine qC rfl rfl (wakes12_spec _) ?_; rintro v ρ' L' hle ⟨rfl, hl1, rfl⟩ <;> (try simp only [kM, kN, kO])) | (refine iBu ?_; refine tl_y (y_buildN rfl) rfl rfl ?_) | (refine i_op ?_; first | (refine i_qq ?_; refine qQ ?_) | refine qEf ?_) | refine tl_nil ?_ | (refine i_tc ?_; refine qTc ?_) | (refine i_te ?_; refine qTe ?_) | intro _)
  have hfew := few12_spec _ v r0 (h0.mono hl1)
  repeat' (first | (refine tl_is (.func 27) ?_; refine qC rfl rfl (hfew) ?_; rintro v ρ' L' hle ⟨hl2, v1, r, rfl, hr, hpp, rfl⟩ <;> (try simp only [kM, kN, kO])) | (refine iBu ?_; refine tl_y (y_buildN rfl) rfl rfl ?_) | (refine i_op ?_; first | (refine i_qq ?_; refine qQ ?_) | refine qEf ?_) | refine tl_nil ?_ | (refine i_tc ?_; refine qTc ?_) | (refine i_te ?_; refine qTe ?_) | intro _)
  have hρ0 := Hp.le_trans hl1 hl2
  have hR := right12_spec _ v1 r hr
  rename_i rb sb
  refine tc_loop_g [(5, _), (16, _), (17, _)] (fun (ζ : (Nat)) => [(18, .int .i64 ζ), (4, .bool false)]) (fun (ζ : (Nat)) => ρ') (fun (ζ : (Nat)) => [[(sb, .cells ⟨recV v1 r⟩ 30 (0, 0))]]) (fun (ζ : (Nat)) => ζ ≤ pn) (fun (ζ : (Nat)) => pn - ζ) (0) (Nat.zero_le _) ev_le ev_le rfl tk ?_
  rintro k hI
  try simp only [List.cons_append, List.nil_append, List.append_assoc, List.append_eq] at hI ⊢
  try dsimp only at hI ⊢
  by_cases hlt : k < pn
  · obtain ⟨b, off, C, T, fr, e1, hb, hc⟩ := (hp.mono hρ0).get (show k < pl.length by omega)
    generalize pl[k]'(by omega) = page at *
    have q1 := redoes_spec _ v1 r hr page
    have q2 := redoes12_spec _ v1 r hr page
    rw [e1]
    by_cases h20 : k = 20
    · repeat' (first | (refine iBu ?_; refine tl_y (y_buildN rfl) rfl rfl ?_) | (refine i_op ?_; first | (refine i_qq ?_; refine qQ ?_) | refine qEf ?_) | refine tl_nil ?_ | (refine i_tc ?_; refine qTc ?_) | (refine i_te ?_; refine qTe ?_) | intro _)
      exact qE (L' := []) (hle := hρ0) ⟨rfl, hρ0, rfl⟩
    · cases hok : recOk r
      · have e : redoI r page = none := by unfold redoI; rw [hok]; rfl
        rw [e] at q1
        simp only [contO, Option.isSome] at q1
        rw [hok] at hR
        have q3 := sameR_spec ρ' nilCV nilCV ztC ztC CIn.nil CIn.nil
        rw [decide_eq_true rfl] at q3
        repeat' (first | (refine tl_is (.func 39) ?_; refine qC rfl rfl (q1) ?_; rintro v ρ' L' hle ⟨rfl, rfl, rfl⟩ <;> (try simp only [kM, kN, kO])) | (refine tl_is (.func 30) ?_; refine qC rfl rfl (hR) ?_; rintro v ρ' L' hle ⟨rfl, rfl, rfl⟩ <;> (try simp only [kM, kN, kO])) | (refine tl_is (.func 41) ?_; refine qC rfl rfl (q3) ?_; rintro v ρ' L' hle ⟨rfl, rfl, rfl⟩ <;> (try simp only [kM, kN, kO])) | (refine iBu ?_; refine tl_y (y_buildN rfl) rfl rfl ?_) | (refine i_op ?_; first | (refine i_qq ?_; refine qQ ?_) | refine qEf ?_) | refine tl_nil ?_ | (refine i_tc ?_; refine qTc ?_) | (refine i_te ?_; refine qTe ?_) | intro _)
        rw [← e1]
        refine te_round_g (k + 1) (hlt) ev_le ev_le rfl tk inferInstance (by first | omega | (dsimp only; omega))
      · have e : redoI r page = r.ims.find? (fun x => decide (x.page = page)) := by unfold redoI; rw [hok]; rfl
        rw [e] at q1
        rw [hok] at hR
        cases ho : r.ims.find? (fun x => decide (x.page = page)) with
        | none =>
          rw [ho] at q1 q2
          simp only [contO, Option.isSome] at q1 q2
          have q3 := sameR_spec ρ' nilCV nilCV ztC ztC CIn.nil CIn.nil
          rw [decide_eq_true rfl] at q3
          repeat' (first | (refine tl_is (.func 39) ?_; refine qC rfl rfl (q1) ?_; rintro v ρ' L' hle ⟨rfl, rfl, rfl⟩ <;> (try simp only [kM, kN, kO])) | (refine tl_is (.func 30) ?_; refine qC rfl rfl (hR) ?_; rintro v ρ' L' hle ⟨rfl, rfl, rfl⟩ <;> (try simp only [kM, kN, kO])) | (refine tl_is (.func 40) ?_; refine qC rfl rfl (q2) ?_; rintro v ρ' L' hle ⟨rfl, rfl, rfl⟩ <;> (try simp only [kM, kN, kO])) | (refine tl_is (.func 41) ?_; refine qC rfl rfl (q3) ?_; rintro v ρ' L' hle ⟨rfl, rfl, rfl⟩ <;> (try simp only [kM, kN, kO])) | (refine iBu ?_; refine tl_y (y_buildN rfl) rfl rfl ?_) | (refine i_op ?_; first | (refine i_qq ?_; refine qQ ?_) | refine qEf ?_) | refine tl_nil ?_ | (refine i_tc ?_; refine qTc ?_) | (refine i_te ?_; refine qTe ?_) | intro _)
          rw [← e1]
          refine te_round_g (k + 1) (hlt) ev_le ev_le rfl tk inferInstance (by first | omega | (dsimp only; omega))
        | some x =>
          rw [ho] at q1 q2
          simp only [contO, Option.isSome] at q1 q2
          have hin := hr.im x (List.mem_of_find?_eq_some ho)
          have q3 := sameR_spec ρ' x.av x.av x.a x.a hin.a.cin hin.a.cin
          rw [decide_eq_true rfl] at q3
          repeat' (first | (refine tl_is (.func 39) ?_; refine qC rfl rfl (q1) ?_; rintro v ρ' L' hle ⟨rfl, rfl, rfl⟩ <;> (try simp only [kM, kN, kO])) | (refine tl_is (.func 30) ?_; refine qC rfl rfl (hR) ?_; rintro v ρ' L' hle ⟨rfl, rfl, rfl⟩ <;> (try simp only [kM, kN, kO])) | (refine tl_is (.func 40) ?_; refine qC rfl rfl (q2) ?_; rintro v ρ' L' hle ⟨rfl, rfl, rfl⟩ <;> (try simp only [kM, kN, kO])) | (refine tl_is (.func 41) ?_; refine qC rfl rfl (q3) ?_; rintro v ρ' L' hle ⟨rfl, rfl, rfl⟩ <;> (try simp only [kM, kN, kO])) | (refine iBu ?_; refine tl_y (y_buildN rfl) rfl rfl ?_) | (refine i_op ?_; first | (refine i_qq ?_; refine qQ ?_) | refine qEf ?_) | refine tl_nil ?_ | (refine i_tc ?_; refine qTc ?_) | (refine i_te ?_; refine qTe ?_) | intro _)
          rw [← e1]
          refine te_round_g (k + 1) (hlt) ev_le ev_le rfl tk inferInstance (by first | omega | (dsimp only; omega))
  · repeat' (first | (refine iBu ?_; refine tl_y (y_buildN rfl) rfl rfl ?_) | (refine i_op ?_; first | (refine i_qq ?_; refine qQ ?_) | refine qEf ?_) | refine tl_nil ?_ | (refine i_tc ?_; refine qTc ?_) | (refine i_te ?_; refine qTe ?_) | intro _)
    exact qE (L' := []) (hle := hρ0) ⟨rfl, hρ0, rfl⟩
end Go.Proofs.E

namespace Go.Proofs.YtbchgeledcfklaaGreat.RecordRedoesLaw
open Go Go.ChangeShapes Go.WideShapes Go.ChangeAt Go.RowKit Go.Proofs.E
set_option linter.unusedVariables false

theorem own : ownKnob Tryz.prog.godebug = none := by kernel_rfl
theorem laidOut : laidOutB Tryz.prog = true := by kernel_rfl

set_option maxRecDepth 100000 in
theorem lifted (os : Os) (started : os.Started) (H : Type) (enc : TypeId × Value → H) :
    ReturnsInHanded {} Tryz.checked os 9 .any (Rows.recordRedoesSpec.pre6 enc Tryz.prog Tryz.f9 Rows.recordRedoesRow.domain false) (Rows.recordRedoesSpec.post enc Tryz.prog Tryz.f9 false true false false) := by
  refine returnsInHanded_of_change_sized (C := Tryz.checked) own started (by kernel_rfl) Tryz.func9
    (ChangeSpec.witness6 (enc := enc) (C := Tryz.checked) false ⟨#[], #[.agg ⟨[.int .i64 0, .int .u64 0, .int .i64 0, .int .u64 0, .int .u64 0, .slice none 0 0, .slice none 0 0, .int .i64 0, .slice none 0 0, .slice none 0 0]⟩, .slice none 0 0], []⟩ 8 (by kernel_rfl) (by kernel_rfl) (by kernel_rfl) (by kernel_rfl)) ?_
  intro W base args ds gs before hval0 hW hcnd hsz0 _
  have hval : ∀ (j : Nat) t v, Tryz.f9.params[j]? = some t → args[j]? = some v → Value.okWide Tryz.prog W .any base t v := hval0
  have hW' := hW
  obtain ⟨p, q, hA0, hV, rfl, hfz, hnd⟩ := hW
  have hA : DataW.TrodAll enc Tryz.prog W 0 (fun _ => true) true Tryz.f9.params.toList args.toList ds p := hA0
  have hsz : (DataW.weightsEach Tryz.prog (Tryz.f9.params.toList ++ Rows.recordRedoesSpec.plain.varTypes Tryz.prog) (ds ++ gs)).all (· ≤ reachBytes) = true := hsz0
  rw [Tryz.params9] at hA hval hsz
  obtain ⟨v0, vs0, d0, ds0, p0, q0, hargs, rfl, rfl, h0, r0⟩ := trodAll_cons hA
  obtain ⟨v1, vs1, d1, ds1, p1, q1, rfl, rfl, rfl, h1, r1⟩ := trodAll_cons r0
  obtain ⟨rfl, rfl, rfl⟩ := trodAll_nil r1
  obtain rfl : args = #[v0, v1] := by cases args; simp_all
  obtain ⟨rfl, rfl⟩ := trodVars_none hV
  have k0 := h0
  have k1 := h1
  have lt0 : ∀ x ∈ p0, x.block < W.heap.size := by obtain ⟨m, hm⟩ := k0; exact DataW.trod_lt m _ _ _ hm
  have lt1 : ∀ x ∈ p1, x.block < W.heap.size := by obtain ⟨m, hm⟩ := k1; exact DataW.trod_lt m _ _ _ hm
  obtain ⟨cs0, rfl, _⟩ := okWide_struct Tryz.underlying30 (hval 0 30 v0 rfl rfl)
  obtain ⟨o0, e0, ek0⟩ := opnS_rec2 _ _ _ h0.choose_spec (wts_of hsz (j := 0) rfl rfl)
  obtain rfl : cs0 = ⟨recV o0.1 o0.2⟩ := by
    cases cs0; simp only [Value.cells] at e0; rw [e0]
  obtain ⟨a1, n1, c1, rfl⟩ := okWide_slice Tryz.underlying75 (hval 1 75 v1 rfl rfl)
  obtain ⟨s1, e1, b1⟩ := (opnS_slice (sz := 1) (by' := 8) Tryz.underlying75 (by kernel_rfl) (by decide) (by kernel_rfl) opnS_i64) _ _ _ h1.choose_spec (wts_of hsz (j := 1) rfl rfl)
  simp only [reachBytes] at b1
  obtain ⟨⟨y1, m1, z1, x1⟩, ec1⟩ : ∃ s, s = s1 := ⟨s1, rfl⟩
  subst ec1
  have ec1 := e1.cells
  simp only [Value.cells, List.cons.injEq, Value.slice.injEq, and_true] at ec1
  obtain ⟨rfl, rfl, rfl⟩ := ec1
  clear hA0 hval0
  obtain ⟨hA1, hP1, hc1, hb1⟩ := aIn_ofW (g := fun x : Int => [i64c x]) (fun _ => rfl) e1
  refine (Spec.law (redoes12Law_spec (hpOf W) o0.1 o0.2 ek0.1 a1 n1 c1 x1 (sIn_ofA hA1) hb1)).mono fun e W' ⟨he, bel⟩ => ?_
  subst he
  exact ⟨_, rfl, _, _, _, [], _, [], hW', trodAll_mk1 (shut_bool Tryz.underlying4 _), (trodAll_cons_mk (Below.trod laidOut (by kernel_rfl) (of_decide_eq_true (by kernel_rfl)) k0 bel lt0) (trodAll_cons_mk (Below.trod laidOut (by kernel_rfl) (of_decide_eq_true (by kernel_rfl)) k1 bel lt1) trodAll_mk0)), rfl, bel.frame _, fun h => by cases h⟩

theorem joinedA : (Rows.recordRedoesRow.inPlace == Tryz.checked.prog.inPlace 9) = true := by kernel_rfl
theorem joinedB : (Rows.recordRedoesRow.unfollowed == Tryz.checked.prog.unfollowed 9) = true := by kernel_rfl
theorem joinedC : (Rows.recordRedoesRow.recurses == Tryz.checked.prog.recurses 9) = true := by kernel_rfl
theorem joinedD : (Rows.recordRedoesRow.named == Tryz.checked.prog.varsNamed 9) = true := by kernel_rfl
theorem joined : joinedFacts Tryz.checked.prog 9 Tryz.f9 Rows.recordRedoesSpec Rows.recordRedoesRow = true := by
  unfold joinedFacts
  rw [joinedA, joinedB, joinedC, joinedD]
  kernel_rfl

theorem over : Rows.recordRedoesRow.holds Tryz.pinned (OpenSpec.ofChange Rows.recordRedoesSpec) :=
  OpenClaim.holds_of_wide 9 Tryz.f9 rfl rfl rfl rfl rfl rfl rfl ⟨rfl, rfl, rfl, rfl, rfl⟩ rfl rfl rfl rfl rfl (by kernel_rfl) Tryz.func9 joined
    (of_decide_eq_true (by kernel_rfl)) (by unfold Func.isWrapper; first | (rw [if_pos (by decide +kernel)]; kernel_rfl) | (rw [if_neg (by decide +kernel)]; exact ⟨rfl, rfl⟩))
    (fun os started H enc _ => lifted os started H enc)

theorem proved : Rows.RecordRedoesSaid := over
end Go.Proofs.YtbchgeledcfklaaGreat.RecordRedoesLaw

