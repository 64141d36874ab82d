/- The law RecordLays. Part 14 of 21. -/
import Derived.Test.YtjajdpfdhokkhaaGreatQ13
namespace Go.Proofs.E
open Go
set_option linter.unusedVariables false
set_option linter.unusedSimpArgs false
set_option linter.unusedSectionVars false
set_option maxRecDepth 4000
set_option maxHeartbeats 1000000
attribute [local irreducible] Yl TL TC TE Spec YSpec R1 Hp.le EnvLe TS TR YS Stays
-- BN
abbrev StpFt (_ : Hp) (x : Stp) : Prop := RowFit x.row
abbrev AnyF {α : Type} (_ : Hp) (_ : α) : Prop := True
theorem rmanyIm_spec (ρ : Hp) (tb br cb : Nat) (v : RV) (r : Rc) (s : RS3) {a n c ra rn rc Rs} (h : RdAt ρ a n c ra rn rc Rs s) :
    Spec Tryz.prog 161 [.pointer (some ⟨tb, 0, none⟩), .func (.func 162) ⟨[]⟩ ⟨[.pointer (some ⟨cb, 0, none⟩)]⟩] ρ (cbC cb tb :: rdL tb br a n c ra rn rc v r s)
      (fun z ρ' L' => ρ.le ρ' ∧ ∃ (sa : Option Addr) (sn sc : Nat) (acc : List Im) (a' : Option Addr) (n' c' : Nat), z = .slice sa sn sc ∧ sn ≤ sc ∧ sn ≤ 255 ∧ AIn ρ' 7 imV sa sn acc ∧ (∀ x ∈ acc, Im.In ρ' x) ∧ acc.map Im.plain = (manyD (imD (decide (r.kind = 2))) s).1 ∧ RdAt ρ' a' n' c' ra rn rc Rs (manyD (imD (decide (r.kind = 2))) s).2 ∧ L' = cbC cb tb :: rdL tb br a' n' c' ra rn rc v r (manyD (imD (decide (r.kind = 2))) s).2) := by
  have h8 := n8_spec ρ br h
  have hlt0 := rdN_lt 1 s
  generalize hq : manyD (imD (decide (r.kind = 2))) s = q
  unfold manyD at hq
  rw [show rdL tb br a n c ra rn rc v r s = [reC tb br ra rn rc v r (rdN 1 s).2.2.2, rdC br a n c s.2.1] from rfl]
  generalize rdN 1 s = p at *
  obtain ⟨x1, s1⟩ := p
  dsimp only at h8 hlt0 hq ⊢
  refine spec_enter Tryz.func161 rfl rfl rfl fun u R => ?_
  simp only [argsE, List.cons_append, List.nil_append]
  repeat' (first | (refine tl_is (.func 80) ?_; refine qC rfl rfl (h8) ?_; rintro v ρ' L' hle ⟨rfl, rfl, a1, n1, c1, h1, rfl⟩ <;> (try simp only [kM, kN, kO])) | (refine iBu ?_; refine tl_y (y_buildN rfl) rfl rfl ?_) | (refine i_op ?_; first | (refine i_qq ?_; refine qQ ?_) | refine qEf ?_) | refine tl_nil ?_ | (refine i_tc ?_; refine qTc ?_) | (refine i_te ?_; refine qTe ?_) | intro _)
  refine tc_loop_g [(0, _), (1, _), (4, _), (6, _)] (fun (ζ : (Nat) × (Hp) × (Value) × (List Value) × (List Im) × (Option Addr) × (Nat) × (Nat) × (RS3)) => [(7, .int .i64 ζ.1), (5, ζ.2.2.1)]) (fun (ζ : (Nat) × (Hp) × (Value) × (List Value) × (List Im) × (Option Addr) × (Nat) × (Nat) × (RS3)) => ζ.2.1) (fun (ζ : (Nat) × (Hp) × (Value) × (List Value) × (List Im) × (Option Addr) × (Nat) × (Nat) × (RS3)) => [ownC ζ.2.2.1 ((ζ.2.2.2.2.1.map imV).flatten) ζ.2.2.2.1 128, cbC cb tb, reC tb br ra rn rc v r ζ.2.2.2.2.2.2.2.2.2.2, rdC br ζ.2.2.2.2.2.1 ζ.2.2.2.2.2.2.1 ζ.2.2.2.2.2.2.2.1 ζ.2.2.2.2.2.2.2.2.2.1]) (fun (ζ : (Nat) × (Hp) × (Value) × (List Value) × (List Im) × (Option Addr) × (Nat) × (Nat) × (RS3)) => ζ.1 ≤ x1 ∧ ρ'.le ζ.2.1 ∧ OwnS ζ.2.2.1 ζ.1 ((ζ.2.2.2.2.1.map imV).flatten) ζ.2.2.2.1 7 ∧ ζ.2.2.2.2.1.length = ζ.1 ∧ RdAt ζ.2.1 ζ.2.2.2.2.2.1 ζ.2.2.2.2.2.2.1 ζ.2.2.2.2.2.2.2.1 ra rn rc Rs ζ.2.2.2.2.2.2.2.2 ∧ (∀ x ∈ ζ.2.2.2.2.1, Im.In ζ.2.1 x) ∧ q = (ζ.2.2.2.2.1.map Im.plain ++ (manyS (imD (decide (r.kind = 2))) (x1 - ζ.1) ζ.2.2.2.2.2.2.2.2).1, (manyS (imD (decide (r.kind = 2))) (x1 - ζ.1) ζ.2.2.2.2.2.2.2.2).2)) (fun (ζ : (Nat) × (Hp) × (Value) × (List Value) × (List Im) × (Option Addr) × (Nat) × (Nat) × (RS3)) => x1 - ζ.1) ((0, ρ', .slice none 0 0, [], [], a1, n1, c1, s1)) (⟨Nat.zero_le _, Hp.le_refl _, OwnS.nil 7, rfl, h1, by simp, by simp [← hq]⟩) ev_le ev_le rfl tk ?_
  rintro ⟨i, ρ1, vv, sp, acc, a2, n2, c2, s2⟩ hI
  try simp only [List.cons_append, List.nil_append, List.append_assoc, List.append_eq] at hI ⊢
  try dsimp only at hI ⊢
  obtain ⟨hi, hle1, hown, hal, h2, hP, hq2⟩ := hI
  obtain ⟨va, vc, rfl, _⟩ := hown.slice
  have hg : ∀ x ∈ acc, (imV x).length = 7 := fun x _ => rfl
  have hok := rok_spec ρ1 tb br a2 n2 c2 ra rn rc v r s2
  by_cases hlt : i < x1
  · cases ho : okS s2
    · have hm0 : manyS (imD (decide (r.kind = 2))) (x1 - i) s2 = ([], s2) := by
        rw [show x1 - i = (x1 - (i + 1)) + 1 by omega, manyS, ho]; rfl
      rw [hm0] at hq2
      simp only [List.append_nil] at hq2
      rw [ho] at hok
      subst hq2
      repeat' (first | (refine tl_is (.func 88) ?_; refine qC rfl rfl (hok) ?_; rintro v ρ' L' hle ⟨rfl, rfl, rfl⟩ <;> (try simp only [kM, kN, kO])) | (refine iBu ?_; refine tl_y (y_buildN rfl) rfl rfl ?_) | (refine i_op ?_; first | (refine i_qq ?_; refine qQ ?_) | refine qEf ?_) | refine tl_nil ?_ | (refine i_tc ?_; refine qTc ?_) | (refine i_te ?_; refine qTe ?_) | intro _)
      refine te_freeze (ownC (.slice va i vc) ((acc.map imV).flatten) sp 128) (fun ρ3 hle3 hfz => ?_)
      obtain ⟨sa, sc, e1, hsc, hA⟩ := hown.aIn hal hg hfz
      cases e1
      exact qE ⟨Hp.le_trans hle1 hle3, _, _, _, acc, a2, n2, c2, rfl, hsc, by omega, hA, (fun x hx => (hP x hx).mono hle3), rfl, h2.mono hle3, rfl⟩
    · rw [show x1 - i = (x1 - (i + 1)) + 1 by omega, manyS, if_pos ho] at hq2
      rw [ho] at hok
      have hrow := fun ρ (h : RdAt ρ a2 n2 c2 ra rn rc Rs s2) => rchange1_spec ρ tb br cb v r s2 h
      skip
      generalize (imD (decide (r.kind = 2))) s2 = y at *
      obtain ⟨x, s3⟩ := y
      dsimp only at hq2 hrow
      repeat' (first | (refine tl_is (.func 88) ?_; refine qC rfl rfl (hok) ?_; rintro v ρ' L' hle ⟨rfl, rfl, rfl⟩ <;> (try simp only [kM, kN, kO])) | (refine tl_is (.tmp 24) ?_; refine qC rfl rfl (hrow _ h2) ?_; rintro v ρ' L' hle ⟨hle3, y, a3, n3, c3, rfl, hxi, hxp, h3, rfl⟩ <;> (try simp only [kM, kN, kO])) | (refine iBu ?_; refine tl_y (y_buildN rfl) rfl rfl ?_) | (refine i_op ?_; first | (refine i_qq ?_; refine qQ ?_) | refine qEf ?_) | refine tl_nil ?_ | (refine i_tc ?_; refine qTc ?_) | (refine i_te ?_; refine qTe ?_) | intro _)
      refine tl_buildSliceA (css := [imV y]) (sz := 7) rfl rfl rfl rfl (by simp) (by simp) rfl (fun bs => ?_)
      simp only [List.flatten_cons, List.flatten_nil, List.append_nil]
      refine tl_app (ys := imV y) (m := 1) rfl rfl hown (hR := by infer_instance) (SrcV.lit) rfl rfl (by decide) rfl (by omega) (by omega) rfl (fun v' sp' hown' => ?_)
      have hm : (acc.map imV).flatten ++ imV y = ((acc ++ [y]).map imV).flatten := by simp
      rw [hm] at hown' ⊢
      repeat' (first | (refine iBu ?_; refine tl_y (y_buildN rfl) rfl rfl ?_) | (refine i_op ?_; first | (refine i_qq ?_; refine qQ ?_) | refine qEf ?_) | refine tl_nil ?_ | (refine i_tc ?_; refine qTc ?_) | (refine i_te ?_; refine qTe ?_) | intro _)
      have hPn : ∀ z ∈ acc ++ [y], Im.In ρ' z := fun z hz => by
        rcases List.mem_append.1 hz with hz | hz
        · exact (hP z hz).mono hle3
        · rw [List.mem_singleton.1 hz]; exact hxi
      refine te_round_g (i + 1, _, v', sp', acc ++ [y], a3, n3, c3, s3) (⟨hlt, Hp.le_trans hle1 hle3, hown', by simp [hal], h3, hPn, by rw [hq2]; simp [hxp]⟩) ev_le ev_le rfl tk inferInstance (by first | omega | (dsimp only; omega))
  · have hi2 : i = x1 := by omega
    subst hi2
    rw [Nat.sub_self, manyS] at hq2
    simp only [List.append_nil] at hq2
    subst hq2
    repeat' (first | (refine iBu ?_; refine tl_y (y_buildN rfl) rfl rfl ?_) | (refine i_op ?_; first | (refine i_qq ?_; refine qQ ?_) | refine qEf ?_) | refine tl_nil ?_ | (refine i_tc ?_; refine qTc ?_) | (refine i_te ?_; refine qTe ?_) | intro _)
    refine te_freeze (ownC (.slice va i vc) ((acc.map imV).flatten) sp 128) (fun ρ3 hle3 hfz => ?_)
    obtain ⟨sa, sc, e1, hsc, hA⟩ := hown.aIn hal hg hfz
    cases e1
    exact qE ⟨Hp.le_trans hle1 hle3, _, _, _, acc, a2, n2, c2, rfl, hsc, by omega, hA, (fun x hx => (hP x hx).mono hle3), rfl, h2.mono hle3, rfl⟩
theorem rmanyStp_spec (ρ : Hp) (tb br cb : Nat) (v : RV) (r : Rc) (s : RS3) {a n c ra rn rc Rs} (h : RdAt ρ a n c ra rn rc Rs s) :
    Spec Tryz.prog 165 [.pointer (some ⟨tb, 0, none⟩), .func (.func 166) ⟨[]⟩ ⟨[.pointer (some ⟨cb, 0, none⟩)]⟩] ρ (cbC cb tb :: rdL tb br a n c ra rn rc v r s)
      (fun z ρ' L' => ρ.le ρ' ∧ ∃ (sa : Option Addr) (sn sc : Nat) (acc : List Stp) (a' : Option Addr) (n' c' : Nat), z = .slice sa sn sc ∧ sn ≤ sc ∧ sn ≤ 255 ∧ AIn ρ' 6 stpV sa sn acc ∧ (∀ x ∈ acc, StpFt ρ' x) ∧ acc = (manyD stpD s).1 ∧ RdAt ρ' a' n' c' ra rn rc Rs (manyD stpD s).2 ∧ L' = cbC cb tb :: rdL tb br a' n' c' ra rn rc v r (manyD stpD s).2) := by
  have h8 := n8_spec ρ br h
  have hlt0 := rdN_lt 1 s
  generalize hq : manyD stpD s = q
  unfold manyD at hq
  rw [show rdL tb br a n c ra rn rc v r s = [reC tb br ra rn rc v r (rdN 1 s).2.2.2, rdC br a n c s.2.1] from rfl]
  generalize rdN 1 s = p at *
  obtain ⟨x1, s1⟩ := p
  dsimp only at h8 hlt0 hq ⊢
  refine spec_enter Tryz.func165 rfl rfl rfl fun u R => ?_
  simp only [argsE, List.cons_append, List.nil_append]
  repeat' (first | (refine tl_is (.func 80) ?_; refine qC rfl rfl (h8) ?_; rintro v ρ' L' hle ⟨rfl, rfl, a1, n1, c1, h1, rfl⟩ <;> (try simp only [kM, kN, kO])) | (refine iBu ?_; refine tl_y (y_buildN rfl) rfl rfl ?_) | (refine i_op ?_; first | (refine i_qq ?_; refine qQ ?_) | refine qEf ?_) | refine tl_nil ?_ | (refine i_tc ?_; refine qTc ?_) | (refine i_te ?_; refine qTe ?_) | intro _)
  refine tc_loop_g [(0, _), (1, _), (4, _), (6, _)] (fun (ζ : (Nat) × (Hp) × (Value) × (List Value) × (List Stp) × (Option Addr) × (Nat) × (Nat) × (RS3)) => [(7, .int .i64 ζ.1), (5, ζ.2.2.1)]) (fun (ζ : (Nat) × (Hp) × (Value) × (List Value) × (List Stp) × (Option Addr) × (Nat) × (Nat) × (RS3)) => ζ.2.1) (fun (ζ : (Nat) × (Hp) × (Value) × (List Value) × (List Stp) × (Option Addr) × (Nat) × (Nat) × (RS3)) => [ownC ζ.2.2.1 ((ζ.2.2.2.2.1.map stpV).flatten) ζ.2.2.2.1 103, cbC cb tb, reC tb br ra rn rc v r ζ.2.2.2.2.2.2.2.2.2.2, rdC br ζ.2.2.2.2.2.1 ζ.2.2.2.2.2.2.1 ζ.2.2.2.2.2.2.2.1 ζ.2.2.2.2.2.2.2.2.2.1]) (fun (ζ : (Nat) × (Hp) × (Value) × (List Value) × (List Stp) × (Option Addr) × (Nat) × (Nat) × (RS3)) => ζ.1 ≤ x1 ∧ ρ'.le ζ.2.1 ∧ OwnS ζ.2.2.1 ζ.1 ((ζ.2.2.2.2.1.map stpV).flatten) ζ.2.2.2.1 6 ∧ ζ.2.2.2.2.1.length = ζ.1 ∧ RdAt ζ.2.1 ζ.2.2.2.2.2.1 ζ.2.2.2.2.2.2.1 ζ.2.2.2.2.2.2.2.1 ra rn rc Rs ζ.2.2.2.2.2.2.2.2 ∧ (∀ x ∈ ζ.2.2.2.2.1, StpFt ζ.2.1 x) ∧ q = (ζ.2.2.2.2.1 ++ (manyS stpD (x1 - ζ.1) ζ.2.2.2.2.2.2.2.2).1, (manyS stpD (x1 - ζ.1) ζ.2.2.2.2.2.2.2.2).2)) (fun (ζ : (Nat) × (Hp) × (Value) × (List Value) × (List Stp) × (Option Addr) × (Nat) × (Nat) × (RS3)) => x1 - ζ.1) ((0, ρ', .slice none 0 0, [], [], a1, n1, c1, s1)) (⟨Nat.zero_le _, Hp.le_refl _, OwnS.nil 6, rfl, h1, by simp, by simp [← hq]⟩) ev_le ev_le rfl tk ?_
  rintro ⟨i, ρ1, vv, sp, acc, a2, n2, c2, s2⟩ hI
  try simp only [List.cons_append, List.nil_append, List.append_assoc, List.append_eq] at hI ⊢
  try dsimp only at hI ⊢
  obtain ⟨hi, hle1, hown, hal, h2, hP, hq2⟩ := hI
  obtain ⟨va, vc, rfl, _⟩ := hown.slice
  have hg : ∀ x ∈ acc, (stpV x).length = 6 := fun x _ => rfl
  have hok := rok_spec ρ1 tb br a2 n2 c2 ra rn rc v r s2
  by_cases hlt : i < x1
  · cases ho : okS s2
    · have hm0 : manyS stpD (x1 - i) s2 = ([], s2) := by
        rw [show x1 - i = (x1 - (i + 1)) + 1 by omega, manyS, ho]; rfl
      rw [hm0] at hq2
      simp only [List.append_nil] at hq2
      rw [ho] at hok
      subst hq2
      repeat' (first | (refine tl_is (.func 88) ?_; refine qC rfl rfl (hok) ?_; rintro v ρ' L' hle ⟨rfl, rfl, rfl⟩ <;> (try simp only [kM, kN, kO])) | (refine iBu ?_; refine tl_y (y_buildN rfl) rfl rfl ?_) | (refine i_op ?_; first | (refine i_qq ?_; refine qQ ?_) | refine qEf ?_) | refine tl_nil ?_ | (refine i_tc ?_; refine qTc ?_) | (refine i_te ?_; refine qTe ?_) | intro _)
      refine te_freeze (ownC (.slice va i vc) ((acc.map stpV).flatten) sp 103) (fun ρ3 hle3 hfz => ?_)
      obtain ⟨sa, sc, e1, hsc, hA⟩ := hown.aIn hal hg hfz
      cases e1
      exact qE ⟨Hp.le_trans hle1 hle3, _, _, _, acc, a2, n2, c2, rfl, hsc, by omega, hA, hP, rfl, h2.mono hle3, rfl⟩
    · rw [show x1 - i = (x1 - (i + 1)) + 1 by omega, manyS, if_pos ho] at hq2
      rw [ho] at hok
      have hrow := fun ρ (h : RdAt ρ a2 n2 c2 ra rn rc Rs s2) => rdone1_spec ρ tb br cb v r s2 h
      skip
      generalize stpD s2 = y at *
      obtain ⟨x, s3⟩ := y
      dsimp only at hq2 hrow
      repeat' (first | (refine tl_is (.func 88) ?_; refine qC rfl rfl (hok) ?_; rintro v ρ' L' hle ⟨rfl, rfl, rfl⟩ <;> (try simp only [kM, kN, kO])) | (refine tl_is (.tmp 24) ?_; refine qC rfl rfl (hrow _ h2) ?_; rintro v ρ' L' hle ⟨hle3, rfl, hxi, a3, n3, c3, h3, rfl⟩ <;> (try simp only [kM, kN, kO])) | (refine iBu ?_; refine tl_y (y_buildN rfl) rfl rfl ?_) | (refine i_op ?_; first | (refine i_qq ?_; refine qQ ?_) | refine qEf ?_) | refine tl_nil ?_ | (refine i_tc ?_; refine qTc ?_) | (refine i_te ?_; refine qTe ?_) | intro _)
      refine tl_buildSliceA (css := [stpV x]) (sz := 6) rfl rfl rfl rfl (by simp) (by simp) rfl (fun bs => ?_)
      simp only [List.flatten_cons, List.flatten_nil, List.append_nil]
      refine tl_app (ys := stpV x) (m := 1) rfl rfl hown (hR := by infer_instance) (SrcV.lit) rfl rfl (by decide) rfl (by omega) (by omega) rfl (fun v' sp' hown' => ?_)
      have hm : (acc.map stpV).flatten ++ stpV x = ((acc ++ [x]).map stpV).flatten := by simp
      rw [hm] at hown' ⊢
      repeat' (first | (refine iBu ?_; refine tl_y (y_buildN rfl) rfl rfl ?_) | (refine i_op ?_; first | (refine i_qq ?_; refine qQ ?_) | refine qEf ?_) | refine tl_nil ?_ | (refine i_tc ?_; refine qTc ?_) | (refine i_te ?_; refine qTe ?_) | intro _)
      have hPn : ∀ z ∈ acc ++ [x], StpFt ρ' z := fun z hz => by
        rcases List.mem_append.1 hz with hz | hz
        · exact hP z hz
        · rw [List.mem_singleton.1 hz]; exact hxi
      refine te_round_g (i + 1, _, v', sp', acc ++ [x], a3, n3, c3, s3) (⟨hlt, Hp.le_trans hle1 hle3, hown', by simp [hal], h3, hPn, by rw [hq2]; simp⟩) ev_le ev_le rfl tk inferInstance (by first | omega | (dsimp only; omega))
  · have hi2 : i = x1 := by omega
    subst hi2
    rw [Nat.sub_self, manyS] at hq2
    simp only [List.append_nil] at hq2
    subst hq2
    repeat' (first | (refine iBu ?_; refine tl_y (y_buildN rfl) rfl rfl ?_) | (refine i_op ?_; first | (refine i_qq ?_; refine qQ ?_) | refine qEf ?_) | refine tl_nil ?_ | (refine i_tc ?_; refine qTc ?_) | (refine i_te ?_; refine qTe ?_) | intro _)
    refine te_freeze (ownC (.slice va i vc) ((acc.map stpV).flatten) sp 103) (fun ρ3 hle3 hfz => ?_)
    obtain ⟨sa, sc, e1, hsc, hA⟩ := hown.aIn hal hg hfz
    cases e1
    exact qE ⟨Hp.le_trans hle1 hle3, _, _, _, acc, a2, n2, c2, rfl, hsc, by omega, hA, hP, rfl, h2.mono hle3, rfl⟩
theorem rmanyCkT_spec (ρ : Hp) (tb br cb : Nat) (v : RV) (r : Rc) (s : RS3) {a n c ra rn rc Rs} (h : RdAt ρ a n c ra rn rc Rs s) :
    Spec Tryz.prog 170 [.pointer (some ⟨tb, 0, none⟩), .func (.func 171) ⟨[]⟩ ⟨[.pointer (some ⟨cb, 0, none⟩)]⟩] ρ (cbC cb tb :: rdL tb br a n c ra rn rc v r s)
      (fun z ρ' L' => ρ.le ρ' ∧ ∃ (sa : Option Addr) (sn sc : Nat) (acc : List CkT) (a' : Option Addr) (n' c' : Nat), z = .slice sa sn sc ∧ sn ≤ sc ∧ sn ≤ 255 ∧ AIn ρ' 5 ckTV sa sn acc ∧ (∀ x ∈ acc, AnyF ρ' x) ∧ acc = (manyD ckTD s).1 ∧ RdAt ρ' a' n' c' ra rn rc Rs (manyD ckTD s).2 ∧ L' = cbC cb tb :: rdL tb br a' n' c' ra rn rc v r (manyD ckTD s).2) := by
  have h8 := n8_spec ρ br h
  have hlt0 := rdN_lt 1 s
  generalize hq : manyD ckTD s = q
  unfold manyD at hq
  rw [show rdL tb br a n c ra rn rc v r s = [reC tb br ra rn rc v r (rdN 1 s).2.2.2, rdC br a n c s.2.1] from rfl]
  generalize rdN 1 s = p at *
  obtain ⟨x1, s1⟩ := p
  dsimp only at h8 hlt0 hq ⊢
  refine spec_enter Tryz.func170 rfl rfl rfl fun u R => ?_
  simp only [argsE, List.cons_append, List.nil_append]
  repeat' (first | (refine tl_is (.func 80) ?_; refine qC rfl rfl (h8) ?_; rintro v ρ' L' hle ⟨rfl, rfl, a1, n1, c1, h1, rfl⟩ <;> (try simp only [kM, kN, kO])) | (refine iBu ?_; refine tl_y (y_buildN rfl) rfl rfl ?_) | (refine i_op ?_; first | (refine i_qq ?_; refine qQ ?_) | refine qEf ?_) | refine tl_nil ?_ | (refine i_tc ?_; refine qTc ?_) | (refine i_te ?_; refine qTe ?_) | intro _)
  refine tc_loop_g [(0, _), (1, _), (4, _), (6, _)] (fun (ζ : (Nat) × (Hp) × (Value) × (List Value) × (List CkT) × (Option Addr) × (Nat) × (Nat) × (RS3)) => [(7, .int .i64 ζ.1), (5, ζ.2.2.1)]) (fun (ζ : (Nat) × (Hp) × (Value) × (List Value) × (List CkT) × (Option Addr) × (Nat) × (Nat) × (RS3)) => ζ.2.1) (fun (ζ : (Nat) × (Hp) × (Value) × (List Value) × (List CkT) × (Option Addr) × (Nat) × (Nat) × (RS3)) => [ownC ζ.2.2.1 ((ζ.2.2.2.2.1.map ckTV).flatten) ζ.2.2.2.1 81, cbC cb tb, reC tb br ra rn rc v r ζ.2.2.2.2.2.2.2.2.2.2, rdC br ζ.2.2.2.2.2.1 ζ.2.2.2.2.2.2.1 ζ.2.2.2.2.2.2.2.1 ζ.2.2.2.2.2.2.2.2.2.1]) (fun (ζ : (Nat) × (Hp) × (Value) × (List Value) × (List CkT) × (Option Addr) × (Nat) × (Nat) × (RS3)) => ζ.1 ≤ x1 ∧ ρ'.le ζ.2.1 ∧ OwnS ζ.2.2.1 ζ.1 ((ζ.2.2.2.2.1.map ckTV).flatten) ζ.2.2.2.1 5 ∧ ζ.2.2.2.2.1.length = ζ.1 ∧ RdAt ζ.2.1 ζ.2.2.2.2.2.1 ζ.2.2.2.2.2.2.1 ζ.2.2.2.2.2.2.2.1 ra rn rc Rs ζ.2.2.2.2.2.2.2.2 ∧ (∀ x ∈ ζ.2.2.2.2.1, AnyF ζ.2.1 x) ∧ q = (ζ.2.2.2.2.1 ++ (manyS ckTD (x1 - ζ.1) ζ.2.2.2.2.2.2.2.2).1, (manyS ckTD (x1 - ζ.1) ζ.2.2.2.2.2.2.2.2).2)) (fun (ζ : (Nat) × (Hp) × (Value) × (List Value) × (List CkT) × (Option Addr) × (Nat) × (Nat) × (RS3)) => x1 - ζ.1) ((0, ρ', .slice none 0 0, [], [], a1, n1, c1, s1)) (⟨Nat.zero_le _, Hp.le_refl _, OwnS.nil 5, rfl, h1, by simp, by simp [← hq]⟩) ev_le ev_le rfl tk ?_
  rintro ⟨i, ρ1, vv, sp, acc, a2, n2, c2, s2⟩ hI
  try simp only [List.cons_append, List.nil_append, List.append_assoc, List.append_eq] at hI ⊢
  try dsimp only at hI ⊢
  obtain ⟨hi, hle1, hown, hal, h2, hP, hq2⟩ := hI
  obtain ⟨va, vc, rfl, _⟩ := hown.slice
  have hg : ∀ x ∈ acc, (ckTV x).length = 5 := fun x _ => rfl
  have hok := rok_spec ρ1 tb br a2 n2 c2 ra rn rc v r s2
  by_cases hlt : i < x1
  · cases ho : okS s2
    · have hm0 : manyS ckTD (x1 - i) s2 = ([], s2) := by
        rw [show x1 - i = (x1 - (i + 1)) + 1 by omega, manyS, ho]; rfl
      rw [hm0] at hq2
      simp only [List.append_nil] at hq2
      rw [ho] at hok
      subst hq2
      repeat' (first | (refine tl_is (.func 88) ?_; refine qC rfl rfl (hok) ?_; rintro v ρ' L' hle ⟨rfl, rfl, rfl⟩ <;> (try simp only [kM, kN, kO])) | (refine iBu ?_; refine tl_y (y_buildN rfl) rfl rfl ?_) | (refine i_op ?_; first | (refine i_qq ?_; refine qQ ?_) | refine qEf ?_) | refine tl_nil ?_ | (refine i_tc ?_; refine qTc ?_) | (refine i_te ?_; refine qTe ?_) | intro _)
      refine te_freeze (ownC (.slice va i vc) ((acc.map ckTV).flatten) sp 81) (fun ρ3 hle3 hfz => ?_)
      obtain ⟨sa, sc, e1, hsc, hA⟩ := hown.aIn hal hg hfz
      cases e1
      exact qE ⟨Hp.le_trans hle1 hle3, _, _, _, acc, a2, n2, c2, rfl, hsc, by omega, hA, hP, rfl, h2.mono hle3, rfl⟩
    · rw [show x1 - i = (x1 - (i + 1)) + 1 by omega, manyS, if_pos ho] at hq2
      rw [ho] at hok
      have hrow := fun ρ (h : RdAt ρ a2 n2 c2 ra rn rc Rs s2) => rckpt1_spec ρ tb br cb v r s2 h
      skip
      generalize ckTD s2 = y at *
      obtain ⟨x, s3⟩ := y
      dsimp only at hq2 hrow
      repeat' (first | (refine tl_is (.func 88) ?_; refine qC rfl rfl (hok) ?_; rintro v ρ' L' hle ⟨rfl, rfl, rfl⟩ <;> (try simp only [kM, kN, kO])) | (refine tl_is (.tmp 24) ?_; refine qC rfl rfl (hrow _ h2) ?_; rintro v ρ' L' hle ⟨hle3, rfl, hxi, a3, n3, c3, h3, rfl⟩ <;> (try simp only [kM, kN, kO])) | (refine iBu ?_; refine tl_y (y_buildN rfl) rfl rfl ?_) | (refine i_op ?_; first | (refine i_qq ?_; refine qQ ?_) | refine qEf ?_) | refine tl_nil ?_ | (refine i_tc ?_; refine qTc ?_) | (refine i_te ?_; refine qTe ?_) | intro _)
      refine tl_buildSliceA (css := [ckTV x]) (sz := 5) rfl rfl rfl rfl (by simp) (by simp) rfl (fun bs => ?_)
      simp only [List.flatten_cons, List.flatten_nil, List.append_nil]
      refine tl_app (ys := ckTV x) (m := 1) rfl rfl hown (hR := by infer_instance) (SrcV.lit) rfl rfl (by decide) rfl (by omega) (by omega) rfl (fun v' sp' hown' => ?_)
      have hm : (acc.map ckTV).flatten ++ ckTV x = ((acc ++ [x]).map ckTV).flatten := by simp
      rw [hm] at hown' ⊢
      repeat' (first | (refine iBu ?_; refine tl_y (y_buildN rfl) rfl rfl ?_) | (refine i_op ?_; first | (refine i_qq ?_; refine qQ ?_) | refine qEf ?_) | refine tl_nil ?_ | (refine i_tc ?_; refine qTc ?_) | (refine i_te ?_; refine qTe ?_) | intro _)
      have hPn : ∀ z ∈ acc ++ [x], AnyF ρ' z := fun z hz => by
        rcases List.mem_append.1 hz with hz | hz
        · exact hP z hz
        · rw [List.mem_singleton.1 hz]; exact hxi
      refine te_round_g (i + 1, _, v', sp', acc ++ [x], a3, n3, c3, s3) (⟨hlt, Hp.le_trans hle1 hle3, hown', by simp [hal], h3, hPn, by rw [hq2]; simp⟩) ev_le ev_le rfl tk inferInstance (by first | omega | (dsimp only; omega))
  · have hi2 : i = x1 := by omega
    subst hi2
    rw [Nat.sub_self, manyS] at hq2
    simp only [List.append_nil] at hq2
    subst hq2
    repeat' (first | (refine iBu ?_; refine tl_y (y_buildN rfl) rfl rfl ?_) | (refine i_op ?_; first | (refine i_qq ?_; refine qQ ?_) | refine qEf ?_) | refine tl_nil ?_ | (refine i_tc ?_; refine qTc ?_) | (refine i_te ?_; refine qTe ?_) | intro _)
    refine te_freeze (ownC (.slice va i vc) ((acc.map ckTV).flatten) sp 81) (fun ρ3 hle3 hfz => ?_)
    obtain ⟨sa, sc, e1, hsc, hA⟩ := hown.aIn hal hg hfz
    cases e1
    exact qE ⟨Hp.le_trans hle1 hle3, _, _, _, acc, a2, n2, c2, rfl, hsc, by omega, hA, hP, rfl, h2.mono hle3, rfl⟩
theorem rmanyCkP_spec (ρ : Hp) (tb br cb : Nat) (v : RV) (r : Rc) (s : RS3) {a n c ra rn rc Rs} (h : RdAt ρ a n c ra rn rc Rs s) :
    Spec Tryz.prog 172 [.pointer (some ⟨tb, 0, none⟩), .func (.func 173) ⟨[]⟩ ⟨[.pointer (some ⟨cb, 0, none⟩)]⟩] ρ (cbC cb tb :: rdL tb br a n c ra rn rc v r s)
      (fun z ρ' L' => ρ.le ρ' ∧ ∃ (sa : Option Addr) (sn sc : Nat) (acc : List CkP) (a' : Option Addr) (n' c' : Nat), z = .slice sa sn sc ∧ sn ≤ sc ∧ sn ≤ 255 ∧ AIn ρ' 2 ckPV sa sn acc ∧ (∀ x ∈ acc, AnyF ρ' x) ∧ acc = (manyD ckPD s).1 ∧ RdAt ρ' a' n' c' ra rn rc Rs (manyD ckPD s).2 ∧ L' = cbC cb tb :: rdL tb br a' n' c' ra rn rc v r (manyD ckPD s).2) := by
  have h8 := n8_spec ρ br h
  have hlt0 := rdN_lt 1 s
  generalize hq : manyD ckPD s = q
  unfold manyD at hq
  rw [show rdL tb br a n c ra rn rc v r s = [reC tb br ra rn rc v r (rdN 1 s).2.2.2, rdC br a n c s.2.1] from rfl]
  generalize rdN 1 s = p at *
  obtain ⟨x1, s1⟩ := p
  dsimp only at h8 hlt0 hq ⊢
  refine spec_enter Tryz.func172 rfl rfl rfl fun u R => ?_
  simp only [argsE, List.cons_append, List.nil_append]
  repeat' (first | (refine tl_is (.func 80) ?_; refine qC rfl rfl (h8) ?_; rintro v ρ' L' hle ⟨rfl, rfl, a1, n1, c1, h1, rfl⟩ <;> (try simp only [kM, kN, kO])) | (refine iBu ?_; refine tl_y (y_buildN rfl) rfl rfl ?_) | (refine i_op ?_; first | (refine i_qq ?_; refine qQ ?_) | refine qEf ?_) | refine tl_nil ?_ | (refine i_tc ?_; refine qTc ?_) | (refine i_te ?_; refine qTe ?_) | intro _)
  refine tc_loop_g [(0, _), (1, _), (4, _), (6, _)] (fun (ζ : (Nat) × (Hp) × (Value) × (List Value) × (List CkP) × (Option Addr) × (Nat) × (Nat) × (RS3)) => [(7, .int .i64 ζ.1), (5, ζ.2.2.1)]) (fun (ζ : (Nat) × (Hp) × (Value) × (List Value) × (List CkP) × (Option Addr) × (Nat) × (Nat) × (RS3)) => ζ.2.1) (fun (ζ : (Nat) × (Hp) × (Value) × (List Value) × (List CkP) × (Option Addr) × (Nat) × (Nat) × (RS3)) => [ownC ζ.2.2.1 ((ζ.2.2.2.2.1.map ckPV).flatten) ζ.2.2.2.1 125, cbC cb tb, reC tb br ra rn rc v r ζ.2.2.2.2.2.2.2.2.2.2, rdC br ζ.2.2.2.2.2.1 ζ.2.2.2.2.2.2.1 ζ.2.2.2.2.2.2.2.1 ζ.2.2.2.2.2.2.2.2.2.1]) (fun (ζ : (Nat) × (Hp) × (Value) × (List Value) × (List CkP) × (Option Addr) × (Nat) × (Nat) × (RS3)) => ζ.1 ≤ x1 ∧ ρ'.le ζ.2.1 ∧ OwnS ζ.2.2.1 ζ.1 ((ζ.2.2.2.2.1.map ckPV).flatten) ζ.2.2.2.1 2 ∧ ζ.2.2.2.2.1.length = ζ.1 ∧ RdAt ζ.2.1 ζ.2.2.2.2.2.1 ζ.2.2.2.2.2.2.1 ζ.2.2.2.2.2.2.2.1 ra rn rc Rs ζ.2.2.2.2.2.2.2.2 ∧ (∀ x ∈ ζ.2.2.2.2.1, AnyF ζ.2.1 x) ∧ q = (ζ.2.2.2.2.1 ++ (manyS ckPD (x1 - ζ.1) ζ.2.2.2.2.2.2.2.2).1, (manyS ckPD (x1 - ζ.1) ζ.2.2.2.2.2.2.2.2).2)) (fun (ζ : (Nat) × (Hp) × (Value) × (List Value) × (List CkP) × (Option Addr) × (Nat) × (Nat) × (RS3)) => x1 - ζ.1) ((0, ρ', .slice none 0 0, [], [], a1, n1, c1, s1)) (⟨Nat.zero_le _, Hp.le_refl _, OwnS.nil 2, rfl, h1, by simp, by simp [← hq]⟩) ev_le ev_le rfl tk ?_
  rintro ⟨i, ρ1, vv, sp, acc, a2, n2, c2, s2⟩ hI
  try simp only [List.cons_append, List.nil_append, List.append_assoc, List.append_eq] at hI ⊢
  try dsimp only at hI ⊢
  obtain ⟨hi, hle1, hown, hal, h2, hP, hq2⟩ := hI
  obtain ⟨va, vc, rfl, _⟩ := hown.slice
  have hg : ∀ x ∈ acc, (ckPV x).length = 2 := fun x _ => rfl
  have hok := rok_spec ρ1 tb br a2 n2 c2 ra rn rc v r s2
  by_cases hlt : i < x1
  · cases ho : okS s2
    · have hm0 : manyS ckPD (x1 - i) s2 = ([], s2) := by
        rw [show x1 - i = (x1 - (i + 1)) + 1 by omega, manyS, ho]; rfl
      rw [hm0] at hq2
      simp only [List.append_nil] at hq2
      rw [ho] at hok
      subst hq2
      repeat' (first | (refine tl_is (.func 88) ?_; refine qC rfl rfl (hok) ?_; rintro v ρ' L' hle ⟨rfl, rfl, rfl⟩ <;> (try simp only [kM, kN, kO])) | (refine iBu ?_; refine tl_y (y_buildN rfl) rfl rfl ?_) | (refine i_op ?_; first | (refine i_qq ?_; refine qQ ?_) | refine qEf ?_) | refine tl_nil ?_ | (refine i_tc ?_; refine qTc ?_) | (refine i_te ?_; refine qTe ?_) | intro _)
      refine te_freeze (ownC (.slice va i vc) ((acc.map ckPV).flatten) sp 125) (fun ρ3 hle3 hfz => ?_)
      obtain ⟨sa, sc, e1, hsc, hA⟩ := hown.aIn hal hg hfz
      cases e1
      exact qE ⟨Hp.le_trans hle1 hle3, _, _, _, acc, a2, n2, c2, rfl, hsc, by omega, hA, hP, rfl, h2.mono hle3, rfl⟩
    · rw [show x1 - i = (x1 - (i + 1)) + 1 by omega, manyS, if_pos ho] at hq2
      rw [ho] at hok
      have hrow := fun ρ (h : RdAt ρ a2 n2 c2 ra rn rc Rs s2) => rckpt2_spec ρ tb br cb v r s2 h
      skip
      generalize ckPD s2 = y at *
      obtain ⟨x, s3⟩ := y
      dsimp only at hq2 hrow
      repeat' (first | (refine tl_is (.func 88) ?_; refine qC rfl rfl (hok) ?_; rintro v ρ' L' hle ⟨rfl, rfl, rfl⟩ <;> (try simp only [kM, kN, kO])) | (refine tl_is (.tmp 24) ?_; refine qC rfl rfl (hrow _ h2) ?_; rintro v ρ' L' hle ⟨hle3, rfl, hxi, a3, n3, c3, h3, rfl⟩ <;> (try simp only [kM, kN, kO])) | (refine iBu ?_; refine tl_y (y_buildN rfl) rfl rfl ?_) | (refine i_op ?_; first | (refine i_qq ?_; refine qQ ?_) | refine qEf ?_) | refine tl_nil ?_ | (refine i_tc ?_; refine qTc ?_) | (refine i_te ?_; refine qTe ?_) | intro _)
      refine tl_buildSliceA (css := [ckPV x]) (sz := 2) rfl rfl rfl rfl (by simp) (by simp) rfl (fun bs => ?_)
      simp only [List.flatten_cons, List.flatten_nil, List.append_nil]
      refine tl_app (ys := ckPV x) (m := 1) rfl rfl hown (hR := by infer_instance) (SrcV.lit) rfl rfl (by decide) rfl (by omega) (by omega) rfl (fun v' sp' hown' => ?_)
      have hm : (acc.map ckPV).flatten ++ ckPV x = ((acc ++ [x]).map ckPV).flatten := by simp
      rw [hm] at hown' ⊢
      repeat' (first | (refine iBu ?_; refine tl_y (y_buildN rfl) rfl rfl ?_) | (refine i_op ?_; first | (refine i_qq ?_; refine qQ ?_) | refine qEf ?_) | refine tl_nil ?_ | (refine i_tc ?_; refine qTc ?_) | (refine i_te ?_; refine qTe ?_) | intro _)
      have hPn : ∀ z ∈ acc ++ [x], AnyF ρ' z := fun z hz => by
        rcases List.mem_append.1 hz with hz | hz
        · exact hP z hz
        · rw [List.mem_singleton.1 hz]; exact hxi
      refine te_round_g (i + 1, _, v', sp', acc ++ [x], a3, n3, c3, s3) (⟨hlt, Hp.le_trans hle1 hle3, hown', by simp [hal], h3, hPn, by rw [hq2]; simp⟩) ev_le ev_le rfl tk inferInstance (by first | omega | (dsimp only; omega))
  · have hi2 : i = x1 := by omega
    subst hi2
    rw [Nat.sub_self, manyS] at hq2
    simp only [List.append_nil] at hq2
    subst hq2
    repeat' (first | (refine iBu ?_; refine tl_y (y_buildN rfl) rfl rfl ?_) | (refine i_op ?_; first | (refine i_qq ?_; refine qQ ?_) | refine qEf ?_) | refine tl_nil ?_ | (refine i_tc ?_; refine qTc ?_) | (refine i_te ?_; refine qTe ?_) | intro _)
    refine te_freeze (ownC (.slice va i vc) ((acc.map ckPV).flatten) sp 125) (fun ρ3 hle3 hfz => ?_)
    obtain ⟨sa, sc, e1, hsc, hA⟩ := hown.aIn hal hg hfz
    cases e1
    exact qE ⟨Hp.le_trans hle1 hle3, _, _, _, acc, a2, n2, c2, rfl, hsc, by omega, hA, hP, rfl, h2.mono hle3, rfl⟩
end Go.Proofs.E

