/- DiskChoice holds for every input, under no condition. Part 1 of 1. -/
import Derived.Test.YthbgnmilbgecfaaB3
import Derived.Test.YthbgnmilbgecfaaRows
namespace Go.Proofs.E
open Go Go.RowKit
set_option linter.unusedVariables false
set_option linter.unusedSimpArgs false
set_option linter.unusedSectionVars false

/-! ## what the laws of this chapter are handed -/
theorem keepIn_of {ρ : Hp} {cs : List Value} {s : Option Addr × Nat × Nat × List Bool} (h : RS ρ 1 RB cs s) : KeepIn ρ s.1 s.2.1 s.2.2.1 s.2.2.2 := by
  obtain ⟨a, n, c, ks⟩ := s
  obtain ⟨h1, h2, h3, h4, h5⟩ := h
  dsimp only at h1 h2 h3 h4 h5 ⊢
  refine ⟨h2, h4, by omega, ?_⟩
  by_cases h0 : n = 0
  · exact .inl h0
  · right
    obtain ⟨b, off, C, T, fr, e1, e2, e3, e4⟩ := h5 0 (by omega)
    have same : ∀ i (h : i < ks.length), off + i * 1 + 1 ≤ C.length ∧ (C.drop (off + i * 1)).take 1 = [.bool ks[i]] := fun i hi => by
      obtain ⟨b', off', C', T', fr', f1, f2, f3, f4⟩ := h5 i hi
      rw [e1] at f1
      cases f1
      rw [e2] at f2
      cases f2
      exact ⟨f3, f4⟩
    refine ⟨b, off, C, T, fr, e1, e2, ?_⟩
    apply List.ext_getElem
    · have := (same (n - 1) (by omega)).1
      simp; omega
    · intro i h1 h2
      have hi : i < ks.length := by simpa using h2
      have h3 := (same i hi).2
      have h4 := congrArg (fun l : List Value => l[0]?) h3
      simp only [List.getElem?_cons_zero] at h4
      rw [List.getElem?_take_of_lt (by omega), List.getElem?_drop] at h4
      have h5 : C[off + i]? = some (.bool ks[i]) := by simpa using h4
      simp only [List.getElem_take, List.getElem_drop, List.getElem_map, bb]
      have := (List.getElem?_eq_some_iff.1 h5).2
      exact this
section
variable {H : Type} {enc : TypeId × Value → H} {w : World}
theorem opn_op : Opn enc Try.prog w 25 (fun cs (o : OpV × List Bool) => cs = o.1.cells ∧ KeepIn (hpOf w) o.1.ka o.1.kn o.1.kp o.2) := fun fuel cs x h => by
  obtain ⟨hl, hf⟩ := opn_fields Try.underlying25 h
  have hl : cs.length = 5 := by rw [hl]; kernel_rfl
  obtain ⟨c0, c1, c2, c3, c4, rfl⟩ : ∃ c0 c1 c2 c3 c4, cs = [c0, c1, c2, c3, c4] := by
    match cs, hl with
    | [c0, c1, c2, c3, c4], _ => exact ⟨c0, c1, c2, c3, c4, rfl⟩
  obtain ⟨k, h0, _⟩ := opn_field h Try.underlying25 0 0 1 rfl rfl rfl (by kernel_rfl) (opn_int Try.underlying3)
  obtain ⟨a, h1, _⟩ := opn_field h Try.underlying25 1 1 1 rfl rfl rfl (by kernel_rfl) (opn_int Try.underlying3)
  obtain ⟨m, h2, _⟩ := opn_field h Try.underlying25 2 2 1 rfl rfl rfl (by kernel_rfl) (opn_int Try.underlying3)
  obtain ⟨y, h3, y0, y1⟩ := opn_field h Try.underlying25 3 3 1 rfl rfl rfl (by kernel_rfl) (opn_int Try.underlying5)
  obtain ⟨⟨ka, kn, kp, ks⟩, h4⟩ := opn_field h Try.underlying25 4 4 1 rfl rfl rfl (by kernel_rfl) (opn_slice (sz := 1) Try.underlying23 (by kernel_rfl) (by decide) (opn_bool Try.underlying4))
  have hk := keepIn_of h4
  replace h4 := h4.cells
  simp only [List.drop_zero, List.drop_succ_cons, List.take_succ_cons, List.take_zero, List.cons.injEq, and_true] at h0 h1 h2 h3 h4
  subst h0; subst h1; subst h2; subst h3; subst h4
  simp only [lo, hi] at y0 y1
  refine ⟨(⟨k, a, m, UInt8.ofNat y.toNat, ka, kn, kp⟩, ks), ?_, hk⟩
  simp only [OpV.cells, u8c]
  have : ((UInt8.ofNat y.toNat).toNat : Int) = y := by simp [UInt8.toNat_ofNat]; omega
  rw [this]
theorem opn_ops : Opn enc Try.prog w 22 (RS (hpOf w) 5 (fun cs (o : OpV × List Bool) => cs = o.1.cells ∧ KeepIn (hpOf w) o.1.ka o.1.kn o.1.kp o.2)) :=
  opn_slice Try.underlying22 (by kernel_rfl) (by decide) opn_op
theorem opn_bools : Opn enc Try.prog w 23 (RS (hpOf w) 1 RB) := opn_slice Try.underlying23 (by kernel_rfl) (by decide) (opn_bool Try.underlying4)
theorem opsIn_of {ρ : Hp} {cs : List Value} {s : Option Addr × Nat × Nat × List (OpV × List Bool)} (h : RS ρ 5 (fun cs (o : OpV × List Bool) => cs = o.1.cells ∧ KeepIn ρ o.1.ka o.1.kn o.1.kp o.2) cs s) (hb : s.2.1 ≤ 9223372036854775806) : OpsIn ρ s.1 s.2.1 s.2.2.2 := by
  obtain ⟨a, n, c, ks⟩ := s
  obtain ⟨h1, h2, h3, h4, h5⟩ := h
  dsimp only at h1 h2 h3 h4 h5 hb ⊢
  refine ⟨h4, hb, fun i hi => ?_⟩
  obtain ⟨b, off, C, T, fr, e1, e2, e3, e4, e5⟩ := h5 i hi
  exact ⟨b, off, C, T, fr, e1, e2, e3, e4, e5⟩
end
end Go.Proofs.E

namespace Go.Proofs.E
open Go
set_option linter.unusedVariables false
set_option linter.unusedSimpArgs false
set_option linter.unusedSectionVars false
set_option maxRecDepth 4000
set_option maxHeartbeats 1000000
attribute [local irreducible] Yl TL TC TE Spec YSpec R1 Hp.le EnvLe TS TR YS Stays
/-! ## Copy -/
theorem clone46 (ρ : Hp) (b n cap : Nat) (xs sp : List Value) (hl : xs.length = n * 64) (hn : 0 < n) (hbig : n ≤ 100000) (h1 : xs.all (·.oneCell') = true) :
    Spec Try.prog 46 [.slice (some ⟨b, 0, none⟩) n cap] ρ [[(b, .cells ⟨xs ++ sp⟩ 34 (0, 0))]] (fun v ρ' L' => ρ' = ρ ∧ ∃ sp', OwnS v n xs sp' 64 ∧ L' = [[(b, .cells ⟨xs ++ sp⟩ 34 (0, 0))], ownC v xs sp' 34]) := by
  refine spec_enter Try.func46 rfl rfl rfl fun u R => ?_
  simp only [argsE, List.cons_append, List.nil_append]
  have hsrc : ((xs ++ sp).drop 0).take (n * 64) = xs := by simp [hl]
  repeat' (first | (refine i_op ?_; first | (refine iMv ?_; refine qMv ?_) | (refine iLd ?_; refine qLd ?_) | (refine iFa ?_; refine qFa ?_) | (refine iAd ?_; refine qAd ?_) | (refine iSb ?_; refine qSb ?_) | (refine iMl ?_; refine qMl ?_) | (refine iRm ?_; refine qRm ?_) | (refine iQu ?_; refine qQu ?_) | (refine iSr ?_; refine qSr ?_) | (refine iSh ?_; refine qSh ?_) | (refine iCm ?_; refine qCm ?_) | (refine iEx ?_; refine qEx ?_) | (refine iAs ?_; refine qAs ?_) | (refine iPk ?_; refine qPk ?_) | (refine iNc ?_; refine qNc ?_) | (refine iIa ?_; refine qIa ?_) | (refine iCv ?_; refine qCv ?_) | (refine iBi ?_; refine qBi ?_) | (refine iUn ?_; refine qUn ?_) | (refine iFl ?_; refine qFl ?_) | (refine iLu ?_; refine qLu ?_) | (refine iBu ?_; refine qBu ?_) | (refine iSl ?_; refine qSl ?_) | (refine iMf ?_; refine qMf ?_) | (refine iMi ?_; refine qMi ?_) | (refine iTa ?_; refine qTa ?_) | (refine iSt ?_; refine qSt ?_) | (refine iAl ?_; first | refine qAlA (fun _ => ?_) | refine qAlS (fun _ => ?_)) | (refine iBx ?_; first | refine qBxA (fun _ => ?_) | refine qBxS (fun _ => ?_)) | (refine iMm ?_; refine qMm (fun _ => ?_)) | (refine iBs ?_; refine qBs (fun _ => ?_)) | (refine i_gd ?_; first | refine qWant ?_ | refine qSkip ?_ | refine qSkip0 ?_ | refine qSkipU ?_)) | refine tl_nil ?_ | refine tc_seq ?_ | refine tc_region ?_ | refine te_seq ?_ | (refine i_cond ?_; first | refine qCt ?_ | refine qCf ?_) | refine tc_block ?_ | refine te_block_normal ?_ | refine te_block_ret ?_ | refine te_then_ret ?_ | refine te_block_hit ?_ | (refine i_miss ?_; refine qMiss ?_) | refine te_then_exit ?_ | refine tc_exit ?_ | refine tc_ret ?_ | refine tc_skip ?_)
  refine tl_append (n := 0) (xs := []) (sp := []) (ys := xs) rfl rfl (OwnS.zero _ 64) (hR := rem_here') (Src.find (n := n * 64) hsrc) hl h1 hn rfl (by omega) (by omega) rfl (fun v' sp' hown' => ?_)
  simp only [Nat.zero_add, List.nil_append] at hown' ⊢
  repeat' (first | (refine i_op ?_; first | (refine iMv ?_; refine qMv ?_) | (refine iLd ?_; refine qLd ?_) | (refine iFa ?_; refine qFa ?_) | (refine iAd ?_; refine qAd ?_) | (refine iSb ?_; refine qSb ?_) | (refine iMl ?_; refine qMl ?_) | (refine iRm ?_; refine qRm ?_) | (refine iQu ?_; refine qQu ?_) | (refine iSr ?_; refine qSr ?_) | (refine iSh ?_; refine qSh ?_) | (refine iCm ?_; refine qCm ?_) | (refine iEx ?_; refine qEx ?_) | (refine iAs ?_; refine qAs ?_) | (refine iPk ?_; refine qPk ?_) | (refine iNc ?_; refine qNc ?_) | (refine iIa ?_; refine qIa ?_) | (refine iCv ?_; refine qCv ?_) | (refine iBi ?_; refine qBi ?_) | (refine iUn ?_; refine qUn ?_) | (refine iFl ?_; refine qFl ?_) | (refine iLu ?_; refine qLu ?_) | (refine iBu ?_; refine qBu ?_) | (refine iSl ?_; refine qSl ?_) | (refine iMf ?_; refine qMf ?_) | (refine iMi ?_; refine qMi ?_) | (refine iTa ?_; refine qTa ?_) | (refine iSt ?_; refine qSt ?_) | (refine iAl ?_; first | refine qAlA (fun _ => ?_) | refine qAlS (fun _ => ?_)) | (refine iBx ?_; first | refine qBxA (fun _ => ?_) | refine qBxS (fun _ => ?_)) | (refine iMm ?_; refine qMm (fun _ => ?_)) | (refine iBs ?_; refine qBs (fun _ => ?_)) | (refine i_gd ?_; first | refine qWant ?_ | refine qSkip ?_ | refine qSkip0 ?_ | refine qSkipU ?_)) | refine tl_nil ?_ | refine tc_seq ?_ | refine tc_region ?_ | refine te_seq ?_ | (refine i_cond ?_; first | refine qCt ?_ | refine qCf ?_) | refine tc_block ?_ | refine te_block_normal ?_ | refine te_block_ret ?_ | refine te_then_ret ?_ | refine te_block_hit ?_ | (refine i_miss ?_; refine qMiss ?_) | refine te_then_exit ?_ | refine tc_exit ?_ | refine tc_ret ?_ | refine tc_skip ?_)
  exact te_end rfl rfl rfl (res1 rfl (r1_tmp rfl)) (Hp.le_refl _) tk (by infer_instance) ⟨rfl, sp', hown', rfl⟩
theorem mclone47 (ρ : Hp) (b : Nat) (es : Array MapEntry) (ck : Nat) : Spec Try.prog 47 [.map (some b)] ρ [[(b, .map es ck)]] (fun v ρ' L' => ρ' = ρ ∧ ∃ b', v = .map (some b') ∧ L' = [[(b, .map es ck)], [(b', .map es ck)]]) := by
  refine spec_enter Try.func47 rfl rfl rfl fun u R => ?_
  simp only [argsE, List.cons_append, List.nil_append]
  repeat' (first | (refine tl_is (.func 58) ?_; refine tl_mapsClone rfl Try.func58 rfl rfl rfl rfl rfl (fun _ => ?_)) | (refine i_op ?_; first | (refine iMv ?_; refine qMv ?_) | (refine iLd ?_; refine qLd ?_) | (refine iFa ?_; refine qFa ?_) | (refine iAd ?_; refine qAd ?_) | (refine iSb ?_; refine qSb ?_) | (refine iMl ?_; refine qMl ?_) | (refine iRm ?_; refine qRm ?_) | (refine iQu ?_; refine qQu ?_) | (refine iSr ?_; refine qSr ?_) | (refine iSh ?_; refine qSh ?_) | (refine iCm ?_; refine qCm ?_) | (refine iEx ?_; refine qEx ?_) | (refine iAs ?_; refine qAs ?_) | (refine iPk ?_; refine qPk ?_) | (refine iNc ?_; refine qNc ?_) | (refine iIa ?_; refine qIa ?_) | (refine iCv ?_; refine qCv ?_) | (refine iBi ?_; refine qBi ?_) | (refine iUn ?_; refine qUn ?_) | (refine iFl ?_; refine qFl ?_) | (refine iLu ?_; refine qLu ?_) | (refine iBu ?_; refine qBu ?_) | (refine iSl ?_; refine qSl ?_) | (refine iMf ?_; refine qMf ?_) | (refine iMi ?_; refine qMi ?_) | (refine iTa ?_; refine qTa ?_) | (refine iSt ?_; refine qSt ?_) | (refine iAl ?_; first | refine qAlA (fun _ => ?_) | refine qAlS (fun _ => ?_)) | (refine iBx ?_; first | refine qBxA (fun _ => ?_) | refine qBxS (fun _ => ?_)) | (refine iMm ?_; refine qMm (fun _ => ?_)) | (refine iBs ?_; refine qBs (fun _ => ?_)) | (refine i_gd ?_; first | refine qWant ?_ | refine qSkip ?_ | refine qSkip0 ?_ | refine qSkipU ?_)) | refine tl_nil ?_ | refine tc_seq ?_ | refine tc_region ?_ | refine te_seq ?_ | (refine i_cond ?_; first | refine qCt ?_ | refine qCf ?_) | refine tc_block ?_ | refine te_block_normal ?_ | refine te_block_ret ?_ | refine te_then_ret ?_ | refine te_block_hit ?_ | (refine i_miss ?_; refine qMiss ?_) | refine te_then_exit ?_ | refine tc_exit ?_ | refine tc_ret ?_ | refine tc_skip ?_)
  exact qE ⟨rfl, _, rfl, rfl⟩
theorem copy_nil (ρ : Hp) : Spec Try.prog 23 [.pointer none] ρ [] (fun v ρ' L' => v = .pointer none ∧ ρ' = ρ ∧ L' = []) := by
  refine spec_enter Try.func23 rfl rfl rfl fun u R => ?_
  simp only [argsE, List.cons_append, List.nil_append]
  repeat' (first | (refine i_op ?_; first | (refine iMv ?_; refine qMv ?_) | (refine iLd ?_; refine qLd ?_) | (refine iFa ?_; refine qFa ?_) | (refine iAd ?_; refine qAd ?_) | (refine iSb ?_; refine qSb ?_) | (refine iMl ?_; refine qMl ?_) | (refine iRm ?_; refine qRm ?_) | (refine iQu ?_; refine qQu ?_) | (refine iSr ?_; refine qSr ?_) | (refine iSh ?_; refine qSh ?_) | (refine iCm ?_; refine qCm ?_) | (refine iEx ?_; refine qEx ?_) | (refine iAs ?_; refine qAs ?_) | (refine iPk ?_; refine qPk ?_) | (refine iNc ?_; refine qNc ?_) | (refine iIa ?_; refine qIa ?_) | (refine iCv ?_; refine qCv ?_) | (refine iBi ?_; refine qBi ?_) | (refine iUn ?_; refine qUn ?_) | (refine iFl ?_; refine qFl ?_) | (refine iLu ?_; refine qLu ?_) | (refine iBu ?_; refine qBu ?_) | (refine iSl ?_; refine qSl ?_) | (refine iMf ?_; refine qMf ?_) | (refine iMi ?_; refine qMi ?_) | (refine iTa ?_; refine qTa ?_) | (refine iSt ?_; refine qSt ?_) | (refine iAl ?_; first | refine qAlA (fun _ => ?_) | refine qAlS (fun _ => ?_)) | (refine iBx ?_; first | refine qBxA (fun _ => ?_) | refine qBxS (fun _ => ?_)) | (refine iMm ?_; refine qMm (fun _ => ?_)) | (refine iBs ?_; refine qBs (fun _ => ?_)) | (refine i_gd ?_; first | refine qWant ?_ | refine qSkip ?_ | refine qSkip0 ?_ | refine qSkipU ?_)) | refine tl_nil ?_ | refine tc_seq ?_ | refine tc_region ?_ | refine te_seq ?_ | (refine i_cond ?_; first | refine qCt ?_ | refine qCf ?_) | refine tc_block ?_ | refine te_block_normal ?_ | refine te_block_ret ?_ | refine te_then_ret ?_ | refine te_block_hit ?_ | (refine i_miss ?_; refine qMiss ?_) | refine te_then_exit ?_ | refine tc_exit ?_ | refine tc_ret ?_ | refine tc_skip ?_)
  exact qE ⟨rfl, rfl, rfl⟩
theorem heldC_one (s : Secs) : (heldC s).all (·.oneCell') = true := by
  unfold heldC
  rw [List.all_flatten, List.all_map, List.all_eq_true]
  intro p _
  exact u8c_one p.1
theorem copy_spec (ρ : Hp) (b : Nat) (hb : HB) (mb : Nat) (es : List MapEntry) (ck : Nat) (D : DS) (hD : D.Ok) :
    Spec Try.prog 23 [.pointer (some ⟨b, 0, none⟩)] ρ (diskL b hb mb es ck D) (fun v ρ' L' => ρ' = ρ ∧ ∃ b' hb' mb', v = .pointer (some ⟨b', 0, none⟩) ∧ L' = diskL b hb mb es ck D ++ diskL b' hb' mb' es ck D) := by
  obtain ⟨s, ops, armed, failing, dead⟩ := D
  have hs := hD.secs
  dsimp only at hs
  have hlen := hs.len
  have hpos := hs.pos
  have hl := heldC_length hs.held
  have h1 := heldC_one s
  refine spec_enter Try.func23 rfl rfl rfl fun u R => ?_
  simp only [argsE, List.cons_append, List.nil_append, diskL, dO]
  repeat' (first | (refine i_op ?_; first | (refine iMv ?_; refine qMv ?_) | (refine iLd ?_; refine qLd ?_) | (refine iFa ?_; refine qFa ?_) | (refine iAd ?_; refine qAd ?_) | (refine iSb ?_; refine qSb ?_) | (refine iMl ?_; refine qMl ?_) | (refine iRm ?_; refine qRm ?_) | (refine iQu ?_; refine qQu ?_) | (refine iSr ?_; refine qSr ?_) | (refine iSh ?_; refine qSh ?_) | (refine iCm ?_; refine qCm ?_) | (refine iEx ?_; refine qEx ?_) | (refine iAs ?_; refine qAs ?_) | (refine iPk ?_; refine qPk ?_) | (refine iNc ?_; refine qNc ?_) | (refine iIa ?_; refine qIa ?_) | (refine iCv ?_; refine qCv ?_) | (refine iBi ?_; refine qBi ?_) | (refine iUn ?_; refine qUn ?_) | (refine iFl ?_; refine qFl ?_) | (refine iLu ?_; refine qLu ?_) | (refine iBu ?_; refine qBu ?_) | (refine iSl ?_; refine qSl ?_) | (refine iMf ?_; refine qMf ?_) | (refine iMi ?_; refine qMi ?_) | (refine iTa ?_; refine qTa ?_) | (refine iSt ?_; refine qSt ?_) | (refine iAl ?_; first | refine qAlA (fun _ => ?_) | refine qAlS (fun _ => ?_)) | (refine iBx ?_; first | refine qBxA (fun _ => ?_) | refine qBxS (fun _ => ?_)) | (refine iMm ?_; refine qMm (fun _ => ?_)) | (refine iBs ?_; refine qBs (fun _ => ?_)) | (refine i_gd ?_; first | refine qWant ?_ | refine qSkip ?_ | refine qSkip0 ?_ | refine qSkipU ?_)) | refine tl_nil ?_ | refine tc_seq ?_ | refine tc_region ?_ | refine te_seq ?_ | (refine i_cond ?_; first | refine qCt ?_ | refine qCf ?_) | refine tc_block ?_ | refine te_block_normal ?_ | refine te_block_ret ?_ | refine te_then_ret ?_ | refine te_block_hit ?_ | (refine i_miss ?_; refine qMiss ?_) | refine te_then_exit ?_ | refine tc_exit ?_ | refine tc_ret ?_ | refine tc_skip ?_)
  rename_i bc
  refine tc_any (Stays _ _ ([[(b, .cells ⟨[.slice (some ⟨hb.b, 0, none⟩) s.length hb.cap, .map (some mb), .int .i64 ops, .int .i64 armed, .int .i64 failing, .bool dead]⟩ 74 (0, 0))]])) (stays_of (Hp.le_refl _)) ?_
  all_goals refine rMv 0 ?_
  all_goals refine rNc 1 ?_
  all_goals refine rFa 2 ?_
  all_goals refine rLd 3 ?_
  all_goals refine rMv 5 ?_
  all_goals refine rNc 6 ?_
  all_goals refine rFa 7 ?_
  all_goals refine rLd 8 ?_
  all_goals (refine rStep (i := 4) ?_; ((try refine qWant ?_); (first | (refine tl_is (.func 46) ?_; refine qC rfl rfl (clone46 _ hb.b s.length hb.cap (heldC s) hb.sp hl hpos (by omega) h1) ?_; rintro v ρ' L' hle ⟨rfl, sp', hown, rfl⟩; obtain ⟨hb', hc', rfl⟩ := hown.pos hpos; simp only [ownC, List.cons_append, List.nil_append]) | (refine tl_is (.func 47) ?_; refine qC rfl rfl (mclone47 _ mb _ ck) ?_; rintro v ρ' L' hle ⟨rfl, mb', rfl, rfl⟩ <;> (try simp only [List.cons_append, List.nil_append, List.append_eq])) | (refine iSt ?_; refine qSt ?_) | (refine iAl ?_; first | refine qAlA (fun _ => ?_) | refine qAlS (fun _ => ?_)) | (refine iBx ?_; first | refine qBxA (fun _ => ?_) | refine qBxS (fun _ => ?_)) | (refine iMm ?_; refine qMm (fun _ => ?_)) | (refine iBs ?_; refine qBs (fun _ => ?_))); (try simp only [List.cons_append, List.nil_append, List.append_eq]); refine tl_nil ?_; refine rNext ?_))
  all_goals (refine rStep (i := 9) ?_; ((try refine qWant ?_); (first | (refine tl_is (.func 46) ?_; refine qC rfl rfl (clone46 _ hb.b s.length hb.cap (heldC s) hb.sp hl hpos (by omega) h1) ?_; rintro v ρ' L' hle ⟨rfl, sp', hown, rfl⟩; obtain ⟨hb', hc', rfl⟩ := hown.pos hpos; simp only [ownC, List.cons_append, List.nil_append]) | (refine tl_is (.func 47) ?_; refine qC rfl rfl (mclone47 _ mb _ ck) ?_; rintro v ρ' L' hle ⟨rfl, mb', rfl, rfl⟩ <;> (try simp only [List.cons_append, List.nil_append, List.append_eq])) | (refine iSt ?_; refine qSt ?_) | (refine iAl ?_; first | refine qAlA (fun _ => ?_) | refine qAlS (fun _ => ?_)) | (refine iBx ?_; first | refine qBxA (fun _ => ?_) | refine qBxS (fun _ => ?_)) | (refine iMm ?_; refine qMm (fun _ => ?_)) | (refine iBs ?_; refine qBs (fun _ => ?_))); (try simp only [List.cons_append, List.nil_append, List.append_eq]); refine tl_nil ?_; refine rNext ?_))
  all_goals refine rFa 10 ?_
  all_goals (refine rStep (i := 11) ?_; ((try refine qWant ?_); (first | (refine tl_is (.func 46) ?_; refine qC rfl rfl (clone46 _ hb.b s.length hb.cap (heldC s) hb.sp hl hpos (by omega) h1) ?_; rintro v ρ' L' hle ⟨rfl, sp', hown, rfl⟩; obtain ⟨hb', hc', rfl⟩ := hown.pos hpos; simp only [ownC, List.cons_append, List.nil_append]) | (refine tl_is (.func 47) ?_; refine qC rfl rfl (mclone47 _ mb _ ck) ?_; rintro v ρ' L' hle ⟨rfl, mb', rfl, rfl⟩ <;> (try simp only [List.cons_append, List.nil_append, List.append_eq])) | (refine iSt ?_; refine qSt ?_) | (refine iAl ?_; first | refine qAlA (fun _ => ?_) | refine qAlS (fun _ => ?_)) | (refine iBx ?_; first | refine qBxA (fun _ => ?_) | refine qBxS (fun _ => ?_)) | (refine iMm ?_; refine qMm (fun _ => ?_)) | (refine iBs ?_; refine qBs (fun _ => ?_))); (try simp only [List.cons_append, List.nil_append, List.append_eq]); refine tl_nil ?_; refine rNext ?_))
  all_goals refine rFa 12 ?_
  all_goals (refine rStep (i := 13) ?_; ((try refine qWant ?_); (first | (refine tl_is (.func 46) ?_; refine qC rfl rfl (clone46 _ hb.b s.length hb.cap (heldC s) hb.sp hl hpos (by omega) h1) ?_; rintro v ρ' L' hle ⟨rfl, sp', hown, rfl⟩; obtain ⟨hb', hc', rfl⟩ := hown.pos hpos; simp only [ownC, List.cons_append, List.nil_append]) | (refine tl_is (.func 47) ?_; refine qC rfl rfl (mclone47 _ mb _ ck) ?_; rintro v ρ' L' hle ⟨rfl, mb', rfl, rfl⟩ <;> (try simp only [List.cons_append, List.nil_append, List.append_eq])) | (refine iSt ?_; refine qSt ?_) | (refine iAl ?_; first | refine qAlA (fun _ => ?_) | refine qAlS (fun _ => ?_)) | (refine iBx ?_; first | refine qBxA (fun _ => ?_) | refine qBxS (fun _ => ?_)) | (refine iMm ?_; refine qMm (fun _ => ?_)) | (refine iBs ?_; refine qBs (fun _ => ?_))); (try simp only [List.cons_append, List.nil_append, List.append_eq]); refine tl_nil ?_; refine rNext ?_))
  all_goals refine rDone ?_
  repeat' (first | (refine i_op ?_; first | (refine iMv ?_; refine qMv ?_) | (refine iLd ?_; refine qLd ?_) | (refine iFa ?_; refine qFa ?_) | (refine iAd ?_; refine qAd ?_) | (refine iSb ?_; refine qSb ?_) | (refine iMl ?_; refine qMl ?_) | (refine iRm ?_; refine qRm ?_) | (refine iQu ?_; refine qQu ?_) | (refine iSr ?_; refine qSr ?_) | (refine iSh ?_; refine qSh ?_) | (refine iCm ?_; refine qCm ?_) | (refine iEx ?_; refine qEx ?_) | (refine iAs ?_; refine qAs ?_) | (refine iPk ?_; refine qPk ?_) | (refine iNc ?_; refine qNc ?_) | (refine iIa ?_; refine qIa ?_) | (refine iCv ?_; refine qCv ?_) | (refine iBi ?_; refine qBi ?_) | (refine iUn ?_; refine qUn ?_) | (refine iFl ?_; refine qFl ?_) | (refine iLu ?_; refine qLu ?_) | (refine iBu ?_; refine qBu ?_) | (refine iSl ?_; refine qSl ?_) | (refine iMf ?_; refine qMf ?_) | (refine iMi ?_; refine qMi ?_) | (refine iTa ?_; refine qTa ?_) | (refine iSt ?_; refine qSt ?_) | (refine iAl ?_; first | refine qAlA (fun _ => ?_) | refine qAlS (fun _ => ?_)) | (refine iBx ?_; first | refine qBxA (fun _ => ?_) | refine qBxS (fun _ => ?_)) | (refine iMm ?_; refine qMm (fun _ => ?_)) | (refine iBs ?_; refine qBs (fun _ => ?_)) | (refine i_gd ?_; first | refine qWant ?_ | refine qSkip ?_ | refine qSkip0 ?_ | refine qSkipU ?_)) | refine tl_nil ?_ | refine tc_seq ?_ | refine tc_region ?_ | refine te_seq ?_ | (refine i_cond ?_; first | refine qCt ?_ | refine qCf ?_) | refine tc_block ?_ | refine te_block_normal ?_ | refine te_block_ret ?_ | refine te_then_ret ?_ | refine te_block_hit ?_ | (refine i_miss ?_; refine qMiss ?_) | refine te_then_exit ?_ | refine tc_exit ?_ | refine tc_ret ?_ | refine tc_skip ?_)
  exact qE ⟨rfl, bc, ⟨hb', hc', sp'⟩, mb', rfl, rfl⟩
end Go.Proofs.E

namespace Go.Proofs.E
open Go
set_option linter.unusedVariables false
set_option linter.unusedSimpArgs false
set_option linter.unusedSectionVars false
set_option maxRecDepth 4000
set_option maxHeartbeats 1000000
attribute [local irreducible] Yl TL TC TE Spec YSpec R1 Hp.le EnvLe TS TR YS Stays
/-! ## rows of blocks; what all sectors say -/
def blkC (l : List Blk) : List Value := (l.map fun b => b.map u8c).flatten
theorem heldC_blk (s : Secs) : heldC s = blkC (s.map (·.1)) := by simp [heldC, blkC, List.map_map, Function.comp_def]
theorem blk_held (l : List Blk) : blkC l = heldC (l.map fun b => (b, none)) := by simp [heldC, blkC, List.map_map, Function.comp_def]
theorem blkC_length {l : List Blk} (h : ∀ b ∈ l, b.length = 64) : (blkC l).length = l.length * 64 := by
  rw [blk_held, heldC_length (by intro p hp; obtain ⟨b, hb, rfl⟩ := List.mem_map.1 hp; exact h b hb)]; simp
theorem blkC_get {l : List Blk} {i : Nat} (sp : List Value) (h : ∀ b ∈ l, b.length = 64) (hi : i < l.length) : ((blkC l ++ sp).drop (0 + i * 64)).take 64 = (l[i]).map u8c := by
  rw [Nat.zero_add, blk_held, heldC_take' sp (by intro p hp; obtain ⟨b, hb, rfl⟩ := List.mem_map.1 hp; exact h b hb) (by simpa using hi)]; simp
theorem blkC_snoc (l : List Blk) (b : Blk) : blkC (l ++ [b]) = blkC l ++ b.map u8c := by simp [blkC]
theorem blkC_one (l : List Blk) : (blkC l).all (·.oneCell') = true := by rw [blk_held]; exact heldC_one _
def allB (s : Secs) : List Blk := s.map says1
theorem says_len {s : Secs} (h : SecsOk s) {i : Nat} (hi : i < s.length) : (says1 s[i]).length = 64 := by
  unfold says1
  cases hc : s[i].2 with
  | none => exact h.held _ (List.getElem_mem hi)
  | some c => exact h.cached _ (List.getElem_mem hi) c hc
theorem allB_len {s : Secs} (h : SecsOk s) : ∀ b ∈ allB s, b.length = 64 := by
  intro b hb
  obtain ⟨p, hp, rfl⟩ := List.mem_map.1 hb
  obtain ⟨i, hi, rfl⟩ := List.mem_iff_getElem.1 hp
  exact says_len h hi
theorem all_spec (ρ : Hp) (b : Nat) (hb : HB) (mb : Nat) (es : List MapEntry) (ck : Nat) (D : DS) (hD : D.Ok) (hc : D.Calm) (hm : MapOk D.secs es) :
    Spec Try.prog 24 [.pointer (some ⟨b, 0, none⟩)] ρ (diskL b hb mb es ck D) (fun v ρ' L' => ρ' = ρ ∧ ∃ r sp, v = .tuple ⟨[r, .bool true]⟩ ∧ OwnS r D.secs.length (blkC (allB D.secs)) sp 64 ∧ L' = diskL b hb mb es ck D ++ [ownC r (blkC (allB D.secs)) sp 34]) := by
  obtain ⟨s, ops, armed, failing, dead⟩ := D
  obtain ⟨c1, c2, c3⟩ := hc
  dsimp only at c1 c2 c3
  subst c1; subst c2; subst c3
  have hs := hD.secs
  dsimp only at hs hm ⊢
  have hlen := hs.len
  refine spec_enter Try.func24 rfl rfl rfl fun u R => ?_
  simp only [argsE, List.cons_append, List.nil_append]
  repeat' (first | (refine tl_is (.func 23) ?_; refine qC rfl rfl (copy_spec _ _ _ _ _ _ _ hD) ?_; rintro v ρ' L' hle ⟨rfl, bc, hbc, mbc, rfl, rfl⟩ <;> (try simp only [List.cons_append, List.nil_append, List.append_eq])) | (refine tl_is (.func 11) ?_; refine qC rfl rfl (len_disk _ bc hbc mbc _ _ _) ?_; rintro v ρ' L' hle ⟨rfl, rfl, rfl⟩ <;> (try simp only [List.cons_append, List.nil_append, List.append_eq])) | (refine i_op ?_; first | (refine iMv ?_; refine qMv ?_) | (refine iLd ?_; refine qLd ?_) | (refine iFa ?_; refine qFa ?_) | (refine iAd ?_; refine qAd ?_) | (refine iSb ?_; refine qSb ?_) | (refine iMl ?_; refine qMl ?_) | (refine iRm ?_; refine qRm ?_) | (refine iQu ?_; refine qQu ?_) | (refine iSr ?_; refine qSr ?_) | (refine iSh ?_; refine qSh ?_) | (refine iCm ?_; refine qCm ?_) | (refine iEx ?_; refine qEx ?_) | (refine iAs ?_; refine qAs ?_) | (refine iPk ?_; refine qPk ?_) | (refine iNc ?_; refine qNc ?_) | (refine iIa ?_; refine qIa ?_) | (refine iCv ?_; refine qCv ?_) | (refine iBi ?_; refine qBi ?_) | (refine iUn ?_; refine qUn ?_) | (refine iFl ?_; refine qFl ?_) | (refine iLu ?_; refine qLu ?_) | (refine iBu ?_; refine qBu ?_) | (refine iSl ?_; refine qSl ?_) | (refine iMf ?_; refine qMf ?_) | (refine iMi ?_; refine qMi ?_) | (refine iTa ?_; refine qTa ?_) | (refine iSt ?_; refine qSt ?_) | (refine iAl ?_; first | refine qAlA (fun _ => ?_) | refine qAlS (fun _ => ?_)) | (refine iBx ?_; first | refine qBxA (fun _ => ?_) | refine qBxS (fun _ => ?_)) | (refine iMm ?_; refine qMm (fun _ => ?_)) | (refine iBs ?_; refine qBs (fun _ => ?_)) | (refine i_gd ?_; first | refine qWant ?_ | refine qSkip ?_ | refine qSkip0 ?_ | refine qSkipU ?_)) | refine tl_nil ?_ | refine tc_seq ?_ | refine tc_region ?_ | refine te_seq ?_ | (refine i_cond ?_; first | refine qCt ?_ | refine qCf ?_) | refine tc_block ?_ | refine te_block_normal ?_ | refine te_block_ret ?_ | refine te_then_ret ?_ | refine te_block_hit ?_ | (refine i_miss ?_; refine qMiss ?_) | refine te_then_exit ?_ | refine tc_exit ?_ | refine tc_ret ?_ | refine tc_skip ?_)
  have hbl := allB_len hs
  refine tc_loop_e (fun (y : Nat × Value × List Value × Int) => ⟨[(13, .int .i64 y.1), (12, .int .i64 s.length), (5, .pointer (some ⟨bc, 0, none⟩)), (4, y.2.1)], ρ',
      (diskL b hb mb es ck ⟨s, ops, -1, -1, false⟩ ++ diskL bc hbc mbc es ck ⟨s, y.2.2.2, -1, -1, false⟩ ++ [ownC y.2.1 (blkC ((allB s).take y.1)) y.2.2.1 34]) ++ R⟩)
    (fun y => y.1 ≤ s.length ∧ OwnS y.2.1 y.1 (blkC ((allB s).take y.1)) y.2.2.1 64) (fun y => s.length - y.1) (0, .slice none 0 0, [], ops) rfl ⟨by simp, OwnS.nil 64⟩ ev_le rfl tk inferInstance ?_
  rintro ⟨k, r, sp, o⟩ ⟨h1, h2⟩
  dsimp only at h1 h2 ⊢
  obtain ⟨ra, rc, rfl, hrl⟩ := h2.len
  by_cases hlt : k < s.length
  · have hblen := says_len hs hlt
    have hwl : ((says1 s[k]).map u8c).length = 64 := by simpa using hblen
    have hone := u8c_one (says1 s[k])
    have hrd : (⟨s, o, -1, -1, false⟩ : DS).read (k : Int) = (⟨s, IntKind.i64.wrap (o + 1), -1, -1, false⟩, says1 s[k], 0) := DS.Calm.mk'.read_eq hlt
    repeat' (first | (refine tl_is (.func 13) ?_; refine qC rfl rfl (read_at hrd (DS.Ok.mk' hs) hm) ?_; rintro v ρ' L' hle ⟨rfl, rfl, rfl⟩ <;> (try simp only [List.cons_append, List.nil_append, List.append_eq, bv])) | (refine i_op ?_; first | (refine iMv ?_; refine qMv ?_) | (refine iLd ?_; refine qLd ?_) | (refine iFa ?_; refine qFa ?_) | (refine iAd ?_; refine qAd ?_) | (refine iSb ?_; refine qSb ?_) | (refine iMl ?_; refine qMl ?_) | (refine iRm ?_; refine qRm ?_) | (refine iQu ?_; refine qQu ?_) | (refine iSr ?_; refine qSr ?_) | (refine iSh ?_; refine qSh ?_) | (refine iCm ?_; refine qCm ?_) | (refine iEx ?_; refine qEx ?_) | (refine iAs ?_; refine qAs ?_) | (refine iPk ?_; refine qPk ?_) | (refine iNc ?_; refine qNc ?_) | (refine iIa ?_; refine qIa ?_) | (refine iCv ?_; refine qCv ?_) | (refine iBi ?_; refine qBi ?_) | (refine iUn ?_; refine qUn ?_) | (refine iFl ?_; refine qFl ?_) | (refine iLu ?_; refine qLu ?_) | (refine iBu ?_; refine qBu ?_) | (refine iSl ?_; refine qSl ?_) | (refine iMf ?_; refine qMf ?_) | (refine iMi ?_; refine qMi ?_) | (refine iTa ?_; refine qTa ?_) | (refine iSt ?_; refine qSt ?_) | (refine iAl ?_; first | refine qAlA (fun _ => ?_) | refine qAlS (fun _ => ?_)) | (refine iBx ?_; first | refine qBxA (fun _ => ?_) | refine qBxS (fun _ => ?_)) | (refine iMm ?_; refine qMm (fun _ => ?_)) | (refine iBs ?_; refine qBs (fun _ => ?_)) | (refine i_gd ?_; first | refine qWant ?_ | refine qSkip ?_ | refine qSkip0 ?_ | refine qSkipU ?_)) | refine tl_nil ?_ | refine tc_seq ?_ | refine tc_region ?_ | refine te_seq ?_ | (refine i_cond ?_; first | refine qCt ?_ | refine qCf ?_) | refine tc_block ?_ | refine te_block_normal ?_ | refine te_block_ret ?_ | refine te_then_ret ?_ | refine te_block_hit ?_ | (refine i_miss ?_; refine qMiss ?_) | refine te_then_exit ?_ | refine tc_exit ?_ | refine tc_ret ?_ | refine tc_skip ?_)
    have htk : blkC ((allB s).take (k + 1)) = blkC ((allB s).take k) ++ (says1 s[k]).map u8c := by
      have hk : k < (allB s).length := by simpa [allB] using hlt
      rw [List.take_succ_eq_append_getElem hk, blkC_snoc]; simp [allB]
    refine tl_buildSliceA (css := [(says1 s[k]).map u8c]) (sz := 64) rfl rfl rfl rfl (by simpa using hblen) (by simp) rfl (fun bs => ?_)
    simp only [List.flatten_cons, List.flatten_nil, List.append_nil]
    refine tl_append (ys := (says1 s[k]).map u8c) (m := 1) rfl rfl h2 (hR := by infer_instance) (Src.find (l := (says1 s[k]).map u8c) (n := 64) (by rw [List.drop_zero, List.take_of_length_le (by omega)])) (by simpa using hblen) hone (by decide) rfl (by omega) (by omega) rfl (fun v' sp' hown' => ?_)
    rw [← htk] at hown' ⊢
    repeat' (first | (refine i_op ?_; first | (refine iMv ?_; refine qMv ?_) | (refine iLd ?_; refine qLd ?_) | (refine iFa ?_; refine qFa ?_) | (refine iAd ?_; refine qAd ?_) | (refine iSb ?_; refine qSb ?_) | (refine iMl ?_; refine qMl ?_) | (refine iRm ?_; refine qRm ?_) | (refine iQu ?_; refine qQu ?_) | (refine iSr ?_; refine qSr ?_) | (refine iSh ?_; refine qSh ?_) | (refine iCm ?_; refine qCm ?_) | (refine iEx ?_; refine qEx ?_) | (refine iAs ?_; refine qAs ?_) | (refine iPk ?_; refine qPk ?_) | (refine iNc ?_; refine qNc ?_) | (refine iIa ?_; refine qIa ?_) | (refine iCv ?_; refine qCv ?_) | (refine iBi ?_; refine qBi ?_) | (refine iUn ?_; refine qUn ?_) | (refine iFl ?_; refine qFl ?_) | (refine iLu ?_; refine qLu ?_) | (refine iBu ?_; refine qBu ?_) | (refine iSl ?_; refine qSl ?_) | (refine iMf ?_; refine qMf ?_) | (refine iMi ?_; refine qMi ?_) | (refine iTa ?_; refine qTa ?_) | (refine iSt ?_; refine qSt ?_) | (refine iAl ?_; first | refine qAlA (fun _ => ?_) | refine qAlS (fun _ => ?_)) | (refine iBx ?_; first | refine qBxA (fun _ => ?_) | refine qBxS (fun _ => ?_)) | (refine iMm ?_; refine qMm (fun _ => ?_)) | (refine iBs ?_; refine qBs (fun _ => ?_)) | (refine i_gd ?_; first | refine qWant ?_ | refine qSkip ?_ | refine qSkip0 ?_ | refine qSkipU ?_)) | refine tl_nil ?_ | refine tc_seq ?_ | refine tc_region ?_ | refine te_seq ?_ | (refine i_cond ?_; first | refine qCt ?_ | refine qCf ?_) | refine tc_block ?_ | refine te_block_normal ?_ | refine te_block_ret ?_ | refine te_then_ret ?_ | refine te_block_hit ?_ | (refine i_miss ?_; refine qMiss ?_) | refine te_then_exit ?_ | refine tc_exit ?_ | refine tc_ret ?_ | refine tc_skip ?_)
    refine te_round_e (Lm := diskL b hb mb es ck ⟨s, ops, -1, -1, false⟩ ++ diskL bc hbc mbc es ck ⟨s, IntKind.i64.wrap (o + 1), -1, -1, false⟩ ++ [ownC v' (blkC ((allB s).take (k + 1))) sp' 34]) (R := R) (k + 1, v', sp', IntKind.i64.wrap (o + 1)) rfl ⟨by dsimp only; omega, hown'⟩ ev_le rfl tk inferInstance (by dsimp only; omega)
  · have hk2 : k = s.length := by omega
    subst hk2
    have hta : (allB s).take s.length = allB s := List.take_of_length_le (by simp [allB])
    rw [hta] at h2 ⊢
    repeat' (first | (refine i_op ?_; first | (refine iMv ?_; refine qMv ?_) | (refine iLd ?_; refine qLd ?_) | (refine iFa ?_; refine qFa ?_) | (refine iAd ?_; refine qAd ?_) | (refine iSb ?_; refine qSb ?_) | (refine iMl ?_; refine qMl ?_) | (refine iRm ?_; refine qRm ?_) | (refine iQu ?_; refine qQu ?_) | (refine iSr ?_; refine qSr ?_) | (refine iSh ?_; refine qSh ?_) | (refine iCm ?_; refine qCm ?_) | (refine iEx ?_; refine qEx ?_) | (refine iAs ?_; refine qAs ?_) | (refine iPk ?_; refine qPk ?_) | (refine iNc ?_; refine qNc ?_) | (refine iIa ?_; refine qIa ?_) | (refine iCv ?_; refine qCv ?_) | (refine iBi ?_; refine qBi ?_) | (refine iUn ?_; refine qUn ?_) | (refine iFl ?_; refine qFl ?_) | (refine iLu ?_; refine qLu ?_) | (refine iBu ?_; refine qBu ?_) | (refine iSl ?_; refine qSl ?_) | (refine iMf ?_; refine qMf ?_) | (refine iMi ?_; refine qMi ?_) | (refine iTa ?_; refine qTa ?_) | (refine iSt ?_; refine qSt ?_) | (refine iAl ?_; first | refine qAlA (fun _ => ?_) | refine qAlS (fun _ => ?_)) | (refine iBx ?_; first | refine qBxA (fun _ => ?_) | refine qBxS (fun _ => ?_)) | (refine iMm ?_; refine qMm (fun _ => ?_)) | (refine iBs ?_; refine qBs (fun _ => ?_)) | (refine i_gd ?_; first | refine qWant ?_ | refine qSkip ?_ | refine qSkip0 ?_ | refine qSkipU ?_)) | refine tl_nil ?_ | refine tc_seq ?_ | refine tc_region ?_ | refine te_seq ?_ | (refine i_cond ?_; first | refine qCt ?_ | refine qCf ?_) | refine tc_block ?_ | refine te_block_normal ?_ | refine te_block_ret ?_ | refine te_then_ret ?_ | refine te_block_hit ?_ | (refine i_miss ?_; refine qMiss ?_) | refine te_then_exit ?_ | refine tc_exit ?_ | refine tc_ret ?_ | refine tc_skip ?_)
    exact qE ⟨rfl, _, sp, rfl, h2, rfl⟩
end Go.Proofs.E

namespace Go.Proofs.E
open Go
set_option linter.unusedVariables false
set_option linter.unusedSimpArgs false
set_option linter.unusedSectionVars false
set_option maxRecDepth 4000
set_option maxHeartbeats 1000000
attribute [local irreducible] Yl TL TC TE Spec YSpec R1 Hp.le EnvLe TS TR YS Stays
theorem slEqB_spec (ρ : Hp) (b1 b2 c1 c2 : Nat) (x y : List Blk) (s1 s2 : List Value) (T1 T2 : TypeId) (f1 f2 : Nat × Nat) (hx : ∀ b ∈ x, b.length = 64) (hy : ∀ b ∈ y, b.length = 64) (hl : x.length = y.length) (hxs : x.length ≤ 1000000) :
    Spec Try.prog 25 [.slice (some ⟨b1, 0, none⟩) x.length c1, .slice (some ⟨b2, 0, none⟩) y.length c2] ρ [[(b1, .cells ⟨blkC x ++ s1⟩ T1 f1)], [(b2, .cells ⟨blkC y ++ s2⟩ T2 f2)]]
    (fun v ρ' L' => v = .bool (decide (x = y)) ∧ ρ' = ρ ∧ L' = [[(b1, .cells ⟨blkC x ++ s1⟩ T1 f1)], [(b2, .cells ⟨blkC y ++ s2⟩ T2 f2)]]) := by
  have hlx : (blkC x ++ s1).length = x.length * 64 + s1.length := by rw [List.length_append, blkC_length hx]
  have hly : (blkC y ++ s2).length = y.length * 64 + s2.length := by rw [List.length_append, blkC_length hy]
  refine spec_enter Try.func25 rfl rfl rfl fun u R => ?_
  simp only [argsE, List.cons_append, List.nil_append]
  repeat' (first | (refine i_op ?_; first | (refine iMv ?_; refine qMv ?_) | (refine iLd ?_; refine qLd ?_) | (refine iFa ?_; refine qFa ?_) | (refine iAd ?_; refine qAd ?_) | (refine iSb ?_; refine qSb ?_) | (refine iMl ?_; refine qMl ?_) | (refine iRm ?_; refine qRm ?_) | (refine iQu ?_; refine qQu ?_) | (refine iSr ?_; refine qSr ?_) | (refine iSh ?_; refine qSh ?_) | (refine iCm ?_; refine qCm ?_) | (refine iEx ?_; refine qEx ?_) | (refine iAs ?_; refine qAs ?_) | (refine iPk ?_; refine qPk ?_) | (refine iNc ?_; refine qNc ?_) | (refine iIa ?_; refine qIa ?_) | (refine iCv ?_; refine qCv ?_) | (refine iBi ?_; refine qBi ?_) | (refine iUn ?_; refine qUn ?_) | (refine iFl ?_; refine qFl ?_) | (refine iLu ?_; refine qLu ?_) | (refine iBu ?_; refine qBu ?_) | (refine iSl ?_; refine qSl ?_) | (refine iMf ?_; refine qMf ?_) | (refine iMi ?_; refine qMi ?_) | (refine iTa ?_; refine qTa ?_) | (refine iSt ?_; refine qSt ?_) | (refine iAl ?_; first | refine qAlA (fun _ => ?_) | refine qAlS (fun _ => ?_)) | (refine iBx ?_; first | refine qBxA (fun _ => ?_) | refine qBxS (fun _ => ?_)) | (refine iMm ?_; refine qMm (fun _ => ?_)) | (refine iBs ?_; refine qBs (fun _ => ?_)) | (refine i_gd ?_; first | refine qWant ?_ | refine qSkip ?_ | refine qSkip0 ?_ | refine qSkipU ?_)) | refine tl_nil ?_ | refine tc_seq ?_ | refine tc_region ?_ | refine te_seq ?_ | (refine i_cond ?_; first | refine qCt ?_ | refine qCf ?_) | refine tc_block ?_ | refine te_block_normal ?_ | refine te_block_ret ?_ | refine te_then_ret ?_ | refine te_block_hit ?_ | (refine i_miss ?_; refine qMiss ?_) | refine te_then_exit ?_ | refine tc_exit ?_ | refine tc_ret ?_ | refine tc_skip ?_)
  refine tc_loop_e (fun (k : Nat) => ⟨[(13, .int .i64 k), (12, .int .i64 x.length), (0, .slice (some ⟨b1, 0, none⟩) x.length c1), (1, .slice (some ⟨b2, 0, none⟩) y.length c2)], ρ,
      [[(b1, .cells ⟨blkC x ++ s1⟩ T1 f1)], [(b2, .cells ⟨blkC y ++ s2⟩ T2 f2)]] ++ R⟩)
    (fun k => k ≤ x.length ∧ x.take k = y.take k) (fun k => x.length - k) 0 rfl ⟨by omega, rfl⟩ ev_le rfl tk inferInstance ?_
  rintro k ⟨hk, hpre⟩
  simp only [List.cons_append, List.nil_append]
  by_cases hlt : k < x.length
  · have hlt2 : k < y.length := by omega
    have e1 := blkC_get s1 hx hlt
    have e2 := blkC_get s2 hy hlt2
    have n1 := hx x[k] (List.getElem_mem hlt)
    have n2 := hy y[k] (List.getElem_mem hlt2)
    by_cases he : x[k] = y[k]
    · rw [he] at e1 n1
      repeat' (first | (refine i_op ?_; first | (refine iMv ?_; refine qMv ?_) | (refine iLd ?_; refine qLd ?_) | (refine iFa ?_; refine qFa ?_) | (refine iAd ?_; refine qAd ?_) | (refine iSb ?_; refine qSb ?_) | (refine iMl ?_; refine qMl ?_) | (refine iRm ?_; refine qRm ?_) | (refine iQu ?_; refine qQu ?_) | (refine iSr ?_; refine qSr ?_) | (refine iSh ?_; refine qSh ?_) | (refine iCm ?_; refine qCm ?_) | (refine iEx ?_; refine qEx ?_) | (refine iAs ?_; refine qAs ?_) | (refine iPk ?_; refine qPk ?_) | (refine iNc ?_; refine qNc ?_) | (refine iIa ?_; refine qIa ?_) | (refine iCv ?_; refine qCv ?_) | (refine iBi ?_; refine qBi ?_) | (refine iUn ?_; refine qUn ?_) | (refine iFl ?_; refine qFl ?_) | (refine iLu ?_; refine qLu ?_) | (refine iBu ?_; refine qBu ?_) | (refine iSl ?_; refine qSl ?_) | (refine iMf ?_; refine qMf ?_) | (refine iMi ?_; refine qMi ?_) | (refine iTa ?_; refine qTa ?_) | (refine iSt ?_; refine qSt ?_) | (refine iAl ?_; first | refine qAlA (fun _ => ?_) | refine qAlS (fun _ => ?_)) | (refine iBx ?_; first | refine qBxA (fun _ => ?_) | refine qBxS (fun _ => ?_)) | (refine iMm ?_; refine qMm (fun _ => ?_)) | (refine iBs ?_; refine qBs (fun _ => ?_)) | (refine i_gd ?_; first | refine qWant ?_ | refine qSkip ?_ | refine qSkip0 ?_ | refine qSkipU ?_)) | refine tl_nil ?_ | refine tc_seq ?_ | refine tc_region ?_ | refine te_seq ?_ | (refine i_cond ?_; first | refine qCt ?_ | refine qCf ?_) | refine tc_block ?_ | refine te_block_normal ?_ | refine te_block_ret ?_ | refine te_then_ret ?_ | refine te_block_hit ?_ | (refine i_miss ?_; refine qMiss ?_) | refine te_then_exit ?_ | refine tc_exit ?_ | refine tc_ret ?_ | refine tc_skip ?_)
      refine tc_any (Stays _ _ _) stays_refl ?_
      all_goals refine rMv 0 ?_
      all_goals refine rFull ?_
      all_goals refine rMv 1 ?_
      all_goals refine rIa 2 ?_
      all_goals refine rLd 3 ?_
      all_goals refine rMv 4 ?_
      all_goals refine rMv 5 ?_
      all_goals refine rIa 6 ?_
      all_goals refine rLd 7 ?_
      all_goals (first | refine rAd 8 ?_ | refine rSb 8 ?_ | refine rMl 8 ?_ | refine rRm 8 ?_ | refine rQu 8 ?_ | refine rSr 8 ?_ | refine rSh 8 ?_ | refine rCm 8 ?_)
      all_goals refine rDone ?_
      repeat' (first | (refine i_op ?_; first | (refine iMv ?_; refine qMv ?_) | (refine iLd ?_; refine qLd ?_) | (refine iFa ?_; refine qFa ?_) | (refine iAd ?_; refine qAd ?_) | (refine iSb ?_; refine qSb ?_) | (refine iMl ?_; refine qMl ?_) | (refine iRm ?_; refine qRm ?_) | (refine iQu ?_; refine qQu ?_) | (refine iSr ?_; refine qSr ?_) | (refine iSh ?_; refine qSh ?_) | (refine iCm ?_; refine qCm ?_) | (refine iEx ?_; refine qEx ?_) | (refine iAs ?_; refine qAs ?_) | (refine iPk ?_; refine qPk ?_) | (refine iNc ?_; refine qNc ?_) | (refine iIa ?_; refine qIa ?_) | (refine iCv ?_; refine qCv ?_) | (refine iBi ?_; refine qBi ?_) | (refine iUn ?_; refine qUn ?_) | (refine iFl ?_; refine qFl ?_) | (refine iLu ?_; refine qLu ?_) | (refine iBu ?_; refine qBu ?_) | (refine iSl ?_; refine qSl ?_) | (refine iMf ?_; refine qMf ?_) | (refine iMi ?_; refine qMi ?_) | (refine iTa ?_; refine qTa ?_) | (refine iSt ?_; refine qSt ?_) | (refine iAl ?_; first | refine qAlA (fun _ => ?_) | refine qAlS (fun _ => ?_)) | (refine iBx ?_; first | refine qBxA (fun _ => ?_) | refine qBxS (fun _ => ?_)) | (refine iMm ?_; refine qMm (fun _ => ?_)) | (refine iBs ?_; refine qBs (fun _ => ?_)) | (refine i_gd ?_; first | refine qWant ?_ | refine qSkip ?_ | refine qSkip0 ?_ | refine qSkipU ?_)) | refine tl_nil ?_ | refine tc_seq ?_ | refine tc_region ?_ | refine te_seq ?_ | (refine i_cond ?_; first | refine qCt ?_ | refine qCf ?_) | refine tc_block ?_ | refine te_block_normal ?_ | refine te_block_ret ?_ | refine te_then_ret ?_ | refine te_block_hit ?_ | (refine i_miss ?_; refine qMiss ?_) | refine te_then_exit ?_ | refine tc_exit ?_ | refine tc_ret ?_ | refine tc_skip ?_)
      refine te_round_e (Lm := [_, _]) (R := R) (k + 1) rfl ⟨by omega, by rw [List.take_succ_eq_append_getElem hlt, List.take_succ_eq_append_getElem hlt2, hpre, he]⟩ ev_le rfl tk inferInstance (by omega)
    · have hd : decide (x = y) = false := decide_eq_false (fun e => he (by subst e; rfl))
      rw [hd]
      repeat' (first | (refine i_op ?_; first | (refine iMv ?_; refine qMv ?_) | (refine iLd ?_; refine qLd ?_) | (refine iFa ?_; refine qFa ?_) | (refine iAd ?_; refine qAd ?_) | (refine iSb ?_; refine qSb ?_) | (refine iMl ?_; refine qMl ?_) | (refine iRm ?_; refine qRm ?_) | (refine iQu ?_; refine qQu ?_) | (refine iSr ?_; refine qSr ?_) | (refine iSh ?_; refine qSh ?_) | (refine iCm ?_; refine qCm ?_) | (refine iEx ?_; refine qEx ?_) | (refine iAs ?_; refine qAs ?_) | (refine iPk ?_; refine qPk ?_) | (refine iNc ?_; refine qNc ?_) | (refine iIa ?_; refine qIa ?_) | (refine iCv ?_; refine qCv ?_) | (refine iBi ?_; refine qBi ?_) | (refine iUn ?_; refine qUn ?_) | (refine iFl ?_; refine qFl ?_) | (refine iLu ?_; refine qLu ?_) | (refine iBu ?_; refine qBu ?_) | (refine iSl ?_; refine qSl ?_) | (refine iMf ?_; refine qMf ?_) | (refine iMi ?_; refine qMi ?_) | (refine iTa ?_; refine qTa ?_) | (refine iSt ?_; refine qSt ?_) | (refine iAl ?_; first | refine qAlA (fun _ => ?_) | refine qAlS (fun _ => ?_)) | (refine iBx ?_; first | refine qBxA (fun _ => ?_) | refine qBxS (fun _ => ?_)) | (refine iMm ?_; refine qMm (fun _ => ?_)) | (refine iBs ?_; refine qBs (fun _ => ?_)) | (refine i_gd ?_; first | refine qWant ?_ | refine qSkip ?_ | refine qSkip0 ?_ | refine qSkipU ?_)) | refine tl_nil ?_ | refine tc_seq ?_ | refine tc_region ?_ | refine te_seq ?_ | (refine i_cond ?_; first | refine qCt ?_ | refine qCf ?_) | refine tc_block ?_ | refine te_block_normal ?_ | refine te_block_ret ?_ | refine te_then_ret ?_ | refine te_block_hit ?_ | (refine i_miss ?_; refine qMiss ?_) | refine te_then_exit ?_ | refine tc_exit ?_ | refine tc_ret ?_ | refine tc_skip ?_)
      refine tc_any (Stays _ _ _) stays_refl ?_
      all_goals refine rMv 0 ?_
      all_goals refine rFull ?_
      all_goals refine rMv 1 ?_
      all_goals refine rIa 2 ?_
      all_goals refine rLd 3 ?_
      all_goals refine rMv 4 ?_
      all_goals refine rMv 5 ?_
      all_goals refine rIa 6 ?_
      all_goals refine rLd 7 ?_
      all_goals (first | refine rAd 8 ?_ | refine rSb 8 ?_ | refine rMl 8 ?_ | refine rRm 8 ?_ | refine rQu 8 ?_ | refine rSr 8 ?_ | refine rSh 8 ?_ | refine rCm 8 ?_)
      all_goals refine rDone ?_
      repeat' (first | (refine i_op ?_; first | (refine iMv ?_; refine qMv ?_) | (refine iLd ?_; refine qLd ?_) | (refine iFa ?_; refine qFa ?_) | (refine iAd ?_; refine qAd ?_) | (refine iSb ?_; refine qSb ?_) | (refine iMl ?_; refine qMl ?_) | (refine iRm ?_; refine qRm ?_) | (refine iQu ?_; refine qQu ?_) | (refine iSr ?_; refine qSr ?_) | (refine iSh ?_; refine qSh ?_) | (refine iCm ?_; refine qCm ?_) | (refine iEx ?_; refine qEx ?_) | (refine iAs ?_; refine qAs ?_) | (refine iPk ?_; refine qPk ?_) | (refine iNc ?_; refine qNc ?_) | (refine iIa ?_; refine qIa ?_) | (refine iCv ?_; refine qCv ?_) | (refine iBi ?_; refine qBi ?_) | (refine iUn ?_; refine qUn ?_) | (refine iFl ?_; refine qFl ?_) | (refine iLu ?_; refine qLu ?_) | (refine iBu ?_; refine qBu ?_) | (refine iSl ?_; refine qSl ?_) | (refine iMf ?_; refine qMf ?_) | (refine iMi ?_; refine qMi ?_) | (refine iTa ?_; refine qTa ?_) | (refine iSt ?_; refine qSt ?_) | (refine iAl ?_; first | refine qAlA (fun _ => ?_) | refine qAlS (fun _ => ?_)) | (refine iBx ?_; first | refine qBxA (fun _ => ?_) | refine qBxS (fun _ => ?_)) | (refine iMm ?_; refine qMm (fun _ => ?_)) | (refine iBs ?_; refine qBs (fun _ => ?_)) | (refine i_gd ?_; first | refine qWant ?_ | refine qSkip ?_ | refine qSkip0 ?_ | refine qSkipU ?_)) | refine tl_nil ?_ | refine tc_seq ?_ | refine tc_region ?_ | refine te_seq ?_ | (refine i_cond ?_; first | refine qCt ?_ | refine qCf ?_) | refine tc_block ?_ | refine te_block_normal ?_ | refine te_block_ret ?_ | refine te_then_ret ?_ | refine te_block_hit ?_ | (refine i_miss ?_; refine qMiss ?_) | refine te_then_exit ?_ | refine tc_exit ?_ | refine tc_ret ?_ | refine tc_skip ?_)
      exact qE ⟨rfl, rfl, rfl⟩
  · have hk2 : k = x.length := by omega
    subst hk2
    have hd : decide (x = y) = true := by
      rw [List.take_of_length_le (Nat.le_refl _), hl, List.take_of_length_le (Nat.le_refl _)] at hpre
      simp [hpre]
    rw [hd]
    repeat' (first | (refine i_op ?_; first | (refine iMv ?_; refine qMv ?_) | (refine iLd ?_; refine qLd ?_) | (refine iFa ?_; refine qFa ?_) | (refine iAd ?_; refine qAd ?_) | (refine iSb ?_; refine qSb ?_) | (refine iMl ?_; refine qMl ?_) | (refine iRm ?_; refine qRm ?_) | (refine iQu ?_; refine qQu ?_) | (refine iSr ?_; refine qSr ?_) | (refine iSh ?_; refine qSh ?_) | (refine iCm ?_; refine qCm ?_) | (refine iEx ?_; refine qEx ?_) | (refine iAs ?_; refine qAs ?_) | (refine iPk ?_; refine qPk ?_) | (refine iNc ?_; refine qNc ?_) | (refine iIa ?_; refine qIa ?_) | (refine iCv ?_; refine qCv ?_) | (refine iBi ?_; refine qBi ?_) | (refine iUn ?_; refine qUn ?_) | (refine iFl ?_; refine qFl ?_) | (refine iLu ?_; refine qLu ?_) | (refine iBu ?_; refine qBu ?_) | (refine iSl ?_; refine qSl ?_) | (refine iMf ?_; refine qMf ?_) | (refine iMi ?_; refine qMi ?_) | (refine iTa ?_; refine qTa ?_) | (refine iSt ?_; refine qSt ?_) | (refine iAl ?_; first | refine qAlA (fun _ => ?_) | refine qAlS (fun _ => ?_)) | (refine iBx ?_; first | refine qBxA (fun _ => ?_) | refine qBxS (fun _ => ?_)) | (refine iMm ?_; refine qMm (fun _ => ?_)) | (refine iBs ?_; refine qBs (fun _ => ?_)) | (refine i_gd ?_; first | refine qWant ?_ | refine qSkip ?_ | refine qSkip0 ?_ | refine qSkipU ?_)) | refine tl_nil ?_ | refine tc_seq ?_ | refine tc_region ?_ | refine te_seq ?_ | (refine i_cond ?_; first | refine qCt ?_ | refine qCf ?_) | refine tc_block ?_ | refine te_block_normal ?_ | refine te_block_ret ?_ | refine te_then_ret ?_ | refine te_block_hit ?_ | (refine i_miss ?_; refine qMiss ?_) | refine te_then_exit ?_ | refine tc_exit ?_ | refine tc_ret ?_ | refine tc_skip ?_)
    exact qE ⟨rfl, rfl, rfl⟩
theorem slEqB_n (ρ : Hp) (b1 b2 c1 c2 n : Nat) (x y : List Blk) (s1 s2 : List Value) (T1 T2 : TypeId) (f1 f2 : Nat × Nat) (hx : ∀ b ∈ x, b.length = 64) (hy : ∀ b ∈ y, b.length = 64) (h1 : x.length = n) (h2 : y.length = n) (hxs : n ≤ 1000000) :
    Spec Try.prog 25 [.slice (some ⟨b1, 0, none⟩) n c1, .slice (some ⟨b2, 0, none⟩) n c2] ρ [[(b1, .cells ⟨blkC x ++ s1⟩ T1 f1)], [(b2, .cells ⟨blkC y ++ s2⟩ T2 f2)]]
    (fun v ρ' L' => v = .bool (decide (x = y)) ∧ ρ' = ρ ∧ L' = [[(b1, .cells ⟨blkC x ++ s1⟩ T1 f1)], [(b2, .cells ⟨blkC y ++ s2⟩ T2 f2)]]) := by
  have := slEqB_spec ρ b1 b2 c1 c2 x y s1 s2 T1 T2 f1 f2 hx hy (by omega) (by omega)
  rw [h1, h2] at this
  exact this
end Go.Proofs.E

namespace Go.Proofs.E
open Go
set_option linter.unusedVariables false
set_option linter.unusedSimpArgs false
set_option linter.unusedSectionVars false
set_option maxRecDepth 4000
set_option maxHeartbeats 1000000
attribute [local irreducible] Yl TL TC TE Spec YSpec R1 Hp.le EnvLe TS TR YS Stays
theorem crash_in (ρ : Hp) (b : Nat) (hb : HB) (mb : Nat) (es : List MapEntry) (ck : Nat) (D : DS) (hD : D.Ok) (hm : MapOk D.secs es) (ka : Option Addr) (kn kp m : Nat) (ks : List Bool) (hk : KeepIn ρ ka kn kp ks) (hmn : m = min kn 60) :
    Spec Try.prog 18 [.pointer (some ⟨b, 0, none⟩), .slice ka m kp] ρ (diskL b hb mb es ck D)
      (fun v ρ' L' => v = .int .i64 0 ∧ ρ.le ρ' ∧ ∃ mb' ck', L' = diskL b hb mb' [] ck' (D.crash (keepB (ks.take 60)))) := by
  have := crash_spec ρ b hb mb es ck D hD hm ka m kp [] (keepB (ks.take 60)) (fun bk nth _ => by
    obtain ⟨h1, h2, h3, h4⟩ := hk
    by_cases hlt : nth < m
    · obtain ⟨kb, off, C, T, fr, rfl, e2, e3⟩ := h4.resolve_left (by omega)
      have hn : nth < ks.length := by omega
      have hc : C[off + nth * 1]? = some (.bool ks[nth]) := by
        have := congrArg (fun l : List Value => l[nth]?) e3

        rw [List.getElem?_take_of_lt (by omega), List.getElem?_drop] at this
        rw [Nat.mul_one, this]; simp [hn, bb]
      have hkb : keepB (ks.take 60) nth = ks[nth] := by
        unfold keepB
        rw [List.getElem?_take_of_lt (by omega), List.getElem?_eq_getElem hn, Option.getD_some]
      rw [hkb]
      exact crash1_imm ρ bk nth kb off m kp C T fr _ hlt hc e2
    · have hkb : keepB (ks.take 60) nth = false := by
        unfold keepB
        rw [List.getElem?_eq_none (by simp; omega)]; rfl
      rw [hkb]
      exact crash1_over ρ bk nth ka m kp [] (by omega))
  simp only [List.append_nil] at this
  exact this
theorem settled_congr {f g : Nat → Bool} {s : Secs} (h : ∀ n, n < (pend s).length → f n = g n) : settled f s = settled g s := by
  have hl : (settled f s).length = (settled g s).length := by rw [settled_length, settled_length]
  apply List.ext_getElem hl
  intro i h1 h2
  have hi : i < s.length := by rw [settled_length] at h1; exact h1
  rw [settled_at hi, settled_at hi]
  cases hp : isP s i with
  | false => simp
  | true =>
    have hlt : (pendTo s i).length < (pend s).length := by
      have := (pendTo_pre (s := s) (k := i + 1) (m := s.length) (by omega)).length_le
      rw [pendTo_succ_t hp] at this
      simp only [List.length_append, List.length_singleton] at this
      unfold pend; omega
    rw [h _ hlt]
theorem settled_empty {f : Nat → Bool} {s : Secs} (h : emptyC s) : settled f s = s := by
  apply List.ext_getElem (by rw [settled_length])
  intro i h1 h2
  rw [settled_at h2, isP_empty h]
  have := h s[i] (List.getElem_mem h2)
  simp only [Bool.false_and, Bool.false_eq_true, if_false]
  cases hs : s[i] with
  | mk x y => rw [hs] at this; simp only at this; rw [this]
theorem pend_empty {s : Secs} (h : emptyC s) : pend s = [] := by
  unfold pend pendTo
  rw [List.filter_eq_nil_iff]
  intro a _
  rw [isP_empty h]; simp
theorem madeFalse (n : Nat) : madeCells (Value.bool false).cells (n * 1) = ⟨List.replicate n (.bool false)⟩ := by
  have := madeCells_rep (.bool false) 1 (n * 1) (by decide)
  simpa [Value.cells] using this
end Go.Proofs.E

namespace Go.Proofs.E
open Go
set_option linter.unusedVariables false
set_option linter.unusedSimpArgs false
set_option linter.unusedSectionVars false
set_option maxRecDepth 4000
set_option maxHeartbeats 1000000
attribute [local irreducible] Yl TL TC TE Spec YSpec R1 Hp.le EnvLe TS TR YS Stays
theorem isNaN63 (ρ : Hp) (m : Int) : Spec Try.prog 63 [.int .i64 m] ρ [] (fun v ρ' L' => v = .bool false ∧ ρ' = ρ ∧ L' = []) := by
  refine spec_enter Try.func63 rfl rfl rfl fun u R => ?_
  simp only [argsE, List.cons_append, List.nil_append]
  repeat' (first | (refine i_op ?_; first | (refine iMv ?_; refine qMv ?_) | (refine iLd ?_; refine qLd ?_) | (refine iFa ?_; refine qFa ?_) | (refine iAd ?_; refine qAd ?_) | (refine iSb ?_; refine qSb ?_) | (refine iMl ?_; refine qMl ?_) | (refine iRm ?_; refine qRm ?_) | (refine iQu ?_; refine qQu ?_) | (refine iSr ?_; refine qSr ?_) | (refine iSh ?_; refine qSh ?_) | (refine iCm ?_; refine qCm ?_) | (refine iEx ?_; refine qEx ?_) | (refine iAs ?_; refine qAs ?_) | (refine iPk ?_; refine qPk ?_) | (refine iNc ?_; refine qNc ?_) | (refine iIa ?_; refine qIa ?_) | (refine iCv ?_; refine qCv ?_) | (refine iBi ?_; refine qBi ?_) | (refine iUn ?_; refine qUn ?_) | (refine iFl ?_; refine qFl ?_) | (refine iLu ?_; refine qLu ?_) | (refine iBu ?_; refine qBu ?_) | (refine iSl ?_; refine qSl ?_) | (refine iMf ?_; refine qMf ?_) | (refine iMi ?_; refine qMi ?_) | (refine iTa ?_; refine qTa ?_) | (refine iSt ?_; refine qSt ?_) | (refine iAl ?_; first | refine qAlA (fun _ => ?_) | refine qAlS (fun _ => ?_)) | (refine iBx ?_; first | refine qBxA (fun _ => ?_) | refine qBxS (fun _ => ?_)) | (refine iMm ?_; refine qMm (fun _ => ?_)) | (refine iBs ?_; refine qBs (fun _ => ?_)) | (refine i_gd ?_; first | refine qWant ?_ | refine qSkip ?_ | refine qSkip0 ?_ | refine qSkipU ?_)) | refine tl_nil ?_ | refine tc_seq ?_ | refine tc_region ?_ | refine te_seq ?_ | (refine i_cond ?_; first | refine qCt ?_ | refine qCf ?_) | refine tc_block ?_ | refine te_block_normal ?_ | refine te_block_ret ?_ | refine te_then_ret ?_ | refine te_block_hit ?_ | (refine i_miss ?_; refine qMiss ?_) | refine te_then_exit ?_ | refine tc_exit ?_ | refine tc_ret ?_ | refine tc_skip ?_)
  exact qE ⟨rfl, rfl, rfl⟩
theorem isNaN54 (ρ : Hp) (m : Int) : Spec Try.prog 54 [.int .i64 m] ρ [] (fun v ρ' L' => v = .bool false ∧ ρ' = ρ ∧ L' = []) := by
  refine spec_enter Try.func54 rfl rfl rfl fun u R => ?_
  simp only [argsE, List.cons_append, List.nil_append]
  repeat' (first | (refine i_op ?_; first | (refine iMv ?_; refine qMv ?_) | (refine iLd ?_; refine qLd ?_) | (refine iFa ?_; refine qFa ?_) | (refine iAd ?_; refine qAd ?_) | (refine iSb ?_; refine qSb ?_) | (refine iMl ?_; refine qMl ?_) | (refine iRm ?_; refine qRm ?_) | (refine iQu ?_; refine qQu ?_) | (refine iSr ?_; refine qSr ?_) | (refine iSh ?_; refine qSh ?_) | (refine iCm ?_; refine qCm ?_) | (refine iEx ?_; refine qEx ?_) | (refine iAs ?_; refine qAs ?_) | (refine iPk ?_; refine qPk ?_) | (refine iNc ?_; refine qNc ?_) | (refine iIa ?_; refine qIa ?_) | (refine iCv ?_; refine qCv ?_) | (refine iBi ?_; refine qBi ?_) | (refine iUn ?_; refine qUn ?_) | (refine iFl ?_; refine qFl ?_) | (refine iLu ?_; refine qLu ?_) | (refine iBu ?_; refine qBu ?_) | (refine iSl ?_; refine qSl ?_) | (refine iMf ?_; refine qMf ?_) | (refine iMi ?_; refine qMi ?_) | (refine iTa ?_; refine qTa ?_) | (refine iSt ?_; refine qSt ?_) | (refine iAl ?_; first | refine qAlA (fun _ => ?_) | refine qAlS (fun _ => ?_)) | (refine iBx ?_; first | refine qBxA (fun _ => ?_) | refine qBxS (fun _ => ?_)) | (refine iMm ?_; refine qMm (fun _ => ?_)) | (refine iBs ?_; refine qBs (fun _ => ?_)) | (refine i_gd ?_; first | refine qWant ?_ | refine qSkip ?_ | refine qSkip0 ?_ | refine qSkipU ?_)) | refine tl_nil ?_ | refine tc_seq ?_ | refine tc_region ?_ | refine te_seq ?_ | (refine i_cond ?_; first | refine qCt ?_ | refine qCf ?_) | refine tc_block ?_ | refine te_block_normal ?_ | refine te_block_ret ?_ | refine te_then_ret ?_ | refine te_block_hit ?_ | (refine i_miss ?_; refine qMiss ?_) | refine te_then_exit ?_ | refine tc_exit ?_ | refine tc_ret ?_ | refine tc_skip ?_)
  exact qE ⟨rfl, rfl, rfl⟩
theorem less53 (ρ : Hp) (m n : Int) : Spec Try.prog 53 [.int .i64 m, .int .i64 n] ρ [] (fun v ρ' L' => v = .bool (decide (m < n)) ∧ ρ' = ρ ∧ L' = []) := by
  refine spec_enter Try.func53 rfl rfl rfl fun u R => ?_
  simp only [argsE, List.cons_append, List.nil_append]
  repeat' (first | (refine tl_is (.func 63) ?_; refine qC rfl rfl (isNaN63 _ _) ?_; rintro v ρ' L' hle ⟨rfl, rfl, rfl⟩ <;> (try simp only [List.cons_append, List.nil_append, List.append_eq])) | (refine i_op ?_; first | (refine iMv ?_; refine qMv ?_) | (refine iLd ?_; refine qLd ?_) | (refine iFa ?_; refine qFa ?_) | (refine iAd ?_; refine qAd ?_) | (refine iSb ?_; refine qSb ?_) | (refine iMl ?_; refine qMl ?_) | (refine iRm ?_; refine qRm ?_) | (refine iQu ?_; refine qQu ?_) | (refine iSr ?_; refine qSr ?_) | (refine iSh ?_; refine qSh ?_) | (refine iCm ?_; refine qCm ?_) | (refine iEx ?_; refine qEx ?_) | (refine iAs ?_; refine qAs ?_) | (refine iPk ?_; refine qPk ?_) | (refine iNc ?_; refine qNc ?_) | (refine iIa ?_; refine qIa ?_) | (refine iCv ?_; refine qCv ?_) | (refine iBi ?_; refine qBi ?_) | (refine iUn ?_; refine qUn ?_) | (refine iFl ?_; refine qFl ?_) | (refine iLu ?_; refine qLu ?_) | (refine iBu ?_; refine qBu ?_) | (refine iSl ?_; refine qSl ?_) | (refine iMf ?_; refine qMf ?_) | (refine iMi ?_; refine qMi ?_) | (refine iTa ?_; refine qTa ?_) | (refine iSt ?_; refine qSt ?_) | (refine iAl ?_; first | refine qAlA (fun _ => ?_) | refine qAlS (fun _ => ?_)) | (refine iBx ?_; first | refine qBxA (fun _ => ?_) | refine qBxS (fun _ => ?_)) | (refine iMm ?_; refine qMm (fun _ => ?_)) | (refine iBs ?_; refine qBs (fun _ => ?_)) | (refine i_gd ?_; first | refine qWant ?_ | refine qSkip ?_ | refine qSkip0 ?_ | refine qSkipU ?_)) | refine tl_nil ?_ | refine tc_seq ?_ | refine tc_region ?_ | refine te_seq ?_ | (refine i_cond ?_; first | refine qCt ?_ | refine qCf ?_) | refine tc_block ?_ | refine te_block_normal ?_ | refine te_block_ret ?_ | refine te_then_ret ?_ | refine te_block_hit ?_ | (refine i_miss ?_; refine qMiss ?_) | refine te_then_exit ?_ | refine tc_exit ?_ | refine tc_ret ?_ | refine tc_skip ?_)
  exact qE ⟨rfl, rfl, rfl⟩
theorem filter_cut {P : List Nat} {t i : Nat} (hi : i ≤ P.length) (h1 : ∀ k (h : k < P.length), k < i → P[k] < t) (h2 : ∀ k (h : k < P.length), i ≤ k → t ≤ P[k]) : (P.filter (fun x => decide (x < t))).length = i := by
  have e : P = P.take i ++ P.drop i := (List.take_append_drop i P).symm
  rw [e, List.filter_append]
  have f1 : (P.take i).filter (fun x => decide (x < t)) = P.take i := by
    rw [List.filter_eq_self]
    intro a ha
    obtain ⟨k, hk, rfl⟩ := List.mem_iff_getElem.1 ha
    simp only [List.length_take] at hk
    simp only [List.getElem_take, decide_eq_true_eq]
    exact h1 k (by omega) (by omega)
  have f2 : (P.drop i).filter (fun x => decide (x < t)) = [] := by
    rw [List.filter_eq_nil_iff]
    intro a ha
    obtain ⟨k, hk, rfl⟩ := List.mem_iff_getElem.1 ha
    simp only [List.length_drop] at hk
    simp only [List.getElem_drop, decide_eq_true_eq]
    have := h2 (i + k) (by omega) (by omega)
    omega
  rw [f1, f2]; simp; omega
theorem half_eq {i j : Nat} (h : i + j ≤ 2000000) : IntKind.i64.wrap (IntKind.u64.wrap ((i : Int) + (j : Int)) / 2 ^ 1) = (((i + j) / 2 : Nat) : Int) := by
  have h1 : IntKind.u64.wrap ((i : Int) + (j : Int)) = (i : Int) + j := wrap_id (by simp only [lo, hi]; omega)
  rw [h1, wrap_id (by simp only [lo, hi]; omega)]
  omega
def Asc (P : List Nat) : Prop := ∀ i j (h1 : i < P.length) (h2 : j < P.length), i < j → P[i] < P[j]
theorem bsearch_spec (ρ : Hp) (b : Nat) (P : List Nat) (n cap : Nat) (sp : List Value) (T : TypeId) (fr : Nat × Nat) (t : Nat) (hn : P.length = n) (hbig : n ≤ 1000000) (hA : Asc P) (ht : t ≤ 1000000) :
    Spec Try.prog 33 [.slice (some ⟨b, 0, none⟩) n cap, .int .i64 t] ρ [[(b, .cells ⟨P.map iv ++ sp⟩ T fr)]]
      (fun v ρ' L' => v = .tuple ⟨[.int .i64 ((P.filter (fun x => decide (x < t))).length : Nat), .bool (decide (t ∈ P))]⟩ ∧ ρ' = ρ ∧ L' = [[(b, .cells ⟨P.map iv ++ sp⟩ T fr)]]) := by
  have hget : ∀ k (h : k < P.length), (P.map iv ++ sp)[0 + k * 1]? = some (.int .i64 (P[k] : Nat)) := fun k h => by
    rw [Nat.zero_add, Nat.mul_one, List.getElem?_append_left (by simp; omega)]; simp [h, iv]
  refine spec_enter Try.func33 rfl rfl rfl fun u R => ?_
  simp only [argsE, List.cons_append, List.nil_append]
  repeat' (first | (refine i_op ?_; first | (refine iMv ?_; refine qMv ?_) | (refine iLd ?_; refine qLd ?_) | (refine iFa ?_; refine qFa ?_) | (refine iAd ?_; refine qAd ?_) | (refine iSb ?_; refine qSb ?_) | (refine iMl ?_; refine qMl ?_) | (refine iRm ?_; refine qRm ?_) | (refine iQu ?_; refine qQu ?_) | (refine iSr ?_; refine qSr ?_) | (refine iSh ?_; refine qSh ?_) | (refine iCm ?_; refine qCm ?_) | (refine iEx ?_; refine qEx ?_) | (refine iAs ?_; refine qAs ?_) | (refine iPk ?_; refine qPk ?_) | (refine iNc ?_; refine qNc ?_) | (refine iIa ?_; refine qIa ?_) | (refine iCv ?_; refine qCv ?_) | (refine iBi ?_; refine qBi ?_) | (refine iUn ?_; refine qUn ?_) | (refine iFl ?_; refine qFl ?_) | (refine iLu ?_; refine qLu ?_) | (refine iBu ?_; refine qBu ?_) | (refine iSl ?_; refine qSl ?_) | (refine iMf ?_; refine qMf ?_) | (refine iMi ?_; refine qMi ?_) | (refine iTa ?_; refine qTa ?_) | (refine iSt ?_; refine qSt ?_) | (refine iAl ?_; first | refine qAlA (fun _ => ?_) | refine qAlS (fun _ => ?_)) | (refine iBx ?_; first | refine qBxA (fun _ => ?_) | refine qBxS (fun _ => ?_)) | (refine iMm ?_; refine qMm (fun _ => ?_)) | (refine iBs ?_; refine qBs (fun _ => ?_)) | (refine i_gd ?_; first | refine qWant ?_ | refine qSkip ?_ | refine qSkip0 ?_ | refine qSkipU ?_)) | refine tl_nil ?_ | refine tc_seq ?_ | refine tc_region ?_ | refine te_seq ?_ | (refine i_cond ?_; first | refine qCt ?_ | refine qCf ?_) | refine tc_block ?_ | refine te_block_normal ?_ | refine te_block_ret ?_ | refine te_then_ret ?_ | refine te_block_hit ?_ | (refine i_miss ?_; refine qMiss ?_) | refine te_then_exit ?_ | refine tc_exit ?_ | refine tc_ret ?_ | refine tc_skip ?_)
  refine tc_loop_e (fun (y : Nat × Nat) => ⟨[(7, .int .i64 y.1), (8, .int .i64 y.2), (6, .int .i64 n), (0, .slice (some ⟨b, 0, none⟩) n cap), (1, .int .i64 t)], ρ, [[(b, .cells ⟨P.map iv ++ sp⟩ T fr)]] ++ R⟩)
    (fun y => y.1 ≤ y.2 ∧ y.2 ≤ n ∧ (∀ k (h : k < P.length), k < y.1 → P[k] < t) ∧ (∀ k (h : k < P.length), y.2 ≤ k → t ≤ P[k])) (fun y => y.2 - y.1) (0, n) rfl ⟨by simp, by simp, by intro k h h'; simp at h', by intro k h h'; dsimp only at h'; omega⟩ ev_le rfl tk inferInstance ?_
  rintro ⟨i, j⟩ ⟨g1, g2, g3, g4⟩
  dsimp only at g1 g2 g3 g4 ⊢
  simp only [List.cons_append, List.nil_append]
  by_cases hlt : i < j
  · have hh := half_eq (i := i) (j := j) (by omega)
    generalize hm : (i + j) / 2 = m at *
    have hm1 : i ≤ m := by omega
    have hm2 : m < j := by omega
    have hmP : m < P.length := by omega
    have hgm := hget m hmP
    by_cases hc : P[m] < t
    · repeat' (first | (refine iCv ?_; refine qCv ?_; try rw [hh]) | (refine tl_is (.func 53) ?_; refine qC rfl rfl (less53 _ _ _) ?_; rintro v ρ' L' hle ⟨rfl, rfl, rfl⟩ <;> (try simp only [List.cons_append, List.nil_append, List.append_eq, show ((P[m] : Nat) : Int) < (t : Int) from by omega, decide_true])) | (refine i_op ?_; first | (refine iMv ?_; refine qMv ?_) | (refine iLd ?_; refine qLd ?_) | (refine iFa ?_; refine qFa ?_) | (refine iAd ?_; refine qAd ?_) | (refine iSb ?_; refine qSb ?_) | (refine iMl ?_; refine qMl ?_) | (refine iRm ?_; refine qRm ?_) | (refine iQu ?_; refine qQu ?_) | (refine iSr ?_; refine qSr ?_) | (refine iSh ?_; refine qSh ?_) | (refine iCm ?_; refine qCm ?_) | (refine iEx ?_; refine qEx ?_) | (refine iAs ?_; refine qAs ?_) | (refine iPk ?_; refine qPk ?_) | (refine iNc ?_; refine qNc ?_) | (refine iIa ?_; refine qIa ?_) | (refine iCv ?_; refine qCv ?_) | (refine iBi ?_; refine qBi ?_) | (refine iUn ?_; refine qUn ?_) | (refine iFl ?_; refine qFl ?_) | (refine iLu ?_; refine qLu ?_) | (refine iBu ?_; refine qBu ?_) | (refine iSl ?_; refine qSl ?_) | (refine iMf ?_; refine qMf ?_) | (refine iMi ?_; refine qMi ?_) | (refine iTa ?_; refine qTa ?_) | (refine iSt ?_; refine qSt ?_) | (refine iAl ?_; first | refine qAlA (fun _ => ?_) | refine qAlS (fun _ => ?_)) | (refine iBx ?_; first | refine qBxA (fun _ => ?_) | refine qBxS (fun _ => ?_)) | (refine iMm ?_; refine qMm (fun _ => ?_)) | (refine iBs ?_; refine qBs (fun _ => ?_)) | (refine i_gd ?_; first | refine qWant ?_ | refine qSkip ?_ | refine qSkip0 ?_ | refine qSkipU ?_)) | refine tl_nil ?_ | refine tc_seq ?_ | refine tc_region ?_ | refine te_seq ?_ | (refine i_cond ?_; first | refine qCt ?_ | refine qCf ?_) | refine tc_block ?_ | refine te_block_normal ?_ | refine te_block_ret ?_ | refine te_then_ret ?_ | refine te_block_hit ?_ | (refine i_miss ?_; refine qMiss ?_) | refine te_then_exit ?_ | refine tc_exit ?_ | refine tc_ret ?_ | refine tc_skip ?_)
      refine te_round_e (Lm := [_]) (R := R) (m + 1, j) rfl ⟨by dsimp only; omega, g2, fun k h h' => ?_, g4⟩ ev_le rfl tk inferInstance (by dsimp only; omega)
      dsimp only at h'
      rcases Nat.lt_or_ge k m with h3 | h3
      · have := hA k m h hmP h3; omega
      · have : k = m := by omega
        subst this; exact hc
    · repeat' (first | (refine iCv ?_; refine qCv ?_; try rw [hh]) | (refine tl_is (.func 53) ?_; refine qC rfl rfl (less53 _ _ _) ?_; rintro v ρ' L' hle ⟨rfl, rfl, rfl⟩ <;> (try simp only [List.cons_append, List.nil_append, List.append_eq, show ¬ ((P[m] : Nat) : Int) < (t : Int) from by omega, decide_false])) | (refine i_op ?_; first | (refine iMv ?_; refine qMv ?_) | (refine iLd ?_; refine qLd ?_) | (refine iFa ?_; refine qFa ?_) | (refine iAd ?_; refine qAd ?_) | (refine iSb ?_; refine qSb ?_) | (refine iMl ?_; refine qMl ?_) | (refine iRm ?_; refine qRm ?_) | (refine iQu ?_; refine qQu ?_) | (refine iSr ?_; refine qSr ?_) | (refine iSh ?_; refine qSh ?_) | (refine iCm ?_; refine qCm ?_) | (refine iEx ?_; refine qEx ?_) | (refine iAs ?_; refine qAs ?_) | (refine iPk ?_; refine qPk ?_) | (refine iNc ?_; refine qNc ?_) | (refine iIa ?_; refine qIa ?_) | (refine iCv ?_; refine qCv ?_) | (refine iBi ?_; refine qBi ?_) | (refine iUn ?_; refine qUn ?_) | (refine iFl ?_; refine qFl ?_) | (refine iLu ?_; refine qLu ?_) | (refine iBu ?_; refine qBu ?_) | (refine iSl ?_; refine qSl ?_) | (refine iMf ?_; refine qMf ?_) | (refine iMi ?_; refine qMi ?_) | (refine iTa ?_; refine qTa ?_) | (refine iSt ?_; refine qSt ?_) | (refine iAl ?_; first | refine qAlA (fun _ => ?_) | refine qAlS (fun _ => ?_)) | (refine iBx ?_; first | refine qBxA (fun _ => ?_) | refine qBxS (fun _ => ?_)) | (refine iMm ?_; refine qMm (fun _ => ?_)) | (refine iBs ?_; refine qBs (fun _ => ?_)) | (refine i_gd ?_; first | refine qWant ?_ | refine qSkip ?_ | refine qSkip0 ?_ | refine qSkipU ?_)) | refine tl_nil ?_ | refine tc_seq ?_ | refine tc_region ?_ | refine te_seq ?_ | (refine i_cond ?_; first | refine qCt ?_ | refine qCf ?_) | refine tc_block ?_ | refine te_block_normal ?_ | refine te_block_ret ?_ | refine te_then_ret ?_ | refine te_block_hit ?_ | (refine i_miss ?_; refine qMiss ?_) | refine te_then_exit ?_ | refine tc_exit ?_ | refine tc_ret ?_ | refine tc_skip ?_)
      refine te_round_e (Lm := [_]) (R := R) (i, m) rfl ⟨hm1, by dsimp only; omega, g3, fun k h h' => ?_⟩ ev_le rfl tk inferInstance (by dsimp only; omega)
      dsimp only at h'
      rcases Nat.lt_or_ge m k with h3 | h3
      · have := hA m k hmP h h3; omega
      · have : k = m := by omega
        subst this; omega
  · have hij : i = j := by omega
    subst hij
    have hcut := filter_cut (P := P) (t := t) (i := i) (by omega) g3 g4
    rw [hcut]
    by_cases hin : i < n
    · have hiP : i < P.length := by omega
      have hgi := hget i hiP
      by_cases he : P[i] = t
      · have hmem : decide (t ∈ P) = true := by rw [decide_eq_true_eq, ← he]; exact List.getElem_mem hiP
        rw [hmem]
        repeat' (first | (refine i_op ?_; first | (refine iMv ?_; refine qMv ?_) | (refine iLd ?_; refine qLd ?_) | (refine iFa ?_; refine qFa ?_) | (refine iAd ?_; refine qAd ?_) | (refine iSb ?_; refine qSb ?_) | (refine iMl ?_; refine qMl ?_) | (refine iRm ?_; refine qRm ?_) | (refine iQu ?_; refine qQu ?_) | (refine iSr ?_; refine qSr ?_) | (refine iSh ?_; refine qSh ?_) | (refine iCm ?_; refine qCm ?_) | (refine iEx ?_; refine qEx ?_) | (refine iAs ?_; refine qAs ?_) | (refine iPk ?_; refine qPk ?_) | (refine iNc ?_; refine qNc ?_) | (refine iIa ?_; refine qIa ?_) | (refine iCv ?_; refine qCv ?_) | (refine iBi ?_; refine qBi ?_) | (refine iUn ?_; refine qUn ?_) | (refine iFl ?_; refine qFl ?_) | (refine iLu ?_; refine qLu ?_) | (refine iBu ?_; refine qBu ?_) | (refine iSl ?_; refine qSl ?_) | (refine iMf ?_; refine qMf ?_) | (refine iMi ?_; refine qMi ?_) | (refine iTa ?_; refine qTa ?_) | (refine iSt ?_; refine qSt ?_) | (refine iAl ?_; first | refine qAlA (fun _ => ?_) | refine qAlS (fun _ => ?_)) | (refine iBx ?_; first | refine qBxA (fun _ => ?_) | refine qBxS (fun _ => ?_)) | (refine iMm ?_; refine qMm (fun _ => ?_)) | (refine iBs ?_; refine qBs (fun _ => ?_)) | (refine i_gd ?_; first | refine qWant ?_ | refine qSkip ?_ | refine qSkip0 ?_ | refine qSkipU ?_)) | refine tl_nil ?_ | refine tc_seq ?_ | refine tc_region ?_ | refine te_seq ?_ | (refine i_cond ?_; first | refine qCt ?_ | refine qCf ?_) | refine tc_block ?_ | refine te_block_normal ?_ | refine te_block_ret ?_ | refine te_then_ret ?_ | refine te_block_hit ?_ | (refine i_miss ?_; refine qMiss ?_) | refine te_then_exit ?_ | refine tc_exit ?_ | refine tc_ret ?_ | refine tc_skip ?_)
        exact qE ⟨rfl, rfl, rfl⟩
      · have hmem : decide (t ∈ P) = false := by
          rw [decide_eq_false_iff_not]
          intro hm
          obtain ⟨k, hk, hk2⟩ := List.mem_iff_getElem.1 hm
          have h5 := g4 i hiP (Nat.le_refl _)
          rcases Nat.lt_trichotomy k i with h3 | h3 | h3
          · have := g3 k hk h3; omega
          · subst h3; exact he hk2
          · have := hA i k hiP hk h3; omega
        rw [hmem]
        repeat' (first | (refine tl_is (.func 54) ?_; refine qC rfl rfl (isNaN54 _ _) ?_; rintro v ρ' L' hle ⟨rfl, rfl, rfl⟩ <;> (try simp only [List.cons_append, List.nil_append, List.append_eq])) | (refine i_op ?_; first | (refine iMv ?_; refine qMv ?_) | (refine iLd ?_; refine qLd ?_) | (refine iFa ?_; refine qFa ?_) | (refine iAd ?_; refine qAd ?_) | (refine iSb ?_; refine qSb ?_) | (refine iMl ?_; refine qMl ?_) | (refine iRm ?_; refine qRm ?_) | (refine iQu ?_; refine qQu ?_) | (refine iSr ?_; refine qSr ?_) | (refine iSh ?_; refine qSh ?_) | (refine iCm ?_; refine qCm ?_) | (refine iEx ?_; refine qEx ?_) | (refine iAs ?_; refine qAs ?_) | (refine iPk ?_; refine qPk ?_) | (refine iNc ?_; refine qNc ?_) | (refine iIa ?_; refine qIa ?_) | (refine iCv ?_; refine qCv ?_) | (refine iBi ?_; refine qBi ?_) | (refine iUn ?_; refine qUn ?_) | (refine iFl ?_; refine qFl ?_) | (refine iLu ?_; refine qLu ?_) | (refine iBu ?_; refine qBu ?_) | (refine iSl ?_; refine qSl ?_) | (refine iMf ?_; refine qMf ?_) | (refine iMi ?_; refine qMi ?_) | (refine iTa ?_; refine qTa ?_) | (refine iSt ?_; refine qSt ?_) | (refine iAl ?_; first | refine qAlA (fun _ => ?_) | refine qAlS (fun _ => ?_)) | (refine iBx ?_; first | refine qBxA (fun _ => ?_) | refine qBxS (fun _ => ?_)) | (refine iMm ?_; refine qMm (fun _ => ?_)) | (refine iBs ?_; refine qBs (fun _ => ?_)) | (refine i_gd ?_; first | refine qWant ?_ | refine qSkip ?_ | refine qSkip0 ?_ | refine qSkipU ?_)) | refine tl_nil ?_ | refine tc_seq ?_ | refine tc_region ?_ | refine te_seq ?_ | (refine i_cond ?_; first | refine qCt ?_ | refine qCf ?_) | refine tc_block ?_ | refine te_block_normal ?_ | refine te_block_ret ?_ | refine te_then_ret ?_ | refine te_block_hit ?_ | (refine i_miss ?_; refine qMiss ?_) | refine te_then_exit ?_ | refine tc_exit ?_ | refine tc_ret ?_ | refine tc_skip ?_)
        exact qE ⟨rfl, rfl, rfl⟩
    · have hmem : decide (t ∈ P) = false := by
        rw [decide_eq_false_iff_not]
        intro hm
        obtain ⟨k, hk, hk2⟩ := List.mem_iff_getElem.1 hm
        have := g3 k hk (by omega)
        omega
      rw [hmem]
      repeat' (first | (refine i_op ?_; first | (refine iMv ?_; refine qMv ?_) | (refine iLd ?_; refine qLd ?_) | (refine iFa ?_; refine qFa ?_) | (refine iAd ?_; refine qAd ?_) | (refine iSb ?_; refine qSb ?_) | (refine iMl ?_; refine qMl ?_) | (refine iRm ?_; refine qRm ?_) | (refine iQu ?_; refine qQu ?_) | (refine iSr ?_; refine qSr ?_) | (refine iSh ?_; refine qSh ?_) | (refine iCm ?_; refine qCm ?_) | (refine iEx ?_; refine qEx ?_) | (refine iAs ?_; refine qAs ?_) | (refine iPk ?_; refine qPk ?_) | (refine iNc ?_; refine qNc ?_) | (refine iIa ?_; refine qIa ?_) | (refine iCv ?_; refine qCv ?_) | (refine iBi ?_; refine qBi ?_) | (refine iUn ?_; refine qUn ?_) | (refine iFl ?_; refine qFl ?_) | (refine iLu ?_; refine qLu ?_) | (refine iBu ?_; refine qBu ?_) | (refine iSl ?_; refine qSl ?_) | (refine iMf ?_; refine qMf ?_) | (refine iMi ?_; refine qMi ?_) | (refine iTa ?_; refine qTa ?_) | (refine iSt ?_; refine qSt ?_) | (refine iAl ?_; first | refine qAlA (fun _ => ?_) | refine qAlS (fun _ => ?_)) | (refine iBx ?_; first | refine qBxA (fun _ => ?_) | refine qBxS (fun _ => ?_)) | (refine iMm ?_; refine qMm (fun _ => ?_)) | (refine iBs ?_; refine qBs (fun _ => ?_)) | (refine i_gd ?_; first | refine qWant ?_ | refine qSkip ?_ | refine qSkip0 ?_ | refine qSkipU ?_)) | refine tl_nil ?_ | refine tc_seq ?_ | refine tc_region ?_ | refine te_seq ?_ | (refine i_cond ?_; first | refine qCt ?_ | refine qCf ?_) | refine tc_block ?_ | refine te_block_normal ?_ | refine te_block_ret ?_ | refine te_then_ret ?_ | refine te_block_hit ?_ | (refine i_miss ?_; refine qMiss ?_) | refine te_then_exit ?_ | refine tc_exit ?_ | refine tc_ret ?_ | refine tc_skip ?_)
      exact qE ⟨rfl, rfl, rfl⟩
end Go.Proofs.E

namespace Go.Proofs.E
open Go
set_option linter.unusedVariables false
set_option linter.unusedSimpArgs false
set_option linter.unusedSectionVars false
set_option maxRecDepth 4000
set_option maxHeartbeats 1000000
attribute [local irreducible] Yl TL TC TE Spec YSpec R1 Hp.le EnvLe TS TR YS Stays
theorem ownC_some {b n c : Nat} {xs sp : List Value} {T : TypeId} : ownC (.slice (some ⟨b, 0, none⟩) n c) xs sp T = [(b, .cells ⟨xs ++ sp⟩ T (0, 0))] := rfl
theorem keep_nth {ρ : Hp} {ka : Option Addr} {kn kp : Nat} {ks : List Bool} (h : KeepIn ρ ka kn kp ks) (nth : Nat) : ((min (kn : Int) 60).toNat ≤ nth ∧ keepB (ks.take 60) nth = false) ∨
    ∃ kb off C T fr f, ka = some ⟨kb, off, none⟩ ∧ ρ kb = some (.cells ⟨C⟩ T fr) ∧ nth < (min (kn : Int) 60).toNat ∧ C[off + nth * 1]? = some (.bool f) ∧ keepB (ks.take 60) nth = f := by
  obtain ⟨h1, h2, h3, h4⟩ := h
  by_cases h0 : (min (kn : Int) 60).toNat ≤ nth
  · left
    refine ⟨h0, ?_⟩
    unfold keepB
    rw [List.getElem?_eq_none (by simp; omega)]; rfl
  · right
    obtain ⟨kb, off, C, T, fr, e1, e2, e3⟩ := h4.resolve_left (by omega)
    have hn : nth < ks.length := by omega
    refine ⟨kb, off, C, T, fr, ks[nth], e1, e2, by omega, ?_, ?_⟩
    · have := congrArg (fun l : List Value => l[nth]?) e3
      rw [List.getElem?_take_of_lt (by omega), List.getElem?_drop] at this
      rw [Nat.mul_one, this]; simp [hn, bb]
    · unfold keepB
      rw [List.getElem?_take_of_lt (by omega), List.getElem?_eq_getElem hn, Option.getD_some]
theorem bsearch_zero (ρ : Hp) (a : Option Addr) (cap : Nat) (t : Nat) : Spec Try.prog 33 [.slice a 0 cap, .int .i64 t] ρ [] (fun v ρ' L' => v = .tuple ⟨[.int .i64 (0 : Nat), .bool false]⟩ ∧ ρ' = ρ ∧ L' = []) := by
  refine spec_enter Try.func33 rfl rfl rfl fun u R => ?_
  simp only [argsE, List.cons_append, List.nil_append]
  repeat' (first | (refine i_op ?_; first | (refine iMv ?_; refine qMv ?_) | (refine iLd ?_; refine qLd ?_) | (refine iFa ?_; refine qFa ?_) | (refine iAd ?_; refine qAd ?_) | (refine iSb ?_; refine qSb ?_) | (refine iMl ?_; refine qMl ?_) | (refine iRm ?_; refine qRm ?_) | (refine iQu ?_; refine qQu ?_) | (refine iSr ?_; refine qSr ?_) | (refine iSh ?_; refine qSh ?_) | (refine iCm ?_; refine qCm ?_) | (refine iEx ?_; refine qEx ?_) | (refine iAs ?_; refine qAs ?_) | (refine iPk ?_; refine qPk ?_) | (refine iNc ?_; refine qNc ?_) | (refine iIa ?_; refine qIa ?_) | (refine iCv ?_; refine qCv ?_) | (refine iBi ?_; refine qBi ?_) | (refine iUn ?_; refine qUn ?_) | (refine iFl ?_; refine qFl ?_) | (refine iLu ?_; refine qLu ?_) | (refine iBu ?_; refine qBu ?_) | (refine iSl ?_; refine qSl ?_) | (refine iMf ?_; refine qMf ?_) | (refine iMi ?_; refine qMi ?_) | (refine iTa ?_; refine qTa ?_) | (refine iSt ?_; refine qSt ?_) | (refine iAl ?_; first | refine qAlA (fun _ => ?_) | refine qAlS (fun _ => ?_)) | (refine iBx ?_; first | refine qBxA (fun _ => ?_) | refine qBxS (fun _ => ?_)) | (refine iMm ?_; refine qMm (fun _ => ?_)) | (refine iBs ?_; refine qBs (fun _ => ?_)) | (refine i_gd ?_; first | refine qWant ?_ | refine qSkip ?_ | refine qSkip0 ?_ | refine qSkipU ?_)) | refine tl_nil ?_ | refine tc_seq ?_ | refine tc_region ?_ | refine te_seq ?_ | (refine i_cond ?_; first | refine qCt ?_ | refine qCf ?_) | refine tc_block ?_ | refine te_block_normal ?_ | refine te_block_ret ?_ | refine te_then_ret ?_ | refine te_block_hit ?_ | (refine i_miss ?_; refine qMiss ?_) | refine te_then_exit ?_ | refine tc_exit ?_ | refine tc_ret ?_ | refine tc_skip ?_)
  refine tc_loop_e (fun (y : Unit) => ⟨[(7, .int .i64 (0 : Nat)), (8, .int .i64 (0 : Nat)), (6, .int .i64 (0 : Nat)), (0, .slice a 0 cap), (1, .int .i64 t)], ρ, [] ++ R⟩)
    (fun _ => True) (fun _ => 0) () rfl trivial ev_le rfl tk inferInstance ?_
  rintro ⟨⟩ _
  simp only [List.nil_append]
  repeat' (first | (refine i_op ?_; first | (refine iMv ?_; refine qMv ?_) | (refine iLd ?_; refine qLd ?_) | (refine iFa ?_; refine qFa ?_) | (refine iAd ?_; refine qAd ?_) | (refine iSb ?_; refine qSb ?_) | (refine iMl ?_; refine qMl ?_) | (refine iRm ?_; refine qRm ?_) | (refine iQu ?_; refine qQu ?_) | (refine iSr ?_; refine qSr ?_) | (refine iSh ?_; refine qSh ?_) | (refine iCm ?_; refine qCm ?_) | (refine iEx ?_; refine qEx ?_) | (refine iAs ?_; refine qAs ?_) | (refine iPk ?_; refine qPk ?_) | (refine iNc ?_; refine qNc ?_) | (refine iIa ?_; refine qIa ?_) | (refine iCv ?_; refine qCv ?_) | (refine iBi ?_; refine qBi ?_) | (refine iUn ?_; refine qUn ?_) | (refine iFl ?_; refine qFl ?_) | (refine iLu ?_; refine qLu ?_) | (refine iBu ?_; refine qBu ?_) | (refine iSl ?_; refine qSl ?_) | (refine iMf ?_; refine qMf ?_) | (refine iMi ?_; refine qMi ?_) | (refine iTa ?_; refine qTa ?_) | (refine iSt ?_; refine qSt ?_) | (refine iAl ?_; first | refine qAlA (fun _ => ?_) | refine qAlS (fun _ => ?_)) | (refine iBx ?_; first | refine qBxA (fun _ => ?_) | refine qBxS (fun _ => ?_)) | (refine iMm ?_; refine qMm (fun _ => ?_)) | (refine iBs ?_; refine qBs (fun _ => ?_)) | (refine i_gd ?_; first | refine qWant ?_ | refine qSkip ?_ | refine qSkip0 ?_ | refine qSkipU ?_)) | refine tl_nil ?_ | refine tc_seq ?_ | refine tc_region ?_ | refine te_seq ?_ | (refine i_cond ?_; first | refine qCt ?_ | refine qCf ?_) | refine tc_block ?_ | refine te_block_normal ?_ | refine te_block_ret ?_ | refine te_then_ret ?_ | refine te_block_hit ?_ | (refine i_miss ?_; refine qMiss ?_) | refine te_then_exit ?_ | refine tc_exit ?_ | refine tc_ret ?_ | refine tc_skip ?_)
  exact qE ⟨rfl, rfl, rfl⟩
theorem bsearch_own (ρ : Hp) (a : Option Addr) (P : List Nat) (n cap : Nat) (sp : List Value) (t : Nat) (h : OwnS (.slice a n cap) n (P.map iv) sp 1) (hbig : n ≤ 1000000) (hA : Asc P) (ht : t ≤ 1000000) :
    Spec Try.prog 33 [.slice a n cap, .int .i64 t] ρ [ownC (.slice a n cap) (P.map iv) sp 3]
      (fun v ρ' L' => v = .tuple ⟨[.int .i64 ((P.filter (fun x => decide (x < t))).length : Nat), .bool (decide (t ∈ P))]⟩ ∧ ρ' = ρ ∧ L' = [ownC (.slice a n cap) (P.map iv) sp 3]) := by
  have hn : P.length = n := by
    obtain ⟨_, _, _, hl⟩ := h.len
    simpa using hl
  by_cases h0 : n = 0
  · subst h0
    have hP : P = [] := List.length_eq_zero_iff.1 hn
    subst hP
    refine ((bsearch_zero ρ a cap t).frame [ownC (.slice a 0 cap) [] sp 3]).mono ?_
    rintro v ρ' L' _ ⟨L1, rfl, rfl, rfl, rfl⟩
    exact ⟨rfl, rfl, rfl⟩
  · obtain ⟨b, c, hv⟩ := h.pos (by omega)
    simp only [Value.slice.injEq, true_and] at hv
    obtain ⟨rfl, rfl⟩ := hv
    exact bsearch_spec ρ b P n cap sp 3 (0, 0) t hn hbig hA ht
theorem pend_asc (s : Secs) : Asc (pend s) := by
  unfold Asc pend pendTo
  have hp : ((List.range s.length).filter (isP s)).Pairwise (· < ·) := (List.pairwise_lt_range).filter _
  intro i j h1 h2 hij
  exact List.pairwise_iff_getElem.1 hp i j h1 h2 hij
theorem mem_pend {s : Secs} {i : Nat} (hi : i < s.length) : decide (i ∈ pend s) = isP s i := by
  have : i ∈ pend s ↔ isP s i = true := by
    unfold pend pendTo
    simp [hi]
  cases hp : isP s i with
  | false => simp [this, hp]
  | true => simp [this, hp]
theorem nth_pend {s : Secs} {i : Nat} (hi : i < s.length) : ((pend s).filter (fun x => decide (x < i))).length = (pendTo s i).length := by
  congr 1
  unfold pend pendTo
  rw [List.filter_filter]
  have : ∀ n, i ≤ n → (List.range n).filter (fun a => decide (a < i) && isP s a) = (List.range i).filter (isP s) := by
    intro n hn
    induction n with
    | zero => have : i = 0 := by omega
              subst this; rfl
    | succ n ih =>
      by_cases h : i = n + 1
      · subst h
        apply List.filter_congr
        intro a ha
        have := List.mem_range.1 ha
        simp [this]
      · rw [List.range_succ, List.filter_append, ih (by omega)]
        have : ¬ n < i := by omega
        simp [this]
  exact this _ (by omega)
theorem says_lost {s : Secs} {i : Nat} (hi : i < s.length) (h' : i < (settled (fun _ => false) s).length) : says1 (settled (fun _ => false) s)[i] = s[i].1 := by
  rw [says_settled hi]; simp
theorem says_not {s : Secs} {i : Nat} (hi : i < s.length) (hp : isP s i = false) : says1 s[i] = s[i].1 := by
  unfold isP at hp
  simp only [List.getElem?_eq_getElem hi, Option.bind_some] at hp
  unfold says1
  cases hc : s[i].2 with
  | none => rfl
  | some c => rw [hc] at hp; simp at hp
theorem allB_get {s : Secs} {i : Nat} (h : i < (allB s).length) (hi : i < s.length) : (allB s)[i] = says1 s[i] := by simp [allB]
end Go.Proofs.E

namespace Go.Proofs.E
open Go
set_option linter.unusedVariables false
set_option linter.unusedSimpArgs false
set_option linter.unusedSectionVars false
set_option maxRecDepth 4000
set_option maxHeartbeats 1000000
attribute [local irreducible] Yl TL TC TE Spec YSpec R1 Hp.le EnvLe TS TR YS Stays
theorem choice_spec (ρ : Hp) (k0 : Int) (oa : Option Addr) (n cap : Nat) (ops : List (OpV × List Bool)) (hO : OpsIn ρ oa n ops) (ka : Option Addr) (kn kp : Nat) (ks : List Bool) (hk : KeepIn ρ ka kn kp ks) :
    Spec Try.prog 8 [.int .i64 k0, .slice oa n cap, .slice ka kn kp] ρ [] (fun v ρ' L' => v = .bool true ∧ ρ.le ρ' ∧ L' = []) := by
  refine spec_enter Try.func8 rfl rfl rfl fun u R => ?_
  simp only [argsE, List.cons_append, List.nil_append]
  repeat' (first | (refine tl_is (.func 9) ?_; refine qC rfl rfl (wakes_spec _) ?_; rintro v ρ' L' hle ⟨rfl, hle1, rfl⟩ <;> (try simp only [List.cons_append, List.nil_append, List.append_eq])) | (refine tl_is (.func 10) ?_; refine tl_call rfl rfl (played_spec _ k0 oa n cap ops (hO.mono hle1)) take_nil' rfl ?_; rintro v ρ2 L' hle' ⟨hle2, b, hb, mb, es, ck, rfl, hm, rfl⟩) | (refine i_op ?_; first | (refine iMv ?_; refine qMv ?_) | (refine iLd ?_; refine qLd ?_) | (refine iFa ?_; refine qFa ?_) | (refine iAd ?_; refine qAd ?_) | (refine iSb ?_; refine qSb ?_) | (refine iMl ?_; refine qMl ?_) | (refine iRm ?_; refine qRm ?_) | (refine iQu ?_; refine qQu ?_) | (refine iSr ?_; refine qSr ?_) | (refine iSh ?_; refine qSh ?_) | (refine iCm ?_; refine qCm ?_) | (refine iEx ?_; refine qEx ?_) | (refine iAs ?_; refine qAs ?_) | (refine iPk ?_; refine qPk ?_) | (refine iNc ?_; refine qNc ?_) | (refine iIa ?_; refine qIa ?_) | (refine iCv ?_; refine qCv ?_) | (refine iBi ?_; refine qBi ?_) | (refine iUn ?_; refine qUn ?_) | (refine iFl ?_; refine qFl ?_) | (refine iLu ?_; refine qLu ?_) | (refine iBu ?_; refine qBu ?_) | (refine iSl ?_; refine qSl ?_) | (refine iMf ?_; refine qMf ?_) | (refine iMi ?_; refine qMi ?_) | (refine iTa ?_; refine qTa ?_) | (refine iSt ?_; refine qSt ?_) | (refine iAl ?_; first | refine qAlA (fun _ => ?_) | refine qAlS (fun _ => ?_)) | (refine iBx ?_; first | refine qBxA (fun _ => ?_) | refine qBxS (fun _ => ?_)) | (refine iMm ?_; refine qMm (fun _ => ?_)) | (refine iBs ?_; refine qBs (fun _ => ?_)) | (refine i_gd ?_; first | refine qWant ?_ | refine qSkip ?_ | refine qSkip0 ?_ | refine qSkipU ?_)) | refine tl_nil ?_ | refine tc_seq ?_ | refine tc_region ?_ | refine te_seq ?_ | (refine i_cond ?_; first | refine qCt ?_ | refine qCf ?_) | refine tc_block ?_ | refine te_block_normal ?_ | refine te_block_ret ?_ | refine te_then_ret ?_ | refine te_block_hit ?_ | (refine i_miss ?_; refine qMiss ?_) | refine te_then_exit ?_ | refine tc_exit ?_ | refine tc_ret ?_ | refine tc_skip ?_)
  have hcalm : (playTo ops (DS.new (sizeN k0)) n).Calm := playTo_calm new_calm
  have hok : (playTo ops (DS.new (sizeN k0)) n).Ok := playTo_ok (new_okD sizeN_pos (Nat.le_trans sizeN_le (by decide)))
  generalize playTo ops (DS.new (sizeN k0)) n = D at *
  obtain ⟨s, o0, a0, f0, d0⟩ := D
  obtain ⟨c1, c2, c3⟩ := hcalm
  dsimp only at c1 c2 c3
  subst c1; subst c2; subst c3
  have hs : SecsOk s := hok.secs
  replace hm : MapOk s es := hm
  have hsl := hs.len
  have hsp := hs.pos
  have hpl := pend_length hs
  have hkle := hk.le
  have hmn : (min (kn : Int) 60).toNat = min kn 60 := by omega
  have hal := allB_len hs
  have hall : (allB s).length = s.length := by simp [allB]
  repeat' (first | (refine tl_is (.func 23) ?_; refine qC rfl rfl (copy_spec _ _ _ _ _ _ _ hok) ?_; rintro v ρ' L' hle ⟨rfl, bc, hbc, mbc, rfl, rfl⟩ <;> (try simp only [List.cons_append, List.nil_append, List.append_eq])) | (refine tl_is (.func 17) ?_; refine qC rfl rfl (pendingM_spec _ b hb mb es ck _ (DS.Ok.mk' hs) hm) ?_; rintro v ρ3 L' hle3' ⟨hle3, sp, hown, rfl⟩; obtain ⟨pa, pc, rfl, hvl⟩ := hown.len; simp only [diskL, List.cons_append, List.nil_append, List.append_eq, List.append_assoc]) | (refine tl_is (.func 24) ?_; refine qC rfl rfl (all_spec _ b hb mb es ck _ (DS.Ok.mk' hs) DS.Calm.mk' hm) ?_; rintro v ρ' L' hle ⟨rfl, r1, sp1, rfl, hw1, rfl⟩; obtain ⟨q1, c1, rfl⟩ := hw1.pos hsp; simp only [ownC_some, diskL, List.cons_append, List.nil_append, List.append_eq, List.append_assoc]) | (refine i_op ?_; first | (refine iMv ?_; refine qMv ?_) | (refine iLd ?_; refine qLd ?_) | (refine iFa ?_; refine qFa ?_) | (refine iAd ?_; refine qAd ?_) | (refine iSb ?_; refine qSb ?_) | (refine iMl ?_; refine qMl ?_) | (refine iRm ?_; refine qRm ?_) | (refine iQu ?_; refine qQu ?_) | (refine iSr ?_; refine qSr ?_) | (refine iSh ?_; refine qSh ?_) | (refine iCm ?_; refine qCm ?_) | (refine iEx ?_; refine qEx ?_) | (refine iAs ?_; refine qAs ?_) | (refine iPk ?_; refine qPk ?_) | (refine iNc ?_; refine qNc ?_) | (refine iIa ?_; refine qIa ?_) | (refine iCv ?_; refine qCv ?_) | (refine iBi ?_; refine qBi ?_) | (refine iUn ?_; refine qUn ?_) | (refine iFl ?_; refine qFl ?_) | (refine iLu ?_; refine qLu ?_) | (refine iBu ?_; refine qBu ?_) | (refine iSl ?_; refine qSl ?_) | (refine iMf ?_; refine qMf ?_) | (refine iMi ?_; refine qMi ?_) | (refine iTa ?_; refine qTa ?_) | (refine iSt ?_; refine qSt ?_) | (refine iAl ?_; first | refine qAlA (fun _ => ?_) | refine qAlS (fun _ => ?_)) | (refine iBx ?_; first | refine qBxA (fun _ => ?_) | refine qBxS (fun _ => ?_)) | (refine iMm ?_; refine qMm (fun _ => ?_)) | (refine iBs ?_; refine qBs (fun _ => ?_)) | (refine i_gd ?_; first | refine qWant ?_ | refine qSkip ?_ | refine qSkip0 ?_ | refine qSkipU ?_)) | refine tl_nil ?_ | refine tc_seq ?_ | refine tc_region ?_ | refine te_seq ?_ | (refine i_cond ?_; first | refine qCt ?_ | refine qCf ?_) | refine tc_block ?_ | refine te_block_normal ?_ | refine te_block_ret ?_ | refine te_then_ret ?_ | refine te_block_hit ?_ | (refine i_miss ?_; refine qMiss ?_) | refine te_then_exit ?_ | refine tc_exit ?_ | refine tc_ret ?_ | refine tc_skip ?_)
  have hcn := fun ρ => crash_spec ρ bc hbc mbc es ck ⟨s, o0, -1, -1, false⟩ hok hm none 0 0 [] (fun _ => false) (fun bk nth _ => crash1_over ρ bk nth none 0 0 [] (by omega))
  simp only [List.append_nil, DS.crash] at hcn
  have hS0 : SecsOk (settled (fun _ => false) s) := hs.settled
  have hSk : SecsOk (settled (keepB (ks.take 60)) s) := hs.settled
  have hk3 := hk.mono (Hp.le_trans hle1 (Hp.le_trans hle2 hle3))
  have hcd := fun ρ hk' => crash_in ρ b hb mb es ck _ (DS.Ok.mk' (o := o0) hs) hm ka kn kp _ ks hk' hmn
  simp only [DS.crash] at hcd
  dsimp only at hown hw1 hvl
  repeat' (first | (refine tl_is (.func 18) ?_; refine qC rfl rfl (hcn _) ?_; rintro v ρ' L' hle ⟨rfl, hle4, mb4, ck4, rfl⟩ <;> (try simp only [List.cons_append, List.nil_append, List.append_eq])) | (refine tl_is (.func 18) ?_; refine qC rfl rfl (hcd _ (hk3.mono hle4)) ?_; rintro v ρ' L' hle ⟨rfl, hle5, mb5, ck5, rfl⟩ <;> (try simp only [List.cons_append, List.nil_append, List.append_eq])) | (refine tl_is (.func 24) ?_; refine qC rfl rfl (all_spec _ bc hbc mb4 [] ck4 _ (DS.Ok.mk' hS0) DS.Calm.mk' (MapOk.empty emptyC_settled)) ?_; rintro v ρ' L' hle ⟨rfl, r2, sp2, rfl, hw2, rfl⟩; obtain ⟨q2, c2, rfl⟩ := hw2.pos hS0.pos; simp only [ownC_some, diskL, List.cons_append, List.nil_append, List.append_eq, List.append_assoc]) | (refine tl_is (.func 24) ?_; refine qC rfl rfl (all_spec _ b hb mb5 [] ck5 _ (DS.Ok.mk' hSk) DS.Calm.mk' (MapOk.empty emptyC_settled)) ?_; rintro v ρ' L' hle ⟨rfl, r3, sp3, rfl, hw3, rfl⟩; obtain ⟨q3, c3, rfl⟩ := hw3.pos hSk.pos; simp only [ownC_some, diskL, List.cons_append, List.nil_append, List.append_eq, List.append_assoc]) | (refine i_op ?_; first | (refine iMv ?_; refine qMv ?_) | (refine iLd ?_; refine qLd ?_) | (refine iFa ?_; refine qFa ?_) | (refine iAd ?_; refine qAd ?_) | (refine iSb ?_; refine qSb ?_) | (refine iMl ?_; refine qMl ?_) | (refine iRm ?_; refine qRm ?_) | (refine iQu ?_; refine qQu ?_) | (refine iSr ?_; refine qSr ?_) | (refine iSh ?_; refine qSh ?_) | (refine iCm ?_; refine qCm ?_) | (refine iEx ?_; refine qEx ?_) | (refine iAs ?_; refine qAs ?_) | (refine iPk ?_; refine qPk ?_) | (refine iNc ?_; refine qNc ?_) | (refine iIa ?_; refine qIa ?_) | (refine iCv ?_; refine qCv ?_) | (refine iBi ?_; refine qBi ?_) | (refine iUn ?_; refine qUn ?_) | (refine iFl ?_; refine qFl ?_) | (refine iLu ?_; refine qLu ?_) | (refine iBu ?_; refine qBu ?_) | (refine iSl ?_; refine qSl ?_) | (refine iMf ?_; refine qMf ?_) | (refine iMi ?_; refine qMi ?_) | (refine iTa ?_; refine qTa ?_) | (refine iSt ?_; refine qSt ?_) | (refine iAl ?_; first | refine qAlA (fun _ => ?_) | refine qAlS (fun _ => ?_)) | (refine iBx ?_; first | refine qBxA (fun _ => ?_) | refine qBxS (fun _ => ?_)) | (refine iMm ?_; refine qMm (fun _ => ?_)) | (refine iBs ?_; refine qBs (fun _ => ?_)) | (refine i_gd ?_; first | refine qWant ?_ | refine qSkip ?_ | refine qSkip0 ?_ | refine qSkipU ?_)) | refine tl_nil ?_ | refine tc_seq ?_ | refine tc_region ?_ | refine te_seq ?_ | (refine i_cond ?_; first | refine qCt ?_ | refine qCf ?_) | refine tc_block ?_ | refine te_block_normal ?_ | refine te_block_ret ?_ | refine te_then_ret ?_ | refine te_block_hit ?_ | (refine i_miss ?_; refine qMiss ?_) | refine te_then_exit ?_ | refine tc_exit ?_ | refine tc_ret ?_ | refine tc_skip ?_)
  dsimp only at hw2 hw3
  have hl0 : (allB (settled (fun _ => false) s)).length = s.length := by simp [allB, settled_length]
  have hlk : (allB (settled (keepB (ks.take 60)) s)).length = s.length := by simp [allB, settled_length]
  have hal0 := allB_len hS0
  have halk := allB_len hSk
  have hkf := hk3.mono (Hp.le_trans hle4 hle5)
  have hfin := Hp.le_trans hle1 (Hp.le_trans hle2 (Hp.le_trans hle3 (Hp.le_trans hle4 hle5)))
  have hsk1 : (settled (keepB (ks.take 60)) s).length = s.length := settled_length
  have hs01 : (settled (fun _ => false) s).length = s.length := settled_length
  have m1 : (blkC (allB s) ++ sp1).length = s.length * 64 + sp1.length := by rw [List.length_append, blkC_length hal, hall]
  have m2 : (blkC (allB (settled (fun _ => false) s)) ++ sp2).length = s.length * 64 + sp2.length := by rw [List.length_append, blkC_length hal0, hl0]
  have m3 : (blkC (allB (settled (keepB (ks.take 60)) s)) ++ sp3).length = s.length * 64 + sp3.length := by rw [List.length_append, blkC_length halk, hlk]
  have hat2 : ∀ k (h : k < s.length) (h' : k < (settled (fun _ => false) s).length), says1 (settled (fun _ => false) s)[k] = s[k].1 := fun k h h' => says_lost h h'
  have hat3 : ∀ k (h : k < s.length) (h' : k < (settled (keepB (ks.take 60)) s).length), says1 (settled (keepB (ks.take 60)) s)[k] = if isP s k && keepB (ks.take 60) (pendTo s k).length then says1 s[k] else s[k].1 := fun k h h' => says_settled h h'
  have hek : emptyC (settled (keepB (ks.take 60)) s) := emptyC_settled
  clear hcn hcd
  have hkn := keep_nth hkf
  generalize (min (kn : Int) 60).toNat = mk at *
  clear hmn hkle hkf hk3 hk
  generalize settled (fun _ => false) s = S0 at *
  generalize settled (keepB (ks.take 60)) s = Sk at *
  refine tc_loop_e (fun (k : Nat) => ⟨[(74, .int .i64 k), (73, .int .i64 Sk.length), (7, .pointer (some ⟨b, 0, none⟩)), (10, .slice pa (pend s).length pc), (11, .slice (some ⟨q1, 0, none⟩) s.length c1), (12, .slice (some ⟨q2, 0, none⟩) S0.length c2), (13, .slice (some ⟨q3, 0, none⟩) Sk.length c3), (2, .slice ka mk kp)], _,
      ([[(q1, .cells ⟨blkC (allB s) ++ sp1⟩ 34 (0, 0))], [(q2, .cells ⟨blkC (allB S0) ++ sp2⟩ 34 (0, 0))], [(q3, .cells ⟨blkC (allB Sk) ++ sp3⟩ 34 (0, 0))], ownC (.slice pa (pend s).length pc) ((pend s).map iv) sp 3] ++ diskL b hb mb5 [] ck5 ⟨Sk, o0, -1, -1, false⟩) ++ R⟩)
    (fun k => k ≤ s.length) (fun k => s.length - k) 0 rfl (by omega) ev_le rfl tk inferInstance ?_
  intro k h1
  simp only [List.cons_append, List.nil_append, List.append_assoc]
  by_cases hlt : k < s.length
  · have hbs := fun ρ => bsearch_own ρ pa (pend s) (pend s).length pc sp k hown (by omega) (pend_asc s) (by omega)
    have hk0 : k < S0.length := by omega
    have hkk : k < Sk.length := by omega
    have e1 := blkC_get (l := allB s) (i := k) sp1 hal (by omega)
    have e2 := blkC_get (l := allB S0) (i := k) sp2 hal0 (by omega)
    have e3 := blkC_get (l := allB Sk) (i := k) sp3 halk (by omega)
    rw [allB_get _ hlt] at e1
    rw [allB_get _ hk0, hat2 k hlt] at e2
    rw [allB_get _ hkk, hat3 k hlt] at e3
    have n1 := says_len hs hlt
    have n2 := hs.held s[k] (List.getElem_mem hlt)
    have n1' : ((says1 s[k]).map u8c).length = 64 := by simpa using n1
    have n2' : (s[k].1.map u8c).length = 64 := by simpa using n2
    have o1 := u8c_one (says1 s[k])
    have o2 := u8c_one s[k].1
    simp only [nth_pend hlt, mem_pend hlt] at hbs
    generalize blkC (allB s) ++ sp1 = X1 at *
    generalize blkC (allB S0) ++ sp2 = X2 at *
    generalize blkC (allB Sk) ++ sp3 = X3 at *
    generalize hQ : pend s = Q at *
    clear hw1 hw2 hw3 hat2 hat3
    have hplt : (pendTo s k).length ≤ k := pendTo_length s k
    generalize (pendTo s k).length = nth at *
    have hcase : (isP s k = true ∧ mk ≤ nth ∧ keepB (ks.take 60) nth = false) ∨ (isP s k = true ∧ ∃ kb off C T fr f, ka = some ⟨kb, off, none⟩ ∧ ρ' kb = some (.cells ⟨C⟩ T fr) ∧ nth < mk ∧ C[off + nth * 1]? = some (.bool f) ∧ keepB (ks.take 60) nth = f) ∨ (isP s k = false ∧ says1 s[k] = s[k].1) := by
      cases hp : isP s k with
      | false => exact .inr (.inr ⟨rfl, says_not hlt hp⟩)
      | true =>
        rcases hkn nth with h | h
        · exact .inl ⟨rfl, h⟩
        · exact .inr (.inl ⟨rfl, h⟩)
    rcases hcase with ⟨hp, hg, hkb⟩ | ⟨hp, kb, off, C, T, fr, f, rfl, hC, hg, hld, hkb⟩ | ⟨hp, hsame⟩
    all_goals try cases f
    all_goals rw [hp] at hbs e3
    all_goals first | rw [hkb] at e3 | skip
    all_goals simp only [Bool.true_and, Bool.false_and, Bool.false_eq_true, if_true, if_false] at e3
    all_goals first | rw [hsame] at e1 n1 n1' o1 | skip
    all_goals (repeat' (first | (refine tl_is (.func 33) ?_; refine qC rfl rfl (hbs _) ?_; rintro v ρ' L' hle ⟨rfl, rfl, rfl⟩ <;> (try simp only [List.cons_append, List.nil_append, List.append_eq])) | (refine i_op ?_; first | (refine iMv ?_; refine qMv ?_) | (refine iLd ?_; refine qLd ?_) | (refine iFa ?_; refine qFa ?_) | (refine iAd ?_; refine qAd ?_) | (refine iSb ?_; refine qSb ?_) | (refine iMl ?_; refine qMl ?_) | (refine iRm ?_; refine qRm ?_) | (refine iQu ?_; refine qQu ?_) | (refine iSr ?_; refine qSr ?_) | (refine iSh ?_; refine qSh ?_) | (refine iCm ?_; refine qCm ?_) | (refine iEx ?_; refine qEx ?_) | (refine iAs ?_; refine qAs ?_) | (refine iPk ?_; refine qPk ?_) | (refine iNc ?_; refine qNc ?_) | (refine iIa ?_; refine qIa ?_) | (refine iCv ?_; refine qCv ?_) | (refine iBi ?_; refine qBi ?_) | (refine iUn ?_; refine qUn ?_) | (refine iFl ?_; refine qFl ?_) | (refine iLu ?_; refine qLu ?_) | (refine iBu ?_; refine qBu ?_) | (refine iSl ?_; refine qSl ?_) | (refine iMf ?_; refine qMf ?_) | (refine iMi ?_; refine qMi ?_) | (refine iTa ?_; refine qTa ?_) | (refine iSt ?_; refine qSt ?_) | (refine iAl ?_; first | refine qAlA (fun _ => ?_) | refine qAlS (fun _ => ?_)) | (refine iBx ?_; first | refine qBxA (fun _ => ?_) | refine qBxS (fun _ => ?_)) | (refine iMm ?_; refine qMm (fun _ => ?_)) | (refine iBs ?_; refine qBs (fun _ => ?_)) | (refine i_gd ?_; first | refine qWant ?_ | refine qSkip ?_ | refine qSkip0 ?_ | refine qSkipU ?_)) | refine tl_nil ?_ | refine tc_seq ?_ | refine tc_region ?_ | refine te_seq ?_ | (refine i_cond ?_; first | refine qCt ?_ | refine qCf ?_) | refine tc_block ?_ | refine te_block_normal ?_ | refine te_block_ret ?_ | refine te_then_ret ?_ | refine te_block_hit ?_ | (refine i_miss ?_; refine qMiss ?_) | refine te_then_exit ?_ | refine tc_exit ?_ | refine tc_ret ?_ | refine tc_skip ?_))
    all_goals refine tc_any (Stays _ _ _) stays_refl ?_
    all_goals refine rMv 0 ?_
    all_goals refine rFull ?_
    all_goals refine rMv 1 ?_
    all_goals refine rIa 2 ?_
    all_goals refine rLd 3 ?_
    all_goals refine rLd 4 ?_
    all_goals (first | refine rAd 5 ?_ | refine rSb 5 ?_ | refine rMl 5 ?_ | refine rRm 5 ?_ | refine rQu 5 ?_ | refine rSr 5 ?_ | refine rSh 5 ?_ | refine rCm 5 ?_)
    all_goals refine rMv 6 ?_
    all_goals (first | refine wSkip 7 ?_ | refine wSkipU 7 ?_ | refine wMv 7 ?_ | (refine tr_guard (t := 110) rfl (fun hb => ?_) (fun hb => ?_) <;> (try simp only [decide_eq_true_eq, decide_eq_false_iff_not, Bool.not_eq_true, Bool.not_eq_false, beq_iff_eq, bne_iff_ne, ne_eq, Bool.not_eq_eq_eq_not, Bool.not_true, Bool.not_false, beq_eq_false_iff_ne, bne_eq_false_iff_eq] at hb) <;> first | refine wSkip 7 ?_ | refine wSkipU 7 ?_ | refine wMv 7 ?_))
    all_goals (first | refine wSkip 8 ?_ | refine wSkipU 8 ?_ | refine wUn 8 ?_ | (refine tr_guard (t := 110) rfl (fun hb => ?_) (fun hb => ?_) <;> (try simp only [decide_eq_true_eq, decide_eq_false_iff_not, Bool.not_eq_true, Bool.not_eq_false, beq_iff_eq, bne_iff_ne, ne_eq, Bool.not_eq_eq_eq_not, Bool.not_true, Bool.not_false, beq_eq_false_iff_ne, bne_eq_false_iff_eq] at hb) <;> first | refine wSkip 8 ?_ | refine wSkipU 8 ?_ | refine wUn 8 ?_))
    all_goals (first | refine wSkip 9 ?_ | refine wSkipU 9 ?_ | refine wMv 9 ?_ | (refine tr_guard (t := 110) rfl (fun hb => ?_) (fun hb => ?_) <;> (try simp only [decide_eq_true_eq, decide_eq_false_iff_not, Bool.not_eq_true, Bool.not_eq_false, beq_iff_eq, bne_iff_ne, ne_eq, Bool.not_eq_eq_eq_not, Bool.not_true, Bool.not_false, beq_eq_false_iff_ne, bne_eq_false_iff_eq] at hb) <;> first | refine wSkip 9 ?_ | refine wSkipU 9 ?_ | refine wMv 9 ?_))
    all_goals (first | refine wSkip 10 ?_ | refine wSkipU 10 ?_ | refine wMv 10 ?_ | (refine tr_guard (t := 113) rfl (fun hb => ?_) (fun hb => ?_) <;> (try simp only [decide_eq_true_eq, decide_eq_false_iff_not, Bool.not_eq_true, Bool.not_eq_false, beq_iff_eq, bne_iff_ne, ne_eq, Bool.not_eq_eq_eq_not, Bool.not_true, Bool.not_false, beq_eq_false_iff_ne, bne_eq_false_iff_eq] at hb) <;> first | refine wSkip 10 ?_ | refine wSkipU 10 ?_ | refine wMv 10 ?_))
    all_goals (first | refine wSkip 11 ?_ | refine wSkipU 11 ?_ | refine wMv 11 ?_ | (refine tr_guard (t := 113) rfl (fun hb => ?_) (fun hb => ?_) <;> (try simp only [decide_eq_true_eq, decide_eq_false_iff_not, Bool.not_eq_true, Bool.not_eq_false, beq_iff_eq, bne_iff_ne, ne_eq, Bool.not_eq_eq_eq_not, Bool.not_true, Bool.not_false, beq_eq_false_iff_ne, bne_eq_false_iff_eq] at hb) <;> first | refine wSkip 11 ?_ | refine wSkipU 11 ?_ | refine wMv 11 ?_))
    all_goals (first | refine wSkip 12 ?_ | refine wSkipU 12 ?_ | refine wIa 12 ?_ | (refine tr_guard (t := 113) rfl (fun hb => ?_) (fun hb => ?_) <;> (try simp only [decide_eq_true_eq, decide_eq_false_iff_not, Bool.not_eq_true, Bool.not_eq_false, beq_iff_eq, bne_iff_ne, ne_eq, Bool.not_eq_eq_eq_not, Bool.not_true, Bool.not_false, beq_eq_false_iff_ne, bne_eq_false_iff_eq] at hb) <;> first | refine wSkip 12 ?_ | refine wSkipU 12 ?_ | refine wIa 12 ?_))
    all_goals (first | refine wSkip 13 ?_ | refine wSkipU 13 ?_ | refine wLd 13 ?_ | (refine tr_guard (t := 113) rfl (fun hb => ?_) (fun hb => ?_) <;> (try simp only [decide_eq_true_eq, decide_eq_false_iff_not, Bool.not_eq_true, Bool.not_eq_false, beq_iff_eq, bne_iff_ne, ne_eq, Bool.not_eq_eq_eq_not, Bool.not_true, Bool.not_false, beq_eq_false_iff_ne, bne_eq_false_iff_eq] at hb) <;> first | refine wSkip 13 ?_ | refine wSkipU 13 ?_ | refine wLd 13 ?_))
    all_goals (first | refine wSkip 14 ?_ | refine wSkipU 14 ?_ | refine wMv 14 ?_ | (refine tr_guard (t := 113) rfl (fun hb => ?_) (fun hb => ?_) <;> (try simp only [decide_eq_true_eq, decide_eq_false_iff_not, Bool.not_eq_true, Bool.not_eq_false, beq_iff_eq, bne_iff_ne, ne_eq, Bool.not_eq_eq_eq_not, Bool.not_true, Bool.not_false, beq_eq_false_iff_ne, bne_eq_false_iff_eq] at hb) <;> first | refine wSkip 14 ?_ | refine wSkipU 14 ?_ | refine wMv 14 ?_))
    all_goals (first | refine wSkip 15 ?_ | refine wSkipU 15 ?_ | refine wMv 15 ?_ | (refine tr_guard (t := 113) rfl (fun hb => ?_) (fun hb => ?_) <;> (try simp only [decide_eq_true_eq, decide_eq_false_iff_not, Bool.not_eq_true, Bool.not_eq_false, beq_iff_eq, bne_iff_ne, ne_eq, Bool.not_eq_eq_eq_not, Bool.not_true, Bool.not_false, beq_eq_false_iff_ne, bne_eq_false_iff_eq] at hb) <;> first | refine wSkip 15 ?_ | refine wSkipU 15 ?_ | refine wMv 15 ?_))
    all_goals (first | refine wSkip 16 ?_ | refine wSkipU 16 ?_ | refine wIa 16 ?_ | (refine tr_guard (t := 113) rfl (fun hb => ?_) (fun hb => ?_) <;> (try simp only [decide_eq_true_eq, decide_eq_false_iff_not, Bool.not_eq_true, Bool.not_eq_false, beq_iff_eq, bne_iff_ne, ne_eq, Bool.not_eq_eq_eq_not, Bool.not_true, Bool.not_false, beq_eq_false_iff_ne, bne_eq_false_iff_eq] at hb) <;> first | refine wSkip 16 ?_ | refine wSkipU 16 ?_ | refine wIa 16 ?_))
    all_goals (first | refine wSkip 17 ?_ | refine wSkipU 17 ?_ | refine wLd 17 ?_ | (refine tr_guard (t := 113) rfl (fun hb => ?_) (fun hb => ?_) <;> (try simp only [decide_eq_true_eq, decide_eq_false_iff_not, Bool.not_eq_true, Bool.not_eq_false, beq_iff_eq, bne_iff_ne, ne_eq, Bool.not_eq_eq_eq_not, Bool.not_true, Bool.not_false, beq_eq_false_iff_ne, bne_eq_false_iff_eq] at hb) <;> first | refine wSkip 17 ?_ | refine wSkipU 17 ?_ | refine wLd 17 ?_))
    all_goals (first | refine wSkip 18 ?_ | refine wSkipU 18 ?_ | refine wAd 18 ?_ | refine wSb 18 ?_ | refine wMl 18 ?_ | refine wRm 18 ?_ | refine wQu 18 ?_ | refine wSr 18 ?_ | refine wSh 18 ?_ | refine wCm 18 ?_ | (refine tr_guard (t := 113) rfl (fun hb => ?_) (fun hb => ?_) <;> (try simp only [decide_eq_true_eq, decide_eq_false_iff_not, Bool.not_eq_true, Bool.not_eq_false, beq_iff_eq, bne_iff_ne, ne_eq, Bool.not_eq_eq_eq_not, Bool.not_true, Bool.not_false, beq_eq_false_iff_ne, bne_eq_false_iff_eq] at hb) <;> first | refine wSkip 18 ?_ | refine wSkipU 18 ?_ | refine wAd 18 ?_ | refine wSb 18 ?_ | refine wMl 18 ?_ | refine wRm 18 ?_ | refine wQu 18 ?_ | refine wSr 18 ?_ | refine wSh 18 ?_ | refine wCm 18 ?_))
    all_goals (first | refine wSkip 19 ?_ | refine wSkipU 19 ?_ | refine wPk 19 ?_ | (refine tr_guard (t := 110) rfl (fun hb => ?_) (fun hb => ?_) <;> (try simp only [decide_eq_true_eq, decide_eq_false_iff_not, Bool.not_eq_true, Bool.not_eq_false, beq_iff_eq, bne_iff_ne, ne_eq, Bool.not_eq_eq_eq_not, Bool.not_true, Bool.not_false, beq_eq_false_iff_ne, bne_eq_false_iff_eq] at hb) <;> first | refine wSkip 19 ?_ | refine wSkipU 19 ?_ | refine wPk 19 ?_))
    all_goals refine rPk 20 ?_
    all_goals refine rDone ?_
    all_goals (repeat' (first | (refine i_op ?_; first | (refine iMv ?_; refine qMv ?_) | (refine iLd ?_; refine qLd ?_) | (refine iFa ?_; refine qFa ?_) | (refine iAd ?_; refine qAd ?_) | (refine iSb ?_; refine qSb ?_) | (refine iMl ?_; refine qMl ?_) | (refine iRm ?_; refine qRm ?_) | (refine iQu ?_; refine qQu ?_) | (refine iSr ?_; refine qSr ?_) | (refine iSh ?_; refine qSh ?_) | (refine iCm ?_; refine qCm ?_) | (refine iEx ?_; refine qEx ?_) | (refine iAs ?_; refine qAs ?_) | (refine iPk ?_; refine qPk ?_) | (refine iNc ?_; refine qNc ?_) | (refine iIa ?_; refine qIa ?_) | (refine iCv ?_; refine qCv ?_) | (refine iBi ?_; refine qBi ?_) | (refine iUn ?_; refine qUn ?_) | (refine iFl ?_; refine qFl ?_) | (refine iLu ?_; refine qLu ?_) | (refine iBu ?_; refine qBu ?_) | (refine iSl ?_; refine qSl ?_) | (refine iMf ?_; refine qMf ?_) | (refine iMi ?_; refine qMi ?_) | (refine iTa ?_; refine qTa ?_) | (refine iSt ?_; refine qSt ?_) | (refine iAl ?_; first | refine qAlA (fun _ => ?_) | refine qAlS (fun _ => ?_)) | (refine iBx ?_; first | refine qBxA (fun _ => ?_) | refine qBxS (fun _ => ?_)) | (refine iMm ?_; refine qMm (fun _ => ?_)) | (refine iBs ?_; refine qBs (fun _ => ?_)) | (refine i_gd ?_; first | refine qWant ?_ | refine qSkip ?_ | refine qSkip0 ?_ | refine qSkipU ?_)) | refine tl_nil ?_ | refine tc_seq ?_ | refine tc_region ?_ | refine te_seq ?_ | (refine i_cond ?_; first | refine qCt ?_ | refine qCf ?_) | refine tc_block ?_ | refine te_block_normal ?_ | refine te_block_ret ?_ | refine te_then_ret ?_ | refine te_block_hit ?_ | (refine i_miss ?_; refine qMiss ?_) | refine te_then_exit ?_ | refine tc_exit ?_ | refine tc_ret ?_ | refine tc_skip ?_))
    all_goals refine te_round_e (Lm := [[(q1, .cells ⟨X1⟩ 34 (0, 0))], [(q2, .cells ⟨X2⟩ 34 (0, 0))], [(q3, .cells ⟨X3⟩ 34 (0, 0))], ownC (.slice pa Q.length pc) (Q.map iv) sp 3] ++ diskL b hb mb5 [] ck5 ⟨Sk, o0, -1, -1, false⟩) (R := R) (k + 1) rfl (by omega) ev_le rfl tk inferInstance (by omega)
  · have hk2 : k = s.length := by omega
    subst hk2
    repeat' (first | (refine tl_is (.func 17) ?_; refine qC rfl rfl (pendingM_spec _ b hb mb5 [] ck5 _ (DS.Ok.mk' hSk) (MapOk.empty hek)) ?_; rintro v ρ9 L' hle9' ⟨hle9, sp9, hown9, rfl⟩; simp only [pend_empty hek] at hown9 ⊢; obtain ⟨a9, c9, rfl, hv9⟩ := hown9.len; simp only [List.length_nil, diskL, List.cons_append, List.nil_append, List.append_eq, List.append_assoc]) | (refine i_op ?_; first | (refine iMv ?_; refine qMv ?_) | (refine iLd ?_; refine qLd ?_) | (refine iFa ?_; refine qFa ?_) | (refine iAd ?_; refine qAd ?_) | (refine iSb ?_; refine qSb ?_) | (refine iMl ?_; refine qMl ?_) | (refine iRm ?_; refine qRm ?_) | (refine iQu ?_; refine qQu ?_) | (refine iSr ?_; refine qSr ?_) | (refine iSh ?_; refine qSh ?_) | (refine iCm ?_; refine qCm ?_) | (refine iEx ?_; refine qEx ?_) | (refine iAs ?_; refine qAs ?_) | (refine iPk ?_; refine qPk ?_) | (refine iNc ?_; refine qNc ?_) | (refine iIa ?_; refine qIa ?_) | (refine iCv ?_; refine qCv ?_) | (refine iBi ?_; refine qBi ?_) | (refine iUn ?_; refine qUn ?_) | (refine iFl ?_; refine qFl ?_) | (refine iLu ?_; refine qLu ?_) | (refine iBu ?_; refine qBu ?_) | (refine iSl ?_; refine qSl ?_) | (refine iMf ?_; refine qMf ?_) | (refine iMi ?_; refine qMi ?_) | (refine iTa ?_; refine qTa ?_) | (refine iSt ?_; refine qSt ?_) | (refine iAl ?_; first | refine qAlA (fun _ => ?_) | refine qAlS (fun _ => ?_)) | (refine iBx ?_; first | refine qBxA (fun _ => ?_) | refine qBxS (fun _ => ?_)) | (refine iMm ?_; refine qMm (fun _ => ?_)) | (refine iBs ?_; refine qBs (fun _ => ?_)) | (refine i_gd ?_; first | refine qWant ?_ | refine qSkip ?_ | refine qSkip0 ?_ | refine qSkipU ?_)) | refine tl_nil ?_ | refine tc_seq ?_ | refine tc_region ?_ | refine te_seq ?_ | (refine i_cond ?_; first | refine qCt ?_ | refine qCf ?_) | refine tc_block ?_ | refine te_block_normal ?_ | refine te_block_ret ?_ | refine te_then_ret ?_ | refine te_block_hit ?_ | (refine i_miss ?_; refine qMiss ?_) | refine te_then_exit ?_ | refine tc_exit ?_ | refine tc_ret ?_ | refine tc_skip ?_)
    have hf9 := Hp.le_trans hfin hle9
    exact te_end rfl rfl rfl (res1 rfl (r1_tmp rfl)) hf9 take_nil' (by infer_instance) ⟨rfl, hf9, rfl⟩
end Go.Proofs.E

namespace Go.Proofs.Ythbgnmilbgecfaa.DiskChoiceLaw
open Go Go.ChangeShapes Go.WideShapes Go.ChangeAt Go.RowKit Go.Proofs.E
set_option linter.unusedVariables false

theorem own : ownKnob Try.prog.godebug = none := by kernel_rfl
theorem laidOut : laidOutB Try.prog = true := by kernel_rfl

set_option maxRecDepth 100000 in
theorem lifted (os : Os) (started : os.Started) (H : Type) (enc : TypeId × Value → H) :
    ReturnsInHanded {} Try.checked os 8 .any (Rows.diskChoiceSpec.pre6 enc Try.prog Try.f8 Rows.diskChoiceRow.domain false) (Rows.diskChoiceSpec.post enc Try.prog Try.f8 false true false false) := by
  refine returnsInHanded_of_change_sized (C := Try.checked) own started (by kernel_rfl) Try.func8
    (ChangeSpec.witness6 (enc := enc) (C := Try.checked) false ⟨#[], #[.int .i64 0, .slice none 0 0, .slice none 0 0], []⟩ 8 (by kernel_rfl) (by kernel_rfl) (by kernel_rfl) (by kernel_rfl)) ?_
  intro W base args ds gs before hval0 hW hcnd hsz0 _
  have hval : ∀ (j : Nat) t v, Try.f8.params[j]? = some t → args[j]? = some v → Value.okWide Try.prog W .any base t v := hval0
  have hW' := hW
  obtain ⟨p, q, hA0, hV, rfl, hfz, hnd⟩ := hW
  have hA : DataW.TrodAll enc Try.prog W 0 (fun _ => true) true Try.f8.params.toList args.toList ds p := hA0
  have hsz : (DataW.weightsEach Try.prog (Try.f8.params.toList ++ Rows.diskChoiceSpec.plain.varTypes Try.prog) (ds ++ gs)).all (· ≤ reachBytes) = true := hsz0
  rw [Try.params8] at hA hval hsz
  obtain ⟨v0, vs0, d0, ds0, p0, q0, hargs, rfl, rfl, h0, r0⟩ := trodAll_cons hA
  obtain ⟨v1, vs1, d1, ds1, p1, q1, rfl, rfl, rfl, h1, r1⟩ := trodAll_cons r0
  obtain ⟨v2, vs2, d2, ds2, p2, q2, rfl, rfl, rfl, h2, r2⟩ := trodAll_cons r1
  obtain ⟨rfl, rfl, rfl⟩ := trodAll_nil r2
  obtain rfl : args = #[v0, v1, v2] := by cases args; simp_all
  obtain ⟨rfl, rfl⟩ := trodVars_none hV
  have k0 := h0
  have k1 := h1
  have k2 := h2
  have lt0 : ∀ x ∈ p0, x.block < W.heap.size := by obtain ⟨m, hm⟩ := k0; exact DataW.trod_lt m _ _ _ hm
  have lt1 : ∀ x ∈ p1, x.block < W.heap.size := by obtain ⟨m, hm⟩ := k1; exact DataW.trod_lt m _ _ _ hm
  have lt2 : ∀ x ∈ p2, x.block < W.heap.size := by obtain ⟨m, hm⟩ := k2; exact DataW.trod_lt m _ _ _ hm
  obtain ⟨a0, rfl, _, _, w0⟩ := open_int Try.underlying3 (hval 0 3 v0 rfl rfl) h0
  replace w0 := wf_bounds w0
  obtain ⟨a1, n1, c1, rfl⟩ := okWide_slice Try.underlying22 (hval 1 22 v1 rfl rfl)
  have b1 := top_slice hsz (j := 1) rfl rfl Try.underlying22 k1 rfl
  have bb1 : Try.prog.bytesOf 25 = 56 := by kernel_rfl
  rw [bb1] at b1
  simp only [reachBytes] at b1
  obtain ⟨s1, e1⟩ := opn_ops _ _ _ h1.choose_spec
  obtain ⟨⟨y1, m1, z1, x1⟩, ec1⟩ : ∃ s, s = s1 := ⟨s1, rfl⟩
  subst ec1
  have ec1 := e1.cells
  simp only [Value.cells, List.cons.injEq, Value.slice.injEq, and_true] at ec1
  obtain ⟨rfl, rfl, rfl⟩ := ec1
  obtain ⟨a2, n2, c2, rfl⟩ := okWide_slice Try.underlying23 (hval 2 23 v2 rfl rfl)
  have b2 := top_slice hsz (j := 2) rfl rfl Try.underlying23 k2 rfl
  have bb2 : Try.prog.bytesOf 4 = 1 := by kernel_rfl
  rw [bb2] at b2
  simp only [reachBytes] at b2
  obtain ⟨s2, e2⟩ := opn_bools _ _ _ h2.choose_spec
  obtain ⟨⟨y2, m2, z2, x2⟩, ec2⟩ : ∃ s, s = s2 := ⟨s2, rfl⟩
  subst ec2
  have ec2 := e2.cells
  simp only [Value.cells, List.cons.injEq, Value.slice.injEq, and_true] at ec2
  obtain ⟨rfl, rfl, rfl⟩ := ec2
  clear hA0 hval0
  have hO := opsIn_of e1 (by dsimp only; omega)
  have hK := keepIn_of e2
  refine (Spec.law (choice_spec (hpOf W) a0 a1 n1 c1 x1 hO a2 n2 c2 x2 hK)).mono fun e W' ⟨he, bel⟩ => ?_
  subst he
  exact ⟨_, rfl, _, _, _, [], _, [], hW', trodAll_mk1 (shut_bool Try.underlying4 _), (trodAll_cons_mk (Below.trod laidOut (by kernel_rfl) (of_decide_eq_true (by kernel_rfl)) k0 bel lt0) (trodAll_cons_mk (Below.trod laidOut (by kernel_rfl) (of_decide_eq_true (by kernel_rfl)) k1 bel lt1) (trodAll_cons_mk (Below.trod laidOut (by kernel_rfl) (of_decide_eq_true (by kernel_rfl)) k2 bel lt2) trodAll_mk0))), rfl, bel.frame _, fun h => by cases h⟩

theorem over : Rows.diskChoiceRow.holds Try.pinned (OpenSpec.ofChange Rows.diskChoiceSpec) :=
  OpenClaim.holds_of_wide 8 Try.f8 rfl rfl rfl rfl rfl rfl rfl ⟨rfl, rfl, rfl, rfl, rfl⟩ rfl rfl rfl rfl rfl (by kernel_rfl) Try.func8 (by kernel_rfl)
    (of_decide_eq_true (by kernel_rfl)) (by unfold Func.isWrapper; first | (rw [if_pos (by decide +kernel)]; kernel_rfl) | (rw [if_neg (by decide +kernel)]; exact ⟨rfl, rfl⟩))
    (fun os started H enc _ => lifted os started H enc)

theorem proved : Rows.DiskChoiceSaid := over
end Go.Proofs.Ythbgnmilbgecfaa.DiskChoiceLaw

