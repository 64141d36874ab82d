/- Contents of layer 3, disks of layer 2 and files of layer 14 as data, and what their functions come to. Part 6 of 6. -/
import Derived.Test.YtncenainkaofmaaF5
-- BITS
namespace Go.Proofs.E
open Go
set_option linter.unusedVariables false
set_option linter.unusedSimpArgs false
set_option linter.unusedSectionVars false
set_option maxRecDepth 4000
set_option maxHeartbeats 1000000
attribute [local irreducible] Yl TL TC TE Spec YSpec R1 Hp.le EnvLe TS TR YS Stays
theorem row_spec (ρ0 ρ : Hp) (fb base : Nat) (g : Nat) (cs : List Value) (S : SH) (xs : List (Nat × Blk)) (hl0 : ρ0.le ρ) (hI : Iter Try.prog g [] cs pencV ρ0 S xs) [hF : Fun Try.prog g] (h64 : ∀ p ∈ xs, p.2.length = 64) (b : Nat) (hf : FIn ρ fb b base) (k : DK) (D : DS) (hD : DOk k D) :
    Spec Try.prog 71 [.pointer (some ⟨fb, 0, none⟩), .func (.func g) ⟨[]⟩ ⟨cs⟩] ρ (S ++ diskK b k D) (fun v ρ' L' => v = .int .i64 (DS.lays xs D).2 ∧ ρ.le ρ' ∧ ∃ k', DOk k' (DS.lays xs D).1 ∧ L' = S ++ diskK b k' (DS.lays xs D).1) := by
  refine spec_enter Try.func71 rfl rfl rfl fun u R => ?_
  simp only [argsE, List.cons_append, List.nil_append, List.append_assoc]
  repeat' (first | (refine i_op ?_; first | (refine i_qq ?_; refine qQ ?_) | refine qEf ?_ | refine qAn ?_ | refine qXo ?_ | refine qNt ?_) | refine tl_nil ?_ | (refine i_tc ?_; refine qTc ?_) | (refine i_te ?_; refine qTe ?_) | intro _)
  rename_i b2 b4
  refine tc_rangeFunc (S := S) (L0 := [[(b2, .cells ⟨[.pointer (some ⟨fb, 0, none⟩)]⟩ 70 (0, 0))], [(b4, .cells ⟨[.int .i64 0]⟩ 33 (0, 0))]] ++ diskK b k D) (R := R) (R0 := [(b4, .cells ⟨[.int .i64 0]⟩ 33 (0, 0))] :: [(b2, .cells ⟨[.pointer (some ⟨fb, 0, none⟩)]⟩ 70 (0, 0))] :: (diskK b k D ++ R)) rfl rfl hI hl0 (fun _ => rfl) rfl
    (fun pre ρ1 Lu => ∃ D1 k1, ρ.le ρ1 ∧ Wr D pre D1 ∧ DOk k1 D1 ∧ Lu = [[(b2, .cells ⟨[.pointer (some ⟨fb, 0, none⟩)]⟩ 70 (0, 0))], [(b4, .cells ⟨[.int .i64 0]⟩ 33 (0, 0))]] ++ diskK b k1 D1)
    (fun c ρ1 Lu => c = .exit 0 ∧ ∃ D2 k2 e, ρ.le ρ1 ∧ e ≠ 0 ∧ DS.lays xs D = (D2, e) ∧ DOk k2 D2 ∧ Lu = [[(b2, .cells ⟨[.pointer (some ⟨fb, 0, none⟩)]⟩ 70 (0, 0))], [(b4, .cells ⟨[.int .i64 e]⟩ 33 (0, 0))]] ++ diskK b k2 D2) ?k1 ?k2 ⟨D, k, Hp.le_refl _, .nil, hD, rfl⟩ ?round ?done ?stop
  case k1 => exact tk
  case k2 => exact tk
  case round =>
    rintro l tm r pre y ρ1 Lu u R' hpre hl1 ⟨D1, k1, hl2, hwr, hD1, rfl⟩ hr hrec
    simp only [envP, List.cons_append, List.nil_append]
    have hm64 := h64 y (hpre.subset (by simp))
    have hy1 := u8c_one y.2
    have hyl : (y.2.map u8c).length = 64 := by simpa using hm64
    repeat' (first | (refine i_op ?_; first | (refine i_qq ?_; refine qQ ?_) | refine qEf ?_ | refine qAn ?_ | refine qXo ?_ | refine qNt ?_) | refine tl_nil ?_ | (refine i_tc ?_; refine qTc ?_) | (refine i_te ?_; refine qTe ?_) | intro _)
    refine te_front [(l, .loop r)] ?_
    refine te_begin rfl hr (fun r' hbz hrec' => ?_)
    rename_i b7
    have hfile := (hf.mono hl2).at'
    repeat' (first | (refine i_op ?_; first | (refine i_qq ?_; refine qQ ?_) | refine qEf ?_ | refine qAn ?_ | refine qXo ?_ | refine qNt ?_) | refine tl_nil ?_ | (refine i_tc ?_; refine qTc ?_) | (refine i_te ?_; refine qTe ?_) | intro _)
    by_cases hc : (D1.write (y.1 : Int) y.2).2 = 0
    · have hcb : ((D1.write (y.1 : Int) y.2).2 != 0) = false := by simpa using hc
      have hw2 := hwr.snoc hc
      refine tc_any (Stays _ _ ([[(b2, .cells ⟨[.pointer (some ⟨fb, 0, none⟩)]⟩ 70 (0, 0))], [(b7, .cells ⟨y.2.map u8c⟩ 66 (0, 0))]])) (stays_of (hT := tk) (Hp.le_refl _)) ?_
      all_goals refine rLd 0 ?_
      all_goals refine rNc 1 ?_
      all_goals refine rFa 2 ?_
      all_goals refine rLd 3 ?_
      all_goals refine rMv 4 ?_
      all_goals refine rLd 5 ?_
      all_goals (refine rStep (i := 6) ?_; ((try refine qWant ?_); (first | (refine tl_is (.func 86) ?_; refine qC rfl rfl (kwrite _ b k1 D1 y.1 y.2 hm64 hD1) ?_; rintro v ρ' L' hle ⟨rfl, rfl, k2, hD2, rfl⟩ <;> (try simp only [List.cons_append, List.nil_append, List.append_eq])) | (refine qEf ?_; try intro _)) <;> ((try simp only [List.cons_append, List.nil_append, List.append_eq]); refine tl_nil ?_; refine rNext ?_)))
      all_goals (refine rStep (i := 7) ?_; ((try refine qWant ?_); (first | (refine qEf ?_; try intro _)) <;> ((try simp only [List.cons_append, List.nil_append, List.append_eq]); refine tl_nil ?_; refine rNext ?_)))
      all_goals refine rDone ?_
      simp only [hc]
      repeat' (first | (refine i_op ?_; first | (refine i_qq ?_; refine qQ ?_) | refine qEf ?_ | refine qAn ?_ | refine qXo ?_ | refine qNt ?_) | refine tl_nil ?_ | (refine i_tc ?_; refine qTc ?_) | (refine i_te ?_; refine qTe ?_) | intro _)
      refine te_front [(l, .loop r')] ?_
      refine te_next (Lu := [[(b2, .cells ⟨[.pointer (some ⟨fb, 0, none⟩)]⟩ 70 (0, 0))], [(b4, .cells ⟨[.int .i64 0]⟩ 33 (0, 0))]] ++ diskK b k2 (D1.write (y.1 : Int) y.2).1) rfl (Hp.le_refl _) ⟨hrec'.tmps.trans hrec.tmps, hrec'.params.trans hrec.params, hrec'.assign.trans hrec.assign, hrec'.body.trans hrec.body⟩ tk tk inferInstance ?_
      exact ⟨_, k2, hl2, hw2, hD2, rfl⟩
    · have hcb : ((D1.write (y.1 : Int) y.2).2 != 0) = true := by simpa using hc
      have hst := hwr.stop hpre hc
      refine tc_any (Stays _ _ ([[(b2, .cells ⟨[.pointer (some ⟨fb, 0, none⟩)]⟩ 70 (0, 0))], [(b7, .cells ⟨y.2.map u8c⟩ 66 (0, 0))]])) (stays_of (hT := tk) (Hp.le_refl _)) ?_
      all_goals refine rLd 0 ?_
      all_goals refine rNc 1 ?_
      all_goals refine rFa 2 ?_
      all_goals refine rLd 3 ?_
      all_goals refine rMv 4 ?_
      all_goals refine rLd 5 ?_
      all_goals (refine rStep (i := 6) ?_; ((try refine qWant ?_); (first | (refine tl_is (.func 86) ?_; refine qC rfl rfl (kwrite _ b k1 D1 y.1 y.2 hm64 hD1) ?_; rintro v ρ' L' hle ⟨rfl, rfl, k2, hD2, rfl⟩ <;> (try simp only [List.cons_append, List.nil_append, List.append_eq])) | (refine qEf ?_; try intro _)) <;> ((try simp only [List.cons_append, List.nil_append, List.append_eq]); refine tl_nil ?_; refine rNext ?_)))
      all_goals (refine rStep (i := 7) ?_; ((try refine qWant ?_); (first | (refine qEf ?_; try intro _)) <;> ((try simp only [List.cons_append, List.nil_append, List.append_eq]); refine tl_nil ?_; refine rNext ?_)))
      all_goals refine rDone ?_
      repeat' (first | (refine i_op ?_; first | (refine i_qq ?_; refine qQ ?_) | refine qEf ?_ | refine qAn ?_ | refine qXo ?_ | refine qNt ?_) | refine tl_nil ?_ | (refine i_tc ?_; refine qTc ?_) | (refine i_te ?_; refine qTe ?_) | intro _)
      refine te_front [(l, .loop r')] ?_
      refine te_leave (Lu := [[(b2, .cells ⟨[.pointer (some ⟨fb, 0, none⟩)]⟩ 70 (0, 0))], [(b4, .cells ⟨[.int .i64 (D1.write (y.1 : Int) y.2).2]⟩ 33 (0, 0))]] ++ diskK b k2 (D1.write (y.1 : Int) y.2).1) rfl rfl (Hp.le_refl _) ⟨hrec'.tmps.trans hrec.tmps, hrec'.params.trans hrec.params, hrec'.assign.trans hrec.assign, hrec'.body.trans hrec.body⟩ tk tk inferInstance ?_
      exact ⟨rfl, _, k2, _, hl2, hc, hst, hD2, rfl⟩
  case done =>
    rintro D0 ρ1 Lu hl1 ⟨D1, k1, hl2, hwr, hD1, rfl⟩
    simp only [List.cons_append, List.nil_append]
    have hlay := hwr.lays []
    rw [List.append_nil, DS.lays] at hlay
    rw [hlay]
    have hfile := (hf.mono hl2).at'
    repeat' (first | (refine tl_is (.func 87) ?_; refine qC rfl rfl (ksync _ b k1 D1 hD1) ?_; rintro v ρ' L' hle ⟨rfl, hl3, k2, hD2, rfl⟩ <;> (try simp only [List.cons_append, List.nil_append, List.append_eq])) | (refine i_op ?_; first | (refine i_qq ?_; refine qQ ?_) | refine qEf ?_ | refine qAn ?_ | refine qXo ?_ | refine qNt ?_) | refine tl_nil ?_ | (refine i_tc ?_; refine qTc ?_) | (refine i_te ?_; refine qTe ?_) | intro _)
    refine te_front [(D0, .deferred (some []))] ?_
    exact te_end_d rfl rfl rfl inferInstance (res1 rfl (r1_tmp rfl)) (Hp.le_trans hl2 hl3) tk (by infer_instance) (L' := S ++ diskK b k2 D1.sync.1) ⟨rfl, Hp.le_trans hl2 hl3, k2, hD2, rfl⟩
  case stop =>
    rintro D0 c ρ1 Lu hl1 ⟨rfl, D2, k2, e, hl2, he, hlay, hD2, rfl⟩
    simp only [List.cons_append, List.nil_append]
    have heb : (e != 0) = true := by simpa using he
    rw [hlay]
    repeat' (first | (refine i_op ?_; first | (refine i_qq ?_; refine qQ ?_) | refine qEf ?_ | refine qAn ?_ | refine qXo ?_ | refine qNt ?_) | refine tl_nil ?_ | (refine i_tc ?_; refine qTc ?_) | (refine i_te ?_; refine qTe ?_) | intro _)
    refine te_front [(D0, .deferred (some []))] ?_
    exact te_end_d rfl rfl rfl inferInstance (res1 rfl (r1_tmp rfl)) hl2 tk (by infer_instance) (L' := S ++ diskK b k2 D2) ⟨rfl, hl2, k2, hD2, rfl⟩
/-! ## files that are opened -/
theorem page_spec (ρ : Hp) (num : Int) : Spec Try.prog 73 [.int .i64 num] ρ [] (fun v ρ' L' => v = .bool (decide (0 ≤ num ∧ num < 64)) ∧ ρ' = ρ ∧ L' = []) := by
  by_cases h0 : 0 ≤ num
  · by_cases h1 : num < 64
    · rw [decide_eq_true ⟨h0, h1⟩]
      refine spec_enter Try.func73 rfl rfl rfl fun u R => ?_
      simp only [argsE, List.cons_append, List.nil_append]
      repeat' (first | (refine i_op ?_; first | (refine i_qq ?_; refine qQ ?_) | refine qEf ?_ | refine qAn ?_ | refine qXo ?_ | refine qNt ?_) | refine tl_nil ?_ | (refine i_tc ?_; refine qTc ?_) | (refine i_te ?_; refine qTe ?_) | intro _)
      exact qE (L' := []) ⟨rfl, rfl, rfl⟩
    · rw [decide_eq_false (fun h => h1 h.2)]
      refine spec_enter Try.func73 rfl rfl rfl fun u R => ?_
      simp only [argsE, List.cons_append, List.nil_append]
      repeat' (first | (refine i_op ?_; first | (refine i_qq ?_; refine qQ ?_) | refine qEf ?_ | refine qAn ?_ | refine qXo ?_ | refine qNt ?_) | refine tl_nil ?_ | (refine i_tc ?_; refine qTc ?_) | (refine i_te ?_; refine qTe ?_) | intro _)
      exact qE (L' := []) ⟨rfl, rfl, rfl⟩
  · rw [decide_eq_false (fun h => h0 h.1)]
    refine spec_enter Try.func73 rfl rfl rfl fun u R => ?_
    simp only [argsE, List.cons_append, List.nil_append]
    repeat' (first | (refine i_op ?_; first | (refine i_qq ?_; refine qQ ?_) | refine qEf ?_ | refine qAn ?_ | refine qXo ?_ | refine qNt ?_) | refine tl_nil ?_ | (refine i_tc ?_; refine qTc ?_) | (refine i_te ?_; refine qTe ?_) | intro _)
    exact qE (L' := []) ⟨rfl, rfl, rfl⟩
theorem open_nil14 (ρ : Hp) (base : Int) : Spec Try.prog 70 [.pointer none, .int .i64 base] ρ [] (fun v ρ' L' => v = .tuple ⟨[.pointer none, .int .i64 1]⟩ ∧ ρ' = ρ ∧ L' = []) := by
  refine spec_enter Try.func70 rfl rfl rfl fun u R => ?_
  simp only [argsE, List.cons_append, List.nil_append]
  repeat' (first | (refine i_op ?_; first | (refine i_qq ?_; refine qQ ?_) | refine qEf ?_ | refine qAn ?_ | refine qXo ?_ | refine qNt ?_) | refine tl_nil ?_ | (refine i_tc ?_; refine qTc ?_) | (refine i_te ?_; refine qTe ?_) | intro _)
  exact qE (L' := []) ⟨rfl, rfl, rfl⟩
def OpenOk (D : DS) (base : Int) : Prop := 0 ≤ base ∧ base + 256 ≤ D.secs.length
instance (D : DS) (base : Int) : Decidable (OpenOk D base) := by unfold OpenOk; infer_instance
theorem openf_no (ρ : Hp) (db : Nat) (k : DK) (D : DS) (hD : DOk k D) (base : Int) (hb : -9223372036854775808 ≤ base ∧ base ≤ 9223372036854775807) (h : ¬ OpenOk D base) :
    Spec Try.prog 70 [.pointer (some ⟨db, 0, none⟩), .int .i64 base] ρ (diskK db k D) (fun v ρ' L' => v = .tuple ⟨[.pointer none, .int .i64 2]⟩ ∧ ρ' = ρ ∧ L' = diskK db k D) := by
  have hln := hD.ok.secs.len
  by_cases h0 : base < 0
  · refine spec_enter Try.func70 rfl rfl rfl fun u R => ?_
    simp only [argsE, List.cons_append, List.nil_append]
    repeat' (first | (refine tl_is (.func 53) ?_; refine qC rfl rfl (klen _ db k D) ?_; rintro v ρ' L' hle ⟨rfl, rfl, rfl⟩ <;> (try simp only [List.cons_append, List.nil_append, List.append_eq])) | (refine i_op ?_; first | (refine i_qq ?_; refine qQ ?_) | refine qEf ?_ | refine qAn ?_ | refine qXo ?_ | refine qNt ?_) | refine tl_nil ?_ | (refine i_tc ?_; refine qTc ?_) | (refine i_te ?_; refine qTe ?_) | intro _)
    exact qE (L' := diskK db k D) ⟨rfl, rfl, rfl⟩
  · have h1 : base > (D.secs.length : Int) - 256 := by unfold OpenOk at h; omega
    refine spec_enter Try.func70 rfl rfl rfl fun u R => ?_
    simp only [argsE, List.cons_append, List.nil_append]
    repeat' (first | (refine tl_is (.func 53) ?_; refine qC rfl rfl (klen _ db k D) ?_; rintro v ρ' L' hle ⟨rfl, rfl, rfl⟩ <;> (try simp only [List.cons_append, List.nil_append, List.append_eq])) | (refine i_op ?_; first | (refine i_qq ?_; refine qQ ?_) | refine qEf ?_ | refine qAn ?_ | refine qXo ?_ | refine qNt ?_) | refine tl_nil ?_ | (refine i_tc ?_; refine qTc ?_) | (refine i_te ?_; refine qTe ?_) | intro _)
    exact qE (L' := diskK db k D) ⟨rfl, rfl, rfl⟩
theorem openf_spec (ρ : Hp) (db : Nat) (k : DK) (D : DS) (hD : DOk k D) (base : Nat) (h : base + 256 ≤ D.secs.length) :
    Spec Try.prog 70 [.pointer (some ⟨db, 0, none⟩), .int .i64 base] ρ (diskK db k D) (fun v ρ' L' => ρ.le ρ' ∧ ∃ fb, v = .tuple ⟨[.pointer (some ⟨fb, 0, none⟩), .int .i64 0]⟩ ∧ FIn ρ' fb db base ∧ L' = diskK db k D) := by
  have hln := hD.ok.secs.len
  refine spec_enter Try.func70 rfl rfl rfl fun u R => ?_
  simp only [argsE, List.cons_append, List.nil_append]
  repeat' (first | (refine tl_is (.func 53) ?_; refine qC rfl rfl (klen _ db k D) ?_; rintro v ρ' L' hle ⟨rfl, rfl, rfl⟩ <;> (try simp only [List.cons_append, List.nil_append, List.append_eq])) | (refine i_op ?_; first | (refine i_qq ?_; refine qQ ?_) | refine qEf ?_ | refine qAn ?_ | refine qXo ?_ | refine qNt ?_) | refine tl_nil ?_ | (refine i_tc ?_; refine qTc ?_) | (refine i_te ?_; refine qTe ?_) | intro _)
  rename_i fb
  refine te_freeze [(fb, .cells ⟨[.pointer (some ⟨db, 0, none⟩), .int .i64 base]⟩ 139 (0, 0))] (h := by infer_instance) (fun ρ1 hl1 hf1 => ?_)
  have h1 := hf1 _ (List.mem_singleton.2 rfl)
  have hF : FIn ρ1 fb db base := ⟨h1⟩
  exact qE (L' := diskK db k D) ⟨hl1, fb, rfl, hF, rfl⟩
theorem Open_nil14 (ρ : Hp) (base : Int) : Spec Try.prog 29 [.pointer none, .int .i64 base] ρ [] (fun v ρ' L' => v = .tuple ⟨[.pointer none, .int .i64 1]⟩ ∧ ρ' = ρ ∧ L' = []) := by
  refine spec_enter Try.func29 rfl rfl rfl fun u R => ?_
  simp only [argsE, List.cons_append, List.nil_append]
  repeat' (first | (refine tl_is (.func 70) ?_; refine qC rfl rfl (open_nil14 _ _) ?_; rintro v ρ' L' hle ⟨rfl, rfl, rfl⟩ <;> (try simp only [List.cons_append, List.nil_append, List.append_eq])) | (refine i_op ?_; first | (refine i_qq ?_; refine qQ ?_) | refine qEf ?_ | refine qAn ?_ | refine qXo ?_ | refine qNt ?_) | refine tl_nil ?_ | (refine i_tc ?_; refine qTc ?_) | (refine i_te ?_; refine qTe ?_) | intro _)
  exact qE (L' := []) ⟨rfl, rfl, rfl⟩
theorem Open_no (ρ : Hp) (db : Nat) (k : DK) (D : DS) (hD : DOk k D) (base : Int) (hb : -9223372036854775808 ≤ base ∧ base ≤ 9223372036854775807) (h : ¬ OpenOk D base) :
    Spec Try.prog 29 [.pointer (some ⟨db, 0, none⟩), .int .i64 base] ρ (diskK db k D) (fun v ρ' L' => v = .tuple ⟨[.pointer none, .int .i64 2]⟩ ∧ ρ' = ρ ∧ L' = diskK db k D) := by
  refine spec_enter Try.func29 rfl rfl rfl fun u R => ?_
  simp only [argsE, List.cons_append, List.nil_append]
  repeat' (first | (refine tl_is (.func 70) ?_; refine qC rfl rfl (openf_no _ db k D hD base hb h) ?_; rintro v ρ' L' hle ⟨rfl, rfl, rfl⟩ <;> (try simp only [List.cons_append, List.nil_append, List.append_eq])) | (refine i_op ?_; first | (refine i_qq ?_; refine qQ ?_) | refine qEf ?_ | refine qAn ?_ | refine qXo ?_ | refine qNt ?_) | refine tl_nil ?_ | (refine i_tc ?_; refine qTc ?_) | (refine i_te ?_; refine qTe ?_) | intro _)
  exact qE (L' := diskK db k D) ⟨rfl, rfl, rfl⟩
theorem Open_spec (ρ : Hp) (db : Nat) (k : DK) (D : DS) (hD : DOk k D) (base : Nat) (h : base + 256 ≤ D.secs.length) :
    Spec Try.prog 29 [.pointer (some ⟨db, 0, none⟩), .int .i64 base] ρ (diskK db k D) (fun v ρ' L' => ρ.le ρ' ∧ ∃ fb, v = .tuple ⟨[.pointer (some ⟨fb, 0, none⟩), .int .i64 0]⟩ ∧ FIn ρ' fb db base ∧ L' = diskK db k D) := by
  refine spec_enter Try.func29 rfl rfl rfl fun u R => ?_
  simp only [argsE, List.cons_append, List.nil_append]
  repeat' (first | (refine tl_is (.func 70) ?_; refine qC rfl rfl (openf_spec _ db k D hD base h) ?_; rintro v1 ρ1 L1 hle1 ⟨hl1, fb, rfl, hF, rfl⟩; try simp only [List.cons_append, List.nil_append, List.append_eq]) | (refine i_op ?_; first | (refine i_qq ?_; refine qQ ?_) | refine qEf ?_ | refine qAn ?_ | refine qXo ?_ | refine qNt ?_) | refine tl_nil ?_ | (refine i_tc ?_; refine qTc ?_) | (refine i_te ?_; refine qTe ?_) | intro _)
  exact qE (L' := diskK db k D) ⟨hl1, fb, rfl, hF, rfl⟩
theorem base_spec (ρ : Hp) (fb db base : Nat) (h : FIn ρ fb db base) : Spec Try.prog 32 [.pointer (some ⟨fb, 0, none⟩)] ρ [] (fun v ρ' L' => v = .int .i64 base ∧ ρ' = ρ ∧ L' = []) := by
  have hfile := h.at'
  refine spec_enter Try.func32 rfl rfl rfl fun u R => ?_
  simp only [argsE, List.cons_append, List.nil_append]
  repeat' (first | (refine i_op ?_; first | (refine i_qq ?_; refine qQ ?_) | refine qEf ?_ | refine qAn ?_ | refine qXo ?_ | refine qNt ?_) | refine tl_nil ?_ | (refine i_tc ?_; refine qTc ?_) | (refine i_te ?_; refine qTe ?_) | intro _)
  exact qE (L' := []) ⟨rfl, rfl, rfl⟩
theorem diskf_spec (ρ : Hp) (fb db base : Nat) (h : FIn ρ fb db base) : Spec Try.prog 33 [.pointer (some ⟨fb, 0, none⟩)] ρ [] (fun v ρ' L' => v = .pointer (some ⟨db, 0, none⟩) ∧ ρ' = ρ ∧ L' = []) := by
  have hfile := h.at'
  refine spec_enter Try.func33 rfl rfl rfl fun u R => ?_
  simp only [argsE, List.cons_append, List.nil_append]
  repeat' (first | (refine i_op ?_; first | (refine i_qq ?_; refine qQ ?_) | refine qEf ?_ | refine qAn ?_ | refine qXo ?_ | refine qNt ?_) | refine tl_nil ?_ | (refine i_tc ?_; refine qTc ?_) | (refine i_te ?_; refine qTe ?_) | intro _)
  exact qE (L' := []) ⟨rfl, rfl, rfl⟩
theorem nils14 (ρ : Hp) : (Spec Try.prog 32 [.pointer none] ρ [] (fun v ρ' L' => v = .int .i64 0 ∧ ρ' = ρ ∧ L' = [])) ∧
    (Spec Try.prog 33 [.pointer none] ρ [] (fun v ρ' L' => v = .pointer none ∧ ρ' = ρ ∧ L' = [])) ∧
    (∀ num, Spec Try.prog 30 [.pointer none, .int .i64 num] ρ [] (fun v ρ' L' => v = .tuple ⟨[.agg ⟨contV 0 zCV⟩, .int .u64 0, .int .i64 1]⟩ ∧ ρ' = ρ ∧ L' = [])) ∧
    (∀ num lsn w kd, Spec Try.prog 31 [.pointer none, .int .i64 num, .int .u64 lsn, .agg ⟨contV kd w⟩] ρ [] (fun v ρ' L' => v = .int .i64 1 ∧ ρ' = ρ ∧ L' = [])) := by
  refine ⟨?_, ?_, fun num => ?_, fun num lsn w kd => ?_⟩
  · refine spec_enter Try.func32 rfl rfl rfl fun u R0 => ?_
    simp only [argsE, List.cons_append, List.nil_append]
    repeat' (first | (refine i_op ?_; first | (refine i_qq ?_; refine qQ ?_) | refine qEf ?_ | refine qAn ?_ | refine qXo ?_ | refine qNt ?_) | refine tl_nil ?_ | (refine i_tc ?_; refine qTc ?_) | (refine i_te ?_; refine qTe ?_) | intro _)
    exact qE (L' := []) ⟨rfl, rfl, rfl⟩
  · refine spec_enter Try.func33 rfl rfl rfl fun u R0 => ?_
    simp only [argsE, List.cons_append, List.nil_append]
    repeat' (first | (refine i_op ?_; first | (refine i_qq ?_; refine qQ ?_) | refine qEf ?_ | refine qAn ?_ | refine qXo ?_ | refine qNt ?_) | refine tl_nil ?_ | (refine i_tc ?_; refine qTc ?_) | (refine i_te ?_; refine qTe ?_) | intro _)
    exact qE (L' := []) ⟨rfl, rfl, rfl⟩
  · refine spec_enter Try.func30 rfl rfl rfl fun u R0 => ?_
    simp only [argsE, List.cons_append, List.nil_append]
    repeat' (first | (refine i_op ?_; first | (refine i_qq ?_; refine qQ ?_) | refine qEf ?_ | refine qAn ?_ | refine qXo ?_ | refine qNt ?_) | refine tl_nil ?_ | (refine i_tc ?_; refine qTc ?_) | (refine i_te ?_; refine qTe ?_) | intro _)
    exact qE (L' := []) ⟨rfl, rfl, rfl⟩
  · refine spec_enter Try.func31 rfl rfl rfl fun u R0 => ?_
    simp only [argsE, List.cons_append, List.nil_append]
    repeat' (first | (refine i_op ?_; first | (refine i_qq ?_; refine qQ ?_) | refine qEf ?_ | refine qAn ?_ | refine qXo ?_ | refine qNt ?_) | refine tl_nil ?_ | (refine i_tc ?_; refine qTc ?_) | (refine i_te ?_; refine qTe ?_) | intro _)
    exact qE (L' := []) ⟨rfl, rfl, rfl⟩
/-! ## a new file -/
def noughtsF (base : Nat) : List (Nat × Blk) := (List.range 256).map fun i => (base + i, zblk)
theorem noughtsF_at {base k : Nat} (hk : k < (noughtsF base).length) : (noughtsF base)[k] = (base + k, zblk) := by simp [noughtsF]
theorem noughtsF_len {base : Nat} : (noughtsF base).length = 256 := by simp [noughtsF]
theorem noughtsF_64 {n : Nat} : ∀ p ∈ noughtsF n, p.2.length = 64 := fun p hp => by
  simp only [noughtsF, List.mem_map] at hp
  obtain ⟨k, _, rfl⟩ := hp; rfl
theorem noughtsF_iter (ρ0 : Hp) (sb base : Nat) (hn : base ≤ 1000000) : Iter Try.prog 72 [] [.pointer (some ⟨sb, 0, none⟩)] pencV ρ0 [[(sb, .cells ⟨[.int .i64 base]⟩ 3 (0, 0))]] (noughtsF base) := by
  intro l J Jx hY ρ Lj hl0 hJ
  have hlen := noughtsF_len (base := base)
  refine spec_enter Try.func72 rfl rfl rfl fun u R => ?_
  simp only [argsE, List.cons_append, List.nil_append, List.append_assoc]
  repeat' (first | (refine i_op ?_; first | (refine i_qq ?_; refine qQ ?_) | refine qEf ?_ | refine qAn ?_ | refine qXo ?_ | refine qNt ?_) | refine tl_nil ?_ | (refine i_tc ?_; refine qTc ?_) | (refine i_te ?_; refine qTe ?_) | intro _)
  refine tc_loop_g [(0, _), (1, _)] (fun (ζ : (Nat) × (Hp) × (SH)) => [(4, .int .i64 ζ.1)]) (fun (ζ : (Nat) × (Hp) × (SH)) => ζ.2.1) (fun (ζ : (Nat) × (Hp) × (SH)) => [[(sb, .cells ⟨[.int .i64 base]⟩ 3 (0, 0))]] ++ ζ.2.2) (fun (ζ : (Nat) × (Hp) × (SH)) => ζ.1 ≤ 256 ∧ ρ.le ζ.2.1 ∧ J ((noughtsF base).take ζ.1) ζ.2.1 ζ.2.2) (fun (ζ : (Nat) × (Hp) × (SH)) => 256 - ζ.1) ((0, ρ, Lj)) (⟨Nat.zero_le _, Hp.le_refl _, hJ⟩) ev_le ev_le rfl tk ?_
  rintro ⟨k, ρ1, L1⟩ hI
  try simp only [List.cons_append, List.nil_append, List.append_assoc, List.append_eq] at hI ⊢
  try dsimp only at hI ⊢
  obtain ⟨hk, hle1, hj⟩ := hI
  by_cases hlt : k < 256
  · have hk2 : k < (noughtsF base).length := by omega
    have hpre := take_succ_pre (noughtsF base) k hk2
    rw [noughtsF_at] at hpre
    have hts := List.take_succ_eq_append_getElem hk2
    rw [noughtsF_at] at hts
    have hy := hY _ _ ρ1 L1 hpre (Hp.le_trans hl0 hle1) hj
    have hbk : (base : Int) + (k : Int) = ((base + k : Nat) : Int) := by omega
    repeat' (first | (simp only [Value.cells, zblk_cells, hbk]; refine tl_is (.tmp 7) ?_; refine qY rfl rfl hy ?_; rintro v ρ' L' hle ⟨Lj', rfl, ⟨rfl, hj'⟩ | ⟨rfl, hj'⟩⟩ <;> (try simp only [List.cons_append, List.nil_append, List.append_eq])) | (refine i_op ?_; first | (refine i_qq ?_; refine qQ ?_) | refine qEf ?_ | refine qAn ?_ | refine qXo ?_ | refine qNt ?_) | refine tl_nil ?_ | (refine i_tc ?_; refine qTc ?_) | (refine i_te ?_; refine qTe ?_) | intro _)
    · refine te_round_g (k + 1, ρ', Lj') (⟨hlt, Hp.le_trans hle1 hle, by dsimp only; rw [hts]; exact hj'⟩) ev_le ev_le rfl tk inferInstance (by first | omega | (dsimp only; omega))
    · exact qE (L' := [[(sb, .cells ⟨[.int .i64 base]⟩ 3 (0, 0))]] ++ Lj') ⟨Lj', rfl, .inr hj'⟩
  · have hk2 : k = 256 := by omega
    subst hk2
    rw [List.take_of_length_le (by omega)] at hj
    repeat' (first | (refine i_op ?_; first | (refine i_qq ?_; refine qQ ?_) | refine qEf ?_ | refine qAn ?_ | refine qXo ?_ | refine qNt ?_) | refine tl_nil ?_ | (refine i_tc ?_; refine qTc ?_) | (refine i_te ?_; refine qTe ?_) | intro _)
    exact qE (L' := [[(sb, .cells ⟨[.int .i64 base]⟩ 3 (0, 0))]] ++ L1) ⟨L1, rfl, .inl hj⟩
end Go.Proofs.E

-- BITS
namespace Go.Proofs.E
open Go
set_option linter.unusedVariables false
set_option linter.unusedSimpArgs false
set_option linter.unusedSectionVars false
set_option maxRecDepth 4000
set_option maxHeartbeats 1000000
attribute [local irreducible] Yl TL TC TE Spec YSpec R1 Hp.le EnvLe TS TR YS Stays
theorem Format_nil14 (ρ : Hp) (base : Int) : Spec Try.prog 28 [.pointer none, .int .i64 base] ρ [] (fun v ρ' L' => v = .tuple ⟨[.pointer none, .int .i64 1]⟩ ∧ ρ' = ρ ∧ L' = []) := by
  refine spec_enter Try.func28 rfl rfl rfl fun u R => ?_
  simp only [argsE, List.cons_append, List.nil_append]
  repeat' (first | (refine tl_is (.func 70) ?_; refine qC rfl rfl (open_nil14 _ _) ?_; rintro v ρ' L' hle ⟨rfl, rfl, rfl⟩ <;> (try simp only [List.cons_append, List.nil_append, List.append_eq])) | (refine i_op ?_; first | (refine i_qq ?_; refine qQ ?_) | refine qEf ?_ | refine qAn ?_ | refine qXo ?_ | refine qNt ?_) | refine tl_nil ?_ | (refine i_tc ?_; refine qTc ?_) | (refine i_te ?_; refine qTe ?_) | intro _)
  exact qE (L' := []) ⟨rfl, rfl, rfl⟩
theorem Format_no (ρ : Hp) (db : Nat) (k : DK) (D : DS) (hD : DOk k D) (base : Int) (hb : -9223372036854775808 ≤ base ∧ base ≤ 9223372036854775807) (h : ¬ OpenOk D base) :
    Spec Try.prog 28 [.pointer (some ⟨db, 0, none⟩), .int .i64 base] ρ (diskK db k D) (fun v ρ' L' => v = .tuple ⟨[.pointer none, .int .i64 2]⟩ ∧ ρ' = ρ ∧ L' = diskK db k D) := by
  refine spec_enter Try.func28 rfl rfl rfl fun u R => ?_
  simp only [argsE, List.cons_append, List.nil_append]
  repeat' (first | (refine tl_is (.func 70) ?_; refine qC rfl rfl (openf_no _ db k D hD base hb h) ?_; rintro v ρ' L' hle ⟨rfl, rfl, rfl⟩ <;> (try simp only [List.cons_append, List.nil_append, List.append_eq])) | (refine i_op ?_; first | (refine i_qq ?_; refine qQ ?_) | refine qEf ?_ | refine qAn ?_ | refine qXo ?_ | refine qNt ?_) | refine tl_nil ?_ | (refine i_tc ?_; refine qTc ?_) | (refine i_te ?_; refine qTe ?_) | intro _)
  exact qE (L' := diskK db k D) ⟨rfl, rfl, rfl⟩
theorem Format_spec (ρ : Hp) (db : Nat) (k : DK) (D : DS) (hD : DOk k D) (base : Nat) (h : base + 256 ≤ D.secs.length) (h0 : (DS.lays (noughtsF base) D).2 = 0) :
    Spec Try.prog 28 [.pointer (some ⟨db, 0, none⟩), .int .i64 base] ρ (diskK db k D) (fun v ρ' L' => ρ.le ρ' ∧ ∃ fb k', v = .tuple ⟨[.pointer (some ⟨fb, 0, none⟩), .int .i64 0]⟩ ∧ FIn ρ' fb db base ∧ DOk k' (DS.lays (noughtsF base) D).1 ∧ L' = diskK db k' (DS.lays (noughtsF base) D).1) := by
  have hln := hD.ok.secs.len
  refine spec_enter Try.func28 rfl rfl rfl fun u R => ?_
  simp only [argsE, List.cons_append, List.nil_append]
  repeat' (first | (refine tl_is (.func 70) ?_; refine qC rfl rfl (openf_spec _ db k D hD base h) ?_; rintro v1 ρ1 L1 hle1 ⟨hl1, fb, rfl, hF, rfl⟩; try simp only [List.cons_append, List.nil_append, List.append_eq]) | (refine i_op ?_; first | (refine i_qq ?_; refine qQ ?_) | refine qEf ?_ | refine qAn ?_ | refine qXo ?_ | refine qNt ?_) | refine tl_nil ?_ | (refine i_tc ?_; refine qTc ?_) | (refine i_te ?_; refine qTe ?_) | intro _)
  rename_i b3
  repeat' (first | (refine tl_is (.func 71) ?_; refine qC rfl rfl (row_spec _ _ fb base 72 [.pointer (some ⟨b3, 0, none⟩)] [[(b3, .cells ⟨[.int .i64 base]⟩ 3 (0, 0))]] (noughtsF base) (Hp.le_refl _) (noughtsF_iter _ b3 base (by omega)) noughtsF_64 db hF k D hD) ?_; rintro v2 ρ2 L2 hle2 ⟨rfl, hl2, k2, hD2, rfl⟩; simp only [List.cons_append, List.nil_append, List.append_assoc, List.append_eq, h0]) | (refine i_op ?_; first | (refine i_qq ?_; refine qQ ?_) | refine qEf ?_ | refine qAn ?_ | refine qXo ?_ | refine qNt ?_) | refine tl_nil ?_ | (refine i_tc ?_; refine qTc ?_) | (refine i_te ?_; refine qTe ?_) | intro _)
  have hfin := Hp.le_trans hl1 hl2
  have hF2 := hF.mono hl2
  exact qE (L' := diskK db k2 (DS.lays (noughtsF base) D).1) ⟨hfin, fb, k2, rfl, hF2, hD2, rfl⟩
/-! ## reads -/
def readF (D : DS) (base num : Nat) : (Cont × Nat × Int) × DS :=
  if (countsD D base num).2.2 ≠ 0 ∨ (countsD D base num).1.1.right = false then ((⟨0, [], []⟩, 0, (countsD D base num).2.2), (countsD D base num).2.1)
  else (((countsD D base num).1.1.c, (countsD D base num).1.1.lsn, 0), (countsD D base num).2.1)
theorem Read_no (ρ : Hp) (fb : Nat) (num : Int) (hn : ¬ (0 ≤ num ∧ num < 64)) : Spec Try.prog 30 [.pointer (some ⟨fb, 0, none⟩), .int .i64 num] ρ [] (fun v ρ' L' => v = .tuple ⟨[.agg ⟨contV 0 zCV⟩, .int .u64 0, .int .i64 2]⟩ ∧ ρ' = ρ ∧ L' = []) := by
  have hp := page_spec ρ num
  rw [decide_eq_false hn] at hp
  refine spec_enter Try.func30 rfl rfl rfl fun u R => ?_
  simp only [argsE, List.cons_append, List.nil_append]
  repeat' (first | (refine tl_is (.func 73) ?_; refine qC rfl rfl (hp) ?_; rintro v ρ' L' hle ⟨rfl, rfl, rfl⟩ <;> (try simp only [List.cons_append, List.nil_append, List.append_eq])) | (refine i_op ?_; first | (refine i_qq ?_; refine qQ ?_) | refine qEf ?_ | refine qAn ?_ | refine qXo ?_ | refine qNt ?_) | refine tl_nil ?_ | (refine i_tc ?_; refine qTc ?_) | (refine i_te ?_; refine qTe ?_) | intro _)
  exact qE (L' := []) ⟨rfl, rfl, rfl⟩
theorem Read_spec (ρ : Hp) (fb db base num : Nat) (hf : FIn ρ fb db base) (hb : base ≤ 100000) (hn : num < 64) (k : DK) (D : DS) (hD : DOk k D) :
    Spec Try.prog 30 [.pointer (some ⟨fb, 0, none⟩), .int .i64 num] ρ (diskK db k D) (fun v ρ' L' => ρ.le ρ' ∧ ∃ w, v = .tuple ⟨[.agg ⟨contV (readF D base num).1.1.kind w⟩, .int .u64 ((readF D base num).1.2.1 : Nat), .int .i64 (readF D base num).1.2.2]⟩ ∧ CIn ρ' w (readF D base num).1.1.rows (readF D base num).1.1.kids ∧ DOk k (readF D base num).2 ∧ L' = diskK db k (readF D base num).2) := by
  have hp := page_spec ρ num
  rw [decide_eq_true ⟨by omega, by omega⟩] at hp
  have hcn := fcounts_spec ρ fb db base num hf hb hn k D hD
  have hR : readF D base num = if (countsD D base num).2.2 ≠ 0 ∨ (countsD D base num).1.1.right = false then ((⟨0, [], []⟩, 0, (countsD D base num).2.2), (countsD D base num).2.1)
    else (((countsD D base num).1.1.c, (countsD D base num).1.1.lsn, 0), (countsD D base num).2.1) := rfl
  generalize readF D base num = RES at *
  generalize countsD D base num = r at *
  obtain ⟨⟨⟨st, ls, c, rt, mo⟩, ot⟩, D', ec⟩ := r
  dsimp only at hR hcn
  refine spec_enter Try.func30 rfl rfl rfl fun u R => ?_
  simp only [argsE, List.cons_append, List.nil_append]
  by_cases he : ec = 0
  · subst he
    cases rt with
    | true =>
      rw [if_neg (by simp)] at hR
      subst hR
      repeat' (first | (refine tl_is (.func 73) ?_; refine qC rfl rfl (hp) ?_; rintro v ρ' L' hle ⟨rfl, rfl, rfl⟩ <;> (try simp only [List.cons_append, List.nil_append, List.append_eq])) | (refine tl_is (.func 74) ?_; refine qC rfl rfl hcn ?_; rintro v2 ρ2 L2 hle2 ⟨hl2, w, rfl, hC, hD2, rfl⟩; try simp only [List.cons_append, List.nil_append, List.append_eq]) | (refine i_op ?_; first | (refine i_qq ?_; refine qQ ?_) | refine qEf ?_ | refine qAn ?_ | refine qXo ?_ | refine qNt ?_) | refine tl_nil ?_ | (refine i_tc ?_; refine qTc ?_) | (refine i_te ?_; refine qTe ?_) | intro _)
      rename_i b4 b7
      refine tc_any (Stays _ _ ([[(b7, .cells ⟨slV ⟨st, ls, c, true, mo⟩ w⟩ 133 (0, 0))]])) (stays_of (hT := tk) (Hp.le_refl _)) ?_
      all_goals refine rFa 0 ?_
      all_goals refine rLd 1 ?_
      all_goals refine rFa 2 ?_
      all_goals refine rLd 3 ?_
      all_goals (refine rStep (i := 4) ?_; ((try refine qWant ?_); (first | (refine qEf ?_; try intro _)) <;> ((try simp only [List.cons_append, List.nil_append, List.append_eq]); refine tl_nil ?_; refine rNext ?_)))
      all_goals refine rFull ?_
      all_goals refine rAs 5 ?_
      all_goals refine rAs 6 ?_
      all_goals refine rDone ?_
      all_goals (repeat' (first | (refine i_op ?_; first | (refine i_qq ?_; refine qQ ?_) | refine qEf ?_ | refine qAn ?_ | refine qXo ?_ | refine qNt ?_) | refine tl_nil ?_ | (refine i_tc ?_; refine qTc ?_) | (refine i_te ?_; refine qTe ?_) | intro _))
      all_goals exact qE (L' := diskK db k D') ⟨hl2, w, rfl, hC, hD2, rfl⟩
    | false =>
      rw [if_pos (.inr rfl)] at hR
      subst hR
      repeat' (first | (refine tl_is (.func 73) ?_; refine qC rfl rfl (hp) ?_; rintro v ρ' L' hle ⟨rfl, rfl, rfl⟩ <;> (try simp only [List.cons_append, List.nil_append, List.append_eq])) | (refine tl_is (.func 74) ?_; refine qC rfl rfl hcn ?_; rintro v2 ρ2 L2 hle2 ⟨hl2, w, rfl, hC, hD2, rfl⟩; try simp only [List.cons_append, List.nil_append, List.append_eq]) | (refine i_op ?_; first | (refine i_qq ?_; refine qQ ?_) | refine qEf ?_ | refine qAn ?_ | refine qXo ?_ | refine qNt ?_) | refine tl_nil ?_ | (refine i_tc ?_; refine qTc ?_) | (refine i_te ?_; refine qTe ?_) | intro _)
      exact qE (L' := diskK db k D') ⟨hl2, zCV, rfl, CIn.nil, hD2, rfl⟩
  · have hcb : (ec != 0) = true := by simpa using he
    rw [if_pos (.inl he)] at hR
    subst hR
    repeat' (first | (refine tl_is (.func 73) ?_; refine qC rfl rfl (hp) ?_; rintro v ρ' L' hle ⟨rfl, rfl, rfl⟩ <;> (try simp only [List.cons_append, List.nil_append, List.append_eq])) | (refine tl_is (.func 74) ?_; refine qC rfl rfl hcn ?_; rintro v2 ρ2 L2 hle2 ⟨hl2, w, rfl, hC, hD2, rfl⟩; try simp only [List.cons_append, List.nil_append, List.append_eq]) | (refine i_op ?_; first | (refine i_qq ?_; refine qQ ?_) | refine qEf ?_ | refine qAn ?_ | refine qXo ?_ | refine qNt ?_) | refine tl_nil ?_ | (refine i_tc ?_; refine qTc ?_) | (refine i_te ?_; refine qTe ?_) | intro _)
    exact qE (L' := diskK db k D') ⟨hl2, zCV, rfl, CIn.nil, hD2, rfl⟩
end Go.Proofs.E

-- BITS
namespace Go.Proofs.E
open Go
set_option linter.unusedVariables false
set_option linter.unusedSimpArgs false
set_option linter.unusedSectionVars false
set_option maxRecDepth 4000
set_option maxHeartbeats 1000000
attribute [local irreducible] Yl TL TC TE Spec YSpec R1 Hp.le EnvLe TS TR YS Stays
/-! ## writes -/
def partsW (ix : Nat) (a b : Blk) : List (Nat × Blk) := [(ix, a), (ix + 1, b)]
abbrev wS (b1 b2 b3 b4 fb num other : Nat) (a b : Blk) : SH := [[(b1, .cells ⟨(a ++ b).map u8c⟩ 110 (0, 0))], [(b2, .cells ⟨[.pointer (some ⟨fb, 0, none⟩)]⟩ 70 (0, 0))], [(b3, .cells ⟨[.int .i64 num]⟩ 3 (0, 0))], [(b4, .cells ⟨[.int .i64 other]⟩ 3 (0, 0))]]
theorem write_iter (ρ0 : Hp) (b1 b2 b3 b4 fb db base num other : Nat) (a b : Blk) (ha : a.length = 64) (hb : b.length = 64) (hf : FIn ρ0 fb db base) (hbase : base ≤ 100000) (hn : num < 64) (ho : other < 2) :
    Iter Try.prog 76 [] [.pointer (some ⟨b1, 0, none⟩), .pointer (some ⟨b2, 0, none⟩), .pointer (some ⟨b3, 0, none⟩), .pointer (some ⟨b4, 0, none⟩)] pencV ρ0 (wS b1 b2 b3 b4 fb num other a b) (partsW (base + 4 * num + 2 * other) a b) := by
  intro l J Jx hY ρ Lj hl0 hJ
  have hat := fun ρ (h : FIn ρ fb db base) => at_spec ρ fb db base num other h hbase hn ho
  have hix0 : base + 4 * num + 2 * other ≤ 200000 := by omega
  generalize base + 4 * num + 2 * other = ix at *
  have hab : ((a ++ b).map u8c).length = 128 := by simp [ha, hb]
  have hone := u8c_one (a ++ b)
  have hld : List.take 128 (List.drop 0 ((a ++ b).map u8c)) = (a ++ b).map u8c := by rw [List.drop_zero, List.take_of_length_le (by omega)]
  refine spec_enter Try.func76 rfl rfl rfl fun u R => ?_
  simp only [argsE, List.cons_append, List.nil_append, List.append_assoc]
  repeat' (first | (refine i_op ?_; first | (refine i_qq ?_; refine qQ ?_) | refine qEf ?_ | refine qAn ?_ | refine qXo ?_ | refine qNt ?_) | refine tl_nil ?_ | (refine i_tc ?_; refine qTc ?_) | (refine i_te ?_; refine qTe ?_) | intro _)
  refine tc_loop_g [(0, _), (2, _), (3, _), (4, _), (8, _)] (fun (ζ : (Nat) × (Hp) × (SH)) => [(9, .int .i64 ζ.1)]) (fun (ζ : (Nat) × (Hp) × (SH)) => ζ.2.1) (fun (ζ : (Nat) × (Hp) × (SH)) => wS b1 b2 b3 b4 fb num other a b ++ ζ.2.2) (fun (ζ : (Nat) × (Hp) × (SH)) => ζ.1 ≤ 2 ∧ ρ.le ζ.2.1 ∧ J ((partsW ix a b).take ζ.1) ζ.2.1 ζ.2.2) (fun (ζ : (Nat) × (Hp) × (SH)) => 2 - ζ.1) ((0, ρ, Lj)) (⟨Nat.zero_le _, Hp.le_refl _, hJ⟩) ev_le ev_le rfl tk ?_
  rintro ⟨i, ρ1, L1⟩ hI
  try simp only [List.cons_append, List.nil_append, List.append_assoc, List.append_eq] at hI ⊢
  try dsimp only at hI ⊢
  obtain ⟨hi, hle1, hj⟩ := hI
  by_cases hlt : i < 2
  · obtain ⟨blk, hbl, hix, hpw⟩ : ∃ blk : Blk, blk.length = 64 ∧ (((a ++ b).map u8c).drop (i * 64)).take 64 = blk.map u8c ∧ (partsW ix a b).take (i + 1) = (partsW ix a b).take i ++ [(ix + i, blk)] := by
      rcases (show i = 0 ∨ i = 1 by omega) with rfl | rfl
      · refine ⟨a, ha, ?_, rfl⟩
        rw [List.map_append, Nat.zero_mul, List.drop_zero, List.take_left' (by simpa using ha)]
      · refine ⟨b, hb, ?_, rfl⟩
        rw [List.map_append, Nat.one_mul, List.drop_left' (by simpa using ha), List.take_of_length_le (by simp; omega)]
    have hb64 : (blk.map u8c).length = 64 := by simpa using hbl
    have hbo := u8c_one blk
    have hpre : (partsW ix a b).take i ++ [(ix + i, blk)] <+: partsW ix a b := by rw [← hpw]; exact List.take_prefix _ _
    have hf1 := hf.mono (Hp.le_trans hl0 hle1)
    have hy := hY _ _ ρ1 L1 hpre (Hp.le_trans hl0 hle1) hj
    have hii : (ix : Int) + (i : Int) = ((ix + i : Nat) : Int) := by omega
    repeat' (first | (refine tl_y (y_index_a rfl rfl hlt hix) rfl rfl ?_) | (refine i_op ?_; first | (refine i_qq ?_; refine qQ ?_) | refine qEf ?_ | refine qAn ?_ | refine qXo ?_ | refine qNt ?_) | refine tl_nil ?_ | (refine i_tc ?_; refine qTc ?_) | (refine i_te ?_; refine qTe ?_) | intro _)
    rename_i b7
    refine tc_any (Stays _ _ ([[(b2, .cells ⟨[.pointer (some ⟨fb, 0, none⟩)]⟩ 70 (0, 0))], [(b3, .cells ⟨[.int .i64 num]⟩ 3 (0, 0))], [(b4, .cells ⟨[.int .i64 other]⟩ 3 (0, 0))], [(b7, .cells ⟨blk.map u8c⟩ 66 (0, 0))]])) (stays_of (hT := tk) (Hp.le_refl _)) ?_
    all_goals refine rMv 0 ?_
    all_goals refine rLd 1 ?_
    all_goals refine rLd 2 ?_
    all_goals refine rLd 3 ?_
    all_goals refine rMv 5 ?_
    all_goals refine rLd 7 ?_
    all_goals (refine rStep (i := 4) ?_; ((try refine qWant ?_); (first | (refine tl_is (.func 77) ?_; refine qC rfl rfl ((hat _ hf1)) ?_; rintro v ρ' L' hle ⟨rfl, rfl, rfl⟩ <;> (try simp only [List.cons_append, List.nil_append, List.append_eq])) | (refine qEf ?_; try intro _)) <;> ((try simp only [List.cons_append, List.nil_append, List.append_eq]); refine tl_nil ?_; refine rNext ?_)))
    all_goals refine rAd 6 ?_
    all_goals (refine rStep (i := 8) ?_; ((try refine qWant ?_); (first | (simp only [hii]; refine tl_is (.tmp 13) ?_; refine qY rfl rfl hy ?_; rintro v ρ' L' hle ⟨Lj', rfl, ⟨rfl, hj'⟩ | ⟨rfl, hj'⟩⟩ <;> (try simp only [List.cons_append, List.nil_append, List.append_eq, List.append_assoc])) | (refine qEf ?_; try intro _)) <;> ((try simp only [List.cons_append, List.nil_append, List.append_eq]); refine tl_nil ?_; refine rNext ?_)))
    all_goals refine rFull ?_
    all_goals refine rUn 9 ?_
    all_goals refine rDone ?_
    · repeat' (first | (refine i_op ?_; first | (refine i_qq ?_; refine qQ ?_) | refine qEf ?_ | refine qAn ?_ | refine qXo ?_ | refine qNt ?_) | refine tl_nil ?_ | (refine i_tc ?_; refine qTc ?_) | (refine i_te ?_; refine qTe ?_) | intro _)
      refine te_round_g (i + 1, ρ', Lj') (⟨hlt, Hp.le_trans hle1 hle, by dsimp only; rw [hpw]; exact hj'⟩) ev_le ev_le rfl tk inferInstance (by first | omega | (dsimp only; omega))
    · repeat' (first | (refine i_op ?_; first | (refine i_qq ?_; refine qQ ?_) | refine qEf ?_ | refine qAn ?_ | refine qXo ?_ | refine qNt ?_) | refine tl_nil ?_ | (refine i_tc ?_; refine qTc ?_) | (refine i_te ?_; refine qTe ?_) | intro _)
      exact qE (L' := wS b1 b2 b3 b4 fb num other a b ++ Lj') ⟨Lj', rfl, .inr hj'⟩
  · have h2 : i = 2 := by omega
    subst h2
    repeat' (first | (refine i_op ?_; first | (refine i_qq ?_; refine qQ ?_) | refine qEf ?_ | refine qAn ?_ | refine qXo ?_ | refine qNt ?_) | refine tl_nil ?_ | (refine i_tc ?_; refine qTc ?_) | (refine i_te ?_; refine qTe ?_) | intro _)
    exact qE (L' := wS b1 b2 b3 b4 fb num other a b ++ L1) ⟨L1, rfl, .inl hj⟩
def writeF (D : DS) (base num lsn : Nat) (c : Cont) : DS × Int :=
  if (countsD D base num).2.2 ≠ 0 then (countsD D base num).2
  else if (countsD D base num).1.1.most = 18446744073709551615 then ((countsD D base num).2.1, 6)
  else DS.lays (partsW (base + 4 * num + 2 * (countsD D base num).1.2) (partF num ((countsD D base num).1.1.most + 1) lsn c 0) (partF num ((countsD D base num).1.1.most + 1) lsn c 1)) (countsD D base num).2.1
theorem countsD_lt (D : DS) (base num : Nat) : (countsD D base num).1.1.most < 18446744073709551616 ∧ (countsD D base num).1.2 < 2 := by
  unfold countsD
  split
  · exact ⟨by show (0 : Nat) < _; omega, by show (0 : Nat) < 2; omega⟩
  · split
    · exact ⟨by show (0 : Nat) < _; omega, by show (0 : Nat) < 2; omega⟩
    · exact ⟨(csTo_lt D base num 2).2.1, (csTo_lt D base num 2).2.2⟩
theorem Write_no (ρ : Hp) (fb : Nat) (num : Int) (lsn : Nat) (c : Cont) (w : CV) (hn : ¬ (0 ≤ num ∧ num < 64)) : Spec Try.prog 31 [.pointer (some ⟨fb, 0, none⟩), .int .i64 num, .int .u64 lsn, .agg ⟨contV c.kind w⟩] ρ [] (fun v ρ' L' => v = .int .i64 2 ∧ ρ' = ρ ∧ L' = []) := by
  have hp := page_spec ρ num
  rw [decide_eq_false hn] at hp
  refine spec_enter Try.func31 rfl rfl rfl fun u R => ?_
  simp only [argsE, List.cons_append, List.nil_append]
  repeat' (first | (refine tl_is (.func 73) ?_; refine qC rfl rfl (hp) ?_; rintro v ρ' L' hle ⟨rfl, rfl, rfl⟩ <;> (try simp only [List.cons_append, List.nil_append, List.append_eq])) | (refine i_op ?_; first | (refine i_qq ?_; refine qQ ?_) | refine qEf ?_ | refine qAn ?_ | refine qXo ?_ | refine qNt ?_) | refine tl_nil ?_ | (refine i_tc ?_; refine qTc ?_) | (refine i_te ?_; refine qTe ?_) | intro _)
  exact qE (L' := []) ⟨rfl, rfl, rfl⟩
theorem Write_bad (ρ : Hp) (fb num lsn : Nat) (hn : num < 64) (c : Cont) (w : CV) (hC : CIn ρ w c.rows c.kids) (hok : contOk c = false) : Spec Try.prog 31 [.pointer (some ⟨fb, 0, none⟩), .int .i64 num, .int .u64 lsn, .agg ⟨contV c.kind w⟩] ρ [] (fun v ρ' L' => v = .int .i64 160 ∧ ρ' = ρ ∧ L' = []) := by
  have hp := page_spec ρ num
  rw [decide_eq_true ⟨by omega, by omega⟩] at hp
  have hck := check_spec ρ w c hC
  rw [hok] at hck
  simp only [Bool.false_eq_true, if_false] at hck
  refine spec_enter Try.func31 rfl rfl rfl fun u R => ?_
  simp only [argsE, List.cons_append, List.nil_append]
  repeat' (first | (refine tl_is (.func 73) ?_; refine qC rfl rfl (hp) ?_; rintro v ρ' L' hle ⟨rfl, rfl, rfl⟩ <;> (try simp only [List.cons_append, List.nil_append, List.append_eq])) | (refine tl_is (.func 38) ?_; refine qC rfl rfl (hck) ?_; rintro v ρ' L' hle ⟨rfl, rfl, rfl⟩ <;> (try simp only [List.cons_append, List.nil_append, List.append_eq])) | (refine i_op ?_; first | (refine i_qq ?_; refine qQ ?_) | refine qEf ?_ | refine qAn ?_ | refine qXo ?_ | refine qNt ?_) | refine tl_nil ?_ | (refine i_tc ?_; refine qTc ?_) | (refine i_te ?_; refine qTe ?_) | intro _)
  exact qE (L' := []) ⟨rfl, rfl, rfl⟩
theorem Write_spec (ρ : Hp) (fb db base num lsn : Nat) (hf : FIn ρ fb db base) (hb : base ≤ 100000) (hn : num < 64) (hls : lsn < 18446744073709551616) (c : Cont) (w : CV) (hC : CIn ρ w c.rows c.kids) (hok : contOk c = true) (hir : ∀ r ∈ c.rows, r.id < 65536) (hik : ∀ k ∈ c.kids, k.id < 65536) (k : DK) (D : DS) (hD : DOk k D) :
    Spec Try.prog 31 [.pointer (some ⟨fb, 0, none⟩), .int .i64 num, .int .u64 lsn, .agg ⟨contV c.kind w⟩] ρ (diskK db k D) (fun v ρ' L' => v = .int .i64 (writeF D base num lsn c).2 ∧ ρ.le ρ' ∧ ∃ k', DOk k' (writeF D base num lsn c).1 ∧ L' = diskK db k' (writeF D base num lsn c).1) := by
  have hp := page_spec ρ num
  rw [decide_eq_true ⟨by omega, by omega⟩] at hp
  have hck := check_spec ρ w c hC
  rw [hok] at hck
  simp only [if_true] at hck
  have hcn := fcounts_spec ρ fb db base num hf hb hn k D hD
  have hclt := countsD_lt D base num
  have hR : writeF D base num lsn c = if (countsD D base num).2.2 ≠ 0 then (countsD D base num).2
    else if (countsD D base num).1.1.most = 18446744073709551615 then ((countsD D base num).2.1, 6)
    else DS.lays (partsW (base + 4 * num + 2 * (countsD D base num).1.2) (partF num ((countsD D base num).1.1.most + 1) lsn c 0) (partF num ((countsD D base num).1.1.most + 1) lsn c 1)) (countsD D base num).2.1 := rfl
  generalize writeF D base num lsn c = RES at *
  generalize countsD D base num = r at *
  obtain ⟨⟨⟨st, ls, c0, rt, mo⟩, ot⟩, D', ec⟩ := r
  dsimp only at hR hcn hclt
  refine spec_enter Try.func31 rfl rfl rfl fun u R => ?_
  simp only [argsE, List.cons_append, List.nil_append]
  by_cases he : ec = 0
  · subst he
    rw [if_neg (by simp)] at hR
    by_cases hmo : mo = 18446744073709551615
    · rw [if_pos hmo] at hR
      subst hR
      have hmo' : ((mo : Nat) : Int) = 18446744073709551615 := by omega
      repeat' (first | (refine tl_is (.func 73) ?_; refine qC rfl rfl (hp) ?_; rintro v ρ' L' hle ⟨rfl, rfl, rfl⟩ <;> (try simp only [List.cons_append, List.nil_append, List.append_eq])) | (refine tl_is (.func 38) ?_; refine qC rfl rfl (hck) ?_; rintro v ρ' L' hle ⟨rfl, rfl, rfl⟩ <;> (try simp only [List.cons_append, List.nil_append, List.append_eq])) | (refine tl_is (.func 74) ?_; refine qC rfl rfl hcn ?_; rintro v2 ρ2 L2 hle2 ⟨hl2, w2, rfl, hC2, hD2, rfl⟩; try simp only [List.cons_append, List.nil_append, List.append_eq]) | (refine i_op ?_; first | (refine i_qq ?_; refine qQ ?_) | refine qEf ?_ | refine qAn ?_ | refine qXo ?_ | refine qNt ?_) | refine tl_nil ?_ | (refine i_tc ?_; refine qTc ?_) | (refine i_te ?_; refine qTe ?_) | intro _)
      exact qE (L' := diskK db k D') ⟨rfl, hl2, k, hD2, rfl⟩
    · rw [if_neg hmo] at hR
      have hmo' : ¬ ((mo : Nat) : Int) = 18446744073709551615 := by omega
      have hm1 : ((mo : Nat) : Int) + 1 = ((mo + 1 : Nat) : Int) := by omega
      have hmlt : mo + 1 < 18446744073709551616 := by omega
      repeat' (first | (refine tl_is (.func 73) ?_; refine qC rfl rfl (hp) ?_; rintro v ρ' L' hle ⟨rfl, rfl, rfl⟩ <;> (try simp only [List.cons_append, List.nil_append, List.append_eq])) | (refine tl_is (.func 38) ?_; refine qC rfl rfl (hck) ?_; rintro v ρ' L' hle ⟨rfl, rfl, rfl⟩ <;> (try simp only [List.cons_append, List.nil_append, List.append_eq])) | (refine tl_is (.func 74) ?_; refine qC rfl rfl hcn ?_; rintro v2 ρ2 L2 hle2 ⟨hl2, w2, rfl, hC2, hD2, rfl⟩; try simp only [List.cons_append, List.nil_append, List.append_eq]) | (refine tl_y (y_build (vs := [.int .u64 ((mo + 1 : Nat) : Int), .int .u64 lsn, .agg ⟨contV c.kind w⟩]) (cells := ⟨slV ⟨mo + 1, lsn, c, false, 0⟩ w⟩) rfl rfl) rfl rfl ?_) | (refine i_op ?_; first | (refine i_qq ?_; refine qQ ?_) | refine qEf ?_ | refine qAn ?_ | refine qXo ?_ | refine qNt ?_) | refine tl_nil ?_ | (refine i_tc ?_; refine qTc ?_) | (refine i_te ?_; refine qTe ?_) | intro _)
      repeat' (first | (refine tl_is (.func 75) ?_; refine qC rfl rfl (parts_spec _ num hn ⟨mo + 1, lsn, c, false, 0⟩ w (hC.mono hl2) hok hir hik hmlt hls) ?_; rintro v5 ρ5 L5 hle5 ⟨rfl, hl5, rfl⟩; dsimp only; have hP0 := partF_len num (mo + 1) lsn c (i := 0) (by omega); have hP1 := partF_len num (mo + 1) lsn c (i := 1) (by omega); have hPo := u8c_one (partF num (mo + 1) lsn c 0 ++ partF num (mo + 1) lsn c 1); have hPl : ((partF num (mo + 1) lsn c 0 ++ partF num (mo + 1) lsn c 1).map u8c).length = 128 := (by simp [hP0, hP1]); try simp only [List.cons_append, List.nil_append, List.append_eq]) | (refine i_op ?_; first | (refine i_qq ?_; refine qQ ?_) | refine qEf ?_ | refine qAn ?_ | refine qXo ?_ | refine qNt ?_) | refine tl_nil ?_ | (refine i_tc ?_; refine qTc ?_) | (refine i_te ?_; refine qTe ?_) | intro _)
      rename_i b4 b5 b7 hq b10 b11 b13
      have hf5 := hf.mono (Hp.le_trans hl2 hl5)
      have h64 : ∀ p ∈ partsW (base + 4 * num + 2 * ot) (partF num (mo + 1) lsn c 0) (partF num (mo + 1) lsn c 1), p.2.length = 64 := fun p hp => by
        simp only [partsW, List.mem_cons, List.not_mem_nil, or_false] at hp
        rcases hp with rfl | rfl
        · exact hP0
        · exact hP1
      repeat' (first | (refine tl_is (.func 71) ?_; refine qC rfl rfl (row_spec _ _ fb base 76 [.pointer (some ⟨b13, 0, none⟩), .pointer (some ⟨b4, 0, none⟩), .pointer (some ⟨b5, 0, none⟩), .pointer (some ⟨b11, 0, none⟩)] (wS b13 b4 b5 b11 fb num ot (partF num (mo + 1) lsn c 0) (partF num (mo + 1) lsn c 1)) _ (Hp.le_refl _) (write_iter _ b13 b4 b5 b11 fb db base num ot _ _ hP0 hP1 hf5 hb hn hclt.2) h64 db hf5 k D' hD2) ?_; rintro v6 ρ6 L6 hle6 ⟨rfl, hl6, k6, hD6, rfl⟩; simp only [List.cons_append, List.nil_append, List.append_assoc, List.append_eq]) | (refine i_op ?_; first | (refine i_qq ?_; refine qQ ?_) | refine qEf ?_ | refine qAn ?_ | refine qXo ?_ | refine qNt ?_) | refine tl_nil ?_ | (refine i_tc ?_; refine qTc ?_) | (refine i_te ?_; refine qTe ?_) | intro _)
      subst hR
      have hfin := Hp.le_trans hl2 (Hp.le_trans hl5 hl6)
      exact qE (L' := diskK db k6 _) ⟨rfl, hfin, k6, hD6, rfl⟩
  · have hcb : (ec != 0) = true := by simpa using he
    rw [if_pos he] at hR
    subst hR
    repeat' (first | (refine tl_is (.func 73) ?_; refine qC rfl rfl (hp) ?_; rintro v ρ' L' hle ⟨rfl, rfl, rfl⟩ <;> (try simp only [List.cons_append, List.nil_append, List.append_eq])) | (refine tl_is (.func 38) ?_; refine qC rfl rfl (hck) ?_; rintro v ρ' L' hle ⟨rfl, rfl, rfl⟩ <;> (try simp only [List.cons_append, List.nil_append, List.append_eq])) | (refine tl_is (.func 74) ?_; refine qC rfl rfl hcn ?_; rintro v2 ρ2 L2 hle2 ⟨hl2, w2, rfl, hC2, hD2, rfl⟩; try simp only [List.cons_append, List.nil_append, List.append_eq]) | (refine i_op ?_; first | (refine i_qq ?_; refine qQ ?_) | refine qEf ?_ | refine qAn ?_ | refine qXo ?_ | refine qNt ?_) | refine tl_nil ?_ | (refine i_tc ?_; refine qTc ?_) | (refine i_te ?_; refine qTe ?_) | intro _)
    exact qE (L' := diskK db k D') ⟨rfl, hl2, k, hD2, rfl⟩
end Go.Proofs.E

namespace Go.Proofs.E
open Go
set_option linter.unusedVariables false
set_option linter.unusedSimpArgs false
set_option linter.unusedSectionVars false
set_option maxRecDepth 4000
set_option maxHeartbeats 1000000
attribute [local irreducible] Yl TL TC TE Spec YSpec R1 Hp.le EnvLe TS TR YS Stays
/-! ## what is laid is said -/
def M64 : Nat := 18446744073709551616
structure Fit (c : Cont) : Prop where
  ok : contOk c = true
  id : IdFit c
theorem dataB_eq {c : Cont} (h : contOk c = true) : dataB c = UInt8.ofNat (contB c).length :: (contB c ++ z8 (83 - (contB c).length)) := by
  have := contB_len h
  unfold dataB
  rw [fit_lay (by simp; omega)]
  simp only [List.length_cons, List.cons_append]
  congr 3; omega
theorem data_halves (c : Cont) : ((dataB c).drop (42 * 0)).take 42 ++ ((dataB c).drop (42 * 1)).take 42 = dataB c := by
  have h := dataB_len c
  rw [Nat.mul_zero, List.drop_zero, List.take_of_length_le (l := (dataB c).drop (42 * 1)) (by simp; omega), List.take_append_drop]
theorem body_drop (num st lsn : Nat) (c : Cont) (i k : Nat) : (bodyF num st lsn c i).drop (2 + k) = (be 8 st ++ (be 8 lsn ++ ((dataB c).drop (42 * i)).take 42)).drop k := by
  unfold bodyF
  rw [Nat.add_comm, List.drop_succ_cons, List.drop_succ_cons]
theorem part_stamp (num st lsn : Nat) (c : Cont) {i : Nat} (hi : i < 2) (hst : st < M64) : stampOf (partF num st lsn c i) = st := by
  have hb := bodyF_len num st lsn c hi
  unfold stampOf partF
  rw [List.drop_append_of_le_length (by omega), List.take_append_of_le_length (by simp; omega), show 2 = 2 + 0 from rfl, body_drop, List.drop_zero, List.take_left' (be_length _ _), unbe_be]
  exact Nat.mod_eq_of_lt (by simpa [M64] using hst)
theorem part_lsn (num st lsn : Nat) (c : Cont) {i : Nat} (hi : i < 2) (hl : lsn < M64) : unbe (((partF num st lsn c i).drop 10).take 8) = lsn := by
  have hb := bodyF_len num st lsn c hi
  unfold partF
  rw [List.drop_append_of_le_length (by omega), List.take_append_of_le_length (by simp; omega), show 10 = 2 + 8 from rfl, body_drop, List.drop_left' (be_length _ _), List.take_left' (be_length _ _), unbe_be]
  exact Nat.mod_eq_of_lt (by simpa [M64] using hl)
theorem part_data (num st lsn : Nat) (c : Cont) {i : Nat} (hi : i < 2) : ((partF num st lsn c i).drop 18).take 42 = ((dataB c).drop (42 * i)).take 42 := by
  have hb := bodyF_len num st lsn c hi
  have hd := dataB_len c
  unfold partF
  rw [List.drop_append_of_le_length (by omega), List.take_append_of_le_length (by simp; omega), show 18 = 2 + 16 from rfl, body_drop, ← List.append_assoc, List.drop_left' (by simp [be_length])]
  rw [List.take_of_length_le (by simp; omega)]
theorem part_ok (num st lsn : Nat) (c : Cont) {i : Nat} (hi : i < 2) (hn : num < 64) : PartOk num i (partF num st lsn c i) := by
  have hb := bodyF_len num st lsn c hi
  refine ⟨?_, ?_, ?_⟩
  · show (UInt8.ofNat num).toNat = num
    simp; omega
  · show (UInt8.ofNat i).toNat = i
    simp; omega
  · unfold partF
    rw [List.drop_left' hb, List.take_left' hb, unbe_be]
    exact Nat.mod_eq_of_lt (by have := sumB_lt (bodyF num st lsn c i); simpa using this)
theorem says_part (num st lsn : Nat) (c : Cont) (hc : Fit c) (h0 : 0 < st) (hst : st < M64) (hl : lsn < M64) : saysF num (partF num st lsn c 0) (partF num st lsn c 1) = ⟨st, lsn, c, true, 0⟩ := by
  have hde := dataB_eq hc.ok
  have h82 := contB_len hc.ok
  have e0 : ((partF num st lsn c 0).getD 18 0).toNat = (contB c).length := by
    have h1 := part_data num st lsn c (i := 0) (by omega)
    rw [Nat.mul_zero, List.drop_zero, hde] at h1
    have h2 : ((partF num st lsn c 0).drop 18).take 42 = ((partF num st lsn c 0).drop 18).take 42 := rfl
    have h3 := congrArg (fun l : Bs => l[0]?) h1
    simp only [List.take_succ_cons, List.getElem?_cons_zero] at h3
    rw [List.getElem?_take_of_lt (by omega), List.getElem?_drop] at h3
    rw [List.getD_eq_getElem?_getD, h3]
    simp; omega
  have e1 : ((partF num st lsn c 0).drop 18).take 42 ++ ((partF num st lsn c 1).drop 18).take 42 = dataB c := by
    rw [part_data _ _ _ _ (by omega), part_data _ _ _ _ (by omega), data_halves]
  have e2 : ((dataB c).drop 1).take (contB c).length = contB c := by rw [hde, List.drop_succ_cons, List.drop_zero, List.take_left]
  have e3 := takeCont_back hc.ok hc.id []
  rw [List.append_nil] at e3
  have e4 : unbe (((partF num st lsn c 0).drop 2).take 8) = st := part_stamp num st lsn c (by omega) hst
  unfold saysF
  rw [e0, if_neg (by omega), e1, e2, e3, e4, part_lsn _ _ _ _ (by omega) hl]
  simp [h0]
/-- a slot that is right has parts of one stamp -/
theorem says_right {num : Nat} {a b : Blk} (ha : a.length = 64) (hb : b.length = 64) (h : (saysF num a b).right = true) : 0 < stampOf a ∧ stampOf b = stampOf a ∧ (saysF num a b).stamp = stampOf a := by
  have hlt := stampOf_lt a
  unfold saysF at h ⊢
  split
  · rename_i hc; rw [if_pos hc] at h; cases h
  · rename_i hc
    rw [if_neg hc] at h
    dsimp only at h ⊢
    have h' := of_decide_eq_true h
    obtain ⟨h1, h2, h3, h4⟩ := h'
    have hp0 := partF_len num (unbe ((a.drop 2).take 8)) (unbe ((a.drop 10).take 8)) (takeContR ((((a.drop 18).take 42 ++ (b.drop 18).take 42).drop 1).take (a.getD 18 0).toNat)).1 (i := 0) (by omega)
    have hb1 := (List.append_inj h4 (by omega)).2
    refine ⟨h3, ?_, rfl⟩
    exact (congrArg stampOf hb1).symm.trans (part_stamp num _ _ _ (by decide) hlt)
theorem stamp_zblk : stampOf zblk = 0 := by
  unfold stampOf
  rw [zblk_z]
  simp only [z8, List.drop_replicate]
  exact z8_take _ _
def Sec (num i t : Nat) (b : Blk) : Prop := b = zblk ∨ ∃ st lsn c, 0 < st ∧ st ≤ t ∧ b = partF num st lsn c i
theorem Sec.mono {num i t t' : Nat} {b : Blk} (h : Sec num i t b) (ht : t ≤ t') : Sec num i t' b := by
  rcases h with h | ⟨st, lsn, c, h1, h2, h3⟩
  · exact .inl h
  · exact .inr ⟨st, lsn, c, h1, by omega, h3⟩
theorem Sec.len {num i t : Nat} {b : Blk} (h : Sec num i t b) (hi : i < 2) : b.length = 64 := by
  rcases h with rfl | ⟨st, lsn, c, h1, h2, rfl⟩
  · rfl
  · exact partF_len _ _ _ _ hi
theorem Sec.stamp {num i t : Nat} {b : Blk} (h : Sec num i t b) (hi : i < 2) (hn : num < 64) (ht : t < M64) : stampR num i b = stampOf b ∧ stampOf b ≤ t := by
  rcases h with rfl | ⟨st, lsn, c, h1, h2, rfl⟩
  · unfold stampR
    rw [stamp_zblk]
    exact ⟨by split <;> rfl, Nat.zero_le _⟩
  · rw [part_stamp num st lsn c hi (by omega)]
    exact ⟨by unfold stampR; rw [if_pos (part_ok num st lsn c hi hn), part_stamp num st lsn c hi (by omega)], h2⟩
def cs2 (num : Nat) (a0 b0 a1 b1 : Blk) : CS := ((⟨zSl, 0, 0⟩ : CS).step 0 (slotAt num a0 b0)).step 1 (slotAt num a1 b1)
abbrev Held := Cont × Nat
def zHeld : Held := (⟨0, [], []⟩, 0)
def heldOf (cs : CS) : Held := if cs.best.right = true then (cs.best.c, cs.best.lsn) else zHeld
def sayH (num : Nat) (a b : Blk) : Held := ((saysF num a b).c, (saysF num a b).lsn)
theorem cs2_eq (num : Nat) (a0 b0 a1 b1 : Blk) : heldOf (cs2 num a0 b0 a1 b1) = (if (saysF num a0 b0).right = true then (if (saysF num a1 b1).right = true ∧ (saysF num a0 b0).stamp < (saysF num a1 b1).stamp then sayH num a1 b1 else sayH num a0 b0) else if (saysF num a1 b1).right = true then sayH num a1 b1 else zHeld) ∧
    (cs2 num a0 b0 a1 b1).other = (if (saysF num a0 b0).right = true then (if (saysF num a1 b1).right = true ∧ (saysF num a0 b0).stamp < (saysF num a1 b1).stamp then 0 else 1) else 0) ∧
    (cs2 num a0 b0 a1 b1).most = max (stampsF num a0 b0) (stampsF num a1 b1) := by
  unfold cs2 CS.step heldOf sayH slotAt
  generalize stampsF num a0 b0 = m0
  generalize stampsF num a1 b1 = m1
  generalize saysF num a0 b0 = s0
  generalize saysF num a1 b1 = s1
  obtain ⟨st0, ls0, c0, r0, mo0⟩ := s0
  obtain ⟨st1, ls1, c1, r1, mo1⟩ := s1
  cases r0
  · cases r1
    · simp [zSl]
    · simp [zSl]
  · cases r1
    · simp [zSl]
    · by_cases hlt : st0 < st1
      · simp [zSl, hlt]
      · simp [zSl, hlt]
/-- what stands in a slot of which some parts are new -/
theorem mixed {num t lsn : Nat} {c : Cont} {a b x y : Blk} (hn : num < 64) (hc : Fit c) (hl : lsn < M64) (ht : t + 1 < M64) (ha : Sec num 0 t a) (hb : Sec num 1 t b)
    (hx : x = a ∨ x = partF num (t + 1) lsn c 0) (hy : y = b ∨ y = partF num (t + 1) lsn c 1) :
    (x = a ∧ y = b) ∨ (saysF num x y).right = false ∨ (saysF num x y = ⟨t + 1, lsn, c, true, 0⟩) := by
  have h1 := ha.stamp (by omega) hn (by omega)
  have h2 := hb.stamp (by omega) hn (by omega)
  have p0 := part_stamp num (t + 1) lsn c (i := 0) (by omega) ht
  have p1 := part_stamp num (t + 1) lsn c (i := 1) (by omega) ht
  rcases hx with rfl | rfl
  · rcases hy with rfl | rfl
    · exact .inl ⟨rfl, rfl⟩
    · right; left
      cases hr : (saysF num x (partF num (t + 1) lsn c 1)).right with
      | false => rfl
      | true =>
        have := says_right (ha.len (by omega)) (partF_len _ _ _ _ (by omega)) hr
        rw [p1] at this; omega
  · rcases hy with rfl | rfl
    · right; left
      cases hr : (saysF num (partF num (t + 1) lsn c 0) y).right with
      | false => rfl
      | true =>
        have := says_right (partF_len _ _ _ _ (by omega)) (hb.len (by omega)) hr
        rw [p0] at this; omega
    · exact .inr (.inr (says_part num (t + 1) lsn c hc (by omega) ht hl))
theorem stampsF_le {num t : Nat} {a b : Blk} (hn : num < 64) (ht : t < M64) (ha : Sec num 0 t a) (hb : Sec num 1 t b) : stampsF num a b ≤ t ∧ ((saysF num a b).right = true → (saysF num a b).stamp ≤ stampsF num a b) := by
  have h1 := ha.stamp (by omega) hn ht
  have h2 := hb.stamp (by omega) hn ht
  unfold stampsF
  rw [h1.1, h2.1]
  refine ⟨by omega, fun hr => ?_⟩
  have := says_right (ha.len (by omega)) (hb.len (by omega)) hr
  omega
/-- behind a write, whole or not, of the slot that does not count -/
theorem wrote {num mo lsn : Nat} {c : Cont} {a0 b0 a1 b1 x0 y0 x1 y1 : Blk} (hn : num < 64) (hc : Fit c) (hl : lsn < M64) (h0 : Sec num 0 mo a0) (h1 : Sec num 1 mo b0) (h2 : Sec num 0 mo a1) (h3 : Sec num 1 mo b1) (hmo : mo = (cs2 num a0 b0 a1 b1).most) (ht : mo + 1 < M64)
    (hx0 : x0 = a0 ∨ (cs2 num a0 b0 a1 b1).other = 0 ∧ x0 = partF num (mo + 1) lsn c 0) (hy0 : y0 = b0 ∨ (cs2 num a0 b0 a1 b1).other = 0 ∧ y0 = partF num (mo + 1) lsn c 1)
    (hx1 : x1 = a1 ∨ (cs2 num a0 b0 a1 b1).other = 1 ∧ x1 = partF num (mo + 1) lsn c 0) (hy1 : y1 = b1 ∨ (cs2 num a0 b0 a1 b1).other = 1 ∧ y1 = partF num (mo + 1) lsn c 1) :
    (heldOf (cs2 num x0 y0 x1 y1) = heldOf (cs2 num a0 b0 a1 b1) ∨ heldOf (cs2 num x0 y0 x1 y1) = (c, lsn)) ∧
    ((if (cs2 num a0 b0 a1 b1).other = 0 then x0 = partF num (mo + 1) lsn c 0 ∧ y0 = partF num (mo + 1) lsn c 1 else x1 = partF num (mo + 1) lsn c 0 ∧ y1 = partF num (mo + 1) lsn c 1) → heldOf (cs2 num x0 y0 x1 y1) = (c, lsn)) := by
  obtain ⟨e1, e2, e3⟩ := cs2_eq num a0 b0 a1 b1
  obtain ⟨f1, _, _⟩ := cs2_eq num x0 y0 x1 y1
  have g0 := stampsF_le hn (by omega) h0 h1
  have g1 := stampsF_le hn (by omega) h2 h3
  have hsp := says_part num (mo + 1) lsn c hc (by omega) ht hl
  rw [e3] at hmo
  have q0 : (saysF num a0 b0).right = true → (saysF num a0 b0).stamp ≤ mo := fun h => by have := g0.2 h; omega
  have q1 : (saysF num a1 b1).right = true → (saysF num a1 b1).stamp ≤ mo := fun h => by have := g1.2 h; omega
  by_cases ho : (cs2 num a0 b0 a1 b1).other = 0
  · have hx1' : x1 = a1 := hx1.resolve_right (fun h => by omega)
    have hy1' : y1 = b1 := hy1.resolve_right (fun h => by omega)
    subst hx1'; subst hy1'
    rw [if_pos ho]
    have hnc : ¬ ((saysF num a0 b0).right = true ∧ ¬ ((saysF num x1 y1).right = true ∧ (saysF num a0 b0).stamp < (saysF num x1 y1).stamp)) := fun hh => by
      rw [e2, if_pos hh.1, if_neg hh.2] at ho; cases ho
    have hold : heldOf (cs2 num a0 b0 x1 y1) = if (saysF num x1 y1).right = true then sayH num x1 y1 else zHeld := by
      rw [e1]
      by_cases hr : (saysF num a0 b0).right = true
      · have hq : (saysF num x1 y1).right = true ∧ (saysF num a0 b0).stamp < (saysF num x1 y1).stamp := Classical.not_not.1 (fun h => hnc ⟨hr, h⟩)
        rw [if_pos hr, if_pos hq, if_pos hq.1]
      · rw [if_neg hr]
    have hnew : saysF num x0 y0 = ⟨mo + 1, lsn, c, true, 0⟩ → heldOf (cs2 num x0 y0 x1 y1) = (c, lsn) := fun he => by
      rw [f1, he, if_pos rfl, if_neg (fun hh => by have := q1 hh.1; have := hh.2; dsimp only at this; omega)]
      unfold sayH; rw [he]
    refine ⟨?_, fun hh => hnew (by rw [hh.1, hh.2]; exact hsp)⟩
    rcases mixed hn hc hl ht h0 h1 (hx0.imp id (·.2)) (hy0.imp id (·.2)) with ⟨rfl, rfl⟩ | hm | hm
    · exact .inl rfl
    · left
      rw [hold, f1, hm, if_neg (by simp)]
    · exact .inr (hnew hm)
  · have hx0' : x0 = a0 := hx0.resolve_right (fun h => ho h.1)
    have hy0' : y0 = b0 := hy0.resolve_right (fun h => ho h.1)
    subst hx0'; subst hy0'
    rw [if_neg ho]
    have hr : (saysF num x0 y0).right = true := Classical.not_not.1 (fun h => ho (by rw [e2, if_neg h]))
    have hnq : ¬ ((saysF num a1 b1).right = true ∧ (saysF num x0 y0).stamp < (saysF num a1 b1).stamp) := fun h => ho (by rw [e2, if_pos hr, if_pos h])
    have hold : heldOf (cs2 num x0 y0 a1 b1) = sayH num x0 y0 := by rw [e1, if_pos hr, if_neg hnq]
    have hnew : saysF num x1 y1 = ⟨mo + 1, lsn, c, true, 0⟩ → heldOf (cs2 num x0 y0 x1 y1) = (c, lsn) := fun he => by
      rw [f1, if_pos hr, he, if_pos ⟨rfl, by have := q0 hr; dsimp only; omega⟩]
      unfold sayH; rw [he]
    refine ⟨?_, fun hh => hnew (by rw [hh.1, hh.2]; exact hsp)⟩
    rcases mixed hn hc hl ht h2 h3 (hx1.imp id (·.2)) (hy1.imp id (·.2)) with ⟨rfl, rfl⟩ | hm | hm
    · exact .inl rfl
    · left
      rw [hold, f1, if_pos hr, hm, if_neg (by simp)]
    · exact .inr (hnew hm)
end Go.Proofs.E

namespace Go.Proofs.E
open Go
set_option linter.unusedVariables false
set_option linter.unusedSimpArgs false
set_option linter.unusedSectionVars false
set_option maxRecDepth 4000
set_option maxHeartbeats 1000000
attribute [local irreducible] Yl TL TC TE Spec YSpec R1 Hp.le EnvLe TS TR YS Stays
/-! ## what a disk says of a file -/
theorem Sec.least {num i t m : Nat} {b : Blk} (h : Sec num i t b) (hi : i < 2) (ht : t < M64) (hm : stampOf b ≤ m) : Sec num i m b := by
  rcases h with h | ⟨st, lsn, c, h1, h2, rfl⟩
  · exact .inl h
  · rw [part_stamp num st lsn c hi (by omega)] at hm
    exact .inr ⟨st, lsn, c, h1, hm, rfl⟩
abbrev pg (D : DS) (base num j : Nat) : Blk := img D (base + 4 * num + j)
abbrev csD (D : DS) (base num : Nat) : CS := cs2 num (pg D base num 0) (pg D base num 1) (pg D base num 2) (pg D base num 3)
structure FO (D : DS) (base t : Nat) (held : Nat → Held) : Prop where
  dok : D.Ok
  alive : D.dead = false
  empty : emptyC D.secs
  len : base + 256 ≤ D.secs.length
  sec : ∀ num j, num < 64 → j < 4 → Sec num (j % 2) t (pg D base num j)
  held : ∀ num, num < 64 → heldOf (csD D base num) = held num
theorem FO.congr {D D' : DS} {base t : Nat} {held : Nat → Held} (h : FO D base t held) (hs : D'.secs = D.secs) (hok : D'.Ok) (ha : D'.dead = false) : FO D' base t held := by
  have hi := img_congr hs
  exact ⟨hok, ha, by rw [hs]; exact h.empty, by rw [hs]; exact h.len, fun num j h1 h2 => by unfold pg; rw [hi]; exact h.sec num j h1 h2, fun num h1 => by unfold csD pg; rw [hi]; exact h.held num h1⟩
theorem FO.crash {D : DS} {base t : Nat} {held : Nat → Held} (h : FO D base t held) (keep : Nat → Bool) : FO (D.crash keep) base t held :=
  h.congr (by simp only [DS.crash]; exact settled_empty h.empty) h.dok.crash rfl
theorem rd_ok {D : DS} (he : emptyC D.secs) (ha : D.dead = false) {i : Nat} (hi : i < D.secs.length) : (D.read (i : Int)).1.dead = false ∧ ((D.read (i : Int)).2.2 = 0 → (D.read (i : Int)).2.1 = img D i) := by
  unfold DS.read
  rw [if_neg (by simp [ha]), if_neg (by omega)]
  split
  · exact ⟨ha, fun h => by simp at h⟩
  · refine ⟨ha, fun _ => ?_⟩
    rw [img_at hi]
    simp [says1, List.getElem?_eq_getElem hi, he _ (List.getElem_mem hi)]
theorem rdSlot_img {D : DS} (he : emptyC D.secs) (ha : D.dead = false) {i : Nat} (hi : i + 1 < D.secs.length) : (rdSlot D i).1.dead = false ∧ ((rdSlot D i).2.2 = 0 → (rdSlot D i).2.1 = (img D i, img D (i + 1))) := by
  obtain ⟨h1, h2⟩ := rd_ok he ha (i := i) (by omega)
  have hs := read_secs (D := D) (i : Int)
  obtain ⟨h3, h4⟩ := rd_ok (D := (D.read (i : Int)).1) (by rw [hs]; exact he) h1 (i := i + 1) (by rw [hs]; exact hi)
  rw [img_congr hs] at h4
  unfold rdSlot
  split
  · rename_i hc; exact ⟨h1, fun h => absurd h hc⟩
  · rename_i hc
    split
    · rename_i hd; exact ⟨h3, fun h => absurd h hd⟩
    · rename_i hd
      refine ⟨h3, fun _ => ?_⟩
      rw [h2 (Classical.not_not.1 hc), h4 (Classical.not_not.1 hd)]
theorem slD_alive {D : DS} {base num : Nat} (he : emptyC D.secs) (ha : D.dead = false) (hl : base + 4 * num + 4 ≤ D.secs.length) : ∀ k, k ≤ 2 → (slD D base num k).dead = false
  | 0, _ => ha
  | k + 1, hk => (rdSlot_img (D := slD D base num k) (by rw [slD_secs]; exact he) (slD_alive he ha hl k (by omega)) (i := base + 4 * num + 2 * k) (by rw [slD_secs]; omega)).1
theorem slR_img {D : DS} {base num k : Nat} (he : emptyC D.secs) (ha : D.dead = false) (hl : base + 4 * num + 4 ≤ D.secs.length) (hk : k < 2) (h0 : (slR D base num k).2.2 = 0) : (slR D base num k).2.1 = (pg D base num (2 * k), pg D base num (2 * k + 1)) := by
  have := (rdSlot_img (D := slD D base num k) (by rw [slD_secs]; exact he) (slD_alive he ha hl k (by omega)) (i := base + 4 * num + 2 * k) (by rw [slD_secs]; omega)).2 h0
  rw [img_congr (slD_secs D base num k)] at this
  exact this
theorem countsD_secs {D : DS} {base num : Nat} : (countsD D base num).2.1.secs = D.secs := by
  unfold countsD
  split
  · exact slD_secs D base num 1
  · split
    · exact slD_secs D base num 2
    · exact slD_secs D base num 2
theorem countsD_ok {D : DS} {base num : Nat} (h : D.Ok) : (countsD D base num).2.1.Ok := by
  unfold countsD
  split
  · exact slD_ok h 1
  · split
    · exact slD_ok h 2
    · exact slD_ok h 2
theorem countsD_alive {D : DS} {base num : Nat} (he : emptyC D.secs) (ha : D.dead = false) (hl : base + 4 * num + 4 ≤ D.secs.length) : (countsD D base num).2.1.dead = false := by
  unfold countsD
  split
  · exact slD_alive he ha hl 1 (by omega)
  · split
    · exact slD_alive he ha hl 2 (by omega)
    · exact slD_alive he ha hl 2 (by omega)
theorem countsD_val {D : DS} {base num : Nat} (he : emptyC D.secs) (ha : D.dead = false) (hl : base + 4 * num + 4 ≤ D.secs.length) (h0 : (countsD D base num).2.2 = 0) :
    (countsD D base num).1 = ({ (csD D base num).best with most := (csD D base num).most }, (csD D base num).other) := by
  unfold countsD at h0 ⊢
  split at h0
  · rename_i hc; exact absurd h0 hc
  · rename_i hc
    split at h0
    · rename_i hd; exact absurd h0 hd
    · rename_i hd
      have e0 := slR_img he ha hl (k := 0) (by omega) (Classical.not_not.1 hc)
      have e1 := slR_img he ha hl (k := 1) (by omega) (Classical.not_not.1 hd)
      rw [if_neg hc, if_neg hd]
      have y0 : (slY num (slR D base num 0)).1 = slotAt num (pg D base num 0) (pg D base num 1) := by unfold slY; rw [if_neg hc, e0]
      have y1 : (slY num (slR D base num 1)).1 = slotAt num (pg D base num 2) (pg D base num 3) := by unfold slY; rw [if_neg hd, e1]
      have : csTo D base num 2 = csD D base num := by
        show (((⟨zSl, 0, 0⟩ : CS).step 0 (slY num (slR D base num 0)).1).step 1 (slY num (slR D base num 1)).1) = _
        rw [y0, y1]; rfl
      rw [this]
theorem rdSlot_calm {D : DS} (h : D.Calm) {i : Nat} (hi : i + 1 < D.secs.length) : (rdSlot D i).1.Calm ∧ (rdSlot D i).2.2 = 0 := by
  have e1 := h.read_eq (i := i) (by omega)
  unfold rdSlot
  rw [e1]
  have e2 := (DS.Calm.mk' (s := D.secs) (o := IntKind.i64.wrap (D.ops + 1))).read_eq (i := i + 1) hi
  rw [if_neg (by simp), e2, if_neg (by simp)]
  exact ⟨DS.Calm.mk', rfl⟩
theorem slD_calm {D : DS} {base num : Nat} (h : D.Calm) (hl : base + 4 * num + 4 ≤ D.secs.length) : ∀ k, k ≤ 2 → (slD D base num k).Calm
  | 0, _ => h
  | k + 1, hk => (rdSlot_calm (slD_calm h hl k (by omega)) (i := base + 4 * num + 2 * k) (by rw [slD_secs]; omega)).1
theorem countsD_calm {D : DS} {base num : Nat} (h : D.Calm) (hl : base + 4 * num + 4 ≤ D.secs.length) : (countsD D base num).2.2 = 0 ∧ (countsD D base num).2.1.Calm := by
  have e0 := (rdSlot_calm (slD_calm h hl 0 (by omega)) (i := base + 4 * num + 2 * 0) (by rw [slD_secs]; omega)).2
  have e1 := (rdSlot_calm (slD_calm h hl 1 (by omega)) (i := base + 4 * num + 2 * 1) (by rw [slD_secs]; omega)).2
  unfold countsD slR
  rw [if_neg (by rw [e0]; simp), if_neg (by rw [e1]; simp)]
  exact ⟨rfl, slD_calm h hl 2 (by omega)⟩
/-- what a read of a file says, on a disk on which nothing happens -/
theorem FO.read {D : DS} {base t : Nat} {held : Nat → Held} (h : FO D base t held) (hc : D.Calm) {num : Nat} (hn : num < 64) : (readF D base num).1 = ((held num).1, (held num).2, 0) ∧ FO (readF D base num).2 base t held ∧ (readF D base num).2.Calm := by
  have hln := h.len
  have hl : base + 4 * num + 4 ≤ D.secs.length := by omega
  obtain ⟨e1, e2⟩ := countsD_calm hc hl
  have e3 := countsD_val h.empty h.alive hl e1
  have e4 := h.held num hn
  have hf := h.congr (D' := (countsD D base num).2.1) countsD_secs (countsD_ok h.dok) e2.dead
  unfold heldOf at e4
  unfold readF
  rw [e1, e3]
  dsimp only
  by_cases hr : (csD D base num).best.right = true
  · rw [if_pos hr] at e4
    rw [if_neg (by simp [hr]), ← e4]
    exact ⟨rfl, hf, e2⟩
  · rw [if_neg hr] at e4
    rw [if_pos (.inr (by simpa using hr)), ← e4]
    exact ⟨rfl, hf, e2⟩
def upd (f : Nat → Held) (n : Nat) (v : Held) : Nat → Held := fun k => if k = n then v else f k
theorem upd_self (f : Nat → Held) (n : Nat) : upd f n (f n) = f := by funext k; unfold upd; split <;> simp_all
end Go.Proofs.E

namespace Go.Proofs.E
open Go
set_option linter.unusedVariables false
set_option linter.unusedSimpArgs false
set_option linter.unusedSectionVars false
set_option maxRecDepth 4000
set_option maxHeartbeats 1000000
attribute [local irreducible] Yl TL TC TE Spec YSpec R1 Hp.le EnvLe TS TR YS Stays
theorem FO.mono {D : DS} {base t t' : Nat} {held : Nat → Held} (h : FO D base t held) (ht : t ≤ t') : FO D base t' held :=
  ⟨h.dok, h.alive, h.empty, h.len, fun num j h1 h2 => (h.sec num j h1 h2).mono ht, h.held⟩
theorem csD_most {D : DS} {base t : Nat} {held : Nat → Held} (h : FO D base t held) {num : Nat} (hn : num < 64) (ht : t < M64) : (csD D base num).most ≤ t ∧ (csD D base num).other < 2 ∧ ∀ j, j < 4 → stampOf (pg D base num j) ≤ (csD D base num).most := by
  obtain ⟨_, e2, e3⟩ := cs2_eq num (pg D base num 0) (pg D base num 1) (pg D base num 2) (pg D base num 3)
  have s0 := (h.sec num 0 hn (by omega)).stamp (by omega) hn ht
  have s1 := (h.sec num 1 hn (by omega)).stamp (by omega) hn ht
  have s2 := (h.sec num 2 hn (by omega)).stamp (by omega) hn ht
  have s3 := (h.sec num 3 hn (by omega)).stamp (by omega) hn ht
  simp only [Nat.zero_mod, show 1 % 2 = 1 from rfl, show 2 % 2 = 0 from rfl, show 3 % 2 = 1 from rfl] at s0 s1 s2 s3
  unfold csD
  unfold stampsF at e3
  rw [s0.1, s1.1, s2.1, s3.1] at e3
  have ho : (cs2 num (pg D base num 0) (pg D base num 1) (pg D base num 2) (pg D base num 3)).other < 2 := by
    rw [e2]; repeat' split
    all_goals omega
  refine ⟨by rw [e3]; omega, ho, fun j hj => ?_⟩
  rw [e3]
  rcases (show j = 0 ∨ j = 1 ∨ j = 2 ∨ j = 3 by omega) with rfl | rfl | rfl | rfl <;> omega
/-- writes of which some, or all, have come to the disk -/
theorem FO.wrote {D D2 : DS} {base t : Nat} {held : Nat → Held} (h : FO D base t held) {num lsn : Nat} {c : Cont} (hn : num < 64) (hc : Fit c) (hl : lsn < M64) (ht : t + 1 < M64)
    (hok : D2.Ok) (ha : D2.dead = false) (he : emptyC D2.secs) (hlen : D2.secs.length = D.secs.length)
    (hi : ∀ i, img D2 i = img D i ∨ ∃ p ∈ partsW (base + 4 * num + 2 * (csD D base num).other) (partF num ((csD D base num).most + 1) lsn c 0) (partF num ((csD D base num).most + 1) lsn c 1), p.1 = i ∧ img D2 i = p.2) :
    ∃ v, (v = held num ∨ v = (c, lsn)) ∧ FO D2 base (t + 1) (upd held num v) ∧
      (img D2 (base + 4 * num + 2 * (csD D base num).other) = partF num ((csD D base num).most + 1) lsn c 0 → img D2 (base + 4 * num + 2 * (csD D base num).other + 1) = partF num ((csD D base num).most + 1) lsn c 1 → v = (c, lsn)) := by
  obtain ⟨m1, m2, m3⟩ := csD_most h hn (by omega)
  have hsec := fun j hj => (h.sec num j hn hj).least (by omega) (by omega) (m3 j hj)
  have hheld := h.held num hn
  have hat : ∀ j, j < 4 → pg D2 base num j = pg D base num j ∨ (csD D base num).other = j / 2 ∧ pg D2 base num j = partF num ((csD D base num).most + 1) lsn c (j % 2) := fun j hj => by
    rcases hi (base + 4 * num + j) with h1 | ⟨p, hp, h2, h3⟩
    · exact .inl h1
    · right
      simp only [partsW, List.mem_cons, List.not_mem_nil, or_false] at hp
      rcases hp with rfl | rfl
      · have hj2 : j = 2 * (csD D base num).other := by dsimp only at h2; omega
        refine ⟨by omega, ?_⟩
        rw [show j % 2 = 0 by omega]; exact h3
      · have hj2 : j = 2 * (csD D base num).other + 1 := by dsimp only at h2; omega
        refine ⟨by omega, ?_⟩
        rw [show j % 2 = 1 by omega]; exact h3
  have hw := E.wrote (x0 := pg D2 base num 0) (y0 := pg D2 base num 1) (x1 := pg D2 base num 2) (y1 := pg D2 base num 3) hn hc hl (hsec 0 (by omega)) (hsec 1 (by omega)) (hsec 2 (by omega)) (hsec 3 (by omega)) rfl (by omega) (hat 0 (by omega)) (hat 1 (by omega)) (hat 2 (by omega)) (hat 3 (by omega))
  have hoth : ∀ m, m < 64 → m ≠ num → ∀ j, j < 4 → pg D2 base m j = pg D base m j := fun m hm hne j hj => by
    rcases hi (base + 4 * m + j) with h1 | ⟨p, hp, h2, h3⟩
    · exact h1
    · exfalso
      simp only [partsW, List.mem_cons, List.not_mem_nil, or_false] at hp
      rcases hp with rfl | rfl <;> dsimp only at h2 <;> omega
  have hfo : ∀ v, heldOf (csD D2 base num) = v → FO D2 base (t + 1) (upd held num v) := fun v hv => by
    refine ⟨hok, ha, he, by rw [hlen]; exact h.len, fun m j hm hj => ?_, fun m hm => ?_⟩
    · by_cases hmn : m = num
      · subst hmn
        rcases hat j hj with h1 | ⟨_, h2⟩
        · rw [h1]; exact (h.sec m j hm hj).mono (by omega)
        · rw [h2]; exact .inr ⟨_, _, _, by omega, by omega, rfl⟩
      · rw [hoth m hm hmn j hj]; exact (h.sec m j hm hj).mono (by omega)
    · unfold upd
      by_cases hmn : m = num
      · subst hmn; rw [if_pos rfl]; exact hv
      · rw [if_neg hmn, ← h.held m hm]
        unfold csD
        rw [hoth m hm hmn 0 (by omega), hoth m hm hmn 1 (by omega), hoth m hm hmn 2 (by omega), hoth m hm hmn 3 (by omega)]
  refine ⟨heldOf (csD D2 base num), ?_, hfo _ rfl, fun p1 p2 => ?_⟩
  · rcases hw.1 with h1 | h1
    · left; rw [← hheld]; exact h1
    · exact .inr h1
  · refine hw.2 ?_
    rcases (show (csD D base num).other = 0 ∨ (csD D base num).other = 1 by omega) with ho | ho
    · rw [ho] at p1 p2
      rw [if_pos ho]; exact ⟨p1, p2⟩
    · rw [ho] at p1 p2
      rw [if_neg (by rw [show (cs2 num (pg D base num 0) (pg D base num 1) (pg D base num 2) (pg D base num 3)).other = 1 from ho]; omega)]; exact ⟨p1, p2⟩
theorem FO.write {D : DS} {base t : Nat} {held : Nat → Held} (h : FO D base t held) {num lsn : Nat} {c : Cont} (hn : num < 64) (hc : Fit c) (hl : lsn < M64) (ht : t + 1 < M64) :
    ((writeF D base num lsn c).2 = 0 → FO (writeF D base num lsn c).1 base (t + 1) (upd held num (c, lsn))) ∧ (∀ keep, ∃ v, (v = held num ∨ v = (c, lsn)) ∧ FO ((writeF D base num lsn c).1.crash keep) base (t + 1) (upd held num v)) ∧ (writeF D base num lsn c).1.Ok := by
  have hln := h.len
  have hL : base + 4 * num + 4 ≤ D.secs.length := by omega
  have ha1 := countsD_alive h.empty h.alive hL
  have hs1 := countsD_secs (D := D) (base := base) (num := num)
  have hok1 := countsD_ok (base := base) (num := num) h.dok
  have hv := countsD_val h.empty h.alive hL
  obtain ⟨m1, m2, _⟩ := csD_most h hn (by omega)
  have hf1 := h.congr (D' := (countsD D base num).2.1) hs1 hok1 ha1
  unfold writeF
  by_cases he : (countsD D base num).2.2 = 0
  · rw [if_neg (by simp [he]), hv he]
    dsimp only
    rw [if_neg (by unfold M64 at ht; omega)]
    have hW : ∀ p ∈ partsW (base + 4 * num + 2 * (csD D base num).other) (partF num ((csD D base num).most + 1) lsn c 0) (partF num ((csD D base num).most + 1) lsn c 1), p.1 < (countsD D base num).2.1.secs.length ∧ p.2.length = 64 := fun p hp => by
      rw [hs1]
      simp only [partsW, List.mem_cons, List.not_mem_nil, or_false] at hp
      rcases hp with rfl | rfl
      · exact ⟨by dsimp only; omega, partF_len _ _ _ _ (by omega)⟩
      · exact ⟨by dsimp only; omega, partF_len _ _ _ _ (by omega)⟩
    have hokL := DS.Ok.lays (D := (countsD D base num).2.1) hok1 (fun p hp => (hW p hp).2)
    have hlenL := lays_length (partsW (base + 4 * num + 2 * (csD D base num).other) (partF num ((csD D base num).most + 1) lsn c 0) (partF num ((csD D base num).most + 1) lsn c 1)) (countsD D base num).2.1
    have hout := lays_out (partsW (base + 4 * num + 2 * (csD D base num).other) (partF num ((csD D base num).most + 1) lsn c 0) (partF num ((csD D base num).most + 1) lsn c 1)) (countsD D base num).2.1 ha1 (fun p hp => (hW p hp).1)
    rw [hs1] at hlenL hout
    have hgo := fun (D2 : DS) => h.wrote (D2 := D2) hn hc hl ht
    generalize hP0 : partF num ((csD D base num).most + 1) lsn c 0 = P0 at *
    generalize hP1 : partF num ((csD D base num).most + 1) lsn c 1 = P1 at *
    generalize base + 4 * num + 2 * (csD D base num).other = ix at *
    generalize hr : DS.lays (partsW ix P0 P1) (countsD D base num).2.1 = r at *
    refine ⟨fun h0 => ?_, fun keep => ?_, hokL⟩
    · rcases hout with ⟨l', hl', hs, hne⟩ | ⟨hs, _, hal⟩
      · exact absurd h0 hne
      · have hemp : emptyC r.1.secs := by rw [hs]; exact emptyC_settled
        obtain ⟨v, _, hv2, hv3⟩ := hgo r.1 hokL hal hemp hlenL (fun i => img_settled h.empty hs D rfl i)
        have hall := fun {i : Nat} (hi : i < D.secs.length) => img_all (D := r.1) h.empty hs D rfl hi
        have hixl := hW (ix, P0) (by simp [partsW])
        have hixm := hW (ix + 1, P1) (by simp [partsW])
        rw [hs1] at hixl hixm
        have h1 : img r.1 ix = P0 := by
          rcases hall hixl.1 with ⟨_, hno⟩ | ⟨p, hp, h1, h2⟩
          · exact absurd rfl (hno (ix, P0) (by simp [partsW]))
          · simp only [partsW, List.mem_cons, List.not_mem_nil, or_false] at hp
            rcases hp with rfl | rfl
            · exact h2
            · dsimp only at h1; omega
        have h2 : img r.1 (ix + 1) = P1 := by
          rcases hall hixm.1 with ⟨_, hno⟩ | ⟨p, hp, h1, h2⟩
          · exact absurd rfl (hno (ix + 1, P1) (by simp [partsW]))
          · simp only [partsW, List.mem_cons, List.not_mem_nil, or_false] at hp
            rcases hp with rfl | rfl
            · dsimp only at h1; omega
            · exact h2
        rw [hv3 h1 h2] at hv2
        exact hv2
    · have hcr : ∃ (kp : Nat → Bool) (l' : List (Nat × Blk)), l' <+: partsW ix P0 P1 ∧ (r.1.crash keep).secs = settled kp (putAll D.secs l') := by
        rcases hout with ⟨l', hl', hs, hne⟩ | ⟨hs, _, hal⟩
        · exact ⟨keep, l', hl', by simp only [DS.crash]; rw [hs]⟩
        · refine ⟨fun _ => true, partsW ix P0 P1, List.prefix_refl _, ?_⟩
          have hemp : emptyC r.1.secs := by rw [hs]; exact emptyC_settled
          simp only [DS.crash]
          rw [settled_empty hemp, hs]
      obtain ⟨kp, l', hl', hs⟩ := hcr
      obtain ⟨v, h1, h2, _⟩ := hgo (r.1.crash keep) hokL.crash rfl (by rw [hs]; exact emptyC_settled) (by rw [hs, settled_length, putAll_length]) (fun i => by
        rcases img_settled h.empty hs D rfl i with h1 | ⟨p, hp, h2, h3⟩
        · exact .inl h1
        · exact .inr ⟨p, hl'.subset hp, h2, h3⟩)
      exact ⟨v, h1, h2⟩
  · rw [if_pos he]
    refine ⟨fun h0 => absurd h0 he, fun keep => ⟨held num, .inl rfl, ?_⟩, hok1⟩
    rw [upd_self]
    exact (hf1.crash keep).mono (by omega)
theorem writeF_calm {D : DS} {base t : Nat} {held : Nat → Held} (h : FO D base t held) (hc : D.Calm) {num lsn : Nat} {c : Cont} (hn : num < 64) (ht : t + 1 < M64) : (writeF D base num lsn c).2 = 0 ∧ (writeF D base num lsn c).1.Calm := by
  have hln := h.len
  have hL : base + 4 * num + 4 ≤ D.secs.length := by omega
  obtain ⟨e1, e2⟩ := countsD_calm hc hL
  have hv := countsD_val h.empty h.alive hL e1
  have hs1 := countsD_secs (D := D) (base := base) (num := num)
  obtain ⟨m1, m2, _⟩ := csD_most h hn (by omega)
  unfold writeF
  rw [if_neg (by simp [e1]), hv]
  dsimp only
  rw [if_neg (by unfold M64 at ht; omega)]
  obtain ⟨l0, l1, l2⟩ := Calm_lays (partsW (base + 4 * num + 2 * (csD D base num).other) (partF num ((csD D base num).most + 1) lsn c 0) (partF num ((csD D base num).most + 1) lsn c 1)) (countsD D base num).2.1 e2 (fun p hp => by
    rw [hs1]
    simp only [partsW, List.mem_cons, List.not_mem_nil, or_false] at hp
    rcases hp with rfl | rfl <;> dsimp only <;> omega)
  exact ⟨l0, l1⟩
/-- a new file -/
theorem FO.format {D : DS} {base : Nat} (hok : D.Ok) (hc : D.Calm) (he : emptyC D.secs) (hl : base + 256 ≤ D.secs.length) :
    (DS.lays (noughtsF base) D).2 = 0 ∧ (DS.lays (noughtsF base) D).1.Calm ∧ FO (DS.lays (noughtsF base) D).1 base 0 (fun _ => zHeld) := by
  have hidx : ∀ p ∈ noughtsF base, p.1 < D.secs.length := fun p hp => by
    simp only [noughtsF, List.mem_map, List.mem_range] at hp
    obtain ⟨k, hk, rfl⟩ := hp
    dsimp only; omega
  obtain ⟨l0, l1, l2⟩ := Calm_lays (noughtsF base) D hc hidx
  have hok1 := hok.lays (l := noughtsF base) noughtsF_64
  have himg : ∀ i, i < 256 → img (DS.lays (noughtsF base) D).1 (base + i) = zblk := fun i hi => by
    rcases img_all he l2 D rfl (i := base + i) (by omega) with ⟨_, hno⟩ | ⟨p, hp, h1, h2⟩
    · exact absurd rfl (hno (base + i, zblk) (by simp only [noughtsF, List.mem_map, List.mem_range]; exact ⟨i, hi, rfl⟩))
    · simp only [noughtsF, List.mem_map, List.mem_range] at hp
      obtain ⟨k, hk, rfl⟩ := hp
      exact h2
  have hpg : ∀ num j, num < 64 → j < 4 → pg (DS.lays (noughtsF base) D).1 base num j = zblk := fun num j h1 h2 => by
    unfold pg; rw [Nat.add_assoc]; exact himg _ (by omega)
  refine ⟨l0, l1, hok1, l1.dead, by rw [l2]; exact emptyC_settled, by rw [lays_length]; exact hl, fun num j h1 h2 => .inl (hpg num j h1 h2), fun num h1 => ?_⟩
  unfold csD
  rw [hpg num 0 h1 (by omega), hpg num 1 h1 (by omega), hpg num 2 h1 (by omega), hpg num 3 h1 (by omega), (cs2_eq num zblk zblk zblk zblk).1]
  have hr : (saysF num zblk zblk).right = false := by
    cases hr : (saysF num zblk zblk).right with
    | false => rfl
    | true =>
      have := (says_right (by rfl) (by rfl) hr).1
      rw [stamp_zblk] at this; omega
  rw [if_neg (by simp [hr]), if_neg (by simp [hr])]
end Go.Proofs.E

-- BITS
namespace Go.Proofs.E
open Go
set_option linter.unusedVariables false
set_option linter.unusedSimpArgs false
set_option linter.unusedSectionVars false
set_option maxRecDepth 4000
set_option maxHeartbeats 1000000
attribute [local irreducible] Yl TL TC TE Spec YSpec R1 Hp.le EnvLe TS TR YS Stays
/-! ## the laws' own functions -/
abbrev leaf1 : Cont := ⟨1, [⟨0, 3, 1, []⟩], []⟩
theorem leaf1_fit : Fit leaf1 := ⟨by decide, ⟨fun r hr => by simp at hr; subst hr; exact ⟨by decide, by decide⟩, fun k hk => by simp at hk⟩⟩
theorem leaf_spec (ρ : Hp) : Spec Try.prog 69 [.int .i64 1] ρ [] (fun v ρ' L' => ρ.le ρ' ∧ ∃ w, v = .agg ⟨contV 1 w⟩ ∧ CIn ρ' w leaf1.rows leaf1.kids ∧ L' = []) := by
  refine spec_enter Try.func69 rfl rfl rfl fun u R => ?_
  simp only [argsE, List.cons_append, List.nil_append]
  repeat' (first | (refine tl_y (y_build (vs := [.agg ⟨[.int .i64 0, .int .u16 3]⟩, .int .i64 1]) (cells := ⟨rowV ⟨0, 3, 1, []⟩⟩) rfl rfl) rfl rfl ?_) | (refine tl_buildSliceA (css := [rowV ⟨0, 3, 1, []⟩]) (sz := 4) rfl rfl rfl rfl (by simp) (by simp) rfl (fun bs => ?_); refine tl_freeze [(bs, .cells ⟨([rowV ⟨0, 3, 1, []⟩] : List (List Value)).flatten⟩ 129 (0, 0))] (h := Rem.here) (fun ρ1 hl1 hfz => ?_)) | (refine i_op ?_; first | (refine i_qq ?_; refine qQ ?_) | refine qEf ?_ | refine qAn ?_ | refine qXo ?_ | refine qNt ?_) | refine tl_nil ?_ | (refine i_tc ?_; refine qTc ?_) | (refine i_te ?_; refine qTe ?_) | intro _)
  have hb := hfz _ (List.mem_singleton.2 rfl)
  have hA : AIn ρ1 4 rowV (some ⟨bs, 0, none⟩) 1 leaf1.rows := ⟨rfl, .inr ⟨bs, 0, _, _, _, rfl, hb, by simp, by simp⟩, fun x hx => by simp at hx; subst hx; rfl⟩
  have hC : CIn ρ1 ⟨some ⟨bs, 0, none⟩, 1, 1, none, 0, 0⟩ leaf1.rows leaf1.kids := ⟨hA, AIn.nil, by dsimp only; omega, by dsimp only; omega, Nat.le_refl _, Nat.le_refl _⟩
  exact qE (L' := []) ⟨hl1, ⟨some ⟨bs, 0, none⟩, 1, 1, none, 0, 0⟩, rfl, hC, rfl⟩
theorem kformat14 (ρ : Hp) (db n : Nat) (k : DK) (hk : DOk k (DS.new n)) (h0 : 260 ≤ n) (h1 : n ≤ 2048) :
    Spec Try.prog 28 [.pointer (some ⟨db, 0, none⟩), .int .i64 4] ρ (diskK db k (DS.new n)) (fun v ρ' L' => ρ.le ρ' ∧ ∃ fb k' D', v = .tuple ⟨[.pointer (some ⟨fb, 0, none⟩), .int .i64 0]⟩ ∧ FIn ρ' fb db 4 ∧ DOk k' D' ∧ FO D' 4 0 (fun _ => zHeld) ∧ D'.Calm ∧ L' = diskK db k' D') := by
  have hsl : (DS.new n).secs.length = n := by simp [DS.new, fresh]
  obtain ⟨e0, e1, e2⟩ := FO.format (D := DS.new n) (base := 4) hk.ok new_calm fresh_empty (by omega)
  refine (Format_spec ρ db k (DS.new n) hk 4 (by omega) e0).mono ?_
  rintro v ρ' L' _ ⟨hle, fb, k', h3, h4, h5, h6⟩
  exact ⟨hle, fb, k', _, h3, h4, h5, e2, e1, h6⟩
/-- a write of a file on a disk on which nothing happens -/
theorem kwrite14 (ρ : Hp) (fb db num lsn t : Nat) (hf : FIn ρ fb db 4) (hn : num < 64) (hls : lsn < M64) (c : Cont) (w : CV) (hC : CIn ρ w c.rows c.kids) (hc : Fit c) (k : DK) (D : DS) (hD : DOk k D) (held : Nat → Held) (h : FO D 4 t held) (hcm : D.Calm) (ht : t + 1 < M64) :
    Spec Try.prog 31 [.pointer (some ⟨fb, 0, none⟩), .int .i64 num, .int .u64 lsn, .agg ⟨contV c.kind w⟩] ρ (diskK db k D) (fun v ρ' L' => v = .int .i64 0 ∧ ρ.le ρ' ∧ ∃ k' D', DOk k' D' ∧ FO D' 4 (t + 1) (upd held num (c, lsn)) ∧ D'.Calm ∧ L' = diskK db k' D') := by
  obtain ⟨e0, e1⟩ := writeF_calm (lsn := lsn) (c := c) h hcm hn ht
  have e2 := (h.write hn hc hls ht).1 e0
  refine (Write_spec ρ fb db 4 num lsn hf (by omega) hn hls c w hC hc.ok (fun r hr => (hc.id.row r hr).id) hc.id.kid k D hD).mono ?_
  rintro v ρ' L' _ ⟨h1, h2, k', h3, h4⟩
  rw [e0] at h1
  exact ⟨h1, h2, k', _, h3, e2, e1, h4⟩
/-- a read of it -/
theorem kread14 (ρ : Hp) (fb db num t : Nat) (hf : FIn ρ fb db 4) (hn : num < 64) (k : DK) (D : DS) (hD : DOk k D) (held : Nat → Held) (h : FO D 4 t held) (hcm : D.Calm) :
    Spec Try.prog 30 [.pointer (some ⟨fb, 0, none⟩), .int .i64 num] ρ (diskK db k D) (fun v ρ' L' => ρ.le ρ' ∧ ∃ w D', v = .tuple ⟨[.agg ⟨contV (held num).1.kind w⟩, .int .u64 ((held num).2 : Nat), .int .i64 0]⟩ ∧ CIn ρ' w (held num).1.rows (held num).1.kids ∧ DOk k D' ∧ FO D' 4 t held ∧ D'.Calm ∧ L' = diskK db k D') := by
  obtain ⟨e0, e1, e2⟩ := h.read hcm hn
  refine (Read_spec ρ fb db 4 num hf (by omega) hn k D hD).mono ?_
  rintro v ρ' L' _ ⟨h1, w, h2, h3, h4, h5⟩
  rw [e0] at h2 h3
  exact ⟨h1, w, _, h2, h3, h4, e1, e2, h5⟩
abbrev wkH : Nat → Held := upd (fun _ => zHeld) 5 (leaf1, 7)
theorem wakes14_spec (ρ : Hp) : Spec Try.prog 27 [] ρ [] (fun v ρ' L' => v = .bool true ∧ ρ.le ρ' ∧ L' = []) := by
  refine spec_enter Try.func27 rfl rfl rfl fun u R => ?_
  simp only [argsE, List.cons_append, List.nil_append]
  repeat' (first | (refine tl_is (.func 23) ?_; refine qC rfl rfl (knew _ 300 (by omega) (by omega)) ?_; rintro v ρ' L' hle ⟨rfl, db, k0, rfl, hk0, rfl⟩ <;> (try simp only [List.cons_append, List.nil_append, List.append_eq])) | (refine tl_is (.func 28) ?_; refine qC rfl rfl (kformat14 _ db 300 k0 hk0 (by omega) (by omega)) ?_; rintro v1 ρ1 L1 hle1 ⟨hl1, fb, k1, D1, rfl, hf1, hk1, g1, c1, rfl⟩; try simp only [List.cons_append, List.nil_append, List.append_assoc, List.append_eq]) | (refine i_op ?_; first | (refine i_qq ?_; refine qQ ?_) | refine qEf ?_ | refine qAn ?_ | refine qXo ?_ | refine qNt ?_) | refine tl_nil ?_ | (refine i_tc ?_; refine qTc ?_) | (refine i_te ?_; refine qTe ?_) | intro _)
  repeat' (first | (refine tl_is (.func 69) ?_; refine qC rfl rfl (leaf_spec _) ?_; rintro v2 ρ2 L2 hle2 ⟨hl2, w2, rfl, hC2, rfl⟩; try simp only [List.cons_append, List.nil_append, List.append_assoc, List.append_eq]) | (refine i_op ?_; first | (refine i_qq ?_; refine qQ ?_) | refine qEf ?_ | refine qAn ?_ | refine qXo ?_ | refine qNt ?_) | refine tl_nil ?_ | (refine i_tc ?_; refine qTc ?_) | (refine i_te ?_; refine qTe ?_) | intro _)
  repeat' (first | (refine tl_is (.func 31) ?_; refine qC rfl rfl (kwrite14 _ fb db 5 7 0 (hf1.mono hl2) (by omega) (by decide) leaf1 w2 hC2 leaf1_fit k1 D1 hk1 _ g1 c1 (by decide)) ?_; rintro v3 ρ3 L3 hle3 ⟨rfl, hl3, k3, D3, hk3, g3, c3, rfl⟩; try simp only [List.cons_append, List.nil_append, List.append_assoc, List.append_eq]) | (refine i_op ?_; first | (refine i_qq ?_; refine qQ ?_) | refine qEf ?_ | refine qAn ?_ | refine qXo ?_ | refine qNt ?_) | refine tl_nil ?_ | (refine i_tc ?_; refine qTc ?_) | (refine i_te ?_; refine qTe ?_) | intro _)
  have hf3 := hf1.mono (Hp.le_trans hl2 hl3)
  repeat' (first | (refine tl_is (.func 30) ?_; refine qC rfl rfl (kread14 _ fb db 5 1 hf3 (by omega) k3 D3 hk3 wkH g3 c3) ?_; rintro v4 ρ4 L4 hle4 ⟨hl4, w4, D4, rfl, hC4, hk4, g4, c4, rfl⟩; try simp only [List.cons_append, List.nil_append, List.append_assoc, List.append_eq]) | (refine i_op ?_; first | (refine i_qq ?_; refine qQ ?_) | refine qEf ?_ | refine qAn ?_ | refine qXo ?_ | refine qNt ?_) | refine tl_nil ?_ | (refine i_tc ?_; refine qTc ?_) | (refine i_te ?_; refine qTe ?_) | intro _)
  have hf4 := hf3.mono hl4
  obtain ⟨wra, wrn, wrc, wka, wkn, wkc⟩ := w4
  have hC4r := hC4.r
  dsimp only at hC4r
  obtain ⟨bx, off, C, T, fr, rfl, hbx, hlx, hcx⟩ := hC4r.get (i := 0) (by decide)
  obtain rfl : wrn = 1 := hC4r.len.symm
  simp only [contV]
  have hval : C[off + Int.toNat 0 * 4 + 2]? = some (.int .i64 1) := by
    have := congrArg (fun l : List Value => l[2]?) hcx
    simp only [List.getElem?_take_of_lt (show 2 < 4 by omega), List.getElem?_drop] at this
    exact this
  have hki : (wkH 4).fst.kind = 0 := by decide
  repeat' (first | (refine tl_is (.func 30) ?_; refine qC rfl rfl (kread14 _ fb db 4 1 hf4 (by omega) k3 D4 hk4 wkH g4 c4) ?_; rintro v5 ρ5 L5 hle5 ⟨hl5, w5, D5, rfl, hC5, hk5, g5, c5, rfl⟩; have hbx5 := Hp.at' hl5 hbx; try simp only [List.cons_append, List.nil_append, List.append_assoc, List.append_eq]) | (refine i_op ?_; first | (refine i_qq ?_; refine qQ ?_) | refine qEf ?_ | refine qAn ?_ | refine qXo ?_ | refine qNt ?_) | refine tl_nil ?_ | (refine i_tc ?_; refine qTc ?_) | (refine i_te ?_; refine qTe ?_) | intro _)
  have hfin := Hp.le_trans hl1 (Hp.le_trans hl2 (Hp.le_trans hl3 (Hp.le_trans hl4 hl5)))
  exact qE (L' := []) ⟨rfl, hfin, rfl⟩
end Go.Proofs.E

