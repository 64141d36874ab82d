/- The law RecordLays. Part 6 of 21. -/
import Derived.Test.YtjajdpfdhokkhaaGreatQ5
namespace Go.Proofs.E
open Go
set_option linter.unusedVariables false
set_option linter.unusedSimpArgs false
set_option linter.unusedSectionVars false
set_option maxRecDepth 4000
set_option maxHeartbeats 1000000
attribute [local irreducible] Yl TL TC TE Spec YSpec R1 Hp.le EnvLe TS TR YS Stays
/-! ## codec: what is taken -/
def manyTo {α : Type} (f : List UInt8 → Int → Bool → α × RS3) : Nat → List UInt8 → Int → Bool → List α × RS3
  | 0, l, st, bad => ([], l, st, bad)
  | n + 1, l, st, bad => if !bad && decide (st = 0) then ((f l st bad).1 :: (manyTo f n (f l st bad).2.1 (f l st bad).2.2.1 (f l st bad).2.2.2).1, (manyTo f n (f l st bad).2.1 (f l st bad).2.2.1 (f l st bad).2.2.2).2) else ([], l, st, bad)
theorem manyTo_stop {α : Type} {f : List UInt8 → Int → Bool → α × RS3} {n : Nat} {l : List UInt8} {st : Int} {bad : Bool} (h : (!bad && decide (st = 0)) = false) : manyTo f n l st bad = ([], l, st, bad) := by
  cases n with
  | zero => rfl
  | succ n => rw [manyTo, h]; rfl
def manyR {α : Type} (f : List UInt8 → Int → Bool → α × RS3) (l : List UInt8) (st : Int) (bad : Bool) : List α × RS3 :=
  manyTo f (numR 1 l st).1 (numR 1 l st).2.1 (numR 1 l st).2.2 (needB bad (numR 1 l st).2.2 (decide (((numR 1 l st).1 : Int) ≤ 4)))
theorem manyRow_spec (ρ : Hp) (bt br : Nat) (all : Int) (bad : Bool) (vk vr vs : Value) (a : Option Addr) (n c : Nat) (l : List UInt8) (h : SIn ρ u8c a n l) (hc : n ≤ c) (st : Int) :
    Spec Tryz.prog 299 [.pointer (some ⟨bt, 0, none⟩), .int .i64 4, .func (.func 241) ⟨[.pointer (some ⟨bt, 0, none⟩)]⟩ ⟨[]⟩] ρ [tkC bt br all bad vk vr vs, rdC br a n c st]
      (fun v ρ' L' => ρ.le ρ' ∧ ∃ sa sn sc a' n' c', v = .slice sa sn sc ∧ sn ≤ sc ∧ sn ≤ 255 ∧ AIn ρ' 4 rowV sa sn (manyR rowR l st bad).1 ∧ SIn ρ' u8c a' n' (manyR rowR l st bad).2.1 ∧ n' ≤ c' ∧ L' = [tkC bt br all (manyR rowR l st bad).2.2.2 vk vr vs, rdC br a' n' c' (manyR rowR l st bad).2.2.1]) := by
  have hn1 := u8_spec ρ br a n c l h hc st
  have hb1 := numR_lt 1 l st
  generalize hq : manyR rowR l st bad = q
  unfold manyR at hq
  generalize numR 1 l st = r1 at *
  obtain ⟨x1, l1, st1⟩ := r1
  dsimp only at hq hn1 hb1
  have hb255 : x1 < 256 := by simpa using hb1
  generalize hB1 : needB bad st1 (decide ((x1 : Int) ≤ 4)) = b1 at *
  refine spec_enter Tryz.func299 rfl rfl rfl fun u R => ?_
  simp only [argsE, List.cons_append, List.nil_append]
  repeat' (first | (refine tl_is (.func 80) ?_; refine qC rfl rfl (hn1) ?_; rintro v ρ' L' hle ⟨rfl, rfl, a1, n1, c1, h1, hc1, rfl⟩ <;> (try simp only [kM, kN, kO])) | (refine tl_is (.func 276) ?_; refine qC rfl rfl (need_spec _ bt br all bad vk vr vs a1 n1 c1 st1 (decide ((x1 : Int) ≤ 4))) ?_; rintro v ρ' L' hle ⟨rfl, rfl, rfl⟩ <;> (try simp only [kM, kN, kO, hB1])) | (refine i_op ?_; first | (refine i_qq ?_; refine qQ ?_) | refine qEf ?_) | refine tl_nil ?_ | (refine i_tc ?_; refine qTc ?_) | (refine i_te ?_; refine qTe ?_) | intro _)
  refine tc_loop_g [(0, _), (2, _), (6, _), (7, _)] (fun (ζ : (Nat) × (Hp) × (Value) × (List Value) × (List Row) × (Option Addr) × (Nat) × (Nat) × (List UInt8) × (Int) × (Bool)) => [(9, .int .i64 ζ.1), (8, ζ.2.2.1)]) (fun (ζ : (Nat) × (Hp) × (Value) × (List Value) × (List Row) × (Option Addr) × (Nat) × (Nat) × (List UInt8) × (Int) × (Bool)) => ζ.2.1) (fun (ζ : (Nat) × (Hp) × (Value) × (List Value) × (List Row) × (Option Addr) × (Nat) × (Nat) × (List UInt8) × (Int) × (Bool)) => [ownC ζ.2.2.1 ((ζ.2.2.2.2.1.map rowV).flatten) ζ.2.2.2.1 101, tkC bt br all ζ.2.2.2.2.2.2.2.2.2.2 vk vr vs, rdC br ζ.2.2.2.2.2.1 ζ.2.2.2.2.2.2.1 ζ.2.2.2.2.2.2.2.1 ζ.2.2.2.2.2.2.2.2.2.1]) (fun (ζ : (Nat) × (Hp) × (Value) × (List Value) × (List Row) × (Option Addr) × (Nat) × (Nat) × (List UInt8) × (Int) × (Bool)) => ζ.1 ≤ x1 ∧ ρ'.le ζ.2.1 ∧ OwnS ζ.2.2.1 ζ.1 ((ζ.2.2.2.2.1.map rowV).flatten) ζ.2.2.2.1 4 ∧ ζ.2.2.2.2.1.length = ζ.1 ∧ SIn ζ.2.1 u8c ζ.2.2.2.2.2.1 ζ.2.2.2.2.2.2.1 ζ.2.2.2.2.2.2.2.2.1 ∧ ζ.2.2.2.2.2.2.1 ≤ ζ.2.2.2.2.2.2.2.1 ∧ q = (ζ.2.2.2.2.1 ++ (manyTo rowR (x1 - ζ.1) ζ.2.2.2.2.2.2.2.2.1 ζ.2.2.2.2.2.2.2.2.2.1 ζ.2.2.2.2.2.2.2.2.2.2).1, (manyTo rowR (x1 - ζ.1) ζ.2.2.2.2.2.2.2.2.1 ζ.2.2.2.2.2.2.2.2.2.1 ζ.2.2.2.2.2.2.2.2.2.2).2)) (fun (ζ : (Nat) × (Hp) × (Value) × (List Value) × (List Row) × (Option Addr) × (Nat) × (Nat) × (List UInt8) × (Int) × (Bool)) => x1 - ζ.1) ((0, ρ', .slice none 0 0, [], [], a1, n1, c1, l1, st1, b1)) (⟨Nat.zero_le _, Hp.le_refl _, OwnS.nil 4, rfl, h1, hc1, by simp [hq]⟩) ev_le ev_le rfl tk ?_
  rintro ⟨i, ρ1, v, sp, acc, a2, n2, c2, l2, st2, bad2⟩ hI
  try simp only [List.cons_append, List.nil_append, List.append_assoc, List.append_eq] at hI ⊢
  try dsimp only at hI ⊢
  obtain ⟨hi, hle1, hown, hal, h2, hc2, hq2⟩ := hI
  obtain ⟨va, vc, rfl, _⟩ := hown.len
  have hg : ∀ x ∈ acc, (rowV x).length = 4 := fun x _ => rowV_len x
  by_cases hlt : i < x1
  · cases hok : (!bad2 && decide (st2 = 0))
    · rw [manyTo_stop hok] at hq2
      simp only [List.append_nil] at hq2
      subst hq2
      repeat' (first | (refine tl_is (.func 279) ?_; refine qC rfl rfl (ok_spec _ bt br all bad2 vk vr vs a2 n2 c2 st2) ?_; rintro v ρ' L' hle ⟨rfl, rfl, rfl⟩ <;> (try simp only [kM, kN, kO, hok])) | (refine i_op ?_; first | (refine i_qq ?_; refine qQ ?_) | refine qEf ?_) | refine tl_nil ?_ | (refine i_tc ?_; refine qTc ?_) | (refine i_te ?_; refine qTe ?_) | intro _)
      refine te_freeze (ownC (.slice va i vc) ((acc.map rowV).flatten) sp 101) (fun ρ3 hle3 hfz => ?_)
      obtain ⟨sa, sc, e1, hsc, hA⟩ := hown.aIn hal hg hfz
      cases e1
      exact qE ⟨Hp.le_trans hle1 hle3, _, _, _, a2, n2, c2, rfl, hsc, by omega, hA, h2.mono hle3, hc2, rfl⟩
    · rw [show x1 - i = (x1 - (i + 1)) + 1 by omega, manyTo, if_pos hok] at hq2
      have hrow := fun ρ h => trow_spec ρ bt br all bad2 vk vr vs a2 n2 c2 l2 h hc2 st2
      generalize rowR l2 st2 bad2 = r at *
      obtain ⟨x, l3, st3, bad3⟩ := r
      dsimp only at hq2 hrow
      repeat' (first | (refine tl_is (.func 279) ?_; refine qC rfl rfl (ok_spec _ bt br all bad2 vk vr vs a2 n2 c2 st2) ?_; rintro v ρ' L' hle ⟨rfl, rfl, rfl⟩ <;> (try simp only [kM, kN, kO, hok])) | (refine tl_is (.tmp 31) ?_; refine qC rfl rfl (hrow _ h2) ?_; rintro v ρ' L' hle ⟨rfl, hle3, a3, n3, c3, h3, hc3, rfl⟩ <;> (try simp only [kM, kN, kO])) | (refine i_op ?_; first | (refine i_qq ?_; refine qQ ?_) | refine qEf ?_) | refine tl_nil ?_ | (refine i_tc ?_; refine qTc ?_) | (refine i_te ?_; refine qTe ?_) | intro _)
      refine tl_buildSliceA (css := [rowV x]) (sz := 4) rfl rfl rfl rfl (by simp) (by simp) rfl (fun bs => ?_)
      simp only [List.flatten_cons, List.flatten_nil, List.append_nil]
      refine tl_app (ys := rowV x) (m := 1) rfl rfl hown (hR := by infer_instance) (SrcV.lit) rfl rfl (by decide) rfl (by omega) (by omega) rfl (fun v' sp' hown' => ?_)
      have hm : (acc.map rowV).flatten ++ rowV x = ((acc ++ [x]).map rowV).flatten := by simp
      rw [hm] at hown' ⊢
      repeat' (first | (refine i_op ?_; first | (refine i_qq ?_; refine qQ ?_) | refine qEf ?_) | refine tl_nil ?_ | (refine i_tc ?_; refine qTc ?_) | (refine i_te ?_; refine qTe ?_) | intro _)
      refine te_round_g (i + 1, _, v', sp', acc ++ [x], a3, n3, c3, l3, st3, bad3) (⟨hlt, Hp.le_trans hle1 hle3, hown', by simp [hal], h3, hc3, by rw [hq2]; simp⟩) ev_le ev_le rfl tk inferInstance (by first | omega | (dsimp only; omega))
  · have hi2 : i = x1 := by omega
    subst hi2
    rw [Nat.sub_self, manyTo] at hq2
    simp only [List.append_nil] at hq2
    subst hq2
    repeat' (first | (refine i_op ?_; first | (refine i_qq ?_; refine qQ ?_) | refine qEf ?_) | refine tl_nil ?_ | (refine i_tc ?_; refine qTc ?_) | (refine i_te ?_; refine qTe ?_) | intro _)
    refine te_freeze (ownC (.slice va i vc) ((acc.map rowV).flatten) sp 101) (fun ρ3 hle3 hfz => ?_)
    obtain ⟨sa, sc, e1, hsc, hA⟩ := hown.aIn hal hg hfz
    cases e1
    exact qE ⟨Hp.le_trans hle1 hle3, _, _, _, a2, n2, c2, rfl, hsc, by omega, hA, h2.mono hle3, hc2, rfl⟩
def kidRB (l : List UInt8) (st : Int) (bad : Bool) : Kid × RS3 := ((kidR l st).1, (kidR l st).2.1, (kidR l st).2.2, bad)
theorem tkidB_spec (ρ : Hp) (bt br : Nat) (all : Int) (bad : Bool) (vk vr vs : Value) (a : Option Addr) (n c : Nat) (l : List UInt8) (h : SIn ρ u8c a n l) (hc : n ≤ c) (st : Int) :
    Spec Tryz.prog 301 [.pointer (some ⟨bt, 0, none⟩)] ρ [tkC bt br all bad vk vr vs, rdC br a n c st]
      (fun v ρ' L' => v = .agg ⟨kidV (kidRB l st bad).1⟩ ∧ ρ.le ρ' ∧ ∃ a' n' c', SIn ρ' u8c a' n' (kidRB l st bad).2.1 ∧ n' ≤ c' ∧ L' = [tkC bt br all (kidRB l st bad).2.2.2 vk vr vs, rdC br a' n' c' (kidRB l st bad).2.2.1]) := by
  refine (tkid_spec ρ bt br all bad vk vr vs a n c l h hc st).mono ?_
  rintro v ρ' L' hle ⟨h1, h2, h3⟩
  exact ⟨h1, hle, h3⟩
theorem manyKid_spec (ρ : Hp) (bt br : Nat) (all : Int) (bad : Bool) (vk vr vs : Value) (a : Option Addr) (n c : Nat) (l : List UInt8) (h : SIn ρ u8c a n l) (hc : n ≤ c) (st : Int) :
    Spec Tryz.prog 300 [.pointer (some ⟨bt, 0, none⟩), .int .i64 4, .func (.func 301) ⟨[.pointer (some ⟨bt, 0, none⟩)]⟩ ⟨[]⟩] ρ [tkC bt br all bad vk vr vs, rdC br a n c st]
      (fun v ρ' L' => ρ.le ρ' ∧ ∃ sa sn sc a' n' c', v = .slice sa sn sc ∧ sn ≤ sc ∧ sn ≤ 255 ∧ AIn ρ' 3 kidV sa sn (manyR kidRB l st bad).1 ∧ SIn ρ' u8c a' n' (manyR kidRB l st bad).2.1 ∧ n' ≤ c' ∧ L' = [tkC bt br all (manyR kidRB l st bad).2.2.2 vk vr vs, rdC br a' n' c' (manyR kidRB l st bad).2.2.1]) := by
  have hn1 := u8_spec ρ br a n c l h hc st
  have hb1 := numR_lt 1 l st
  generalize hq : manyR kidRB l st bad = q
  unfold manyR at hq
  generalize numR 1 l st = r1 at *
  obtain ⟨x1, l1, st1⟩ := r1
  dsimp only at hq hn1 hb1
  have hb255 : x1 < 256 := by simpa using hb1
  generalize hB1 : needB bad st1 (decide ((x1 : Int) ≤ 4)) = b1 at *
  refine spec_enter Tryz.func300 rfl rfl rfl fun u R => ?_
  simp only [argsE, List.cons_append, List.nil_append]
  repeat' (first | (refine tl_is (.func 80) ?_; refine qC rfl rfl (hn1) ?_; rintro v ρ' L' hle ⟨rfl, rfl, a1, n1, c1, h1, hc1, rfl⟩ <;> (try simp only [kM, kN, kO])) | (refine tl_is (.func 276) ?_; refine qC rfl rfl (need_spec _ bt br all bad vk vr vs a1 n1 c1 st1 (decide ((x1 : Int) ≤ 4))) ?_; rintro v ρ' L' hle ⟨rfl, rfl, rfl⟩ <;> (try simp only [kM, kN, kO, hB1])) | (refine i_op ?_; first | (refine i_qq ?_; refine qQ ?_) | refine qEf ?_) | refine tl_nil ?_ | (refine i_tc ?_; refine qTc ?_) | (refine i_te ?_; refine qTe ?_) | intro _)
  refine tc_loop_g [(0, _), (2, _), (6, _), (7, _)] (fun (ζ : (Nat) × (Hp) × (Value) × (List Value) × (List Kid) × (Option Addr) × (Nat) × (Nat) × (List UInt8) × (Int) × (Bool)) => [(9, .int .i64 ζ.1), (8, ζ.2.2.1)]) (fun (ζ : (Nat) × (Hp) × (Value) × (List Value) × (List Kid) × (Option Addr) × (Nat) × (Nat) × (List UInt8) × (Int) × (Bool)) => ζ.2.1) (fun (ζ : (Nat) × (Hp) × (Value) × (List Value) × (List Kid) × (Option Addr) × (Nat) × (Nat) × (List UInt8) × (Int) × (Bool)) => [ownC ζ.2.2.1 ((ζ.2.2.2.2.1.map kidV).flatten) ζ.2.2.2.1 224, tkC bt br all ζ.2.2.2.2.2.2.2.2.2.2 vk vr vs, rdC br ζ.2.2.2.2.2.1 ζ.2.2.2.2.2.2.1 ζ.2.2.2.2.2.2.2.1 ζ.2.2.2.2.2.2.2.2.2.1]) (fun (ζ : (Nat) × (Hp) × (Value) × (List Value) × (List Kid) × (Option Addr) × (Nat) × (Nat) × (List UInt8) × (Int) × (Bool)) => ζ.1 ≤ x1 ∧ ρ'.le ζ.2.1 ∧ OwnS ζ.2.2.1 ζ.1 ((ζ.2.2.2.2.1.map kidV).flatten) ζ.2.2.2.1 3 ∧ ζ.2.2.2.2.1.length = ζ.1 ∧ SIn ζ.2.1 u8c ζ.2.2.2.2.2.1 ζ.2.2.2.2.2.2.1 ζ.2.2.2.2.2.2.2.2.1 ∧ ζ.2.2.2.2.2.2.1 ≤ ζ.2.2.2.2.2.2.2.1 ∧ q = (ζ.2.2.2.2.1 ++ (manyTo kidRB (x1 - ζ.1) ζ.2.2.2.2.2.2.2.2.1 ζ.2.2.2.2.2.2.2.2.2.1 ζ.2.2.2.2.2.2.2.2.2.2).1, (manyTo kidRB (x1 - ζ.1) ζ.2.2.2.2.2.2.2.2.1 ζ.2.2.2.2.2.2.2.2.2.1 ζ.2.2.2.2.2.2.2.2.2.2).2)) (fun (ζ : (Nat) × (Hp) × (Value) × (List Value) × (List Kid) × (Option Addr) × (Nat) × (Nat) × (List UInt8) × (Int) × (Bool)) => x1 - ζ.1) ((0, ρ', .slice none 0 0, [], [], a1, n1, c1, l1, st1, b1)) (⟨Nat.zero_le _, Hp.le_refl _, OwnS.nil 3, rfl, h1, hc1, by simp [hq]⟩) ev_le ev_le rfl tk ?_
  rintro ⟨i, ρ1, v, sp, acc, a2, n2, c2, l2, st2, bad2⟩ hI
  try simp only [List.cons_append, List.nil_append, List.append_assoc, List.append_eq] at hI ⊢
  try dsimp only at hI ⊢
  obtain ⟨hi, hle1, hown, hal, h2, hc2, hq2⟩ := hI
  obtain ⟨va, vc, rfl, _⟩ := hown.len
  have hg : ∀ x ∈ acc, (kidV x).length = 3 := fun x _ => kidV_len x
  by_cases hlt : i < x1
  · cases hok : (!bad2 && decide (st2 = 0))
    · rw [manyTo_stop hok] at hq2
      simp only [List.append_nil] at hq2
      subst hq2
      repeat' (first | (refine tl_is (.func 279) ?_; refine qC rfl rfl (ok_spec _ bt br all bad2 vk vr vs a2 n2 c2 st2) ?_; rintro v ρ' L' hle ⟨rfl, rfl, rfl⟩ <;> (try simp only [kM, kN, kO, hok])) | (refine i_op ?_; first | (refine i_qq ?_; refine qQ ?_) | refine qEf ?_) | refine tl_nil ?_ | (refine i_tc ?_; refine qTc ?_) | (refine i_te ?_; refine qTe ?_) | intro _)
      refine te_freeze (ownC (.slice va i vc) ((acc.map kidV).flatten) sp 224) (fun ρ3 hle3 hfz => ?_)
      obtain ⟨sa, sc, e1, hsc, hA⟩ := hown.aIn hal hg hfz
      cases e1
      exact qE ⟨Hp.le_trans hle1 hle3, _, _, _, a2, n2, c2, rfl, hsc, by omega, hA, h2.mono hle3, hc2, rfl⟩
    · rw [show x1 - i = (x1 - (i + 1)) + 1 by omega, manyTo, if_pos hok] at hq2
      have hrow := fun ρ h => tkidB_spec ρ bt br all bad2 vk vr vs a2 n2 c2 l2 h hc2 st2
      generalize kidRB l2 st2 bad2 = r at *
      obtain ⟨x, l3, st3, bad3⟩ := r
      dsimp only at hq2 hrow
      repeat' (first | (refine tl_is (.func 279) ?_; refine qC rfl rfl (ok_spec _ bt br all bad2 vk vr vs a2 n2 c2 st2) ?_; rintro v ρ' L' hle ⟨rfl, rfl, rfl⟩ <;> (try simp only [kM, kN, kO, hok])) | (refine tl_is (.tmp 31) ?_; refine qC rfl rfl (hrow _ h2) ?_; rintro v ρ' L' hle ⟨rfl, hle3, a3, n3, c3, h3, hc3, rfl⟩ <;> (try simp only [kM, kN, kO])) | (refine i_op ?_; first | (refine i_qq ?_; refine qQ ?_) | refine qEf ?_) | refine tl_nil ?_ | (refine i_tc ?_; refine qTc ?_) | (refine i_te ?_; refine qTe ?_) | intro _)
      refine tl_buildSliceA (css := [kidV x]) (sz := 3) rfl rfl rfl rfl (by simp) (by simp) rfl (fun bs => ?_)
      simp only [List.flatten_cons, List.flatten_nil, List.append_nil]
      refine tl_app (ys := kidV x) (m := 1) rfl rfl hown (hR := by infer_instance) (SrcV.lit) rfl rfl (by decide) rfl (by omega) (by omega) rfl (fun v' sp' hown' => ?_)
      have hm : (acc.map kidV).flatten ++ kidV x = ((acc ++ [x]).map kidV).flatten := by simp
      rw [hm] at hown' ⊢
      repeat' (first | (refine i_op ?_; first | (refine i_qq ?_; refine qQ ?_) | refine qEf ?_) | refine tl_nil ?_ | (refine i_tc ?_; refine qTc ?_) | (refine i_te ?_; refine qTe ?_) | intro _)
      refine te_round_g (i + 1, _, v', sp', acc ++ [x], a3, n3, c3, l3, st3, bad3) (⟨hlt, Hp.le_trans hle1 hle3, hown', by simp [hal], h3, hc3, by rw [hq2]; simp⟩) ev_le ev_le rfl tk inferInstance (by first | omega | (dsimp only; omega))
  · have hi2 : i = x1 := by omega
    subst hi2
    rw [Nat.sub_self, manyTo] at hq2
    simp only [List.append_nil] at hq2
    subst hq2
    repeat' (first | (refine i_op ?_; first | (refine i_qq ?_; refine qQ ?_) | refine qEf ?_) | refine tl_nil ?_ | (refine i_tc ?_; refine qTc ?_) | (refine i_te ?_; refine qTe ?_) | intro _)
    refine te_freeze (ownC (.slice va i vc) ((acc.map kidV).flatten) sp 224) (fun ρ3 hle3 hfz => ?_)
    obtain ⟨sa, sc, e1, hsc, hA⟩ := hown.aIn hal hg hfz
    cases e1
    exact qE ⟨Hp.le_trans hle1 hle3, _, _, _, a2, n2, c2, rfl, hsc, by omega, hA, h2.mono hle3, hc2, rfl⟩
theorem tleaf_spec (ρ : Hp) (bt br : Nat) (all : Int) (bad : Bool) (vk vr vs : Value) (h1 : vk.oneCell' = true) (h2 : vr.oneCell' = true) (h3 : vs.oneCell' = true) (a : Option Addr) (n c : Nat) (l : List UInt8) (h : SIn ρ u8c a n l) (hc : n ≤ c) (st : Int) :
    Spec Tryz.prog 277 [.pointer (some ⟨bt, 0, none⟩)] ρ [tkC bt br all bad vk vr vs, rdC br a n c st]
      (fun v ρ' L' => v = .tuple ⟨[]⟩ ∧ ρ.le ρ' ∧ ∃ sa sn sc a' n' c', sn ≤ sc ∧ sn ≤ 255 ∧ AIn ρ' 4 rowV sa sn (manyR rowR l st bad).1 ∧ SIn ρ' u8c a' n' (manyR rowR l st bad).2.1 ∧ n' ≤ c' ∧ L' = [tkC bt br all (manyR rowR l st bad).2.2.2 vk (.slice sa sn sc) vs, rdC br a' n' c' (manyR rowR l st bad).2.2.1]) := by
  have hm := manyRow_spec ρ bt br all bad vk vr vs a n c l h hc st
  refine spec_enter Tryz.func277 rfl rfl rfl fun u R => ?_
  simp only [argsE, List.cons_append, List.nil_append]
  repeat' (first | (refine tl_is (.func 299) ?_; refine qC rfl rfl (hm) ?_; rintro v ρ' L' hle ⟨hle1, sa, sn, sc, a', n', c', rfl, q1, q2, q3, q4, q5, rfl⟩ <;> (try simp only [kM, kN, kO])) | (refine i_op ?_; first | (refine i_qq ?_; refine qQ ?_) | refine qEf ?_) | refine tl_nil ?_ | (refine i_tc ?_; refine qTc ?_) | (refine i_te ?_; refine qTe ?_) | intro _)
  exact qE ⟨rfl, hle1, sa, sn, sc, a', n', c', q1, q2, q3, q4, q5, rfl⟩
theorem tinner_spec (ρ : Hp) (bt br : Nat) (all : Int) (bad : Bool) (vk vr vs : Value) (h1 : vk.oneCell' = true) (h2 : vr.oneCell' = true) (h3 : vs.oneCell' = true) (a : Option Addr) (n c : Nat) (l : List UInt8) (h : SIn ρ u8c a n l) (hc : n ≤ c) (st : Int) :
    Spec Tryz.prog 278 [.pointer (some ⟨bt, 0, none⟩)] ρ [tkC bt br all bad vk vr vs, rdC br a n c st]
      (fun v ρ' L' => v = .tuple ⟨[]⟩ ∧ ρ.le ρ' ∧ ∃ sa sn sc a' n' c', sn ≤ sc ∧ sn ≤ 255 ∧ AIn ρ' 3 kidV sa sn (manyR kidRB l st bad).1 ∧ SIn ρ' u8c a' n' (manyR kidRB l st bad).2.1 ∧ n' ≤ c' ∧ L' = [tkC bt br all (manyR kidRB l st bad).2.2.2 vk vr (.slice sa sn sc), rdC br a' n' c' (manyR kidRB l st bad).2.2.1]) := by
  have hm := manyKid_spec ρ bt br all bad vk vr vs a n c l h hc st
  refine spec_enter Tryz.func278 rfl rfl rfl fun u R => ?_
  simp only [argsE, List.cons_append, List.nil_append]
  repeat' (first | (refine tl_is (.func 300) ?_; refine qC rfl rfl (hm) ?_; rintro v ρ' L' hle ⟨hle1, sa, sn, sc, a', n', c', rfl, q1, q2, q3, q4, q5, rfl⟩ <;> (try simp only [kM, kN, kO])) | (refine i_op ?_; first | (refine i_qq ?_; refine qQ ?_) | refine qEf ?_) | refine tl_nil ?_ | (refine i_tc ?_; refine qTc ?_) | (refine i_te ?_; refine qTe ?_) | intro _)
  exact qE ⟨rfl, hle1, sa, sn, sc, a', n', c', q1, q2, q3, q4, q5, rfl⟩
end Go.Proofs.E

namespace Go.Proofs.E
open Go
set_option linter.unusedVariables false
set_option linter.unusedSimpArgs false
set_option linter.unusedSectionVars false
set_option maxRecDepth 4000
set_option maxHeartbeats 1000000
attribute [local irreducible] Yl TL TC TE Spec YSpec R1 Hp.le EnvLe TS TR YS Stays
theorem from_spec (ρ : Hp) (a : Option Addr) (n c : Nat) (l : List UInt8) (h : SIn ρ u8c a n l) (hn : n ≤ 1000000) :
    Spec Tryz.prog 237 [.slice a n c] ρ [] (fun v ρ' L' => ρ.le ρ' ∧ ∃ bt br a' c', v = .pointer (some ⟨bt, 0, none⟩) ∧ n ≤ c' ∧ SIn ρ' u8c a' n l ∧ L' = [tkC bt br n false (.int .i64 0) (.slice none 0 0) (.slice none 0 0), rdC br a' n c' 0]) := by
  have hr := read_spec ρ a n c l h hn
  refine spec_enter Tryz.func237 rfl rfl rfl fun u R => ?_
  simp only [argsE, List.cons_append, List.nil_append]
  repeat' (first | (refine tl_is (.func 79) ?_; refine qC rfl rfl (hr) ?_; rintro v ρ' L' hle ⟨hle, br, a', c', rfl, hc', hs, rfl⟩ <;> (try simp only [kM, kN, kO])) | (refine i_op ?_; first | (refine i_qq ?_; refine qQ ?_) | refine qEf ?_) | refine tl_nil ?_ | (refine i_tc ?_; refine qTc ?_) | (refine i_te ?_; refine qTe ?_) | intro _)
  exact qE ⟨hle, _, br, a', c', rfl, hc', hs, rfl⟩
def takenN (all : Int) (left : Nat) (bad : Bool) (st : Int) : Int := if bad then 0 else if st ≠ 0 then 0 else all - left
def takenE (bad : Bool) (st : Int) : Int := if bad then 161 else st
theorem takenRow_spec (ρ : Hp) (bt br : Nat) (all : Nat) (hall : all ≤ 1000000) (bad : Bool) (vk vr vs : Value) (a : Option Addr) (n c : Nat) (st : Int) (r : Row) (hn : n ≤ all) :
    Spec Tryz.prog 240 [.pointer (some ⟨bt, 0, none⟩), .agg ⟨rowV r⟩] ρ [tkC bt br all bad vk vr vs, rdC br a n c st]
      (fun v ρ' L' => v = .tuple ⟨[.agg ⟨rowV (if bad || decide (st ≠ 0) then ⟨0, 0, 0, []⟩ else r)⟩, .int .i64 (takenN all n bad st), .int .i64 (takenE bad st)]⟩ ∧ ρ' = ρ ∧ L' = []) := by
  refine spec_enter Tryz.func240 rfl rfl rfl fun u R => ?_
  simp only [argsE, List.cons_append, List.nil_append, takenN, takenE]
  cases bad
  · by_cases h : st = 0
    · subst h
      simp only [Bool.false_or, ne_eq, not_true_eq_false, decide_false, Bool.false_eq_true, if_false]
      repeat' (first | (refine tl_is (.func 174) ?_; refine qC rfl rfl (err_spec _ br a n c 0) ?_; rintro v ρ' L' hle ⟨rfl, rfl, rfl⟩ <;> (try simp only [kM, kN, kO])) | (refine i_op ?_; first | (refine i_qq ?_; refine qQ ?_) | refine qEf ?_) | refine tl_nil ?_ | (refine i_tc ?_; refine qTc ?_) | (refine i_te ?_; refine qTe ?_) | intro _)
      rename_i b3 b4 b7
      refine tc_any (Stays _ _ ([tkC bt br all false vk vr vs, [(b3, .cells ⟨rowV r⟩ 101 (0, 0))]])) (stays_of (hT := tk) (Hp.le_refl _)) ?_
      all_goals refine rLd 0 ?_
      all_goals refine rMv 1 ?_
      all_goals refine rNc 2 ?_
      all_goals refine rFa 3 ?_
      all_goals refine rLd 4 ?_
      all_goals refine rMv 5 ?_
      all_goals refine rNc 6 ?_
      all_goals refine rFa 7 ?_
      all_goals refine rLd 8 ?_
      all_goals (refine rStep (i := 9) ?_; ((try refine qWant ?_); (first | (refine tl_is (.func 89) ?_; refine qC rfl rfl (left_spec _ br a n c 0) ?_; rintro v ρ' L' hle ⟨rfl, rfl, rfl⟩ <;> (try simp only [kM, kN, kO])) | (refine qEf ?_; try intro _)) <;> ((try simp only [kM, kN, kO]); refine tl_nil ?_; refine rNext ?_)))
      all_goals refine rSb 10 ?_
      all_goals (refine rStep (i := 11) ?_; ((try refine qWant ?_); (first | (refine qEf ?_; try intro _)) <;> ((try simp only [kM, kN, kO]); refine tl_nil ?_; refine rNext ?_)))
      all_goals refine rFull ?_
      all_goals refine rAs 12 ?_
      all_goals refine rAs 13 ?_
      all_goals refine rDone ?_
      repeat' (first | (refine i_op ?_; first | (refine i_qq ?_; refine qQ ?_) | refine qEf ?_) | refine tl_nil ?_ | (refine i_tc ?_; refine qTc ?_) | (refine i_te ?_; refine qTe ?_) | intro _)
      exact qE ⟨rfl, rfl, rfl⟩
    · simp only [Bool.false_or, ne_eq, h, not_false_eq_true, decide_true, if_true, Bool.false_eq_true, if_false]
      repeat' (first | (refine tl_is (.func 174) ?_; refine qC rfl rfl (err_spec _ br a n c st) ?_; rintro v ρ' L' hle ⟨rfl, rfl, rfl⟩ <;> (try simp only [kM, kN, kO])) | (refine i_op ?_; first | (refine i_qq ?_; refine qQ ?_) | refine qEf ?_) | refine tl_nil ?_ | (refine i_tc ?_; refine qTc ?_) | (refine i_te ?_; refine qTe ?_) | intro _)
      rename_i b3 b4 b7
      refine tc_any (Stays _ _ ([tkC bt br all false vk vr vs, [(b7, .cells ⟨rowV ⟨0, 0, 0, []⟩⟩ 101 (0, 0))]])) (stays_of (hT := tk) (Hp.le_refl _)) ?_
      all_goals refine rLd 0 ?_
      all_goals refine rMv 1 ?_
      all_goals refine rNc 2 ?_
      all_goals refine rFa 3 ?_
      all_goals refine rLd 4 ?_
      all_goals (refine rStep (i := 5) ?_; ((try refine qWant ?_); (first | (refine tl_is (.func 174) ?_; refine qC rfl rfl (err_spec _ br a n c st) ?_; rintro v ρ' L' hle ⟨rfl, rfl, rfl⟩ <;> (try simp only [kM, kN, kO])) | (refine qEf ?_; try intro _)) <;> ((try simp only [kM, kN, kO]); refine tl_nil ?_; refine rNext ?_)))
      all_goals (refine rStep (i := 6) ?_; ((try refine qWant ?_); (first | (refine qEf ?_; try intro _)) <;> ((try simp only [kM, kN, kO]); refine tl_nil ?_; refine rNext ?_)))
      all_goals refine rFull ?_
      all_goals refine rAs 7 ?_
      all_goals refine rAs 8 ?_
      all_goals refine rDone ?_
      repeat' (first | (refine i_op ?_; first | (refine i_qq ?_; refine qQ ?_) | refine qEf ?_) | refine tl_nil ?_ | (refine i_tc ?_; refine qTc ?_) | (refine i_te ?_; refine qTe ?_) | intro _)
      exact qE ⟨rfl, rfl, rfl⟩
  · simp only [Bool.true_or, if_true]
    repeat' (first | (refine i_op ?_; first | (refine i_qq ?_; refine qQ ?_) | refine qEf ?_) | refine tl_nil ?_ | (refine i_tc ?_; refine qTc ?_) | (refine i_te ?_; refine qTe ?_) | intro _)
    exact qE ⟨rfl, rfl, rfl⟩
theorem takenCont_spec (ρ : Hp) (bt br : Nat) (all : Nat) (hall : all ≤ 1000000) (bad : Bool) (vk vr vs : Value) (a : Option Addr) (n c : Nat) (st : Int) (k : Int) (w : CV) (hn : n ≤ all) :
    Spec Tryz.prog 238 [.pointer (some ⟨bt, 0, none⟩), .agg ⟨contV k w⟩] ρ [tkC bt br all bad vk vr vs, rdC br a n c st]
      (fun v ρ' L' => v = .tuple ⟨[.agg ⟨if bad || decide (st ≠ 0) then contV 0 ⟨none, 0, 0, none, 0, 0⟩ else contV k w⟩, .int .i64 (takenN all n bad st), .int .i64 (takenE bad st)]⟩ ∧ ρ' = ρ ∧ L' = []) := by
  refine spec_enter Tryz.func238 rfl rfl rfl fun u R => ?_
  simp only [argsE, List.cons_append, List.nil_append, takenN, takenE]
  cases bad
  · by_cases h : st = 0
    · subst h
      simp only [Bool.false_or, ne_eq, not_true_eq_false, decide_false, Bool.false_eq_true, if_false]
      repeat' (first | (refine tl_is (.func 174) ?_; refine qC rfl rfl (err_spec _ br a n c 0) ?_; rintro v ρ' L' hle ⟨rfl, rfl, rfl⟩ <;> (try simp only [kM, kN, kO])) | (refine i_op ?_; first | (refine i_qq ?_; refine qQ ?_) | refine qEf ?_) | refine tl_nil ?_ | (refine i_tc ?_; refine qTc ?_) | (refine i_te ?_; refine qTe ?_) | intro _)
      rename_i b3 b4 b7
      refine tc_any (Stays _ _ ([tkC bt br all false vk vr vs, [(b3, .cells ⟨contV k w⟩ 110 (0, 0))]])) (stays_of (hT := tk) (Hp.le_refl _)) ?_
      all_goals refine rLd 0 ?_
      all_goals refine rMv 1 ?_
      all_goals refine rNc 2 ?_
      all_goals refine rFa 3 ?_
      all_goals refine rLd 4 ?_
      all_goals refine rMv 5 ?_
      all_goals refine rNc 6 ?_
      all_goals refine rFa 7 ?_
      all_goals refine rLd 8 ?_
      all_goals (refine rStep (i := 9) ?_; ((try refine qWant ?_); (first | (refine tl_is (.func 89) ?_; refine qC rfl rfl (left_spec _ br a n c 0) ?_; rintro v ρ' L' hle ⟨rfl, rfl, rfl⟩ <;> (try simp only [kM, kN, kO])) | (refine qEf ?_; try intro _)) <;> ((try simp only [kM, kN, kO]); refine tl_nil ?_; refine rNext ?_)))
      all_goals refine rSb 10 ?_
      all_goals (refine rStep (i := 11) ?_; ((try refine qWant ?_); (first | (refine qEf ?_; try intro _)) <;> ((try simp only [kM, kN, kO]); refine tl_nil ?_; refine rNext ?_)))
      all_goals refine rFull ?_
      all_goals refine rAs 12 ?_
      all_goals refine rAs 13 ?_
      all_goals refine rDone ?_
      repeat' (first | (refine i_op ?_; first | (refine i_qq ?_; refine qQ ?_) | refine qEf ?_) | refine tl_nil ?_ | (refine i_tc ?_; refine qTc ?_) | (refine i_te ?_; refine qTe ?_) | intro _)
      exact qE ⟨rfl, rfl, rfl⟩
    · simp only [Bool.false_or, ne_eq, h, not_false_eq_true, decide_true, if_true, Bool.false_eq_true, if_false]
      repeat' (first | (refine tl_is (.func 174) ?_; refine qC rfl rfl (err_spec _ br a n c st) ?_; rintro v ρ' L' hle ⟨rfl, rfl, rfl⟩ <;> (try simp only [kM, kN, kO])) | (refine i_op ?_; first | (refine i_qq ?_; refine qQ ?_) | refine qEf ?_) | refine tl_nil ?_ | (refine i_tc ?_; refine qTc ?_) | (refine i_te ?_; refine qTe ?_) | intro _)
      rename_i b3 b4 b7
      refine tc_any (Stays _ _ ([tkC bt br all false vk vr vs, [(b7, .cells ⟨contV 0 ⟨none, 0, 0, none, 0, 0⟩⟩ 110 (0, 0))]])) (stays_of (hT := tk) (Hp.le_refl _)) ?_
      all_goals refine rLd 0 ?_
      all_goals refine rMv 1 ?_
      all_goals refine rNc 2 ?_
      all_goals refine rFa 3 ?_
      all_goals refine rLd 4 ?_
      all_goals (refine rStep (i := 5) ?_; ((try refine qWant ?_); (first | (refine tl_is (.func 174) ?_; refine qC rfl rfl (err_spec _ br a n c st) ?_; rintro v ρ' L' hle ⟨rfl, rfl, rfl⟩ <;> (try simp only [kM, kN, kO])) | (refine qEf ?_; try intro _)) <;> ((try simp only [kM, kN, kO]); refine tl_nil ?_; refine rNext ?_)))
      all_goals (refine rStep (i := 6) ?_; ((try refine qWant ?_); (first | (refine qEf ?_; try intro _)) <;> ((try simp only [kM, kN, kO]); refine tl_nil ?_; refine rNext ?_)))
      all_goals refine rFull ?_
      all_goals refine rAs 7 ?_
      all_goals refine rAs 8 ?_
      all_goals refine rDone ?_
      repeat' (first | (refine i_op ?_; first | (refine i_qq ?_; refine qQ ?_) | refine qEf ?_) | refine tl_nil ?_ | (refine i_tc ?_; refine qTc ?_) | (refine i_te ?_; refine qTe ?_) | intro _)
      exact qE ⟨rfl, rfl, rfl⟩
  · simp only [Bool.true_or, if_true]
    repeat' (first | (refine i_op ?_; first | (refine i_qq ?_; refine qQ ?_) | refine qEf ?_) | refine tl_nil ?_ | (refine i_tc ?_; refine qTc ?_) | (refine i_te ?_; refine qTe ?_) | intro _)
    exact qE ⟨rfl, rfl, rfl⟩
end Go.Proofs.E

namespace Go.Proofs.E
open Go
set_option linter.unusedVariables false
set_option linter.unusedSimpArgs false
set_option linter.unusedSectionVars false
set_option maxRecDepth 4000
set_option maxHeartbeats 1000000
attribute [local irreducible] Yl TL TC TE Spec YSpec R1 Hp.le EnvLe TS TR YS Stays
def contM (x1 : Nat) (l1 : List UInt8) (st1 : Int) (b1 : Bool) : (List Row × List Kid) × RS3 :=
  if !b1 && decide (st1 = 0) then
    if x1 = 1 then (((manyR rowR l1 st1 b1).1, []), (manyR rowR l1 st1 b1).2)
    else if x1 = 2 then (([], (manyR kidRB l1 st1 b1).1), (manyR kidRB l1 st1 b1).2)
    else (([], []), l1, st1, b1)
  else (([], []), l1, st1, b1)
def contE (x1 : Nat) (m : (List Row × List Kid) × RS3) : Cont × RS3 := (⟨x1, m.1.1, m.1.2⟩, m.2.1, m.2.2.1, needB m.2.2.2 m.2.2.1 (contOk ⟨x1, m.1.1, m.1.2⟩))
def contentR (l : List UInt8) : Cont × RS3 :=
  contE (numR 1 l 0).1 (contM (numR 1 l 0).1 (numR 1 l 0).2.1 (numR 1 l 0).2.2 (needB false (numR 1 l 0).2.2 (decide (((numR 1 l 0).1 : Int) ≤ 2))))
theorem CIn.nil {ρ : Hp} : CIn ρ ⟨none, 0, 0, none, 0, 0⟩ [] [] := ⟨AIn.nil, AIn.nil, by decide, by decide, by decide, by decide⟩
theorem content_spec (ρ : Hp) (bt br : Nat) (all : Int) (a : Option Addr) (n c : Nat) (l : List UInt8) (h : SIn ρ u8c a n l) (hc : n ≤ c) :
    Spec Tryz.prog 239 [.pointer (some ⟨bt, 0, none⟩)] ρ [tkC bt br all false (.int .i64 0) (.slice none 0 0) (.slice none 0 0), rdC br a n c 0]
      (fun v ρ' L' => ρ.le ρ' ∧ ∃ w a' n' c', v = .agg ⟨contV (contentR l).1.kind w⟩ ∧ CIn ρ' w (contentR l).1.rows (contentR l).1.kids ∧ SIn ρ' u8c a' n' (contentR l).2.1 ∧ n' ≤ c' ∧
        L' = [tkC bt br all (contentR l).2.2.2 (.int .i64 (contentR l).1.kind) (.slice w.ra w.rn w.rc) (.slice w.ka w.kn w.kc), rdC br a' n' c' (contentR l).2.2.1]) := by
  have hn1 := u8_spec ρ br a n c l h hc 0
  have hb1 := numR_lt 1 l 0
  generalize hq : contentR l = q
  unfold contentR at hq
  generalize numR 1 l 0 = r1 at *
  obtain ⟨x1, l1, st1⟩ := r1
  dsimp only at hq hn1 hb1
  generalize hB1 : needB false st1 (decide ((x1 : Int) ≤ 2)) = b1 at *
  have hnil : IntKeys .i64 [] := by intro e he; simp at he
  have hg0 : ∀ k : Int, mget [] k = none := fun _ => rfl
  refine spec_enter Tryz.func239 rfl rfl rfl fun u R => ?_
  simp only [argsE, List.cons_append, List.nil_append]
  rcases (show (x1 : Int) = 1 ∨ (x1 : Int) = 2 ∨ (x1 : Int) = 0 ∨ (2 : Int) < (x1 : Int) by omega) with hx | hx | hx | hx
  · rw [decide_eq_true (show (x1 : Int) ≤ 2 by omega)] at hB1
    repeat' (first | (refine tl_is (.func 80) ?_; refine qC rfl rfl (hn1) ?_; rintro v ρ' L' hle ⟨rfl, rfl, a1, n1, c1, h1, hc1, rfl⟩ <;> (try simp only [kM, kN, kO])) | (refine tl_is (.func 276) ?_; refine qC rfl rfl (need_spec _ bt br all false _ _ _ a1 n1 c1 st1 _) ?_; rintro v ρ' L' hle ⟨rfl, rfl, rfl⟩ <;> (try simp only [kM, kN, kO, hB1])) | (refine tl_insert rfl rfl rfl hnil (fun es1 ck1 i1 i2 => ?_)) | (refine tl_insert rfl rfl rfl i1 (fun es2 ck2 j1 j2 => ?_); have hg := j2 (x1 : Int); rw [i2, if_neg (by omega), if_pos hx] at hg) | (refine i_op ?_; first | (refine i_qq ?_; refine qQ ?_) | refine qEf ?_) | refine tl_nil ?_ | (refine i_tc ?_; refine qTc ?_) | (refine i_te ?_; refine qTe ?_) | intro _)
    cases hok : (!b1 && decide (st1 = 0))
    · have hm : contM x1 l1 st1 b1 = (([], []), l1, st1, b1) := by rw [contM, hok]; rfl
      rw [hm] at hq
      have hck := fun ρ => check_spec ρ ⟨none, 0, 0, none, 0, 0⟩ ⟨x1, [], []⟩ CIn.nil
      simp only [contE] at hq
      generalize hB2 : needB b1 st1 (contOk ⟨x1, [], []⟩) = b2 at *
      subst hq
      repeat' (first | (refine tl_is (.func 279) ?_; refine qC rfl rfl (ok_spec _ bt br all b1 _ _ _ a1 n1 c1 st1) ?_; rintro v ρ' L' hle ⟨rfl, rfl, rfl⟩ <;> (try simp only [kM, kN, kO, hok])) | (refine i_op ?_; first | (refine i_qq ?_; refine qQ ?_) | refine qEf ?_) | refine tl_nil ?_ | (refine i_tc ?_; refine qTc ?_) | (refine i_te ?_; refine qTe ?_) | intro _)
      cases hco : contOk ⟨x1, [], []⟩
      all_goals rw [hco] at hck hB2
      all_goals (repeat' (first | (refine tl_is (.func 251) ?_; refine qC rfl rfl (hck _) ?_; rintro v ρ' L' hle ⟨rfl, rfl, rfl⟩ <;> (try simp only [kM, kN, kO, if_true, if_false, Bool.false_eq_true])) | (refine tl_is (.func 276) ?_; refine qC rfl rfl (need_spec _ bt br all b1 _ _ _ a1 n1 c1 st1 _) ?_; rintro v ρ' L' hle ⟨rfl, rfl, rfl⟩ <;> (try simp only [kM, kN, kO, hB2])) | (refine i_op ?_; first | (refine i_qq ?_; refine qQ ?_) | refine qEf ?_) | refine tl_nil ?_ | (refine i_tc ?_; refine qTc ?_) | (refine i_te ?_; refine qTe ?_) | intro _))
      all_goals exact qE ⟨Hp.le_refl _, ⟨none, 0, 0, none, 0, 0⟩, a1, n1, c1, rfl, CIn.nil, h1, hc1, rfl⟩
    · have hlf := fun ρ (h : SIn ρ u8c a1 n1 l1) => tleaf_spec ρ bt br all b1 (.int .i64 x1) (.slice none 0 0) (.slice none 0 0) rfl rfl rfl a1 n1 c1 l1 h hc1 st1
      have hm : contM x1 l1 st1 b1 = (((manyR rowR l1 st1 b1).1, []), (manyR rowR l1 st1 b1).2) := by rw [contM, if_pos hok, if_pos (by omega)]
      rw [hm] at hq
      generalize manyR rowR l1 st1 b1 = m at *
      obtain ⟨xs, l2, st2, b2⟩ := m
      dsimp only at hq hlf
      have hck := fun ρ w h => check_spec ρ w ⟨x1, xs, []⟩ h
      simp only [contE] at hq
      generalize hB2 : needB b2 st2 (contOk ⟨x1, xs, []⟩) = b3 at *
      subst hq
      repeat' (first | (refine tl_is (.func 279) ?_; refine qC rfl rfl (ok_spec _ bt br all b1 _ _ _ a1 n1 c1 st1) ?_; rintro v ρ' L' hle ⟨rfl, rfl, rfl⟩ <;> (try simp only [kM, kN, kO, hok])) | (refine tl_is (.tmp 40) ?_; refine qC rfl rfl (hlf _ h1) ?_; rintro v ρ' L' hle ⟨rfl, hle2, sa, sn, sc, a2, n2, c2, hsc, hs255, hA, h2, hc2, rfl⟩ <;> (try simp only [kM, kN, kO])) | (refine i_op ?_; first | (refine i_qq ?_; refine qQ ?_) | refine qEf ?_) | refine tl_nil ?_ | (refine i_tc ?_; refine qTc ?_) | (refine i_te ?_; refine qTe ?_) | intro _)
      have hC : CIn ρ' ⟨sa, sn, sc, none, 0, 0⟩ xs [] := ⟨hA, AIn.nil, by dsimp only; omega, Nat.zero_le _, hsc, Nat.le_refl _⟩
      cases hco : contOk ⟨x1, xs, []⟩
      all_goals rw [hco] at hck hB2
      all_goals (repeat' (first | (refine tl_is (.func 251) ?_; refine qC rfl rfl (hck _ _ hC) ?_; rintro v ρ' L' hle ⟨rfl, rfl, rfl⟩ <;> (try simp only [kM, kN, kO, if_true, if_false, Bool.false_eq_true])) | (refine tl_is (.func 276) ?_; refine qC rfl rfl (need_spec _ bt br all b2 _ _ _ a2 n2 c2 st2 _) ?_; rintro v ρ' L' hle ⟨rfl, rfl, rfl⟩ <;> (try simp only [kM, kN, kO, hB2])) | (refine i_op ?_; first | (refine i_qq ?_; refine qQ ?_) | refine qEf ?_) | refine tl_nil ?_ | (refine i_tc ?_; refine qTc ?_) | (refine i_te ?_; refine qTe ?_) | intro _))
      all_goals exact qE ⟨hle2, ⟨sa, sn, sc, none, 0, 0⟩, a2, n2, c2, rfl, hC, h2, hc2, rfl⟩
  · rw [decide_eq_true (show (x1 : Int) ≤ 2 by omega)] at hB1
    repeat' (first | (refine tl_is (.func 80) ?_; refine qC rfl rfl (hn1) ?_; rintro v ρ' L' hle ⟨rfl, rfl, a1, n1, c1, h1, hc1, rfl⟩ <;> (try simp only [kM, kN, kO])) | (refine tl_is (.func 276) ?_; refine qC rfl rfl (need_spec _ bt br all false _ _ _ a1 n1 c1 st1 _) ?_; rintro v ρ' L' hle ⟨rfl, rfl, rfl⟩ <;> (try simp only [kM, kN, kO, hB1])) | (refine tl_insert rfl rfl rfl hnil (fun es1 ck1 i1 i2 => ?_)) | (refine tl_insert rfl rfl rfl i1 (fun es2 ck2 j1 j2 => ?_); have hg := j2 (x1 : Int); rw [if_pos hx] at hg) | (refine i_op ?_; first | (refine i_qq ?_; refine qQ ?_) | refine qEf ?_) | refine tl_nil ?_ | (refine i_tc ?_; refine qTc ?_) | (refine i_te ?_; refine qTe ?_) | intro _)
    cases hok : (!b1 && decide (st1 = 0))
    · have hm : contM x1 l1 st1 b1 = (([], []), l1, st1, b1) := by rw [contM, hok]; rfl
      rw [hm] at hq
      have hck := fun ρ => check_spec ρ ⟨none, 0, 0, none, 0, 0⟩ ⟨x1, [], []⟩ CIn.nil
      simp only [contE] at hq
      generalize hB2 : needB b1 st1 (contOk ⟨x1, [], []⟩) = b2 at *
      subst hq
      repeat' (first | (refine tl_is (.func 279) ?_; refine qC rfl rfl (ok_spec _ bt br all b1 _ _ _ a1 n1 c1 st1) ?_; rintro v ρ' L' hle ⟨rfl, rfl, rfl⟩ <;> (try simp only [kM, kN, kO, hok])) | (refine i_op ?_; first | (refine i_qq ?_; refine qQ ?_) | refine qEf ?_) | refine tl_nil ?_ | (refine i_tc ?_; refine qTc ?_) | (refine i_te ?_; refine qTe ?_) | intro _)
      cases hco : contOk ⟨x1, [], []⟩
      all_goals rw [hco] at hck hB2
      all_goals (repeat' (first | (refine tl_is (.func 251) ?_; refine qC rfl rfl (hck _) ?_; rintro v ρ' L' hle ⟨rfl, rfl, rfl⟩ <;> (try simp only [kM, kN, kO, if_true, if_false, Bool.false_eq_true])) | (refine tl_is (.func 276) ?_; refine qC rfl rfl (need_spec _ bt br all b1 _ _ _ a1 n1 c1 st1 _) ?_; rintro v ρ' L' hle ⟨rfl, rfl, rfl⟩ <;> (try simp only [kM, kN, kO, hB2])) | (refine i_op ?_; first | (refine i_qq ?_; refine qQ ?_) | refine qEf ?_) | refine tl_nil ?_ | (refine i_tc ?_; refine qTc ?_) | (refine i_te ?_; refine qTe ?_) | intro _))
      all_goals exact qE ⟨Hp.le_refl _, ⟨none, 0, 0, none, 0, 0⟩, a1, n1, c1, rfl, CIn.nil, h1, hc1, rfl⟩
    · have hlf := fun ρ (h : SIn ρ u8c a1 n1 l1) => tinner_spec ρ bt br all b1 (.int .i64 x1) (.slice none 0 0) (.slice none 0 0) rfl rfl rfl a1 n1 c1 l1 h hc1 st1
      have hm : contM x1 l1 st1 b1 = (([], (manyR kidRB l1 st1 b1).1), (manyR kidRB l1 st1 b1).2) := by rw [contM, if_pos hok, if_neg (by omega), if_pos (by omega)]
      rw [hm] at hq
      generalize manyR kidRB l1 st1 b1 = m at *
      obtain ⟨xs, l2, st2, b2⟩ := m
      dsimp only at hq hlf
      have hck := fun ρ w h => check_spec ρ w ⟨x1, [], xs⟩ h
      simp only [contE] at hq
      generalize hB2 : needB b2 st2 (contOk ⟨x1, [], xs⟩) = b3 at *
      subst hq
      repeat' (first | (refine tl_is (.func 279) ?_; refine qC rfl rfl (ok_spec _ bt br all b1 _ _ _ a1 n1 c1 st1) ?_; rintro v ρ' L' hle ⟨rfl, rfl, rfl⟩ <;> (try simp only [kM, kN, kO, hok])) | (refine tl_is (.tmp 40) ?_; refine qC rfl rfl (hlf _ h1) ?_; rintro v ρ' L' hle ⟨rfl, hle2, sa, sn, sc, a2, n2, c2, hsc, hs255, hA, h2, hc2, rfl⟩ <;> (try simp only [kM, kN, kO])) | (refine i_op ?_; first | (refine i_qq ?_; refine qQ ?_) | refine qEf ?_) | refine tl_nil ?_ | (refine i_tc ?_; refine qTc ?_) | (refine i_te ?_; refine qTe ?_) | intro _)
      have hC : CIn ρ' ⟨none, 0, 0, sa, sn, sc⟩ [] xs := ⟨AIn.nil, hA, Nat.zero_le _, by dsimp only; omega, Nat.le_refl _, hsc⟩
      cases hco : contOk ⟨x1, [], xs⟩
      all_goals rw [hco] at hck hB2
      all_goals (repeat' (first | (refine tl_is (.func 251) ?_; refine qC rfl rfl (hck _ _ hC) ?_; rintro v ρ' L' hle ⟨rfl, rfl, rfl⟩ <;> (try simp only [kM, kN, kO, if_true, if_false, Bool.false_eq_true])) | (refine tl_is (.func 276) ?_; refine qC rfl rfl (need_spec _ bt br all b2 _ _ _ a2 n2 c2 st2 _) ?_; rintro v ρ' L' hle ⟨rfl, rfl, rfl⟩ <;> (try simp only [kM, kN, kO, hB2])) | (refine i_op ?_; first | (refine i_qq ?_; refine qQ ?_) | refine qEf ?_) | refine tl_nil ?_ | (refine i_tc ?_; refine qTc ?_) | (refine i_te ?_; refine qTe ?_) | intro _))
      all_goals exact qE ⟨hle2, ⟨none, 0, 0, sa, sn, sc⟩, a2, n2, c2, rfl, hC, h2, hc2, rfl⟩
  · rw [decide_eq_true (show (x1 : Int) ≤ 2 by omega)] at hB1
    repeat' (first | (refine tl_is (.func 80) ?_; refine qC rfl rfl (hn1) ?_; rintro v ρ' L' hle ⟨rfl, rfl, a1, n1, c1, h1, hc1, rfl⟩ <;> (try simp only [kM, kN, kO])) | (refine tl_is (.func 276) ?_; refine qC rfl rfl (need_spec _ bt br all false _ _ _ a1 n1 c1 st1 _) ?_; rintro v ρ' L' hle ⟨rfl, rfl, rfl⟩ <;> (try simp only [kM, kN, kO, hB1])) | (refine tl_insert rfl rfl rfl hnil (fun es1 ck1 i1 i2 => ?_)) | (refine tl_insert rfl rfl rfl i1 (fun es2 ck2 j1 j2 => ?_); have hg := j2 (x1 : Int); rw [i2, if_neg (by omega), if_neg (by omega), hg0] at hg) | (refine i_op ?_; first | (refine i_qq ?_; refine qQ ?_) | refine qEf ?_) | refine tl_nil ?_ | (refine i_tc ?_; refine qTc ?_) | (refine i_te ?_; refine qTe ?_) | intro _)
    have hm : contM x1 l1 st1 b1 = (([], []), l1, st1, b1) := by
      rw [contM]
      split
      · rw [if_neg (by omega), if_neg (by omega)]
      · rfl
    rw [hm] at hq
    have hck := fun ρ => check_spec ρ ⟨none, 0, 0, none, 0, 0⟩ ⟨x1, [], []⟩ CIn.nil
    simp only [contE] at hq
    generalize hB2 : needB b1 st1 (contOk ⟨x1, [], []⟩) = b2 at *
    subst hq
    cases hco : contOk ⟨x1, [], []⟩
    all_goals rw [hco] at hck hB2
    all_goals (repeat' (first | (refine tl_is (.func 251) ?_; refine qC rfl rfl (hck _) ?_; rintro v ρ' L' hle ⟨rfl, rfl, rfl⟩ <;> (try simp only [kM, kN, kO, if_true, if_false, Bool.false_eq_true])) | (refine tl_is (.func 276) ?_; refine qC rfl rfl (need_spec _ bt br all b1 _ _ _ a1 n1 c1 st1 _) ?_; rintro v ρ' L' hle ⟨rfl, rfl, rfl⟩ <;> (try simp only [kM, kN, kO, hB2])) | (refine i_op ?_; first | (refine i_qq ?_; refine qQ ?_) | refine qEf ?_) | refine tl_nil ?_ | (refine i_tc ?_; refine qTc ?_) | (refine i_te ?_; refine qTe ?_) | intro _))
    all_goals exact qE ⟨Hp.le_refl _, ⟨none, 0, 0, none, 0, 0⟩, a1, n1, c1, rfl, CIn.nil, h1, hc1, rfl⟩
  · rw [decide_eq_false (show ¬ (x1 : Int) ≤ 2 by omega)] at hB1
    repeat' (first | (refine tl_is (.func 80) ?_; refine qC rfl rfl (hn1) ?_; rintro v ρ' L' hle ⟨rfl, rfl, a1, n1, c1, h1, hc1, rfl⟩ <;> (try simp only [kM, kN, kO])) | (refine tl_is (.func 276) ?_; refine qC rfl rfl (need_spec _ bt br all false _ _ _ a1 n1 c1 st1 _) ?_; rintro v ρ' L' hle ⟨rfl, rfl, rfl⟩ <;> (try simp only [kM, kN, kO, hB1])) | (refine tl_insert rfl rfl rfl hnil (fun es1 ck1 i1 i2 => ?_)) | (refine tl_insert rfl rfl rfl i1 (fun es2 ck2 j1 j2 => ?_); have hg := j2 (x1 : Int); rw [i2, if_neg (by omega), if_neg (by omega), hg0] at hg) | (refine i_op ?_; first | (refine i_qq ?_; refine qQ ?_) | refine qEf ?_) | refine tl_nil ?_ | (refine i_tc ?_; refine qTc ?_) | (refine i_te ?_; refine qTe ?_) | intro _)
    have hm : contM x1 l1 st1 b1 = (([], []), l1, st1, b1) := by
      rw [contM]
      split
      · rw [if_neg (by omega), if_neg (by omega)]
      · rfl
    rw [hm] at hq
    have hck := fun ρ => check_spec ρ ⟨none, 0, 0, none, 0, 0⟩ ⟨x1, [], []⟩ CIn.nil
    simp only [contE] at hq
    generalize hB2 : needB b1 st1 (contOk ⟨x1, [], []⟩) = b2 at *
    subst hq
    cases hco : contOk ⟨x1, [], []⟩
    all_goals rw [hco] at hck hB2
    all_goals (repeat' (first | (refine tl_is (.func 251) ?_; refine qC rfl rfl (hck _) ?_; rintro v ρ' L' hle ⟨rfl, rfl, rfl⟩ <;> (try simp only [kM, kN, kO, if_true, if_false, Bool.false_eq_true])) | (refine tl_is (.func 276) ?_; refine qC rfl rfl (need_spec _ bt br all b1 _ _ _ a1 n1 c1 st1 _) ?_; rintro v ρ' L' hle ⟨rfl, rfl, rfl⟩ <;> (try simp only [kM, kN, kO, hB2])) | (refine i_op ?_; first | (refine i_qq ?_; refine qQ ?_) | refine qEf ?_) | refine tl_nil ?_ | (refine i_tc ?_; refine qTc ?_) | (refine i_te ?_; refine qTe ?_) | intro _))
    all_goals exact qE ⟨Hp.le_refl _, ⟨none, 0, 0, none, 0, 0⟩, a1, n1, c1, rfl, CIn.nil, h1, hc1, rfl⟩
end Go.Proofs.E

namespace Go.Proofs.E
open Go
set_option linter.unusedVariables false
set_option linter.unusedSimpArgs false
set_option linter.unusedSectionVars false
set_option maxRecDepth 4000
set_option maxHeartbeats 1000000
attribute [local irreducible] Yl TL TC TE Spec YSpec R1 Hp.le EnvLe TS TR YS Stays
theorem numR_len (k : Nat) (l : List UInt8) (st : Int) : (numR k l st).2.1.length ≤ l.length := by
  unfold numR; split
  · exact Nat.le_refl _
  · split
    · exact Nat.le_refl _
    · simp
theorem rawR_len (k : Nat) (l : List UInt8) (st : Int) : (rawR k l st).2.1.length ≤ l.length := by
  unfold rawR; split
  · exact Nat.le_refl _
  · split
    · exact Nat.le_refl _
    · simp
theorem rowR_len (l : List UInt8) (st : Int) (bad : Bool) : (rowR l st bad).2.1.length ≤ l.length := by
  unfold rowR
  dsimp only
  have e1 := numR_len 1 l st
  generalize numR 1 l st = r1 at *
  have e2 := numR_len 2 r1.2.1 r1.2.2
  generalize numR 2 r1.2.1 r1.2.2 = r2 at *
  have e3 := numR_len 8 r2.2.1 r2.2.2
  generalize numR 8 r2.2.1 r2.2.2 = r3 at *
  have e4 := numR_len 1 r3.2.1 r3.2.2
  generalize numR 1 r3.2.1 r3.2.2 = r4 at *
  have e5 := rawR_len r4.1 r4.2.1 r4.2.2
  split
  · split <;> dsimp only <;> omega
  · dsimp only; omega
theorem kidR_len (l : List UInt8) (st : Int) : (kidR l st).2.1.length ≤ l.length := by
  unfold kidR
  dsimp only
  have e1 := numR_len 1 l st
  generalize numR 1 l st = r1 at *
  have e2 := numR_len 2 r1.2.1 r1.2.2
  generalize numR 2 r1.2.1 r1.2.2 = r2 at *
  have e3 := numR_len 1 r2.2.1 r2.2.2
  omega
theorem manyTo_len {α : Type} {f : List UInt8 → Int → Bool → α × RS3} (hf : ∀ l st bad, (f l st bad).2.1.length ≤ l.length) : ∀ (n : Nat) (l : List UInt8) (st : Int) (bad : Bool), (manyTo f n l st bad).2.1.length ≤ l.length
  | 0, l, st, bad => Nat.le_refl _
  | n + 1, l, st, bad => by
    rw [manyTo]
    split
    · exact Nat.le_trans (manyTo_len hf n _ _ _) (hf l st bad)
    · exact Nat.le_refl _
theorem manyR_len {α : Type} {f : List UInt8 → Int → Bool → α × RS3} (hf : ∀ l st bad, (f l st bad).2.1.length ≤ l.length) (l : List UInt8) (st : Int) (bad : Bool) : (manyR f l st bad).2.1.length ≤ l.length :=
  Nat.le_trans (manyTo_len hf _ _ _ _) (numR_len 1 l st)
theorem contentR_len (l : List UInt8) : (contentR l).2.1.length ≤ l.length := by
  unfold contentR contE
  dsimp only
  have e1 := numR_len 1 l 0
  generalize numR 1 l 0 = r1 at *
  have h2 : ∀ b, (contM r1.1 r1.2.1 r1.2.2 b).2.1.length ≤ r1.2.1.length := fun b => by
    unfold contM
    have a1 := manyR_len (f := rowR) rowR_len r1.2.1 r1.2.2 b
    have a2 := manyR_len (f := kidRB) (fun l st bad => kidR_len l st) r1.2.1 r1.2.2 b
    split
    · split
      · exact a1
      · split
        · exact a2
        · exact Nat.le_refl _
    · exact Nat.le_refl _
  exact Nat.le_trans (h2 _) e1
def takeRowR (l : List UInt8) : Row × Int × Int :=
  let r := rowR l 0 false
  (if r.2.2.2 || decide (r.2.2.1 ≠ 0) then ⟨0, 0, 0, []⟩ else r.1, takenN l.length r.2.1.length r.2.2.2 r.2.2.1, takenE r.2.2.2 r.2.2.1)
def takeContR (l : List UInt8) : Cont × Int × Int :=
  let r := contentR l
  (if r.2.2.2 || decide (r.2.2.1 ≠ 0) then ⟨0, [], []⟩ else r.1, takenN l.length r.2.1.length r.2.2.2 r.2.2.1, takenE r.2.2.2 r.2.2.1)
theorem takeRow_spec (ρ : Hp) (a : Option Addr) (n c : Nat) (l : List UInt8) (h : SIn ρ u8c a n l) (hn : n ≤ 1000000) :
    Spec Tryz.prog 168 [.slice a n c] ρ [] (fun v ρ' L' => v = .tuple ⟨[.agg ⟨rowV (takeRowR l).1⟩, .int .i64 (takeRowR l).2.1, .int .i64 (takeRowR l).2.2]⟩ ∧ ρ.le ρ' ∧ L' = []) := by
  have hf := from_spec ρ a n c l h hn
  have hl := h.len
  have hlen := rowR_len l 0 false
  unfold takeRowR
  dsimp only
  rw [hl] at hlen ⊢
  refine spec_enter Tryz.func168 rfl rfl rfl fun u R => ?_
  simp only [argsE, List.cons_append, List.nil_append]
  repeat' (first | (refine tl_is (.func 237) ?_; refine qC rfl rfl (hf) ?_; rintro v ρ' L' hle ⟨hle1, bt, br, a1, c1, rfl, hc1, h1, rfl⟩ <;> (try simp only [kM, kN, kO])) | (refine i_op ?_; first | (refine i_qq ?_; refine qQ ?_) | refine qEf ?_) | refine tl_nil ?_ | (refine i_tc ?_; refine qTc ?_) | (refine i_te ?_; refine qTe ?_) | intro _)
  have hr := trow_spec _ bt br n false (.int .i64 0) (.slice none 0 0) (.slice none 0 0) a1 n c1 l h1 hc1 0
  generalize rowR l 0 false = r at *
  obtain ⟨x, l2, st2, b2⟩ := r
  dsimp only at hr hlen ⊢
  repeat' (first | (refine tl_is (.func 241) ?_; refine qC rfl rfl (hr) ?_; rintro v ρ' L' hle ⟨rfl, hle2, a2, n2, c2, h2, hc2, rfl⟩ <;> (try simp only [kM, kN, kO])) | (refine i_op ?_; first | (refine i_qq ?_; refine qQ ?_) | refine qEf ?_) | refine tl_nil ?_ | (refine i_tc ?_; refine qTc ?_) | (refine i_te ?_; refine qTe ?_) | intro _)
  have hl2 := h2.len
  rw [hl2]
  repeat' (first | (refine tl_is (.func 240) ?_; refine qC rfl rfl (takenRow_spec _ bt br n hn b2 _ _ _ a2 n2 c2 st2 x (by omega)) ?_; rintro v ρ' L' hle ⟨rfl, rfl, rfl⟩ <;> (try simp only [kM, kN, kO])) | (refine i_op ?_; first | (refine i_qq ?_; refine qQ ?_) | refine qEf ?_) | refine tl_nil ?_ | (refine i_tc ?_; refine qTc ?_) | (refine i_te ?_; refine qTe ?_) | intro _)
  exact qE ⟨rfl, Hp.le_trans hle1 hle2, rfl⟩
theorem takeCont_spec (ρ : Hp) (a : Option Addr) (n c : Nat) (l : List UInt8) (h : SIn ρ u8c a n l) (hn : n ≤ 1000000) :
    Spec Tryz.prog 164 [.slice a n c] ρ [] (fun v ρ' L' => ρ.le ρ' ∧ ∃ w, v = .tuple ⟨[.agg ⟨contV (takeContR l).1.kind w⟩, .int .i64 (takeContR l).2.1, .int .i64 (takeContR l).2.2]⟩ ∧ CIn ρ' w (takeContR l).1.rows (takeContR l).1.kids ∧ L' = []) := by
  have hf := from_spec ρ a n c l h hn
  have hl := h.len
  have hlen := contentR_len l
  unfold takeContR
  dsimp only
  rw [hl] at hlen ⊢
  refine spec_enter Tryz.func164 rfl rfl rfl fun u R => ?_
  simp only [argsE, List.cons_append, List.nil_append]
  repeat' (first | (refine tl_is (.func 237) ?_; refine qC rfl rfl (hf) ?_; rintro v ρ' L' hle ⟨hle1, bt, br, a1, c1, rfl, hc1, h1, rfl⟩ <;> (try simp only [kM, kN, kO])) | (refine i_op ?_; first | (refine i_qq ?_; refine qQ ?_) | refine qEf ?_) | refine tl_nil ?_ | (refine i_tc ?_; refine qTc ?_) | (refine i_te ?_; refine qTe ?_) | intro _)
  have hr := content_spec _ bt br n a1 n c1 l h1 hc1
  generalize contentR l = r at *
  obtain ⟨x, l2, st2, b2⟩ := r
  dsimp only at hr hlen ⊢
  repeat' (first | (refine tl_is (.func 239) ?_; refine qC rfl rfl (hr) ?_; rintro v ρ' L' hle ⟨hle2, w, a2, n2, c2, rfl, hC, h2, hc2, rfl⟩ <;> (try simp only [kM, kN, kO])) | (refine i_op ?_; first | (refine i_qq ?_; refine qQ ?_) | refine qEf ?_) | refine tl_nil ?_ | (refine i_tc ?_; refine qTc ?_) | (refine i_te ?_; refine qTe ?_) | intro _)
  have hl2 := h2.len
  rw [hl2]
  have ht := fun ρ => takenCont_spec ρ bt br n hn b2 (.int .i64 x.kind) (.slice w.ra w.rn w.rc) (.slice w.ka w.kn w.kc) a2 n2 c2 st2 x.kind w (by omega)
  by_cases hb : (b2 || decide (st2 ≠ 0)) = true
  · rw [if_pos hb] at ht
    rw [if_pos hb]
    repeat' (first | (refine tl_is (.func 238) ?_; refine qC rfl rfl (ht _) ?_; rintro v ρ' L' hle ⟨rfl, rfl, rfl⟩ <;> (try simp only [kM, kN, kO])) | (refine i_op ?_; first | (refine i_qq ?_; refine qQ ?_) | refine qEf ?_) | refine tl_nil ?_ | (refine i_tc ?_; refine qTc ?_) | (refine i_te ?_; refine qTe ?_) | intro _)
    exact qE ⟨Hp.le_trans hle1 hle2, ⟨none, 0, 0, none, 0, 0⟩, rfl, CIn.nil, rfl⟩
  · rw [if_neg hb] at ht
    rw [if_neg hb]
    repeat' (first | (refine tl_is (.func 238) ?_; refine qC rfl rfl (ht _) ?_; rintro v ρ' L' hle ⟨rfl, rfl, rfl⟩ <;> (try simp only [kM, kN, kO])) | (refine i_op ?_; first | (refine i_qq ?_; refine qQ ?_) | refine qEf ?_) | refine tl_nil ?_ | (refine i_tc ?_; refine qTc ?_) | (refine i_te ?_; refine qTe ?_) | intro _)
    exact qE ⟨Hp.le_trans hle1 hle2, w, rfl, hC, rfl⟩
end Go.Proofs.E

namespace Go.Proofs.E
open Go
set_option linter.unusedVariables false
set_option linter.unusedSimpArgs false
set_option linter.unusedSectionVars false
set_option maxRecDepth 4000
set_option maxHeartbeats 1000000
attribute [local irreducible] Yl TL TC TE Spec YSpec R1 Hp.le EnvLe TS TR YS Stays
/-! ## codec: bytes of rows -/
def tB (t : Int) : UInt8 := UInt8.ofNat t.toNat
def keyB (t : Int) (id : Nat) : List UInt8 := tB t :: be 2 id
def vN (v : Int) : Nat := (IntKind.u64.wrap v).toNat
theorem vN_eq (v : Int) : IntKind.u64.wrap v = (vN v : Nat) := by
  have : 0 ≤ IntKind.u64.wrap v := by simp only [IntKind.wrap, IntKind.bits, IntKind.signed, Bool.false_and, Bool.false_eq_true, if_false]; omega
  simp [vN]; omega
theorem vN_lt (v : Int) : vN v < 18446744073709551616 := by
  have : IntKind.u64.wrap v < 18446744073709551616 := by simp only [IntKind.wrap, IntKind.bits, IntKind.signed, Bool.false_and, Bool.false_eq_true, if_false]; omega
  have h := vN_eq v
  omega
def rowB (r : Row) : List UInt8 := keyB r.t r.id ++ (be 8 (vN r.val) ++ (UInt8.ofNat r.note.length :: r.note))
theorem tB_eq {t : Int} (h0 : 0 ≤ t) (h1 : t < 256) : Value.int .u8 t = u8c (tB t) := by
  obtain ⟨n, rfl⟩ : ∃ n : Nat, t = n := ⟨t.toNat, by omega⟩
  simp only [u8c, tB, Int.toNat_natCast, UInt8.toNat_ofNat']
  congr 1
  have e : (2 : Nat) ^ 8 = 256 := by decide
  rw [e]
  omega
theorem key_spec (ρ : Hp) (v : Value) (n : Nat) (l : List UInt8) (sp : List Value) (hown : OwnS v n (l.map u8c) sp 1) (hn : n ≤ 100000) (t : Int) (id : Nat) (h0 : 0 ≤ t) (h3 : t < 256) (hid : id < 65536) :
    Spec Tryz.prog 308 [v, .agg ⟨keyV t id⟩] ρ [ownC v (l.map u8c) sp 5] (fun r ρ' L' => ρ.le ρ' ∧ ∃ sp', OwnS r (n + 3) ((l ++ keyB t id).map u8c) sp' 1 ∧ L' = [ownC r ((l ++ keyB t id).map u8c) sp' 5]) := by
  have hl : l.length = n := by obtain ⟨_, _, _, h⟩ := hown.len; simpa using h
  refine spec_enter Tryz.func308 rfl rfl rfl fun u R => ?_
  simp only [argsE, List.cons_append, List.nil_append]
  repeat' (first | (refine i_op ?_; first | (refine i_qq ?_; refine qQ ?_) | refine qEf ?_) | refine tl_nil ?_ | (refine i_tc ?_; refine qTc ?_) | (refine i_te ?_; refine qTe ?_) | intro _)
  rename_i b3
  refine tc_any (Stays _ _ ([[(b3, .cells ⟨keyV t id⟩ 99 (0, 0))]])) (stays_of (hT := tk) (Hp.le_refl _)) ?_
  all_goals refine rMv 0 ?_
  all_goals refine rFa 1 ?_
  all_goals refine rLd 2 ?_
  all_goals refine rCv 3 ?_
  all_goals refine rFa 6 ?_
  all_goals refine rLd 7 ?_
  all_goals (refine rStep (i := 4) ?_; ((try refine qWant ?_); (first | (refine tl_buildSlice_s rfl rfl rfl rfl (by simp) rfl rfl (fun _ => ?_); simp only [tB_eq h0 h3]) | (refine qEf ?_; try intro _)) <;> ((try simp only [kM, kN, kO]); refine tl_nil ?_; refine rNext ?_)))
  all_goals (refine rStep (i := 5) ?_; ((try refine qWant ?_); (first | (refine tl_app (ys := [u8c (tB t)]) (m := 1) rfl rfl hown (hR := by infer_instance) SrcV.lit rfl rfl (by decide) rfl (by omega) (by omega) rfl (fun v' sp' hown' => ?_); rw [show l.map u8c ++ [u8c (tB t)] = (l ++ [tB t]).map u8c by simp] at hown' ⊢; refine tl_freeze _ (h := Rem.here) (fun ρ2 hle2 hfz => ?_); obtain ⟨a', c', rfl, hc', hs⟩ := hown'.sIn hfz) | (refine qEf ?_; try intro _)) <;> ((try simp only [kM, kN, kO]); refine tl_nil ?_; refine rNext ?_)))
  all_goals (refine rStep (i := 8) ?_; ((try refine qWant ?_); (first | (refine tl_is (.func 258) ?_; refine qC rfl rfl (put16_spec _ a' _ c' _ hs id hid (by omega)) ?_; rintro v ρ' L' hle ⟨rfl, sp2, hown2, rfl⟩ <;> (try simp only [kM, kN, kO])) | (refine qEf ?_; try intro _)) <;> ((try simp only [kM, kN, kO]); refine tl_nil ?_; refine rNext ?_)))
  all_goals refine rFull ?_
  all_goals refine rAs 9 ?_
  all_goals refine rDone ?_
  have e : l ++ [tB t] ++ be 2 id = l ++ keyB t id := by rw [List.append_assoc]; rfl
  rw [e] at hown2 ⊢
  repeat' (first | (refine i_op ?_; first | (refine i_qq ?_; refine qQ ?_) | refine qEf ?_) | refine tl_nil ?_ | (refine i_tc ?_; refine qTc ?_) | (refine i_te ?_; refine qTe ?_) | intro _)
  exact qE ⟨hle2, sp2, hown2, rfl⟩
theorem rowOk_iff {r : Row} (h : rowOk r = true) : 0 ≤ r.t ∧ r.t < 3 ∧ r.note.length ≤ 8 := by
  have := of_decide_eq_true h
  exact ⟨this.1.1, this.1.2, this.2⟩
theorem lenB {n : Nat} (h : n ≤ 200) : Value.int .u8 (n : Int) = u8c (UInt8.ofNat n) := by
  simp only [u8c, UInt8.toNat_ofNat']
  congr 1
  have e : (2 : Nat) ^ 8 = 256 := by decide
  rw [e]
  omega
theorem claid_spec (ρ : Hp) (v : Value) (n : Nat) (l : List UInt8) (sp : List Value) (hown : OwnS v n (l.map u8c) sp 1) (hn : n ≤ 1000) (r : Row) (hr : rowOk r = true) (hid : r.id < 65536) :
    Spec Tryz.prog 286 [v, .agg ⟨rowV r⟩] ρ [ownC v (l.map u8c) sp 5] (fun q ρ' L' => ρ.le ρ' ∧ ∃ sp', OwnS q (n + (rowB r).length) ((l ++ rowB r).map u8c) sp' 1 ∧ L' = [ownC q ((l ++ rowB r).map u8c) sp' 5]) := by
  obtain ⟨h0, h3, h8⟩ := rowOk_iff hr
  have hl : l.length = n := by obtain ⟨_, _, _, h⟩ := hown.len; simpa using h
  have hvl := vN_lt r.val
  have hkb : (keyB r.t r.id).length = 3 := by simp [keyB, be_length]
  have hlb := lenB (n := r.note.length) (by omega)
  refine spec_enter Tryz.func286 rfl rfl rfl fun u R => ?_
  simp only [argsE, List.cons_append, List.nil_append]
  repeat' (first | (refine i_op ?_; first | (refine i_qq ?_; refine qQ ?_) | refine qEf ?_) | refine tl_nil ?_ | (refine i_tc ?_; refine qTc ?_) | (refine i_te ?_; refine qTe ?_) | intro _)
  rename_i b3
  refine tc_any (Stays _ _ ([[(b3, .cells ⟨rowV r⟩ 101 (0, 0))]])) (stays_of (hT := tk) (Hp.le_refl _)) ?_
  all_goals refine rMv 0 ?_
  all_goals refine rFa 1 ?_
  all_goals refine rLd 2 ?_
  all_goals refine rFa 4 ?_
  all_goals refine rLd 5 ?_
  all_goals refine rCv 6 ?_
  all_goals (refine rStep (i := 3) ?_; ((try refine qWant ?_); (first | (simp only [vN_eq]; refine tl_is (.func 308) ?_; refine qC rfl rfl (key_spec _ v n l sp hown (by omega) r.t r.id h0 (by omega) hid) ?_; rintro v1 ρ1 L1 hle0 ⟨hle1, sp1, hown1, rfl⟩; simp only [List.cons_append, List.nil_append]; refine tl_freeze _ (h := Rem.here) (fun ρ2 hle2 hfz => ?_); obtain ⟨a1, c1, rfl, hc1, hs1⟩ := hown1.sIn hfz) | (refine qEf ?_; try intro _)) <;> ((try simp only [kM, kN, kO]); refine tl_nil ?_; refine rNext ?_)))
  all_goals (refine rStep (i := 7) ?_; ((try refine qWant ?_); (first | (refine tl_is (.func 254) ?_; refine qC rfl rfl (put64_spec _ a1 _ c1 _ hs1 (vN r.val) hvl (by omega)) ?_; rintro v ρ' L' hle ⟨rfl, sp3, hown3, rfl⟩ <;> (try simp only [kM, kN, kO])) | (refine qEf ?_; try intro _)) <;> ((try simp only [kM, kN, kO]); refine tl_nil ?_; refine rNext ?_)))
  all_goals refine rFull ?_
  all_goals refine rAs 8 ?_
  all_goals refine rDone ?_
  repeat' (first | (refine i_op ?_; first | (refine i_qq ?_; refine qQ ?_) | refine qEf ?_) | refine tl_nil ?_ | (refine i_tc ?_; refine qTc ?_) | (refine i_te ?_; refine qTe ?_) | intro _)
  refine tc_any (Stays _ _ ([[(b3, .cells ⟨rowV r⟩ 101 (0, 0))]])) (stays_of (hT := tk) (Hp.le_refl _)) ?_
  all_goals refine rMv 0 ?_
  all_goals refine rFa 1 ?_
  all_goals refine rLd 2 ?_
  all_goals refine rBi 3 ?_
  all_goals refine rCv 4 ?_
  all_goals refine rFa 7 ?_
  all_goals refine rLd 8 ?_
  all_goals (refine rStep (i := 5) ?_; ((try refine qWant ?_); (first | (refine tl_buildSlice_s rfl rfl rfl rfl (by simp) rfl rfl (fun _ => ?_); simp only [hlb]) | (refine qEf ?_; try intro _)) <;> ((try simp only [kM, kN, kO]); refine tl_nil ?_; refine rNext ?_)))
  all_goals (refine rStep (i := 6) ?_; ((try refine qWant ?_); (first | (refine tl_app (ys := [u8c (UInt8.ofNat r.note.length)]) (m := 1) rfl rfl hown3 (hR := by infer_instance) SrcV.lit rfl rfl (by decide) rfl (by omega) (by omega) rfl (fun v4 sp4 hown4 => ?_)) | (refine tl_app_str (l := r.note) rfl rfl hown4 (hR := by infer_instance) (by omega) rfl (fun v5 sp5 hown5 => ?_)) | (refine qEf ?_; try intro _)) <;> ((try simp only [kM, kN, kO]); refine tl_nil ?_; refine rNext ?_)))
  all_goals (refine rStep (i := 9) ?_; ((try refine qWant ?_); (first | (refine tl_app (ys := [u8c (UInt8.ofNat r.note.length)]) (m := 1) rfl rfl hown3 (hR := by infer_instance) SrcV.lit rfl rfl (by decide) rfl (by omega) (by omega) rfl (fun v4 sp4 hown4 => ?_)) | (refine tl_app_str (l := r.note) rfl rfl hown4 (hR := by infer_instance) (by omega) rfl (fun v5 sp5 hown5 => ?_)) | (refine qEf ?_; try intro _)) <;> ((try simp only [kM, kN, kO]); refine tl_nil ?_; refine rNext ?_)))
  all_goals refine rFull ?_
  all_goals refine rAs 10 ?_
  all_goals refine rDone ?_
  have e : (l ++ keyB r.t r.id ++ be 8 (vN r.val)).map u8c ++ [u8c (UInt8.ofNat r.note.length)] ++ r.note.map u8c = (l ++ rowB r).map u8c := by simp [rowB]
  have e2 : n + 3 + 8 + 1 + r.note.length = n + (rowB r).length := by simp [rowB, hkb, be_length]; omega
  rw [e] at hown5 ⊢
  rw [e2] at hown5
  repeat' (first | (refine i_op ?_; first | (refine i_qq ?_; refine qQ ?_) | refine qEf ?_) | refine tl_nil ?_ | (refine i_tc ?_; refine qTc ?_) | (refine i_te ?_; refine qTe ?_) | intro _)
  exact qE ⟨Hp.le_trans hle1 hle2, sp5, hown5, rfl⟩
theorem rowE_spec (ρ : Hp) (r : Row) (hid : r.id < 65536) :
    Spec Tryz.prog 257 [.agg ⟨rowV r⟩] ρ [] (fun v ρ' L' => ρ.le ρ' ∧ ∃ a n c, v = .tuple ⟨[.slice a n c, .int .i64 (if rowOk r then 0 else 151)]⟩ ∧ n ≤ c ∧ SIn ρ' u8c a n (if rowOk r then rowB r else []) ∧ L' = []) := by
  have hck := fun ρ => checkRow_spec ρ r
  refine spec_enter Tryz.func257 rfl rfl rfl fun u R => ?_
  simp only [argsE, List.cons_append, List.nil_append]
  cases hok : rowOk r
  · simp only [hok, Bool.false_eq_true, if_false] at hck ⊢
    repeat' (first | (refine tl_is (.func 253) ?_; refine qC rfl rfl (hck _) ?_; rintro v ρ' L' hle ⟨rfl, rfl, rfl⟩ <;> (try simp only [kM, kN, kO])) | (refine i_op ?_; first | (refine i_qq ?_; refine qQ ?_) | refine qEf ?_) | refine tl_nil ?_ | (refine i_tc ?_; refine qTc ?_) | (refine i_te ?_; refine qTe ?_) | intro _)
    exact qE ⟨Hp.le_refl _, none, 0, 0, rfl, Nat.le_refl _, SIn.nil, rfl⟩
  · simp only [hok, if_true] at hck ⊢
    repeat' (first | (refine tl_is (.func 253) ?_; refine qC rfl rfl (hck _) ?_; rintro v ρ' L' hle ⟨rfl, rfl, rfl⟩ <;> (try simp only [kM, kN, kO])) | (refine tl_is (.func 286) ?_; refine tl_call rfl rfl (claid_spec _ (.slice none 0 0) 0 [] [] (OwnS.nil 1) (by omega) r hok hid) (take_cons' rem_nil' take_nil') rfl ?_; rintro v1 ρ1 L1 hle0 ⟨hle1, sp1, hown1, rfl⟩; simp only [List.cons_append, List.nil_append, Nat.zero_add] at hown1 ⊢; refine tl_freeze _ (h := Rem.here) (fun ρ2 hle2 hfz => ?_); obtain ⟨a1, c1, rfl, hc1, hs1⟩ := hown1.sIn hfz) | (refine i_op ?_; first | (refine i_qq ?_; refine qQ ?_) | refine qEf ?_) | refine tl_nil ?_ | (refine i_tc ?_; refine qTc ?_) | (refine i_te ?_; refine qTe ?_) | intro _)
    exact qE ⟨Hp.le_trans hle1 hle2, a1, _, c1, rfl, hc1, hs1, rfl⟩
end Go.Proofs.E

namespace Go.Proofs.E
open Go
set_option linter.unusedVariables false
set_option linter.unusedSimpArgs false
set_option linter.unusedSectionVars false
set_option maxRecDepth 4000
set_option maxHeartbeats 1000000
attribute [local irreducible] Yl TL TC TE Spec YSpec R1 Hp.le EnvLe TS TR YS Stays
def kidB (k : Kid) : List UInt8 := keyB k.t k.id ++ [tB k.page]
def cntB (c : Cont) : List UInt8 := if c.kind = 0 then [] else [UInt8.ofNat (c.rows.length + c.kids.length)]
def contB (c : Cont) : List UInt8 := tB c.kind :: cntB c ++ (c.rows.flatMap rowB ++ c.kids.flatMap kidB)
theorem risesB_true {α : Type} {most : Nat} {right : Nat → α → Bool} {lt : α → α → Bool} {l : List α} : ∀ {k : Nat}, risesB most right lt l k = true → k ≤ l.length → l.length ≤ most ∧ ∀ i (h : i < l.length), i < k → right i l[i] = true ∧ (i = 0 ∨ lt (l[i - 1]'(by omega)) l[i] = true)
  | 0, h, _ => ⟨of_decide_eq_true h, fun i _ hi => by omega⟩
  | k + 1, h, hk => by
    rw [risesB_succ (show k < l.length by omega), Bool.and_eq_true, Bool.and_eq_true] at h
    obtain ⟨h1, h2, h3⟩ := h
    obtain ⟨g1, g2⟩ := risesB_true h1 (by omega)
    refine ⟨g1, fun i hi hik => ?_⟩
    by_cases e : i < k
    · exact g2 i hi e
    · have : i = k := by omega
      subst this
      refine ⟨h2, ?_⟩
      simpa using h3
structure ContOk (c : Cont) : Prop where
  kind : c.kind = 0 ∧ c.rows = [] ∧ c.kids = [] ∨ c.kind = 1 ∧ c.kids = [] ∨ c.kind = 2 ∧ c.rows = [] ∧ 1 < c.kids.length
  rl : c.rows.length ≤ 4
  kl : c.kids.length ≤ 4
  row : ∀ r ∈ c.rows, rowOk r = true
  kid : ∀ k ∈ c.kids, (0 ≤ k.t ∧ k.t < 3) ∧ 0 < k.page ∧ k.page < 64
theorem contOk_facts {c : Cont} (h : contOk c = true) : ContOk c := by
  obtain ⟨kind, rows, kids⟩ := c
  unfold contOk at h
  dsimp only at h
  split at h
  · rename_i hk
    have hz := of_decide_eq_true h
    have h1 : rows = [] := List.eq_nil_of_length_eq_zero (by omega)
    have h2 : kids = [] := List.eq_nil_of_length_eq_zero (by omega)
    subst h1; subst h2
    exact ⟨.inl ⟨hk, rfl, rfl⟩, by simp, by simp, by simp, by simp⟩
  · split at h
    · rename_i hk
      rw [Bool.and_eq_true] at h
      have h2 : kids = [] := List.eq_nil_of_length_eq_zero (of_decide_eq_true h.1)
      subst h2
      obtain ⟨g1, g2⟩ := risesB_true h.2 (Nat.le_refl _)
      refine ⟨.inr (.inl ⟨hk, rfl⟩), g1, by simp, fun r hr => ?_, by simp⟩
      obtain ⟨i, hi, rfl⟩ := List.mem_iff_getElem.1 hr
      exact (g2 i hi hi).1
    · split at h
      · rename_i hk
        rw [Bool.and_eq_true, Bool.and_eq_true] at h
        have h1 : rows = [] := List.eq_nil_of_length_eq_zero (of_decide_eq_true h.1)
        subst h1
        obtain ⟨g1, g2⟩ := risesB_true h.2.2 (Nat.le_refl _)
        refine ⟨.inr (.inr ⟨hk, rfl, of_decide_eq_true h.2.1⟩), by simp, g1, by simp, fun k hk => ?_⟩
        obtain ⟨i, hi, rfl⟩ := List.mem_iff_getElem.1 hk
        have := of_decide_eq_true (g2 i hi hi).1
        exact ⟨this.2.2.2.1, this.2.1, this.2.2.1⟩
      · cases h
theorem rowB_len {r : Row} (h : rowOk r = true) : (rowB r).length = 12 + r.note.length := by simp [rowB, keyB, be_length]; omega
theorem rowB_le {r : Row} (h : rowOk r = true) : (rowB r).length ≤ 20 := by rw [rowB_len h]; have := (rowOk_iff h).2.2; omega
theorem kidB_len (k : Kid) : (kidB k).length = 4 := by simp [kidB, keyB, be_length]
theorem flatMap_le {α : Type} (f : α → List UInt8) (m : Nat) : ∀ (l : List α), (∀ x ∈ l, (f x).length ≤ m) → (l.flatMap f).length ≤ l.length * m
  | [], _ => by simp
  | x :: r, h => by
    have h1 := h x (by simp)
    have ih := flatMap_le f m r (fun y hy => h y (by simp [hy]))
    simp only [List.flatMap_cons, List.length_append, List.length_cons, Nat.add_mul]; omega
theorem flatMap_take_succ {α : Type} (f : α → List UInt8) (l : List α) (k : Nat) (h : k < l.length) : (l.take (k + 1)).flatMap f = (l.take k).flatMap f ++ f l[k] := by
  rw [List.take_succ_eq_append_getElem h, List.flatMap_append]; simp
theorem contE_spec (ρ : Hp) (w : CV) (c : Cont) (h : CIn ρ w c.rows c.kids) (hir : ∀ r ∈ c.rows, r.id < 65536) (hik : ∀ k ∈ c.kids, k.id < 65536) :
    Spec Tryz.prog 285 [.agg ⟨contV c.kind w⟩] ρ [] (fun v ρ' L' => ρ.le ρ' ∧ ∃ a n c', v = .tuple ⟨[.slice a n c', .int .i64 (if contOk c then 0 else 160)]⟩ ∧ n ≤ c' ∧ SIn ρ' u8c a n (if contOk c then contB c else []) ∧ L' = []) := by
  have hck := fun ρ h => check_spec ρ w c h
  refine spec_enter Tryz.func285 rfl rfl rfl fun u R => ?_
  simp only [argsE, List.cons_append, List.nil_append]
  cases hok : contOk c
  · simp only [hok, Bool.false_eq_true, if_false] at hck ⊢
    repeat' (first | (refine tl_is (.func 251) ?_; refine qC rfl rfl (hck _ h) ?_; rintro v ρ' L' hle ⟨rfl, rfl, rfl⟩ <;> (try simp only [kM, kN, kO])) | (refine i_op ?_; first | (refine i_qq ?_; refine qQ ?_) | refine qEf ?_) | refine tl_nil ?_ | (refine i_tc ?_; refine qTc ?_) | (refine i_te ?_; refine qTe ?_) | intro _)
    exact qE ⟨Hp.le_refl _, none, 0, 0, rfl, Nat.le_refl _, SIn.nil, rfl⟩
  · simp only [hok, if_true] at hck ⊢
    obtain ⟨hkind, hrl, hkl, hrow, hkid⟩ := contOk_facts hok
    have hk03 : 0 ≤ c.kind ∧ c.kind < 3 := by omega
    obtain ⟨kind, rows, kids⟩ := c
    obtain ⟨ra, rn, rc, ka, kn, kc⟩ := w
    obtain ⟨hr, hk, hrb, hkb, hrc, hkc⟩ := h
    dsimp only at hrc hkc hr hk hrb hkb hrow hkid hrl hkl hk03 hir hik ⊢
    have hrn := hr.len
    have hkn := hk.len
    have hcnt := lenB (n := rn + kn) (by omega)
    have hkB := tB_eq (t := kind) (by omega) (by omega)
    dsimp only [contV] at hck ⊢
    by_cases hk0 : kind = 0
    · obtain ⟨B0, hB0⟩ : ∃ B0, tB kind :: cntB ⟨kind, rows, kids⟩ = B0 := ⟨_, rfl⟩
      have hX : B0 = [tB kind] := by rw [← hB0]; simp [cntB, hk0]
      have hBl : B0.length ≤ 2 := by rw [hX]; simp
      repeat' (first | (refine tl_is (.func 251) ?_; refine qC rfl rfl (hck _ ⟨hr, hk, hrb, hkb, hrc, hkc⟩) ?_; rintro v ρ' L' hle ⟨rfl, rfl, rfl⟩ <;> (try simp only [kM, kN, kO])) | (refine tl_buildSlice_s rfl rfl rfl rfl (by simp) rfl rfl (fun _ => ?_); simp only [hkB]) | (refine i_op ?_; first | (refine i_qq ?_; refine qQ ?_) | refine qEf ?_) | refine tl_nil ?_ | (refine i_tc ?_; refine qTc ?_) | (refine i_te ?_; refine qTe ?_) | intro _)
      rename_i b1 b2
      rw [show [u8c (tB kind)] = B0.map u8c by rw [hX]; rfl, own_chunk b2 1 1]
      have hown0 : OwnS (.slice (some ⟨b2, 0, none⟩) 1 1) B0.length (B0.map u8c) [] 1 := ⟨.inr ⟨b2, 1, by rw [hX]; rfl, by simp, by simp [hX], by simp [hX]⟩⟩
      generalize Value.slice (some ⟨b2, 0, none⟩) 1 1 = v0 at *
      rw [show B0.map u8c = (B0 ++ (rows.take 0).flatMap rowB).map u8c by simp]
      refine tc_loop_g [(1, _), (2, _), (3, _), (34, _), (35, _)] (fun (ζ : (Nat) × (Hp) × (Value) × (List Value)) => [(36, .int .i64 ζ.1), (5, ζ.2.2.1)]) (fun (ζ : (Nat) × (Hp) × (Value) × (List Value)) => ζ.2.1) (fun (ζ : (Nat) × (Hp) × (Value) × (List Value)) => [ownC ζ.2.2.1 ((B0 ++ (rows.take ζ.1).flatMap rowB).map u8c) ζ.2.2.2 5, [(b1, .cells ⟨[.int .i64 kind, .slice ra rn rc, .slice ka kn kc]⟩ 110 (0, 0))]]) (fun (ζ : (Nat) × (Hp) × (Value) × (List Value)) => ζ.1 ≤ rn ∧ ρ'.le ζ.2.1 ∧ OwnS ζ.2.2.1 (B0 ++ (rows.take ζ.1).flatMap rowB).length ((B0 ++ (rows.take ζ.1).flatMap rowB).map u8c) ζ.2.2.2 1) (fun (ζ : (Nat) × (Hp) × (Value) × (List Value)) => rn - ζ.1) ((0, ρ', v0, [])) (⟨Nat.zero_le _, Hp.le_refl _, by simpa using hown0⟩) ev_le ev_le rfl tk ?_
      rintro ⟨k, ρ1, v, sp⟩ hI
      try simp only [List.cons_append, List.nil_append, List.append_assoc, List.append_eq] at hI ⊢
      try dsimp only at hI ⊢
      obtain ⟨hkn0, hle1, hown⟩ := hI
      by_cases hlt : k < rn
      · obtain ⟨b, off, C, T, fr, rfl, hb, hfit, hc⟩ := (hr.mono hle1).get (show k < rows.length by omega)
        have hmem : rows[k]'(by omega) ∈ rows := List.getElem_mem _
        have hro := hrow _ hmem
        have hid := hir _ hmem
        have hts := flatMap_take_succ rowB rows k (by omega)
        have hfl := flatMap_le rowB 20 (rows.take k) (fun x hx => rowB_le (hrow x (List.mem_of_mem_take hx)))
        have htl : (rows.take k).length ≤ 4 := by simp; omega
        have hXl : (B0 ++ (rows.take k).flatMap rowB).length ≤ 100 := by simp only [List.length_append]; omega
        have hll : (B0 ++ (rows.take k).flatMap rowB).length + (rowB (rows[k]'(by omega))).length = (B0 ++ (rows.take (k + 1)).flatMap rowB).length := by rw [hts]; simp; omega
        have hmm : B0 ++ (rows.take k).flatMap rowB ++ rowB (rows[k]'(by omega)) = B0 ++ (rows.take (k + 1)).flatMap rowB := by rw [hts]; simp
        generalize rows[k]'(by omega) = x at *
        repeat' (first | (refine tl_is (.func 286) ?_; refine qC rfl rfl (claid_spec _ v _ _ sp hown (by omega) x hro hid) ?_; rintro v2 ρ2 L2 hle0 ⟨hle2, sp2, hown2, rfl⟩; simp only [List.cons_append, List.nil_append, hmm]; rw [hmm, hll] at hown2) | (refine i_op ?_; first | (refine i_qq ?_; refine qQ ?_) | refine qEf ?_) | refine tl_nil ?_ | (refine i_tc ?_; refine qTc ?_) | (refine i_te ?_; refine qTe ?_) | intro _)
        refine te_round_g (k + 1, _, v2, sp2) (⟨hlt, Hp.le_trans hle1 hle2, hown2⟩) ev_le ev_le rfl tk inferInstance (by first | omega | (dsimp only; omega))
      · have hk2 : k = rn := by omega
        subst hk2
        rw [List.take_of_length_le (by omega)] at hown ⊢
        repeat' (first | (refine i_op ?_; first | (refine i_qq ?_; refine qQ ?_) | refine qEf ?_) | refine tl_nil ?_ | (refine i_tc ?_; refine qTc ?_) | (refine i_te ?_; refine qTe ?_) | intro _)
        rw [show (B0 ++ rows.flatMap rowB).map u8c = (B0 ++ (rows.flatMap rowB ++ (kids.take 0).flatMap kidB)).map u8c by simp]
        refine tc_loop_g [(2, _), (3, _), (45, _), (46, _)] (fun (ζ : (Nat) × (Hp) × (Value) × (List Value)) => [(47, .int .i64 ζ.1), (5, ζ.2.2.1)]) (fun (ζ : (Nat) × (Hp) × (Value) × (List Value)) => ζ.2.1) (fun (ζ : (Nat) × (Hp) × (Value) × (List Value)) => [ownC ζ.2.2.1 ((B0 ++ (rows.flatMap rowB ++ (kids.take ζ.1).flatMap kidB)).map u8c) ζ.2.2.2 5]) (fun (ζ : (Nat) × (Hp) × (Value) × (List Value)) => ζ.1 ≤ kn ∧ ρ1.le ζ.2.1 ∧ OwnS ζ.2.2.1 (B0 ++ (rows.flatMap rowB ++ (kids.take ζ.1).flatMap kidB)).length ((B0 ++ (rows.flatMap rowB ++ (kids.take ζ.1).flatMap kidB)).map u8c) ζ.2.2.2 1) (fun (ζ : (Nat) × (Hp) × (Value) × (List Value)) => kn - ζ.1) ((0, ρ1, v, sp)) (⟨Nat.zero_le _, Hp.le_refl _, by simpa using hown⟩) ev_le ev_le rfl tk ?_
        rintro ⟨j, ρ2, v, sp⟩ hI
        try simp only [List.cons_append, List.nil_append, List.append_assoc, List.append_eq] at hI ⊢
        try dsimp only at hI ⊢
        have hfl := flatMap_le rowB 20 rows (fun x hx => rowB_le (hrow x hx))
        obtain ⟨hj0, hle3, hown3⟩ := hI
        by_cases hlj : j < kn
        · obtain ⟨b, off, C, T, fr, rfl, hb, hfit, hc⟩ := (hk.mono (Hp.le_trans hle1 hle3)).get (show j < kids.length by omega)
          have hmem : kids[j]'(by omega) ∈ kids := List.getElem_mem _
          have hko := hkid _ hmem
          have hid := hik _ hmem
          have hts := flatMap_take_succ kidB kids j (by omega)
          have hfk := flatMap_le kidB 4 (kids.take j) (fun x hx => Nat.le_of_eq (kidB_len x))
          have htl : (kids.take j).length ≤ 4 := by simp; omega
          have hXl : (B0 ++ (rows.flatMap rowB ++ (kids.take j).flatMap kidB)).length ≤ 200 := by simp only [List.length_append]; omega
          have hmm : B0 ++ (rows.flatMap rowB ++ (kids.take j).flatMap kidB) ++ keyB (kids[j]'(by omega)).t (kids[j]'(by omega)).id ++ [tB (kids[j]'(by omega)).page] = B0 ++ (rows.flatMap rowB ++ (kids.take (j + 1)).flatMap kidB) := by rw [hts]; simp [kidB]
          have hll : (B0 ++ (rows.flatMap rowB ++ (kids.take j).flatMap kidB)).length + 3 + 1 = (B0 ++ (rows.flatMap rowB ++ (kids.take (j + 1)).flatMap kidB)).length := by rw [hts]; simp [kidB_len]; omega
          have hpg := tB_eq (t := (kids[j]'(by omega)).page) (by omega) (by omega)
          generalize kids[j]'(by omega) = x at *
          generalize hX : B0 ++ (rows.flatMap rowB ++ (kids.take j).flatMap kidB) = X at *
          repeat' (first | (refine i_op ?_; first | (refine i_qq ?_; refine qQ ?_) | refine qEf ?_) | refine tl_nil ?_ | (refine i_tc ?_; refine qTc ?_) | (refine i_te ?_; refine qTe ?_) | intro _)
          rename_i b9
          refine tc_any (Stays _ _ ([[(b9, .cells ⟨kidV x⟩ 224 (0, 0))]])) (stays_of (hT := tk) (Hp.le_refl _)) ?_
          all_goals refine rMv 0 ?_
          all_goals refine rFa 1 ?_
          all_goals refine rLd 2 ?_
          all_goals refine rFa 4 ?_
          all_goals refine rLd 5 ?_
          all_goals refine rCv 6 ?_
          all_goals (refine rStep2 (i := 3) (j := 7) ?_ ?_ <;> ((try refine qWant ?_); (first | (refine tl_is (.func 308) ?_; refine qC rfl rfl (key_spec _ v _ X sp hown3 (by omega) x.t x.id hko.1.1 (by omega) hid) ?_; rintro v2 ρ4 L2 hle0 ⟨hle4, sp4, hown4, rfl⟩; simp only [List.cons_append, List.nil_append]) | (refine tl_buildSlice_s rfl rfl rfl rfl (by simp) rfl rfl (fun _ => ?_); simp only [hpg]) | (refine qEf ?_; try intro _)) <;> ((try simp only [kM, kN, kO]); refine tl_nil ?_; refine rNext ?_)))
          all_goals (first | (refine rStep (i := 7) ?_; ((try refine qWant ?_); (first | (refine tl_buildSlice_s rfl rfl rfl rfl (by simp) rfl rfl (fun _ => ?_); simp only [hpg]) | (refine qEf ?_; try intro _)) <;> ((try simp only [kM, kN, kO]); refine tl_nil ?_; refine rNext ?_))) | (refine rStep (i := 3) ?_; ((try refine qWant ?_); (first | (refine tl_is (.func 308) ?_; refine qC rfl rfl (key_spec _ v _ X sp hown3 (by omega) x.t x.id hko.1.1 (by omega) hid) ?_; rintro v2 ρ4 L2 hle0 ⟨hle4, sp4, hown4, rfl⟩; simp only [List.cons_append, List.nil_append]) | (refine qEf ?_; try intro _)) <;> ((try simp only [kM, kN, kO]); refine tl_nil ?_; refine rNext ?_))))
          all_goals (refine rStep (i := 8) ?_; ((try refine qWant ?_); (first | (refine tl_is (.func 308) ?_; refine qC rfl rfl (key_spec _ v _ X sp hown3 (by omega) x.t x.id hko.1.1 (by omega) hid) ?_; rintro v2 ρ4 L2 hle0 ⟨hle4, sp4, hown4, rfl⟩; simp only [List.cons_append, List.nil_append]) | (refine tl_app (ys := [u8c (tB x.page)]) (m := 1) rfl rfl hown4 (hR := by infer_instance) SrcV.lit rfl rfl (by decide) rfl (by omega) (by omega) rfl (fun v5 sp5 hown5 => ?_); rw [show (X ++ keyB x.t x.id).map u8c ++ [u8c (tB x.page)] = (X ++ keyB x.t x.id ++ [tB x.page]).map u8c by simp, hmm] at hown5 ⊢; rw [hll] at hown5) | (refine qEf ?_; try intro _)) <;> ((try simp only [kM, kN, kO]); refine tl_nil ?_; refine rNext ?_)))
          all_goals refine rFull ?_
          all_goals refine rAs 9 ?_
          all_goals refine rDone ?_
          all_goals (repeat' (first | (refine i_op ?_; first | (refine i_qq ?_; refine qQ ?_) | refine qEf ?_) | refine tl_nil ?_ | (refine i_tc ?_; refine qTc ?_) | (refine i_te ?_; refine qTe ?_) | intro _))
          all_goals refine te_round_g (j + 1, _, v5, sp5) (⟨hlj, Hp.le_trans hle3 (by assumption), hown5⟩) ev_le ev_le rfl tk inferInstance (by first | omega | (dsimp only; omega))
        · have hj2 : j = kn := by omega
          subst hj2
          rw [List.take_of_length_le (by omega)] at hown3 ⊢
          have hfin : B0 ++ (rows.flatMap rowB ++ kids.flatMap kidB) = contB ⟨kind, rows, kids⟩ := by rw [← hB0]; simp [contB]
          rw [hfin] at hown3 ⊢
          repeat' (first | (refine i_op ?_; first | (refine i_qq ?_; refine qQ ?_) | refine qEf ?_) | refine tl_nil ?_ | (refine i_tc ?_; refine qTc ?_) | (refine i_te ?_; refine qTe ?_) | intro _)
          refine te_freeze _ (h := Rem.here) (fun ρ6 hle6 hfz => ?_)
          obtain ⟨a6, c6, rfl, hc6, hs6⟩ := hown3.sIn hfz
          exact qE ⟨Hp.le_trans hle1 (Hp.le_trans hle3 hle6), a6, _, c6, rfl, hc6, hs6, rfl⟩
    · obtain ⟨B0, hB0⟩ : ∃ B0, tB kind :: cntB ⟨kind, rows, kids⟩ = B0 := ⟨_, rfl⟩
      have hX : B0 = [tB kind] ++ [UInt8.ofNat (rn + kn)] := by rw [← hB0]; simp [cntB, hk0, hrn, hkn]
      have hBl : B0.length ≤ 2 := by rw [hX]; simp
      have hcnt' : Value.int .u8 ((rn : Int) + (kn : Int)) = u8c (UInt8.ofNat (rn + kn)) := by rw [← hcnt]; simp
      repeat' (first | (refine tl_is (.func 251) ?_; refine qC rfl rfl (hck _ ⟨hr, hk, hrb, hkb, hrc, hkc⟩) ?_; rintro v ρ' L' hle ⟨rfl, rfl, rfl⟩ <;> (try simp only [kM, kN, kO])) | (refine tl_buildSlice_s rfl rfl rfl rfl (by simp) rfl rfl (fun _ => ?_); first | simp only [hkB] | simp only [hcnt']) | (refine i_op ?_; first | (refine i_qq ?_; refine qQ ?_) | refine qEf ?_) | refine tl_nil ?_ | (refine i_tc ?_; refine qTc ?_) | (refine i_te ?_; refine qTe ?_) | intro _)
      rename_i b1 b2 b3
      rw [show ([(b2, Obj.cells ⟨[u8c (tB kind)]⟩ 5 (0, 0))] : List (Nat × Obj)) = ownC (.slice (some ⟨b2, 0, none⟩) 1 1) ([tB kind].map u8c) [] 5 from rfl]
      refine tl_app (ys := [u8c (UInt8.ofNat (rn + kn))]) (m := 1) (n := 1) (xs := [tB kind].map u8c) (sp := []) rfl rfl ⟨.inr ⟨b2, 1, rfl, rfl, rfl, Nat.le_refl _⟩⟩ (hR := by infer_instance) SrcV.lit rfl rfl (by decide) rfl (by omega) (by omega) rfl (fun v0 sp0 hown0 => ?_)
      rw [show [tB kind].map u8c ++ [u8c (UInt8.ofNat (rn + kn))] = B0.map u8c by rw [hX]; rfl] at hown0 ⊢
      replace hown0 : OwnS v0 B0.length (B0.map u8c) sp0 1 := by
        have e : B0.length = 1 + 1 := by rw [hX]; rfl
        rw [e]; exact hown0
      repeat' (first | (refine i_op ?_; first | (refine i_qq ?_; refine qQ ?_) | refine qEf ?_) | refine tl_nil ?_ | (refine i_tc ?_; refine qTc ?_) | (refine i_te ?_; refine qTe ?_) | intro _)
      rw [show B0.map u8c = (B0 ++ (rows.take 0).flatMap rowB).map u8c by simp]
      refine tc_loop_g [(1, _), (2, _), (3, _), (34, _), (35, _)] (fun (ζ : (Nat) × (Hp) × (Value) × (List Value)) => [(36, .int .i64 ζ.1), (5, ζ.2.2.1)]) (fun (ζ : (Nat) × (Hp) × (Value) × (List Value)) => ζ.2.1) (fun (ζ : (Nat) × (Hp) × (Value) × (List Value)) => [ownC ζ.2.2.1 ((B0 ++ (rows.take ζ.1).flatMap rowB).map u8c) ζ.2.2.2 5, [(b1, .cells ⟨[.int .i64 kind, .slice ra rn rc, .slice ka kn kc]⟩ 110 (0, 0))]]) (fun (ζ : (Nat) × (Hp) × (Value) × (List Value)) => ζ.1 ≤ rn ∧ ρ'.le ζ.2.1 ∧ OwnS ζ.2.2.1 (B0 ++ (rows.take ζ.1).flatMap rowB).length ((B0 ++ (rows.take ζ.1).flatMap rowB).map u8c) ζ.2.2.2 1) (fun (ζ : (Nat) × (Hp) × (Value) × (List Value)) => rn - ζ.1) ((0, ρ', v0, sp0)) (⟨Nat.zero_le _, Hp.le_refl _, by simpa using hown0⟩) ev_le ev_le rfl tk ?_
      rintro ⟨k, ρ1, v, sp⟩ hI
      try simp only [List.cons_append, List.nil_append, List.append_assoc, List.append_eq] at hI ⊢
      try dsimp only at hI ⊢
      obtain ⟨hkn0, hle1, hown⟩ := hI
      by_cases hlt : k < rn
      · obtain ⟨b, off, C, T, fr, rfl, hb, hfit, hc⟩ := (hr.mono hle1).get (show k < rows.length by omega)
        have hmem : rows[k]'(by omega) ∈ rows := List.getElem_mem _
        have hro := hrow _ hmem
        have hid := hir _ hmem
        have hts := flatMap_take_succ rowB rows k (by omega)
        have hfl := flatMap_le rowB 20 (rows.take k) (fun x hx => rowB_le (hrow x (List.mem_of_mem_take hx)))
        have htl : (rows.take k).length ≤ 4 := by simp; omega
        have hXl : (B0 ++ (rows.take k).flatMap rowB).length ≤ 100 := by simp only [List.length_append]; omega
        have hll : (B0 ++ (rows.take k).flatMap rowB).length + (rowB (rows[k]'(by omega))).length = (B0 ++ (rows.take (k + 1)).flatMap rowB).length := by rw [hts]; simp; omega
        have hmm : B0 ++ (rows.take k).flatMap rowB ++ rowB (rows[k]'(by omega)) = B0 ++ (rows.take (k + 1)).flatMap rowB := by rw [hts]; simp
        generalize rows[k]'(by omega) = x at *
        repeat' (first | (refine tl_is (.func 286) ?_; refine qC rfl rfl (claid_spec _ v _ _ sp hown (by omega) x hro hid) ?_; rintro v2 ρ2 L2 hle0 ⟨hle2, sp2, hown2, rfl⟩; simp only [List.cons_append, List.nil_append, hmm]; rw [hmm, hll] at hown2) | (refine i_op ?_; first | (refine i_qq ?_; refine qQ ?_) | refine qEf ?_) | refine tl_nil ?_ | (refine i_tc ?_; refine qTc ?_) | (refine i_te ?_; refine qTe ?_) | intro _)
        refine te_round_g (k + 1, _, v2, sp2) (⟨hlt, Hp.le_trans hle1 hle2, hown2⟩) ev_le ev_le rfl tk inferInstance (by first | omega | (dsimp only; omega))
      · have hk2 : k = rn := by omega
        subst hk2
        rw [List.take_of_length_le (by omega)] at hown ⊢
        repeat' (first | (refine i_op ?_; first | (refine i_qq ?_; refine qQ ?_) | refine qEf ?_) | refine tl_nil ?_ | (refine i_tc ?_; refine qTc ?_) | (refine i_te ?_; refine qTe ?_) | intro _)
        rw [show (B0 ++ rows.flatMap rowB).map u8c = (B0 ++ (rows.flatMap rowB ++ (kids.take 0).flatMap kidB)).map u8c by simp]
        refine tc_loop_g [(2, _), (3, _), (45, _), (46, _)] (fun (ζ : (Nat) × (Hp) × (Value) × (List Value)) => [(47, .int .i64 ζ.1), (5, ζ.2.2.1)]) (fun (ζ : (Nat) × (Hp) × (Value) × (List Value)) => ζ.2.1) (fun (ζ : (Nat) × (Hp) × (Value) × (List Value)) => [ownC ζ.2.2.1 ((B0 ++ (rows.flatMap rowB ++ (kids.take ζ.1).flatMap kidB)).map u8c) ζ.2.2.2 5]) (fun (ζ : (Nat) × (Hp) × (Value) × (List Value)) => ζ.1 ≤ kn ∧ ρ1.le ζ.2.1 ∧ OwnS ζ.2.2.1 (B0 ++ (rows.flatMap rowB ++ (kids.take ζ.1).flatMap kidB)).length ((B0 ++ (rows.flatMap rowB ++ (kids.take ζ.1).flatMap kidB)).map u8c) ζ.2.2.2 1) (fun (ζ : (Nat) × (Hp) × (Value) × (List Value)) => kn - ζ.1) ((0, ρ1, v, sp)) (⟨Nat.zero_le _, Hp.le_refl _, by simpa using hown⟩) ev_le ev_le rfl tk ?_
        rintro ⟨j, ρ2, v, sp⟩ hI
        try simp only [List.cons_append, List.nil_append, List.append_assoc, List.append_eq] at hI ⊢
        try dsimp only at hI ⊢
        have hfl := flatMap_le rowB 20 rows (fun x hx => rowB_le (hrow x hx))
        obtain ⟨hj0, hle3, hown3⟩ := hI
        by_cases hlj : j < kn
        · obtain ⟨b, off, C, T, fr, rfl, hb, hfit, hc⟩ := (hk.mono (Hp.le_trans hle1 hle3)).get (show j < kids.length by omega)
          have hmem : kids[j]'(by omega) ∈ kids := List.getElem_mem _
          have hko := hkid _ hmem
          have hid := hik _ hmem
          have hts := flatMap_take_succ kidB kids j (by omega)
          have hfk := flatMap_le kidB 4 (kids.take j) (fun x hx => Nat.le_of_eq (kidB_len x))
          have htl : (kids.take j).length ≤ 4 := by simp; omega
          have hXl : (B0 ++ (rows.flatMap rowB ++ (kids.take j).flatMap kidB)).length ≤ 200 := by simp only [List.length_append]; omega
          have hmm : B0 ++ (rows.flatMap rowB ++ (kids.take j).flatMap kidB) ++ keyB (kids[j]'(by omega)).t (kids[j]'(by omega)).id ++ [tB (kids[j]'(by omega)).page] = B0 ++ (rows.flatMap rowB ++ (kids.take (j + 1)).flatMap kidB) := by rw [hts]; simp [kidB]
          have hll : (B0 ++ (rows.flatMap rowB ++ (kids.take j).flatMap kidB)).length + 3 + 1 = (B0 ++ (rows.flatMap rowB ++ (kids.take (j + 1)).flatMap kidB)).length := by rw [hts]; simp [kidB_len]; omega
          have hpg := tB_eq (t := (kids[j]'(by omega)).page) (by omega) (by omega)
          generalize kids[j]'(by omega) = x at *
          generalize hX : B0 ++ (rows.flatMap rowB ++ (kids.take j).flatMap kidB) = X at *
          repeat' (first | (refine i_op ?_; first | (refine i_qq ?_; refine qQ ?_) | refine qEf ?_) | refine tl_nil ?_ | (refine i_tc ?_; refine qTc ?_) | (refine i_te ?_; refine qTe ?_) | intro _)
          rename_i b9
          refine tc_any (Stays _ _ ([[(b9, .cells ⟨kidV x⟩ 224 (0, 0))]])) (stays_of (hT := tk) (Hp.le_refl _)) ?_
          all_goals refine rMv 0 ?_
          all_goals refine rFa 1 ?_
          all_goals refine rLd 2 ?_
          all_goals refine rFa 4 ?_
          all_goals refine rLd 5 ?_
          all_goals refine rCv 6 ?_
          all_goals (refine rStep2 (i := 3) (j := 7) ?_ ?_ <;> ((try refine qWant ?_); (first | (refine tl_is (.func 308) ?_; refine qC rfl rfl (key_spec _ v _ X sp hown3 (by omega) x.t x.id hko.1.1 (by omega) hid) ?_; rintro v2 ρ4 L2 hle0 ⟨hle4, sp4, hown4, rfl⟩; simp only [List.cons_append, List.nil_append]) | (refine tl_buildSlice_s rfl rfl rfl rfl (by simp) rfl rfl (fun _ => ?_); simp only [hpg]) | (refine qEf ?_; try intro _)) <;> ((try simp only [kM, kN, kO]); refine tl_nil ?_; refine rNext ?_)))
          all_goals (first | (refine rStep (i := 7) ?_; ((try refine qWant ?_); (first | (refine tl_buildSlice_s rfl rfl rfl rfl (by simp) rfl rfl (fun _ => ?_); simp only [hpg]) | (refine qEf ?_; try intro _)) <;> ((try simp only [kM, kN, kO]); refine tl_nil ?_; refine rNext ?_))) | (refine rStep (i := 3) ?_; ((try refine qWant ?_); (first | (refine tl_is (.func 308) ?_; refine qC rfl rfl (key_spec _ v _ X sp hown3 (by omega) x.t x.id hko.1.1 (by omega) hid) ?_; rintro v2 ρ4 L2 hle0 ⟨hle4, sp4, hown4, rfl⟩; simp only [List.cons_append, List.nil_append]) | (refine qEf ?_; try intro _)) <;> ((try simp only [kM, kN, kO]); refine tl_nil ?_; refine rNext ?_))))
          all_goals (refine rStep (i := 8) ?_; ((try refine qWant ?_); (first | (refine tl_is (.func 308) ?_; refine qC rfl rfl (key_spec _ v _ X sp hown3 (by omega) x.t x.id hko.1.1 (by omega) hid) ?_; rintro v2 ρ4 L2 hle0 ⟨hle4, sp4, hown4, rfl⟩; simp only [List.cons_append, List.nil_append]) | (refine tl_app (ys := [u8c (tB x.page)]) (m := 1) rfl rfl hown4 (hR := by infer_instance) SrcV.lit rfl rfl (by decide) rfl (by omega) (by omega) rfl (fun v5 sp5 hown5 => ?_); rw [show (X ++ keyB x.t x.id).map u8c ++ [u8c (tB x.page)] = (X ++ keyB x.t x.id ++ [tB x.page]).map u8c by simp, hmm] at hown5 ⊢; rw [hll] at hown5) | (refine qEf ?_; try intro _)) <;> ((try simp only [kM, kN, kO]); refine tl_nil ?_; refine rNext ?_)))
          all_goals refine rFull ?_
          all_goals refine rAs 9 ?_
          all_goals refine rDone ?_
          all_goals (repeat' (first | (refine i_op ?_; first | (refine i_qq ?_; refine qQ ?_) | refine qEf ?_) | refine tl_nil ?_ | (refine i_tc ?_; refine qTc ?_) | (refine i_te ?_; refine qTe ?_) | intro _))
          all_goals refine te_round_g (j + 1, _, v5, sp5) (⟨hlj, Hp.le_trans hle3 (by assumption), hown5⟩) ev_le ev_le rfl tk inferInstance (by first | omega | (dsimp only; omega))
        · have hj2 : j = kn := by omega
          subst hj2
          rw [List.take_of_length_le (by omega)] at hown3 ⊢
          have hfin : B0 ++ (rows.flatMap rowB ++ kids.flatMap kidB) = contB ⟨kind, rows, kids⟩ := by rw [← hB0]; simp [contB]
          rw [hfin] at hown3 ⊢
          repeat' (first | (refine i_op ?_; first | (refine i_qq ?_; refine qQ ?_) | refine qEf ?_) | refine tl_nil ?_ | (refine i_tc ?_; refine qTc ?_) | (refine i_te ?_; refine qTe ?_) | intro _)
          refine te_freeze _ (h := Rem.here) (fun ρ6 hle6 hfz => ?_)
          obtain ⟨a6, c6, rfl, hc6, hs6⟩ := hown3.sIn hfz
          exact qE ⟨Hp.le_trans hle1 (Hp.le_trans hle3 hle6), a6, _, c6, rfl, hc6, hs6, rfl⟩
end Go.Proofs.E

namespace Go.Proofs.E
open Go
set_option linter.unusedVariables false
set_option linter.unusedSimpArgs false
set_option linter.unusedSectionVars false
set_option maxRecDepth 4000
set_option maxHeartbeats 1000000
attribute [local irreducible] Yl TL TC TE Spec YSpec R1 Hp.le EnvLe TS TR YS Stays
/-! ## codec: which are one -/
instance : Fun Tryz.prog 30 := mkFun (by kernel_rfl)
instance (priority := 1200) eqRow {x y : Row} : EqC Tryz.prog 8 101 (.agg ⟨rowV x⟩) (.agg ⟨rowV y⟩) (decide (x = y)) := by
  have h : EqC Tryz.prog 8 101 (.agg ⟨[.int .i64 x.t, .int .u16 x.id, .int .i64 x.val, strV x.note]⟩) (.agg ⟨[.int .i64 y.t, .int .u16 y.id, .int .i64 y.val, strV y.note]⟩) _ := inferInstance
  refine ⟨fun d w hd => ?_⟩
  rw [h.out d w hd]
  congr 1
  obtain ⟨t, i, v, n⟩ := x
  obtain ⟨t', i', v', n'⟩ := y
  simp only [Row.mk.injEq, Bool.and_true, Bool.decide_and]
  have e : ((i : Int) == (i' : Int)) = decide (i = i') := by
    by_cases h : i = i'
    · subst h; simp
    · rw [decide_eq_false h]; simp only [beq_eq_false_iff_ne, ne_eq]; omega
  rw [e]
  by_cases h1 : t = t' <;> by_cases h2 : i = i' <;> by_cases h3 : v = v' <;> simp [h1, h2, h3]
instance (priority := 1200) eqKid {x y : Kid} : EqC Tryz.prog 8 224 (.agg ⟨kidV x⟩) (.agg ⟨kidV y⟩) (decide (x = y)) := by
  have h : EqC Tryz.prog 8 224 (.agg ⟨[.int .i64 x.t, .int .u16 x.id, .int .i64 x.page]⟩) (.agg ⟨[.int .i64 y.t, .int .u16 y.id, .int .i64 y.page]⟩) _ := inferInstance
  refine ⟨fun d w hd => ?_⟩
  rw [h.out d w hd]
  congr 1
  obtain ⟨t, i, v⟩ := x
  obtain ⟨t', i', v'⟩ := y
  simp only [Kid.mk.injEq, Bool.and_true, Bool.decide_and]
  have e : ((i : Int) == (i' : Int)) = decide (i = i') := by
    by_cases h : i = i'
    · subst h; simp
    · rw [decide_eq_false h]; simp only [beq_eq_false_iff_ne, ne_eq]; omega
  rw [e]
  by_cases h1 : t = t' <;> by_cases h2 : i = i' <;> by_cases h3 : v = v' <;> simp [h1, h2, h3]
theorem slEqROW_spec (ρ : Hp) (a a' : Option Addr) (n c n' c' : Nat) (l m : List Row) (h : AIn ρ 4 rowV a n l) (h' : AIn ρ 4 rowV a' n' m) (hn : n ≤ 1000000) :
    Spec Tryz.prog 191 [.slice a n c, .slice a' n' c'] ρ [] (fun v ρ' L' => v = .bool (decide (l = m)) ∧ ρ' = ρ ∧ L' = []) := by
  have hl := h.len
  have hm := h'.len
  refine spec_enter Tryz.func191 rfl rfl rfl fun u R => ?_
  simp only [argsE, List.cons_append, List.nil_append]
  by_cases hne : n = n'
  · subst hne
    repeat' (first | (refine i_op ?_; first | (refine i_qq ?_; refine qQ ?_) | refine qEf ?_) | refine tl_nil ?_ | (refine i_tc ?_; refine qTc ?_) | (refine i_te ?_; refine qTe ?_) | intro _)
    refine tc_loop_g [(0, _), (1, _), (4, _), (12, _)] (fun (ζ : (Nat)) => [(13, .int .i64 ζ)]) (fun (ζ : (Nat)) => ρ) (fun (ζ : (Nat)) => []) (fun (ζ : (Nat)) => ζ ≤ n ∧ l.take ζ = m.take ζ) (fun (ζ : (Nat)) => n - ζ) (0) (⟨Nat.zero_le _, rfl⟩) ev_le ev_le rfl tk ?_
    rintro k hI
    try simp only [List.cons_append, List.nil_append, List.append_assoc, List.append_eq] at hI ⊢
    try dsimp only at hI ⊢
    obtain ⟨hk, hpre⟩ := hI
    by_cases hlt : k < n
    · obtain ⟨b, off, C, T, fr, rfl, hb, hfit, hc⟩ := h.get (show k < l.length by omega)
      obtain ⟨b2, off2, C2, T2, fr2, rfl, hb2, hfit2, hc2⟩ := h'.get (show k < m.length by omega)
      have ht1 := List.take_succ_eq_append_getElem (show k < l.length by omega)
      have ht2 := List.take_succ_eq_append_getElem (show k < m.length by omega)
      have hf : l = m → l[k]'(by omega) = m[k]'(by omega) := fun e => by subst e; rfl
      generalize l[k]'(by omega) = x at *
      generalize m[k]'(by omega) = y at *
      by_cases he : x = y
      · have hd : decide (x = y) = true := decide_eq_true he
        repeat' (first | (refine i_op ?_; first | (refine i_qq ?_; refine qQ ?_) | refine qEf ?_) | refine tl_nil ?_ | (refine i_tc ?_; refine qTc ?_) | (refine i_te ?_; refine qTe ?_) | intro _)
        refine tc_any (Stays _ _ _) stays_refl ?_
        all_goals refine rMv 0 ?_
        all_goals refine rFull ?_
        all_goals refine rMv 1 ?_
        all_goals refine rIa 2 ?_
        all_goals refine rLd 3 ?_
        all_goals refine rMv 4 ?_
        all_goals refine rMv 5 ?_
        all_goals refine rIa 6 ?_
        all_goals refine rLd 7 ?_
        all_goals refine rCm 8 ?_
        all_goals refine rDone ?_
        try simp only [hd]
        repeat' (first | (refine i_op ?_; first | (refine i_qq ?_; refine qQ ?_) | refine qEf ?_) | refine tl_nil ?_ | (refine i_tc ?_; refine qTc ?_) | (refine i_te ?_; refine qTe ?_) | intro _)
        refine te_round_g (k + 1) (⟨hlt, by rw [ht1, ht2, hpre, he]⟩) ev_le ev_le rfl tk inferInstance (by first | omega | (dsimp only; omega))
      · have hd : decide (x = y) = false := decide_eq_false he
        rw [decide_eq_false (fun e => he (hf e))]
        repeat' (first | (refine i_op ?_; first | (refine i_qq ?_; refine qQ ?_) | refine qEf ?_) | refine tl_nil ?_ | (refine i_tc ?_; refine qTc ?_) | (refine i_te ?_; refine qTe ?_) | intro _)
        refine tc_any (Stays _ _ _) stays_refl ?_
        all_goals refine rMv 0 ?_
        all_goals refine rFull ?_
        all_goals refine rMv 1 ?_
        all_goals refine rIa 2 ?_
        all_goals refine rLd 3 ?_
        all_goals refine rMv 4 ?_
        all_goals refine rMv 5 ?_
        all_goals refine rIa 6 ?_
        all_goals refine rLd 7 ?_
        all_goals refine rCm 8 ?_
        all_goals refine rDone ?_
        try simp only [hd]
        repeat' (first | (refine i_op ?_; first | (refine i_qq ?_; refine qQ ?_) | refine qEf ?_) | refine tl_nil ?_ | (refine i_tc ?_; refine qTc ?_) | (refine i_te ?_; refine qTe ?_) | intro _)
        exact qE ⟨rfl, rfl, rfl⟩
    · have hk2 : k = n := by omega
      subst hk2
      rw [List.take_of_length_le (by omega), List.take_of_length_le (by omega)] at hpre
      rw [decide_eq_true hpre]
      repeat' (first | (refine i_op ?_; first | (refine i_qq ?_; refine qQ ?_) | refine qEf ?_) | refine tl_nil ?_ | (refine i_tc ?_; refine qTc ?_) | (refine i_te ?_; refine qTe ?_) | intro _)
      exact qE ⟨rfl, rfl, rfl⟩
  · rw [decide_eq_false (fun e : l = m => hne (by rw [← hl, ← hm, e]))]
    repeat' (first | (refine i_op ?_; first | (refine i_qq ?_; refine qQ ?_) | refine qEf ?_) | refine tl_nil ?_ | (refine i_tc ?_; refine qTc ?_) | (refine i_te ?_; refine qTe ?_) | intro _)
    exact qE ⟨rfl, rfl, rfl⟩
theorem slEqKID_spec (ρ : Hp) (a a' : Option Addr) (n c n' c' : Nat) (l m : List Kid) (h : AIn ρ 3 kidV a n l) (h' : AIn ρ 3 kidV a' n' m) (hn : n ≤ 1000000) :
    Spec Tryz.prog 192 [.slice a n c, .slice a' n' c'] ρ [] (fun v ρ' L' => v = .bool (decide (l = m)) ∧ ρ' = ρ ∧ L' = []) := by
  have hl := h.len
  have hm := h'.len
  refine spec_enter Tryz.func192 rfl rfl rfl fun u R => ?_
  simp only [argsE, List.cons_append, List.nil_append]
  by_cases hne : n = n'
  · subst hne
    repeat' (first | (refine i_op ?_; first | (refine i_qq ?_; refine qQ ?_) | refine qEf ?_) | refine tl_nil ?_ | (refine i_tc ?_; refine qTc ?_) | (refine i_te ?_; refine qTe ?_) | intro _)
    refine tc_loop_g [(0, _), (1, _), (4, _), (12, _)] (fun (ζ : (Nat)) => [(13, .int .i64 ζ)]) (fun (ζ : (Nat)) => ρ) (fun (ζ : (Nat)) => []) (fun (ζ : (Nat)) => ζ ≤ n ∧ l.take ζ = m.take ζ) (fun (ζ : (Nat)) => n - ζ) (0) (⟨Nat.zero_le _, rfl⟩) ev_le ev_le rfl tk ?_
    rintro k hI
    try simp only [List.cons_append, List.nil_append, List.append_assoc, List.append_eq] at hI ⊢
    try dsimp only at hI ⊢
    obtain ⟨hk, hpre⟩ := hI
    by_cases hlt : k < n
    · obtain ⟨b, off, C, T, fr, rfl, hb, hfit, hc⟩ := h.get (show k < l.length by omega)
      obtain ⟨b2, off2, C2, T2, fr2, rfl, hb2, hfit2, hc2⟩ := h'.get (show k < m.length by omega)
      have ht1 := List.take_succ_eq_append_getElem (show k < l.length by omega)
      have ht2 := List.take_succ_eq_append_getElem (show k < m.length by omega)
      have hf : l = m → l[k]'(by omega) = m[k]'(by omega) := fun e => by subst e; rfl
      generalize l[k]'(by omega) = x at *
      generalize m[k]'(by omega) = y at *
      by_cases he : x = y
      · have hd : decide (x = y) = true := decide_eq_true he
        repeat' (first | (refine i_op ?_; first | (refine i_qq ?_; refine qQ ?_) | refine qEf ?_) | refine tl_nil ?_ | (refine i_tc ?_; refine qTc ?_) | (refine i_te ?_; refine qTe ?_) | intro _)
        refine tc_any (Stays _ _ _) stays_refl ?_
        all_goals refine rMv 0 ?_
        all_goals refine rFull ?_
        all_goals refine rMv 1 ?_
        all_goals refine rIa 2 ?_
        all_goals refine rLd 3 ?_
        all_goals refine rMv 4 ?_
        all_goals refine rMv 5 ?_
        all_goals refine rIa 6 ?_
        all_goals refine rLd 7 ?_
        all_goals refine rCm 8 ?_
        all_goals refine rDone ?_
        try simp only [hd]
        repeat' (first | (refine i_op ?_; first | (refine i_qq ?_; refine qQ ?_) | refine qEf ?_) | refine tl_nil ?_ | (refine i_tc ?_; refine qTc ?_) | (refine i_te ?_; refine qTe ?_) | intro _)
        refine te_round_g (k + 1) (⟨hlt, by rw [ht1, ht2, hpre, he]⟩) ev_le ev_le rfl tk inferInstance (by first | omega | (dsimp only; omega))
      · have hd : decide (x = y) = false := decide_eq_false he
        rw [decide_eq_false (fun e => he (hf e))]
        repeat' (first | (refine i_op ?_; first | (refine i_qq ?_; refine qQ ?_) | refine qEf ?_) | refine tl_nil ?_ | (refine i_tc ?_; refine qTc ?_) | (refine i_te ?_; refine qTe ?_) | intro _)
        refine tc_any (Stays _ _ _) stays_refl ?_
        all_goals refine rMv 0 ?_
        all_goals refine rFull ?_
        all_goals refine rMv 1 ?_
        all_goals refine rIa 2 ?_
        all_goals refine rLd 3 ?_
        all_goals refine rMv 4 ?_
        all_goals refine rMv 5 ?_
        all_goals refine rIa 6 ?_
        all_goals refine rLd 7 ?_
        all_goals refine rCm 8 ?_
        all_goals refine rDone ?_
        try simp only [hd]
        repeat' (first | (refine i_op ?_; first | (refine i_qq ?_; refine qQ ?_) | refine qEf ?_) | refine tl_nil ?_ | (refine i_tc ?_; refine qTc ?_) | (refine i_te ?_; refine qTe ?_) | intro _)
        exact qE ⟨rfl, rfl, rfl⟩
    · have hk2 : k = n := by omega
      subst hk2
      rw [List.take_of_length_le (by omega), List.take_of_length_le (by omega)] at hpre
      rw [decide_eq_true hpre]
      repeat' (first | (refine i_op ?_; first | (refine i_qq ?_; refine qQ ?_) | refine qEf ?_) | refine tl_nil ?_ | (refine i_tc ?_; refine qTc ?_) | (refine i_te ?_; refine qTe ?_) | intro _)
      exact qE ⟨rfl, rfl, rfl⟩
  · rw [decide_eq_false (fun e : l = m => hne (by rw [← hl, ← hm, e]))]
    repeat' (first | (refine i_op ?_; first | (refine i_qq ?_; refine qQ ?_) | refine qEf ?_) | refine tl_nil ?_ | (refine i_tc ?_; refine qTc ?_) | (refine i_te ?_; refine qTe ?_) | intro _)
    exact qE ⟨rfl, rfl, rfl⟩
theorem bytesEq_spec (ρ : Hp) (a a' : Option Addr) (n c n' c' : Nat) (l m : List UInt8) (h : SIn ρ u8c a n l) (h' : SIn ρ u8c a' n' m) :
    Spec Tryz.prog 30 [.slice a n c, .slice a' n' c'] ρ [] (fun v ρ' L' => v = .bool (decide (l = m)) ∧ ρ' = ρ ∧ L' = []) := by
  refine spec_enter Tryz.func30 rfl rfl rfl fun u R => ?_
  simp only [argsE, List.cons_append, List.nil_append]
  repeat' (first | (refine i_op ?_; first | (refine i_qq ?_; refine qQ ?_) | refine qEf ?_) | refine tl_nil ?_ | (refine i_tc ?_; refine qTc ?_) | (refine i_te ?_; refine qTe ?_) | intro _)
  exact qE ⟨rfl, rfl, rfl⟩
theorem same_spec (ρ : Hp) (w w' : CV) (c d : Cont) (h : CIn ρ w c.rows c.kids) (h' : CIn ρ w' d.rows d.kids) :
    Spec Tryz.prog 111 [.agg ⟨contV c.kind w⟩, .agg ⟨contV d.kind w'⟩] ρ [] (fun v ρ' L' => v = .bool (decide (c = d)) ∧ ρ' = ρ ∧ L' = []) := by
  have hr := fun ρ h h' => slEqROW_spec ρ w.ra w'.ra w.rn w.rc w'.rn w'.rc c.rows d.rows h h' (CIn.rb (by assumption))
  have hk := fun ρ h h' => slEqKID_spec ρ w.ka w'.ka w.kn w.kc w'.kn w'.kc c.kids d.kids h h' (CIn.kb (by assumption))
  obtain ⟨kind, rows, kids⟩ := c
  obtain ⟨kind', rows', kids'⟩ := d
  dsimp only at hr hk h h' ⊢
  have hrr := h.r
  have hrr' := h'.r
  have hkk := h.k
  have hkk' := h'.k
  simp only [Cont.mk.injEq]
  refine spec_enter Tryz.func111 rfl rfl rfl fun u R => ?_
  simp only [argsE, List.cons_append, List.nil_append]
  by_cases h1 : kind = kind'
  · by_cases h2 : rows = rows'
    · rw [decide_eq_true h2] at hr
      by_cases h3 : kids = kids'
      · rw [decide_eq_true h3] at hk
        rw [decide_eq_true ⟨h1, h2, h3⟩]
        repeat' (first | (refine tl_is (.func 191) ?_; refine qC rfl rfl (hr _ hrr hrr') ?_; rintro v ρ' L' hle ⟨rfl, rfl, rfl⟩ <;> (try simp only [kM, kN, kO])) | (refine tl_is (.func 192) ?_; refine qC rfl rfl (hk _ hkk hkk') ?_; rintro v ρ' L' hle ⟨rfl, rfl, rfl⟩ <;> (try simp only [kM, kN, kO])) | (refine i_op ?_; first | (refine i_qq ?_; refine qQ ?_) | refine qEf ?_) | refine tl_nil ?_ | (refine i_tc ?_; refine qTc ?_) | (refine i_te ?_; refine qTe ?_) | intro _)
        exact qE ⟨rfl, rfl, rfl⟩
      · rw [decide_eq_false h3] at hk
        rw [decide_eq_false (fun e => h3 e.2.2)]
        repeat' (first | (refine tl_is (.func 191) ?_; refine qC rfl rfl (hr _ hrr hrr') ?_; rintro v ρ' L' hle ⟨rfl, rfl, rfl⟩ <;> (try simp only [kM, kN, kO])) | (refine tl_is (.func 192) ?_; refine qC rfl rfl (hk _ hkk hkk') ?_; rintro v ρ' L' hle ⟨rfl, rfl, rfl⟩ <;> (try simp only [kM, kN, kO])) | (refine i_op ?_; first | (refine i_qq ?_; refine qQ ?_) | refine qEf ?_) | refine tl_nil ?_ | (refine i_tc ?_; refine qTc ?_) | (refine i_te ?_; refine qTe ?_) | intro _)
        exact qE ⟨rfl, rfl, rfl⟩
    · rw [decide_eq_false h2] at hr
      rw [decide_eq_false (fun e => h2 e.2.1)]
      repeat' (first | (refine tl_is (.func 191) ?_; refine qC rfl rfl (hr _ hrr hrr') ?_; rintro v ρ' L' hle ⟨rfl, rfl, rfl⟩ <;> (try simp only [kM, kN, kO])) | (refine i_op ?_; first | (refine i_qq ?_; refine qQ ?_) | refine qEf ?_) | refine tl_nil ?_ | (refine i_tc ?_; refine qTc ?_) | (refine i_te ?_; refine qTe ?_) | intro _)
      exact qE ⟨rfl, rfl, rfl⟩
  · rw [decide_eq_false (fun e => h1 e.1)]
    repeat' (first | (refine i_op ?_; first | (refine i_qq ?_; refine qQ ?_) | refine qEf ?_) | refine tl_nil ?_ | (refine i_tc ?_; refine qTc ?_) | (refine i_te ?_; refine qTe ?_) | intro _)
    exact qE ⟨rfl, rfl, rfl⟩
end Go.Proofs.E

