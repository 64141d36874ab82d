/- Records of layer 12 as data, their bytes, what their functions come to, and which of them may be. Part 6 of 18. -/
import Derived.Test.YtbchgeledcfklaaGreatJ5
namespace Go.Proofs.E
open Go
set_option linter.unusedVariables false
set_option linter.unusedSimpArgs false
set_option linter.unusedSectionVars false
set_option maxRecDepth 4000
set_option maxHeartbeats 1000000
attribute [local irreducible] Yl TL TC TE Spec YSpec R1 Hp.le EnvLe TS TR YS Stays
theorem gives_ok2 (ρ : Hp) (br : Nat) (a : Option Addr) (n c : Nat) (l : List UInt8) (h : SIn ρ u8c a n l) (hc : n ≤ c) (k : Nat) (hk : k ≤ n) (g : Nat) (cs : List Value) (X : SH) (PX : Hp → SH → Prop) [Fun Tryz.prog g]
    (hS : SIn ρ u8c a k (l.take k) → Spec Tryz.prog g ([.slice a k c] ++ cs) ρ X (fun v ρ' L' => v = .tuple ⟨[]⟩ ∧ ρ.le ρ' ∧ PX ρ' L')) :
    Spec Tryz.prog 214 [.pointer (some ⟨br, 0, none⟩), .int .i64 k, .func (.func g) ⟨[]⟩ ⟨cs⟩] ρ (rdC br a n c 0 :: X)
      (fun v ρ' L' => v = .tuple ⟨[]⟩ ∧ ρ.le ρ' ∧ ∃ a' c' X', SIn ρ' u8c a' (n - k) (l.drop k) ∧ n - k ≤ c' ∧ L' = rdC br a' (n - k) c' 0 :: X' ∧ PX ρ' X') := by
  replace hS := hS (h.take hk)
  have hl := h.len
  have hsub := h.sub (lo' := k) (hi' := n) (cap := c) hk (Nat.le_refl _) hc
  rw [List.take_of_length_le (by simp; omega)] at hsub
  refine spec_enter Tryz.func214 rfl rfl rfl fun u R => ?_
  simp only [argsE, List.cons_append, List.nil_append] at hS ⊢
  repeat' (first | (refine tl_is (.func 165) ?_; refine qC rfl rfl (err_spec _ br a n c 0) ?_; rintro v ρ' L' hle ⟨rfl, rfl, rfl⟩ <;> (try simp only [kM, kN, kO])) | (refine tl_is (.tmp 9) ?_; refine qC rfl rfl (hS) ?_; rintro v ρ' L' hle ⟨rfl, hle1, hP⟩ <;> (try simp only [kM, kN, kO])) | (refine i_op ?_; first | (refine i_qq ?_; refine qQ ?_) | refine qEf ?_) | refine tl_nil ?_ | (refine i_tc ?_; refine qTc ?_) | (refine i_te ?_; refine qTe ?_) | intro _)
  exact qE ⟨rfl, hle1, _, c - k, _, hsub.mono hle1, by omega, rfl, hP⟩
theorem raw_spec (ρ : Hp) (br : Nat) (a : Option Addr) (n c : Nat) (l : List UInt8) (h : SIn ρ u8c a n l) (hc : n ≤ c) (st : Int) (k : Nat) (hk : k ≤ 1000000) :
    Spec Tryz.prog 216 [.pointer (some ⟨br, 0, none⟩), .int .i64 k] ρ [rdC br a n c st]
      (fun v ρ' L' => ρ.le ρ' ∧ ∃ va vn vc a' n' c', v = .slice va vn vc ∧ vn ≤ vc ∧ SIn ρ' u8c va vn (rawR k l st).1 ∧ SIn ρ' u8c a' n' (rawR k l st).2.1 ∧ n' ≤ c' ∧ L' = [rdC br a' n' c' (rawR k l st).2.2]) := by
  have hl := h.len
  by_cases hst : st = 0
  · subst hst
    by_cases hs : n < k
    · have e : rawR k l 0 = ([], l, 7) := by simp [rawR, hl, hs]
      rw [e]
      refine spec_enter Tryz.func216 rfl rfl rfl fun u R => ?_
      simp only [argsE, List.cons_append, List.nil_append]
      repeat' (first | (refine tl_is (.func 214) ?_; refine qC rfl rfl (gives_short _ br a n c k (by omega) _) ?_; rintro v ρ' L' hle ⟨rfl, rfl, rfl⟩ <;> (try simp only [kM, kN, kO])) | (refine i_op ?_; first | (refine i_qq ?_; refine qQ ?_) | refine qEf ?_) | refine tl_nil ?_ | (refine i_tc ?_; refine qTc ?_) | (refine i_te ?_; refine qTe ?_) | intro _)
      exact qE ⟨Hp.le_refl _, none, 0, 0, a, n, c, rfl, Nat.le_refl _, SIn.nil, h, hc, rfl⟩
    · have e : rawR k l 0 = (l.take k, l.drop k, 0) := by simp [rawR, hl, hs]
      rw [e]
      refine spec_enter Tryz.func216 rfl rfl rfl fun u R => ?_
      simp only [argsE, List.cons_append, List.nil_append]
      repeat' (first | (refine i_op ?_; first | (refine i_qq ?_; refine qQ ?_) | refine qEf ?_) | refine tl_nil ?_ | (refine i_tc ?_; refine qTc ?_) | (refine i_te ?_; refine qTe ?_) | intro _)
      rename_i bx
      have hg := gives_ok2 ρ br a n c l h hc k (by omega) 248 [.pointer (some ⟨bx, 0, none⟩)] [[(bx, .cells ⟨[.slice none 0 0]⟩ 44 (0, 0))]] _ (fun hs => raw1_spec ρ bx a k c (l.take k) hs hk)
      repeat' (first | (refine tl_is (.func 214) ?_; refine qC rfl rfl (hg) ?_; rintro v ρ' L' hle ⟨rfl, hle1, a', c', X', hs', hc', rfl, va, vc, hv, hvc, rfl⟩ <;> (try simp only [kM, kN, kO])) | (refine i_op ?_; first | (refine i_qq ?_; refine qQ ?_) | refine qEf ?_) | refine tl_nil ?_ | (refine i_tc ?_; refine qTc ?_) | (refine i_te ?_; refine qTe ?_) | intro _)
      exact qE ⟨hle1, va, k, vc, a', n - k, c', rfl, hvc, hv, hs', hc', rfl⟩
  · have e : rawR k l st = ([], l, st) := by simp [rawR, hst]
    rw [e]
    refine spec_enter Tryz.func216 rfl rfl rfl fun u R => ?_
    simp only [argsE, List.cons_append, List.nil_append]
    repeat' (first | (refine tl_is (.func 214) ?_; refine qC rfl rfl (gives_stuck _ br a n c st hst k _) ?_; rintro v ρ' L' hle ⟨rfl, rfl, rfl⟩ <;> (try simp only [kM, kN, kO])) | (refine i_op ?_; first | (refine i_qq ?_; refine qQ ?_) | refine qEf ?_) | refine tl_nil ?_ | (refine i_tc ?_; refine qTc ?_) | (refine i_te ?_; refine qTe ?_) | intro _)
    exact qE ⟨Hp.le_refl _, none, 0, 0, a, n, c, rfl, Nat.le_refl _, SIn.nil, h, hc, rfl⟩
/-! ## codec: rows, kids, contents as data -/
structure Row where
  t : Int
  id : Nat
  val : Int
  note : List UInt8
deriving DecidableEq
structure Kid where
  t : Int
  id : Nat
  page : Int
deriving DecidableEq
abbrev keyV (t : Int) (id : Nat) : List Value := [.int .i64 t, .int .u16 id]
abbrev rowV (r : Row) : List Value := [.int .i64 r.t, .int .u16 r.id, .int .i64 r.val, strV r.note]
abbrev kidV (k : Kid) : List Value := [.int .i64 k.t, .int .u16 k.id, .int .i64 k.page]
abbrev tkC (bt br : Nat) (all : Int) (bad : Bool) (vk vr vs : Value) : List (Nat × Obj) := [(bt, .cells ⟨[.pointer (some ⟨br, 0, none⟩), .int .i64 all, .bool bad, vk, vr, vs]⟩ 275 (0, 0))]
theorem table_spec (ρ : Hp) (n : Int) : Spec Tryz.prog 253 [.int .i64 n] ρ [] (fun v ρ' L' => v = .bool (decide (0 ≤ n ∧ n < 3)) ∧ ρ' = ρ ∧ L' = []) := by
  refine spec_enter Tryz.func253 rfl rfl rfl fun u R => ?_
  simp only [argsE, List.cons_append, List.nil_append]
  by_cases h0 : 0 ≤ n
  · by_cases h1 : n < 3
    · rw [decide_eq_true ⟨h0, h1⟩]
      repeat' (first | (refine i_op ?_; first | (refine i_qq ?_; refine qQ ?_) | refine qEf ?_) | refine tl_nil ?_ | (refine i_tc ?_; refine qTc ?_) | (refine i_te ?_; refine qTe ?_) | intro _)
      exact qE ⟨rfl, rfl, rfl⟩
    · rw [decide_eq_false (fun h => h1 h.2)]
      repeat' (first | (refine i_op ?_; first | (refine i_qq ?_; refine qQ ?_) | refine qEf ?_) | refine tl_nil ?_ | (refine i_tc ?_; refine qTc ?_) | (refine i_te ?_; refine qTe ?_) | intro _)
      exact qE ⟨rfl, rfl, rfl⟩
  · rw [decide_eq_false (fun h => h0 h.1)]
    repeat' (first | (refine i_op ?_; first | (refine i_qq ?_; refine qQ ?_) | refine qEf ?_) | refine tl_nil ?_ | (refine i_tc ?_; refine qTc ?_) | (refine i_te ?_; refine qTe ?_) | intro _)
    exact qE ⟨rfl, rfl, rfl⟩
theorem ok_spec (ρ : Hp) (bt br : Nat) (all : Int) (bad : Bool) (vk vr vs : Value) (a : Option Addr) (n c : Nat) (st : Int) :
    Spec Tryz.prog 252 [.pointer (some ⟨bt, 0, none⟩)] ρ [tkC bt br all bad vk vr vs, rdC br a n c st]
      (fun v ρ' L' => v = .bool (!bad && decide (st = 0)) ∧ ρ' = ρ ∧ L' = [tkC bt br all bad vk vr vs, rdC br a n c st]) := by
  refine spec_enter Tryz.func252 rfl rfl rfl fun u R => ?_
  simp only [argsE, List.cons_append, List.nil_append]
  cases bad
  · by_cases h : st = 0
    · subst h
      repeat' (first | (refine tl_is (.func 165) ?_; refine qC rfl rfl (err_spec _ br a n c 0) ?_; rintro v ρ' L' hle ⟨rfl, rfl, rfl⟩ <;> (try simp only [kM, kN, kO])) | (refine i_op ?_; first | (refine i_qq ?_; refine qQ ?_) | refine qEf ?_) | refine tl_nil ?_ | (refine i_tc ?_; refine qTc ?_) | (refine i_te ?_; refine qTe ?_) | intro _)
      exact qE ⟨rfl, rfl, rfl⟩
    · have hd : decide (st = 0) = false := decide_eq_false h
      rw [hd]
      repeat' (first | (refine tl_is (.func 165) ?_; refine qC rfl rfl (err_spec _ br a n c st) ?_; rintro v ρ' L' hle ⟨rfl, rfl, rfl⟩ <;> (try simp only [kM, kN, kO])) | (refine i_op ?_; first | (refine i_qq ?_; refine qQ ?_) | refine qEf ?_) | refine tl_nil ?_ | (refine i_tc ?_; refine qTc ?_) | (refine i_te ?_; refine qTe ?_) | intro _)
      exact qE ⟨rfl, rfl, rfl⟩
  · repeat' (first | (refine i_op ?_; first | (refine i_qq ?_; refine qQ ?_) | refine qEf ?_) | refine tl_nil ?_ | (refine i_tc ?_; refine qTc ?_) | (refine i_te ?_; refine qTe ?_) | intro _)
    exact qE ⟨rfl, rfl, rfl⟩
def needB (bad : Bool) (st : Int) (is : Bool) : Bool := bad || (decide (st = 0) && !is)
theorem need_spec (ρ : Hp) (bt br : Nat) (all : Int) (bad : Bool) (vk vr vs : Value) (a : Option Addr) (n c : Nat) (st : Int) (is : Bool) :
    Spec Tryz.prog 249 [.pointer (some ⟨bt, 0, none⟩), .bool is] ρ [tkC bt br all bad vk vr vs, rdC br a n c st]
      (fun v ρ' L' => v = .tuple ⟨[]⟩ ∧ ρ' = ρ ∧ L' = [tkC bt br all (needB bad st is) vk vr vs, rdC br a n c st]) := by
  refine spec_enter Tryz.func249 rfl rfl rfl fun u R => ?_
  simp only [argsE, List.cons_append, List.nil_append, needB]
  cases bad
  · by_cases h : st = 0
    · subst h
      cases is
      all_goals (repeat' (first | (refine tl_is (.func 165) ?_; refine qC rfl rfl (err_spec _ br a n c 0) ?_; rintro v ρ' L' hle ⟨rfl, rfl, rfl⟩ <;> (try simp only [kM, kN, kO])) | (refine i_op ?_; first | (refine i_qq ?_; refine qQ ?_) | refine qEf ?_) | refine tl_nil ?_ | (refine i_tc ?_; refine qTc ?_) | (refine i_te ?_; refine qTe ?_) | intro _))
      all_goals exact qE ⟨rfl, rfl, rfl⟩
    · have hd : decide (st = 0) = false := decide_eq_false h
      rw [hd]
      repeat' (first | (refine tl_is (.func 165) ?_; refine qC rfl rfl (err_spec _ br a n c st) ?_; rintro v ρ' L' hle ⟨rfl, rfl, rfl⟩ <;> (try simp only [kM, kN, kO])) | (refine i_op ?_; first | (refine i_qq ?_; refine qQ ?_) | refine qEf ?_) | refine tl_nil ?_ | (refine i_tc ?_; refine qTc ?_) | (refine i_te ?_; refine qTe ?_) | intro _)
      exact qE ⟨rfl, rfl, rfl⟩
  · repeat' (first | (refine i_op ?_; first | (refine i_qq ?_; refine qQ ?_) | refine qEf ?_) | refine tl_nil ?_ | (refine i_tc ?_; refine qTc ?_) | (refine i_te ?_; refine qTe ?_) | intro _)
    exact qE ⟨rfl, rfl, rfl⟩
end Go.Proofs.E

namespace Go.Proofs.E
open Go
set_option linter.unusedVariables false
set_option linter.unusedSimpArgs false
set_option linter.unusedSectionVars false
set_option maxRecDepth 4000
set_option maxHeartbeats 1000000
attribute [local irreducible] Yl TL TC TE Spec YSpec R1 Hp.le EnvLe TS TR YS Stays
abbrev RS3 := List UInt8 × Int × Bool
def i64N (x : Nat) : Int := IntKind.i64.wrap (x : Int)
def rowR (l : List UInt8) (st : Int) (bad : Bool) : Row × RS3 :=
  let r1 := numR 1 l st
  let b1 := needB bad r1.2.2 (decide ((r1.1 : Int) < 3))
  if !b1 && decide (r1.2.2 = 0) then
    let r2 := numR 2 r1.2.1 r1.2.2
    let r3 := numR 8 r2.2.1 r2.2.2
    let r4 := numR 1 r3.2.1 r3.2.2
    let b2 := needB b1 r4.2.2 (decide ((r4.1 : Int) ≤ 8))
    if !b2 && decide (r4.2.2 = 0) then
      let r5 := rawR r4.1 r4.2.1 r4.2.2
      (⟨r1.1, r2.1, i64N r3.1, r5.1⟩, r5.2.1, r5.2.2, b2)
    else (⟨r1.1, r2.1, i64N r3.1, []⟩, r4.2.1, r4.2.2, b2)
  else (⟨r1.1, 0, 0, []⟩, r1.2.1, r1.2.2, b1)
theorem trow_spec (ρ : Hp) (bt br : Nat) (all : Int) (bad : Bool) (vk vr vs : Value) (a : Option Addr) (n c : Nat) (l : List UInt8) (h : SIn ρ u8c a n l) (hc : n ≤ c) (st : Int) :
    Spec Tryz.prog 221 [.pointer (some ⟨bt, 0, none⟩)] ρ [tkC bt br all bad vk vr vs, rdC br a n c st]
      (fun v ρ' L' => v = .agg ⟨rowV (rowR l st bad).1⟩ ∧ ρ.le ρ' ∧ ∃ a' n' c', SIn ρ' u8c a' n' (rowR l st bad).2.1 ∧ n' ≤ c' ∧ L' = [tkC bt br all (rowR l st bad).2.2.2 vk vr vs, rdC br a' n' c' (rowR l st bad).2.2.1]) := by
  have hn1 := u8_spec ρ br a n c l h hc st
  have hb1 := numR_lt 1 l st
  generalize hq : rowR l st bad = q
  unfold rowR at hq
  generalize numR 1 l st = r1 at *
  obtain ⟨x1, l1, st1⟩ := r1
  dsimp only at hq hn1 hb1
  have htab : decide (0 ≤ (x1 : Int) ∧ (x1 : Int) < 3) = decide ((x1 : Int) < 3) := by simp
  generalize hB1 : needB bad st1 (decide ((x1 : Int) < 3)) = b1 at *
  refine spec_enter Tryz.func221 rfl rfl rfl fun u R => ?_
  simp only [argsE, List.cons_append, List.nil_append]
  repeat' (first | (refine tl_is (.func 79) ?_; refine qC rfl rfl (hn1) ?_; rintro v ρ' L' hle ⟨rfl, rfl, a1, n1, c1, h1, hc1, rfl⟩ <;> (try simp only [kM, kN, kO])) | (refine tl_is (.func 253) ?_; refine qC rfl rfl (table_spec _ (x1 : Int)) ?_; rintro v ρ' L' hle ⟨rfl, rfl, rfl⟩ <;> (try simp only [kM, kN, kO, htab])) | (refine tl_is (.func 249) ?_; refine qC rfl rfl (need_spec _ bt br all bad vk vr vs a1 n1 c1 st1 (decide ((x1 : Int) < 3))) ?_; rintro v ρ' L' hle ⟨rfl, rfl, rfl⟩ <;> (try simp only [kM, kN, kO, hB1])) | (refine tl_is (.func 252) ?_; refine qC rfl rfl (ok_spec _ bt br all b1 vk vr vs a1 n1 c1 st1) ?_; rintro v ρ' L' hle ⟨rfl, rfl, rfl⟩ <;> (try simp only [kM, kN, kO])) | (refine i_op ?_; first | (refine i_qq ?_; refine qQ ?_) | refine qEf ?_) | refine tl_nil ?_ | (refine i_tc ?_; refine qTc ?_) | (refine i_te ?_; refine qTe ?_) | intro _)
  by_cases hok : (!b1 && decide (st1 = 0)) = true
  · rw [if_pos hok] at hq
    simp only [hok]
    have hn2 := fun ρ (h : SIn ρ u8c a1 n1 l1) => u16_spec ρ br a1 n1 c1 l1 h hc1 st1
    have hb2 := numR_lt 2 l1 st1
    generalize numR 2 l1 st1 = r2 at *
    obtain ⟨x2, l2, st2⟩ := r2
    dsimp only at hq hn2 hb2
    have hn3 := fun ρ a n c (h : SIn ρ u8c a n l2) hc => u64_spec ρ br a n c l2 h hc st2
    generalize numR 8 l2 st2 = r3 at *
    obtain ⟨x3, l3, st3⟩ := r3
    dsimp only at hq hn3
    have hn4 := fun ρ a n c (h : SIn ρ u8c a n l3) hc => u8_spec ρ br a n c l3 h hc st3
    have hb4 := numR_lt 1 l3 st3
    generalize numR 1 l3 st3 = r4 at *
    obtain ⟨x4, l4, st4⟩ := r4
    dsimp only at hq hn4 hb4
    generalize hB2 : needB b1 st4 (decide ((x4 : Int) ≤ 8)) = b2 at *
    repeat' (first | (refine tl_is (.func 160) ?_; refine qC rfl rfl (hn2 _ h1) ?_; rintro v ρ' L' hle ⟨rfl, rfl, a2, n2, c2, h2, hc2, rfl⟩ <;> (try simp only [kM, kN, kO])) | (refine tl_is (.func 80) ?_; refine qC rfl rfl (hn3 _ _ _ _ h2 hc2) ?_; rintro v ρ' L' hle ⟨rfl, rfl, a3, n3, c3, h3, hc3, rfl⟩ <;> (try simp only [kM, kN, kO])) | (refine tl_is (.func 79) ?_; refine qC rfl rfl (hn4 _ _ _ _ h3 hc3) ?_; rintro v ρ' L' hle ⟨rfl, rfl, a4, n4, c4, h4, hc4, rfl⟩ <;> (try simp only [kM, kN, kO])) | (refine tl_is (.func 249) ?_; refine qC rfl rfl (need_spec _ bt br all b1 vk vr vs a4 n4 c4 st4 (decide ((x4 : Int) ≤ 8))) ?_; rintro v ρ' L' hle ⟨rfl, rfl, rfl⟩ <;> (try simp only [kM, kN, kO, hB2])) | (refine tl_is (.func 252) ?_; refine qC rfl rfl (ok_spec _ bt br all b2 vk vr vs a4 n4 c4 st4) ?_; rintro v ρ' L' hle ⟨rfl, rfl, rfl⟩ <;> (try simp only [kM, kN, kO])) | (refine i_op ?_; first | (refine i_qq ?_; refine qQ ?_) | refine qEf ?_) | refine tl_nil ?_ | (refine i_tc ?_; refine qTc ?_) | (refine i_te ?_; refine qTe ?_) | intro _)
    by_cases hok2 : (!b2 && decide (st4 = 0)) = true
    · rw [if_pos hok2] at hq
      simp only [hok2]
      have hn5 := fun ρ (h : SIn ρ u8c a4 n4 l4) => raw_spec ρ br a4 n4 c4 l4 h hc4 st4 x4 (by omega)
      generalize rawR x4 l4 st4 = r5 at *
      obtain ⟨x5, l5, st5⟩ := r5
      dsimp only at hq hn5
      subst hq
      repeat' (first | (refine tl_is (.func 216) ?_; refine qC rfl rfl (hn5 _ h4) ?_; rintro v ρ' L' hle ⟨hle5, va, vn, vc, a5, n5, c5, rfl, hvc, hv, h5, hc5, rfl⟩ <;> (try simp only [kM, kN, kO])) | (refine i_op ?_; first | (refine i_qq ?_; refine qQ ?_) | refine qEf ?_) | refine tl_nil ?_ | (refine i_tc ?_; refine qTc ?_) | (refine i_te ?_; refine qTe ?_) | intro _)
      exact qE ⟨rfl, hle5, a5, n5, c5, h5, hc5, rfl⟩
    · rw [if_neg hok2] at hq
      subst hq
      simp only [Bool.not_eq_true] at hok2
      simp only [hok2]
      repeat' (first | (refine i_op ?_; first | (refine i_qq ?_; refine qQ ?_) | refine qEf ?_) | refine tl_nil ?_ | (refine i_tc ?_; refine qTc ?_) | (refine i_te ?_; refine qTe ?_) | intro _)
      exact qE ⟨rfl, Hp.le_refl _, a4, n4, c4, h4, hc4, rfl⟩
  · rw [if_neg hok] at hq
    subst hq
    simp only [Bool.not_eq_true] at hok
    simp only [hok]
    repeat' (first | (refine i_op ?_; first | (refine i_qq ?_; refine qQ ?_) | refine qEf ?_) | refine tl_nil ?_ | (refine i_tc ?_; refine qTc ?_) | (refine i_te ?_; refine qTe ?_) | intro _)
    exact qE ⟨rfl, Hp.le_refl _, a1, n1, c1, h1, hc1, rfl⟩
def kidR (l : List UInt8) (st : Int) : Kid × List UInt8 × Int :=
  let r1 := numR 1 l st
  let r2 := numR 2 r1.2.1 r1.2.2
  let r3 := numR 1 r2.2.1 r2.2.2
  (⟨r1.1, r2.1, r3.1⟩, r3.2.1, r3.2.2)
theorem tkid_spec (ρ : Hp) (bt br : Nat) (all : Int) (bad : Bool) (vk vr vs : Value) (a : Option Addr) (n c : Nat) (l : List UInt8) (h : SIn ρ u8c a n l) (hc : n ≤ c) (st : Int) :
    Spec Tryz.prog 269 [.pointer (some ⟨bt, 0, none⟩)] ρ [tkC bt br all bad vk vr vs, rdC br a n c st]
      (fun v ρ' L' => v = .agg ⟨kidV (kidR l st).1⟩ ∧ ρ' = ρ ∧ ∃ a' n' c', SIn ρ' u8c a' n' (kidR l st).2.1 ∧ n' ≤ c' ∧ L' = [tkC bt br all bad vk vr vs, rdC br a' n' c' (kidR l st).2.2]) := by
  have hn1 := u8_spec ρ br a n c l h hc st
  have hb1 := numR_lt 1 l st
  generalize hq : kidR l st = q
  unfold kidR at hq
  generalize numR 1 l st = r1 at *
  obtain ⟨x1, l1, st1⟩ := r1
  dsimp only at hq hn1 hb1
  have hn2 := fun ρ a n c (h : SIn ρ u8c a n l1) hc => u16_spec ρ br a n c l1 h hc st1
  have hb2 := numR_lt 2 l1 st1
  generalize numR 2 l1 st1 = r2 at *
  obtain ⟨x2, l2, st2⟩ := r2
  dsimp only at hq hn2 hb2
  have hn3 := fun ρ a n c (h : SIn ρ u8c a n l2) hc => u8_spec ρ br a n c l2 h hc st2
  have hb3 := numR_lt 1 l2 st2
  generalize numR 1 l2 st2 = r3 at *
  obtain ⟨x3, l3, st3⟩ := r3
  dsimp only at hq hn3 hb3
  subst hq
  refine spec_enter Tryz.func269 rfl rfl rfl fun u R => ?_
  simp only [argsE, List.cons_append, List.nil_append]
  repeat' (first | (refine i_op ?_; first | (refine i_qq ?_; refine qQ ?_) | refine qEf ?_) | refine tl_nil ?_ | (refine i_tc ?_; refine qTc ?_) | (refine i_te ?_; refine qTe ?_) | intro _)
  refine tc_any (Stays _ _ ([tkC bt br all bad vk vr vs])) (stays_of (hT := tk) (Hp.le_refl _)) ?_
  all_goals refine rMv 0 ?_
  all_goals refine rNc 1 ?_
  all_goals refine rFa 2 ?_
  all_goals refine rLd 3 ?_
  all_goals refine rMv 6 ?_
  all_goals refine rNc 7 ?_
  all_goals refine rFa 8 ?_
  all_goals refine rLd 9 ?_
  all_goals (refine rStep (i := 4) ?_; ((try refine qWant ?_); (first | (refine tl_is (.func 79) ?_; refine qC rfl rfl (hn1) ?_; rintro v ρ' L' hle ⟨rfl, rfl, a1, n1, c1, h1, hc1, rfl⟩ <;> (try simp only [kM, kN, kO])) | (refine qEf ?_; try intro _)) <;> ((try simp only [kM, kN, kO]); refine tl_nil ?_; refine rNext ?_)))
  all_goals refine rCv 5 ?_
  all_goals (refine rStep (i := 10) ?_; ((try refine qWant ?_); (first | (refine tl_is (.func 160) ?_; refine qC rfl rfl (hn2 _ _ _ _ h1 hc1) ?_; rintro v ρ' L' hle ⟨rfl, rfl, a2, n2, c2, h2, hc2, rfl⟩ <;> (try simp only [kM, kN, kO])) | (refine qEf ?_; try intro _)) <;> ((try simp only [kM, kN, kO]); refine tl_nil ?_; refine rNext ?_)))
  all_goals refine rBu 11 ?_
  all_goals refine rFa 12 ?_
  all_goals (refine rStep (i := 13) ?_; ((try refine qWant ?_); (first | (refine qEf ?_; try intro _)) <;> ((try simp only [kM, kN, kO]); refine tl_nil ?_; refine rNext ?_)))
  all_goals refine rDone ?_
  all_goals (repeat' (first | (refine tl_is (.func 79) ?_; refine qC rfl rfl (hn3 _ _ _ _ h2 hc2) ?_; rintro v ρ' L' hle ⟨rfl, rfl, a3, n3, c3, h3, hc3, rfl⟩ <;> (try simp only [kM, kN, kO])) | (refine i_op ?_; first | (refine i_qq ?_; refine qQ ?_) | refine qEf ?_) | refine tl_nil ?_ | (refine i_tc ?_; refine qTc ?_) | (refine i_te ?_; refine qTe ?_) | intro _))
  all_goals exact qE ⟨rfl, rfl, a3, n3, c3, h3, hc3, rfl⟩
end Go.Proofs.E

namespace Go.Proofs.E
open Go
set_option linter.unusedVariables false
set_option linter.unusedSimpArgs false
set_option linter.unusedSectionVars false
set_option maxRecDepth 4000
set_option maxHeartbeats 1000000
attribute [local irreducible] Yl TL TC TE Spec YSpec R1 Hp.le EnvLe TS TR YS Stays
/-! ## codec: what may be -/
def cmpI (x y : Int) : Int := if x < y then -1 else if y < x then 1 else 0
theorem nanI_spec (ρ : Hp) (x : Int) : Spec Tryz.prog 240 [.int .i64 x] ρ [] (fun v ρ' L' => v = .bool false ∧ ρ' = ρ ∧ L' = []) := by
  refine spec_enter Tryz.func240 rfl rfl rfl fun u R => ?_
  simp only [argsE, List.cons_append, List.nil_append]
  repeat' (first | (refine i_op ?_; first | (refine i_qq ?_; refine qQ ?_) | refine qEf ?_) | refine tl_nil ?_ | (refine i_tc ?_; refine qTc ?_) | (refine i_te ?_; refine qTe ?_) | intro _)
  exact qE ⟨rfl, rfl, rfl⟩
theorem nanU_spec (ρ : Hp) (x : Int) : Spec Tryz.prog 283 [.int .u16 x] ρ [] (fun v ρ' L' => v = .bool false ∧ ρ' = ρ ∧ L' = []) := by
  refine spec_enter Tryz.func283 rfl rfl rfl fun u R => ?_
  simp only [argsE, List.cons_append, List.nil_append]
  repeat' (first | (refine i_op ?_; first | (refine i_qq ?_; refine qQ ?_) | refine qEf ?_) | refine tl_nil ?_ | (refine i_tc ?_; refine qTc ?_) | (refine i_te ?_; refine qTe ?_) | intro _)
  exact qE ⟨rfl, rfl, rfl⟩
theorem cmpI_spec (ρ : Hp) (x y : Int) : Spec Tryz.prog 196 [.int .i64 x, .int .i64 y] ρ [] (fun v ρ' L' => v = .int .i64 (cmpI x y) ∧ ρ' = ρ ∧ L' = []) := by
  refine spec_enter Tryz.func196 rfl rfl rfl fun u R => ?_
  simp only [argsE, List.cons_append, List.nil_append]
  unfold cmpI
  split
  · repeat' (first | (refine tl_is (.func 240) ?_; refine qC rfl rfl (nanI_spec _ _) ?_; rintro v ρ' L' hle ⟨rfl, rfl, rfl⟩ <;> (try simp only [kM, kN, kO])) | (refine i_op ?_; first | (refine i_qq ?_; refine qQ ?_) | refine qEf ?_) | refine tl_nil ?_ | (refine i_tc ?_; refine qTc ?_) | (refine i_te ?_; refine qTe ?_) | intro _)
    exact qE ⟨rfl, rfl, rfl⟩
  · split
    · repeat' (first | (refine tl_is (.func 240) ?_; refine qC rfl rfl (nanI_spec _ _) ?_; rintro v ρ' L' hle ⟨rfl, rfl, rfl⟩ <;> (try simp only [kM, kN, kO])) | (refine i_op ?_; first | (refine i_qq ?_; refine qQ ?_) | refine qEf ?_) | refine tl_nil ?_ | (refine i_tc ?_; refine qTc ?_) | (refine i_te ?_; refine qTe ?_) | intro _)
      exact qE ⟨rfl, rfl, rfl⟩
    · repeat' (first | (refine tl_is (.func 240) ?_; refine qC rfl rfl (nanI_spec _ _) ?_; rintro v ρ' L' hle ⟨rfl, rfl, rfl⟩ <;> (try simp only [kM, kN, kO])) | (refine i_op ?_; first | (refine i_qq ?_; refine qQ ?_) | refine qEf ?_) | refine tl_nil ?_ | (refine i_tc ?_; refine qTc ?_) | (refine i_te ?_; refine qTe ?_) | intro _)
      exact qE ⟨rfl, rfl, rfl⟩
theorem cmpU_spec (ρ : Hp) (x y : Int) : Spec Tryz.prog 282 [.int .u16 x, .int .u16 y] ρ [] (fun v ρ' L' => v = .int .i64 (cmpI x y) ∧ ρ' = ρ ∧ L' = []) := by
  refine spec_enter Tryz.func282 rfl rfl rfl fun u R => ?_
  simp only [argsE, List.cons_append, List.nil_append]
  unfold cmpI
  split
  · repeat' (first | (refine tl_is (.func 283) ?_; refine qC rfl rfl (nanU_spec _ _) ?_; rintro v ρ' L' hle ⟨rfl, rfl, rfl⟩ <;> (try simp only [kM, kN, kO])) | (refine i_op ?_; first | (refine i_qq ?_; refine qQ ?_) | refine qEf ?_) | refine tl_nil ?_ | (refine i_tc ?_; refine qTc ?_) | (refine i_te ?_; refine qTe ?_) | intro _)
    exact qE ⟨rfl, rfl, rfl⟩
  · split
    · repeat' (first | (refine tl_is (.func 283) ?_; refine qC rfl rfl (nanU_spec _ _) ?_; rintro v ρ' L' hle ⟨rfl, rfl, rfl⟩ <;> (try simp only [kM, kN, kO])) | (refine i_op ?_; first | (refine i_qq ?_; refine qQ ?_) | refine qEf ?_) | refine tl_nil ?_ | (refine i_tc ?_; refine qTc ?_) | (refine i_te ?_; refine qTe ?_) | intro _)
      exact qE ⟨rfl, rfl, rfl⟩
    · repeat' (first | (refine tl_is (.func 283) ?_; refine qC rfl rfl (nanU_spec _ _) ?_; rintro v ρ' L' hle ⟨rfl, rfl, rfl⟩ <;> (try simp only [kM, kN, kO])) | (refine i_op ?_; first | (refine i_qq ?_; refine qQ ?_) | refine qEf ?_) | refine tl_nil ?_ | (refine i_tc ?_; refine qTc ?_) | (refine i_te ?_; refine qTe ?_) | intro _)
      exact qE ⟨rfl, rfl, rfl⟩
theorem or2_spec (ρ : Hp) (b : Nat) (x y : Int) : Spec Tryz.prog 281 [.slice (some ⟨b, 0, none⟩) 2 2] ρ [[(b, .cells ⟨[.int .i64 x, .int .i64 y]⟩ 3 (0, 0))]]
    (fun v ρ' L' => v = .int .i64 (if x = 0 then y else x) ∧ ρ' = ρ ∧ L' = [[(b, .cells ⟨[.int .i64 x, .int .i64 y]⟩ 3 (0, 0))]]) := by
  refine spec_enter Tryz.func281 rfl rfl rfl fun u R => ?_
  simp only [argsE, List.cons_append, List.nil_append]
  repeat' (first | (refine i_op ?_; first | (refine i_qq ?_; refine qQ ?_) | refine qEf ?_) | refine tl_nil ?_ | (refine i_tc ?_; refine qTc ?_) | (refine i_te ?_; refine qTe ?_) | intro _)
  refine tc_loop_g [(2, _), (3, _), (6, _), (7, _)] (fun (ζ : (Nat)) => [(8, .int .i64 ζ)]) (fun (ζ : (Nat)) => ρ) (fun (ζ : (Nat)) => []) (fun (ζ : (Nat)) => ζ = 0 ∨ (ζ = 1 ∧ x = 0) ∨ (ζ = 2 ∧ x = 0 ∧ y = 0)) (fun (ζ : (Nat)) => 3 - ζ) (0) (.inl rfl) ev_le ev_le rfl tk ?_
  rintro k hI
  try simp only [List.cons_append, List.nil_append, List.append_assoc, List.append_eq] at hI ⊢
  try dsimp only at hI ⊢
  rcases hI with rfl | ⟨rfl, rfl⟩ | ⟨rfl, rfl, rfl⟩
  · by_cases h : x = 0
    · subst h
      repeat' (first | (refine i_op ?_; first | (refine i_qq ?_; refine qQ ?_) | refine qEf ?_) | refine tl_nil ?_ | (refine i_tc ?_; refine qTc ?_) | (refine i_te ?_; refine qTe ?_) | intro _)
      refine te_round_g (1) (.inr (.inl ⟨rfl, rfl⟩)) ev_le ev_le rfl tk inferInstance (by first | omega | (dsimp only; omega))
    · rw [if_neg h]
      repeat' (first | (refine i_op ?_; first | (refine i_qq ?_; refine qQ ?_) | refine qEf ?_) | refine tl_nil ?_ | (refine i_tc ?_; refine qTc ?_) | (refine i_te ?_; refine qTe ?_) | intro _)
      exact qE ⟨rfl, rfl, rfl⟩
  · by_cases h : y = 0
    · subst h
      repeat' (first | (refine i_op ?_; first | (refine i_qq ?_; refine qQ ?_) | refine qEf ?_) | refine tl_nil ?_ | (refine i_tc ?_; refine qTc ?_) | (refine i_te ?_; refine qTe ?_) | intro _)
      refine te_round_g (2) (.inr (.inr ⟨rfl, rfl, rfl⟩)) ev_le ev_le rfl tk inferInstance (by first | omega | (dsimp only; omega))
    · repeat' (first | (refine i_op ?_; first | (refine i_qq ?_; refine qQ ?_) | refine qEf ?_) | refine tl_nil ?_ | (refine i_tc ?_; refine qTc ?_) | (refine i_te ?_; refine qTe ?_) | intro _)
      exact qE ⟨rfl, rfl, rfl⟩
  · repeat' (first | (refine i_op ?_; first | (refine i_qq ?_; refine qQ ?_) | refine qEf ?_) | refine tl_nil ?_ | (refine i_tc ?_; refine qTc ?_) | (refine i_te ?_; refine qTe ?_) | intro _)
    exact qE ⟨rfl, rfl, rfl⟩
def cmpK (t1 : Int) (i1 : Nat) (t2 : Int) (i2 : Nat) : Int := if cmpI t1 t2 = 0 then cmpI i1 i2 else cmpI t1 t2
theorem cmpK_lt (t1 : Int) (i1 : Nat) (t2 : Int) (i2 : Nat) : cmpK t1 i1 t2 i2 < 0 ↔ t1 < t2 ∨ (t1 = t2 ∧ i1 < i2) := by
  unfold cmpK cmpI
  repeat' split
  all_goals omega
theorem compare_spec (ρ : Hp) (t1 : Int) (i1 : Nat) (t2 : Int) (i2 : Nat) : Spec Tryz.prog 280 [.agg ⟨keyV t1 i1⟩, .agg ⟨keyV t2 i2⟩] ρ [] (fun v ρ' L' => v = .int .i64 (cmpK t1 i1 t2 i2) ∧ ρ' = ρ ∧ L' = []) := by
  refine spec_enter Tryz.func280 rfl rfl rfl fun u R => ?_
  simp only [argsE, List.cons_append, List.nil_append]
  repeat' (first | (refine i_op ?_; first | (refine i_qq ?_; refine qQ ?_) | refine qEf ?_) | refine tl_nil ?_ | (refine i_tc ?_; refine qTc ?_) | (refine i_te ?_; refine qTe ?_) | intro _)
  refine tc_any (Stays _ _ _) stays_refl ?_
  all_goals refine rFa 0 ?_
  all_goals refine rLd 1 ?_
  all_goals refine rFa 2 ?_
  all_goals refine rLd 3 ?_
  all_goals refine rFa 5 ?_
  all_goals refine rLd 6 ?_
  all_goals refine rFa 7 ?_
  all_goals refine rLd 8 ?_
  all_goals (refine rStep (i := 4) ?_; ((try refine qWant ?_); (first | (refine tl_is (.func 196) ?_; refine qC rfl rfl (cmpI_spec _ _ _) ?_; rintro v ρ' L' hle ⟨rfl, rfl, rfl⟩ <;> (try simp only [kM, kN, kO])) | (refine qEf ?_; try intro _)) <;> ((try simp only [kM, kN, kO]); refine tl_nil ?_; refine rNext ?_)))
  all_goals (refine rStep (i := 9) ?_; ((try refine qWant ?_); (first | (refine tl_is (.func 282) ?_; refine qC rfl rfl (cmpU_spec _ _ _) ?_; rintro v ρ' L' hle ⟨rfl, rfl, rfl⟩ <;> (try simp only [kM, kN, kO])) | (refine qEf ?_; try intro _)) <;> ((try simp only [kM, kN, kO]); refine tl_nil ?_; refine rNext ?_)))
  all_goals (refine rStep (i := 10) ?_; ((try refine qWant ?_); (first | (refine tl_buildSlice_s rfl rfl rfl rfl (by simp) rfl rfl (fun _ => ?_)) | (refine qEf ?_; try intro _)) <;> ((try simp only [kM, kN, kO]); refine tl_nil ?_; refine rNext ?_)))
  all_goals (refine rStep (i := 11) ?_; ((try refine qWant ?_); (first | (refine tl_is (.func 281) ?_; refine qC rfl rfl (or2_spec _ _ _ _) ?_; rintro v ρ' L' hle ⟨rfl, rfl, rfl⟩ <;> (try simp only [kM, kN, kO])) | (refine qEf ?_; try intro _)) <;> ((try simp only [kM, kN, kO]); refine tl_nil ?_; refine rNext ?_)))
  all_goals refine rFull ?_
  all_goals refine rAs 12 ?_
  all_goals refine rDone ?_
  all_goals (repeat' (first | (refine i_op ?_; first | (refine i_qq ?_; refine qQ ?_) | refine qEf ?_) | refine tl_nil ?_ | (refine i_tc ?_; refine qTc ?_) | (refine i_te ?_; refine qTe ?_) | intro _))
  all_goals exact qE ⟨rfl, rfl, rfl⟩
def rowOk (r : Row) : Bool := decide ((0 ≤ r.t ∧ r.t < 3) ∧ r.note.length ≤ 8)
theorem checkRow_spec (ρ : Hp) (r : Row) : Spec Tryz.prog 238 [.agg ⟨rowV r⟩] ρ [] (fun v ρ' L' => v = .int .i64 (if rowOk r then 0 else 151) ∧ ρ' = ρ ∧ L' = []) := by
  obtain ⟨t, id, val, note⟩ := r
  refine spec_enter Tryz.func238 rfl rfl rfl fun u R => ?_
  simp only [argsE, List.cons_append, List.nil_append, rowOk, decide_eq_true_eq]
  by_cases h1 : 0 ≤ t ∧ t < 3
  · have hd : decide (0 ≤ t ∧ t < 3) = true := decide_eq_true h1
    by_cases h2 : note.length ≤ 8
    · rw [if_pos ⟨h1, h2⟩]
      repeat' (first | (refine tl_is (.func 253) ?_; refine qC rfl rfl (table_spec _ _) ?_; rintro v ρ' L' hle ⟨rfl, rfl, rfl⟩ <;> (try simp only [kM, kN, kO, hd])) | (refine i_op ?_; first | (refine i_qq ?_; refine qQ ?_) | refine qEf ?_) | refine tl_nil ?_ | (refine i_tc ?_; refine qTc ?_) | (refine i_te ?_; refine qTe ?_) | intro _)
      exact qE ⟨rfl, rfl, rfl⟩
    · rw [if_neg (fun h => h2 h.2)]
      repeat' (first | (refine tl_is (.func 253) ?_; refine qC rfl rfl (table_spec _ _) ?_; rintro v ρ' L' hle ⟨rfl, rfl, rfl⟩ <;> (try simp only [kM, kN, kO, hd])) | (refine i_op ?_; first | (refine i_qq ?_; refine qQ ?_) | refine qEf ?_) | refine tl_nil ?_ | (refine i_tc ?_; refine qTc ?_) | (refine i_te ?_; refine qTe ?_) | intro _)
      exact qE ⟨rfl, rfl, rfl⟩
  · have hd : decide (0 ≤ t ∧ t < 3) = false := decide_eq_false h1
    rw [if_neg (fun h => h1 h.1)]
    repeat' (first | (refine tl_is (.func 253) ?_; refine qC rfl rfl (table_spec _ _) ?_; rintro v ρ' L' hle ⟨rfl, rfl, rfl⟩ <;> (try simp only [kM, kN, kO, hd])) | (refine i_op ?_; first | (refine i_qq ?_; refine qQ ?_) | refine qEf ?_) | refine tl_nil ?_ | (refine i_tc ?_; refine qTc ?_) | (refine i_te ?_; refine qTe ?_) | intro _)
    exact qE ⟨rfl, rfl, rfl⟩
end Go.Proofs.E

namespace Go.Proofs.E
open Go
set_option linter.unusedVariables false
set_option linter.unusedSimpArgs false
set_option linter.unusedSectionVars false
set_option maxRecDepth 4000
set_option maxHeartbeats 1000000
attribute [local irreducible] Yl TL TC TE Spec YSpec R1 Hp.le EnvLe TS TR YS Stays
def risesB {α : Type} (most : Nat) (right : Nat → α → Bool) (lt : α → α → Bool) (l : List α) : Nat → Bool
  | 0 => decide (l.length ≤ most)
  | k + 1 => risesB most right lt l k && (match l[k]? with | some x => right k x && (decide (k = 0) || (match l[k - 1]? with | some y => lt y x | none => false)) | none => false)
theorem risesB_succ {α : Type} {most : Nat} {right : Nat → α → Bool} {lt : α → α → Bool} {l : List α} {k : Nat} (h : k < l.length) : risesB most right lt l (k + 1) = (risesB most right lt l k && (right k l[k] && (decide (k = 0) || lt (l[k - 1]'(by omega)) l[k]))) := by
  rw [risesB]
  simp [h, show k - 1 < l.length by omega]
theorem risesB_false {α : Type} {most : Nat} {right : Nat → α → Bool} {lt : α → α → Bool} {l : List α} {k : Nat} (h : risesB most right lt l k = false) : ∀ m, risesB most right lt l (k + m) = false
  | 0 => h
  | m + 1 => by rw [← Nat.add_assoc, risesB, risesB_false h m]; rfl
theorem risesB_false' {α : Type} {most : Nat} {right : Nat → α → Bool} {lt : α → α → Bool} {l : List α} {k n : Nat} (h : risesB most right lt l k = false) (hk : k ≤ n) : risesB most right lt l n = false := by
  have := risesB_false h (n - k)
  rwa [Nat.add_sub_cancel' hk] at this
theorem leaf1_spec (ρ : Hp) (r : Row) : Spec Tryz.prog 272 [.agg ⟨rowV r⟩] ρ [] (fun v ρ' L' => v = .agg ⟨keyV r.t r.id⟩ ∧ ρ' = ρ ∧ L' = []) := by
  refine spec_enter Tryz.func272 rfl rfl rfl fun u R => ?_
  simp only [argsE, List.cons_append, List.nil_append]
  repeat' (first | (refine i_op ?_; first | (refine i_qq ?_; refine qQ ?_) | refine qEf ?_) | refine tl_nil ?_ | (refine i_tc ?_; refine qTc ?_) | (refine i_te ?_; refine qTe ?_) | intro _)
  exact qE ⟨rfl, rfl, rfl⟩
theorem leaf2_spec (ρ : Hp) (i : Int) (r : Row) : Spec Tryz.prog 273 [.int .i64 i, .agg ⟨rowV r⟩] ρ [] (fun v ρ' L' => v = .bool (rowOk r) ∧ ρ' = ρ ∧ L' = []) := by
  refine spec_enter Tryz.func273 rfl rfl rfl fun u R => ?_
  simp only [argsE, List.cons_append, List.nil_append]
  cases h : rowOk r
  · repeat' (first | (refine tl_is (.func 238) ?_; refine qC rfl rfl (checkRow_spec _ r) ?_; rintro v ρ' L' hle ⟨rfl, rfl, rfl⟩ <;> (try simp only [kM, kN, kO, h, if_false, Bool.false_eq_true])) | (refine i_op ?_; first | (refine i_qq ?_; refine qQ ?_) | refine qEf ?_) | refine tl_nil ?_ | (refine i_tc ?_; refine qTc ?_) | (refine i_te ?_; refine qTe ?_) | intro _)
    exact qE ⟨rfl, rfl, rfl⟩
  · repeat' (first | (refine tl_is (.func 238) ?_; refine qC rfl rfl (checkRow_spec _ r) ?_; rintro v ρ' L' hle ⟨rfl, rfl, rfl⟩ <;> (try simp only [kM, kN, kO, h, if_true])) | (refine i_op ?_; first | (refine i_qq ?_; refine qQ ?_) | refine qEf ?_) | refine tl_nil ?_ | (refine i_tc ?_; refine qTc ?_) | (refine i_te ?_; refine qTe ?_) | intro _)
    exact qE ⟨rfl, rfl, rfl⟩
def ltR (y x : Row) : Bool := decide (cmpK y.t y.id x.t x.id < 0)
def rowsOk (l : List Row) : Bool := risesB 4 (fun _ r => rowOk r) ltR l l.length
theorem rowV_len (r : Row) : (rowV r).length = 4 := rfl
theorem rowV_one (r : Row) : (rowV r).all (·.oneCell') = true := rfl
theorem risesRow_spec (ρ : Hp) (a : Option Addr) (n c : Nat) (l : List Row) (h : AIn ρ 4 rowV a n l) (hn : n ≤ 1000000) :
    Spec Tryz.prog 271 [.slice a n c, .int .i64 4, .func (.func 272) ⟨[]⟩ ⟨[]⟩, .func (.func 273) ⟨[]⟩ ⟨[]⟩] ρ [] (fun v ρ' L' => v = .bool (rowsOk l) ∧ ρ' = ρ ∧ L' = []) := by
  have hl := h.len
  unfold rowsOk
  rw [hl]
  refine spec_enter Tryz.func271 rfl rfl rfl fun u R => ?_
  simp only [argsE, List.cons_append, List.nil_append]
  repeat' (first | (refine i_op ?_; first | (refine i_qq ?_; refine qQ ?_) | refine qEf ?_) | refine tl_nil ?_ | (refine i_tc ?_; refine qTc ?_) | (refine i_te ?_; refine qTe ?_) | intro _)
  have e0 : decide ((n : Int) ≤ 4) = risesB 4 (fun _ r => rowOk r) ltR l 0 := by
    rw [risesB]; simp [hl]; omega
  rw [e0]
  refine tc_loop_g [(0, _), (2, _), (3, _), (8, _), (16, _), (17, _)] (fun (ζ : (Nat)) => [(18, .int .i64 ζ), (9, .bool (risesB 4 (fun _ r => rowOk r) ltR l ζ))]) (fun (ζ : (Nat)) => ρ) (fun (ζ : (Nat)) => []) (fun (ζ : (Nat)) => ζ ≤ n) (fun (ζ : (Nat)) => n - ζ) (0) (Nat.zero_le _) ev_le ev_le rfl tk ?_
  rintro k hI
  try simp only [List.cons_append, List.nil_append, List.append_assoc, List.append_eq] at hI ⊢
  try dsimp only at hI ⊢
  by_cases hlt : k < n
  · obtain ⟨b, off, C, T, fr, rfl, hb, hfit, hc⟩ := h.get (show k < l.length by omega)
    have hs := risesB_succ (most := 4) (right := fun _ r => rowOk r) (lt := ltR) (show k < l.length by omega)
    have hfin := fun (e : risesB 4 (fun _ r => rowOk r) ltR l (k + 1) = false) => risesB_false' e (show k + 1 ≤ n by omega)
    cases hok : risesB 4 (fun _ r => rowOk r) ltR l k
    · rw [hok, Bool.false_and] at hs
      rw [hfin hs]
      generalize l[k] = x at *
      repeat' (first | (refine i_op ?_; first | (refine i_qq ?_; refine qQ ?_) | refine qEf ?_) | refine tl_nil ?_ | (refine i_tc ?_; refine qTc ?_) | (refine i_te ?_; refine qTe ?_) | intro _)
      refine tc_any (Stays _ _ _) stays_refl ?_
      all_goals refine rMv 0 ?_
      all_goals refine rMv 1 ?_
      all_goals (first | refine wSkip 2 ?_ | refine wSkipU 2 ?_ | refine wMv 2 ?_ | (refine tr_guard (t := 24) rfl (fun hb => ?_) (fun hb => ?_) <;> (try simp only [kk] at hb) <;> first | refine wSkip 2 ?_ | refine wSkipU 2 ?_ | refine wMv 2 ?_))
      all_goals (first | refine wSkip 3 ?_ | refine wSkipU 3 ?_ | refine wMv 3 ?_ | (refine tr_guard (t := 24) rfl (fun hb => ?_) (fun hb => ?_) <;> (try simp only [kk] at hb) <;> first | refine wSkip 3 ?_ | refine wSkipU 3 ?_ | refine wMv 3 ?_))
      all_goals (first | refine wSkip 4 ?_ | refine wSkipU 4 ?_ | refine wLd 4 ?_ | (refine tr_guard (t := 24) rfl (fun hb => ?_) (fun hb => ?_) <;> (try simp only [kk] at hb) <;> first | refine wSkip 4 ?_ | refine wSkipU 4 ?_ | refine wLd 4 ?_))
      all_goals (first | refine wSkip 5 ?_ | refine wSkipU 5 ?_ | (refine rStep (i := 5) ?_; ((try refine qWant ?_); (first | (refine qEf ?_; try intro _)) <;> ((try simp only [kM, kN, kO]); refine tl_nil ?_; refine rNext ?_))))
      all_goals refine rPk 6 ?_
      all_goals refine rMv 7 ?_
      all_goals (first | refine wSkip 8 ?_ | refine wSkipU 8 ?_ | refine wMv 8 ?_ | (refine tr_guard (t := 30) rfl (fun hb => ?_) (fun hb => ?_) <;> (try simp only [kk] at hb) <;> first | refine wSkip 8 ?_ | refine wSkipU 8 ?_ | refine wMv 8 ?_))
      all_goals (first | refine wSkip 9 ?_ | refine wSkipU 9 ?_ | refine wCm 9 ?_ | (refine tr_guard (t := 30) rfl (fun hb => ?_) (fun hb => ?_) <;> (try simp only [kk] at hb) <;> first | refine wSkip 9 ?_ | refine wSkipU 9 ?_ | refine wCm 9 ?_))
      all_goals (first | refine wSkip 10 ?_ | refine wSkipU 10 ?_ | refine wMv 10 ?_ | (refine tr_guard (t := 30) rfl (fun hb => ?_) (fun hb => ?_) <;> (try simp only [kk] at hb) <;> first | refine wSkip 10 ?_ | refine wSkipU 10 ?_ | refine wMv 10 ?_))
      all_goals (first | refine wSkip 11 ?_ | refine wSkipU 11 ?_ | refine wMv 11 ?_ | (refine tr_guard (t := 33) rfl (fun hb => ?_) (fun hb => ?_) <;> (try simp only [kk] at hb) <;> first | refine wSkip 11 ?_ | refine wSkipU 11 ?_ | refine wMv 11 ?_))
      all_goals (first | refine wSkip 12 ?_ | refine wSkipU 12 ?_ | refine wMv 12 ?_ | (refine tr_guard (t := 33) rfl (fun hb => ?_) (fun hb => ?_) <;> (try simp only [kk] at hb) <;> first | refine wSkip 12 ?_ | refine wSkipU 12 ?_ | refine wMv 12 ?_))
      all_goals (first | refine wSkip 13 ?_ | refine wSkipU 13 ?_ | refine wMv 13 ?_ | (refine tr_guard (t := 33) rfl (fun hb => ?_) (fun hb => ?_) <;> (try simp only [kk] at hb) <;> first | refine wSkip 13 ?_ | refine wSkipU 13 ?_ | refine wMv 13 ?_))
      all_goals (first | refine wSkip 14 ?_ | refine wSkipU 14 ?_ | refine wSb 14 ?_ | (refine tr_guard (t := 33) rfl (fun hb => ?_) (fun hb => ?_) <;> (try simp only [kk] at hb) <;> first | refine wSkip 14 ?_ | refine wSkipU 14 ?_ | refine wSb 14 ?_))
      all_goals (first | refine wSkip 15 ?_ | refine wSkipU 15 ?_ | refine wIa 15 ?_ | (refine tr_guard (t := 33) rfl (fun hb => ?_) (fun hb => ?_) <;> (try simp only [kk] at hb) <;> first | refine wSkip 15 ?_ | refine wSkipU 15 ?_ | refine wIa 15 ?_))
      all_goals (first | refine wSkip 16 ?_ | refine wSkipU 16 ?_ | refine wLd 16 ?_ | (refine tr_guard (t := 33) rfl (fun hb => ?_) (fun hb => ?_) <;> (try simp only [kk] at hb) <;> first | refine wSkip 16 ?_ | refine wSkipU 16 ?_ | refine wLd 16 ?_))
      all_goals (first | refine wSkip 18 ?_ | refine wSkipU 18 ?_ | refine wMv 18 ?_ | (refine tr_guard (t := 33) rfl (fun hb => ?_) (fun hb => ?_) <;> (try simp only [kk] at hb) <;> first | refine wSkip 18 ?_ | refine wSkipU 18 ?_ | refine wMv 18 ?_))
      all_goals (first | refine wSkip 19 ?_ | refine wSkipU 19 ?_ | refine wLd 19 ?_ | (refine tr_guard (t := 33) rfl (fun hb => ?_) (fun hb => ?_) <;> (try simp only [kk] at hb) <;> first | refine wSkip 19 ?_ | refine wSkipU 19 ?_ | refine wLd 19 ?_))
      all_goals (first | refine wSkip 17 ?_ | refine wSkipU 17 ?_ | (refine rStep (i := 17) ?_; ((try refine qWant ?_); (first | (refine qEf ?_; try intro _)) <;> ((try simp only [kM, kN, kO]); refine tl_nil ?_; refine rNext ?_))))
      all_goals (first | refine wSkip 20 ?_ | refine wSkipU 20 ?_ | (refine rStep (i := 20) ?_; ((try refine qWant ?_); (first | (refine qEf ?_; try intro _)) <;> ((try simp only [kM, kN, kO]); refine tl_nil ?_; refine rNext ?_))))
      all_goals (first | refine wSkip 21 ?_ | refine wSkipU 21 ?_ | (refine rStep (i := 21) ?_; ((try refine qWant ?_); (first | (refine qEf ?_; try intro _)) <;> ((try simp only [kM, kN, kO]); refine tl_nil ?_; refine rNext ?_))))
      all_goals refine rFull ?_
      all_goals (first | refine wSkip 22 ?_ | refine wSkipU 22 ?_ | refine wCm 22 ?_ | (refine tr_guard (t := 33) rfl (fun hb => ?_) (fun hb => ?_) <;> (try simp only [kk] at hb) <;> first | refine wSkip 22 ?_ | refine wSkipU 22 ?_ | refine wCm 22 ?_))
      all_goals (first | refine wSkip 23 ?_ | refine wSkipU 23 ?_ | refine wPk 23 ?_ | (refine tr_guard (t := 30) rfl (fun hb => ?_) (fun hb => ?_) <;> (try simp only [kk] at hb) <;> first | refine wSkip 23 ?_ | refine wSkipU 23 ?_ | refine wPk 23 ?_))
      all_goals refine rPk 24 ?_
      all_goals refine rAs 25 ?_
      all_goals refine rDone ?_
      repeat' (first | (refine i_op ?_; first | (refine i_qq ?_; refine qQ ?_) | refine qEf ?_) | refine tl_nil ?_ | (refine i_tc ?_; refine qTc ?_) | (refine i_te ?_; refine qTe ?_) | intro _)
      exact qE ⟨rfl, rfl, rfl⟩
    · rw [hok, Bool.true_and] at hs
      cases hx : rowOk l[k]
      · rw [hx, Bool.false_and] at hs
        rw [hfin hs]
        generalize l[k] = x at *
        repeat' (first | (refine i_op ?_; first | (refine i_qq ?_; refine qQ ?_) | refine qEf ?_) | refine tl_nil ?_ | (refine i_tc ?_; refine qTc ?_) | (refine i_te ?_; refine qTe ?_) | intro _)
        refine tc_any (Stays _ _ _) stays_refl ?_
        all_goals refine rMv 0 ?_
        all_goals refine rMv 1 ?_
        all_goals (first | refine wSkip 2 ?_ | refine wSkipU 2 ?_ | refine wMv 2 ?_ | (refine tr_guard (t := 24) rfl (fun hb => ?_) (fun hb => ?_) <;> (try simp only [kk] at hb) <;> first | refine wSkip 2 ?_ | refine wSkipU 2 ?_ | refine wMv 2 ?_))
        all_goals (first | refine wSkip 3 ?_ | refine wSkipU 3 ?_ | refine wMv 3 ?_ | (refine tr_guard (t := 24) rfl (fun hb => ?_) (fun hb => ?_) <;> (try simp only [kk] at hb) <;> first | refine wSkip 3 ?_ | refine wSkipU 3 ?_ | refine wMv 3 ?_))
        all_goals (first | refine wSkip 4 ?_ | refine wSkipU 4 ?_ | refine wLd 4 ?_ | (refine tr_guard (t := 24) rfl (fun hb => ?_) (fun hb => ?_) <;> (try simp only [kk] at hb) <;> first | refine wSkip 4 ?_ | refine wSkipU 4 ?_ | refine wLd 4 ?_))
        all_goals (first | refine wSkip 5 ?_ | refine wSkipU 5 ?_ | (refine rStep (i := 5) ?_; ((try refine qWant ?_); (first | (refine tl_is (.tmp 25) ?_; refine qC rfl rfl (leaf2_spec _ _ _) ?_; rintro v ρ' L' hle ⟨rfl, rfl, rfl⟩ <;> (try simp only [kM, kN, kO, hx])) | (refine tl_is (.tmp 34) ?_; refine qC rfl rfl (leaf1_spec _ _) ?_; rintro v ρ' L' hle ⟨rfl, rfl, rfl⟩ <;> (try simp only [kM, kN, kO])) | (refine tl_is (.tmp 41) ?_; refine qC rfl rfl (leaf1_spec _ _) ?_; rintro v ρ' L' hle ⟨rfl, rfl, rfl⟩ <;> (try simp only [kM, kN, kO])) | (refine qEf ?_; try intro _)) <;> ((try simp only [kM, kN, kO]); refine tl_nil ?_; refine rNext ?_))))
        all_goals refine rPk 6 ?_
        all_goals refine rMv 7 ?_
        all_goals (first | refine wSkip 8 ?_ | refine wSkipU 8 ?_ | refine wMv 8 ?_ | (refine tr_guard (t := 30) rfl (fun hb => ?_) (fun hb => ?_) <;> (try simp only [kk] at hb) <;> first | refine wSkip 8 ?_ | refine wSkipU 8 ?_ | refine wMv 8 ?_))
        all_goals (first | refine wSkip 9 ?_ | refine wSkipU 9 ?_ | refine wCm 9 ?_ | (refine tr_guard (t := 30) rfl (fun hb => ?_) (fun hb => ?_) <;> (try simp only [kk] at hb) <;> first | refine wSkip 9 ?_ | refine wSkipU 9 ?_ | refine wCm 9 ?_))
        all_goals (first | refine wSkip 10 ?_ | refine wSkipU 10 ?_ | refine wMv 10 ?_ | (refine tr_guard (t := 30) rfl (fun hb => ?_) (fun hb => ?_) <;> (try simp only [kk] at hb) <;> first | refine wSkip 10 ?_ | refine wSkipU 10 ?_ | refine wMv 10 ?_))
        all_goals (first | refine wSkip 11 ?_ | refine wSkipU 11 ?_ | refine wMv 11 ?_ | (refine tr_guard (t := 33) rfl (fun hb => ?_) (fun hb => ?_) <;> (try simp only [kk] at hb) <;> first | refine wSkip 11 ?_ | refine wSkipU 11 ?_ | refine wMv 11 ?_))
        all_goals (first | refine wSkip 12 ?_ | refine wSkipU 12 ?_ | refine wMv 12 ?_ | (refine tr_guard (t := 33) rfl (fun hb => ?_) (fun hb => ?_) <;> (try simp only [kk] at hb) <;> first | refine wSkip 12 ?_ | refine wSkipU 12 ?_ | refine wMv 12 ?_))
        all_goals (first | refine wSkip 13 ?_ | refine wSkipU 13 ?_ | refine wMv 13 ?_ | (refine tr_guard (t := 33) rfl (fun hb => ?_) (fun hb => ?_) <;> (try simp only [kk] at hb) <;> first | refine wSkip 13 ?_ | refine wSkipU 13 ?_ | refine wMv 13 ?_))
        all_goals (first | refine wSkip 14 ?_ | refine wSkipU 14 ?_ | refine wSb 14 ?_ | (refine tr_guard (t := 33) rfl (fun hb => ?_) (fun hb => ?_) <;> (try simp only [kk] at hb) <;> first | refine wSkip 14 ?_ | refine wSkipU 14 ?_ | refine wSb 14 ?_))
        all_goals (first | refine wSkip 15 ?_ | refine wSkipU 15 ?_ | refine wIa 15 ?_ | (refine tr_guard (t := 33) rfl (fun hb => ?_) (fun hb => ?_) <;> (try simp only [kk] at hb) <;> first | refine wSkip 15 ?_ | refine wSkipU 15 ?_ | refine wIa 15 ?_))
        all_goals (first | refine wSkip 16 ?_ | refine wSkipU 16 ?_ | refine wLd 16 ?_ | (refine tr_guard (t := 33) rfl (fun hb => ?_) (fun hb => ?_) <;> (try simp only [kk] at hb) <;> first | refine wSkip 16 ?_ | refine wSkipU 16 ?_ | refine wLd 16 ?_))
        all_goals (first | refine wSkip 18 ?_ | refine wSkipU 18 ?_ | refine wMv 18 ?_ | (refine tr_guard (t := 33) rfl (fun hb => ?_) (fun hb => ?_) <;> (try simp only [kk] at hb) <;> first | refine wSkip 18 ?_ | refine wSkipU 18 ?_ | refine wMv 18 ?_))
        all_goals (first | refine wSkip 19 ?_ | refine wSkipU 19 ?_ | refine wLd 19 ?_ | (refine tr_guard (t := 33) rfl (fun hb => ?_) (fun hb => ?_) <;> (try simp only [kk] at hb) <;> first | refine wSkip 19 ?_ | refine wSkipU 19 ?_ | refine wLd 19 ?_))
        all_goals (first | refine wSkip 17 ?_ | refine wSkipU 17 ?_ | (refine rStep (i := 17) ?_; ((try refine qWant ?_); (first | (refine tl_is (.tmp 25) ?_; refine qC rfl rfl (leaf2_spec _ _ _) ?_; rintro v ρ' L' hle ⟨rfl, rfl, rfl⟩ <;> (try simp only [kM, kN, kO, hx])) | (refine tl_is (.tmp 34) ?_; refine qC rfl rfl (leaf1_spec _ _) ?_; rintro v ρ' L' hle ⟨rfl, rfl, rfl⟩ <;> (try simp only [kM, kN, kO])) | (refine tl_is (.tmp 41) ?_; refine qC rfl rfl (leaf1_spec _ _) ?_; rintro v ρ' L' hle ⟨rfl, rfl, rfl⟩ <;> (try simp only [kM, kN, kO])) | (refine qEf ?_; try intro _)) <;> ((try simp only [kM, kN, kO]); refine tl_nil ?_; refine rNext ?_))))
        all_goals (first | refine wSkip 20 ?_ | refine wSkipU 20 ?_ | (refine rStep (i := 20) ?_; ((try refine qWant ?_); (first | (refine tl_is (.tmp 25) ?_; refine qC rfl rfl (leaf2_spec _ _ _) ?_; rintro v ρ' L' hle ⟨rfl, rfl, rfl⟩ <;> (try simp only [kM, kN, kO, hx])) | (refine tl_is (.tmp 34) ?_; refine qC rfl rfl (leaf1_spec _ _) ?_; rintro v ρ' L' hle ⟨rfl, rfl, rfl⟩ <;> (try simp only [kM, kN, kO])) | (refine tl_is (.tmp 41) ?_; refine qC rfl rfl (leaf1_spec _ _) ?_; rintro v ρ' L' hle ⟨rfl, rfl, rfl⟩ <;> (try simp only [kM, kN, kO])) | (refine qEf ?_; try intro _)) <;> ((try simp only [kM, kN, kO]); refine tl_nil ?_; refine rNext ?_))))
        all_goals (first | refine wSkip 21 ?_ | refine wSkipU 21 ?_ | (refine rStep (i := 21) ?_; ((try refine qWant ?_); (first | (refine tl_is (.func 280) ?_; refine qC rfl rfl (compare_spec _ _ _ _ _) ?_; rintro v ρ' L' hle ⟨rfl, rfl, rfl⟩ <;> (try simp only [kM, kN, kO])) | (refine qEf ?_; try intro _)) <;> ((try simp only [kM, kN, kO]); refine tl_nil ?_; refine rNext ?_))))
        all_goals refine rFull ?_
        all_goals (first | refine wSkip 22 ?_ | refine wSkipU 22 ?_ | refine wCm 22 ?_ | (refine tr_guard (t := 33) rfl (fun hb => ?_) (fun hb => ?_) <;> (try simp only [kk] at hb) <;> first | refine wSkip 22 ?_ | refine wSkipU 22 ?_ | refine wCm 22 ?_))
        all_goals (first | refine wSkip 23 ?_ | refine wSkipU 23 ?_ | refine wPk 23 ?_ | (refine tr_guard (t := 30) rfl (fun hb => ?_) (fun hb => ?_) <;> (try simp only [kk] at hb) <;> first | refine wSkip 23 ?_ | refine wSkipU 23 ?_ | refine wPk 23 ?_))
        all_goals refine rPk 24 ?_
        all_goals refine rAs 25 ?_
        all_goals refine rDone ?_
        repeat' (first | (refine i_op ?_; first | (refine i_qq ?_; refine qQ ?_) | refine qEf ?_) | refine tl_nil ?_ | (refine i_tc ?_; refine qTc ?_) | (refine i_te ?_; refine qTe ?_) | intro _)
        exact qE ⟨rfl, rfl, rfl⟩
      · rw [hx, Bool.true_and] at hs
        by_cases hk0 : k = 0
        · have hs' : risesB 4 (fun _ r => rowOk r) ltR l (k + 1) = true := by rw [hs]; simp [hk0]
          generalize l[k] = x at *
          repeat' (first | (refine i_op ?_; first | (refine i_qq ?_; refine qQ ?_) | refine qEf ?_) | refine tl_nil ?_ | (refine i_tc ?_; refine qTc ?_) | (refine i_te ?_; refine qTe ?_) | intro _)
          refine tc_any (Stays _ _ _) stays_refl ?_
          all_goals refine rMv 0 ?_
          all_goals refine rMv 1 ?_
          all_goals (first | refine wSkip 2 ?_ | refine wSkipU 2 ?_ | refine wMv 2 ?_ | (refine tr_guard (t := 24) rfl (fun hb => ?_) (fun hb => ?_) <;> (try simp only [kk] at hb) <;> first | refine wSkip 2 ?_ | refine wSkipU 2 ?_ | refine wMv 2 ?_))
          all_goals (first | refine wSkip 3 ?_ | refine wSkipU 3 ?_ | refine wMv 3 ?_ | (refine tr_guard (t := 24) rfl (fun hb => ?_) (fun hb => ?_) <;> (try simp only [kk] at hb) <;> first | refine wSkip 3 ?_ | refine wSkipU 3 ?_ | refine wMv 3 ?_))
          all_goals (first | refine wSkip 4 ?_ | refine wSkipU 4 ?_ | refine wLd 4 ?_ | (refine tr_guard (t := 24) rfl (fun hb => ?_) (fun hb => ?_) <;> (try simp only [kk] at hb) <;> first | refine wSkip 4 ?_ | refine wSkipU 4 ?_ | refine wLd 4 ?_))
          all_goals (first | refine wSkip 5 ?_ | refine wSkipU 5 ?_ | (refine rStep (i := 5) ?_; ((try refine qWant ?_); (first | (refine tl_is (.tmp 25) ?_; refine qC rfl rfl (leaf2_spec _ _ _) ?_; rintro v ρ' L' hle ⟨rfl, rfl, rfl⟩ <;> (try simp only [kM, kN, kO, hx])) | (refine tl_is (.tmp 34) ?_; refine qC rfl rfl (leaf1_spec _ _) ?_; rintro v ρ' L' hle ⟨rfl, rfl, rfl⟩ <;> (try simp only [kM, kN, kO])) | (refine tl_is (.tmp 41) ?_; refine qC rfl rfl (leaf1_spec _ _) ?_; rintro v ρ' L' hle ⟨rfl, rfl, rfl⟩ <;> (try simp only [kM, kN, kO])) | (refine qEf ?_; try intro _)) <;> ((try simp only [kM, kN, kO]); refine tl_nil ?_; refine rNext ?_))))
          all_goals refine rPk 6 ?_
          all_goals refine rMv 7 ?_
          all_goals (first | refine wSkip 8 ?_ | refine wSkipU 8 ?_ | refine wMv 8 ?_ | (refine tr_guard (t := 30) rfl (fun hb => ?_) (fun hb => ?_) <;> (try simp only [kk] at hb) <;> first | refine wSkip 8 ?_ | refine wSkipU 8 ?_ | refine wMv 8 ?_))
          all_goals (first | refine wSkip 9 ?_ | refine wSkipU 9 ?_ | refine wCm 9 ?_ | (refine tr_guard (t := 30) rfl (fun hb => ?_) (fun hb => ?_) <;> (try simp only [kk] at hb) <;> first | refine wSkip 9 ?_ | refine wSkipU 9 ?_ | refine wCm 9 ?_))
          all_goals (first | refine wSkip 10 ?_ | refine wSkipU 10 ?_ | refine wMv 10 ?_ | (refine tr_guard (t := 30) rfl (fun hb => ?_) (fun hb => ?_) <;> (try simp only [kk] at hb) <;> first | refine wSkip 10 ?_ | refine wSkipU 10 ?_ | refine wMv 10 ?_))
          all_goals (first | refine wSkip 11 ?_ | refine wSkipU 11 ?_ | refine wMv 11 ?_ | (refine tr_guard (t := 33) rfl (fun hb => ?_) (fun hb => ?_) <;> (try simp only [kk] at hb) <;> first | refine wSkip 11 ?_ | refine wSkipU 11 ?_ | refine wMv 11 ?_))
          all_goals (first | refine wSkip 12 ?_ | refine wSkipU 12 ?_ | refine wMv 12 ?_ | (refine tr_guard (t := 33) rfl (fun hb => ?_) (fun hb => ?_) <;> (try simp only [kk] at hb) <;> first | refine wSkip 12 ?_ | refine wSkipU 12 ?_ | refine wMv 12 ?_))
          all_goals (first | refine wSkip 13 ?_ | refine wSkipU 13 ?_ | refine wMv 13 ?_ | (refine tr_guard (t := 33) rfl (fun hb => ?_) (fun hb => ?_) <;> (try simp only [kk] at hb) <;> first | refine wSkip 13 ?_ | refine wSkipU 13 ?_ | refine wMv 13 ?_))
          all_goals (first | refine wSkip 14 ?_ | refine wSkipU 14 ?_ | refine wSb 14 ?_ | (refine tr_guard (t := 33) rfl (fun hb => ?_) (fun hb => ?_) <;> (try simp only [kk] at hb) <;> first | refine wSkip 14 ?_ | refine wSkipU 14 ?_ | refine wSb 14 ?_))
          all_goals (first | refine wSkip 15 ?_ | refine wSkipU 15 ?_ | refine wIa 15 ?_ | (refine tr_guard (t := 33) rfl (fun hb => ?_) (fun hb => ?_) <;> (try simp only [kk] at hb) <;> first | refine wSkip 15 ?_ | refine wSkipU 15 ?_ | refine wIa 15 ?_))
          all_goals (first | refine wSkip 16 ?_ | refine wSkipU 16 ?_ | refine wLd 16 ?_ | (refine tr_guard (t := 33) rfl (fun hb => ?_) (fun hb => ?_) <;> (try simp only [kk] at hb) <;> first | refine wSkip 16 ?_ | refine wSkipU 16 ?_ | refine wLd 16 ?_))
          all_goals (first | refine wSkip 18 ?_ | refine wSkipU 18 ?_ | refine wMv 18 ?_ | (refine tr_guard (t := 33) rfl (fun hb => ?_) (fun hb => ?_) <;> (try simp only [kk] at hb) <;> first | refine wSkip 18 ?_ | refine wSkipU 18 ?_ | refine wMv 18 ?_))
          all_goals (first | refine wSkip 19 ?_ | refine wSkipU 19 ?_ | refine wLd 19 ?_ | (refine tr_guard (t := 33) rfl (fun hb => ?_) (fun hb => ?_) <;> (try simp only [kk] at hb) <;> first | refine wSkip 19 ?_ | refine wSkipU 19 ?_ | refine wLd 19 ?_))
          all_goals (first | refine wSkip 17 ?_ | refine wSkipU 17 ?_ | (refine rStep (i := 17) ?_; ((try refine qWant ?_); (first | (refine tl_is (.tmp 25) ?_; refine qC rfl rfl (leaf2_spec _ _ _) ?_; rintro v ρ' L' hle ⟨rfl, rfl, rfl⟩ <;> (try simp only [kM, kN, kO, hx])) | (refine tl_is (.tmp 34) ?_; refine qC rfl rfl (leaf1_spec _ _) ?_; rintro v ρ' L' hle ⟨rfl, rfl, rfl⟩ <;> (try simp only [kM, kN, kO])) | (refine tl_is (.tmp 41) ?_; refine qC rfl rfl (leaf1_spec _ _) ?_; rintro v ρ' L' hle ⟨rfl, rfl, rfl⟩ <;> (try simp only [kM, kN, kO])) | (refine qEf ?_; try intro _)) <;> ((try simp only [kM, kN, kO]); refine tl_nil ?_; refine rNext ?_))))
          all_goals (first | refine wSkip 20 ?_ | refine wSkipU 20 ?_ | (refine rStep (i := 20) ?_; ((try refine qWant ?_); (first | (refine tl_is (.tmp 25) ?_; refine qC rfl rfl (leaf2_spec _ _ _) ?_; rintro v ρ' L' hle ⟨rfl, rfl, rfl⟩ <;> (try simp only [kM, kN, kO, hx])) | (refine tl_is (.tmp 34) ?_; refine qC rfl rfl (leaf1_spec _ _) ?_; rintro v ρ' L' hle ⟨rfl, rfl, rfl⟩ <;> (try simp only [kM, kN, kO])) | (refine tl_is (.tmp 41) ?_; refine qC rfl rfl (leaf1_spec _ _) ?_; rintro v ρ' L' hle ⟨rfl, rfl, rfl⟩ <;> (try simp only [kM, kN, kO])) | (refine qEf ?_; try intro _)) <;> ((try simp only [kM, kN, kO]); refine tl_nil ?_; refine rNext ?_))))
          all_goals (first | refine wSkip 21 ?_ | refine wSkipU 21 ?_ | (refine rStep (i := 21) ?_; ((try refine qWant ?_); (first | (refine tl_is (.func 280) ?_; refine qC rfl rfl (compare_spec _ _ _ _ _) ?_; rintro v ρ' L' hle ⟨rfl, rfl, rfl⟩ <;> (try simp only [kM, kN, kO])) | (refine qEf ?_; try intro _)) <;> ((try simp only [kM, kN, kO]); refine tl_nil ?_; refine rNext ?_))))
          all_goals refine rFull ?_
          all_goals (first | refine wSkip 22 ?_ | refine wSkipU 22 ?_ | refine wCm 22 ?_ | (refine tr_guard (t := 33) rfl (fun hb => ?_) (fun hb => ?_) <;> (try simp only [kk] at hb) <;> first | refine wSkip 22 ?_ | refine wSkipU 22 ?_ | refine wCm 22 ?_))
          all_goals (first | refine wSkip 23 ?_ | refine wSkipU 23 ?_ | refine wPk 23 ?_ | (refine tr_guard (t := 30) rfl (fun hb => ?_) (fun hb => ?_) <;> (try simp only [kk] at hb) <;> first | refine wSkip 23 ?_ | refine wSkipU 23 ?_ | refine wPk 23 ?_))
          all_goals refine rPk 24 ?_
          all_goals refine rAs 25 ?_
          all_goals refine rDone ?_
          repeat' (first | (refine i_op ?_; first | (refine i_qq ?_; refine qQ ?_) | refine qEf ?_) | refine tl_nil ?_ | (refine i_tc ?_; refine qTc ?_) | (refine i_te ?_; refine qTe ?_) | intro _)
          rw [← hs']
          refine te_round_g (k + 1) (hlt) ev_le ev_le rfl tk inferInstance (by first | omega | (dsimp only; omega))
        · have hd : decide (k = 0) = false := decide_eq_false hk0
          obtain ⟨b2, off2, C2, T2, fr2, f1, hb2, hfit2, hc2⟩ := h.get (show k - 1 < l.length by omega)
          cases f1
          rw [hb] at hb2
          cases hb2
          have ek : ((k : Int) - 1).toNat = k - 1 := by omega
          rw [← ek] at hfit2
          have hc3 : List.take 4 (List.drop (off + ((k : Int) - 1).toNat * 4) C) = rowV (l[k - 1]'(by omega)) := by rw [ek]; exact hc2
          clear hc2
          rw [hd, Bool.false_or] at hs
          generalize l[k] = x at *
          generalize l[k - 1]'(by omega) = y at *
          unfold ltR at hs
          by_cases hcm : cmpK y.t y.id x.t x.id < 0
          · rw [decide_eq_true hcm] at hs
            repeat' (first | (refine i_op ?_; first | (refine i_qq ?_; refine qQ ?_) | refine qEf ?_) | refine tl_nil ?_ | (refine i_tc ?_; refine qTc ?_) | (refine i_te ?_; refine qTe ?_) | intro _)
            refine tc_any (Stays _ _ _) stays_refl ?_
            all_goals refine rMv 0 ?_
            all_goals refine rMv 1 ?_
            all_goals (first | refine wSkip 2 ?_ | refine wSkipU 2 ?_ | refine wMv 2 ?_ | (refine tr_guard (t := 24) rfl (fun hb => ?_) (fun hb => ?_) <;> (try simp only [kk] at hb) <;> first | refine wSkip 2 ?_ | refine wSkipU 2 ?_ | refine wMv 2 ?_))
            all_goals (first | refine wSkip 3 ?_ | refine wSkipU 3 ?_ | refine wMv 3 ?_ | (refine tr_guard (t := 24) rfl (fun hb => ?_) (fun hb => ?_) <;> (try simp only [kk] at hb) <;> first | refine wSkip 3 ?_ | refine wSkipU 3 ?_ | refine wMv 3 ?_))
            all_goals (first | refine wSkip 4 ?_ | refine wSkipU 4 ?_ | refine wLd 4 ?_ | (refine tr_guard (t := 24) rfl (fun hb => ?_) (fun hb => ?_) <;> (try simp only [kk] at hb) <;> first | refine wSkip 4 ?_ | refine wSkipU 4 ?_ | refine wLd 4 ?_))
            all_goals (first | refine wSkip 5 ?_ | refine wSkipU 5 ?_ | (refine rStep (i := 5) ?_; ((try refine qWant ?_); (first | (refine tl_is (.tmp 25) ?_; refine qC rfl rfl (leaf2_spec _ _ _) ?_; rintro v ρ' L' hle ⟨rfl, rfl, rfl⟩ <;> (try simp only [kM, kN, kO, hx])) | (refine tl_is (.tmp 34) ?_; refine qC rfl rfl (leaf1_spec _ _) ?_; rintro v ρ' L' hle ⟨rfl, rfl, rfl⟩ <;> (try simp only [kM, kN, kO])) | (refine tl_is (.tmp 41) ?_; refine qC rfl rfl (leaf1_spec _ _) ?_; rintro v ρ' L' hle ⟨rfl, rfl, rfl⟩ <;> (try simp only [kM, kN, kO])) | (refine qEf ?_; try intro _)) <;> ((try simp only [kM, kN, kO]); refine tl_nil ?_; refine rNext ?_))))
            all_goals refine rPk 6 ?_
            all_goals refine rMv 7 ?_
            all_goals (first | refine wSkip 8 ?_ | refine wSkipU 8 ?_ | refine wMv 8 ?_ | (refine tr_guard (t := 30) rfl (fun hb => ?_) (fun hb => ?_) <;> (try simp only [kk] at hb) <;> first | refine wSkip 8 ?_ | refine wSkipU 8 ?_ | refine wMv 8 ?_))
            all_goals (first | refine wSkip 9 ?_ | refine wSkipU 9 ?_ | refine wCm 9 ?_ | (refine tr_guard (t := 30) rfl (fun hb => ?_) (fun hb => ?_) <;> (try simp only [kk] at hb) <;> first | refine wSkip 9 ?_ | refine wSkipU 9 ?_ | refine wCm 9 ?_))
            all_goals (first | refine wSkip 10 ?_ | refine wSkipU 10 ?_ | refine wMv 10 ?_ | (refine tr_guard (t := 30) rfl (fun hb => ?_) (fun hb => ?_) <;> (try simp only [kk] at hb) <;> first | refine wSkip 10 ?_ | refine wSkipU 10 ?_ | refine wMv 10 ?_))
            all_goals (first | refine wSkip 11 ?_ | refine wSkipU 11 ?_ | refine wMv 11 ?_ | (refine tr_guard (t := 33) rfl (fun hb => ?_) (fun hb => ?_) <;> (try simp only [kk] at hb) <;> first | refine wSkip 11 ?_ | refine wSkipU 11 ?_ | refine wMv 11 ?_))
            all_goals (first | refine wSkip 12 ?_ | refine wSkipU 12 ?_ | refine wMv 12 ?_ | (refine tr_guard (t := 33) rfl (fun hb => ?_) (fun hb => ?_) <;> (try simp only [kk] at hb) <;> first | refine wSkip 12 ?_ | refine wSkipU 12 ?_ | refine wMv 12 ?_))
            all_goals (first | refine wSkip 13 ?_ | refine wSkipU 13 ?_ | refine wMv 13 ?_ | (refine tr_guard (t := 33) rfl (fun hb => ?_) (fun hb => ?_) <;> (try simp only [kk] at hb) <;> first | refine wSkip 13 ?_ | refine wSkipU 13 ?_ | refine wMv 13 ?_))
            all_goals (first | refine wSkip 14 ?_ | refine wSkipU 14 ?_ | refine wSb 14 ?_ | (refine tr_guard (t := 33) rfl (fun hb => ?_) (fun hb => ?_) <;> (try simp only [kk] at hb) <;> first | refine wSkip 14 ?_ | refine wSkipU 14 ?_ | refine wSb 14 ?_))
            all_goals (first | refine wSkip 15 ?_ | refine wSkipU 15 ?_ | refine wIa 15 ?_ | (refine tr_guard (t := 33) rfl (fun hb => ?_) (fun hb => ?_) <;> (try simp only [kk] at hb) <;> first | refine wSkip 15 ?_ | refine wSkipU 15 ?_ | refine wIa 15 ?_))
            all_goals (first | refine wSkip 16 ?_ | refine wSkipU 16 ?_ | refine wLd 16 ?_ | (refine tr_guard (t := 33) rfl (fun hb => ?_) (fun hb => ?_) <;> (try simp only [kk] at hb) <;> first | refine wSkip 16 ?_ | refine wSkipU 16 ?_ | refine wLd 16 ?_))
            all_goals (first | refine wSkip 18 ?_ | refine wSkipU 18 ?_ | refine wMv 18 ?_ | (refine tr_guard (t := 33) rfl (fun hb => ?_) (fun hb => ?_) <;> (try simp only [kk] at hb) <;> first | refine wSkip 18 ?_ | refine wSkipU 18 ?_ | refine wMv 18 ?_))
            all_goals (first | refine wSkip 19 ?_ | refine wSkipU 19 ?_ | refine wLd 19 ?_ | (refine tr_guard (t := 33) rfl (fun hb => ?_) (fun hb => ?_) <;> (try simp only [kk] at hb) <;> first | refine wSkip 19 ?_ | refine wSkipU 19 ?_ | refine wLd 19 ?_))
            all_goals (first | refine wSkip 17 ?_ | refine wSkipU 17 ?_ | (refine rStep (i := 17) ?_; ((try refine qWant ?_); (first | (refine tl_is (.tmp 25) ?_; refine qC rfl rfl (leaf2_spec _ _ _) ?_; rintro v ρ' L' hle ⟨rfl, rfl, rfl⟩ <;> (try simp only [kM, kN, kO, hx])) | (refine tl_is (.tmp 34) ?_; refine qC rfl rfl (leaf1_spec _ _) ?_; rintro v ρ' L' hle ⟨rfl, rfl, rfl⟩ <;> (try simp only [kM, kN, kO])) | (refine tl_is (.tmp 41) ?_; refine qC rfl rfl (leaf1_spec _ _) ?_; rintro v ρ' L' hle ⟨rfl, rfl, rfl⟩ <;> (try simp only [kM, kN, kO])) | (refine qEf ?_; try intro _)) <;> ((try simp only [kM, kN, kO]); refine tl_nil ?_; refine rNext ?_))))
            all_goals (first | refine wSkip 20 ?_ | refine wSkipU 20 ?_ | (refine rStep (i := 20) ?_; ((try refine qWant ?_); (first | (refine tl_is (.tmp 25) ?_; refine qC rfl rfl (leaf2_spec _ _ _) ?_; rintro v ρ' L' hle ⟨rfl, rfl, rfl⟩ <;> (try simp only [kM, kN, kO, hx])) | (refine tl_is (.tmp 34) ?_; refine qC rfl rfl (leaf1_spec _ _) ?_; rintro v ρ' L' hle ⟨rfl, rfl, rfl⟩ <;> (try simp only [kM, kN, kO])) | (refine tl_is (.tmp 41) ?_; refine qC rfl rfl (leaf1_spec _ _) ?_; rintro v ρ' L' hle ⟨rfl, rfl, rfl⟩ <;> (try simp only [kM, kN, kO])) | (refine qEf ?_; try intro _)) <;> ((try simp only [kM, kN, kO]); refine tl_nil ?_; refine rNext ?_))))
            all_goals (first | refine wSkip 21 ?_ | refine wSkipU 21 ?_ | (refine rStep (i := 21) ?_; ((try refine qWant ?_); (first | (refine tl_is (.func 280) ?_; refine qC rfl rfl (compare_spec _ _ _ _ _) ?_; rintro v ρ' L' hle ⟨rfl, rfl, rfl⟩ <;> (try simp only [kM, kN, kO])) | (refine qEf ?_; try intro _)) <;> ((try simp only [kM, kN, kO]); refine tl_nil ?_; refine rNext ?_))))
            all_goals refine rFull ?_
            all_goals (first | refine wSkip 22 ?_ | refine wSkipU 22 ?_ | refine wCm 22 ?_ | (refine tr_guard (t := 33) rfl (fun hb => ?_) (fun hb => ?_) <;> (try simp only [kk] at hb) <;> first | refine wSkip 22 ?_ | refine wSkipU 22 ?_ | refine wCm 22 ?_))
            all_goals (first | refine wSkip 23 ?_ | refine wSkipU 23 ?_ | refine wPk 23 ?_ | (refine tr_guard (t := 30) rfl (fun hb => ?_) (fun hb => ?_) <;> (try simp only [kk] at hb) <;> first | refine wSkip 23 ?_ | refine wSkipU 23 ?_ | refine wPk 23 ?_))
            all_goals refine rPk 24 ?_
            all_goals refine rAs 25 ?_
            all_goals refine rDone ?_
            all_goals (repeat' (first | (refine i_op ?_; first | (refine i_qq ?_; refine qQ ?_) | refine qEf ?_) | refine tl_nil ?_ | (refine i_tc ?_; refine qTc ?_) | (refine i_te ?_; refine qTe ?_) | intro _))
            all_goals rw [← hs]
            all_goals refine te_round_g (k + 1) (hlt) ev_le ev_le rfl tk inferInstance (by first | omega | (dsimp only; omega))
          · rw [decide_eq_false hcm] at hs
            rw [hfin hs]
            repeat' (first | (refine i_op ?_; first | (refine i_qq ?_; refine qQ ?_) | refine qEf ?_) | refine tl_nil ?_ | (refine i_tc ?_; refine qTc ?_) | (refine i_te ?_; refine qTe ?_) | intro _)
            refine tc_any (Stays _ _ _) stays_refl ?_
            all_goals refine rMv 0 ?_
            all_goals refine rMv 1 ?_
            all_goals (first | refine wSkip 2 ?_ | refine wSkipU 2 ?_ | refine wMv 2 ?_ | (refine tr_guard (t := 24) rfl (fun hb => ?_) (fun hb => ?_) <;> (try simp only [kk] at hb) <;> first | refine wSkip 2 ?_ | refine wSkipU 2 ?_ | refine wMv 2 ?_))
            all_goals (first | refine wSkip 3 ?_ | refine wSkipU 3 ?_ | refine wMv 3 ?_ | (refine tr_guard (t := 24) rfl (fun hb => ?_) (fun hb => ?_) <;> (try simp only [kk] at hb) <;> first | refine wSkip 3 ?_ | refine wSkipU 3 ?_ | refine wMv 3 ?_))
            all_goals (first | refine wSkip 4 ?_ | refine wSkipU 4 ?_ | refine wLd 4 ?_ | (refine tr_guard (t := 24) rfl (fun hb => ?_) (fun hb => ?_) <;> (try simp only [kk] at hb) <;> first | refine wSkip 4 ?_ | refine wSkipU 4 ?_ | refine wLd 4 ?_))
            all_goals (first | refine wSkip 5 ?_ | refine wSkipU 5 ?_ | (refine rStep (i := 5) ?_; ((try refine qWant ?_); (first | (refine tl_is (.tmp 25) ?_; refine qC rfl rfl (leaf2_spec _ _ _) ?_; rintro v ρ' L' hle ⟨rfl, rfl, rfl⟩ <;> (try simp only [kM, kN, kO, hx])) | (refine tl_is (.tmp 34) ?_; refine qC rfl rfl (leaf1_spec _ _) ?_; rintro v ρ' L' hle ⟨rfl, rfl, rfl⟩ <;> (try simp only [kM, kN, kO])) | (refine tl_is (.tmp 41) ?_; refine qC rfl rfl (leaf1_spec _ _) ?_; rintro v ρ' L' hle ⟨rfl, rfl, rfl⟩ <;> (try simp only [kM, kN, kO])) | (refine qEf ?_; try intro _)) <;> ((try simp only [kM, kN, kO]); refine tl_nil ?_; refine rNext ?_))))
            all_goals refine rPk 6 ?_
            all_goals refine rMv 7 ?_
            all_goals (first | refine wSkip 8 ?_ | refine wSkipU 8 ?_ | refine wMv 8 ?_ | (refine tr_guard (t := 30) rfl (fun hb => ?_) (fun hb => ?_) <;> (try simp only [kk] at hb) <;> first | refine wSkip 8 ?_ | refine wSkipU 8 ?_ | refine wMv 8 ?_))
            all_goals (first | refine wSkip 9 ?_ | refine wSkipU 9 ?_ | refine wCm 9 ?_ | (refine tr_guard (t := 30) rfl (fun hb => ?_) (fun hb => ?_) <;> (try simp only [kk] at hb) <;> first | refine wSkip 9 ?_ | refine wSkipU 9 ?_ | refine wCm 9 ?_))
            all_goals (first | refine wSkip 10 ?_ | refine wSkipU 10 ?_ | refine wMv 10 ?_ | (refine tr_guard (t := 30) rfl (fun hb => ?_) (fun hb => ?_) <;> (try simp only [kk] at hb) <;> first | refine wSkip 10 ?_ | refine wSkipU 10 ?_ | refine wMv 10 ?_))
            all_goals (first | refine wSkip 11 ?_ | refine wSkipU 11 ?_ | refine wMv 11 ?_ | (refine tr_guard (t := 33) rfl (fun hb => ?_) (fun hb => ?_) <;> (try simp only [kk] at hb) <;> first | refine wSkip 11 ?_ | refine wSkipU 11 ?_ | refine wMv 11 ?_))
            all_goals (first | refine wSkip 12 ?_ | refine wSkipU 12 ?_ | refine wMv 12 ?_ | (refine tr_guard (t := 33) rfl (fun hb => ?_) (fun hb => ?_) <;> (try simp only [kk] at hb) <;> first | refine wSkip 12 ?_ | refine wSkipU 12 ?_ | refine wMv 12 ?_))
            all_goals (first | refine wSkip 13 ?_ | refine wSkipU 13 ?_ | refine wMv 13 ?_ | (refine tr_guard (t := 33) rfl (fun hb => ?_) (fun hb => ?_) <;> (try simp only [kk] at hb) <;> first | refine wSkip 13 ?_ | refine wSkipU 13 ?_ | refine wMv 13 ?_))
            all_goals (first | refine wSkip 14 ?_ | refine wSkipU 14 ?_ | refine wSb 14 ?_ | (refine tr_guard (t := 33) rfl (fun hb => ?_) (fun hb => ?_) <;> (try simp only [kk] at hb) <;> first | refine wSkip 14 ?_ | refine wSkipU 14 ?_ | refine wSb 14 ?_))
            all_goals (first | refine wSkip 15 ?_ | refine wSkipU 15 ?_ | refine wIa 15 ?_ | (refine tr_guard (t := 33) rfl (fun hb => ?_) (fun hb => ?_) <;> (try simp only [kk] at hb) <;> first | refine wSkip 15 ?_ | refine wSkipU 15 ?_ | refine wIa 15 ?_))
            all_goals (first | refine wSkip 16 ?_ | refine wSkipU 16 ?_ | refine wLd 16 ?_ | (refine tr_guard (t := 33) rfl (fun hb => ?_) (fun hb => ?_) <;> (try simp only [kk] at hb) <;> first | refine wSkip 16 ?_ | refine wSkipU 16 ?_ | refine wLd 16 ?_))
            all_goals (first | refine wSkip 18 ?_ | refine wSkipU 18 ?_ | refine wMv 18 ?_ | (refine tr_guard (t := 33) rfl (fun hb => ?_) (fun hb => ?_) <;> (try simp only [kk] at hb) <;> first | refine wSkip 18 ?_ | refine wSkipU 18 ?_ | refine wMv 18 ?_))
            all_goals (first | refine wSkip 19 ?_ | refine wSkipU 19 ?_ | refine wLd 19 ?_ | (refine tr_guard (t := 33) rfl (fun hb => ?_) (fun hb => ?_) <;> (try simp only [kk] at hb) <;> first | refine wSkip 19 ?_ | refine wSkipU 19 ?_ | refine wLd 19 ?_))
            all_goals (first | refine wSkip 17 ?_ | refine wSkipU 17 ?_ | (refine rStep (i := 17) ?_; ((try refine qWant ?_); (first | (refine tl_is (.tmp 25) ?_; refine qC rfl rfl (leaf2_spec _ _ _) ?_; rintro v ρ' L' hle ⟨rfl, rfl, rfl⟩ <;> (try simp only [kM, kN, kO, hx])) | (refine tl_is (.tmp 34) ?_; refine qC rfl rfl (leaf1_spec _ _) ?_; rintro v ρ' L' hle ⟨rfl, rfl, rfl⟩ <;> (try simp only [kM, kN, kO])) | (refine tl_is (.tmp 41) ?_; refine qC rfl rfl (leaf1_spec _ _) ?_; rintro v ρ' L' hle ⟨rfl, rfl, rfl⟩ <;> (try simp only [kM, kN, kO])) | (refine qEf ?_; try intro _)) <;> ((try simp only [kM, kN, kO]); refine tl_nil ?_; refine rNext ?_))))
            all_goals (first | refine wSkip 20 ?_ | refine wSkipU 20 ?_ | (refine rStep (i := 20) ?_; ((try refine qWant ?_); (first | (refine tl_is (.tmp 25) ?_; refine qC rfl rfl (leaf2_spec _ _ _) ?_; rintro v ρ' L' hle ⟨rfl, rfl, rfl⟩ <;> (try simp only [kM, kN, kO, hx])) | (refine tl_is (.tmp 34) ?_; refine qC rfl rfl (leaf1_spec _ _) ?_; rintro v ρ' L' hle ⟨rfl, rfl, rfl⟩ <;> (try simp only [kM, kN, kO])) | (refine tl_is (.tmp 41) ?_; refine qC rfl rfl (leaf1_spec _ _) ?_; rintro v ρ' L' hle ⟨rfl, rfl, rfl⟩ <;> (try simp only [kM, kN, kO])) | (refine qEf ?_; try intro _)) <;> ((try simp only [kM, kN, kO]); refine tl_nil ?_; refine rNext ?_))))
            all_goals (first | refine wSkip 21 ?_ | refine wSkipU 21 ?_ | (refine rStep (i := 21) ?_; ((try refine qWant ?_); (first | (refine tl_is (.func 280) ?_; refine qC rfl rfl (compare_spec _ _ _ _ _) ?_; rintro v ρ' L' hle ⟨rfl, rfl, rfl⟩ <;> (try simp only [kM, kN, kO])) | (refine qEf ?_; try intro _)) <;> ((try simp only [kM, kN, kO]); refine tl_nil ?_; refine rNext ?_))))
            all_goals refine rFull ?_
            all_goals (first | refine wSkip 22 ?_ | refine wSkipU 22 ?_ | refine wCm 22 ?_ | (refine tr_guard (t := 33) rfl (fun hb => ?_) (fun hb => ?_) <;> (try simp only [kk] at hb) <;> first | refine wSkip 22 ?_ | refine wSkipU 22 ?_ | refine wCm 22 ?_))
            all_goals (first | refine wSkip 23 ?_ | refine wSkipU 23 ?_ | refine wPk 23 ?_ | (refine tr_guard (t := 30) rfl (fun hb => ?_) (fun hb => ?_) <;> (try simp only [kk] at hb) <;> first | refine wSkip 23 ?_ | refine wSkipU 23 ?_ | refine wPk 23 ?_))
            all_goals refine rPk 24 ?_
            all_goals refine rAs 25 ?_
            all_goals refine rDone ?_
            all_goals (repeat' (first | (refine i_op ?_; first | (refine i_qq ?_; refine qQ ?_) | refine qEf ?_) | refine tl_nil ?_ | (refine i_tc ?_; refine qTc ?_) | (refine i_te ?_; refine qTe ?_) | intro _))
            all_goals exact qE ⟨rfl, rfl, rfl⟩
  · have hk2 : k = n := by omega
    subst hk2
    repeat' (first | (refine i_op ?_; first | (refine i_qq ?_; refine qQ ?_) | refine qEf ?_) | refine tl_nil ?_ | (refine i_tc ?_; refine qTc ?_) | (refine i_te ?_; refine qTe ?_) | intro _)
    exact qE ⟨rfl, rfl, rfl⟩
end Go.Proofs.E

