/- Disks of layer 2 and rings of layer 4 as data, and what their functions come to. Part 3 of 5. -/
import Derived.Test.YtncenainkaofmaaD2
namespace Go.Proofs.E
open Go
set_option linter.unusedVariables false
set_option linter.unusedSimpArgs false
set_option linter.unusedSectionVars false
set_option maxRecDepth 4000
set_option maxHeartbeats 1000000
attribute [local irreducible] Yl TL TC TE Spec YSpec R1 Hp.le EnvLe TS TR YS Stays
/-! ## octet: numbers are laid -/
def z8 (n : Nat) : List UInt8 := List.replicate n 0
theorem stc_mid (A B vs ws : List Value) (h : ws.length = vs.length) : stc (A ++ (vs ++ B)) A.length ws = A ++ (ws ++ B) := by
  unfold stc
  rw [List.take_left, h, ← List.drop_drop, List.drop_left, List.drop_left, List.append_assoc]
theorem u8_wrap (y : Nat) : Value.int .u8 (IntKind.u8.wrap (y : Int)) = u8c (UInt8.ofNat y) := by
  simp only [u8c, UInt8.toNat_ofNat', IntKind.wrap, IntKind.bits, IntKind.signed, Bool.false_and, Bool.false_eq_true, if_false]
  congr 1
theorem made_z8 (m : Nat) : madeCells (Value.int .u8 0).cells m = ⟨(z8 m).map u8c⟩ := by
  have hz : (Value.int IntKind.u8 0).cells = ⟨[u8c 0]⟩ := rfl
  rw [hz]
  apply Array.ext'
  apply List.ext_getElem?
  intro i
  by_cases hi : i < m
  · simp [madeCells, z8, hi, Nat.mod_one]
  · rw [List.getElem?_eq_none (by simp [madeCells]; omega), List.getElem?_eq_none (by simp [z8]; omega)]
theorem own_chunk (b n c : Nat) {xs : List Value} {T : TypeId} : [(b, Obj.cells ⟨xs⟩ T (0, 0))] = ownC (.slice (some ⟨b, 0, none⟩) n c) xs [] T := by simp [ownC]
theorem stand_spec (ρ : Hp) (a : Option Addr) (n c : Nat) (l : List UInt8) (h : SIn ρ u8c a n l) (x p : Nat) (hx : x < 18446744073709551616) (hp : p ≤ 8) (hp1 : 1 ≤ p) (hn : n ≤ 1000000) :
    Spec Try.prog 136 [.slice a n c, .int .u64 x, .int .i64 p] ρ [] (fun v ρ' L' => ρ' = ρ ∧ ∃ sp, OwnS v (n + p) ((l ++ be p x).map u8c) sp 1 ∧ L' = [ownC v ((l ++ be p x).map u8c) sp 5]) := by
  have hl := h.len
  refine spec_enter Try.func136 rfl rfl rfl fun u R => ?_
  simp only [argsE, List.cons_append, List.nil_append]
  repeat' (first | (refine tl_makeSlice rfl rfl (by omega) (by omega) (by omega) (by omega) rfl (fun hbn => ?_)) | (refine i_op ?_; first | (refine i_qq ?_; refine qQ ?_) | refine qEf ?_) | refine tl_nil ?_ | (refine i_tc ?_; refine qTc ?_) | (refine i_te ?_; refine qTe ?_) | intro _)
  simp only [show ((n : Int) + (p : Int)).toNat = n + p by omega, Nat.mul_one, made_z8]
  have hinit : stc ((z8 (n + p)).map u8c) 0 ((l.map u8c).take (n + p)) = (l ++ (z8 (p - 0) ++ be 0 x)).map u8c := by
    rw [List.take_of_length_le (by simp; omega)]
    unfold stc
    have e : z8 (n + p) = z8 n ++ z8 p := by simp [z8, List.replicate_append_replicate]
    rw [e]
    simp [be, hl, z8]
  refine tl_copy (ys := l.map u8c) rfl rfl (SIn.srcV h) (by simpa using hl) (u8c_one l) (by simp [z8]) rfl ?_
  simp only [hinit]
  repeat' (first | (refine i_op ?_; first | (refine i_qq ?_; refine qQ ?_) | refine qEf ?_) | refine tl_nil ?_ | (refine i_tc ?_; refine qTc ?_) | (refine i_te ?_; refine qTe ?_) | intro _)
  refine tc_loop_g [(6, _), (7, _), (17, _)] (fun (ζ : (Nat) × (Nat)) => [(18, .int .i64 ζ.1), (1, .int .u64 (ζ.2 : Nat))]) (fun (ζ : (Nat) × (Nat)) => ρ) (fun (ζ : (Nat) × (Nat)) => [[(hbn, .cells ⟨(l ++ (z8 (p - ζ.1) ++ be ζ.1 x)).map u8c⟩ 5 (0, 0))]]) (fun (ζ : (Nat) × (Nat)) => ζ.1 ≤ p ∧ ζ.2 = x / 256 ^ ζ.1) (fun (ζ : (Nat) × (Nat)) => p - ζ.1) ((0, x)) (⟨Nat.zero_le _, by simp⟩) ev_le ev_le rfl tk ?_
  rintro ⟨k, y⟩ hI
  try simp only [List.cons_append, List.nil_append, List.append_assoc, List.append_eq] at hI ⊢
  try dsimp only at hI ⊢
  obtain ⟨hk, hy⟩ := hI
  by_cases hlt : k < p
  · have hlen : ((l ++ (z8 (p - k) ++ be k x)).map u8c).length = n + p := by simp [z8, be_length, hl]; omega
    have hst : stc ((l ++ (z8 (p - k) ++ be k x)).map u8c) (0 + ((n : Int) + (p : Int) - 1 - k).toNat * 1) [u8c (UInt8.ofNat y)] = (l ++ (z8 (p - (k + 1)) ++ be (k + 1) x)).map u8c := by
      have e1 : z8 (p - k) = z8 (p - (k + 1)) ++ [0] := by
        rw [show p - k = (p - (k + 1)) + 1 by omega]; simp [z8, List.replicate_succ']
      have e2 : 0 + ((n : Int) + (p : Int) - 1 - k).toNat * 1 = ((l ++ z8 (p - (k + 1))).map u8c).length := by simp [z8, hl]; omega
      have e3 : (l ++ (z8 (p - k) ++ be k x)).map u8c = (l ++ z8 (p - (k + 1))).map u8c ++ ([u8c 0] ++ (be k x).map u8c) := by rw [e1]; simp
      rw [e2, e3, stc_mid _ _ [u8c 0] [u8c (UInt8.ofNat y)] rfl, be, ← hy]
      simp
    have hyy : y / 256 = x / 256 ^ (k + 1) := by rw [hy, Nat.div_div_eq_div_mul, Nat.pow_succ]
    repeat' (first | (refine i_op ?_; first | (refine i_qq ?_; refine qQ ?_) | refine qEf ?_) | refine tl_nil ?_ | (refine i_tc ?_; refine qTc ?_) | (refine i_te ?_; refine qTe ?_) | intro _)
    have e8 : (y : Int) / 2 ^ 8 = ((x / 256 ^ (k + 1) : Nat) : Int) := by
      rw [← hyy]
      have : (2 : Int) ^ 8 = 256 := by decide
      omega
    rw [e8, u8_wrap, Int.natCast_add, hst]
    refine te_round_g (k + 1, x / 256 ^ (k + 1)) (⟨hlt, rfl⟩) ev_le ev_le rfl tk inferInstance (by first | omega | (dsimp only; omega))
  · have hk2 : k = p := by omega
    subst hk2
    simp only [Nat.sub_self, z8, List.replicate_zero, List.nil_append]
    repeat' (first | (refine i_op ?_; first | (refine i_qq ?_; refine qQ ?_) | refine qEf ?_) | refine tl_nil ?_ | (refine i_tc ?_; refine qTc ?_) | (refine i_te ?_; refine qTe ?_) | intro _)
    rw [own_chunk hbn (n + k) (n + k)]
    exact qE ⟨rfl, [], ⟨.inr ⟨hbn, n + k, rfl, by simp [be_length, hl], by simp [be_length, hl], Nat.le_refl _⟩⟩, rfl⟩
theorem put16_spec (ρ : Hp) (a : Option Addr) (n c : Nat) (l : List UInt8) (h : SIn ρ u8c a n l) (x : Nat) (hx : x < 65536) (hn : n ≤ 1000000) :
    Spec Try.prog 144 [.slice a n c, .int .u16 x] ρ [] (fun v ρ' L' => ρ' = ρ ∧ ∃ sp, OwnS v (n + 2) ((l ++ be 2 x).map u8c) sp 1 ∧ L' = [ownC v ((l ++ be 2 x).map u8c) sp 5]) := by
  have hw : IntKind.u64.wrap (x : Int) = x := wrap_id (by simp only [lo, hi]; omega)
  have hs := stand_spec ρ a n c l h x 2 (by omega) (by omega) (by omega) hn
  refine spec_enter Try.func144 rfl rfl rfl fun u R => ?_
  simp only [argsE, List.cons_append, List.nil_append]
  repeat' (first | (refine iCv ?_; refine tl_y (y_conv rfl) rfl rfl ?_; rw [hw]) | (refine tl_is (.func 136) ?_; refine qC rfl rfl (hs) ?_; rintro v ρ' L' hle ⟨rfl, sp, hown, rfl⟩ <;> (try simp only [List.cons_append, List.nil_append, List.append_eq])) | (refine i_op ?_; first | (refine i_qq ?_; refine qQ ?_) | refine qEf ?_) | refine tl_nil ?_ | (refine i_tc ?_; refine qTc ?_) | (refine i_te ?_; refine qTe ?_) | intro _)
  exact qE ⟨rfl, sp, hown, rfl⟩
theorem put64_spec (ρ : Hp) (a : Option Addr) (n c : Nat) (l : List UInt8) (h : SIn ρ u8c a n l) (x : Nat) (hx : x < 18446744073709551616) (hn : n ≤ 1000000) :
    Spec Try.prog 104 [.slice a n c, .int .u64 x] ρ [] (fun v ρ' L' => ρ' = ρ ∧ ∃ sp, OwnS v (n + 8) ((l ++ be 8 x).map u8c) sp 1 ∧ L' = [ownC v ((l ++ be 8 x).map u8c) sp 5]) := by
  have hs := stand_spec ρ a n c l h x 8 (by omega) (by omega) (by omega) hn
  refine spec_enter Try.func104 rfl rfl rfl fun u R => ?_
  simp only [argsE, List.cons_append, List.nil_append]
  repeat' (first | (refine tl_is (.func 136) ?_; refine qC rfl rfl (hs) ?_; rintro v ρ' L' hle ⟨rfl, sp, hown, rfl⟩ <;> (try simp only [List.cons_append, List.nil_append, List.append_eq])) | (refine i_op ?_; first | (refine i_qq ?_; refine qQ ?_) | refine qEf ?_) | refine tl_nil ?_ | (refine i_tc ?_; refine qTc ?_) | (refine i_te ?_; refine qTe ?_) | intro _)
  exact qE ⟨rfl, sp, hown, rfl⟩
end Go.Proofs.E

namespace Go.Proofs.E
open Go
set_option linter.unusedVariables false
set_option linter.unusedSimpArgs false
set_option linter.unusedSectionVars false
set_option maxRecDepth 4000
set_option maxHeartbeats 1000000
attribute [local irreducible] Yl TL TC TE Spec YSpec R1 Hp.le EnvLe TS TR YS Stays
/-! ## octet: the reader -/
theorem OwnS.zero (b sz : Nat) : OwnS (.slice (some ⟨b, 0, none⟩) 0 0) 0 [] [] sz := ⟨.inr ⟨b, 0, rfl, by simp, by simp, Nat.le_refl _⟩⟩
abbrev rdC (br : Nat) (a : Option Addr) (n c : Nat) (st : Int) : List (Nat × Obj) := [(br, .cells ⟨[.slice a n c, .int .i64 st]⟩ 208 (0, 0))]
theorem bclone_spec (ρ : Hp) (a : Option Addr) (n c : Nat) (l : List UInt8) (h : SIn ρ u8c a n l) (hn : n ≤ 1000000) :
    Spec Try.prog 149 [.slice a n c] ρ [] (fun v ρ' L' => ρ.le ρ' ∧ ∃ a' c', v = .slice a' n c' ∧ n ≤ c' ∧ SIn ρ' u8c a' n l ∧ L' = []) := by
  refine spec_enter Try.func149 rfl rfl rfl fun u R => ?_
  simp only [argsE, List.cons_append, List.nil_append]
  cases a with
  | none =>
    have hn0 : n = 0 := by
      rcases h.out with h0 | ⟨b, off, C, T, fr, h1, _⟩
      · exact h0
      · cases h1
    subst hn0
    repeat' (first | (refine i_op ?_; first | (refine i_qq ?_; refine qQ ?_) | refine qEf ?_) | refine tl_nil ?_ | (refine i_tc ?_; refine qTc ?_) | (refine i_te ?_; refine qTe ?_) | intro _)
    exact qE ⟨Hp.le_refl _, none, 0, rfl, Nat.le_refl _, ⟨h.len, .inl rfl⟩, rfl⟩
  | some a =>
    repeat' (first | (refine i_op ?_; first | (refine i_qq ?_; refine qQ ?_) | refine qEf ?_) | refine tl_nil ?_ | (refine i_tc ?_; refine qTc ?_) | (refine i_te ?_; refine qTe ?_) | intro _)
    refine tl_app (n := 0) (xs := []) (sp := []) (ys := l.map u8c) (sz := 1) rfl rfl (OwnS.zero _ 1) (hR := rem_here') (SIn.srcV h) (by simpa using h.len) (u8c_one l) (by decide) rfl (by omega) (by omega) rfl (fun v' sp' hown' => ?_)
    simp only [Nat.zero_add, List.nil_append] at hown' ⊢
    repeat' (first | (refine i_op ?_; first | (refine i_qq ?_; refine qQ ?_) | refine qEf ?_) | refine tl_nil ?_ | (refine i_tc ?_; refine qTc ?_) | (refine i_te ?_; refine qTe ?_) | intro _)
    refine te_freeze _ (h := Rem.here) (fun ρ' hle hfz => ?_)
    obtain ⟨a', c', rfl, hc, hs⟩ := hown'.sIn hfz
    exact qE ⟨hle, a', c', rfl, hc, hs, rfl⟩
theorem read_spec (ρ : Hp) (a : Option Addr) (n c : Nat) (l : List UInt8) (h : SIn ρ u8c a n l) (hn : n ≤ 1000000) :
    Spec Try.prog 140 [.slice a n c] ρ [] (fun v ρ' L' => ρ.le ρ' ∧ ∃ br a' c', v = .pointer (some ⟨br, 0, none⟩) ∧ n ≤ c' ∧ SIn ρ' u8c a' n l ∧ L' = [rdC br a' n c' 0]) := by
  have hc := bclone_spec ρ a n c l h hn
  refine spec_enter Try.func140 rfl rfl rfl fun u R => ?_
  simp only [argsE, List.cons_append, List.nil_append]
  repeat' (first | (refine tl_is (.func 149) ?_; refine qC rfl rfl (hc) ?_; rintro v ρ' L' hle ⟨hle, a', c', rfl, hc', hs, rfl⟩ <;> (try simp only [List.cons_append, List.nil_append, List.append_eq])) | (refine i_op ?_; first | (refine i_qq ?_; refine qQ ?_) | refine qEf ?_) | refine tl_nil ?_ | (refine i_tc ?_; refine qTc ?_) | (refine i_te ?_; refine qTe ?_) | intro _)
  exact qE ⟨hle, _, a', c', rfl, hc', hs, rfl⟩
theorem err_spec (ρ : Hp) (br : Nat) (a : Option Addr) (n c : Nat) (st : Int) :
    Spec Try.prog 160 [.pointer (some ⟨br, 0, none⟩)] ρ [rdC br a n c st] (fun v ρ' L' => v = .int .i64 st ∧ ρ' = ρ ∧ L' = [rdC br a n c st]) := by
  refine spec_enter Try.func160 rfl rfl rfl fun u R => ?_
  simp only [argsE, List.cons_append, List.nil_append]
  repeat' (first | (refine i_op ?_; first | (refine i_qq ?_; refine qQ ?_) | refine qEf ?_) | refine tl_nil ?_ | (refine i_tc ?_; refine qTc ?_) | (refine i_te ?_; refine qTe ?_) | intro _)
  exact qE ⟨rfl, rfl, rfl⟩
theorem left_spec (ρ : Hp) (br : Nat) (a : Option Addr) (n c : Nat) (st : Int) :
    Spec Try.prog 161 [.pointer (some ⟨br, 0, none⟩)] ρ [rdC br a n c st] (fun v ρ' L' => v = .int .i64 n ∧ ρ' = ρ ∧ L' = [rdC br a n c st]) := by
  refine spec_enter Try.func161 rfl rfl rfl fun u R => ?_
  simp only [argsE, List.cons_append, List.nil_append]
  repeat' (first | (refine i_op ?_; first | (refine i_qq ?_; refine qQ ?_) | refine qEf ?_) | refine tl_nil ?_ | (refine i_tc ?_; refine qTc ?_) | (refine i_te ?_; refine qTe ?_) | intro _)
  exact qE ⟨rfl, rfl, rfl⟩
theorem gives_stuck (ρ : Hp) (br : Nat) (a : Option Addr) (n c : Nat) (st : Int) (hst : st ≠ 0) (k : Int) (f : Value) :
    Spec Try.prog 158 [.pointer (some ⟨br, 0, none⟩), .int .i64 k, f] ρ [rdC br a n c st] (fun v ρ' L' => v = .tuple ⟨[]⟩ ∧ ρ' = ρ ∧ L' = [rdC br a n c st]) := by
  refine spec_enter Try.func158 rfl rfl rfl fun u R => ?_
  simp only [argsE, List.cons_append, List.nil_append]
  repeat' (first | (refine tl_is (.func 160) ?_; refine qC rfl rfl (err_spec _ br a n c st) ?_; rintro v ρ' L' hle ⟨rfl, rfl, rfl⟩ <;> (try simp only [List.cons_append, List.nil_append, List.append_eq])) | (refine i_op ?_; first | (refine i_qq ?_; refine qQ ?_) | refine qEf ?_) | refine tl_nil ?_ | (refine i_tc ?_; refine qTc ?_) | (refine i_te ?_; refine qTe ?_) | intro _)
  exact qE ⟨rfl, rfl, rfl⟩
theorem gives_short (ρ : Hp) (br : Nat) (a : Option Addr) (n c : Nat) (k : Int) (hk : (n : Int) < k) (f : Value) :
    Spec Try.prog 158 [.pointer (some ⟨br, 0, none⟩), .int .i64 k, f] ρ [rdC br a n c 0] (fun v ρ' L' => v = .tuple ⟨[]⟩ ∧ ρ' = ρ ∧ L' = [rdC br a n c 7]) := by
  refine spec_enter Try.func158 rfl rfl rfl fun u R => ?_
  simp only [argsE, List.cons_append, List.nil_append]
  repeat' (first | (refine tl_is (.func 160) ?_; refine qC rfl rfl (err_spec _ br a n c 0) ?_; rintro v ρ' L' hle ⟨rfl, rfl, rfl⟩ <;> (try simp only [List.cons_append, List.nil_append, List.append_eq])) | (refine i_op ?_; first | (refine i_qq ?_; refine qQ ?_) | refine qEf ?_) | refine tl_nil ?_ | (refine i_tc ?_; refine qTc ?_) | (refine i_te ?_; refine qTe ?_) | intro _)
  exact qE ⟨rfl, rfl, rfl⟩
theorem gives_ok (ρ : Hp) (br : Nat) (a : Option Addr) (n c : Nat) (l : List UInt8) (h : SIn ρ u8c a n l) (hc : n ≤ c) (k : Nat) (hk : k ≤ n) (g : Nat) (cs : List Value) (X X' : SH) [Fun Try.prog g]
    (hS : SIn ρ u8c a k (l.take k) → Spec Try.prog g ([.slice a k c] ++ cs) ρ X (fun v ρ' L' => v = .tuple ⟨[]⟩ ∧ ρ' = ρ ∧ L' = X')) :
    Spec Try.prog 158 [.pointer (some ⟨br, 0, none⟩), .int .i64 k, .func (.func g) ⟨[]⟩ ⟨cs⟩] ρ (rdC br a n c 0 :: X)
      (fun v ρ' L' => v = .tuple ⟨[]⟩ ∧ ρ' = ρ ∧ ∃ a' c', SIn ρ u8c a' (n - k) (l.drop k) ∧ n - k ≤ c' ∧ L' = rdC br a' (n - k) c' 0 :: X') := by
  replace hS := hS (h.take hk)
  have hl := h.len
  have hsub := h.sub (lo' := k) (hi' := n) (cap := c) hk (Nat.le_refl _) hc
  rw [List.take_of_length_le (by simp; omega)] at hsub
  refine spec_enter Try.func158 rfl rfl rfl fun u R => ?_
  simp only [argsE, List.cons_append, List.nil_append] at hS ⊢
  repeat' (first | (refine tl_is (.func 160) ?_; refine qC rfl rfl (err_spec _ br a n c 0) ?_; rintro v ρ' L' hle ⟨rfl, rfl, rfl⟩ <;> (try simp only [List.cons_append, List.nil_append, List.append_eq])) | (refine tl_is (.tmp 9) ?_; refine qC rfl rfl (hS) ?_; rintro v ρ' L' hle ⟨rfl, rfl, rfl⟩ <;> (try simp only [List.cons_append, List.nil_append, List.append_eq])) | (refine i_op ?_; first | (refine i_qq ?_; refine qQ ?_) | refine qEf ?_) | refine tl_nil ?_ | (refine i_tc ?_; refine qTc ?_) | (refine i_te ?_; refine qTe ?_) | intro _)
  exact qE ⟨rfl, rfl, _, c - k, hsub, by omega, rfl⟩
end Go.Proofs.E

namespace Go.Proofs.E
open Go
set_option linter.unusedVariables false
set_option linter.unusedSimpArgs false
set_option linter.unusedSectionVars false
set_option maxRecDepth 4000
set_option maxHeartbeats 1000000
attribute [local irreducible] Yl TL TC TE Spec YSpec R1 Hp.le EnvLe TS TR YS Stays
theorem take_succ_unbe (l : List UInt8) (k : Nat) (h : k < l.length) : unbe (l.take (k + 1)) = unbe (l.take k) * 256 + l[k].toNat := by
  rw [List.take_succ_eq_append_getElem h, unbe_snoc]
theorem unbe_take_lt (l : List UInt8) (k : Nat) (h : k < l.length) (h8 : l.length ≤ 8) : unbe (l.take k) < 72057594037927936 := by
  have h1 := unbe_lt (l.take k)
  have h2 : (l.take k).length ≤ 7 := by simp; omega
  have h3 : 256 ^ (l.take k).length ≤ 256 ^ 7 := Nat.pow_le_pow_right (by decide) h2
  have h4 : 256 ^ 7 = 72057594037927936 := by decide
  omega
theorem number1_spec (ρ : Hp) (bx : Nat) (a : Option Addr) (n c : Nat) (l : List UInt8) (h : SIn ρ u8c a n l) (hn : n ≤ 8) :
    Spec Try.prog 159 [.slice a n c, .pointer (some ⟨bx, 0, none⟩)] ρ [[(bx, .cells ⟨[.int .u64 0]⟩ 29 (0, 0))]]
      (fun v ρ' L' => v = .tuple ⟨[]⟩ ∧ ρ' = ρ ∧ L' = [[(bx, .cells ⟨[.int .u64 (unbe l : Nat)]⟩ 29 (0, 0))]]) := by
  have hl := h.len
  refine spec_enter Try.func159 rfl rfl rfl fun u R => ?_
  simp only [argsE, List.cons_append, List.nil_append]
  repeat' (first | (refine i_op ?_; first | (refine i_qq ?_; refine qQ ?_) | refine qEf ?_) | refine tl_nil ?_ | (refine i_tc ?_; refine qTc ?_) | (refine i_te ?_; refine qTe ?_) | intro _)
  refine tc_loop_g [(0, _), (1, _), (5, _)] (fun (ζ : (Nat) × (Nat)) => [(6, .int .i64 ζ.1)]) (fun (ζ : (Nat) × (Nat)) => ρ) (fun (ζ : (Nat) × (Nat)) => [[(bx, .cells ⟨[.int .u64 (ζ.2 : Nat)]⟩ 29 (0, 0))]]) (fun (ζ : (Nat) × (Nat)) => ζ.1 ≤ n ∧ ζ.2 = unbe (l.take ζ.1)) (fun (ζ : (Nat) × (Nat)) => n - ζ.1) ((0, 0)) (⟨Nat.zero_le _, rfl⟩) ev_le ev_le rfl tk ?_
  rintro ⟨k, z⟩ hI
  try simp only [List.cons_append, List.nil_append, List.append_assoc, List.append_eq] at hI ⊢
  try dsimp only at hI ⊢
  obtain ⟨hk, hz⟩ := hI
  by_cases hlt : k < n
  · obtain ⟨b, off, C, T, fr, rfl, hb, hc⟩ := h.get (show k < l.length by omega)
    have hzl := unbe_take_lt l k (by omega) (by omega)
    rw [← hz] at hzl
    have hs := take_succ_unbe l k (by omega)
    have hbt : l[k].toNat < 256 := l[k].toNat_lt
    generalize l[k] = b8 at *
    simp only [u8c] at hc
    repeat' (first | (refine i_op ?_; first | (refine i_qq ?_; refine qQ ?_) | refine qEf ?_) | refine tl_nil ?_ | (refine i_tc ?_; refine qTc ?_) | (refine i_te ?_; refine qTe ?_) | intro _)
    refine tc_any (Stays _ _ ([])) (stays_of (hT := tk) (Hp.le_refl _)) ?_
    all_goals refine rMv 2 ?_
    all_goals refine rMv 3 ?_
    all_goals refine rIa 4 ?_
    all_goals refine rLd 5 ?_
    all_goals refine rCv 6 ?_
    all_goals (refine rStep (i := 0) ?_; ((try refine qWant ?_); (first | (refine i_qq ?_; refine qQ ?_) | (refine qEf ?_; try intro _)) <;> ((try simp only [List.cons_append, List.nil_append, List.append_eq]); refine tl_nil ?_; refine rNext ?_)))
    all_goals refine rMl 1 ?_
    all_goals refine rAd 7 ?_
    all_goals (refine rStep (i := 8) ?_; ((try refine qWant ?_); (first | (refine i_qq ?_; refine qQ ?_) | (refine qEf ?_; try intro _)) <;> ((try simp only [List.cons_append, List.nil_append, List.append_eq]); refine tl_nil ?_; refine rNext ?_)))
    all_goals refine rDone ?_
    have e : 256 * (z : Int) + (b8.toNat : Int) = ((z * 256 + b8.toNat : Nat) : Int) := by omega
    rw [e]
    repeat' (first | (refine i_op ?_; first | (refine i_qq ?_; refine qQ ?_) | refine qEf ?_) | refine tl_nil ?_ | (refine i_tc ?_; refine qTc ?_) | (refine i_te ?_; refine qTe ?_) | intro _)
    refine te_round_g (k + 1, z * 256 + b8.toNat) (⟨hlt, by dsimp only; rw [hs, hz]⟩) ev_le ev_le rfl tk inferInstance (by first | omega | (dsimp only; omega))
  · have hk2 : k = n := by omega
    subst hk2
    rw [List.take_of_length_le (by omega)] at hz
    subst hz
    repeat' (first | (refine i_op ?_; first | (refine i_qq ?_; refine qQ ?_) | refine qEf ?_) | refine tl_nil ?_ | (refine i_tc ?_; refine qTc ?_) | (refine i_te ?_; refine qTe ?_) | intro _)
    exact qE ⟨rfl, rfl, rfl⟩
/-- the number that stands next, of so many bytes -/
def numR (k : Nat) (l : List UInt8) (st : Int) : Nat × List UInt8 × Int := if st ≠ 0 then (0, l, st) else if l.length < k then (0, l, 7) else (unbe (l.take k), l.drop k, 0)
theorem numR_lt (k : Nat) (l : List UInt8) (st : Int) : (numR k l st).1 < 256 ^ k := by
  unfold numR
  have h0 : 0 < 256 ^ k := Nat.pow_pos (by decide)
  split
  · exact h0
  · split
    · exact h0
    · have := unbe_lt (l.take k)
      have e : (l.take k).length = k := by simp; omega
      rwa [e] at this
theorem number_spec (ρ : Hp) (br : Nat) (a : Option Addr) (n c : Nat) (l : List UInt8) (h : SIn ρ u8c a n l) (hc : n ≤ c) (st : Int) (k : Nat) (hk : k ≤ 8) :
    Spec Try.prog 150 [.pointer (some ⟨br, 0, none⟩), .int .i64 k] ρ [rdC br a n c st]
      (fun v ρ' L' => v = .int .u64 ((numR k l st).1 : Nat) ∧ ρ' = ρ ∧ ∃ a' n' c', SIn ρ u8c a' n' (numR k l st).2.1 ∧ n' ≤ c' ∧ L' = [rdC br a' n' c' (numR k l st).2.2]) := by
  have hl := h.len
  by_cases hst : st = 0
  · subst hst
    by_cases hs : n < k
    · have e : numR k l 0 = (0, l, 7) := by simp [numR, hl, hs]
      rw [e]
      refine spec_enter Try.func150 rfl rfl rfl fun u R => ?_
      simp only [argsE, List.cons_append, List.nil_append]
      repeat' (first | (refine tl_is (.func 158) ?_; refine qC rfl rfl (gives_short _ br a n c k (by omega) _) ?_; rintro v ρ' L' hle ⟨rfl, rfl, rfl⟩ <;> (try simp only [List.cons_append, List.nil_append, List.append_eq])) | (refine i_op ?_; first | (refine i_qq ?_; refine qQ ?_) | refine qEf ?_) | refine tl_nil ?_ | (refine i_tc ?_; refine qTc ?_) | (refine i_te ?_; refine qTe ?_) | intro _)
      exact qE ⟨rfl, rfl, a, n, c, h, hc, rfl⟩
    · have e : numR k l 0 = (unbe (l.take k), l.drop k, 0) := by simp [numR, hl, hs]
      rw [e]
      refine spec_enter Try.func150 rfl rfl rfl fun u R => ?_
      simp only [argsE, List.cons_append, List.nil_append]
      repeat' (first | (refine i_op ?_; first | (refine i_qq ?_; refine qQ ?_) | refine qEf ?_) | refine tl_nil ?_ | (refine i_tc ?_; refine qTc ?_) | (refine i_te ?_; refine qTe ?_) | intro _)
      rename_i bx
      have hg := gives_ok ρ br a n c l h hc k (by omega) 159 [.pointer (some ⟨bx, 0, none⟩)] [[(bx, .cells ⟨[.int .u64 0]⟩ 29 (0, 0))]] [[(bx, .cells ⟨[.int .u64 (unbe (l.take k) : Nat)]⟩ 29 (0, 0))]] (fun hs => number1_spec ρ bx a k c (l.take k) hs hk)
      repeat' (first | (refine tl_is (.func 158) ?_; refine qC rfl rfl (hg) ?_; rintro v ρ' L' hle ⟨rfl, rfl, a', c', hs', hc', rfl⟩ <;> (try simp only [List.cons_append, List.nil_append, List.append_eq])) | (refine i_op ?_; first | (refine i_qq ?_; refine qQ ?_) | refine qEf ?_) | refine tl_nil ?_ | (refine i_tc ?_; refine qTc ?_) | (refine i_te ?_; refine qTe ?_) | intro _)
      exact qE ⟨rfl, rfl, a', n - k, c', hs', hc', rfl⟩
  · have e : numR k l st = (0, l, st) := by simp [numR, hst]
    rw [e]
    refine spec_enter Try.func150 rfl rfl rfl fun u R => ?_
    simp only [argsE, List.cons_append, List.nil_append]
    repeat' (first | (refine tl_is (.func 158) ?_; refine qC rfl rfl (gives_stuck _ br a n c st hst k _) ?_; rintro v ρ' L' hle ⟨rfl, rfl, rfl⟩ <;> (try simp only [List.cons_append, List.nil_append, List.append_eq])) | (refine i_op ?_; first | (refine i_qq ?_; refine qQ ?_) | refine qEf ?_) | refine tl_nil ?_ | (refine i_tc ?_; refine qTc ?_) | (refine i_te ?_; refine qTe ?_) | intro _)
    exact qE ⟨rfl, rfl, a, n, c, h, hc, rfl⟩
theorem u8_spec (ρ : Hp) (br : Nat) (a : Option Addr) (n c : Nat) (l : List UInt8) (h : SIn ρ u8c a n l) (hc : n ≤ c) (st : Int) :
    Spec Try.prog 162 [.pointer (some ⟨br, 0, none⟩)] ρ [rdC br a n c st]
      (fun v ρ' L' => v = .int .u8 ((numR 1 l st).1 : Nat) ∧ ρ' = ρ ∧ ∃ a' n' c', SIn ρ u8c a' n' (numR 1 l st).2.1 ∧ n' ≤ c' ∧ L' = [rdC br a' n' c' (numR 1 l st).2.2]) := by
  have hb := numR_lt 1 l st
  have hn := number_spec ρ br a n c l h hc st 1 (by omega)
  generalize numR 1 l st = r at *
  refine spec_enter Try.func162 rfl rfl rfl fun u R => ?_
  simp only [argsE, List.cons_append, List.nil_append]
  repeat' (first | (refine tl_is (.func 150) ?_; refine qC rfl rfl (hn) ?_; rintro v ρ' L' hle ⟨rfl, rfl, a', n', c', hs', hc', rfl⟩ <;> (try simp only [List.cons_append, List.nil_append, List.append_eq])) | (refine i_op ?_; first | (refine i_qq ?_; refine qQ ?_) | refine qEf ?_) | refine tl_nil ?_ | (refine i_tc ?_; refine qTc ?_) | (refine i_te ?_; refine qTe ?_) | intro _)
  exact qE ⟨rfl, rfl, a', n', c', hs', hc', rfl⟩
theorem u16_spec (ρ : Hp) (br : Nat) (a : Option Addr) (n c : Nat) (l : List UInt8) (h : SIn ρ u8c a n l) (hc : n ≤ c) (st : Int) :
    Spec Try.prog 171 [.pointer (some ⟨br, 0, none⟩)] ρ [rdC br a n c st]
      (fun v ρ' L' => v = .int .u16 ((numR 2 l st).1 : Nat) ∧ ρ' = ρ ∧ ∃ a' n' c', SIn ρ u8c a' n' (numR 2 l st).2.1 ∧ n' ≤ c' ∧ L' = [rdC br a' n' c' (numR 2 l st).2.2]) := by
  have hb := numR_lt 2 l st
  have hn := number_spec ρ br a n c l h hc st 2 (by omega)
  generalize numR 2 l st = r at *
  refine spec_enter Try.func171 rfl rfl rfl fun u R => ?_
  simp only [argsE, List.cons_append, List.nil_append]
  repeat' (first | (refine tl_is (.func 150) ?_; refine qC rfl rfl (hn) ?_; rintro v ρ' L' hle ⟨rfl, rfl, a', n', c', hs', hc', rfl⟩ <;> (try simp only [List.cons_append, List.nil_append, List.append_eq])) | (refine i_op ?_; first | (refine i_qq ?_; refine qQ ?_) | refine qEf ?_) | refine tl_nil ?_ | (refine i_tc ?_; refine qTc ?_) | (refine i_te ?_; refine qTe ?_) | intro _)
  exact qE ⟨rfl, rfl, a', n', c', hs', hc', rfl⟩
theorem u64_spec (ρ : Hp) (br : Nat) (a : Option Addr) (n c : Nat) (l : List UInt8) (h : SIn ρ u8c a n l) (hc : n ≤ c) (st : Int) :
    Spec Try.prog 141 [.pointer (some ⟨br, 0, none⟩)] ρ [rdC br a n c st]
      (fun v ρ' L' => v = .int .u64 ((numR 8 l st).1 : Nat) ∧ ρ' = ρ ∧ ∃ a' n' c', SIn ρ u8c a' n' (numR 8 l st).2.1 ∧ n' ≤ c' ∧ L' = [rdC br a' n' c' (numR 8 l st).2.2]) := by
  have hn := number_spec ρ br a n c l h hc st 8 (by omega)
  refine spec_enter Try.func141 rfl rfl rfl fun u R => ?_
  simp only [argsE, List.cons_append, List.nil_append]
  repeat' (first | (refine tl_is (.func 150) ?_; refine qC rfl rfl (hn) ?_; rintro v ρ' L' hle ⟨rfl, rfl, a', n', c', hs', hc', rfl⟩ <;> (try simp only [List.cons_append, List.nil_append, List.append_eq])) | (refine i_op ?_; first | (refine i_qq ?_; refine qQ ?_) | refine qEf ?_) | refine tl_nil ?_ | (refine i_tc ?_; refine qTc ?_) | (refine i_te ?_; refine qTe ?_) | intro _)
  exact qE ⟨rfl, rfl, a', n', c', hs', hc', rfl⟩
/-- the next bytes -/
def rawR (k : Nat) (l : List UInt8) (st : Int) : List UInt8 × List UInt8 × Int := if st ≠ 0 then ([], l, st) else if l.length < k then ([], l, 7) else (l.take k, l.drop k, 0)
theorem raw1_spec (ρ : Hp) (bx : Nat) (a : Option Addr) (n c : Nat) (l : List UInt8) (h : SIn ρ u8c a n l) (hn : n ≤ 1000000) :
    Spec Try.prog 173 [.slice a n c, .pointer (some ⟨bx, 0, none⟩)] ρ [[(bx, .cells ⟨[.slice none 0 0]⟩ 30 (0, 0))]]
      (fun v ρ' L' => v = .tuple ⟨[]⟩ ∧ ρ.le ρ' ∧ ∃ a' c', SIn ρ' u8c a' n l ∧ n ≤ c' ∧ L' = [[(bx, .cells ⟨[.slice a' n c']⟩ 30 (0, 0))]]) := by
  refine spec_enter Try.func173 rfl rfl rfl fun u R => ?_
  simp only [argsE, List.cons_append, List.nil_append]
  repeat' (first | (refine i_op ?_; first | (refine i_qq ?_; refine qQ ?_) | refine qEf ?_) | refine tl_nil ?_ | (refine i_tc ?_; refine qTc ?_) | (refine i_te ?_; refine qTe ?_) | intro _)
  refine tl_app (n := 0) (xs := []) (sp := []) (ys := l.map u8c) (sz := 1) rfl rfl (OwnS.nil 1) (hR := rem_nil') (SIn.srcV h) (by simpa using h.len) (u8c_one l) (by decide) rfl (by omega) (by omega) rfl (fun v' sp' hown' => ?_)
  simp only [Nat.zero_add, List.nil_append] at hown' ⊢
  refine tl_freeze _ (h := Rem.here) (fun ρ' hle hfz => ?_)
  obtain ⟨a', c', rfl, hc, hs⟩ := hown'.sIn hfz
  repeat' (first | (refine i_op ?_; first | (refine i_qq ?_; refine qQ ?_) | refine qEf ?_) | refine tl_nil ?_ | (refine i_tc ?_; refine qTc ?_) | (refine i_te ?_; refine qTe ?_) | intro _)
  exact qE ⟨rfl, hle, a', c', hs, hc, rfl⟩
end Go.Proofs.E

namespace Go.Proofs.E
open Go
set_option linter.unusedVariables false
set_option linter.unusedSimpArgs false
set_option linter.unusedSectionVars false
set_option maxRecDepth 4000
set_option maxHeartbeats 1000000
attribute [local irreducible] Yl TL TC TE Spec YSpec R1 Hp.le EnvLe TS TR YS Stays
/-! ## layer 2: the disk -/
abbrev Blk := List UInt8
abbrev Secs := List (Blk × Option Blk)
def heldC (s : Secs) : List Value := (s.map fun p => p.1.map u8c).flatten
structure SecsOk (s : Secs) : Prop where
  len : s.length ≤ 2048
  pos : 0 < s.length
  held : ∀ p ∈ s, p.1.length = 64
  cached : ∀ p ∈ s, ∀ c, p.2 = some c → c.length = 64
def bv (b : Blk) : Value := .agg ⟨b.map u8c⟩
structure MapOk (s : Secs) (es : List MapEntry) : Prop where
  keys : IntKeys .i64 es
  get : ∀ j : Int, mget es j = if 0 ≤ j then ((s[j.toNat]?).bind (·.2)).map bv else none
/-- where the held blocks lie: the block's number, the slice's capacity, what lies behind the blocks -/
structure HB where
  b : Nat
  cap : Nat
  sp : List Value
def dO (hb : HB) (mb n : Nat) (ops armed failing : Int) (dead : Bool) : Obj := .cells ⟨[.slice (some ⟨hb.b, 0, none⟩) n hb.cap, .map (some mb), .int .i64 ops, .int .i64 armed, .int .i64 failing, .bool dead]⟩ 116 (0, 0)

set_option maxHeartbeats 400000 in
theorem lives_nil (ρ : Hp) : Spec Try.prog 55 [.pointer none] ρ [] (fun v ρ' L' => v = .int .i64 1 ∧ ρ' = ρ ∧ L' = []) := by
  refine spec_enter Try.func55 rfl rfl rfl fun u R => ?_
  simp only [argsE, List.cons_append, List.nil_append]
  repeat' (first | (refine i_op ?_; first | (refine i_qq ?_; refine qQ ?_) | refine qEf ?_) | refine tl_nil ?_ | (refine i_tc ?_; refine qTc ?_) | (refine i_te ?_; refine qTe ?_) | intro _)
  exact te_end rfl rfl rfl (by exact res1 rfl (r1_tmp rfl)) (Hp.le_refl _) (by infer_instance) (by infer_instance) ⟨rfl, rfl, rfl⟩
set_option maxHeartbeats 400000 in
theorem lives_dead (ρ : Hp) (b : Nat) (hb : HB) (mb n : Nat) (ops armed failing : Int) : Spec Try.prog 55 [.pointer (some ⟨b, 0, none⟩)] ρ [[(b, dO hb mb n ops armed failing true)]] (fun v ρ' L' => v = .int .i64 9 ∧ ρ' = ρ ∧ L' = [[(b, dO hb mb n ops armed failing true)]]) := by
  refine spec_enter Try.func55 rfl rfl rfl fun u R => ?_
  simp only [argsE, List.cons_append, List.nil_append, dO]
  repeat' (first | (refine i_op ?_; first | (refine i_qq ?_; refine qQ ?_) | refine qEf ?_) | refine tl_nil ?_ | (refine i_tc ?_; refine qTc ?_) | (refine i_te ?_; refine qTe ?_) | intro _)
  exact te_end rfl rfl rfl (by exact res1 rfl (r1_tmp rfl)) (Hp.le_refl _) (by infer_instance) (by infer_instance) ⟨rfl, rfl, rfl⟩
set_option maxHeartbeats 400000 in
theorem lives_ok (ρ : Hp) (b : Nat) (hb : HB) (mb n : Nat) (ops armed failing : Int) : Spec Try.prog 55 [.pointer (some ⟨b, 0, none⟩)] ρ [[(b, dO hb mb n ops armed failing false)]] (fun v ρ' L' => v = .int .i64 0 ∧ ρ' = ρ ∧ L' = [[(b, dO hb mb n ops armed failing false)]]) := by
  refine spec_enter Try.func55 rfl rfl rfl fun u R => ?_
  simp only [argsE, List.cons_append, List.nil_append, dO]
  repeat' (first | (refine i_op ?_; first | (refine i_qq ?_; refine qQ ?_) | refine qEf ?_) | refine tl_nil ?_ | (refine i_tc ?_; refine qTc ?_) | (refine i_te ?_; refine qTe ?_) | intro _)
  exact te_end rfl rfl rfl (by exact res1 rfl (r1_tmp rfl)) (Hp.le_refl _) (by infer_instance) (by infer_instance) ⟨rfl, rfl, rfl⟩
theorem counts_dO4 (ρ : Hp) (b : Nat) (hb : HB) (mb n : Nat) (ops armed failing : Int) (dead : Bool) (h1 : -1 ≤ failing) (h2 : failing ≤ 9223372036854775807) :
    Spec Try.prog 101 [.pointer (some ⟨b, 4, none⟩)] ρ [[(b, dO hb mb n ops armed failing dead)]] (fun v ρ' L' => v = .bool (failing == 0) ∧ ρ' = ρ ∧ L' = [[(b, dO hb mb n ops armed (max (failing-1) (-1)) dead)]]) := by
  refine spec_enter Try.func101 rfl rfl rfl fun u R => ?_
  simp only [argsE, List.cons_append, List.nil_append, dO]
  repeat' (first | (refine i_op ?_; first | (refine i_qq ?_; refine qQ ?_) | refine qEf ?_) | refine tl_nil ?_ | (refine i_tc ?_; refine qTc ?_) | (refine i_te ?_; refine qTe ?_) | intro _)
  exact qE ⟨rfl, rfl, rfl⟩
theorem counts_dO3 (ρ : Hp) (b : Nat) (hb : HB) (mb n : Nat) (ops armed failing : Int) (dead : Bool) (h1 : -1 ≤ armed) (h2 : armed ≤ 9223372036854775807) :
    Spec Try.prog 101 [.pointer (some ⟨b, 3, none⟩)] ρ [[(b, dO hb mb n ops armed failing dead)]] (fun v ρ' L' => v = .bool (armed == 0) ∧ ρ' = ρ ∧ L' = [[(b, dO hb mb n ops (max (armed-1) (-1)) failing dead)]]) := by
  refine spec_enter Try.func101 rfl rfl rfl fun u R => ?_
  simp only [argsE, List.cons_append, List.nil_append, dO]
  repeat' (first | (refine i_op ?_; first | (refine i_qq ?_; refine qQ ?_) | refine qEf ?_) | refine tl_nil ?_ | (refine i_tc ?_; refine qTc ?_) | (refine i_te ?_; refine qTe ?_) | intro _)
  exact qE ⟨rfl, rfl, rfl⟩

/-! ### does -/
theorem does_dead (ρ : Hp) (b : Nat) (hb : HB) (mb n : Nat) (ops armed failing i : Int) (d l : Value) : Spec Try.prog 67 [.pointer (some ⟨b, 0, none⟩), .int .i64 i, d, l] ρ [[(b, dO hb mb n ops armed failing true)]]
    (fun v ρ' L' => v = .int .i64 9 ∧ ρ' = ρ ∧ L' = [[(b, dO hb mb n ops armed failing true)]]) := by
  refine spec_enter Try.func67 rfl rfl rfl fun u R => ?_
  simp only [argsE, List.cons_append, List.nil_append]
  repeat' (first | (refine tl_is (.func 55) ?_; refine qC rfl rfl (lives_dead _ _ _ _ _ _ _ _) ?_; rintro v ρ' L' hle ⟨rfl, rfl, rfl⟩ <;> (try simp only [List.cons_append, List.nil_append, List.append_eq])) | (refine i_op ?_; first | (refine i_qq ?_; refine qQ ?_) | refine qEf ?_) | refine tl_nil ?_ | (refine i_tc ?_; refine qTc ?_) | (refine i_te ?_; refine qTe ?_) | intro _)
  exact qE ⟨rfl, rfl, rfl⟩
theorem does_nil (ρ : Hp) (i : Int) (d l : Value) : Spec Try.prog 67 [.pointer none, .int .i64 i, d, l] ρ [] (fun v ρ' L' => v = .int .i64 1 ∧ ρ' = ρ ∧ L' = []) := by
  refine spec_enter Try.func67 rfl rfl rfl fun u R => ?_
  simp only [argsE, List.cons_append, List.nil_append]
  repeat' (first | (refine tl_is (.func 55) ?_; refine qC rfl rfl (lives_nil _) ?_; rintro v ρ' L' hle ⟨rfl, rfl, rfl⟩ <;> (try simp only [List.cons_append, List.nil_append, List.append_eq])) | (refine i_op ?_; first | (refine i_qq ?_; refine qQ ?_) | refine qEf ?_) | refine tl_nil ?_ | (refine i_tc ?_; refine qTc ?_) | (refine i_te ?_; refine qTe ?_) | intro _)
  exact qE ⟨rfl, rfl, rfl⟩
theorem does_arg (ρ : Hp) (b : Nat) (hb : HB) (mb n : Nat) (ops armed failing i : Int) (d l : Value) (hi : i < 0 ∨ (n : Int) ≤ i) : Spec Try.prog 67 [.pointer (some ⟨b, 0, none⟩), .int .i64 i, d, l] ρ [[(b, dO hb mb n ops armed failing false)]]
    (fun v ρ' L' => v = .int .i64 2 ∧ ρ' = ρ ∧ L' = [[(b, dO hb mb n ops armed failing false)]]) := by
  refine spec_enter Try.func67 rfl rfl rfl fun u R => ?_
  simp only [argsE, List.cons_append, List.nil_append]
  by_cases h0 : i < 0
  · repeat' (first | (refine tl_is (.func 55) ?_; refine qC rfl rfl (lives_ok _ _ _ _ _ _ _ _) ?_; rintro v ρ' L' hle ⟨rfl, rfl, rfl⟩ <;> (try simp only [List.cons_append, List.nil_append, List.append_eq, dO])) | (refine i_op ?_; first | (refine i_qq ?_; refine qQ ?_) | refine qEf ?_) | refine tl_nil ?_ | (refine i_tc ?_; refine qTc ?_) | (refine i_te ?_; refine qTe ?_) | intro _)
    exact qE ⟨rfl, rfl, rfl⟩
  · repeat' (first | (refine tl_is (.func 55) ?_; refine qC rfl rfl (lives_ok _ _ _ _ _ _ _ _) ?_; rintro v ρ' L' hle ⟨rfl, rfl, rfl⟩ <;> (try simp only [List.cons_append, List.nil_append, List.append_eq, dO])) | (refine i_op ?_; first | (refine i_qq ?_; refine qQ ?_) | refine qEf ?_) | refine tl_nil ?_ | (refine i_tc ?_; refine qTc ?_) | (refine i_te ?_; refine qTe ?_) | intro _)
    exact qE ⟨rfl, rfl, rfl⟩
theorem does_ok_r (ρ : Hp) (b : Nat) (hb : HB) (mb n : Nat) (ops armed failing i : Int) (kd : Nat) (cd : List Value) (X : SH) (Post : Value → Hp → SH → Prop) (h0 : 0 ≤ i) (h1 : i < n) (hf : failing ≠ 0) (hf1 : -1 ≤ failing) (hf2 : failing ≤ 9223372036854775807) [hF : Fun Try.prog kd]
    (hd : Spec Try.prog kd cd ρ ([(b, dO hb mb n (IntKind.i64.wrap (ops + 1)) armed (max (failing - 1) (-1)) false)] :: X) Post) :
    Spec Try.prog 67 [.pointer (some ⟨b, 0, none⟩), .int .i64 i, .func (.func kd) ⟨[]⟩ ⟨cd⟩, .nilFunc] ρ ([(b, dO hb mb n ops armed failing false)] :: X) (fun v ρ' L' => v = .int .i64 0 ∧ ∃ v0, Post v0 ρ' L') := by
  refine spec_enter Try.func67 rfl rfl rfl fun u R => ?_
  simp only [argsE, List.cons_append, List.nil_append]
  repeat' (first | (refine tl_is (.func 55) ?_; refine qC rfl rfl (lives_ok _ _ _ _ _ _ _ _) ?_; rintro v ρ' L' hle ⟨rfl, rfl, rfl⟩ <;> (try simp only [List.cons_append, List.nil_append, List.append_eq, dO])) | (refine i_op ?_; first | (refine i_qq ?_; refine qQ ?_) | refine qEf ?_) | refine tl_nil ?_ | (refine i_tc ?_; refine qTc ?_) | (refine i_te ?_; refine qTe ?_) | intro _)
  have hfb : (failing == 0) = false := by simpa using hf
  refine tc_any (Stays _ _ ([])) (stays_of (hT := tk) (Hp.le_refl _)) ?_
  all_goals refine rMv 0 ?_
  all_goals refine rNc 1 ?_
  all_goals refine rFa 2 ?_
  all_goals refine rMv 4 ?_
  all_goals refine rCm 5 ?_
  all_goals (refine rStep (i := 3) ?_; ((try refine qWant ?_); (first | (refine tl_is (.func 101) ?_; refine qC rfl rfl (counts_dO4 _ _ _ _ _ _ _ _ _ hf1 hf2) ?_; rintro v ρ' L' hle ⟨rfl, rfl, rfl⟩ <;> (try simp only [List.cons_append, List.nil_append, List.append_eq, dO, hfb])) | (refine qEf ?_; try intro _)) <;> ((try simp only [List.cons_append, List.nil_append, List.append_eq]); refine tl_nil ?_; refine rNext ?_)))
  all_goals refine rFull ?_
  all_goals refine rMv 6 ?_
  all_goals (first | refine wSkip 7 ?_ | refine wSkipU 7 ?_ | refine wMv 7 ?_ | (refine tr_guard (t := 41) rfl (fun hb => ?_) (fun hb => ?_) <;> (try simp only [decide_eq_true_eq, decide_eq_false_iff_not, Bool.not_eq_true, Bool.not_eq_false, beq_iff_eq, bne_iff_ne, ne_eq, Bool.not_eq_eq_eq_not, Bool.not_true, Bool.not_false, beq_eq_false_iff_ne, bne_eq_false_iff_eq] at hb) <;> first | refine wSkip 7 ?_ | refine wSkipU 7 ?_ | refine wMv 7 ?_))
  all_goals (first | refine wSkip 8 ?_ | refine wSkipU 8 ?_ | refine wNc 8 ?_ | (refine tr_guard (t := 41) rfl (fun hb => ?_) (fun hb => ?_) <;> (try simp only [decide_eq_true_eq, decide_eq_false_iff_not, Bool.not_eq_true, Bool.not_eq_false, beq_iff_eq, bne_iff_ne, ne_eq, Bool.not_eq_eq_eq_not, Bool.not_true, Bool.not_false, beq_eq_false_iff_ne, bne_eq_false_iff_eq] at hb) <;> first | refine wSkip 8 ?_ | refine wSkipU 8 ?_ | refine wNc 8 ?_))
  all_goals (first | refine wSkip 9 ?_ | refine wSkipU 9 ?_ | refine wFa 9 ?_ | (refine tr_guard (t := 41) rfl (fun hb => ?_) (fun hb => ?_) <;> (try simp only [decide_eq_true_eq, decide_eq_false_iff_not, Bool.not_eq_true, Bool.not_eq_false, beq_iff_eq, bne_iff_ne, ne_eq, Bool.not_eq_eq_eq_not, Bool.not_true, Bool.not_false, beq_eq_false_iff_ne, bne_eq_false_iff_eq] at hb) <;> first | refine wSkip 9 ?_ | refine wSkipU 9 ?_ | refine wFa 9 ?_))
  all_goals (first | refine wSkip 10 ?_ | refine wSkipU 10 ?_ | refine wLd 10 ?_ | (refine tr_guard (t := 41) rfl (fun hb => ?_) (fun hb => ?_) <;> (try simp only [decide_eq_true_eq, decide_eq_false_iff_not, Bool.not_eq_true, Bool.not_eq_false, beq_iff_eq, bne_iff_ne, ne_eq, Bool.not_eq_eq_eq_not, Bool.not_true, Bool.not_false, beq_eq_false_iff_ne, bne_eq_false_iff_eq] at hb) <;> first | refine wSkip 10 ?_ | refine wSkipU 10 ?_ | refine wLd 10 ?_))
  all_goals (first | refine wSkip 11 ?_ | refine wSkipU 11 ?_ | refine wCm 11 ?_ | (refine tr_guard (t := 41) rfl (fun hb => ?_) (fun hb => ?_) <;> (try simp only [decide_eq_true_eq, decide_eq_false_iff_not, Bool.not_eq_true, Bool.not_eq_false, beq_iff_eq, bne_iff_ne, ne_eq, Bool.not_eq_eq_eq_not, Bool.not_true, Bool.not_false, beq_eq_false_iff_ne, bne_eq_false_iff_eq] at hb) <;> first | refine wSkip 11 ?_ | refine wSkipU 11 ?_ | refine wCm 11 ?_))
  all_goals refine rPk 12 ?_
  all_goals refine rAs 13 ?_
  all_goals refine rAs 14 ?_
  all_goals refine rDone ?_
  unfold dO at hd
  repeat' (first | (refine tl_is (.tmp 65) ?_; refine tl_call rfl rfl hd tk rfl ?_; rintro v ρ' L' hle hp) | (refine i_op ?_; first | (refine i_qq ?_; refine qQ ?_) | refine qEf ?_) | refine tl_nil ?_ | (refine i_tc ?_; refine qTc ?_) | (refine i_te ?_; refine qTe ?_) | intro _)
  exact qE ⟨rfl, _, hp⟩
theorem does_ok_w (ρ : Hp) (b : Nat) (hb : HB) (mb n : Nat) (ops armed failing i : Int) (kd kl : Nat) (cd cl : List Value) (X : SH) (Post : Value → Hp → SH → Prop) (h0 : 0 ≤ i) (h1 : i < n) (hf : failing ≠ 0) (hf1 : -1 ≤ failing) (hf2 : failing ≤ 9223372036854775807)
    (ha : armed ≠ 0) (ha1 : -1 ≤ armed) (ha2 : armed ≤ 9223372036854775807) [hF : Fun Try.prog kd]
    (hd : Spec Try.prog kd cd ρ ([(b, dO hb mb n (IntKind.i64.wrap (ops + 1)) (max (armed - 1) (-1)) (max (failing - 1) (-1)) false)] :: X) Post) :
    Spec Try.prog 67 [.pointer (some ⟨b, 0, none⟩), .int .i64 i, .func (.func kd) ⟨[]⟩ ⟨cd⟩, .func (.func kl) ⟨[]⟩ ⟨cl⟩] ρ ([(b, dO hb mb n ops armed failing false)] :: X) (fun v ρ' L' => v = .int .i64 0 ∧ ∃ v0, Post v0 ρ' L') := by
  refine spec_enter Try.func67 rfl rfl rfl fun u R => ?_
  simp only [argsE, List.cons_append, List.nil_append]
  repeat' (first | (refine tl_is (.func 55) ?_; refine qC rfl rfl (lives_ok _ _ _ _ _ _ _ _) ?_; rintro v ρ' L' hle ⟨rfl, rfl, rfl⟩ <;> (try simp only [List.cons_append, List.nil_append, List.append_eq, dO])) | (refine i_op ?_; first | (refine i_qq ?_; refine qQ ?_) | refine qEf ?_) | refine tl_nil ?_ | (refine i_tc ?_; refine qTc ?_) | (refine i_te ?_; refine qTe ?_) | intro _)
  have hfb : (failing == 0) = false := by simpa using hf
  refine tc_any (Stays _ _ ([])) (stays_of (hT := tk) (Hp.le_refl _)) ?_
  all_goals refine rMv 0 ?_
  all_goals refine rNc 1 ?_
  all_goals refine rFa 2 ?_
  all_goals refine rMv 4 ?_
  all_goals refine rCm 5 ?_
  all_goals (refine rStep (i := 3) ?_; ((try refine qWant ?_); (first | (refine tl_is (.func 101) ?_; refine qC rfl rfl (counts_dO4 _ _ _ _ _ _ _ _ _ hf1 hf2) ?_; rintro v ρ' L' hle ⟨rfl, rfl, rfl⟩ <;> (try simp only [List.cons_append, List.nil_append, List.append_eq, dO, hfb])) | (refine qEf ?_; try intro _)) <;> ((try simp only [List.cons_append, List.nil_append, List.append_eq]); refine tl_nil ?_; refine rNext ?_)))
  all_goals refine rFull ?_
  all_goals refine rMv 6 ?_
  all_goals (first | refine wSkip 7 ?_ | refine wSkipU 7 ?_ | refine wMv 7 ?_ | (refine tr_guard (t := 41) rfl (fun hb => ?_) (fun hb => ?_) <;> (try simp only [decide_eq_true_eq, decide_eq_false_iff_not, Bool.not_eq_true, Bool.not_eq_false, beq_iff_eq, bne_iff_ne, ne_eq, Bool.not_eq_eq_eq_not, Bool.not_true, Bool.not_false, beq_eq_false_iff_ne, bne_eq_false_iff_eq] at hb) <;> first | refine wSkip 7 ?_ | refine wSkipU 7 ?_ | refine wMv 7 ?_))
  all_goals (first | refine wSkip 8 ?_ | refine wSkipU 8 ?_ | refine wNc 8 ?_ | (refine tr_guard (t := 41) rfl (fun hb => ?_) (fun hb => ?_) <;> (try simp only [decide_eq_true_eq, decide_eq_false_iff_not, Bool.not_eq_true, Bool.not_eq_false, beq_iff_eq, bne_iff_ne, ne_eq, Bool.not_eq_eq_eq_not, Bool.not_true, Bool.not_false, beq_eq_false_iff_ne, bne_eq_false_iff_eq] at hb) <;> first | refine wSkip 8 ?_ | refine wSkipU 8 ?_ | refine wNc 8 ?_))
  all_goals (first | refine wSkip 9 ?_ | refine wSkipU 9 ?_ | refine wFa 9 ?_ | (refine tr_guard (t := 41) rfl (fun hb => ?_) (fun hb => ?_) <;> (try simp only [decide_eq_true_eq, decide_eq_false_iff_not, Bool.not_eq_true, Bool.not_eq_false, beq_iff_eq, bne_iff_ne, ne_eq, Bool.not_eq_eq_eq_not, Bool.not_true, Bool.not_false, beq_eq_false_iff_ne, bne_eq_false_iff_eq] at hb) <;> first | refine wSkip 9 ?_ | refine wSkipU 9 ?_ | refine wFa 9 ?_))
  all_goals (first | refine wSkip 10 ?_ | refine wSkipU 10 ?_ | refine wLd 10 ?_ | (refine tr_guard (t := 41) rfl (fun hb => ?_) (fun hb => ?_) <;> (try simp only [decide_eq_true_eq, decide_eq_false_iff_not, Bool.not_eq_true, Bool.not_eq_false, beq_iff_eq, bne_iff_ne, ne_eq, Bool.not_eq_eq_eq_not, Bool.not_true, Bool.not_false, beq_eq_false_iff_ne, bne_eq_false_iff_eq] at hb) <;> first | refine wSkip 10 ?_ | refine wSkipU 10 ?_ | refine wLd 10 ?_))
  all_goals (first | refine wSkip 11 ?_ | refine wSkipU 11 ?_ | refine wCm 11 ?_ | (refine tr_guard (t := 41) rfl (fun hb => ?_) (fun hb => ?_) <;> (try simp only [decide_eq_true_eq, decide_eq_false_iff_not, Bool.not_eq_true, Bool.not_eq_false, beq_iff_eq, bne_iff_ne, ne_eq, Bool.not_eq_eq_eq_not, Bool.not_true, Bool.not_false, beq_eq_false_iff_ne, bne_eq_false_iff_eq] at hb) <;> first | refine wSkip 11 ?_ | refine wSkipU 11 ?_ | refine wCm 11 ?_))
  all_goals refine rPk 12 ?_
  all_goals refine rAs 13 ?_
  all_goals refine rAs 14 ?_
  all_goals refine rDone ?_
  unfold dO at hd
  repeat' (first | (refine tl_is (.func 101) ?_; refine qC rfl rfl (counts_dO3 _ _ _ _ _ _ _ _ _ ha1 ha2) ?_; rintro v ρ' L' hle ⟨rfl, rfl, rfl⟩ <;> (try simp only [List.cons_append, List.nil_append, List.append_eq, dO])) | (refine tl_is (.tmp 65) ?_; refine tl_call rfl rfl hd tk rfl ?_; rintro v ρ' L' hle hp) | (refine i_op ?_; first | (refine i_qq ?_; refine qQ ?_) | refine qEf ?_) | refine tl_nil ?_ | (refine i_tc ?_; refine qTc ?_) | (refine i_te ?_; refine qTe ?_) | intro _)
  exact qE ⟨rfl, _, hp⟩
theorem does_fail_r (ρ : Hp) (b : Nat) (hb : HB) (mb n : Nat) (ops armed i : Int) (d : Value) (h0 : 0 ≤ i) (h1 : i < n) :
    Spec Try.prog 67 [.pointer (some ⟨b, 0, none⟩), .int .i64 i, d, .nilFunc] ρ [[(b, dO hb mb n ops armed 0 false)]] (fun v ρ' L' => v = .int .i64 8 ∧ ρ' = ρ ∧ L' = [[(b, dO hb mb n (IntKind.i64.wrap (ops + 1)) armed (-1) false)]]) := by
  refine spec_enter Try.func67 rfl rfl rfl fun u R => ?_
  simp only [argsE, List.cons_append, List.nil_append]
  repeat' (first | (refine tl_is (.func 55) ?_; refine qC rfl rfl (lives_ok _ _ _ _ _ _ _ _) ?_; rintro v ρ' L' hle ⟨rfl, rfl, rfl⟩ <;> (try simp only [List.cons_append, List.nil_append, List.append_eq, dO])) | (refine i_op ?_; first | (refine i_qq ?_; refine qQ ?_) | refine qEf ?_) | refine tl_nil ?_ | (refine i_tc ?_; refine qTc ?_) | (refine i_te ?_; refine qTe ?_) | intro _)
  refine tc_any (Stays _ _ ([])) (stays_of (hT := tk) (Hp.le_refl _)) ?_
  all_goals refine rMv 0 ?_
  all_goals refine rNc 1 ?_
  all_goals refine rFa 2 ?_
  all_goals refine rMv 4 ?_
  all_goals refine rCm 5 ?_
  all_goals (refine rStep (i := 3) ?_; ((try refine qWant ?_); (first | (refine tl_is (.func 101) ?_; refine qC rfl rfl (counts_dO4 _ _ _ _ _ _ _ 0 _ (by decide) (by decide)) ?_; rintro v ρ' L' hle ⟨rfl, rfl, rfl⟩ <;> (try simp only [List.cons_append, List.nil_append, List.append_eq, dO])) | (refine qEf ?_; try intro _)) <;> ((try simp only [List.cons_append, List.nil_append, List.append_eq]); refine tl_nil ?_; refine rNext ?_)))
  all_goals refine rFull ?_
  all_goals refine rMv 6 ?_
  all_goals (first | refine wSkip 7 ?_ | refine wSkipU 7 ?_ | refine wMv 7 ?_ | (refine tr_guard (t := 41) rfl (fun hb => ?_) (fun hb => ?_) <;> (try simp only [decide_eq_true_eq, decide_eq_false_iff_not, Bool.not_eq_true, Bool.not_eq_false, beq_iff_eq, bne_iff_ne, ne_eq, Bool.not_eq_eq_eq_not, Bool.not_true, Bool.not_false, beq_eq_false_iff_ne, bne_eq_false_iff_eq] at hb) <;> first | refine wSkip 7 ?_ | refine wSkipU 7 ?_ | refine wMv 7 ?_))
  all_goals (first | refine wSkip 8 ?_ | refine wSkipU 8 ?_ | refine wNc 8 ?_ | (refine tr_guard (t := 41) rfl (fun hb => ?_) (fun hb => ?_) <;> (try simp only [decide_eq_true_eq, decide_eq_false_iff_not, Bool.not_eq_true, Bool.not_eq_false, beq_iff_eq, bne_iff_ne, ne_eq, Bool.not_eq_eq_eq_not, Bool.not_true, Bool.not_false, beq_eq_false_iff_ne, bne_eq_false_iff_eq] at hb) <;> first | refine wSkip 8 ?_ | refine wSkipU 8 ?_ | refine wNc 8 ?_))
  all_goals (first | refine wSkip 9 ?_ | refine wSkipU 9 ?_ | refine wFa 9 ?_ | (refine tr_guard (t := 41) rfl (fun hb => ?_) (fun hb => ?_) <;> (try simp only [decide_eq_true_eq, decide_eq_false_iff_not, Bool.not_eq_true, Bool.not_eq_false, beq_iff_eq, bne_iff_ne, ne_eq, Bool.not_eq_eq_eq_not, Bool.not_true, Bool.not_false, beq_eq_false_iff_ne, bne_eq_false_iff_eq] at hb) <;> first | refine wSkip 9 ?_ | refine wSkipU 9 ?_ | refine wFa 9 ?_))
  all_goals (first | refine wSkip 10 ?_ | refine wSkipU 10 ?_ | refine wLd 10 ?_ | (refine tr_guard (t := 41) rfl (fun hb => ?_) (fun hb => ?_) <;> (try simp only [decide_eq_true_eq, decide_eq_false_iff_not, Bool.not_eq_true, Bool.not_eq_false, beq_iff_eq, bne_iff_ne, ne_eq, Bool.not_eq_eq_eq_not, Bool.not_true, Bool.not_false, beq_eq_false_iff_ne, bne_eq_false_iff_eq] at hb) <;> first | refine wSkip 10 ?_ | refine wSkipU 10 ?_ | refine wLd 10 ?_))
  all_goals (first | refine wSkip 11 ?_ | refine wSkipU 11 ?_ | refine wCm 11 ?_ | (refine tr_guard (t := 41) rfl (fun hb => ?_) (fun hb => ?_) <;> (try simp only [decide_eq_true_eq, decide_eq_false_iff_not, Bool.not_eq_true, Bool.not_eq_false, beq_iff_eq, bne_iff_ne, ne_eq, Bool.not_eq_eq_eq_not, Bool.not_true, Bool.not_false, beq_eq_false_iff_ne, bne_eq_false_iff_eq] at hb) <;> first | refine wSkip 11 ?_ | refine wSkipU 11 ?_ | refine wCm 11 ?_))
  all_goals refine rPk 12 ?_
  all_goals refine rAs 13 ?_
  all_goals refine rAs 14 ?_
  all_goals refine rDone ?_
  repeat' (first | (refine i_op ?_; first | (refine i_qq ?_; refine qQ ?_) | refine qEf ?_) | refine tl_nil ?_ | (refine i_tc ?_; refine qTc ?_) | (refine i_te ?_; refine qTe ?_) | intro _)
  exact qE ⟨rfl, rfl, rfl⟩
theorem does_fail_w (ρ : Hp) (b : Nat) (hb : HB) (mb n : Nat) (ops armed i : Int) (d : Value) (kl : Nat) (cl : List Value) (h0 : 0 ≤ i) (h1 : i < n) (ha : armed ≠ 0) :
    Spec Try.prog 67 [.pointer (some ⟨b, 0, none⟩), .int .i64 i, d, .func (.func kl) ⟨[]⟩ ⟨cl⟩] ρ [[(b, dO hb mb n ops armed 0 false)]] (fun v ρ' L' => v = .int .i64 8 ∧ ρ' = ρ ∧ L' = [[(b, dO hb mb n (IntKind.i64.wrap (ops + 1)) armed (-1) false)]]) := by
  refine spec_enter Try.func67 rfl rfl rfl fun u R => ?_
  simp only [argsE, List.cons_append, List.nil_append]
  repeat' (first | (refine tl_is (.func 55) ?_; refine qC rfl rfl (lives_ok _ _ _ _ _ _ _ _) ?_; rintro v ρ' L' hle ⟨rfl, rfl, rfl⟩ <;> (try simp only [List.cons_append, List.nil_append, List.append_eq, dO])) | (refine i_op ?_; first | (refine i_qq ?_; refine qQ ?_) | refine qEf ?_) | refine tl_nil ?_ | (refine i_tc ?_; refine qTc ?_) | (refine i_te ?_; refine qTe ?_) | intro _)
  refine tc_any (Stays _ _ ([])) (stays_of (hT := tk) (Hp.le_refl _)) ?_
  all_goals refine rMv 0 ?_
  all_goals refine rNc 1 ?_
  all_goals refine rFa 2 ?_
  all_goals refine rMv 4 ?_
  all_goals refine rCm 5 ?_
  all_goals (refine rStep (i := 3) ?_; ((try refine qWant ?_); (first | (refine tl_is (.func 101) ?_; refine qC rfl rfl (counts_dO4 _ _ _ _ _ _ _ 0 _ (by decide) (by decide)) ?_; rintro v ρ' L' hle ⟨rfl, rfl, rfl⟩ <;> (try simp only [List.cons_append, List.nil_append, List.append_eq, dO])) | (refine qEf ?_; try intro _)) <;> ((try simp only [List.cons_append, List.nil_append, List.append_eq]); refine tl_nil ?_; refine rNext ?_)))
  all_goals refine rFull ?_
  all_goals refine rMv 6 ?_
  all_goals (first | refine wSkip 7 ?_ | refine wSkipU 7 ?_ | refine wMv 7 ?_ | (refine tr_guard (t := 41) rfl (fun hb => ?_) (fun hb => ?_) <;> (try simp only [decide_eq_true_eq, decide_eq_false_iff_not, Bool.not_eq_true, Bool.not_eq_false, beq_iff_eq, bne_iff_ne, ne_eq, Bool.not_eq_eq_eq_not, Bool.not_true, Bool.not_false, beq_eq_false_iff_ne, bne_eq_false_iff_eq] at hb) <;> first | refine wSkip 7 ?_ | refine wSkipU 7 ?_ | refine wMv 7 ?_))
  all_goals (first | refine wSkip 8 ?_ | refine wSkipU 8 ?_ | refine wNc 8 ?_ | (refine tr_guard (t := 41) rfl (fun hb => ?_) (fun hb => ?_) <;> (try simp only [decide_eq_true_eq, decide_eq_false_iff_not, Bool.not_eq_true, Bool.not_eq_false, beq_iff_eq, bne_iff_ne, ne_eq, Bool.not_eq_eq_eq_not, Bool.not_true, Bool.not_false, beq_eq_false_iff_ne, bne_eq_false_iff_eq] at hb) <;> first | refine wSkip 8 ?_ | refine wSkipU 8 ?_ | refine wNc 8 ?_))
  all_goals (first | refine wSkip 9 ?_ | refine wSkipU 9 ?_ | refine wFa 9 ?_ | (refine tr_guard (t := 41) rfl (fun hb => ?_) (fun hb => ?_) <;> (try simp only [decide_eq_true_eq, decide_eq_false_iff_not, Bool.not_eq_true, Bool.not_eq_false, beq_iff_eq, bne_iff_ne, ne_eq, Bool.not_eq_eq_eq_not, Bool.not_true, Bool.not_false, beq_eq_false_iff_ne, bne_eq_false_iff_eq] at hb) <;> first | refine wSkip 9 ?_ | refine wSkipU 9 ?_ | refine wFa 9 ?_))
  all_goals (first | refine wSkip 10 ?_ | refine wSkipU 10 ?_ | refine wLd 10 ?_ | (refine tr_guard (t := 41) rfl (fun hb => ?_) (fun hb => ?_) <;> (try simp only [decide_eq_true_eq, decide_eq_false_iff_not, Bool.not_eq_true, Bool.not_eq_false, beq_iff_eq, bne_iff_ne, ne_eq, Bool.not_eq_eq_eq_not, Bool.not_true, Bool.not_false, beq_eq_false_iff_ne, bne_eq_false_iff_eq] at hb) <;> first | refine wSkip 10 ?_ | refine wSkipU 10 ?_ | refine wLd 10 ?_))
  all_goals (first | refine wSkip 11 ?_ | refine wSkipU 11 ?_ | refine wCm 11 ?_ | (refine tr_guard (t := 41) rfl (fun hb => ?_) (fun hb => ?_) <;> (try simp only [decide_eq_true_eq, decide_eq_false_iff_not, Bool.not_eq_true, Bool.not_eq_false, beq_iff_eq, bne_iff_ne, ne_eq, Bool.not_eq_eq_eq_not, Bool.not_true, Bool.not_false, beq_eq_false_iff_ne, bne_eq_false_iff_eq] at hb) <;> first | refine wSkip 11 ?_ | refine wSkipU 11 ?_ | refine wCm 11 ?_))
  all_goals refine rPk 12 ?_
  all_goals refine rAs 13 ?_
  all_goals refine rAs 14 ?_
  all_goals refine rDone ?_
  repeat' (first | (refine i_op ?_; first | (refine i_qq ?_; refine qQ ?_) | refine qEf ?_) | refine tl_nil ?_ | (refine i_tc ?_; refine qTc ?_) | (refine i_te ?_; refine qTe ?_) | intro _)
  exact qE ⟨rfl, rfl, rfl⟩
theorem does_dies (ρ : Hp) (b : Nat) (hb : HB) (mb n : Nat) (ops failing i : Int) (d : Value) (kl : Nat) (cl : List Value) (X : SH) (Post : Value → Hp → SH → Prop) (h0 : 0 ≤ i) (h1 : i < n) (hf1 : -1 ≤ failing) (hf2 : failing ≤ 9223372036854775807) [hF : Fun Try.prog kl]
    (hd : Spec Try.prog kl cl ρ ([(b, dO hb mb n (IntKind.i64.wrap (ops + 1)) 0 (max (failing - 1) (-1)) true)] :: X) Post) :
    Spec Try.prog 67 [.pointer (some ⟨b, 0, none⟩), .int .i64 i, d, .func (.func kl) ⟨[]⟩ ⟨cl⟩] ρ ([(b, dO hb mb n ops 0 failing false)] :: X) (fun v ρ' L' => v = .int .i64 9 ∧ ∃ v0, Post v0 ρ' L') := by
  refine spec_enter Try.func67 rfl rfl rfl fun u R => ?_
  simp only [argsE, List.cons_append, List.nil_append]
  repeat' (first | (refine tl_is (.func 55) ?_; refine qC rfl rfl (lives_ok _ _ _ _ _ _ _ _) ?_; rintro v ρ' L' hle ⟨rfl, rfl, rfl⟩ <;> (try simp only [List.cons_append, List.nil_append, List.append_eq, dO])) | (refine i_op ?_; first | (refine i_qq ?_; refine qQ ?_) | refine qEf ?_) | refine tl_nil ?_ | (refine i_tc ?_; refine qTc ?_) | (refine i_te ?_; refine qTe ?_) | intro _)
  refine tc_any (Stays _ _ ([])) (stays_of (hT := tk) (Hp.le_refl _)) ?_
  all_goals refine rMv 0 ?_
  all_goals refine rNc 1 ?_
  all_goals refine rFa 2 ?_
  all_goals refine rMv 4 ?_
  all_goals refine rCm 5 ?_
  all_goals (refine rStep (i := 3) ?_; ((try refine qWant ?_); (first | (refine tl_is (.func 101) ?_; refine qC rfl rfl (counts_dO4 _ _ _ _ _ _ _ _ _ hf1 hf2) ?_; rintro v ρ' L' hle ⟨rfl, rfl, rfl⟩ <;> (try simp only [List.cons_append, List.nil_append, List.append_eq, dO])) | (refine qEf ?_; try intro _)) <;> ((try simp only [List.cons_append, List.nil_append, List.append_eq]); refine tl_nil ?_; refine rNext ?_)))
  all_goals refine rFull ?_
  all_goals refine rMv 6 ?_
  all_goals (first | refine wSkip 7 ?_ | refine wSkipU 7 ?_ | refine wMv 7 ?_ | (refine tr_guard (t := 41) rfl (fun hb => ?_) (fun hb => ?_) <;> (try simp only [decide_eq_true_eq, decide_eq_false_iff_not, Bool.not_eq_true, Bool.not_eq_false, beq_iff_eq, bne_iff_ne, ne_eq, Bool.not_eq_eq_eq_not, Bool.not_true, Bool.not_false, beq_eq_false_iff_ne, bne_eq_false_iff_eq] at hb) <;> first | refine wSkip 7 ?_ | refine wSkipU 7 ?_ | refine wMv 7 ?_))
  all_goals (first | refine wSkip 8 ?_ | refine wSkipU 8 ?_ | refine wNc 8 ?_ | (refine tr_guard (t := 41) rfl (fun hb => ?_) (fun hb => ?_) <;> (try simp only [decide_eq_true_eq, decide_eq_false_iff_not, Bool.not_eq_true, Bool.not_eq_false, beq_iff_eq, bne_iff_ne, ne_eq, Bool.not_eq_eq_eq_not, Bool.not_true, Bool.not_false, beq_eq_false_iff_ne, bne_eq_false_iff_eq] at hb) <;> first | refine wSkip 8 ?_ | refine wSkipU 8 ?_ | refine wNc 8 ?_))
  all_goals (first | refine wSkip 9 ?_ | refine wSkipU 9 ?_ | refine wFa 9 ?_ | (refine tr_guard (t := 41) rfl (fun hb => ?_) (fun hb => ?_) <;> (try simp only [decide_eq_true_eq, decide_eq_false_iff_not, Bool.not_eq_true, Bool.not_eq_false, beq_iff_eq, bne_iff_ne, ne_eq, Bool.not_eq_eq_eq_not, Bool.not_true, Bool.not_false, beq_eq_false_iff_ne, bne_eq_false_iff_eq] at hb) <;> first | refine wSkip 9 ?_ | refine wSkipU 9 ?_ | refine wFa 9 ?_))
  all_goals (first | refine wSkip 10 ?_ | refine wSkipU 10 ?_ | refine wLd 10 ?_ | (refine tr_guard (t := 41) rfl (fun hb => ?_) (fun hb => ?_) <;> (try simp only [decide_eq_true_eq, decide_eq_false_iff_not, Bool.not_eq_true, Bool.not_eq_false, beq_iff_eq, bne_iff_ne, ne_eq, Bool.not_eq_eq_eq_not, Bool.not_true, Bool.not_false, beq_eq_false_iff_ne, bne_eq_false_iff_eq] at hb) <;> first | refine wSkip 10 ?_ | refine wSkipU 10 ?_ | refine wLd 10 ?_))
  all_goals (first | refine wSkip 11 ?_ | refine wSkipU 11 ?_ | refine wCm 11 ?_ | (refine tr_guard (t := 41) rfl (fun hb => ?_) (fun hb => ?_) <;> (try simp only [decide_eq_true_eq, decide_eq_false_iff_not, Bool.not_eq_true, Bool.not_eq_false, beq_iff_eq, bne_iff_ne, ne_eq, Bool.not_eq_eq_eq_not, Bool.not_true, Bool.not_false, beq_eq_false_iff_ne, bne_eq_false_iff_eq] at hb) <;> first | refine wSkip 11 ?_ | refine wSkipU 11 ?_ | refine wCm 11 ?_))
  all_goals refine rPk 12 ?_
  all_goals refine rAs 13 ?_
  all_goals refine rAs 14 ?_
  all_goals refine rDone ?_
  unfold dO at hd
  repeat' (first | (refine tl_is (.tmp 55) ?_; refine tl_call rfl rfl hd tk rfl ?_; rintro v ρ' L' hle hp) | (refine i_op ?_; first | (refine i_qq ?_; refine qQ ?_) | refine qEf ?_) | refine tl_nil ?_ | (refine i_tc ?_; refine qTc ?_) | (refine i_te ?_; refine qTe ?_) | intro _)
  exact qE ⟨rfl, _, hp⟩
end Go.Proofs.E

namespace Go.Proofs.E
open Go
set_option linter.unusedVariables false
set_option linter.unusedSimpArgs false
set_option linter.unusedSectionVars false
set_option maxRecDepth 4000
set_option maxHeartbeats 1000000
attribute [local irreducible] Yl TL TC TE Spec YSpec R1 Hp.le EnvLe TS TR YS Stays
/-! ## sectors, as lists -/
theorem heldC_length {s : Secs} (h : ∀ p ∈ s, p.1.length = 64) : (heldC s).length = s.length * 64 := by
  induction s with
  | nil => rfl
  | cons p r ih =>
    have h1 := h p (by simp)
    have h2 := ih (fun q hq => h q (by simp [hq]))
    simp only [heldC, List.map_cons, List.flatten_cons, List.length_append, List.length_map, List.length_cons] at *
    omega
theorem heldC_take : ∀ {s : Secs} {i : Nat} (h : ∀ p ∈ s, p.1.length = 64) (hi : i < s.length), ((heldC s).drop (i * 64)).take 64 = (s[i].1).map u8c
  | [], i, h, hi => by simp at hi
  | p :: r, 0, h, hi => by
    have h1 := h p (by simp)
    simp only [heldC, List.map_cons, List.flatten_cons, Nat.zero_mul, List.drop_zero, List.getElem_cons_zero]
    rw [List.take_append_of_le_length (by simp [h1]), List.take_of_length_le (by simp [h1])]
  | p :: r, i + 1, h, hi => by
    have h1 := h p (by simp)
    have ih := heldC_take (s := r) (i := i) (fun q hq => h q (by simp [hq])) (by simpa using hi)
    simp only [heldC, List.map_cons, List.flatten_cons, List.getElem_cons_succ] at ih ⊢
    have e : (i + 1) * 64 = (p.1.map u8c).length + i * 64 := by simp [h1]; omega
    rw [e, ← List.drop_drop, List.drop_left]
    exact ih
theorem stc_heldC : ∀ {s : Secs} {i : Nat} {b : Blk} (x : Option Blk) (h : ∀ p ∈ s, p.1.length = 64) (hb : b.length = 64) (hi : i < s.length), stc (heldC s) (i * 64) (b.map u8c) = heldC (s.set i (b, x))
  | [], i, b, x, h, hb, hi => by simp at hi
  | p :: r, 0, b, x, h, hb, hi => by
    have h1 := h p (by simp)
    simp only [stc, heldC, List.map_cons, List.flatten_cons, Nat.zero_mul, List.take_zero, List.nil_append, Nat.zero_add, List.set_cons_zero]
    congr 1
    have e : (b.map u8c).length = (p.1.map u8c).length := by simp [hb, h1]
    rw [e, List.drop_left]
  | p :: r, i + 1, b, x, h, hb, hi => by
    have h1 := h p (by simp)
    have ih := stc_heldC (s := r) (i := i) (b := b) x (fun q hq => h q (by simp [hq])) hb (by simpa using hi)
    simp only [stc, heldC, List.map_cons, List.flatten_cons, List.set_cons_succ] at ih ⊢
    have e : (i + 1) * 64 = (p.1.map u8c).length + i * 64 := by simp [h1]; omega
    rw [e, List.take_length_add_append, Nat.add_assoc, ← List.drop_drop, List.drop_left, ← ih]
    simp
theorem heldC_take' {s : Secs} {i : Nat} (sp : List Value) (h : ∀ p ∈ s, p.1.length = 64) (hi : i < s.length) : ((heldC s ++ sp).drop (i * 64)).take 64 = (s[i].1).map u8c := by
  have hl := heldC_length h
  rw [List.drop_append_of_le_length (by omega), List.take_append_of_le_length (by simp; omega)]
  exact heldC_take h hi
theorem stc_heldC' {s : Secs} {i : Nat} {b : Blk} (sp : List Value) (x : Option Blk) (h : ∀ p ∈ s, p.1.length = 64) (hb : b.length = 64) (hi : i < s.length) : stc (heldC s ++ sp) (i * 64) (b.map u8c) = heldC (s.set i (b, x)) ++ sp := by
  have hl := heldC_length h
  rw [← stc_heldC x h hb hi]
  unfold stc
  rw [List.take_append_of_le_length (by omega), List.drop_append_of_le_length (by simp; omega)]
  simp
theorem heldC_length' {s : Secs} (sp : List Value) (h : ∀ p ∈ s, p.1.length = 64) : (heldC s ++ sp).length = s.length * 64 + sp.length := by
  rw [List.length_append, heldC_length h]
def putC (s : Secs) (i : Nat) (b : Blk) : Secs := s.set i ((s[i]?.getD ([], none)).1, some b)
theorem putC_length {s : Secs} {i b} : (putC s i b).length = s.length := by simp [putC]
theorem heldC_putC {s : Secs} {i : Nat} {b : Blk} (hi : i < s.length) : heldC (putC s i b) = heldC s := by
  unfold heldC putC
  rw [List.map_set]
  congr 1
  apply List.ext_getElem? ; intro j
  rw [List.getElem?_set]
  by_cases e : i = j
  · subst e; simp [hi]
  · simp [e]
theorem SecsOk.putC {s : Secs} {i : Nat} {b : Blk} (h : SecsOk s) (hb : b.length = 64) (hi : i < s.length) : SecsOk (putC s i b) := by
  have hm : ∀ p ∈ E.putC s i b, p ∈ s ∨ p = (s[i].1, some b) := fun p hp => by
    unfold E.putC at hp
    rcases List.mem_or_eq_of_mem_set hp with h1 | h1
    · exact .inl h1
    · right; rw [h1]; simp [hi]
  refine ⟨by rw [putC_length]; exact h.len, by rw [putC_length]; exact h.pos, fun p hp => ?_, fun p hp c hc => ?_⟩
  · rcases hm p hp with h1 | rfl
    · exact h.held p h1
    · exact h.held s[i] (List.getElem_mem hi)
  · rcases hm p hp with h1 | rfl
    · exact h.cached p h1 c hc
    · simp only [Option.some.injEq] at hc; subst hc; exact hb
theorem MapOk.put {s : Secs} {es es' : List MapEntry} {i : Int} {b : Blk} (h : MapOk s es) (h0 : 0 ≤ i) (hi : i < s.length) (hk : IntKeys .i64 es') (hg : ∀ j, mget es' j = if j = i then some (bv b) else mget es j) : MapOk (putC s i.toNat b) es' := by
  refine ⟨hk, fun j => ?_⟩
  rw [hg]
  by_cases e : j = i
  · subst e
    have : j.toNat < s.length := by omega
    simp [putC, h0, this]
  · rw [if_neg e, h.get]
    by_cases h1 : 0 ≤ j
    · have hne : i.toNat ≠ j.toNat := by omega
      simp only [h1, if_true, putC]
      rw [List.getElem?_set_ne hne]
    · simp [h1]
/-- what a sector says -/
def says1 (p : Blk × Option Blk) : Blk := p.2.getD p.1
theorem MapOk.at {s : Secs} {es : List MapEntry} (h : MapOk s es) {i : Nat} (hi : i < s.length) : mget es i = (s[i].2).map bv := by
  rw [h.get]; simp [hi]
def emptyC (s : Secs) : Prop := ∀ p ∈ s, p.2 = none
theorem MapOk.empty {s : Secs} (h : emptyC s) : MapOk s [] := by
  refine ⟨fun e he => by simp at he, fun j => ?_⟩
  by_cases h1 : 0 ≤ j
  · simp only [h1, if_true, mget, List.find?_nil, Option.map_none]
    cases hs : s[j.toNat]? with
    | none => simp
    | some p => simp [h p (List.mem_of_getElem? hs)]
  · simp [mget, h1]
end Go.Proofs.E

namespace Go.Proofs.E
open Go
set_option linter.unusedVariables false
set_option linter.unusedSimpArgs false
set_option linter.unusedSectionVars false
set_option maxRecDepth 4000
set_option maxHeartbeats 1000000
attribute [local irreducible] Yl TL TC TE Spec YSpec R1 Hp.le EnvLe TS TR YS Stays
structure DS where
  secs : Secs
  ops : Int
  armed : Int
  failing : Int
  dead : Bool
structure DS.Ok (D : DS) : Prop where
  secs : SecsOk D.secs
  a1 : -1 ≤ D.armed
  a2 : D.armed ≤ 9223372036854775807
  f1 : -1 ≤ D.failing
  f2 : D.failing ≤ 9223372036854775807
def diskL (b : Nat) (hb : HB) (mb : Nat) (es : List MapEntry) (ck : Nat) (D : DS) : SH := [[(b, dO hb mb D.secs.length D.ops D.armed D.failing D.dead)], [(hb.b, .cells ⟨heldC D.secs ++ hb.sp⟩ 66 (0, 0))], [(mb, .map ⟨es⟩ ck)]]
def cnt (n : Int) : Int := max (n - 1) (-1)
/-- an operation that has begun -/
def DS.tick (D : DS) : DS := { D with ops := IntKind.i64.wrap (D.ops + 1), failing := cnt D.failing }

theorem write1 (ρ : Hp) (b : Nat) (hb : HB) (mb xb pb ib n : Nat) (ops armed failing i : Int) (dead : Bool) (es : List MapEntry) (ck : Nat) (blk : Blk) (hb64 : blk.length = 64) (hk : IntKeys .i64 es) :
    Spec Try.prog 120 [.pointer (some ⟨xb, 0, none⟩), .pointer (some ⟨pb, 0, none⟩), .pointer (some ⟨ib, 0, none⟩)] ρ
      [[(b, dO hb mb n ops armed failing dead)], [(mb, .map ⟨es⟩ ck)], [(xb, .cells ⟨blk.map u8c⟩ 66 (0, 0))], [(pb, .cells ⟨[.pointer (some ⟨b, 0, none⟩)]⟩ 25 (0, 0))], [(ib, .cells ⟨[.int .i64 i]⟩ 3 (0, 0))]]
      (fun v ρ' L' => v = .tuple ⟨[]⟩ ∧ ρ' = ρ ∧ ∃ es' ck', IntKeys .i64 es' ∧ (∀ j, mget es' j = if j = i then some (bv blk) else mget es j) ∧
        L' = [[(b, dO hb mb n ops armed failing dead)], [(mb, .map ⟨es'⟩ ck')], [(xb, .cells ⟨blk.map u8c⟩ 66 (0, 0))], [(pb, .cells ⟨[.pointer (some ⟨b, 0, none⟩)]⟩ 25 (0, 0))], [(ib, .cells ⟨[.int .i64 i]⟩ 3 (0, 0))]]) := by
  refine spec_enter Try.func120 rfl rfl rfl fun u R => ?_
  simp only [argsE, List.cons_append, List.nil_append, dO]
  have hl : (blk.map u8c).length = 64 := by simpa using hb64
  repeat' (first | (refine i_op ?_; first | (refine i_qq ?_; refine qQ ?_) | refine qEf ?_) | refine tl_nil ?_ | (refine i_tc ?_; refine qTc ?_) | (refine i_te ?_; refine qTe ?_) | intro _)
  refine tc_draw 6 (by decide +kernel) (by decide +kernel) ?_
  repeat' (first | (refine jLd ?_; refine sLd ?_) | (refine jFa ?_; refine sFa ?_) | (refine jNc ?_; refine sNc ?_) | (refine j_gd ?_; first | refine sWant ?_ | refine sSkip ?_ | refine sSkipU ?_))
  all_goals refine ts_nil ?_
  refine tl_mapUpdate rfl rfl rfl hk (fun es' ck' h1 h2 => ?_)
  repeat' (first | (refine i_op ?_; first | (refine i_qq ?_; refine qQ ?_) | refine qEf ?_) | refine tl_nil ?_ | (refine i_tc ?_; refine qTc ?_) | (refine i_te ?_; refine qTe ?_) | intro _)
  exact qE ⟨rfl, rfl, es', ck', h1, h2, rfl⟩

/-- what a Write comes to -/
def DS.write (D : DS) (i : Int) (blk : Blk) : DS × Int :=
  if D.dead then (D, 9) else if i < 0 ∨ (D.secs.length : Int) ≤ i then (D, 2)
  else if D.armed = 0 then ({ D.tick with dead := true, secs := putC D.secs i.toNat blk }, 9)
  else if D.failing = 0 then (D.tick, 8)
  else ({ D.tick with armed := cnt D.armed, secs := putC D.secs i.toNat blk }, 0)
theorem dwrite_spec (ρ : Hp) (b : Nat) (hb : HB) (mb : Nat) (es : List MapEntry) (ck : Nat) (D : DS) (i : Int) (blk : Blk) (hb64 : blk.length = 64) (hD : D.Ok) (hm : MapOk D.secs es) :
    Spec Try.prog 86 [.pointer (some ⟨b, 0, none⟩), .int .i64 i, bv blk] ρ (diskL b hb mb es ck D)
      (fun v ρ' L' => v = .int .i64 (D.write i blk).2 ∧ ρ' = ρ ∧ ∃ es' ck', MapOk (D.write i blk).1.secs es' ∧ L' = diskL b hb mb es' ck' (D.write i blk).1) := by
  obtain ⟨s, ops, armed, failing, dead⟩ := D
  obtain ⟨hs, a1, a2, f1, f2⟩ := hD
  dsimp only at hs a1 a2 f1 f2 hm
  have hl : (blk.map u8c).length = 64 := by simpa using hb64
  have hk := hm.keys
  cases dead with
  | true =>
    have he : DS.write ⟨s, ops, armed, failing, true⟩ i blk = (⟨s, ops, armed, failing, true⟩, 9) := by simp [DS.write]
    simp only [he]
    refine spec_enter Try.func86 rfl rfl rfl fun u R => ?_
    simp only [argsE, List.cons_append, List.nil_append, diskL, bv]
    repeat' (first | (refine tl_is (.func 67) ?_; refine qC rfl rfl (does_dead _ _ _ _ _ _ _ _ _ _ _) ?_; rintro v ρ' L' hle ⟨rfl, rfl, rfl⟩ <;> (try simp only [List.cons_append, List.nil_append, List.append_eq])) | (refine i_op ?_; first | (refine i_qq ?_; refine qQ ?_) | refine qEf ?_) | refine tl_nil ?_ | (refine i_tc ?_; refine qTc ?_) | (refine i_te ?_; refine qTe ?_) | intro _)
    exact qE ⟨rfl, rfl, es, ck, hm, rfl⟩
  | false =>
    by_cases hi : i < 0 ∨ (s.length : Int) ≤ i
    · have he : DS.write ⟨s, ops, armed, failing, false⟩ i blk = (⟨s, ops, armed, failing, false⟩, 2) := by simp [DS.write, hi]
      simp only [he]
      refine spec_enter Try.func86 rfl rfl rfl fun u R => ?_
      simp only [argsE, List.cons_append, List.nil_append, diskL, bv]
      repeat' (first | (refine tl_is (.func 67) ?_; refine qC rfl rfl (does_arg _ _ _ _ _ _ _ _ _ _ _ hi) ?_; rintro v ρ' L' hle ⟨rfl, rfl, rfl⟩ <;> (try simp only [List.cons_append, List.nil_append, List.append_eq])) | (refine i_op ?_; first | (refine i_qq ?_; refine qQ ?_) | refine qEf ?_) | refine tl_nil ?_ | (refine i_tc ?_; refine qTc ?_) | (refine i_te ?_; refine qTe ?_) | intro _)
      exact qE ⟨rfl, rfl, es, ck, hm, rfl⟩
    · have hi0 : 0 ≤ i := by omega
      have hi1 : i < s.length := by omega
      have hlen : (putC s i.toNat blk).length = s.length := putC_length
      have hheld : heldC (putC s i.toNat blk) = heldC s := heldC_putC (by omega)
      by_cases ha : armed = 0
      · subst ha
        have he : DS.write ⟨s, ops, 0, failing, false⟩ i blk = (⟨putC s i.toNat blk, IntKind.i64.wrap (ops + 1), 0, cnt failing, true⟩, 9) := by simp [DS.write, hi, DS.tick]
        simp only [he]
        refine spec_enter Try.func86 rfl rfl rfl fun u R => ?_
        simp only [argsE, List.cons_append, List.nil_append, diskL, bv, hlen, hheld]
        repeat' (first | (refine tl_is (.func 67) ?_; refine qC rfl rfl (does_dies _ _ _ _ _ _ _ _ _ _ _ _ _ hi0 hi1 f1 f2 (write1 _ _ _ _ _ _ _ _ _ _ _ _ _ _ _ blk hb64 hk)) ?_; rintro v ρ' L' hle ⟨rfl, v0, h0, rfl, es', ck', h1, h2, rfl⟩ <;> (try simp only [List.cons_append, List.nil_append, List.append_eq])) | (refine i_op ?_; first | (refine i_qq ?_; refine qQ ?_) | refine qEf ?_) | refine tl_nil ?_ | (refine i_tc ?_; refine qTc ?_) | (refine i_te ?_; refine qTe ?_) | intro _)
        exact qE ⟨rfl, rfl, es', ck', hm.put hi0 hi1 h1 h2, rfl⟩
      · by_cases hf : failing = 0
        · subst hf
          have he : DS.write ⟨s, ops, armed, 0, false⟩ i blk = (⟨s, IntKind.i64.wrap (ops + 1), armed, -1, false⟩, 8) := by simp [DS.write, hi, DS.tick, ha, cnt]
          simp only [he]
          refine spec_enter Try.func86 rfl rfl rfl fun u R => ?_
          simp only [argsE, List.cons_append, List.nil_append, diskL, bv]
          repeat' (first | (refine tl_is (.func 67) ?_; refine qC rfl rfl (does_fail_w _ _ _ _ _ _ _ _ _ _ _ hi0 hi1 ha) ?_; rintro v ρ' L' hle ⟨rfl, rfl, rfl⟩ <;> (try simp only [List.cons_append, List.nil_append, List.append_eq])) | (refine i_op ?_; first | (refine i_qq ?_; refine qQ ?_) | refine qEf ?_) | refine tl_nil ?_ | (refine i_tc ?_; refine qTc ?_) | (refine i_te ?_; refine qTe ?_) | intro _)
          exact qE ⟨rfl, rfl, es, ck, hm, rfl⟩
        · have he : DS.write ⟨s, ops, armed, failing, false⟩ i blk = (⟨putC s i.toNat blk, IntKind.i64.wrap (ops + 1), cnt armed, cnt failing, false⟩, 0) := by simp [DS.write, hi, DS.tick, ha, hf]
          simp only [he]
          refine spec_enter Try.func86 rfl rfl rfl fun u R => ?_
          simp only [argsE, List.cons_append, List.nil_append, diskL, bv, hlen, hheld]
          repeat' (first | (refine tl_is (.func 67) ?_; refine qC rfl rfl (does_ok_w _ _ _ _ _ _ _ _ _ _ _ _ _ _ _ hi0 hi1 hf f1 f2 ha a1 a2 (write1 _ _ _ _ _ _ _ _ _ _ _ _ _ _ _ blk hb64 hk)) ?_; rintro v ρ' L' hle ⟨rfl, v0, h0, rfl, es', ck', h1, h2, rfl⟩ <;> (try simp only [List.cons_append, List.nil_append, List.append_eq])) | (refine i_op ?_; first | (refine i_qq ?_; refine qQ ?_) | refine qEf ?_) | refine tl_nil ?_ | (refine i_tc ?_; refine qTc ?_) | (refine i_te ?_; refine qTe ?_) | intro _)
          exact qE ⟨rfl, rfl, es', ck', hm.put hi0 hi1 h1 h2, rfl⟩
end Go.Proofs.E

namespace Go.Proofs.E
open Go
set_option linter.unusedVariables false
set_option linter.unusedSimpArgs false
set_option linter.unusedSectionVars false
set_option maxRecDepth 4000
set_option maxHeartbeats 1000000
attribute [local irreducible] Yl TL TC TE Spec YSpec R1 Hp.le EnvLe TS TR YS Stays
theorem read1 (ρ : Hp) (b : Nat) (hb : HB) (mb pb ib rb : Nat) (s : Secs) (ops armed failing : Int) (i : Nat) (dead : Bool) (es : List MapEntry) (ck : Nat) (r : List Value) (hr : r.length = 64) (hs : SecsOk s) (hm : MapOk s es) (hi : i < s.length) :
    Spec Try.prog 68 [.pointer (some ⟨pb, 0, none⟩), .pointer (some ⟨ib, 0, none⟩), .pointer (some ⟨rb, 0, none⟩)] ρ
      [[(b, dO hb mb s.length ops armed failing dead)], [(hb.b, .cells ⟨heldC s ++ hb.sp⟩ 66 (0, 0))], [(mb, .map ⟨es⟩ ck)], [(pb, .cells ⟨[.pointer (some ⟨b, 0, none⟩)]⟩ 25 (0, 0))], [(ib, .cells ⟨[.int .i64 i]⟩ 3 (0, 0))], [(rb, .cells ⟨r⟩ 66 (0, 0))]]
      (fun v ρ' L' => v = .tuple ⟨[]⟩ ∧ ρ' = ρ ∧ L' = [[(b, dO hb mb s.length ops armed failing dead)], [(hb.b, .cells ⟨heldC s ++ hb.sp⟩ 66 (0, 0))], [(mb, .map ⟨es⟩ ck)], [(pb, .cells ⟨[.pointer (some ⟨b, 0, none⟩)]⟩ 25 (0, 0))], [(ib, .cells ⟨[.int .i64 i]⟩ 3 (0, 0))], [(rb, .cells ⟨(says1 s[i]).map u8c⟩ 66 (0, 0))]]) := by
  have hk := hm.keys
  have hat := hm.at hi
  have hh : (s[i].1.map u8c).length = 64 := by simpa using hs.held s[i] (List.getElem_mem hi)
  have ht : ((heldC s ++ hb.sp).drop (0 + i * 64)).take 64 = (s[i].1).map u8c := by rw [Nat.zero_add]; exact heldC_take' hb.sp hs.held hi
  have hlen := heldC_length' hb.sp hs.held
  have o1 := u8c_one
  cases hc : s[i].2 with
  | none =>
    have hsay : says1 s[i] = s[i].1 := by simp [says1, hc]
    rw [hc] at hat
    simp only [Option.map_none] at hat
    have hone := u8c_one s[i].1
    refine spec_enter Try.func68 rfl rfl rfl fun u R => ?_
    simp only [argsE, List.cons_append, List.nil_append, dO, hsay]
    repeat' (first | (refine i_op ?_; first | (refine i_qq ?_; refine qQ ?_) | refine qEf ?_) | refine tl_nil ?_ | (refine i_tc ?_; refine qTc ?_) | (refine i_te ?_; refine qTe ?_) | intro _)
    refine tc_any (Stays _ _ _) stays_refl ?_
    all_goals refine rLd 0 ?_
    all_goals refine rNc 1 ?_
    all_goals refine rFa 2 ?_
    all_goals refine rLd 3 ?_
    all_goals refine rLd 4 ?_
    all_goals refine rLu 5 ?_
    all_goals refine rMv 6 ?_
    all_goals refine rEx 7 ?_
    all_goals refine rEx 8 ?_
    all_goals (refine rStep (i := 9) ?_; ((try refine qWant ?_); (first | (refine qEf ?_; try intro _)) <;> ((try simp only [List.cons_append, List.nil_append, List.append_eq]); refine tl_nil ?_; refine rNext ?_)))
    all_goals (refine rStep (i := 10) ?_; ((try refine qWant ?_); (first | (refine qEf ?_; try intro _)) <;> ((try simp only [List.cons_append, List.nil_append, List.append_eq]); refine tl_nil ?_; refine rNext ?_)))
    all_goals refine rFull ?_
    all_goals refine rAs 11 ?_
    all_goals refine rDone ?_
    repeat' (first | (refine i_op ?_; first | (refine i_qq ?_; refine qQ ?_) | refine qEf ?_) | refine tl_nil ?_ | (refine i_tc ?_; refine qTc ?_) | (refine i_te ?_; refine qTe ?_) | intro _)
    refine tc_draw 7 (by decide +kernel) (by decide +kernel) ?_
    repeat' (first | (refine jLd ?_; refine sLd ?_) | (refine jFa ?_; refine sFa ?_) | (refine jNc ?_; refine sNc ?_) | (refine jIa ?_; refine sIa ?_) | (refine j_gd ?_; first | refine sWant ?_ | refine sSkip ?_ | refine sSkipU ?_))
    all_goals refine ts_nil ?_
    repeat' (first | (refine i_op ?_; first | (refine i_qq ?_; refine qQ ?_) | refine qEf ?_) | refine tl_nil ?_ | (refine i_tc ?_; refine qTc ?_) | (refine i_te ?_; refine qTe ?_) | intro _)
    exact qE ⟨rfl, rfl, rfl⟩
  | some c =>
    have hsay : says1 s[i] = c := by simp [says1, hc]
    have hcl : (c.map u8c).length = 64 := by simpa using hs.cached s[i] (List.getElem_mem hi) c hc
    rw [hc] at hat
    simp only [Option.map_some] at hat
    have hone := u8c_one c
    refine spec_enter Try.func68 rfl rfl rfl fun u R => ?_
    simp only [argsE, List.cons_append, List.nil_append, dO, hsay]
    repeat' (first | (refine i_op ?_; first | (refine i_qq ?_; refine qQ ?_) | refine qEf ?_) | refine tl_nil ?_ | (refine i_tc ?_; refine qTc ?_) | (refine i_te ?_; refine qTe ?_) | intro _)
    refine tc_any (Stays _ _ _) stays_refl ?_
    all_goals refine rLd 0 ?_
    all_goals refine rNc 1 ?_
    all_goals refine rFa 2 ?_
    all_goals refine rLd 3 ?_
    all_goals refine rLd 4 ?_
    all_goals refine rLu 5 ?_
    all_goals refine rMv 6 ?_
    all_goals refine rEx 7 ?_
    all_goals refine rEx 8 ?_
    all_goals (refine rStep (i := 9) ?_; ((try refine qWant ?_); (first | (refine qEf ?_; try intro _)) <;> ((try simp only [List.cons_append, List.nil_append, List.append_eq]); refine tl_nil ?_; refine rNext ?_)))
    all_goals (refine rStep (i := 10) ?_; ((try refine qWant ?_); (first | (refine qEf ?_; try intro _)) <;> ((try simp only [List.cons_append, List.nil_append, List.append_eq]); refine tl_nil ?_; refine rNext ?_)))
    all_goals refine rFull ?_
    all_goals refine rAs 11 ?_
    all_goals refine rDone ?_
    repeat' (first | (refine i_op ?_; first | (refine i_qq ?_; refine qQ ?_) | refine qEf ?_) | refine tl_nil ?_ | (refine i_tc ?_; refine qTc ?_) | (refine i_te ?_; refine qTe ?_) | intro _)
    exact qE ⟨rfl, rfl, rfl⟩
def zblk : Blk := List.replicate 64 0
theorem zblk_cells : List.replicate 64 (Value.int .u8 0) = zblk.map u8c := by rfl
def DS.read (D : DS) (i : Int) : DS × Blk × Int :=
  if D.dead then (D, zblk, 9) else if i < 0 ∨ (D.secs.length : Int) ≤ i then (D, zblk, 2)
  else if D.failing = 0 then (D.tick, zblk, 8)
  else (D.tick, says1 (D.secs[i.toNat]?.getD (zblk, none)), 0)
theorem dread_spec (ρ : Hp) (b : Nat) (hb : HB) (mb : Nat) (es : List MapEntry) (ck : Nat) (D : DS) (i : Int) (hD : D.Ok) (hm : MapOk D.secs es) :
    Spec Try.prog 26 [.pointer (some ⟨b, 0, none⟩), .int .i64 i] ρ (diskL b hb mb es ck D)
      (fun v ρ' L' => v = .tuple ⟨[bv (D.read i).2.1, .int .i64 (D.read i).2.2]⟩ ∧ ρ' = ρ ∧ L' = diskL b hb mb es ck (D.read i).1) := by
  obtain ⟨s, ops, armed, failing, dead⟩ := D
  obtain ⟨hs, a1, a2, f1, f2⟩ := hD
  dsimp only at hs a1 a2 f1 f2 hm
  have hz0 : (List.replicate 64 (Value.int .u8 0)).length = 64 := by rfl
  have hz64 : (List.replicate 64 (Value.int .u8 0)).all (·.oneCell') = true := by rfl
  cases dead with
  | true =>
    have he : DS.read ⟨s, ops, armed, failing, true⟩ i = (⟨s, ops, armed, failing, true⟩, zblk, 9) := by simp [DS.read]
    simp only [he]
    refine spec_enter Try.func26 rfl rfl rfl fun u R => ?_
    simp only [argsE, List.cons_append, List.nil_append, diskL, bv, ← zblk_cells]
    repeat' (first | (refine tl_is (.func 67) ?_; refine qC rfl rfl (does_dead _ _ _ _ _ _ _ _ _ _ _) ?_; rintro v ρ' L' hle ⟨rfl, rfl, rfl⟩ <;> (try simp only [List.cons_append, List.nil_append, List.append_eq])) | (refine i_op ?_; first | (refine i_qq ?_; refine qQ ?_) | refine qEf ?_) | refine tl_nil ?_ | (refine i_tc ?_; refine qTc ?_) | (refine i_te ?_; refine qTe ?_) | intro _)
    exact qE ⟨rfl, rfl, rfl⟩
  | false =>
    by_cases hi : i < 0 ∨ (s.length : Int) ≤ i
    · have he : DS.read ⟨s, ops, armed, failing, false⟩ i = (⟨s, ops, armed, failing, false⟩, zblk, 2) := by simp [DS.read, hi]
      simp only [he]
      refine spec_enter Try.func26 rfl rfl rfl fun u R => ?_
      simp only [argsE, List.cons_append, List.nil_append, diskL, bv, ← zblk_cells]
      repeat' (first | (refine tl_is (.func 67) ?_; refine qC rfl rfl (does_arg _ _ _ _ _ _ _ _ _ _ _ hi) ?_; rintro v ρ' L' hle ⟨rfl, rfl, rfl⟩ <;> (try simp only [List.cons_append, List.nil_append, List.append_eq])) | (refine i_op ?_; first | (refine i_qq ?_; refine qQ ?_) | refine qEf ?_) | refine tl_nil ?_ | (refine i_tc ?_; refine qTc ?_) | (refine i_te ?_; refine qTe ?_) | intro _)
      exact qE ⟨rfl, rfl, rfl⟩
    · have hi0 : 0 ≤ i := by omega
      have hi1 : i < s.length := by omega
      by_cases hf : failing = 0
      · subst hf
        have he : DS.read ⟨s, ops, armed, 0, false⟩ i = (⟨s, IntKind.i64.wrap (ops + 1), armed, -1, false⟩, zblk, 8) := by simp [DS.read, hi, DS.tick, cnt]
        simp only [he]
        refine spec_enter Try.func26 rfl rfl rfl fun u R => ?_
        simp only [argsE, List.cons_append, List.nil_append, diskL, bv, ← zblk_cells]
        repeat' (first | (refine tl_is (.func 67) ?_; refine qC rfl rfl (does_fail_r _ _ _ _ _ _ _ _ _ hi0 hi1) ?_; rintro v ρ' L' hle ⟨rfl, rfl, rfl⟩ <;> (try simp only [List.cons_append, List.nil_append, List.append_eq])) | (refine i_op ?_; first | (refine i_qq ?_; refine qQ ?_) | refine qEf ?_) | refine tl_nil ?_ | (refine i_tc ?_; refine qTc ?_) | (refine i_te ?_; refine qTe ?_) | intro _)
        exact qE ⟨rfl, rfl, rfl⟩
      · obtain ⟨k, rfl⟩ : ∃ k : Nat, i = k := ⟨i.toNat, by omega⟩
        have hk : k < s.length := by omega
        have hsay : (says1 s[k]).length = 64 := by
          unfold says1
          cases hc : s[k].2 with
          | none => exact hs.held s[k] (List.getElem_mem hk)
          | some c => exact hs.cached s[k] (List.getElem_mem hk) c hc
        have hsl : ((says1 s[k]).map u8c).length = 64 := by simpa using hsay
        have hone := u8c_one (says1 s[k])
        have he : DS.read ⟨s, ops, armed, failing, false⟩ (k : Int) = (⟨s, IntKind.i64.wrap (ops + 1), armed, cnt failing, false⟩, says1 s[k], 0) := by simp [DS.read, hi, DS.tick, hf, hk]
        simp only [he]
        refine spec_enter Try.func26 rfl rfl rfl fun u R => ?_
        simp only [argsE, List.cons_append, List.nil_append, diskL, bv]
        repeat' (first | (refine tl_is (.func 67) ?_; refine qC rfl rfl (does_ok_r _ _ _ _ _ _ _ _ _ _ _ _ _ hi0 hi1 hf f1 f2 (read1 _ _ _ _ _ _ _ _ _ _ _ _ _ _ _ _ hz0 hs hm hk)) ?_; rintro v ρ' L' hle ⟨rfl, v0, h0, rfl, rfl⟩ <;> (try simp only [List.cons_append, List.nil_append, List.append_eq])) | (refine i_op ?_; first | (refine i_qq ?_; refine qQ ?_) | refine qEf ?_) | refine tl_nil ?_ | (refine i_tc ?_; refine qTc ?_) | (refine i_te ?_; refine qTe ?_) | intro _)
        exact qE ⟨rfl, rfl, rfl⟩
end Go.Proofs.E

namespace Go.Proofs.E
open Go
set_option linter.unusedVariables false
set_option linter.unusedSimpArgs false
set_option linter.unusedSectionVars false
set_option maxRecDepth 4000
set_option maxHeartbeats 1000000
attribute [local irreducible] Yl TL TC TE Spec YSpec R1 Hp.le EnvLe TS TR YS Stays
def isP (s : Secs) (i : Nat) : Bool := ((s[i]?).bind (·.2)).isSome
def pendTo (s : Secs) (k : Nat) : List Nat := (List.range k).filter (isP s)
def pend (s : Secs) : List Nat := pendTo s s.length
theorem pendTo_succ_t {s : Secs} {k : Nat} (h : isP s k = true) : pendTo s (k + 1) = pendTo s k ++ [k] := by simp [pendTo, List.range_succ, h]
theorem pendTo_succ_f {s : Secs} {k : Nat} (h : isP s k = false) : pendTo s (k + 1) = pendTo s k := by simp [pendTo, List.range_succ, h]
theorem pendTo_pre {s : Secs} {k m : Nat} (h : k ≤ m) : pendTo s k <+: pendTo s m := by
  induction m with
  | zero => have : k = 0 := by omega
            subst this; exact List.prefix_refl _
  | succ m ih =>
    by_cases e : k = m + 1
    · subst e; exact List.prefix_refl _
    · refine (ih (by omega)).trans ?_
      cases hp : isP s m
      · rw [pendTo_succ_f hp]; exact List.prefix_refl _
      · rw [pendTo_succ_t hp]; exact List.prefix_append _ _
def natE (i : Nat) : List Value := [.int .i64 i]

theorem pending1_iter (ρ0 : Hp) (b : Nat) (hb : HB) (mb bx : Nat) (s : Secs) (ops armed failing : Int) (dead : Bool) (es : List MapEntry) (ck : Nat) (hm : MapOk s es) (hs : SecsOk s) :
    Iter Try.prog 125 [] [.pointer (some ⟨bx, 0, none⟩)] natE ρ0
      [[(bx, .cells ⟨[.pointer (some ⟨b, 0, none⟩)]⟩ 25 (0, 0))], [(b, dO hb mb s.length ops armed failing dead)], [(mb, .map ⟨es⟩ ck)]] (pend s) := by
  intro l J Jx hY ρ Lj hle hJ
  refine spec_enter Try.func125 rfl rfl rfl fun u R => ?_
  simp only [argsE, List.cons_append, List.nil_append, dO]
  have hk := hm.keys
  have hlen := hs.len
  repeat' (first | (refine i_op ?_; first | (refine i_qq ?_; refine qQ ?_) | refine qEf ?_) | refine tl_nil ?_ | (refine i_tc ?_; refine qTc ?_) | (refine i_te ?_; refine qTe ?_) | intro _)
  refine tc_loop_e (fun (y : Nat × Hp × SH) => ⟨[(0, .func (.yield l) ⟨[]⟩ ⟨[]⟩), (1, .pointer (some ⟨bx, 0, none⟩)), (10, .int .i64 s.length), (11, .int .i64 y.1)], y.2.1,
      [[(bx, .cells ⟨[.pointer (some ⟨b, 0, none⟩)]⟩ 25 (0, 0))], [(b, dO hb mb s.length ops armed failing dead)], [(mb, .map ⟨es⟩ ck)]] ++ y.2.2 ++ R⟩)
    (fun y => y.1 ≤ s.length ∧ ρ.le y.2.1 ∧ J (pendTo s y.1) y.2.1 y.2.2) (fun y => s.length - y.1) (0, ρ, Lj) rfl ⟨by simp, Hp.le_refl _, hJ⟩
    ev_le rfl tk inferInstance ?_
  rintro ⟨k, ρ1, L1⟩ ⟨h1, h2, h3⟩
  dsimp only at h1 h2 h3 ⊢
  simp only [List.cons_append, List.nil_append, dO]
  by_cases hlt : k < s.length
  · have hat := hm.at hlt
    cases hc : s[k].2 with
    | none =>
      rw [hc] at hat
      simp only [Option.map_none] at hat
      have hp : isP s k = false := by simp [isP, hlt, hc]
      repeat' (first | (refine i_op ?_; first | (refine i_qq ?_; refine qQ ?_) | refine qEf ?_) | refine tl_nil ?_ | (refine i_tc ?_; refine qTc ?_) | (refine i_te ?_; refine qTe ?_) | intro _)
      refine te_round_e (Lm := [_, _, _] ++ L1) (R := R) (k + 1, ρ1, L1) rfl ⟨by omega, h2, by dsimp only; rw [pendTo_succ_f hp]; exact h3⟩ ev_le rfl tk inferInstance (by dsimp only; omega)
    | some c =>
      rw [hc] at hat
      simp only [Option.map_some] at hat
      have hp : isP s k = true := by simp [isP, hlt, hc]
      have hsub := pendTo_succ_t hp
      have hpre : pendTo s k ++ [k] <+: pend s := by rw [← hsub]; exact pendTo_pre (by omega)
      have hone := u8c_one c
      have hcl : (c.map u8c).length = 64 := by simpa using hs.cached s[k] (List.getElem_mem hlt) c hc
      have hy := hY (pendTo s k) k ρ1 L1 hpre (Hp.le_trans hle h2) h3
      unfold dO at hy
      repeat' (first | (refine tl_is (.tmp 25) ?_; refine qY rfl rfl (hy) ?_; rintro v ρ' L' hle ⟨Lj', rfl, ⟨rfl, hj⟩ | ⟨rfl, hj⟩⟩ <;> (try simp only [List.cons_append, List.nil_append, List.append_eq])) | (refine i_op ?_; first | (refine i_qq ?_; refine qQ ?_) | refine qEf ?_) | refine tl_nil ?_ | (refine i_tc ?_; refine qTc ?_) | (refine i_te ?_; refine qTe ?_) | intro _)
      · refine te_round_e (Lm := [_, _, _] ++ Lj') (R := R) (k + 1, ρ', Lj') rfl ⟨by omega, Hp.le_trans h2 hle, by dsimp only; rw [hsub]; exact hj⟩ ev_le rfl tk inferInstance (by dsimp only; omega)
      · exact te_end rfl rfl rfl (res0 rfl) (Hp.le_trans h2 hle) tk (by infer_instance) ⟨Lj', rfl, .inr hj⟩
  · have hk2 : k = s.length := by omega
    subst hk2
    repeat' (first | (refine i_op ?_; first | (refine i_qq ?_; refine qQ ?_) | refine qEf ?_) | refine tl_nil ?_ | (refine i_tc ?_; refine qTc ?_) | (refine i_te ?_; refine qTe ?_) | intro _)
    exact te_end rfl rfl rfl (res0 rfl) h2 tk (by infer_instance) ⟨L1, rfl, .inl h3⟩
theorem pending_spec (ρ : Hp) (b : Nat) : Spec Try.prog 93 [.pointer (some ⟨b, 0, none⟩)] ρ [] (fun v ρ' L' => ∃ bx, v = .func (.func 125) ⟨[]⟩ ⟨[.pointer (some ⟨bx, 0, none⟩)]⟩ ∧ ρ' = ρ ∧ L' = [[(bx, .cells ⟨[.pointer (some ⟨b, 0, none⟩)]⟩ 25 (0, 0))]]) := by
  refine spec_enter Try.func93 rfl rfl rfl fun u R => ?_
  simp only [argsE, List.cons_append, List.nil_append]
  repeat' (first | (refine i_op ?_; first | (refine i_qq ?_; refine qQ ?_) | refine qEf ?_) | refine tl_nil ?_ | (refine i_tc ?_; refine qTc ?_) | (refine i_te ?_; refine qTe ?_) | intro _)
  exact qE ⟨_, rfl, rfl, rfl⟩
theorem pendTo_length (s : Secs) (k : Nat) : (pendTo s k).length ≤ k := by
  unfold pendTo
  refine Nat.le_trans (List.length_filter_le _ _) (by simp)
theorem pend_length {s : Secs} (h : SecsOk s) : (pend s).length ≤ 2048 := Nat.le_trans (pendTo_length s _) h.len
end Go.Proofs.E

namespace Go.Proofs.E
open Go
set_option linter.unusedVariables false
set_option linter.unusedSimpArgs false
set_option linter.unusedSectionVars false
set_option maxRecDepth 4000
set_option maxHeartbeats 1000000
attribute [local irreducible] Yl TL TC TE Spec YSpec R1 Hp.le EnvLe TS TR YS Stays
theorem filter_range_pre (p : Nat → Bool) : ∀ (n : Nat) (pre : List Nat) (y : Nat), (pre ++ [y]) <+: (List.range n).filter p → pre = (List.range y).filter p ∧ p y = true ∧ y < n
  | 0, pre, y, h => by simp at h
  | n + 1, pre, y, h => by
    rw [List.range_succ, List.filter_append] at h
    cases hp : p n with
    | false =>
      have h' : (pre ++ [y]) <+: (List.range n).filter p := by simpa [hp] using h
      obtain ⟨h1, h2, h3⟩ := filter_range_pre p n pre y h'
      exact ⟨h1, h2, by omega⟩
    | true =>
      have h' : (pre ++ [y]) <+: (List.range n).filter p ++ [n] := by simpa [hp] using h
      by_cases hl : (pre ++ [y]).length ≤ ((List.range n).filter p).length
      · have h2 : (pre ++ [y]) <+: (List.range n).filter p := List.prefix_of_prefix_length_le h' (List.prefix_append _ _) hl
        obtain ⟨h1, h2, h3⟩ := filter_range_pre p n pre y h2
        exact ⟨h1, h2, by omega⟩
      · have hlen := h'.length_le
        have he : pre ++ [y] = (List.range n).filter p ++ [n] := h'.eq_of_length (by simp at hl hlen ⊢; omega)
        obtain ⟨h1, h2⟩ := List.append_inj' he rfl
        simp only [List.cons.injEq, and_true] at h2
        subst h2
        exact ⟨h1, hp, by omega⟩
/-- behind so many settled sectors: what is held -/
def setAfter (keep : Nat → Bool) (s : Secs) (m : Nat) : Secs := s.mapIdx fun i p => if isP s i && decide ((pendTo s i).length < m) && keep (pendTo s i).length then (p.2.getD p.1, p.2) else p
def settled (keep : Nat → Bool) (s : Secs) : Secs := (setAfter keep s (pend s).length).map fun p => (p.1, none)
theorem setAfter_length {keep s m} : (setAfter keep s m).length = s.length := by simp [setAfter]
theorem settled_length {keep s} : (settled keep s).length = s.length := by simp [settled, setAfter_length]
theorem setAfter_zero {keep : Nat → Bool} {s : Secs} : setAfter keep s 0 = s := by
  unfold setAfter
  apply List.ext_getElem (by simp)
  intro i h1 h2
  simp
theorem heldC_settled {keep s} : heldC (settled keep s) = heldC (setAfter keep s (pend s).length) := by simp [heldC, settled, Function.comp_def]
theorem pendTo_lt {s : Secs} {i j : Nat} (h : i < j) (hp : isP s i = true) : (pendTo s i).length < (pendTo s j).length := by
  have := (pendTo_pre (s := s) (k := i + 1) (m := j) (by omega)).length_le
  rw [pendTo_succ_t hp] at this
  simp at this; omega
theorem pendTo_le {s : Secs} {i j : Nat} (h : i ≤ j) : (pendTo s i).length ≤ (pendTo s j).length := (pendTo_pre h).length_le
theorem setAfter_succ {keep : Nat → Bool} {s : Secs} {y : Nat} {h c : Blk} (hy : s[y]? = some (h, some c)) :
    setAfter keep s ((pendTo s y).length + 1) = if keep (pendTo s y).length then (setAfter keep s (pendTo s y).length).set y (c, some c) else setAfter keep s (pendTo s y).length := by
  have hlt : y < s.length := (List.getElem?_eq_some_iff.1 hy).1
  have hyv : s[y] = (h, some c) := (List.getElem?_eq_some_iff.1 hy).2
  have hpy : isP s y = true := by simp [isP, hy]
  have key : ∀ i, i < s.length → i ≠ y → isP s i = true → ((pendTo s i).length < (pendTo s y).length + 1 ↔ (pendTo s i).length < (pendTo s y).length) := by
    intro i hi hne hp
    rcases Nat.lt_trichotomy i y with h1 | h1 | h1
    · have := pendTo_lt h1 hp; omega
    · exact absurd h1 hne
    · have := pendTo_lt h1 hpy; omega
  apply List.ext_getElem
  · split <;> simp [setAfter]
  · intro i h1 h2
    have hi : i < s.length := by simpa [setAfter] using h1
    by_cases e : i = y
    · subst e
      split
      · rename_i hk
        simp [setAfter, hpy, hk, hyv]
      · rename_i hk
        simp [setAfter, hpy, hk]
    · have hne : y ≠ i := fun h => e h.symm
      have : ∀ (q : Secs) (hq : i < q.length) (v : Blk × Option Blk) (hq2 : i < (q.set y v).length), (q.set y v)[i] = q[i] := fun q hq v hq2 => by rw [List.getElem_set_ne hne]
      cases hp : isP s i with
      | false => split <;> simp [setAfter, hp, List.getElem_set_ne hne]
      | true =>
        have hk := key i hi e hp
        split <;> simp [setAfter, hp, List.getElem_set_ne hne, hk]
theorem SecsOk.setAfter {keep : Nat → Bool} {s : Secs} {m : Nat} (h : SecsOk s) : SecsOk (setAfter keep s m) := by
  have hm : ∀ p ∈ E.setAfter keep s m, ∃ q ∈ s, p.2 = q.2 ∧ (p.1 = q.1 ∨ q.2 = some p.1) := by
    intro p hp
    obtain ⟨i, hi, rfl⟩ := List.mem_iff_getElem.1 hp
    have hi' : i < s.length := by simpa [E.setAfter] using hi
    refine ⟨s[i], List.getElem_mem hi', ?_⟩
    simp only [E.setAfter, List.getElem_mapIdx]
    split
    · refine ⟨rfl, ?_⟩
      cases hc : s[i].2 with
      | none => exact .inl rfl
      | some c => exact .inr rfl
    · exact ⟨rfl, .inl rfl⟩
  refine ⟨by rw [setAfter_length]; exact h.len, by rw [setAfter_length]; exact h.pos, fun p hp => ?_, fun p hp c hc => ?_⟩
  · obtain ⟨q, hq, h1, h2 | h2⟩ := hm p hp
    · rw [h2]; exact h.held q hq
    · exact h.cached q hq _ h2
  · obtain ⟨q, hq, h1, h2⟩ := hm p hp
    exact h.cached q hq c (by rw [← h1]; exact hc)
theorem SecsOk.settled {keep : Nat → Bool} {s : Secs} (h : SecsOk s) : SecsOk (settled keep s) := by
  have h1 := h.setAfter (keep := keep) (m := (pend s).length)
  refine ⟨by rw [settled_length]; exact h.len, by rw [settled_length]; exact h.pos, fun p hp => ?_, fun p hp c hc => ?_⟩
  · obtain ⟨q, hq, rfl⟩ := List.mem_map.1 hp
    exact h1.held q hq
  · obtain ⟨q, hq, rfl⟩ := List.mem_map.1 hp
    cases hc
theorem emptyC_settled {keep s} : emptyC (settled keep s) := fun p hp => by
  obtain ⟨q, hq, rfl⟩ := List.mem_map.1 hp
  rfl
end Go.Proofs.E

namespace Go.Proofs.E
open Go
set_option linter.unusedVariables false
set_option linter.unusedSimpArgs false
set_option linter.unusedSectionVars false
set_option maxRecDepth 4000
set_option maxHeartbeats 1000000
attribute [local irreducible] Yl TL TC TE Spec YSpec R1 Hp.le EnvLe TS TR YS Stays
theorem settle_spec (ρ : Hp) (b : Nat) (hb : HB) (mb : Nat) (es : List MapEntry) (ck : Nat) (s : Secs) (ops armed failing : Int) (dead : Bool) (kf : Nat) (kc : List Value) (Xk : SH) (keep : Nat → Bool) [hkF : Fun Try.prog kf]
    (hK : ∀ nth, nth < 2048 → Spec Try.prog kf ([.int .i64 (nth : Nat)] ++ kc) ρ Xk (fun v ρ' L' => v = .bool (keep nth) ∧ ρ' = ρ ∧ L' = Xk)) (hs : SecsOk s) (hm : MapOk s es) :
    Spec Try.prog 56 [.pointer (some ⟨b, 0, none⟩), .func (.func kf) ⟨[]⟩ ⟨kc⟩] ρ ([[(b, dO hb mb s.length ops armed failing dead)], [(hb.b, .cells ⟨heldC s ++ hb.sp⟩ 66 (0, 0))], [(mb, .map ⟨es⟩ ck)]] ++ Xk)
      (fun v ρ' L' => v = .tuple ⟨[]⟩ ∧ ρ.le ρ' ∧ ∃ mb' ck', L' = [[(b, dO hb mb' s.length ops armed failing dead)], [(hb.b, .cells ⟨heldC (settled keep s) ++ hb.sp⟩ 66 (0, 0))], [(mb', .map ⟨[]⟩ ck')]] ++ Xk) := by
  rw [heldC_settled]
  have hpl := pend_length hs
  have hk := hm.keys
  refine spec_enter Try.func56 rfl rfl rfl fun u R => ?_
  simp only [argsE, List.cons_append, List.nil_append, dO]
  repeat' (first | (refine tl_is (.func 93) ?_; refine qC rfl rfl (pending_spec _ _) ?_; rintro v ρ' L' hle ⟨bx, rfl, rfl, rfl⟩ <;> (try simp only [List.cons_append, List.nil_append, List.append_eq])) | (refine i_op ?_; first | (refine i_qq ?_; refine qQ ?_) | refine qEf ?_) | refine tl_nil ?_ | (refine i_tc ?_; refine qTc ?_) | (refine i_te ?_; refine qTe ?_) | intro _)
  rename_i bd bk bn
  refine tc_rangeFunc (S := [[(bx, .cells ⟨[.pointer (some ⟨b, 0, none⟩)]⟩ 25 (0, 0))], [(b, dO hb mb s.length ops armed failing dead)], [(mb, .map ⟨es⟩ ck)]])
    (L0 := [[(bd, .cells ⟨[.pointer (some ⟨b, 0, none⟩)]⟩ 25 (0, 0))], [(bk, .cells ⟨[.func (.func kf) ⟨[]⟩ ⟨kc⟩]⟩ 118 (0, 0))], [(bn, .cells ⟨[.int .i64 (0 : Nat)]⟩ 3 (0, 0))], [(hb.b, .cells ⟨heldC (setAfter keep s 0) ++ hb.sp⟩ 66 (0, 0))]] ++ Xk) (R := R) (R0 := ?r0) rfl rfl (pending1_iter ρ' b hb mb bx s ops armed failing dead es ck hm hs) (Hp.le_refl _) (fun _ => rfl) rfl
    (fun pre ρ1 Lu => ρ1 = ρ' ∧ Lu = [[(bd, .cells ⟨[.pointer (some ⟨b, 0, none⟩)]⟩ 25 (0, 0))], [(bk, .cells ⟨[.func (.func kf) ⟨[]⟩ ⟨kc⟩]⟩ 118 (0, 0))], [(bn, .cells ⟨[.int .i64 (pre.length : Nat)]⟩ 3 (0, 0))], [(hb.b, .cells ⟨heldC (setAfter keep s pre.length) ++ hb.sp⟩ 66 (0, 0))]] ++ Xk) (fun _ _ _ => False) ?k1 ?k2 ⟨rfl, rfl⟩ ?round ?done ?stop
  case k1 => unfold dO; exact tk
  case k2 => rw [setAfter_zero]; exact tk
  case stop => rintro D0 c ρ' Lu _ hf; exact hf.elim
  case round =>
    rintro l tm r pre y ρ1 Lu u R' hpre hle' ⟨rfl, rfl⟩ hr hrec
    simp only [envP, natE, List.cons_append, List.nil_append]
    have hlen := hpre.length_le
    simp only [List.length_append, List.length_singleton] at hlen
    obtain ⟨hpe, hpy, hy⟩ := filter_range_pre _ _ _ _ hpre
    repeat' (first | (refine i_op ?_; first | (refine i_qq ?_; refine qQ ?_) | refine qEf ?_) | refine tl_nil ?_ | (refine i_tc ?_; refine qTc ?_) | (refine i_te ?_; refine qTe ?_) | intro _)
    refine te_begin rfl hr (fun r' hbz hrec' => ?_)
    have hpl2 : (pendTo s y).length = pre.length := by rw [hpe]; rfl
    obtain ⟨hd0, c, hsy⟩ : ∃ h c, s[y]? = some (h, some c) := by
      simp only [isP, Option.isSome_iff_exists] at hpy
      obtain ⟨c, hc⟩ := hpy
      rw [List.getElem?_eq_getElem hy] at hc ⊢
      simp only [Option.bind_some] at hc
      exact ⟨s[y].1, c, by rw [← hc]⟩
    have hsv : s[y] = (hd0, some c) := (List.getElem?_eq_some_iff.1 hsy).2
    have hat := hm.at hy
    rw [hsv] at hat
    simp only [Option.map_some] at hat
    have hc64 : c.length = 64 := hs.cached s[y] (List.getElem_mem hy) c (by rw [hsv])
    have hcl : (c.map u8c).length = 64 := by simpa using hc64
    have hone := u8c_one c
    have hsa := hs.setAfter (keep := keep) (m := pre.length)
    have hhl : (heldC (setAfter keep s pre.length) ++ hb.sp).length = s.length * 64 + hb.sp.length := by rw [heldC_length' _ hsa.held, setAfter_length]
    have hnext := setAfter_succ (keep := keep) hsy
    rw [hpl2] at hnext
    have hst := stc_heldC' hb.sp (s := setAfter keep s pre.length) (i := y) (b := c) (some c) hsa.held hc64 (by rw [setAfter_length]; exact hy)
    repeat' (first | (refine tl_is (.tmp 9) ?_; refine qC rfl rfl (hK pre.length (by omega)) ?_; rintro v ρ' L' hle ⟨rfl, rfl, hx⟩ <;> (try simp only [List.cons_append, List.nil_append, List.append_eq, hx])) | (refine i_op ?_; first | (refine i_qq ?_; refine qQ ?_) | refine qEf ?_) | refine tl_nil ?_ | (refine i_tc ?_; refine qTc ?_) | (refine i_te ?_; refine qTe ?_) | intro _)
    cases hkp : keep pre.length with
    | false =>
      rw [hkp] at hnext
      simp only [Bool.false_eq_true, if_false] at hnext
      repeat' (first | (refine i_op ?_; first | (refine i_qq ?_; refine qQ ?_) | refine qEf ?_) | refine tl_nil ?_ | (refine i_tc ?_; refine qTc ?_) | (refine i_te ?_; refine qTe ?_) | intro _)
      refine te_front [(l, .loop r')] ?_
      refine te_next (Lu := [[(bd, .cells ⟨[.pointer (some ⟨b, 0, none⟩)]⟩ 25 (0, 0))], [(bk, .cells ⟨[.func (.func kf) ⟨[]⟩ ⟨kc⟩]⟩ 118 (0, 0))], [(bn, .cells ⟨[.int .i64 (pre.length + 1 : Nat)]⟩ 3 (0, 0))], [(hb.b, .cells ⟨heldC (setAfter keep s pre.length) ++ hb.sp⟩ 66 (0, 0))]] ++ Xk) rfl (Hp.le_refl _) ⟨hrec'.tmps.trans hrec.tmps, hrec'.params.trans hrec.params, hrec'.assign.trans hrec.assign, hrec'.body.trans hrec.body⟩ tk tk inferInstance ?_
      refine ⟨rfl, ?_⟩
      simp [hnext]
    | true =>
      rw [hkp] at hnext
      simp only [if_true] at hnext
      rw [← hnext] at hst
      repeat' (first | (refine i_op ?_; first | (refine i_qq ?_; refine qQ ?_) | refine qEf ?_) | refine tl_nil ?_ | (refine i_tc ?_; refine qTc ?_) | (refine i_te ?_; refine qTe ?_) | intro _)
      refine tc_draw 12 (by decide +kernel) (by decide +kernel) ?_
      repeat' (first | (refine jMv ?_; refine sMv ?_) | (refine jLd ?_; refine sLd ?_) | (refine jFa ?_; refine sFa ?_) | (refine jNc ?_; refine sNc ?_) | (refine jIa ?_; refine sIa ?_) | (refine jLu ?_; refine sLu ?_) | (refine j_gd ?_; first | refine sWant ?_ | refine sSkip ?_ | refine sSkipU ?_))
      all_goals refine ts_nil ?_
      repeat' (first | (refine i_op ?_; first | (refine i_qq ?_; refine qQ ?_) | refine qEf ?_) | refine tl_nil ?_ | (refine i_tc ?_; refine qTc ?_) | (refine i_te ?_; refine qTe ?_) | intro _)
      rw [Nat.zero_add, hst]
      refine te_front [(l, .loop r')] ?_
      refine te_next (Lu := [[(bd, .cells ⟨[.pointer (some ⟨b, 0, none⟩)]⟩ 25 (0, 0))], [(bk, .cells ⟨[.func (.func kf) ⟨[]⟩ ⟨kc⟩]⟩ 118 (0, 0))], [(bn, .cells ⟨[.int .i64 (pre.length + 1 : Nat)]⟩ 3 (0, 0))], [(hb.b, .cells ⟨heldC (setAfter keep s (pre.length + 1)) ++ hb.sp⟩ 66 (0, 0))]] ++ Xk) rfl (Hp.le_refl _) ⟨hrec'.tmps.trans hrec.tmps, hrec'.params.trans hrec.params, hrec'.assign.trans hrec.assign, hrec'.body.trans hrec.body⟩ tk tk inferInstance ?_
      refine ⟨rfl, ?_⟩
      simp
  case done =>
    rintro D0 ρ1 Lu hle' ⟨rfl, rfl⟩
    simp only [List.cons_append, List.nil_append, dO]
    repeat' (first | (refine i_op ?_; first | (refine i_qq ?_; refine qQ ?_) | refine qEf ?_) | refine tl_nil ?_ | (refine i_tc ?_; refine qTc ?_) | (refine i_te ?_; refine qTe ?_) | intro _)
    exact te_end_d rfl rfl rfl inferInstance (res0 rfl) (Hp.le_refl _) tk (by infer_instance) ⟨rfl, Hp.le_refl _, _, _, rfl⟩
end Go.Proofs.E

namespace Go.Proofs.E
open Go
set_option linter.unusedVariables false
set_option linter.unusedSimpArgs false
set_option linter.unusedSectionVars false
set_option maxRecDepth 4000
set_option maxHeartbeats 1000000
attribute [local irreducible] Yl TL TC TE Spec YSpec R1 Hp.le EnvLe TS TR YS Stays
theorem sync11 (ρ : Hp) (nth : Nat) : Spec Try.prog 122 [.int .i64 (nth : Nat)] ρ [] (fun v ρ' L' => v = .bool true ∧ ρ' = ρ ∧ L' = []) := by
  refine spec_enter Try.func122 rfl rfl rfl fun u R => ?_
  simp only [argsE, List.cons_append, List.nil_append]
  repeat' (first | (refine i_op ?_; first | (refine i_qq ?_; refine qQ ?_) | refine qEf ?_) | refine tl_nil ?_ | (refine i_tc ?_; refine qTc ?_) | (refine i_te ?_; refine qTe ?_) | intro _)
  exact qE ⟨rfl, rfl, rfl⟩
theorem sync2 (ρ : Hp) (X : SH) : Spec Try.prog 123 [] ρ X (fun v ρ' L' => v = .tuple ⟨[]⟩ ∧ ρ' = ρ ∧ L' = X) := by
  refine spec_enter Try.func123 rfl rfl rfl fun u R => ?_
  simp only [argsE, List.cons_append, List.nil_append]
  repeat' (first | (refine i_op ?_; first | (refine i_qq ?_; refine qQ ?_) | refine qEf ?_) | refine tl_nil ?_ | (refine i_tc ?_; refine qTc ?_) | (refine i_te ?_; refine qTe ?_) | intro _)
  exact te_end rfl rfl rfl (res0 rfl) (Hp.le_refl _) take_app' (by infer_instance) ⟨rfl, rfl, rfl⟩
theorem sync1 (ρ : Hp) (b : Nat) (hb : HB) (mb bx : Nat) (es : List MapEntry) (ck : Nat) (s : Secs) (ops armed failing : Int) (dead : Bool) (hs : SecsOk s) (hm : MapOk s es) :
    Spec Try.prog 121 [.pointer (some ⟨bx, 0, none⟩)] ρ ([(b, dO hb mb s.length ops armed failing dead)] :: [[(hb.b, .cells ⟨heldC s ++ hb.sp⟩ 66 (0, 0))], [(mb, .map ⟨es⟩ ck)], [(bx, .cells ⟨[.pointer (some ⟨b, 0, none⟩)]⟩ 25 (0, 0))]])
      (fun v ρ' L' => v = .tuple ⟨[]⟩ ∧ ρ.le ρ' ∧ ∃ mb' ck', L' = [[(b, dO hb mb' s.length ops armed failing dead)], [(hb.b, .cells ⟨heldC (settled (fun _ => true) s) ++ hb.sp⟩ 66 (0, 0))], [(mb', .map ⟨[]⟩ ck')]]) := by
  refine spec_enter Try.func121 rfl rfl rfl fun u R => ?_
  simp only [argsE, List.cons_append, List.nil_append]
  repeat' (first | (refine tl_is (.func 56) ?_; refine qC rfl rfl (settle_spec _ _ _ _ _ _ _ _ _ _ _ 122 [] [] (fun _ => true) (fun nth _ => sync11 _ nth) hs hm) ?_; rintro v ρ' L' hle ⟨rfl, hle2, mb', ck', rfl⟩ <;> (try simp only [List.cons_append, List.nil_append, List.append_eq])) | (refine i_op ?_; first | (refine i_qq ?_; refine qQ ?_) | refine qEf ?_) | refine tl_nil ?_ | (refine i_tc ?_; refine qTc ?_) | (refine i_te ?_; refine qTe ?_) | intro _)
  exact te_end rfl rfl rfl (res0 rfl) hle2 tk (by infer_instance) ⟨rfl, hle2, mb', ck', rfl⟩
/-- what a Sync comes to -/
def DS.sync (D : DS) : DS × Int :=
  if D.dead then (D, 9)
  else if D.armed = 0 then ({ D.tick with dead := true }, 9)
  else if D.failing = 0 then (D.tick, 8)
  else ({ D.tick with armed := cnt D.armed, secs := settled (fun _ => true) D.secs }, 0)
theorem dsync_spec (ρ : Hp) (b : Nat) (hb : HB) (mb : Nat) (es : List MapEntry) (ck : Nat) (D : DS) (hD : D.Ok) (hm : MapOk D.secs es) :
    Spec Try.prog 87 [.pointer (some ⟨b, 0, none⟩)] ρ (diskL b hb mb es ck D)
      (fun v ρ' L' => v = .int .i64 D.sync.2 ∧ ρ.le ρ' ∧ ∃ mb' es' ck', MapOk D.sync.1.secs es' ∧ L' = diskL b hb mb' es' ck' D.sync.1) := by
  obtain ⟨s, ops, armed, failing, dead⟩ := D
  obtain ⟨hs, a1, a2, f1, f2⟩ := hD
  dsimp only at hs a1 a2 f1 f2 hm
  have hpos : (0 : Int) < s.length := by have := hs.pos; omega
  cases dead with
  | true =>
    have he : DS.sync ⟨s, ops, armed, failing, true⟩ = (⟨s, ops, armed, failing, true⟩, 9) := by simp [DS.sync]
    simp only [he]
    refine spec_enter Try.func87 rfl rfl rfl fun u R => ?_
    simp only [argsE, List.cons_append, List.nil_append, diskL]
    repeat' (first | (refine tl_is (.func 67) ?_; refine qC rfl rfl (does_dead _ _ _ _ _ _ _ _ _ _ _) ?_; rintro v ρ' L' hle ⟨rfl, rfl, rfl⟩ <;> (try simp only [List.cons_append, List.nil_append, List.append_eq])) | (refine i_op ?_; first | (refine i_qq ?_; refine qQ ?_) | refine qEf ?_) | refine tl_nil ?_ | (refine i_tc ?_; refine qTc ?_) | (refine i_te ?_; refine qTe ?_) | intro _)
    exact qE ⟨rfl, Hp.le_refl _, mb, es, ck, hm, rfl⟩
  | false =>
    by_cases ha : armed = 0
    · subst ha
      have he : DS.sync ⟨s, ops, 0, failing, false⟩ = (⟨s, IntKind.i64.wrap (ops + 1), 0, cnt failing, true⟩, 9) := by simp [DS.sync, DS.tick]
      simp only [he]
      refine spec_enter Try.func87 rfl rfl rfl fun u R => ?_
      simp only [argsE, List.cons_append, List.nil_append, diskL]
      repeat' (first | (refine tl_is (.func 67) ?_; refine qC rfl rfl (does_dies _ _ _ _ _ _ _ _ _ _ _ [] _ (Int.le_refl 0) hpos f1 f2 (sync2 _ _)) ?_; rintro v ρ' L' hle ⟨rfl, v0, h0, rfl, rfl⟩ <;> (try simp only [List.cons_append, List.nil_append, List.append_eq])) | (refine i_op ?_; first | (refine i_qq ?_; refine qQ ?_) | refine qEf ?_) | refine tl_nil ?_ | (refine i_tc ?_; refine qTc ?_) | (refine i_te ?_; refine qTe ?_) | intro _)
      exact qE ⟨rfl, Hp.le_refl _, mb, es, ck, hm, rfl⟩
    · by_cases hf : failing = 0
      · subst hf
        have he : DS.sync ⟨s, ops, armed, 0, false⟩ = (⟨s, IntKind.i64.wrap (ops + 1), armed, -1, false⟩, 8) := by simp [DS.sync, DS.tick, ha, cnt]
        simp only [he]
        refine spec_enter Try.func87 rfl rfl rfl fun u R => ?_
        simp only [argsE, List.cons_append, List.nil_append, diskL]
        repeat' (first | (refine tl_is (.func 67) ?_; refine qC rfl rfl (does_fail_w _ _ _ _ _ _ _ _ _ _ _ (Int.le_refl 0) hpos ha) ?_; rintro v ρ' L' hle ⟨rfl, rfl, rfl⟩ <;> (try simp only [List.cons_append, List.nil_append, List.append_eq])) | (refine i_op ?_; first | (refine i_qq ?_; refine qQ ?_) | refine qEf ?_) | refine tl_nil ?_ | (refine i_tc ?_; refine qTc ?_) | (refine i_te ?_; refine qTe ?_) | intro _)
        exact qE ⟨rfl, Hp.le_refl _, mb, es, ck, hm, rfl⟩
      · have he : DS.sync ⟨s, ops, armed, failing, false⟩ = (⟨settled (fun _ => true) s, IntKind.i64.wrap (ops + 1), cnt armed, cnt failing, false⟩, 0) := by simp [DS.sync, DS.tick, ha, hf]
        simp only [he]
        refine spec_enter Try.func87 rfl rfl rfl fun u R => ?_
        simp only [argsE, List.cons_append, List.nil_append, diskL, settled_length]
        repeat' (first | (refine tl_is (.func 67) ?_; refine qC rfl rfl (does_ok_w _ _ _ _ _ _ _ _ _ _ _ _ _ _ _ (Int.le_refl 0) hpos hf f1 f2 ha a1 a2 (sync1 _ _ _ _ _ es ck s _ _ _ _ hs hm)) ?_; rintro v ρ' L' hle ⟨rfl, v0, h0, hle2, mb', ck', rfl⟩ <;> (try simp only [List.cons_append, List.nil_append, List.append_eq])) | (refine i_op ?_; first | (refine i_qq ?_; refine qQ ?_) | refine qEf ?_) | refine tl_nil ?_ | (refine i_tc ?_; refine qTc ?_) | (refine i_te ?_; refine qTe ?_) | intro _)
        exact te_end rfl rfl rfl (res1 rfl (r1_tmp rfl)) hle2 tk (by infer_instance) ⟨rfl, hle2, mb', [], ck', MapOk.empty emptyC_settled, rfl⟩
def DS.crash (keep : Nat → Bool) (D : DS) : DS := ⟨settled keep D.secs, D.ops, -1, -1, false⟩
theorem crash_spec (ρ : Hp) (b : Nat) (hb : HB) (mb : Nat) (es : List MapEntry) (ck : Nat) (D : DS) (hD : D.Ok) (hm : MapOk D.secs es) (ka : Option Addr) (kn kp : Nat) (X : SH) (keep : Nat → Bool)
    (hK : ∀ bk nth, nth < 2048 → Spec Try.prog 57 [.int .i64 (nth : Nat), .pointer (some ⟨bk, 0, none⟩)] ρ ([(bk, .cells ⟨[.slice ka kn kp]⟩ 43 (0, 0))] :: X) (fun v ρ' L' => v = .bool (keep nth) ∧ ρ' = ρ ∧ L' = [(bk, .cells ⟨[.slice ka kn kp]⟩ 43 (0, 0))] :: X)) :
    Spec Try.prog 22 [.pointer (some ⟨b, 0, none⟩), .slice ka kn kp] ρ (diskL b hb mb es ck D ++ X)
      (fun v ρ' L' => v = .int .i64 0 ∧ ρ.le ρ' ∧ ∃ mb' ck', L' = diskL b hb mb' [] ck' (D.crash keep) ++ X) := by
  obtain ⟨s, ops, armed, failing, dead⟩ := D
  obtain ⟨hs, a1, a2, f1, f2⟩ := hD
  dsimp only at hs a1 a2 f1 f2 hm
  have hpos := hs.pos
  refine spec_enter Try.func22 rfl rfl rfl fun u R => ?_
  simp only [argsE, List.cons_append, List.nil_append, diskL, DS.crash, settled_length]
  repeat' (first | (refine tl_is (.func 56) ?_; refine tl_call rfl rfl (settle_spec _ _ _ _ _ _ _ _ _ _ _ 57 [.pointer (some ⟨_, 0, none⟩)] ([(_, .cells ⟨[.slice ka kn kp]⟩ 43 (0, 0))] :: X) keep (fun nth h => hK _ nth h) hs hm) tk rfl ?_; rintro v ρ' L' hle ⟨rfl, hle2, mb', ck', rfl⟩; simp only [List.cons_append, List.nil_append, dO]) | (refine i_op ?_; first | (refine i_qq ?_; refine qQ ?_) | refine qEf ?_) | refine tl_nil ?_ | (refine i_tc ?_; refine qTc ?_) | (refine i_te ?_; refine qTe ?_) | intro _)
  exact te_end rfl rfl rfl (res1 rfl (r1_tmp rfl)) hle2 tk (by infer_instance) ⟨rfl, hle2, mb', ck', rfl⟩
/-! ## what a Crash keeps, by a list of flags -/
def keepB (ks : List Bool) (nth : Nat) : Bool := ks[nth]?.getD false
theorem crash1_over (ρ : Hp) (bk nth : Nat) (ka : Option Addr) (kn kp : Nat) (X : SH) (h : kn ≤ nth) : Spec Try.prog 57 [.int .i64 (nth : Nat), .pointer (some ⟨bk, 0, none⟩)] ρ ([(bk, .cells ⟨[.slice ka kn kp]⟩ 43 (0, 0))] :: X) (fun v ρ' L' => v = .bool false ∧ ρ' = ρ ∧ L' = [(bk, .cells ⟨[.slice ka kn kp]⟩ 43 (0, 0))] :: X) := by
  refine spec_enter Try.func57 rfl rfl rfl fun u R => ?_
  simp only [argsE, List.cons_append, List.nil_append]
  repeat' (first | (refine i_op ?_; first | (refine i_qq ?_; refine qQ ?_) | refine qEf ?_) | refine tl_nil ?_ | (refine i_tc ?_; refine qTc ?_) | (refine i_te ?_; refine qTe ?_) | intro _)
  exact te_end rfl rfl rfl (res1 rfl (r1_tmp rfl)) (Hp.le_refl _) (take_cons' rem_here' take_app') (by infer_instance) ⟨rfl, rfl, rfl⟩
theorem crash1_at (ρ : Hp) (bk nth kb o kn kp : Nat) (C : List Value) (T : TypeId) (fr : Nat × Nat) (f : Bool) (h : nth < kn) (hc : C[o + nth * 1]? = some (.bool f)) : Spec Try.prog 57 [.int .i64 (nth : Nat), .pointer (some ⟨bk, 0, none⟩)] ρ [[(bk, .cells ⟨[.slice (some ⟨kb, o, none⟩) kn kp]⟩ 43 (0, 0))], [(kb, .cells ⟨C⟩ T fr)]] (fun v ρ' L' => v = .bool f ∧ ρ' = ρ ∧ L' = [[(bk, .cells ⟨[.slice (some ⟨kb, o, none⟩) kn kp]⟩ 43 (0, 0))], [(kb, .cells ⟨C⟩ T fr)]]) := by
  refine spec_enter Try.func57 rfl rfl rfl fun u R => ?_
  simp only [argsE, List.cons_append, List.nil_append]
  repeat' (first | (refine i_op ?_; first | (refine i_qq ?_; refine qQ ?_) | refine qEf ?_) | refine tl_nil ?_ | (refine i_tc ?_; refine qTc ?_) | (refine i_te ?_; refine qTe ?_) | intro _)
  exact te_end rfl rfl rfl (res1 rfl (r1_tmp rfl)) (Hp.le_refl _) tk (by infer_instance) ⟨rfl, rfl, rfl⟩
theorem crash1_imm (ρ : Hp) (bk nth kb o kn kp : Nat) (C : List Value) (T : TypeId) (fr : Nat × Nat) (f : Bool) (h : nth < kn) (hc : C[o + nth * 1]? = some (.bool f)) (hb : ρ kb = some (.cells ⟨C⟩ T fr)) : Spec Try.prog 57 [.int .i64 (nth : Nat), .pointer (some ⟨bk, 0, none⟩)] ρ [[(bk, .cells ⟨[.slice (some ⟨kb, o, none⟩) kn kp]⟩ 43 (0, 0))]] (fun v ρ' L' => v = .bool f ∧ ρ' = ρ ∧ L' = [[(bk, .cells ⟨[.slice (some ⟨kb, o, none⟩) kn kp]⟩ 43 (0, 0))]]) := by
  refine spec_enter Try.func57 rfl rfl rfl fun u R => ?_
  simp only [argsE, List.cons_append, List.nil_append]
  repeat' (first | (refine i_op ?_; first | (refine i_qq ?_; refine qQ ?_) | refine qEf ?_) | refine tl_nil ?_ | (refine i_tc ?_; refine qTc ?_) | (refine i_te ?_; refine qTe ?_) | intro _)
  exact te_end rfl rfl rfl (res1 rfl (r1_tmp rfl)) (Hp.le_refl _) tk (by infer_instance) ⟨rfl, rfl, rfl⟩
end Go.Proofs.E

namespace Go.Proofs.E
open Go
set_option linter.unusedVariables false
set_option linter.unusedSimpArgs false
set_option linter.unusedSectionVars false
set_option maxRecDepth 4000
set_option maxHeartbeats 1000000
attribute [local irreducible] Yl TL TC TE Spec YSpec R1 Hp.le EnvLe TS TR YS Stays
def DS.arm (D : DS) (n : Int) : DS × Int := if D.dead then (D, 9) else ({ D with armed := max n (-1) }, 0)
def DS.fail (D : DS) (n : Int) : DS × Int := if D.dead then (D, 9) else ({ D with failing := max n (-1) }, 0)
theorem arm_spec (ρ : Hp) (b : Nat) (hb : HB) (mb n : Nat) (ops armed failing k : Int) (dead : Bool) : Spec Try.prog 18 [.pointer (some ⟨b, 0, none⟩), .int .i64 k] ρ [[(b, dO hb mb n ops armed failing dead)]]
    (fun v ρ' L' => v = .int .i64 (if dead then 9 else 0) ∧ ρ' = ρ ∧ L' = [[(b, dO hb mb n ops (if dead then armed else max k (-1)) failing dead)]]) := by
  cases dead with
  | true =>
    simp only [if_true]
    refine spec_enter Try.func18 rfl rfl rfl fun u R => ?_
    simp only [argsE, List.cons_append, List.nil_append]
    repeat' (first | (refine tl_is (.func 55) ?_; refine qC rfl rfl (lives_dead _ _ _ _ _ _ _ _) ?_; rintro v ρ' L' hle ⟨rfl, rfl, rfl⟩ <;> (try simp only [List.cons_append, List.nil_append, List.append_eq])) | (refine i_op ?_; first | (refine i_qq ?_; refine qQ ?_) | refine qEf ?_) | refine tl_nil ?_ | (refine i_tc ?_; refine qTc ?_) | (refine i_te ?_; refine qTe ?_) | intro _)
    exact qE ⟨rfl, rfl, rfl⟩
  | false =>
    simp only [Bool.false_eq_true, if_false]
    refine spec_enter Try.func18 rfl rfl rfl fun u R => ?_
    simp only [argsE, List.cons_append, List.nil_append]
    repeat' (first | (refine tl_is (.func 55) ?_; refine qC rfl rfl (lives_ok _ _ _ _ _ _ _ _) ?_; rintro v ρ' L' hle ⟨rfl, rfl, rfl⟩ <;> (try simp only [List.cons_append, List.nil_append, List.append_eq, dO])) | (refine i_op ?_; first | (refine i_qq ?_; refine qQ ?_) | refine qEf ?_) | refine tl_nil ?_ | (refine i_tc ?_; refine qTc ?_) | (refine i_te ?_; refine qTe ?_) | intro _)
    exact qE ⟨rfl, rfl, rfl⟩
theorem fail_spec (ρ : Hp) (b : Nat) (hb : HB) (mb n : Nat) (ops armed failing k : Int) (dead : Bool) : Spec Try.prog 19 [.pointer (some ⟨b, 0, none⟩), .int .i64 k] ρ [[(b, dO hb mb n ops armed failing dead)]]
    (fun v ρ' L' => v = .int .i64 (if dead then 9 else 0) ∧ ρ' = ρ ∧ L' = [[(b, dO hb mb n ops armed (if dead then failing else max k (-1)) dead)]]) := by
  cases dead with
  | true =>
    simp only [if_true]
    refine spec_enter Try.func19 rfl rfl rfl fun u R => ?_
    simp only [argsE, List.cons_append, List.nil_append]
    repeat' (first | (refine tl_is (.func 55) ?_; refine qC rfl rfl (lives_dead _ _ _ _ _ _ _ _) ?_; rintro v ρ' L' hle ⟨rfl, rfl, rfl⟩ <;> (try simp only [List.cons_append, List.nil_append, List.append_eq])) | (refine i_op ?_; first | (refine i_qq ?_; refine qQ ?_) | refine qEf ?_) | refine tl_nil ?_ | (refine i_tc ?_; refine qTc ?_) | (refine i_te ?_; refine qTe ?_) | intro _)
    exact qE ⟨rfl, rfl, rfl⟩
  | false =>
    simp only [Bool.false_eq_true, if_false]
    refine spec_enter Try.func19 rfl rfl rfl fun u R => ?_
    simp only [argsE, List.cons_append, List.nil_append]
    repeat' (first | (refine tl_is (.func 55) ?_; refine qC rfl rfl (lives_ok _ _ _ _ _ _ _ _) ?_; rintro v ρ' L' hle ⟨rfl, rfl, rfl⟩ <;> (try simp only [List.cons_append, List.nil_append, List.append_eq, dO])) | (refine i_op ?_; first | (refine i_qq ?_; refine qQ ?_) | refine qEf ?_) | refine tl_nil ?_ | (refine i_tc ?_; refine qTc ?_) | (refine i_te ?_; refine qTe ?_) | intro _)
    exact qE ⟨rfl, rfl, rfl⟩
theorem dead_spec (ρ : Hp) (b : Nat) (hb : HB) (mb n : Nat) (ops armed failing : Int) (dead : Bool) : Spec Try.prog 63 [.pointer (some ⟨b, 0, none⟩)] ρ [[(b, dO hb mb n ops armed failing dead)]]
    (fun v ρ' L' => v = .bool dead ∧ ρ' = ρ ∧ L' = [[(b, dO hb mb n ops armed failing dead)]]) := by
  refine spec_enter Try.func63 rfl rfl rfl fun u R => ?_
  simp only [argsE, List.cons_append, List.nil_append, dO]
  repeat' (first | (refine i_op ?_; first | (refine i_qq ?_; refine qQ ?_) | refine qEf ?_) | refine tl_nil ?_ | (refine i_tc ?_; refine qTc ?_) | (refine i_te ?_; refine qTe ?_) | intro _)
  exact qE ⟨rfl, rfl, rfl⟩
theorem len_spec (ρ : Hp) (b : Nat) (hb : HB) (mb n : Nat) (ops armed failing : Int) (dead : Bool) : Spec Try.prog 53 [.pointer (some ⟨b, 0, none⟩)] ρ [[(b, dO hb mb n ops armed failing dead)]]
    (fun v ρ' L' => v = .int .i64 (n : Nat) ∧ ρ' = ρ ∧ L' = [[(b, dO hb mb n ops armed failing dead)]]) := by
  refine spec_enter Try.func53 rfl rfl rfl fun u R => ?_
  simp only [argsE, List.cons_append, List.nil_append, dO]
  repeat' (first | (refine i_op ?_; first | (refine i_qq ?_; refine qQ ?_) | refine qEf ?_) | refine tl_nil ?_ | (refine i_tc ?_; refine qTc ?_) | (refine i_te ?_; refine qTe ?_) | intro _)
  exact qE ⟨rfl, rfl, rfl⟩
theorem ops_spec (ρ : Hp) (b : Nat) (hb : HB) (mb n : Nat) (ops armed failing : Int) (dead : Bool) : Spec Try.prog 34 [.pointer (some ⟨b, 0, none⟩)] ρ [[(b, dO hb mb n ops armed failing dead)]]
    (fun v ρ' L' => v = .int .i64 ops ∧ ρ' = ρ ∧ L' = [[(b, dO hb mb n ops armed failing dead)]]) := by
  refine spec_enter Try.func34 rfl rfl rfl fun u R => ?_
  simp only [argsE, List.cons_append, List.nil_append, dO]
  repeat' (first | (refine i_op ?_; first | (refine i_qq ?_; refine qQ ?_) | refine qEf ?_) | refine tl_nil ?_ | (refine i_tc ?_; refine qTc ?_) | (refine i_te ?_; refine qTe ?_) | intro _)
  exact qE ⟨rfl, rfl, rfl⟩
def fresh (n : Nat) : Secs := List.replicate n (zblk, none)
def DS.new (n : Nat) : DS := ⟨fresh n, 0, -1, -1, false⟩
theorem fresh_ok {n : Nat} (h0 : 0 < n) (h1 : n ≤ 2048) : SecsOk (fresh n) := by
  refine ⟨by simpa [fresh] using h1, by simpa [fresh] using h0, fun p hp => ?_, fun p hp c hc => ?_⟩ <;> (obtain ⟨_, rfl⟩ := List.mem_replicate.1 hp)
  · rfl
  · cases hc
theorem fresh_empty {n : Nat} : emptyC (fresh n) := fun p hp => by obtain ⟨_, rfl⟩ := List.mem_replicate.1 hp; rfl
theorem madeCells_rep (x : Value) (m : Nat) : ∀ n, 0 < m → madeCells ⟨List.replicate m x⟩ n = ⟨List.replicate n x⟩ := by
  intro n hm
  apply Array.ext
  · simp [madeCells]
  · intro i h1 h2
    have h3 : i % m < m := Nat.mod_lt _ hm
    simp [madeCells, h3]
theorem heldC_fresh (n : Nat) : heldC (fresh n) = List.replicate (n * 64) (.int .u8 0) := by
  unfold heldC fresh
  rw [List.map_replicate]
  have : zblk.map u8c = List.replicate 64 (Value.int .u8 0) := by rfl
  rw [this, List.flatten_replicate_replicate]
theorem new_spec (ρ : Hp) (n : Nat) (h0 : 0 < n) (h1 : n ≤ 2048) : Spec Try.prog 23 [.int .i64 (n : Nat)] ρ [] (fun v ρ' L' => ρ' = ρ ∧ ∃ b hb mb ck, v = .tuple ⟨[.pointer (some ⟨b, 0, none⟩), .int .i64 0]⟩ ∧ L' = diskL b hb mb [] ck (DS.new n)) := by
  refine spec_enter Try.func23 rfl rfl rfl fun u R => ?_
  have hl : (DS.new n).secs.length = n := by simp [DS.new, fresh]
  simp only [argsE, List.cons_append, List.nil_append, diskL, hl]
  simp only [DS.new, heldC_fresh]
  repeat' (first | (refine tl_makeSlice rfl rfl (by omega) (by omega) (by omega) (by omega) rfl (fun hbn => ?_); simp only [Value.cells, madeCells_rep _ 64 _ (by decide), Int.toNat_natCast]) | (refine i_op ?_; first | (refine i_qq ?_; refine qQ ?_) | refine qEf ?_) | refine tl_nil ?_ | (refine i_tc ?_; refine qTc ?_) | (refine i_te ?_; refine qTe ?_) | intro _)
  rename_i bm bd
  refine qE (L' := [[(bd, .cells _ 116 (0, 0))], [(hbn, _)], [(bm, .map _ _)]]) ⟨rfl, bd, ⟨hbn, n, []⟩, bm, 0, rfl, ?_⟩
  simp only [List.append_nil]
  rfl
theorem Hp.le_get {ρ ρ' : Hp} (h : ρ.le ρ') {b : Nat} {o : Obj} (hb : ρ b = some o) : ρ' b = some o := hp_get h hb

def bb (f : Bool) : Value := .bool f
theorem bb_one (l : List Bool) : (l.map bb).all (·.oneCell') = true := by
  rw [List.all_eq_true]; intro v hv; obtain ⟨b, _, rfl⟩ := List.mem_map.1 hv; rfl
/-- flags that lie in what the call was handed -/
structure KeepIn (ρ : Hp) (ka : Option Addr) (kn kp : Nat) (ks : List Bool) : Prop where
  le : kn ≤ kp
  len : ks.length = kn
  big : kn ≤ 9223372036854775807
  out : kn = 0 ∨ ∃ kb off C T fr, ka = some ⟨kb, off, none⟩ ∧ ρ kb = some (.cells ⟨C⟩ T fr) ∧ (C.drop off).take kn = ks.map bb
theorem KeepIn.mono {ρ ρ' : Hp} {ka kn kp ks} (h : KeepIn ρ ka kn kp ks) (hle : ρ.le ρ') : KeepIn ρ' ka kn kp ks :=
  ⟨h.le, h.len, h.big, by
    rcases h.out with h0 | ⟨kb, off, C, T, fr, h1, h2, h3⟩
    · exact .inl h0
    · exact .inr ⟨kb, off, C, T, fr, h1, Hp.le_get hle h2, h3⟩⟩
theorem crash1_own (ρ : Hp) (a : Option Addr) (n cap : Nat) (ks : List Bool) (sp : List Value) (hn : n = ks.length) (h : OwnS (.slice a n cap) n (ks.map bb) sp 1) (bk nth : Nat) : Spec Try.prog 57 [.int .i64 (nth : Nat), .pointer (some ⟨bk, 0, none⟩)] ρ ([(bk, .cells ⟨[.slice a n cap]⟩ 43 (0, 0))] :: [ownC (.slice a n cap) (ks.map bb) sp 4]) (fun v ρ' L' => v = .bool (keepB ks nth) ∧ ρ' = ρ ∧ L' = [(bk, .cells ⟨[.slice a n cap]⟩ 43 (0, 0))] :: [ownC (.slice a n cap) (ks.map bb) sp 4]) := by
  by_cases hlt : nth < n
  · rcases h.out with ⟨h1, h2, h3, h4⟩ | ⟨b, c, h1, h2, h3, h4⟩
    · omega
    · cases h1
      refine crash1_at ρ bk nth b 0 n cap (ks.map bb ++ sp) 4 (0, 0) (keepB ks nth) hlt ?_
      have h5 : nth < ks.length := by omega
      rw [Nat.zero_add, Nat.mul_one, List.getElem?_append_left (by simpa using h5)]
      simp [keepB, bb, h5]
  · have : keepB ks nth = false := by
      have : ks[nth]? = none := List.getElem?_eq_none (by omega)
      simp [keepB, this]
    rw [this]
    exact crash1_over ρ bk nth a n cap _ (by omega)
theorem MapOk.arm {D : DS} {es n} (h : MapOk D.secs es) : MapOk (D.arm n).1.secs es := by unfold DS.arm; split <;> exact h
theorem MapOk.fail {D : DS} {es n} (h : MapOk D.secs es) : MapOk (D.fail n).1.secs es := by unfold DS.fail; split <;> exact h
theorem arm_disk (ρ : Hp) (b : Nat) (hb : HB) (mb : Nat) (es : List MapEntry) (ck : Nat) (D : DS) (k : Int) : Spec Try.prog 18 [.pointer (some ⟨b, 0, none⟩), .int .i64 k] ρ (diskL b hb mb es ck D) (fun v ρ' L' => v = .int .i64 (D.arm k).2 ∧ ρ' = ρ ∧ L' = diskL b hb mb es ck (D.arm k).1) := by
  refine ((arm_spec ρ b hb mb D.secs.length D.ops D.armed D.failing k D.dead).frame [[(hb.b, .cells ⟨heldC D.secs ++ hb.sp⟩ 66 (0, 0))], [(mb, .map ⟨es⟩ ck)]]).mono ?_
  rintro v ρ' L' _ ⟨L1, rfl, rfl, rfl, rfl⟩
  obtain ⟨s, o, a, f, d⟩ := D
  cases d <;> exact ⟨rfl, rfl, rfl⟩
theorem fail_disk (ρ : Hp) (b : Nat) (hb : HB) (mb : Nat) (es : List MapEntry) (ck : Nat) (D : DS) (k : Int) : Spec Try.prog 19 [.pointer (some ⟨b, 0, none⟩), .int .i64 k] ρ (diskL b hb mb es ck D) (fun v ρ' L' => v = .int .i64 (D.fail k).2 ∧ ρ' = ρ ∧ L' = diskL b hb mb es ck (D.fail k).1) := by
  refine ((fail_spec ρ b hb mb D.secs.length D.ops D.armed D.failing k D.dead).frame [[(hb.b, .cells ⟨heldC D.secs ++ hb.sp⟩ 66 (0, 0))], [(mb, .map ⟨es⟩ ck)]]).mono ?_
  rintro v ρ' L' _ ⟨L1, rfl, rfl, rfl, rfl⟩
  obtain ⟨s, o, a, f, d⟩ := D
  cases d <;> exact ⟨rfl, rfl, rfl⟩
theorem len_disk (ρ : Hp) (b : Nat) (hb : HB) (mb : Nat) (es : List MapEntry) (ck : Nat) (D : DS) : Spec Try.prog 53 [.pointer (some ⟨b, 0, none⟩)] ρ (diskL b hb mb es ck D) (fun v ρ' L' => v = .int .i64 (D.secs.length : Nat) ∧ ρ' = ρ ∧ L' = diskL b hb mb es ck D) := by
  refine ((len_spec ρ b hb mb D.secs.length D.ops D.armed D.failing D.dead).frame [[(hb.b, .cells ⟨heldC D.secs ++ hb.sp⟩ 66 (0, 0))], [(mb, .map ⟨es⟩ ck)]]).mono ?_
  rintro v ρ' L' _ ⟨L1, rfl, rfl, rfl, rfl⟩
  exact ⟨rfl, rfl, rfl⟩
theorem dead_disk (ρ : Hp) (b : Nat) (hb : HB) (mb : Nat) (es : List MapEntry) (ck : Nat) (D : DS) : Spec Try.prog 63 [.pointer (some ⟨b, 0, none⟩)] ρ (diskL b hb mb es ck D) (fun v ρ' L' => v = .bool D.dead ∧ ρ' = ρ ∧ L' = diskL b hb mb es ck D) := by
  refine ((dead_spec ρ b hb mb D.secs.length D.ops D.armed D.failing D.dead).frame [[(hb.b, .cells ⟨heldC D.secs ++ hb.sp⟩ 66 (0, 0))], [(mb, .map ⟨es⟩ ck)]]).mono ?_
  rintro v ρ' L' _ ⟨L1, rfl, rfl, rfl, rfl⟩
  exact ⟨rfl, rfl, rfl⟩
theorem read_len {D : DS} (hD : D.Ok) (i : Int) : (D.read i).2.1.length = 64 := by
  unfold DS.read
  split
  · rfl
  · split
    · rfl
    · split
      · rfl
      · rename_i h1 h2 h3
        have hlt : i.toNat < D.secs.length := by omega
        simp only [List.getElem?_eq_getElem hlt, Option.getD_some]
        unfold says1
        cases hc : D.secs[i.toNat].2 with
        | none => exact hD.secs.held _ (List.getElem_mem hlt)
        | some c => exact hD.secs.cached _ (List.getElem_mem hlt) c hc
theorem read_secs {D : DS} (i : Int) : (D.read i).1.secs = D.secs := by
  unfold DS.read
  split
  · rfl
  · split
    · rfl
    · split <;> rfl
theorem MapOk.read {D : DS} {es i} (h : MapOk D.secs es) : MapOk (D.read i).1.secs es := by rw [read_secs]; exact h
theorem new_okD {n : Nat} (h0 : 0 < n) (h1 : n ≤ 2048) : (DS.new n).Ok := ⟨fresh_ok h0 h1, by simp [DS.new], by simp [DS.new], by simp [DS.new], by simp [DS.new]⟩
theorem OwnS.pos {v n xs sp sz} (h : OwnS v n xs sp sz) (h0 : 0 < n) : ∃ b cap, v = .slice (some ⟨b, 0, none⟩) n cap := by
  rcases h.out with ⟨_, h2, _⟩ | ⟨b, cap, h1, _⟩
  · omega
  · exact ⟨b, cap, h1⟩
theorem OwnS.full {n : Nat} (b : Nat) (xs : List Value) (h : xs.length = n) : OwnS (.slice (some ⟨b, 0, none⟩) n n) n xs [] 1 := ⟨.inr ⟨b, n, rfl, by omega, by simp; omega, Nat.le_refl _⟩⟩
theorem cnt_lo {n : Int} : -1 ≤ cnt n := by unfold cnt; omega
theorem cnt_hi {n : Int} (h : n ≤ 9223372036854775807) : cnt n ≤ 9223372036854775807 := by unfold cnt; omega
theorem DS.Ok.tick {D : DS} (h : D.Ok) : D.tick.Ok := ⟨h.secs, h.a1, h.a2, cnt_lo, cnt_hi h.f2⟩
theorem DS.Ok.read {D : DS} {i : Int} (h : D.Ok) : (D.read i).1.Ok := by
  unfold DS.read
  split
  · exact h
  · split
    · exact h
    · split <;> exact h.tick
theorem DS.Ok.write {D : DS} {i : Int} {b : Blk} (h : D.Ok) (hb : b.length = 64) : (D.write i b).1.Ok := by
  unfold DS.write
  split
  · exact h
  · split
    · exact h
    · rename_i h1 h2
      have hi : i.toNat < D.secs.length := by omega
      split
      · exact ⟨h.secs.putC hb hi, h.tick.a1, h.tick.a2, h.tick.f1, h.tick.f2⟩
      · split
        · exact h.tick
        · exact ⟨h.secs.putC hb hi, cnt_lo, cnt_hi h.a2, h.tick.f1, h.tick.f2⟩
theorem DS.Ok.sync {D : DS} (h : D.Ok) : D.sync.1.Ok := by
  unfold DS.sync
  split
  · exact h
  · split
    · exact ⟨h.secs, h.tick.a1, h.tick.a2, h.tick.f1, h.tick.f2⟩
    · split
      · exact h.tick
      · exact ⟨h.secs.settled, cnt_lo, cnt_hi h.a2, h.tick.f1, h.tick.f2⟩
theorem DS.Ok.crash {D : DS} {keep} (h : D.Ok) : (D.crash keep).Ok := ⟨h.secs.settled, by simp [DS.crash], by simp [DS.crash], by simp [DS.crash], by simp [DS.crash]⟩
/-- a disk that is alive, with nothing set to fail -/
structure DS.Calm (D : DS) : Prop where
  dead : D.dead = false
  armed : D.armed = -1
  failing : D.failing = -1
theorem new_calm {n} : (DS.new n).Calm := ⟨rfl, rfl, rfl⟩
theorem DS.Calm.read {D : DS} {i : Int} (h : D.Calm) : (D.read i).1.Calm := by
  obtain ⟨s, o, a, f, d⟩ := D
  obtain ⟨h1, h2, h3⟩ := h
  simp only at h1 h2 h3
  subst h1; subst h2; subst h3
  unfold DS.read
  simp only [Bool.false_eq_true, if_false]
  split
  · exact ⟨rfl, rfl, rfl⟩
  · exact ⟨rfl, rfl, rfl⟩
theorem DS.Calm.write {D : DS} {i : Int} {b : Blk} (h : D.Calm) : (D.write i b).1.Calm := by
  obtain ⟨s, o, a, f, d⟩ := D
  obtain ⟨h1, h2, h3⟩ := h
  simp only at h1 h2 h3
  subst h1; subst h2; subst h3
  unfold DS.write
  simp only [Bool.false_eq_true, if_false]
  split
  · exact ⟨rfl, rfl, rfl⟩
  · exact ⟨rfl, rfl, rfl⟩
theorem DS.Calm.sync_eq {D : DS} (h : D.Calm) : D.sync = (⟨settled (fun _ => true) D.secs, IntKind.i64.wrap (D.ops + 1), -1, -1, false⟩, 0) := by
  obtain ⟨s, o, a, f, d⟩ := D
  obtain ⟨h1, h2, h3⟩ := h
  simp only at h1 h2 h3
  subst h1; subst h2; subst h3
  rfl
end Go.Proofs.E

namespace Go.Proofs.E
open Go
set_option linter.unusedVariables false
set_option linter.unusedSimpArgs false
set_option linter.unusedSectionVars false
set_option maxRecDepth 4000
set_option maxHeartbeats 1000000
attribute [local irreducible] Yl TL TC TE Spec YSpec R1 Hp.le EnvLe TS TR YS Stays
theorem isP_putC {s : Secs} {i j : Nat} {b : Blk} (hi : i < s.length) : isP (putC s i b) j = (isP s j || decide (j = i)) := by
  unfold isP putC
  rw [List.getElem?_set]
  by_cases e : i = j
  · subst e; simp [hi]
  · have : ¬ j = i := fun h => e h.symm
    simp [e, this]
theorem isP_empty {s : Secs} (h : emptyC s) (j : Nat) : isP s j = false := by
  unfold isP
  cases hs : s[j]? with
  | none => rfl
  | some p =>
    have := h p (List.mem_of_getElem? hs)
    simp [this]
theorem filter_eq_one (n i : Nat) (hi : i < n) : (List.range n).filter (fun j => decide (j = i)) = [i] := by
  induction n with
  | zero => omega
  | succ n ih =>
    rw [List.range_succ, List.filter_append]
    by_cases e : i = n
    · subst e
      have : (List.range i).filter (fun j => decide (j = i)) = [] := by
        rw [List.filter_eq_nil_iff]; intro a ha; simp at ha ⊢; omega
      simp [this]
    · rw [ih (by omega)]
      have : ¬ n = i := fun h => e h.symm
      simp [this]
theorem DS.Calm.read_eq {D : DS} {i : Nat} (h : D.Calm) (hi : i < D.secs.length) : D.read i = (⟨D.secs, IntKind.i64.wrap (D.ops + 1), -1, -1, false⟩, says1 D.secs[i], 0) := by
  obtain ⟨s, o, a, f, d⟩ := D
  obtain ⟨h1, h2, h3⟩ := h
  simp only at h1 h2 h3
  subst h1; subst h2; subst h3
  simp only at hi
  have hn : ¬ ((i : Int) < 0 ∨ (s.length : Int) ≤ i) := by omega
  have hc : cnt (-1) = -1 := by decide
  unfold DS.read
  simp only [hn, if_false, Bool.false_eq_true, DS.tick, hc, show ¬ ((-1 : Int) = 0) by decide, Int.toNat_natCast, List.getElem?_eq_getElem hi, Option.getD_some]
theorem DS.Calm.write_eq {D : DS} {i : Nat} {b : Blk} (h : D.Calm) (hi : i < D.secs.length) : D.write i b = (⟨putC D.secs i b, IntKind.i64.wrap (D.ops + 1), -1, -1, false⟩, 0) := by
  obtain ⟨s, o, a, f, d⟩ := D
  obtain ⟨h1, h2, h3⟩ := h
  simp only at h1 h2 h3
  subst h1; subst h2; subst h3
  simp only at hi
  have hn : ¬ ((i : Int) < 0 ∨ (s.length : Int) ≤ i) := by omega
  have hc : cnt (-1) = -1 := by decide
  unfold DS.write
  simp only [hn, if_false, Bool.false_eq_true, DS.tick, hc, show ¬ ((-1 : Int) = 0) by decide, Int.toNat_natCast]
theorem DS.Calm.mk' {s o} : (⟨s, o, -1, -1, false⟩ : DS).Calm := ⟨rfl, rfl, rfl⟩
theorem DS.Ok.mk' {s o} (h : SecsOk s) : (⟨s, o, -1, -1, false⟩ : DS).Ok := ⟨h, by simp, by simp, by simp, by simp⟩
theorem putC_self {s : Secs} {i : Nat} {b : Blk} (hi : i < s.length) (h' : i < (putC s i b).length) : (putC s i b)[i] = (s[i].1, some b) := by
  simp [putC, hi]
theorem settled_at {keep : Nat → Bool} {s : Secs} {i : Nat} (hi : i < s.length) (h' : i < (settled keep s).length) :
    (settled keep s)[i] = (if isP s i && keep (pendTo s i).length then (s[i].2.getD s[i].1, none) else (s[i].1, none)) := by
  have hlt : isP s i = true → (pendTo s i).length < (pend s).length := fun hp => by
    have := (pendTo_pre (s := s) (k := i + 1) (m := s.length) (by omega)).length_le
    rw [pendTo_succ_t hp] at this
    simp only [List.length_append, List.length_singleton] at this
    unfold pend; omega
  simp only [settled, setAfter, List.getElem_map, List.getElem_mapIdx]
  cases hp : isP s i with
  | false => simp
  | true =>
    have := hlt hp
    simp only [this, decide_true, Bool.true_and]
    cases keep (pendTo s i).length <;> simp
theorem says_settled {keep : Nat → Bool} {s : Secs} {i : Nat} (hi : i < s.length) (h' : i < (settled keep s).length) :
    says1 (settled keep s)[i] = if isP s i && keep (pendTo s i).length then says1 s[i] else s[i].1 := by
  rw [settled_at hi]
  split <;> simp [says1]
theorem crash_own (ρ : Hp) (b : Nat) (hb : HB) (mb : Nat) (es : List MapEntry) (ck : Nat) (D : DS) (hD : D.Ok) (hm : MapOk D.secs es) (a : Option Addr) (n cap : Nat) (ks : List Bool) (sp : List Value) (hn : n = ks.length) (h : OwnS (.slice a n cap) n (ks.map bb) sp 1) :
    Spec Try.prog 22 [.pointer (some ⟨b, 0, none⟩), .slice a n cap] ρ (diskL b hb mb es ck D ++ [ownC (.slice a n cap) (ks.map bb) sp 4])
      (fun v ρ' L' => v = .int .i64 0 ∧ ρ.le ρ' ∧ ∃ mb' ck', L' = diskL b hb mb' [] ck' (D.crash (keepB ks)) ++ [ownC (.slice a n cap) (ks.map bb) sp 4]) :=
  crash_spec ρ b hb mb es ck D hD hm a n cap [ownC (.slice a n cap) (ks.map bb) sp 4] (keepB ks) (fun bk nth _ => crash1_own ρ a n cap ks sp hn h bk nth)
/-! ## Copy -/
theorem clone46 (ρ : Hp) (b n cap : Nat) (xs sp : List Value) (hl : xs.length = n * 64) (hn : 0 < n) (hbig : n ≤ 100000) (h1 : xs.all (·.oneCell') = true) :
    Spec Try.prog 78 [.slice (some ⟨b, 0, none⟩) n cap] ρ [[(b, .cells ⟨xs ++ sp⟩ 66 (0, 0))]] (fun v ρ' L' => ρ' = ρ ∧ ∃ sp', OwnS v n xs sp' 64 ∧ L' = [[(b, .cells ⟨xs ++ sp⟩ 66 (0, 0))], ownC v xs sp' 66]) := by
  refine spec_enter Try.func78 rfl rfl rfl fun u R => ?_
  simp only [argsE, List.cons_append, List.nil_append]
  have hsrc : ((xs ++ sp).drop 0).take (n * 64) = xs := by simp [hl]
  repeat' (first | (refine i_op ?_; first | (refine i_qq ?_; refine qQ ?_) | refine qEf ?_) | refine tl_nil ?_ | (refine i_tc ?_; refine qTc ?_) | (refine i_te ?_; refine qTe ?_) | intro _)
  refine tl_append (n := 0) (xs := []) (sp := []) (ys := xs) rfl rfl (OwnS.zero _ 64) (hR := rem_here') (Src.find (n := n * 64) hsrc) hl h1 hn rfl (by omega) (by omega) rfl (fun v' sp' hown' => ?_)
  simp only [Nat.zero_add, List.nil_append] at hown' ⊢
  repeat' (first | (refine i_op ?_; first | (refine i_qq ?_; refine qQ ?_) | refine qEf ?_) | refine tl_nil ?_ | (refine i_tc ?_; refine qTc ?_) | (refine i_te ?_; refine qTe ?_) | intro _)
  exact te_end rfl rfl rfl (res1 rfl (r1_tmp rfl)) (Hp.le_refl _) tk (by infer_instance) ⟨rfl, sp', hown', rfl⟩
theorem mclone47 (ρ : Hp) (b : Nat) (es : Array MapEntry) (ck : Nat) : Spec Try.prog 79 [.map (some b)] ρ [[(b, .map es ck)]] (fun v ρ' L' => ρ' = ρ ∧ ∃ b', v = .map (some b') ∧ L' = [[(b, .map es ck)], [(b', .map es ck)]]) := by
  refine spec_enter Try.func79 rfl rfl rfl fun u R => ?_
  simp only [argsE, List.cons_append, List.nil_append]
  repeat' (first | (refine tl_is (.func 107) ?_; refine tl_mapsClone rfl Try.func107 rfl rfl rfl rfl rfl (fun _ => ?_)) | (refine i_op ?_; first | (refine i_qq ?_; refine qQ ?_) | refine qEf ?_) | refine tl_nil ?_ | (refine i_tc ?_; refine qTc ?_) | (refine i_te ?_; refine qTe ?_) | intro _)
  exact qE ⟨rfl, _, rfl, rfl⟩
theorem copy_nil (ρ : Hp) : Spec Try.prog 36 [.pointer none] ρ [] (fun v ρ' L' => v = .pointer none ∧ ρ' = ρ ∧ L' = []) := by
  refine spec_enter Try.func36 rfl rfl rfl fun u R => ?_
  simp only [argsE, List.cons_append, List.nil_append]
  repeat' (first | (refine i_op ?_; first | (refine i_qq ?_; refine qQ ?_) | refine qEf ?_) | refine tl_nil ?_ | (refine i_tc ?_; refine qTc ?_) | (refine i_te ?_; refine qTe ?_) | intro _)
  exact qE ⟨rfl, rfl, rfl⟩
theorem heldC_one (s : Secs) : (heldC s).all (·.oneCell') = true := by
  unfold heldC
  rw [List.all_flatten, List.all_map, List.all_eq_true]
  intro p _
  exact u8c_one p.1
theorem copy_spec (ρ : Hp) (b : Nat) (hb : HB) (mb : Nat) (es : List MapEntry) (ck : Nat) (D : DS) (hD : D.Ok) :
    Spec Try.prog 36 [.pointer (some ⟨b, 0, none⟩)] ρ (diskL b hb mb es ck D) (fun v ρ' L' => ρ' = ρ ∧ ∃ b' hb' mb', v = .pointer (some ⟨b', 0, none⟩) ∧ L' = diskL b hb mb es ck D ++ diskL b' hb' mb' es ck D) := by
  obtain ⟨s, ops, armed, failing, dead⟩ := D
  have hs := hD.secs
  dsimp only at hs
  have hlen := hs.len
  have hpos := hs.pos
  have hl := heldC_length hs.held
  have h1 := heldC_one s
  refine spec_enter Try.func36 rfl rfl rfl fun u R => ?_
  simp only [argsE, List.cons_append, List.nil_append, diskL, dO]
  repeat' (first | (refine i_op ?_; first | (refine i_qq ?_; refine qQ ?_) | refine qEf ?_) | refine tl_nil ?_ | (refine i_tc ?_; refine qTc ?_) | (refine i_te ?_; refine qTe ?_) | intro _)
  rename_i bc
  refine tc_any (Stays _ _ ([[(b, .cells ⟨[.slice (some ⟨hb.b, 0, none⟩) s.length hb.cap, .map (some mb), .int .i64 ops, .int .i64 armed, .int .i64 failing, .bool dead]⟩ 116 (0, 0))]])) (stays_of (hT := tk) (Hp.le_refl _)) ?_
  all_goals refine rMv 0 ?_
  all_goals refine rNc 1 ?_
  all_goals refine rFa 2 ?_
  all_goals refine rLd 3 ?_
  all_goals refine rMv 5 ?_
  all_goals refine rNc 6 ?_
  all_goals refine rFa 7 ?_
  all_goals refine rLd 8 ?_
  all_goals (refine rStep (i := 4) ?_; ((try refine qWant ?_); (first | (refine tl_is (.func 78) ?_; refine qC rfl rfl (clone46 _ hb.b s.length hb.cap (heldC s) hb.sp hl hpos (by omega) h1) ?_; rintro v ρ' L' hle ⟨rfl, sp', hown, rfl⟩; obtain ⟨hb', hc', rfl⟩ := hown.pos hpos; simp only [ownC, List.cons_append, List.nil_append]) | (refine qEf ?_; try intro _)) <;> ((try simp only [List.cons_append, List.nil_append, List.append_eq]); refine tl_nil ?_; refine rNext ?_)))
  all_goals (refine rStep (i := 9) ?_; ((try refine qWant ?_); (first | (refine tl_is (.func 79) ?_; refine qC rfl rfl (mclone47 _ mb _ ck) ?_; rintro v ρ' L' hle ⟨rfl, mb', rfl, rfl⟩ <;> (try simp only [List.cons_append, List.nil_append, List.append_eq])) | (refine qEf ?_; try intro _)) <;> ((try simp only [List.cons_append, List.nil_append, List.append_eq]); refine tl_nil ?_; refine rNext ?_)))
  all_goals refine rFa 10 ?_
  all_goals (refine rStep (i := 11) ?_; ((try refine qWant ?_); (first | (refine qEf ?_; try intro _)) <;> ((try simp only [List.cons_append, List.nil_append, List.append_eq]); refine tl_nil ?_; refine rNext ?_)))
  all_goals refine rFa 12 ?_
  all_goals (refine rStep (i := 13) ?_; ((try refine qWant ?_); (first | (refine qEf ?_; try intro _)) <;> ((try simp only [List.cons_append, List.nil_append, List.append_eq]); refine tl_nil ?_; refine rNext ?_)))
  all_goals refine rDone ?_
  repeat' (first | (refine i_op ?_; first | (refine i_qq ?_; refine qQ ?_) | refine qEf ?_) | refine tl_nil ?_ | (refine i_tc ?_; refine qTc ?_) | (refine i_te ?_; refine qTe ?_) | intro _)
  exact qE ⟨rfl, bc, ⟨hb', hc', sp'⟩, mb', rfl, rfl⟩
theorem crash_in (ρ : Hp) (b : Nat) (hb : HB) (mb : Nat) (es : List MapEntry) (ck : Nat) (D : DS) (hD : D.Ok) (hm : MapOk D.secs es) (ka : Option Addr) (kn kp m : Nat) (ks : List Bool) (hk : KeepIn ρ ka kn kp ks) (hmn : m = min kn 60) :
    Spec Try.prog 22 [.pointer (some ⟨b, 0, none⟩), .slice ka m kp] ρ (diskL b hb mb es ck D)
      (fun v ρ' L' => v = .int .i64 0 ∧ ρ.le ρ' ∧ ∃ mb' ck', L' = diskL b hb mb' [] ck' (D.crash (keepB (ks.take 60)))) := by
  have := crash_spec ρ b hb mb es ck D hD hm ka m kp [] (keepB (ks.take 60)) (fun bk nth _ => by
    obtain ⟨h1, h2, h3, h4⟩ := hk
    by_cases hlt : nth < m
    · obtain ⟨kb, off, C, T, fr, rfl, e2, e3⟩ := h4.resolve_left (by omega)
      have hn : nth < ks.length := by omega
      have hc : C[off + nth * 1]? = some (.bool ks[nth]) := by
        have := congrArg (fun l : List Value => l[nth]?) e3

        rw [List.getElem?_take_of_lt (by omega), List.getElem?_drop] at this
        rw [Nat.mul_one, this]; simp [hn, bb]
      have hkb : keepB (ks.take 60) nth = ks[nth] := by
        unfold keepB
        rw [List.getElem?_take_of_lt (by omega), List.getElem?_eq_getElem hn, Option.getD_some]
      rw [hkb]
      exact crash1_imm ρ bk nth kb off m kp C T fr _ hlt hc e2
    · have hkb : keepB (ks.take 60) nth = false := by
        unfold keepB
        rw [List.getElem?_eq_none (by simp; omega)]; rfl
      rw [hkb]
      exact crash1_over ρ bk nth ka m kp [] (by omega))
  simp only [List.append_nil] at this
  exact this
theorem settled_congr {f g : Nat → Bool} {s : Secs} (h : ∀ n, n < (pend s).length → f n = g n) : settled f s = settled g s := by
  have hl : (settled f s).length = (settled g s).length := by rw [settled_length, settled_length]
  apply List.ext_getElem hl
  intro i h1 h2
  have hi : i < s.length := by rw [settled_length] at h1; exact h1
  rw [settled_at hi, settled_at hi]
  cases hp : isP s i with
  | false => simp
  | true =>
    have hlt : (pendTo s i).length < (pend s).length := by
      have := (pendTo_pre (s := s) (k := i + 1) (m := s.length) (by omega)).length_le
      rw [pendTo_succ_t hp] at this
      simp only [List.length_append, List.length_singleton] at this
      unfold pend; omega
    rw [h _ hlt]
theorem settled_empty {f : Nat → Bool} {s : Secs} (h : emptyC s) : settled f s = s := by
  apply List.ext_getElem (by rw [settled_length])
  intro i h1 h2
  rw [settled_at h2, isP_empty h]
  have := h s[i] (List.getElem_mem h2)
  simp only [Bool.false_and, Bool.false_eq_true, if_false]
  cases hs : s[i] with
  | mk x y => rw [hs] at this; simp only at this; rw [this]
theorem pend_empty {s : Secs} (h : emptyC s) : pend s = [] := by
  unfold pend pendTo
  rw [List.filter_eq_nil_iff]
  intro a _
  rw [isP_empty h]; simp
theorem madeFalse (n : Nat) : madeCells (Value.bool false).cells (n * 1) = ⟨List.replicate n (.bool false)⟩ := by
  have := madeCells_rep (.bool false) 1 (n * 1) (by decide)
  simpa [Value.cells] using this
end Go.Proofs.E

namespace Go.Proofs.E
open Go Go.RowKit
set_option linter.unusedVariables false
set_option linter.unusedSimpArgs false
set_option linter.unusedSectionVars false
set_option maxRecDepth 8000
/-! ## what came in: bytes, rows of them -/
theorem rs_flatK {α : Type} {sz : Nat} {g : α → List Value} {C : List Value} {off : Nat} : ∀ (l : List α) (k : Nat), k ≤ l.length → (∀ i (h : i < l.length), (C.drop (off + i * sz)).take sz = g l[i]) → (C.drop off).take (k * sz) = ((l.take k).map g).flatten
  | l, 0, _, _ => by simp
  | l, k + 1, hk, h => by
    have ih := rs_flatK l k (by omega) h
    rw [show l.take (k + 1) = l.take k ++ [l[k]'(by omega)] from List.take_succ_eq_append_getElem (by omega), Nat.add_mul, Nat.one_mul, List.take_add, ih, List.drop_drop, h k (by omega)]
    simp only [List.map_append, List.flatten_append, List.map_cons, List.map_nil, List.flatten_cons, List.flatten_nil, List.append_nil]
theorem aIn_ofK {ρ : Hp} {α : Type} {sz : Nat} {g : α → List Value} {P : α → Prop} {cs : List Value} {s : Option Addr × Nat × Nat × List α} (hg : ∀ x, (g x).length = sz) (h : RS ρ sz (fun cs x => cs = g x ∧ P x) cs s) : AIn ρ sz g s.1 s.2.1 s.2.2.2 ∧ (∀ x ∈ s.2.2.2, P x) ∧ s.2.1 ≤ s.2.2.1 ∧ s.2.1 ≤ 9223372036854775807 := by
  obtain ⟨a, n, c, ks⟩ := s
  obtain ⟨h1, h2, h3, h4, h5⟩ := h
  dsimp only at h1 h2 h3 h4 h5 ⊢
  refine ⟨⟨h4, ?_, fun x _ => hg x⟩, fun x hx => ?_, h2, by omega⟩
  · by_cases h0 : n = 0
    · exact .inl h0
    · right
      obtain ⟨b, off, C, T, fr, e1, e2, e3, e4⟩ := h5 0 (by omega)
      have same : ∀ i (h : i < ks.length), off + i * sz + sz ≤ C.length ∧ (C.drop (off + i * sz)).take sz = g ks[i] := fun i hi => by
        obtain ⟨b', off', C', T', fr', f1, f2, f3, f4⟩ := h5 i hi
        rw [e1] at f1
        cases f1
        rw [e2] at f2
        cases f2
        exact ⟨f3, f4.1⟩
      refine ⟨b, off, C, T, fr, e1, e2, ?_, ?_⟩
      · have := (same (n - 1) (by omega)).1
        have e : n * sz = (n - 1) * sz + sz := by
          obtain ⟨m, rfl⟩ : ∃ m, n = m + 1 := ⟨n - 1, by omega⟩
          rw [Nat.add_mul]; simp
        omega
      · have := rs_flatK (sz := sz) (g := g) ks n (by omega) (fun i hi => (same i hi).2)
        rw [this, List.take_of_length_le (by omega)]
  · obtain ⟨i, hi, rfl⟩ := List.mem_iff_getElem.1 hx
    obtain ⟨_, _, _, _, _, _, _, _, f⟩ := h5 i hi
    exact f.2
theorem opn_u8K {H : Type} {enc : TypeId × Value → H} {w : World} : Opn enc Try.prog w 5 (fun cs (b : UInt8) => cs = [u8c b]) := fun fuel cs x h => by
  obtain ⟨n, rfl, h1, h2⟩ := opn_int Try.underlying5 fuel cs x h
  simp only [lo, hi] at h1 h2
  refine ⟨UInt8.ofNat n.toNat, ?_⟩
  have : ((UInt8.ofNat n.toNat).toNat : Int) = n := by simp [UInt8.toNat_ofNat]; omega
  simp only [u8c, this]
theorem opn_bytesK {H : Type} {enc : TypeId × Value → H} {w : World} : Opn enc Try.prog w 30 (RS (hpOf w) 1 (fun cs (b : UInt8) => cs = [u8c b])) :=
  opn_slice Try.underlying30 (by kernel_rfl) (by decide) opn_u8K
theorem sIn_ofK {ρ : Hp} {cs : List Value} {s : Option Addr × Nat × Nat × List UInt8} (h : RS ρ 1 (fun cs (b : UInt8) => cs = [u8c b]) cs s) : SIn ρ u8c s.1 s.2.1 s.2.2.2 ∧ s.2.1 ≤ s.2.2.1 ∧ s.2.1 ≤ 9223372036854775807 := by
  obtain ⟨a, n, c, ks⟩ := s
  obtain ⟨h1, h2, h3, h4, h5⟩ := h
  dsimp only at h1 h2 h3 h4 h5 ⊢
  refine ⟨⟨h4, ?_⟩, h2, by omega⟩
  by_cases h0 : n = 0
  · exact .inl h0
  · right
    obtain ⟨b, off, C, T, fr, e1, e2, e3, e4⟩ := h5 0 (by omega)
    have same : ∀ i (h : i < ks.length), off + i * 1 + 1 ≤ C.length ∧ (C.drop (off + i * 1)).take 1 = [u8c ks[i]] := fun i hi => by
      obtain ⟨b', off', C', T', fr', f1, f2, f3, f4⟩ := h5 i hi
      rw [e1] at f1
      cases f1
      rw [e2] at f2
      cases f2
      exact ⟨f3, f4⟩
    refine ⟨b, off, C, T, fr, e1, e2, ?_⟩
    apply List.ext_getElem
    · have := (same (n - 1) (by omega)).1
      simp; omega
    · intro i h1 h2
      have hi : i < ks.length := by simpa using h2
      have h3 := (same i hi).2
      have h4 := congrArg (fun l : List Value => l[0]?) h3
      simp only [List.getElem?_cons_zero] at h4
      rw [List.getElem?_take_of_lt (by omega), List.getElem?_drop] at h4
      have h5 : C[off + i]? = some (u8c ks[i]) := by simpa using h4
      simp only [List.getElem_take, List.getElem_drop, List.getElem_map]
      exact (List.getElem?_eq_some_iff.1 h5).2

theorem Opn.mono {H : Type} {enc : TypeId × Value → H} {P : Program} {w : World} {t : TypeId} {α β : Type} {R : List Value → α → Prop} {R' : List Value → β → Prop} (h : Opn enc P w t R) (k : ∀ cs a, R cs a → ∃ b, R' cs b) : Opn enc P w t R' := fun fuel cs x hx => by
  obtain ⟨a, ha⟩ := h fuel cs x hx
  exact k cs a ha
theorem sIn_of1 {ρ : Hp} {α : Type} {g : α → Value} {a : Option Addr} {n : Nat} {l : List α} (h : AIn ρ 1 (fun x => [g x]) a n l) : SIn ρ g a n l := by
  refine ⟨h.len, ?_⟩
  rcases h.out with h0 | ⟨b, off, C, T, fr, h1, h2, h3, h4⟩
  · exact .inl h0
  · right
    refine ⟨b, off, C, T, fr, h1, h2, ?_⟩
    rw [Nat.mul_one] at h4
    rw [h4]
    clear h h4 h3
    induction l with
    | nil => rfl
    | cons x r ih => simp [ih]
end Go.Proofs.E

namespace Go.Proofs.E
open Go
set_option linter.unusedVariables false
set_option linter.unusedSimpArgs false
set_option linter.unusedSectionVars false
set_option maxRecDepth 4000
set_option maxHeartbeats 1000000
attribute [local irreducible] Yl TL TC TE Spec YSpec R1 Hp.le EnvLe TS TR YS Stays
/-! ## layer 4: rings, as data -/
abbrev Bs := List UInt8
def pad (l : Bs) : Blk := (l ++ z8 64).take 64
theorem pad_len (l : Bs) : (pad l).length = 64 := by simp [pad, z8]
theorem pad_of {l : Bs} (h : l.length ≤ 64) : pad l = l ++ z8 (64 - l.length) := by
  unfold pad z8
  rw [List.take_append, List.take_of_length_le h, List.take_replicate, Nat.min_eq_left (by omega)]
theorem pad_take (l : Bs) : pad (l.take 64) = pad l := by
  by_cases h : l.length ≤ 64
  · rw [List.take_of_length_le h]
  · unfold pad
    rw [List.take_append_of_le_length (by simp; omega), List.take_take, List.take_append_of_le_length (by omega)]; simp
structure Hd where
  turn : Nat
  first : Nat
  size : Nat
  place : Nat
  note : Bs
deriving DecidableEq
def sects (n : Nat) : Nat := max 1 ((n + 51) / 52)
theorem sects_pos (n : Nat) : 1 ≤ sects n := by unfold sects; omega
theorem sects_le {n : Nat} (h : n ≤ 8000) : sects n ≤ 154 := by unfold sects; omega
def letB : Bs := [98, 117, 114, 115, 114, 105, 110, 103]
def partB (turn n : Nat) (b : Bs) (k : Nat) : Blk := pad (be 4 turn ++ (be 5 n ++ (be 2 b.length ++ (UInt8.ofNat k :: (b.drop (52 * k)).take 52))))
def headB (h : Hd) : Blk := pad (letB ++ (be 4 h.turn ++ (be 2 h.size ++ (be 5 h.first ++ (be 2 h.place ++ (UInt8.ofNat h.note.length :: h.note))))))
theorem partB_len (t n : Nat) (b : Bs) (k : Nat) : (partB t n b k).length = 64 := pad_len _
theorem headB_len (h : Hd) : (headB h).length = 64 := pad_len _
/-- what a head's sector says, ahead of the note -/
def headOf (s : Blk) : Hd := ⟨unbe ((s.drop 8).take 4), unbe ((s.drop 14).take 5), unbe ((s.drop 12).take 2), unbe ((s.drop 19).take 2), (s.drop 22).take (s.getD 21 0).toNat⟩
def zHd : Hd := ⟨0, 0, 0, 0, []⟩
def Hd.Right (h : Hd) (n : Nat) : Prop := 1 ≤ h.turn ∧ h.turn ≤ 1073741824 ∧ 4 ≤ h.size ∧ h.size ≤ 1000 ∧ 1 ≤ h.first ∧ h.first ≤ 1099511627776 ∧ h.place < h.size ∧ n ≤ 32
instance (h : Hd) (n : Nat) : Decidable (h.Right n) := by unfold Hd.Right; infer_instance
def readB (s : Blk) : Hd × Bool := if (headOf s).Right (s.getD 21 0).toNat then (headOf s, decide (headB (headOf s) = s)) else (zHd, false)
def countsB (a b : Blk) : Hd × Bool := if (readB a).2 && (!(readB b).2 || decide ((readB b).1.turn ≤ (readB a).1.turn)) then ((readB a).1, true) else readB b
/-- sectors that are written one by one, and a Sync -/
def DS.lays : List (Nat × Blk) → DS → DS × Int
  | [], D => D.sync
  | p :: r, D => if (D.write (p.1 : Int) p.2).2 = 0 then DS.lays r (D.write (p.1 : Int) p.2).1 else D.write (p.1 : Int) p.2
def partsL (h : Hd) (n : Nat) (b : Bs) (at' : Nat) : List (Nat × Blk) := (List.range (sects b.length)).map fun k => (2 + (at' + k) % h.size, partB h.turn n b k)
theorem DS.Ok.lays : ∀ {l : List (Nat × Blk)} {D : DS}, D.Ok → (∀ p ∈ l, p.2.length = 64) → (DS.lays l D).1.Ok
  | [], D, h, _ => h.sync
  | p :: r, D, h, hl => by
    have h1 := hl p (by simp)
    unfold DS.lays
    split
    · exact DS.Ok.lays (h.write h1) (fun q hq => hl q (by simp [hq]))
    · exact h.write h1
theorem write_length (D : DS) (i : Int) (b : Blk) : (D.write i b).1.secs.length = D.secs.length := by
  unfold DS.write
  split
  · rfl
  · split
    · rfl
    · split
      · simp [putC_length]
      · split
        · rfl
        · simp [putC_length]
theorem sync_length (D : DS) : D.sync.1.secs.length = D.secs.length := by
  unfold DS.sync
  split
  · rfl
  · split
    · rfl
    · split
      · rfl
      · simp [settled_length]
theorem lays_length : ∀ (l : List (Nat × Blk)) (D : DS), (DS.lays l D).1.secs.length = D.secs.length
  | [], D => sync_length D
  | p :: r, D => by
    unfold DS.lays
    split
    · rw [lays_length, write_length]
    · exact write_length _ _ _
/-- bytes that lie in ρ, or in own memory that is left as it is -/
structure Rd (ρ : Hp) (X : SH) (a : Option Addr) (n : Nat) (l : Bs) : Prop where
  len : l.length = n
  src : ∀ (x : Cx) (ρ' : Hp) (L R : SH), ρ.le ρ' → Take L X R → SrcV x ρ' L a (l.map u8c)
theorem Rd.mono {ρ ρ' : Hp} {X : SH} {a : Option Addr} {n : Nat} {l : Bs} (h : Rd ρ X a n l) (hle : ρ.le ρ') : Rd ρ' X a n l := ⟨h.len, fun x ρ2 L R h2 hT => h.src x ρ2 L R (Hp.le_trans hle h2) hT⟩
theorem SIn.rd {ρ : Hp} {a : Option Addr} {n : Nat} {l : Bs} (h : SIn ρ u8c a n l) : Rd ρ [] a n l := ⟨h.len, fun x ρ' L R hle _ => (h.mono hle).srcV⟩
theorem OwnS.rd {ρ : Hp} {a : Option Addr} {n c : Nat} {l : Bs} {sp : List Value} {T : TypeId} (h : OwnS (.slice a n c) n (l.map u8c) sp 1) : Rd ρ [ownC (.slice a n c) (l.map u8c) sp T] a n l := by
  refine ⟨?_, fun x ρ' L R hle hT => ?_⟩
  · obtain ⟨_, _, _, h2⟩ := h.len
    simpa using h2
  · rcases h.out with ⟨e1, h1, h2, h3⟩ | ⟨b, c', e1, h2, h3, h4⟩
    · exact .inl h2
    · cases e1
      refine .inr ⟨b, 0, rfl, fun w hw j c hj => ?_⟩
      have hw' := hw.perm hT.out
      have hb : w.heap[b]? = some (.cells ⟨l.map u8c ++ sp⟩ T (0, 0)) := hw'.here (b, .cells ⟨l.map u8c ++ sp⟩ T (0, 0)) (by simp [ownC])
      simp only [World.cell?, hb, Option.isSome_none, Bool.false_eq_true, if_false, Nat.zero_add]
      simp only [List.getElem?_toArray]
      rw [List.getElem?_append_left (List.getElem?_eq_some_iff.1 hj).1]; exact hj
theorem SrcV.sub {x : Cx} {ρ : Hp} {L : SH} {a : Option Addr} {ys : List Value} (h : SrcV x ρ L a ys) {lo' k cap : Nat} (hk : lo' + k ≤ ys.length) (hc : ys.length ≤ cap) : SrcV x ρ L (if cap = lo' then a else a.map (·.add (lo' * 1))) ((ys.drop lo').take k) := by
  rcases h with rfl | ⟨b, off, rfl, hs⟩
  · left; simp
  · by_cases h0 : k = 0
    · left; simp [h0]
    · right
      rw [if_neg (by omega)]
      refine ⟨b, off + lo', by simp [addr_add], fun w hw j c hj => ?_⟩
      have hlt : j < k := by
        have := (List.getElem?_eq_some_iff.1 hj).1
        simp at this; omega
      rw [List.getElem?_take_of_lt hlt, List.getElem?_drop] at hj
      have := hs w hw (lo' + j) c hj
      rw [Nat.add_assoc]; exact this
/-- where a disk's parts lie, and what its cache's map holds -/
structure DK where
  hb : HB
  mb : Nat
  es : List MapEntry
  ck : Nat
abbrev diskK (b : Nat) (k : DK) (D : DS) : SH := diskL b k.hb k.mb k.es k.ck D
structure DOk (k : DK) (D : DS) : Prop where
  ok : D.Ok
  map : MapOk D.secs k.es
/-! ### what is done with rings -/
structure RgS where
  h : Hd
  ents : List Bs
  used : Nat
  broken : Bool
def usedL (l : List Bs) : Nat := (l.map fun b => sects b.length).sum
theorem usedL_append (l m : List Bs) : usedL (l ++ m) = usedL l + usedL m := by simp [usedL]
theorem usedL_cons (b : Bs) (l : List Bs) : usedL (b :: l) = sects b.length + usedL l := by simp [usedL]
theorem usedL_take_drop (l : List Bs) (n : Nat) : usedL (l.take n) + usedL (l.drop n) = usedL l := by rw [← usedL_append, List.take_append_drop]
theorem usedL_len (l : List Bs) : l.length ≤ usedL l := by
  induction l with
  | nil => simp [usedL]
  | cons b r ih => have := sects_pos b.length; rw [usedL_cons]; simp; omega
def RgS.next (R : RgS) : Nat := R.h.first + R.ents.length
structure RgS.Ok (R : RgS) : Prop where
  turn : 1 ≤ R.h.turn ∧ R.h.turn ≤ 1073741824
  size : 4 ≤ R.h.size ∧ R.h.size ≤ 1000
  first : 1 ≤ R.h.first
  next : R.next ≤ 1099511627776
  place : R.h.place < R.h.size
  note : R.h.note.length ≤ 32
  used : R.used = usedL R.ents
  fit : R.used ≤ R.h.size
  long : ∀ b ∈ R.ents, b.length ≤ 8000
def headL (h : Hd) : List (Nat × Blk) := [(h.turn % 2, headB h)]
def Hd.cut (h : Hd) (n gone : Nat) (note : Bs) : Hd := ⟨h.turn + 1, h.first + n, h.size, (h.place + gone) % h.size, note⟩
def RgS.append (R : RgS) (b : Bs) (D : DS) : RgS × DS × Int :=
  if R.broken then (R, D, 8)
  else if 8000 < b.length then (R, D, 3)
  else if R.h.size - R.used < sects b.length ∨ 1099511627776 ≤ R.next then (R, D, 6)
  else if (DS.lays (partsL R.h R.next b (R.h.place + R.used)) D).2 = 0 then (⟨R.h, R.ents ++ [b], R.used + sects b.length, false⟩, DS.lays (partsL R.h R.next b (R.h.place + R.used)) D)
  else ({ R with broken := true }, DS.lays (partsL R.h R.next b (R.h.place + R.used)) D)
def RgS.cutH (R : RgS) (n : Nat) (note : Bs) : Hd := R.h.cut n (usedL (R.ents.take n)) note
def RgS.cut (R : RgS) (n : Int) (note : Bs) (D : DS) : RgS × DS × Int :=
  if R.broken then (R, D, 8)
  else if n < 0 ∨ (R.ents.length : Int) < n ∨ R.h.turn = 1073741824 then (R, D, 2)
  else if 32 < note.length then (R, D, 3)
  else if (DS.lays (headL (R.cutH n.toNat note)) D).2 = 0 then (⟨R.cutH n.toNat note, R.ents.drop n.toNat, R.used - usedL (R.ents.take n.toNat), false⟩, DS.lays (headL (R.cutH n.toNat note)) D)
  else ({ R with broken := true }, DS.lays (headL (R.cutH n.toNat note)) D)
def freshH (size : Nat) : Hd := ⟨1, 1, size, 0, []⟩
def noughtsL (size : Nat) : List (Nat × Blk) := (List.range (size + 2)).map fun i => (i, zblk)
def formatR (size : Int) (D : DS) : Option RgS × DS × Int :=
  if size < 4 ∨ 1000 < size ∨ (D.secs.length : Int) < size + 2 then (none, D, 2)
  else if (DS.lays (noughtsL size.toNat) D).2 = 0 then
    if (DS.lays (headL (freshH size.toNat)) (DS.lays (noughtsL size.toNat) D).1).2 = 0 then (some ⟨freshH size.toNat, [], 0, false⟩, DS.lays (headL (freshH size.toNat)) (DS.lays (noughtsL size.toNat) D).1)
    else (none, DS.lays (headL (freshH size.toNat)) (DS.lays (noughtsL size.toNat) D).1)
  else (none, DS.lays (noughtsL size.toNat) D)
/-- the first bytes of a row of bytes, with noughts behind -/
def fitB (n : Nat) (l : Bs) : Bs := (l ++ z8 n).take n
theorem fitB_len (n : Nat) (l : Bs) : (fitB n l).length = n := by simp [fitB, z8]
/-- an entry's sectors from the k-th one on -/
def entGo (h : Hd) (n at' turn size : Nat) : Nat → Nat → Bs → DS → Option Bs × DS × Int
  | 0, _, acc, D => (some (fitB size acc), D, 0)
  | j + 1, k, acc, D =>
    if (D.read ((2 + (at' + k) % h.size : Nat) : Int)).2.2 ≠ 0 then (none, (D.read ((2 + (at' + k) % h.size : Nat) : Int)).1, (D.read ((2 + (at' + k) % h.size : Nat) : Int)).2.2)
    else if partB turn n (fitB size (acc ++ (D.read ((2 + (at' + k) % h.size : Nat) : Int)).2.1.drop 12)) k = (D.read ((2 + (at' + k) % h.size : Nat) : Int)).2.1 then
      entGo h n at' turn size j (k + 1) (acc ++ (D.read ((2 + (at' + k) % h.size : Nat) : Int)).2.1.drop 12) (D.read ((2 + (at' + k) % h.size : Nat) : Int)).1
    else (none, (D.read ((2 + (at' + k) % h.size : Nat) : Int)).1, 0)
def turnOf (s : Blk) : Nat := unbe (s.take 4)
def numOf (s : Blk) : Nat := unbe ((s.drop 4).take 5)
def sizeOf' (s : Blk) : Nat := unbe ((s.drop 9).take 2)
/-- an entry by its first sector -/
def entGo0 (h : Hd) (n at' left : Nat) (s : Blk) (D : DS) : Option Bs × DS × Int :=
  if turnOf s < 1 ∨ h.turn < turnOf s ∨ 8000 < sizeOf' s ∨ left < sects (sizeOf' s) then (none, D, 0)
  else if partB (turnOf s) n (fitB (sizeOf' s) (s.drop 12)) 0 = s then entGo h n at' (turnOf s) (sizeOf' s) (sects (sizeOf' s) - 1) 1 (s.drop 12) D
  else (none, D, 0)
def entryR (h : Hd) (n at' left : Nat) (D : DS) : Option Bs × DS × Int :=
  if left = 0 then (none, D, 0)
  else if (D.read ((2 + at' % h.size : Nat) : Int)).2.2 ≠ 0 then (none, (D.read ((2 + at' % h.size : Nat) : Int)).1, (D.read ((2 + at' % h.size : Nat) : Int)).2.2)
  else entGo0 h n at' left (D.read ((2 + at' % h.size : Nat) : Int)).2.1 (D.read ((2 + at' % h.size : Nat) : Int)).1
def RgS.adds (R : RgS) (b : Bs) : RgS := { R with ents := R.ents ++ [b], used := R.used + sects b.length }
def foundGo : Nat → RgS → DS → RgS × DS × Int
  | 0, R, D => (R, D, 0)
  | f + 1, R, D =>
    if R.next < 1099511627776 then
      match entryR R.h R.next (R.h.place + R.used) (R.h.size - R.used) D with
      | (some b, D', e) => if e = 0 then foundGo f (R.adds b) D' else (R, D', e)
      | (none, D', e) => (R, D', e)
    else (R, D, 0)
def openH (h : Hd) (D : DS) : Option RgS × DS × Int :=
  if D.secs.length < h.size + 2 then (none, D, 140)
  else if (foundGo (h.size + 1) ⟨h, [], 0, false⟩ D).2.2 ≠ 0 then (none, (foundGo (h.size + 1) ⟨h, [], 0, false⟩ D).2)
  else if h.turn = 1073741824 then (none, (foundGo (h.size + 1) ⟨h, [], 0, false⟩ D).2.1, 140)
  else if (DS.lays (headL { h with turn := h.turn + 1 }) (foundGo (h.size + 1) ⟨h, [], 0, false⟩ D).2.1).2 = 0 then
    (some { (foundGo (h.size + 1) ⟨h, [], 0, false⟩ D).1 with h := { h with turn := h.turn + 1 } }, DS.lays (headL { h with turn := h.turn + 1 }) (foundGo (h.size + 1) ⟨h, [], 0, false⟩ D).2.1)
  else (none, DS.lays (headL { h with turn := h.turn + 1 }) (foundGo (h.size + 1) ⟨h, [], 0, false⟩ D).2.1)
def openR (D : DS) : Option RgS × DS × Int :=
  if (D.read 0).2.2 ≠ 0 then (none, (D.read 0).1, (D.read 0).2.2)
  else if ((D.read 0).1.read 1).2.2 ≠ 0 then (none, ((D.read 0).1.read 1).1, ((D.read 0).1.read 1).2.2)
  else if (countsB (D.read 0).2.1 ((D.read 0).1.read 1).2.1).2 = false then (none, ((D.read 0).1.read 1).1, 140)
  else openH (countsB (D.read 0).2.1 ((D.read 0).1.read 1).2.1).1 ((D.read 0).1.read 1).1
end Go.Proofs.E

namespace Go.Proofs.E
open Go
set_option linter.unusedVariables false
set_option linter.unusedSimpArgs false
set_option linter.unusedSectionVars false
set_option maxRecDepth 4000
set_option maxHeartbeats 1000000
attribute [local irreducible] Yl TL TC TE Spec YSpec R1 Hp.le EnvLe TS TR YS Stays
theorem shr_byteR (V m : Nat) : Value.int .u8 (IntKind.u8.wrap ((V : Int) / 2 ^ (8 * m))) = u8c (UInt8.ofNat (V / 256 ^ m)) := by
  have h2 : (2 ^ (8 * m) : Nat) = 256 ^ m := by rw [Nat.pow_mul]
  have h3 : ((2 : Int) ^ (8 * m)) = ((2 ^ (8 * m) : Nat) : Int) := by rw [Int.natCast_pow]; rfl
  rw [h3, h2, ← Int.natCast_ediv, u8_wrap]
theorem be_take_succ : ∀ (n V j : Nat), j < n → (be n V).take (j + 1) = (be n V).take j ++ [UInt8.ofNat (V / 256 ^ (n - 1 - j))]
  | 0, V, j, h => by omega
  | n + 1, V, 0, h => by simp [be]
  | n + 1, V, j + 1, h => by
    have ih := be_take_succ n V j (by omega)
    rw [be, List.take_succ_cons, List.take_succ_cons, ih]
    simp only [List.cons_append, List.cons.injEq, true_and]
    rw [show n + 1 - 1 - (j + 1) = n - 1 - j by omega]
/-- a number's last bytes are appended -/
theorem put_spec (ρ : Hp) (v : Value) (c : List (Nat × Obj)) (l : Bs) (h : AppB v c 5 l) (x m : Nat) (hx : x < 18446744073709551616) (hm : m ≤ 8) (hm0 : 0 < m) (hl : l.length ≤ 1000000) :
    Spec Try.prog 118 [v, .int .u64 x, .int .i64 m] ρ [c] (fun v' ρ' L' => ρ' = ρ ∧ ∃ sp, OwnS v' (l.length + m) ((l ++ be m x).map u8c) sp 1 ∧ L' = [ownC v' ((l ++ be m x).map u8c) sp 5]) := by
  refine spec_enter Try.func118 rfl rfl rfl fun u R => ?_
  simp only [argsE, List.cons_append, List.nil_append]
  repeat' (first | (refine i_op ?_; first | (refine i_qq ?_; refine qQ ?_) | refine qEf ?_) | refine tl_nil ?_ | (refine i_tc ?_; refine qTc ?_) | (refine i_te ?_; refine qTe ?_) | intro _)
  refine tc_loop_g [(1, _), (6, _)] (fun (ζ : (Nat) × (Int) × (Value) × (List (Nat × Obj))) => [(7, .int .i64 ζ.2.1), (0, ζ.2.2.1)]) (fun (ζ : (Nat) × (Int) × (Value) × (List (Nat × Obj))) => ρ) (fun (ζ : (Nat) × (Int) × (Value) × (List (Nat × Obj))) => [ζ.2.2.2]) (fun (ζ : (Nat) × (Int) × (Value) × (List (Nat × Obj))) => ζ.1 ≤ m ∧ ζ.2.1 = (m : Int) - 1 - (ζ.1 : Int) ∧ AppB ζ.2.2.1 ζ.2.2.2 5 (l ++ (be m x).take ζ.1) ∧ (ζ.1 = 0 ∨ ∃ sp, OwnS ζ.2.2.1 (l.length + ζ.1) ((l ++ (be m x).take ζ.1).map u8c) sp 1 ∧ ζ.2.2.2 = ownC ζ.2.2.1 ((l ++ (be m x).take ζ.1).map u8c) sp 5)) (fun (ζ : (Nat) × (Int) × (Value) × (List (Nat × Obj))) => m - ζ.1) ((0, (m : Int) - 1, v, c)) (⟨Nat.zero_le _, by simp, by simpa using h, .inl rfl⟩) ev_le ev_le rfl tk ?_
  rintro ⟨j, i, v1, c1⟩ hI
  try simp only [List.cons_append, List.nil_append, List.append_assoc, List.append_eq] at hI ⊢
  try dsimp only at hI ⊢
  obtain ⟨hj, hi, ha, hor⟩ := hI
  by_cases hlt : j < m
  · have hsh := shr_byteR x (m - 1 - j)
    have hts := be_take_succ m x j hlt
    have hlen : ((be m x).take j).length = j := by simp [be_length]; omega
    subst hi
    have hmin : min (8 * ((m : Int) - 1 - (j : Int))).toNat 64 = 8 * (m - 1 - j) := by omega
    have hmm : l ++ (be m x).take j ++ [UInt8.ofNat (x / 256 ^ (m - 1 - j))] = l ++ (be m x).take (j + 1) := by rw [hts]; simp
    have hll : (l ++ (be m x).take (j + 1)).length = l.length + (j + 1) := by simp [be_length]; omega
    repeat' (first | (refine tl_buildSlice_s rfl rfl rfl rfl (by simp) rfl rfl (fun _ => ?_); simp only [hmin, hsh]) | (refine tl_appB (ys := [UInt8.ofNat (x / 256 ^ (m - 1 - j))]) (m := 1) rfl rfl ha (hR := by infer_instance) SrcV.lit rfl (by simp) (by simp [be_length]; omega) rfl (fun v2 sp2 hown2 => ?_); rw [hmm] at hown2 ⊢) | (refine i_op ?_; first | (refine i_qq ?_; refine qQ ?_) | refine qEf ?_) | refine tl_nil ?_ | (refine i_tc ?_; refine qTc ?_) | (refine i_te ?_; refine qTe ?_) | intro _)
    have ha2 := hown2.appB (T := 5) rfl
    rw [hll] at hown2
    refine te_round_g (j + 1, (m : Int) - 1 - (j : Int) - 1, v2, _) (⟨hlt, by dsimp only; omega, ha2, .inr ⟨sp2, hown2, rfl⟩⟩) ev_le ev_le rfl tk inferInstance (by first | omega | (dsimp only; omega))
  · have hk2 : j = m := by omega
    subst hk2
    obtain ⟨sp, hown, rfl⟩ := hor.resolve_left (by omega)
    rw [List.take_of_length_le (by rw [be_length]; exact Nat.le_refl _)] at *
    repeat' (first | (refine i_op ?_; first | (refine i_qq ?_; refine qQ ?_) | refine qEf ?_) | refine tl_nil ?_ | (refine i_tc ?_; refine qTc ?_) | (refine i_te ?_; refine qTe ?_) | intro _)
    exact qE ⟨rfl, sp, hown, rfl⟩
end Go.Proofs.E

namespace Go.Proofs.E
open Go
set_option linter.unusedVariables false
set_option linter.unusedSimpArgs false
set_option linter.unusedSectionVars false
set_option maxRecDepth 4000
set_option maxHeartbeats 1000000
attribute [local irreducible] Yl TL TC TE Spec YSpec R1 Hp.le EnvLe TS TR YS Stays
theorem numb_spec (ρ : Hp) (a : Option Addr) (n c : Nat) (l : Bs) (h : SIn ρ u8c a n l) (hn : n ≤ 8) :
    Spec Try.prog 124 [.slice a n c] ρ [] (fun v ρ' L' => v = .int .u64 (unbe l : Nat) ∧ ρ' = ρ ∧ L' = []) := by
  have hl := h.len
  refine spec_enter Try.func124 rfl rfl rfl fun u R => ?_
  simp only [argsE, List.cons_append, List.nil_append]
  repeat' (first | (refine i_op ?_; first | (refine i_qq ?_; refine qQ ?_) | refine qEf ?_) | refine tl_nil ?_ | (refine i_tc ?_; refine qTc ?_) | (refine i_te ?_; refine qTe ?_) | intro _)
  refine tc_loop_g [(5, _), (6, _)] (fun (ζ : (Nat) × (Nat)) => [(7, .int .i64 ζ.1), (2, .int .u64 (ζ.2 : Nat))]) (fun (ζ : (Nat) × (Nat)) => ρ) (fun (ζ : (Nat) × (Nat)) => []) (fun (ζ : (Nat) × (Nat)) => ζ.1 ≤ n ∧ ζ.2 = unbe (l.take ζ.1)) (fun (ζ : (Nat) × (Nat)) => n - ζ.1) ((0, 0)) (⟨Nat.zero_le _, rfl⟩) ev_le ev_le rfl tk ?_
  rintro ⟨k, z⟩ hI
  try simp only [List.cons_append, List.nil_append, List.append_assoc, List.append_eq] at hI ⊢
  try dsimp only at hI ⊢
  obtain ⟨hk, hz⟩ := hI
  by_cases hlt : k < n
  · obtain ⟨b, off, C, T, fr, rfl, hb, hc⟩ := h.get (show k < l.length by omega)
    have hzl := unbe_take_lt l k (by omega) (by omega)
    rw [← hz] at hzl
    have hs := take_succ_unbe l k (by omega)
    have hbt : l[k].toNat < 256 := l[k].toNat_lt
    generalize l[k] = b8 at *
    simp only [u8c] at hc
    repeat' (first | (refine i_op ?_; first | (refine i_qq ?_; refine qQ ?_) | refine qEf ?_) | refine tl_nil ?_ | (refine i_tc ?_; refine qTc ?_) | (refine i_te ?_; refine qTe ?_) | intro _)
    have e : (z : Int) * 256 + (b8.toNat : Int) = ((z * 256 + b8.toNat : Nat) : Int) := by omega
    rw [e]
    refine te_round_g (k + 1, z * 256 + b8.toNat) (⟨hlt, by dsimp only; rw [hs, hz]⟩) ev_le ev_le rfl tk inferInstance (by first | omega | (dsimp only; omega))
  · have hk2 : k = n := by omega
    subst hk2
    rw [List.take_of_length_le (by omega)] at hz
    subst hz
    repeat' (first | (refine i_op ?_; first | (refine i_qq ?_; refine qQ ?_) | refine qEf ?_) | refine tl_nil ?_ | (refine i_tc ?_; refine qTc ?_) | (refine i_te ?_; refine qTe ?_) | intro _)
    exact qE ⟨rfl, rfl, rfl⟩
theorem sects_spec (ρ : Hp) (n : Nat) (hn : n ≤ 4611686018427387904) : Spec Try.prog 12 [.int .i64 n] ρ [] (fun v ρ' L' => v = .int .i64 (sects n : Nat) ∧ ρ' = ρ ∧ L' = []) := by
  refine spec_enter Try.func12 rfl rfl rfl fun u R => ?_
  simp only [argsE, List.cons_append, List.nil_append]
  have e : max 1 (IntKind.i64.wrap (((n : Int) + 52 - 1).tdiv 52)) = ((sects n : Nat) : Int) := by
    rw [Int.tdiv_eq_ediv_of_nonneg (by omega), wrap_id (by simp only [lo, hi]; omega)]
    unfold sects; omega
  repeat' (first | (refine i_op ?_; first | (refine i_qq ?_; refine qQ ?_) | refine qEf ?_) | refine tl_nil ?_ | (refine i_tc ?_; refine qTc ?_) | (refine i_te ?_; refine qTe ?_) | intro _)
  rw [e]
  exact qE ⟨rfl, rfl, rfl⟩
theorem sects_neg (ρ : Hp) (n : Int) (hn : n < 0) : Spec Try.prog 12 [.int .i64 n] ρ [] (fun v ρ' L' => v = .int .i64 0 ∧ ρ' = ρ ∧ L' = []) := by
  refine spec_enter Try.func12 rfl rfl rfl fun u R => ?_
  simp only [argsE, List.cons_append, List.nil_append]
  repeat' (first | (refine i_op ?_; first | (refine i_qq ?_; refine qQ ?_) | refine qEf ?_) | refine tl_nil ?_ | (refine i_tc ?_; refine qTc ?_) | (refine i_te ?_; refine qTe ?_) | intro _)
  exact qE ⟨rfl, rfl, rfl⟩
theorem block_spec (ρ : Hp) (v : Value) (n : Nat) (l : Bs) (sp : List Value) (h : OwnS v n (l.map u8c) sp 1) :
    Spec Try.prog 119 [v] ρ [ownC v (l.map u8c) sp 5] (fun v ρ' L' => v = bv (pad l) ∧ ρ' = ρ ∧ L' = []) := by
  obtain ⟨a, cap, rfl, hl⟩ := h.len
  have hl' : l.length = n := by simpa using hl
  refine spec_enter Try.func119 rfl rfl rfl fun u R => ?_
  simp only [argsE, List.cons_append, List.nil_append]
  have hz : (List.replicate 64 (Value.int .u8 0)).length = 64 := by simp
  have hst : stc (List.replicate 64 (Value.int .u8 0)) 0 ((l.map u8c).take 64) = (pad l).map u8c := by
    unfold stc
    rw [← pad_take]
    have hl64 : (l.take 64).length ≤ 64 := by simp; omega
    rw [pad_of hl64]
    simp only [List.take_zero, List.nil_append, List.map_append, List.map_take, Nat.zero_add]
    congr 1
    rw [List.drop_replicate]
    simp only [z8, List.map_replicate, List.length_take, List.length_map]
    rfl
  have hpl : ((pad l).map u8c).length = 64 := by simp [pad_len]
  have h1 := u8c_one (pad l)
  repeat' (first | (refine i_op ?_; first | (refine i_qq ?_; refine qQ ?_) | refine qEf ?_) | refine tl_nil ?_ | (refine i_tc ?_; refine qTc ?_) | (refine i_te ?_; refine qTe ?_) | intro _)
  refine tl_copy (ys := l.map u8c) rfl rfl (SrcV.own (v := .nilIface) h (T := 5) (hR := by infer_instance)) (by simpa using hl) (u8c_one l) (by rw [hz]; omega) rfl ?_
  simp only [hst]
  repeat' (first | (refine i_op ?_; first | (refine i_qq ?_; refine qQ ?_) | refine qEf ?_) | refine tl_nil ?_ | (refine i_tc ?_; refine qTc ?_) | (refine i_te ?_; refine qTe ?_) | intro _)
  exact qE ⟨rfl, rfl, rfl⟩
end Go.Proofs.E

namespace Go.Proofs.E
open Go
set_option linter.unusedVariables false
set_option linter.unusedSimpArgs false
set_option linter.unusedSectionVars false
set_option maxRecDepth 4000
set_option maxHeartbeats 1000000
attribute [local irreducible] Yl TL TC TE Spec YSpec R1 Hp.le EnvLe TS TR YS Stays
theorem put_own (ρ : Hp) {v : Value} {l : Bs} {sp : List Value} (h : OwnS v l.length (l.map u8c) sp 1) (x m : Nat) (hx : x < 18446744073709551616) (hm : m ≤ 8) (hm0 : 0 < m) (hl : l.length ≤ 1000000) :
    Spec Try.prog 118 [v, .int .u64 x, .int .i64 m] ρ [ownC v (l.map u8c) sp 5] (fun v' ρ' L' => ρ' = ρ ∧ ∃ sp, OwnS v' (l ++ be m x).length ((l ++ be m x).map u8c) sp 1 ∧ L' = [ownC v' ((l ++ be m x).map u8c) sp 5]) := by
  have := put_spec ρ v _ l (h.appB rfl) x m hx hm hm0 hl
  rwa [show l.length + m = (l ++ be m x).length by simp [be_length]] at this
theorem put_nil (ρ : Hp) (x m : Nat) (hx : x < 18446744073709551616) (hm : m ≤ 8) (hm0 : 0 < m) :
    Spec Try.prog 118 [.slice none 0 0, .int .u64 x, .int .i64 m] ρ [[]] (fun v' ρ' L' => ρ' = ρ ∧ ∃ sp, OwnS v' (be m x).length ((be m x).map u8c) sp 1 ∧ L' = [ownC v' ((be m x).map u8c) sp 5]) :=
  put_own ρ (l := []) (sp := []) (OwnS.nil 1) x m hx hm hm0 (by simp)
theorem tl_app_own {x : Cx} {Q : Exit → Act → World → Prop} {E : Env} {ρ : Hp} {L L1 : SH} {ops : Array Oper} {rest : List Oper} {ty : TypeId} {pos : String} {af : Array Edge} {d t e m cx : Nat} {s y : Operand} {v : Value} {sp : List Value} {l ys : List UInt8} {a : Option Addr} [hS : TySlice x.P t e] [hZ : TySz x.P e 1] [hB : TyBytes x.P e 1] [hz : TyZero x.P e (.int .u8 0)]
    (hs : ev E s = some v) (hy : ev E y = some (.slice a m cx)) (h : OwnS v l.length (l.map u8c) sp 1) [hR : Rem (ownC v (l.map u8c) sp e) L L1] (hsrc : SrcV x ρ L1 a (ys.map u8c)) (hlen : ys.length = m)
    (hb : l.length + m ≤ 140737488355328) (hd : Nat.blt d x.N = true)
    (k : ∀ v' sp', OwnS v' (l ++ ys).length ((l ++ ys).map u8c) sp' 1 → TL x ops rest Q ((d, v') :: E) ρ (ownC v' ((l ++ ys).map u8c) sp' e :: L1)) :
    TL x ops (⟨some d, .call { callee := .builtin .append, args := #[s, y], argTypes := #[t, t] }, ty, pos, af, none⟩ :: rest) Q E ρ L :=
  tl_app hs hy h hsrc (by simpa using hlen) (u8c_one ys) (by decide) rfl (by omega) (by omega) hd (fun v' sp' ho => by
    rw [← List.map_append] at ho ⊢
    exact k v' sp' (by rw [List.length_append, hlen]; exact ho))
/-- a sector of an entry, of bytes that are own or never turn -/
theorem part_spec (ρ : Hp) (X : SH) (turn n : Nat) (a : Option Addr) (bn c : Nat) (b : Bs) (hb : Rd ρ X a bn b) (hc : bn ≤ c) (k : Nat) (ht : turn < 4294967296) (hn : n ≤ 1099511627776) (hbl : bn ≤ 8000) (hk : k < sects bn) :
    Spec Try.prog 89 [.int .u64 turn, .int .u64 n, .slice a bn c, .int .i64 k] ρ X (fun v ρ' L' => v = bv (partB turn n b k) ∧ ρ' = ρ ∧ L' = X) := by
  have hl := hb.len
  have hkm : 52 * k ≤ bn := by unfold sects at hk; omega
  have hk2 : k < 256 := by unfold sects at hk; omega
  have hkb : Value.int .u8 (IntKind.u8.wrap (k : Int)) = u8c (UInt8.ofNat k) := u8_wrap k
  have hkb' : Value.int .u8 (k : Int) = u8c (UInt8.ofNat k) := by rw [← hkb, wrap_id (by simp only [lo, hi]; omega)]
  have hlo : (52 * (k : Int)).toNat = 52 * k := by omega
  have hhi : (min (52 * (k : Int) + 52) (bn : Int)).toNat - 52 * k = min 52 (bn - 52 * k) := by omega
  have htk : (b.drop (52 * k)).take (min 52 (bn - 52 * k)) = (b.drop (52 * k)).take 52 := by
    by_cases h : 52 ≤ bn - 52 * k
    · rw [Nat.min_eq_left h]
    · rw [Nat.min_eq_right (by omega), List.take_of_length_le (by simp; omega), List.take_of_length_le (by simp; omega)]
  have hfin : ∀ n2, pad (be 4 turn ++ be 5 n ++ be 2 n2 ++ [UInt8.ofNat k] ++ (b.drop (52 * k)).take (min 52 (bn - 52 * k))) = pad (be 4 turn ++ (be 5 n ++ (be 2 n2 ++ (UInt8.ofNat k :: (b.drop (52 * k)).take 52)))) := fun n2 => by rw [htk]; simp
  have hfin2 : pad (be 4 turn ++ be 5 n ++ be 2 bn ++ [UInt8.ofNat k] ++ (b.drop (52 * k)).take (min 52 (bn - 52 * k))) = partB turn n b k := by rw [hfin, ← hl]; rfl
  have hpl : ((partB turn n b k).map u8c).length = 64 := by simp [partB_len]
  have hp1 := u8c_one (partB turn n b k)
  refine spec_enter Try.func89 rfl rfl rfl fun u R => ?_
  simp only [argsE, List.cons_append, List.nil_append]
  repeat' (first | (refine tl_is (.func 118) ?_; refine qC rfl rfl (put_nil _ turn 4 (by omega) (by omega) (by omega)) ?_; rintro v1 ρ' L' hle ⟨rfl, sp1, hown1, rfl⟩; simp only [List.cons_append, List.nil_append]) | (refine i_op ?_; first | (refine i_qq ?_; refine qQ ?_) | refine qEf ?_) | refine tl_nil ?_ | (refine i_tc ?_; refine qTc ?_) | (refine i_te ?_; refine qTe ?_) | intro _)
  repeat' (first | (refine tl_is (.func 118) ?_; refine qC rfl rfl (put_own _ hown1 n 5 (by omega) (by omega) (by omega) (by simp [be_length])) ?_; rintro v2 ρ2 L2 hle2 ⟨rfl, sp2, hown2, rfl⟩; simp only [List.cons_append, List.nil_append]) | (refine i_op ?_; first | (refine i_qq ?_; refine qQ ?_) | refine qEf ?_) | refine tl_nil ?_ | (refine i_tc ?_; refine qTc ?_) | (refine i_te ?_; refine qTe ?_) | intro _)
  repeat' (first | (refine tl_is (.func 118) ?_; refine qC rfl rfl (put_own _ hown2 bn 2 (by omega) (by omega) (by omega) (by simp [be_length])) ?_; rintro v3 ρ3 L3 hle3 ⟨rfl, sp3, hown3, rfl⟩; simp only [List.cons_append, List.nil_append]) | (refine i_op ?_; first | (refine i_qq ?_; refine qQ ?_) | refine qEf ?_) | refine tl_nil ?_ | (refine i_tc ?_; refine qTc ?_) | (refine i_te ?_; refine qTe ?_) | intro _)
  refine tc_any (Stays _ _ ([])) (stays_of (hT := tk) (Hp.le_refl _)) ?_
  all_goals refine rMv 0 ?_
  all_goals refine rMv 1 ?_
  all_goals refine rCv 2 ?_
  all_goals refine rMv 5 ?_
  all_goals refine rMv 6 ?_
  all_goals refine rMv 7 ?_
  all_goals refine rAd 8 ?_
  all_goals refine rMv 9 ?_
  all_goals refine rBi 10 ?_
  all_goals refine rBi 11 ?_
  all_goals refine rSl 12 ?_
  all_goals (refine rStep (i := 3) ?_; ((try refine qWant ?_); (first | (refine tl_buildSlice_s rfl rfl rfl rfl (by simp) rfl rfl (fun _ => ?_); simp only [hkb']) | (refine qEf ?_; try intro _)) <;> ((try simp only [List.cons_append, List.nil_append, List.append_eq]); refine tl_nil ?_; refine rNext ?_)))
  all_goals (refine rStep (i := 4) ?_; ((try refine qWant ?_); (first | (refine tl_app_own (ys := [UInt8.ofNat k]) (m := 1) rfl rfl hown3 (hR := by infer_instance) SrcV.lit rfl (by simp [be_length]) rfl (fun v4 sp4 hown4 => ?_)) | (simp only [hlo, hhi]; refine tl_app_own (ys := (b.drop (52 * k)).take (min 52 (bn - 52 * k))) rfl rfl hown4 (hR := by infer_instance) (by rw [List.map_take, List.map_drop]; exact SrcV.sub (hb.src _ _ _ _ (Hp.le_refl _) tk) (by simp; omega) (by simpa [hl] using hc)) (by simp; omega) (by simp [be_length]; omega) rfl (fun v5 sp5 hown5 => ?_)) | (refine tl_is (.func 119) ?_; refine qC rfl rfl (block_spec _ _ _ _ _ hown5) ?_; rintro v6 ρ6 L6 hle6 ⟨rfl, rfl, rfl⟩; simp only [List.cons_append, List.nil_append, hfin2]) | (refine qEf ?_; try intro _)) <;> ((try simp only [List.cons_append, List.nil_append, List.append_eq]); refine tl_nil ?_; refine rNext ?_)))
  all_goals (refine rStep (i := 13) ?_; ((try refine qWant ?_); (first | (refine tl_app_own (ys := [UInt8.ofNat k]) (m := 1) rfl rfl hown3 (hR := by infer_instance) SrcV.lit rfl (by simp [be_length]) rfl (fun v4 sp4 hown4 => ?_)) | (simp only [hlo, hhi]; refine tl_app_own (ys := (b.drop (52 * k)).take (min 52 (bn - 52 * k))) rfl rfl hown4 (hR := by infer_instance) (by rw [List.map_take, List.map_drop]; exact SrcV.sub (hb.src _ _ _ _ (Hp.le_refl _) tk) (by simp; omega) (by simpa [hl] using hc)) (by simp; omega) (by simp [be_length]; omega) rfl (fun v5 sp5 hown5 => ?_)) | (refine tl_is (.func 119) ?_; refine qC rfl rfl (block_spec _ _ _ _ _ hown5) ?_; rintro v6 ρ6 L6 hle6 ⟨rfl, rfl, rfl⟩; simp only [List.cons_append, List.nil_append, hfin2]) | (refine qEf ?_; try intro _)) <;> ((try simp only [List.cons_append, List.nil_append, List.append_eq]); refine tl_nil ?_; refine rNext ?_)))
  all_goals (refine rStep (i := 14) ?_; ((try refine qWant ?_); (first | (refine tl_is (.func 119) ?_; refine qC rfl rfl (block_spec _ _ _ _ _ hown5) ?_; rintro v6 ρ6 L6 hle6 ⟨rfl, rfl, rfl⟩; simp only [List.cons_append, List.nil_append, hfin2]) | (refine qEf ?_; try intro _)) <;> ((try simp only [List.cons_append, List.nil_append, List.append_eq]); refine tl_nil ?_; refine rNext ?_)))
  all_goals (refine rStep (i := 15) ?_; ((try refine qWant ?_); (first | (refine qEf ?_; try intro _)) <;> ((try simp only [List.cons_append, List.nil_append, List.append_eq]); refine tl_nil ?_; refine rNext ?_)))
  all_goals refine rDone ?_
  all_goals (repeat' (first | (refine i_op ?_; first | (refine i_qq ?_; refine qQ ?_) | refine qEf ?_) | refine tl_nil ?_ | (refine i_tc ?_; refine qTc ?_) | (refine i_te ?_; refine qTe ?_) | intro _))
  all_goals exact qE ⟨rfl, rfl, rfl⟩
end Go.Proofs.E

namespace Go.Proofs.E
open Go
set_option linter.unusedVariables false
set_option linter.unusedSimpArgs false
set_option linter.unusedSectionVars false
set_option maxRecDepth 4000
set_option maxHeartbeats 1000000
attribute [local irreducible] Yl TL TC TE Spec YSpec R1 Hp.le EnvLe TS TR YS Stays
abbrev hdV (h : Hd) (na : Option Addr) (nn nc : Nat) : List Value := [.int .u64 h.turn, .int .u64 h.first, .int .i64 h.size, .int .i64 h.place, .slice na nn nc]
theorem letB_v : [Value.int .u8 98, .int .u8 117, .int .u8 114, .int .u8 115, .int .u8 114, .int .u8 105, .int .u8 110, .int .u8 103] = letB.map u8c := rfl
theorem hblock_spec (ρ : Hp) (h : Hd) (na : Option Addr) (nn nc : Nat) (hn : SIn ρ u8c na nn h.note) (ht : h.turn < 4294967296) (hf : h.first ≤ 1099511627776) (hs : h.size < 65536) (hp : h.place < 65536) (hnl : nn ≤ 32) :
    Spec Try.prog 85 [.agg ⟨hdV h na nn nc⟩] ρ [] (fun v ρ' L' => v = bv (headB h) ∧ ρ' = ρ ∧ L' = []) := by
  have hl := hn.len
  have hkb : Value.int .u8 (nn : Int) = u8c (UInt8.ofNat nn) := by rw [← u8_wrap nn, wrap_id (by simp only [lo, hi]; omega)]
  have hpl : ((headB h).map u8c).length = 64 := by simp [headB_len]
  have hp1 := u8c_one (headB h)
  have hfin : pad (letB ++ be 4 h.turn ++ be 2 h.size ++ be 5 h.first ++ be 2 h.place ++ [UInt8.ofNat nn] ++ h.note) = headB h := by unfold headB; rw [hl]; simp
  refine spec_enter Try.func85 rfl rfl rfl fun u R => ?_
  simp only [argsE, List.cons_append, List.nil_append]
  repeat' (first | (refine tl_buildSlice_s rfl rfl rfl rfl (by simp) rfl rfl (fun _ => ?_)) | (refine i_op ?_; first | (refine i_qq ?_; refine qQ ?_) | refine qEf ?_) | refine tl_nil ?_ | (refine i_tc ?_; refine qTc ?_) | (refine i_te ?_; refine qTe ?_) | intro _)
  rename_i b1 b2 b3
  repeat' (first | (refine tl_is (.func 118) ?_; refine qC (Lf := [[(b3, .cells ⟨letB.map u8c⟩ 5 (8, 9))]]) rfl rfl (put_spec _ _ _ letB (.inr ⟨b3, (8, 9), rfl, by simp [letB], rfl⟩) h.turn 4 (by omega) (by omega) (by omega) (by simp [letB])) ?_; rintro v1 ρ' L' hle ⟨rfl, sp1, hown1, rfl⟩; simp only [List.cons_append, List.nil_append]) | (refine i_op ?_; first | (refine i_qq ?_; refine qQ ?_) | refine qEf ?_) | refine tl_nil ?_ | (refine i_tc ?_; refine qTc ?_) | (refine i_te ?_; refine qTe ?_) | intro _)
  replace hown1 : OwnS v1 (letB ++ be 4 h.turn).length ((letB ++ be 4 h.turn).map u8c) sp1 1 := by rw [List.length_append, be_length]; exact hown1
  refine tc_any (Stays _ _ ([[(b1, .cells ⟨hdV h na nn nc⟩ 95 (0, 0))]])) (stays_of (hT := tk) (Hp.le_refl _)) ?_
  all_goals refine rMv 0 ?_
  all_goals refine rFa 1 ?_
  all_goals refine rLd 2 ?_
  all_goals refine rCv 3 ?_
  all_goals refine rFa 5 ?_
  all_goals refine rLd 6 ?_
  all_goals refine rFa 8 ?_
  all_goals refine rLd 9 ?_
  all_goals refine rCv 10 ?_
  all_goals (refine rStep (i := 4) ?_; ((try refine qWant ?_); (first | (refine tl_is (.func 118) ?_; refine qC rfl rfl (put_own _ hown1 h.size 2 (by omega) (by omega) (by omega) (by simp [be_length, letB])) ?_; rintro v2 ρ2 L2 hle2 ⟨rfl, sp2, hown2, rfl⟩; simp only [List.cons_append, List.nil_append]) | (refine tl_is (.func 118) ?_; refine qC rfl rfl (put_own _ hown2 h.first 5 (by omega) (by omega) (by omega) (by simp [be_length, letB])) ?_; rintro v3 ρ3 L3 hle3 ⟨rfl, sp3, hown3, rfl⟩; simp only [List.cons_append, List.nil_append]) | (refine tl_is (.func 118) ?_; refine qC rfl rfl (put_own _ hown3 h.place 2 (by omega) (by omega) (by omega) (by simp [be_length, letB])) ?_; rintro v4 ρ4 L4 hle4 ⟨rfl, sp4, hown4, rfl⟩; simp only [List.cons_append, List.nil_append]) | (refine qEf ?_; try intro _)) <;> ((try simp only [List.cons_append, List.nil_append, List.append_eq]); refine tl_nil ?_; refine rNext ?_)))
  all_goals (refine rStep (i := 7) ?_; ((try refine qWant ?_); (first | (refine tl_is (.func 118) ?_; refine qC rfl rfl (put_own _ hown1 h.size 2 (by omega) (by omega) (by omega) (by simp [be_length, letB])) ?_; rintro v2 ρ2 L2 hle2 ⟨rfl, sp2, hown2, rfl⟩; simp only [List.cons_append, List.nil_append]) | (refine tl_is (.func 118) ?_; refine qC rfl rfl (put_own _ hown2 h.first 5 (by omega) (by omega) (by omega) (by simp [be_length, letB])) ?_; rintro v3 ρ3 L3 hle3 ⟨rfl, sp3, hown3, rfl⟩; simp only [List.cons_append, List.nil_append]) | (refine tl_is (.func 118) ?_; refine qC rfl rfl (put_own _ hown3 h.place 2 (by omega) (by omega) (by omega) (by simp [be_length, letB])) ?_; rintro v4 ρ4 L4 hle4 ⟨rfl, sp4, hown4, rfl⟩; simp only [List.cons_append, List.nil_append]) | (refine qEf ?_; try intro _)) <;> ((try simp only [List.cons_append, List.nil_append, List.append_eq]); refine tl_nil ?_; refine rNext ?_)))
  all_goals (refine rStep (i := 11) ?_; ((try refine qWant ?_); (first | (refine tl_is (.func 118) ?_; refine qC rfl rfl (put_own _ hown1 h.size 2 (by omega) (by omega) (by omega) (by simp [be_length, letB])) ?_; rintro v2 ρ2 L2 hle2 ⟨rfl, sp2, hown2, rfl⟩; simp only [List.cons_append, List.nil_append]) | (refine tl_is (.func 118) ?_; refine qC rfl rfl (put_own _ hown2 h.first 5 (by omega) (by omega) (by omega) (by simp [be_length, letB])) ?_; rintro v3 ρ3 L3 hle3 ⟨rfl, sp3, hown3, rfl⟩; simp only [List.cons_append, List.nil_append]) | (refine tl_is (.func 118) ?_; refine qC rfl rfl (put_own _ hown3 h.place 2 (by omega) (by omega) (by omega) (by simp [be_length, letB])) ?_; rintro v4 ρ4 L4 hle4 ⟨rfl, sp4, hown4, rfl⟩; simp only [List.cons_append, List.nil_append]) | (refine qEf ?_; try intro _)) <;> ((try simp only [List.cons_append, List.nil_append, List.append_eq]); refine tl_nil ?_; refine rNext ?_)))
  all_goals refine rFull ?_
  all_goals refine rAs 12 ?_
  all_goals refine rDone ?_
  all_goals (repeat' (first | (refine i_op ?_; first | (refine i_qq ?_; refine qQ ?_) | refine qEf ?_) | refine tl_nil ?_ | (refine i_tc ?_; refine qTc ?_) | (refine i_te ?_; refine qTe ?_) | intro _))
  refine tc_any (Stays _ _ ([[(b1, .cells ⟨hdV h na nn nc⟩ 95 (0, 0))]])) (stays_of (hT := tk) (Hp.le_refl _)) ?_
  all_goals refine rMv 0 ?_
  all_goals refine rFa 1 ?_
  all_goals refine rLd 2 ?_
  all_goals refine rBi 3 ?_
  all_goals refine rCv 4 ?_
  all_goals refine rFa 7 ?_
  all_goals refine rLd 8 ?_
  all_goals (refine rStep (i := 5) ?_; ((try refine qWant ?_); (first | (refine tl_buildSlice_s rfl rfl rfl rfl (by simp) rfl rfl (fun _ => ?_); simp only [hkb]) | (refine qEf ?_; try intro _)) <;> ((try simp only [List.cons_append, List.nil_append, List.append_eq]); refine tl_nil ?_; refine rNext ?_)))
  all_goals (refine rStep (i := 6) ?_; ((try refine qWant ?_); (first | (refine tl_app_own (ys := [UInt8.ofNat nn]) (m := 1) rfl rfl hown4 (hR := by infer_instance) SrcV.lit rfl (by simp [be_length, letB]) rfl (fun v5 sp5 hown5 => ?_)) | (refine tl_app_own (ys := h.note) rfl rfl hown5 (hR := by infer_instance) (SIn.srcV (by assumption)) hl (by simp [be_length, letB]; omega) rfl (fun v6 sp6 hown6 => ?_)) | (refine tl_is (.func 119) ?_; refine qC rfl rfl (block_spec _ _ _ _ _ hown6) ?_; rintro v7 ρ7 L7 hle7 ⟨rfl, rfl, rfl⟩; simp only [List.cons_append, List.nil_append, hfin]) | (refine qEf ?_; try intro _)) <;> ((try simp only [List.cons_append, List.nil_append, List.append_eq]); refine tl_nil ?_; refine rNext ?_)))
  all_goals (refine rStep (i := 9) ?_; ((try refine qWant ?_); (first | (refine tl_app_own (ys := [UInt8.ofNat nn]) (m := 1) rfl rfl hown4 (hR := by infer_instance) SrcV.lit rfl (by simp [be_length, letB]) rfl (fun v5 sp5 hown5 => ?_)) | (refine tl_app_own (ys := h.note) rfl rfl hown5 (hR := by infer_instance) (SIn.srcV (by assumption)) hl (by simp [be_length, letB]; omega) rfl (fun v6 sp6 hown6 => ?_)) | (refine tl_is (.func 119) ?_; refine qC rfl rfl (block_spec _ _ _ _ _ hown6) ?_; rintro v7 ρ7 L7 hle7 ⟨rfl, rfl, rfl⟩; simp only [List.cons_append, List.nil_append, hfin]) | (refine qEf ?_; try intro _)) <;> ((try simp only [List.cons_append, List.nil_append, List.append_eq]); refine tl_nil ?_; refine rNext ?_)))
  all_goals (refine rStep (i := 10) ?_; ((try refine qWant ?_); (first | (refine tl_is (.func 119) ?_; refine qC rfl rfl (block_spec _ _ _ _ _ hown6) ?_; rintro v7 ρ7 L7 hle7 ⟨rfl, rfl, rfl⟩; simp only [List.cons_append, List.nil_append, hfin]) | (refine qEf ?_; try intro _)) <;> ((try simp only [List.cons_append, List.nil_append, List.append_eq]); refine tl_nil ?_; refine rNext ?_)))
  all_goals (refine rStep (i := 11) ?_; ((try refine qWant ?_); (first | (refine qEf ?_; try intro _)) <;> ((try simp only [List.cons_append, List.nil_append, List.append_eq]); refine tl_nil ?_; refine rNext ?_)))
  all_goals refine rDone ?_
  all_goals (repeat' (first | (refine i_op ?_; first | (refine i_qq ?_; refine qQ ?_) | refine qEf ?_) | refine tl_nil ?_ | (refine i_tc ?_; refine qTc ?_) | (refine i_te ?_; refine qTe ?_) | intro _))
  all_goals exact qE ⟨rfl, rfl, rfl⟩
end Go.Proofs.E

namespace Go.Proofs.E
open Go
set_option linter.unusedVariables false
set_option linter.unusedSimpArgs false
set_option linter.unusedSectionVars false
set_option maxRecDepth 4000
set_option maxHeartbeats 1000000
attribute [local irreducible] Yl TL TC TE Spec YSpec R1 Hp.le EnvLe TS TR YS Stays
abbrev pencV (p : Nat × Blk) : List Value := [.int .i64 p.1, bv p.2]
theorem take_succ_pre {α : Type} (l : List α) (k : Nat) (h : k < l.length) : l.take k ++ [l[k]] <+: l := by
  rw [← List.take_succ_eq_append_getElem h]; exact List.take_prefix _ _
theorem partsL_at {h : Hd} {n at' : Nat} {b : Bs} {k : Nat} (hk : k < (partsL h n b at').length) : (partsL h n b at')[k] = (2 + (at' + k) % h.size, partB h.turn n b k) := by
  simp [partsL]
theorem partsL_length {h : Hd} {n at' : Nat} {b : Bs} : (partsL h n b at').length = sects b.length := by simp [partsL]
abbrev partsS (bb ab hb nb : Nat) (a : Option Addr) (bn c at' : Nat) (h : Hd) (na : Option Addr) (nn nc n : Nat) : SH :=
  [[(bb, .cells ⟨[.slice a bn c]⟩ 30 (0, 0))], [(ab, .cells ⟨[.int .i64 at']⟩ 3 (0, 0))], [(hb, .cells ⟨hdV h na nn nc⟩ 95 (0, 0))], [(nb, .cells ⟨[.int .u64 n]⟩ 29 (0, 0))]]
theorem parts_iter (ρ0 : Hp) (X : SH) (bb ab hb nb : Nat) (a : Option Addr) (bn c at' : Nat) (b : Bs) (h : Hd) (na : Option Addr) (nn nc n : Nat) (hb0 : Rd ρ0 X a bn b) (hc : bn ≤ c) (ht : h.turn < 4294967296) (hn : n ≤ 1099511627776) (hbl : bn ≤ 8000) (hat : at' ≤ 1000000) (hsz : 0 < h.size) (hsz2 : h.size ≤ 1000000) :
    Iter Try.prog 88 [] [.pointer (some ⟨bb, 0, none⟩), .pointer (some ⟨ab, 0, none⟩), .pointer (some ⟨hb, 0, none⟩), .pointer (some ⟨nb, 0, none⟩)] pencV ρ0 (partsS bb ab hb nb a bn c at' h na nn nc n ++ X) (partsL h n b at') := by
  intro l J Jx hY ρ Lj hl0 hJ
  have hl := hb0.len
  have hsc := sects_le (n := bn) (by omega)
  have hpl : (partsL h n b at').length = sects bn := by rw [partsL_length, hl]
  refine spec_enter Try.func88 rfl rfl rfl fun u R => ?_
  simp only [argsE, List.cons_append, List.nil_append, List.append_assoc]
  repeat' (first | (refine tl_is (.func 12) ?_; refine qC rfl rfl (sects_spec _ bn (by omega)) ?_; rintro v ρ' L' hle ⟨rfl, rfl, rfl⟩ <;> (try simp only [List.cons_append, List.nil_append, List.append_eq])) | (refine i_op ?_; first | (refine i_qq ?_; refine qQ ?_) | refine qEf ?_) | refine tl_nil ?_ | (refine i_tc ?_; refine qTc ?_) | (refine i_te ?_; refine qTe ?_) | intro _)
  refine tc_loop_g [(0, _), (1, _), (2, _), (3, _), (4, _), (9, _)] (fun (ζ : (Nat) × (Hp) × (SH)) => [(10, .int .i64 ζ.1)]) (fun (ζ : (Nat) × (Hp) × (SH)) => ζ.2.1) (fun (ζ : (Nat) × (Hp) × (SH)) => partsS bb ab hb nb a bn c at' h na nn nc n ++ (X ++ ζ.2.2)) (fun (ζ : (Nat) × (Hp) × (SH)) => ζ.1 ≤ sects bn ∧ ρ'.le ζ.2.1 ∧ J ((partsL h n b at').take ζ.1) ζ.2.1 ζ.2.2) (fun (ζ : (Nat) × (Hp) × (SH)) => sects bn - ζ.1) ((0, ρ', Lj)) (⟨Nat.zero_le _, Hp.le_refl _, hJ⟩) ev_le ev_le rfl tk ?_
  rintro ⟨k, ρ1, L1⟩ hI
  try simp only [List.cons_append, List.nil_append, List.append_assoc, List.append_eq] at hI ⊢
  try dsimp only at hI ⊢
  obtain ⟨hk, hle1, hj⟩ := hI
  by_cases hlt : k < sects bn
  · have hk2 : k < (partsL h n b at').length := by omega
    have hpre := take_succ_pre (partsL h n b at') k hk2
    rw [partsL_at] at hpre
    have hts := List.take_succ_eq_append_getElem hk2
    rw [partsL_at] at hts
    have hy := hY _ _ ρ1 L1 hpre (Hp.le_trans hl0 hle1) hj
    have hrm : (2 : Int) + ((at' : Int) + (k : Int)).tmod (h.size : Int) = ((2 + (at' + k) % h.size : Nat) : Int) := by
      rw [Int.tmod_eq_emod_of_nonneg (by omega), Int.natCast_add, Int.natCast_emod, Int.natCast_add]; rfl
    have hrm1 : ((at' : Int) + (k : Int)).tmod (h.size : Int) < h.size := Int.tmod_lt_of_pos _ (by omega)
    have hrm0 : 0 ≤ ((at' : Int) + (k : Int)).tmod (h.size : Int) := Int.tmod_nonneg _ (by omega)
    repeat' (first | (refine i_op ?_; first | (refine i_qq ?_; refine qQ ?_) | refine qEf ?_) | refine tl_nil ?_ | (refine i_tc ?_; refine qTc ?_) | (refine i_te ?_; refine qTe ?_) | intro _)
    refine tc_any (Stays _ _ (partsS bb ab hb nb a bn c at' h na nn nc n)) (stays_of (hT := tk) (Hp.le_refl _)) ?_
    all_goals refine rMv 0 ?_
    all_goals refine rLd 1 ?_
    all_goals refine rMv 2 ?_
    all_goals refine rAd 3 ?_
    all_goals refine rFa 4 ?_
    all_goals refine rLd 5 ?_
    all_goals refine rRm 6 ?_
    all_goals refine rAd 7 ?_
    all_goals refine rFa 8 ?_
    all_goals refine rLd 9 ?_
    all_goals refine rLd 10 ?_
    all_goals refine rLd 11 ?_
    all_goals refine rMv 12 ?_
    all_goals (refine rStep (i := 13) ?_; ((try refine qWant ?_); (first | (refine tl_is (.func 89) ?_; refine qC rfl rfl (part_spec _ X h.turn n a bn c b (hb0.mono (Hp.le_trans hl0 hle1)) hc k ht hn hbl hlt) ?_; rintro v6 ρ6 L6 hle6 ⟨rfl, rfl, rfl⟩; simp only [List.cons_append, List.nil_append, hrm]) | (refine qEf ?_; try intro _)) <;> ((try simp only [List.cons_append, List.nil_append, List.append_eq]); refine tl_nil ?_; refine rNext ?_)))
    all_goals (refine rStep (i := 14) ?_; ((try refine qWant ?_); (first | (refine tl_is (.tmp 13) ?_; refine qY rfl rfl (hy) ?_; rintro v ρ' L' hle ⟨Lj', rfl, ⟨rfl, hj'⟩ | ⟨rfl, hj'⟩⟩ <;> (try simp only [List.cons_append, List.nil_append, List.append_eq, partsS, List.append_assoc])) | (refine qEf ?_; try intro _)) <;> ((try simp only [List.cons_append, List.nil_append, List.append_eq]); refine tl_nil ?_; refine rNext ?_)))
    all_goals refine rFull ?_
    all_goals refine rUn 15 ?_
    all_goals refine rDone ?_
    · repeat' (first | (refine i_op ?_; first | (refine i_qq ?_; refine qQ ?_) | refine qEf ?_) | refine tl_nil ?_ | (refine i_tc ?_; refine qTc ?_) | (refine i_te ?_; refine qTe ?_) | intro _)
      refine te_round_g (k + 1, ρ', Lj') (⟨hlt, Hp.le_trans hle1 hle, by dsimp only; rw [hts]; exact hj'⟩) ev_le ev_le rfl tk inferInstance (by first | omega | (dsimp only; omega))
    · repeat' (first | (refine i_op ?_; first | (refine i_qq ?_; refine qQ ?_) | refine qEf ?_) | refine tl_nil ?_ | (refine i_tc ?_; refine qTc ?_) | (refine i_te ?_; refine qTe ?_) | intro _)
      exact qE (L' := partsS bb ab hb nb a bn c at' h na nn nc n ++ L6 ++ Lj') ⟨Lj', rfl, .inr hj'⟩
  · have hk2 : k = sects bn := by omega
    subst hk2
    rw [List.take_of_length_le (by omega)] at hj
    repeat' (first | (refine i_op ?_; first | (refine i_qq ?_; refine qQ ?_) | refine qEf ?_) | refine tl_nil ?_ | (refine i_tc ?_; refine qTc ?_) | (refine i_te ?_; refine qTe ?_) | intro _)
    exact qE (L' := partsS bb ab hb nb a bn c at' h na nn nc n ++ X ++ L1) ⟨L1, rfl, .inl hj⟩
end Go.Proofs.E

namespace Go.Proofs.E
open Go
set_option linter.unusedVariables false
set_option linter.unusedSimpArgs false
set_option linter.unusedSectionVars false
set_option maxRecDepth 4000
set_option maxHeartbeats 1000000
attribute [local irreducible] Yl TL TC TE Spec YSpec R1 Hp.le EnvLe TS TR YS Stays
theorem kwrite (ρ : Hp) (b : Nat) (k : DK) (D : DS) (i : Int) (blk : Blk) (h64 : blk.length = 64) (h : DOk k D) :
    Spec Try.prog 86 [.pointer (some ⟨b, 0, none⟩), .int .i64 i, bv blk] ρ (diskK b k D) (fun v ρ' L' => v = .int .i64 (D.write i blk).2 ∧ ρ' = ρ ∧ ∃ k', DOk k' (D.write i blk).1 ∧ L' = diskK b k' (D.write i blk).1) :=
  (dwrite_spec ρ b k.hb k.mb k.es k.ck D i blk h64 h.ok h.map).mono (fun v ρ' L' _ ⟨h1, h2, es', ck', h3, h4⟩ => ⟨h1, h2, ⟨k.hb, k.mb, es', ck'⟩, ⟨h.ok.write h64, h3⟩, h4⟩)
theorem ksync (ρ : Hp) (b : Nat) (k : DK) (D : DS) (h : DOk k D) :
    Spec Try.prog 87 [.pointer (some ⟨b, 0, none⟩)] ρ (diskK b k D) (fun v ρ' L' => v = .int .i64 D.sync.2 ∧ ρ.le ρ' ∧ ∃ k', DOk k' D.sync.1 ∧ L' = diskK b k' D.sync.1) :=
  (dsync_spec ρ b k.hb k.mb k.es k.ck D h.ok h.map).mono (fun v ρ' L' _ ⟨h1, h2, mb', es', ck', h3, h4⟩ => ⟨h1, h2, ⟨k.hb, mb', es', ck'⟩, ⟨h.ok.sync, h3⟩, h4⟩)
theorem kread (ρ : Hp) (b : Nat) (k : DK) (D : DS) (i : Int) (h : DOk k D) :
    Spec Try.prog 26 [.pointer (some ⟨b, 0, none⟩), .int .i64 i] ρ (diskK b k D) (fun v ρ' L' => v = .tuple ⟨[bv (D.read i).2.1, .int .i64 (D.read i).2.2]⟩ ∧ ρ' = ρ ∧ DOk k (D.read i).1 ∧ L' = diskK b k (D.read i).1) :=
  (dread_spec ρ b k.hb k.mb k.es k.ck D i h.ok h.map).mono (fun v ρ' L' _ ⟨h1, h2, h4⟩ => ⟨h1, h2, ⟨h.ok.read, h.map.read⟩, h4⟩)
/-- writes that all were done -/
inductive Wr (D : DS) : List (Nat × Blk) → DS → Prop
  | nil : Wr D [] D
  | snoc {l : List (Nat × Blk)} {D1 : DS} {p : Nat × Blk} : Wr D l D1 → (D1.write (p.1 : Int) p.2).2 = 0 → Wr D (l ++ [p]) (D1.write (p.1 : Int) p.2).1
theorem Wr.lays {D D1 : DS} {l : List (Nat × Blk)} (h : Wr D l D1) : ∀ r, DS.lays (l ++ r) D = DS.lays r D1 := by
  induction h with
  | nil => intro r; rfl
  | snoc h1 h2 ih =>
    intro r
    rw [List.append_assoc, ih]
    simp only [List.cons_append, List.nil_append]
    rw [DS.lays, if_pos h2]
theorem Wr.stop {D D1 : DS} {l xs : List (Nat × Blk)} {p : Nat × Blk} (h : Wr D l D1) (hp : l ++ [p] <+: xs) (hc : (D1.write (p.1 : Int) p.2).2 ≠ 0) : DS.lays xs D = D1.write (p.1 : Int) p.2 := by
  obtain ⟨t, rfl⟩ := hp
  rw [List.append_assoc, h.lays]
  simp only [List.cons_append, List.nil_append]
  rw [DS.lays, if_neg hc]
theorem lays_spec (ρ0 ρ : Hp) (g : Nat) (cs : List Value) (S : SH) (xs : List (Nat × Blk)) (hl0 : ρ0.le ρ) (hI : Iter Try.prog g [] cs pencV ρ0 S xs) [hF : Fun Try.prog g] (h64 : ∀ p ∈ xs, p.2.length = 64) (b : Nat) (k : DK) (D : DS) (hD : DOk k D) :
    Spec Try.prog 46 [.pointer (some ⟨b, 0, none⟩), .func (.func g) ⟨[]⟩ ⟨cs⟩] ρ (S ++ diskK b k D) (fun v ρ' L' => v = .int .i64 (DS.lays xs D).2 ∧ ρ.le ρ' ∧ ∃ k', DOk k' (DS.lays xs D).1 ∧ L' = S ++ diskK b k' (DS.lays xs D).1) := by
  refine spec_enter Try.func46 rfl rfl rfl fun u R => ?_
  simp only [argsE, List.cons_append, List.nil_append, List.append_assoc]
  repeat' (first | (refine i_op ?_; first | (refine i_qq ?_; refine qQ ?_) | refine qEf ?_) | refine tl_nil ?_ | (refine i_tc ?_; refine qTc ?_) | (refine i_te ?_; refine qTe ?_) | intro _)
  rename_i b2 b4
  refine tc_rangeFunc (S := S) (L0 := [[(b2, .cells ⟨[.pointer (some ⟨b, 0, none⟩)]⟩ 25 (0, 0))], [(b4, .cells ⟨[.int .i64 0]⟩ 33 (0, 0))]] ++ diskK b k D) (R := R) (R0 := [(b4, .cells ⟨[.int .i64 0]⟩ 33 (0, 0))] :: [(b2, .cells ⟨[.pointer (some ⟨b, 0, none⟩)]⟩ 25 (0, 0))] :: (diskK b k D ++ R)) rfl rfl hI hl0 (fun _ => rfl) rfl
    (fun pre ρ1 Lu => ∃ D1 k1, ρ.le ρ1 ∧ Wr D pre D1 ∧ DOk k1 D1 ∧ Lu = [[(b2, .cells ⟨[.pointer (some ⟨b, 0, none⟩)]⟩ 25 (0, 0))], [(b4, .cells ⟨[.int .i64 0]⟩ 33 (0, 0))]] ++ diskK b k1 D1)
    (fun c ρ1 Lu => c = .exit 0 ∧ ∃ D2 k2 e, ρ.le ρ1 ∧ e ≠ 0 ∧ DS.lays xs D = (D2, e) ∧ DOk k2 D2 ∧ Lu = [[(b2, .cells ⟨[.pointer (some ⟨b, 0, none⟩)]⟩ 25 (0, 0))], [(b4, .cells ⟨[.int .i64 e]⟩ 33 (0, 0))]] ++ diskK b k2 D2) ?k1 ?k2 ⟨D, k, Hp.le_refl _, .nil, hD, rfl⟩ ?round ?done ?stop
  case k1 => exact tk
  case k2 => exact tk
  case round =>
    rintro l tm r pre y ρ1 Lu u R' hpre hl1 ⟨D1, k1, hl2, hwr, hD1, rfl⟩ hr hrec
    simp only [envP, List.cons_append, List.nil_append]
    have hm64 := h64 y (hpre.subset (by simp))
    have hy1 := u8c_one y.2
    have hyl : (y.2.map u8c).length = 64 := by simpa using hm64
    repeat' (first | (refine i_op ?_; first | (refine i_qq ?_; refine qQ ?_) | refine qEf ?_) | refine tl_nil ?_ | (refine i_tc ?_; refine qTc ?_) | (refine i_te ?_; refine qTe ?_) | intro _)
    refine te_front [(l, .loop r)] ?_
    refine te_begin rfl hr (fun r' hbz hrec' => ?_)
    repeat' (first | (refine tl_is (.func 86) ?_; refine qC rfl rfl (kwrite _ b k1 D1 y.1 y.2 hm64 hD1) ?_; rintro v ρ' L' hle ⟨rfl, rfl, k2, hD2, rfl⟩ <;> (try simp only [List.cons_append, List.nil_append, List.append_eq])) | (refine i_op ?_; first | (refine i_qq ?_; refine qQ ?_) | refine qEf ?_) | refine tl_nil ?_ | (refine i_tc ?_; refine qTc ?_) | (refine i_te ?_; refine qTe ?_) | intro _)
    by_cases hc : (D1.write (y.1 : Int) y.2).2 = 0
    · have hcb : ((D1.write (y.1 : Int) y.2).2 != 0) = false := by simpa using hc
      have hw2 := hwr.snoc hc
      rw [hcb, hc]
      repeat' (first | (refine i_op ?_; first | (refine i_qq ?_; refine qQ ?_) | refine qEf ?_) | refine tl_nil ?_ | (refine i_tc ?_; refine qTc ?_) | (refine i_te ?_; refine qTe ?_) | intro _)
      refine te_front [(l, .loop r')] ?_
      refine te_next (Lu := [[(b2, .cells ⟨[.pointer (some ⟨b, 0, none⟩)]⟩ 25 (0, 0))], [(b4, .cells ⟨[.int .i64 0]⟩ 33 (0, 0))]] ++ diskK b k2 (D1.write (y.1 : Int) y.2).1) rfl (Hp.le_refl _) ⟨hrec'.tmps.trans hrec.tmps, hrec'.params.trans hrec.params, hrec'.assign.trans hrec.assign, hrec'.body.trans hrec.body⟩ tk tk inferInstance ?_
      exact ⟨_, k2, hl2, hw2, hD2, rfl⟩
    · have hcb : ((D1.write (y.1 : Int) y.2).2 != 0) = true := by simpa using hc
      have hst := hwr.stop hpre hc
      rw [hcb]
      repeat' (first | (refine i_op ?_; first | (refine i_qq ?_; refine qQ ?_) | refine qEf ?_) | refine tl_nil ?_ | (refine i_tc ?_; refine qTc ?_) | (refine i_te ?_; refine qTe ?_) | intro _)
      refine te_front [(l, .loop r')] ?_
      refine te_leave (Lu := [[(b2, .cells ⟨[.pointer (some ⟨b, 0, none⟩)]⟩ 25 (0, 0))], [(b4, .cells ⟨[.int .i64 (D1.write (y.1 : Int) y.2).2]⟩ 33 (0, 0))]] ++ diskK b k2 (D1.write (y.1 : Int) y.2).1) rfl rfl (Hp.le_refl _) ⟨hrec'.tmps.trans hrec.tmps, hrec'.params.trans hrec.params, hrec'.assign.trans hrec.assign, hrec'.body.trans hrec.body⟩ tk tk inferInstance ?_
      exact ⟨rfl, _, k2, _, hl2, hc, hst, hD2, rfl⟩
  case done =>
    rintro D0 ρ1 Lu hl1 ⟨D1, k1, hl2, hwr, hD1, rfl⟩
    simp only [List.cons_append, List.nil_append]
    have hlay := hwr.lays []
    rw [List.append_nil, DS.lays] at hlay
    rw [hlay]
    repeat' (first | (refine tl_is (.func 87) ?_; refine qC rfl rfl (ksync _ b k1 D1 hD1) ?_; rintro v ρ' L' hle ⟨rfl, hl3, k2, hD2, rfl⟩ <;> (try simp only [List.cons_append, List.nil_append, List.append_eq])) | (refine i_op ?_; first | (refine i_qq ?_; refine qQ ?_) | refine qEf ?_) | refine tl_nil ?_ | (refine i_tc ?_; refine qTc ?_) | (refine i_te ?_; refine qTe ?_) | intro _)
    refine te_front [(D0, .deferred (some []))] ?_
    exact te_end_d rfl rfl rfl inferInstance (res1 rfl (r1_cell_s rfl rfl)) (Hp.le_trans hl2 hl3) tk (by infer_instance) (L' := S ++ diskK b k2 D1.sync.1) ⟨rfl, Hp.le_trans hl2 hl3, k2, hD2, rfl⟩
  case stop =>
    rintro D0 c ρ1 Lu hl1 ⟨rfl, D2, k2, e, hl2, he, hlay, hD2, rfl⟩
    simp only [List.cons_append, List.nil_append]
    have heb : (e != 0) = true := by simpa using he
    rw [hlay]
    repeat' (first | (refine i_op ?_; first | (refine i_qq ?_; refine qQ ?_) | refine qEf ?_) | refine tl_nil ?_ | (refine i_tc ?_; refine qTc ?_) | (refine i_te ?_; refine qTe ?_) | intro _)
    refine te_front [(D0, .deferred (some []))] ?_
    exact te_end_d rfl rfl rfl inferInstance (res1 rfl (r1_cell_s rfl rfl)) hl2 tk (by infer_instance) (L' := S ++ diskK b k2 D2) ⟨rfl, hl2, k2, hD2, rfl⟩
end Go.Proofs.E

namespace Go.Proofs.E
open Go
set_option linter.unusedVariables false
set_option linter.unusedSimpArgs false
set_option linter.unusedSectionVars false
set_option maxRecDepth 4000
set_option maxHeartbeats 1000000
attribute [local irreducible] Yl TL TC TE Spec YSpec R1 Hp.le EnvLe TS TR YS Stays
theorem laid_iter (ρ0 : Hp) (hb : Nat) (h : Hd) (na : Option Addr) (nn nc : Nat) (hn : SIn ρ0 u8c na nn h.note) (ht : h.turn < 4294967296) (hf : h.first ≤ 1099511627776) (hs : h.size < 65536) (hp : h.place < 65536) (hnl : nn ≤ 32) :
    Iter Try.prog 84 [] [.pointer (some ⟨hb, 0, none⟩)] pencV ρ0 [[(hb, .cells ⟨hdV h na nn nc⟩ 95 (0, 0))]] (headL h) := by
  intro l J Jx hY ρ Lj hl0 hJ
  have hy := fun ρ Lj h1 h2 => hY [] (h.turn % 2, headB h) ρ Lj (List.prefix_refl _) h1 h2
  have hrm : (h.turn : Int).tmod 2 = ((h.turn % 2 : Nat) : Int) := by rw [Int.tmod_eq_emod_of_nonneg (by omega)]; rfl
  have hrm1 : 0 ≤ (h.turn : Int).tmod 2 := by rw [hrm]; omega
  have hrm2 : (h.turn : Int).tmod 2 < 2 := by rw [hrm]; omega
  refine spec_enter Try.func84 rfl rfl rfl fun u R => ?_
  simp only [argsE, List.cons_append, List.nil_append, List.append_assoc]
  refine tc_any (Stays _ _ ([[(hb, .cells ⟨hdV h na nn nc⟩ 95 (0, 0))]])) (stays_of (hT := tk) (Hp.le_refl _)) ?_
  all_goals refine rMv 0 ?_
  all_goals refine rFa 1 ?_
  all_goals refine rLd 2 ?_
  all_goals refine rRm 3 ?_
  all_goals refine rCv 4 ?_
  all_goals refine rLd 5 ?_
  all_goals (refine rStep (i := 6) ?_; ((try refine qWant ?_); (first | (refine tl_is (.func 85) ?_; refine qC rfl rfl (hblock_spec _ h na nn nc (hn.mono hl0) ht hf hs hp hnl) ?_; rintro v6 ρ6 L6 hle6 ⟨rfl, rfl, rfl⟩; simp only [List.cons_append, List.nil_append, hrm]) | (refine qEf ?_; try intro _)) <;> ((try simp only [List.cons_append, List.nil_append, List.append_eq]); refine tl_nil ?_; refine rNext ?_)))
  all_goals (refine rStep (i := 7) ?_; ((try refine qWant ?_); (first | (refine tl_is (.tmp 3) ?_; refine qY rfl rfl ((hy _ _ hl0 hJ)) ?_; rintro v ρ' L' hle ⟨Lj', rfl, ⟨rfl, hj'⟩ | ⟨rfl, hj'⟩⟩ <;> (try simp only [List.cons_append, List.nil_append, List.append_eq])) | (refine qEf ?_; try intro _)) <;> ((try simp only [List.cons_append, List.nil_append, List.append_eq]); refine tl_nil ?_; refine rNext ?_)))
  all_goals refine rDone ?_
  all_goals (repeat' (first | (refine i_op ?_; first | (refine i_qq ?_; refine qQ ?_) | refine qEf ?_) | refine tl_nil ?_ | (refine i_tc ?_; refine qTc ?_) | (refine i_te ?_; refine qTe ?_) | intro _))
  · exact qE (L' := [[(hb, .cells ⟨hdV h na nn nc⟩ 95 (0, 0))]] ++ Lj') ⟨Lj', rfl, .inl hj'⟩
  · exact qE (L' := [[(hb, .cells ⟨hdV h na nn nc⟩ 95 (0, 0))]] ++ Lj') ⟨Lj', rfl, .inr hj'⟩
theorem laid_spec (ρ : Hp) (h : Hd) (na : Option Addr) (nn nc : Nat) (hn : SIn ρ u8c na nn h.note) (ht : h.turn < 4294967296) (hf : h.first ≤ 1099511627776) (hs : h.size < 65536) (hp : h.place < 65536) (hnl : nn ≤ 32) (b : Nat) (k : DK) (D : DS) (hD : DOk k D) :
    Spec Try.prog 43 [.agg ⟨hdV h na nn nc⟩, .pointer (some ⟨b, 0, none⟩)] ρ (diskK b k D) (fun v ρ' L' => v = .int .i64 (DS.lays (headL h) D).2 ∧ ρ.le ρ' ∧ ∃ k', DOk k' (DS.lays (headL h) D).1 ∧ L' = diskK b k' (DS.lays (headL h) D).1) := by
  refine spec_enter Try.func43 rfl rfl rfl fun u R => ?_
  simp only [argsE, List.cons_append, List.nil_append]
  repeat' (first | (refine i_op ?_; first | (refine i_qq ?_; refine qQ ?_) | refine qEf ?_) | refine tl_nil ?_ | (refine i_tc ?_; refine qTc ?_) | (refine i_te ?_; refine qTe ?_) | intro _)
  rename_i hb
  repeat' (first | (refine tl_is (.func 46) ?_; refine qC rfl rfl (lays_spec ρ ρ 84 [.pointer (some ⟨hb, 0, none⟩)] [[(hb, .cells ⟨hdV h na nn nc⟩ 95 (0, 0))]] (headL h) (Hp.le_refl _) (laid_iter ρ hb h na nn nc hn ht hf hs hp hnl) (fun p hp => by rw [List.mem_singleton.1 hp]; exact headB_len h) b k D hD) ?_; rintro v ρ' L' hle ⟨rfl, hl1, k', hD', rfl⟩ <;> (try simp only [List.cons_append, List.nil_append, List.append_eq])) | (refine i_op ?_; first | (refine i_qq ?_; refine qQ ?_) | refine qEf ?_) | refine tl_nil ?_ | (refine i_tc ?_; refine qTc ?_) | (refine i_te ?_; refine qTe ?_) | intro _)
  exact qE ⟨rfl, hl1, k', hD', rfl⟩
theorem noughtsL_at {n k : Nat} (hk : k < (noughtsL n).length) : (noughtsL n)[k] = (k, zblk) := by simp [noughtsL]
theorem noughtsL_len {n : Nat} : (noughtsL n).length = n + 2 := by simp [noughtsL]
theorem noughts_iter (ρ0 : Hp) (sb n : Nat) (hn : n ≤ 1000000) : Iter Try.prog 83 [] [.pointer (some ⟨sb, 0, none⟩)] pencV ρ0 [[(sb, .cells ⟨[.int .i64 n]⟩ 3 (0, 0))]] (noughtsL n) := by
  intro l J Jx hY ρ Lj hl0 hJ
  have hlen := noughtsL_len (n := n)
  refine spec_enter Try.func83 rfl rfl rfl fun u R => ?_
  simp only [argsE, List.cons_append, List.nil_append, List.append_assoc]
  repeat' (first | (refine i_op ?_; first | (refine i_qq ?_; refine qQ ?_) | refine qEf ?_) | refine tl_nil ?_ | (refine i_tc ?_; refine qTc ?_) | (refine i_te ?_; refine qTe ?_) | intro _)
  refine tc_loop_g [(0, _), (1, _)] (fun (ζ : (Nat) × (Hp) × (SH)) => [(3, .int .i64 ζ.1)]) (fun (ζ : (Nat) × (Hp) × (SH)) => ζ.2.1) (fun (ζ : (Nat) × (Hp) × (SH)) => [[(sb, .cells ⟨[.int .i64 n]⟩ 3 (0, 0))]] ++ ζ.2.2) (fun (ζ : (Nat) × (Hp) × (SH)) => ζ.1 ≤ n + 2 ∧ ρ.le ζ.2.1 ∧ J ((noughtsL n).take ζ.1) ζ.2.1 ζ.2.2) (fun (ζ : (Nat) × (Hp) × (SH)) => n + 2 - ζ.1) ((0, ρ, Lj)) (⟨Nat.zero_le _, Hp.le_refl _, hJ⟩) ev_le ev_le rfl tk ?_
  rintro ⟨k, ρ1, L1⟩ hI
  try simp only [List.cons_append, List.nil_append, List.append_assoc, List.append_eq] at hI ⊢
  try dsimp only at hI ⊢
  obtain ⟨hk, hle1, hj⟩ := hI
  by_cases hlt : k < n + 2
  · have hk2 : k < (noughtsL n).length := by omega
    have hpre := take_succ_pre (noughtsL n) k hk2
    rw [noughtsL_at] at hpre
    have hts := List.take_succ_eq_append_getElem hk2
    rw [noughtsL_at] at hts
    have hy := hY _ _ ρ1 L1 hpre (Hp.le_trans hl0 hle1) hj
    repeat' (first | (simp only [Value.cells, zblk_cells]; refine tl_is (.tmp 9) ?_; refine qY rfl rfl hy ?_; rintro v ρ' L' hle ⟨Lj', rfl, ⟨rfl, hj'⟩ | ⟨rfl, hj'⟩⟩ <;> (try simp only [List.cons_append, List.nil_append, List.append_eq])) | (refine i_op ?_; first | (refine i_qq ?_; refine qQ ?_) | refine qEf ?_) | refine tl_nil ?_ | (refine i_tc ?_; refine qTc ?_) | (refine i_te ?_; refine qTe ?_) | intro _)
    · refine te_round_g (k + 1, ρ', Lj') (⟨hlt, Hp.le_trans hle1 hle, by dsimp only; rw [hts]; exact hj'⟩) ev_le ev_le rfl tk inferInstance (by first | omega | (dsimp only; omega))
    · exact qE (L' := [[(sb, .cells ⟨[.int .i64 n]⟩ 3 (0, 0))]] ++ Lj') ⟨Lj', rfl, .inr hj'⟩
  · have hk2 : k = n + 2 := by omega
    subst hk2
    rw [List.take_of_length_le (by omega)] at hj
    repeat' (first | (refine i_op ?_; first | (refine i_qq ?_; refine qQ ?_) | refine qEf ?_) | refine tl_nil ?_ | (refine i_tc ?_; refine qTc ?_) | (refine i_te ?_; refine qTe ?_) | intro _)
    exact qE (L' := [[(sb, .cells ⟨[.int .i64 n]⟩ 3 (0, 0))]] ++ L1) ⟨L1, rfl, .inl hj⟩
end Go.Proofs.E

namespace Go.Proofs.E
open Go
set_option linter.unusedVariables false
set_option linter.unusedSimpArgs false
set_option linter.unusedSectionVars false
set_option maxRecDepth 4000
set_option maxHeartbeats 1000000
attribute [local irreducible] Yl TL TC TE Spec YSpec R1 Hp.le EnvLe TS TR YS Stays
theorem klen (ρ : Hp) (b : Nat) (k : DK) (D : DS) : Spec Try.prog 53 [.pointer (some ⟨b, 0, none⟩)] ρ (diskK b k D) (fun v ρ' L' => v = .int .i64 (D.secs.length : Nat) ∧ ρ' = ρ ∧ L' = diskK b k D) := len_disk ρ b k.hb k.mb k.es k.ck D
/-- a row of bytes, and where it lies -/
structure BSl where
  a : Option Addr
  n : Nat
  c : Nat
  l : Bs
abbrev slv (e : BSl) : Value := .slice e.a e.n e.c
structure BIn (ρ : Hp) (e : BSl) : Prop where
  s : SIn ρ u8c e.a e.n e.l
  le : e.n ≤ e.c
theorem BIn.mono {ρ ρ' : Hp} {e : BSl} (h : BIn ρ e) (hle : ρ.le ρ') : BIn ρ' e := ⟨h.s.mono hle, h.le⟩
structure RW where
  na : Option Addr
  nn : Nat
  nc : Nat
  ev : Value
  els : List BSl
  sp : List Value
abbrev rgV (R : RgS) (db : Nat) (w : RW) : List Value := [.int .u64 R.h.turn, .int .u64 R.h.first, .int .i64 R.h.size, .int .i64 R.h.place, .slice w.na w.nn w.nc, .pointer (some ⟨db, 0, none⟩), w.ev, .int .i64 R.used, .bool R.broken]
abbrev ringC (rb db : Nat) (R : RgS) (w : RW) : SH := [[(rb, .cells ⟨rgV R db w⟩ 97 (0, 0))], ownC w.ev (w.els.map slv) w.sp 30]
structure RIn (ρ : Hp) (R : RgS) (w : RW) : Prop where
  ok : R.Ok
  note : SIn ρ u8c w.na w.nn R.h.note
  nle : w.nn ≤ w.nc
  own : OwnS w.ev w.els.length (w.els.map slv) w.sp 1
  ents : R.ents = w.els.map BSl.l
  els : ∀ e ∈ w.els, BIn ρ e
theorem RIn.mono {ρ ρ' : Hp} {R : RgS} {w : RW} (h : RIn ρ R w) (hle : ρ.le ρ') : RIn ρ' R w := ⟨h.ok, h.note.mono hle, h.nle, h.own, h.ents, fun e he => (h.els e he).mono hle⟩
theorem RIn.len {ρ : Hp} {R : RgS} {w : RW} (h : RIn ρ R w) : w.els.length = R.ents.length := by rw [h.ents]; simp
theorem slv_one (l : List BSl) : (l.map slv).all (·.oneCell') = true := by
  rw [List.all_eq_true]; intro v hv; obtain ⟨b, _, rfl⟩ := List.mem_map.1 hv; rfl
theorem works_nil (ρ : Hp) : Spec Try.prog 41 [.pointer none] ρ [] (fun v ρ' L' => v = .int .i64 1 ∧ ρ' = ρ ∧ L' = []) := by
  refine spec_enter Try.func41 rfl rfl rfl fun u R => ?_
  simp only [argsE, List.cons_append, List.nil_append]
  repeat' (first | (refine i_op ?_; first | (refine i_qq ?_; refine qQ ?_) | refine qEf ?_) | refine tl_nil ?_ | (refine i_tc ?_; refine qTc ?_) | (refine i_te ?_; refine qTe ?_) | intro _)
  exact qE ⟨rfl, rfl, rfl⟩
theorem works_spec (ρ : Hp) (rb db : Nat) (R : RgS) (w : RW) : Spec Try.prog 41 [.pointer (some ⟨rb, 0, none⟩)] ρ [[(rb, .cells ⟨rgV R db w⟩ 97 (0, 0))]] (fun v ρ' L' => v = .int .i64 (if R.broken then 8 else 0) ∧ ρ' = ρ ∧ L' = [[(rb, .cells ⟨rgV R db w⟩ 97 (0, 0))]]) := by
  obtain ⟨h, ents, used, broken⟩ := R
  refine spec_enter Try.func41 rfl rfl rfl fun u R => ?_
  simp only [argsE, List.cons_append, List.nil_append]
  cases broken
  all_goals (repeat' (first | (refine i_op ?_; first | (refine i_qq ?_; refine qQ ?_) | refine qEf ?_) | refine tl_nil ?_ | (refine i_tc ?_; refine qTc ?_) | (refine i_te ?_; refine qTe ?_) | intro _))
  all_goals exact qE ⟨rfl, rfl, rfl⟩
theorem next_spec (ρ : Hp) (rb db : Nat) (R : RgS) (w : RW) (h : RIn ρ R w) : Spec Try.prog 45 [.pointer (some ⟨rb, 0, none⟩)] ρ [[(rb, .cells ⟨rgV R db w⟩ 97 (0, 0))]] (fun v ρ' L' => v = .int .u64 (R.next : Nat) ∧ ρ' = ρ ∧ L' = [[(rb, .cells ⟨rgV R db w⟩ 97 (0, 0))]]) := by
  have hl := h.len
  have hnx := h.ok.next
  have e : (R.h.first : Int) + (w.els.length : Int) = (R.next : Int) := by unfold RgS.next; omega
  obtain ⟨a, cap, hev, _⟩ := h.own.len
  obtain ⟨na, nn, nc, ev, els, sp⟩ := w
  dsimp only at hev hl e
  subst hev
  refine spec_enter Try.func45 rfl rfl rfl fun u R0 => ?_
  simp only [argsE, List.cons_append, List.nil_append]
  repeat' (first | (refine i_op ?_; first | (refine i_qq ?_; refine qQ ?_) | refine qEf ?_) | refine tl_nil ?_ | (refine i_tc ?_; refine qTc ?_) | (refine i_te ?_; refine qTe ?_) | intro _)
  refine tc_any (Stays _ _ _) stays_refl ?_
  all_goals refine rMv 0 ?_
  all_goals refine rFull ?_
  all_goals refine rNc 1 ?_
  all_goals refine rFa 2 ?_
  all_goals refine rFa 3 ?_
  all_goals refine rLd 4 ?_
  all_goals refine rMv 5 ?_
  all_goals refine rNc 6 ?_
  all_goals refine rFa 7 ?_
  all_goals refine rLd 8 ?_
  all_goals refine rBi 9 ?_
  all_goals refine rCv 10 ?_
  all_goals refine rAd 11 ?_
  all_goals refine rAs 12 ?_
  all_goals refine rDone ?_
  all_goals (repeat' (first | (refine i_op ?_; first | (refine i_qq ?_; refine qQ ?_) | refine qEf ?_) | refine tl_nil ?_ | (refine i_tc ?_; refine qTc ?_) | (refine i_te ?_; refine qTe ?_) | intro _))
  rw [e]
  exact qE ⟨rfl, rfl, rfl⟩
theorem sects_nat (ρ : Hp) (n : Nat) (hn : n ≤ 1000000) : Spec Try.prog 12 [.int .i64 n] ρ [] (fun v ρ' L' => v = .int .i64 (sects n : Nat) ∧ ρ' = ρ ∧ L' = []) := sects_spec ρ n (by omega)
theorem RIn.adds {ρ : Hp} {R : RgS} {w : RW} (h : RIn ρ R w) {e : BSl} (he : BIn ρ e) (hel : e.n ≤ 8000) (hfit : R.used + sects e.n ≤ R.h.size) (hn : R.next < 1099511627776) {v : Value} {sp : List Value} (ho : OwnS v (w.els.length + 1) ((w.els ++ [e]).map slv) sp 1) :
    RIn ρ (R.adds e.l) ⟨w.na, w.nn, w.nc, v, w.els ++ [e], sp⟩ := by
  have hel2 := he.s.len
  have hok := h.ok
  refine ⟨⟨hok.turn, hok.size, hok.first, ?_, hok.place, hok.note, ?_, ?_, ?_⟩, h.note, h.nle, by simpa using ho, ?_, ?_⟩
  · simp only [RgS.adds, RgS.next] at hn ⊢; simp; omega
  · simp only [RgS.adds, usedL_append, hok.used]; simp [usedL]
  · simp only [RgS.adds]; rw [hel2]; exact hfit
  · intro b hb
    simp only [RgS.adds, List.mem_append, List.mem_singleton] at hb
    rcases hb with hb | rfl
    · exact hok.long b hb
    · omega
  · simp [RgS.adds, h.ents]
  · intro x hx
    rcases List.mem_append.1 hx with hx | hx
    · exact h.els x hx
    · rw [List.mem_singleton.1 hx]; exact he
/-- an entry more -/
theorem adds_spec (ρ : Hp) (rb db : Nat) (R : RgS) (w : RW) (h : RIn ρ R w) (e : BSl) (he : BIn ρ e) (hel : e.n ≤ 8000) (hfit : R.used + sects e.n ≤ R.h.size) (hn : R.next < 1099511627776) :
    Spec Try.prog 48 [.pointer (some ⟨rb, 0, none⟩), slv e] ρ (ringC rb db R w) (fun v ρ' L' => v = .tuple ⟨[]⟩ ∧ ρ' = ρ ∧ ∃ ev' sp', RIn ρ (R.adds e.l) ⟨w.na, w.nn, w.nc, ev', w.els ++ [e], sp'⟩ ∧ L' = ringC rb db (R.adds e.l) ⟨w.na, w.nn, w.nc, ev', w.els ++ [e], sp'⟩) := by
  have hsz := h.ok.size
  have hlen := h.len
  have hul := usedL_len R.ents
  have hus := h.ok.used
  have hel2 := he.s.len
  have hown := h.own
  obtain ⟨hd, ents, used, broken⟩ := R
  obtain ⟨na, nn, nc, ev, els, sp⟩ := w
  dsimp only at hsz hlen hul hus hown hfit ⊢
  have hmap : els.map slv ++ [slv e] = (els ++ [e]).map slv := by simp
  have hus2 : (used : Int) + (sects e.n : Int) = ((used + sects e.l.length : Nat) : Int) := by rw [hel2]; omega
  refine spec_enter Try.func48 rfl rfl rfl fun u R0 => ?_
  simp only [argsE, List.cons_append, List.nil_append]
  repeat' (first | (refine tl_buildSlice_s rfl rfl rfl rfl (by simp) rfl rfl (fun _ => ?_)) | (refine tl_app (ys := [slv e]) (m := 1) (sz := 1) rfl rfl hown (hR := by infer_instance) SrcV.lit rfl rfl (by decide) rfl (by omega) (by omega) rfl (fun v2 sp2 hown2 => ?_); obtain ⟨a2, cap2, rfl, hc2⟩ := hown2.slice; rw [hmap] at hown2 ⊢) | (refine tl_is (.func 12) ?_; refine qC rfl rfl (sects_nat _ e.n (by omega)) ?_; rintro v ρ' L' hle ⟨rfl, rfl, rfl⟩ <;> (try simp only [List.cons_append, List.nil_append, List.append_eq])) | (refine i_op ?_; first | (refine i_qq ?_; refine qQ ?_) | refine qEf ?_) | refine tl_nil ?_ | (refine i_tc ?_; refine qTc ?_) | (refine i_te ?_; refine qTe ?_) | intro _)
  refine tc_any (Stays _ _ ([])) (stays_of (hT := tk) (Hp.le_refl _)) ?_
  all_goals refine rMv 0 ?_
  all_goals refine rNc 1 ?_
  all_goals refine rFa 2 ?_
  all_goals refine rMv 4 ?_
  all_goals refine rBi 5 ?_
  all_goals (refine rStep2 (i := 3) (j := 6) ?_ ?_ <;> ((try refine qWant ?_); (first | (refine tl_is (.func 12) ?_; refine qC rfl rfl (sects_nat _ e.n (by omega)) ?_; rintro v ρ' L' hle ⟨rfl, rfl, rfl⟩ <;> (try simp only [List.cons_append, List.nil_append, List.append_eq])) | (refine i_qq ?_; refine qQ ?_) | (refine qEf ?_; try intro _)) <;> ((try simp only [List.cons_append, List.nil_append, List.append_eq]); refine tl_nil ?_; refine rNext ?_)))
  all_goals (first | (refine rStep (i := 6) ?_; ((try refine qWant ?_); (first | (refine tl_is (.func 12) ?_; refine qC rfl rfl (sects_nat _ e.n (by omega)) ?_; rintro v ρ' L' hle ⟨rfl, rfl, rfl⟩ <;> (try simp only [List.cons_append, List.nil_append, List.append_eq])) | (refine i_qq ?_; refine qQ ?_) | (refine qEf ?_; try intro _)) <;> ((try simp only [List.cons_append, List.nil_append, List.append_eq]); refine tl_nil ?_; refine rNext ?_))) | (refine rStep (i := 3) ?_; ((try refine qWant ?_); (first | (refine tl_is (.func 12) ?_; refine qC rfl rfl (sects_nat _ e.n (by omega)) ?_; rintro v ρ' L' hle ⟨rfl, rfl, rfl⟩ <;> (try simp only [List.cons_append, List.nil_append, List.append_eq])) | (refine i_qq ?_; refine qQ ?_) | (refine qEf ?_; try intro _)) <;> ((try simp only [List.cons_append, List.nil_append, List.append_eq]); refine tl_nil ?_; refine rNext ?_))))
  all_goals refine rAd 7 ?_
  all_goals refine rNc 8 ?_
  all_goals refine rFa 9 ?_
  all_goals (refine rStep (i := 10) ?_; ((try refine qWant ?_); (first | (refine i_qq ?_; refine qQ ?_) | (refine qEf ?_; try intro _)) <;> ((try simp only [List.cons_append, List.nil_append, List.append_eq]); refine tl_nil ?_; refine rNext ?_)))
  all_goals refine rDone ?_
  all_goals rw [hus2]
  all_goals exact qE (L' := [[(rb, _)], ownC _ _ _ _]) ⟨rfl, rfl, _, sp2, h.adds he hel hfit hn hown2, rfl⟩
end Go.Proofs.E

namespace Go.Proofs.E
open Go
set_option linter.unusedVariables false
set_option linter.unusedSimpArgs false
set_option linter.unusedSectionVars false
set_option maxRecDepth 4000
set_option maxHeartbeats 1000000
attribute [local irreducible] Yl TL TC TE Spec YSpec R1 Hp.le EnvLe TS TR YS Stays
theorem Rd.ofNone {ρ : Hp} {X : SH} {n : Nat} {l : Bs} (h : Rd ρ X none n l) : l = [] ∧ n = 0 := by
  have hl := h.len
  have := h.src ⟨Option.none, Try.prog, default, [], 0⟩ ρ X [] (Hp.le_refl _) ⟨by simp⟩
  rcases this with h | ⟨b, off, h, _⟩
  · have : l = [] := by simpa using h
    subst this; exact ⟨rfl, by simpa using hl.symm⟩
  · cases h
theorem cloneR_spec (ρ : Hp) (X : SH) (a : Option Addr) (n c : Nat) (b : Bs) (h : Rd ρ X a n b) (hn : n ≤ 1000000) :
    Spec Try.prog 42 [.slice a n c] ρ X (fun v ρ' L' => ρ.le ρ' ∧ ∃ e : BSl, v = slv e ∧ BIn ρ' e ∧ e.l = b ∧ e.n = n ∧ L' = X) := by
  have hl := h.len
  cases a with
  | none =>
    obtain ⟨rfl, rfl⟩ := h.ofNone
    refine spec_enter Try.func42 rfl rfl rfl fun u R => ?_
    simp only [argsE, List.cons_append, List.nil_append]
    repeat' (first | (refine i_op ?_; first | (refine i_qq ?_; refine qQ ?_) | refine qEf ?_) | refine tl_nil ?_ | (refine i_tc ?_; refine qTc ?_) | (refine i_te ?_; refine qTe ?_) | intro _)
    exact qE ⟨Hp.le_refl _, ⟨none, 0, 0, []⟩, rfl, ⟨SIn.nil, Nat.le_refl _⟩, rfl, rfl, rfl⟩
  | some ad =>
    refine spec_enter Try.func42 rfl rfl rfl fun u R => ?_
    simp only [argsE, List.cons_append, List.nil_append]
    repeat' (first | (refine i_op ?_; first | (refine i_qq ?_; refine qQ ?_) | refine qEf ?_) | refine tl_nil ?_ | (refine i_tc ?_; refine qTc ?_) | (refine i_te ?_; refine qTe ?_) | intro _)
    rename_i bx
    refine tl_app (n := 0) (xs := []) (sp := []) (ys := b.map u8c) (sz := 1) rfl rfl (OwnS.zero _ 1) (hR := rem_here') (h.src _ _ _ _ (Hp.le_refl _) tk) (by simpa using hl) (u8c_one b) (by decide) rfl (by omega) (by omega) rfl (fun v' sp' hown' => ?_)
    simp only [Nat.zero_add, List.nil_append] at hown' ⊢
    repeat' (first | (refine i_op ?_; first | (refine i_qq ?_; refine qQ ?_) | refine qEf ?_) | refine tl_nil ?_ | (refine i_tc ?_; refine qTc ?_) | (refine i_te ?_; refine qTe ?_) | intro _)
    refine te_freeze _ (h := Rem.here) (fun ρ6 hle6 hfz => ?_)
    obtain ⟨a6, c6, rfl, hc6, hs6⟩ := hown'.sIn hfz
    exact qE ⟨hle6, ⟨a6, n, c6, b⟩, rfl, ⟨hs6, hc6⟩, rfl, rfl, rfl⟩
theorem partsL_len {h : Hd} {n at' : Nat} {b : Bs} : ∀ p ∈ partsL h n b at', p.2.length = 64 := fun p hp => by
  simp only [partsL, List.mem_map] at hp
  obtain ⟨k, _, rfl⟩ := hp
  exact partB_len _ _ _ _
theorem partsF_spec (ρ : Hp) (h : Hd) (na : Option Addr) (nn nc n : Nat) (a : Option Addr) (bn c at' : Nat) :
    Spec Try.prog 47 [.agg ⟨hdV h na nn nc⟩, .int .u64 n, .slice a bn c, .int .i64 at'] ρ [] (fun v ρ' L' => ρ' = ρ ∧ ∃ bb ab hb nb, v = .func (.func 88) ⟨[]⟩ ⟨[.pointer (some ⟨bb, 0, none⟩), .pointer (some ⟨ab, 0, none⟩), .pointer (some ⟨hb, 0, none⟩), .pointer (some ⟨nb, 0, none⟩)]⟩ ∧ L' = partsS bb ab hb nb a bn c at' h na nn nc n) := by
  refine spec_enter Try.func47 rfl rfl rfl fun u R => ?_
  simp only [argsE, List.cons_append, List.nil_append]
  repeat' (first | (refine i_op ?_; first | (refine i_qq ?_; refine qQ ?_) | refine qEf ?_) | refine tl_nil ?_ | (refine i_tc ?_; refine qTc ?_) | (refine i_te ?_; refine qTe ?_) | intro _)
  rename_i hb nb bb ab
  exact qE (L' := partsS bb ab hb nb a bn c at' h na nn nc n) ⟨rfl, bb, ab, hb, nb, rfl, rfl⟩
theorem rgV_broken {R : RgS} {db : Nat} {w : RW} {b : Bool} : [.int .u64 R.h.turn, .int .u64 R.h.first, .int .i64 R.h.size, .int .i64 R.h.place, .slice w.na w.nn w.nc, .pointer (some ⟨db, 0, none⟩), w.ev, .int .i64 R.used, .bool b] = rgV { R with broken := b } db w := rfl
theorem RIn.broken {ρ : Hp} {R : RgS} {w : RW} (h : RIn ρ R w) (b : Bool) : RIn ρ { R with broken := b } w := ⟨⟨h.ok.turn, h.ok.size, h.ok.first, h.ok.next, h.ok.place, h.ok.note, h.ok.used, h.ok.fit, h.ok.long⟩, h.note, h.nle, h.own, h.ents, h.els⟩
theorem append_spec (ρ : Hp) (rb db : Nat) (R : RgS) (w : RW) (h : RIn ρ R w) (k : DK) (D : DS) (hD : DOk k D) (X : SH) (a : Option Addr) (n c : Nat) (b : Bs) (hb : Rd ρ X a n b) (hc : n ≤ c) (hbig : n ≤ 1000000) :
    Spec Try.prog 14 [.pointer (some ⟨rb, 0, none⟩), .slice a n c] ρ (ringC rb db R w ++ (diskK db k D ++ X))
      (fun v ρ' L' => v = .int .i64 (R.append b D).2.2 ∧ ρ.le ρ' ∧ ∃ k' w', DOk k' (R.append b D).2.1 ∧ RIn ρ' (R.append b D).1 w' ∧ L' = ringC rb db (R.append b D).1 w' ++ (diskK db k' (R.append b D).2.1 ++ X)) := by
  have hl := hb.len
  have hok := h.ok
  have hsz := h.ok.size
  have hft := h.ok.fit
  have hfs := h.ok.first
  have hnx := h.ok.next
  have hpl := h.ok.place
  have htu := h.ok.turn
  have hsc := sects_pos n
  cases hbr : R.broken with
  | true =>
    have he : R.append b D = (R, D, 8) := by simp [RgS.append, hbr]
    rw [he]
    have hw8 := works_spec ρ rb db R w
    rw [hbr] at hw8
    simp only [if_true] at hw8
    refine spec_enter Try.func14 rfl rfl rfl fun u R0 => ?_
    simp only [argsE, List.cons_append, List.nil_append, List.append_assoc]
    repeat' (first | (refine tl_is (.func 41) ?_; refine qC rfl rfl (hw8) ?_; rintro v ρ' L' hle ⟨rfl, rfl, rfl⟩ <;> (try simp only [List.cons_append, List.nil_append, List.append_eq])) | (refine i_op ?_; first | (refine i_qq ?_; refine qQ ?_) | refine qEf ?_) | refine tl_nil ?_ | (refine i_tc ?_; refine qTc ?_) | (refine i_te ?_; refine qTe ?_) | intro _)
    exact qE (L' := ringC rb db R w ++ (diskK db k D ++ X)) ⟨rfl, Hp.le_refl _, k, w, hD, h, rfl⟩
  | false =>
    have hw0 := works_spec ρ rb db R w
    rw [hbr] at hw0
    simp only [Bool.false_eq_true, if_false] at hw0
    by_cases hlong : 8000 < n
    · have he : R.append b D = (R, D, 3) := by simp [RgS.append, hbr, hl, hlong]
      rw [he]
      refine spec_enter Try.func14 rfl rfl rfl fun u R0 => ?_
      simp only [argsE, List.cons_append, List.nil_append, List.append_assoc]
      repeat' (first | (refine tl_is (.func 41) ?_; refine qC rfl rfl (hw0) ?_; rintro v ρ' L' hle ⟨rfl, rfl, rfl⟩ <;> (try simp only [List.cons_append, List.nil_append, List.append_eq])) | (refine i_op ?_; first | (refine i_qq ?_; refine qQ ?_) | refine qEf ?_) | refine tl_nil ?_ | (refine i_tc ?_; refine qTc ?_) | (refine i_te ?_; refine qTe ?_) | intro _)
      exact qE (L' := ringC rb db R w ++ (diskK db k D ++ X)) ⟨rfl, Hp.le_refl _, k, w, hD, h, rfl⟩
    · have hnext := next_spec ρ rb db R w h
      by_cases hfull : R.h.size - R.used < sects n
      · have he : R.append b D = (R, D, 6) := by simp [RgS.append, hbr, hl, hlong, hfull]
        rw [he]
        refine spec_enter Try.func14 rfl rfl rfl fun u R0 => ?_
        simp only [argsE, List.cons_append, List.nil_append, List.append_assoc]
        repeat' (first | (refine tl_is (.func 41) ?_; refine qC rfl rfl (hw0) ?_; rintro v ρ' L' hle ⟨rfl, rfl, rfl⟩ <;> (try simp only [List.cons_append, List.nil_append, List.append_eq])) | (refine i_op ?_; first | (refine i_qq ?_; refine qQ ?_) | refine qEf ?_) | refine tl_nil ?_ | (refine i_tc ?_; refine qTc ?_) | (refine i_te ?_; refine qTe ?_) | intro _)
        refine tc_any (Stays _ _ ([[(rb, .cells ⟨rgV R db w⟩ 97 (0, 0))]])) (stays_of (hT := tk) (Hp.le_refl _)) ?_
        all_goals refine rMv 0 ?_
        all_goals refine rBi 1 ?_
        all_goals refine rMv 3 ?_
        all_goals refine rNc 4 ?_
        all_goals refine rFa 5 ?_
        all_goals refine rFa 6 ?_
        all_goals refine rLd 7 ?_
        all_goals refine rMv 8 ?_
        all_goals refine rNc 9 ?_
        all_goals refine rFa 10 ?_
        all_goals refine rLd 11 ?_
        all_goals refine rSb 12 ?_
        all_goals (refine rStep (i := 2) ?_; ((try refine qWant ?_); (first | (refine tl_is (.func 12) ?_; refine qC rfl rfl (sects_nat _ n (by omega)) ?_; rintro v ρ' L' hle ⟨rfl, rfl, rfl⟩ <;> (try simp only [List.cons_append, List.nil_append, List.append_eq])) | (refine qEf ?_; try intro _)) <;> ((try simp only [List.cons_append, List.nil_append, List.append_eq]); refine tl_nil ?_; refine rNext ?_)))
        all_goals refine rCm 13 ?_
        all_goals refine rMv 14 ?_
        all_goals (first | refine wSkip 15 ?_ | refine wSkipU 15 ?_ | refine wMv 15 ?_ | (refine tr_guard (t := 31) rfl (fun hb => ?_) (fun hb => ?_) <;> (try simp only [decide_eq_true_eq, decide_eq_false_iff_not, Bool.not_eq_true, Bool.not_eq_false, beq_iff_eq, bne_iff_ne, ne_eq, Bool.not_eq_eq_eq_not, Bool.not_true, Bool.not_false, beq_eq_false_iff_ne, bne_eq_false_iff_eq] at hb) <;> first | refine wSkip 15 ?_ | refine wSkipU 15 ?_ | refine wMv 15 ?_))
        all_goals (first | refine wSkip 16 ?_ | refine wSkipU 16 ?_ | (refine rStep (i := 16) ?_; ((try refine qWant ?_); (first | (refine qEf ?_; try intro _)) <;> ((try simp only [List.cons_append, List.nil_append, List.append_eq]); refine tl_nil ?_; refine rNext ?_))))
        all_goals refine rFull ?_
        all_goals (first | refine wSkip 17 ?_ | refine wSkipU 17 ?_ | refine wCm 17 ?_ | (refine tr_guard (t := 31) rfl (fun hb => ?_) (fun hb => ?_) <;> (try simp only [decide_eq_true_eq, decide_eq_false_iff_not, Bool.not_eq_true, Bool.not_eq_false, beq_iff_eq, bne_iff_ne, ne_eq, Bool.not_eq_eq_eq_not, Bool.not_true, Bool.not_false, beq_eq_false_iff_ne, bne_eq_false_iff_eq] at hb) <;> first | refine wSkip 17 ?_ | refine wSkipU 17 ?_ | refine wCm 17 ?_))
        all_goals refine rPk 18 ?_
        all_goals refine rAs 19 ?_
        all_goals refine rDone ?_
        all_goals (repeat' (first | (refine i_op ?_; first | (refine i_qq ?_; refine qQ ?_) | refine qEf ?_) | refine tl_nil ?_ | (refine i_tc ?_; refine qTc ?_) | (refine i_te ?_; refine qTe ?_) | intro _))
        all_goals exact qE (L' := ringC rb db R w ++ (diskK db k D ++ X)) ⟨rfl, Hp.le_refl _, k, w, hD, h, rfl⟩
      · by_cases hmax : 1099511627776 ≤ R.next
        · have he : R.append b D = (R, D, 6) := by simp [RgS.append, hbr, hl, hlong, hfull, hmax]
          rw [he]
          refine spec_enter Try.func14 rfl rfl rfl fun u R0 => ?_
          simp only [argsE, List.cons_append, List.nil_append, List.append_assoc]
          repeat' (first | (refine tl_is (.func 41) ?_; refine qC rfl rfl (hw0) ?_; rintro v ρ' L' hle ⟨rfl, rfl, rfl⟩ <;> (try simp only [List.cons_append, List.nil_append, List.append_eq])) | (refine i_op ?_; first | (refine i_qq ?_; refine qQ ?_) | refine qEf ?_) | refine tl_nil ?_ | (refine i_tc ?_; refine qTc ?_) | (refine i_te ?_; refine qTe ?_) | intro _)
          refine tc_any (Stays _ _ ([[(rb, .cells ⟨rgV R db w⟩ 97 (0, 0))]])) (stays_of (hT := tk) (Hp.le_refl _)) ?_
          all_goals refine rMv 0 ?_
          all_goals refine rBi 1 ?_
          all_goals refine rMv 3 ?_
          all_goals refine rNc 4 ?_
          all_goals refine rFa 5 ?_
          all_goals refine rFa 6 ?_
          all_goals refine rLd 7 ?_
          all_goals refine rMv 8 ?_
          all_goals refine rNc 9 ?_
          all_goals refine rFa 10 ?_
          all_goals refine rLd 11 ?_
          all_goals refine rSb 12 ?_
          all_goals (refine rStep (i := 2) ?_; ((try refine qWant ?_); (first | (refine tl_is (.func 12) ?_; refine qC rfl rfl (sects_nat _ n (by omega)) ?_; rintro v ρ' L' hle ⟨rfl, rfl, rfl⟩ <;> (try simp only [List.cons_append, List.nil_append, List.append_eq])) | (refine qEf ?_; try intro _)) <;> ((try simp only [List.cons_append, List.nil_append, List.append_eq]); refine tl_nil ?_; refine rNext ?_)))
          all_goals refine rCm 13 ?_
          all_goals refine rMv 14 ?_
          all_goals (first | refine wSkip 15 ?_ | refine wSkipU 15 ?_ | refine wMv 15 ?_ | (refine tr_guard (t := 31) rfl (fun hb => ?_) (fun hb => ?_) <;> (try simp only [decide_eq_true_eq, decide_eq_false_iff_not, Bool.not_eq_true, Bool.not_eq_false, beq_iff_eq, bne_iff_ne, ne_eq, Bool.not_eq_eq_eq_not, Bool.not_true, Bool.not_false, beq_eq_false_iff_ne, bne_eq_false_iff_eq] at hb) <;> first | refine wSkip 15 ?_ | refine wSkipU 15 ?_ | refine wMv 15 ?_))
          all_goals (first | refine wSkip 16 ?_ | refine wSkipU 16 ?_ | (refine rStep (i := 16) ?_; ((try refine qWant ?_); (first | (refine tl_is (.func 45) ?_; refine qC rfl rfl (hnext) ?_; rintro v ρ' L' hle ⟨rfl, rfl, rfl⟩ <;> (try simp only [List.cons_append, List.nil_append, List.append_eq])) | (refine qEf ?_; try intro _)) <;> ((try simp only [List.cons_append, List.nil_append, List.append_eq]); refine tl_nil ?_; refine rNext ?_))))
          all_goals refine rFull ?_
          all_goals (first | refine wSkip 17 ?_ | refine wSkipU 17 ?_ | refine wCm 17 ?_ | (refine tr_guard (t := 31) rfl (fun hb => ?_) (fun hb => ?_) <;> (try simp only [decide_eq_true_eq, decide_eq_false_iff_not, Bool.not_eq_true, Bool.not_eq_false, beq_iff_eq, bne_iff_ne, ne_eq, Bool.not_eq_eq_eq_not, Bool.not_true, Bool.not_false, beq_eq_false_iff_ne, bne_eq_false_iff_eq] at hb) <;> first | refine wSkip 17 ?_ | refine wSkipU 17 ?_ | refine wCm 17 ?_))
          all_goals refine rPk 18 ?_
          all_goals refine rAs 19 ?_
          all_goals refine rDone ?_
          all_goals (repeat' (first | (refine i_op ?_; first | (refine i_qq ?_; refine qQ ?_) | refine qEf ?_) | refine tl_nil ?_ | (refine i_tc ?_; refine qTc ?_) | (refine i_te ?_; refine qTe ?_) | intro _))
          all_goals exact qE (L' := ringC rb db R w ++ (diskK db k D ++ X)) ⟨rfl, Hp.le_refl _, k, w, hD, h, rfl⟩
        · have hpu : (R.h.place : Int) + (R.used : Int) = ((R.h.place + R.used : Nat) : Int) := by omega
          have hit := fun bb ab hb2 nb => parts_iter ρ X bb ab hb2 nb a n c (R.h.place + R.used) b R.h w.na w.nn w.nc R.next hb hc (by omega) hnx (by omega) (by omega) (by omega) (by omega)
          have hsome : R.append b D = if (DS.lays (partsL R.h R.next b (R.h.place + R.used)) D).2 = 0 then (⟨R.h, R.ents ++ [b], R.used + sects b.length, false⟩, DS.lays (partsL R.h R.next b (R.h.place + R.used)) D) else ({ R with broken := true }, DS.lays (partsL R.h R.next b (R.h.place + R.used)) D) := by
            unfold RgS.append
            rw [hbr, hl, if_neg (by simp), if_neg (by omega), if_neg (by omega)]
          refine spec_enter Try.func14 rfl rfl rfl fun u R0 => ?_
          simp only [argsE, List.cons_append, List.nil_append, List.append_assoc]
          repeat' (first | (refine tl_is (.func 41) ?_; refine qC rfl rfl (hw0) ?_; rintro v ρ' L' hle ⟨rfl, rfl, rfl⟩ <;> (try simp only [List.cons_append, List.nil_append, List.append_eq])) | (refine i_op ?_; first | (refine i_qq ?_; refine qQ ?_) | refine qEf ?_) | refine tl_nil ?_ | (refine i_tc ?_; refine qTc ?_) | (refine i_te ?_; refine qTe ?_) | intro _)
          refine tc_any (Stays _ _ ([[(rb, .cells ⟨rgV R db w⟩ 97 (0, 0))]])) (stays_of (hT := tk) (Hp.le_refl _)) ?_
          all_goals refine rMv 0 ?_
          all_goals refine rBi 1 ?_
          all_goals refine rMv 3 ?_
          all_goals refine rNc 4 ?_
          all_goals refine rFa 5 ?_
          all_goals refine rFa 6 ?_
          all_goals refine rLd 7 ?_
          all_goals refine rMv 8 ?_
          all_goals refine rNc 9 ?_
          all_goals refine rFa 10 ?_
          all_goals refine rLd 11 ?_
          all_goals refine rSb 12 ?_
          all_goals (refine rStep (i := 2) ?_; ((try refine qWant ?_); (first | (refine tl_is (.func 12) ?_; refine qC rfl rfl (sects_nat _ n (by omega)) ?_; rintro v ρ' L' hle ⟨rfl, rfl, rfl⟩ <;> (try simp only [List.cons_append, List.nil_append, List.append_eq])) | (refine qEf ?_; try intro _)) <;> ((try simp only [List.cons_append, List.nil_append, List.append_eq]); refine tl_nil ?_; refine rNext ?_)))
          all_goals refine rCm 13 ?_
          all_goals refine rMv 14 ?_
          all_goals (first | refine wSkip 15 ?_ | refine wSkipU 15 ?_ | refine wMv 15 ?_ | (refine tr_guard (t := 31) rfl (fun hb => ?_) (fun hb => ?_) <;> (try simp only [decide_eq_true_eq, decide_eq_false_iff_not, Bool.not_eq_true, Bool.not_eq_false, beq_iff_eq, bne_iff_ne, ne_eq, Bool.not_eq_eq_eq_not, Bool.not_true, Bool.not_false, beq_eq_false_iff_ne, bne_eq_false_iff_eq] at hb) <;> first | refine wSkip 15 ?_ | refine wSkipU 15 ?_ | refine wMv 15 ?_))
          all_goals (first | refine wSkip 16 ?_ | refine wSkipU 16 ?_ | (refine rStep (i := 16) ?_; ((try refine qWant ?_); (first | (refine tl_is (.func 45) ?_; refine qC rfl rfl (hnext) ?_; rintro v ρ' L' hle ⟨rfl, rfl, rfl⟩ <;> (try simp only [List.cons_append, List.nil_append, List.append_eq])) | (refine qEf ?_; try intro _)) <;> ((try simp only [List.cons_append, List.nil_append, List.append_eq]); refine tl_nil ?_; refine rNext ?_))))
          all_goals refine rFull ?_
          all_goals (first | refine wSkip 17 ?_ | refine wSkipU 17 ?_ | refine wCm 17 ?_ | (refine tr_guard (t := 31) rfl (fun hb => ?_) (fun hb => ?_) <;> (try simp only [decide_eq_true_eq, decide_eq_false_iff_not, Bool.not_eq_true, Bool.not_eq_false, beq_iff_eq, bne_iff_ne, ne_eq, Bool.not_eq_eq_eq_not, Bool.not_true, Bool.not_false, beq_eq_false_iff_ne, bne_eq_false_iff_eq] at hb) <;> first | refine wSkip 17 ?_ | refine wSkipU 17 ?_ | refine wCm 17 ?_))
          all_goals refine rPk 18 ?_
          all_goals refine rAs 19 ?_
          all_goals refine rDone ?_
          all_goals (repeat' (first | (refine i_op ?_; first | (refine i_qq ?_; refine qQ ?_) | refine qEf ?_) | refine tl_nil ?_ | (refine i_tc ?_; refine qTc ?_) | (refine i_te ?_; refine qTe ?_) | intro _))
          refine tc_any (Stays _ _ ([[(rb, .cells ⟨rgV R db w⟩ 97 (0, 0))]])) (stays_of (hT := tk) (Hp.le_refl _)) ?_
          all_goals refine rMv 0 ?_
          all_goals refine rNc 1 ?_
          all_goals refine rFa 2 ?_
          all_goals refine rLd 3 ?_
          all_goals refine rMv 4 ?_
          all_goals refine rNc 5 ?_
          all_goals refine rFa 6 ?_
          all_goals refine rLd 7 ?_
          all_goals refine rMv 8 ?_
          all_goals refine rMv 10 ?_
          all_goals refine rMv 11 ?_
          all_goals refine rNc 12 ?_
          all_goals refine rFa 13 ?_
          all_goals refine rFa 14 ?_
          all_goals refine rLd 15 ?_
          all_goals refine rMv 16 ?_
          all_goals refine rNc 17 ?_
          all_goals refine rFa 18 ?_
          all_goals refine rLd 19 ?_
          all_goals refine rAd 20 ?_
          all_goals (refine rStep (i := 9) ?_; ((try refine qWant ?_); (first | (refine tl_is (.func 45) ?_; refine qC rfl rfl (hnext) ?_; rintro v ρ' L' hle ⟨rfl, rfl, rfl⟩ <;> (try simp only [List.cons_append, List.nil_append, List.append_eq, hpu])) | (refine qEf ?_; try intro _)) <;> ((try simp only [List.cons_append, List.nil_append, List.append_eq]); refine tl_nil ?_; refine rNext ?_)))
          all_goals (refine rStep (i := 21) ?_; ((try refine qWant ?_); (first | (refine tl_is (.func 47) ?_; refine qC rfl rfl (partsF_spec _ R.h w.na w.nn w.nc R.next a n c (R.h.place + R.used)) ?_; rintro v ρ' L' hle ⟨rfl, bb, ab, hb2, nb, rfl, rfl⟩ <;> (try simp only [List.cons_append, List.nil_append, List.append_eq])) | (refine qEf ?_; try intro _)) <;> ((try simp only [List.cons_append, List.nil_append, List.append_eq]); refine tl_nil ?_; refine rNext ?_)))
          all_goals (refine rStep (i := 22) ?_; ((try refine qWant ?_); (first | (refine tl_is (.func 46) ?_; refine qC rfl rfl (lays_spec _ _ _ _ _ _ (Hp.le_refl _) (hit bb ab hb2 nb) partsL_len db k D hD) ?_; rintro v6 ρ6 L6 hle6 ⟨rfl, hl6, k6, hD6, rfl⟩; simp only [List.cons_append, List.nil_append, List.append_assoc]) | (refine qEf ?_; try intro _)) <;> ((try simp only [List.cons_append, List.nil_append, List.append_eq]); refine tl_nil ?_; refine rNext ?_)))
          all_goals refine rFull ?_
          all_goals refine rAs 23 ?_
          all_goals refine rDone ?_
          all_goals (repeat' (first | (refine i_op ?_; first | (refine i_qq ?_; refine qQ ?_) | refine qEf ?_) | refine tl_nil ?_ | (refine i_tc ?_; refine qTc ?_) | (refine i_te ?_; refine qTe ?_) | intro _))
          have hlm := h.mono hl6
          have hbm := hb.mono hl6
          rw [hsome]
          generalize DS.lays (partsL R.h R.next b (R.h.place + R.used)) D = r at *
          obtain ⟨D', ec⟩ := r
          dsimp only at hD6 ⊢
          by_cases hz : ec = 0
          · subst hz
            rw [show ((0 : Int) != 0) = false from rfl, if_pos rfl]
            repeat' (first | (refine tl_is (.func 42) ?_; refine qC rfl rfl (cloneR_spec _ X a n c b hbm hbig) ?_; rintro v7 ρ7 L7 hle7 ⟨hl7, e, rfl, he, hel, hen, rfl⟩; subst hel; simp only [List.cons_append, List.nil_append]) | (refine tl_is (.func 48) ?_; refine qC rfl rfl (adds_spec _ rb db { R with broken := false } w ((hlm.mono hl7).broken false) e he (by omega) (by rw [hen]; dsimp only; omega) (by have : RgS.next { R with broken := false } = R.next := rfl; omega)) ?_; rintro v8 ρ8 L8 hle8 ⟨rfl, rfl, ev8, sp8, hin8, rfl⟩; simp only [List.cons_append, List.nil_append]) | (refine i_op ?_; first | (refine i_qq ?_; refine qQ ?_) | refine qEf ?_) | refine tl_nil ?_ | (refine i_tc ?_; refine qTc ?_) | (refine i_te ?_; refine qTe ?_) | intro _)
            exact qE (L' := ringC rb db (RgS.adds { R with broken := false } e.l) ⟨w.na, w.nn, w.nc, ev8, w.els ++ [e], sp8⟩ ++ (diskK db k6 D' ++ _)) ⟨rfl, Hp.le_trans hl6 hl7, k6, _, hD6, hin8, rfl⟩
          · have hcb : (ec != 0) = true := by simpa using hz
            rw [hcb, if_neg hz]
            repeat' (first | (refine i_op ?_; first | (refine i_qq ?_; refine qQ ?_) | refine qEf ?_) | refine tl_nil ?_ | (refine i_tc ?_; refine qTc ?_) | (refine i_te ?_; refine qTe ?_) | intro _)
            exact qE (L' := ringC rb db { R with broken := true } w ++ (diskK db k6 D' ++ X)) ⟨rfl, hl6, k6, w, hD6, hlm.broken true, rfl⟩
end Go.Proofs.E

namespace Go.Proofs.E
open Go
set_option linter.unusedVariables false
set_option linter.unusedSimpArgs false
set_option linter.unusedSectionVars false
set_option maxRecDepth 4000
set_option maxHeartbeats 1000000
attribute [local irreducible] Yl TL TC TE Spec YSpec R1 Hp.le EnvLe TS TR YS Stays
theorem usedL_take_succ (l : List Bs) (k : Nat) (h : k < l.length) : usedL (l.take (k + 1)) = usedL (l.take k) + sects l[k].length := by
  rw [List.take_succ_eq_append_getElem h, usedL_append]; simp [usedL]
theorem RIn.at {ρ : Hp} {R : RgS} {w : RW} (h : RIn ρ R w) {k : Nat} (hk : k < w.els.length) : (w.els[k]).l = R.ents[k]'(by rw [← h.len]; exact hk) ∧ BIn ρ w.els[k] ∧ (w.els[k]).n ≤ 8000 := by
  have hb := h.els _ (List.getElem_mem hk)
  have hl := hb.s.len
  have hlong := h.ok.long
  have he : (w.els[k]).l = R.ents[k]'(by rw [← h.len]; exact hk) := by simp [h.ents]
  refine ⟨he, hb, ?_⟩
  rw [← hl, he]; exact hlong _ (List.getElem_mem _)
/-- a copy of a part of the entries -/
theorem clone2_spec (ρ : Hp) (a : Option Addr) (n c off : Nat) (T : TypeId) (xs sp : List Value) (X : SH) (b : Nat) (cap : Nat) (els : List BSl) (hn : n ≤ 1000000) (hlen : els.length = n) (ha : a = some ⟨b, off, none⟩) (hX : X = [[(b, .cells ⟨xs⟩ T (0, 0))]]) (hx : (xs.drop off).take n = els.map slv) :
    Spec Try.prog 44 [.slice a n c] ρ X (fun v ρ' L' => ρ' = ρ ∧ ∃ sp', OwnS v n (els.map slv) sp' 1 ∧ L' = X ++ [ownC v (els.map slv) sp' 30]) := by
  subst ha; subst hX
  refine spec_enter Try.func44 rfl rfl rfl fun u R => ?_
  simp only [argsE, List.cons_append, List.nil_append]
  repeat' (first | (refine i_op ?_; first | (refine i_qq ?_; refine qQ ?_) | refine qEf ?_) | refine tl_nil ?_ | (refine i_tc ?_; refine qTc ?_) | (refine i_te ?_; refine qTe ?_) | intro _)
  refine tl_app (n := 0) (xs := []) (sp := []) (ys := els.map slv) (sz := 1) rfl rfl (OwnS.zero _ 1) (hR := rem_here') (SrcV.find (n := n) hx) (by simpa using hlen) (slv_one els) (by decide) rfl (by omega) (by omega) rfl (fun v' sp' hown' => ?_)
  simp only [Nat.zero_add, List.nil_append] at hown' ⊢
  repeat' (first | (refine i_op ?_; first | (refine i_qq ?_; refine qQ ?_) | refine qEf ?_) | refine tl_nil ?_ | (refine i_tc ?_; refine qTc ?_) | (refine i_te ?_; refine qTe ?_) | intro _)
  exact qE (L' := [[(b, .cells ⟨xs⟩ T (0, 0))], ownC v' (els.map slv) sp' 30]) ⟨rfl, sp', hown', rfl⟩
theorem clone2_nil (ρ : Hp) (n c : Nat) : Spec Try.prog 44 [.slice none n c] ρ [] (fun v ρ' L' => v = .slice none 0 0 ∧ ρ' = ρ ∧ L' = []) := by
  refine spec_enter Try.func44 rfl rfl rfl fun u R => ?_
  simp only [argsE, List.cons_append, List.nil_append]
  repeat' (first | (refine i_op ?_; first | (refine i_qq ?_; refine qQ ?_) | refine qEf ?_) | refine tl_nil ?_ | (refine i_tc ?_; refine qTc ?_) | (refine i_te ?_; refine qTe ?_) | intro _)
  exact qE ⟨rfl, rfl, rfl⟩
end Go.Proofs.E

