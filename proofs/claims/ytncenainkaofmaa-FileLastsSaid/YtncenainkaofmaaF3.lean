/- Contents of layer 3, disks of layer 2 and files of layer 14 as data, and what their functions come to. Part 3 of 6. -/
import Derived.Test.YtncenainkaofmaaF2
namespace Go.Proofs.E
open Go
set_option linter.unusedVariables false
set_option linter.unusedSimpArgs false
set_option linter.unusedSectionVars false
set_option maxRecDepth 4000
set_option maxHeartbeats 1000000
attribute [local irreducible] Yl TL TC TE Spec YSpec R1 Hp.le EnvLe TS TR YS Stays
/-! ## octet: numbers are laid -/
def z8 (n : Nat) : List UInt8 := List.replicate n 0
theorem stc_mid (A B vs ws : List Value) (h : ws.length = vs.length) : stc (A ++ (vs ++ B)) A.length ws = A ++ (ws ++ B) := by
  unfold stc
  rw [List.take_left, h, ← List.drop_drop, List.drop_left, List.drop_left, List.append_assoc]
theorem u8_wrap (y : Nat) : Value.int .u8 (IntKind.u8.wrap (y : Int)) = u8c (UInt8.ofNat y) := by
  simp only [u8c, UInt8.toNat_ofNat', IntKind.wrap, IntKind.bits, IntKind.signed, Bool.false_and, Bool.false_eq_true, if_false]
  congr 1
theorem made_z8 (m : Nat) : madeCells (Value.int .u8 0).cells m = ⟨(z8 m).map u8c⟩ := by
  have hz : (Value.int IntKind.u8 0).cells = ⟨[u8c 0]⟩ := rfl
  rw [hz]
  apply Array.ext'
  apply List.ext_getElem?
  intro i
  by_cases hi : i < m
  · simp [madeCells, z8, hi, Nat.mod_one]
  · rw [List.getElem?_eq_none (by simp [madeCells]; omega), List.getElem?_eq_none (by simp [z8]; omega)]
theorem own_chunk (b n c : Nat) {xs : List Value} {T : TypeId} : [(b, Obj.cells ⟨xs⟩ T (0, 0))] = ownC (.slice (some ⟨b, 0, none⟩) n c) xs [] T := by simp [ownC]
theorem stand_spec (ρ : Hp) (a : Option Addr) (n c : Nat) (l : List UInt8) (h : SIn ρ u8c a n l) (x p : Nat) (hx : x < 18446744073709551616) (hp : p ≤ 8) (hp1 : 1 ≤ p) (hn : n ≤ 1000000) :
    Spec Try.prog 136 [.slice a n c, .int .u64 x, .int .i64 p] ρ [] (fun v ρ' L' => ρ' = ρ ∧ ∃ sp, OwnS v (n + p) ((l ++ be p x).map u8c) sp 1 ∧ L' = [ownC v ((l ++ be p x).map u8c) sp 5]) := by
  have hl := h.len
  refine spec_enter Try.func136 rfl rfl rfl fun u R => ?_
  simp only [argsE, List.cons_append, List.nil_append]
  repeat' (first | (refine tl_makeSlice rfl rfl (by omega) (by omega) (by omega) (by omega) rfl (fun hbn => ?_)) | (refine i_op ?_; first | (refine i_qq ?_; refine qQ ?_) | refine qEf ?_) | refine tl_nil ?_ | (refine i_tc ?_; refine qTc ?_) | (refine i_te ?_; refine qTe ?_) | intro _)
  simp only [show ((n : Int) + (p : Int)).toNat = n + p by omega, Nat.mul_one, made_z8]
  have hinit : stc ((z8 (n + p)).map u8c) 0 ((l.map u8c).take (n + p)) = (l ++ (z8 (p - 0) ++ be 0 x)).map u8c := by
    rw [List.take_of_length_le (by simp; omega)]
    unfold stc
    have e : z8 (n + p) = z8 n ++ z8 p := by simp [z8, List.replicate_append_replicate]
    rw [e]
    simp [be, hl, z8]
  refine tl_copy (ys := l.map u8c) rfl rfl (SIn.srcV h) (by simpa using hl) (u8c_one l) (by simp [z8]) rfl ?_
  simp only [hinit]
  repeat' (first | (refine i_op ?_; first | (refine i_qq ?_; refine qQ ?_) | refine qEf ?_) | refine tl_nil ?_ | (refine i_tc ?_; refine qTc ?_) | (refine i_te ?_; refine qTe ?_) | intro _)
  refine tc_loop_g [(6, _), (7, _), (17, _)] (fun (ζ : (Nat) × (Nat)) => [(18, .int .i64 ζ.1), (1, .int .u64 (ζ.2 : Nat))]) (fun (ζ : (Nat) × (Nat)) => ρ) (fun (ζ : (Nat) × (Nat)) => [[(hbn, .cells ⟨(l ++ (z8 (p - ζ.1) ++ be ζ.1 x)).map u8c⟩ 5 (0, 0))]]) (fun (ζ : (Nat) × (Nat)) => ζ.1 ≤ p ∧ ζ.2 = x / 256 ^ ζ.1) (fun (ζ : (Nat) × (Nat)) => p - ζ.1) ((0, x)) (⟨Nat.zero_le _, by simp⟩) ev_le ev_le rfl tk ?_
  rintro ⟨k, y⟩ hI
  try simp only [List.cons_append, List.nil_append, List.append_assoc, List.append_eq] at hI ⊢
  try dsimp only at hI ⊢
  obtain ⟨hk, hy⟩ := hI
  by_cases hlt : k < p
  · have hlen : ((l ++ (z8 (p - k) ++ be k x)).map u8c).length = n + p := by simp [z8, be_length, hl]; omega
    have hst : stc ((l ++ (z8 (p - k) ++ be k x)).map u8c) (0 + ((n : Int) + (p : Int) - 1 - k).toNat * 1) [u8c (UInt8.ofNat y)] = (l ++ (z8 (p - (k + 1)) ++ be (k + 1) x)).map u8c := by
      have e1 : z8 (p - k) = z8 (p - (k + 1)) ++ [0] := by
        rw [show p - k = (p - (k + 1)) + 1 by omega]; simp [z8, List.replicate_succ']
      have e2 : 0 + ((n : Int) + (p : Int) - 1 - k).toNat * 1 = ((l ++ z8 (p - (k + 1))).map u8c).length := by simp [z8, hl]; omega
      have e3 : (l ++ (z8 (p - k) ++ be k x)).map u8c = (l ++ z8 (p - (k + 1))).map u8c ++ ([u8c 0] ++ (be k x).map u8c) := by rw [e1]; simp
      rw [e2, e3, stc_mid _ _ [u8c 0] [u8c (UInt8.ofNat y)] rfl, be, ← hy]
      simp
    have hyy : y / 256 = x / 256 ^ (k + 1) := by rw [hy, Nat.div_div_eq_div_mul, Nat.pow_succ]
    repeat' (first | (refine i_op ?_; first | (refine i_qq ?_; refine qQ ?_) | refine qEf ?_) | refine tl_nil ?_ | (refine i_tc ?_; refine qTc ?_) | (refine i_te ?_; refine qTe ?_) | intro _)
    have e8 : (y : Int) / 2 ^ 8 = ((x / 256 ^ (k + 1) : Nat) : Int) := by
      rw [← hyy]
      have : (2 : Int) ^ 8 = 256 := by decide
      omega
    rw [e8, u8_wrap, Int.natCast_add, hst]
    refine te_round_g (k + 1, x / 256 ^ (k + 1)) (⟨hlt, rfl⟩) ev_le ev_le rfl tk inferInstance (by first | omega | (dsimp only; omega))
  · have hk2 : k = p := by omega
    subst hk2
    simp only [Nat.sub_self, z8, List.replicate_zero, List.nil_append]
    repeat' (first | (refine i_op ?_; first | (refine i_qq ?_; refine qQ ?_) | refine qEf ?_) | refine tl_nil ?_ | (refine i_tc ?_; refine qTc ?_) | (refine i_te ?_; refine qTe ?_) | intro _)
    rw [own_chunk hbn (n + k) (n + k)]
    exact qE ⟨rfl, [], ⟨.inr ⟨hbn, n + k, rfl, by simp [be_length, hl], by simp [be_length, hl], Nat.le_refl _⟩⟩, rfl⟩
theorem put16_spec (ρ : Hp) (a : Option Addr) (n c : Nat) (l : List UInt8) (h : SIn ρ u8c a n l) (x : Nat) (hx : x < 65536) (hn : n ≤ 1000000) :
    Spec Try.prog 144 [.slice a n c, .int .u16 x] ρ [] (fun v ρ' L' => ρ' = ρ ∧ ∃ sp, OwnS v (n + 2) ((l ++ be 2 x).map u8c) sp 1 ∧ L' = [ownC v ((l ++ be 2 x).map u8c) sp 5]) := by
  have hw : IntKind.u64.wrap (x : Int) = x := wrap_id (by simp only [lo, hi]; omega)
  have hs := stand_spec ρ a n c l h x 2 (by omega) (by omega) (by omega) hn
  refine spec_enter Try.func144 rfl rfl rfl fun u R => ?_
  simp only [argsE, List.cons_append, List.nil_append]
  repeat' (first | (refine iCv ?_; refine tl_y (y_conv rfl) rfl rfl ?_; rw [hw]) | (refine tl_is (.func 136) ?_; refine qC rfl rfl (hs) ?_; rintro v ρ' L' hle ⟨rfl, sp, hown, rfl⟩ <;> (try simp only [List.cons_append, List.nil_append, List.append_eq])) | (refine i_op ?_; first | (refine i_qq ?_; refine qQ ?_) | refine qEf ?_) | refine tl_nil ?_ | (refine i_tc ?_; refine qTc ?_) | (refine i_te ?_; refine qTe ?_) | intro _)
  exact qE ⟨rfl, sp, hown, rfl⟩
theorem put64_spec (ρ : Hp) (a : Option Addr) (n c : Nat) (l : List UInt8) (h : SIn ρ u8c a n l) (x : Nat) (hx : x < 18446744073709551616) (hn : n ≤ 1000000) :
    Spec Try.prog 104 [.slice a n c, .int .u64 x] ρ [] (fun v ρ' L' => ρ' = ρ ∧ ∃ sp, OwnS v (n + 8) ((l ++ be 8 x).map u8c) sp 1 ∧ L' = [ownC v ((l ++ be 8 x).map u8c) sp 5]) := by
  have hs := stand_spec ρ a n c l h x 8 (by omega) (by omega) (by omega) hn
  refine spec_enter Try.func104 rfl rfl rfl fun u R => ?_
  simp only [argsE, List.cons_append, List.nil_append]
  repeat' (first | (refine tl_is (.func 136) ?_; refine qC rfl rfl (hs) ?_; rintro v ρ' L' hle ⟨rfl, sp, hown, rfl⟩ <;> (try simp only [List.cons_append, List.nil_append, List.append_eq])) | (refine i_op ?_; first | (refine i_qq ?_; refine qQ ?_) | refine qEf ?_) | refine tl_nil ?_ | (refine i_tc ?_; refine qTc ?_) | (refine i_te ?_; refine qTe ?_) | intro _)
  exact qE ⟨rfl, sp, hown, rfl⟩
end Go.Proofs.E

namespace Go.Proofs.E
open Go
set_option linter.unusedVariables false
set_option linter.unusedSimpArgs false
set_option linter.unusedSectionVars false
set_option maxRecDepth 4000
set_option maxHeartbeats 1000000
attribute [local irreducible] Yl TL TC TE Spec YSpec R1 Hp.le EnvLe TS TR YS Stays
/-! ## octet: the reader -/
theorem OwnS.zero (b sz : Nat) : OwnS (.slice (some ⟨b, 0, none⟩) 0 0) 0 [] [] sz := ⟨.inr ⟨b, 0, rfl, by simp, by simp, Nat.le_refl _⟩⟩
abbrev rdC (br : Nat) (a : Option Addr) (n c : Nat) (st : Int) : List (Nat × Obj) := [(br, .cells ⟨[.slice a n c, .int .i64 st]⟩ 208 (0, 0))]
theorem bclone_spec (ρ : Hp) (a : Option Addr) (n c : Nat) (l : List UInt8) (h : SIn ρ u8c a n l) (hn : n ≤ 1000000) :
    Spec Try.prog 149 [.slice a n c] ρ [] (fun v ρ' L' => ρ.le ρ' ∧ ∃ a' c', v = .slice a' n c' ∧ n ≤ c' ∧ SIn ρ' u8c a' n l ∧ L' = []) := by
  refine spec_enter Try.func149 rfl rfl rfl fun u R => ?_
  simp only [argsE, List.cons_append, List.nil_append]
  cases a with
  | none =>
    have hn0 : n = 0 := by
      rcases h.out with h0 | ⟨b, off, C, T, fr, h1, _⟩
      · exact h0
      · cases h1
    subst hn0
    repeat' (first | (refine i_op ?_; first | (refine i_qq ?_; refine qQ ?_) | refine qEf ?_) | refine tl_nil ?_ | (refine i_tc ?_; refine qTc ?_) | (refine i_te ?_; refine qTe ?_) | intro _)
    exact qE ⟨Hp.le_refl _, none, 0, rfl, Nat.le_refl _, ⟨h.len, .inl rfl⟩, rfl⟩
  | some a =>
    repeat' (first | (refine i_op ?_; first | (refine i_qq ?_; refine qQ ?_) | refine qEf ?_) | refine tl_nil ?_ | (refine i_tc ?_; refine qTc ?_) | (refine i_te ?_; refine qTe ?_) | intro _)
    refine tl_app (n := 0) (xs := []) (sp := []) (ys := l.map u8c) (sz := 1) rfl rfl (OwnS.zero _ 1) (hR := rem_here') (SIn.srcV h) (by simpa using h.len) (u8c_one l) (by decide) rfl (by omega) (by omega) rfl (fun v' sp' hown' => ?_)
    simp only [Nat.zero_add, List.nil_append] at hown' ⊢
    repeat' (first | (refine i_op ?_; first | (refine i_qq ?_; refine qQ ?_) | refine qEf ?_) | refine tl_nil ?_ | (refine i_tc ?_; refine qTc ?_) | (refine i_te ?_; refine qTe ?_) | intro _)
    refine te_freeze _ (h := Rem.here) (fun ρ' hle hfz => ?_)
    obtain ⟨a', c', rfl, hc, hs⟩ := hown'.sIn hfz
    exact qE ⟨hle, a', c', rfl, hc, hs, rfl⟩
theorem read_spec (ρ : Hp) (a : Option Addr) (n c : Nat) (l : List UInt8) (h : SIn ρ u8c a n l) (hn : n ≤ 1000000) :
    Spec Try.prog 140 [.slice a n c] ρ [] (fun v ρ' L' => ρ.le ρ' ∧ ∃ br a' c', v = .pointer (some ⟨br, 0, none⟩) ∧ n ≤ c' ∧ SIn ρ' u8c a' n l ∧ L' = [rdC br a' n c' 0]) := by
  have hc := bclone_spec ρ a n c l h hn
  refine spec_enter Try.func140 rfl rfl rfl fun u R => ?_
  simp only [argsE, List.cons_append, List.nil_append]
  repeat' (first | (refine tl_is (.func 149) ?_; refine qC rfl rfl (hc) ?_; rintro v ρ' L' hle ⟨hle, a', c', rfl, hc', hs, rfl⟩ <;> (try simp only [List.cons_append, List.nil_append, List.append_eq])) | (refine i_op ?_; first | (refine i_qq ?_; refine qQ ?_) | refine qEf ?_) | refine tl_nil ?_ | (refine i_tc ?_; refine qTc ?_) | (refine i_te ?_; refine qTe ?_) | intro _)
  exact qE ⟨hle, _, a', c', rfl, hc', hs, rfl⟩
theorem err_spec (ρ : Hp) (br : Nat) (a : Option Addr) (n c : Nat) (st : Int) :
    Spec Try.prog 160 [.pointer (some ⟨br, 0, none⟩)] ρ [rdC br a n c st] (fun v ρ' L' => v = .int .i64 st ∧ ρ' = ρ ∧ L' = [rdC br a n c st]) := by
  refine spec_enter Try.func160 rfl rfl rfl fun u R => ?_
  simp only [argsE, List.cons_append, List.nil_append]
  repeat' (first | (refine i_op ?_; first | (refine i_qq ?_; refine qQ ?_) | refine qEf ?_) | refine tl_nil ?_ | (refine i_tc ?_; refine qTc ?_) | (refine i_te ?_; refine qTe ?_) | intro _)
  exact qE ⟨rfl, rfl, rfl⟩
theorem left_spec (ρ : Hp) (br : Nat) (a : Option Addr) (n c : Nat) (st : Int) :
    Spec Try.prog 161 [.pointer (some ⟨br, 0, none⟩)] ρ [rdC br a n c st] (fun v ρ' L' => v = .int .i64 n ∧ ρ' = ρ ∧ L' = [rdC br a n c st]) := by
  refine spec_enter Try.func161 rfl rfl rfl fun u R => ?_
  simp only [argsE, List.cons_append, List.nil_append]
  repeat' (first | (refine i_op ?_; first | (refine i_qq ?_; refine qQ ?_) | refine qEf ?_) | refine tl_nil ?_ | (refine i_tc ?_; refine qTc ?_) | (refine i_te ?_; refine qTe ?_) | intro _)
  exact qE ⟨rfl, rfl, rfl⟩
theorem gives_stuck (ρ : Hp) (br : Nat) (a : Option Addr) (n c : Nat) (st : Int) (hst : st ≠ 0) (k : Int) (f : Value) :
    Spec Try.prog 158 [.pointer (some ⟨br, 0, none⟩), .int .i64 k, f] ρ [rdC br a n c st] (fun v ρ' L' => v = .tuple ⟨[]⟩ ∧ ρ' = ρ ∧ L' = [rdC br a n c st]) := by
  refine spec_enter Try.func158 rfl rfl rfl fun u R => ?_
  simp only [argsE, List.cons_append, List.nil_append]
  repeat' (first | (refine tl_is (.func 160) ?_; refine qC rfl rfl (err_spec _ br a n c st) ?_; rintro v ρ' L' hle ⟨rfl, rfl, rfl⟩ <;> (try simp only [List.cons_append, List.nil_append, List.append_eq])) | (refine i_op ?_; first | (refine i_qq ?_; refine qQ ?_) | refine qEf ?_) | refine tl_nil ?_ | (refine i_tc ?_; refine qTc ?_) | (refine i_te ?_; refine qTe ?_) | intro _)
  exact qE ⟨rfl, rfl, rfl⟩
theorem gives_short (ρ : Hp) (br : Nat) (a : Option Addr) (n c : Nat) (k : Int) (hk : (n : Int) < k) (f : Value) :
    Spec Try.prog 158 [.pointer (some ⟨br, 0, none⟩), .int .i64 k, f] ρ [rdC br a n c 0] (fun v ρ' L' => v = .tuple ⟨[]⟩ ∧ ρ' = ρ ∧ L' = [rdC br a n c 7]) := by
  refine spec_enter Try.func158 rfl rfl rfl fun u R => ?_
  simp only [argsE, List.cons_append, List.nil_append]
  repeat' (first | (refine tl_is (.func 160) ?_; refine qC rfl rfl (err_spec _ br a n c 0) ?_; rintro v ρ' L' hle ⟨rfl, rfl, rfl⟩ <;> (try simp only [List.cons_append, List.nil_append, List.append_eq])) | (refine i_op ?_; first | (refine i_qq ?_; refine qQ ?_) | refine qEf ?_) | refine tl_nil ?_ | (refine i_tc ?_; refine qTc ?_) | (refine i_te ?_; refine qTe ?_) | intro _)
  exact qE ⟨rfl, rfl, rfl⟩
theorem gives_ok (ρ : Hp) (br : Nat) (a : Option Addr) (n c : Nat) (l : List UInt8) (h : SIn ρ u8c a n l) (hc : n ≤ c) (k : Nat) (hk : k ≤ n) (g : Nat) (cs : List Value) (X X' : SH) [Fun Try.prog g]
    (hS : SIn ρ u8c a k (l.take k) → Spec Try.prog g ([.slice a k c] ++ cs) ρ X (fun v ρ' L' => v = .tuple ⟨[]⟩ ∧ ρ' = ρ ∧ L' = X')) :
    Spec Try.prog 158 [.pointer (some ⟨br, 0, none⟩), .int .i64 k, .func (.func g) ⟨[]⟩ ⟨cs⟩] ρ (rdC br a n c 0 :: X)
      (fun v ρ' L' => v = .tuple ⟨[]⟩ ∧ ρ' = ρ ∧ ∃ a' c', SIn ρ u8c a' (n - k) (l.drop k) ∧ n - k ≤ c' ∧ L' = rdC br a' (n - k) c' 0 :: X') := by
  replace hS := hS (h.take hk)
  have hl := h.len
  have hsub := h.sub (lo' := k) (hi' := n) (cap := c) hk (Nat.le_refl _) hc
  rw [List.take_of_length_le (by simp; omega)] at hsub
  refine spec_enter Try.func158 rfl rfl rfl fun u R => ?_
  simp only [argsE, List.cons_append, List.nil_append] at hS ⊢
  repeat' (first | (refine tl_is (.func 160) ?_; refine qC rfl rfl (err_spec _ br a n c 0) ?_; rintro v ρ' L' hle ⟨rfl, rfl, rfl⟩ <;> (try simp only [List.cons_append, List.nil_append, List.append_eq])) | (refine tl_is (.tmp 9) ?_; refine qC rfl rfl (hS) ?_; rintro v ρ' L' hle ⟨rfl, rfl, rfl⟩ <;> (try simp only [List.cons_append, List.nil_append, List.append_eq])) | (refine i_op ?_; first | (refine i_qq ?_; refine qQ ?_) | refine qEf ?_) | refine tl_nil ?_ | (refine i_tc ?_; refine qTc ?_) | (refine i_te ?_; refine qTe ?_) | intro _)
  exact qE ⟨rfl, rfl, _, c - k, hsub, by omega, rfl⟩
end Go.Proofs.E

namespace Go.Proofs.E
open Go
set_option linter.unusedVariables false
set_option linter.unusedSimpArgs false
set_option linter.unusedSectionVars false
set_option maxRecDepth 4000
set_option maxHeartbeats 1000000
attribute [local irreducible] Yl TL TC TE Spec YSpec R1 Hp.le EnvLe TS TR YS Stays
theorem take_succ_unbe (l : List UInt8) (k : Nat) (h : k < l.length) : unbe (l.take (k + 1)) = unbe (l.take k) * 256 + l[k].toNat := by
  rw [List.take_succ_eq_append_getElem h, unbe_snoc]
theorem unbe_take_lt (l : List UInt8) (k : Nat) (h : k < l.length) (h8 : l.length ≤ 8) : unbe (l.take k) < 72057594037927936 := by
  have h1 := unbe_lt (l.take k)
  have h2 : (l.take k).length ≤ 7 := by simp; omega
  have h3 : 256 ^ (l.take k).length ≤ 256 ^ 7 := Nat.pow_le_pow_right (by decide) h2
  have h4 : 256 ^ 7 = 72057594037927936 := by decide
  omega
theorem number1_spec (ρ : Hp) (bx : Nat) (a : Option Addr) (n c : Nat) (l : List UInt8) (h : SIn ρ u8c a n l) (hn : n ≤ 8) :
    Spec Try.prog 159 [.slice a n c, .pointer (some ⟨bx, 0, none⟩)] ρ [[(bx, .cells ⟨[.int .u64 0]⟩ 29 (0, 0))]]
      (fun v ρ' L' => v = .tuple ⟨[]⟩ ∧ ρ' = ρ ∧ L' = [[(bx, .cells ⟨[.int .u64 (unbe l : Nat)]⟩ 29 (0, 0))]]) := by
  have hl := h.len
  refine spec_enter Try.func159 rfl rfl rfl fun u R => ?_
  simp only [argsE, List.cons_append, List.nil_append]
  repeat' (first | (refine i_op ?_; first | (refine i_qq ?_; refine qQ ?_) | refine qEf ?_) | refine tl_nil ?_ | (refine i_tc ?_; refine qTc ?_) | (refine i_te ?_; refine qTe ?_) | intro _)
  refine tc_loop_g [(0, _), (1, _), (5, _)] (fun (ζ : (Nat) × (Nat)) => [(6, .int .i64 ζ.1)]) (fun (ζ : (Nat) × (Nat)) => ρ) (fun (ζ : (Nat) × (Nat)) => [[(bx, .cells ⟨[.int .u64 (ζ.2 : Nat)]⟩ 29 (0, 0))]]) (fun (ζ : (Nat) × (Nat)) => ζ.1 ≤ n ∧ ζ.2 = unbe (l.take ζ.1)) (fun (ζ : (Nat) × (Nat)) => n - ζ.1) ((0, 0)) (⟨Nat.zero_le _, rfl⟩) ev_le ev_le rfl tk ?_
  rintro ⟨k, z⟩ hI
  try simp only [List.cons_append, List.nil_append, List.append_assoc, List.append_eq] at hI ⊢
  try dsimp only at hI ⊢
  obtain ⟨hk, hz⟩ := hI
  by_cases hlt : k < n
  · obtain ⟨b, off, C, T, fr, rfl, hb, hc⟩ := h.get (show k < l.length by omega)
    have hzl := unbe_take_lt l k (by omega) (by omega)
    rw [← hz] at hzl
    have hs := take_succ_unbe l k (by omega)
    have hbt : l[k].toNat < 256 := l[k].toNat_lt
    generalize l[k] = b8 at *
    simp only [u8c] at hc
    repeat' (first | (refine i_op ?_; first | (refine i_qq ?_; refine qQ ?_) | refine qEf ?_) | refine tl_nil ?_ | (refine i_tc ?_; refine qTc ?_) | (refine i_te ?_; refine qTe ?_) | intro _)
    refine tc_any (Stays _ _ ([])) (stays_of (hT := tk) (Hp.le_refl _)) ?_
    all_goals refine rMv 2 ?_
    all_goals refine rMv 3 ?_
    all_goals refine rIa 4 ?_
    all_goals refine rLd 5 ?_
    all_goals refine rCv 6 ?_
    all_goals (refine rStep (i := 0) ?_; ((try refine qWant ?_); (first | (refine i_qq ?_; refine qQ ?_) | (refine qEf ?_; try intro _)) <;> ((try simp only [List.cons_append, List.nil_append, List.append_eq]); refine tl_nil ?_; refine rNext ?_)))
    all_goals refine rMl 1 ?_
    all_goals refine rAd 7 ?_
    all_goals (refine rStep (i := 8) ?_; ((try refine qWant ?_); (first | (refine i_qq ?_; refine qQ ?_) | (refine qEf ?_; try intro _)) <;> ((try simp only [List.cons_append, List.nil_append, List.append_eq]); refine tl_nil ?_; refine rNext ?_)))
    all_goals refine rDone ?_
    have e : 256 * (z : Int) + (b8.toNat : Int) = ((z * 256 + b8.toNat : Nat) : Int) := by omega
    rw [e]
    repeat' (first | (refine i_op ?_; first | (refine i_qq ?_; refine qQ ?_) | refine qEf ?_) | refine tl_nil ?_ | (refine i_tc ?_; refine qTc ?_) | (refine i_te ?_; refine qTe ?_) | intro _)
    refine te_round_g (k + 1, z * 256 + b8.toNat) (⟨hlt, by dsimp only; rw [hs, hz]⟩) ev_le ev_le rfl tk inferInstance (by first | omega | (dsimp only; omega))
  · have hk2 : k = n := by omega
    subst hk2
    rw [List.take_of_length_le (by omega)] at hz
    subst hz
    repeat' (first | (refine i_op ?_; first | (refine i_qq ?_; refine qQ ?_) | refine qEf ?_) | refine tl_nil ?_ | (refine i_tc ?_; refine qTc ?_) | (refine i_te ?_; refine qTe ?_) | intro _)
    exact qE ⟨rfl, rfl, rfl⟩
/-- the number that stands next, of so many bytes -/
def numR (k : Nat) (l : List UInt8) (st : Int) : Nat × List UInt8 × Int := if st ≠ 0 then (0, l, st) else if l.length < k then (0, l, 7) else (unbe (l.take k), l.drop k, 0)
theorem numR_lt (k : Nat) (l : List UInt8) (st : Int) : (numR k l st).1 < 256 ^ k := by
  unfold numR
  have h0 : 0 < 256 ^ k := Nat.pow_pos (by decide)
  split
  · exact h0
  · split
    · exact h0
    · have := unbe_lt (l.take k)
      have e : (l.take k).length = k := by simp; omega
      rwa [e] at this
theorem number_spec (ρ : Hp) (br : Nat) (a : Option Addr) (n c : Nat) (l : List UInt8) (h : SIn ρ u8c a n l) (hc : n ≤ c) (st : Int) (k : Nat) (hk : k ≤ 8) :
    Spec Try.prog 150 [.pointer (some ⟨br, 0, none⟩), .int .i64 k] ρ [rdC br a n c st]
      (fun v ρ' L' => v = .int .u64 ((numR k l st).1 : Nat) ∧ ρ' = ρ ∧ ∃ a' n' c', SIn ρ u8c a' n' (numR k l st).2.1 ∧ n' ≤ c' ∧ L' = [rdC br a' n' c' (numR k l st).2.2]) := by
  have hl := h.len
  by_cases hst : st = 0
  · subst hst
    by_cases hs : n < k
    · have e : numR k l 0 = (0, l, 7) := by simp [numR, hl, hs]
      rw [e]
      refine spec_enter Try.func150 rfl rfl rfl fun u R => ?_
      simp only [argsE, List.cons_append, List.nil_append]
      repeat' (first | (refine tl_is (.func 158) ?_; refine qC rfl rfl (gives_short _ br a n c k (by omega) _) ?_; rintro v ρ' L' hle ⟨rfl, rfl, rfl⟩ <;> (try simp only [List.cons_append, List.nil_append, List.append_eq])) | (refine i_op ?_; first | (refine i_qq ?_; refine qQ ?_) | refine qEf ?_) | refine tl_nil ?_ | (refine i_tc ?_; refine qTc ?_) | (refine i_te ?_; refine qTe ?_) | intro _)
      exact qE ⟨rfl, rfl, a, n, c, h, hc, rfl⟩
    · have e : numR k l 0 = (unbe (l.take k), l.drop k, 0) := by simp [numR, hl, hs]
      rw [e]
      refine spec_enter Try.func150 rfl rfl rfl fun u R => ?_
      simp only [argsE, List.cons_append, List.nil_append]
      repeat' (first | (refine i_op ?_; first | (refine i_qq ?_; refine qQ ?_) | refine qEf ?_) | refine tl_nil ?_ | (refine i_tc ?_; refine qTc ?_) | (refine i_te ?_; refine qTe ?_) | intro _)
      rename_i bx
      have hg := gives_ok ρ br a n c l h hc k (by omega) 159 [.pointer (some ⟨bx, 0, none⟩)] [[(bx, .cells ⟨[.int .u64 0]⟩ 29 (0, 0))]] [[(bx, .cells ⟨[.int .u64 (unbe (l.take k) : Nat)]⟩ 29 (0, 0))]] (fun hs => number1_spec ρ bx a k c (l.take k) hs hk)
      repeat' (first | (refine tl_is (.func 158) ?_; refine qC rfl rfl (hg) ?_; rintro v ρ' L' hle ⟨rfl, rfl, a', c', hs', hc', rfl⟩ <;> (try simp only [List.cons_append, List.nil_append, List.append_eq])) | (refine i_op ?_; first | (refine i_qq ?_; refine qQ ?_) | refine qEf ?_) | refine tl_nil ?_ | (refine i_tc ?_; refine qTc ?_) | (refine i_te ?_; refine qTe ?_) | intro _)
      exact qE ⟨rfl, rfl, a', n - k, c', hs', hc', rfl⟩
  · have e : numR k l st = (0, l, st) := by simp [numR, hst]
    rw [e]
    refine spec_enter Try.func150 rfl rfl rfl fun u R => ?_
    simp only [argsE, List.cons_append, List.nil_append]
    repeat' (first | (refine tl_is (.func 158) ?_; refine qC rfl rfl (gives_stuck _ br a n c st hst k _) ?_; rintro v ρ' L' hle ⟨rfl, rfl, rfl⟩ <;> (try simp only [List.cons_append, List.nil_append, List.append_eq])) | (refine i_op ?_; first | (refine i_qq ?_; refine qQ ?_) | refine qEf ?_) | refine tl_nil ?_ | (refine i_tc ?_; refine qTc ?_) | (refine i_te ?_; refine qTe ?_) | intro _)
    exact qE ⟨rfl, rfl, a, n, c, h, hc, rfl⟩
theorem u8_spec (ρ : Hp) (br : Nat) (a : Option Addr) (n c : Nat) (l : List UInt8) (h : SIn ρ u8c a n l) (hc : n ≤ c) (st : Int) :
    Spec Try.prog 162 [.pointer (some ⟨br, 0, none⟩)] ρ [rdC br a n c st]
      (fun v ρ' L' => v = .int .u8 ((numR 1 l st).1 : Nat) ∧ ρ' = ρ ∧ ∃ a' n' c', SIn ρ u8c a' n' (numR 1 l st).2.1 ∧ n' ≤ c' ∧ L' = [rdC br a' n' c' (numR 1 l st).2.2]) := by
  have hb := numR_lt 1 l st
  have hn := number_spec ρ br a n c l h hc st 1 (by omega)
  generalize numR 1 l st = r at *
  refine spec_enter Try.func162 rfl rfl rfl fun u R => ?_
  simp only [argsE, List.cons_append, List.nil_append]
  repeat' (first | (refine tl_is (.func 150) ?_; refine qC rfl rfl (hn) ?_; rintro v ρ' L' hle ⟨rfl, rfl, a', n', c', hs', hc', rfl⟩ <;> (try simp only [List.cons_append, List.nil_append, List.append_eq])) | (refine i_op ?_; first | (refine i_qq ?_; refine qQ ?_) | refine qEf ?_) | refine tl_nil ?_ | (refine i_tc ?_; refine qTc ?_) | (refine i_te ?_; refine qTe ?_) | intro _)
  exact qE ⟨rfl, rfl, a', n', c', hs', hc', rfl⟩
theorem u16_spec (ρ : Hp) (br : Nat) (a : Option Addr) (n c : Nat) (l : List UInt8) (h : SIn ρ u8c a n l) (hc : n ≤ c) (st : Int) :
    Spec Try.prog 171 [.pointer (some ⟨br, 0, none⟩)] ρ [rdC br a n c st]
      (fun v ρ' L' => v = .int .u16 ((numR 2 l st).1 : Nat) ∧ ρ' = ρ ∧ ∃ a' n' c', SIn ρ u8c a' n' (numR 2 l st).2.1 ∧ n' ≤ c' ∧ L' = [rdC br a' n' c' (numR 2 l st).2.2]) := by
  have hb := numR_lt 2 l st
  have hn := number_spec ρ br a n c l h hc st 2 (by omega)
  generalize numR 2 l st = r at *
  refine spec_enter Try.func171 rfl rfl rfl fun u R => ?_
  simp only [argsE, List.cons_append, List.nil_append]
  repeat' (first | (refine tl_is (.func 150) ?_; refine qC rfl rfl (hn) ?_; rintro v ρ' L' hle ⟨rfl, rfl, a', n', c', hs', hc', rfl⟩ <;> (try simp only [List.cons_append, List.nil_append, List.append_eq])) | (refine i_op ?_; first | (refine i_qq ?_; refine qQ ?_) | refine qEf ?_) | refine tl_nil ?_ | (refine i_tc ?_; refine qTc ?_) | (refine i_te ?_; refine qTe ?_) | intro _)
  exact qE ⟨rfl, rfl, a', n', c', hs', hc', rfl⟩
theorem u64_spec (ρ : Hp) (br : Nat) (a : Option Addr) (n c : Nat) (l : List UInt8) (h : SIn ρ u8c a n l) (hc : n ≤ c) (st : Int) :
    Spec Try.prog 141 [.pointer (some ⟨br, 0, none⟩)] ρ [rdC br a n c st]
      (fun v ρ' L' => v = .int .u64 ((numR 8 l st).1 : Nat) ∧ ρ' = ρ ∧ ∃ a' n' c', SIn ρ u8c a' n' (numR 8 l st).2.1 ∧ n' ≤ c' ∧ L' = [rdC br a' n' c' (numR 8 l st).2.2]) := by
  have hn := number_spec ρ br a n c l h hc st 8 (by omega)
  refine spec_enter Try.func141 rfl rfl rfl fun u R => ?_
  simp only [argsE, List.cons_append, List.nil_append]
  repeat' (first | (refine tl_is (.func 150) ?_; refine qC rfl rfl (hn) ?_; rintro v ρ' L' hle ⟨rfl, rfl, a', n', c', hs', hc', rfl⟩ <;> (try simp only [List.cons_append, List.nil_append, List.append_eq])) | (refine i_op ?_; first | (refine i_qq ?_; refine qQ ?_) | refine qEf ?_) | refine tl_nil ?_ | (refine i_tc ?_; refine qTc ?_) | (refine i_te ?_; refine qTe ?_) | intro _)
  exact qE ⟨rfl, rfl, a', n', c', hs', hc', rfl⟩
/-- the next bytes -/
def rawR (k : Nat) (l : List UInt8) (st : Int) : List UInt8 × List UInt8 × Int := if st ≠ 0 then ([], l, st) else if l.length < k then ([], l, 7) else (l.take k, l.drop k, 0)
theorem raw1_spec (ρ : Hp) (bx : Nat) (a : Option Addr) (n c : Nat) (l : List UInt8) (h : SIn ρ u8c a n l) (hn : n ≤ 1000000) :
    Spec Try.prog 173 [.slice a n c, .pointer (some ⟨bx, 0, none⟩)] ρ [[(bx, .cells ⟨[.slice none 0 0]⟩ 30 (0, 0))]]
      (fun v ρ' L' => v = .tuple ⟨[]⟩ ∧ ρ.le ρ' ∧ ∃ a' c', SIn ρ' u8c a' n l ∧ n ≤ c' ∧ L' = [[(bx, .cells ⟨[.slice a' n c']⟩ 30 (0, 0))]]) := by
  refine spec_enter Try.func173 rfl rfl rfl fun u R => ?_
  simp only [argsE, List.cons_append, List.nil_append]
  repeat' (first | (refine i_op ?_; first | (refine i_qq ?_; refine qQ ?_) | refine qEf ?_) | refine tl_nil ?_ | (refine i_tc ?_; refine qTc ?_) | (refine i_te ?_; refine qTe ?_) | intro _)
  refine tl_app (n := 0) (xs := []) (sp := []) (ys := l.map u8c) (sz := 1) rfl rfl (OwnS.nil 1) (hR := rem_nil') (SIn.srcV h) (by simpa using h.len) (u8c_one l) (by decide) rfl (by omega) (by omega) rfl (fun v' sp' hown' => ?_)
  simp only [Nat.zero_add, List.nil_append] at hown' ⊢
  refine tl_freeze _ (h := Rem.here) (fun ρ' hle hfz => ?_)
  obtain ⟨a', c', rfl, hc, hs⟩ := hown'.sIn hfz
  repeat' (first | (refine i_op ?_; first | (refine i_qq ?_; refine qQ ?_) | refine qEf ?_) | refine tl_nil ?_ | (refine i_tc ?_; refine qTc ?_) | (refine i_te ?_; refine qTe ?_) | intro _)
  exact qE ⟨rfl, hle, a', c', hs, hc, rfl⟩
end Go.Proofs.E

namespace Go.Proofs.E
open Go
set_option linter.unusedVariables false
set_option linter.unusedSimpArgs false
set_option linter.unusedSectionVars false
set_option maxRecDepth 4000
set_option maxHeartbeats 1000000
attribute [local irreducible] Yl TL TC TE Spec YSpec R1 Hp.le EnvLe TS TR YS Stays
theorem gives_ok2 (ρ : Hp) (br : Nat) (a : Option Addr) (n c : Nat) (l : List UInt8) (h : SIn ρ u8c a n l) (hc : n ≤ c) (k : Nat) (hk : k ≤ n) (g : Nat) (cs : List Value) (X : SH) (PX : Hp → SH → Prop) [Fun Try.prog g]
    (hS : SIn ρ u8c a k (l.take k) → Spec Try.prog g ([.slice a k c] ++ cs) ρ X (fun v ρ' L' => v = .tuple ⟨[]⟩ ∧ ρ.le ρ' ∧ PX ρ' L')) :
    Spec Try.prog 158 [.pointer (some ⟨br, 0, none⟩), .int .i64 k, .func (.func g) ⟨[]⟩ ⟨cs⟩] ρ (rdC br a n c 0 :: X)
      (fun v ρ' L' => v = .tuple ⟨[]⟩ ∧ ρ.le ρ' ∧ ∃ a' c' X', SIn ρ' u8c a' (n - k) (l.drop k) ∧ n - k ≤ c' ∧ L' = rdC br a' (n - k) c' 0 :: X' ∧ PX ρ' X') := by
  replace hS := hS (h.take hk)
  have hl := h.len
  have hsub := h.sub (lo' := k) (hi' := n) (cap := c) hk (Nat.le_refl _) hc
  rw [List.take_of_length_le (by simp; omega)] at hsub
  refine spec_enter Try.func158 rfl rfl rfl fun u R => ?_
  simp only [argsE, List.cons_append, List.nil_append] at hS ⊢
  repeat' (first | (refine tl_is (.func 160) ?_; refine qC rfl rfl (err_spec _ br a n c 0) ?_; rintro v ρ' L' hle ⟨rfl, rfl, rfl⟩ <;> (try simp only [List.cons_append, List.nil_append, List.append_eq])) | (refine tl_is (.tmp 9) ?_; refine qC rfl rfl (hS) ?_; rintro v ρ' L' hle ⟨rfl, hle1, hP⟩ <;> (try simp only [List.cons_append, List.nil_append, List.append_eq])) | (refine i_op ?_; first | (refine i_qq ?_; refine qQ ?_) | refine qEf ?_) | refine tl_nil ?_ | (refine i_tc ?_; refine qTc ?_) | (refine i_te ?_; refine qTe ?_) | intro _)
  exact qE ⟨rfl, hle1, _, c - k, _, hsub.mono hle1, by omega, rfl, hP⟩
theorem raw_spec (ρ : Hp) (br : Nat) (a : Option Addr) (n c : Nat) (l : List UInt8) (h : SIn ρ u8c a n l) (hc : n ≤ c) (st : Int) (k : Nat) (hk : k ≤ 1000000) :
    Spec Try.prog 172 [.pointer (some ⟨br, 0, none⟩), .int .i64 k] ρ [rdC br a n c st]
      (fun v ρ' L' => ρ.le ρ' ∧ ∃ va vn vc a' n' c', v = .slice va vn vc ∧ vn ≤ vc ∧ SIn ρ' u8c va vn (rawR k l st).1 ∧ SIn ρ' u8c a' n' (rawR k l st).2.1 ∧ n' ≤ c' ∧ L' = [rdC br a' n' c' (rawR k l st).2.2]) := by
  have hl := h.len
  by_cases hst : st = 0
  · subst hst
    by_cases hs : n < k
    · have e : rawR k l 0 = ([], l, 7) := by simp [rawR, hl, hs]
      rw [e]
      refine spec_enter Try.func172 rfl rfl rfl fun u R => ?_
      simp only [argsE, List.cons_append, List.nil_append]
      repeat' (first | (refine tl_is (.func 158) ?_; refine qC rfl rfl (gives_short _ br a n c k (by omega) _) ?_; rintro v ρ' L' hle ⟨rfl, rfl, rfl⟩ <;> (try simp only [List.cons_append, List.nil_append, List.append_eq])) | (refine i_op ?_; first | (refine i_qq ?_; refine qQ ?_) | refine qEf ?_) | refine tl_nil ?_ | (refine i_tc ?_; refine qTc ?_) | (refine i_te ?_; refine qTe ?_) | intro _)
      exact qE ⟨Hp.le_refl _, none, 0, 0, a, n, c, rfl, Nat.le_refl _, SIn.nil, h, hc, rfl⟩
    · have e : rawR k l 0 = (l.take k, l.drop k, 0) := by simp [rawR, hl, hs]
      rw [e]
      refine spec_enter Try.func172 rfl rfl rfl fun u R => ?_
      simp only [argsE, List.cons_append, List.nil_append]
      repeat' (first | (refine i_op ?_; first | (refine i_qq ?_; refine qQ ?_) | refine qEf ?_) | refine tl_nil ?_ | (refine i_tc ?_; refine qTc ?_) | (refine i_te ?_; refine qTe ?_) | intro _)
      rename_i bx
      have hg := gives_ok2 ρ br a n c l h hc k (by omega) 173 [.pointer (some ⟨bx, 0, none⟩)] [[(bx, .cells ⟨[.slice none 0 0]⟩ 30 (0, 0))]] _ (fun hs => raw1_spec ρ bx a k c (l.take k) hs hk)
      repeat' (first | (refine tl_is (.func 158) ?_; refine qC rfl rfl (hg) ?_; rintro v ρ' L' hle ⟨rfl, hle1, a', c', X', hs', hc', rfl, va, vc, hv, hvc, rfl⟩ <;> (try simp only [List.cons_append, List.nil_append, List.append_eq])) | (refine i_op ?_; first | (refine i_qq ?_; refine qQ ?_) | refine qEf ?_) | refine tl_nil ?_ | (refine i_tc ?_; refine qTc ?_) | (refine i_te ?_; refine qTe ?_) | intro _)
      exact qE ⟨hle1, va, k, vc, a', n - k, c', rfl, hvc, hv, hs', hc', rfl⟩
  · have e : rawR k l st = ([], l, st) := by simp [rawR, hst]
    rw [e]
    refine spec_enter Try.func172 rfl rfl rfl fun u R => ?_
    simp only [argsE, List.cons_append, List.nil_append]
    repeat' (first | (refine tl_is (.func 158) ?_; refine qC rfl rfl (gives_stuck _ br a n c st hst k _) ?_; rintro v ρ' L' hle ⟨rfl, rfl, rfl⟩ <;> (try simp only [List.cons_append, List.nil_append, List.append_eq])) | (refine i_op ?_; first | (refine i_qq ?_; refine qQ ?_) | refine qEf ?_) | refine tl_nil ?_ | (refine i_tc ?_; refine qTc ?_) | (refine i_te ?_; refine qTe ?_) | intro _)
    exact qE ⟨Hp.le_refl _, none, 0, 0, a, n, c, rfl, Nat.le_refl _, SIn.nil, h, hc, rfl⟩
/-! ## codec: rows, kids, contents as data -/
structure Row where
  t : Int
  id : Nat
  val : Int
  note : List UInt8
deriving DecidableEq
structure Kid where
  t : Int
  id : Nat
  page : Int
deriving DecidableEq
abbrev keyV (t : Int) (id : Nat) : List Value := [.int .i64 t, .int .u16 id]
abbrev rowV (r : Row) : List Value := [.int .i64 r.t, .int .u16 r.id, .int .i64 r.val, strV r.note]
abbrev kidV (k : Kid) : List Value := [.int .i64 k.t, .int .u16 k.id, .int .i64 k.page]
abbrev tkC (bt br : Nat) (all : Int) (bad : Bool) (vk vr vs : Value) : List (Nat × Obj) := [(bt, .cells ⟨[.pointer (some ⟨br, 0, none⟩), .int .i64 all, .bool bad, vk, vr, vs]⟩ 220 (0, 0))]
theorem table_spec (ρ : Hp) (n : Int) : Spec Try.prog 117 [.int .i64 n] ρ [] (fun v ρ' L' => v = .bool (decide (0 ≤ n ∧ n < 3)) ∧ ρ' = ρ ∧ L' = []) := by
  refine spec_enter Try.func117 rfl rfl rfl fun u R => ?_
  simp only [argsE, List.cons_append, List.nil_append]
  by_cases h0 : 0 ≤ n
  · by_cases h1 : n < 3
    · rw [decide_eq_true ⟨h0, h1⟩]
      repeat' (first | (refine i_op ?_; first | (refine i_qq ?_; refine qQ ?_) | refine qEf ?_) | refine tl_nil ?_ | (refine i_tc ?_; refine qTc ?_) | (refine i_te ?_; refine qTe ?_) | intro _)
      exact qE ⟨rfl, rfl, rfl⟩
    · rw [decide_eq_false (fun h => h1 h.2)]
      repeat' (first | (refine i_op ?_; first | (refine i_qq ?_; refine qQ ?_) | refine qEf ?_) | refine tl_nil ?_ | (refine i_tc ?_; refine qTc ?_) | (refine i_te ?_; refine qTe ?_) | intro _)
      exact qE ⟨rfl, rfl, rfl⟩
  · rw [decide_eq_false (fun h => h0 h.1)]
    repeat' (first | (refine i_op ?_; first | (refine i_qq ?_; refine qQ ?_) | refine qEf ?_) | refine tl_nil ?_ | (refine i_tc ?_; refine qTc ?_) | (refine i_te ?_; refine qTe ?_) | intro _)
    exact qE ⟨rfl, rfl, rfl⟩
theorem ok_spec (ρ : Hp) (bt br : Nat) (all : Int) (bad : Bool) (vk vr vs : Value) (a : Option Addr) (n c : Nat) (st : Int) :
    Spec Try.prog 166 [.pointer (some ⟨bt, 0, none⟩)] ρ [tkC bt br all bad vk vr vs, rdC br a n c st]
      (fun v ρ' L' => v = .bool (!bad && decide (st = 0)) ∧ ρ' = ρ ∧ L' = [tkC bt br all bad vk vr vs, rdC br a n c st]) := by
  refine spec_enter Try.func166 rfl rfl rfl fun u R => ?_
  simp only [argsE, List.cons_append, List.nil_append]
  cases bad
  · by_cases h : st = 0
    · subst h
      repeat' (first | (refine tl_is (.func 160) ?_; refine qC rfl rfl (err_spec _ br a n c 0) ?_; rintro v ρ' L' hle ⟨rfl, rfl, rfl⟩ <;> (try simp only [List.cons_append, List.nil_append, List.append_eq])) | (refine i_op ?_; first | (refine i_qq ?_; refine qQ ?_) | refine qEf ?_) | refine tl_nil ?_ | (refine i_tc ?_; refine qTc ?_) | (refine i_te ?_; refine qTe ?_) | intro _)
      exact qE ⟨rfl, rfl, rfl⟩
    · have hd : decide (st = 0) = false := decide_eq_false h
      rw [hd]
      repeat' (first | (refine tl_is (.func 160) ?_; refine qC rfl rfl (err_spec _ br a n c st) ?_; rintro v ρ' L' hle ⟨rfl, rfl, rfl⟩ <;> (try simp only [List.cons_append, List.nil_append, List.append_eq])) | (refine i_op ?_; first | (refine i_qq ?_; refine qQ ?_) | refine qEf ?_) | refine tl_nil ?_ | (refine i_tc ?_; refine qTc ?_) | (refine i_te ?_; refine qTe ?_) | intro _)
      exact qE ⟨rfl, rfl, rfl⟩
  · repeat' (first | (refine i_op ?_; first | (refine i_qq ?_; refine qQ ?_) | refine qEf ?_) | refine tl_nil ?_ | (refine i_tc ?_; refine qTc ?_) | (refine i_te ?_; refine qTe ?_) | intro _)
    exact qE ⟨rfl, rfl, rfl⟩
def needB (bad : Bool) (st : Int) (is : Bool) : Bool := bad || (decide (st = 0) && !is)
theorem need_spec (ρ : Hp) (bt br : Nat) (all : Int) (bad : Bool) (vk vr vs : Value) (a : Option Addr) (n c : Nat) (st : Int) (is : Bool) :
    Spec Try.prog 163 [.pointer (some ⟨bt, 0, none⟩), .bool is] ρ [tkC bt br all bad vk vr vs, rdC br a n c st]
      (fun v ρ' L' => v = .tuple ⟨[]⟩ ∧ ρ' = ρ ∧ L' = [tkC bt br all (needB bad st is) vk vr vs, rdC br a n c st]) := by
  refine spec_enter Try.func163 rfl rfl rfl fun u R => ?_
  simp only [argsE, List.cons_append, List.nil_append, needB]
  cases bad
  · by_cases h : st = 0
    · subst h
      cases is
      all_goals (repeat' (first | (refine tl_is (.func 160) ?_; refine qC rfl rfl (err_spec _ br a n c 0) ?_; rintro v ρ' L' hle ⟨rfl, rfl, rfl⟩ <;> (try simp only [List.cons_append, List.nil_append, List.append_eq])) | (refine i_op ?_; first | (refine i_qq ?_; refine qQ ?_) | refine qEf ?_) | refine tl_nil ?_ | (refine i_tc ?_; refine qTc ?_) | (refine i_te ?_; refine qTe ?_) | intro _))
      all_goals exact qE ⟨rfl, rfl, rfl⟩
    · have hd : decide (st = 0) = false := decide_eq_false h
      rw [hd]
      repeat' (first | (refine tl_is (.func 160) ?_; refine qC rfl rfl (err_spec _ br a n c st) ?_; rintro v ρ' L' hle ⟨rfl, rfl, rfl⟩ <;> (try simp only [List.cons_append, List.nil_append, List.append_eq])) | (refine i_op ?_; first | (refine i_qq ?_; refine qQ ?_) | refine qEf ?_) | refine tl_nil ?_ | (refine i_tc ?_; refine qTc ?_) | (refine i_te ?_; refine qTe ?_) | intro _)
      exact qE ⟨rfl, rfl, rfl⟩
  · repeat' (first | (refine i_op ?_; first | (refine i_qq ?_; refine qQ ?_) | refine qEf ?_) | refine tl_nil ?_ | (refine i_tc ?_; refine qTc ?_) | (refine i_te ?_; refine qTe ?_) | intro _)
    exact qE ⟨rfl, rfl, rfl⟩
end Go.Proofs.E

namespace Go.Proofs.E
open Go
set_option linter.unusedVariables false
set_option linter.unusedSimpArgs false
set_option linter.unusedSectionVars false
set_option maxRecDepth 4000
set_option maxHeartbeats 1000000
attribute [local irreducible] Yl TL TC TE Spec YSpec R1 Hp.le EnvLe TS TR YS Stays
abbrev RS3 := List UInt8 × Int × Bool
def i64N (x : Nat) : Int := IntKind.i64.wrap (x : Int)
def rowR (l : List UInt8) (st : Int) (bad : Bool) : Row × RS3 :=
  let r1 := numR 1 l st
  let b1 := needB bad r1.2.2 (decide ((r1.1 : Int) < 3))
  if !b1 && decide (r1.2.2 = 0) then
    let r2 := numR 2 r1.2.1 r1.2.2
    let r3 := numR 8 r2.2.1 r2.2.2
    let r4 := numR 1 r3.2.1 r3.2.2
    let b2 := needB b1 r4.2.2 (decide ((r4.1 : Int) ≤ 8))
    if !b2 && decide (r4.2.2 = 0) then
      let r5 := rawR r4.1 r4.2.1 r4.2.2
      (⟨r1.1, r2.1, i64N r3.1, r5.1⟩, r5.2.1, r5.2.2, b2)
    else (⟨r1.1, r2.1, i64N r3.1, []⟩, r4.2.1, r4.2.2, b2)
  else (⟨r1.1, 0, 0, []⟩, r1.2.1, r1.2.2, b1)
theorem trow_spec (ρ : Hp) (bt br : Nat) (all : Int) (bad : Bool) (vk vr vs : Value) (a : Option Addr) (n c : Nat) (l : List UInt8) (h : SIn ρ u8c a n l) (hc : n ≤ c) (st : Int) :
    Spec Try.prog 168 [.pointer (some ⟨bt, 0, none⟩)] ρ [tkC bt br all bad vk vr vs, rdC br a n c st]
      (fun v ρ' L' => v = .agg ⟨rowV (rowR l st bad).1⟩ ∧ ρ.le ρ' ∧ ∃ a' n' c', SIn ρ' u8c a' n' (rowR l st bad).2.1 ∧ n' ≤ c' ∧ L' = [tkC bt br all (rowR l st bad).2.2.2 vk vr vs, rdC br a' n' c' (rowR l st bad).2.2.1]) := by
  have hn1 := u8_spec ρ br a n c l h hc st
  have hb1 := numR_lt 1 l st
  generalize hq : rowR l st bad = q
  unfold rowR at hq
  generalize numR 1 l st = r1 at *
  obtain ⟨x1, l1, st1⟩ := r1
  dsimp only at hq hn1 hb1
  have htab : decide (0 ≤ (x1 : Int) ∧ (x1 : Int) < 3) = decide ((x1 : Int) < 3) := by simp
  generalize hB1 : needB bad st1 (decide ((x1 : Int) < 3)) = b1 at *
  refine spec_enter Try.func168 rfl rfl rfl fun u R => ?_
  simp only [argsE, List.cons_append, List.nil_append]
  repeat' (first | (refine tl_is (.func 162) ?_; refine qC rfl rfl (hn1) ?_; rintro v ρ' L' hle ⟨rfl, rfl, a1, n1, c1, h1, hc1, rfl⟩ <;> (try simp only [List.cons_append, List.nil_append, List.append_eq])) | (refine tl_is (.func 117) ?_; refine qC rfl rfl (table_spec _ (x1 : Int)) ?_; rintro v ρ' L' hle ⟨rfl, rfl, rfl⟩ <;> (try simp only [List.cons_append, List.nil_append, List.append_eq, htab])) | (refine tl_is (.func 163) ?_; refine qC rfl rfl (need_spec _ bt br all bad vk vr vs a1 n1 c1 st1 (decide ((x1 : Int) < 3))) ?_; rintro v ρ' L' hle ⟨rfl, rfl, rfl⟩ <;> (try simp only [List.cons_append, List.nil_append, List.append_eq, hB1])) | (refine tl_is (.func 166) ?_; refine qC rfl rfl (ok_spec _ bt br all b1 vk vr vs a1 n1 c1 st1) ?_; rintro v ρ' L' hle ⟨rfl, rfl, rfl⟩ <;> (try simp only [List.cons_append, List.nil_append, List.append_eq])) | (refine i_op ?_; first | (refine i_qq ?_; refine qQ ?_) | refine qEf ?_) | refine tl_nil ?_ | (refine i_tc ?_; refine qTc ?_) | (refine i_te ?_; refine qTe ?_) | intro _)
  by_cases hok : (!b1 && decide (st1 = 0)) = true
  · rw [if_pos hok] at hq
    simp only [hok]
    have hn2 := fun ρ (h : SIn ρ u8c a1 n1 l1) => u16_spec ρ br a1 n1 c1 l1 h hc1 st1
    have hb2 := numR_lt 2 l1 st1
    generalize numR 2 l1 st1 = r2 at *
    obtain ⟨x2, l2, st2⟩ := r2
    dsimp only at hq hn2 hb2
    have hn3 := fun ρ a n c (h : SIn ρ u8c a n l2) hc => u64_spec ρ br a n c l2 h hc st2
    generalize numR 8 l2 st2 = r3 at *
    obtain ⟨x3, l3, st3⟩ := r3
    dsimp only at hq hn3
    have hn4 := fun ρ a n c (h : SIn ρ u8c a n l3) hc => u8_spec ρ br a n c l3 h hc st3
    have hb4 := numR_lt 1 l3 st3
    generalize numR 1 l3 st3 = r4 at *
    obtain ⟨x4, l4, st4⟩ := r4
    dsimp only at hq hn4 hb4
    generalize hB2 : needB b1 st4 (decide ((x4 : Int) ≤ 8)) = b2 at *
    repeat' (first | (refine tl_is (.func 171) ?_; refine qC rfl rfl (hn2 _ h1) ?_; rintro v ρ' L' hle ⟨rfl, rfl, a2, n2, c2, h2, hc2, rfl⟩ <;> (try simp only [List.cons_append, List.nil_append, List.append_eq])) | (refine tl_is (.func 141) ?_; refine qC rfl rfl (hn3 _ _ _ _ h2 hc2) ?_; rintro v ρ' L' hle ⟨rfl, rfl, a3, n3, c3, h3, hc3, rfl⟩ <;> (try simp only [List.cons_append, List.nil_append, List.append_eq])) | (refine tl_is (.func 162) ?_; refine qC rfl rfl (hn4 _ _ _ _ h3 hc3) ?_; rintro v ρ' L' hle ⟨rfl, rfl, a4, n4, c4, h4, hc4, rfl⟩ <;> (try simp only [List.cons_append, List.nil_append, List.append_eq])) | (refine tl_is (.func 163) ?_; refine qC rfl rfl (need_spec _ bt br all b1 vk vr vs a4 n4 c4 st4 (decide ((x4 : Int) ≤ 8))) ?_; rintro v ρ' L' hle ⟨rfl, rfl, rfl⟩ <;> (try simp only [List.cons_append, List.nil_append, List.append_eq, hB2])) | (refine tl_is (.func 166) ?_; refine qC rfl rfl (ok_spec _ bt br all b2 vk vr vs a4 n4 c4 st4) ?_; rintro v ρ' L' hle ⟨rfl, rfl, rfl⟩ <;> (try simp only [List.cons_append, List.nil_append, List.append_eq])) | (refine i_op ?_; first | (refine i_qq ?_; refine qQ ?_) | refine qEf ?_) | refine tl_nil ?_ | (refine i_tc ?_; refine qTc ?_) | (refine i_te ?_; refine qTe ?_) | intro _)
    by_cases hok2 : (!b2 && decide (st4 = 0)) = true
    · rw [if_pos hok2] at hq
      simp only [hok2]
      have hn5 := fun ρ (h : SIn ρ u8c a4 n4 l4) => raw_spec ρ br a4 n4 c4 l4 h hc4 st4 x4 (by omega)
      generalize rawR x4 l4 st4 = r5 at *
      obtain ⟨x5, l5, st5⟩ := r5
      dsimp only at hq hn5
      subst hq
      repeat' (first | (refine tl_is (.func 172) ?_; refine qC rfl rfl (hn5 _ h4) ?_; rintro v ρ' L' hle ⟨hle5, va, vn, vc, a5, n5, c5, rfl, hvc, hv, h5, hc5, rfl⟩ <;> (try simp only [List.cons_append, List.nil_append, List.append_eq])) | (refine i_op ?_; first | (refine i_qq ?_; refine qQ ?_) | refine qEf ?_) | refine tl_nil ?_ | (refine i_tc ?_; refine qTc ?_) | (refine i_te ?_; refine qTe ?_) | intro _)
      exact qE ⟨rfl, hle5, a5, n5, c5, h5, hc5, rfl⟩
    · rw [if_neg hok2] at hq
      subst hq
      simp only [Bool.not_eq_true] at hok2
      simp only [hok2]
      repeat' (first | (refine i_op ?_; first | (refine i_qq ?_; refine qQ ?_) | refine qEf ?_) | refine tl_nil ?_ | (refine i_tc ?_; refine qTc ?_) | (refine i_te ?_; refine qTe ?_) | intro _)
      exact qE ⟨rfl, Hp.le_refl _, a4, n4, c4, h4, hc4, rfl⟩
  · rw [if_neg hok] at hq
    subst hq
    simp only [Bool.not_eq_true] at hok
    simp only [hok]
    repeat' (first | (refine i_op ?_; first | (refine i_qq ?_; refine qQ ?_) | refine qEf ?_) | refine tl_nil ?_ | (refine i_tc ?_; refine qTc ?_) | (refine i_te ?_; refine qTe ?_) | intro _)
    exact qE ⟨rfl, Hp.le_refl _, a1, n1, c1, h1, hc1, rfl⟩
def kidR (l : List UInt8) (st : Int) : Kid × List UInt8 × Int :=
  let r1 := numR 1 l st
  let r2 := numR 2 r1.2.1 r1.2.2
  let r3 := numR 1 r2.2.1 r2.2.2
  (⟨r1.1, r2.1, r3.1⟩, r3.2.1, r3.2.2)
theorem tkid_spec (ρ : Hp) (bt br : Nat) (all : Int) (bad : Bool) (vk vr vs : Value) (a : Option Addr) (n c : Nat) (l : List UInt8) (h : SIn ρ u8c a n l) (hc : n ≤ c) (st : Int) :
    Spec Try.prog 170 [.pointer (some ⟨bt, 0, none⟩)] ρ [tkC bt br all bad vk vr vs, rdC br a n c st]
      (fun v ρ' L' => v = .agg ⟨kidV (kidR l st).1⟩ ∧ ρ' = ρ ∧ ∃ a' n' c', SIn ρ' u8c a' n' (kidR l st).2.1 ∧ n' ≤ c' ∧ L' = [tkC bt br all bad vk vr vs, rdC br a' n' c' (kidR l st).2.2]) := by
  have hn1 := u8_spec ρ br a n c l h hc st
  have hb1 := numR_lt 1 l st
  generalize hq : kidR l st = q
  unfold kidR at hq
  generalize numR 1 l st = r1 at *
  obtain ⟨x1, l1, st1⟩ := r1
  dsimp only at hq hn1 hb1
  have hn2 := fun ρ a n c (h : SIn ρ u8c a n l1) hc => u16_spec ρ br a n c l1 h hc st1
  have hb2 := numR_lt 2 l1 st1
  generalize numR 2 l1 st1 = r2 at *
  obtain ⟨x2, l2, st2⟩ := r2
  dsimp only at hq hn2 hb2
  have hn3 := fun ρ a n c (h : SIn ρ u8c a n l2) hc => u8_spec ρ br a n c l2 h hc st2
  have hb3 := numR_lt 1 l2 st2
  generalize numR 1 l2 st2 = r3 at *
  obtain ⟨x3, l3, st3⟩ := r3
  dsimp only at hq hn3 hb3
  subst hq
  refine spec_enter Try.func170 rfl rfl rfl fun u R => ?_
  simp only [argsE, List.cons_append, List.nil_append]
  repeat' (first | (refine i_op ?_; first | (refine i_qq ?_; refine qQ ?_) | refine qEf ?_) | refine tl_nil ?_ | (refine i_tc ?_; refine qTc ?_) | (refine i_te ?_; refine qTe ?_) | intro _)
  refine tc_any (Stays _ _ ([tkC bt br all bad vk vr vs])) (stays_of (hT := tk) (Hp.le_refl _)) ?_
  all_goals refine rMv 0 ?_
  all_goals refine rNc 1 ?_
  all_goals refine rFa 2 ?_
  all_goals refine rLd 3 ?_
  all_goals refine rMv 6 ?_
  all_goals refine rNc 7 ?_
  all_goals refine rFa 8 ?_
  all_goals refine rLd 9 ?_
  all_goals (refine rStep (i := 4) ?_; ((try refine qWant ?_); (first | (refine tl_is (.func 162) ?_; refine qC rfl rfl (hn1) ?_; rintro v ρ' L' hle ⟨rfl, rfl, a1, n1, c1, h1, hc1, rfl⟩ <;> (try simp only [List.cons_append, List.nil_append, List.append_eq])) | (refine qEf ?_; try intro _)) <;> ((try simp only [List.cons_append, List.nil_append, List.append_eq]); refine tl_nil ?_; refine rNext ?_)))
  all_goals refine rCv 5 ?_
  all_goals (refine rStep (i := 10) ?_; ((try refine qWant ?_); (first | (refine tl_is (.func 171) ?_; refine qC rfl rfl (hn2 _ _ _ _ h1 hc1) ?_; rintro v ρ' L' hle ⟨rfl, rfl, a2, n2, c2, h2, hc2, rfl⟩ <;> (try simp only [List.cons_append, List.nil_append, List.append_eq])) | (refine qEf ?_; try intro _)) <;> ((try simp only [List.cons_append, List.nil_append, List.append_eq]); refine tl_nil ?_; refine rNext ?_)))
  all_goals refine rBu 11 ?_
  all_goals refine rFa 12 ?_
  all_goals (refine rStep (i := 13) ?_; ((try refine qWant ?_); (first | (refine qEf ?_; try intro _)) <;> ((try simp only [List.cons_append, List.nil_append, List.append_eq]); refine tl_nil ?_; refine rNext ?_)))
  all_goals refine rDone ?_
  all_goals (repeat' (first | (refine tl_is (.func 162) ?_; refine qC rfl rfl (hn3 _ _ _ _ h2 hc2) ?_; rintro v ρ' L' hle ⟨rfl, rfl, a3, n3, c3, h3, hc3, rfl⟩ <;> (try simp only [List.cons_append, List.nil_append, List.append_eq])) | (refine i_op ?_; first | (refine i_qq ?_; refine qQ ?_) | refine qEf ?_) | refine tl_nil ?_ | (refine i_tc ?_; refine qTc ?_) | (refine i_te ?_; refine qTe ?_) | intro _))
  all_goals exact qE ⟨rfl, rfl, a3, n3, c3, h3, hc3, rfl⟩
end Go.Proofs.E

namespace Go.Proofs.E
open Go
set_option linter.unusedVariables false
set_option linter.unusedSimpArgs false
set_option linter.unusedSectionVars false
set_option maxRecDepth 4000
set_option maxHeartbeats 1000000
attribute [local irreducible] Yl TL TC TE Spec YSpec R1 Hp.le EnvLe TS TR YS Stays
/-! ## codec: what may be -/
def cmpI (x y : Int) : Int := if x < y then -1 else if y < x then 1 else 0
theorem nanI_spec (ρ : Hp) (x : Int) : Spec Try.prog 156 [.int .i64 x] ρ [] (fun v ρ' L' => v = .bool false ∧ ρ' = ρ ∧ L' = []) := by
  refine spec_enter Try.func156 rfl rfl rfl fun u R => ?_
  simp only [argsE, List.cons_append, List.nil_append]
  repeat' (first | (refine i_op ?_; first | (refine i_qq ?_; refine qQ ?_) | refine qEf ?_) | refine tl_nil ?_ | (refine i_tc ?_; refine qTc ?_) | (refine i_te ?_; refine qTe ?_) | intro _)
  exact qE ⟨rfl, rfl, rfl⟩
theorem nanU_spec (ρ : Hp) (x : Int) : Spec Try.prog 157 [.int .u16 x] ρ [] (fun v ρ' L' => v = .bool false ∧ ρ' = ρ ∧ L' = []) := by
  refine spec_enter Try.func157 rfl rfl rfl fun u R => ?_
  simp only [argsE, List.cons_append, List.nil_append]
  repeat' (first | (refine i_op ?_; first | (refine i_qq ?_; refine qQ ?_) | refine qEf ?_) | refine tl_nil ?_ | (refine i_tc ?_; refine qTc ?_) | (refine i_te ?_; refine qTe ?_) | intro _)
  exact qE ⟨rfl, rfl, rfl⟩
theorem cmpI_spec (ρ : Hp) (x y : Int) : Spec Try.prog 147 [.int .i64 x, .int .i64 y] ρ [] (fun v ρ' L' => v = .int .i64 (cmpI x y) ∧ ρ' = ρ ∧ L' = []) := by
  refine spec_enter Try.func147 rfl rfl rfl fun u R => ?_
  simp only [argsE, List.cons_append, List.nil_append]
  unfold cmpI
  split
  · repeat' (first | (refine tl_is (.func 156) ?_; refine qC rfl rfl (nanI_spec _ _) ?_; rintro v ρ' L' hle ⟨rfl, rfl, rfl⟩ <;> (try simp only [List.cons_append, List.nil_append, List.append_eq])) | (refine i_op ?_; first | (refine i_qq ?_; refine qQ ?_) | refine qEf ?_) | refine tl_nil ?_ | (refine i_tc ?_; refine qTc ?_) | (refine i_te ?_; refine qTe ?_) | intro _)
    exact qE ⟨rfl, rfl, rfl⟩
  · split
    · repeat' (first | (refine tl_is (.func 156) ?_; refine qC rfl rfl (nanI_spec _ _) ?_; rintro v ρ' L' hle ⟨rfl, rfl, rfl⟩ <;> (try simp only [List.cons_append, List.nil_append, List.append_eq])) | (refine i_op ?_; first | (refine i_qq ?_; refine qQ ?_) | refine qEf ?_) | refine tl_nil ?_ | (refine i_tc ?_; refine qTc ?_) | (refine i_te ?_; refine qTe ?_) | intro _)
      exact qE ⟨rfl, rfl, rfl⟩
    · repeat' (first | (refine tl_is (.func 156) ?_; refine qC rfl rfl (nanI_spec _ _) ?_; rintro v ρ' L' hle ⟨rfl, rfl, rfl⟩ <;> (try simp only [List.cons_append, List.nil_append, List.append_eq])) | (refine i_op ?_; first | (refine i_qq ?_; refine qQ ?_) | refine qEf ?_) | refine tl_nil ?_ | (refine i_tc ?_; refine qTc ?_) | (refine i_te ?_; refine qTe ?_) | intro _)
      exact qE ⟨rfl, rfl, rfl⟩
theorem cmpU_spec (ρ : Hp) (x y : Int) : Spec Try.prog 148 [.int .u16 x, .int .u16 y] ρ [] (fun v ρ' L' => v = .int .i64 (cmpI x y) ∧ ρ' = ρ ∧ L' = []) := by
  refine spec_enter Try.func148 rfl rfl rfl fun u R => ?_
  simp only [argsE, List.cons_append, List.nil_append]
  unfold cmpI
  split
  · repeat' (first | (refine tl_is (.func 157) ?_; refine qC rfl rfl (nanU_spec _ _) ?_; rintro v ρ' L' hle ⟨rfl, rfl, rfl⟩ <;> (try simp only [List.cons_append, List.nil_append, List.append_eq])) | (refine i_op ?_; first | (refine i_qq ?_; refine qQ ?_) | refine qEf ?_) | refine tl_nil ?_ | (refine i_tc ?_; refine qTc ?_) | (refine i_te ?_; refine qTe ?_) | intro _)
    exact qE ⟨rfl, rfl, rfl⟩
  · split
    · repeat' (first | (refine tl_is (.func 157) ?_; refine qC rfl rfl (nanU_spec _ _) ?_; rintro v ρ' L' hle ⟨rfl, rfl, rfl⟩ <;> (try simp only [List.cons_append, List.nil_append, List.append_eq])) | (refine i_op ?_; first | (refine i_qq ?_; refine qQ ?_) | refine qEf ?_) | refine tl_nil ?_ | (refine i_tc ?_; refine qTc ?_) | (refine i_te ?_; refine qTe ?_) | intro _)
      exact qE ⟨rfl, rfl, rfl⟩
    · repeat' (first | (refine tl_is (.func 157) ?_; refine qC rfl rfl (nanU_spec _ _) ?_; rintro v ρ' L' hle ⟨rfl, rfl, rfl⟩ <;> (try simp only [List.cons_append, List.nil_append, List.append_eq])) | (refine i_op ?_; first | (refine i_qq ?_; refine qQ ?_) | refine qEf ?_) | refine tl_nil ?_ | (refine i_tc ?_; refine qTc ?_) | (refine i_te ?_; refine qTe ?_) | intro _)
      exact qE ⟨rfl, rfl, rfl⟩
theorem or2_spec (ρ : Hp) (b : Nat) (x y : Int) : Spec Try.prog 146 [.slice (some ⟨b, 0, none⟩) 2 2] ρ [[(b, .cells ⟨[.int .i64 x, .int .i64 y]⟩ 3 (0, 0))]]
    (fun v ρ' L' => v = .int .i64 (if x = 0 then y else x) ∧ ρ' = ρ ∧ L' = [[(b, .cells ⟨[.int .i64 x, .int .i64 y]⟩ 3 (0, 0))]]) := by
  refine spec_enter Try.func146 rfl rfl rfl fun u R => ?_
  simp only [argsE, List.cons_append, List.nil_append]
  repeat' (first | (refine i_op ?_; first | (refine i_qq ?_; refine qQ ?_) | refine qEf ?_) | refine tl_nil ?_ | (refine i_tc ?_; refine qTc ?_) | (refine i_te ?_; refine qTe ?_) | intro _)
  refine tc_loop_g [(2, _), (3, _), (6, _), (7, _)] (fun (ζ : (Nat)) => [(8, .int .i64 ζ)]) (fun (ζ : (Nat)) => ρ) (fun (ζ : (Nat)) => []) (fun (ζ : (Nat)) => ζ = 0 ∨ (ζ = 1 ∧ x = 0) ∨ (ζ = 2 ∧ x = 0 ∧ y = 0)) (fun (ζ : (Nat)) => 3 - ζ) (0) (.inl rfl) ev_le ev_le rfl tk ?_
  rintro k hI
  try simp only [List.cons_append, List.nil_append, List.append_assoc, List.append_eq] at hI ⊢
  try dsimp only at hI ⊢
  rcases hI with rfl | ⟨rfl, rfl⟩ | ⟨rfl, rfl, rfl⟩
  · by_cases h : x = 0
    · subst h
      repeat' (first | (refine i_op ?_; first | (refine i_qq ?_; refine qQ ?_) | refine qEf ?_) | refine tl_nil ?_ | (refine i_tc ?_; refine qTc ?_) | (refine i_te ?_; refine qTe ?_) | intro _)
      refine te_round_g (1) (.inr (.inl ⟨rfl, rfl⟩)) ev_le ev_le rfl tk inferInstance (by first | omega | (dsimp only; omega))
    · rw [if_neg h]
      repeat' (first | (refine i_op ?_; first | (refine i_qq ?_; refine qQ ?_) | refine qEf ?_) | refine tl_nil ?_ | (refine i_tc ?_; refine qTc ?_) | (refine i_te ?_; refine qTe ?_) | intro _)
      exact qE ⟨rfl, rfl, rfl⟩
  · by_cases h : y = 0
    · subst h
      repeat' (first | (refine i_op ?_; first | (refine i_qq ?_; refine qQ ?_) | refine qEf ?_) | refine tl_nil ?_ | (refine i_tc ?_; refine qTc ?_) | (refine i_te ?_; refine qTe ?_) | intro _)
      refine te_round_g (2) (.inr (.inr ⟨rfl, rfl, rfl⟩)) ev_le ev_le rfl tk inferInstance (by first | omega | (dsimp only; omega))
    · repeat' (first | (refine i_op ?_; first | (refine i_qq ?_; refine qQ ?_) | refine qEf ?_) | refine tl_nil ?_ | (refine i_tc ?_; refine qTc ?_) | (refine i_te ?_; refine qTe ?_) | intro _)
      exact qE ⟨rfl, rfl, rfl⟩
  · repeat' (first | (refine i_op ?_; first | (refine i_qq ?_; refine qQ ?_) | refine qEf ?_) | refine tl_nil ?_ | (refine i_tc ?_; refine qTc ?_) | (refine i_te ?_; refine qTe ?_) | intro _)
    exact qE ⟨rfl, rfl, rfl⟩
def cmpK (t1 : Int) (i1 : Nat) (t2 : Int) (i2 : Nat) : Int := if cmpI t1 t2 = 0 then cmpI i1 i2 else cmpI t1 t2
theorem cmpK_lt (t1 : Int) (i1 : Nat) (t2 : Int) (i2 : Nat) : cmpK t1 i1 t2 i2 < 0 ↔ t1 < t2 ∨ (t1 = t2 ∧ i1 < i2) := by
  unfold cmpK cmpI
  repeat' split
  all_goals omega
theorem compare_spec (ρ : Hp) (t1 : Int) (i1 : Nat) (t2 : Int) (i2 : Nat) : Spec Try.prog 138 [.agg ⟨keyV t1 i1⟩, .agg ⟨keyV t2 i2⟩] ρ [] (fun v ρ' L' => v = .int .i64 (cmpK t1 i1 t2 i2) ∧ ρ' = ρ ∧ L' = []) := by
  refine spec_enter Try.func138 rfl rfl rfl fun u R => ?_
  simp only [argsE, List.cons_append, List.nil_append]
  repeat' (first | (refine i_op ?_; first | (refine i_qq ?_; refine qQ ?_) | refine qEf ?_) | refine tl_nil ?_ | (refine i_tc ?_; refine qTc ?_) | (refine i_te ?_; refine qTe ?_) | intro _)
  refine tc_any (Stays _ _ _) stays_refl ?_
  all_goals refine rFa 0 ?_
  all_goals refine rLd 1 ?_
  all_goals refine rFa 2 ?_
  all_goals refine rLd 3 ?_
  all_goals refine rFa 5 ?_
  all_goals refine rLd 6 ?_
  all_goals refine rFa 7 ?_
  all_goals refine rLd 8 ?_
  all_goals (refine rStep (i := 4) ?_; ((try refine qWant ?_); (first | (refine tl_is (.func 147) ?_; refine qC rfl rfl (cmpI_spec _ _ _) ?_; rintro v ρ' L' hle ⟨rfl, rfl, rfl⟩ <;> (try simp only [List.cons_append, List.nil_append, List.append_eq])) | (refine qEf ?_; try intro _)) <;> ((try simp only [List.cons_append, List.nil_append, List.append_eq]); refine tl_nil ?_; refine rNext ?_)))
  all_goals (refine rStep (i := 9) ?_; ((try refine qWant ?_); (first | (refine tl_is (.func 148) ?_; refine qC rfl rfl (cmpU_spec _ _ _) ?_; rintro v ρ' L' hle ⟨rfl, rfl, rfl⟩ <;> (try simp only [List.cons_append, List.nil_append, List.append_eq])) | (refine qEf ?_; try intro _)) <;> ((try simp only [List.cons_append, List.nil_append, List.append_eq]); refine tl_nil ?_; refine rNext ?_)))
  all_goals (refine rStep (i := 10) ?_; ((try refine qWant ?_); (first | (refine tl_buildSlice_s rfl rfl rfl rfl (by simp) rfl rfl (fun _ => ?_)) | (refine qEf ?_; try intro _)) <;> ((try simp only [List.cons_append, List.nil_append, List.append_eq]); refine tl_nil ?_; refine rNext ?_)))
  all_goals (refine rStep (i := 11) ?_; ((try refine qWant ?_); (first | (refine tl_is (.func 146) ?_; refine qC rfl rfl (or2_spec _ _ _ _) ?_; rintro v ρ' L' hle ⟨rfl, rfl, rfl⟩ <;> (try simp only [List.cons_append, List.nil_append, List.append_eq])) | (refine qEf ?_; try intro _)) <;> ((try simp only [List.cons_append, List.nil_append, List.append_eq]); refine tl_nil ?_; refine rNext ?_)))
  all_goals refine rFull ?_
  all_goals refine rAs 12 ?_
  all_goals refine rDone ?_
  all_goals (repeat' (first | (refine i_op ?_; first | (refine i_qq ?_; refine qQ ?_) | refine qEf ?_) | refine tl_nil ?_ | (refine i_tc ?_; refine qTc ?_) | (refine i_te ?_; refine qTe ?_) | intro _))
  all_goals exact qE ⟨rfl, rfl, rfl⟩
def rowOk (r : Row) : Bool := decide ((0 ≤ r.t ∧ r.t < 3) ∧ r.note.length ≤ 8)
theorem checkRow_spec (ρ : Hp) (r : Row) : Spec Try.prog 113 [.agg ⟨rowV r⟩] ρ [] (fun v ρ' L' => v = .int .i64 (if rowOk r then 0 else 151) ∧ ρ' = ρ ∧ L' = []) := by
  obtain ⟨t, id, val, note⟩ := r
  refine spec_enter Try.func113 rfl rfl rfl fun u R => ?_
  simp only [argsE, List.cons_append, List.nil_append, rowOk, decide_eq_true_eq]
  by_cases h1 : 0 ≤ t ∧ t < 3
  · have hd : decide (0 ≤ t ∧ t < 3) = true := decide_eq_true h1
    by_cases h2 : note.length ≤ 8
    · rw [if_pos ⟨h1, h2⟩]
      repeat' (first | (refine tl_is (.func 117) ?_; refine qC rfl rfl (table_spec _ _) ?_; rintro v ρ' L' hle ⟨rfl, rfl, rfl⟩ <;> (try simp only [List.cons_append, List.nil_append, List.append_eq, hd])) | (refine i_op ?_; first | (refine i_qq ?_; refine qQ ?_) | refine qEf ?_) | refine tl_nil ?_ | (refine i_tc ?_; refine qTc ?_) | (refine i_te ?_; refine qTe ?_) | intro _)
      exact qE ⟨rfl, rfl, rfl⟩
    · rw [if_neg (fun h => h2 h.2)]
      repeat' (first | (refine tl_is (.func 117) ?_; refine qC rfl rfl (table_spec _ _) ?_; rintro v ρ' L' hle ⟨rfl, rfl, rfl⟩ <;> (try simp only [List.cons_append, List.nil_append, List.append_eq, hd])) | (refine i_op ?_; first | (refine i_qq ?_; refine qQ ?_) | refine qEf ?_) | refine tl_nil ?_ | (refine i_tc ?_; refine qTc ?_) | (refine i_te ?_; refine qTe ?_) | intro _)
      exact qE ⟨rfl, rfl, rfl⟩
  · have hd : decide (0 ≤ t ∧ t < 3) = false := decide_eq_false h1
    rw [if_neg (fun h => h1 h.1)]
    repeat' (first | (refine tl_is (.func 117) ?_; refine qC rfl rfl (table_spec _ _) ?_; rintro v ρ' L' hle ⟨rfl, rfl, rfl⟩ <;> (try simp only [List.cons_append, List.nil_append, List.append_eq, hd])) | (refine i_op ?_; first | (refine i_qq ?_; refine qQ ?_) | refine qEf ?_) | refine tl_nil ?_ | (refine i_tc ?_; refine qTc ?_) | (refine i_te ?_; refine qTe ?_) | intro _)
    exact qE ⟨rfl, rfl, rfl⟩
end Go.Proofs.E

namespace Go.Proofs.E
open Go
set_option linter.unusedVariables false
set_option linter.unusedSimpArgs false
set_option linter.unusedSectionVars false
set_option maxRecDepth 4000
set_option maxHeartbeats 1000000
attribute [local irreducible] Yl TL TC TE Spec YSpec R1 Hp.le EnvLe TS TR YS Stays
def risesB {α : Type} (most : Nat) (right : Nat → α → Bool) (lt : α → α → Bool) (l : List α) : Nat → Bool
  | 0 => decide (l.length ≤ most)
  | k + 1 => risesB most right lt l k && (match l[k]? with | some x => right k x && (decide (k = 0) || (match l[k - 1]? with | some y => lt y x | none => false)) | none => false)
theorem risesB_succ {α : Type} {most : Nat} {right : Nat → α → Bool} {lt : α → α → Bool} {l : List α} {k : Nat} (h : k < l.length) : risesB most right lt l (k + 1) = (risesB most right lt l k && (right k l[k] && (decide (k = 0) || lt (l[k - 1]'(by omega)) l[k]))) := by
  rw [risesB]
  simp [h, show k - 1 < l.length by omega]
theorem risesB_false {α : Type} {most : Nat} {right : Nat → α → Bool} {lt : α → α → Bool} {l : List α} {k : Nat} (h : risesB most right lt l k = false) : ∀ m, risesB most right lt l (k + m) = false
  | 0 => h
  | m + 1 => by rw [← Nat.add_assoc, risesB, risesB_false h m]; rfl
theorem risesB_false' {α : Type} {most : Nat} {right : Nat → α → Bool} {lt : α → α → Bool} {l : List α} {k n : Nat} (h : risesB most right lt l k = false) (hk : k ≤ n) : risesB most right lt l n = false := by
  have := risesB_false h (n - k)
  rwa [Nat.add_sub_cancel' hk] at this
theorem leaf1_spec (ρ : Hp) (r : Row) : Spec Try.prog 111 [.agg ⟨rowV r⟩] ρ [] (fun v ρ' L' => v = .agg ⟨keyV r.t r.id⟩ ∧ ρ' = ρ ∧ L' = []) := by
  refine spec_enter Try.func111 rfl rfl rfl fun u R => ?_
  simp only [argsE, List.cons_append, List.nil_append]
  repeat' (first | (refine i_op ?_; first | (refine i_qq ?_; refine qQ ?_) | refine qEf ?_) | refine tl_nil ?_ | (refine i_tc ?_; refine qTc ?_) | (refine i_te ?_; refine qTe ?_) | intro _)
  exact qE ⟨rfl, rfl, rfl⟩
theorem leaf2_spec (ρ : Hp) (i : Int) (r : Row) : Spec Try.prog 112 [.int .i64 i, .agg ⟨rowV r⟩] ρ [] (fun v ρ' L' => v = .bool (rowOk r) ∧ ρ' = ρ ∧ L' = []) := by
  refine spec_enter Try.func112 rfl rfl rfl fun u R => ?_
  simp only [argsE, List.cons_append, List.nil_append]
  cases h : rowOk r
  · repeat' (first | (refine tl_is (.func 113) ?_; refine qC rfl rfl (checkRow_spec _ r) ?_; rintro v ρ' L' hle ⟨rfl, rfl, rfl⟩ <;> (try simp only [List.cons_append, List.nil_append, List.append_eq, h, if_false, Bool.false_eq_true])) | (refine i_op ?_; first | (refine i_qq ?_; refine qQ ?_) | refine qEf ?_) | refine tl_nil ?_ | (refine i_tc ?_; refine qTc ?_) | (refine i_te ?_; refine qTe ?_) | intro _)
    exact qE ⟨rfl, rfl, rfl⟩
  · repeat' (first | (refine tl_is (.func 113) ?_; refine qC rfl rfl (checkRow_spec _ r) ?_; rintro v ρ' L' hle ⟨rfl, rfl, rfl⟩ <;> (try simp only [List.cons_append, List.nil_append, List.append_eq, h, if_true])) | (refine i_op ?_; first | (refine i_qq ?_; refine qQ ?_) | refine qEf ?_) | refine tl_nil ?_ | (refine i_tc ?_; refine qTc ?_) | (refine i_te ?_; refine qTe ?_) | intro _)
    exact qE ⟨rfl, rfl, rfl⟩
def ltR (y x : Row) : Bool := decide (cmpK y.t y.id x.t x.id < 0)
def rowsOk (l : List Row) : Bool := risesB 4 (fun _ r => rowOk r) ltR l l.length
theorem rowV_len (r : Row) : (rowV r).length = 4 := rfl
theorem rowV_one (r : Row) : (rowV r).all (·.oneCell') = true := rfl
theorem risesRow_spec (ρ : Hp) (a : Option Addr) (n c : Nat) (l : List Row) (h : AIn ρ 4 rowV a n l) (hn : n ≤ 1000000) :
    Spec Try.prog 110 [.slice a n c, .int .i64 4, .func (.func 111) ⟨[]⟩ ⟨[]⟩, .func (.func 112) ⟨[]⟩ ⟨[]⟩] ρ [] (fun v ρ' L' => v = .bool (rowsOk l) ∧ ρ' = ρ ∧ L' = []) := by
  have hl := h.len
  unfold rowsOk
  rw [hl]
  refine spec_enter Try.func110 rfl rfl rfl fun u R => ?_
  simp only [argsE, List.cons_append, List.nil_append]
  repeat' (first | (refine i_op ?_; first | (refine i_qq ?_; refine qQ ?_) | refine qEf ?_) | refine tl_nil ?_ | (refine i_tc ?_; refine qTc ?_) | (refine i_te ?_; refine qTe ?_) | intro _)
  have e0 : decide ((n : Int) ≤ 4) = risesB 4 (fun _ r => rowOk r) ltR l 0 := by
    rw [risesB]; simp [hl]; omega
  rw [e0]
  refine tc_loop_g [(0, _), (2, _), (3, _), (8, _), (16, _), (17, _)] (fun (ζ : (Nat)) => [(18, .int .i64 ζ), (9, .bool (risesB 4 (fun _ r => rowOk r) ltR l ζ))]) (fun (ζ : (Nat)) => ρ) (fun (ζ : (Nat)) => []) (fun (ζ : (Nat)) => ζ ≤ n) (fun (ζ : (Nat)) => n - ζ) (0) (Nat.zero_le _) ev_le ev_le rfl tk ?_
  rintro k hI
  try simp only [List.cons_append, List.nil_append, List.append_assoc, List.append_eq] at hI ⊢
  try dsimp only at hI ⊢
  by_cases hlt : k < n
  · obtain ⟨b, off, C, T, fr, rfl, hb, hfit, hc⟩ := h.get (show k < l.length by omega)
    have hs := risesB_succ (most := 4) (right := fun _ r => rowOk r) (lt := ltR) (show k < l.length by omega)
    have hfin := fun (e : risesB 4 (fun _ r => rowOk r) ltR l (k + 1) = false) => risesB_false' e (show k + 1 ≤ n by omega)
    cases hok : risesB 4 (fun _ r => rowOk r) ltR l k
    · rw [hok, Bool.false_and] at hs
      rw [hfin hs]
      generalize l[k] = x at *
      repeat' (first | (refine i_op ?_; first | (refine i_qq ?_; refine qQ ?_) | refine qEf ?_) | refine tl_nil ?_ | (refine i_tc ?_; refine qTc ?_) | (refine i_te ?_; refine qTe ?_) | intro _)
      refine tc_any (Stays _ _ _) stays_refl ?_
      all_goals refine rMv 0 ?_
      all_goals refine rMv 1 ?_
      all_goals (first | refine wSkip 2 ?_ | refine wSkipU 2 ?_ | refine wMv 2 ?_ | (refine tr_guard (t := 24) rfl (fun hb => ?_) (fun hb => ?_) <;> (try simp only [decide_eq_true_eq, decide_eq_false_iff_not, Bool.not_eq_true, Bool.not_eq_false, beq_iff_eq, bne_iff_ne, ne_eq, Bool.not_eq_eq_eq_not, Bool.not_true, Bool.not_false, beq_eq_false_iff_ne, bne_eq_false_iff_eq] at hb) <;> first | refine wSkip 2 ?_ | refine wSkipU 2 ?_ | refine wMv 2 ?_))
      all_goals (first | refine wSkip 3 ?_ | refine wSkipU 3 ?_ | refine wMv 3 ?_ | (refine tr_guard (t := 24) rfl (fun hb => ?_) (fun hb => ?_) <;> (try simp only [decide_eq_true_eq, decide_eq_false_iff_not, Bool.not_eq_true, Bool.not_eq_false, beq_iff_eq, bne_iff_ne, ne_eq, Bool.not_eq_eq_eq_not, Bool.not_true, Bool.not_false, beq_eq_false_iff_ne, bne_eq_false_iff_eq] at hb) <;> first | refine wSkip 3 ?_ | refine wSkipU 3 ?_ | refine wMv 3 ?_))
      all_goals (first | refine wSkip 4 ?_ | refine wSkipU 4 ?_ | refine wLd 4 ?_ | (refine tr_guard (t := 24) rfl (fun hb => ?_) (fun hb => ?_) <;> (try simp only [decide_eq_true_eq, decide_eq_false_iff_not, Bool.not_eq_true, Bool.not_eq_false, beq_iff_eq, bne_iff_ne, ne_eq, Bool.not_eq_eq_eq_not, Bool.not_true, Bool.not_false, beq_eq_false_iff_ne, bne_eq_false_iff_eq] at hb) <;> first | refine wSkip 4 ?_ | refine wSkipU 4 ?_ | refine wLd 4 ?_))
      all_goals (first | refine wSkip 5 ?_ | refine wSkipU 5 ?_ | (refine rStep (i := 5) ?_; ((try refine qWant ?_); (first | (refine qEf ?_; try intro _)) <;> ((try simp only [List.cons_append, List.nil_append, List.append_eq]); refine tl_nil ?_; refine rNext ?_))))
      all_goals refine rPk 6 ?_
      all_goals refine rMv 7 ?_
      all_goals (first | refine wSkip 8 ?_ | refine wSkipU 8 ?_ | refine wMv 8 ?_ | (refine tr_guard (t := 30) rfl (fun hb => ?_) (fun hb => ?_) <;> (try simp only [decide_eq_true_eq, decide_eq_false_iff_not, Bool.not_eq_true, Bool.not_eq_false, beq_iff_eq, bne_iff_ne, ne_eq, Bool.not_eq_eq_eq_not, Bool.not_true, Bool.not_false, beq_eq_false_iff_ne, bne_eq_false_iff_eq] at hb) <;> first | refine wSkip 8 ?_ | refine wSkipU 8 ?_ | refine wMv 8 ?_))
      all_goals (first | refine wSkip 9 ?_ | refine wSkipU 9 ?_ | refine wCm 9 ?_ | (refine tr_guard (t := 30) rfl (fun hb => ?_) (fun hb => ?_) <;> (try simp only [decide_eq_true_eq, decide_eq_false_iff_not, Bool.not_eq_true, Bool.not_eq_false, beq_iff_eq, bne_iff_ne, ne_eq, Bool.not_eq_eq_eq_not, Bool.not_true, Bool.not_false, beq_eq_false_iff_ne, bne_eq_false_iff_eq] at hb) <;> first | refine wSkip 9 ?_ | refine wSkipU 9 ?_ | refine wCm 9 ?_))
      all_goals (first | refine wSkip 10 ?_ | refine wSkipU 10 ?_ | refine wMv 10 ?_ | (refine tr_guard (t := 30) rfl (fun hb => ?_) (fun hb => ?_) <;> (try simp only [decide_eq_true_eq, decide_eq_false_iff_not, Bool.not_eq_true, Bool.not_eq_false, beq_iff_eq, bne_iff_ne, ne_eq, Bool.not_eq_eq_eq_not, Bool.not_true, Bool.not_false, beq_eq_false_iff_ne, bne_eq_false_iff_eq] at hb) <;> first | refine wSkip 10 ?_ | refine wSkipU 10 ?_ | refine wMv 10 ?_))
      all_goals (first | refine wSkip 11 ?_ | refine wSkipU 11 ?_ | refine wMv 11 ?_ | (refine tr_guard (t := 33) rfl (fun hb => ?_) (fun hb => ?_) <;> (try simp only [decide_eq_true_eq, decide_eq_false_iff_not, Bool.not_eq_true, Bool.not_eq_false, beq_iff_eq, bne_iff_ne, ne_eq, Bool.not_eq_eq_eq_not, Bool.not_true, Bool.not_false, beq_eq_false_iff_ne, bne_eq_false_iff_eq] at hb) <;> first | refine wSkip 11 ?_ | refine wSkipU 11 ?_ | refine wMv 11 ?_))
      all_goals (first | refine wSkip 12 ?_ | refine wSkipU 12 ?_ | refine wMv 12 ?_ | (refine tr_guard (t := 33) rfl (fun hb => ?_) (fun hb => ?_) <;> (try simp only [decide_eq_true_eq, decide_eq_false_iff_not, Bool.not_eq_true, Bool.not_eq_false, beq_iff_eq, bne_iff_ne, ne_eq, Bool.not_eq_eq_eq_not, Bool.not_true, Bool.not_false, beq_eq_false_iff_ne, bne_eq_false_iff_eq] at hb) <;> first | refine wSkip 12 ?_ | refine wSkipU 12 ?_ | refine wMv 12 ?_))
      all_goals (first | refine wSkip 13 ?_ | refine wSkipU 13 ?_ | refine wMv 13 ?_ | (refine tr_guard (t := 33) rfl (fun hb => ?_) (fun hb => ?_) <;> (try simp only [decide_eq_true_eq, decide_eq_false_iff_not, Bool.not_eq_true, Bool.not_eq_false, beq_iff_eq, bne_iff_ne, ne_eq, Bool.not_eq_eq_eq_not, Bool.not_true, Bool.not_false, beq_eq_false_iff_ne, bne_eq_false_iff_eq] at hb) <;> first | refine wSkip 13 ?_ | refine wSkipU 13 ?_ | refine wMv 13 ?_))
      all_goals (first | refine wSkip 14 ?_ | refine wSkipU 14 ?_ | refine wSb 14 ?_ | (refine tr_guard (t := 33) rfl (fun hb => ?_) (fun hb => ?_) <;> (try simp only [decide_eq_true_eq, decide_eq_false_iff_not, Bool.not_eq_true, Bool.not_eq_false, beq_iff_eq, bne_iff_ne, ne_eq, Bool.not_eq_eq_eq_not, Bool.not_true, Bool.not_false, beq_eq_false_iff_ne, bne_eq_false_iff_eq] at hb) <;> first | refine wSkip 14 ?_ | refine wSkipU 14 ?_ | refine wSb 14 ?_))
      all_goals (first | refine wSkip 15 ?_ | refine wSkipU 15 ?_ | refine wIa 15 ?_ | (refine tr_guard (t := 33) rfl (fun hb => ?_) (fun hb => ?_) <;> (try simp only [decide_eq_true_eq, decide_eq_false_iff_not, Bool.not_eq_true, Bool.not_eq_false, beq_iff_eq, bne_iff_ne, ne_eq, Bool.not_eq_eq_eq_not, Bool.not_true, Bool.not_false, beq_eq_false_iff_ne, bne_eq_false_iff_eq] at hb) <;> first | refine wSkip 15 ?_ | refine wSkipU 15 ?_ | refine wIa 15 ?_))
      all_goals (first | refine wSkip 16 ?_ | refine wSkipU 16 ?_ | refine wLd 16 ?_ | (refine tr_guard (t := 33) rfl (fun hb => ?_) (fun hb => ?_) <;> (try simp only [decide_eq_true_eq, decide_eq_false_iff_not, Bool.not_eq_true, Bool.not_eq_false, beq_iff_eq, bne_iff_ne, ne_eq, Bool.not_eq_eq_eq_not, Bool.not_true, Bool.not_false, beq_eq_false_iff_ne, bne_eq_false_iff_eq] at hb) <;> first | refine wSkip 16 ?_ | refine wSkipU 16 ?_ | refine wLd 16 ?_))
      all_goals (first | refine wSkip 18 ?_ | refine wSkipU 18 ?_ | refine wMv 18 ?_ | (refine tr_guard (t := 33) rfl (fun hb => ?_) (fun hb => ?_) <;> (try simp only [decide_eq_true_eq, decide_eq_false_iff_not, Bool.not_eq_true, Bool.not_eq_false, beq_iff_eq, bne_iff_ne, ne_eq, Bool.not_eq_eq_eq_not, Bool.not_true, Bool.not_false, beq_eq_false_iff_ne, bne_eq_false_iff_eq] at hb) <;> first | refine wSkip 18 ?_ | refine wSkipU 18 ?_ | refine wMv 18 ?_))
      all_goals (first | refine wSkip 19 ?_ | refine wSkipU 19 ?_ | refine wLd 19 ?_ | (refine tr_guard (t := 33) rfl (fun hb => ?_) (fun hb => ?_) <;> (try simp only [decide_eq_true_eq, decide_eq_false_iff_not, Bool.not_eq_true, Bool.not_eq_false, beq_iff_eq, bne_iff_ne, ne_eq, Bool.not_eq_eq_eq_not, Bool.not_true, Bool.not_false, beq_eq_false_iff_ne, bne_eq_false_iff_eq] at hb) <;> first | refine wSkip 19 ?_ | refine wSkipU 19 ?_ | refine wLd 19 ?_))
      all_goals (first | refine wSkip 17 ?_ | refine wSkipU 17 ?_ | (refine rStep (i := 17) ?_; ((try refine qWant ?_); (first | (refine qEf ?_; try intro _)) <;> ((try simp only [List.cons_append, List.nil_append, List.append_eq]); refine tl_nil ?_; refine rNext ?_))))
      all_goals (first | refine wSkip 20 ?_ | refine wSkipU 20 ?_ | (refine rStep (i := 20) ?_; ((try refine qWant ?_); (first | (refine qEf ?_; try intro _)) <;> ((try simp only [List.cons_append, List.nil_append, List.append_eq]); refine tl_nil ?_; refine rNext ?_))))
      all_goals (first | refine wSkip 21 ?_ | refine wSkipU 21 ?_ | (refine rStep (i := 21) ?_; ((try refine qWant ?_); (first | (refine qEf ?_; try intro _)) <;> ((try simp only [List.cons_append, List.nil_append, List.append_eq]); refine tl_nil ?_; refine rNext ?_))))
      all_goals refine rFull ?_
      all_goals (first | refine wSkip 22 ?_ | refine wSkipU 22 ?_ | refine wCm 22 ?_ | (refine tr_guard (t := 33) rfl (fun hb => ?_) (fun hb => ?_) <;> (try simp only [decide_eq_true_eq, decide_eq_false_iff_not, Bool.not_eq_true, Bool.not_eq_false, beq_iff_eq, bne_iff_ne, ne_eq, Bool.not_eq_eq_eq_not, Bool.not_true, Bool.not_false, beq_eq_false_iff_ne, bne_eq_false_iff_eq] at hb) <;> first | refine wSkip 22 ?_ | refine wSkipU 22 ?_ | refine wCm 22 ?_))
      all_goals (first | refine wSkip 23 ?_ | refine wSkipU 23 ?_ | refine wPk 23 ?_ | (refine tr_guard (t := 30) rfl (fun hb => ?_) (fun hb => ?_) <;> (try simp only [decide_eq_true_eq, decide_eq_false_iff_not, Bool.not_eq_true, Bool.not_eq_false, beq_iff_eq, bne_iff_ne, ne_eq, Bool.not_eq_eq_eq_not, Bool.not_true, Bool.not_false, beq_eq_false_iff_ne, bne_eq_false_iff_eq] at hb) <;> first | refine wSkip 23 ?_ | refine wSkipU 23 ?_ | refine wPk 23 ?_))
      all_goals refine rPk 24 ?_
      all_goals refine rAs 25 ?_
      all_goals refine rDone ?_
      repeat' (first | (refine i_op ?_; first | (refine i_qq ?_; refine qQ ?_) | refine qEf ?_) | refine tl_nil ?_ | (refine i_tc ?_; refine qTc ?_) | (refine i_te ?_; refine qTe ?_) | intro _)
      exact qE ⟨rfl, rfl, rfl⟩
    · rw [hok, Bool.true_and] at hs
      cases hx : rowOk l[k]
      · rw [hx, Bool.false_and] at hs
        rw [hfin hs]
        generalize l[k] = x at *
        repeat' (first | (refine i_op ?_; first | (refine i_qq ?_; refine qQ ?_) | refine qEf ?_) | refine tl_nil ?_ | (refine i_tc ?_; refine qTc ?_) | (refine i_te ?_; refine qTe ?_) | intro _)
        refine tc_any (Stays _ _ _) stays_refl ?_
        all_goals refine rMv 0 ?_
        all_goals refine rMv 1 ?_
        all_goals (first | refine wSkip 2 ?_ | refine wSkipU 2 ?_ | refine wMv 2 ?_ | (refine tr_guard (t := 24) rfl (fun hb => ?_) (fun hb => ?_) <;> (try simp only [decide_eq_true_eq, decide_eq_false_iff_not, Bool.not_eq_true, Bool.not_eq_false, beq_iff_eq, bne_iff_ne, ne_eq, Bool.not_eq_eq_eq_not, Bool.not_true, Bool.not_false, beq_eq_false_iff_ne, bne_eq_false_iff_eq] at hb) <;> first | refine wSkip 2 ?_ | refine wSkipU 2 ?_ | refine wMv 2 ?_))
        all_goals (first | refine wSkip 3 ?_ | refine wSkipU 3 ?_ | refine wMv 3 ?_ | (refine tr_guard (t := 24) rfl (fun hb => ?_) (fun hb => ?_) <;> (try simp only [decide_eq_true_eq, decide_eq_false_iff_not, Bool.not_eq_true, Bool.not_eq_false, beq_iff_eq, bne_iff_ne, ne_eq, Bool.not_eq_eq_eq_not, Bool.not_true, Bool.not_false, beq_eq_false_iff_ne, bne_eq_false_iff_eq] at hb) <;> first | refine wSkip 3 ?_ | refine wSkipU 3 ?_ | refine wMv 3 ?_))
        all_goals (first | refine wSkip 4 ?_ | refine wSkipU 4 ?_ | refine wLd 4 ?_ | (refine tr_guard (t := 24) rfl (fun hb => ?_) (fun hb => ?_) <;> (try simp only [decide_eq_true_eq, decide_eq_false_iff_not, Bool.not_eq_true, Bool.not_eq_false, beq_iff_eq, bne_iff_ne, ne_eq, Bool.not_eq_eq_eq_not, Bool.not_true, Bool.not_false, beq_eq_false_iff_ne, bne_eq_false_iff_eq] at hb) <;> first | refine wSkip 4 ?_ | refine wSkipU 4 ?_ | refine wLd 4 ?_))
        all_goals (first | refine wSkip 5 ?_ | refine wSkipU 5 ?_ | (refine rStep (i := 5) ?_; ((try refine qWant ?_); (first | (refine tl_is (.tmp 25) ?_; refine qC rfl rfl (leaf2_spec _ _ _) ?_; rintro v ρ' L' hle ⟨rfl, rfl, rfl⟩ <;> (try simp only [List.cons_append, List.nil_append, List.append_eq, hx])) | (refine tl_is (.tmp 34) ?_; refine qC rfl rfl (leaf1_spec _ _) ?_; rintro v ρ' L' hle ⟨rfl, rfl, rfl⟩ <;> (try simp only [List.cons_append, List.nil_append, List.append_eq])) | (refine tl_is (.tmp 41) ?_; refine qC rfl rfl (leaf1_spec _ _) ?_; rintro v ρ' L' hle ⟨rfl, rfl, rfl⟩ <;> (try simp only [List.cons_append, List.nil_append, List.append_eq])) | (refine qEf ?_; try intro _)) <;> ((try simp only [List.cons_append, List.nil_append, List.append_eq]); refine tl_nil ?_; refine rNext ?_))))
        all_goals refine rPk 6 ?_
        all_goals refine rMv 7 ?_
        all_goals (first | refine wSkip 8 ?_ | refine wSkipU 8 ?_ | refine wMv 8 ?_ | (refine tr_guard (t := 30) rfl (fun hb => ?_) (fun hb => ?_) <;> (try simp only [decide_eq_true_eq, decide_eq_false_iff_not, Bool.not_eq_true, Bool.not_eq_false, beq_iff_eq, bne_iff_ne, ne_eq, Bool.not_eq_eq_eq_not, Bool.not_true, Bool.not_false, beq_eq_false_iff_ne, bne_eq_false_iff_eq] at hb) <;> first | refine wSkip 8 ?_ | refine wSkipU 8 ?_ | refine wMv 8 ?_))
        all_goals (first | refine wSkip 9 ?_ | refine wSkipU 9 ?_ | refine wCm 9 ?_ | (refine tr_guard (t := 30) rfl (fun hb => ?_) (fun hb => ?_) <;> (try simp only [decide_eq_true_eq, decide_eq_false_iff_not, Bool.not_eq_true, Bool.not_eq_false, beq_iff_eq, bne_iff_ne, ne_eq, Bool.not_eq_eq_eq_not, Bool.not_true, Bool.not_false, beq_eq_false_iff_ne, bne_eq_false_iff_eq] at hb) <;> first | refine wSkip 9 ?_ | refine wSkipU 9 ?_ | refine wCm 9 ?_))
        all_goals (first | refine wSkip 10 ?_ | refine wSkipU 10 ?_ | refine wMv 10 ?_ | (refine tr_guard (t := 30) rfl (fun hb => ?_) (fun hb => ?_) <;> (try simp only [decide_eq_true_eq, decide_eq_false_iff_not, Bool.not_eq_true, Bool.not_eq_false, beq_iff_eq, bne_iff_ne, ne_eq, Bool.not_eq_eq_eq_not, Bool.not_true, Bool.not_false, beq_eq_false_iff_ne, bne_eq_false_iff_eq] at hb) <;> first | refine wSkip 10 ?_ | refine wSkipU 10 ?_ | refine wMv 10 ?_))
        all_goals (first | refine wSkip 11 ?_ | refine wSkipU 11 ?_ | refine wMv 11 ?_ | (refine tr_guard (t := 33) rfl (fun hb => ?_) (fun hb => ?_) <;> (try simp only [decide_eq_true_eq, decide_eq_false_iff_not, Bool.not_eq_true, Bool.not_eq_false, beq_iff_eq, bne_iff_ne, ne_eq, Bool.not_eq_eq_eq_not, Bool.not_true, Bool.not_false, beq_eq_false_iff_ne, bne_eq_false_iff_eq] at hb) <;> first | refine wSkip 11 ?_ | refine wSkipU 11 ?_ | refine wMv 11 ?_))
        all_goals (first | refine wSkip 12 ?_ | refine wSkipU 12 ?_ | refine wMv 12 ?_ | (refine tr_guard (t := 33) rfl (fun hb => ?_) (fun hb => ?_) <;> (try simp only [decide_eq_true_eq, decide_eq_false_iff_not, Bool.not_eq_true, Bool.not_eq_false, beq_iff_eq, bne_iff_ne, ne_eq, Bool.not_eq_eq_eq_not, Bool.not_true, Bool.not_false, beq_eq_false_iff_ne, bne_eq_false_iff_eq] at hb) <;> first | refine wSkip 12 ?_ | refine wSkipU 12 ?_ | refine wMv 12 ?_))
        all_goals (first | refine wSkip 13 ?_ | refine wSkipU 13 ?_ | refine wMv 13 ?_ | (refine tr_guard (t := 33) rfl (fun hb => ?_) (fun hb => ?_) <;> (try simp only [decide_eq_true_eq, decide_eq_false_iff_not, Bool.not_eq_true, Bool.not_eq_false, beq_iff_eq, bne_iff_ne, ne_eq, Bool.not_eq_eq_eq_not, Bool.not_true, Bool.not_false, beq_eq_false_iff_ne, bne_eq_false_iff_eq] at hb) <;> first | refine wSkip 13 ?_ | refine wSkipU 13 ?_ | refine wMv 13 ?_))
        all_goals (first | refine wSkip 14 ?_ | refine wSkipU 14 ?_ | refine wSb 14 ?_ | (refine tr_guard (t := 33) rfl (fun hb => ?_) (fun hb => ?_) <;> (try simp only [decide_eq_true_eq, decide_eq_false_iff_not, Bool.not_eq_true, Bool.not_eq_false, beq_iff_eq, bne_iff_ne, ne_eq, Bool.not_eq_eq_eq_not, Bool.not_true, Bool.not_false, beq_eq_false_iff_ne, bne_eq_false_iff_eq] at hb) <;> first | refine wSkip 14 ?_ | refine wSkipU 14 ?_ | refine wSb 14 ?_))
        all_goals (first | refine wSkip 15 ?_ | refine wSkipU 15 ?_ | refine wIa 15 ?_ | (refine tr_guard (t := 33) rfl (fun hb => ?_) (fun hb => ?_) <;> (try simp only [decide_eq_true_eq, decide_eq_false_iff_not, Bool.not_eq_true, Bool.not_eq_false, beq_iff_eq, bne_iff_ne, ne_eq, Bool.not_eq_eq_eq_not, Bool.not_true, Bool.not_false, beq_eq_false_iff_ne, bne_eq_false_iff_eq] at hb) <;> first | refine wSkip 15 ?_ | refine wSkipU 15 ?_ | refine wIa 15 ?_))
        all_goals (first | refine wSkip 16 ?_ | refine wSkipU 16 ?_ | refine wLd 16 ?_ | (refine tr_guard (t := 33) rfl (fun hb => ?_) (fun hb => ?_) <;> (try simp only [decide_eq_true_eq, decide_eq_false_iff_not, Bool.not_eq_true, Bool.not_eq_false, beq_iff_eq, bne_iff_ne, ne_eq, Bool.not_eq_eq_eq_not, Bool.not_true, Bool.not_false, beq_eq_false_iff_ne, bne_eq_false_iff_eq] at hb) <;> first | refine wSkip 16 ?_ | refine wSkipU 16 ?_ | refine wLd 16 ?_))
        all_goals (first | refine wSkip 18 ?_ | refine wSkipU 18 ?_ | refine wMv 18 ?_ | (refine tr_guard (t := 33) rfl (fun hb => ?_) (fun hb => ?_) <;> (try simp only [decide_eq_true_eq, decide_eq_false_iff_not, Bool.not_eq_true, Bool.not_eq_false, beq_iff_eq, bne_iff_ne, ne_eq, Bool.not_eq_eq_eq_not, Bool.not_true, Bool.not_false, beq_eq_false_iff_ne, bne_eq_false_iff_eq] at hb) <;> first | refine wSkip 18 ?_ | refine wSkipU 18 ?_ | refine wMv 18 ?_))
        all_goals (first | refine wSkip 19 ?_ | refine wSkipU 19 ?_ | refine wLd 19 ?_ | (refine tr_guard (t := 33) rfl (fun hb => ?_) (fun hb => ?_) <;> (try simp only [decide_eq_true_eq, decide_eq_false_iff_not, Bool.not_eq_true, Bool.not_eq_false, beq_iff_eq, bne_iff_ne, ne_eq, Bool.not_eq_eq_eq_not, Bool.not_true, Bool.not_false, beq_eq_false_iff_ne, bne_eq_false_iff_eq] at hb) <;> first | refine wSkip 19 ?_ | refine wSkipU 19 ?_ | refine wLd 19 ?_))
        all_goals (first | refine wSkip 17 ?_ | refine wSkipU 17 ?_ | (refine rStep (i := 17) ?_; ((try refine qWant ?_); (first | (refine tl_is (.tmp 25) ?_; refine qC rfl rfl (leaf2_spec _ _ _) ?_; rintro v ρ' L' hle ⟨rfl, rfl, rfl⟩ <;> (try simp only [List.cons_append, List.nil_append, List.append_eq, hx])) | (refine tl_is (.tmp 34) ?_; refine qC rfl rfl (leaf1_spec _ _) ?_; rintro v ρ' L' hle ⟨rfl, rfl, rfl⟩ <;> (try simp only [List.cons_append, List.nil_append, List.append_eq])) | (refine tl_is (.tmp 41) ?_; refine qC rfl rfl (leaf1_spec _ _) ?_; rintro v ρ' L' hle ⟨rfl, rfl, rfl⟩ <;> (try simp only [List.cons_append, List.nil_append, List.append_eq])) | (refine qEf ?_; try intro _)) <;> ((try simp only [List.cons_append, List.nil_append, List.append_eq]); refine tl_nil ?_; refine rNext ?_))))
        all_goals (first | refine wSkip 20 ?_ | refine wSkipU 20 ?_ | (refine rStep (i := 20) ?_; ((try refine qWant ?_); (first | (refine tl_is (.tmp 25) ?_; refine qC rfl rfl (leaf2_spec _ _ _) ?_; rintro v ρ' L' hle ⟨rfl, rfl, rfl⟩ <;> (try simp only [List.cons_append, List.nil_append, List.append_eq, hx])) | (refine tl_is (.tmp 34) ?_; refine qC rfl rfl (leaf1_spec _ _) ?_; rintro v ρ' L' hle ⟨rfl, rfl, rfl⟩ <;> (try simp only [List.cons_append, List.nil_append, List.append_eq])) | (refine tl_is (.tmp 41) ?_; refine qC rfl rfl (leaf1_spec _ _) ?_; rintro v ρ' L' hle ⟨rfl, rfl, rfl⟩ <;> (try simp only [List.cons_append, List.nil_append, List.append_eq])) | (refine qEf ?_; try intro _)) <;> ((try simp only [List.cons_append, List.nil_append, List.append_eq]); refine tl_nil ?_; refine rNext ?_))))
        all_goals (first | refine wSkip 21 ?_ | refine wSkipU 21 ?_ | (refine rStep (i := 21) ?_; ((try refine qWant ?_); (first | (refine tl_is (.func 138) ?_; refine qC rfl rfl (compare_spec _ _ _ _ _) ?_; rintro v ρ' L' hle ⟨rfl, rfl, rfl⟩ <;> (try simp only [List.cons_append, List.nil_append, List.append_eq])) | (refine qEf ?_; try intro _)) <;> ((try simp only [List.cons_append, List.nil_append, List.append_eq]); refine tl_nil ?_; refine rNext ?_))))
        all_goals refine rFull ?_
        all_goals (first | refine wSkip 22 ?_ | refine wSkipU 22 ?_ | refine wCm 22 ?_ | (refine tr_guard (t := 33) rfl (fun hb => ?_) (fun hb => ?_) <;> (try simp only [decide_eq_true_eq, decide_eq_false_iff_not, Bool.not_eq_true, Bool.not_eq_false, beq_iff_eq, bne_iff_ne, ne_eq, Bool.not_eq_eq_eq_not, Bool.not_true, Bool.not_false, beq_eq_false_iff_ne, bne_eq_false_iff_eq] at hb) <;> first | refine wSkip 22 ?_ | refine wSkipU 22 ?_ | refine wCm 22 ?_))
        all_goals (first | refine wSkip 23 ?_ | refine wSkipU 23 ?_ | refine wPk 23 ?_ | (refine tr_guard (t := 30) rfl (fun hb => ?_) (fun hb => ?_) <;> (try simp only [decide_eq_true_eq, decide_eq_false_iff_not, Bool.not_eq_true, Bool.not_eq_false, beq_iff_eq, bne_iff_ne, ne_eq, Bool.not_eq_eq_eq_not, Bool.not_true, Bool.not_false, beq_eq_false_iff_ne, bne_eq_false_iff_eq] at hb) <;> first | refine wSkip 23 ?_ | refine wSkipU 23 ?_ | refine wPk 23 ?_))
        all_goals refine rPk 24 ?_
        all_goals refine rAs 25 ?_
        all_goals refine rDone ?_
        repeat' (first | (refine i_op ?_; first | (refine i_qq ?_; refine qQ ?_) | refine qEf ?_) | refine tl_nil ?_ | (refine i_tc ?_; refine qTc ?_) | (refine i_te ?_; refine qTe ?_) | intro _)
        exact qE ⟨rfl, rfl, rfl⟩
      · rw [hx, Bool.true_and] at hs
        by_cases hk0 : k = 0
        · have hs' : risesB 4 (fun _ r => rowOk r) ltR l (k + 1) = true := by rw [hs]; simp [hk0]
          generalize l[k] = x at *
          repeat' (first | (refine i_op ?_; first | (refine i_qq ?_; refine qQ ?_) | refine qEf ?_) | refine tl_nil ?_ | (refine i_tc ?_; refine qTc ?_) | (refine i_te ?_; refine qTe ?_) | intro _)
          refine tc_any (Stays _ _ _) stays_refl ?_
          all_goals refine rMv 0 ?_
          all_goals refine rMv 1 ?_
          all_goals (first | refine wSkip 2 ?_ | refine wSkipU 2 ?_ | refine wMv 2 ?_ | (refine tr_guard (t := 24) rfl (fun hb => ?_) (fun hb => ?_) <;> (try simp only [decide_eq_true_eq, decide_eq_false_iff_not, Bool.not_eq_true, Bool.not_eq_false, beq_iff_eq, bne_iff_ne, ne_eq, Bool.not_eq_eq_eq_not, Bool.not_true, Bool.not_false, beq_eq_false_iff_ne, bne_eq_false_iff_eq] at hb) <;> first | refine wSkip 2 ?_ | refine wSkipU 2 ?_ | refine wMv 2 ?_))
          all_goals (first | refine wSkip 3 ?_ | refine wSkipU 3 ?_ | refine wMv 3 ?_ | (refine tr_guard (t := 24) rfl (fun hb => ?_) (fun hb => ?_) <;> (try simp only [decide_eq_true_eq, decide_eq_false_iff_not, Bool.not_eq_true, Bool.not_eq_false, beq_iff_eq, bne_iff_ne, ne_eq, Bool.not_eq_eq_eq_not, Bool.not_true, Bool.not_false, beq_eq_false_iff_ne, bne_eq_false_iff_eq] at hb) <;> first | refine wSkip 3 ?_ | refine wSkipU 3 ?_ | refine wMv 3 ?_))
          all_goals (first | refine wSkip 4 ?_ | refine wSkipU 4 ?_ | refine wLd 4 ?_ | (refine tr_guard (t := 24) rfl (fun hb => ?_) (fun hb => ?_) <;> (try simp only [decide_eq_true_eq, decide_eq_false_iff_not, Bool.not_eq_true, Bool.not_eq_false, beq_iff_eq, bne_iff_ne, ne_eq, Bool.not_eq_eq_eq_not, Bool.not_true, Bool.not_false, beq_eq_false_iff_ne, bne_eq_false_iff_eq] at hb) <;> first | refine wSkip 4 ?_ | refine wSkipU 4 ?_ | refine wLd 4 ?_))
          all_goals (first | refine wSkip 5 ?_ | refine wSkipU 5 ?_ | (refine rStep (i := 5) ?_; ((try refine qWant ?_); (first | (refine tl_is (.tmp 25) ?_; refine qC rfl rfl (leaf2_spec _ _ _) ?_; rintro v ρ' L' hle ⟨rfl, rfl, rfl⟩ <;> (try simp only [List.cons_append, List.nil_append, List.append_eq, hx])) | (refine tl_is (.tmp 34) ?_; refine qC rfl rfl (leaf1_spec _ _) ?_; rintro v ρ' L' hle ⟨rfl, rfl, rfl⟩ <;> (try simp only [List.cons_append, List.nil_append, List.append_eq])) | (refine tl_is (.tmp 41) ?_; refine qC rfl rfl (leaf1_spec _ _) ?_; rintro v ρ' L' hle ⟨rfl, rfl, rfl⟩ <;> (try simp only [List.cons_append, List.nil_append, List.append_eq])) | (refine qEf ?_; try intro _)) <;> ((try simp only [List.cons_append, List.nil_append, List.append_eq]); refine tl_nil ?_; refine rNext ?_))))
          all_goals refine rPk 6 ?_
          all_goals refine rMv 7 ?_
          all_goals (first | refine wSkip 8 ?_ | refine wSkipU 8 ?_ | refine wMv 8 ?_ | (refine tr_guard (t := 30) rfl (fun hb => ?_) (fun hb => ?_) <;> (try simp only [decide_eq_true_eq, decide_eq_false_iff_not, Bool.not_eq_true, Bool.not_eq_false, beq_iff_eq, bne_iff_ne, ne_eq, Bool.not_eq_eq_eq_not, Bool.not_true, Bool.not_false, beq_eq_false_iff_ne, bne_eq_false_iff_eq] at hb) <;> first | refine wSkip 8 ?_ | refine wSkipU 8 ?_ | refine wMv 8 ?_))
          all_goals (first | refine wSkip 9 ?_ | refine wSkipU 9 ?_ | refine wCm 9 ?_ | (refine tr_guard (t := 30) rfl (fun hb => ?_) (fun hb => ?_) <;> (try simp only [decide_eq_true_eq, decide_eq_false_iff_not, Bool.not_eq_true, Bool.not_eq_false, beq_iff_eq, bne_iff_ne, ne_eq, Bool.not_eq_eq_eq_not, Bool.not_true, Bool.not_false, beq_eq_false_iff_ne, bne_eq_false_iff_eq] at hb) <;> first | refine wSkip 9 ?_ | refine wSkipU 9 ?_ | refine wCm 9 ?_))
          all_goals (first | refine wSkip 10 ?_ | refine wSkipU 10 ?_ | refine wMv 10 ?_ | (refine tr_guard (t := 30) rfl (fun hb => ?_) (fun hb => ?_) <;> (try simp only [decide_eq_true_eq, decide_eq_false_iff_not, Bool.not_eq_true, Bool.not_eq_false, beq_iff_eq, bne_iff_ne, ne_eq, Bool.not_eq_eq_eq_not, Bool.not_true, Bool.not_false, beq_eq_false_iff_ne, bne_eq_false_iff_eq] at hb) <;> first | refine wSkip 10 ?_ | refine wSkipU 10 ?_ | refine wMv 10 ?_))
          all_goals (first | refine wSkip 11 ?_ | refine wSkipU 11 ?_ | refine wMv 11 ?_ | (refine tr_guard (t := 33) rfl (fun hb => ?_) (fun hb => ?_) <;> (try simp only [decide_eq_true_eq, decide_eq_false_iff_not, Bool.not_eq_true, Bool.not_eq_false, beq_iff_eq, bne_iff_ne, ne_eq, Bool.not_eq_eq_eq_not, Bool.not_true, Bool.not_false, beq_eq_false_iff_ne, bne_eq_false_iff_eq] at hb) <;> first | refine wSkip 11 ?_ | refine wSkipU 11 ?_ | refine wMv 11 ?_))
          all_goals (first | refine wSkip 12 ?_ | refine wSkipU 12 ?_ | refine wMv 12 ?_ | (refine tr_guard (t := 33) rfl (fun hb => ?_) (fun hb => ?_) <;> (try simp only [decide_eq_true_eq, decide_eq_false_iff_not, Bool.not_eq_true, Bool.not_eq_false, beq_iff_eq, bne_iff_ne, ne_eq, Bool.not_eq_eq_eq_not, Bool.not_true, Bool.not_false, beq_eq_false_iff_ne, bne_eq_false_iff_eq] at hb) <;> first | refine wSkip 12 ?_ | refine wSkipU 12 ?_ | refine wMv 12 ?_))
          all_goals (first | refine wSkip 13 ?_ | refine wSkipU 13 ?_ | refine wMv 13 ?_ | (refine tr_guard (t := 33) rfl (fun hb => ?_) (fun hb => ?_) <;> (try simp only [decide_eq_true_eq, decide_eq_false_iff_not, Bool.not_eq_true, Bool.not_eq_false, beq_iff_eq, bne_iff_ne, ne_eq, Bool.not_eq_eq_eq_not, Bool.not_true, Bool.not_false, beq_eq_false_iff_ne, bne_eq_false_iff_eq] at hb) <;> first | refine wSkip 13 ?_ | refine wSkipU 13 ?_ | refine wMv 13 ?_))
          all_goals (first | refine wSkip 14 ?_ | refine wSkipU 14 ?_ | refine wSb 14 ?_ | (refine tr_guard (t := 33) rfl (fun hb => ?_) (fun hb => ?_) <;> (try simp only [decide_eq_true_eq, decide_eq_false_iff_not, Bool.not_eq_true, Bool.not_eq_false, beq_iff_eq, bne_iff_ne, ne_eq, Bool.not_eq_eq_eq_not, Bool.not_true, Bool.not_false, beq_eq_false_iff_ne, bne_eq_false_iff_eq] at hb) <;> first | refine wSkip 14 ?_ | refine wSkipU 14 ?_ | refine wSb 14 ?_))
          all_goals (first | refine wSkip 15 ?_ | refine wSkipU 15 ?_ | refine wIa 15 ?_ | (refine tr_guard (t := 33) rfl (fun hb => ?_) (fun hb => ?_) <;> (try simp only [decide_eq_true_eq, decide_eq_false_iff_not, Bool.not_eq_true, Bool.not_eq_false, beq_iff_eq, bne_iff_ne, ne_eq, Bool.not_eq_eq_eq_not, Bool.not_true, Bool.not_false, beq_eq_false_iff_ne, bne_eq_false_iff_eq] at hb) <;> first | refine wSkip 15 ?_ | refine wSkipU 15 ?_ | refine wIa 15 ?_))
          all_goals (first | refine wSkip 16 ?_ | refine wSkipU 16 ?_ | refine wLd 16 ?_ | (refine tr_guard (t := 33) rfl (fun hb => ?_) (fun hb => ?_) <;> (try simp only [decide_eq_true_eq, decide_eq_false_iff_not, Bool.not_eq_true, Bool.not_eq_false, beq_iff_eq, bne_iff_ne, ne_eq, Bool.not_eq_eq_eq_not, Bool.not_true, Bool.not_false, beq_eq_false_iff_ne, bne_eq_false_iff_eq] at hb) <;> first | refine wSkip 16 ?_ | refine wSkipU 16 ?_ | refine wLd 16 ?_))
          all_goals (first | refine wSkip 18 ?_ | refine wSkipU 18 ?_ | refine wMv 18 ?_ | (refine tr_guard (t := 33) rfl (fun hb => ?_) (fun hb => ?_) <;> (try simp only [decide_eq_true_eq, decide_eq_false_iff_not, Bool.not_eq_true, Bool.not_eq_false, beq_iff_eq, bne_iff_ne, ne_eq, Bool.not_eq_eq_eq_not, Bool.not_true, Bool.not_false, beq_eq_false_iff_ne, bne_eq_false_iff_eq] at hb) <;> first | refine wSkip 18 ?_ | refine wSkipU 18 ?_ | refine wMv 18 ?_))
          all_goals (first | refine wSkip 19 ?_ | refine wSkipU 19 ?_ | refine wLd 19 ?_ | (refine tr_guard (t := 33) rfl (fun hb => ?_) (fun hb => ?_) <;> (try simp only [decide_eq_true_eq, decide_eq_false_iff_not, Bool.not_eq_true, Bool.not_eq_false, beq_iff_eq, bne_iff_ne, ne_eq, Bool.not_eq_eq_eq_not, Bool.not_true, Bool.not_false, beq_eq_false_iff_ne, bne_eq_false_iff_eq] at hb) <;> first | refine wSkip 19 ?_ | refine wSkipU 19 ?_ | refine wLd 19 ?_))
          all_goals (first | refine wSkip 17 ?_ | refine wSkipU 17 ?_ | (refine rStep (i := 17) ?_; ((try refine qWant ?_); (first | (refine tl_is (.tmp 25) ?_; refine qC rfl rfl (leaf2_spec _ _ _) ?_; rintro v ρ' L' hle ⟨rfl, rfl, rfl⟩ <;> (try simp only [List.cons_append, List.nil_append, List.append_eq, hx])) | (refine tl_is (.tmp 34) ?_; refine qC rfl rfl (leaf1_spec _ _) ?_; rintro v ρ' L' hle ⟨rfl, rfl, rfl⟩ <;> (try simp only [List.cons_append, List.nil_append, List.append_eq])) | (refine tl_is (.tmp 41) ?_; refine qC rfl rfl (leaf1_spec _ _) ?_; rintro v ρ' L' hle ⟨rfl, rfl, rfl⟩ <;> (try simp only [List.cons_append, List.nil_append, List.append_eq])) | (refine qEf ?_; try intro _)) <;> ((try simp only [List.cons_append, List.nil_append, List.append_eq]); refine tl_nil ?_; refine rNext ?_))))
          all_goals (first | refine wSkip 20 ?_ | refine wSkipU 20 ?_ | (refine rStep (i := 20) ?_; ((try refine qWant ?_); (first | (refine tl_is (.tmp 25) ?_; refine qC rfl rfl (leaf2_spec _ _ _) ?_; rintro v ρ' L' hle ⟨rfl, rfl, rfl⟩ <;> (try simp only [List.cons_append, List.nil_append, List.append_eq, hx])) | (refine tl_is (.tmp 34) ?_; refine qC rfl rfl (leaf1_spec _ _) ?_; rintro v ρ' L' hle ⟨rfl, rfl, rfl⟩ <;> (try simp only [List.cons_append, List.nil_append, List.append_eq])) | (refine tl_is (.tmp 41) ?_; refine qC rfl rfl (leaf1_spec _ _) ?_; rintro v ρ' L' hle ⟨rfl, rfl, rfl⟩ <;> (try simp only [List.cons_append, List.nil_append, List.append_eq])) | (refine qEf ?_; try intro _)) <;> ((try simp only [List.cons_append, List.nil_append, List.append_eq]); refine tl_nil ?_; refine rNext ?_))))
          all_goals (first | refine wSkip 21 ?_ | refine wSkipU 21 ?_ | (refine rStep (i := 21) ?_; ((try refine qWant ?_); (first | (refine tl_is (.func 138) ?_; refine qC rfl rfl (compare_spec _ _ _ _ _) ?_; rintro v ρ' L' hle ⟨rfl, rfl, rfl⟩ <;> (try simp only [List.cons_append, List.nil_append, List.append_eq])) | (refine qEf ?_; try intro _)) <;> ((try simp only [List.cons_append, List.nil_append, List.append_eq]); refine tl_nil ?_; refine rNext ?_))))
          all_goals refine rFull ?_
          all_goals (first | refine wSkip 22 ?_ | refine wSkipU 22 ?_ | refine wCm 22 ?_ | (refine tr_guard (t := 33) rfl (fun hb => ?_) (fun hb => ?_) <;> (try simp only [decide_eq_true_eq, decide_eq_false_iff_not, Bool.not_eq_true, Bool.not_eq_false, beq_iff_eq, bne_iff_ne, ne_eq, Bool.not_eq_eq_eq_not, Bool.not_true, Bool.not_false, beq_eq_false_iff_ne, bne_eq_false_iff_eq] at hb) <;> first | refine wSkip 22 ?_ | refine wSkipU 22 ?_ | refine wCm 22 ?_))
          all_goals (first | refine wSkip 23 ?_ | refine wSkipU 23 ?_ | refine wPk 23 ?_ | (refine tr_guard (t := 30) rfl (fun hb => ?_) (fun hb => ?_) <;> (try simp only [decide_eq_true_eq, decide_eq_false_iff_not, Bool.not_eq_true, Bool.not_eq_false, beq_iff_eq, bne_iff_ne, ne_eq, Bool.not_eq_eq_eq_not, Bool.not_true, Bool.not_false, beq_eq_false_iff_ne, bne_eq_false_iff_eq] at hb) <;> first | refine wSkip 23 ?_ | refine wSkipU 23 ?_ | refine wPk 23 ?_))
          all_goals refine rPk 24 ?_
          all_goals refine rAs 25 ?_
          all_goals refine rDone ?_
          repeat' (first | (refine i_op ?_; first | (refine i_qq ?_; refine qQ ?_) | refine qEf ?_) | refine tl_nil ?_ | (refine i_tc ?_; refine qTc ?_) | (refine i_te ?_; refine qTe ?_) | intro _)
          rw [← hs']
          refine te_round_g (k + 1) (hlt) ev_le ev_le rfl tk inferInstance (by first | omega | (dsimp only; omega))
        · have hd : decide (k = 0) = false := decide_eq_false hk0
          obtain ⟨b2, off2, C2, T2, fr2, f1, hb2, hfit2, hc2⟩ := h.get (show k - 1 < l.length by omega)
          cases f1
          rw [hb] at hb2
          cases hb2
          have ek : ((k : Int) - 1).toNat = k - 1 := by omega
          rw [← ek] at hfit2
          have hc3 : List.take 4 (List.drop (off + ((k : Int) - 1).toNat * 4) C) = rowV (l[k - 1]'(by omega)) := by rw [ek]; exact hc2
          clear hc2
          rw [hd, Bool.false_or] at hs
          generalize l[k] = x at *
          generalize l[k - 1]'(by omega) = y at *
          unfold ltR at hs
          by_cases hcm : cmpK y.t y.id x.t x.id < 0
          · rw [decide_eq_true hcm] at hs
            repeat' (first | (refine i_op ?_; first | (refine i_qq ?_; refine qQ ?_) | refine qEf ?_) | refine tl_nil ?_ | (refine i_tc ?_; refine qTc ?_) | (refine i_te ?_; refine qTe ?_) | intro _)
            refine tc_any (Stays _ _ _) stays_refl ?_
            all_goals refine rMv 0 ?_
            all_goals refine rMv 1 ?_
            all_goals (first | refine wSkip 2 ?_ | refine wSkipU 2 ?_ | refine wMv 2 ?_ | (refine tr_guard (t := 24) rfl (fun hb => ?_) (fun hb => ?_) <;> (try simp only [decide_eq_true_eq, decide_eq_false_iff_not, Bool.not_eq_true, Bool.not_eq_false, beq_iff_eq, bne_iff_ne, ne_eq, Bool.not_eq_eq_eq_not, Bool.not_true, Bool.not_false, beq_eq_false_iff_ne, bne_eq_false_iff_eq] at hb) <;> first | refine wSkip 2 ?_ | refine wSkipU 2 ?_ | refine wMv 2 ?_))
            all_goals (first | refine wSkip 3 ?_ | refine wSkipU 3 ?_ | refine wMv 3 ?_ | (refine tr_guard (t := 24) rfl (fun hb => ?_) (fun hb => ?_) <;> (try simp only [decide_eq_true_eq, decide_eq_false_iff_not, Bool.not_eq_true, Bool.not_eq_false, beq_iff_eq, bne_iff_ne, ne_eq, Bool.not_eq_eq_eq_not, Bool.not_true, Bool.not_false, beq_eq_false_iff_ne, bne_eq_false_iff_eq] at hb) <;> first | refine wSkip 3 ?_ | refine wSkipU 3 ?_ | refine wMv 3 ?_))
            all_goals (first | refine wSkip 4 ?_ | refine wSkipU 4 ?_ | refine wLd 4 ?_ | (refine tr_guard (t := 24) rfl (fun hb => ?_) (fun hb => ?_) <;> (try simp only [decide_eq_true_eq, decide_eq_false_iff_not, Bool.not_eq_true, Bool.not_eq_false, beq_iff_eq, bne_iff_ne, ne_eq, Bool.not_eq_eq_eq_not, Bool.not_true, Bool.not_false, beq_eq_false_iff_ne, bne_eq_false_iff_eq] at hb) <;> first | refine wSkip 4 ?_ | refine wSkipU 4 ?_ | refine wLd 4 ?_))
            all_goals (first | refine wSkip 5 ?_ | refine wSkipU 5 ?_ | (refine rStep (i := 5) ?_; ((try refine qWant ?_); (first | (refine tl_is (.tmp 25) ?_; refine qC rfl rfl (leaf2_spec _ _ _) ?_; rintro v ρ' L' hle ⟨rfl, rfl, rfl⟩ <;> (try simp only [List.cons_append, List.nil_append, List.append_eq, hx])) | (refine tl_is (.tmp 34) ?_; refine qC rfl rfl (leaf1_spec _ _) ?_; rintro v ρ' L' hle ⟨rfl, rfl, rfl⟩ <;> (try simp only [List.cons_append, List.nil_append, List.append_eq])) | (refine tl_is (.tmp 41) ?_; refine qC rfl rfl (leaf1_spec _ _) ?_; rintro v ρ' L' hle ⟨rfl, rfl, rfl⟩ <;> (try simp only [List.cons_append, List.nil_append, List.append_eq])) | (refine qEf ?_; try intro _)) <;> ((try simp only [List.cons_append, List.nil_append, List.append_eq]); refine tl_nil ?_; refine rNext ?_))))
            all_goals refine rPk 6 ?_
            all_goals refine rMv 7 ?_
            all_goals (first | refine wSkip 8 ?_ | refine wSkipU 8 ?_ | refine wMv 8 ?_ | (refine tr_guard (t := 30) rfl (fun hb => ?_) (fun hb => ?_) <;> (try simp only [decide_eq_true_eq, decide_eq_false_iff_not, Bool.not_eq_true, Bool.not_eq_false, beq_iff_eq, bne_iff_ne, ne_eq, Bool.not_eq_eq_eq_not, Bool.not_true, Bool.not_false, beq_eq_false_iff_ne, bne_eq_false_iff_eq] at hb) <;> first | refine wSkip 8 ?_ | refine wSkipU 8 ?_ | refine wMv 8 ?_))
            all_goals (first | refine wSkip 9 ?_ | refine wSkipU 9 ?_ | refine wCm 9 ?_ | (refine tr_guard (t := 30) rfl (fun hb => ?_) (fun hb => ?_) <;> (try simp only [decide_eq_true_eq, decide_eq_false_iff_not, Bool.not_eq_true, Bool.not_eq_false, beq_iff_eq, bne_iff_ne, ne_eq, Bool.not_eq_eq_eq_not, Bool.not_true, Bool.not_false, beq_eq_false_iff_ne, bne_eq_false_iff_eq] at hb) <;> first | refine wSkip 9 ?_ | refine wSkipU 9 ?_ | refine wCm 9 ?_))
            all_goals (first | refine wSkip 10 ?_ | refine wSkipU 10 ?_ | refine wMv 10 ?_ | (refine tr_guard (t := 30) rfl (fun hb => ?_) (fun hb => ?_) <;> (try simp only [decide_eq_true_eq, decide_eq_false_iff_not, Bool.not_eq_true, Bool.not_eq_false, beq_iff_eq, bne_iff_ne, ne_eq, Bool.not_eq_eq_eq_not, Bool.not_true, Bool.not_false, beq_eq_false_iff_ne, bne_eq_false_iff_eq] at hb) <;> first | refine wSkip 10 ?_ | refine wSkipU 10 ?_ | refine wMv 10 ?_))
            all_goals (first | refine wSkip 11 ?_ | refine wSkipU 11 ?_ | refine wMv 11 ?_ | (refine tr_guard (t := 33) rfl (fun hb => ?_) (fun hb => ?_) <;> (try simp only [decide_eq_true_eq, decide_eq_false_iff_not, Bool.not_eq_true, Bool.not_eq_false, beq_iff_eq, bne_iff_ne, ne_eq, Bool.not_eq_eq_eq_not, Bool.not_true, Bool.not_false, beq_eq_false_iff_ne, bne_eq_false_iff_eq] at hb) <;> first | refine wSkip 11 ?_ | refine wSkipU 11 ?_ | refine wMv 11 ?_))
            all_goals (first | refine wSkip 12 ?_ | refine wSkipU 12 ?_ | refine wMv 12 ?_ | (refine tr_guard (t := 33) rfl (fun hb => ?_) (fun hb => ?_) <;> (try simp only [decide_eq_true_eq, decide_eq_false_iff_not, Bool.not_eq_true, Bool.not_eq_false, beq_iff_eq, bne_iff_ne, ne_eq, Bool.not_eq_eq_eq_not, Bool.not_true, Bool.not_false, beq_eq_false_iff_ne, bne_eq_false_iff_eq] at hb) <;> first | refine wSkip 12 ?_ | refine wSkipU 12 ?_ | refine wMv 12 ?_))
            all_goals (first | refine wSkip 13 ?_ | refine wSkipU 13 ?_ | refine wMv 13 ?_ | (refine tr_guard (t := 33) rfl (fun hb => ?_) (fun hb => ?_) <;> (try simp only [decide_eq_true_eq, decide_eq_false_iff_not, Bool.not_eq_true, Bool.not_eq_false, beq_iff_eq, bne_iff_ne, ne_eq, Bool.not_eq_eq_eq_not, Bool.not_true, Bool.not_false, beq_eq_false_iff_ne, bne_eq_false_iff_eq] at hb) <;> first | refine wSkip 13 ?_ | refine wSkipU 13 ?_ | refine wMv 13 ?_))
            all_goals (first | refine wSkip 14 ?_ | refine wSkipU 14 ?_ | refine wSb 14 ?_ | (refine tr_guard (t := 33) rfl (fun hb => ?_) (fun hb => ?_) <;> (try simp only [decide_eq_true_eq, decide_eq_false_iff_not, Bool.not_eq_true, Bool.not_eq_false, beq_iff_eq, bne_iff_ne, ne_eq, Bool.not_eq_eq_eq_not, Bool.not_true, Bool.not_false, beq_eq_false_iff_ne, bne_eq_false_iff_eq] at hb) <;> first | refine wSkip 14 ?_ | refine wSkipU 14 ?_ | refine wSb 14 ?_))
            all_goals (first | refine wSkip 15 ?_ | refine wSkipU 15 ?_ | refine wIa 15 ?_ | (refine tr_guard (t := 33) rfl (fun hb => ?_) (fun hb => ?_) <;> (try simp only [decide_eq_true_eq, decide_eq_false_iff_not, Bool.not_eq_true, Bool.not_eq_false, beq_iff_eq, bne_iff_ne, ne_eq, Bool.not_eq_eq_eq_not, Bool.not_true, Bool.not_false, beq_eq_false_iff_ne, bne_eq_false_iff_eq] at hb) <;> first | refine wSkip 15 ?_ | refine wSkipU 15 ?_ | refine wIa 15 ?_))
            all_goals (first | refine wSkip 16 ?_ | refine wSkipU 16 ?_ | refine wLd 16 ?_ | (refine tr_guard (t := 33) rfl (fun hb => ?_) (fun hb => ?_) <;> (try simp only [decide_eq_true_eq, decide_eq_false_iff_not, Bool.not_eq_true, Bool.not_eq_false, beq_iff_eq, bne_iff_ne, ne_eq, Bool.not_eq_eq_eq_not, Bool.not_true, Bool.not_false, beq_eq_false_iff_ne, bne_eq_false_iff_eq] at hb) <;> first | refine wSkip 16 ?_ | refine wSkipU 16 ?_ | refine wLd 16 ?_))
            all_goals (first | refine wSkip 18 ?_ | refine wSkipU 18 ?_ | refine wMv 18 ?_ | (refine tr_guard (t := 33) rfl (fun hb => ?_) (fun hb => ?_) <;> (try simp only [decide_eq_true_eq, decide_eq_false_iff_not, Bool.not_eq_true, Bool.not_eq_false, beq_iff_eq, bne_iff_ne, ne_eq, Bool.not_eq_eq_eq_not, Bool.not_true, Bool.not_false, beq_eq_false_iff_ne, bne_eq_false_iff_eq] at hb) <;> first | refine wSkip 18 ?_ | refine wSkipU 18 ?_ | refine wMv 18 ?_))
            all_goals (first | refine wSkip 19 ?_ | refine wSkipU 19 ?_ | refine wLd 19 ?_ | (refine tr_guard (t := 33) rfl (fun hb => ?_) (fun hb => ?_) <;> (try simp only [decide_eq_true_eq, decide_eq_false_iff_not, Bool.not_eq_true, Bool.not_eq_false, beq_iff_eq, bne_iff_ne, ne_eq, Bool.not_eq_eq_eq_not, Bool.not_true, Bool.not_false, beq_eq_false_iff_ne, bne_eq_false_iff_eq] at hb) <;> first | refine wSkip 19 ?_ | refine wSkipU 19 ?_ | refine wLd 19 ?_))
            all_goals (first | refine wSkip 17 ?_ | refine wSkipU 17 ?_ | (refine rStep (i := 17) ?_; ((try refine qWant ?_); (first | (refine tl_is (.tmp 25) ?_; refine qC rfl rfl (leaf2_spec _ _ _) ?_; rintro v ρ' L' hle ⟨rfl, rfl, rfl⟩ <;> (try simp only [List.cons_append, List.nil_append, List.append_eq, hx])) | (refine tl_is (.tmp 34) ?_; refine qC rfl rfl (leaf1_spec _ _) ?_; rintro v ρ' L' hle ⟨rfl, rfl, rfl⟩ <;> (try simp only [List.cons_append, List.nil_append, List.append_eq])) | (refine tl_is (.tmp 41) ?_; refine qC rfl rfl (leaf1_spec _ _) ?_; rintro v ρ' L' hle ⟨rfl, rfl, rfl⟩ <;> (try simp only [List.cons_append, List.nil_append, List.append_eq])) | (refine qEf ?_; try intro _)) <;> ((try simp only [List.cons_append, List.nil_append, List.append_eq]); refine tl_nil ?_; refine rNext ?_))))
            all_goals (first | refine wSkip 20 ?_ | refine wSkipU 20 ?_ | (refine rStep (i := 20) ?_; ((try refine qWant ?_); (first | (refine tl_is (.tmp 25) ?_; refine qC rfl rfl (leaf2_spec _ _ _) ?_; rintro v ρ' L' hle ⟨rfl, rfl, rfl⟩ <;> (try simp only [List.cons_append, List.nil_append, List.append_eq, hx])) | (refine tl_is (.tmp 34) ?_; refine qC rfl rfl (leaf1_spec _ _) ?_; rintro v ρ' L' hle ⟨rfl, rfl, rfl⟩ <;> (try simp only [List.cons_append, List.nil_append, List.append_eq])) | (refine tl_is (.tmp 41) ?_; refine qC rfl rfl (leaf1_spec _ _) ?_; rintro v ρ' L' hle ⟨rfl, rfl, rfl⟩ <;> (try simp only [List.cons_append, List.nil_append, List.append_eq])) | (refine qEf ?_; try intro _)) <;> ((try simp only [List.cons_append, List.nil_append, List.append_eq]); refine tl_nil ?_; refine rNext ?_))))
            all_goals (first | refine wSkip 21 ?_ | refine wSkipU 21 ?_ | (refine rStep (i := 21) ?_; ((try refine qWant ?_); (first | (refine tl_is (.func 138) ?_; refine qC rfl rfl (compare_spec _ _ _ _ _) ?_; rintro v ρ' L' hle ⟨rfl, rfl, rfl⟩ <;> (try simp only [List.cons_append, List.nil_append, List.append_eq])) | (refine qEf ?_; try intro _)) <;> ((try simp only [List.cons_append, List.nil_append, List.append_eq]); refine tl_nil ?_; refine rNext ?_))))
            all_goals refine rFull ?_
            all_goals (first | refine wSkip 22 ?_ | refine wSkipU 22 ?_ | refine wCm 22 ?_ | (refine tr_guard (t := 33) rfl (fun hb => ?_) (fun hb => ?_) <;> (try simp only [decide_eq_true_eq, decide_eq_false_iff_not, Bool.not_eq_true, Bool.not_eq_false, beq_iff_eq, bne_iff_ne, ne_eq, Bool.not_eq_eq_eq_not, Bool.not_true, Bool.not_false, beq_eq_false_iff_ne, bne_eq_false_iff_eq] at hb) <;> first | refine wSkip 22 ?_ | refine wSkipU 22 ?_ | refine wCm 22 ?_))
            all_goals (first | refine wSkip 23 ?_ | refine wSkipU 23 ?_ | refine wPk 23 ?_ | (refine tr_guard (t := 30) rfl (fun hb => ?_) (fun hb => ?_) <;> (try simp only [decide_eq_true_eq, decide_eq_false_iff_not, Bool.not_eq_true, Bool.not_eq_false, beq_iff_eq, bne_iff_ne, ne_eq, Bool.not_eq_eq_eq_not, Bool.not_true, Bool.not_false, beq_eq_false_iff_ne, bne_eq_false_iff_eq] at hb) <;> first | refine wSkip 23 ?_ | refine wSkipU 23 ?_ | refine wPk 23 ?_))
            all_goals refine rPk 24 ?_
            all_goals refine rAs 25 ?_
            all_goals refine rDone ?_
            all_goals (repeat' (first | (refine i_op ?_; first | (refine i_qq ?_; refine qQ ?_) | refine qEf ?_) | refine tl_nil ?_ | (refine i_tc ?_; refine qTc ?_) | (refine i_te ?_; refine qTe ?_) | intro _))
            all_goals rw [← hs]
            all_goals refine te_round_g (k + 1) (hlt) ev_le ev_le rfl tk inferInstance (by first | omega | (dsimp only; omega))
          · rw [decide_eq_false hcm] at hs
            rw [hfin hs]
            repeat' (first | (refine i_op ?_; first | (refine i_qq ?_; refine qQ ?_) | refine qEf ?_) | refine tl_nil ?_ | (refine i_tc ?_; refine qTc ?_) | (refine i_te ?_; refine qTe ?_) | intro _)
            refine tc_any (Stays _ _ _) stays_refl ?_
            all_goals refine rMv 0 ?_
            all_goals refine rMv 1 ?_
            all_goals (first | refine wSkip 2 ?_ | refine wSkipU 2 ?_ | refine wMv 2 ?_ | (refine tr_guard (t := 24) rfl (fun hb => ?_) (fun hb => ?_) <;> (try simp only [decide_eq_true_eq, decide_eq_false_iff_not, Bool.not_eq_true, Bool.not_eq_false, beq_iff_eq, bne_iff_ne, ne_eq, Bool.not_eq_eq_eq_not, Bool.not_true, Bool.not_false, beq_eq_false_iff_ne, bne_eq_false_iff_eq] at hb) <;> first | refine wSkip 2 ?_ | refine wSkipU 2 ?_ | refine wMv 2 ?_))
            all_goals (first | refine wSkip 3 ?_ | refine wSkipU 3 ?_ | refine wMv 3 ?_ | (refine tr_guard (t := 24) rfl (fun hb => ?_) (fun hb => ?_) <;> (try simp only [decide_eq_true_eq, decide_eq_false_iff_not, Bool.not_eq_true, Bool.not_eq_false, beq_iff_eq, bne_iff_ne, ne_eq, Bool.not_eq_eq_eq_not, Bool.not_true, Bool.not_false, beq_eq_false_iff_ne, bne_eq_false_iff_eq] at hb) <;> first | refine wSkip 3 ?_ | refine wSkipU 3 ?_ | refine wMv 3 ?_))
            all_goals (first | refine wSkip 4 ?_ | refine wSkipU 4 ?_ | refine wLd 4 ?_ | (refine tr_guard (t := 24) rfl (fun hb => ?_) (fun hb => ?_) <;> (try simp only [decide_eq_true_eq, decide_eq_false_iff_not, Bool.not_eq_true, Bool.not_eq_false, beq_iff_eq, bne_iff_ne, ne_eq, Bool.not_eq_eq_eq_not, Bool.not_true, Bool.not_false, beq_eq_false_iff_ne, bne_eq_false_iff_eq] at hb) <;> first | refine wSkip 4 ?_ | refine wSkipU 4 ?_ | refine wLd 4 ?_))
            all_goals (first | refine wSkip 5 ?_ | refine wSkipU 5 ?_ | (refine rStep (i := 5) ?_; ((try refine qWant ?_); (first | (refine tl_is (.tmp 25) ?_; refine qC rfl rfl (leaf2_spec _ _ _) ?_; rintro v ρ' L' hle ⟨rfl, rfl, rfl⟩ <;> (try simp only [List.cons_append, List.nil_append, List.append_eq, hx])) | (refine tl_is (.tmp 34) ?_; refine qC rfl rfl (leaf1_spec _ _) ?_; rintro v ρ' L' hle ⟨rfl, rfl, rfl⟩ <;> (try simp only [List.cons_append, List.nil_append, List.append_eq])) | (refine tl_is (.tmp 41) ?_; refine qC rfl rfl (leaf1_spec _ _) ?_; rintro v ρ' L' hle ⟨rfl, rfl, rfl⟩ <;> (try simp only [List.cons_append, List.nil_append, List.append_eq])) | (refine qEf ?_; try intro _)) <;> ((try simp only [List.cons_append, List.nil_append, List.append_eq]); refine tl_nil ?_; refine rNext ?_))))
            all_goals refine rPk 6 ?_
            all_goals refine rMv 7 ?_
            all_goals (first | refine wSkip 8 ?_ | refine wSkipU 8 ?_ | refine wMv 8 ?_ | (refine tr_guard (t := 30) rfl (fun hb => ?_) (fun hb => ?_) <;> (try simp only [decide_eq_true_eq, decide_eq_false_iff_not, Bool.not_eq_true, Bool.not_eq_false, beq_iff_eq, bne_iff_ne, ne_eq, Bool.not_eq_eq_eq_not, Bool.not_true, Bool.not_false, beq_eq_false_iff_ne, bne_eq_false_iff_eq] at hb) <;> first | refine wSkip 8 ?_ | refine wSkipU 8 ?_ | refine wMv 8 ?_))
            all_goals (first | refine wSkip 9 ?_ | refine wSkipU 9 ?_ | refine wCm 9 ?_ | (refine tr_guard (t := 30) rfl (fun hb => ?_) (fun hb => ?_) <;> (try simp only [decide_eq_true_eq, decide_eq_false_iff_not, Bool.not_eq_true, Bool.not_eq_false, beq_iff_eq, bne_iff_ne, ne_eq, Bool.not_eq_eq_eq_not, Bool.not_true, Bool.not_false, beq_eq_false_iff_ne, bne_eq_false_iff_eq] at hb) <;> first | refine wSkip 9 ?_ | refine wSkipU 9 ?_ | refine wCm 9 ?_))
            all_goals (first | refine wSkip 10 ?_ | refine wSkipU 10 ?_ | refine wMv 10 ?_ | (refine tr_guard (t := 30) rfl (fun hb => ?_) (fun hb => ?_) <;> (try simp only [decide_eq_true_eq, decide_eq_false_iff_not, Bool.not_eq_true, Bool.not_eq_false, beq_iff_eq, bne_iff_ne, ne_eq, Bool.not_eq_eq_eq_not, Bool.not_true, Bool.not_false, beq_eq_false_iff_ne, bne_eq_false_iff_eq] at hb) <;> first | refine wSkip 10 ?_ | refine wSkipU 10 ?_ | refine wMv 10 ?_))
            all_goals (first | refine wSkip 11 ?_ | refine wSkipU 11 ?_ | refine wMv 11 ?_ | (refine tr_guard (t := 33) rfl (fun hb => ?_) (fun hb => ?_) <;> (try simp only [decide_eq_true_eq, decide_eq_false_iff_not, Bool.not_eq_true, Bool.not_eq_false, beq_iff_eq, bne_iff_ne, ne_eq, Bool.not_eq_eq_eq_not, Bool.not_true, Bool.not_false, beq_eq_false_iff_ne, bne_eq_false_iff_eq] at hb) <;> first | refine wSkip 11 ?_ | refine wSkipU 11 ?_ | refine wMv 11 ?_))
            all_goals (first | refine wSkip 12 ?_ | refine wSkipU 12 ?_ | refine wMv 12 ?_ | (refine tr_guard (t := 33) rfl (fun hb => ?_) (fun hb => ?_) <;> (try simp only [decide_eq_true_eq, decide_eq_false_iff_not, Bool.not_eq_true, Bool.not_eq_false, beq_iff_eq, bne_iff_ne, ne_eq, Bool.not_eq_eq_eq_not, Bool.not_true, Bool.not_false, beq_eq_false_iff_ne, bne_eq_false_iff_eq] at hb) <;> first | refine wSkip 12 ?_ | refine wSkipU 12 ?_ | refine wMv 12 ?_))
            all_goals (first | refine wSkip 13 ?_ | refine wSkipU 13 ?_ | refine wMv 13 ?_ | (refine tr_guard (t := 33) rfl (fun hb => ?_) (fun hb => ?_) <;> (try simp only [decide_eq_true_eq, decide_eq_false_iff_not, Bool.not_eq_true, Bool.not_eq_false, beq_iff_eq, bne_iff_ne, ne_eq, Bool.not_eq_eq_eq_not, Bool.not_true, Bool.not_false, beq_eq_false_iff_ne, bne_eq_false_iff_eq] at hb) <;> first | refine wSkip 13 ?_ | refine wSkipU 13 ?_ | refine wMv 13 ?_))
            all_goals (first | refine wSkip 14 ?_ | refine wSkipU 14 ?_ | refine wSb 14 ?_ | (refine tr_guard (t := 33) rfl (fun hb => ?_) (fun hb => ?_) <;> (try simp only [decide_eq_true_eq, decide_eq_false_iff_not, Bool.not_eq_true, Bool.not_eq_false, beq_iff_eq, bne_iff_ne, ne_eq, Bool.not_eq_eq_eq_not, Bool.not_true, Bool.not_false, beq_eq_false_iff_ne, bne_eq_false_iff_eq] at hb) <;> first | refine wSkip 14 ?_ | refine wSkipU 14 ?_ | refine wSb 14 ?_))
            all_goals (first | refine wSkip 15 ?_ | refine wSkipU 15 ?_ | refine wIa 15 ?_ | (refine tr_guard (t := 33) rfl (fun hb => ?_) (fun hb => ?_) <;> (try simp only [decide_eq_true_eq, decide_eq_false_iff_not, Bool.not_eq_true, Bool.not_eq_false, beq_iff_eq, bne_iff_ne, ne_eq, Bool.not_eq_eq_eq_not, Bool.not_true, Bool.not_false, beq_eq_false_iff_ne, bne_eq_false_iff_eq] at hb) <;> first | refine wSkip 15 ?_ | refine wSkipU 15 ?_ | refine wIa 15 ?_))
            all_goals (first | refine wSkip 16 ?_ | refine wSkipU 16 ?_ | refine wLd 16 ?_ | (refine tr_guard (t := 33) rfl (fun hb => ?_) (fun hb => ?_) <;> (try simp only [decide_eq_true_eq, decide_eq_false_iff_not, Bool.not_eq_true, Bool.not_eq_false, beq_iff_eq, bne_iff_ne, ne_eq, Bool.not_eq_eq_eq_not, Bool.not_true, Bool.not_false, beq_eq_false_iff_ne, bne_eq_false_iff_eq] at hb) <;> first | refine wSkip 16 ?_ | refine wSkipU 16 ?_ | refine wLd 16 ?_))
            all_goals (first | refine wSkip 18 ?_ | refine wSkipU 18 ?_ | refine wMv 18 ?_ | (refine tr_guard (t := 33) rfl (fun hb => ?_) (fun hb => ?_) <;> (try simp only [decide_eq_true_eq, decide_eq_false_iff_not, Bool.not_eq_true, Bool.not_eq_false, beq_iff_eq, bne_iff_ne, ne_eq, Bool.not_eq_eq_eq_not, Bool.not_true, Bool.not_false, beq_eq_false_iff_ne, bne_eq_false_iff_eq] at hb) <;> first | refine wSkip 18 ?_ | refine wSkipU 18 ?_ | refine wMv 18 ?_))
            all_goals (first | refine wSkip 19 ?_ | refine wSkipU 19 ?_ | refine wLd 19 ?_ | (refine tr_guard (t := 33) rfl (fun hb => ?_) (fun hb => ?_) <;> (try simp only [decide_eq_true_eq, decide_eq_false_iff_not, Bool.not_eq_true, Bool.not_eq_false, beq_iff_eq, bne_iff_ne, ne_eq, Bool.not_eq_eq_eq_not, Bool.not_true, Bool.not_false, beq_eq_false_iff_ne, bne_eq_false_iff_eq] at hb) <;> first | refine wSkip 19 ?_ | refine wSkipU 19 ?_ | refine wLd 19 ?_))
            all_goals (first | refine wSkip 17 ?_ | refine wSkipU 17 ?_ | (refine rStep (i := 17) ?_; ((try refine qWant ?_); (first | (refine tl_is (.tmp 25) ?_; refine qC rfl rfl (leaf2_spec _ _ _) ?_; rintro v ρ' L' hle ⟨rfl, rfl, rfl⟩ <;> (try simp only [List.cons_append, List.nil_append, List.append_eq, hx])) | (refine tl_is (.tmp 34) ?_; refine qC rfl rfl (leaf1_spec _ _) ?_; rintro v ρ' L' hle ⟨rfl, rfl, rfl⟩ <;> (try simp only [List.cons_append, List.nil_append, List.append_eq])) | (refine tl_is (.tmp 41) ?_; refine qC rfl rfl (leaf1_spec _ _) ?_; rintro v ρ' L' hle ⟨rfl, rfl, rfl⟩ <;> (try simp only [List.cons_append, List.nil_append, List.append_eq])) | (refine qEf ?_; try intro _)) <;> ((try simp only [List.cons_append, List.nil_append, List.append_eq]); refine tl_nil ?_; refine rNext ?_))))
            all_goals (first | refine wSkip 20 ?_ | refine wSkipU 20 ?_ | (refine rStep (i := 20) ?_; ((try refine qWant ?_); (first | (refine tl_is (.tmp 25) ?_; refine qC rfl rfl (leaf2_spec _ _ _) ?_; rintro v ρ' L' hle ⟨rfl, rfl, rfl⟩ <;> (try simp only [List.cons_append, List.nil_append, List.append_eq, hx])) | (refine tl_is (.tmp 34) ?_; refine qC rfl rfl (leaf1_spec _ _) ?_; rintro v ρ' L' hle ⟨rfl, rfl, rfl⟩ <;> (try simp only [List.cons_append, List.nil_append, List.append_eq])) | (refine tl_is (.tmp 41) ?_; refine qC rfl rfl (leaf1_spec _ _) ?_; rintro v ρ' L' hle ⟨rfl, rfl, rfl⟩ <;> (try simp only [List.cons_append, List.nil_append, List.append_eq])) | (refine qEf ?_; try intro _)) <;> ((try simp only [List.cons_append, List.nil_append, List.append_eq]); refine tl_nil ?_; refine rNext ?_))))
            all_goals (first | refine wSkip 21 ?_ | refine wSkipU 21 ?_ | (refine rStep (i := 21) ?_; ((try refine qWant ?_); (first | (refine tl_is (.func 138) ?_; refine qC rfl rfl (compare_spec _ _ _ _ _) ?_; rintro v ρ' L' hle ⟨rfl, rfl, rfl⟩ <;> (try simp only [List.cons_append, List.nil_append, List.append_eq])) | (refine qEf ?_; try intro _)) <;> ((try simp only [List.cons_append, List.nil_append, List.append_eq]); refine tl_nil ?_; refine rNext ?_))))
            all_goals refine rFull ?_
            all_goals (first | refine wSkip 22 ?_ | refine wSkipU 22 ?_ | refine wCm 22 ?_ | (refine tr_guard (t := 33) rfl (fun hb => ?_) (fun hb => ?_) <;> (try simp only [decide_eq_true_eq, decide_eq_false_iff_not, Bool.not_eq_true, Bool.not_eq_false, beq_iff_eq, bne_iff_ne, ne_eq, Bool.not_eq_eq_eq_not, Bool.not_true, Bool.not_false, beq_eq_false_iff_ne, bne_eq_false_iff_eq] at hb) <;> first | refine wSkip 22 ?_ | refine wSkipU 22 ?_ | refine wCm 22 ?_))
            all_goals (first | refine wSkip 23 ?_ | refine wSkipU 23 ?_ | refine wPk 23 ?_ | (refine tr_guard (t := 30) rfl (fun hb => ?_) (fun hb => ?_) <;> (try simp only [decide_eq_true_eq, decide_eq_false_iff_not, Bool.not_eq_true, Bool.not_eq_false, beq_iff_eq, bne_iff_ne, ne_eq, Bool.not_eq_eq_eq_not, Bool.not_true, Bool.not_false, beq_eq_false_iff_ne, bne_eq_false_iff_eq] at hb) <;> first | refine wSkip 23 ?_ | refine wSkipU 23 ?_ | refine wPk 23 ?_))
            all_goals refine rPk 24 ?_
            all_goals refine rAs 25 ?_
            all_goals refine rDone ?_
            all_goals (repeat' (first | (refine i_op ?_; first | (refine i_qq ?_; refine qQ ?_) | refine qEf ?_) | refine tl_nil ?_ | (refine i_tc ?_; refine qTc ?_) | (refine i_te ?_; refine qTe ?_) | intro _))
            all_goals exact qE ⟨rfl, rfl, rfl⟩
  · have hk2 : k = n := by omega
    subst hk2
    repeat' (first | (refine i_op ?_; first | (refine i_qq ?_; refine qQ ?_) | refine qEf ?_) | refine tl_nil ?_ | (refine i_tc ?_; refine qTc ?_) | (refine i_te ?_; refine qTe ?_) | intro _)
    exact qE ⟨rfl, rfl, rfl⟩
end Go.Proofs.E

namespace Go.Proofs.E
open Go
set_option linter.unusedVariables false
set_option linter.unusedSimpArgs false
set_option linter.unusedSectionVars false
set_option maxRecDepth 4000
set_option maxHeartbeats 1000000
attribute [local irreducible] Yl TL TC TE Spec YSpec R1 Hp.le EnvLe TS TR YS Stays
structure MetOk (es : List MapEntry) (ps : List Int) : Prop where
  keys : IntKeys .i64 es
  get : ∀ p, mget es p = if p ∈ ps then some (.bool true) else none
theorem MetOk.nil : MetOk [] [] := ⟨by intro e he; simp at he, fun p => by simp [mget]⟩
def kidOk (i : Nat) (ps : List Int) (k : Kid) : Bool := decide (k.page ∉ ps ∧ 0 < k.page ∧ k.page < 64 ∧ (0 ≤ k.t ∧ k.t < 3) ∧ (0 < i ∨ (k.t = 0 ∧ k.id = 0)))
theorem kidV_len (r : Kid) : (kidV r).length = 3 := rfl
theorem kidV_one (r : Kid) : (kidV r).all (·.oneCell') = true := rfl
theorem inner1_spec (ρ : Hp) (r : Kid) : Spec Try.prog 115 [.agg ⟨kidV r⟩] ρ [] (fun v ρ' L' => v = .agg ⟨keyV r.t r.id⟩ ∧ ρ' = ρ ∧ L' = []) := by
  refine spec_enter Try.func115 rfl rfl rfl fun u R => ?_
  simp only [argsE, List.cons_append, List.nil_append]
  repeat' (first | (refine i_op ?_; first | (refine i_qq ?_; refine qQ ?_) | refine qEf ?_) | refine tl_nil ?_ | (refine i_tc ?_; refine qTc ?_) | (refine i_te ?_; refine qTe ?_) | intro _)
  exact qE ⟨rfl, rfl, rfl⟩
abbrev metL (bx mb : Nat) (es : List MapEntry) (ck : Nat) : SH := [[(bx, .cells ⟨[.map (some mb)]⟩ 179 (0, 0))], [(mb, .map ⟨es⟩ ck)]]
theorem inner2_spec (ρ : Hp) (bx mb : Nat) (es : List MapEntry) (ck : Nat) (ps : List Int) (hm : MetOk es ps) (i : Nat) (k : Kid) : Spec Try.prog 116 [.int .i64 i, .agg ⟨kidV k⟩, .pointer (some ⟨bx, 0, none⟩)] ρ (metL bx mb es ck)
    (fun v ρ' L' => v = .bool (kidOk i ps k) ∧ ρ' = ρ ∧ ∃ es' ck', MetOk es' (k.page :: ps) ∧ L' = metL bx mb es' ck') := by
  obtain ⟨t, id, page⟩ := k
  have hes := hm.keys
  have hg := hm.get page
  dsimp only at hg ⊢
  generalize hq : kidOk i ps ⟨t, id, page⟩ = q
  have hfin : ∀ es', IntKeys .i64 es' → (∀ j, mget es' j = if j = page then some (.bool true) else mget es j) → MetOk es' (page :: ps) := fun es' h1 h2 => ⟨h1, fun p => by
    rw [h2 p, hm.get p]
    by_cases e : p = page <;> simp [e]⟩
  refine spec_enter Try.func116 rfl rfl rfl fun u R => ?_
  simp only [argsE, List.cons_append, List.nil_append]
  by_cases hp : page ∈ ps
  · rw [if_pos hp] at hg
    have hq' : q = false := by rw [← hq]; exact decide_eq_false (fun h => h.1 hp)
    subst hq'
    repeat' (first | (refine tl_mapUpdate rfl rfl rfl hes (fun es' ck' h1 h2 => ?_)) | (refine i_op ?_; first | (refine i_qq ?_; refine qQ ?_) | refine qEf ?_) | refine tl_nil ?_ | (refine i_tc ?_; refine qTc ?_) | (refine i_te ?_; refine qTe ?_) | intro _)
    exact qE ⟨rfl, rfl, es', ck', hfin es' h1 h2, rfl⟩
  · rw [if_neg hp] at hg
    by_cases hp0 : 0 < page
    · by_cases hp6 : page < 64
      · by_cases ht : 0 ≤ t ∧ t < 3
        · have hd : decide (0 ≤ t ∧ t < 3) = true := decide_eq_true ht
          by_cases hi : 0 < i
          · have hq' : q = true := by rw [← hq]; exact decide_eq_true ⟨hp, hp0, hp6, ht, .inl hi⟩
            subst hq'
            repeat' (first | (refine tl_mapUpdate rfl rfl rfl hes (fun es' ck' h1 h2 => ?_)) | (refine tl_is (.func 117) ?_; refine qC rfl rfl (table_spec _ _) ?_; rintro v ρ' L' hle ⟨rfl, rfl, rfl⟩ <;> (try simp only [List.cons_append, List.nil_append, List.append_eq, hd])) | (refine i_op ?_; first | (refine i_qq ?_; refine qQ ?_) | refine qEf ?_) | refine tl_nil ?_ | (refine i_tc ?_; refine qTc ?_) | (refine i_te ?_; refine qTe ?_) | intro _)
            exact qE ⟨rfl, rfl, es', ck', hfin es' h1 h2, rfl⟩
          · by_cases hz : t = 0 ∧ id = 0
            · have hq' : q = true := by rw [← hq]; exact decide_eq_true ⟨hp, hp0, hp6, ht, .inr hz⟩
              subst hq'
              obtain ⟨rfl, rfl⟩ := hz
              repeat' (first | (refine tl_mapUpdate rfl rfl rfl hes (fun es' ck' h1 h2 => ?_)) | (refine tl_is (.func 117) ?_; refine qC rfl rfl (table_spec _ _) ?_; rintro v ρ' L' hle ⟨rfl, rfl, rfl⟩ <;> (try simp only [List.cons_append, List.nil_append, List.append_eq, hd])) | (refine i_op ?_; first | (refine i_qq ?_; refine qQ ?_) | refine qEf ?_) | refine tl_nil ?_ | (refine i_tc ?_; refine qTc ?_) | (refine i_te ?_; refine qTe ?_) | intro _)
              exact qE ⟨rfl, rfl, es', ck', hfin es' h1 h2, rfl⟩
            · have hq' : q = false := by rw [← hq]; exact decide_eq_false (fun h => h.2.2.2.2.elim hi hz)
              subst hq'
              have hk : ((t == 0) && (((id : Int) == 0) && true)) = false := by
                simp; intro h; exact fun h' => hz ⟨h, by omega⟩
              repeat' (first | (refine tl_mapUpdate rfl rfl rfl hes (fun es' ck' h1 h2 => ?_)) | (refine tl_is (.func 117) ?_; refine qC rfl rfl (table_spec _ _) ?_; rintro v ρ' L' hle ⟨rfl, rfl, rfl⟩ <;> (try simp only [List.cons_append, List.nil_append, List.append_eq, hd])) | (refine i_op ?_; first | (refine i_qq ?_; refine qQ ?_) | refine qEf ?_) | refine tl_nil ?_ | (refine i_tc ?_; refine qTc ?_) | (refine i_te ?_; refine qTe ?_) | intro _)
              exact qE ⟨by first | rfl | exact congrArg Value.bool hk, rfl, es', ck', hfin es' h1 h2, rfl⟩
        · have hd : decide (0 ≤ t ∧ t < 3) = false := decide_eq_false ht
          have hq' : q = false := by rw [← hq]; exact decide_eq_false (fun h => ht h.2.2.2.1)
          subst hq'
          repeat' (first | (refine tl_mapUpdate rfl rfl rfl hes (fun es' ck' h1 h2 => ?_)) | (refine tl_is (.func 117) ?_; refine qC rfl rfl (table_spec _ _) ?_; rintro v ρ' L' hle ⟨rfl, rfl, rfl⟩ <;> (try simp only [List.cons_append, List.nil_append, List.append_eq, hd])) | (refine i_op ?_; first | (refine i_qq ?_; refine qQ ?_) | refine qEf ?_) | refine tl_nil ?_ | (refine i_tc ?_; refine qTc ?_) | (refine i_te ?_; refine qTe ?_) | intro _)
          exact qE ⟨rfl, rfl, es', ck', hfin es' h1 h2, rfl⟩
      · have hq' : q = false := by rw [← hq]; exact decide_eq_false (fun h => hp6 h.2.2.1)
        subst hq'
        repeat' (first | (refine tl_mapUpdate rfl rfl rfl hes (fun es' ck' h1 h2 => ?_)) | (refine i_op ?_; first | (refine i_qq ?_; refine qQ ?_) | refine qEf ?_) | refine tl_nil ?_ | (refine i_tc ?_; refine qTc ?_) | (refine i_te ?_; refine qTe ?_) | intro _)
        exact qE ⟨rfl, rfl, es', ck', hfin es' h1 h2, rfl⟩
    · have hq' : q = false := by rw [← hq]; exact decide_eq_false (fun h => hp0 h.2.1)
      subst hq'
      repeat' (first | (refine tl_mapUpdate rfl rfl rfl hes (fun es' ck' h1 h2 => ?_)) | (refine i_op ?_; first | (refine i_qq ?_; refine qQ ?_) | refine qEf ?_) | refine tl_nil ?_ | (refine i_tc ?_; refine qTc ?_) | (refine i_te ?_; refine qTe ?_) | intro _)
      exact qE ⟨rfl, rfl, es', ck', hfin es' h1 h2, rfl⟩
def psTo (l : List Kid) (k : Nat) : List Int := ((l.take k).map Kid.page).reverse
theorem psTo_succ {l : List Kid} {k : Nat} (h : k < l.length) : psTo l (k + 1) = l[k].page :: psTo l k := by
  unfold psTo; rw [List.take_succ_eq_append_getElem h, List.map_append, List.reverse_append]; rfl
def ltK (y x : Kid) : Bool := decide (cmpK y.t y.id x.t x.id < 0)
def kidsOk (l : List Kid) : Bool := risesB 4 (fun i k => kidOk i (psTo l i) k) ltK l l.length
theorem risesKid_spec (ρ : Hp) (a : Option Addr) (n c : Nat) (l : List Kid) (h : AIn ρ 3 kidV a n l) (hn : n ≤ 1000000) (bx mb ck0 : Nat) :
    Spec Try.prog 114 [.slice a n c, .int .i64 4, .func (.func 115) ⟨[]⟩ ⟨[]⟩, .func (.func 116) ⟨[]⟩ ⟨[.pointer (some ⟨bx, 0, none⟩)]⟩] ρ (metL bx mb [] ck0) (fun v ρ' L' => v = .bool (kidsOk l) ∧ ρ' = ρ ∧ L' = []) := by
  have hl := h.len
  unfold kidsOk
  rw [hl]
  refine spec_enter Try.func114 rfl rfl rfl fun u R => ?_
  simp only [argsE, List.cons_append, List.nil_append]
  generalize hr : (fun (i : Nat) (k : Kid) => kidOk i (psTo l i) k) = rt
  repeat' (first | (refine i_op ?_; first | (refine i_qq ?_; refine qQ ?_) | refine qEf ?_) | refine tl_nil ?_ | (refine i_tc ?_; refine qTc ?_) | (refine i_te ?_; refine qTe ?_) | intro _)
  have e0 : decide ((n : Int) ≤ 4) = risesB 4 rt ltK l 0 := by
    rw [risesB]; simp [hl]; omega
  rw [e0]
  refine tc_loop_g [(0, _), (2, _), (3, _), (8, _), (16, _), (17, _)] (fun (ζ : (Nat) × (List MapEntry) × (Nat)) => [(18, .int .i64 ζ.1), (9, .bool (risesB 4 rt ltK l ζ.1))]) (fun (ζ : (Nat) × (List MapEntry) × (Nat)) => ρ) (fun (ζ : (Nat) × (List MapEntry) × (Nat)) => metL bx mb ζ.2.1 ζ.2.2) (fun (ζ : (Nat) × (List MapEntry) × (Nat)) => ζ.1 ≤ n ∧ MetOk ζ.2.1 (psTo l ζ.1)) (fun (ζ : (Nat) × (List MapEntry) × (Nat)) => n - ζ.1) ((0, [], ck0)) (⟨Nat.zero_le _, MetOk.nil⟩) ev_le ev_le rfl tk ?_
  rintro ⟨k, es, ck⟩ hI
  try simp only [List.cons_append, List.nil_append, List.append_assoc, List.append_eq] at hI ⊢
  try dsimp only at hI ⊢
  obtain ⟨hI, hm⟩ := hI
  by_cases hlt : k < n
  · obtain ⟨b, off, C, T, fr, rfl, hb, hfit, hc⟩ := h.get (show k < l.length by omega)
    have hs := risesB_succ (most := 4) (right := rt) (lt := ltK) (show k < l.length by omega)
    have hfin := fun (e : risesB 4 rt ltK l (k + 1) = false) => risesB_false' e (show k + 1 ≤ n by omega)
    have hps := psTo_succ (show k < l.length by omega)
    have hrk : rt k l[k] = kidOk k (psTo l k) l[k] := by rw [← hr]
    cases hok : risesB 4 rt ltK l k
    · rw [hok, Bool.false_and] at hs
      rw [hfin hs]
      generalize l[k] = x at *
      repeat' (first | (refine i_op ?_; first | (refine i_qq ?_; refine qQ ?_) | refine qEf ?_) | refine tl_nil ?_ | (refine i_tc ?_; refine qTc ?_) | (refine i_te ?_; refine qTe ?_) | intro _)
      rename_i b11
      refine tc_any (Stays _ _ ([[(b11, .cells ⟨kidV x⟩ 174 (0, 0))]])) (stays_of (hT := tk) (Hp.le_refl _)) ?_
      all_goals refine rMv 0 ?_
      all_goals refine rMv 1 ?_
      all_goals (first | refine wSkip 2 ?_ | refine wSkipU 2 ?_ | refine wMv 2 ?_ | (refine tr_guard (t := 24) rfl (fun hb => ?_) (fun hb => ?_) <;> (try simp only [decide_eq_true_eq, decide_eq_false_iff_not, Bool.not_eq_true, Bool.not_eq_false, beq_iff_eq, bne_iff_ne, ne_eq, Bool.not_eq_eq_eq_not, Bool.not_true, Bool.not_false, beq_eq_false_iff_ne, bne_eq_false_iff_eq] at hb) <;> first | refine wSkip 2 ?_ | refine wSkipU 2 ?_ | refine wMv 2 ?_))
      all_goals (first | refine wSkip 3 ?_ | refine wSkipU 3 ?_ | refine wMv 3 ?_ | (refine tr_guard (t := 24) rfl (fun hb => ?_) (fun hb => ?_) <;> (try simp only [decide_eq_true_eq, decide_eq_false_iff_not, Bool.not_eq_true, Bool.not_eq_false, beq_iff_eq, bne_iff_ne, ne_eq, Bool.not_eq_eq_eq_not, Bool.not_true, Bool.not_false, beq_eq_false_iff_ne, bne_eq_false_iff_eq] at hb) <;> first | refine wSkip 3 ?_ | refine wSkipU 3 ?_ | refine wMv 3 ?_))
      all_goals (first | refine wSkip 4 ?_ | refine wSkipU 4 ?_ | refine wLd 4 ?_ | (refine tr_guard (t := 24) rfl (fun hb => ?_) (fun hb => ?_) <;> (try simp only [decide_eq_true_eq, decide_eq_false_iff_not, Bool.not_eq_true, Bool.not_eq_false, beq_iff_eq, bne_iff_ne, ne_eq, Bool.not_eq_eq_eq_not, Bool.not_true, Bool.not_false, beq_eq_false_iff_ne, bne_eq_false_iff_eq] at hb) <;> first | refine wSkip 4 ?_ | refine wSkipU 4 ?_ | refine wLd 4 ?_))
      all_goals (first | refine wSkip 5 ?_ | refine wSkipU 5 ?_ | (refine rStep (i := 5) ?_; ((try refine qWant ?_); (first | (refine qEf ?_; try intro _)) <;> ((try simp only [List.cons_append, List.nil_append, List.append_eq]); refine tl_nil ?_; refine rNext ?_))))
      all_goals refine rPk 6 ?_
      all_goals refine rMv 7 ?_
      all_goals (first | refine wSkip 8 ?_ | refine wSkipU 8 ?_ | refine wMv 8 ?_ | (refine tr_guard (t := 30) rfl (fun hb => ?_) (fun hb => ?_) <;> (try simp only [decide_eq_true_eq, decide_eq_false_iff_not, Bool.not_eq_true, Bool.not_eq_false, beq_iff_eq, bne_iff_ne, ne_eq, Bool.not_eq_eq_eq_not, Bool.not_true, Bool.not_false, beq_eq_false_iff_ne, bne_eq_false_iff_eq] at hb) <;> first | refine wSkip 8 ?_ | refine wSkipU 8 ?_ | refine wMv 8 ?_))
      all_goals (first | refine wSkip 9 ?_ | refine wSkipU 9 ?_ | refine wCm 9 ?_ | (refine tr_guard (t := 30) rfl (fun hb => ?_) (fun hb => ?_) <;> (try simp only [decide_eq_true_eq, decide_eq_false_iff_not, Bool.not_eq_true, Bool.not_eq_false, beq_iff_eq, bne_iff_ne, ne_eq, Bool.not_eq_eq_eq_not, Bool.not_true, Bool.not_false, beq_eq_false_iff_ne, bne_eq_false_iff_eq] at hb) <;> first | refine wSkip 9 ?_ | refine wSkipU 9 ?_ | refine wCm 9 ?_))
      all_goals (first | refine wSkip 10 ?_ | refine wSkipU 10 ?_ | refine wMv 10 ?_ | (refine tr_guard (t := 30) rfl (fun hb => ?_) (fun hb => ?_) <;> (try simp only [decide_eq_true_eq, decide_eq_false_iff_not, Bool.not_eq_true, Bool.not_eq_false, beq_iff_eq, bne_iff_ne, ne_eq, Bool.not_eq_eq_eq_not, Bool.not_true, Bool.not_false, beq_eq_false_iff_ne, bne_eq_false_iff_eq] at hb) <;> first | refine wSkip 10 ?_ | refine wSkipU 10 ?_ | refine wMv 10 ?_))
      all_goals (first | refine wSkip 11 ?_ | refine wSkipU 11 ?_ | refine wMv 11 ?_ | (refine tr_guard (t := 33) rfl (fun hb => ?_) (fun hb => ?_) <;> (try simp only [decide_eq_true_eq, decide_eq_false_iff_not, Bool.not_eq_true, Bool.not_eq_false, beq_iff_eq, bne_iff_ne, ne_eq, Bool.not_eq_eq_eq_not, Bool.not_true, Bool.not_false, beq_eq_false_iff_ne, bne_eq_false_iff_eq] at hb) <;> first | refine wSkip 11 ?_ | refine wSkipU 11 ?_ | refine wMv 11 ?_))
      all_goals (first | refine wSkip 12 ?_ | refine wSkipU 12 ?_ | refine wMv 12 ?_ | (refine tr_guard (t := 33) rfl (fun hb => ?_) (fun hb => ?_) <;> (try simp only [decide_eq_true_eq, decide_eq_false_iff_not, Bool.not_eq_true, Bool.not_eq_false, beq_iff_eq, bne_iff_ne, ne_eq, Bool.not_eq_eq_eq_not, Bool.not_true, Bool.not_false, beq_eq_false_iff_ne, bne_eq_false_iff_eq] at hb) <;> first | refine wSkip 12 ?_ | refine wSkipU 12 ?_ | refine wMv 12 ?_))
      all_goals (first | refine wSkip 13 ?_ | refine wSkipU 13 ?_ | refine wMv 13 ?_ | (refine tr_guard (t := 33) rfl (fun hb => ?_) (fun hb => ?_) <;> (try simp only [decide_eq_true_eq, decide_eq_false_iff_not, Bool.not_eq_true, Bool.not_eq_false, beq_iff_eq, bne_iff_ne, ne_eq, Bool.not_eq_eq_eq_not, Bool.not_true, Bool.not_false, beq_eq_false_iff_ne, bne_eq_false_iff_eq] at hb) <;> first | refine wSkip 13 ?_ | refine wSkipU 13 ?_ | refine wMv 13 ?_))
      all_goals (first | refine wSkip 14 ?_ | refine wSkipU 14 ?_ | refine wSb 14 ?_ | (refine tr_guard (t := 33) rfl (fun hb => ?_) (fun hb => ?_) <;> (try simp only [decide_eq_true_eq, decide_eq_false_iff_not, Bool.not_eq_true, Bool.not_eq_false, beq_iff_eq, bne_iff_ne, ne_eq, Bool.not_eq_eq_eq_not, Bool.not_true, Bool.not_false, beq_eq_false_iff_ne, bne_eq_false_iff_eq] at hb) <;> first | refine wSkip 14 ?_ | refine wSkipU 14 ?_ | refine wSb 14 ?_))
      all_goals (first | refine wSkip 15 ?_ | refine wSkipU 15 ?_ | refine wIa 15 ?_ | (refine tr_guard (t := 33) rfl (fun hb => ?_) (fun hb => ?_) <;> (try simp only [decide_eq_true_eq, decide_eq_false_iff_not, Bool.not_eq_true, Bool.not_eq_false, beq_iff_eq, bne_iff_ne, ne_eq, Bool.not_eq_eq_eq_not, Bool.not_true, Bool.not_false, beq_eq_false_iff_ne, bne_eq_false_iff_eq] at hb) <;> first | refine wSkip 15 ?_ | refine wSkipU 15 ?_ | refine wIa 15 ?_))
      all_goals (first | refine wSkip 16 ?_ | refine wSkipU 16 ?_ | refine wLd 16 ?_ | (refine tr_guard (t := 33) rfl (fun hb => ?_) (fun hb => ?_) <;> (try simp only [decide_eq_true_eq, decide_eq_false_iff_not, Bool.not_eq_true, Bool.not_eq_false, beq_iff_eq, bne_iff_ne, ne_eq, Bool.not_eq_eq_eq_not, Bool.not_true, Bool.not_false, beq_eq_false_iff_ne, bne_eq_false_iff_eq] at hb) <;> first | refine wSkip 16 ?_ | refine wSkipU 16 ?_ | refine wLd 16 ?_))
      all_goals (first | refine wSkip 18 ?_ | refine wSkipU 18 ?_ | refine wMv 18 ?_ | (refine tr_guard (t := 33) rfl (fun hb => ?_) (fun hb => ?_) <;> (try simp only [decide_eq_true_eq, decide_eq_false_iff_not, Bool.not_eq_true, Bool.not_eq_false, beq_iff_eq, bne_iff_ne, ne_eq, Bool.not_eq_eq_eq_not, Bool.not_true, Bool.not_false, beq_eq_false_iff_ne, bne_eq_false_iff_eq] at hb) <;> first | refine wSkip 18 ?_ | refine wSkipU 18 ?_ | refine wMv 18 ?_))
      all_goals (first | refine wSkip 19 ?_ | refine wSkipU 19 ?_ | refine wLd 19 ?_ | (refine tr_guard (t := 33) rfl (fun hb => ?_) (fun hb => ?_) <;> (try simp only [decide_eq_true_eq, decide_eq_false_iff_not, Bool.not_eq_true, Bool.not_eq_false, beq_iff_eq, bne_iff_ne, ne_eq, Bool.not_eq_eq_eq_not, Bool.not_true, Bool.not_false, beq_eq_false_iff_ne, bne_eq_false_iff_eq] at hb) <;> first | refine wSkip 19 ?_ | refine wSkipU 19 ?_ | refine wLd 19 ?_))
      all_goals (first | refine wSkip 17 ?_ | refine wSkipU 17 ?_ | (refine rStep (i := 17) ?_; ((try refine qWant ?_); (first | (refine qEf ?_; try intro _)) <;> ((try simp only [List.cons_append, List.nil_append, List.append_eq]); refine tl_nil ?_; refine rNext ?_))))
      all_goals (first | refine wSkip 20 ?_ | refine wSkipU 20 ?_ | (refine rStep (i := 20) ?_; ((try refine qWant ?_); (first | (refine qEf ?_; try intro _)) <;> ((try simp only [List.cons_append, List.nil_append, List.append_eq]); refine tl_nil ?_; refine rNext ?_))))
      all_goals (first | refine wSkip 21 ?_ | refine wSkipU 21 ?_ | (refine rStep (i := 21) ?_; ((try refine qWant ?_); (first | (refine qEf ?_; try intro _)) <;> ((try simp only [List.cons_append, List.nil_append, List.append_eq]); refine tl_nil ?_; refine rNext ?_))))
      all_goals refine rFull ?_
      all_goals (first | refine wSkip 22 ?_ | refine wSkipU 22 ?_ | refine wCm 22 ?_ | (refine tr_guard (t := 33) rfl (fun hb => ?_) (fun hb => ?_) <;> (try simp only [decide_eq_true_eq, decide_eq_false_iff_not, Bool.not_eq_true, Bool.not_eq_false, beq_iff_eq, bne_iff_ne, ne_eq, Bool.not_eq_eq_eq_not, Bool.not_true, Bool.not_false, beq_eq_false_iff_ne, bne_eq_false_iff_eq] at hb) <;> first | refine wSkip 22 ?_ | refine wSkipU 22 ?_ | refine wCm 22 ?_))
      all_goals (first | refine wSkip 23 ?_ | refine wSkipU 23 ?_ | refine wPk 23 ?_ | (refine tr_guard (t := 30) rfl (fun hb => ?_) (fun hb => ?_) <;> (try simp only [decide_eq_true_eq, decide_eq_false_iff_not, Bool.not_eq_true, Bool.not_eq_false, beq_iff_eq, bne_iff_ne, ne_eq, Bool.not_eq_eq_eq_not, Bool.not_true, Bool.not_false, beq_eq_false_iff_ne, bne_eq_false_iff_eq] at hb) <;> first | refine wSkip 23 ?_ | refine wSkipU 23 ?_ | refine wPk 23 ?_))
      all_goals refine rPk 24 ?_
      all_goals refine rAs 25 ?_
      all_goals refine rDone ?_
      repeat' (first | (refine i_op ?_; first | (refine i_qq ?_; refine qQ ?_) | refine qEf ?_) | refine tl_nil ?_ | (refine i_tc ?_; refine qTc ?_) | (refine i_te ?_; refine qTe ?_) | intro _)
      exact qE ⟨rfl, rfl, rfl⟩
    · rw [hok, Bool.true_and, hrk] at hs
      cases hx : kidOk k (psTo l k) l[k]
      · rw [hx, Bool.false_and] at hs
        rw [hfin hs]
        generalize l[k] = x at *
        repeat' (first | (refine i_op ?_; first | (refine i_qq ?_; refine qQ ?_) | refine qEf ?_) | refine tl_nil ?_ | (refine i_tc ?_; refine qTc ?_) | (refine i_te ?_; refine qTe ?_) | intro _)
        rename_i b11
        refine tc_any (Stays _ _ ([[(b11, .cells ⟨kidV x⟩ 174 (0, 0))]])) (stays_of (hT := tk) (Hp.le_refl _)) ?_
        all_goals refine rMv 0 ?_
        all_goals refine rMv 1 ?_
        all_goals (first | refine wSkip 2 ?_ | refine wSkipU 2 ?_ | refine wMv 2 ?_ | (refine tr_guard (t := 24) rfl (fun hb => ?_) (fun hb => ?_) <;> (try simp only [decide_eq_true_eq, decide_eq_false_iff_not, Bool.not_eq_true, Bool.not_eq_false, beq_iff_eq, bne_iff_ne, ne_eq, Bool.not_eq_eq_eq_not, Bool.not_true, Bool.not_false, beq_eq_false_iff_ne, bne_eq_false_iff_eq] at hb) <;> first | refine wSkip 2 ?_ | refine wSkipU 2 ?_ | refine wMv 2 ?_))
        all_goals (first | refine wSkip 3 ?_ | refine wSkipU 3 ?_ | refine wMv 3 ?_ | (refine tr_guard (t := 24) rfl (fun hb => ?_) (fun hb => ?_) <;> (try simp only [decide_eq_true_eq, decide_eq_false_iff_not, Bool.not_eq_true, Bool.not_eq_false, beq_iff_eq, bne_iff_ne, ne_eq, Bool.not_eq_eq_eq_not, Bool.not_true, Bool.not_false, beq_eq_false_iff_ne, bne_eq_false_iff_eq] at hb) <;> first | refine wSkip 3 ?_ | refine wSkipU 3 ?_ | refine wMv 3 ?_))
        all_goals (first | refine wSkip 4 ?_ | refine wSkipU 4 ?_ | refine wLd 4 ?_ | (refine tr_guard (t := 24) rfl (fun hb => ?_) (fun hb => ?_) <;> (try simp only [decide_eq_true_eq, decide_eq_false_iff_not, Bool.not_eq_true, Bool.not_eq_false, beq_iff_eq, bne_iff_ne, ne_eq, Bool.not_eq_eq_eq_not, Bool.not_true, Bool.not_false, beq_eq_false_iff_ne, bne_eq_false_iff_eq] at hb) <;> first | refine wSkip 4 ?_ | refine wSkipU 4 ?_ | refine wLd 4 ?_))
        all_goals (first | refine wSkip 5 ?_ | refine wSkipU 5 ?_ | (refine rStep (i := 5) ?_; ((try refine qWant ?_); (first | (refine tl_is (.tmp 25) ?_; refine qC rfl rfl (inner2_spec _ bx mb es ck _ hm k x) ?_; rintro v ρ' L' hle ⟨rfl, rfl, es', ck', hm', rfl⟩ <;> (try simp only [List.cons_append, List.nil_append, List.append_eq, hx])) | (refine tl_is (.tmp 34) ?_; refine qC rfl rfl (inner1_spec _ _) ?_; rintro v ρ' L' hle ⟨rfl, rfl, rfl⟩ <;> (try simp only [List.cons_append, List.nil_append, List.append_eq])) | (refine tl_is (.tmp 41) ?_; refine qC rfl rfl (inner1_spec _ _) ?_; rintro v ρ' L' hle ⟨rfl, rfl, rfl⟩ <;> (try simp only [List.cons_append, List.nil_append, List.append_eq])) | (refine qEf ?_; try intro _)) <;> ((try simp only [List.cons_append, List.nil_append, List.append_eq]); refine tl_nil ?_; refine rNext ?_))))
        all_goals refine rPk 6 ?_
        all_goals refine rMv 7 ?_
        all_goals (first | refine wSkip 8 ?_ | refine wSkipU 8 ?_ | refine wMv 8 ?_ | (refine tr_guard (t := 30) rfl (fun hb => ?_) (fun hb => ?_) <;> (try simp only [decide_eq_true_eq, decide_eq_false_iff_not, Bool.not_eq_true, Bool.not_eq_false, beq_iff_eq, bne_iff_ne, ne_eq, Bool.not_eq_eq_eq_not, Bool.not_true, Bool.not_false, beq_eq_false_iff_ne, bne_eq_false_iff_eq] at hb) <;> first | refine wSkip 8 ?_ | refine wSkipU 8 ?_ | refine wMv 8 ?_))
        all_goals (first | refine wSkip 9 ?_ | refine wSkipU 9 ?_ | refine wCm 9 ?_ | (refine tr_guard (t := 30) rfl (fun hb => ?_) (fun hb => ?_) <;> (try simp only [decide_eq_true_eq, decide_eq_false_iff_not, Bool.not_eq_true, Bool.not_eq_false, beq_iff_eq, bne_iff_ne, ne_eq, Bool.not_eq_eq_eq_not, Bool.not_true, Bool.not_false, beq_eq_false_iff_ne, bne_eq_false_iff_eq] at hb) <;> first | refine wSkip 9 ?_ | refine wSkipU 9 ?_ | refine wCm 9 ?_))
        all_goals (first | refine wSkip 10 ?_ | refine wSkipU 10 ?_ | refine wMv 10 ?_ | (refine tr_guard (t := 30) rfl (fun hb => ?_) (fun hb => ?_) <;> (try simp only [decide_eq_true_eq, decide_eq_false_iff_not, Bool.not_eq_true, Bool.not_eq_false, beq_iff_eq, bne_iff_ne, ne_eq, Bool.not_eq_eq_eq_not, Bool.not_true, Bool.not_false, beq_eq_false_iff_ne, bne_eq_false_iff_eq] at hb) <;> first | refine wSkip 10 ?_ | refine wSkipU 10 ?_ | refine wMv 10 ?_))
        all_goals (first | refine wSkip 11 ?_ | refine wSkipU 11 ?_ | refine wMv 11 ?_ | (refine tr_guard (t := 33) rfl (fun hb => ?_) (fun hb => ?_) <;> (try simp only [decide_eq_true_eq, decide_eq_false_iff_not, Bool.not_eq_true, Bool.not_eq_false, beq_iff_eq, bne_iff_ne, ne_eq, Bool.not_eq_eq_eq_not, Bool.not_true, Bool.not_false, beq_eq_false_iff_ne, bne_eq_false_iff_eq] at hb) <;> first | refine wSkip 11 ?_ | refine wSkipU 11 ?_ | refine wMv 11 ?_))
        all_goals (first | refine wSkip 12 ?_ | refine wSkipU 12 ?_ | refine wMv 12 ?_ | (refine tr_guard (t := 33) rfl (fun hb => ?_) (fun hb => ?_) <;> (try simp only [decide_eq_true_eq, decide_eq_false_iff_not, Bool.not_eq_true, Bool.not_eq_false, beq_iff_eq, bne_iff_ne, ne_eq, Bool.not_eq_eq_eq_not, Bool.not_true, Bool.not_false, beq_eq_false_iff_ne, bne_eq_false_iff_eq] at hb) <;> first | refine wSkip 12 ?_ | refine wSkipU 12 ?_ | refine wMv 12 ?_))
        all_goals (first | refine wSkip 13 ?_ | refine wSkipU 13 ?_ | refine wMv 13 ?_ | (refine tr_guard (t := 33) rfl (fun hb => ?_) (fun hb => ?_) <;> (try simp only [decide_eq_true_eq, decide_eq_false_iff_not, Bool.not_eq_true, Bool.not_eq_false, beq_iff_eq, bne_iff_ne, ne_eq, Bool.not_eq_eq_eq_not, Bool.not_true, Bool.not_false, beq_eq_false_iff_ne, bne_eq_false_iff_eq] at hb) <;> first | refine wSkip 13 ?_ | refine wSkipU 13 ?_ | refine wMv 13 ?_))
        all_goals (first | refine wSkip 14 ?_ | refine wSkipU 14 ?_ | refine wSb 14 ?_ | (refine tr_guard (t := 33) rfl (fun hb => ?_) (fun hb => ?_) <;> (try simp only [decide_eq_true_eq, decide_eq_false_iff_not, Bool.not_eq_true, Bool.not_eq_false, beq_iff_eq, bne_iff_ne, ne_eq, Bool.not_eq_eq_eq_not, Bool.not_true, Bool.not_false, beq_eq_false_iff_ne, bne_eq_false_iff_eq] at hb) <;> first | refine wSkip 14 ?_ | refine wSkipU 14 ?_ | refine wSb 14 ?_))
        all_goals (first | refine wSkip 15 ?_ | refine wSkipU 15 ?_ | refine wIa 15 ?_ | (refine tr_guard (t := 33) rfl (fun hb => ?_) (fun hb => ?_) <;> (try simp only [decide_eq_true_eq, decide_eq_false_iff_not, Bool.not_eq_true, Bool.not_eq_false, beq_iff_eq, bne_iff_ne, ne_eq, Bool.not_eq_eq_eq_not, Bool.not_true, Bool.not_false, beq_eq_false_iff_ne, bne_eq_false_iff_eq] at hb) <;> first | refine wSkip 15 ?_ | refine wSkipU 15 ?_ | refine wIa 15 ?_))
        all_goals (first | refine wSkip 16 ?_ | refine wSkipU 16 ?_ | refine wLd 16 ?_ | (refine tr_guard (t := 33) rfl (fun hb => ?_) (fun hb => ?_) <;> (try simp only [decide_eq_true_eq, decide_eq_false_iff_not, Bool.not_eq_true, Bool.not_eq_false, beq_iff_eq, bne_iff_ne, ne_eq, Bool.not_eq_eq_eq_not, Bool.not_true, Bool.not_false, beq_eq_false_iff_ne, bne_eq_false_iff_eq] at hb) <;> first | refine wSkip 16 ?_ | refine wSkipU 16 ?_ | refine wLd 16 ?_))
        all_goals (first | refine wSkip 18 ?_ | refine wSkipU 18 ?_ | refine wMv 18 ?_ | (refine tr_guard (t := 33) rfl (fun hb => ?_) (fun hb => ?_) <;> (try simp only [decide_eq_true_eq, decide_eq_false_iff_not, Bool.not_eq_true, Bool.not_eq_false, beq_iff_eq, bne_iff_ne, ne_eq, Bool.not_eq_eq_eq_not, Bool.not_true, Bool.not_false, beq_eq_false_iff_ne, bne_eq_false_iff_eq] at hb) <;> first | refine wSkip 18 ?_ | refine wSkipU 18 ?_ | refine wMv 18 ?_))
        all_goals (first | refine wSkip 19 ?_ | refine wSkipU 19 ?_ | refine wLd 19 ?_ | (refine tr_guard (t := 33) rfl (fun hb => ?_) (fun hb => ?_) <;> (try simp only [decide_eq_true_eq, decide_eq_false_iff_not, Bool.not_eq_true, Bool.not_eq_false, beq_iff_eq, bne_iff_ne, ne_eq, Bool.not_eq_eq_eq_not, Bool.not_true, Bool.not_false, beq_eq_false_iff_ne, bne_eq_false_iff_eq] at hb) <;> first | refine wSkip 19 ?_ | refine wSkipU 19 ?_ | refine wLd 19 ?_))
        all_goals (first | refine wSkip 17 ?_ | refine wSkipU 17 ?_ | (refine rStep (i := 17) ?_; ((try refine qWant ?_); (first | (refine tl_is (.tmp 25) ?_; refine qC rfl rfl (inner2_spec _ bx mb es ck _ hm k x) ?_; rintro v ρ' L' hle ⟨rfl, rfl, es', ck', hm', rfl⟩ <;> (try simp only [List.cons_append, List.nil_append, List.append_eq, hx])) | (refine tl_is (.tmp 34) ?_; refine qC rfl rfl (inner1_spec _ _) ?_; rintro v ρ' L' hle ⟨rfl, rfl, rfl⟩ <;> (try simp only [List.cons_append, List.nil_append, List.append_eq])) | (refine tl_is (.tmp 41) ?_; refine qC rfl rfl (inner1_spec _ _) ?_; rintro v ρ' L' hle ⟨rfl, rfl, rfl⟩ <;> (try simp only [List.cons_append, List.nil_append, List.append_eq])) | (refine qEf ?_; try intro _)) <;> ((try simp only [List.cons_append, List.nil_append, List.append_eq]); refine tl_nil ?_; refine rNext ?_))))
        all_goals (first | refine wSkip 20 ?_ | refine wSkipU 20 ?_ | (refine rStep (i := 20) ?_; ((try refine qWant ?_); (first | (refine tl_is (.tmp 25) ?_; refine qC rfl rfl (inner2_spec _ bx mb es ck _ hm k x) ?_; rintro v ρ' L' hle ⟨rfl, rfl, es', ck', hm', rfl⟩ <;> (try simp only [List.cons_append, List.nil_append, List.append_eq, hx])) | (refine tl_is (.tmp 34) ?_; refine qC rfl rfl (inner1_spec _ _) ?_; rintro v ρ' L' hle ⟨rfl, rfl, rfl⟩ <;> (try simp only [List.cons_append, List.nil_append, List.append_eq])) | (refine tl_is (.tmp 41) ?_; refine qC rfl rfl (inner1_spec _ _) ?_; rintro v ρ' L' hle ⟨rfl, rfl, rfl⟩ <;> (try simp only [List.cons_append, List.nil_append, List.append_eq])) | (refine qEf ?_; try intro _)) <;> ((try simp only [List.cons_append, List.nil_append, List.append_eq]); refine tl_nil ?_; refine rNext ?_))))
        all_goals (first | refine wSkip 21 ?_ | refine wSkipU 21 ?_ | (refine rStep (i := 21) ?_; ((try refine qWant ?_); (first | (refine tl_is (.func 138) ?_; refine qC rfl rfl (compare_spec _ _ _ _ _) ?_; rintro v ρ' L' hle ⟨rfl, rfl, rfl⟩ <;> (try simp only [List.cons_append, List.nil_append, List.append_eq])) | (refine qEf ?_; try intro _)) <;> ((try simp only [List.cons_append, List.nil_append, List.append_eq]); refine tl_nil ?_; refine rNext ?_))))
        all_goals refine rFull ?_
        all_goals (first | refine wSkip 22 ?_ | refine wSkipU 22 ?_ | refine wCm 22 ?_ | (refine tr_guard (t := 33) rfl (fun hb => ?_) (fun hb => ?_) <;> (try simp only [decide_eq_true_eq, decide_eq_false_iff_not, Bool.not_eq_true, Bool.not_eq_false, beq_iff_eq, bne_iff_ne, ne_eq, Bool.not_eq_eq_eq_not, Bool.not_true, Bool.not_false, beq_eq_false_iff_ne, bne_eq_false_iff_eq] at hb) <;> first | refine wSkip 22 ?_ | refine wSkipU 22 ?_ | refine wCm 22 ?_))
        all_goals (first | refine wSkip 23 ?_ | refine wSkipU 23 ?_ | refine wPk 23 ?_ | (refine tr_guard (t := 30) rfl (fun hb => ?_) (fun hb => ?_) <;> (try simp only [decide_eq_true_eq, decide_eq_false_iff_not, Bool.not_eq_true, Bool.not_eq_false, beq_iff_eq, bne_iff_ne, ne_eq, Bool.not_eq_eq_eq_not, Bool.not_true, Bool.not_false, beq_eq_false_iff_ne, bne_eq_false_iff_eq] at hb) <;> first | refine wSkip 23 ?_ | refine wSkipU 23 ?_ | refine wPk 23 ?_))
        all_goals refine rPk 24 ?_
        all_goals refine rAs 25 ?_
        all_goals refine rDone ?_
        repeat' (first | (refine i_op ?_; first | (refine i_qq ?_; refine qQ ?_) | refine qEf ?_) | refine tl_nil ?_ | (refine i_tc ?_; refine qTc ?_) | (refine i_te ?_; refine qTe ?_) | intro _)
        exact qE ⟨rfl, rfl, rfl⟩
      · rw [hx, Bool.true_and] at hs
        by_cases hk0 : k = 0
        · have hs' : risesB 4 rt ltK l (k + 1) = true := by rw [hs]; simp [hk0]
          generalize l[k] = x at *
          repeat' (first | (refine i_op ?_; first | (refine i_qq ?_; refine qQ ?_) | refine qEf ?_) | refine tl_nil ?_ | (refine i_tc ?_; refine qTc ?_) | (refine i_te ?_; refine qTe ?_) | intro _)
          rename_i b11
          refine tc_any (Stays _ _ ([[(b11, .cells ⟨kidV x⟩ 174 (0, 0))]])) (stays_of (hT := tk) (Hp.le_refl _)) ?_
          all_goals refine rMv 0 ?_
          all_goals refine rMv 1 ?_
          all_goals (first | refine wSkip 2 ?_ | refine wSkipU 2 ?_ | refine wMv 2 ?_ | (refine tr_guard (t := 24) rfl (fun hb => ?_) (fun hb => ?_) <;> (try simp only [decide_eq_true_eq, decide_eq_false_iff_not, Bool.not_eq_true, Bool.not_eq_false, beq_iff_eq, bne_iff_ne, ne_eq, Bool.not_eq_eq_eq_not, Bool.not_true, Bool.not_false, beq_eq_false_iff_ne, bne_eq_false_iff_eq] at hb) <;> first | refine wSkip 2 ?_ | refine wSkipU 2 ?_ | refine wMv 2 ?_))
          all_goals (first | refine wSkip 3 ?_ | refine wSkipU 3 ?_ | refine wMv 3 ?_ | (refine tr_guard (t := 24) rfl (fun hb => ?_) (fun hb => ?_) <;> (try simp only [decide_eq_true_eq, decide_eq_false_iff_not, Bool.not_eq_true, Bool.not_eq_false, beq_iff_eq, bne_iff_ne, ne_eq, Bool.not_eq_eq_eq_not, Bool.not_true, Bool.not_false, beq_eq_false_iff_ne, bne_eq_false_iff_eq] at hb) <;> first | refine wSkip 3 ?_ | refine wSkipU 3 ?_ | refine wMv 3 ?_))
          all_goals (first | refine wSkip 4 ?_ | refine wSkipU 4 ?_ | refine wLd 4 ?_ | (refine tr_guard (t := 24) rfl (fun hb => ?_) (fun hb => ?_) <;> (try simp only [decide_eq_true_eq, decide_eq_false_iff_not, Bool.not_eq_true, Bool.not_eq_false, beq_iff_eq, bne_iff_ne, ne_eq, Bool.not_eq_eq_eq_not, Bool.not_true, Bool.not_false, beq_eq_false_iff_ne, bne_eq_false_iff_eq] at hb) <;> first | refine wSkip 4 ?_ | refine wSkipU 4 ?_ | refine wLd 4 ?_))
          all_goals (first | refine wSkip 5 ?_ | refine wSkipU 5 ?_ | (refine rStep (i := 5) ?_; ((try refine qWant ?_); (first | (refine tl_is (.tmp 25) ?_; refine qC rfl rfl (inner2_spec _ bx mb es ck _ hm k x) ?_; rintro v ρ' L' hle ⟨rfl, rfl, es', ck', hm', rfl⟩ <;> (try simp only [List.cons_append, List.nil_append, List.append_eq, hx])) | (refine tl_is (.tmp 34) ?_; refine qC rfl rfl (inner1_spec _ _) ?_; rintro v ρ' L' hle ⟨rfl, rfl, rfl⟩ <;> (try simp only [List.cons_append, List.nil_append, List.append_eq])) | (refine tl_is (.tmp 41) ?_; refine qC rfl rfl (inner1_spec _ _) ?_; rintro v ρ' L' hle ⟨rfl, rfl, rfl⟩ <;> (try simp only [List.cons_append, List.nil_append, List.append_eq])) | (refine qEf ?_; try intro _)) <;> ((try simp only [List.cons_append, List.nil_append, List.append_eq]); refine tl_nil ?_; refine rNext ?_))))
          all_goals refine rPk 6 ?_
          all_goals refine rMv 7 ?_
          all_goals (first | refine wSkip 8 ?_ | refine wSkipU 8 ?_ | refine wMv 8 ?_ | (refine tr_guard (t := 30) rfl (fun hb => ?_) (fun hb => ?_) <;> (try simp only [decide_eq_true_eq, decide_eq_false_iff_not, Bool.not_eq_true, Bool.not_eq_false, beq_iff_eq, bne_iff_ne, ne_eq, Bool.not_eq_eq_eq_not, Bool.not_true, Bool.not_false, beq_eq_false_iff_ne, bne_eq_false_iff_eq] at hb) <;> first | refine wSkip 8 ?_ | refine wSkipU 8 ?_ | refine wMv 8 ?_))
          all_goals (first | refine wSkip 9 ?_ | refine wSkipU 9 ?_ | refine wCm 9 ?_ | (refine tr_guard (t := 30) rfl (fun hb => ?_) (fun hb => ?_) <;> (try simp only [decide_eq_true_eq, decide_eq_false_iff_not, Bool.not_eq_true, Bool.not_eq_false, beq_iff_eq, bne_iff_ne, ne_eq, Bool.not_eq_eq_eq_not, Bool.not_true, Bool.not_false, beq_eq_false_iff_ne, bne_eq_false_iff_eq] at hb) <;> first | refine wSkip 9 ?_ | refine wSkipU 9 ?_ | refine wCm 9 ?_))
          all_goals (first | refine wSkip 10 ?_ | refine wSkipU 10 ?_ | refine wMv 10 ?_ | (refine tr_guard (t := 30) rfl (fun hb => ?_) (fun hb => ?_) <;> (try simp only [decide_eq_true_eq, decide_eq_false_iff_not, Bool.not_eq_true, Bool.not_eq_false, beq_iff_eq, bne_iff_ne, ne_eq, Bool.not_eq_eq_eq_not, Bool.not_true, Bool.not_false, beq_eq_false_iff_ne, bne_eq_false_iff_eq] at hb) <;> first | refine wSkip 10 ?_ | refine wSkipU 10 ?_ | refine wMv 10 ?_))
          all_goals (first | refine wSkip 11 ?_ | refine wSkipU 11 ?_ | refine wMv 11 ?_ | (refine tr_guard (t := 33) rfl (fun hb => ?_) (fun hb => ?_) <;> (try simp only [decide_eq_true_eq, decide_eq_false_iff_not, Bool.not_eq_true, Bool.not_eq_false, beq_iff_eq, bne_iff_ne, ne_eq, Bool.not_eq_eq_eq_not, Bool.not_true, Bool.not_false, beq_eq_false_iff_ne, bne_eq_false_iff_eq] at hb) <;> first | refine wSkip 11 ?_ | refine wSkipU 11 ?_ | refine wMv 11 ?_))
          all_goals (first | refine wSkip 12 ?_ | refine wSkipU 12 ?_ | refine wMv 12 ?_ | (refine tr_guard (t := 33) rfl (fun hb => ?_) (fun hb => ?_) <;> (try simp only [decide_eq_true_eq, decide_eq_false_iff_not, Bool.not_eq_true, Bool.not_eq_false, beq_iff_eq, bne_iff_ne, ne_eq, Bool.not_eq_eq_eq_not, Bool.not_true, Bool.not_false, beq_eq_false_iff_ne, bne_eq_false_iff_eq] at hb) <;> first | refine wSkip 12 ?_ | refine wSkipU 12 ?_ | refine wMv 12 ?_))
          all_goals (first | refine wSkip 13 ?_ | refine wSkipU 13 ?_ | refine wMv 13 ?_ | (refine tr_guard (t := 33) rfl (fun hb => ?_) (fun hb => ?_) <;> (try simp only [decide_eq_true_eq, decide_eq_false_iff_not, Bool.not_eq_true, Bool.not_eq_false, beq_iff_eq, bne_iff_ne, ne_eq, Bool.not_eq_eq_eq_not, Bool.not_true, Bool.not_false, beq_eq_false_iff_ne, bne_eq_false_iff_eq] at hb) <;> first | refine wSkip 13 ?_ | refine wSkipU 13 ?_ | refine wMv 13 ?_))
          all_goals (first | refine wSkip 14 ?_ | refine wSkipU 14 ?_ | refine wSb 14 ?_ | (refine tr_guard (t := 33) rfl (fun hb => ?_) (fun hb => ?_) <;> (try simp only [decide_eq_true_eq, decide_eq_false_iff_not, Bool.not_eq_true, Bool.not_eq_false, beq_iff_eq, bne_iff_ne, ne_eq, Bool.not_eq_eq_eq_not, Bool.not_true, Bool.not_false, beq_eq_false_iff_ne, bne_eq_false_iff_eq] at hb) <;> first | refine wSkip 14 ?_ | refine wSkipU 14 ?_ | refine wSb 14 ?_))
          all_goals (first | refine wSkip 15 ?_ | refine wSkipU 15 ?_ | refine wIa 15 ?_ | (refine tr_guard (t := 33) rfl (fun hb => ?_) (fun hb => ?_) <;> (try simp only [decide_eq_true_eq, decide_eq_false_iff_not, Bool.not_eq_true, Bool.not_eq_false, beq_iff_eq, bne_iff_ne, ne_eq, Bool.not_eq_eq_eq_not, Bool.not_true, Bool.not_false, beq_eq_false_iff_ne, bne_eq_false_iff_eq] at hb) <;> first | refine wSkip 15 ?_ | refine wSkipU 15 ?_ | refine wIa 15 ?_))
          all_goals (first | refine wSkip 16 ?_ | refine wSkipU 16 ?_ | refine wLd 16 ?_ | (refine tr_guard (t := 33) rfl (fun hb => ?_) (fun hb => ?_) <;> (try simp only [decide_eq_true_eq, decide_eq_false_iff_not, Bool.not_eq_true, Bool.not_eq_false, beq_iff_eq, bne_iff_ne, ne_eq, Bool.not_eq_eq_eq_not, Bool.not_true, Bool.not_false, beq_eq_false_iff_ne, bne_eq_false_iff_eq] at hb) <;> first | refine wSkip 16 ?_ | refine wSkipU 16 ?_ | refine wLd 16 ?_))
          all_goals (first | refine wSkip 18 ?_ | refine wSkipU 18 ?_ | refine wMv 18 ?_ | (refine tr_guard (t := 33) rfl (fun hb => ?_) (fun hb => ?_) <;> (try simp only [decide_eq_true_eq, decide_eq_false_iff_not, Bool.not_eq_true, Bool.not_eq_false, beq_iff_eq, bne_iff_ne, ne_eq, Bool.not_eq_eq_eq_not, Bool.not_true, Bool.not_false, beq_eq_false_iff_ne, bne_eq_false_iff_eq] at hb) <;> first | refine wSkip 18 ?_ | refine wSkipU 18 ?_ | refine wMv 18 ?_))
          all_goals (first | refine wSkip 19 ?_ | refine wSkipU 19 ?_ | refine wLd 19 ?_ | (refine tr_guard (t := 33) rfl (fun hb => ?_) (fun hb => ?_) <;> (try simp only [decide_eq_true_eq, decide_eq_false_iff_not, Bool.not_eq_true, Bool.not_eq_false, beq_iff_eq, bne_iff_ne, ne_eq, Bool.not_eq_eq_eq_not, Bool.not_true, Bool.not_false, beq_eq_false_iff_ne, bne_eq_false_iff_eq] at hb) <;> first | refine wSkip 19 ?_ | refine wSkipU 19 ?_ | refine wLd 19 ?_))
          all_goals (first | refine wSkip 17 ?_ | refine wSkipU 17 ?_ | (refine rStep (i := 17) ?_; ((try refine qWant ?_); (first | (refine tl_is (.tmp 25) ?_; refine qC rfl rfl (inner2_spec _ bx mb es ck _ hm k x) ?_; rintro v ρ' L' hle ⟨rfl, rfl, es', ck', hm', rfl⟩ <;> (try simp only [List.cons_append, List.nil_append, List.append_eq, hx])) | (refine tl_is (.tmp 34) ?_; refine qC rfl rfl (inner1_spec _ _) ?_; rintro v ρ' L' hle ⟨rfl, rfl, rfl⟩ <;> (try simp only [List.cons_append, List.nil_append, List.append_eq])) | (refine tl_is (.tmp 41) ?_; refine qC rfl rfl (inner1_spec _ _) ?_; rintro v ρ' L' hle ⟨rfl, rfl, rfl⟩ <;> (try simp only [List.cons_append, List.nil_append, List.append_eq])) | (refine qEf ?_; try intro _)) <;> ((try simp only [List.cons_append, List.nil_append, List.append_eq]); refine tl_nil ?_; refine rNext ?_))))
          all_goals (first | refine wSkip 20 ?_ | refine wSkipU 20 ?_ | (refine rStep (i := 20) ?_; ((try refine qWant ?_); (first | (refine tl_is (.tmp 25) ?_; refine qC rfl rfl (inner2_spec _ bx mb es ck _ hm k x) ?_; rintro v ρ' L' hle ⟨rfl, rfl, es', ck', hm', rfl⟩ <;> (try simp only [List.cons_append, List.nil_append, List.append_eq, hx])) | (refine tl_is (.tmp 34) ?_; refine qC rfl rfl (inner1_spec _ _) ?_; rintro v ρ' L' hle ⟨rfl, rfl, rfl⟩ <;> (try simp only [List.cons_append, List.nil_append, List.append_eq])) | (refine tl_is (.tmp 41) ?_; refine qC rfl rfl (inner1_spec _ _) ?_; rintro v ρ' L' hle ⟨rfl, rfl, rfl⟩ <;> (try simp only [List.cons_append, List.nil_append, List.append_eq])) | (refine qEf ?_; try intro _)) <;> ((try simp only [List.cons_append, List.nil_append, List.append_eq]); refine tl_nil ?_; refine rNext ?_))))
          all_goals (first | refine wSkip 21 ?_ | refine wSkipU 21 ?_ | (refine rStep (i := 21) ?_; ((try refine qWant ?_); (first | (refine tl_is (.func 138) ?_; refine qC rfl rfl (compare_spec _ _ _ _ _) ?_; rintro v ρ' L' hle ⟨rfl, rfl, rfl⟩ <;> (try simp only [List.cons_append, List.nil_append, List.append_eq])) | (refine qEf ?_; try intro _)) <;> ((try simp only [List.cons_append, List.nil_append, List.append_eq]); refine tl_nil ?_; refine rNext ?_))))
          all_goals refine rFull ?_
          all_goals (first | refine wSkip 22 ?_ | refine wSkipU 22 ?_ | refine wCm 22 ?_ | (refine tr_guard (t := 33) rfl (fun hb => ?_) (fun hb => ?_) <;> (try simp only [decide_eq_true_eq, decide_eq_false_iff_not, Bool.not_eq_true, Bool.not_eq_false, beq_iff_eq, bne_iff_ne, ne_eq, Bool.not_eq_eq_eq_not, Bool.not_true, Bool.not_false, beq_eq_false_iff_ne, bne_eq_false_iff_eq] at hb) <;> first | refine wSkip 22 ?_ | refine wSkipU 22 ?_ | refine wCm 22 ?_))
          all_goals (first | refine wSkip 23 ?_ | refine wSkipU 23 ?_ | refine wPk 23 ?_ | (refine tr_guard (t := 30) rfl (fun hb => ?_) (fun hb => ?_) <;> (try simp only [decide_eq_true_eq, decide_eq_false_iff_not, Bool.not_eq_true, Bool.not_eq_false, beq_iff_eq, bne_iff_ne, ne_eq, Bool.not_eq_eq_eq_not, Bool.not_true, Bool.not_false, beq_eq_false_iff_ne, bne_eq_false_iff_eq] at hb) <;> first | refine wSkip 23 ?_ | refine wSkipU 23 ?_ | refine wPk 23 ?_))
          all_goals refine rPk 24 ?_
          all_goals refine rAs 25 ?_
          all_goals refine rDone ?_
          repeat' (first | (refine i_op ?_; first | (refine i_qq ?_; refine qQ ?_) | refine qEf ?_) | refine tl_nil ?_ | (refine i_tc ?_; refine qTc ?_) | (refine i_te ?_; refine qTe ?_) | intro _)
          rw [← hs']
          refine te_round_g (k + 1, es', ck') (⟨hlt, by dsimp only; rw [hps]; exact hm'⟩) ev_le ev_le rfl tk inferInstance (by first | omega | (dsimp only; omega))
        · have hd : decide (k = 0) = false := decide_eq_false hk0
          obtain ⟨b2, off2, C2, T2, fr2, f1, hb2, hfit2, hc2⟩ := h.get (show k - 1 < l.length by omega)
          cases f1
          rw [hb] at hb2
          cases hb2
          have ek : ((k : Int) - 1).toNat = k - 1 := by omega
          rw [← ek] at hfit2
          have hc3 : List.take 3 (List.drop (off + ((k : Int) - 1).toNat * 3) C) = kidV (l[k - 1]'(by omega)) := by rw [ek]; exact hc2
          clear hc2
          rw [hd, Bool.false_or] at hs
          generalize l[k] = x at *
          generalize l[k - 1]'(by omega) = y at *
          unfold ltK at hs
          by_cases hcm : cmpK y.t y.id x.t x.id < 0
          · rw [decide_eq_true hcm] at hs
            repeat' (first | (refine i_op ?_; first | (refine i_qq ?_; refine qQ ?_) | refine qEf ?_) | refine tl_nil ?_ | (refine i_tc ?_; refine qTc ?_) | (refine i_te ?_; refine qTe ?_) | intro _)
            rename_i b11
            refine tc_any (Stays _ _ ([[(b11, .cells ⟨kidV x⟩ 174 (0, 0))]])) (stays_of (hT := tk) (Hp.le_refl _)) ?_
            all_goals refine rMv 0 ?_
            all_goals refine rMv 1 ?_
            all_goals (first | refine wSkip 2 ?_ | refine wSkipU 2 ?_ | refine wMv 2 ?_ | (refine tr_guard (t := 24) rfl (fun hb => ?_) (fun hb => ?_) <;> (try simp only [decide_eq_true_eq, decide_eq_false_iff_not, Bool.not_eq_true, Bool.not_eq_false, beq_iff_eq, bne_iff_ne, ne_eq, Bool.not_eq_eq_eq_not, Bool.not_true, Bool.not_false, beq_eq_false_iff_ne, bne_eq_false_iff_eq] at hb) <;> first | refine wSkip 2 ?_ | refine wSkipU 2 ?_ | refine wMv 2 ?_))
            all_goals (first | refine wSkip 3 ?_ | refine wSkipU 3 ?_ | refine wMv 3 ?_ | (refine tr_guard (t := 24) rfl (fun hb => ?_) (fun hb => ?_) <;> (try simp only [decide_eq_true_eq, decide_eq_false_iff_not, Bool.not_eq_true, Bool.not_eq_false, beq_iff_eq, bne_iff_ne, ne_eq, Bool.not_eq_eq_eq_not, Bool.not_true, Bool.not_false, beq_eq_false_iff_ne, bne_eq_false_iff_eq] at hb) <;> first | refine wSkip 3 ?_ | refine wSkipU 3 ?_ | refine wMv 3 ?_))
            all_goals (first | refine wSkip 4 ?_ | refine wSkipU 4 ?_ | refine wLd 4 ?_ | (refine tr_guard (t := 24) rfl (fun hb => ?_) (fun hb => ?_) <;> (try simp only [decide_eq_true_eq, decide_eq_false_iff_not, Bool.not_eq_true, Bool.not_eq_false, beq_iff_eq, bne_iff_ne, ne_eq, Bool.not_eq_eq_eq_not, Bool.not_true, Bool.not_false, beq_eq_false_iff_ne, bne_eq_false_iff_eq] at hb) <;> first | refine wSkip 4 ?_ | refine wSkipU 4 ?_ | refine wLd 4 ?_))
            all_goals (first | refine wSkip 5 ?_ | refine wSkipU 5 ?_ | (refine rStep (i := 5) ?_; ((try refine qWant ?_); (first | (refine tl_is (.tmp 25) ?_; refine qC rfl rfl (inner2_spec _ bx mb es ck _ hm k x) ?_; rintro v ρ' L' hle ⟨rfl, rfl, es', ck', hm', rfl⟩ <;> (try simp only [List.cons_append, List.nil_append, List.append_eq, hx])) | (refine tl_is (.tmp 34) ?_; refine qC rfl rfl (inner1_spec _ _) ?_; rintro v ρ' L' hle ⟨rfl, rfl, rfl⟩ <;> (try simp only [List.cons_append, List.nil_append, List.append_eq])) | (refine tl_is (.tmp 41) ?_; refine qC rfl rfl (inner1_spec _ _) ?_; rintro v ρ' L' hle ⟨rfl, rfl, rfl⟩ <;> (try simp only [List.cons_append, List.nil_append, List.append_eq])) | (refine qEf ?_; try intro _)) <;> ((try simp only [List.cons_append, List.nil_append, List.append_eq]); refine tl_nil ?_; refine rNext ?_))))
            all_goals refine rPk 6 ?_
            all_goals refine rMv 7 ?_
            all_goals (first | refine wSkip 8 ?_ | refine wSkipU 8 ?_ | refine wMv 8 ?_ | (refine tr_guard (t := 30) rfl (fun hb => ?_) (fun hb => ?_) <;> (try simp only [decide_eq_true_eq, decide_eq_false_iff_not, Bool.not_eq_true, Bool.not_eq_false, beq_iff_eq, bne_iff_ne, ne_eq, Bool.not_eq_eq_eq_not, Bool.not_true, Bool.not_false, beq_eq_false_iff_ne, bne_eq_false_iff_eq] at hb) <;> first | refine wSkip 8 ?_ | refine wSkipU 8 ?_ | refine wMv 8 ?_))
            all_goals (first | refine wSkip 9 ?_ | refine wSkipU 9 ?_ | refine wCm 9 ?_ | (refine tr_guard (t := 30) rfl (fun hb => ?_) (fun hb => ?_) <;> (try simp only [decide_eq_true_eq, decide_eq_false_iff_not, Bool.not_eq_true, Bool.not_eq_false, beq_iff_eq, bne_iff_ne, ne_eq, Bool.not_eq_eq_eq_not, Bool.not_true, Bool.not_false, beq_eq_false_iff_ne, bne_eq_false_iff_eq] at hb) <;> first | refine wSkip 9 ?_ | refine wSkipU 9 ?_ | refine wCm 9 ?_))
            all_goals (first | refine wSkip 10 ?_ | refine wSkipU 10 ?_ | refine wMv 10 ?_ | (refine tr_guard (t := 30) rfl (fun hb => ?_) (fun hb => ?_) <;> (try simp only [decide_eq_true_eq, decide_eq_false_iff_not, Bool.not_eq_true, Bool.not_eq_false, beq_iff_eq, bne_iff_ne, ne_eq, Bool.not_eq_eq_eq_not, Bool.not_true, Bool.not_false, beq_eq_false_iff_ne, bne_eq_false_iff_eq] at hb) <;> first | refine wSkip 10 ?_ | refine wSkipU 10 ?_ | refine wMv 10 ?_))
            all_goals (first | refine wSkip 11 ?_ | refine wSkipU 11 ?_ | refine wMv 11 ?_ | (refine tr_guard (t := 33) rfl (fun hb => ?_) (fun hb => ?_) <;> (try simp only [decide_eq_true_eq, decide_eq_false_iff_not, Bool.not_eq_true, Bool.not_eq_false, beq_iff_eq, bne_iff_ne, ne_eq, Bool.not_eq_eq_eq_not, Bool.not_true, Bool.not_false, beq_eq_false_iff_ne, bne_eq_false_iff_eq] at hb) <;> first | refine wSkip 11 ?_ | refine wSkipU 11 ?_ | refine wMv 11 ?_))
            all_goals (first | refine wSkip 12 ?_ | refine wSkipU 12 ?_ | refine wMv 12 ?_ | (refine tr_guard (t := 33) rfl (fun hb => ?_) (fun hb => ?_) <;> (try simp only [decide_eq_true_eq, decide_eq_false_iff_not, Bool.not_eq_true, Bool.not_eq_false, beq_iff_eq, bne_iff_ne, ne_eq, Bool.not_eq_eq_eq_not, Bool.not_true, Bool.not_false, beq_eq_false_iff_ne, bne_eq_false_iff_eq] at hb) <;> first | refine wSkip 12 ?_ | refine wSkipU 12 ?_ | refine wMv 12 ?_))
            all_goals (first | refine wSkip 13 ?_ | refine wSkipU 13 ?_ | refine wMv 13 ?_ | (refine tr_guard (t := 33) rfl (fun hb => ?_) (fun hb => ?_) <;> (try simp only [decide_eq_true_eq, decide_eq_false_iff_not, Bool.not_eq_true, Bool.not_eq_false, beq_iff_eq, bne_iff_ne, ne_eq, Bool.not_eq_eq_eq_not, Bool.not_true, Bool.not_false, beq_eq_false_iff_ne, bne_eq_false_iff_eq] at hb) <;> first | refine wSkip 13 ?_ | refine wSkipU 13 ?_ | refine wMv 13 ?_))
            all_goals (first | refine wSkip 14 ?_ | refine wSkipU 14 ?_ | refine wSb 14 ?_ | (refine tr_guard (t := 33) rfl (fun hb => ?_) (fun hb => ?_) <;> (try simp only [decide_eq_true_eq, decide_eq_false_iff_not, Bool.not_eq_true, Bool.not_eq_false, beq_iff_eq, bne_iff_ne, ne_eq, Bool.not_eq_eq_eq_not, Bool.not_true, Bool.not_false, beq_eq_false_iff_ne, bne_eq_false_iff_eq] at hb) <;> first | refine wSkip 14 ?_ | refine wSkipU 14 ?_ | refine wSb 14 ?_))
            all_goals (first | refine wSkip 15 ?_ | refine wSkipU 15 ?_ | refine wIa 15 ?_ | (refine tr_guard (t := 33) rfl (fun hb => ?_) (fun hb => ?_) <;> (try simp only [decide_eq_true_eq, decide_eq_false_iff_not, Bool.not_eq_true, Bool.not_eq_false, beq_iff_eq, bne_iff_ne, ne_eq, Bool.not_eq_eq_eq_not, Bool.not_true, Bool.not_false, beq_eq_false_iff_ne, bne_eq_false_iff_eq] at hb) <;> first | refine wSkip 15 ?_ | refine wSkipU 15 ?_ | refine wIa 15 ?_))
            all_goals (first | refine wSkip 16 ?_ | refine wSkipU 16 ?_ | refine wLd 16 ?_ | (refine tr_guard (t := 33) rfl (fun hb => ?_) (fun hb => ?_) <;> (try simp only [decide_eq_true_eq, decide_eq_false_iff_not, Bool.not_eq_true, Bool.not_eq_false, beq_iff_eq, bne_iff_ne, ne_eq, Bool.not_eq_eq_eq_not, Bool.not_true, Bool.not_false, beq_eq_false_iff_ne, bne_eq_false_iff_eq] at hb) <;> first | refine wSkip 16 ?_ | refine wSkipU 16 ?_ | refine wLd 16 ?_))
            all_goals (first | refine wSkip 18 ?_ | refine wSkipU 18 ?_ | refine wMv 18 ?_ | (refine tr_guard (t := 33) rfl (fun hb => ?_) (fun hb => ?_) <;> (try simp only [decide_eq_true_eq, decide_eq_false_iff_not, Bool.not_eq_true, Bool.not_eq_false, beq_iff_eq, bne_iff_ne, ne_eq, Bool.not_eq_eq_eq_not, Bool.not_true, Bool.not_false, beq_eq_false_iff_ne, bne_eq_false_iff_eq] at hb) <;> first | refine wSkip 18 ?_ | refine wSkipU 18 ?_ | refine wMv 18 ?_))
            all_goals (first | refine wSkip 19 ?_ | refine wSkipU 19 ?_ | refine wLd 19 ?_ | (refine tr_guard (t := 33) rfl (fun hb => ?_) (fun hb => ?_) <;> (try simp only [decide_eq_true_eq, decide_eq_false_iff_not, Bool.not_eq_true, Bool.not_eq_false, beq_iff_eq, bne_iff_ne, ne_eq, Bool.not_eq_eq_eq_not, Bool.not_true, Bool.not_false, beq_eq_false_iff_ne, bne_eq_false_iff_eq] at hb) <;> first | refine wSkip 19 ?_ | refine wSkipU 19 ?_ | refine wLd 19 ?_))
            all_goals (first | refine wSkip 17 ?_ | refine wSkipU 17 ?_ | (refine rStep (i := 17) ?_; ((try refine qWant ?_); (first | (refine tl_is (.tmp 25) ?_; refine qC rfl rfl (inner2_spec _ bx mb es ck _ hm k x) ?_; rintro v ρ' L' hle ⟨rfl, rfl, es', ck', hm', rfl⟩ <;> (try simp only [List.cons_append, List.nil_append, List.append_eq, hx])) | (refine tl_is (.tmp 34) ?_; refine qC rfl rfl (inner1_spec _ _) ?_; rintro v ρ' L' hle ⟨rfl, rfl, rfl⟩ <;> (try simp only [List.cons_append, List.nil_append, List.append_eq])) | (refine tl_is (.tmp 41) ?_; refine qC rfl rfl (inner1_spec _ _) ?_; rintro v ρ' L' hle ⟨rfl, rfl, rfl⟩ <;> (try simp only [List.cons_append, List.nil_append, List.append_eq])) | (refine qEf ?_; try intro _)) <;> ((try simp only [List.cons_append, List.nil_append, List.append_eq]); refine tl_nil ?_; refine rNext ?_))))
            all_goals (first | refine wSkip 20 ?_ | refine wSkipU 20 ?_ | (refine rStep (i := 20) ?_; ((try refine qWant ?_); (first | (refine tl_is (.tmp 25) ?_; refine qC rfl rfl (inner2_spec _ bx mb es ck _ hm k x) ?_; rintro v ρ' L' hle ⟨rfl, rfl, es', ck', hm', rfl⟩ <;> (try simp only [List.cons_append, List.nil_append, List.append_eq, hx])) | (refine tl_is (.tmp 34) ?_; refine qC rfl rfl (inner1_spec _ _) ?_; rintro v ρ' L' hle ⟨rfl, rfl, rfl⟩ <;> (try simp only [List.cons_append, List.nil_append, List.append_eq])) | (refine tl_is (.tmp 41) ?_; refine qC rfl rfl (inner1_spec _ _) ?_; rintro v ρ' L' hle ⟨rfl, rfl, rfl⟩ <;> (try simp only [List.cons_append, List.nil_append, List.append_eq])) | (refine qEf ?_; try intro _)) <;> ((try simp only [List.cons_append, List.nil_append, List.append_eq]); refine tl_nil ?_; refine rNext ?_))))
            all_goals (first | refine wSkip 21 ?_ | refine wSkipU 21 ?_ | (refine rStep (i := 21) ?_; ((try refine qWant ?_); (first | (refine tl_is (.func 138) ?_; refine qC rfl rfl (compare_spec _ _ _ _ _) ?_; rintro v ρ' L' hle ⟨rfl, rfl, rfl⟩ <;> (try simp only [List.cons_append, List.nil_append, List.append_eq])) | (refine qEf ?_; try intro _)) <;> ((try simp only [List.cons_append, List.nil_append, List.append_eq]); refine tl_nil ?_; refine rNext ?_))))
            all_goals refine rFull ?_
            all_goals (first | refine wSkip 22 ?_ | refine wSkipU 22 ?_ | refine wCm 22 ?_ | (refine tr_guard (t := 33) rfl (fun hb => ?_) (fun hb => ?_) <;> (try simp only [decide_eq_true_eq, decide_eq_false_iff_not, Bool.not_eq_true, Bool.not_eq_false, beq_iff_eq, bne_iff_ne, ne_eq, Bool.not_eq_eq_eq_not, Bool.not_true, Bool.not_false, beq_eq_false_iff_ne, bne_eq_false_iff_eq] at hb) <;> first | refine wSkip 22 ?_ | refine wSkipU 22 ?_ | refine wCm 22 ?_))
            all_goals (first | refine wSkip 23 ?_ | refine wSkipU 23 ?_ | refine wPk 23 ?_ | (refine tr_guard (t := 30) rfl (fun hb => ?_) (fun hb => ?_) <;> (try simp only [decide_eq_true_eq, decide_eq_false_iff_not, Bool.not_eq_true, Bool.not_eq_false, beq_iff_eq, bne_iff_ne, ne_eq, Bool.not_eq_eq_eq_not, Bool.not_true, Bool.not_false, beq_eq_false_iff_ne, bne_eq_false_iff_eq] at hb) <;> first | refine wSkip 23 ?_ | refine wSkipU 23 ?_ | refine wPk 23 ?_))
            all_goals refine rPk 24 ?_
            all_goals refine rAs 25 ?_
            all_goals refine rDone ?_
            all_goals (repeat' (first | (refine i_op ?_; first | (refine i_qq ?_; refine qQ ?_) | refine qEf ?_) | refine tl_nil ?_ | (refine i_tc ?_; refine qTc ?_) | (refine i_te ?_; refine qTe ?_) | intro _))
            all_goals rw [← show risesB 4 rt ltK l (k + 1) = true from hs]
            all_goals refine te_round_g (k + 1, es', ck') (⟨hlt, by dsimp only; rw [hps]; exact hm'⟩) ev_le ev_le rfl tk inferInstance (by first | omega | (dsimp only; omega))
          · rw [decide_eq_false hcm] at hs
            rw [hfin hs]
            repeat' (first | (refine i_op ?_; first | (refine i_qq ?_; refine qQ ?_) | refine qEf ?_) | refine tl_nil ?_ | (refine i_tc ?_; refine qTc ?_) | (refine i_te ?_; refine qTe ?_) | intro _)
            rename_i b11
            refine tc_any (Stays _ _ ([[(b11, .cells ⟨kidV x⟩ 174 (0, 0))]])) (stays_of (hT := tk) (Hp.le_refl _)) ?_
            all_goals refine rMv 0 ?_
            all_goals refine rMv 1 ?_
            all_goals (first | refine wSkip 2 ?_ | refine wSkipU 2 ?_ | refine wMv 2 ?_ | (refine tr_guard (t := 24) rfl (fun hb => ?_) (fun hb => ?_) <;> (try simp only [decide_eq_true_eq, decide_eq_false_iff_not, Bool.not_eq_true, Bool.not_eq_false, beq_iff_eq, bne_iff_ne, ne_eq, Bool.not_eq_eq_eq_not, Bool.not_true, Bool.not_false, beq_eq_false_iff_ne, bne_eq_false_iff_eq] at hb) <;> first | refine wSkip 2 ?_ | refine wSkipU 2 ?_ | refine wMv 2 ?_))
            all_goals (first | refine wSkip 3 ?_ | refine wSkipU 3 ?_ | refine wMv 3 ?_ | (refine tr_guard (t := 24) rfl (fun hb => ?_) (fun hb => ?_) <;> (try simp only [decide_eq_true_eq, decide_eq_false_iff_not, Bool.not_eq_true, Bool.not_eq_false, beq_iff_eq, bne_iff_ne, ne_eq, Bool.not_eq_eq_eq_not, Bool.not_true, Bool.not_false, beq_eq_false_iff_ne, bne_eq_false_iff_eq] at hb) <;> first | refine wSkip 3 ?_ | refine wSkipU 3 ?_ | refine wMv 3 ?_))
            all_goals (first | refine wSkip 4 ?_ | refine wSkipU 4 ?_ | refine wLd 4 ?_ | (refine tr_guard (t := 24) rfl (fun hb => ?_) (fun hb => ?_) <;> (try simp only [decide_eq_true_eq, decide_eq_false_iff_not, Bool.not_eq_true, Bool.not_eq_false, beq_iff_eq, bne_iff_ne, ne_eq, Bool.not_eq_eq_eq_not, Bool.not_true, Bool.not_false, beq_eq_false_iff_ne, bne_eq_false_iff_eq] at hb) <;> first | refine wSkip 4 ?_ | refine wSkipU 4 ?_ | refine wLd 4 ?_))
            all_goals (first | refine wSkip 5 ?_ | refine wSkipU 5 ?_ | (refine rStep (i := 5) ?_; ((try refine qWant ?_); (first | (refine tl_is (.tmp 25) ?_; refine qC rfl rfl (inner2_spec _ bx mb es ck _ hm k x) ?_; rintro v ρ' L' hle ⟨rfl, rfl, es', ck', hm', rfl⟩ <;> (try simp only [List.cons_append, List.nil_append, List.append_eq, hx])) | (refine tl_is (.tmp 34) ?_; refine qC rfl rfl (inner1_spec _ _) ?_; rintro v ρ' L' hle ⟨rfl, rfl, rfl⟩ <;> (try simp only [List.cons_append, List.nil_append, List.append_eq])) | (refine tl_is (.tmp 41) ?_; refine qC rfl rfl (inner1_spec _ _) ?_; rintro v ρ' L' hle ⟨rfl, rfl, rfl⟩ <;> (try simp only [List.cons_append, List.nil_append, List.append_eq])) | (refine qEf ?_; try intro _)) <;> ((try simp only [List.cons_append, List.nil_append, List.append_eq]); refine tl_nil ?_; refine rNext ?_))))
            all_goals refine rPk 6 ?_
            all_goals refine rMv 7 ?_
            all_goals (first | refine wSkip 8 ?_ | refine wSkipU 8 ?_ | refine wMv 8 ?_ | (refine tr_guard (t := 30) rfl (fun hb => ?_) (fun hb => ?_) <;> (try simp only [decide_eq_true_eq, decide_eq_false_iff_not, Bool.not_eq_true, Bool.not_eq_false, beq_iff_eq, bne_iff_ne, ne_eq, Bool.not_eq_eq_eq_not, Bool.not_true, Bool.not_false, beq_eq_false_iff_ne, bne_eq_false_iff_eq] at hb) <;> first | refine wSkip 8 ?_ | refine wSkipU 8 ?_ | refine wMv 8 ?_))
            all_goals (first | refine wSkip 9 ?_ | refine wSkipU 9 ?_ | refine wCm 9 ?_ | (refine tr_guard (t := 30) rfl (fun hb => ?_) (fun hb => ?_) <;> (try simp only [decide_eq_true_eq, decide_eq_false_iff_not, Bool.not_eq_true, Bool.not_eq_false, beq_iff_eq, bne_iff_ne, ne_eq, Bool.not_eq_eq_eq_not, Bool.not_true, Bool.not_false, beq_eq_false_iff_ne, bne_eq_false_iff_eq] at hb) <;> first | refine wSkip 9 ?_ | refine wSkipU 9 ?_ | refine wCm 9 ?_))
            all_goals (first | refine wSkip 10 ?_ | refine wSkipU 10 ?_ | refine wMv 10 ?_ | (refine tr_guard (t := 30) rfl (fun hb => ?_) (fun hb => ?_) <;> (try simp only [decide_eq_true_eq, decide_eq_false_iff_not, Bool.not_eq_true, Bool.not_eq_false, beq_iff_eq, bne_iff_ne, ne_eq, Bool.not_eq_eq_eq_not, Bool.not_true, Bool.not_false, beq_eq_false_iff_ne, bne_eq_false_iff_eq] at hb) <;> first | refine wSkip 10 ?_ | refine wSkipU 10 ?_ | refine wMv 10 ?_))
            all_goals (first | refine wSkip 11 ?_ | refine wSkipU 11 ?_ | refine wMv 11 ?_ | (refine tr_guard (t := 33) rfl (fun hb => ?_) (fun hb => ?_) <;> (try simp only [decide_eq_true_eq, decide_eq_false_iff_not, Bool.not_eq_true, Bool.not_eq_false, beq_iff_eq, bne_iff_ne, ne_eq, Bool.not_eq_eq_eq_not, Bool.not_true, Bool.not_false, beq_eq_false_iff_ne, bne_eq_false_iff_eq] at hb) <;> first | refine wSkip 11 ?_ | refine wSkipU 11 ?_ | refine wMv 11 ?_))
            all_goals (first | refine wSkip 12 ?_ | refine wSkipU 12 ?_ | refine wMv 12 ?_ | (refine tr_guard (t := 33) rfl (fun hb => ?_) (fun hb => ?_) <;> (try simp only [decide_eq_true_eq, decide_eq_false_iff_not, Bool.not_eq_true, Bool.not_eq_false, beq_iff_eq, bne_iff_ne, ne_eq, Bool.not_eq_eq_eq_not, Bool.not_true, Bool.not_false, beq_eq_false_iff_ne, bne_eq_false_iff_eq] at hb) <;> first | refine wSkip 12 ?_ | refine wSkipU 12 ?_ | refine wMv 12 ?_))
            all_goals (first | refine wSkip 13 ?_ | refine wSkipU 13 ?_ | refine wMv 13 ?_ | (refine tr_guard (t := 33) rfl (fun hb => ?_) (fun hb => ?_) <;> (try simp only [decide_eq_true_eq, decide_eq_false_iff_not, Bool.not_eq_true, Bool.not_eq_false, beq_iff_eq, bne_iff_ne, ne_eq, Bool.not_eq_eq_eq_not, Bool.not_true, Bool.not_false, beq_eq_false_iff_ne, bne_eq_false_iff_eq] at hb) <;> first | refine wSkip 13 ?_ | refine wSkipU 13 ?_ | refine wMv 13 ?_))
            all_goals (first | refine wSkip 14 ?_ | refine wSkipU 14 ?_ | refine wSb 14 ?_ | (refine tr_guard (t := 33) rfl (fun hb => ?_) (fun hb => ?_) <;> (try simp only [decide_eq_true_eq, decide_eq_false_iff_not, Bool.not_eq_true, Bool.not_eq_false, beq_iff_eq, bne_iff_ne, ne_eq, Bool.not_eq_eq_eq_not, Bool.not_true, Bool.not_false, beq_eq_false_iff_ne, bne_eq_false_iff_eq] at hb) <;> first | refine wSkip 14 ?_ | refine wSkipU 14 ?_ | refine wSb 14 ?_))
            all_goals (first | refine wSkip 15 ?_ | refine wSkipU 15 ?_ | refine wIa 15 ?_ | (refine tr_guard (t := 33) rfl (fun hb => ?_) (fun hb => ?_) <;> (try simp only [decide_eq_true_eq, decide_eq_false_iff_not, Bool.not_eq_true, Bool.not_eq_false, beq_iff_eq, bne_iff_ne, ne_eq, Bool.not_eq_eq_eq_not, Bool.not_true, Bool.not_false, beq_eq_false_iff_ne, bne_eq_false_iff_eq] at hb) <;> first | refine wSkip 15 ?_ | refine wSkipU 15 ?_ | refine wIa 15 ?_))
            all_goals (first | refine wSkip 16 ?_ | refine wSkipU 16 ?_ | refine wLd 16 ?_ | (refine tr_guard (t := 33) rfl (fun hb => ?_) (fun hb => ?_) <;> (try simp only [decide_eq_true_eq, decide_eq_false_iff_not, Bool.not_eq_true, Bool.not_eq_false, beq_iff_eq, bne_iff_ne, ne_eq, Bool.not_eq_eq_eq_not, Bool.not_true, Bool.not_false, beq_eq_false_iff_ne, bne_eq_false_iff_eq] at hb) <;> first | refine wSkip 16 ?_ | refine wSkipU 16 ?_ | refine wLd 16 ?_))
            all_goals (first | refine wSkip 18 ?_ | refine wSkipU 18 ?_ | refine wMv 18 ?_ | (refine tr_guard (t := 33) rfl (fun hb => ?_) (fun hb => ?_) <;> (try simp only [decide_eq_true_eq, decide_eq_false_iff_not, Bool.not_eq_true, Bool.not_eq_false, beq_iff_eq, bne_iff_ne, ne_eq, Bool.not_eq_eq_eq_not, Bool.not_true, Bool.not_false, beq_eq_false_iff_ne, bne_eq_false_iff_eq] at hb) <;> first | refine wSkip 18 ?_ | refine wSkipU 18 ?_ | refine wMv 18 ?_))
            all_goals (first | refine wSkip 19 ?_ | refine wSkipU 19 ?_ | refine wLd 19 ?_ | (refine tr_guard (t := 33) rfl (fun hb => ?_) (fun hb => ?_) <;> (try simp only [decide_eq_true_eq, decide_eq_false_iff_not, Bool.not_eq_true, Bool.not_eq_false, beq_iff_eq, bne_iff_ne, ne_eq, Bool.not_eq_eq_eq_not, Bool.not_true, Bool.not_false, beq_eq_false_iff_ne, bne_eq_false_iff_eq] at hb) <;> first | refine wSkip 19 ?_ | refine wSkipU 19 ?_ | refine wLd 19 ?_))
            all_goals (first | refine wSkip 17 ?_ | refine wSkipU 17 ?_ | (refine rStep (i := 17) ?_; ((try refine qWant ?_); (first | (refine tl_is (.tmp 25) ?_; refine qC rfl rfl (inner2_spec _ bx mb es ck _ hm k x) ?_; rintro v ρ' L' hle ⟨rfl, rfl, es', ck', hm', rfl⟩ <;> (try simp only [List.cons_append, List.nil_append, List.append_eq, hx])) | (refine tl_is (.tmp 34) ?_; refine qC rfl rfl (inner1_spec _ _) ?_; rintro v ρ' L' hle ⟨rfl, rfl, rfl⟩ <;> (try simp only [List.cons_append, List.nil_append, List.append_eq])) | (refine tl_is (.tmp 41) ?_; refine qC rfl rfl (inner1_spec _ _) ?_; rintro v ρ' L' hle ⟨rfl, rfl, rfl⟩ <;> (try simp only [List.cons_append, List.nil_append, List.append_eq])) | (refine qEf ?_; try intro _)) <;> ((try simp only [List.cons_append, List.nil_append, List.append_eq]); refine tl_nil ?_; refine rNext ?_))))
            all_goals (first | refine wSkip 20 ?_ | refine wSkipU 20 ?_ | (refine rStep (i := 20) ?_; ((try refine qWant ?_); (first | (refine tl_is (.tmp 25) ?_; refine qC rfl rfl (inner2_spec _ bx mb es ck _ hm k x) ?_; rintro v ρ' L' hle ⟨rfl, rfl, es', ck', hm', rfl⟩ <;> (try simp only [List.cons_append, List.nil_append, List.append_eq, hx])) | (refine tl_is (.tmp 34) ?_; refine qC rfl rfl (inner1_spec _ _) ?_; rintro v ρ' L' hle ⟨rfl, rfl, rfl⟩ <;> (try simp only [List.cons_append, List.nil_append, List.append_eq])) | (refine tl_is (.tmp 41) ?_; refine qC rfl rfl (inner1_spec _ _) ?_; rintro v ρ' L' hle ⟨rfl, rfl, rfl⟩ <;> (try simp only [List.cons_append, List.nil_append, List.append_eq])) | (refine qEf ?_; try intro _)) <;> ((try simp only [List.cons_append, List.nil_append, List.append_eq]); refine tl_nil ?_; refine rNext ?_))))
            all_goals (first | refine wSkip 21 ?_ | refine wSkipU 21 ?_ | (refine rStep (i := 21) ?_; ((try refine qWant ?_); (first | (refine tl_is (.func 138) ?_; refine qC rfl rfl (compare_spec _ _ _ _ _) ?_; rintro v ρ' L' hle ⟨rfl, rfl, rfl⟩ <;> (try simp only [List.cons_append, List.nil_append, List.append_eq])) | (refine qEf ?_; try intro _)) <;> ((try simp only [List.cons_append, List.nil_append, List.append_eq]); refine tl_nil ?_; refine rNext ?_))))
            all_goals refine rFull ?_
            all_goals (first | refine wSkip 22 ?_ | refine wSkipU 22 ?_ | refine wCm 22 ?_ | (refine tr_guard (t := 33) rfl (fun hb => ?_) (fun hb => ?_) <;> (try simp only [decide_eq_true_eq, decide_eq_false_iff_not, Bool.not_eq_true, Bool.not_eq_false, beq_iff_eq, bne_iff_ne, ne_eq, Bool.not_eq_eq_eq_not, Bool.not_true, Bool.not_false, beq_eq_false_iff_ne, bne_eq_false_iff_eq] at hb) <;> first | refine wSkip 22 ?_ | refine wSkipU 22 ?_ | refine wCm 22 ?_))
            all_goals (first | refine wSkip 23 ?_ | refine wSkipU 23 ?_ | refine wPk 23 ?_ | (refine tr_guard (t := 30) rfl (fun hb => ?_) (fun hb => ?_) <;> (try simp only [decide_eq_true_eq, decide_eq_false_iff_not, Bool.not_eq_true, Bool.not_eq_false, beq_iff_eq, bne_iff_ne, ne_eq, Bool.not_eq_eq_eq_not, Bool.not_true, Bool.not_false, beq_eq_false_iff_ne, bne_eq_false_iff_eq] at hb) <;> first | refine wSkip 23 ?_ | refine wSkipU 23 ?_ | refine wPk 23 ?_))
            all_goals refine rPk 24 ?_
            all_goals refine rAs 25 ?_
            all_goals refine rDone ?_
            all_goals (repeat' (first | (refine i_op ?_; first | (refine i_qq ?_; refine qQ ?_) | refine qEf ?_) | refine tl_nil ?_ | (refine i_tc ?_; refine qTc ?_) | (refine i_te ?_; refine qTe ?_) | intro _))
            all_goals exact qE ⟨rfl, rfl, rfl⟩
  · have hk2 : k = n := by omega
    subst hk2
    repeat' (first | (refine i_op ?_; first | (refine i_qq ?_; refine qQ ?_) | refine qEf ?_) | refine tl_nil ?_ | (refine i_tc ?_; refine qTc ?_) | (refine i_te ?_; refine qTe ?_) | intro _)
    exact qE ⟨rfl, rfl, rfl⟩
end Go.Proofs.E

namespace Go.Proofs.E
open Go
set_option linter.unusedVariables false
set_option linter.unusedSimpArgs false
set_option linter.unusedSectionVars false
set_option maxRecDepth 4000
set_option maxHeartbeats 1000000
attribute [local irreducible] Yl TL TC TE Spec YSpec R1 Hp.le EnvLe TS TR YS Stays
structure CV where
  ra : Option Addr
  rn : Nat
  rc : Nat
  ka : Option Addr
  kn : Nat
  kc : Nat
structure Cont where
  kind : Int
  rows : List Row
  kids : List Kid
deriving DecidableEq
abbrev contV (k : Int) (v : CV) : List Value := [.int .i64 k, .slice v.ra v.rn v.rc, .slice v.ka v.kn v.kc]
structure CIn (ρ : Hp) (v : CV) (rows : List Row) (kids : List Kid) : Prop where
  r : AIn ρ 4 rowV v.ra v.rn rows
  k : AIn ρ 3 kidV v.ka v.kn kids
  rb : v.rn ≤ 1000000
  kb : v.kn ≤ 1000000
  rc : v.rn ≤ v.rc
  kc : v.kn ≤ v.kc
theorem CIn.mono {ρ ρ' v rows kids} (h : CIn ρ v rows kids) (hle : ρ.le ρ') : CIn ρ' v rows kids := ⟨h.r.mono hle, h.k.mono hle, h.rb, h.kb, h.rc, h.kc⟩
theorem leafc_spec (ρ : Hp) (a : Option Addr) (n c : Nat) (l : List Row) (h : AIn ρ 4 rowV a n l) (hn : n ≤ 1000000) : Spec Try.prog 81 [.slice a n c] ρ [] (fun v ρ' L' => v = .bool (rowsOk l) ∧ ρ' = ρ ∧ L' = []) := by
  refine spec_enter Try.func81 rfl rfl rfl fun u R => ?_
  simp only [argsE, List.cons_append, List.nil_append]
  repeat' (first | (refine tl_is (.func 110) ?_; refine qC rfl rfl (risesRow_spec _ a n c l h hn) ?_; rintro v ρ' L' hle ⟨rfl, rfl, rfl⟩ <;> (try simp only [List.cons_append, List.nil_append, List.append_eq])) | (refine i_op ?_; first | (refine i_qq ?_; refine qQ ?_) | refine qEf ?_) | refine tl_nil ?_ | (refine i_tc ?_; refine qTc ?_) | (refine i_te ?_; refine qTe ?_) | intro _)
  exact qE ⟨rfl, rfl, rfl⟩
theorem innerc_spec (ρ : Hp) (a : Option Addr) (n c : Nat) (l : List Kid) (h : AIn ρ 3 kidV a n l) (hn : n ≤ 1000000) : Spec Try.prog 82 [.slice a n c] ρ [] (fun v ρ' L' => v = .bool (decide (1 < n) && kidsOk l) ∧ ρ' = ρ ∧ L' = []) := by
  refine spec_enter Try.func82 rfl rfl rfl fun u R => ?_
  simp only [argsE, List.cons_append, List.nil_append]
  by_cases h1 : 1 < n
  · rw [decide_eq_true h1, Bool.true_and]
    repeat' (first | (refine tl_is (.func 114) ?_; refine qC rfl rfl (risesKid_spec _ a n c l h hn _ _ _) ?_; rintro v ρ' L' hle ⟨rfl, rfl, rfl⟩ <;> (try simp only [List.cons_append, List.nil_append, List.append_eq])) | (refine i_op ?_; first | (refine i_qq ?_; refine qQ ?_) | refine qEf ?_) | refine tl_nil ?_ | (refine i_tc ?_; refine qTc ?_) | (refine i_te ?_; refine qTe ?_) | intro _)
    exact qE ⟨rfl, rfl, rfl⟩
  · rw [decide_eq_false h1, Bool.false_and]
    repeat' (first | (refine i_op ?_; first | (refine i_qq ?_; refine qQ ?_) | refine qEf ?_) | refine tl_nil ?_ | (refine i_tc ?_; refine qTc ?_) | (refine i_te ?_; refine qTe ?_) | intro _)
    exact qE ⟨rfl, rfl, rfl⟩
def contOk (c : Cont) : Bool :=
  if c.kind = 0 then decide (c.rows.length + c.kids.length = 0)
  else if c.kind = 1 then decide (c.kids.length = 0) && rowsOk c.rows
  else if c.kind = 2 then decide (c.rows.length = 0) && (decide (1 < c.kids.length) && kidsOk c.kids)
  else false
theorem check_spec (ρ : Hp) (v : CV) (c : Cont) (h : CIn ρ v c.rows c.kids) : Spec Try.prog 38 [.agg ⟨contV c.kind v⟩] ρ [] (fun r ρ' L' => r = .int .i64 (if contOk c then 0 else 160) ∧ ρ' = ρ ∧ L' = []) := by
  obtain ⟨kind, rows, kids⟩ := c
  obtain ⟨ra, rn, rc, ka, kn, kc⟩ := v
  obtain ⟨hr, hk, hrb, hkb, _, _⟩ := h
  dsimp only at hr hk hrb hkb
  have hrl := hr.len
  have hkl := hk.len
  have hrs := leafc_spec ρ ra rn rc rows hr hrb
  have hks := innerc_spec ρ ka kn kc kids hk hkb
  generalize hq : contOk ⟨kind, rows, kids⟩ = q
  unfold contOk at hq
  simp only [hrl, hkl] at hq
  refine spec_enter Try.func38 rfl rfl rfl fun u R => ?_
  simp only [argsE, List.cons_append, List.nil_append]
  by_cases k0 : kind = 0
  · rw [if_pos k0] at hq
    by_cases hz : rn + kn = 0
    · rw [decide_eq_true hz] at hq
      subst hq
      repeat' (first | (refine i_op ?_; first | (refine i_qq ?_; refine qQ ?_) | refine qEf ?_) | refine tl_nil ?_ | (refine i_tc ?_; refine qTc ?_) | (refine i_te ?_; refine qTe ?_) | intro _)
      exact qE ⟨rfl, rfl, rfl⟩
    · rw [decide_eq_false hz] at hq
      subst hq
      repeat' (first | (refine i_op ?_; first | (refine i_qq ?_; refine qQ ?_) | refine qEf ?_) | refine tl_nil ?_ | (refine i_tc ?_; refine qTc ?_) | (refine i_te ?_; refine qTe ?_) | intro _)
      exact qE ⟨rfl, rfl, rfl⟩
  · rw [if_neg k0] at hq
    by_cases k1 : kind = 1
    · rw [if_pos k1] at hq
      by_cases hz : kn = 0
      · rw [decide_eq_true hz, Bool.true_and] at hq
        rw [hq] at hrs
        cases q
        all_goals (repeat' (first | (refine tl_is (.func 81) ?_; refine qC rfl rfl (hrs) ?_; rintro v ρ' L' hle ⟨rfl, rfl, rfl⟩ <;> (try simp only [List.cons_append, List.nil_append, List.append_eq])) | (refine i_op ?_; first | (refine i_qq ?_; refine qQ ?_) | refine qEf ?_) | refine tl_nil ?_ | (refine i_tc ?_; refine qTc ?_) | (refine i_te ?_; refine qTe ?_) | intro _))
        all_goals exact qE ⟨rfl, rfl, rfl⟩
      · rw [decide_eq_false hz, Bool.false_and] at hq
        subst hq
        repeat' (first | (refine i_op ?_; first | (refine i_qq ?_; refine qQ ?_) | refine qEf ?_) | refine tl_nil ?_ | (refine i_tc ?_; refine qTc ?_) | (refine i_te ?_; refine qTe ?_) | intro _)
        exact qE ⟨rfl, rfl, rfl⟩
    · rw [if_neg k1] at hq
      by_cases k2 : kind = 2
      · rw [if_pos k2] at hq
        by_cases hz : rn = 0
        · rw [decide_eq_true hz, Bool.true_and] at hq
          rw [hq] at hks
          cases q
          all_goals (repeat' (first | (refine tl_is (.func 82) ?_; refine qC rfl rfl (hks) ?_; rintro v ρ' L' hle ⟨rfl, rfl, rfl⟩ <;> (try simp only [List.cons_append, List.nil_append, List.append_eq])) | (refine i_op ?_; first | (refine i_qq ?_; refine qQ ?_) | refine qEf ?_) | refine tl_nil ?_ | (refine i_tc ?_; refine qTc ?_) | (refine i_te ?_; refine qTe ?_) | intro _))
          all_goals exact qE ⟨rfl, rfl, rfl⟩
        · rw [decide_eq_false hz, Bool.false_and] at hq
          subst hq
          repeat' (first | (refine i_op ?_; first | (refine i_qq ?_; refine qQ ?_) | refine qEf ?_) | refine tl_nil ?_ | (refine i_tc ?_; refine qTc ?_) | (refine i_te ?_; refine qTe ?_) | intro _)
          exact qE ⟨rfl, rfl, rfl⟩
      · rw [if_neg k2] at hq
        subst hq
        repeat' (first | (refine i_op ?_; first | (refine i_qq ?_; refine qQ ?_) | refine qEf ?_) | refine tl_nil ?_ | (refine i_tc ?_; refine qTc ?_) | (refine i_te ?_; refine qTe ?_) | intro _)
        exact qE ⟨rfl, rfl, rfl⟩
end Go.Proofs.E

namespace Go.Proofs.E
open Go
set_option linter.unusedVariables false
set_option linter.unusedSimpArgs false
set_option linter.unusedSectionVars false
set_option maxRecDepth 4000
set_option maxHeartbeats 1000000
attribute [local irreducible] Yl TL TC TE Spec YSpec R1 Hp.le EnvLe TS TR YS Stays
/-! ## codec: what is taken -/
def manyTo {α : Type} (f : List UInt8 → Int → Bool → α × RS3) : Nat → List UInt8 → Int → Bool → List α × RS3
  | 0, l, st, bad => ([], l, st, bad)
  | n + 1, l, st, bad => if !bad && decide (st = 0) then ((f l st bad).1 :: (manyTo f n (f l st bad).2.1 (f l st bad).2.2.1 (f l st bad).2.2.2).1, (manyTo f n (f l st bad).2.1 (f l st bad).2.2.1 (f l st bad).2.2.2).2) else ([], l, st, bad)
theorem manyTo_stop {α : Type} {f : List UInt8 → Int → Bool → α × RS3} {n : Nat} {l : List UInt8} {st : Int} {bad : Bool} (h : (!bad && decide (st = 0)) = false) : manyTo f n l st bad = ([], l, st, bad) := by
  cases n with
  | zero => rfl
  | succ n => rw [manyTo, h]; rfl
def manyR {α : Type} (f : List UInt8 → Int → Bool → α × RS3) (l : List UInt8) (st : Int) (bad : Bool) : List α × RS3 :=
  manyTo f (numR 1 l st).1 (numR 1 l st).2.1 (numR 1 l st).2.2 (needB bad (numR 1 l st).2.2 (decide (((numR 1 l st).1 : Int) ≤ 4)))
theorem manyRow_spec (ρ : Hp) (bt br : Nat) (all : Int) (bad : Bool) (vk vr vs : Value) (a : Option Addr) (n c : Nat) (l : List UInt8) (h : SIn ρ u8c a n l) (hc : n ≤ c) (st : Int) :
    Spec Try.prog 167 [.pointer (some ⟨bt, 0, none⟩), .int .i64 4, .func (.func 168) ⟨[.pointer (some ⟨bt, 0, none⟩)]⟩ ⟨[]⟩] ρ [tkC bt br all bad vk vr vs, rdC br a n c st]
      (fun v ρ' L' => ρ.le ρ' ∧ ∃ sa sn sc a' n' c', v = .slice sa sn sc ∧ sn ≤ sc ∧ sn ≤ 255 ∧ AIn ρ' 4 rowV sa sn (manyR rowR l st bad).1 ∧ SIn ρ' u8c a' n' (manyR rowR l st bad).2.1 ∧ n' ≤ c' ∧ L' = [tkC bt br all (manyR rowR l st bad).2.2.2 vk vr vs, rdC br a' n' c' (manyR rowR l st bad).2.2.1]) := by
  have hn1 := u8_spec ρ br a n c l h hc st
  have hb1 := numR_lt 1 l st
  generalize hq : manyR rowR l st bad = q
  unfold manyR at hq
  generalize numR 1 l st = r1 at *
  obtain ⟨x1, l1, st1⟩ := r1
  dsimp only at hq hn1 hb1
  have hb255 : x1 < 256 := by simpa using hb1
  generalize hB1 : needB bad st1 (decide ((x1 : Int) ≤ 4)) = b1 at *
  refine spec_enter Try.func167 rfl rfl rfl fun u R => ?_
  simp only [argsE, List.cons_append, List.nil_append]
  repeat' (first | (refine tl_is (.func 162) ?_; refine qC rfl rfl (hn1) ?_; rintro v ρ' L' hle ⟨rfl, rfl, a1, n1, c1, h1, hc1, rfl⟩ <;> (try simp only [List.cons_append, List.nil_append, List.append_eq])) | (refine tl_is (.func 163) ?_; refine qC rfl rfl (need_spec _ bt br all bad vk vr vs a1 n1 c1 st1 (decide ((x1 : Int) ≤ 4))) ?_; rintro v ρ' L' hle ⟨rfl, rfl, rfl⟩ <;> (try simp only [List.cons_append, List.nil_append, List.append_eq, hB1])) | (refine i_op ?_; first | (refine i_qq ?_; refine qQ ?_) | refine qEf ?_) | refine tl_nil ?_ | (refine i_tc ?_; refine qTc ?_) | (refine i_te ?_; refine qTe ?_) | intro _)
  refine tc_loop_g [(0, _), (2, _), (6, _), (7, _)] (fun (ζ : (Nat) × (Hp) × (Value) × (List Value) × (List Row) × (Option Addr) × (Nat) × (Nat) × (List UInt8) × (Int) × (Bool)) => [(9, .int .i64 ζ.1), (8, ζ.2.2.1)]) (fun (ζ : (Nat) × (Hp) × (Value) × (List Value) × (List Row) × (Option Addr) × (Nat) × (Nat) × (List UInt8) × (Int) × (Bool)) => ζ.2.1) (fun (ζ : (Nat) × (Hp) × (Value) × (List Value) × (List Row) × (Option Addr) × (Nat) × (Nat) × (List UInt8) × (Int) × (Bool)) => [ownC ζ.2.2.1 ((ζ.2.2.2.2.1.map rowV).flatten) ζ.2.2.2.1 129, tkC bt br all ζ.2.2.2.2.2.2.2.2.2.2 vk vr vs, rdC br ζ.2.2.2.2.2.1 ζ.2.2.2.2.2.2.1 ζ.2.2.2.2.2.2.2.1 ζ.2.2.2.2.2.2.2.2.2.1]) (fun (ζ : (Nat) × (Hp) × (Value) × (List Value) × (List Row) × (Option Addr) × (Nat) × (Nat) × (List UInt8) × (Int) × (Bool)) => ζ.1 ≤ x1 ∧ ρ'.le ζ.2.1 ∧ OwnS ζ.2.2.1 ζ.1 ((ζ.2.2.2.2.1.map rowV).flatten) ζ.2.2.2.1 4 ∧ ζ.2.2.2.2.1.length = ζ.1 ∧ SIn ζ.2.1 u8c ζ.2.2.2.2.2.1 ζ.2.2.2.2.2.2.1 ζ.2.2.2.2.2.2.2.2.1 ∧ ζ.2.2.2.2.2.2.1 ≤ ζ.2.2.2.2.2.2.2.1 ∧ q = (ζ.2.2.2.2.1 ++ (manyTo rowR (x1 - ζ.1) ζ.2.2.2.2.2.2.2.2.1 ζ.2.2.2.2.2.2.2.2.2.1 ζ.2.2.2.2.2.2.2.2.2.2).1, (manyTo rowR (x1 - ζ.1) ζ.2.2.2.2.2.2.2.2.1 ζ.2.2.2.2.2.2.2.2.2.1 ζ.2.2.2.2.2.2.2.2.2.2).2)) (fun (ζ : (Nat) × (Hp) × (Value) × (List Value) × (List Row) × (Option Addr) × (Nat) × (Nat) × (List UInt8) × (Int) × (Bool)) => x1 - ζ.1) ((0, ρ', .slice none 0 0, [], [], a1, n1, c1, l1, st1, b1)) (⟨Nat.zero_le _, Hp.le_refl _, OwnS.nil 4, rfl, h1, hc1, by simp [hq]⟩) ev_le ev_le rfl tk ?_
  rintro ⟨i, ρ1, v, sp, acc, a2, n2, c2, l2, st2, bad2⟩ hI
  try simp only [List.cons_append, List.nil_append, List.append_assoc, List.append_eq] at hI ⊢
  try dsimp only at hI ⊢
  obtain ⟨hi, hle1, hown, hal, h2, hc2, hq2⟩ := hI
  obtain ⟨va, vc, rfl, _⟩ := hown.len
  have hg : ∀ x ∈ acc, (rowV x).length = 4 := fun x _ => rowV_len x
  by_cases hlt : i < x1
  · cases hok : (!bad2 && decide (st2 = 0))
    · rw [manyTo_stop hok] at hq2
      simp only [List.append_nil] at hq2
      subst hq2
      repeat' (first | (refine tl_is (.func 166) ?_; refine qC rfl rfl (ok_spec _ bt br all bad2 vk vr vs a2 n2 c2 st2) ?_; rintro v ρ' L' hle ⟨rfl, rfl, rfl⟩ <;> (try simp only [List.cons_append, List.nil_append, List.append_eq, hok])) | (refine i_op ?_; first | (refine i_qq ?_; refine qQ ?_) | refine qEf ?_) | refine tl_nil ?_ | (refine i_tc ?_; refine qTc ?_) | (refine i_te ?_; refine qTe ?_) | intro _)
      refine te_freeze (ownC (.slice va i vc) ((acc.map rowV).flatten) sp 129) (fun ρ3 hle3 hfz => ?_)
      obtain ⟨sa, sc, e1, hsc, hA⟩ := hown.aIn hal hg hfz
      cases e1
      exact qE ⟨Hp.le_trans hle1 hle3, _, _, _, a2, n2, c2, rfl, hsc, by omega, hA, h2.mono hle3, hc2, rfl⟩
    · rw [show x1 - i = (x1 - (i + 1)) + 1 by omega, manyTo, if_pos hok] at hq2
      have hrow := fun ρ h => trow_spec ρ bt br all bad2 vk vr vs a2 n2 c2 l2 h hc2 st2
      generalize rowR l2 st2 bad2 = r at *
      obtain ⟨x, l3, st3, bad3⟩ := r
      dsimp only at hq2 hrow
      repeat' (first | (refine tl_is (.func 166) ?_; refine qC rfl rfl (ok_spec _ bt br all bad2 vk vr vs a2 n2 c2 st2) ?_; rintro v ρ' L' hle ⟨rfl, rfl, rfl⟩ <;> (try simp only [List.cons_append, List.nil_append, List.append_eq, hok])) | (refine tl_is (.tmp 31) ?_; refine qC rfl rfl (hrow _ h2) ?_; rintro v ρ' L' hle ⟨rfl, hle3, a3, n3, c3, h3, hc3, rfl⟩ <;> (try simp only [List.cons_append, List.nil_append, List.append_eq])) | (refine i_op ?_; first | (refine i_qq ?_; refine qQ ?_) | refine qEf ?_) | refine tl_nil ?_ | (refine i_tc ?_; refine qTc ?_) | (refine i_te ?_; refine qTe ?_) | intro _)
      refine tl_buildSliceA (css := [rowV x]) (sz := 4) rfl rfl rfl rfl (by simp) (by simp) rfl (fun bs => ?_)
      simp only [List.flatten_cons, List.flatten_nil, List.append_nil]
      refine tl_app (ys := rowV x) (m := 1) rfl rfl hown (hR := by infer_instance) (SrcV.lit) rfl rfl (by decide) rfl (by omega) (by omega) rfl (fun v' sp' hown' => ?_)
      have hm : (acc.map rowV).flatten ++ rowV x = ((acc ++ [x]).map rowV).flatten := by simp
      rw [hm] at hown' ⊢
      repeat' (first | (refine i_op ?_; first | (refine i_qq ?_; refine qQ ?_) | refine qEf ?_) | refine tl_nil ?_ | (refine i_tc ?_; refine qTc ?_) | (refine i_te ?_; refine qTe ?_) | intro _)
      refine te_round_g (i + 1, _, v', sp', acc ++ [x], a3, n3, c3, l3, st3, bad3) (⟨hlt, Hp.le_trans hle1 hle3, hown', by simp [hal], h3, hc3, by rw [hq2]; simp⟩) ev_le ev_le rfl tk inferInstance (by first | omega | (dsimp only; omega))
  · have hi2 : i = x1 := by omega
    subst hi2
    rw [Nat.sub_self, manyTo] at hq2
    simp only [List.append_nil] at hq2
    subst hq2
    repeat' (first | (refine i_op ?_; first | (refine i_qq ?_; refine qQ ?_) | refine qEf ?_) | refine tl_nil ?_ | (refine i_tc ?_; refine qTc ?_) | (refine i_te ?_; refine qTe ?_) | intro _)
    refine te_freeze (ownC (.slice va i vc) ((acc.map rowV).flatten) sp 129) (fun ρ3 hle3 hfz => ?_)
    obtain ⟨sa, sc, e1, hsc, hA⟩ := hown.aIn hal hg hfz
    cases e1
    exact qE ⟨Hp.le_trans hle1 hle3, _, _, _, a2, n2, c2, rfl, hsc, by omega, hA, h2.mono hle3, hc2, rfl⟩
def kidRB (l : List UInt8) (st : Int) (bad : Bool) : Kid × RS3 := ((kidR l st).1, (kidR l st).2.1, (kidR l st).2.2, bad)
theorem tkidB_spec (ρ : Hp) (bt br : Nat) (all : Int) (bad : Bool) (vk vr vs : Value) (a : Option Addr) (n c : Nat) (l : List UInt8) (h : SIn ρ u8c a n l) (hc : n ≤ c) (st : Int) :
    Spec Try.prog 170 [.pointer (some ⟨bt, 0, none⟩)] ρ [tkC bt br all bad vk vr vs, rdC br a n c st]
      (fun v ρ' L' => v = .agg ⟨kidV (kidRB l st bad).1⟩ ∧ ρ.le ρ' ∧ ∃ a' n' c', SIn ρ' u8c a' n' (kidRB l st bad).2.1 ∧ n' ≤ c' ∧ L' = [tkC bt br all (kidRB l st bad).2.2.2 vk vr vs, rdC br a' n' c' (kidRB l st bad).2.2.1]) := by
  refine (tkid_spec ρ bt br all bad vk vr vs a n c l h hc st).mono ?_
  rintro v ρ' L' hle ⟨h1, h2, h3⟩
  exact ⟨h1, hle, h3⟩
theorem manyKid_spec (ρ : Hp) (bt br : Nat) (all : Int) (bad : Bool) (vk vr vs : Value) (a : Option Addr) (n c : Nat) (l : List UInt8) (h : SIn ρ u8c a n l) (hc : n ≤ c) (st : Int) :
    Spec Try.prog 169 [.pointer (some ⟨bt, 0, none⟩), .int .i64 4, .func (.func 170) ⟨[.pointer (some ⟨bt, 0, none⟩)]⟩ ⟨[]⟩] ρ [tkC bt br all bad vk vr vs, rdC br a n c st]
      (fun v ρ' L' => ρ.le ρ' ∧ ∃ sa sn sc a' n' c', v = .slice sa sn sc ∧ sn ≤ sc ∧ sn ≤ 255 ∧ AIn ρ' 3 kidV sa sn (manyR kidRB l st bad).1 ∧ SIn ρ' u8c a' n' (manyR kidRB l st bad).2.1 ∧ n' ≤ c' ∧ L' = [tkC bt br all (manyR kidRB l st bad).2.2.2 vk vr vs, rdC br a' n' c' (manyR kidRB l st bad).2.2.1]) := by
  have hn1 := u8_spec ρ br a n c l h hc st
  have hb1 := numR_lt 1 l st
  generalize hq : manyR kidRB l st bad = q
  unfold manyR at hq
  generalize numR 1 l st = r1 at *
  obtain ⟨x1, l1, st1⟩ := r1
  dsimp only at hq hn1 hb1
  have hb255 : x1 < 256 := by simpa using hb1
  generalize hB1 : needB bad st1 (decide ((x1 : Int) ≤ 4)) = b1 at *
  refine spec_enter Try.func169 rfl rfl rfl fun u R => ?_
  simp only [argsE, List.cons_append, List.nil_append]
  repeat' (first | (refine tl_is (.func 162) ?_; refine qC rfl rfl (hn1) ?_; rintro v ρ' L' hle ⟨rfl, rfl, a1, n1, c1, h1, hc1, rfl⟩ <;> (try simp only [List.cons_append, List.nil_append, List.append_eq])) | (refine tl_is (.func 163) ?_; refine qC rfl rfl (need_spec _ bt br all bad vk vr vs a1 n1 c1 st1 (decide ((x1 : Int) ≤ 4))) ?_; rintro v ρ' L' hle ⟨rfl, rfl, rfl⟩ <;> (try simp only [List.cons_append, List.nil_append, List.append_eq, hB1])) | (refine i_op ?_; first | (refine i_qq ?_; refine qQ ?_) | refine qEf ?_) | refine tl_nil ?_ | (refine i_tc ?_; refine qTc ?_) | (refine i_te ?_; refine qTe ?_) | intro _)
  refine tc_loop_g [(0, _), (2, _), (6, _), (7, _)] (fun (ζ : (Nat) × (Hp) × (Value) × (List Value) × (List Kid) × (Option Addr) × (Nat) × (Nat) × (List UInt8) × (Int) × (Bool)) => [(9, .int .i64 ζ.1), (8, ζ.2.2.1)]) (fun (ζ : (Nat) × (Hp) × (Value) × (List Value) × (List Kid) × (Option Addr) × (Nat) × (Nat) × (List UInt8) × (Int) × (Bool)) => ζ.2.1) (fun (ζ : (Nat) × (Hp) × (Value) × (List Value) × (List Kid) × (Option Addr) × (Nat) × (Nat) × (List UInt8) × (Int) × (Bool)) => [ownC ζ.2.2.1 ((ζ.2.2.2.2.1.map kidV).flatten) ζ.2.2.2.1 174, tkC bt br all ζ.2.2.2.2.2.2.2.2.2.2 vk vr vs, rdC br ζ.2.2.2.2.2.1 ζ.2.2.2.2.2.2.1 ζ.2.2.2.2.2.2.2.1 ζ.2.2.2.2.2.2.2.2.2.1]) (fun (ζ : (Nat) × (Hp) × (Value) × (List Value) × (List Kid) × (Option Addr) × (Nat) × (Nat) × (List UInt8) × (Int) × (Bool)) => ζ.1 ≤ x1 ∧ ρ'.le ζ.2.1 ∧ OwnS ζ.2.2.1 ζ.1 ((ζ.2.2.2.2.1.map kidV).flatten) ζ.2.2.2.1 3 ∧ ζ.2.2.2.2.1.length = ζ.1 ∧ SIn ζ.2.1 u8c ζ.2.2.2.2.2.1 ζ.2.2.2.2.2.2.1 ζ.2.2.2.2.2.2.2.2.1 ∧ ζ.2.2.2.2.2.2.1 ≤ ζ.2.2.2.2.2.2.2.1 ∧ q = (ζ.2.2.2.2.1 ++ (manyTo kidRB (x1 - ζ.1) ζ.2.2.2.2.2.2.2.2.1 ζ.2.2.2.2.2.2.2.2.2.1 ζ.2.2.2.2.2.2.2.2.2.2).1, (manyTo kidRB (x1 - ζ.1) ζ.2.2.2.2.2.2.2.2.1 ζ.2.2.2.2.2.2.2.2.2.1 ζ.2.2.2.2.2.2.2.2.2.2).2)) (fun (ζ : (Nat) × (Hp) × (Value) × (List Value) × (List Kid) × (Option Addr) × (Nat) × (Nat) × (List UInt8) × (Int) × (Bool)) => x1 - ζ.1) ((0, ρ', .slice none 0 0, [], [], a1, n1, c1, l1, st1, b1)) (⟨Nat.zero_le _, Hp.le_refl _, OwnS.nil 3, rfl, h1, hc1, by simp [hq]⟩) ev_le ev_le rfl tk ?_
  rintro ⟨i, ρ1, v, sp, acc, a2, n2, c2, l2, st2, bad2⟩ hI
  try simp only [List.cons_append, List.nil_append, List.append_assoc, List.append_eq] at hI ⊢
  try dsimp only at hI ⊢
  obtain ⟨hi, hle1, hown, hal, h2, hc2, hq2⟩ := hI
  obtain ⟨va, vc, rfl, _⟩ := hown.len
  have hg : ∀ x ∈ acc, (kidV x).length = 3 := fun x _ => kidV_len x
  by_cases hlt : i < x1
  · cases hok : (!bad2 && decide (st2 = 0))
    · rw [manyTo_stop hok] at hq2
      simp only [List.append_nil] at hq2
      subst hq2
      repeat' (first | (refine tl_is (.func 166) ?_; refine qC rfl rfl (ok_spec _ bt br all bad2 vk vr vs a2 n2 c2 st2) ?_; rintro v ρ' L' hle ⟨rfl, rfl, rfl⟩ <;> (try simp only [List.cons_append, List.nil_append, List.append_eq, hok])) | (refine i_op ?_; first | (refine i_qq ?_; refine qQ ?_) | refine qEf ?_) | refine tl_nil ?_ | (refine i_tc ?_; refine qTc ?_) | (refine i_te ?_; refine qTe ?_) | intro _)
      refine te_freeze (ownC (.slice va i vc) ((acc.map kidV).flatten) sp 174) (fun ρ3 hle3 hfz => ?_)
      obtain ⟨sa, sc, e1, hsc, hA⟩ := hown.aIn hal hg hfz
      cases e1
      exact qE ⟨Hp.le_trans hle1 hle3, _, _, _, a2, n2, c2, rfl, hsc, by omega, hA, h2.mono hle3, hc2, rfl⟩
    · rw [show x1 - i = (x1 - (i + 1)) + 1 by omega, manyTo, if_pos hok] at hq2
      have hrow := fun ρ h => tkidB_spec ρ bt br all bad2 vk vr vs a2 n2 c2 l2 h hc2 st2
      generalize kidRB l2 st2 bad2 = r at *
      obtain ⟨x, l3, st3, bad3⟩ := r
      dsimp only at hq2 hrow
      repeat' (first | (refine tl_is (.func 166) ?_; refine qC rfl rfl (ok_spec _ bt br all bad2 vk vr vs a2 n2 c2 st2) ?_; rintro v ρ' L' hle ⟨rfl, rfl, rfl⟩ <;> (try simp only [List.cons_append, List.nil_append, List.append_eq, hok])) | (refine tl_is (.tmp 31) ?_; refine qC rfl rfl (hrow _ h2) ?_; rintro v ρ' L' hle ⟨rfl, hle3, a3, n3, c3, h3, hc3, rfl⟩ <;> (try simp only [List.cons_append, List.nil_append, List.append_eq])) | (refine i_op ?_; first | (refine i_qq ?_; refine qQ ?_) | refine qEf ?_) | refine tl_nil ?_ | (refine i_tc ?_; refine qTc ?_) | (refine i_te ?_; refine qTe ?_) | intro _)
      refine tl_buildSliceA (css := [kidV x]) (sz := 3) rfl rfl rfl rfl (by simp) (by simp) rfl (fun bs => ?_)
      simp only [List.flatten_cons, List.flatten_nil, List.append_nil]
      refine tl_app (ys := kidV x) (m := 1) rfl rfl hown (hR := by infer_instance) (SrcV.lit) rfl rfl (by decide) rfl (by omega) (by omega) rfl (fun v' sp' hown' => ?_)
      have hm : (acc.map kidV).flatten ++ kidV x = ((acc ++ [x]).map kidV).flatten := by simp
      rw [hm] at hown' ⊢
      repeat' (first | (refine i_op ?_; first | (refine i_qq ?_; refine qQ ?_) | refine qEf ?_) | refine tl_nil ?_ | (refine i_tc ?_; refine qTc ?_) | (refine i_te ?_; refine qTe ?_) | intro _)
      refine te_round_g (i + 1, _, v', sp', acc ++ [x], a3, n3, c3, l3, st3, bad3) (⟨hlt, Hp.le_trans hle1 hle3, hown', by simp [hal], h3, hc3, by rw [hq2]; simp⟩) ev_le ev_le rfl tk inferInstance (by first | omega | (dsimp only; omega))
  · have hi2 : i = x1 := by omega
    subst hi2
    rw [Nat.sub_self, manyTo] at hq2
    simp only [List.append_nil] at hq2
    subst hq2
    repeat' (first | (refine i_op ?_; first | (refine i_qq ?_; refine qQ ?_) | refine qEf ?_) | refine tl_nil ?_ | (refine i_tc ?_; refine qTc ?_) | (refine i_te ?_; refine qTe ?_) | intro _)
    refine te_freeze (ownC (.slice va i vc) ((acc.map kidV).flatten) sp 174) (fun ρ3 hle3 hfz => ?_)
    obtain ⟨sa, sc, e1, hsc, hA⟩ := hown.aIn hal hg hfz
    cases e1
    exact qE ⟨Hp.le_trans hle1 hle3, _, _, _, a2, n2, c2, rfl, hsc, by omega, hA, h2.mono hle3, hc2, rfl⟩
theorem tleaf_spec (ρ : Hp) (bt br : Nat) (all : Int) (bad : Bool) (vk vr vs : Value) (h1 : vk.oneCell' = true) (h2 : vr.oneCell' = true) (h3 : vs.oneCell' = true) (a : Option Addr) (n c : Nat) (l : List UInt8) (h : SIn ρ u8c a n l) (hc : n ≤ c) (st : Int) :
    Spec Try.prog 164 [.pointer (some ⟨bt, 0, none⟩)] ρ [tkC bt br all bad vk vr vs, rdC br a n c st]
      (fun v ρ' L' => v = .tuple ⟨[]⟩ ∧ ρ.le ρ' ∧ ∃ sa sn sc a' n' c', sn ≤ sc ∧ sn ≤ 255 ∧ AIn ρ' 4 rowV sa sn (manyR rowR l st bad).1 ∧ SIn ρ' u8c a' n' (manyR rowR l st bad).2.1 ∧ n' ≤ c' ∧ L' = [tkC bt br all (manyR rowR l st bad).2.2.2 vk (.slice sa sn sc) vs, rdC br a' n' c' (manyR rowR l st bad).2.2.1]) := by
  have hm := manyRow_spec ρ bt br all bad vk vr vs a n c l h hc st
  refine spec_enter Try.func164 rfl rfl rfl fun u R => ?_
  simp only [argsE, List.cons_append, List.nil_append]
  repeat' (first | (refine tl_is (.func 167) ?_; refine qC rfl rfl (hm) ?_; rintro v ρ' L' hle ⟨hle1, sa, sn, sc, a', n', c', rfl, q1, q2, q3, q4, q5, rfl⟩ <;> (try simp only [List.cons_append, List.nil_append, List.append_eq])) | (refine i_op ?_; first | (refine i_qq ?_; refine qQ ?_) | refine qEf ?_) | refine tl_nil ?_ | (refine i_tc ?_; refine qTc ?_) | (refine i_te ?_; refine qTe ?_) | intro _)
  exact qE ⟨rfl, hle1, sa, sn, sc, a', n', c', q1, q2, q3, q4, q5, rfl⟩
theorem tinner_spec (ρ : Hp) (bt br : Nat) (all : Int) (bad : Bool) (vk vr vs : Value) (h1 : vk.oneCell' = true) (h2 : vr.oneCell' = true) (h3 : vs.oneCell' = true) (a : Option Addr) (n c : Nat) (l : List UInt8) (h : SIn ρ u8c a n l) (hc : n ≤ c) (st : Int) :
    Spec Try.prog 165 [.pointer (some ⟨bt, 0, none⟩)] ρ [tkC bt br all bad vk vr vs, rdC br a n c st]
      (fun v ρ' L' => v = .tuple ⟨[]⟩ ∧ ρ.le ρ' ∧ ∃ sa sn sc a' n' c', sn ≤ sc ∧ sn ≤ 255 ∧ AIn ρ' 3 kidV sa sn (manyR kidRB l st bad).1 ∧ SIn ρ' u8c a' n' (manyR kidRB l st bad).2.1 ∧ n' ≤ c' ∧ L' = [tkC bt br all (manyR kidRB l st bad).2.2.2 vk vr (.slice sa sn sc), rdC br a' n' c' (manyR kidRB l st bad).2.2.1]) := by
  have hm := manyKid_spec ρ bt br all bad vk vr vs a n c l h hc st
  refine spec_enter Try.func165 rfl rfl rfl fun u R => ?_
  simp only [argsE, List.cons_append, List.nil_append]
  repeat' (first | (refine tl_is (.func 169) ?_; refine qC rfl rfl (hm) ?_; rintro v ρ' L' hle ⟨hle1, sa, sn, sc, a', n', c', rfl, q1, q2, q3, q4, q5, rfl⟩ <;> (try simp only [List.cons_append, List.nil_append, List.append_eq])) | (refine i_op ?_; first | (refine i_qq ?_; refine qQ ?_) | refine qEf ?_) | refine tl_nil ?_ | (refine i_tc ?_; refine qTc ?_) | (refine i_te ?_; refine qTe ?_) | intro _)
  exact qE ⟨rfl, hle1, sa, sn, sc, a', n', c', q1, q2, q3, q4, q5, rfl⟩
end Go.Proofs.E

namespace Go.Proofs.E
open Go
set_option linter.unusedVariables false
set_option linter.unusedSimpArgs false
set_option linter.unusedSectionVars false
set_option maxRecDepth 4000
set_option maxHeartbeats 1000000
attribute [local irreducible] Yl TL TC TE Spec YSpec R1 Hp.le EnvLe TS TR YS Stays
theorem from_spec (ρ : Hp) (a : Option Addr) (n c : Nat) (l : List UInt8) (h : SIn ρ u8c a n l) (hn : n ≤ 1000000) :
    Spec Try.prog 151 [.slice a n c] ρ [] (fun v ρ' L' => ρ.le ρ' ∧ ∃ bt br a' c', v = .pointer (some ⟨bt, 0, none⟩) ∧ n ≤ c' ∧ SIn ρ' u8c a' n l ∧ L' = [tkC bt br n false (.int .i64 0) (.slice none 0 0) (.slice none 0 0), rdC br a' n c' 0]) := by
  have hr := read_spec ρ a n c l h hn
  refine spec_enter Try.func151 rfl rfl rfl fun u R => ?_
  simp only [argsE, List.cons_append, List.nil_append]
  repeat' (first | (refine tl_is (.func 140) ?_; refine qC rfl rfl (hr) ?_; rintro v ρ' L' hle ⟨hle, br, a', c', rfl, hc', hs, rfl⟩ <;> (try simp only [List.cons_append, List.nil_append, List.append_eq])) | (refine i_op ?_; first | (refine i_qq ?_; refine qQ ?_) | refine qEf ?_) | refine tl_nil ?_ | (refine i_tc ?_; refine qTc ?_) | (refine i_te ?_; refine qTe ?_) | intro _)
  exact qE ⟨hle, _, br, a', c', rfl, hc', hs, rfl⟩
def takenN (all : Int) (left : Nat) (bad : Bool) (st : Int) : Int := if bad then 0 else if st ≠ 0 then 0 else all - left
def takenE (bad : Bool) (st : Int) : Int := if bad then 161 else st
theorem takenCont_spec (ρ : Hp) (bt br : Nat) (all : Nat) (hall : all ≤ 1000000) (bad : Bool) (vk vr vs : Value) (a : Option Addr) (n c : Nat) (st : Int) (k : Int) (w : CV) (hn : n ≤ all) :
    Spec Try.prog 152 [.pointer (some ⟨bt, 0, none⟩), .agg ⟨contV k w⟩] ρ [tkC bt br all bad vk vr vs, rdC br a n c st]
      (fun v ρ' L' => v = .tuple ⟨[.agg ⟨if bad || decide (st ≠ 0) then contV 0 ⟨none, 0, 0, none, 0, 0⟩ else contV k w⟩, .int .i64 (takenN all n bad st), .int .i64 (takenE bad st)]⟩ ∧ ρ' = ρ ∧ L' = []) := by
  refine spec_enter Try.func152 rfl rfl rfl fun u R => ?_
  simp only [argsE, List.cons_append, List.nil_append, takenN, takenE]
  cases bad
  · by_cases h : st = 0
    · subst h
      simp only [Bool.false_or, ne_eq, not_true_eq_false, decide_false, Bool.false_eq_true, if_false]
      repeat' (first | (refine tl_is (.func 160) ?_; refine qC rfl rfl (err_spec _ br a n c 0) ?_; rintro v ρ' L' hle ⟨rfl, rfl, rfl⟩ <;> (try simp only [List.cons_append, List.nil_append, List.append_eq])) | (refine i_op ?_; first | (refine i_qq ?_; refine qQ ?_) | refine qEf ?_) | refine tl_nil ?_ | (refine i_tc ?_; refine qTc ?_) | (refine i_te ?_; refine qTe ?_) | intro _)
      rename_i b3 b4 b7
      refine tc_any (Stays _ _ ([tkC bt br all false vk vr vs, [(b3, .cells ⟨contV k w⟩ 76 (0, 0))]])) (stays_of (hT := tk) (Hp.le_refl _)) ?_
      all_goals refine rLd 0 ?_
      all_goals refine rMv 1 ?_
      all_goals refine rNc 2 ?_
      all_goals refine rFa 3 ?_
      all_goals refine rLd 4 ?_
      all_goals refine rMv 5 ?_
      all_goals refine rNc 6 ?_
      all_goals refine rFa 7 ?_
      all_goals refine rLd 8 ?_
      all_goals (refine rStep (i := 9) ?_; ((try refine qWant ?_); (first | (refine tl_is (.func 161) ?_; refine qC rfl rfl (left_spec _ br a n c 0) ?_; rintro v ρ' L' hle ⟨rfl, rfl, rfl⟩ <;> (try simp only [List.cons_append, List.nil_append, List.append_eq])) | (refine qEf ?_; try intro _)) <;> ((try simp only [List.cons_append, List.nil_append, List.append_eq]); refine tl_nil ?_; refine rNext ?_)))
      all_goals refine rSb 10 ?_
      all_goals (refine rStep (i := 11) ?_; ((try refine qWant ?_); (first | (refine qEf ?_; try intro _)) <;> ((try simp only [List.cons_append, List.nil_append, List.append_eq]); refine tl_nil ?_; refine rNext ?_)))
      all_goals refine rFull ?_
      all_goals refine rAs 12 ?_
      all_goals refine rAs 13 ?_
      all_goals refine rDone ?_
      repeat' (first | (refine i_op ?_; first | (refine i_qq ?_; refine qQ ?_) | refine qEf ?_) | refine tl_nil ?_ | (refine i_tc ?_; refine qTc ?_) | (refine i_te ?_; refine qTe ?_) | intro _)
      exact qE ⟨rfl, rfl, rfl⟩
    · simp only [Bool.false_or, ne_eq, h, not_false_eq_true, decide_true, if_true, Bool.false_eq_true, if_false]
      repeat' (first | (refine tl_is (.func 160) ?_; refine qC rfl rfl (err_spec _ br a n c st) ?_; rintro v ρ' L' hle ⟨rfl, rfl, rfl⟩ <;> (try simp only [List.cons_append, List.nil_append, List.append_eq])) | (refine i_op ?_; first | (refine i_qq ?_; refine qQ ?_) | refine qEf ?_) | refine tl_nil ?_ | (refine i_tc ?_; refine qTc ?_) | (refine i_te ?_; refine qTe ?_) | intro _)
      rename_i b3 b4 b7
      refine tc_any (Stays _ _ ([tkC bt br all false vk vr vs, [(b7, .cells ⟨contV 0 ⟨none, 0, 0, none, 0, 0⟩⟩ 76 (0, 0))]])) (stays_of (hT := tk) (Hp.le_refl _)) ?_
      all_goals refine rLd 0 ?_
      all_goals refine rMv 1 ?_
      all_goals refine rNc 2 ?_
      all_goals refine rFa 3 ?_
      all_goals refine rLd 4 ?_
      all_goals (refine rStep (i := 5) ?_; ((try refine qWant ?_); (first | (refine tl_is (.func 160) ?_; refine qC rfl rfl (err_spec _ br a n c st) ?_; rintro v ρ' L' hle ⟨rfl, rfl, rfl⟩ <;> (try simp only [List.cons_append, List.nil_append, List.append_eq])) | (refine qEf ?_; try intro _)) <;> ((try simp only [List.cons_append, List.nil_append, List.append_eq]); refine tl_nil ?_; refine rNext ?_)))
      all_goals (refine rStep (i := 6) ?_; ((try refine qWant ?_); (first | (refine qEf ?_; try intro _)) <;> ((try simp only [List.cons_append, List.nil_append, List.append_eq]); refine tl_nil ?_; refine rNext ?_)))
      all_goals refine rFull ?_
      all_goals refine rAs 7 ?_
      all_goals refine rAs 8 ?_
      all_goals refine rDone ?_
      repeat' (first | (refine i_op ?_; first | (refine i_qq ?_; refine qQ ?_) | refine qEf ?_) | refine tl_nil ?_ | (refine i_tc ?_; refine qTc ?_) | (refine i_te ?_; refine qTe ?_) | intro _)
      exact qE ⟨rfl, rfl, rfl⟩
  · simp only [Bool.true_or, if_true]
    repeat' (first | (refine i_op ?_; first | (refine i_qq ?_; refine qQ ?_) | refine qEf ?_) | refine tl_nil ?_ | (refine i_tc ?_; refine qTc ?_) | (refine i_te ?_; refine qTe ?_) | intro _)
    exact qE ⟨rfl, rfl, rfl⟩
end Go.Proofs.E

namespace Go.Proofs.E
open Go
set_option linter.unusedVariables false
set_option linter.unusedSimpArgs false
set_option linter.unusedSectionVars false
set_option maxRecDepth 4000
set_option maxHeartbeats 1000000
attribute [local irreducible] Yl TL TC TE Spec YSpec R1 Hp.le EnvLe TS TR YS Stays
def contM (x1 : Nat) (l1 : List UInt8) (st1 : Int) (b1 : Bool) : (List Row × List Kid) × RS3 :=
  if !b1 && decide (st1 = 0) then
    if x1 = 1 then (((manyR rowR l1 st1 b1).1, []), (manyR rowR l1 st1 b1).2)
    else if x1 = 2 then (([], (manyR kidRB l1 st1 b1).1), (manyR kidRB l1 st1 b1).2)
    else (([], []), l1, st1, b1)
  else (([], []), l1, st1, b1)
def contE (x1 : Nat) (m : (List Row × List Kid) × RS3) : Cont × RS3 := (⟨x1, m.1.1, m.1.2⟩, m.2.1, m.2.2.1, needB m.2.2.2 m.2.2.1 (contOk ⟨x1, m.1.1, m.1.2⟩))
def contentR (l : List UInt8) : Cont × RS3 :=
  contE (numR 1 l 0).1 (contM (numR 1 l 0).1 (numR 1 l 0).2.1 (numR 1 l 0).2.2 (needB false (numR 1 l 0).2.2 (decide (((numR 1 l 0).1 : Int) ≤ 2))))
theorem CIn.nil {ρ : Hp} : CIn ρ ⟨none, 0, 0, none, 0, 0⟩ [] [] := ⟨AIn.nil, AIn.nil, by decide, by decide, by decide, by decide⟩
theorem content_spec (ρ : Hp) (bt br : Nat) (all : Int) (a : Option Addr) (n c : Nat) (l : List UInt8) (h : SIn ρ u8c a n l) (hc : n ≤ c) :
    Spec Try.prog 153 [.pointer (some ⟨bt, 0, none⟩)] ρ [tkC bt br all false (.int .i64 0) (.slice none 0 0) (.slice none 0 0), rdC br a n c 0]
      (fun v ρ' L' => ρ.le ρ' ∧ ∃ w a' n' c', v = .agg ⟨contV (contentR l).1.kind w⟩ ∧ CIn ρ' w (contentR l).1.rows (contentR l).1.kids ∧ SIn ρ' u8c a' n' (contentR l).2.1 ∧ n' ≤ c' ∧
        L' = [tkC bt br all (contentR l).2.2.2 (.int .i64 (contentR l).1.kind) (.slice w.ra w.rn w.rc) (.slice w.ka w.kn w.kc), rdC br a' n' c' (contentR l).2.2.1]) := by
  have hn1 := u8_spec ρ br a n c l h hc 0
  have hb1 := numR_lt 1 l 0
  generalize hq : contentR l = q
  unfold contentR at hq
  generalize numR 1 l 0 = r1 at *
  obtain ⟨x1, l1, st1⟩ := r1
  dsimp only at hq hn1 hb1
  generalize hB1 : needB false st1 (decide ((x1 : Int) ≤ 2)) = b1 at *
  have hnil : IntKeys .i64 [] := by intro e he; simp at he
  have hg0 : ∀ k : Int, mget [] k = none := fun _ => rfl
  refine spec_enter Try.func153 rfl rfl rfl fun u R => ?_
  simp only [argsE, List.cons_append, List.nil_append]
  rcases (show (x1 : Int) = 1 ∨ (x1 : Int) = 2 ∨ (x1 : Int) = 0 ∨ (2 : Int) < (x1 : Int) by omega) with hx | hx | hx | hx
  · rw [decide_eq_true (show (x1 : Int) ≤ 2 by omega)] at hB1
    repeat' (first | (refine tl_is (.func 162) ?_; refine qC rfl rfl (hn1) ?_; rintro v ρ' L' hle ⟨rfl, rfl, a1, n1, c1, h1, hc1, rfl⟩ <;> (try simp only [List.cons_append, List.nil_append, List.append_eq])) | (refine tl_is (.func 163) ?_; refine qC rfl rfl (need_spec _ bt br all false _ _ _ a1 n1 c1 st1 _) ?_; rintro v ρ' L' hle ⟨rfl, rfl, rfl⟩ <;> (try simp only [List.cons_append, List.nil_append, List.append_eq, hB1])) | (refine tl_insert rfl rfl rfl hnil (fun es1 ck1 i1 i2 => ?_)) | (refine tl_insert rfl rfl rfl i1 (fun es2 ck2 j1 j2 => ?_); have hg := j2 (x1 : Int); rw [i2, if_neg (by omega), if_pos hx] at hg) | (refine i_op ?_; first | (refine i_qq ?_; refine qQ ?_) | refine qEf ?_) | refine tl_nil ?_ | (refine i_tc ?_; refine qTc ?_) | (refine i_te ?_; refine qTe ?_) | intro _)
    cases hok : (!b1 && decide (st1 = 0))
    · have hm : contM x1 l1 st1 b1 = (([], []), l1, st1, b1) := by rw [contM, hok]; rfl
      rw [hm] at hq
      have hck := fun ρ => check_spec ρ ⟨none, 0, 0, none, 0, 0⟩ ⟨x1, [], []⟩ CIn.nil
      simp only [contE] at hq
      generalize hB2 : needB b1 st1 (contOk ⟨x1, [], []⟩) = b2 at *
      subst hq
      repeat' (first | (refine tl_is (.func 166) ?_; refine qC rfl rfl (ok_spec _ bt br all b1 _ _ _ a1 n1 c1 st1) ?_; rintro v ρ' L' hle ⟨rfl, rfl, rfl⟩ <;> (try simp only [List.cons_append, List.nil_append, List.append_eq, hok])) | (refine i_op ?_; first | (refine i_qq ?_; refine qQ ?_) | refine qEf ?_) | refine tl_nil ?_ | (refine i_tc ?_; refine qTc ?_) | (refine i_te ?_; refine qTe ?_) | intro _)
      cases hco : contOk ⟨x1, [], []⟩
      all_goals rw [hco] at hck hB2
      all_goals (repeat' (first | (refine tl_is (.func 38) ?_; refine qC rfl rfl (hck _) ?_; rintro v ρ' L' hle ⟨rfl, rfl, rfl⟩ <;> (try simp only [List.cons_append, List.nil_append, List.append_eq, if_true, if_false, Bool.false_eq_true])) | (refine tl_is (.func 163) ?_; refine qC rfl rfl (need_spec _ bt br all b1 _ _ _ a1 n1 c1 st1 _) ?_; rintro v ρ' L' hle ⟨rfl, rfl, rfl⟩ <;> (try simp only [List.cons_append, List.nil_append, List.append_eq, hB2])) | (refine i_op ?_; first | (refine i_qq ?_; refine qQ ?_) | refine qEf ?_) | refine tl_nil ?_ | (refine i_tc ?_; refine qTc ?_) | (refine i_te ?_; refine qTe ?_) | intro _))
      all_goals exact qE ⟨Hp.le_refl _, ⟨none, 0, 0, none, 0, 0⟩, a1, n1, c1, rfl, CIn.nil, h1, hc1, rfl⟩
    · have hlf := fun ρ (h : SIn ρ u8c a1 n1 l1) => tleaf_spec ρ bt br all b1 (.int .i64 x1) (.slice none 0 0) (.slice none 0 0) rfl rfl rfl a1 n1 c1 l1 h hc1 st1
      have hm : contM x1 l1 st1 b1 = (((manyR rowR l1 st1 b1).1, []), (manyR rowR l1 st1 b1).2) := by rw [contM, if_pos hok, if_pos (by omega)]
      rw [hm] at hq
      generalize manyR rowR l1 st1 b1 = m at *
      obtain ⟨xs, l2, st2, b2⟩ := m
      dsimp only at hq hlf
      have hck := fun ρ w h => check_spec ρ w ⟨x1, xs, []⟩ h
      simp only [contE] at hq
      generalize hB2 : needB b2 st2 (contOk ⟨x1, xs, []⟩) = b3 at *
      subst hq
      repeat' (first | (refine tl_is (.func 166) ?_; refine qC rfl rfl (ok_spec _ bt br all b1 _ _ _ a1 n1 c1 st1) ?_; rintro v ρ' L' hle ⟨rfl, rfl, rfl⟩ <;> (try simp only [List.cons_append, List.nil_append, List.append_eq, hok])) | (refine tl_is (.tmp 40) ?_; refine qC rfl rfl (hlf _ h1) ?_; rintro v ρ' L' hle ⟨rfl, hle2, sa, sn, sc, a2, n2, c2, hsc, hs255, hA, h2, hc2, rfl⟩ <;> (try simp only [List.cons_append, List.nil_append, List.append_eq])) | (refine i_op ?_; first | (refine i_qq ?_; refine qQ ?_) | refine qEf ?_) | refine tl_nil ?_ | (refine i_tc ?_; refine qTc ?_) | (refine i_te ?_; refine qTe ?_) | intro _)
      have hC : CIn ρ' ⟨sa, sn, sc, none, 0, 0⟩ xs [] := ⟨hA, AIn.nil, by dsimp only; omega, Nat.zero_le _, hsc, Nat.le_refl _⟩
      cases hco : contOk ⟨x1, xs, []⟩
      all_goals rw [hco] at hck hB2
      all_goals (repeat' (first | (refine tl_is (.func 38) ?_; refine qC rfl rfl (hck _ _ hC) ?_; rintro v ρ' L' hle ⟨rfl, rfl, rfl⟩ <;> (try simp only [List.cons_append, List.nil_append, List.append_eq, if_true, if_false, Bool.false_eq_true])) | (refine tl_is (.func 163) ?_; refine qC rfl rfl (need_spec _ bt br all b2 _ _ _ a2 n2 c2 st2 _) ?_; rintro v ρ' L' hle ⟨rfl, rfl, rfl⟩ <;> (try simp only [List.cons_append, List.nil_append, List.append_eq, hB2])) | (refine i_op ?_; first | (refine i_qq ?_; refine qQ ?_) | refine qEf ?_) | refine tl_nil ?_ | (refine i_tc ?_; refine qTc ?_) | (refine i_te ?_; refine qTe ?_) | intro _))
      all_goals exact qE ⟨hle2, ⟨sa, sn, sc, none, 0, 0⟩, a2, n2, c2, rfl, hC, h2, hc2, rfl⟩
  · rw [decide_eq_true (show (x1 : Int) ≤ 2 by omega)] at hB1
    repeat' (first | (refine tl_is (.func 162) ?_; refine qC rfl rfl (hn1) ?_; rintro v ρ' L' hle ⟨rfl, rfl, a1, n1, c1, h1, hc1, rfl⟩ <;> (try simp only [List.cons_append, List.nil_append, List.append_eq])) | (refine tl_is (.func 163) ?_; refine qC rfl rfl (need_spec _ bt br all false _ _ _ a1 n1 c1 st1 _) ?_; rintro v ρ' L' hle ⟨rfl, rfl, rfl⟩ <;> (try simp only [List.cons_append, List.nil_append, List.append_eq, hB1])) | (refine tl_insert rfl rfl rfl hnil (fun es1 ck1 i1 i2 => ?_)) | (refine tl_insert rfl rfl rfl i1 (fun es2 ck2 j1 j2 => ?_); have hg := j2 (x1 : Int); rw [if_pos hx] at hg) | (refine i_op ?_; first | (refine i_qq ?_; refine qQ ?_) | refine qEf ?_) | refine tl_nil ?_ | (refine i_tc ?_; refine qTc ?_) | (refine i_te ?_; refine qTe ?_) | intro _)
    cases hok : (!b1 && decide (st1 = 0))
    · have hm : contM x1 l1 st1 b1 = (([], []), l1, st1, b1) := by rw [contM, hok]; rfl
      rw [hm] at hq
      have hck := fun ρ => check_spec ρ ⟨none, 0, 0, none, 0, 0⟩ ⟨x1, [], []⟩ CIn.nil
      simp only [contE] at hq
      generalize hB2 : needB b1 st1 (contOk ⟨x1, [], []⟩) = b2 at *
      subst hq
      repeat' (first | (refine tl_is (.func 166) ?_; refine qC rfl rfl (ok_spec _ bt br all b1 _ _ _ a1 n1 c1 st1) ?_; rintro v ρ' L' hle ⟨rfl, rfl, rfl⟩ <;> (try simp only [List.cons_append, List.nil_append, List.append_eq, hok])) | (refine i_op ?_; first | (refine i_qq ?_; refine qQ ?_) | refine qEf ?_) | refine tl_nil ?_ | (refine i_tc ?_; refine qTc ?_) | (refine i_te ?_; refine qTe ?_) | intro _)
      cases hco : contOk ⟨x1, [], []⟩
      all_goals rw [hco] at hck hB2
      all_goals (repeat' (first | (refine tl_is (.func 38) ?_; refine qC rfl rfl (hck _) ?_; rintro v ρ' L' hle ⟨rfl, rfl, rfl⟩ <;> (try simp only [List.cons_append, List.nil_append, List.append_eq, if_true, if_false, Bool.false_eq_true])) | (refine tl_is (.func 163) ?_; refine qC rfl rfl (need_spec _ bt br all b1 _ _ _ a1 n1 c1 st1 _) ?_; rintro v ρ' L' hle ⟨rfl, rfl, rfl⟩ <;> (try simp only [List.cons_append, List.nil_append, List.append_eq, hB2])) | (refine i_op ?_; first | (refine i_qq ?_; refine qQ ?_) | refine qEf ?_) | refine tl_nil ?_ | (refine i_tc ?_; refine qTc ?_) | (refine i_te ?_; refine qTe ?_) | intro _))
      all_goals exact qE ⟨Hp.le_refl _, ⟨none, 0, 0, none, 0, 0⟩, a1, n1, c1, rfl, CIn.nil, h1, hc1, rfl⟩
    · have hlf := fun ρ (h : SIn ρ u8c a1 n1 l1) => tinner_spec ρ bt br all b1 (.int .i64 x1) (.slice none 0 0) (.slice none 0 0) rfl rfl rfl a1 n1 c1 l1 h hc1 st1
      have hm : contM x1 l1 st1 b1 = (([], (manyR kidRB l1 st1 b1).1), (manyR kidRB l1 st1 b1).2) := by rw [contM, if_pos hok, if_neg (by omega), if_pos (by omega)]
      rw [hm] at hq
      generalize manyR kidRB l1 st1 b1 = m at *
      obtain ⟨xs, l2, st2, b2⟩ := m
      dsimp only at hq hlf
      have hck := fun ρ w h => check_spec ρ w ⟨x1, [], xs⟩ h
      simp only [contE] at hq
      generalize hB2 : needB b2 st2 (contOk ⟨x1, [], xs⟩) = b3 at *
      subst hq
      repeat' (first | (refine tl_is (.func 166) ?_; refine qC rfl rfl (ok_spec _ bt br all b1 _ _ _ a1 n1 c1 st1) ?_; rintro v ρ' L' hle ⟨rfl, rfl, rfl⟩ <;> (try simp only [List.cons_append, List.nil_append, List.append_eq, hok])) | (refine tl_is (.tmp 40) ?_; refine qC rfl rfl (hlf _ h1) ?_; rintro v ρ' L' hle ⟨rfl, hle2, sa, sn, sc, a2, n2, c2, hsc, hs255, hA, h2, hc2, rfl⟩ <;> (try simp only [List.cons_append, List.nil_append, List.append_eq])) | (refine i_op ?_; first | (refine i_qq ?_; refine qQ ?_) | refine qEf ?_) | refine tl_nil ?_ | (refine i_tc ?_; refine qTc ?_) | (refine i_te ?_; refine qTe ?_) | intro _)
      have hC : CIn ρ' ⟨none, 0, 0, sa, sn, sc⟩ [] xs := ⟨AIn.nil, hA, Nat.zero_le _, by dsimp only; omega, Nat.le_refl _, hsc⟩
      cases hco : contOk ⟨x1, [], xs⟩
      all_goals rw [hco] at hck hB2
      all_goals (repeat' (first | (refine tl_is (.func 38) ?_; refine qC rfl rfl (hck _ _ hC) ?_; rintro v ρ' L' hle ⟨rfl, rfl, rfl⟩ <;> (try simp only [List.cons_append, List.nil_append, List.append_eq, if_true, if_false, Bool.false_eq_true])) | (refine tl_is (.func 163) ?_; refine qC rfl rfl (need_spec _ bt br all b2 _ _ _ a2 n2 c2 st2 _) ?_; rintro v ρ' L' hle ⟨rfl, rfl, rfl⟩ <;> (try simp only [List.cons_append, List.nil_append, List.append_eq, hB2])) | (refine i_op ?_; first | (refine i_qq ?_; refine qQ ?_) | refine qEf ?_) | refine tl_nil ?_ | (refine i_tc ?_; refine qTc ?_) | (refine i_te ?_; refine qTe ?_) | intro _))
      all_goals exact qE ⟨hle2, ⟨none, 0, 0, sa, sn, sc⟩, a2, n2, c2, rfl, hC, h2, hc2, rfl⟩
  · rw [decide_eq_true (show (x1 : Int) ≤ 2 by omega)] at hB1
    repeat' (first | (refine tl_is (.func 162) ?_; refine qC rfl rfl (hn1) ?_; rintro v ρ' L' hle ⟨rfl, rfl, a1, n1, c1, h1, hc1, rfl⟩ <;> (try simp only [List.cons_append, List.nil_append, List.append_eq])) | (refine tl_is (.func 163) ?_; refine qC rfl rfl (need_spec _ bt br all false _ _ _ a1 n1 c1 st1 _) ?_; rintro v ρ' L' hle ⟨rfl, rfl, rfl⟩ <;> (try simp only [List.cons_append, List.nil_append, List.append_eq, hB1])) | (refine tl_insert rfl rfl rfl hnil (fun es1 ck1 i1 i2 => ?_)) | (refine tl_insert rfl rfl rfl i1 (fun es2 ck2 j1 j2 => ?_); have hg := j2 (x1 : Int); rw [i2, if_neg (by omega), if_neg (by omega), hg0] at hg) | (refine i_op ?_; first | (refine i_qq ?_; refine qQ ?_) | refine qEf ?_) | refine tl_nil ?_ | (refine i_tc ?_; refine qTc ?_) | (refine i_te ?_; refine qTe ?_) | intro _)
    have hm : contM x1 l1 st1 b1 = (([], []), l1, st1, b1) := by
      rw [contM]
      split
      · rw [if_neg (by omega), if_neg (by omega)]
      · rfl
    rw [hm] at hq
    have hck := fun ρ => check_spec ρ ⟨none, 0, 0, none, 0, 0⟩ ⟨x1, [], []⟩ CIn.nil
    simp only [contE] at hq
    generalize hB2 : needB b1 st1 (contOk ⟨x1, [], []⟩) = b2 at *
    subst hq
    cases hco : contOk ⟨x1, [], []⟩
    all_goals rw [hco] at hck hB2
    all_goals (repeat' (first | (refine tl_is (.func 38) ?_; refine qC rfl rfl (hck _) ?_; rintro v ρ' L' hle ⟨rfl, rfl, rfl⟩ <;> (try simp only [List.cons_append, List.nil_append, List.append_eq, if_true, if_false, Bool.false_eq_true])) | (refine tl_is (.func 163) ?_; refine qC rfl rfl (need_spec _ bt br all b1 _ _ _ a1 n1 c1 st1 _) ?_; rintro v ρ' L' hle ⟨rfl, rfl, rfl⟩ <;> (try simp only [List.cons_append, List.nil_append, List.append_eq, hB2])) | (refine i_op ?_; first | (refine i_qq ?_; refine qQ ?_) | refine qEf ?_) | refine tl_nil ?_ | (refine i_tc ?_; refine qTc ?_) | (refine i_te ?_; refine qTe ?_) | intro _))
    all_goals exact qE ⟨Hp.le_refl _, ⟨none, 0, 0, none, 0, 0⟩, a1, n1, c1, rfl, CIn.nil, h1, hc1, rfl⟩
  · rw [decide_eq_false (show ¬ (x1 : Int) ≤ 2 by omega)] at hB1
    repeat' (first | (refine tl_is (.func 162) ?_; refine qC rfl rfl (hn1) ?_; rintro v ρ' L' hle ⟨rfl, rfl, a1, n1, c1, h1, hc1, rfl⟩ <;> (try simp only [List.cons_append, List.nil_append, List.append_eq])) | (refine tl_is (.func 163) ?_; refine qC rfl rfl (need_spec _ bt br all false _ _ _ a1 n1 c1 st1 _) ?_; rintro v ρ' L' hle ⟨rfl, rfl, rfl⟩ <;> (try simp only [List.cons_append, List.nil_append, List.append_eq, hB1])) | (refine tl_insert rfl rfl rfl hnil (fun es1 ck1 i1 i2 => ?_)) | (refine tl_insert rfl rfl rfl i1 (fun es2 ck2 j1 j2 => ?_); have hg := j2 (x1 : Int); rw [i2, if_neg (by omega), if_neg (by omega), hg0] at hg) | (refine i_op ?_; first | (refine i_qq ?_; refine qQ ?_) | refine qEf ?_) | refine tl_nil ?_ | (refine i_tc ?_; refine qTc ?_) | (refine i_te ?_; refine qTe ?_) | intro _)
    have hm : contM x1 l1 st1 b1 = (([], []), l1, st1, b1) := by
      rw [contM]
      split
      · rw [if_neg (by omega), if_neg (by omega)]
      · rfl
    rw [hm] at hq
    have hck := fun ρ => check_spec ρ ⟨none, 0, 0, none, 0, 0⟩ ⟨x1, [], []⟩ CIn.nil
    simp only [contE] at hq
    generalize hB2 : needB b1 st1 (contOk ⟨x1, [], []⟩) = b2 at *
    subst hq
    cases hco : contOk ⟨x1, [], []⟩
    all_goals rw [hco] at hck hB2
    all_goals (repeat' (first | (refine tl_is (.func 38) ?_; refine qC rfl rfl (hck _) ?_; rintro v ρ' L' hle ⟨rfl, rfl, rfl⟩ <;> (try simp only [List.cons_append, List.nil_append, List.append_eq, if_true, if_false, Bool.false_eq_true])) | (refine tl_is (.func 163) ?_; refine qC rfl rfl (need_spec _ bt br all b1 _ _ _ a1 n1 c1 st1 _) ?_; rintro v ρ' L' hle ⟨rfl, rfl, rfl⟩ <;> (try simp only [List.cons_append, List.nil_append, List.append_eq, hB2])) | (refine i_op ?_; first | (refine i_qq ?_; refine qQ ?_) | refine qEf ?_) | refine tl_nil ?_ | (refine i_tc ?_; refine qTc ?_) | (refine i_te ?_; refine qTe ?_) | intro _))
    all_goals exact qE ⟨Hp.le_refl _, ⟨none, 0, 0, none, 0, 0⟩, a1, n1, c1, rfl, CIn.nil, h1, hc1, rfl⟩
end Go.Proofs.E

namespace Go.Proofs.E
open Go
set_option linter.unusedVariables false
set_option linter.unusedSimpArgs false
set_option linter.unusedSectionVars false
set_option maxRecDepth 4000
set_option maxHeartbeats 1000000
attribute [local irreducible] Yl TL TC TE Spec YSpec R1 Hp.le EnvLe TS TR YS Stays
theorem numR_len (k : Nat) (l : List UInt8) (st : Int) : (numR k l st).2.1.length ≤ l.length := by
  unfold numR; split
  · exact Nat.le_refl _
  · split
    · exact Nat.le_refl _
    · simp
theorem rawR_len (k : Nat) (l : List UInt8) (st : Int) : (rawR k l st).2.1.length ≤ l.length := by
  unfold rawR; split
  · exact Nat.le_refl _
  · split
    · exact Nat.le_refl _
    · simp
theorem rowR_len (l : List UInt8) (st : Int) (bad : Bool) : (rowR l st bad).2.1.length ≤ l.length := by
  unfold rowR
  dsimp only
  have e1 := numR_len 1 l st
  generalize numR 1 l st = r1 at *
  have e2 := numR_len 2 r1.2.1 r1.2.2
  generalize numR 2 r1.2.1 r1.2.2 = r2 at *
  have e3 := numR_len 8 r2.2.1 r2.2.2
  generalize numR 8 r2.2.1 r2.2.2 = r3 at *
  have e4 := numR_len 1 r3.2.1 r3.2.2
  generalize numR 1 r3.2.1 r3.2.2 = r4 at *
  have e5 := rawR_len r4.1 r4.2.1 r4.2.2
  split
  · split <;> dsimp only <;> omega
  · dsimp only; omega
theorem kidR_len (l : List UInt8) (st : Int) : (kidR l st).2.1.length ≤ l.length := by
  unfold kidR
  dsimp only
  have e1 := numR_len 1 l st
  generalize numR 1 l st = r1 at *
  have e2 := numR_len 2 r1.2.1 r1.2.2
  generalize numR 2 r1.2.1 r1.2.2 = r2 at *
  have e3 := numR_len 1 r2.2.1 r2.2.2
  omega
theorem manyTo_len {α : Type} {f : List UInt8 → Int → Bool → α × RS3} (hf : ∀ l st bad, (f l st bad).2.1.length ≤ l.length) : ∀ (n : Nat) (l : List UInt8) (st : Int) (bad : Bool), (manyTo f n l st bad).2.1.length ≤ l.length
  | 0, l, st, bad => Nat.le_refl _
  | n + 1, l, st, bad => by
    rw [manyTo]
    split
    · exact Nat.le_trans (manyTo_len hf n _ _ _) (hf l st bad)
    · exact Nat.le_refl _
theorem manyR_len {α : Type} {f : List UInt8 → Int → Bool → α × RS3} (hf : ∀ l st bad, (f l st bad).2.1.length ≤ l.length) (l : List UInt8) (st : Int) (bad : Bool) : (manyR f l st bad).2.1.length ≤ l.length :=
  Nat.le_trans (manyTo_len hf _ _ _ _) (numR_len 1 l st)
theorem contentR_len (l : List UInt8) : (contentR l).2.1.length ≤ l.length := by
  unfold contentR contE
  dsimp only
  have e1 := numR_len 1 l 0
  generalize numR 1 l 0 = r1 at *
  have h2 : ∀ b, (contM r1.1 r1.2.1 r1.2.2 b).2.1.length ≤ r1.2.1.length := fun b => by
    unfold contM
    have a1 := manyR_len (f := rowR) rowR_len r1.2.1 r1.2.2 b
    have a2 := manyR_len (f := kidRB) (fun l st bad => kidR_len l st) r1.2.1 r1.2.2 b
    split
    · split
      · exact a1
      · split
        · exact a2
        · exact Nat.le_refl _
    · exact Nat.le_refl _
  exact Nat.le_trans (h2 _) e1
def takeRowR (l : List UInt8) : Row × Int × Int :=
  let r := rowR l 0 false
  (if r.2.2.2 || decide (r.2.2.1 ≠ 0) then ⟨0, 0, 0, []⟩ else r.1, takenN l.length r.2.1.length r.2.2.2 r.2.2.1, takenE r.2.2.2 r.2.2.1)
def takeContR (l : List UInt8) : Cont × Int × Int :=
  let r := contentR l
  (if r.2.2.2 || decide (r.2.2.1 ≠ 0) then ⟨0, [], []⟩ else r.1, takenN l.length r.2.1.length r.2.2.2 r.2.2.1, takenE r.2.2.2 r.2.2.1)
theorem takeCont_spec (ρ : Hp) (a : Option Addr) (n c : Nat) (l : List UInt8) (h : SIn ρ u8c a n l) (hn : n ≤ 1000000) :
    Spec Try.prog 142 [.slice a n c] ρ [] (fun v ρ' L' => ρ.le ρ' ∧ ∃ w, v = .tuple ⟨[.agg ⟨contV (takeContR l).1.kind w⟩, .int .i64 (takeContR l).2.1, .int .i64 (takeContR l).2.2]⟩ ∧ CIn ρ' w (takeContR l).1.rows (takeContR l).1.kids ∧ L' = []) := by
  have hf := from_spec ρ a n c l h hn
  have hl := h.len
  have hlen := contentR_len l
  unfold takeContR
  dsimp only
  rw [hl] at hlen ⊢
  refine spec_enter Try.func142 rfl rfl rfl fun u R => ?_
  simp only [argsE, List.cons_append, List.nil_append]
  repeat' (first | (refine tl_is (.func 151) ?_; refine qC rfl rfl (hf) ?_; rintro v ρ' L' hle ⟨hle1, bt, br, a1, c1, rfl, hc1, h1, rfl⟩ <;> (try simp only [List.cons_append, List.nil_append, List.append_eq])) | (refine i_op ?_; first | (refine i_qq ?_; refine qQ ?_) | refine qEf ?_) | refine tl_nil ?_ | (refine i_tc ?_; refine qTc ?_) | (refine i_te ?_; refine qTe ?_) | intro _)
  have hr := content_spec _ bt br n a1 n c1 l h1 hc1
  generalize contentR l = r at *
  obtain ⟨x, l2, st2, b2⟩ := r
  dsimp only at hr hlen ⊢
  repeat' (first | (refine tl_is (.func 153) ?_; refine qC rfl rfl (hr) ?_; rintro v ρ' L' hle ⟨hle2, w, a2, n2, c2, rfl, hC, h2, hc2, rfl⟩ <;> (try simp only [List.cons_append, List.nil_append, List.append_eq])) | (refine i_op ?_; first | (refine i_qq ?_; refine qQ ?_) | refine qEf ?_) | refine tl_nil ?_ | (refine i_tc ?_; refine qTc ?_) | (refine i_te ?_; refine qTe ?_) | intro _)
  have hl2 := h2.len
  rw [hl2]
  have ht := fun ρ => takenCont_spec ρ bt br n hn b2 (.int .i64 x.kind) (.slice w.ra w.rn w.rc) (.slice w.ka w.kn w.kc) a2 n2 c2 st2 x.kind w (by omega)
  by_cases hb : (b2 || decide (st2 ≠ 0)) = true
  · rw [if_pos hb] at ht
    rw [if_pos hb]
    repeat' (first | (refine tl_is (.func 152) ?_; refine qC rfl rfl (ht _) ?_; rintro v ρ' L' hle ⟨rfl, rfl, rfl⟩ <;> (try simp only [List.cons_append, List.nil_append, List.append_eq])) | (refine i_op ?_; first | (refine i_qq ?_; refine qQ ?_) | refine qEf ?_) | refine tl_nil ?_ | (refine i_tc ?_; refine qTc ?_) | (refine i_te ?_; refine qTe ?_) | intro _)
    exact qE ⟨Hp.le_trans hle1 hle2, ⟨none, 0, 0, none, 0, 0⟩, rfl, CIn.nil, rfl⟩
  · rw [if_neg hb] at ht
    rw [if_neg hb]
    repeat' (first | (refine tl_is (.func 152) ?_; refine qC rfl rfl (ht _) ?_; rintro v ρ' L' hle ⟨rfl, rfl, rfl⟩ <;> (try simp only [List.cons_append, List.nil_append, List.append_eq])) | (refine i_op ?_; first | (refine i_qq ?_; refine qQ ?_) | refine qEf ?_) | refine tl_nil ?_ | (refine i_tc ?_; refine qTc ?_) | (refine i_te ?_; refine qTe ?_) | intro _)
    exact qE ⟨Hp.le_trans hle1 hle2, w, rfl, hC, rfl⟩
end Go.Proofs.E

