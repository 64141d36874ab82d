/- The law PoolNils. Part 5 of 18. -/
import Derived.Test.YtobldeddiffjgaaGreatB4
namespace Go.Proofs.E
open Go
set_option linter.unusedVariables false
set_option linter.unusedSimpArgs false
set_option linter.unusedSectionVars false
set_option maxRecDepth 4000
set_option maxHeartbeats 1000000
attribute [local irreducible] Yl TL TC TE Spec XZ R1 Hp.le EnvLe TS TR YS Zq
def z8 (n : Nat) : List UInt8 := List.replicate n 0
theorem stc_mid (A B vs ws : List Value) (h : ws.length = vs.length) : stc (A ++ (vs ++ B)) A.length ws = A ++ (ws ++ B) := by
 unfold stc
 rw [List.take_left, h, ← List.drop_drop, List.drop_left, List.drop_left, List.append_assoc]
theorem u8_wrap (y : Nat) : Value.int .u8 (IntKind.u8.wrap (y : Int)) = ZD (UInt8.ofNat y) := by
 simp only [ZD, UInt8.toNat_ofNat', IntKind.wrap, IntKind.bits, IntKind.signed, Bool.false_and, Bool.false_eq_true, if_false]
 congr 1
theorem made_z8 (m : Nat) : madeCells (Value.int .u8 0).cells m = ⟨(z8 m).map ZD⟩ := by
 have hz : (Value.int IntKind.u8 0).cells = ⟨[ZD 0]⟩ := rfl
 rw [hz]
 apply Array.ext'
 apply List.ext_getElem?
 intro i
 by_cases hi : i < m
 ·simp [madeCells, z8, hi, Nat.mod_one]
 ·rw [List.getElem?_eq_none (by simp [madeCells]; omega), List.getElem?_eq_none (by simp [z8]; omega)]
theorem own_chunk (b n c : Nat) {xs : List Value} {T : TypeId} : [(b, Obj.cells ⟨xs⟩ T (0, 0))] = YC (.slice (some ⟨b, 0, none⟩) n c) xs [] T := by simp [YC]
theorem stand_spec (ρ : Hp) (a : Option Addr) (n c : Nat) (l : List UInt8) (h : SIn ρ ZD a n l) (x p : Nat) (hx : x < 18446744073709551616) (hp : p ≤ 8) (hp1 : 1 ≤ p) (hn : n ≤ 1000000) :
  Spec Tryz.prog 232 [.slice a n c, .int .u64 x, .int .i64 p] ρ [] (fun v ρ' L' => ρ' = ρ ∧ ∃ sp, OwnS v (n + p) ((l ++ be p x).map ZD) sp 1 ∧ L' = [YC v ((l ++ be p x).map ZD) sp 5]) := by
 have hl := h.len
 refine Ze Tryz.func232 rfl rfl rfl fun u R => ?_
 simp only [Zp, List.cons_append, List.nil_append]
 repeat' (first | (refine tl_makeSlice rfl rfl (by omega) (by omega) (by omega) (by omega) rfl (fun hbn => ?_)) | (refine Zg ?_; first | (refine Zf ?_; refine qQ ?_) | refine Zj ?_) | refine Za ?_ | (refine Zh ?_; refine Zu ?_) | (refine Zi ?_; refine Zv ?_) | intro _)
 simp only [show ((n : Int) + (p : Int)).toNat = n + p by omega, Nat.mul_one, made_z8]
 have hinit : stc ((z8 (n + p)).map ZD) 0 ((l.map ZD).take (n + p)) = (l ++ (z8 (p - 0) ++ be 0 x)).map ZD := by
  rw [List.take_of_length_le (by simp; omega)]
  unfold stc
  have e : z8 (n + p) = z8 n ++ z8 p := by simp [z8, List.replicate_append_replicate]
  rw [e]
  simp [be, hl, z8]
 refine tl_copy (ys := l.map ZD) rfl rfl (SIn.srcV h) (by simpa using hl) (Yj l) (by simp [z8]) rfl ?_
 simp only [hinit]
 repeat' (first | (refine Zg ?_; first | (refine Zf ?_; refine qQ ?_) | refine Zj ?_) | refine Za ?_ | (refine Zh ?_; refine Zu ?_) | (refine Zi ?_; refine Zv ?_) | intro _)
 refine ZK [(6, _), (7, _), (17, _)] (fun (ζ : (Nat) × (Nat)) => [(18, .int .i64 ζ.1), (1, .int .u64 (ζ.2 : Nat))]) (fun (ζ : (Nat) × (Nat)) => ρ) (fun (ζ : (Nat) × (Nat)) => [[(hbn, .cells ⟨(l ++ (z8 (p - ζ.1) ++ be ζ.1 x)).map ZD⟩ 5 (0, 0))]]) (fun (ζ : (Nat) × (Nat)) => ζ.1 ≤ p ∧ ζ.2 = x / 256 ^ ζ.1) (fun (ζ : (Nat) × (Nat)) => p - ζ.1) ((0, x)) (⟨Nat.zero_le _, by simp⟩) Zw Zw rfl tk ?_
 rintro ⟨k, y⟩ hI
 try simp only [List.cons_append, List.nil_append, List.append_assoc, List.append_eq] at hI ⊢
 try dsimp only at hI ⊢
 obtain ⟨hk, hy⟩ := hI
 by_cases hlt : k < p
 ·have hlen : ((l ++ (z8 (p - k) ++ be k x)).map ZD).length = n + p := by simp [z8, Zs, hl]; omega
  have hst : stc ((l ++ (z8 (p - k) ++ be k x)).map ZD) (0 + ((n : Int) + (p : Int) - 1 - k).toNat * 1) [ZD (UInt8.ofNat y)] = (l ++ (z8 (p - (k + 1)) ++ be (k + 1) x)).map ZD := by
   have e1 : z8 (p - k) = z8 (p - (k + 1)) ++ [0] := by
    rw [show p - k = (p - (k + 1)) + 1 by omega]; simp [z8, List.replicate_succ']
   have e2 : 0 + ((n : Int) + (p : Int) - 1 - k).toNat * 1 = ((l ++ z8 (p - (k + 1))).map ZD).length := by simp [z8, hl]; omega
   have e3 : (l ++ (z8 (p - k) ++ be k x)).map ZD = (l ++ z8 (p - (k + 1))).map ZD ++ ([ZD 0] ++ (be k x).map ZD) := by rw [e1]; simp
   rw [e2, e3, stc_mid _ _ [ZD 0] [ZD (UInt8.ofNat y)] rfl, be, ← hy]
   simp
  have hyy : y / 256 = x / 256 ^ (k + 1) := by rw [hy, Nat.div_div_eq_div_mul, Nat.pow_succ]
  repeat' (first | (refine Zg ?_; first | (refine Zf ?_; refine qQ ?_) | refine Zj ?_) | refine Za ?_ | (refine Zh ?_; refine Zu ?_) | (refine Zi ?_; refine Zv ?_) | intro _)
  have e8 : (y : Int) / 2 ^ 8 = ((x / 256 ^ (k + 1) : Nat) : Int) := by
   rw [← hyy]
   have : (2 : Int) ^ 8 = 256 := by decide
   omega
  rw [e8, u8_wrap, Int.natCast_add, hst]
  refine Zy (k + 1, x / 256 ^ (k + 1)) (⟨hlt, rfl⟩) Zw Zw rfl tk inferInstance (by first | omega | (dsimp only; omega))
 ·have hk2 : k = p := by omega
  subst hk2
  simp only [Nat.sub_self, z8, List.replicate_zero, List.nil_append]
  repeat' (first | (refine Zg ?_; first | (refine Zf ?_; refine qQ ?_) | refine Zj ?_) | refine Za ?_ | (refine Zh ?_; refine Zu ?_) | (refine Zi ?_; refine Zv ?_) | intro _)
  rw [own_chunk hbn (n + k) (n + k)]
  exact qE ⟨rfl, [], ⟨.inr ⟨hbn, n + k, rfl, by simp [Zs, hl], by simp [Zs, hl], Nat.le_refl _⟩⟩, rfl⟩
theorem put16_spec (ρ : Hp) (a : Option Addr) (n c : Nat) (l : List UInt8) (h : SIn ρ ZD a n l) (x : Nat) (hx : x < 65536) (hn : n ≤ 1000000) :
  Spec Tryz.prog 221 [.slice a n c, .int .u16 x] ρ [] (fun v ρ' L' => ρ' = ρ ∧ ∃ sp, OwnS v (n + 2) ((l ++ be 2 x).map ZD) sp 1 ∧ L' = [YC v ((l ++ be 2 x).map ZD) sp 5]) := by
 have hw : IntKind.u64.wrap (x : Int) = x := WH (by simp only [lo, hi]; omega)
 have hs := stand_spec ρ a n c l h x 2 (by omega) (by omega) (by omega) hn
 refine Ze Tryz.func221 rfl rfl rfl fun u R => ?_
 simp only [Zp, List.cons_append, List.nil_append]
 repeat' (first | (refine iCv ?_; refine ZS (y_conv rfl) rfl rfl ?_; rw [hw]) | (refine Zc (.func 232) ?_; refine qC rfl rfl (hs) ?_; rintro v ρ' L' hle ⟨rfl, sp, hown, rfl⟩ <;> (try simp only [kM, kN, kO])) | (refine Zg ?_; first | (refine Zf ?_; refine qQ ?_) | refine Zj ?_) | refine Za ?_ | (refine Zh ?_; refine Zu ?_) | (refine Zi ?_; refine Zv ?_) | intro _)
 exact qE ⟨rfl, sp, hown, rfl⟩
theorem put64_spec (ρ : Hp) (a : Option Addr) (n c : Nat) (l : List UInt8) (h : SIn ρ ZD a n l) (x : Nat) (hx : x < 18446744073709551616) (hn : n ≤ 1000000) :
  Spec Tryz.prog 178 [.slice a n c, .int .u64 x] ρ [] (fun v ρ' L' => ρ' = ρ ∧ ∃ sp, OwnS v (n + 8) ((l ++ be 8 x).map ZD) sp 1 ∧ L' = [YC v ((l ++ be 8 x).map ZD) sp 5]) := by
 have hs := stand_spec ρ a n c l h x 8 (by omega) (by omega) (by omega) hn
 refine Ze Tryz.func178 rfl rfl rfl fun u R => ?_
 simp only [Zp, List.cons_append, List.nil_append]
 repeat' (first | (refine Zc (.func 232) ?_; refine qC rfl rfl (hs) ?_; rintro v ρ' L' hle ⟨rfl, sp, hown, rfl⟩ <;> (try simp only [kM, kN, kO])) | (refine Zg ?_; first | (refine Zf ?_; refine qQ ?_) | refine Zj ?_) | refine Za ?_ | (refine Zh ?_; refine Zu ?_) | (refine Zi ?_; refine Zv ?_) | intro _)
 exact qE ⟨rfl, sp, hown, rfl⟩
theorem OwnS.zero (b sz : Nat) : OwnS (.slice (some ⟨b, 0, none⟩) 0 0) 0 [] [] sz := ⟨.inr ⟨b, 0, rfl, by simp, by simp, Nat.le_refl _⟩⟩
abbrev rdC (br : Nat) (a : Option Addr) (n c : Nat) (st : Int) : List (Nat × Obj) := [(br, .cells ⟨[.slice a n c, .int .i64 st]⟩ 236 (0, 0))]
theorem bclone_spec (ρ : Hp) (a : Option Addr) (n c : Nat) (l : List UInt8) (h : SIn ρ ZD a n l) (hn : n ≤ 1000000) :
  Spec Tryz.prog 142 [.slice a n c] ρ [] (fun v ρ' L' => ρ.le ρ' ∧ ∃ a' c', v = .slice a' n c' ∧ n ≤ c' ∧ SIn ρ' ZD a' n l ∧ L' = []) := by
 refine Ze Tryz.func142 rfl rfl rfl fun u R => ?_
 simp only [Zp, List.cons_append, List.nil_append]
 cases a with
 | none =>
  have hn0 : n = 0 := by
   rcases h.out with h0 | ⟨b, off, C, T, fr, h1, _⟩
   ·exact h0
   ·cases h1
  subst hn0
  repeat' (first | (refine Zg ?_; first | (refine Zf ?_; refine qQ ?_) | refine Zj ?_) | refine Za ?_ | (refine Zh ?_; refine Zu ?_) | (refine Zi ?_; refine Zv ?_) | intro _)
  exact qE ⟨Hp.le_refl _, none, 0, rfl, Nat.le_refl _, ⟨h.len, .inl rfl⟩, rfl⟩
 | some a =>
  repeat' (first | (refine Zg ?_; first | (refine Zf ?_; refine qQ ?_) | refine Zj ?_) | refine Za ?_ | (refine Zh ?_; refine Zu ?_) | (refine Zi ?_; refine Zv ?_) | intro _)
  refine Xc (n := 0) (xs := []) (sp := []) (ys := l.map ZD) (sz := 1) rfl rfl (OwnS.zero _ 1) (hR := Yw) (SIn.srcV h) (by simpa using h.len) (Yj l) (by decide) rfl (by omega) (by omega) rfl (fun v' sp' hown' => ?_)
  simp only [Nat.zero_add, List.nil_append] at hown' ⊢
  repeat' (first | (refine Zg ?_; first | (refine Zf ?_; refine qQ ?_) | refine Zj ?_) | refine Za ?_ | (refine Zh ?_; refine Zu ?_) | (refine Zi ?_; refine Zv ?_) | intro _)
  refine Xo _ (h := Rem.here) (fun ρ' hle hfz => ?_)
  obtain ⟨a', c', rfl, hc, hs⟩ := hown'.sIn hfz
  exact qE ⟨hle, a', c', rfl, hc, hs, rfl⟩
theorem read_spec (ρ : Hp) (a : Option Addr) (n c : Nat) (l : List UInt8) (h : SIn ρ ZD a n l) (hn : n ≤ 1000000) :
  Spec Tryz.prog 96 [.slice a n c] ρ [] (fun v ρ' L' => ρ.le ρ' ∧ ∃ br a' c', v = .pointer (some ⟨br, 0, none⟩) ∧ n ≤ c' ∧ SIn ρ' ZD a' n l ∧ L' = [rdC br a' n c' 0]) := by
 have hc := bclone_spec ρ a n c l h hn
 refine Ze Tryz.func96 rfl rfl rfl fun u R => ?_
 simp only [Zp, List.cons_append, List.nil_append]
 repeat' (first | (refine Zc (.func 142) ?_; refine qC rfl rfl (hc) ?_; rintro v ρ' L' hle ⟨hle, a', c', rfl, hc', hs, rfl⟩ <;> (try simp only [kM, kN, kO])) | (refine Zg ?_; first | (refine Zf ?_; refine qQ ?_) | refine Zj ?_) | refine Za ?_ | (refine Zh ?_; refine Zu ?_) | (refine Zi ?_; refine Zv ?_) | intro _)
 exact qE ⟨hle, _, a', c', rfl, hc', hs, rfl⟩
theorem Wv (ρ : Hp) (br : Nat) (a : Option Addr) (n c : Nat) (st : Int) :
  Spec Tryz.prog 157 [.pointer (some ⟨br, 0, none⟩)] ρ [rdC br a n c st] (fun v ρ' L' => v = .int .i64 st ∧ ρ' = ρ ∧ L' = [rdC br a n c st]) := by
 refine Ze Tryz.func157 rfl rfl rfl fun u R => ?_
 simp only [Zp, List.cons_append, List.nil_append]
 repeat' (first | (refine Zg ?_; first | (refine Zf ?_; refine qQ ?_) | refine Zj ?_) | refine Za ?_ | (refine Zh ?_; refine Zu ?_) | (refine Zi ?_; refine Zv ?_) | intro _)
 exact qE ⟨rfl, rfl, rfl⟩
theorem left_spec (ρ : Hp) (br : Nat) (a : Option Addr) (n c : Nat) (st : Int) :
  Spec Tryz.prog 106 [.pointer (some ⟨br, 0, none⟩)] ρ [rdC br a n c st] (fun v ρ' L' => v = .int .i64 n ∧ ρ' = ρ ∧ L' = [rdC br a n c st]) := by
 refine Ze Tryz.func106 rfl rfl rfl fun u R => ?_
 simp only [Zp, List.cons_append, List.nil_append]
 repeat' (first | (refine Zg ?_; first | (refine Zf ?_; refine qQ ?_) | refine Zj ?_) | refine Za ?_ | (refine Zh ?_; refine Zu ?_) | (refine Zi ?_; refine Zv ?_) | intro _)
 exact qE ⟨rfl, rfl, rfl⟩
theorem gives_stuck (ρ : Hp) (br : Nat) (a : Option Addr) (n c : Nat) (st : Int) (hst : st ≠ 0) (k : Int) (f : Value) :
  Spec Tryz.prog 200 [.pointer (some ⟨br, 0, none⟩), .int .i64 k, f] ρ [rdC br a n c st] (fun v ρ' L' => v = .tuple ⟨[]⟩ ∧ ρ' = ρ ∧ L' = [rdC br a n c st]) := by
 refine Ze Tryz.func200 rfl rfl rfl fun u R => ?_
 simp only [Zp, List.cons_append, List.nil_append]
 repeat' (first | (refine Zc (.func 157) ?_; refine qC rfl rfl (Wv _ br a n c st) ?_; rintro v ρ' L' hle ⟨rfl, rfl, rfl⟩ <;> (try simp only [kM, kN, kO])) | (refine Zg ?_; first | (refine Zf ?_; refine qQ ?_) | refine Zj ?_) | refine Za ?_ | (refine Zh ?_; refine Zu ?_) | (refine Zi ?_; refine Zv ?_) | intro _)
 exact qE ⟨rfl, rfl, rfl⟩
theorem gives_short (ρ : Hp) (br : Nat) (a : Option Addr) (n c : Nat) (k : Int) (hk : (n : Int) < k) (f : Value) :
  Spec Tryz.prog 200 [.pointer (some ⟨br, 0, none⟩), .int .i64 k, f] ρ [rdC br a n c 0] (fun v ρ' L' => v = .tuple ⟨[]⟩ ∧ ρ' = ρ ∧ L' = [rdC br a n c 7]) := by
 refine Ze Tryz.func200 rfl rfl rfl fun u R => ?_
 simp only [Zp, List.cons_append, List.nil_append]
 repeat' (first | (refine Zc (.func 157) ?_; refine qC rfl rfl (Wv _ br a n c 0) ?_; rintro v ρ' L' hle ⟨rfl, rfl, rfl⟩ <;> (try simp only [kM, kN, kO])) | (refine Zg ?_; first | (refine Zf ?_; refine qQ ?_) | refine Zj ?_) | refine Za ?_ | (refine Zh ?_; refine Zu ?_) | (refine Zi ?_; refine Zv ?_) | intro _)
 exact qE ⟨rfl, rfl, rfl⟩
theorem gives_ok (ρ : Hp) (br : Nat) (a : Option Addr) (n c : Nat) (l : List UInt8) (h : SIn ρ ZD a n l) (hc : n ≤ c) (k : Nat) (hk : k ≤ n) (g : Nat) (cs : List Value) (X X' : SH) [Yc Tryz.prog g]
  (hS : SIn ρ ZD a k (l.take k) → Spec Tryz.prog g ([.slice a k c] ++ cs) ρ X (fun v ρ' L' => v = .tuple ⟨[]⟩ ∧ ρ' = ρ ∧ L' = X')) :
  Spec Tryz.prog 200 [.pointer (some ⟨br, 0, none⟩), .int .i64 k, .func (.func g) ⟨[]⟩ ⟨cs⟩] ρ (rdC br a n c 0 :: X)
   (fun v ρ' L' => v = .tuple ⟨[]⟩ ∧ ρ' = ρ ∧ ∃ a' c', SIn ρ ZD a' (n - k) (l.drop k) ∧ n - k ≤ c' ∧ L' = rdC br a' (n - k) c' 0 :: X') := by
 replace hS := hS (h.take hk)
 have hl := h.len
 have hsub := h.sub (lo' := k) (hi' := n) (cap := c) hk (Nat.le_refl _) hc
 rw [List.take_of_length_le (by simp; omega)] at hsub
 refine Ze Tryz.func200 rfl rfl rfl fun u R => ?_
 simp only [Zp, List.cons_append, List.nil_append] at hS ⊢
 repeat' (first | (refine Zc (.func 157) ?_; refine qC rfl rfl (Wv _ br a n c 0) ?_; rintro v ρ' L' hle ⟨rfl, rfl, rfl⟩ <;> (try simp only [kM, kN, kO])) | (refine Zc (.tmp 9) ?_; refine qC rfl rfl (hS) ?_; rintro v ρ' L' hle ⟨rfl, rfl, rfl⟩ <;> (try simp only [kM, kN, kO])) | (refine Zg ?_; first | (refine Zf ?_; refine qQ ?_) | refine Zj ?_) | refine Za ?_ | (refine Zh ?_; refine Zu ?_) | (refine Zi ?_; refine Zv ?_) | intro _)
 exact qE ⟨rfl, rfl, _, c - k, hsub, by omega, rfl⟩
theorem take_succ_unbe (l : List UInt8) (k : Nat) (h : k < l.length) : Yq (l.take (k + 1)) = Yq (l.take k) * 256 + l[k].toNat := by
 rw [List.take_succ_eq_append_getElem h, unbe_snoc]
theorem unbe_take_lt (l : List UInt8) (k : Nat) (h : k < l.length) (h8 : l.length ≤ 8) : Yq (l.take k) < 72057594037927936 := by
 have h1 := unbe_lt (l.take k)
 have h2 : (l.take k).length ≤ 7 := by simp; omega
 have h3 : 256 ^ (l.take k).length ≤ 256 ^ 7 := Nat.pow_le_pow_right (by decide) h2
 have h4 : 256 ^ 7 = 72057594037927936 := by decide
 omega
theorem number1_spec (ρ : Hp) (bx : Nat) (a : Option Addr) (n c : Nat) (l : List UInt8) (h : SIn ρ ZD a n l) (hn : n ≤ 8) :
  Spec Tryz.prog 201 [.slice a n c, .pointer (some ⟨bx, 0, none⟩)] ρ [[(bx, .cells ⟨[.int .u64 0]⟩ 22 (0, 0))]]
   (fun v ρ' L' => v = .tuple ⟨[]⟩ ∧ ρ' = ρ ∧ L' = [[(bx, .cells ⟨[.int .u64 (Yq l : Nat)]⟩ 22 (0, 0))]]) := by
 have hl := h.len
 refine Ze Tryz.func201 rfl rfl rfl fun u R => ?_
 simp only [Zp, List.cons_append, List.nil_append]
 repeat' (first | (refine Zg ?_; first | (refine Zf ?_; refine qQ ?_) | refine Zj ?_) | refine Za ?_ | (refine Zh ?_; refine Zu ?_) | (refine Zi ?_; refine Zv ?_) | intro _)
 refine ZK [(0, _), (1, _), (5, _)] (fun (ζ : (Nat) × (Nat)) => [(6, .int .i64 ζ.1)]) (fun (ζ : (Nat) × (Nat)) => ρ) (fun (ζ : (Nat) × (Nat)) => [[(bx, .cells ⟨[.int .u64 (ζ.2 : Nat)]⟩ 22 (0, 0))]]) (fun (ζ : (Nat) × (Nat)) => ζ.1 ≤ n ∧ ζ.2 = Yq (l.take ζ.1)) (fun (ζ : (Nat) × (Nat)) => n - ζ.1) ((0, 0)) (⟨Nat.zero_le _, rfl⟩) Zw Zw rfl tk ?_
 rintro ⟨k, z⟩ hI
 try simp only [List.cons_append, List.nil_append, List.append_assoc, List.append_eq] at hI ⊢
 try dsimp only at hI ⊢
 obtain ⟨hk, hz⟩ := hI
 by_cases hlt : k < n
 ·obtain ⟨b, off, C, T, fr, rfl, hb, hc⟩ := h.get (show k < l.length by omega)
  have hzl := unbe_take_lt l k (by omega) (by omega)
  rw [← hz] at hzl
  have hs := take_succ_unbe l k (by omega)
  have hbt : l[k].toNat < 256 := l[k].toNat_lt
  generalize l[k] = b8 at *
  simp only [ZD] at hc
  repeat' (first | (refine Zg ?_; first | (refine Zf ?_; refine qQ ?_) | refine Zj ?_) | refine Za ?_ | (refine Zh ?_; refine Zu ?_) | (refine Zi ?_; refine Zv ?_) | intro _)
  refine Zz (Zq _ _ ([])) (Zx (hT := tk) (Hp.le_refl _)) ?_
  all_goals (refine ZU 2 ?_; refine ZU 3 ?_; refine rIa 4 ?_; refine Ya 5 ?_; refine rCv 6 ?_)
  all_goals (refine Zm (i := 0) ?_; ((try refine Zk ?_); (first | (refine Zf ?_; refine qQ ?_) | (refine Zj ?_; try intro _)) <;> ((try simp only [kM, kN, kO]); refine Za ?_; refine Zl ?_)))
  all_goals (refine rMl 1 ?_; refine rAd 7 ?_)
  all_goals (refine Zm (i := 8) ?_; ((try refine Zk ?_); (first | (refine Zf ?_; refine qQ ?_) | (refine Zj ?_; try intro _)) <;> ((try simp only [kM, kN, kO]); refine Za ?_; refine Zl ?_)))
  all_goals refine ZI ?_
  have e : 256 * (z : Int) + (b8.toNat : Int) = ((z * 256 + b8.toNat : Nat) : Int) := by omega
  rw [e]
  repeat' (first | (refine Zg ?_; first | (refine Zf ?_; refine qQ ?_) | refine Zj ?_) | refine Za ?_ | (refine Zh ?_; refine Zu ?_) | (refine Zi ?_; refine Zv ?_) | intro _)
  refine Zy (k + 1, z * 256 + b8.toNat) (⟨hlt, by dsimp only; rw [hs, hz]⟩) Zw Zw rfl tk inferInstance (by first | omega | (dsimp only; omega))
 ·have hk2 : k = n := by omega
  subst hk2
  rw [List.take_of_length_le (by omega)] at hz
  subst hz
  repeat' (first | (refine Zg ?_; first | (refine Zf ?_; refine qQ ?_) | refine Zj ?_) | refine Za ?_ | (refine Zh ?_; refine Zu ?_) | (refine Zi ?_; refine Zv ?_) | intro _)
  exact qE ⟨rfl, rfl, rfl⟩
def Yz (k : Nat) (l : List UInt8) (st : Int) : Nat × List UInt8 × Int := if st ≠ 0 then (0, l, st) else if l.length < k then (0, l, 7) else (Yq (l.take k), l.drop k, 0)
theorem Vs (k : Nat) (l : List UInt8) (st : Int) : (Yz k l st).1 < 256 ^ k := by
 unfold Yz
 have h0 : 0 < 256 ^ k := Nat.pow_pos (by decide)
 split
 ·exact h0
 ·split
  ·exact h0
  ·have := unbe_lt (l.take k)
   have e : (l.take k).length = k := by simp; omega
   rwa [e] at this
theorem number_spec (ρ : Hp) (br : Nat) (a : Option Addr) (n c : Nat) (l : List UInt8) (h : SIn ρ ZD a n l) (hc : n ≤ c) (st : Int) (k : Nat) (hk : k ≤ 8) :
  Spec Tryz.prog 143 [.pointer (some ⟨br, 0, none⟩), .int .i64 k] ρ [rdC br a n c st]
   (fun v ρ' L' => v = .int .u64 ((Yz k l st).1 : Nat) ∧ ρ' = ρ ∧ ∃ a' n' c', SIn ρ ZD a' n' (Yz k l st).2.1 ∧ n' ≤ c' ∧ L' = [rdC br a' n' c' (Yz k l st).2.2]) := by
 have hl := h.len
 by_cases hst : st = 0
 ·subst hst
  by_cases hs : n < k
  ·have e : Yz k l 0 = (0, l, 7) := by simp [Yz, hl, hs]
   rw [e]
   refine Ze Tryz.func143 rfl rfl rfl fun u R => ?_
   simp only [Zp, List.cons_append, List.nil_append]
   repeat' (first | (refine Zc (.func 200) ?_; refine qC rfl rfl (gives_short _ br a n c k (by omega) _) ?_; rintro v ρ' L' hle ⟨rfl, rfl, rfl⟩ <;> (try simp only [kM, kN, kO])) | (refine Zg ?_; first | (refine Zf ?_; refine qQ ?_) | refine Zj ?_) | refine Za ?_ | (refine Zh ?_; refine Zu ?_) | (refine Zi ?_; refine Zv ?_) | intro _)
   exact qE ⟨rfl, rfl, a, n, c, h, hc, rfl⟩
  ·have e : Yz k l 0 = (Yq (l.take k), l.drop k, 0) := by simp [Yz, hl, hs]
   rw [e]
   refine Ze Tryz.func143 rfl rfl rfl fun u R => ?_
   simp only [Zp, List.cons_append, List.nil_append]
   repeat' (first | (refine Zg ?_; first | (refine Zf ?_; refine qQ ?_) | refine Zj ?_) | refine Za ?_ | (refine Zh ?_; refine Zu ?_) | (refine Zi ?_; refine Zv ?_) | intro _)
   rename_i bx
   have hg := gives_ok ρ br a n c l h hc k (by omega) 201 [.pointer (some ⟨bx, 0, none⟩)] [[(bx, .cells ⟨[.int .u64 0]⟩ 22 (0, 0))]] [[(bx, .cells ⟨[.int .u64 (Yq (l.take k) : Nat)]⟩ 22 (0, 0))]] (fun hs => number1_spec ρ bx a k c (l.take k) hs hk)
   repeat' (first | (refine Zc (.func 200) ?_; refine qC rfl rfl (hg) ?_; rintro v ρ' L' hle ⟨rfl, rfl, a', c', hs', hc', rfl⟩ <;> (try simp only [kM, kN, kO])) | (refine Zg ?_; first | (refine Zf ?_; refine qQ ?_) | refine Zj ?_) | refine Za ?_ | (refine Zh ?_; refine Zu ?_) | (refine Zi ?_; refine Zv ?_) | intro _)
   exact qE ⟨rfl, rfl, a', n - k, c', hs', hc', rfl⟩
 ·have e : Yz k l st = (0, l, st) := by simp [Yz, hst]
  rw [e]
  refine Ze Tryz.func143 rfl rfl rfl fun u R => ?_
  simp only [Zp, List.cons_append, List.nil_append]
  repeat' (first | (refine Zc (.func 200) ?_; refine qC rfl rfl (gives_stuck _ br a n c st hst k _) ?_; rintro v ρ' L' hle ⟨rfl, rfl, rfl⟩ <;> (try simp only [kM, kN, kO])) | (refine Zg ?_; first | (refine Zf ?_; refine qQ ?_) | refine Zj ?_) | refine Za ?_ | (refine Zh ?_; refine Zu ?_) | (refine Zi ?_; refine Zv ?_) | intro _)
  exact qE ⟨rfl, rfl, a, n, c, h, hc, rfl⟩
theorem u8_spec (ρ : Hp) (br : Nat) (a : Option Addr) (n c : Nat) (l : List UInt8) (h : SIn ρ ZD a n l) (hc : n ≤ c) (st : Int) :
  Spec Tryz.prog 97 [.pointer (some ⟨br, 0, none⟩)] ρ [rdC br a n c st]
   (fun v ρ' L' => v = .int .u8 ((Yz 1 l st).1 : Nat) ∧ ρ' = ρ ∧ ∃ a' n' c', SIn ρ ZD a' n' (Yz 1 l st).2.1 ∧ n' ≤ c' ∧ L' = [rdC br a' n' c' (Yz 1 l st).2.2]) := by
 have hb := Vs 1 l st
 have hn := number_spec ρ br a n c l h hc st 1 (by omega)
 generalize Yz 1 l st = r at *
 refine Ze Tryz.func97 rfl rfl rfl fun u R => ?_
 simp only [Zp, List.cons_append, List.nil_append]
 repeat' (first | (refine Zc (.func 143) ?_; refine qC rfl rfl (hn) ?_; rintro v ρ' L' hle ⟨rfl, rfl, a', n', c', hs', hc', rfl⟩ <;> (try simp only [kM, kN, kO])) | (refine Zg ?_; first | (refine Zf ?_; refine qQ ?_) | refine Zj ?_) | refine Za ?_ | (refine Zh ?_; refine Zu ?_) | (refine Zi ?_; refine Zv ?_) | intro _)
 exact qE ⟨rfl, rfl, a', n', c', hs', hc', rfl⟩
theorem u16_spec (ρ : Hp) (br : Nat) (a : Option Addr) (n c : Nat) (l : List UInt8) (h : SIn ρ ZD a n l) (hc : n ≤ c) (st : Int) :
  Spec Tryz.prog 152 [.pointer (some ⟨br, 0, none⟩)] ρ [rdC br a n c st]
   (fun v ρ' L' => v = .int .u16 ((Yz 2 l st).1 : Nat) ∧ ρ' = ρ ∧ ∃ a' n' c', SIn ρ ZD a' n' (Yz 2 l st).2.1 ∧ n' ≤ c' ∧ L' = [rdC br a' n' c' (Yz 2 l st).2.2]) := by
 have hb := Vs 2 l st
 have hn := number_spec ρ br a n c l h hc st 2 (by omega)
 generalize Yz 2 l st = r at *
 refine Ze Tryz.func152 rfl rfl rfl fun u R => ?_
 simp only [Zp, List.cons_append, List.nil_append]
 repeat' (first | (refine Zc (.func 143) ?_; refine qC rfl rfl (hn) ?_; rintro v ρ' L' hle ⟨rfl, rfl, a', n', c', hs', hc', rfl⟩ <;> (try simp only [kM, kN, kO])) | (refine Zg ?_; first | (refine Zf ?_; refine qQ ?_) | refine Zj ?_) | refine Za ?_ | (refine Zh ?_; refine Zu ?_) | (refine Zi ?_; refine Zv ?_) | intro _)
 exact qE ⟨rfl, rfl, a', n', c', hs', hc', rfl⟩
theorem u64_spec (ρ : Hp) (br : Nat) (a : Option Addr) (n c : Nat) (l : List UInt8) (h : SIn ρ ZD a n l) (hc : n ≤ c) (st : Int) :
  Spec Tryz.prog 98 [.pointer (some ⟨br, 0, none⟩)] ρ [rdC br a n c st]
   (fun v ρ' L' => v = .int .u64 ((Yz 8 l st).1 : Nat) ∧ ρ' = ρ ∧ ∃ a' n' c', SIn ρ ZD a' n' (Yz 8 l st).2.1 ∧ n' ≤ c' ∧ L' = [rdC br a' n' c' (Yz 8 l st).2.2]) := by
 have hn := number_spec ρ br a n c l h hc st 8 (by omega)
 refine Ze Tryz.func98 rfl rfl rfl fun u R => ?_
 simp only [Zp, List.cons_append, List.nil_append]
 repeat' (first | (refine Zc (.func 143) ?_; refine qC rfl rfl (hn) ?_; rintro v ρ' L' hle ⟨rfl, rfl, a', n', c', hs', hc', rfl⟩ <;> (try simp only [kM, kN, kO])) | (refine Zg ?_; first | (refine Zf ?_; refine qQ ?_) | refine Zj ?_) | refine Za ?_ | (refine Zh ?_; refine Zu ?_) | (refine Zi ?_; refine Zv ?_) | intro _)
 exact qE ⟨rfl, rfl, a', n', c', hs', hc', rfl⟩
def rawR (k : Nat) (l : List UInt8) (st : Int) : List UInt8 × List UInt8 × Int := if st ≠ 0 then ([], l, st) else if l.length < k then ([], l, 7) else (l.take k, l.drop k, 0)
theorem raw1_spec (ρ : Hp) (bx : Nat) (a : Option Addr) (n c : Nat) (l : List UInt8) (h : SIn ρ ZD a n l) (hn : n ≤ 1000000) :
  Spec Tryz.prog 243 [.slice a n c, .pointer (some ⟨bx, 0, none⟩)] ρ [[(bx, .cells ⟨[.slice none 0 0]⟩ 109 (0, 0))]]
   (fun v ρ' L' => v = .tuple ⟨[]⟩ ∧ ρ.le ρ' ∧ ∃ a' c', SIn ρ' ZD a' n l ∧ n ≤ c' ∧ L' = [[(bx, .cells ⟨[.slice a' n c']⟩ 109 (0, 0))]]) := by
 refine Ze Tryz.func243 rfl rfl rfl fun u R => ?_
 simp only [Zp, List.cons_append, List.nil_append]
 repeat' (first | (refine Zg ?_; first | (refine Zf ?_; refine qQ ?_) | refine Zj ?_) | refine Za ?_ | (refine Zh ?_; refine Zu ?_) | (refine Zi ?_; refine Zv ?_) | intro _)
 refine Xc (n := 0) (xs := []) (sp := []) (ys := l.map ZD) (sz := 1) rfl rfl (OwnS.nil 1) (hR := rem_nil') (SIn.srcV h) (by simpa using h.len) (Yj l) (by decide) rfl (by omega) (by omega) rfl (fun v' sp' hown' => ?_)
 simp only [Nat.zero_add, List.nil_append] at hown' ⊢
 refine ZL _ (h := Rem.here) (fun ρ' hle hfz => ?_)
 obtain ⟨a', c', rfl, hc, hs⟩ := hown'.sIn hfz
 repeat' (first | (refine Zg ?_; first | (refine Zf ?_; refine qQ ?_) | refine Zj ?_) | refine Za ?_ | (refine Zh ?_; refine Zu ?_) | (refine Zi ?_; refine Zv ?_) | intro _)
 exact qE ⟨rfl, hle, a', c', hs, hc, rfl⟩
theorem gives_ok2 (ρ : Hp) (br : Nat) (a : Option Addr) (n c : Nat) (l : List UInt8) (h : SIn ρ ZD a n l) (hc : n ≤ c) (k : Nat) (hk : k ≤ n) (g : Nat) (cs : List Value) (X : SH) (PX : Hp → SH → Prop) [Yc Tryz.prog g]
  (hS : SIn ρ ZD a k (l.take k) → Spec Tryz.prog g ([.slice a k c] ++ cs) ρ X (fun v ρ' L' => v = .tuple ⟨[]⟩ ∧ ρ.le ρ' ∧ PX ρ' L')) :
  Spec Tryz.prog 200 [.pointer (some ⟨br, 0, none⟩), .int .i64 k, .func (.func g) ⟨[]⟩ ⟨cs⟩] ρ (rdC br a n c 0 :: X)
   (fun v ρ' L' => v = .tuple ⟨[]⟩ ∧ ρ.le ρ' ∧ ∃ a' c' X', SIn ρ' ZD a' (n - k) (l.drop k) ∧ n - k ≤ c' ∧ L' = rdC br a' (n - k) c' 0 :: X' ∧ PX ρ' X') := by
 replace hS := hS (h.take hk)
 have hl := h.len
 have hsub := h.sub (lo' := k) (hi' := n) (cap := c) hk (Nat.le_refl _) hc
 rw [List.take_of_length_le (by simp; omega)] at hsub
 refine Ze Tryz.func200 rfl rfl rfl fun u R => ?_
 simp only [Zp, List.cons_append, List.nil_append] at hS ⊢
 repeat' (first | (refine Zc (.func 157) ?_; refine qC rfl rfl (Wv _ br a n c 0) ?_; rintro v ρ' L' hle ⟨rfl, rfl, rfl⟩ <;> (try simp only [kM, kN, kO])) | (refine Zc (.tmp 9) ?_; refine qC rfl rfl (hS) ?_; rintro v ρ' L' hle ⟨rfl, hle1, hP⟩ <;> (try simp only [kM, kN, kO])) | (refine Zg ?_; first | (refine Zf ?_; refine qQ ?_) | refine Zj ?_) | refine Za ?_ | (refine Zh ?_; refine Zu ?_) | (refine Zi ?_; refine Zv ?_) | intro _)
 exact qE ⟨rfl, hle1, _, c - k, _, hsub.mono hle1, by omega, rfl, hP⟩
theorem raw_spec (ρ : Hp) (br : Nat) (a : Option Addr) (n c : Nat) (l : List UInt8) (h : SIn ρ ZD a n l) (hc : n ≤ c) (st : Int) (k : Nat) (hk : k ≤ 1000000) :
  Spec Tryz.prog 202 [.pointer (some ⟨br, 0, none⟩), .int .i64 k] ρ [rdC br a n c st]
   (fun v ρ' L' => ρ.le ρ' ∧ ∃ va vn vc a' n' c', v = .slice va vn vc ∧ vn ≤ vc ∧ SIn ρ' ZD va vn (rawR k l st).1 ∧ SIn ρ' ZD a' n' (rawR k l st).2.1 ∧ n' ≤ c' ∧ L' = [rdC br a' n' c' (rawR k l st).2.2]) := by
 have hl := h.len
 by_cases hst : st = 0
 ·subst hst
  by_cases hs : n < k
  ·have e : rawR k l 0 = ([], l, 7) := by simp [rawR, hl, hs]
   rw [e]
   refine Ze Tryz.func202 rfl rfl rfl fun u R => ?_
   simp only [Zp, List.cons_append, List.nil_append]
   repeat' (first | (refine Zc (.func 200) ?_; refine qC rfl rfl (gives_short _ br a n c k (by omega) _) ?_; rintro v ρ' L' hle ⟨rfl, rfl, rfl⟩ <;> (try simp only [kM, kN, kO])) | (refine Zg ?_; first | (refine Zf ?_; refine qQ ?_) | refine Zj ?_) | refine Za ?_ | (refine Zh ?_; refine Zu ?_) | (refine Zi ?_; refine Zv ?_) | intro _)
   exact qE ⟨Hp.le_refl _, none, 0, 0, a, n, c, rfl, Nat.le_refl _, SIn.nil, h, hc, rfl⟩
  ·have e : rawR k l 0 = (l.take k, l.drop k, 0) := by simp [rawR, hl, hs]
   rw [e]
   refine Ze Tryz.func202 rfl rfl rfl fun u R => ?_
   simp only [Zp, List.cons_append, List.nil_append]
   repeat' (first | (refine Zg ?_; first | (refine Zf ?_; refine qQ ?_) | refine Zj ?_) | refine Za ?_ | (refine Zh ?_; refine Zu ?_) | (refine Zi ?_; refine Zv ?_) | intro _)
   rename_i bx
   have hg := gives_ok2 ρ br a n c l h hc k (by omega) 243 [.pointer (some ⟨bx, 0, none⟩)] [[(bx, .cells ⟨[.slice none 0 0]⟩ 109 (0, 0))]] _ (fun hs => raw1_spec ρ bx a k c (l.take k) hs hk)
   repeat' (first | (refine Zc (.func 200) ?_; refine qC rfl rfl (hg) ?_; rintro v ρ' L' hle ⟨rfl, hle1, a', c', X', hs', hc', rfl, va, vc, hv, hvc, rfl⟩ <;> (try simp only [kM, kN, kO])) | (refine Zg ?_; first | (refine Zf ?_; refine qQ ?_) | refine Zj ?_) | refine Za ?_ | (refine Zh ?_; refine Zu ?_) | (refine Zi ?_; refine Zv ?_) | intro _)
   exact qE ⟨hle1, va, k, vc, a', n - k, c', rfl, hvc, hv, hs', hc', rfl⟩
 ·have e : rawR k l st = ([], l, st) := by simp [rawR, hst]
  rw [e]
  refine Ze Tryz.func202 rfl rfl rfl fun u R => ?_
  simp only [Zp, List.cons_append, List.nil_append]
  repeat' (first | (refine Zc (.func 200) ?_; refine qC rfl rfl (gives_stuck _ br a n c st hst k _) ?_; rintro v ρ' L' hle ⟨rfl, rfl, rfl⟩ <;> (try simp only [kM, kN, kO])) | (refine Zg ?_; first | (refine Zf ?_; refine qQ ?_) | refine Zj ?_) | refine Za ?_ | (refine Zh ?_; refine Zu ?_) | (refine Zi ?_; refine Zv ?_) | intro _)
  exact qE ⟨Hp.le_refl _, none, 0, 0, a, n, c, rfl, Nat.le_refl _, SIn.nil, h, hc, rfl⟩
structure Row where
 t : Int
 id : Nat
 val : Int
 note : List UInt8
deriving DecidableEq
structure Kid where
 t : Int
 id : Nat
 page : Int
deriving DecidableEq
abbrev keyV (t : Int) (id : Nat) : List Value := [.int .i64 t, .int .u16 id]
abbrev We (r : Row) : List Value := [.int .i64 r.t, .int .u16 r.id, .int .i64 r.val, strV r.note]
abbrev Wk (k : Kid) : List Value := [.int .i64 k.t, .int .u16 k.id, .int .i64 k.page]
abbrev tkC (bt br : Nat) (all : Int) (bad : Bool) (vk vr vs : Value) : List (Nat × Obj) := [(bt, .cells ⟨[.pointer (some ⟨br, 0, none⟩), .int .i64 all, .bool bad, vk, vr, vs]⟩ 330 (0, 0))]
theorem Wy (ρ : Hp) (n : Int) : Spec Tryz.prog 229 [.int .i64 n] ρ [] (fun v ρ' L' => v = .bool (decide (0 ≤ n ∧ n < 3)) ∧ ρ' = ρ ∧ L' = []) := by
 refine Ze Tryz.func229 rfl rfl rfl fun u R => ?_
 simp only [Zp, List.cons_append, List.nil_append]
 by_cases h0 : 0 ≤ n
 ·by_cases h1 : n < 3
  ·rw [decide_eq_true ⟨h0, h1⟩]
   repeat' (first | (refine Zg ?_; first | (refine Zf ?_; refine qQ ?_) | refine Zj ?_) | refine Za ?_ | (refine Zh ?_; refine Zu ?_) | (refine Zi ?_; refine Zv ?_) | intro _)
   exact qE ⟨rfl, rfl, rfl⟩
  ·rw [decide_eq_false (fun h => h1 h.2)]
   repeat' (first | (refine Zg ?_; first | (refine Zf ?_; refine qQ ?_) | refine Zj ?_) | refine Za ?_ | (refine Zh ?_; refine Zu ?_) | (refine Zi ?_; refine Zv ?_) | intro _)
   exact qE ⟨rfl, rfl, rfl⟩
 ·rw [decide_eq_false (fun h => h0 h.1)]
  repeat' (first | (refine Zg ?_; first | (refine Zf ?_; refine qQ ?_) | refine Zj ?_) | refine Za ?_ | (refine Zh ?_; refine Zu ?_) | (refine Zi ?_; refine Zv ?_) | intro _)
  exact qE ⟨rfl, rfl, rfl⟩
theorem ok_spec (ρ : Hp) (bt br : Nat) (all : Int) (bad : Bool) (vk vr vs : Value) (a : Option Addr) (n c : Nat) (st : Int) :
  Spec Tryz.prog 247 [.pointer (some ⟨bt, 0, none⟩)] ρ [tkC bt br all bad vk vr vs, rdC br a n c st]
   (fun v ρ' L' => v = .bool (!bad && decide (st = 0)) ∧ ρ' = ρ ∧ L' = [tkC bt br all bad vk vr vs, rdC br a n c st]) := by
 refine Ze Tryz.func247 rfl rfl rfl fun u R => ?_
 simp only [Zp, List.cons_append, List.nil_append]
 cases bad
 ·by_cases h : st = 0
  ·subst h
   repeat' (first | (refine Zc (.func 157) ?_; refine qC rfl rfl (Wv _ br a n c 0) ?_; rintro v ρ' L' hle ⟨rfl, rfl, rfl⟩ <;> (try simp only [kM, kN, kO])) | (refine Zg ?_; first | (refine Zf ?_; refine qQ ?_) | refine Zj ?_) | refine Za ?_ | (refine Zh ?_; refine Zu ?_) | (refine Zi ?_; refine Zv ?_) | intro _)
   exact qE ⟨rfl, rfl, rfl⟩
  ·have hd : decide (st = 0) = false := decide_eq_false h
   rw [hd]
   repeat' (first | (refine Zc (.func 157) ?_; refine qC rfl rfl (Wv _ br a n c st) ?_; rintro v ρ' L' hle ⟨rfl, rfl, rfl⟩ <;> (try simp only [kM, kN, kO])) | (refine Zg ?_; first | (refine Zf ?_; refine qQ ?_) | refine Zj ?_) | refine Za ?_ | (refine Zh ?_; refine Zu ?_) | (refine Zi ?_; refine Zv ?_) | intro _)
   exact qE ⟨rfl, rfl, rfl⟩
 ·repeat' (first | (refine Zg ?_; first | (refine Zf ?_; refine qQ ?_) | refine Zj ?_) | refine Za ?_ | (refine Zh ?_; refine Zu ?_) | (refine Zi ?_; refine Zv ?_) | intro _)
  exact qE ⟨rfl, rfl, rfl⟩
def XJ (bad : Bool) (st : Int) (is : Bool) : Bool := bad || (decide (st = 0) && !is)
theorem Xu (ρ : Hp) (bt br : Nat) (all : Int) (bad : Bool) (vk vr vs : Value) (a : Option Addr) (n c : Nat) (st : Int) (is : Bool) :
  Spec Tryz.prog 244 [.pointer (some ⟨bt, 0, none⟩), .bool is] ρ [tkC bt br all bad vk vr vs, rdC br a n c st]
   (fun v ρ' L' => v = .tuple ⟨[]⟩ ∧ ρ' = ρ ∧ L' = [tkC bt br all (XJ bad st is) vk vr vs, rdC br a n c st]) := by
 refine Ze Tryz.func244 rfl rfl rfl fun u R => ?_
 simp only [Zp, List.cons_append, List.nil_append, XJ]
 cases bad
 ·by_cases h : st = 0
  ·subst h
   cases is
   all_goals (repeat' (first | (refine Zc (.func 157) ?_; refine qC rfl rfl (Wv _ br a n c 0) ?_; rintro v ρ' L' hle ⟨rfl, rfl, rfl⟩ <;> (try simp only [kM, kN, kO])) | (refine Zg ?_; first | (refine Zf ?_; refine qQ ?_) | refine Zj ?_) | refine Za ?_ | (refine Zh ?_; refine Zu ?_) | (refine Zi ?_; refine Zv ?_) | intro _))
   all_goals exact qE ⟨rfl, rfl, rfl⟩
  ·have hd : decide (st = 0) = false := decide_eq_false h
   rw [hd]
   repeat' (first | (refine Zc (.func 157) ?_; refine qC rfl rfl (Wv _ br a n c st) ?_; rintro v ρ' L' hle ⟨rfl, rfl, rfl⟩ <;> (try simp only [kM, kN, kO])) | (refine Zg ?_; first | (refine Zf ?_; refine qQ ?_) | refine Zj ?_) | refine Za ?_ | (refine Zh ?_; refine Zu ?_) | (refine Zi ?_; refine Zv ?_) | intro _)
   exact qE ⟨rfl, rfl, rfl⟩
 ·repeat' (first | (refine Zg ?_; first | (refine Zf ?_; refine qQ ?_) | refine Zj ?_) | refine Za ?_ | (refine Zh ?_; refine Zu ?_) | (refine Zi ?_; refine Zv ?_) | intro _)
  exact qE ⟨rfl, rfl, rfl⟩
abbrev RS3 := List UInt8 × Int × Bool
def i64N (x : Nat) : Int := IntKind.i64.wrap (x : Int)
def WM (l : List UInt8) (st : Int) (bad : Bool) : Row × RS3 :=
 let r1 := Yz 1 l st
 let b1 := XJ bad r1.2.2 (decide ((r1.1 : Int) < 3))
 if !b1 && decide (r1.2.2 = 0) then
  let r2 := Yz 2 r1.2.1 r1.2.2
  let r3 := Yz 8 r2.2.1 r2.2.2
  let r4 := Yz 1 r3.2.1 r3.2.2
  let b2 := XJ b1 r4.2.2 (decide ((r4.1 : Int) ≤ 8))
  if !b2 && decide (r4.2.2 = 0) then
   let r5 := rawR r4.1 r4.2.1 r4.2.2
   (⟨r1.1, r2.1, i64N r3.1, r5.1⟩, r5.2.1, r5.2.2, b2)
  else (⟨r1.1, r2.1, i64N r3.1, []⟩, r4.2.1, r4.2.2, b2)
 else (⟨r1.1, 0, 0, []⟩, r1.2.1, r1.2.2, b1)
theorem trow_spec (ρ : Hp) (bt br : Nat) (all : Int) (bad : Bool) (vk vr vs : Value) (a : Option Addr) (n c : Nat) (l : List UInt8) (h : SIn ρ ZD a n l) (hc : n ≤ c) (st : Int) :
  Spec Tryz.prog 207 [.pointer (some ⟨bt, 0, none⟩)] ρ [tkC bt br all bad vk vr vs, rdC br a n c st]
   (fun v ρ' L' => v = .agg ⟨We (WM l st bad).1⟩ ∧ ρ.le ρ' ∧ ∃ a' n' c', SIn ρ' ZD a' n' (WM l st bad).2.1 ∧ n' ≤ c' ∧ L' = [tkC bt br all (WM l st bad).2.2.2 vk vr vs, rdC br a' n' c' (WM l st bad).2.2.1]) := by
 have hn1 := u8_spec ρ br a n c l h hc st
 have hb1 := Vs 1 l st
 generalize hq : WM l st bad = q
 unfold WM at hq
 generalize Yz 1 l st = r1 at *
 obtain ⟨x1, l1, st1⟩ := r1
 dsimp only at hq hn1 hb1
 have htab : decide (0 ≤ (x1 : Int) ∧ (x1 : Int) < 3) = decide ((x1 : Int) < 3) := by simp
 generalize hB1 : XJ bad st1 (decide ((x1 : Int) < 3)) = b1 at *
 refine Ze Tryz.func207 rfl rfl rfl fun u R => ?_
 simp only [Zp, List.cons_append, List.nil_append]
 repeat' (first | (refine Zc (.func 97) ?_; refine qC rfl rfl (hn1) ?_; rintro v ρ' L' hle ⟨rfl, rfl, a1, n1, c1, h1, hc1, rfl⟩ <;> (try simp only [kM, kN, kO])) | (refine Zc (.func 229) ?_; refine qC rfl rfl (Wy _ (x1 : Int)) ?_; rintro v ρ' L' hle ⟨rfl, rfl, rfl⟩ <;> (try simp only [kM, kN, kO, htab])) | (refine Zc (.func 244) ?_; refine qC rfl rfl (Xu _ bt br all bad vk vr vs a1 n1 c1 st1 (decide ((x1 : Int) < 3))) ?_; rintro v ρ' L' hle ⟨rfl, rfl, rfl⟩ <;> (try simp only [kM, kN, kO, hB1])) | (refine Zc (.func 247) ?_; refine qC rfl rfl (ok_spec _ bt br all b1 vk vr vs a1 n1 c1 st1) ?_; rintro v ρ' L' hle ⟨rfl, rfl, rfl⟩ <;> (try simp only [kM, kN, kO])) | (refine Zg ?_; first | (refine Zf ?_; refine qQ ?_) | refine Zj ?_) | refine Za ?_ | (refine Zh ?_; refine Zu ?_) | (refine Zi ?_; refine Zv ?_) | intro _)
 by_cases hok : (!b1 && decide (st1 = 0)) = true
 ·rw [if_pos hok] at hq
  simp only [hok]
  have hn2 := fun ρ (h : SIn ρ ZD a1 n1 l1) => u16_spec ρ br a1 n1 c1 l1 h hc1 st1
  have hb2 := Vs 2 l1 st1
  generalize Yz 2 l1 st1 = r2 at *
  obtain ⟨x2, l2, st2⟩ := r2
  dsimp only at hq hn2 hb2
  have hn3 := fun ρ a n c (h : SIn ρ ZD a n l2) hc => u64_spec ρ br a n c l2 h hc st2
  generalize Yz 8 l2 st2 = r3 at *
  obtain ⟨x3, l3, st3⟩ := r3
  dsimp only at hq hn3
  have hn4 := fun ρ a n c (h : SIn ρ ZD a n l3) hc => u8_spec ρ br a n c l3 h hc st3
  have hb4 := Vs 1 l3 st3
  generalize Yz 1 l3 st3 = r4 at *
  obtain ⟨x4, l4, st4⟩ := r4
  dsimp only at hq hn4 hb4
  generalize hB2 : XJ b1 st4 (decide ((x4 : Int) ≤ 8)) = b2 at *
  repeat' (first | (refine Zc (.func 152) ?_; refine qC rfl rfl (hn2 _ h1) ?_; rintro v ρ' L' hle ⟨rfl, rfl, a2, n2, c2, h2, hc2, rfl⟩ <;> (try simp only [kM, kN, kO])) | (refine Zc (.func 98) ?_; refine qC rfl rfl (hn3 _ _ _ _ h2 hc2) ?_; rintro v ρ' L' hle ⟨rfl, rfl, a3, n3, c3, h3, hc3, rfl⟩ <;> (try simp only [kM, kN, kO])) | (refine Zc (.func 97) ?_; refine qC rfl rfl (hn4 _ _ _ _ h3 hc3) ?_; rintro v ρ' L' hle ⟨rfl, rfl, a4, n4, c4, h4, hc4, rfl⟩ <;> (try simp only [kM, kN, kO])) | (refine Zc (.func 244) ?_; refine qC rfl rfl (Xu _ bt br all b1 vk vr vs a4 n4 c4 st4 (decide ((x4 : Int) ≤ 8))) ?_; rintro v ρ' L' hle ⟨rfl, rfl, rfl⟩ <;> (try simp only [kM, kN, kO, hB2])) | (refine Zc (.func 247) ?_; refine qC rfl rfl (ok_spec _ bt br all b2 vk vr vs a4 n4 c4 st4) ?_; rintro v ρ' L' hle ⟨rfl, rfl, rfl⟩ <;> (try simp only [kM, kN, kO])) | (refine Zg ?_; first | (refine Zf ?_; refine qQ ?_) | refine Zj ?_) | refine Za ?_ | (refine Zh ?_; refine Zu ?_) | (refine Zi ?_; refine Zv ?_) | intro _)
  by_cases hok2 : (!b2 && decide (st4 = 0)) = true
  ·rw [if_pos hok2] at hq
   simp only [hok2]
   have hn5 := fun ρ (h : SIn ρ ZD a4 n4 l4) => raw_spec ρ br a4 n4 c4 l4 h hc4 st4 x4 (by omega)
   generalize rawR x4 l4 st4 = r5 at *
   obtain ⟨x5, l5, st5⟩ := r5
   dsimp only at hq hn5
   subst hq
   repeat' (first | (refine Zc (.func 202) ?_; refine qC rfl rfl (hn5 _ h4) ?_; rintro v ρ' L' hle ⟨hle5, va, vn, vc, a5, n5, c5, rfl, hvc, hv, h5, hc5, rfl⟩ <;> (try simp only [kM, kN, kO])) | (refine Zg ?_; first | (refine Zf ?_; refine qQ ?_) | refine Zj ?_) | refine Za ?_ | (refine Zh ?_; refine Zu ?_) | (refine Zi ?_; refine Zv ?_) | intro _)
   exact qE ⟨rfl, hle5, a5, n5, c5, h5, hc5, rfl⟩
  ·rw [if_neg hok2] at hq
   subst hq
   simp only [Bool.not_eq_true] at hok2
   simp only [hok2]
   repeat' (first | (refine Zg ?_; first | (refine Zf ?_; refine qQ ?_) | refine Zj ?_) | refine Za ?_ | (refine Zh ?_; refine Zu ?_) | (refine Zi ?_; refine Zv ?_) | intro _)
   exact qE ⟨rfl, Hp.le_refl _, a4, n4, c4, h4, hc4, rfl⟩
 ·rw [if_neg hok] at hq
  subst hq
  simp only [Bool.not_eq_true] at hok
  simp only [hok]
  repeat' (first | (refine Zg ?_; first | (refine Zf ?_; refine qQ ?_) | refine Zj ?_) | refine Za ?_ | (refine Zh ?_; refine Zu ?_) | (refine Zi ?_; refine Zv ?_) | intro _)
  exact qE ⟨rfl, Hp.le_refl _, a1, n1, c1, h1, hc1, rfl⟩
def kidR (l : List UInt8) (st : Int) : Kid × List UInt8 × Int :=
 let r1 := Yz 1 l st
 let r2 := Yz 2 r1.2.1 r1.2.2
 let r3 := Yz 1 r2.2.1 r2.2.2
 (⟨r1.1, r2.1, r3.1⟩, r3.2.1, r3.2.2)
theorem tkid_spec (ρ : Hp) (bt br : Nat) (all : Int) (bad : Bool) (vk vr vs : Value) (a : Option Addr) (n c : Nat) (l : List UInt8) (h : SIn ρ ZD a n l) (hc : n ≤ c) (st : Int) :
  Spec Tryz.prog 258 [.pointer (some ⟨bt, 0, none⟩)] ρ [tkC bt br all bad vk vr vs, rdC br a n c st]
   (fun v ρ' L' => v = .agg ⟨Wk (kidR l st).1⟩ ∧ ρ' = ρ ∧ ∃ a' n' c', SIn ρ' ZD a' n' (kidR l st).2.1 ∧ n' ≤ c' ∧ L' = [tkC bt br all bad vk vr vs, rdC br a' n' c' (kidR l st).2.2]) := by
 have hn1 := u8_spec ρ br a n c l h hc st
 have hb1 := Vs 1 l st
 generalize hq : kidR l st = q
 unfold kidR at hq
 generalize Yz 1 l st = r1 at *
 obtain ⟨x1, l1, st1⟩ := r1
 dsimp only at hq hn1 hb1
 have hn2 := fun ρ a n c (h : SIn ρ ZD a n l1) hc => u16_spec ρ br a n c l1 h hc st1
 have hb2 := Vs 2 l1 st1
 generalize Yz 2 l1 st1 = r2 at *
 obtain ⟨x2, l2, st2⟩ := r2
 dsimp only at hq hn2 hb2
 have hn3 := fun ρ a n c (h : SIn ρ ZD a n l2) hc => u8_spec ρ br a n c l2 h hc st2
 have hb3 := Vs 1 l2 st2
 generalize Yz 1 l2 st2 = r3 at *
 obtain ⟨x3, l3, st3⟩ := r3
 dsimp only at hq hn3 hb3
 subst hq
 refine Ze Tryz.func258 rfl rfl rfl fun u R => ?_
 simp only [Zp, List.cons_append, List.nil_append]
 repeat' (first | (refine Zg ?_; first | (refine Zf ?_; refine qQ ?_) | refine Zj ?_) | refine Za ?_ | (refine Zh ?_; refine Zu ?_) | (refine Zi ?_; refine Zv ?_) | intro _)
 refine Zz (Zq _ _ ([tkC bt br all bad vk vr vs])) (Zx (hT := tk) (Hp.le_refl _)) ?_
 all_goals (refine ZU 0 ?_; refine rNc 1 ?_; refine YB 2 ?_; refine Ya 3 ?_; refine ZU 6 ?_; refine rNc 7 ?_; refine YB 8 ?_; refine Ya 9 ?_)
 all_goals (refine Zm (i := 4) ?_; ((try refine Zk ?_); (first | (refine Zc (.func 97) ?_; refine qC rfl rfl (hn1) ?_; rintro v ρ' L' hle ⟨rfl, rfl, a1, n1, c1, h1, hc1, rfl⟩ <;> (try simp only [kM, kN, kO])) | (refine Zj ?_; try intro _)) <;> ((try simp only [kM, kN, kO]); refine Za ?_; refine Zl ?_)))
 all_goals refine rCv 5 ?_
 all_goals (refine Zm (i := 10) ?_; ((try refine Zk ?_); (first | (refine Zc (.func 152) ?_; refine qC rfl rfl (hn2 _ _ _ _ h1 hc1) ?_; rintro v ρ' L' hle ⟨rfl, rfl, a2, n2, c2, h2, hc2, rfl⟩ <;> (try simp only [kM, kN, kO])) | (refine Zj ?_; try intro _)) <;> ((try simp only [kM, kN, kO]); refine Za ?_; refine Zl ?_)))
 all_goals (refine rBu 11 ?_; refine YB 12 ?_)
 all_goals (refine Zm (i := 13) ?_; ((try refine Zk ?_); (first | (refine Zj ?_; try intro _)) <;> ((try simp only [kM, kN, kO]); refine Za ?_; refine Zl ?_)))
 all_goals refine ZI ?_
 all_goals (repeat' (first | (refine Zc (.func 97) ?_; refine qC rfl rfl (hn3 _ _ _ _ h2 hc2) ?_; rintro v ρ' L' hle ⟨rfl, rfl, a3, n3, c3, h3, hc3, rfl⟩ <;> (try simp only [kM, kN, kO])) | (refine Zg ?_; first | (refine Zf ?_; refine qQ ?_) | refine Zj ?_) | refine Za ?_ | (refine Zh ?_; refine Zu ?_) | (refine Zi ?_; refine Zv ?_) | intro _))
 all_goals exact qE ⟨rfl, rfl, a3, n3, c3, h3, hc3, rfl⟩
def cmpI (x y : Int) : Int := if x < y then -1 else if y < x then 1 else 0
theorem nanI_spec (ρ : Hp) (x : Int) : Spec Tryz.prog 264 [.int .i64 x] ρ [] (fun v ρ' L' => v = .bool false ∧ ρ' = ρ ∧ L' = []) := by
 refine Ze Tryz.func264 rfl rfl rfl fun u R => ?_
 simp only [Zp, List.cons_append, List.nil_append]
 repeat' (first | (refine Zg ?_; first | (refine Zf ?_; refine qQ ?_) | refine Zj ?_) | refine Za ?_ | (refine Zh ?_; refine Zu ?_) | (refine Zi ?_; refine Zv ?_) | intro _)
 exact qE ⟨rfl, rfl, rfl⟩
theorem nanU_spec (ρ : Hp) (x : Int) : Spec Tryz.prog 265 [.int .u16 x] ρ [] (fun v ρ' L' => v = .bool false ∧ ρ' = ρ ∧ L' = []) := by
 refine Ze Tryz.func265 rfl rfl rfl fun u R => ?_
 simp only [Zp, List.cons_append, List.nil_append]
 repeat' (first | (refine Zg ?_; first | (refine Zf ?_; refine qQ ?_) | refine Zj ?_) | refine Za ?_ | (refine Zh ?_; refine Zu ?_) | (refine Zi ?_; refine Zv ?_) | intro _)
 exact qE ⟨rfl, rfl, rfl⟩
theorem cmpI_spec (ρ : Hp) (x y : Int) : Spec Tryz.prog 260 [.int .i64 x, .int .i64 y] ρ [] (fun v ρ' L' => v = .int .i64 (cmpI x y) ∧ ρ' = ρ ∧ L' = []) := by
 refine Ze Tryz.func260 rfl rfl rfl fun u R => ?_
 simp only [Zp, List.cons_append, List.nil_append]
 unfold cmpI
 split
 ·repeat' (first | (refine Zc (.func 264) ?_; refine qC rfl rfl (nanI_spec _ _) ?_; rintro v ρ' L' hle ⟨rfl, rfl, rfl⟩ <;> (try simp only [kM, kN, kO])) | (refine Zg ?_; first | (refine Zf ?_; refine qQ ?_) | refine Zj ?_) | refine Za ?_ | (refine Zh ?_; refine Zu ?_) | (refine Zi ?_; refine Zv ?_) | intro _)
  exact qE ⟨rfl, rfl, rfl⟩
 ·split
  ·repeat' (first | (refine Zc (.func 264) ?_; refine qC rfl rfl (nanI_spec _ _) ?_; rintro v ρ' L' hle ⟨rfl, rfl, rfl⟩ <;> (try simp only [kM, kN, kO])) | (refine Zg ?_; first | (refine Zf ?_; refine qQ ?_) | refine Zj ?_) | refine Za ?_ | (refine Zh ?_; refine Zu ?_) | (refine Zi ?_; refine Zv ?_) | intro _)
   exact qE ⟨rfl, rfl, rfl⟩
  ·repeat' (first | (refine Zc (.func 264) ?_; refine qC rfl rfl (nanI_spec _ _) ?_; rintro v ρ' L' hle ⟨rfl, rfl, rfl⟩ <;> (try simp only [kM, kN, kO])) | (refine Zg ?_; first | (refine Zf ?_; refine qQ ?_) | refine Zj ?_) | refine Za ?_ | (refine Zh ?_; refine Zu ?_) | (refine Zi ?_; refine Zv ?_) | intro _)
   exact qE ⟨rfl, rfl, rfl⟩
theorem cmpU_spec (ρ : Hp) (x y : Int) : Spec Tryz.prog 261 [.int .u16 x, .int .u16 y] ρ [] (fun v ρ' L' => v = .int .i64 (cmpI x y) ∧ ρ' = ρ ∧ L' = []) := by
 refine Ze Tryz.func261 rfl rfl rfl fun u R => ?_
 simp only [Zp, List.cons_append, List.nil_append]
 unfold cmpI
 split
 ·repeat' (first | (refine Zc (.func 265) ?_; refine qC rfl rfl (nanU_spec _ _) ?_; rintro v ρ' L' hle ⟨rfl, rfl, rfl⟩ <;> (try simp only [kM, kN, kO])) | (refine Zg ?_; first | (refine Zf ?_; refine qQ ?_) | refine Zj ?_) | refine Za ?_ | (refine Zh ?_; refine Zu ?_) | (refine Zi ?_; refine Zv ?_) | intro _)
  exact qE ⟨rfl, rfl, rfl⟩
 ·split
  ·repeat' (first | (refine Zc (.func 265) ?_; refine qC rfl rfl (nanU_spec _ _) ?_; rintro v ρ' L' hle ⟨rfl, rfl, rfl⟩ <;> (try simp only [kM, kN, kO])) | (refine Zg ?_; first | (refine Zf ?_; refine qQ ?_) | refine Zj ?_) | refine Za ?_ | (refine Zh ?_; refine Zu ?_) | (refine Zi ?_; refine Zv ?_) | intro _)
   exact qE ⟨rfl, rfl, rfl⟩
  ·repeat' (first | (refine Zc (.func 265) ?_; refine qC rfl rfl (nanU_spec _ _) ?_; rintro v ρ' L' hle ⟨rfl, rfl, rfl⟩ <;> (try simp only [kM, kN, kO])) | (refine Zg ?_; first | (refine Zf ?_; refine qQ ?_) | refine Zj ?_) | refine Za ?_ | (refine Zh ?_; refine Zu ?_) | (refine Zi ?_; refine Zv ?_) | intro _)
   exact qE ⟨rfl, rfl, rfl⟩
theorem or2_spec (ρ : Hp) (b : Nat) (x y : Int) : Spec Tryz.prog 259 [.slice (some ⟨b, 0, none⟩) 2 2] ρ [[(b, .cells ⟨[.int .i64 x, .int .i64 y]⟩ 3 (0, 0))]]
  (fun v ρ' L' => v = .int .i64 (if x = 0 then y else x) ∧ ρ' = ρ ∧ L' = [[(b, .cells ⟨[.int .i64 x, .int .i64 y]⟩ 3 (0, 0))]]) := by
 refine Ze Tryz.func259 rfl rfl rfl fun u R => ?_
 simp only [Zp, List.cons_append, List.nil_append]
 repeat' (first | (refine Zg ?_; first | (refine Zf ?_; refine qQ ?_) | refine Zj ?_) | refine Za ?_ | (refine Zh ?_; refine Zu ?_) | (refine Zi ?_; refine Zv ?_) | intro _)
 refine ZK [(2, _), (3, _), (6, _), (7, _)] (fun (ζ : (Nat)) => [(8, .int .i64 ζ)]) (fun (ζ : (Nat)) => ρ) (fun (ζ : (Nat)) => []) (fun (ζ : (Nat)) => ζ = 0 ∨ (ζ = 1 ∧ x = 0) ∨ (ζ = 2 ∧ x = 0 ∧ y = 0)) (fun (ζ : (Nat)) => 3 - ζ) (0) (.inl rfl) Zw Zw rfl tk ?_
 rintro k hI
 try simp only [List.cons_append, List.nil_append, List.append_assoc, List.append_eq] at hI ⊢
 try dsimp only at hI ⊢
 rcases hI with rfl | ⟨rfl, rfl⟩ | ⟨rfl, rfl, rfl⟩
 ·by_cases h : x = 0
  ·subst h
   repeat' (first | (refine Zg ?_; first | (refine Zf ?_; refine qQ ?_) | refine Zj ?_) | refine Za ?_ | (refine Zh ?_; refine Zu ?_) | (refine Zi ?_; refine Zv ?_) | intro _)
   refine Zy (1) (.inr (.inl ⟨rfl, rfl⟩)) Zw Zw rfl tk inferInstance (by first | omega | (dsimp only; omega))
  ·rw [if_neg h]
   repeat' (first | (refine Zg ?_; first | (refine Zf ?_; refine qQ ?_) | refine Zj ?_) | refine Za ?_ | (refine Zh ?_; refine Zu ?_) | (refine Zi ?_; refine Zv ?_) | intro _)
   exact qE ⟨rfl, rfl, rfl⟩
 ·by_cases h : y = 0
  ·subst h
   repeat' (first | (refine Zg ?_; first | (refine Zf ?_; refine qQ ?_) | refine Zj ?_) | refine Za ?_ | (refine Zh ?_; refine Zu ?_) | (refine Zi ?_; refine Zv ?_) | intro _)
   refine Zy (2) (.inr (.inr ⟨rfl, rfl, rfl⟩)) Zw Zw rfl tk inferInstance (by first | omega | (dsimp only; omega))
  ·repeat' (first | (refine Zg ?_; first | (refine Zf ?_; refine qQ ?_) | refine Zj ?_) | refine Za ?_ | (refine Zh ?_; refine Zu ?_) | (refine Zi ?_; refine Zv ?_) | intro _)
   exact qE ⟨rfl, rfl, rfl⟩
 ·repeat' (first | (refine Zg ?_; first | (refine Zf ?_; refine qQ ?_) | refine Zj ?_) | refine Za ?_ | (refine Zh ?_; refine Zu ?_) | (refine Zi ?_; refine Zv ?_) | intro _)
  exact qE ⟨rfl, rfl, rfl⟩
def cmpK (t1 : Int) (i1 : Nat) (t2 : Int) (i2 : Nat) : Int := if cmpI t1 t2 = 0 then cmpI i1 i2 else cmpI t1 t2
theorem XO (ρ : Hp) (t1 : Int) (i1 : Nat) (t2 : Int) (i2 : Nat) : Spec Tryz.prog 252 [.agg ⟨keyV t1 i1⟩, .agg ⟨keyV t2 i2⟩] ρ [] (fun v ρ' L' => v = .int .i64 (cmpK t1 i1 t2 i2) ∧ ρ' = ρ ∧ L' = []) := by
 refine Ze Tryz.func252 rfl rfl rfl fun u R => ?_
 simp only [Zp, List.cons_append, List.nil_append]
 repeat' (first | (refine Zg ?_; first | (refine Zf ?_; refine qQ ?_) | refine Zj ?_) | refine Za ?_ | (refine Zh ?_; refine Zu ?_) | (refine Zi ?_; refine Zv ?_) | intro _)
 refine Zz (Zq _ _ _) Ys ?_
 all_goals (refine YB 0 ?_; refine Ya 1 ?_; refine YB 2 ?_; refine Ya 3 ?_; refine YB 5 ?_; refine Ya 6 ?_; refine YB 7 ?_; refine Ya 8 ?_)
 all_goals (refine Zm (i := 4) ?_; ((try refine Zk ?_); (first | (refine Zc (.func 260) ?_; refine qC rfl rfl (cmpI_spec _ _ _) ?_; rintro v ρ' L' hle ⟨rfl, rfl, rfl⟩ <;> (try simp only [kM, kN, kO])) | (refine Zj ?_; try intro _)) <;> ((try simp only [kM, kN, kO]); refine Za ?_; refine Zl ?_)))
 all_goals (refine Zm (i := 9) ?_; ((try refine Zk ?_); (first | (refine Zc (.func 261) ?_; refine qC rfl rfl (cmpU_spec _ _ _) ?_; rintro v ρ' L' hle ⟨rfl, rfl, rfl⟩ <;> (try simp only [kM, kN, kO])) | (refine Zj ?_; try intro _)) <;> ((try simp only [kM, kN, kO]); refine Za ?_; refine Zl ?_)))
 all_goals (refine Zm (i := 10) ?_; ((try refine Zk ?_); (first | (refine ZC rfl rfl rfl rfl (by simp) rfl rfl (fun _ => ?_)) | (refine Zj ?_; try intro _)) <;> ((try simp only [kM, kN, kO]); refine Za ?_; refine Zl ?_)))
 all_goals (refine Zm (i := 11) ?_; ((try refine Zk ?_); (first | (refine Zc (.func 259) ?_; refine qC rfl rfl (or2_spec _ _ _ _) ?_; rintro v ρ' L' hle ⟨rfl, rfl, rfl⟩ <;> (try simp only [kM, kN, kO])) | (refine Zj ?_; try intro _)) <;> ((try simp only [kM, kN, kO]); refine Za ?_; refine Zl ?_)))
 all_goals (refine ZP ?_; refine rAs 12 ?_; refine ZI ?_)
 all_goals (repeat' (first | (refine Zg ?_; first | (refine Zf ?_; refine qQ ?_) | refine Zj ?_) | refine Za ?_ | (refine Zh ?_; refine Zu ?_) | (refine Zi ?_; refine Zv ?_) | intro _))
 all_goals exact qE ⟨rfl, rfl, rfl⟩
def Wb (r : Row) : Bool := decide ((0 ≤ r.t ∧ r.t < 3) ∧ r.note.length ≤ 8)
theorem checkRow_spec (ρ : Hp) (r : Row) : Spec Tryz.prog 225 [.agg ⟨We r⟩] ρ [] (fun v ρ' L' => v = .int .i64 (if Wb r then 0 else 151) ∧ ρ' = ρ ∧ L' = []) := by
 obtain ⟨t, id, val, note⟩ := r
 refine Ze Tryz.func225 rfl rfl rfl fun u R => ?_
 simp only [Zp, List.cons_append, List.nil_append, Wb, decide_eq_true_eq]
 by_cases h1 : 0 ≤ t ∧ t < 3
 ·have hd : decide (0 ≤ t ∧ t < 3) = true := decide_eq_true h1
  by_cases h2 : note.length ≤ 8
  ·rw [if_pos ⟨h1, h2⟩]
   repeat' (first | (refine Zc (.func 229) ?_; refine qC rfl rfl (Wy _ _) ?_; rintro v ρ' L' hle ⟨rfl, rfl, rfl⟩ <;> (try simp only [kM, kN, kO, hd])) | (refine Zg ?_; first | (refine Zf ?_; refine qQ ?_) | refine Zj ?_) | refine Za ?_ | (refine Zh ?_; refine Zu ?_) | (refine Zi ?_; refine Zv ?_) | intro _)
   exact qE ⟨rfl, rfl, rfl⟩
  ·rw [if_neg (fun h => h2 h.2)]
   repeat' (first | (refine Zc (.func 229) ?_; refine qC rfl rfl (Wy _ _) ?_; rintro v ρ' L' hle ⟨rfl, rfl, rfl⟩ <;> (try simp only [kM, kN, kO, hd])) | (refine Zg ?_; first | (refine Zf ?_; refine qQ ?_) | refine Zj ?_) | refine Za ?_ | (refine Zh ?_; refine Zu ?_) | (refine Zi ?_; refine Zv ?_) | intro _)
   exact qE ⟨rfl, rfl, rfl⟩
 ·have hd : decide (0 ≤ t ∧ t < 3) = false := decide_eq_false h1
  rw [if_neg (fun h => h1 h.1)]
  repeat' (first | (refine Zc (.func 229) ?_; refine qC rfl rfl (Wy _ _) ?_; rintro v ρ' L' hle ⟨rfl, rfl, rfl⟩ <;> (try simp only [kM, kN, kO, hd])) | (refine Zg ?_; first | (refine Zf ?_; refine qQ ?_) | refine Zj ?_) | refine Za ?_ | (refine Zh ?_; refine Zu ?_) | (refine Zi ?_; refine Zv ?_) | intro _)
  exact qE ⟨rfl, rfl, rfl⟩
def Yh {α : Type} (most : Nat) (right : Nat → α → Bool) (lt : α → α → Bool) (l : List α) : Nat → Bool
 | 0 => decide (l.length ≤ most)
 | k + 1 => Yh most right lt l k && (match l[k]? with | some x => right k x && (decide (k = 0) || (match l[k - 1]? with | some y => lt y x | none => false)) | none => false)
theorem Ve {α : Type} {most : Nat} {right : Nat → α → Bool} {lt : α → α → Bool} {l : List α} {k : Nat} (h : k < l.length) : Yh most right lt l (k + 1) = (Yh most right lt l k && (right k l[k] && (decide (k = 0) || lt (l[k - 1]'(by omega)) l[k]))) := by
 rw [Yh]
 simp [h, show k - 1 < l.length by omega]
theorem risesB_false {α : Type} {most : Nat} {right : Nat → α → Bool} {lt : α → α → Bool} {l : List α} {k : Nat} (h : Yh most right lt l k = false) : ∀ m, Yh most right lt l (k + m) = false
 | 0 => h
 | m + 1 => by rw [← Nat.add_assoc, Yh, risesB_false h m]; rfl
theorem WL {α : Type} {most : Nat} {right : Nat → α → Bool} {lt : α → α → Bool} {l : List α} {k n : Nat} (h : Yh most right lt l k = false) (hk : k ≤ n) : Yh most right lt l n = false := by
 have := risesB_false h (n - k)
 rwa [Nat.add_sub_cancel' hk] at this
theorem ZZ (ρ : Hp) (r : Row) : Spec Tryz.prog 223 [.agg ⟨We r⟩] ρ [] (fun v ρ' L' => v = .agg ⟨keyV r.t r.id⟩ ∧ ρ' = ρ ∧ L' = []) := by
 refine Ze Tryz.func223 rfl rfl rfl fun u R => ?_
 simp only [Zp, List.cons_append, List.nil_append]
 repeat' (first | (refine Zg ?_; first | (refine Zf ?_; refine qQ ?_) | refine Zj ?_) | refine Za ?_ | (refine Zh ?_; refine Zu ?_) | (refine Zi ?_; refine Zv ?_) | intro _)
 exact qE ⟨rfl, rfl, rfl⟩
theorem Xz (ρ : Hp) (i : Int) (r : Row) : Spec Tryz.prog 224 [.int .i64 i, .agg ⟨We r⟩] ρ [] (fun v ρ' L' => v = .bool (Wb r) ∧ ρ' = ρ ∧ L' = []) := by
 refine Ze Tryz.func224 rfl rfl rfl fun u R => ?_
 simp only [Zp, List.cons_append, List.nil_append]
 cases h : Wb r
 ·repeat' (first | (refine Zc (.func 225) ?_; refine qC rfl rfl (checkRow_spec _ r) ?_; rintro v ρ' L' hle ⟨rfl, rfl, rfl⟩ <;> (try simp only [kM, kN, kO, h, if_false, Bool.false_eq_true])) | (refine Zg ?_; first | (refine Zf ?_; refine qQ ?_) | refine Zj ?_) | refine Za ?_ | (refine Zh ?_; refine Zu ?_) | (refine Zi ?_; refine Zv ?_) | intro _)
  exact qE ⟨rfl, rfl, rfl⟩
 ·repeat' (first | (refine Zc (.func 225) ?_; refine qC rfl rfl (checkRow_spec _ r) ?_; rintro v ρ' L' hle ⟨rfl, rfl, rfl⟩ <;> (try simp only [kM, kN, kO, h, if_true])) | (refine Zg ?_; first | (refine Zf ?_; refine qQ ?_) | refine Zj ?_) | refine Za ?_ | (refine Zh ?_; refine Zu ?_) | (refine Zi ?_; refine Zv ?_) | intro _)
  exact qE ⟨rfl, rfl, rfl⟩
def ltR (y x : Row) : Bool := decide (cmpK y.t y.id x.t x.id < 0)
def rowsOk (l : List Row) : Bool := Yh 4 (fun _ r => Wb r) ltR l l.length
theorem rowV_len (r : Row) : (We r).length = 4 := rfl
theorem risesRow_spec (ρ : Hp) (a : Option Addr) (n c : Nat) (l : List Row) (h : AIn ρ 4 We a n l) (hn : n ≤ 1000000) :
  Spec Tryz.prog 222 [.slice a n c, .int .i64 4, .func (.func 223) ⟨[]⟩ ⟨[]⟩, .func (.func 224) ⟨[]⟩ ⟨[]⟩] ρ [] (fun v ρ' L' => v = .bool (rowsOk l) ∧ ρ' = ρ ∧ L' = []) := by
 have hl := h.len
 unfold rowsOk
 rw [hl]
 refine Ze Tryz.func222 rfl rfl rfl fun u R => ?_
 simp only [Zp, List.cons_append, List.nil_append]
 repeat' (first | (refine Zg ?_; first | (refine Zf ?_; refine qQ ?_) | refine Zj ?_) | refine Za ?_ | (refine Zh ?_; refine Zu ?_) | (refine Zi ?_; refine Zv ?_) | intro _)
 have e0 : decide ((n : Int) ≤ 4) = Yh 4 (fun _ r => Wb r) ltR l 0 := by
  rw [Yh]; simp [hl]; omega
 rw [e0]
 refine ZK [(0, _), (2, _), (3, _), (8, _), (16, _), (17, _)] (fun (ζ : (Nat)) => [(18, .int .i64 ζ), (9, .bool (Yh 4 (fun _ r => Wb r) ltR l ζ))]) (fun (ζ : (Nat)) => ρ) (fun (ζ : (Nat)) => []) (fun (ζ : (Nat)) => ζ ≤ n) (fun (ζ : (Nat)) => n - ζ) (0) (Nat.zero_le _) Zw Zw rfl tk ?_
 rintro k hI
 try simp only [List.cons_append, List.nil_append, List.append_assoc, List.append_eq] at hI ⊢
 try dsimp only at hI ⊢
 by_cases hlt : k < n
 ·obtain ⟨b, off, C, T, fr, rfl, hb, hfit, hc⟩ := h.get (show k < l.length by omega)
  have hs := Ve (most := 4) (right := fun _ r => Wb r) (lt := ltR) (show k < l.length by omega)
  have hfin := fun (e : Yh 4 (fun _ r => Wb r) ltR l (k + 1) = false) => WL e (show k + 1 ≤ n by omega)
  cases hok : Yh 4 (fun _ r => Wb r) ltR l k
  ·rw [hok, Bool.false_and] at hs
   rw [hfin hs]
   generalize l[k] = x at *
   repeat' (first | (refine Zg ?_; first | (refine Zf ?_; refine qQ ?_) | refine Zj ?_) | refine Za ?_ | (refine Zh ?_; refine Zu ?_) | (refine Zi ?_; refine Zv ?_) | intro _)
   refine Zz (Zq _ _ _) Ys ?_
   all_goals (refine ZU 0 ?_; refine ZU 1 ?_; (first | refine Zd 2 ?_ | refine Zb 2 ?_ | refine Yf 2 ?_); (first | refine Zd 3 ?_ | refine Zb 3 ?_ | refine Yf 3 ?_); (first | refine Zd 4 ?_ | refine Zb 4 ?_ | refine wLd 4 ?_))
   all_goals (first | refine Zd 5 ?_ | refine Zb 5 ?_ | (refine Zm (i := 5) ?_; ((try refine Zk ?_); (first | (refine Zj ?_; try intro _)) <;> ((try simp only [kM, kN, kO]); refine Za ?_; refine Zl ?_))))
   all_goals (refine rPk 6 ?_; refine ZU 7 ?_; (first | refine Zd 8 ?_ | refine Zb 8 ?_ | refine Yf 8 ?_); (first | refine Zd 9 ?_ | refine Zb 9 ?_ | refine wCm 9 ?_); (first | refine Zd 10 ?_ | refine Zb 10 ?_ | refine Yf 10 ?_); (first | refine Zd 11 ?_ | refine Zb 11 ?_ | refine Yf 11 ?_); (first | refine Zd 12 ?_ | refine Zb 12 ?_ | refine Yf 12 ?_); (first | refine Zd 13 ?_ | refine Zb 13 ?_ | refine Yf 13 ?_); (first | refine Zd 14 ?_ | refine Zb 14 ?_ | refine wSb 14 ?_); (first | refine Zd 15 ?_ | refine Zb 15 ?_ | refine wIa 15 ?_); (first | refine Zd 16 ?_ | refine Zb 16 ?_ | refine wLd 16 ?_); (first | refine Zd 18 ?_ | refine Zb 18 ?_ | refine Yf 18 ?_); (first | refine Zd 19 ?_ | refine Zb 19 ?_ | refine wLd 19 ?_))
   all_goals (first | refine Zd 17 ?_ | refine Zb 17 ?_ | (refine Zm (i := 17) ?_; ((try refine Zk ?_); (first | (refine Zj ?_; try intro _)) <;> ((try simp only [kM, kN, kO]); refine Za ?_; refine Zl ?_))))
   all_goals (first | refine Zd 20 ?_ | refine Zb 20 ?_ | (refine Zm (i := 20) ?_; ((try refine Zk ?_); (first | (refine Zj ?_; try intro _)) <;> ((try simp only [kM, kN, kO]); refine Za ?_; refine Zl ?_))))
   all_goals (first | refine Zd 21 ?_ | refine Zb 21 ?_ | (refine Zm (i := 21) ?_; ((try refine Zk ?_); (first | (refine Zj ?_; try intro _)) <;> ((try simp only [kM, kN, kO]); refine Za ?_; refine Zl ?_))))
   all_goals (refine ZP ?_; (first | refine Zd 22 ?_ | refine Zb 22 ?_ | refine wCm 22 ?_); (first | refine Zd 23 ?_ | refine Zb 23 ?_ | refine wPk 23 ?_); refine rPk 24 ?_; refine rAs 25 ?_; refine ZI ?_)
   repeat' (first | (refine Zg ?_; first | (refine Zf ?_; refine qQ ?_) | refine Zj ?_) | refine Za ?_ | (refine Zh ?_; refine Zu ?_) | (refine Zi ?_; refine Zv ?_) | intro _)
   exact qE ⟨rfl, rfl, rfl⟩
  ·rw [hok, Bool.true_and] at hs
   cases hx : Wb l[k]
   ·rw [hx, Bool.false_and] at hs
    rw [hfin hs]
    generalize l[k] = x at *
    repeat' (first | (refine Zg ?_; first | (refine Zf ?_; refine qQ ?_) | refine Zj ?_) | refine Za ?_ | (refine Zh ?_; refine Zu ?_) | (refine Zi ?_; refine Zv ?_) | intro _)
    refine Zz (Zq _ _ _) Ys ?_
    all_goals (refine ZU 0 ?_; refine ZU 1 ?_; (first | refine Zd 2 ?_ | refine Zb 2 ?_ | refine Yf 2 ?_); (first | refine Zd 3 ?_ | refine Zb 3 ?_ | refine Yf 3 ?_); (first | refine Zd 4 ?_ | refine Zb 4 ?_ | refine wLd 4 ?_))
    all_goals (first | refine Zd 5 ?_ | refine Zb 5 ?_ | (refine Zm (i := 5) ?_; ((try refine Zk ?_); (first | (refine Zc (.tmp 25) ?_; refine qC rfl rfl (Xz _ _ _) ?_; rintro v ρ' L' hle ⟨rfl, rfl, rfl⟩ <;> (try simp only [kM, kN, kO, hx])) | (refine Zc (.tmp 34) ?_; refine qC rfl rfl (ZZ _ _) ?_; rintro v ρ' L' hle ⟨rfl, rfl, rfl⟩ <;> (try simp only [kM, kN, kO])) | (refine Zc (.tmp 41) ?_; refine qC rfl rfl (ZZ _ _) ?_; rintro v ρ' L' hle ⟨rfl, rfl, rfl⟩ <;> (try simp only [kM, kN, kO])) | (refine Zj ?_; try intro _)) <;> ((try simp only [kM, kN, kO]); refine Za ?_; refine Zl ?_))))
    all_goals (refine rPk 6 ?_; refine ZU 7 ?_; (first | refine Zd 8 ?_ | refine Zb 8 ?_ | refine Yf 8 ?_); (first | refine Zd 9 ?_ | refine Zb 9 ?_ | refine wCm 9 ?_); (first | refine Zd 10 ?_ | refine Zb 10 ?_ | refine Yf 10 ?_); (first | refine Zd 11 ?_ | refine Zb 11 ?_ | refine Yf 11 ?_); (first | refine Zd 12 ?_ | refine Zb 12 ?_ | refine Yf 12 ?_); (first | refine Zd 13 ?_ | refine Zb 13 ?_ | refine Yf 13 ?_); (first | refine Zd 14 ?_ | refine Zb 14 ?_ | refine wSb 14 ?_); (first | refine Zd 15 ?_ | refine Zb 15 ?_ | refine wIa 15 ?_); (first | refine Zd 16 ?_ | refine Zb 16 ?_ | refine wLd 16 ?_); (first | refine Zd 18 ?_ | refine Zb 18 ?_ | refine Yf 18 ?_); (first | refine Zd 19 ?_ | refine Zb 19 ?_ | refine wLd 19 ?_))
    all_goals (first | refine Zd 17 ?_ | refine Zb 17 ?_ | (refine Zm (i := 17) ?_; ((try refine Zk ?_); (first | (refine Zc (.tmp 25) ?_; refine qC rfl rfl (Xz _ _ _) ?_; rintro v ρ' L' hle ⟨rfl, rfl, rfl⟩ <;> (try simp only [kM, kN, kO, hx])) | (refine Zc (.tmp 34) ?_; refine qC rfl rfl (ZZ _ _) ?_; rintro v ρ' L' hle ⟨rfl, rfl, rfl⟩ <;> (try simp only [kM, kN, kO])) | (refine Zc (.tmp 41) ?_; refine qC rfl rfl (ZZ _ _) ?_; rintro v ρ' L' hle ⟨rfl, rfl, rfl⟩ <;> (try simp only [kM, kN, kO])) | (refine Zj ?_; try intro _)) <;> ((try simp only [kM, kN, kO]); refine Za ?_; refine Zl ?_))))
    all_goals (first | refine Zd 20 ?_ | refine Zb 20 ?_ | (refine Zm (i := 20) ?_; ((try refine Zk ?_); (first | (refine Zc (.tmp 25) ?_; refine qC rfl rfl (Xz _ _ _) ?_; rintro v ρ' L' hle ⟨rfl, rfl, rfl⟩ <;> (try simp only [kM, kN, kO, hx])) | (refine Zc (.tmp 34) ?_; refine qC rfl rfl (ZZ _ _) ?_; rintro v ρ' L' hle ⟨rfl, rfl, rfl⟩ <;> (try simp only [kM, kN, kO])) | (refine Zc (.tmp 41) ?_; refine qC rfl rfl (ZZ _ _) ?_; rintro v ρ' L' hle ⟨rfl, rfl, rfl⟩ <;> (try simp only [kM, kN, kO])) | (refine Zj ?_; try intro _)) <;> ((try simp only [kM, kN, kO]); refine Za ?_; refine Zl ?_))))
    all_goals (first | refine Zd 21 ?_ | refine Zb 21 ?_ | (refine Zm (i := 21) ?_; ((try refine Zk ?_); (first | (refine Zc (.func 252) ?_; refine qC rfl rfl (XO _ _ _ _ _) ?_; rintro v ρ' L' hle ⟨rfl, rfl, rfl⟩ <;> (try simp only [kM, kN, kO])) | (refine Zj ?_; try intro _)) <;> ((try simp only [kM, kN, kO]); refine Za ?_; refine Zl ?_))))
    all_goals (refine ZP ?_; (first | refine Zd 22 ?_ | refine Zb 22 ?_ | refine wCm 22 ?_); (first | refine Zd 23 ?_ | refine Zb 23 ?_ | refine wPk 23 ?_); refine rPk 24 ?_; refine rAs 25 ?_; refine ZI ?_)
    repeat' (first | (refine Zg ?_; first | (refine Zf ?_; refine qQ ?_) | refine Zj ?_) | refine Za ?_ | (refine Zh ?_; refine Zu ?_) | (refine Zi ?_; refine Zv ?_) | intro _)
    exact qE ⟨rfl, rfl, rfl⟩
   ·rw [hx, Bool.true_and] at hs
    by_cases hk0 : k = 0
    ·have hs' : Yh 4 (fun _ r => Wb r) ltR l (k + 1) = true := by rw [hs]; simp [hk0]
     generalize l[k] = x at *
     repeat' (first | (refine Zg ?_; first | (refine Zf ?_; refine qQ ?_) | refine Zj ?_) | refine Za ?_ | (refine Zh ?_; refine Zu ?_) | (refine Zi ?_; refine Zv ?_) | intro _)
     refine Zz (Zq _ _ _) Ys ?_
     all_goals (refine ZU 0 ?_; refine ZU 1 ?_; (first | refine Zd 2 ?_ | refine Zb 2 ?_ | refine Yf 2 ?_); (first | refine Zd 3 ?_ | refine Zb 3 ?_ | refine Yf 3 ?_); (first | refine Zd 4 ?_ | refine Zb 4 ?_ | refine wLd 4 ?_))
     all_goals (first | refine Zd 5 ?_ | refine Zb 5 ?_ | (refine Zm (i := 5) ?_; ((try refine Zk ?_); (first | (refine Zc (.tmp 25) ?_; refine qC rfl rfl (Xz _ _ _) ?_; rintro v ρ' L' hle ⟨rfl, rfl, rfl⟩ <;> (try simp only [kM, kN, kO, hx])) | (refine Zc (.tmp 34) ?_; refine qC rfl rfl (ZZ _ _) ?_; rintro v ρ' L' hle ⟨rfl, rfl, rfl⟩ <;> (try simp only [kM, kN, kO])) | (refine Zc (.tmp 41) ?_; refine qC rfl rfl (ZZ _ _) ?_; rintro v ρ' L' hle ⟨rfl, rfl, rfl⟩ <;> (try simp only [kM, kN, kO])) | (refine Zj ?_; try intro _)) <;> ((try simp only [kM, kN, kO]); refine Za ?_; refine Zl ?_))))
     all_goals (refine rPk 6 ?_; refine ZU 7 ?_; (first | refine Zd 8 ?_ | refine Zb 8 ?_ | refine Yf 8 ?_); (first | refine Zd 9 ?_ | refine Zb 9 ?_ | refine wCm 9 ?_); (first | refine Zd 10 ?_ | refine Zb 10 ?_ | refine Yf 10 ?_); (first | refine Zd 11 ?_ | refine Zb 11 ?_ | refine Yf 11 ?_); (first | refine Zd 12 ?_ | refine Zb 12 ?_ | refine Yf 12 ?_); (first | refine Zd 13 ?_ | refine Zb 13 ?_ | refine Yf 13 ?_); (first | refine Zd 14 ?_ | refine Zb 14 ?_ | refine wSb 14 ?_); (first | refine Zd 15 ?_ | refine Zb 15 ?_ | refine wIa 15 ?_); (first | refine Zd 16 ?_ | refine Zb 16 ?_ | refine wLd 16 ?_); (first | refine Zd 18 ?_ | refine Zb 18 ?_ | refine Yf 18 ?_); (first | refine Zd 19 ?_ | refine Zb 19 ?_ | refine wLd 19 ?_))
     all_goals (first | refine Zd 17 ?_ | refine Zb 17 ?_ | (refine Zm (i := 17) ?_; ((try refine Zk ?_); (first | (refine Zc (.tmp 25) ?_; refine qC rfl rfl (Xz _ _ _) ?_; rintro v ρ' L' hle ⟨rfl, rfl, rfl⟩ <;> (try simp only [kM, kN, kO, hx])) | (refine Zc (.tmp 34) ?_; refine qC rfl rfl (ZZ _ _) ?_; rintro v ρ' L' hle ⟨rfl, rfl, rfl⟩ <;> (try simp only [kM, kN, kO])) | (refine Zc (.tmp 41) ?_; refine qC rfl rfl (ZZ _ _) ?_; rintro v ρ' L' hle ⟨rfl, rfl, rfl⟩ <;> (try simp only [kM, kN, kO])) | (refine Zj ?_; try intro _)) <;> ((try simp only [kM, kN, kO]); refine Za ?_; refine Zl ?_))))
     all_goals (first | refine Zd 20 ?_ | refine Zb 20 ?_ | (refine Zm (i := 20) ?_; ((try refine Zk ?_); (first | (refine Zc (.tmp 25) ?_; refine qC rfl rfl (Xz _ _ _) ?_; rintro v ρ' L' hle ⟨rfl, rfl, rfl⟩ <;> (try simp only [kM, kN, kO, hx])) | (refine Zc (.tmp 34) ?_; refine qC rfl rfl (ZZ _ _) ?_; rintro v ρ' L' hle ⟨rfl, rfl, rfl⟩ <;> (try simp only [kM, kN, kO])) | (refine Zc (.tmp 41) ?_; refine qC rfl rfl (ZZ _ _) ?_; rintro v ρ' L' hle ⟨rfl, rfl, rfl⟩ <;> (try simp only [kM, kN, kO])) | (refine Zj ?_; try intro _)) <;> ((try simp only [kM, kN, kO]); refine Za ?_; refine Zl ?_))))
     all_goals (first | refine Zd 21 ?_ | refine Zb 21 ?_ | (refine Zm (i := 21) ?_; ((try refine Zk ?_); (first | (refine Zc (.func 252) ?_; refine qC rfl rfl (XO _ _ _ _ _) ?_; rintro v ρ' L' hle ⟨rfl, rfl, rfl⟩ <;> (try simp only [kM, kN, kO])) | (refine Zj ?_; try intro _)) <;> ((try simp only [kM, kN, kO]); refine Za ?_; refine Zl ?_))))
     all_goals (refine ZP ?_; (first | refine Zd 22 ?_ | refine Zb 22 ?_ | refine wCm 22 ?_); (first | refine Zd 23 ?_ | refine Zb 23 ?_ | refine wPk 23 ?_); refine rPk 24 ?_; refine rAs 25 ?_; refine ZI ?_)
     repeat' (first | (refine Zg ?_; first | (refine Zf ?_; refine qQ ?_) | refine Zj ?_) | refine Za ?_ | (refine Zh ?_; refine Zu ?_) | (refine Zi ?_; refine Zv ?_) | intro _)
     rw [← hs']
     refine Zy (k + 1) (hlt) Zw Zw rfl tk inferInstance (by first | omega | (dsimp only; omega))
    ·have hd : decide (k = 0) = false := decide_eq_false hk0
     obtain ⟨b2, off2, C2, T2, fr2, f1, hb2, hfit2, hc2⟩ := h.get (show k - 1 < l.length by omega)
     cases f1
     rw [hb] at hb2
     cases hb2
     have ek : ((k : Int) - 1).toNat = k - 1 := by omega
     rw [← ek] at hfit2
     have hc3 : List.take 4 (List.drop (off + ((k : Int) - 1).toNat * 4) C) = We (l[k - 1]'(by omega)) := by rw [ek]; exact hc2
     clear hc2
     rw [hd, Bool.false_or] at hs
     generalize l[k] = x at *
     generalize l[k - 1]'(by omega) = y at *
     unfold ltR at hs
     by_cases hcm : cmpK y.t y.id x.t x.id < 0
     ·rw [decide_eq_true hcm] at hs
      repeat' (first | (refine Zg ?_; first | (refine Zf ?_; refine qQ ?_) | refine Zj ?_) | refine Za ?_ | (refine Zh ?_; refine Zu ?_) | (refine Zi ?_; refine Zv ?_) | intro _)
      refine Zz (Zq _ _ _) Ys ?_
      all_goals (refine ZU 0 ?_; refine ZU 1 ?_; (first | refine Zd 2 ?_ | refine Zb 2 ?_ | refine Yf 2 ?_); (first | refine Zd 3 ?_ | refine Zb 3 ?_ | refine Yf 3 ?_); (first | refine Zd 4 ?_ | refine Zb 4 ?_ | refine wLd 4 ?_))
      all_goals (first | refine Zd 5 ?_ | refine Zb 5 ?_ | (refine Zm (i := 5) ?_; ((try refine Zk ?_); (first | (refine Zc (.tmp 25) ?_; refine qC rfl rfl (Xz _ _ _) ?_; rintro v ρ' L' hle ⟨rfl, rfl, rfl⟩ <;> (try simp only [kM, kN, kO, hx])) | (refine Zc (.tmp 34) ?_; refine qC rfl rfl (ZZ _ _) ?_; rintro v ρ' L' hle ⟨rfl, rfl, rfl⟩ <;> (try simp only [kM, kN, kO])) | (refine Zc (.tmp 41) ?_; refine qC rfl rfl (ZZ _ _) ?_; rintro v ρ' L' hle ⟨rfl, rfl, rfl⟩ <;> (try simp only [kM, kN, kO])) | (refine Zj ?_; try intro _)) <;> ((try simp only [kM, kN, kO]); refine Za ?_; refine Zl ?_))))
      all_goals (refine rPk 6 ?_; refine ZU 7 ?_; (first | refine Zd 8 ?_ | refine Zb 8 ?_ | refine Yf 8 ?_); (first | refine Zd 9 ?_ | refine Zb 9 ?_ | refine wCm 9 ?_); (first | refine Zd 10 ?_ | refine Zb 10 ?_ | refine Yf 10 ?_); (first | refine Zd 11 ?_ | refine Zb 11 ?_ | refine Yf 11 ?_); (first | refine Zd 12 ?_ | refine Zb 12 ?_ | refine Yf 12 ?_); (first | refine Zd 13 ?_ | refine Zb 13 ?_ | refine Yf 13 ?_); (first | refine Zd 14 ?_ | refine Zb 14 ?_ | refine wSb 14 ?_); (first | refine Zd 15 ?_ | refine Zb 15 ?_ | refine wIa 15 ?_); (first | refine Zd 16 ?_ | refine Zb 16 ?_ | refine wLd 16 ?_); (first | refine Zd 18 ?_ | refine Zb 18 ?_ | refine Yf 18 ?_); (first | refine Zd 19 ?_ | refine Zb 19 ?_ | refine wLd 19 ?_))
      all_goals (first | refine Zd 17 ?_ | refine Zb 17 ?_ | (refine Zm (i := 17) ?_; ((try refine Zk ?_); (first | (refine Zc (.tmp 25) ?_; refine qC rfl rfl (Xz _ _ _) ?_; rintro v ρ' L' hle ⟨rfl, rfl, rfl⟩ <;> (try simp only [kM, kN, kO, hx])) | (refine Zc (.tmp 34) ?_; refine qC rfl rfl (ZZ _ _) ?_; rintro v ρ' L' hle ⟨rfl, rfl, rfl⟩ <;> (try simp only [kM, kN, kO])) | (refine Zc (.tmp 41) ?_; refine qC rfl rfl (ZZ _ _) ?_; rintro v ρ' L' hle ⟨rfl, rfl, rfl⟩ <;> (try simp only [kM, kN, kO])) | (refine Zj ?_; try intro _)) <;> ((try simp only [kM, kN, kO]); refine Za ?_; refine Zl ?_))))
      all_goals (first | refine Zd 20 ?_ | refine Zb 20 ?_ | (refine Zm (i := 20) ?_; ((try refine Zk ?_); (first | (refine Zc (.tmp 25) ?_; refine qC rfl rfl (Xz _ _ _) ?_; rintro v ρ' L' hle ⟨rfl, rfl, rfl⟩ <;> (try simp only [kM, kN, kO, hx])) | (refine Zc (.tmp 34) ?_; refine qC rfl rfl (ZZ _ _) ?_; rintro v ρ' L' hle ⟨rfl, rfl, rfl⟩ <;> (try simp only [kM, kN, kO])) | (refine Zc (.tmp 41) ?_; refine qC rfl rfl (ZZ _ _) ?_; rintro v ρ' L' hle ⟨rfl, rfl, rfl⟩ <;> (try simp only [kM, kN, kO])) | (refine Zj ?_; try intro _)) <;> ((try simp only [kM, kN, kO]); refine Za ?_; refine Zl ?_))))
      all_goals (first | refine Zd 21 ?_ | refine Zb 21 ?_ | (refine Zm (i := 21) ?_; ((try refine Zk ?_); (first | (refine Zc (.func 252) ?_; refine qC rfl rfl (XO _ _ _ _ _) ?_; rintro v ρ' L' hle ⟨rfl, rfl, rfl⟩ <;> (try simp only [kM, kN, kO])) | (refine Zj ?_; try intro _)) <;> ((try simp only [kM, kN, kO]); refine Za ?_; refine Zl ?_))))
      all_goals (refine ZP ?_; (first | refine Zd 22 ?_ | refine Zb 22 ?_ | refine wCm 22 ?_); (first | refine Zd 23 ?_ | refine Zb 23 ?_ | refine wPk 23 ?_); refine rPk 24 ?_; refine rAs 25 ?_; refine ZI ?_)
      all_goals (repeat' (first | (refine Zg ?_; first | (refine Zf ?_; refine qQ ?_) | refine Zj ?_) | refine Za ?_ | (refine Zh ?_; refine Zu ?_) | (refine Zi ?_; refine Zv ?_) | intro _))
      all_goals rw [← hs]
      all_goals refine Zy (k + 1) (hlt) Zw Zw rfl tk inferInstance (by first | omega | (dsimp only; omega))
     ·rw [decide_eq_false hcm] at hs
      rw [hfin hs]
      repeat' (first | (refine Zg ?_; first | (refine Zf ?_; refine qQ ?_) | refine Zj ?_) | refine Za ?_ | (refine Zh ?_; refine Zu ?_) | (refine Zi ?_; refine Zv ?_) | intro _)
      refine Zz (Zq _ _ _) Ys ?_
      all_goals (refine ZU 0 ?_; refine ZU 1 ?_; (first | refine Zd 2 ?_ | refine Zb 2 ?_ | refine Yf 2 ?_); (first | refine Zd 3 ?_ | refine Zb 3 ?_ | refine Yf 3 ?_); (first | refine Zd 4 ?_ | refine Zb 4 ?_ | refine wLd 4 ?_))
      all_goals (first | refine Zd 5 ?_ | refine Zb 5 ?_ | (refine Zm (i := 5) ?_; ((try refine Zk ?_); (first | (refine Zc (.tmp 25) ?_; refine qC rfl rfl (Xz _ _ _) ?_; rintro v ρ' L' hle ⟨rfl, rfl, rfl⟩ <;> (try simp only [kM, kN, kO, hx])) | (refine Zc (.tmp 34) ?_; refine qC rfl rfl (ZZ _ _) ?_; rintro v ρ' L' hle ⟨rfl, rfl, rfl⟩ <;> (try simp only [kM, kN, kO])) | (refine Zc (.tmp 41) ?_; refine qC rfl rfl (ZZ _ _) ?_; rintro v ρ' L' hle ⟨rfl, rfl, rfl⟩ <;> (try simp only [kM, kN, kO])) | (refine Zj ?_; try intro _)) <;> ((try simp only [kM, kN, kO]); refine Za ?_; refine Zl ?_))))
      all_goals (refine rPk 6 ?_; refine ZU 7 ?_; (first | refine Zd 8 ?_ | refine Zb 8 ?_ | refine Yf 8 ?_); (first | refine Zd 9 ?_ | refine Zb 9 ?_ | refine wCm 9 ?_); (first | refine Zd 10 ?_ | refine Zb 10 ?_ | refine Yf 10 ?_); (first | refine Zd 11 ?_ | refine Zb 11 ?_ | refine Yf 11 ?_); (first | refine Zd 12 ?_ | refine Zb 12 ?_ | refine Yf 12 ?_); (first | refine Zd 13 ?_ | refine Zb 13 ?_ | refine Yf 13 ?_); (first | refine Zd 14 ?_ | refine Zb 14 ?_ | refine wSb 14 ?_); (first | refine Zd 15 ?_ | refine Zb 15 ?_ | refine wIa 15 ?_); (first | refine Zd 16 ?_ | refine Zb 16 ?_ | refine wLd 16 ?_); (first | refine Zd 18 ?_ | refine Zb 18 ?_ | refine Yf 18 ?_); (first | refine Zd 19 ?_ | refine Zb 19 ?_ | refine wLd 19 ?_))
      all_goals (first | refine Zd 17 ?_ | refine Zb 17 ?_ | (refine Zm (i := 17) ?_; ((try refine Zk ?_); (first | (refine Zc (.tmp 25) ?_; refine qC rfl rfl (Xz _ _ _) ?_; rintro v ρ' L' hle ⟨rfl, rfl, rfl⟩ <;> (try simp only [kM, kN, kO, hx])) | (refine Zc (.tmp 34) ?_; refine qC rfl rfl (ZZ _ _) ?_; rintro v ρ' L' hle ⟨rfl, rfl, rfl⟩ <;> (try simp only [kM, kN, kO])) | (refine Zc (.tmp 41) ?_; refine qC rfl rfl (ZZ _ _) ?_; rintro v ρ' L' hle ⟨rfl, rfl, rfl⟩ <;> (try simp only [kM, kN, kO])) | (refine Zj ?_; try intro _)) <;> ((try simp only [kM, kN, kO]); refine Za ?_; refine Zl ?_))))
      all_goals (first | refine Zd 20 ?_ | refine Zb 20 ?_ | (refine Zm (i := 20) ?_; ((try refine Zk ?_); (first | (refine Zc (.tmp 25) ?_; refine qC rfl rfl (Xz _ _ _) ?_; rintro v ρ' L' hle ⟨rfl, rfl, rfl⟩ <;> (try simp only [kM, kN, kO, hx])) | (refine Zc (.tmp 34) ?_; refine qC rfl rfl (ZZ _ _) ?_; rintro v ρ' L' hle ⟨rfl, rfl, rfl⟩ <;> (try simp only [kM, kN, kO])) | (refine Zc (.tmp 41) ?_; refine qC rfl rfl (ZZ _ _) ?_; rintro v ρ' L' hle ⟨rfl, rfl, rfl⟩ <;> (try simp only [kM, kN, kO])) | (refine Zj ?_; try intro _)) <;> ((try simp only [kM, kN, kO]); refine Za ?_; refine Zl ?_))))
      all_goals (first | refine Zd 21 ?_ | refine Zb 21 ?_ | (refine Zm (i := 21) ?_; ((try refine Zk ?_); (first | (refine Zc (.func 252) ?_; refine qC rfl rfl (XO _ _ _ _ _) ?_; rintro v ρ' L' hle ⟨rfl, rfl, rfl⟩ <;> (try simp only [kM, kN, kO])) | (refine Zj ?_; try intro _)) <;> ((try simp only [kM, kN, kO]); refine Za ?_; refine Zl ?_))))
      all_goals (refine ZP ?_; (first | refine Zd 22 ?_ | refine Zb 22 ?_ | refine wCm 22 ?_); (first | refine Zd 23 ?_ | refine Zb 23 ?_ | refine wPk 23 ?_); refine rPk 24 ?_; refine rAs 25 ?_; refine ZI ?_)
      all_goals (repeat' (first | (refine Zg ?_; first | (refine Zf ?_; refine qQ ?_) | refine Zj ?_) | refine Za ?_ | (refine Zh ?_; refine Zu ?_) | (refine Zi ?_; refine Zv ?_) | intro _))
      all_goals exact qE ⟨rfl, rfl, rfl⟩
 ·have hk2 : k = n := by omega
  subst hk2
  repeat' (first | (refine Zg ?_; first | (refine Zf ?_; refine qQ ?_) | refine Zj ?_) | refine Za ?_ | (refine Zh ?_; refine Zu ?_) | (refine Zi ?_; refine Zv ?_) | intro _)
  exact qE ⟨rfl, rfl, rfl⟩
end Go.Proofs.E
