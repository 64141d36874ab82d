/- The law LogRoom. Part 5 of 16. -/
import Derived.Test.YtopfmlbnibfcgaaGreatA4
namespace Go.Proofs.E
open Go
set_option linter.unusedVariables false
set_option linter.unusedSimpArgs false
set_option linter.unusedSectionVars false
set_option maxRecDepth 4000
set_option maxHeartbeats 1000000
attribute [local irreducible] Yl TL TC TE Spec ZN R1 Hp.le EnvLe TS TR YS Zp TP QP
theorem take_succ_unbe (l : List UInt8) (k : Nat) (h : k < l.length) : Ym (l.take (k + 1)) = Ym (l.take k) * 256 + l[k].toNat := by
 rw [List.take_succ_eq_append_getElem h, unbe_snoc]
theorem unbe_take_lt (l : List UInt8) (k : Nat) (h : k < l.length) (h8 : l.length ≤ 8) : Ym (l.take k) < 72057594037927936 := by
 have h1 := XJ (l.take k)
 have h2 : (l.take k).length ≤ 7 := by simp; omega
 have h3 : 256 ^ (l.take k).length ≤ 256 ^ 7 := Nat.pow_le_pow_right (by decide) h2
 have h4 : 256 ^ 7 = 72057594037927936 := by decide
 omega
theorem number1_spec (ρ : Hp) (bx : Nat) (a : Option Addr) (n c : Nat) (l : List UInt8) (h : SIn ρ Zo a n l) (hn : n ≤ 8) :
  Spec Tryz.prog 241 [.slice a n c, .pointer (some ⟨bx, 0, none⟩)] ρ [[(bx, .cells ⟨[.int .u64 0]⟩ 33 (0, 0))]]
   (fun v ρ' L' => v = .tuple ⟨[]⟩ ∧ ρ' = ρ ∧ L' = [[(bx, .cells ⟨[.int .u64 (Ym l : Nat)]⟩ 33 (0, 0))]]) := by
 have hl := h.len
 refine Za Tryz.func241 rfl rfl rfl fun u R => ?_
 simp only [Zf, kA]
 repeat' (first | refine zW ?_ | intro _)
 refine Zm [(0, _), (1, _), (5, _)] (fun (ζ : (Nat) × (Nat)) => [(6, .int .i64 ζ.1)]) (fun (ζ : (Nat) × (Nat)) => ρ) (fun (ζ : (Nat) × (Nat)) => [[(bx, .cells ⟨[.int .u64 (ζ.2 : Nat)]⟩ 33 (0, 0))]]) (fun (ζ : (Nat) × (Nat)) => ζ.1 ≤ n ∧ ζ.2 = Ym (l.take ζ.1)) (fun (ζ : (Nat) × (Nat)) => n - ζ.1) ((0, 0)) (⟨Nat.zero_le _, rfl⟩) Zc Zc rfl tk ?_
 rintro ⟨k, z⟩ hI
 try simp only [kA, List.append_assoc] at hI ⊢
 try dsimp only at hI ⊢
 obtain ⟨hk, hz⟩ := hI
 by_cases hlt : k < n
 ·obtain ⟨b, off, C, T, fr, rfl, hb, hc⟩ := h.get (show k < l.length by omega)
  have hzl := unbe_take_lt l k (by omega) (by omega)
  rw [← hz] at hzl
  have hs := take_succ_unbe l k (by omega)
  have hbt : l[k].toNat < 256 := l[k].toNat_lt
  generalize l[k] = b8 at *
  simp only [Zo] at hc
  repeat' (first | refine zW ?_ | intro _)
  refine tpA [2,3,4,5,6] (.e 0 [1,7] (.e 8 [] .o)) ([]) ?_
  repeat' (refine iT ?_; first | refine rA ?_ | ((refine iE ?_; refine rE ?_) <;> ((try refine Zr ?_); (first | (refine i_qq ?_; refine qQ ?_) | (refine qEf ?_; try intro _)) <;> ((try simp only [kA]); refine Zj ?_; refine rN ?_))))
  have e : 256 * (z : Int) + (b8.toNat : Int) = ((z * 256 + b8.toNat : Nat) : Int) := by omega
  rw [e]
  repeat' (first | refine zW ?_ | intro _)
  refine Zi (k + 1, z * 256 + b8.toNat) (⟨hlt, by dsimp only; rw [hs, hz]⟩) Zc Zc rfl tk inferInstance (by first | omega | (dsimp only; omega))
 ·have hk2 : k = n := by omega
  subst hk2
  rw [List.take_of_length_le (by omega)] at hz
  subst hz
  repeat' (first | refine zW ?_ | intro _)
  exact qE ⟨rfl, rfl, rfl⟩
def ZW (k : Nat) (l : List UInt8) (st : Int) : Nat × List UInt8 × Int := if st ≠ 0 then (0, l, st) else if l.length < k then (0, l, 7) else (Ym (l.take k), l.drop k, 0)
theorem XG (k : Nat) (l : List UInt8) (st : Int) : (ZW k l st).1 < 256 ^ k := by
 unfold ZW
 have h0 : 0 < 256 ^ k := Nat.pow_pos (by decide)
 split
 ·exact h0
 ·split
  ·exact h0
  ·have := XJ (l.take k)
   have e : (l.take k).length = k := by simp; omega
   rwa [e] at this
theorem number_spec (ρ : Hp) (br : Nat) (a : Option Addr) (n c : Nat) (l : List UInt8) (h : SIn ρ Zo a n l) (hc : n ≤ c) (st : Int) (k : Nat) (hk : k ≤ 8) :
  Spec Tryz.prog 190 [.pointer (some ⟨br, 0, none⟩), .int .i64 k] ρ [rdC br a n c st]
   (fun v ρ' L' => v = .int .u64 ((ZW k l st).1 : Nat) ∧ ρ' = ρ ∧ ∃ a' n' c', SIn ρ Zo a' n' (ZW k l st).2.1 ∧ n' ≤ c' ∧ L' = [rdC br a' n' c' (ZW k l st).2.2]) := by
 have hl := h.len
 by_cases hst : st = 0
 ·subst hst
  by_cases hs : n < k
  ·have e : ZW k l 0 = (0, l, 7) := by simp [ZW, hl, hs]
   rw [e]
   refine Za Tryz.func190 rfl rfl rfl fun u R => ?_
   simp only [Zf, kA]
   repeat' (first | (refine Zb (.func 240) ?_; refine qR rfl rfl (gives_short _ br a n c k (by omega) _) ?_; try simp only [kA]) | refine zW ?_ | intro _)
   exact qE ⟨rfl, rfl, a, n, c, h, hc, rfl⟩
  ·have e : ZW k l 0 = (Ym (l.take k), l.drop k, 0) := by simp [ZW, hl, hs]
   rw [e]
   refine Za Tryz.func190 rfl rfl rfl fun u R => ?_
   simp only [Zf, kA]
   repeat' (first | refine zW ?_ | intro _)
   rename_i bx
   have hg := gives_ok ρ br a n c l h hc k (by omega) 241 [.pointer (some ⟨bx, 0, none⟩)] [[(bx, .cells ⟨[.int .u64 0]⟩ 33 (0, 0))]] [[(bx, .cells ⟨[.int .u64 (Ym (l.take k) : Nat)]⟩ 33 (0, 0))]] (fun hs => number1_spec ρ bx a k c (l.take k) hs hk)
   repeat' (first | (refine Zb (.func 240) ?_; refine qC rfl rfl (hg) ?_; rintro v ρ' L' hle ⟨rfl, rfl, a', c', hs', hc', rfl⟩ <;> (try simp only [kA])) | refine zW ?_ | intro _)
   exact qE ⟨rfl, rfl, a', n - k, c', hs', hc', rfl⟩
 ·have e : ZW k l st = (0, l, st) := by simp [ZW, hst]
  rw [e]
  refine Za Tryz.func190 rfl rfl rfl fun u R => ?_
  simp only [Zf, kA]
  repeat' (first | (refine Zb (.func 240) ?_; refine qR rfl rfl (gives_stuck _ br a n c st hst k _) ?_; try simp only [kA]) | refine zW ?_ | intro _)
  exact qE ⟨rfl, rfl, a, n, c, h, hc, rfl⟩
theorem u8_spec (ρ : Hp) (br : Nat) (a : Option Addr) (n c : Nat) (l : List UInt8) (h : SIn ρ Zo a n l) (hc : n ≤ c) (st : Int) :
  Spec Tryz.prog 140 [.pointer (some ⟨br, 0, none⟩)] ρ [rdC br a n c st]
   (fun v ρ' L' => v = .int .u8 ((ZW 1 l st).1 : Nat) ∧ ρ' = ρ ∧ ∃ a' n' c', SIn ρ Zo a' n' (ZW 1 l st).2.1 ∧ n' ≤ c' ∧ L' = [rdC br a' n' c' (ZW 1 l st).2.2]) := by
 have hb := XG 1 l st
 have hn := number_spec ρ br a n c l h hc st 1 (by omega)
 generalize ZW 1 l st = r at *
 refine Za Tryz.func140 rfl rfl rfl fun u R => ?_
 simp only [Zf, kA]
 repeat' (first | (refine Zb (.func 190) ?_; refine qC rfl rfl (hn) ?_; rintro v ρ' L' hle ⟨rfl, rfl, a', n', c', hs', hc', rfl⟩ <;> (try simp only [kA])) | refine zW ?_ | intro _)
 exact qE ⟨rfl, rfl, a', n', c', hs', hc', rfl⟩
theorem u16_spec (ρ : Hp) (br : Nat) (a : Option Addr) (n c : Nat) (l : List UInt8) (h : SIn ρ Zo a n l) (hc : n ≤ c) (st : Int) :
  Spec Tryz.prog 199 [.pointer (some ⟨br, 0, none⟩)] ρ [rdC br a n c st]
   (fun v ρ' L' => v = .int .u16 ((ZW 2 l st).1 : Nat) ∧ ρ' = ρ ∧ ∃ a' n' c', SIn ρ Zo a' n' (ZW 2 l st).2.1 ∧ n' ≤ c' ∧ L' = [rdC br a' n' c' (ZW 2 l st).2.2]) := by
 have hb := XG 2 l st
 have hn := number_spec ρ br a n c l h hc st 2 (by omega)
 generalize ZW 2 l st = r at *
 refine Za Tryz.func199 rfl rfl rfl fun u R => ?_
 simp only [Zf, kA]
 repeat' (first | (refine Zb (.func 190) ?_; refine qC rfl rfl (hn) ?_; rintro v ρ' L' hle ⟨rfl, rfl, a', n', c', hs', hc', rfl⟩ <;> (try simp only [kA])) | refine zW ?_ | intro _)
 exact qE ⟨rfl, rfl, a', n', c', hs', hc', rfl⟩
theorem u64_spec (ρ : Hp) (br : Nat) (a : Option Addr) (n c : Nat) (l : List UInt8) (h : SIn ρ Zo a n l) (hc : n ≤ c) (st : Int) :
  Spec Tryz.prog 141 [.pointer (some ⟨br, 0, none⟩)] ρ [rdC br a n c st]
   (fun v ρ' L' => v = .int .u64 ((ZW 8 l st).1 : Nat) ∧ ρ' = ρ ∧ ∃ a' n' c', SIn ρ Zo a' n' (ZW 8 l st).2.1 ∧ n' ≤ c' ∧ L' = [rdC br a' n' c' (ZW 8 l st).2.2]) := by
 have hn := number_spec ρ br a n c l h hc st 8 (by omega)
 refine Za Tryz.func141 rfl rfl rfl fun u R => ?_
 simp only [Zf, kA]
 repeat' (first | (refine Zb (.func 190) ?_; refine qC rfl rfl (hn) ?_; rintro v ρ' L' hle ⟨rfl, rfl, a', n', c', hs', hc', rfl⟩ <;> (try simp only [kA])) | refine zW ?_ | intro _)
 exact qE ⟨rfl, rfl, a', n', c', hs', hc', rfl⟩
def WB (k : Nat) (l : List UInt8) (st : Int) : List UInt8 × List UInt8 × Int := if st ≠ 0 then ([], l, st) else if l.length < k then ([], l, 7) else (l.take k, l.drop k, 0)
theorem raw1_spec (ρ : Hp) (bx : Nat) (a : Option Addr) (n c : Nat) (l : List UInt8) (h : SIn ρ Zo a n l) (hn : n ≤ 1000000) :
  Spec Tryz.prog 276 [.slice a n c, .pointer (some ⟨bx, 0, none⟩)] ρ [[(bx, .cells ⟨[.slice none 0 0]⟩ 22 (0, 0))]]
   (fun v ρ' L' => v = .tuple ⟨[]⟩ ∧ ρ.le ρ' ∧ ∃ a' c', SIn ρ' Zo a' n l ∧ n ≤ c' ∧ L' = [[(bx, .cells ⟨[.slice a' n c']⟩ 22 (0, 0))]]) := by
 refine Za Tryz.func276 rfl rfl rfl fun u R => ?_
 simp only [Zf, kA]
 repeat' (first | refine zW ?_ | intro _)
 refine Yk (n := 0) (xs := []) (sp := []) (ys := l.map Zo) (sz := 1) rfl rfl (OwnS.nil 1) (hR := rem_nil') (SIn.srcV h) (by simpa using h.len) (Yf l) (by decide) rfl (by omega) (by omega) rfl (fun v' sp' hown' => ?_)
 simp only [Nat.zero_add, List.nil_append] at hown' ⊢
 refine ZJ _ (h := Rem.here) (fun ρ' hle hfz => ?_)
 obtain ⟨a', c', rfl, hc, hs⟩ := hown'.sIn hfz
 repeat' (first | refine zW ?_ | intro _)
 exact qE ⟨rfl, hle, a', c', hs, hc, rfl⟩
end Go.Proofs.E
namespace Go.Proofs.E
open Go
set_option linter.unusedVariables false
set_option linter.unusedSimpArgs false
set_option linter.unusedSectionVars false
set_option maxRecDepth 4000
set_option maxHeartbeats 1000000
attribute [local irreducible] Yl TL TC TE Spec ZN R1 Hp.le EnvLe TS TR YS Zp
theorem gives_ok2 (ρ : Hp) (br : Nat) (a : Option Addr) (n c : Nat) (l : List UInt8) (h : SIn ρ Zo a n l) (hc : n ≤ c) (k : Nat) (hk : k ≤ n) (g : Nat) (cs : List Value) (X : SH) (PX : Hp → SH → Prop) [ZK Tryz.prog g]
  (hS : SIn ρ Zo a k (l.take k) → Spec Tryz.prog g ([.slice a k c] ++ cs) ρ X (fun v ρ' L' => v = .tuple ⟨[]⟩ ∧ ρ.le ρ' ∧ PX ρ' L')) :
  Spec Tryz.prog 240 [.pointer (some ⟨br, 0, none⟩), .int .i64 k, .func (.func g) ⟨[]⟩ ⟨cs⟩] ρ (rdC br a n c 0 :: X)
   (fun v ρ' L' => v = .tuple ⟨[]⟩ ∧ ρ.le ρ' ∧ ∃ a' c' X', SIn ρ' Zo a' (n - k) (l.drop k) ∧ n - k ≤ c' ∧ L' = rdC br a' (n - k) c' 0 :: X' ∧ PX ρ' X') := by
 replace hS := hS (h.take hk)
 have hl := h.len
 have hsub := h.sub (lo' := k) (hi' := n) (cap := c) hk (Nat.le_refl _) hc
 rw [List.take_of_length_le (by simp; omega)] at hsub
 refine Za Tryz.func240 rfl rfl rfl fun u R => ?_
 simp only [Zf, kA] at hS ⊢
 repeat' (first | (refine Zb (.func 204) ?_; refine qR rfl rfl (Xc _ br a n c 0) ?_; try simp only [kA]) | (refine Zb (.tmp 9) ?_; refine qC rfl rfl (hS) ?_; rintro v ρ' L' hle ⟨rfl, hle1, hP⟩ <;> (try simp only [kA])) | refine zW ?_ | intro _)
 exact qE ⟨rfl, hle1, _, c - k, _, hsub.mono hle1, by omega, rfl, hP⟩
theorem raw_spec (ρ : Hp) (br : Nat) (a : Option Addr) (n c : Nat) (l : List UInt8) (h : SIn ρ Zo a n l) (hc : n ≤ c) (st : Int) (k : Nat) (hk : k ≤ 1000000) :
  Spec Tryz.prog 242 [.pointer (some ⟨br, 0, none⟩), .int .i64 k] ρ [rdC br a n c st]
   (fun v ρ' L' => ρ.le ρ' ∧ ∃ va vn vc a' n' c', v = .slice va vn vc ∧ vn ≤ vc ∧ SIn ρ' Zo va vn (WB k l st).1 ∧ SIn ρ' Zo a' n' (WB k l st).2.1 ∧ n' ≤ c' ∧ L' = [rdC br a' n' c' (WB k l st).2.2]) := by
 have hl := h.len
 by_cases hst : st = 0
 ·subst hst
  by_cases hs : n < k
  ·have e : WB k l 0 = ([], l, 7) := by simp [WB, hl, hs]
   rw [e]
   refine Za Tryz.func242 rfl rfl rfl fun u R => ?_
   simp only [Zf, kA]
   repeat' (first | (refine Zb (.func 240) ?_; refine qR rfl rfl (gives_short _ br a n c k (by omega) _) ?_; try simp only [kA]) | refine zW ?_ | intro _)
   exact qE ⟨Hp.le_refl _, none, 0, 0, a, n, c, rfl, Nat.le_refl _, SIn.nil, h, hc, rfl⟩
  ·have e : WB k l 0 = (l.take k, l.drop k, 0) := by simp [WB, hl, hs]
   rw [e]
   refine Za Tryz.func242 rfl rfl rfl fun u R => ?_
   simp only [Zf, kA]
   repeat' (first | refine zW ?_ | intro _)
   rename_i bx
   have hg := gives_ok2 ρ br a n c l h hc k (by omega) 276 [.pointer (some ⟨bx, 0, none⟩)] [[(bx, .cells ⟨[.slice none 0 0]⟩ 22 (0, 0))]] _ (fun hs => raw1_spec ρ bx a k c (l.take k) hs hk)
   repeat' (first | (refine Zb (.func 240) ?_; refine qC rfl rfl (hg) ?_; rintro v ρ' L' hle ⟨rfl, hle1, a', c', X', hs', hc', rfl, va, vc, hv, hvc, rfl⟩ <;> (try simp only [kA])) | refine zW ?_ | intro _)
   exact qE ⟨hle1, va, k, vc, a', n - k, c', rfl, hvc, hv, hs', hc', rfl⟩
 ·have e : WB k l st = ([], l, st) := by simp [WB, hst]
  rw [e]
  refine Za Tryz.func242 rfl rfl rfl fun u R => ?_
  simp only [Zf, kA]
  repeat' (first | (refine Zb (.func 240) ?_; refine qR rfl rfl (gives_stuck _ br a n c st hst k _) ?_; try simp only [kA]) | refine zW ?_ | intro _)
  exact qE ⟨Hp.le_refl _, none, 0, 0, a, n, c, rfl, Nat.le_refl _, SIn.nil, h, hc, rfl⟩
structure Row where
 t : Int
 id : Nat
 val : Int
 note : List UInt8
deriving DecidableEq
structure Kid where
 t : Int
 id : Nat
 page : Int
deriving DecidableEq
abbrev keyV (t : Int) (id : Nat) : List Value := [.int .i64 t, .int .u16 id]
abbrev Yi (r : Row) : List Value := [.int .i64 r.t, .int .u16 r.id, .int .i64 r.val, strV r.note]
abbrev Xi (k : Kid) : List Value := [.int .i64 k.t, .int .u16 k.id, .int .i64 k.page]
abbrev tkC (bt br : Nat) (all : Int) (bad : Bool) (vk vr vs : Value) : List (Nat × Obj) := [(bt, .cells ⟨[.pointer (some ⟨br, 0, none⟩), .int .i64 all, .bool bad, vk, vr, vs]⟩ 352 (0, 0))]
theorem XW (ρ : Hp) (n : Int) : Spec Tryz.prog 281 [.int .i64 n] ρ [] (fun v ρ' L' => v = .bool (decide (0 ≤ n ∧ n < 3)) ∧ ρ' = ρ ∧ L' = []) := by
 refine Za Tryz.func281 rfl rfl rfl fun u R => ?_
 simp only [Zf, kA]
 by_cases h0 : 0 ≤ n
 ·by_cases h1 : n < 3
  ·rw [decide_eq_true ⟨h0, h1⟩]
   repeat' (first | refine zW ?_ | intro _)
   exact qE ⟨rfl, rfl, rfl⟩
  ·rw [decide_eq_false (fun h => h1 h.2)]
   repeat' (first | refine zW ?_ | intro _)
   exact qE ⟨rfl, rfl, rfl⟩
 ·rw [decide_eq_false (fun h => h0 h.1)]
  repeat' (first | refine zW ?_ | intro _)
  exact qE ⟨rfl, rfl, rfl⟩
theorem ok_spec (ρ : Hp) (bt br : Nat) (all : Int) (bad : Bool) (vk vr vs : Value) (a : Option Addr) (n c : Nat) (st : Int) :
  Spec Tryz.prog 280 [.pointer (some ⟨bt, 0, none⟩)] ρ [tkC bt br all bad vk vr vs, rdC br a n c st]
   (fun v ρ' L' => v = .bool (!bad && decide (st = 0)) ∧ ρ' = ρ ∧ L' = [tkC bt br all bad vk vr vs, rdC br a n c st]) := by
 refine Za Tryz.func280 rfl rfl rfl fun u R => ?_
 simp only [Zf, kA]
 cases bad
 ·by_cases h : st = 0
  ·subst h
   repeat' (first | (refine Zb (.func 204) ?_; refine qR rfl rfl (Xc _ br a n c 0) ?_; try simp only [kA]) | refine zW ?_ | intro _)
   exact qE ⟨rfl, rfl, rfl⟩
  ·have hd : decide (st = 0) = false := decide_eq_false h
   rw [hd]
   repeat' (first | (refine Zb (.func 204) ?_; refine qR rfl rfl (Xc _ br a n c st) ?_; try simp only [kA]) | refine zW ?_ | intro _)
   exact qE ⟨rfl, rfl, rfl⟩
 ·repeat' (first | refine zW ?_ | intro _)
  exact qE ⟨rfl, rfl, rfl⟩
def Xg (bad : Bool) (st : Int) (is : Bool) : Bool := bad || (decide (st = 0) && !is)
theorem YT (ρ : Hp) (bt br : Nat) (all : Int) (bad : Bool) (vk vr vs : Value) (a : Option Addr) (n c : Nat) (st : Int) (is : Bool) :
  Spec Tryz.prog 277 [.pointer (some ⟨bt, 0, none⟩), .bool is] ρ [tkC bt br all bad vk vr vs, rdC br a n c st]
   (fun v ρ' L' => v = .tuple ⟨[]⟩ ∧ ρ' = ρ ∧ L' = [tkC bt br all (Xg bad st is) vk vr vs, rdC br a n c st]) := by
 refine Za Tryz.func277 rfl rfl rfl fun u R => ?_
 simp only [Zf, kA, Xg]
 cases bad
 ·by_cases h : st = 0
  ·subst h
   cases is
   all_goals (repeat' (first | (refine Zb (.func 204) ?_; refine qR rfl rfl (Xc _ br a n c 0) ?_; try simp only [kA]) | refine zW ?_ | intro _))
   all_goals exact qE ⟨rfl, rfl, rfl⟩
  ·have hd : decide (st = 0) = false := decide_eq_false h
   rw [hd]
   repeat' (first | (refine Zb (.func 204) ?_; refine qR rfl rfl (Xc _ br a n c st) ?_; try simp only [kA]) | refine zW ?_ | intro _)
   exact qE ⟨rfl, rfl, rfl⟩
 ·repeat' (first | refine zW ?_ | intro _)
  exact qE ⟨rfl, rfl, rfl⟩
end Go.Proofs.E
namespace Go.Proofs.E
open Go
set_option linter.unusedVariables false
set_option linter.unusedSimpArgs false
set_option linter.unusedSectionVars false
set_option maxRecDepth 4000
set_option maxHeartbeats 1000000
attribute [local irreducible] Yl TL TC TE Spec ZN R1 Hp.le EnvLe TS TR YS Zp TP QP
abbrev ZX := List UInt8 × Int × Bool
def i64N (x : Nat) : Int := IntKind.i64.wrap (x : Int)
def XR (l : List UInt8) (st : Int) (bad : Bool) : Row × ZX :=
 let r1 := ZW 1 l st
 let b1 := Xg bad r1.2.2 (decide ((r1.1 : Int) < 3))
 if !b1 && decide (r1.2.2 = 0) then
  let r2 := ZW 2 r1.2.1 r1.2.2
  let r3 := ZW 8 r2.2.1 r2.2.2
  let r4 := ZW 1 r3.2.1 r3.2.2
  let b2 := Xg b1 r4.2.2 (decide ((r4.1 : Int) ≤ 8))
  if !b2 && decide (r4.2.2 = 0) then
   let r5 := WB r4.1 r4.2.1 r4.2.2
   (⟨r1.1, r2.1, i64N r3.1, r5.1⟩, r5.2.1, r5.2.2, b2)
  else (⟨r1.1, r2.1, i64N r3.1, []⟩, r4.2.1, r4.2.2, b2)
 else (⟨r1.1, 0, 0, []⟩, r1.2.1, r1.2.2, b1)
theorem trow_spec (ρ : Hp) (bt br : Nat) (all : Int) (bad : Bool) (vk vr vs : Value) (a : Option Addr) (n c : Nat) (l : List UInt8) (h : SIn ρ Zo a n l) (hc : n ≤ c) (st : Int) :
  Spec Tryz.prog 247 [.pointer (some ⟨bt, 0, none⟩)] ρ [tkC bt br all bad vk vr vs, rdC br a n c st]
   (fun v ρ' L' => v = .agg ⟨Yi (XR l st bad).1⟩ ∧ ρ.le ρ' ∧ ∃ a' n' c', SIn ρ' Zo a' n' (XR l st bad).2.1 ∧ n' ≤ c' ∧ L' = [tkC bt br all (XR l st bad).2.2.2 vk vr vs, rdC br a' n' c' (XR l st bad).2.2.1]) := by
 have hn1 := u8_spec ρ br a n c l h hc st
 have hb1 := XG 1 l st
 generalize hq : XR l st bad = q
 unfold XR at hq
 generalize ZW 1 l st = r1 at *
 obtain ⟨x1, l1, st1⟩ := r1
 dsimp only at hq hn1 hb1
 have htab : decide (0 ≤ (x1 : Int) ∧ (x1 : Int) < 3) = decide ((x1 : Int) < 3) := by simp
 generalize hB1 : Xg bad st1 (decide ((x1 : Int) < 3)) = b1 at *
 refine Za Tryz.func247 rfl rfl rfl fun u R => ?_
 simp only [Zf, kA]
 repeat' (first | (refine Zb (.func 140) ?_; refine qC rfl rfl (hn1) ?_; rintro v ρ' L' hle ⟨rfl, rfl, a1, n1, c1, h1, hc1, rfl⟩ <;> (try simp only [kA])) | (refine Zb (.func 281) ?_; refine qR rfl rfl (XW _ (x1 : Int)) ?_; try simp only [kA, htab]) | (refine Zb (.func 277) ?_; refine qR rfl rfl (YT _ bt br all bad vk vr vs a1 n1 c1 st1 (decide ((x1 : Int) < 3))) ?_; try simp only [kA, hB1]) | (refine Zb (.func 280) ?_; refine qR rfl rfl (ok_spec _ bt br all b1 vk vr vs a1 n1 c1 st1) ?_; try simp only [kA]) | refine zW ?_ | intro _)
 by_cases hok : (!b1 && decide (st1 = 0)) = true
 ·rw [if_pos hok] at hq
  simp only [hok]
  have hn2 := fun ρ (h : SIn ρ Zo a1 n1 l1) => u16_spec ρ br a1 n1 c1 l1 h hc1 st1
  have hb2 := XG 2 l1 st1
  generalize ZW 2 l1 st1 = r2 at *
  obtain ⟨x2, l2, st2⟩ := r2
  dsimp only at hq hn2 hb2
  have hn3 := fun ρ a n c (h : SIn ρ Zo a n l2) hc => u64_spec ρ br a n c l2 h hc st2
  generalize ZW 8 l2 st2 = r3 at *
  obtain ⟨x3, l3, st3⟩ := r3
  dsimp only at hq hn3
  have hn4 := fun ρ a n c (h : SIn ρ Zo a n l3) hc => u8_spec ρ br a n c l3 h hc st3
  have hb4 := XG 1 l3 st3
  generalize ZW 1 l3 st3 = r4 at *
  obtain ⟨x4, l4, st4⟩ := r4
  dsimp only at hq hn4 hb4
  generalize hB2 : Xg b1 st4 (decide ((x4 : Int) ≤ 8)) = b2 at *
  repeat' (first | (refine Zb (.func 199) ?_; refine qC rfl rfl (hn2 _ h1) ?_; rintro v ρ' L' hle ⟨rfl, rfl, a2, n2, c2, h2, hc2, rfl⟩ <;> (try simp only [kA])) | (refine Zb (.func 141) ?_; refine qC rfl rfl (hn3 _ _ _ _ h2 hc2) ?_; rintro v ρ' L' hle ⟨rfl, rfl, a3, n3, c3, h3, hc3, rfl⟩ <;> (try simp only [kA])) | (refine Zb (.func 140) ?_; refine qC rfl rfl (hn4 _ _ _ _ h3 hc3) ?_; rintro v ρ' L' hle ⟨rfl, rfl, a4, n4, c4, h4, hc4, rfl⟩ <;> (try simp only [kA])) | (refine Zb (.func 277) ?_; refine qR rfl rfl (YT _ bt br all b1 vk vr vs a4 n4 c4 st4 (decide ((x4 : Int) ≤ 8))) ?_; try simp only [kA, hB2]) | (refine Zb (.func 280) ?_; refine qR rfl rfl (ok_spec _ bt br all b2 vk vr vs a4 n4 c4 st4) ?_; try simp only [kA]) | refine zW ?_ | intro _)
  by_cases hok2 : (!b2 && decide (st4 = 0)) = true
  ·rw [if_pos hok2] at hq
   simp only [hok2]
   have hn5 := fun ρ (h : SIn ρ Zo a4 n4 l4) => raw_spec ρ br a4 n4 c4 l4 h hc4 st4 x4 (by omega)
   generalize WB x4 l4 st4 = r5 at *
   obtain ⟨x5, l5, st5⟩ := r5
   dsimp only at hq hn5
   subst hq
   repeat' (first | (refine Zb (.func 242) ?_; refine qC rfl rfl (hn5 _ h4) ?_; rintro v ρ' L' hle ⟨hle5, va, vn, vc, a5, n5, c5, rfl, hvc, hv, h5, hc5, rfl⟩ <;> (try simp only [kA])) | refine zW ?_ | intro _)
   exact qE ⟨rfl, hle5, a5, n5, c5, h5, hc5, rfl⟩
  ·rw [if_neg hok2] at hq
   subst hq
   simp only [Bool.not_eq_true] at hok2
   simp only [hok2]
   repeat' (first | refine zW ?_ | intro _)
   exact qE ⟨rfl, Hp.le_refl _, a4, n4, c4, h4, hc4, rfl⟩
 ·rw [if_neg hok] at hq
  subst hq
  simp only [Bool.not_eq_true] at hok
  simp only [hok]
  repeat' (first | refine zW ?_ | intro _)
  exact qE ⟨rfl, Hp.le_refl _, a1, n1, c1, h1, hc1, rfl⟩
def kidR (l : List UInt8) (st : Int) : Kid × List UInt8 × Int :=
 let r1 := ZW 1 l st
 let r2 := ZW 2 r1.2.1 r1.2.2
 let r3 := ZW 1 r2.2.1 r2.2.2
 (⟨r1.1, r2.1, r3.1⟩, r3.2.1, r3.2.2)
theorem tkid_spec (ρ : Hp) (bt br : Nat) (all : Int) (bad : Bool) (vk vr vs : Value) (a : Option Addr) (n c : Nat) (l : List UInt8) (h : SIn ρ Zo a n l) (hc : n ≤ c) (st : Int) :
  Spec Tryz.prog 305 [.pointer (some ⟨bt, 0, none⟩)] ρ [tkC bt br all bad vk vr vs, rdC br a n c st]
   (fun v ρ' L' => v = .agg ⟨Xi (kidR l st).1⟩ ∧ ρ' = ρ ∧ ∃ a' n' c', SIn ρ' Zo a' n' (kidR l st).2.1 ∧ n' ≤ c' ∧ L' = [tkC bt br all bad vk vr vs, rdC br a' n' c' (kidR l st).2.2]) := by
 have hn1 := u8_spec ρ br a n c l h hc st
 have hb1 := XG 1 l st
 generalize hq : kidR l st = q
 unfold kidR at hq
 generalize ZW 1 l st = r1 at *
 obtain ⟨x1, l1, st1⟩ := r1
 dsimp only at hq hn1 hb1
 have hn2 := fun ρ a n c (h : SIn ρ Zo a n l1) hc => u16_spec ρ br a n c l1 h hc st1
 have hb2 := XG 2 l1 st1
 generalize ZW 2 l1 st1 = r2 at *
 obtain ⟨x2, l2, st2⟩ := r2
 dsimp only at hq hn2 hb2
 have hn3 := fun ρ a n c (h : SIn ρ Zo a n l2) hc => u8_spec ρ br a n c l2 h hc st2
 have hb3 := XG 1 l2 st2
 generalize ZW 1 l2 st2 = r3 at *
 obtain ⟨x3, l3, st3⟩ := r3
 dsimp only at hq hn3 hb3
 subst hq
 refine Za Tryz.func305 rfl rfl rfl fun u R => ?_
 simp only [Zf, kA]
 repeat' (first | refine zW ?_ | intro _)
 refine tpA [0,1,2,3,6,7,8,9] (.e 4 [5] (.e 10 [11,12] (.e 13 [] .o))) ([tkC bt br all bad vk vr vs]) ?_
 repeat' (refine iT ?_; first | refine rA ?_ | ((refine iE ?_; refine rE ?_) <;> ((try refine Zr ?_); (first | (refine Zb (.func 140) ?_; refine qC rfl rfl (hn1) ?_; rintro v ρ' L' hle ⟨rfl, rfl, a1, n1, c1, h1, hc1, rfl⟩ <;> (try simp only [kA])) | (refine Zb (.func 199) ?_; refine qC rfl rfl (hn2 _ _ _ _ h1 hc1) ?_; rintro v ρ' L' hle ⟨rfl, rfl, a2, n2, c2, h2, hc2, rfl⟩ <;> (try simp only [kA])) | (refine qEf ?_; try intro _)) <;> ((try simp only [kA]); refine Zj ?_; refine rN ?_))))
 all_goals (repeat' (first | (refine Zb (.func 140) ?_; refine qC rfl rfl (hn3 _ _ _ _ h2 hc2) ?_; rintro v ρ' L' hle ⟨rfl, rfl, a3, n3, c3, h3, hc3, rfl⟩ <;> (try simp only [kA])) | refine zW ?_ | intro _))
 all_goals exact qE ⟨rfl, rfl, a3, n3, c3, h3, hc3, rfl⟩
def cmpI (x y : Int) : Int := if x < y then -1 else if y < x then 1 else 0
theorem nanI_spec (ρ : Hp) (x : Int) : Spec Tryz.prog 314 [.int .i64 x] ρ [] (fun v ρ' L' => v = .bool false ∧ ρ' = ρ ∧ L' = []) := by
 refine Za Tryz.func314 rfl rfl rfl fun u R => ?_
 simp only [Zf, kA]
 repeat' (first | refine zW ?_ | intro _)
 exact qE ⟨rfl, rfl, rfl⟩
theorem nanU_spec (ρ : Hp) (x : Int) : Spec Tryz.prog 315 [.int .u16 x] ρ [] (fun v ρ' L' => v = .bool false ∧ ρ' = ρ ∧ L' = []) := by
 refine Za Tryz.func315 rfl rfl rfl fun u R => ?_
 simp only [Zf, kA]
 repeat' (first | refine zW ?_ | intro _)
 exact qE ⟨rfl, rfl, rfl⟩
theorem cmpI_spec (ρ : Hp) (x y : Int) : Spec Tryz.prog 310 [.int .i64 x, .int .i64 y] ρ [] (fun v ρ' L' => v = .int .i64 (cmpI x y) ∧ ρ' = ρ ∧ L' = []) := by
 refine Za Tryz.func310 rfl rfl rfl fun u R => ?_
 simp only [Zf, kA]
 unfold cmpI
 split
 ·repeat' (first | (refine Zb (.func 314) ?_; refine qR rfl rfl (nanI_spec _ _) ?_; try simp only [kA]) | refine zW ?_ | intro _)
  exact qE ⟨rfl, rfl, rfl⟩
 ·split
  ·repeat' (first | (refine Zb (.func 314) ?_; refine qR rfl rfl (nanI_spec _ _) ?_; try simp only [kA]) | refine zW ?_ | intro _)
   exact qE ⟨rfl, rfl, rfl⟩
  ·repeat' (first | (refine Zb (.func 314) ?_; refine qR rfl rfl (nanI_spec _ _) ?_; try simp only [kA]) | refine zW ?_ | intro _)
   exact qE ⟨rfl, rfl, rfl⟩
theorem cmpU_spec (ρ : Hp) (x y : Int) : Spec Tryz.prog 311 [.int .u16 x, .int .u16 y] ρ [] (fun v ρ' L' => v = .int .i64 (cmpI x y) ∧ ρ' = ρ ∧ L' = []) := by
 refine Za Tryz.func311 rfl rfl rfl fun u R => ?_
 simp only [Zf, kA]
 unfold cmpI
 split
 ·repeat' (first | (refine Zb (.func 315) ?_; refine qR rfl rfl (nanU_spec _ _) ?_; try simp only [kA]) | refine zW ?_ | intro _)
  exact qE ⟨rfl, rfl, rfl⟩
 ·split
  ·repeat' (first | (refine Zb (.func 315) ?_; refine qR rfl rfl (nanU_spec _ _) ?_; try simp only [kA]) | refine zW ?_ | intro _)
   exact qE ⟨rfl, rfl, rfl⟩
  ·repeat' (first | (refine Zb (.func 315) ?_; refine qR rfl rfl (nanU_spec _ _) ?_; try simp only [kA]) | refine zW ?_ | intro _)
   exact qE ⟨rfl, rfl, rfl⟩
theorem or2_spec (ρ : Hp) (b : Nat) (x y : Int) : Spec Tryz.prog 309 [.slice (some ⟨b, 0, none⟩) 2 2] ρ [[(b, .cells ⟨[.int .i64 x, .int .i64 y]⟩ 3 (0, 0))]]
  (fun v ρ' L' => v = .int .i64 (if x = 0 then y else x) ∧ ρ' = ρ ∧ L' = [[(b, .cells ⟨[.int .i64 x, .int .i64 y]⟩ 3 (0, 0))]]) := by
 refine Za Tryz.func309 rfl rfl rfl fun u R => ?_
 simp only [Zf, kA]
 repeat' (first | refine zW ?_ | intro _)
 refine Zm [(2, _), (3, _), (6, _), (7, _)] (fun (ζ : (Nat)) => [(8, .int .i64 ζ)]) (fun (ζ : (Nat)) => ρ) (fun (ζ : (Nat)) => []) (fun (ζ : (Nat)) => ζ = 0 ∨ (ζ = 1 ∧ x = 0) ∨ (ζ = 2 ∧ x = 0 ∧ y = 0)) (fun (ζ : (Nat)) => 3 - ζ) (0) (.inl rfl) Zc Zc rfl tk ?_
 rintro k hI
 try simp only [kA, List.append_assoc] at hI ⊢
 try dsimp only at hI ⊢
 rcases hI with rfl | ⟨rfl, rfl⟩ | ⟨rfl, rfl, rfl⟩
 ·by_cases h : x = 0
  ·subst h
   repeat' (first | refine zW ?_ | intro _)
   refine Zi (1) (.inr (.inl ⟨rfl, rfl⟩)) Zc Zc rfl tk inferInstance (by first | omega | (dsimp only; omega))
  ·rw [if_neg h]
   repeat' (first | refine zW ?_ | intro _)
   exact qE ⟨rfl, rfl, rfl⟩
 ·by_cases h : y = 0
  ·subst h
   repeat' (first | refine zW ?_ | intro _)
   refine Zi (2) (.inr (.inr ⟨rfl, rfl, rfl⟩)) Zc Zc rfl tk inferInstance (by first | omega | (dsimp only; omega))
  ·repeat' (first | refine zW ?_ | intro _)
   exact qE ⟨rfl, rfl, rfl⟩
 ·repeat' (first | refine zW ?_ | intro _)
  exact qE ⟨rfl, rfl, rfl⟩
def cmpK (t1 : Int) (i1 : Nat) (t2 : Int) (i2 : Nat) : Int := if cmpI t1 t2 = 0 then cmpI i1 i2 else cmpI t1 t2
theorem Xl (ρ : Hp) (t1 : Int) (i1 : Nat) (t2 : Int) (i2 : Nat) : Spec Tryz.prog 306 [.agg ⟨keyV t1 i1⟩, .agg ⟨keyV t2 i2⟩] ρ [] (fun v ρ' L' => v = .int .i64 (cmpK t1 i1 t2 i2) ∧ ρ' = ρ ∧ L' = []) := by
 refine Za Tryz.func306 rfl rfl rfl fun u R => ?_
 simp only [Zf, kA]
 repeat' (first | refine zW ?_ | intro _)
 refine tpZ [0,1,2,3,5,6,7,8] (.e 4 [] (.e 9 [] (.e 10 [] (.e 11 [] (.f [12] .o))))) ?_
 repeat' (refine iT ?_; first | refine rA ?_ | ((refine iE ?_; refine rE ?_) <;> ((try refine Zr ?_); (first | (refine Zb (.func 310) ?_; refine qR rfl rfl (cmpI_spec _ _ _) ?_; try simp only [kA]) | (refine Zb (.func 311) ?_; refine qR rfl rfl (cmpU_spec _ _ _) ?_; try simp only [kA]) | (refine Zl rfl rfl rfl rfl (by simp) rfl rfl (fun _ => ?_)) | (refine Zb (.func 309) ?_; refine qR rfl rfl (or2_spec _ _ _ _) ?_; try simp only [kA]) | (refine qEf ?_; try intro _)) <;> ((try simp only [kA]); refine Zj ?_; refine rN ?_))))
 all_goals (repeat' (first | refine zW ?_ | intro _))
 all_goals exact qE ⟨rfl, rfl, rfl⟩
def YZ (r : Row) : Bool := decide ((0 ≤ r.t ∧ r.t < 3) ∧ r.note.length ≤ 8)
theorem checkRow_spec (ρ : Hp) (r : Row) : Spec Tryz.prog 286 [.agg ⟨Yi r⟩] ρ [] (fun v ρ' L' => v = .int .i64 (if YZ r then 0 else 151) ∧ ρ' = ρ ∧ L' = []) := by
 obtain ⟨t, id, val, note⟩ := r
 refine Za Tryz.func286 rfl rfl rfl fun u R => ?_
 simp only [Zf, kA, YZ, decide_eq_true_eq]
 by_cases h1 : 0 ≤ t ∧ t < 3
 ·have hd : decide (0 ≤ t ∧ t < 3) = true := decide_eq_true h1
  by_cases h2 : note.length ≤ 8
  ·rw [if_pos ⟨h1, h2⟩]
   repeat' (first | (refine Zb (.func 281) ?_; refine qR rfl rfl (XW _ _) ?_; try simp only [kA, hd]) | refine zW ?_ | intro _)
   exact qE ⟨rfl, rfl, rfl⟩
  ·rw [if_neg (fun h => h2 h.2)]
   repeat' (first | (refine Zb (.func 281) ?_; refine qR rfl rfl (XW _ _) ?_; try simp only [kA, hd]) | refine zW ?_ | intro _)
   exact qE ⟨rfl, rfl, rfl⟩
 ·have hd : decide (0 ≤ t ∧ t < 3) = false := decide_eq_false h1
  rw [if_neg (fun h => h1 h.1)]
  repeat' (first | (refine Zb (.func 281) ?_; refine qR rfl rfl (XW _ _) ?_; try simp only [kA, hd]) | refine zW ?_ | intro _)
  exact qE ⟨rfl, rfl, rfl⟩
def ZP {α : Type} (most : Nat) (right : Nat → α → Bool) (lt : α → α → Bool) (l : List α) : Nat → Bool
 | 0 => decide (l.length ≤ most)
 | k + 1 => ZP most right lt l k && (match l[k]? with | some x => right k x && (decide (k = 0) || (match l[k - 1]? with | some y => lt y x | none => false)) | none => false)
theorem Wp {α : Type} {most : Nat} {right : Nat → α → Bool} {lt : α → α → Bool} {l : List α} {k : Nat} (h : k < l.length) : ZP most right lt l (k + 1) = (ZP most right lt l k && (right k l[k] && (decide (k = 0) || lt (l[k - 1]'(by omega)) l[k]))) := by
 rw [ZP]
 simp [h, show k - 1 < l.length by omega]
theorem risesB_false {α : Type} {most : Nat} {right : Nat → α → Bool} {lt : α → α → Bool} {l : List α} {k : Nat} (h : ZP most right lt l k = false) : ∀ m, ZP most right lt l (k + m) = false
 | 0 => h
 | m + 1 => by rw [← Nat.add_assoc, ZP, risesB_false h m]; rfl
theorem Wc {α : Type} {most : Nat} {right : Nat → α → Bool} {lt : α → α → Bool} {l : List α} {k n : Nat} (h : ZP most right lt l k = false) (hk : k ≤ n) : ZP most right lt l n = false := by
 have := risesB_false h (n - k)
 rwa [Nat.add_sub_cancel' hk] at this
theorem XU (ρ : Hp) (r : Row) : Spec Tryz.prog 292 [.agg ⟨Yi r⟩] ρ [] (fun v ρ' L' => v = .agg ⟨keyV r.t r.id⟩ ∧ ρ' = ρ ∧ L' = []) := by
 refine Za Tryz.func292 rfl rfl rfl fun u R => ?_
 simp only [Zf, kA]
 repeat' (first | refine zW ?_ | intro _)
 exact qE ⟨rfl, rfl, rfl⟩
theorem leaf2_spec (ρ : Hp) (i : Int) (r : Row) : Spec Tryz.prog 293 [.int .i64 i, .agg ⟨Yi r⟩] ρ [] (fun v ρ' L' => v = .bool (YZ r) ∧ ρ' = ρ ∧ L' = []) := by
 refine Za Tryz.func293 rfl rfl rfl fun u R => ?_
 simp only [Zf, kA]
 cases h : YZ r
 ·repeat' (first | (refine Zb (.func 286) ?_; refine qR rfl rfl (checkRow_spec _ r) ?_; try simp only [kA, h, if_false, Bool.false_eq_true]) | refine zW ?_ | intro _)
  exact qE ⟨rfl, rfl, rfl⟩
 ·repeat' (first | (refine Zb (.func 286) ?_; refine qR rfl rfl (checkRow_spec _ r) ?_; try simp only [kA, h, if_true]) | refine zW ?_ | intro _)
  exact qE ⟨rfl, rfl, rfl⟩
def ltR (y x : Row) : Bool := decide (cmpK y.t y.id x.t x.id < 0)
def rowsOk (l : List Row) : Bool := ZP 4 (fun _ r => YZ r) ltR l l.length
theorem rowV_len (r : Row) : (Yi r).length = 4 := rfl
theorem risesRow_spec (ρ : Hp) (a : Option Addr) (n c : Nat) (l : List Row) (h : AIn ρ 4 Yi a n l) (hn : n ≤ 1000000) :
  Spec Tryz.prog 291 [.slice a n c, .int .i64 4, .func (.func 292) ⟨[]⟩ ⟨[]⟩, .func (.func 293) ⟨[]⟩ ⟨[]⟩] ρ [] (fun v ρ' L' => v = .bool (rowsOk l) ∧ ρ' = ρ ∧ L' = []) := by
 have hl := h.len
 unfold rowsOk
 rw [hl]
 refine Za Tryz.func291 rfl rfl rfl fun u R => ?_
 simp only [Zf, kA]
 repeat' (first | refine zW ?_ | intro _)
 have e0 : decide ((n : Int) ≤ 4) = ZP 4 (fun _ r => YZ r) ltR l 0 := by
  rw [ZP]; simp [hl]; omega
 rw [e0]
 refine Zm [(0, _), (2, _), (3, _), (8, _), (16, _), (17, _)] (fun (ζ : (Nat)) => [(18, .int .i64 ζ), (9, .bool (ZP 4 (fun _ r => YZ r) ltR l ζ))]) (fun (ζ : (Nat)) => ρ) (fun (ζ : (Nat)) => []) (fun (ζ : (Nat)) => ζ ≤ n) (fun (ζ : (Nat)) => n - ζ) (0) (Nat.zero_le _) Zc Zc rfl tk ?_
 rintro k hI
 try simp only [kA, List.append_assoc] at hI ⊢
 try dsimp only at hI ⊢
 by_cases hlt : k < n
 ·obtain ⟨b, off, C, T, fr, rfl, hb, hfit, hc⟩ := h.get (show k < l.length by omega)
  have hs := Wp (most := 4) (right := fun _ r => YZ r) (lt := ltR) (show k < l.length by omega)
  have hfin := fun (e : ZP 4 (fun _ r => YZ r) ltR l (k + 1) = false) => Wc e (show k + 1 ≤ n by omega)
  cases hok : ZP 4 (fun _ r => YZ r) ltR l k
  ·rw [hok, Bool.false_and] at hs
   rw [hfin hs]
   generalize l[k] = x at *
   repeat' (first | refine zW ?_ | intro _)
   refine tpZ [0,1,2,3,4] (.e 5 [6,7,8,9,10,11,12,13,14,15,16,18,19] (.e 17 [] (.e 20 [] (.e 21 [] (.f [22,23,24,25] .o))))) ?_
   repeat' (refine iT ?_; first | refine rA ?_ | ((refine iE ?_; refine rE ?_) <;> ((try refine Zr ?_); (first | (refine qEf ?_; try intro _)) <;> ((try simp only [kA]); refine Zj ?_; refine rN ?_))))
   repeat' (first | refine zW ?_ | intro _)
   exact qE ⟨rfl, rfl, rfl⟩
  ·rw [hok, Bool.true_and] at hs
   cases hx : YZ l[k]
   ·rw [hx, Bool.false_and] at hs
    rw [hfin hs]
    generalize l[k] = x at *
    repeat' (first | refine zW ?_ | intro _)
    refine tpZ [0,1,2,3,4] (.e 5 [6,7,8,9,10,11,12,13,14,15,16,18,19] (.e 17 [] (.e 20 [] (.e 21 [] (.f [22,23,24,25] .o))))) ?_
    repeat' (refine iT ?_; first | refine rA ?_ | ((refine iE ?_; refine rE ?_) <;> ((try refine Zr ?_); (first | (refine Zb (.tmp 25) ?_; refine qR rfl rfl (leaf2_spec _ _ _) ?_; try simp only [kA, hx]) | (refine Zb (.tmp 34) ?_; refine qR rfl rfl (XU _ _) ?_; try simp only [kA]) | (refine Zb (.tmp 41) ?_; refine qR rfl rfl (XU _ _) ?_; try simp only [kA]) | (refine Zb (.func 306) ?_; refine qR rfl rfl (Xl _ _ _ _ _) ?_; try simp only [kA]) | (refine qEf ?_; try intro _)) <;> ((try simp only [kA]); refine Zj ?_; refine rN ?_))))
    repeat' (first | refine zW ?_ | intro _)
    exact qE ⟨rfl, rfl, rfl⟩
   ·rw [hx, Bool.true_and] at hs
    by_cases hk0 : k = 0
    ·have hs' : ZP 4 (fun _ r => YZ r) ltR l (k + 1) = true := by rw [hs]; simp [hk0]
     generalize l[k] = x at *
     repeat' (first | refine zW ?_ | intro _)
     refine tpZ [0,1,2,3,4] (.e 5 [6,7,8,9,10,11,12,13,14,15,16,18,19] (.e 17 [] (.e 20 [] (.e 21 [] (.f [22,23,24,25] .o))))) ?_
     repeat' (refine iT ?_; first | refine rA ?_ | ((refine iE ?_; refine rE ?_) <;> ((try refine Zr ?_); (first | (refine Zb (.tmp 25) ?_; refine qR rfl rfl (leaf2_spec _ _ _) ?_; try simp only [kA, hx]) | (refine Zb (.tmp 34) ?_; refine qR rfl rfl (XU _ _) ?_; try simp only [kA]) | (refine Zb (.tmp 41) ?_; refine qR rfl rfl (XU _ _) ?_; try simp only [kA]) | (refine Zb (.func 306) ?_; refine qR rfl rfl (Xl _ _ _ _ _) ?_; try simp only [kA]) | (refine qEf ?_; try intro _)) <;> ((try simp only [kA]); refine Zj ?_; refine rN ?_))))
     repeat' (first | refine zW ?_ | intro _)
     rw [← hs']
     refine Zi (k + 1) (hlt) Zc Zc rfl tk inferInstance (by first | omega | (dsimp only; omega))
    ·have hd : decide (k = 0) = false := decide_eq_false hk0
     obtain ⟨b2, off2, C2, T2, fr2, f1, hb2, hfit2, hc2⟩ := h.get (show k - 1 < l.length by omega)
     cases f1
     rw [hb] at hb2
     cases hb2
     have ek : ((k : Int) - 1).toNat = k - 1 := by omega
     rw [← ek] at hfit2
     have hc3 : List.take 4 (List.drop (off + ((k : Int) - 1).toNat * 4) C) = Yi (l[k - 1]'(by omega)) := by rw [ek]; exact hc2
     clear hc2
     rw [hd, Bool.false_or] at hs
     generalize l[k] = x at *
     generalize l[k - 1]'(by omega) = y at *
     unfold ltR at hs
     by_cases hcm : cmpK y.t y.id x.t x.id < 0
     ·rw [decide_eq_true hcm] at hs
      repeat' (first | refine zW ?_ | intro _)
      refine tpZ [0,1,2,3,4] (.e 5 [6,7,8,9,10,11,12,13,14,15,16,18,19] (.e 17 [] (.e 20 [] (.e 21 [] (.f [22,23,24,25] .o))))) ?_
      repeat' (refine iT ?_; first | refine rA ?_ | ((refine iE ?_; refine rE ?_) <;> ((try refine Zr ?_); (first | (refine Zb (.tmp 25) ?_; refine qR rfl rfl (leaf2_spec _ _ _) ?_; try simp only [kA, hx]) | (refine Zb (.tmp 34) ?_; refine qR rfl rfl (XU _ _) ?_; try simp only [kA]) | (refine Zb (.tmp 41) ?_; refine qR rfl rfl (XU _ _) ?_; try simp only [kA]) | (refine Zb (.func 306) ?_; refine qR rfl rfl (Xl _ _ _ _ _) ?_; try simp only [kA]) | (refine qEf ?_; try intro _)) <;> ((try simp only [kA]); refine Zj ?_; refine rN ?_))))
      all_goals (repeat' (first | refine zW ?_ | intro _))
      all_goals rw [← hs]
      all_goals refine Zi (k + 1) (hlt) Zc Zc rfl tk inferInstance (by first | omega | (dsimp only; omega))
     ·rw [decide_eq_false hcm] at hs
      rw [hfin hs]
      repeat' (first | refine zW ?_ | intro _)
      refine tpZ [0,1,2,3,4] (.e 5 [6,7,8,9,10,11,12,13,14,15,16,18,19] (.e 17 [] (.e 20 [] (.e 21 [] (.f [22,23,24,25] .o))))) ?_
      repeat' (refine iT ?_; first | refine rA ?_ | ((refine iE ?_; refine rE ?_) <;> ((try refine Zr ?_); (first | (refine Zb (.tmp 25) ?_; refine qR rfl rfl (leaf2_spec _ _ _) ?_; try simp only [kA, hx]) | (refine Zb (.tmp 34) ?_; refine qR rfl rfl (XU _ _) ?_; try simp only [kA]) | (refine Zb (.tmp 41) ?_; refine qR rfl rfl (XU _ _) ?_; try simp only [kA]) | (refine Zb (.func 306) ?_; refine qR rfl rfl (Xl _ _ _ _ _) ?_; try simp only [kA]) | (refine qEf ?_; try intro _)) <;> ((try simp only [kA]); refine Zj ?_; refine rN ?_))))
      all_goals (repeat' (first | refine zW ?_ | intro _))
      all_goals exact qE ⟨rfl, rfl, rfl⟩
 ·have hk2 : k = n := by omega
  subst hk2
  repeat' (first | refine zW ?_ | intro _)
  exact qE ⟨rfl, rfl, rfl⟩
structure MetOk (es : List MapEntry) (ps : List Int) : Prop where
 keys : Yu .i64 es
 get : ∀ p, YM es p = if p ∈ ps then some (.bool true) else none
theorem MetOk.nil : MetOk [] [] := ⟨by intro e he; simp at he, fun p => by simp [YM]⟩
def kidOk (i : Nat) (ps : List Int) (k : Kid) : Bool := decide (k.page ∉ ps ∧ 0 < k.page ∧ k.page < 64 ∧ (0 ≤ k.t ∧ k.t < 3) ∧ (0 < i ∨ (k.t = 0 ∧ k.id = 0)))
theorem kidV_len (r : Kid) : (Xi r).length = 3 := rfl
theorem XA (ρ : Hp) (r : Kid) : Spec Tryz.prog 295 [.agg ⟨Xi r⟩] ρ [] (fun v ρ' L' => v = .agg ⟨keyV r.t r.id⟩ ∧ ρ' = ρ ∧ L' = []) := by
 refine Za Tryz.func295 rfl rfl rfl fun u R => ?_
 simp only [Zf, kA]
 repeat' (first | refine zW ?_ | intro _)
 exact qE ⟨rfl, rfl, rfl⟩
abbrev metL (bx mb : Nat) (es : List MapEntry) (ck : Nat) : SH := [[(bx, .cells ⟨[.map (some mb)]⟩ 343 (0, 0))], [(mb, .map ⟨es⟩ ck)]]
theorem inner2_spec (ρ : Hp) (bx mb : Nat) (es : List MapEntry) (ck : Nat) (ps : List Int) (hm : MetOk es ps) (i : Nat) (k : Kid) : Spec Tryz.prog 296 [.int .i64 i, .agg ⟨Xi k⟩, .pointer (some ⟨bx, 0, none⟩)] ρ (metL bx mb es ck)
  (fun v ρ' L' => v = .bool (kidOk i ps k) ∧ ρ' = ρ ∧ ∃ es' ck', MetOk es' (k.page :: ps) ∧ L' = metL bx mb es' ck') := by
 obtain ⟨t, id, page⟩ := k
 have hes := hm.keys
 have hg := hm.get page
 dsimp only at hg ⊢
 generalize hq : kidOk i ps ⟨t, id, page⟩ = q
 have hfin : ∀ es', Yu .i64 es' → (∀ j, YM es' j = if j = page then some (.bool true) else YM es j) → MetOk es' (page :: ps) := fun es' h1 h2 => ⟨h1, fun p => by
  rw [h2 p, hm.get p]
  by_cases e : p = page <;> simp [e]⟩
 refine Za Tryz.func296 rfl rfl rfl fun u R => ?_
 simp only [Zf, kA]
 by_cases hp : page ∈ ps
 ·rw [if_pos hp] at hg
  have hq' : q = false := by rw [← hq]; exact decide_eq_false (fun h => h.1 hp)
  subst hq'
  repeat' (first | (refine Xr rfl rfl rfl hes (fun es' ck' h1 h2 => ?_)) | refine zW ?_ | intro _)
  exact qE ⟨rfl, rfl, es', ck', hfin es' h1 h2, rfl⟩
 ·rw [if_neg hp] at hg
  by_cases hp0 : 0 < page
  ·by_cases hp6 : page < 64
   ·by_cases ht : 0 ≤ t ∧ t < 3
    ·have hd : decide (0 ≤ t ∧ t < 3) = true := decide_eq_true ht
     by_cases hi : 0 < i
     ·have hq' : q = true := by rw [← hq]; exact decide_eq_true ⟨hp, hp0, hp6, ht, .inl hi⟩
      subst hq'
      repeat' (first | (refine Xr rfl rfl rfl hes (fun es' ck' h1 h2 => ?_)) | (refine Zb (.func 281) ?_; refine qR rfl rfl (XW _ _) ?_; try simp only [kA, hd]) | refine zW ?_ | intro _)
      exact qE ⟨rfl, rfl, es', ck', hfin es' h1 h2, rfl⟩
     ·by_cases hz : t = 0 ∧ id = 0
      ·have hq' : q = true := by rw [← hq]; exact decide_eq_true ⟨hp, hp0, hp6, ht, .inr hz⟩
       subst hq'
       obtain ⟨rfl, rfl⟩ := hz
       repeat' (first | (refine Xr rfl rfl rfl hes (fun es' ck' h1 h2 => ?_)) | (refine Zb (.func 281) ?_; refine qR rfl rfl (XW _ _) ?_; try simp only [kA, hd]) | refine zW ?_ | intro _)
       exact qE ⟨rfl, rfl, es', ck', hfin es' h1 h2, rfl⟩
      ·have hq' : q = false := by rw [← hq]; exact decide_eq_false (fun h => h.2.2.2.2.elim hi hz)
       subst hq'
       have hk : ((t == 0) && (((id : Int) == 0) && true)) = false := by
        simp; intro h; exact fun h' => hz ⟨h, by omega⟩
       repeat' (first | (refine Xr rfl rfl rfl hes (fun es' ck' h1 h2 => ?_)) | (refine Zb (.func 281) ?_; refine qR rfl rfl (XW _ _) ?_; try simp only [kA, hd]) | refine zW ?_ | intro _)
       exact qE ⟨by first | rfl | exact congrArg Value.bool hk, rfl, es', ck', hfin es' h1 h2, rfl⟩
    ·have hd : decide (0 ≤ t ∧ t < 3) = false := decide_eq_false ht
     have hq' : q = false := by rw [← hq]; exact decide_eq_false (fun h => ht h.2.2.2.1)
     subst hq'
     repeat' (first | (refine Xr rfl rfl rfl hes (fun es' ck' h1 h2 => ?_)) | (refine Zb (.func 281) ?_; refine qR rfl rfl (XW _ _) ?_; try simp only [kA, hd]) | refine zW ?_ | intro _)
     exact qE ⟨rfl, rfl, es', ck', hfin es' h1 h2, rfl⟩
   ·have hq' : q = false := by rw [← hq]; exact decide_eq_false (fun h => hp6 h.2.2.1)
    subst hq'
    repeat' (first | (refine Xr rfl rfl rfl hes (fun es' ck' h1 h2 => ?_)) | refine zW ?_ | intro _)
    exact qE ⟨rfl, rfl, es', ck', hfin es' h1 h2, rfl⟩
  ·have hq' : q = false := by rw [← hq]; exact decide_eq_false (fun h => hp0 h.2.1)
   subst hq'
   repeat' (first | (refine Xr rfl rfl rfl hes (fun es' ck' h1 h2 => ?_)) | refine zW ?_ | intro _)
   exact qE ⟨rfl, rfl, es', ck', hfin es' h1 h2, rfl⟩
def psTo (l : List Kid) (k : Nat) : List Int := ((l.take k).map Kid.page).reverse
theorem psTo_succ {l : List Kid} {k : Nat} (h : k < l.length) : psTo l (k + 1) = l[k].page :: psTo l k := by
 unfold psTo; rw [List.take_succ_eq_append_getElem h, List.map_append, List.reverse_append]; rfl
def ltK (y x : Kid) : Bool := decide (cmpK y.t y.id x.t x.id < 0)
def kidsOk (l : List Kid) : Bool := ZP 4 (fun i k => kidOk i (psTo l i) k) ltK l l.length
theorem risesKid_spec (ρ : Hp) (a : Option Addr) (n c : Nat) (l : List Kid) (h : AIn ρ 3 Xi a n l) (hn : n ≤ 1000000) (bx mb ck0 : Nat) :
  Spec Tryz.prog 294 [.slice a n c, .int .i64 4, .func (.func 295) ⟨[]⟩ ⟨[]⟩, .func (.func 296) ⟨[]⟩ ⟨[.pointer (some ⟨bx, 0, none⟩)]⟩] ρ (metL bx mb [] ck0) (fun v ρ' L' => v = .bool (kidsOk l) ∧ ρ' = ρ ∧ L' = []) := by
 have hl := h.len
 unfold kidsOk
 rw [hl]
 refine Za Tryz.func294 rfl rfl rfl fun u R => ?_
 simp only [Zf, kA]
 generalize hr : (fun (i : Nat) (k : Kid) => kidOk i (psTo l i) k) = rt
 repeat' (first | refine zW ?_ | intro _)
 have e0 : decide ((n : Int) ≤ 4) = ZP 4 rt ltK l 0 := by
  rw [ZP]; simp [hl]; omega
 rw [e0]
 refine Zm [(0, _), (2, _), (3, _), (8, _), (16, _), (17, _)] (fun (ζ : (Nat) × (List MapEntry) × (Nat)) => [(18, .int .i64 ζ.1), (9, .bool (ZP 4 rt ltK l ζ.1))]) (fun (ζ : (Nat) × (List MapEntry) × (Nat)) => ρ) (fun (ζ : (Nat) × (List MapEntry) × (Nat)) => metL bx mb ζ.2.1 ζ.2.2) (fun (ζ : (Nat) × (List MapEntry) × (Nat)) => ζ.1 ≤ n ∧ MetOk ζ.2.1 (psTo l ζ.1)) (fun (ζ : (Nat) × (List MapEntry) × (Nat)) => n - ζ.1) ((0, [], ck0)) (⟨Nat.zero_le _, MetOk.nil⟩) Zc Zc rfl tk ?_
 rintro ⟨k, es, ck⟩ hI
 try simp only [kA, List.append_assoc] at hI ⊢
 try dsimp only at hI ⊢
 obtain ⟨hI, hm⟩ := hI
 by_cases hlt : k < n
 ·obtain ⟨b, off, C, T, fr, rfl, hb, hfit, hc⟩ := h.get (show k < l.length by omega)
  have hs := Wp (most := 4) (right := rt) (lt := ltK) (show k < l.length by omega)
  have hfin := fun (e : ZP 4 rt ltK l (k + 1) = false) => Wc e (show k + 1 ≤ n by omega)
  have hps := psTo_succ (show k < l.length by omega)
  have hrk : rt k l[k] = kidOk k (psTo l k) l[k] := by rw [← hr]
  cases hok : ZP 4 rt ltK l k
  ·rw [hok, Bool.false_and] at hs
   rw [hfin hs]
   generalize l[k] = x at *
   repeat' (first | refine zW ?_ | intro _)
   rename_i b11
   refine tpA [0,1,2,3,4] (.e 5 [6,7,8,9,10,11,12,13,14,15,16,18,19] (.e 17 [] (.e 20 [] (.e 21 [] (.f [22,23,24,25] .o))))) ([[(b11, .cells ⟨Xi x⟩ 212 (0, 0))]]) ?_
   repeat' (refine iT ?_; first | refine rA ?_ | ((refine iE ?_; refine rE ?_) <;> ((try refine Zr ?_); (first | (refine qEf ?_; try intro _)) <;> ((try simp only [kA]); refine Zj ?_; refine rN ?_))))
   repeat' (first | refine zW ?_ | intro _)
   exact qE ⟨rfl, rfl, rfl⟩
  ·rw [hok, Bool.true_and, hrk] at hs
   cases hx : kidOk k (psTo l k) l[k]
   ·rw [hx, Bool.false_and] at hs
    rw [hfin hs]
    generalize l[k] = x at *
    repeat' (first | refine zW ?_ | intro _)
    rename_i b11
    refine tpA [0,1,2,3,4] (.e 5 [6,7,8,9,10,11,12,13,14,15,16,18,19] (.e 17 [] (.e 20 [] (.e 21 [] (.f [22,23,24,25] .o))))) ([[(b11, .cells ⟨Xi x⟩ 212 (0, 0))]]) ?_
    repeat' (refine iT ?_; first | refine rA ?_ | ((refine iE ?_; refine rE ?_) <;> ((try refine Zr ?_); (first | (refine Zb (.tmp 25) ?_; refine qC rfl rfl (inner2_spec _ bx mb es ck _ hm k x) ?_; rintro v ρ' L' hle ⟨rfl, rfl, es', ck', hm', rfl⟩ <;> (try simp only [kA, hx])) | (refine Zb (.tmp 34) ?_; refine qR rfl rfl (XA _ _) ?_; try simp only [kA]) | (refine Zb (.tmp 41) ?_; refine qR rfl rfl (XA _ _) ?_; try simp only [kA]) | (refine Zb (.func 306) ?_; refine qR rfl rfl (Xl _ _ _ _ _) ?_; try simp only [kA]) | (refine qEf ?_; try intro _)) <;> ((try simp only [kA]); refine Zj ?_; refine rN ?_))))
    repeat' (first | refine zW ?_ | intro _)
    exact qE ⟨rfl, rfl, rfl⟩
   ·rw [hx, Bool.true_and] at hs
    by_cases hk0 : k = 0
    ·have hs' : ZP 4 rt ltK l (k + 1) = true := by rw [hs]; simp [hk0]
     generalize l[k] = x at *
     repeat' (first | refine zW ?_ | intro _)
     rename_i b11
     refine tpA [0,1,2,3,4] (.e 5 [6,7,8,9,10,11,12,13,14,15,16,18,19] (.e 17 [] (.e 20 [] (.e 21 [] (.f [22,23,24,25] .o))))) ([[(b11, .cells ⟨Xi x⟩ 212 (0, 0))]]) ?_
     repeat' (refine iT ?_; first | refine rA ?_ | ((refine iE ?_; refine rE ?_) <;> ((try refine Zr ?_); (first | (refine Zb (.tmp 25) ?_; refine qC rfl rfl (inner2_spec _ bx mb es ck _ hm k x) ?_; rintro v ρ' L' hle ⟨rfl, rfl, es', ck', hm', rfl⟩ <;> (try simp only [kA, hx])) | (refine Zb (.tmp 34) ?_; refine qR rfl rfl (XA _ _) ?_; try simp only [kA]) | (refine Zb (.tmp 41) ?_; refine qR rfl rfl (XA _ _) ?_; try simp only [kA]) | (refine Zb (.func 306) ?_; refine qR rfl rfl (Xl _ _ _ _ _) ?_; try simp only [kA]) | (refine qEf ?_; try intro _)) <;> ((try simp only [kA]); refine Zj ?_; refine rN ?_))))
     repeat' (first | refine zW ?_ | intro _)
     rw [← hs']
     refine Zi (k + 1, es', ck') (⟨hlt, by dsimp only; rw [hps]; exact hm'⟩) Zc Zc rfl tk inferInstance (by first | omega | (dsimp only; omega))
    ·have hd : decide (k = 0) = false := decide_eq_false hk0
     obtain ⟨b2, off2, C2, T2, fr2, f1, hb2, hfit2, hc2⟩ := h.get (show k - 1 < l.length by omega)
     cases f1
     rw [hb] at hb2
     cases hb2
     have ek : ((k : Int) - 1).toNat = k - 1 := by omega
     rw [← ek] at hfit2
     have hc3 : List.take 3 (List.drop (off + ((k : Int) - 1).toNat * 3) C) = Xi (l[k - 1]'(by omega)) := by rw [ek]; exact hc2
     clear hc2
     rw [hd, Bool.false_or] at hs
     generalize l[k] = x at *
     generalize l[k - 1]'(by omega) = y at *
     unfold ltK at hs
     by_cases hcm : cmpK y.t y.id x.t x.id < 0
     ·rw [decide_eq_true hcm] at hs
      repeat' (first | refine zW ?_ | intro _)
      rename_i b11
      refine tpA [0,1,2,3,4] (.e 5 [6,7,8,9,10,11,12,13,14,15,16,18,19] (.e 17 [] (.e 20 [] (.e 21 [] (.f [22,23,24,25] .o))))) ([[(b11, .cells ⟨Xi x⟩ 212 (0, 0))]]) ?_
      repeat' (refine iT ?_; first | refine rA ?_ | ((refine iE ?_; refine rE ?_) <;> ((try refine Zr ?_); (first | (refine Zb (.tmp 25) ?_; refine qC rfl rfl (inner2_spec _ bx mb es ck _ hm k x) ?_; rintro v ρ' L' hle ⟨rfl, rfl, es', ck', hm', rfl⟩ <;> (try simp only [kA, hx])) | (refine Zb (.tmp 34) ?_; refine qR rfl rfl (XA _ _) ?_; try simp only [kA]) | (refine Zb (.tmp 41) ?_; refine qR rfl rfl (XA _ _) ?_; try simp only [kA]) | (refine Zb (.func 306) ?_; refine qR rfl rfl (Xl _ _ _ _ _) ?_; try simp only [kA]) | (refine qEf ?_; try intro _)) <;> ((try simp only [kA]); refine Zj ?_; refine rN ?_))))
      all_goals (repeat' (first | refine zW ?_ | intro _))
      all_goals rw [← show ZP 4 rt ltK l (k + 1) = true from hs]
      all_goals refine Zi (k + 1, es', ck') (⟨hlt, by dsimp only; rw [hps]; exact hm'⟩) Zc Zc rfl tk inferInstance (by first | omega | (dsimp only; omega))
     ·rw [decide_eq_false hcm] at hs
      rw [hfin hs]
      repeat' (first | refine zW ?_ | intro _)
      rename_i b11
      refine tpA [0,1,2,3,4] (.e 5 [6,7,8,9,10,11,12,13,14,15,16,18,19] (.e 17 [] (.e 20 [] (.e 21 [] (.f [22,23,24,25] .o))))) ([[(b11, .cells ⟨Xi x⟩ 212 (0, 0))]]) ?_
      repeat' (refine iT ?_; first | refine rA ?_ | ((refine iE ?_; refine rE ?_) <;> ((try refine Zr ?_); (first | (refine Zb (.tmp 25) ?_; refine qC rfl rfl (inner2_spec _ bx mb es ck _ hm k x) ?_; rintro v ρ' L' hle ⟨rfl, rfl, es', ck', hm', rfl⟩ <;> (try simp only [kA, hx])) | (refine Zb (.tmp 34) ?_; refine qR rfl rfl (XA _ _) ?_; try simp only [kA]) | (refine Zb (.tmp 41) ?_; refine qR rfl rfl (XA _ _) ?_; try simp only [kA]) | (refine Zb (.func 306) ?_; refine qR rfl rfl (Xl _ _ _ _ _) ?_; try simp only [kA]) | (refine qEf ?_; try intro _)) <;> ((try simp only [kA]); refine Zj ?_; refine rN ?_))))
      all_goals (repeat' (first | refine zW ?_ | intro _))
      all_goals exact qE ⟨rfl, rfl, rfl⟩
 ·have hk2 : k = n := by omega
  subst hk2
  repeat' (first | refine zW ?_ | intro _)
  exact qE ⟨rfl, rfl, rfl⟩
end Go.Proofs.E
namespace Go.Proofs.E
open Go
set_option linter.unusedVariables false
set_option linter.unusedSimpArgs false
set_option linter.unusedSectionVars false
set_option maxRecDepth 4000
set_option maxHeartbeats 1000000
attribute [local irreducible] Yl TL TC TE Spec ZN R1 Hp.le EnvLe TS TR YS Zp
structure CV where
 ra : Option Addr
 rn : Nat
 rc : Nat
 ka : Option Addr
 kn : Nat
 kc : Nat
structure XX where
 kind : Int
 rows : List Row
 kids : List Kid
deriving DecidableEq
abbrev Wy (k : Int) (v : CV) : List Value := [.int .i64 k, .slice v.ra v.rn v.rc, .slice v.ka v.kn v.kc]
structure CIn (ρ : Hp) (v : CV) (rows : List Row) (kids : List Kid) : Prop where
 r : AIn ρ 4 Yi v.ra v.rn rows
 k : AIn ρ 3 Xi v.ka v.kn kids
 rb : v.rn ≤ 1000000
 kb : v.kn ≤ 1000000
 rc : v.rn ≤ v.rc
 kc : v.kn ≤ v.kc
theorem CIn.mono {ρ ρ' v rows kids} (h : CIn ρ v rows kids) (hle : ρ.le ρ') : CIn ρ' v rows kids := ⟨h.r.mono hle, h.k.mono hle, h.rb, h.kb, h.rc, h.kc⟩
theorem leafc_spec (ρ : Hp) (a : Option Addr) (n c : Nat) (l : List Row) (h : AIn ρ 4 Yi a n l) (hn : n ≤ 1000000) : Spec Tryz.prog 266 [.slice a n c] ρ [] (fun v ρ' L' => v = .bool (rowsOk l) ∧ ρ' = ρ ∧ L' = []) := by
 refine Za Tryz.func266 rfl rfl rfl fun u R => ?_
 simp only [Zf, kA]
 repeat' (first | (refine Zb (.func 291) ?_; refine qR rfl rfl (risesRow_spec _ a n c l h hn) ?_; try simp only [kA]) | refine zW ?_ | intro _)
 exact qE ⟨rfl, rfl, rfl⟩
theorem innerc_spec (ρ : Hp) (a : Option Addr) (n c : Nat) (l : List Kid) (h : AIn ρ 3 Xi a n l) (hn : n ≤ 1000000) : Spec Tryz.prog 267 [.slice a n c] ρ [] (fun v ρ' L' => v = .bool (decide (1 < n) && kidsOk l) ∧ ρ' = ρ ∧ L' = []) := by
 refine Za Tryz.func267 rfl rfl rfl fun u R => ?_
 simp only [Zf, kA]
 by_cases h1 : 1 < n
 ·rw [decide_eq_true h1, Bool.true_and]
  repeat' (first | (refine Zb (.func 294) ?_; refine qR rfl rfl (risesKid_spec _ a n c l h hn _ _ _) ?_; try simp only [kA]) | refine zW ?_ | intro _)
  exact qE ⟨rfl, rfl, rfl⟩
 ·rw [decide_eq_false h1, Bool.false_and]
  repeat' (first | refine zW ?_ | intro _)
  exact qE ⟨rfl, rfl, rfl⟩
def ZG (c : XX) : Bool :=
 if c.kind = 0 then decide (c.rows.length + c.kids.length = 0)
 else if c.kind = 1 then decide (c.kids.length = 0) && rowsOk c.rows
 else if c.kind = 2 then decide (c.rows.length = 0) && (decide (1 < c.kids.length) && kidsOk c.kids)
 else false
theorem XE (ρ : Hp) (v : CV) (c : XX) (h : CIn ρ v c.rows c.kids) : Spec Tryz.prog 224 [.agg ⟨Wy c.kind v⟩] ρ [] (fun r ρ' L' => r = .int .i64 (if ZG c then 0 else 160) ∧ ρ' = ρ ∧ L' = []) := by
 obtain ⟨kind, rows, kids⟩ := c
 obtain ⟨ra, rn, rc, ka, kn, kc⟩ := v
 obtain ⟨hr, hk, hrb, hkb, _, _⟩ := h
 dsimp only at hr hk hrb hkb
 have hrl := hr.len
 have hkl := hk.len
 have hrs := leafc_spec ρ ra rn rc rows hr hrb
 have hks := innerc_spec ρ ka kn kc kids hk hkb
 generalize hq : ZG ⟨kind, rows, kids⟩ = q
 unfold ZG at hq
 simp only [hrl, hkl] at hq
 refine Za Tryz.func224 rfl rfl rfl fun u R => ?_
 simp only [Zf, kA]
 by_cases k0 : kind = 0
 ·rw [if_pos k0] at hq
  by_cases hz : rn + kn = 0
  ·rw [decide_eq_true hz] at hq
   subst hq
   repeat' (first | refine zW ?_ | intro _)
   exact qE ⟨rfl, rfl, rfl⟩
  ·rw [decide_eq_false hz] at hq
   subst hq
   repeat' (first | refine zW ?_ | intro _)
   exact qE ⟨rfl, rfl, rfl⟩
 ·rw [if_neg k0] at hq
  by_cases k1 : kind = 1
  ·rw [if_pos k1] at hq
   by_cases hz : kn = 0
   ·rw [decide_eq_true hz, Bool.true_and] at hq
    rw [hq] at hrs
    cases q
    all_goals (repeat' (first | (refine Zb (.func 266) ?_; refine qR rfl rfl (hrs) ?_; try simp only [kA]) | refine zW ?_ | intro _))
    all_goals exact qE ⟨rfl, rfl, rfl⟩
   ·rw [decide_eq_false hz, Bool.false_and] at hq
    subst hq
    repeat' (first | refine zW ?_ | intro _)
    exact qE ⟨rfl, rfl, rfl⟩
  ·rw [if_neg k1] at hq
   by_cases k2 : kind = 2
   ·rw [if_pos k2] at hq
    by_cases hz : rn = 0
    ·rw [decide_eq_true hz, Bool.true_and] at hq
     rw [hq] at hks
     cases q
     all_goals (repeat' (first | (refine Zb (.func 267) ?_; refine qR rfl rfl (hks) ?_; try simp only [kA]) | refine zW ?_ | intro _))
     all_goals exact qE ⟨rfl, rfl, rfl⟩
    ·rw [decide_eq_false hz, Bool.false_and] at hq
     subst hq
     repeat' (first | refine zW ?_ | intro _)
     exact qE ⟨rfl, rfl, rfl⟩
   ·rw [if_neg k2] at hq
    subst hq
    repeat' (first | refine zW ?_ | intro _)
    exact qE ⟨rfl, rfl, rfl⟩
def Xj {α : Type} (f : List UInt8 → Int → Bool → α × ZX) : Nat → List UInt8 → Int → Bool → List α × ZX
 | 0, l, st, bad => ([], l, st, bad)
 | n + 1, l, st, bad => if !bad && decide (st = 0) then ((f l st bad).1 :: (Xj f n (f l st bad).2.1 (f l st bad).2.2.1 (f l st bad).2.2.2).1, (Xj f n (f l st bad).2.1 (f l st bad).2.2.1 (f l st bad).2.2.2).2) else ([], l, st, bad)
theorem manyTo_stop {α : Type} {f : List UInt8 → Int → Bool → α × ZX} {n : Nat} {l : List UInt8} {st : Int} {bad : Bool} (h : (!bad && decide (st = 0)) = false) : Xj f n l st bad = ([], l, st, bad) := by
 cases n with
 | zero => rfl
 | succ n => rw [Xj, h]; rfl
def YE {α : Type} (f : List UInt8 → Int → Bool → α × ZX) (l : List UInt8) (st : Int) (bad : Bool) : List α × ZX :=
 Xj f (ZW 1 l st).1 (ZW 1 l st).2.1 (ZW 1 l st).2.2 (Xg bad (ZW 1 l st).2.2 (decide (((ZW 1 l st).1 : Int) ≤ 4)))
theorem manyRow_spec (ρ : Hp) (bt br : Nat) (all : Int) (bad : Bool) (vk vr vs : Value) (a : Option Addr) (n c : Nat) (l : List UInt8) (h : SIn ρ Zo a n l) (hc : n ≤ c) (st : Int) :
  Spec Tryz.prog 303 [.pointer (some ⟨bt, 0, none⟩), .int .i64 4, .func (.func 247) ⟨[.pointer (some ⟨bt, 0, none⟩)]⟩ ⟨[]⟩] ρ [tkC bt br all bad vk vr vs, rdC br a n c st]
   (fun v ρ' L' => ρ.le ρ' ∧ ∃ sa sn sc a' n' c', v = .slice sa sn sc ∧ sn ≤ sc ∧ sn ≤ 255 ∧ AIn ρ' 4 Yi sa sn (YE XR l st bad).1 ∧ SIn ρ' Zo a' n' (YE XR l st bad).2.1 ∧ n' ≤ c' ∧ L' = [tkC bt br all (YE XR l st bad).2.2.2 vk vr vs, rdC br a' n' c' (YE XR l st bad).2.2.1]) := by
 have hn1 := u8_spec ρ br a n c l h hc st
 have hb1 := XG 1 l st
 generalize hq : YE XR l st bad = q
 unfold YE at hq
 generalize ZW 1 l st = r1 at *
 obtain ⟨x1, l1, st1⟩ := r1
 dsimp only at hq hn1 hb1
 have hb255 : x1 < 256 := by simpa using hb1
 generalize hB1 : Xg bad st1 (decide ((x1 : Int) ≤ 4)) = b1 at *
 refine Za Tryz.func303 rfl rfl rfl fun u R => ?_
 simp only [Zf, kA]
 repeat' (first | (refine Zb (.func 140) ?_; refine qC rfl rfl (hn1) ?_; rintro v ρ' L' hle ⟨rfl, rfl, a1, n1, c1, h1, hc1, rfl⟩ <;> (try simp only [kA])) | (refine Zb (.func 277) ?_; refine qC rfl rfl (YT _ bt br all bad vk vr vs a1 n1 c1 st1 (decide ((x1 : Int) ≤ 4))) ?_; rintro v ρ' L' hle ⟨rfl, rfl, rfl⟩ <;> (try simp only [kA, hB1])) | refine zW ?_ | intro _)
 refine Zm [(0, _), (2, _), (6, _), (7, _)] (fun (ζ : (Nat) × (Hp) × (Value) × (List Value) × (List Row) × (Option Addr) × (Nat) × (Nat) × (List UInt8) × (Int) × (Bool)) => [(9, .int .i64 ζ.1), (8, ζ.2.2.1)]) (fun (ζ : (Nat) × (Hp) × (Value) × (List Value) × (List Row) × (Option Addr) × (Nat) × (Nat) × (List UInt8) × (Int) × (Bool)) => ζ.2.1) (fun (ζ : (Nat) × (Hp) × (Value) × (List Value) × (List Row) × (Option Addr) × (Nat) × (Nat) × (List UInt8) × (Int) × (Bool)) => [Zw ζ.2.2.1 ((ζ.2.2.2.2.1.map Yi).flatten) ζ.2.2.2.1 131, tkC bt br all ζ.2.2.2.2.2.2.2.2.2.2 vk vr vs, rdC br ζ.2.2.2.2.2.1 ζ.2.2.2.2.2.2.1 ζ.2.2.2.2.2.2.2.1 ζ.2.2.2.2.2.2.2.2.2.1]) (fun (ζ : (Nat) × (Hp) × (Value) × (List Value) × (List Row) × (Option Addr) × (Nat) × (Nat) × (List UInt8) × (Int) × (Bool)) => ζ.1 ≤ x1 ∧ ρ'.le ζ.2.1 ∧ OwnS ζ.2.2.1 ζ.1 ((ζ.2.2.2.2.1.map Yi).flatten) ζ.2.2.2.1 4 ∧ ζ.2.2.2.2.1.length = ζ.1 ∧ SIn ζ.2.1 Zo ζ.2.2.2.2.2.1 ζ.2.2.2.2.2.2.1 ζ.2.2.2.2.2.2.2.2.1 ∧ ζ.2.2.2.2.2.2.1 ≤ ζ.2.2.2.2.2.2.2.1 ∧ q = (ζ.2.2.2.2.1 ++ (Xj XR (x1 - ζ.1) ζ.2.2.2.2.2.2.2.2.1 ζ.2.2.2.2.2.2.2.2.2.1 ζ.2.2.2.2.2.2.2.2.2.2).1, (Xj XR (x1 - ζ.1) ζ.2.2.2.2.2.2.2.2.1 ζ.2.2.2.2.2.2.2.2.2.1 ζ.2.2.2.2.2.2.2.2.2.2).2)) (fun (ζ : (Nat) × (Hp) × (Value) × (List Value) × (List Row) × (Option Addr) × (Nat) × (Nat) × (List UInt8) × (Int) × (Bool)) => x1 - ζ.1) ((0, ρ', .slice none 0 0, [], [], a1, n1, c1, l1, st1, b1)) (⟨Nat.zero_le _, Hp.le_refl _, OwnS.nil 4, rfl, h1, hc1, by simp [hq]⟩) Zc Zc rfl tk ?_
 rintro ⟨i, ρ1, v, sp, acc, a2, n2, c2, l2, st2, bad2⟩ hI
 try simp only [kA, List.append_assoc] at hI ⊢
 try dsimp only at hI ⊢
 obtain ⟨hi, hle1, hown, hal, h2, hc2, hq2⟩ := hI
 obtain ⟨va, vc, rfl, _⟩ := hown.len
 have hg : ∀ x ∈ acc, (Yi x).length = 4 := fun x _ => rowV_len x
 by_cases hlt : i < x1
 ·cases hok : (!bad2 && decide (st2 = 0))
  ·rw [manyTo_stop hok] at hq2
   simp only [List.append_nil] at hq2
   subst hq2
   repeat' (first | (refine Zb (.func 280) ?_; refine qC rfl rfl (ok_spec _ bt br all bad2 vk vr vs a2 n2 c2 st2) ?_; rintro v ρ' L' hle ⟨rfl, rfl, rfl⟩ <;> (try simp only [kA, hok])) | refine zW ?_ | intro _)
   refine Yb (Zw (.slice va i vc) ((acc.map Yi).flatten) sp 131) (fun ρ3 hle3 hfz => ?_)
   obtain ⟨sa, sc, e1, hsc, hA⟩ := hown.aIn hal hg hfz
   cases e1
   exact qE ⟨Hp.le_trans hle1 hle3, _, _, _, a2, n2, c2, rfl, hsc, by omega, hA, h2.mono hle3, hc2, rfl⟩
  ·rw [show x1 - i = (x1 - (i + 1)) + 1 by omega, Xj, if_pos hok] at hq2
   have hrow := fun ρ h => trow_spec ρ bt br all bad2 vk vr vs a2 n2 c2 l2 h hc2 st2
   generalize XR l2 st2 bad2 = r at *
   obtain ⟨x, l3, st3, bad3⟩ := r
   dsimp only at hq2 hrow
   repeat' (first | (refine Zb (.func 280) ?_; refine qC rfl rfl (ok_spec _ bt br all bad2 vk vr vs a2 n2 c2 st2) ?_; rintro v ρ' L' hle ⟨rfl, rfl, rfl⟩ <;> (try simp only [kA, hok])) | (refine Zb (.tmp 31) ?_; refine qC rfl rfl (hrow _ h2) ?_; rintro v ρ' L' hle ⟨rfl, hle3, a3, n3, c3, h3, hc3, rfl⟩ <;> (try simp only [kA])) | refine zW ?_ | intro _)
   refine Yz (css := [Yi x]) (sz := 4) rfl rfl rfl rfl (by simp) (by simp) rfl (fun bs => ?_)
   simp only [List.flatten_cons, List.flatten_nil, List.append_nil]
   refine Yk (ys := Yi x) (m := 1) rfl rfl hown (hR := by infer_instance) (SrcV.lit) rfl rfl (by decide) rfl (by omega) (by omega) rfl (fun v' sp' hown' => ?_)
   have hm : (acc.map Yi).flatten ++ Yi x = ((acc ++ [x]).map Yi).flatten := by simp
   rw [hm] at hown' ⊢
   repeat' (first | refine zW ?_ | intro _)
   refine Zi (i + 1, _, v', sp', acc ++ [x], a3, n3, c3, l3, st3, bad3) (⟨hlt, Hp.le_trans hle1 hle3, hown', by simp [hal], h3, hc3, by rw [hq2]; simp⟩) Zc Zc rfl tk inferInstance (by first | omega | (dsimp only; omega))
 ·have hi2 : i = x1 := by omega
  subst hi2
  rw [Nat.sub_self, Xj] at hq2
  simp only [List.append_nil] at hq2
  subst hq2
  repeat' (first | refine zW ?_ | intro _)
  refine Yb (Zw (.slice va i vc) ((acc.map Yi).flatten) sp 131) (fun ρ3 hle3 hfz => ?_)
  obtain ⟨sa, sc, e1, hsc, hA⟩ := hown.aIn hal hg hfz
  cases e1
  exact qE ⟨Hp.le_trans hle1 hle3, _, _, _, a2, n2, c2, rfl, hsc, by omega, hA, h2.mono hle3, hc2, rfl⟩
def Xv (l : List UInt8) (st : Int) (bad : Bool) : Kid × ZX := ((kidR l st).1, (kidR l st).2.1, (kidR l st).2.2, bad)
theorem tkidB_spec (ρ : Hp) (bt br : Nat) (all : Int) (bad : Bool) (vk vr vs : Value) (a : Option Addr) (n c : Nat) (l : List UInt8) (h : SIn ρ Zo a n l) (hc : n ≤ c) (st : Int) :
  Spec Tryz.prog 305 [.pointer (some ⟨bt, 0, none⟩)] ρ [tkC bt br all bad vk vr vs, rdC br a n c st]
   (fun v ρ' L' => v = .agg ⟨Xi (Xv l st bad).1⟩ ∧ ρ.le ρ' ∧ ∃ a' n' c', SIn ρ' Zo a' n' (Xv l st bad).2.1 ∧ n' ≤ c' ∧ L' = [tkC bt br all (Xv l st bad).2.2.2 vk vr vs, rdC br a' n' c' (Xv l st bad).2.2.1]) := by
 refine (tkid_spec ρ bt br all bad vk vr vs a n c l h hc st).mono ?_
 rintro v ρ' L' hle ⟨h1, h2, h3⟩
 exact ⟨h1, hle, h3⟩
theorem manyKid_spec (ρ : Hp) (bt br : Nat) (all : Int) (bad : Bool) (vk vr vs : Value) (a : Option Addr) (n c : Nat) (l : List UInt8) (h : SIn ρ Zo a n l) (hc : n ≤ c) (st : Int) :
  Spec Tryz.prog 304 [.pointer (some ⟨bt, 0, none⟩), .int .i64 4, .func (.func 305) ⟨[.pointer (some ⟨bt, 0, none⟩)]⟩ ⟨[]⟩] ρ [tkC bt br all bad vk vr vs, rdC br a n c st]
   (fun v ρ' L' => ρ.le ρ' ∧ ∃ sa sn sc a' n' c', v = .slice sa sn sc ∧ sn ≤ sc ∧ sn ≤ 255 ∧ AIn ρ' 3 Xi sa sn (YE Xv l st bad).1 ∧ SIn ρ' Zo a' n' (YE Xv l st bad).2.1 ∧ n' ≤ c' ∧ L' = [tkC bt br all (YE Xv l st bad).2.2.2 vk vr vs, rdC br a' n' c' (YE Xv l st bad).2.2.1]) := by
 have hn1 := u8_spec ρ br a n c l h hc st
 have hb1 := XG 1 l st
 generalize hq : YE Xv l st bad = q
 unfold YE at hq
 generalize ZW 1 l st = r1 at *
 obtain ⟨x1, l1, st1⟩ := r1
 dsimp only at hq hn1 hb1
 have hb255 : x1 < 256 := by simpa using hb1
 generalize hB1 : Xg bad st1 (decide ((x1 : Int) ≤ 4)) = b1 at *
 refine Za Tryz.func304 rfl rfl rfl fun u R => ?_
 simp only [Zf, kA]
 repeat' (first | (refine Zb (.func 140) ?_; refine qC rfl rfl (hn1) ?_; rintro v ρ' L' hle ⟨rfl, rfl, a1, n1, c1, h1, hc1, rfl⟩ <;> (try simp only [kA])) | (refine Zb (.func 277) ?_; refine qC rfl rfl (YT _ bt br all bad vk vr vs a1 n1 c1 st1 (decide ((x1 : Int) ≤ 4))) ?_; rintro v ρ' L' hle ⟨rfl, rfl, rfl⟩ <;> (try simp only [kA, hB1])) | refine zW ?_ | intro _)
 refine Zm [(0, _), (2, _), (6, _), (7, _)] (fun (ζ : (Nat) × (Hp) × (Value) × (List Value) × (List Kid) × (Option Addr) × (Nat) × (Nat) × (List UInt8) × (Int) × (Bool)) => [(9, .int .i64 ζ.1), (8, ζ.2.2.1)]) (fun (ζ : (Nat) × (Hp) × (Value) × (List Value) × (List Kid) × (Option Addr) × (Nat) × (Nat) × (List UInt8) × (Int) × (Bool)) => ζ.2.1) (fun (ζ : (Nat) × (Hp) × (Value) × (List Value) × (List Kid) × (Option Addr) × (Nat) × (Nat) × (List UInt8) × (Int) × (Bool)) => [Zw ζ.2.2.1 ((ζ.2.2.2.2.1.map Xi).flatten) ζ.2.2.2.1 212, tkC bt br all ζ.2.2.2.2.2.2.2.2.2.2 vk vr vs, rdC br ζ.2.2.2.2.2.1 ζ.2.2.2.2.2.2.1 ζ.2.2.2.2.2.2.2.1 ζ.2.2.2.2.2.2.2.2.2.1]) (fun (ζ : (Nat) × (Hp) × (Value) × (List Value) × (List Kid) × (Option Addr) × (Nat) × (Nat) × (List UInt8) × (Int) × (Bool)) => ζ.1 ≤ x1 ∧ ρ'.le ζ.2.1 ∧ OwnS ζ.2.2.1 ζ.1 ((ζ.2.2.2.2.1.map Xi).flatten) ζ.2.2.2.1 3 ∧ ζ.2.2.2.2.1.length = ζ.1 ∧ SIn ζ.2.1 Zo ζ.2.2.2.2.2.1 ζ.2.2.2.2.2.2.1 ζ.2.2.2.2.2.2.2.2.1 ∧ ζ.2.2.2.2.2.2.1 ≤ ζ.2.2.2.2.2.2.2.1 ∧ q = (ζ.2.2.2.2.1 ++ (Xj Xv (x1 - ζ.1) ζ.2.2.2.2.2.2.2.2.1 ζ.2.2.2.2.2.2.2.2.2.1 ζ.2.2.2.2.2.2.2.2.2.2).1, (Xj Xv (x1 - ζ.1) ζ.2.2.2.2.2.2.2.2.1 ζ.2.2.2.2.2.2.2.2.2.1 ζ.2.2.2.2.2.2.2.2.2.2).2)) (fun (ζ : (Nat) × (Hp) × (Value) × (List Value) × (List Kid) × (Option Addr) × (Nat) × (Nat) × (List UInt8) × (Int) × (Bool)) => x1 - ζ.1) ((0, ρ', .slice none 0 0, [], [], a1, n1, c1, l1, st1, b1)) (⟨Nat.zero_le _, Hp.le_refl _, OwnS.nil 3, rfl, h1, hc1, by simp [hq]⟩) Zc Zc rfl tk ?_
 rintro ⟨i, ρ1, v, sp, acc, a2, n2, c2, l2, st2, bad2⟩ hI
 try simp only [kA, List.append_assoc] at hI ⊢
 try dsimp only at hI ⊢
 obtain ⟨hi, hle1, hown, hal, h2, hc2, hq2⟩ := hI
 obtain ⟨va, vc, rfl, _⟩ := hown.len
 have hg : ∀ x ∈ acc, (Xi x).length = 3 := fun x _ => kidV_len x
 by_cases hlt : i < x1
 ·cases hok : (!bad2 && decide (st2 = 0))
  ·rw [manyTo_stop hok] at hq2
   simp only [List.append_nil] at hq2
   subst hq2
   repeat' (first | (refine Zb (.func 280) ?_; refine qC rfl rfl (ok_spec _ bt br all bad2 vk vr vs a2 n2 c2 st2) ?_; rintro v ρ' L' hle ⟨rfl, rfl, rfl⟩ <;> (try simp only [kA, hok])) | refine zW ?_ | intro _)
   refine Yb (Zw (.slice va i vc) ((acc.map Xi).flatten) sp 212) (fun ρ3 hle3 hfz => ?_)
   obtain ⟨sa, sc, e1, hsc, hA⟩ := hown.aIn hal hg hfz
   cases e1
   exact qE ⟨Hp.le_trans hle1 hle3, _, _, _, a2, n2, c2, rfl, hsc, by omega, hA, h2.mono hle3, hc2, rfl⟩
  ·rw [show x1 - i = (x1 - (i + 1)) + 1 by omega, Xj, if_pos hok] at hq2
   have hrow := fun ρ h => tkidB_spec ρ bt br all bad2 vk vr vs a2 n2 c2 l2 h hc2 st2
   generalize Xv l2 st2 bad2 = r at *
   obtain ⟨x, l3, st3, bad3⟩ := r
   dsimp only at hq2 hrow
   repeat' (first | (refine Zb (.func 280) ?_; refine qC rfl rfl (ok_spec _ bt br all bad2 vk vr vs a2 n2 c2 st2) ?_; rintro v ρ' L' hle ⟨rfl, rfl, rfl⟩ <;> (try simp only [kA, hok])) | (refine Zb (.tmp 31) ?_; refine qC rfl rfl (hrow _ h2) ?_; rintro v ρ' L' hle ⟨rfl, hle3, a3, n3, c3, h3, hc3, rfl⟩ <;> (try simp only [kA])) | refine zW ?_ | intro _)
   refine Yz (css := [Xi x]) (sz := 3) rfl rfl rfl rfl (by simp) (by simp) rfl (fun bs => ?_)
   simp only [List.flatten_cons, List.flatten_nil, List.append_nil]
   refine Yk (ys := Xi x) (m := 1) rfl rfl hown (hR := by infer_instance) (SrcV.lit) rfl rfl (by decide) rfl (by omega) (by omega) rfl (fun v' sp' hown' => ?_)
   have hm : (acc.map Xi).flatten ++ Xi x = ((acc ++ [x]).map Xi).flatten := by simp
   rw [hm] at hown' ⊢
   repeat' (first | refine zW ?_ | intro _)
   refine Zi (i + 1, _, v', sp', acc ++ [x], a3, n3, c3, l3, st3, bad3) (⟨hlt, Hp.le_trans hle1 hle3, hown', by simp [hal], h3, hc3, by rw [hq2]; simp⟩) Zc Zc rfl tk inferInstance (by first | omega | (dsimp only; omega))
 ·have hi2 : i = x1 := by omega
  subst hi2
  rw [Nat.sub_self, Xj] at hq2
  simp only [List.append_nil] at hq2
  subst hq2
  repeat' (first | refine zW ?_ | intro _)
  refine Yb (Zw (.slice va i vc) ((acc.map Xi).flatten) sp 212) (fun ρ3 hle3 hfz => ?_)
  obtain ⟨sa, sc, e1, hsc, hA⟩ := hown.aIn hal hg hfz
  cases e1
  exact qE ⟨Hp.le_trans hle1 hle3, _, _, _, a2, n2, c2, rfl, hsc, by omega, hA, h2.mono hle3, hc2, rfl⟩
theorem tleaf_spec (ρ : Hp) (bt br : Nat) (all : Int) (bad : Bool) (vk vr vs : Value) (h1 : vk.oneCell' = true) (h2 : vr.oneCell' = true) (h3 : vs.oneCell' = true) (a : Option Addr) (n c : Nat) (l : List UInt8) (h : SIn ρ Zo a n l) (hc : n ≤ c) (st : Int) :
  Spec Tryz.prog 278 [.pointer (some ⟨bt, 0, none⟩)] ρ [tkC bt br all bad vk vr vs, rdC br a n c st]
   (fun v ρ' L' => v = .tuple ⟨[]⟩ ∧ ρ.le ρ' ∧ ∃ sa sn sc a' n' c', sn ≤ sc ∧ sn ≤ 255 ∧ AIn ρ' 4 Yi sa sn (YE XR l st bad).1 ∧ SIn ρ' Zo a' n' (YE XR l st bad).2.1 ∧ n' ≤ c' ∧ L' = [tkC bt br all (YE XR l st bad).2.2.2 vk (.slice sa sn sc) vs, rdC br a' n' c' (YE XR l st bad).2.2.1]) := by
 have hm := manyRow_spec ρ bt br all bad vk vr vs a n c l h hc st
 refine Za Tryz.func278 rfl rfl rfl fun u R => ?_
 simp only [Zf, kA]
 repeat' (first | (refine Zb (.func 303) ?_; refine qC rfl rfl (hm) ?_; rintro v ρ' L' hle ⟨hle1, sa, sn, sc, a', n', c', rfl, q1, q2, q3, q4, q5, rfl⟩ <;> (try simp only [kA])) | refine zW ?_ | intro _)
 exact qE ⟨rfl, hle1, sa, sn, sc, a', n', c', q1, q2, q3, q4, q5, rfl⟩
theorem tinner_spec (ρ : Hp) (bt br : Nat) (all : Int) (bad : Bool) (vk vr vs : Value) (h1 : vk.oneCell' = true) (h2 : vr.oneCell' = true) (h3 : vs.oneCell' = true) (a : Option Addr) (n c : Nat) (l : List UInt8) (h : SIn ρ Zo a n l) (hc : n ≤ c) (st : Int) :
  Spec Tryz.prog 279 [.pointer (some ⟨bt, 0, none⟩)] ρ [tkC bt br all bad vk vr vs, rdC br a n c st]
   (fun v ρ' L' => v = .tuple ⟨[]⟩ ∧ ρ.le ρ' ∧ ∃ sa sn sc a' n' c', sn ≤ sc ∧ sn ≤ 255 ∧ AIn ρ' 3 Xi sa sn (YE Xv l st bad).1 ∧ SIn ρ' Zo a' n' (YE Xv l st bad).2.1 ∧ n' ≤ c' ∧ L' = [tkC bt br all (YE Xv l st bad).2.2.2 vk vr (.slice sa sn sc), rdC br a' n' c' (YE Xv l st bad).2.2.1]) := by
 have hm := manyKid_spec ρ bt br all bad vk vr vs a n c l h hc st
 refine Za Tryz.func279 rfl rfl rfl fun u R => ?_
 simp only [Zf, kA]
 repeat' (first | (refine Zb (.func 304) ?_; refine qC rfl rfl (hm) ?_; rintro v ρ' L' hle ⟨hle1, sa, sn, sc, a', n', c', rfl, q1, q2, q3, q4, q5, rfl⟩ <;> (try simp only [kA])) | refine zW ?_ | intro _)
 exact qE ⟨rfl, hle1, sa, sn, sc, a', n', c', q1, q2, q3, q4, q5, rfl⟩
end Go.Proofs.E
namespace Go.Proofs.E
open Go
set_option linter.unusedVariables false
set_option linter.unusedSimpArgs false
set_option linter.unusedSectionVars false
set_option maxRecDepth 4000
set_option maxHeartbeats 1000000
attribute [local irreducible] Yl TL TC TE Spec ZN R1 Hp.le EnvLe TS TR YS Zp TP QP
theorem from_spec (ρ : Hp) (a : Option Addr) (n c : Nat) (l : List UInt8) (h : SIn ρ Zo a n l) (hn : n ≤ 1000000) :
  Spec Tryz.prog 243 [.slice a n c] ρ [] (fun v ρ' L' => ρ.le ρ' ∧ ∃ bt br a' c', v = .pointer (some ⟨bt, 0, none⟩) ∧ n ≤ c' ∧ SIn ρ' Zo a' n l ∧ L' = [tkC bt br n false (.int .i64 0) (.slice none 0 0) (.slice none 0 0), rdC br a' n c' 0]) := by
 have hr := read_spec ρ a n c l h hn
 refine Za Tryz.func243 rfl rfl rfl fun u R => ?_
 simp only [Zf, kA]
 repeat' (first | (refine Zb (.func 139) ?_; refine qC rfl rfl (hr) ?_; rintro v ρ' L' hle ⟨hle, br, a', c', rfl, hc', hs, rfl⟩ <;> (try simp only [kA])) | refine zW ?_ | intro _)
 exact qE ⟨hle, _, br, a', c', rfl, hc', hs, rfl⟩
def takenN (all : Int) (left : Nat) (bad : Bool) (st : Int) : Int := if bad then 0 else if st ≠ 0 then 0 else all - left
def takenE (bad : Bool) (st : Int) : Int := if bad then 161 else st
theorem takenRow_spec (ρ : Hp) (bt br : Nat) (all : Nat) (hall : all ≤ 1000000) (bad : Bool) (vk vr vs : Value) (a : Option Addr) (n c : Nat) (st : Int) (r : Row) (hn : n ≤ all) :
  Spec Tryz.prog 246 [.pointer (some ⟨bt, 0, none⟩), .agg ⟨Yi r⟩] ρ [tkC bt br all bad vk vr vs, rdC br a n c st]
   (fun v ρ' L' => v = .tuple ⟨[.agg ⟨Yi (if bad || decide (st ≠ 0) then ⟨0, 0, 0, []⟩ else r)⟩, .int .i64 (takenN all n bad st), .int .i64 (takenE bad st)]⟩ ∧ ρ' = ρ ∧ L' = []) := by
 refine Za Tryz.func246 rfl rfl rfl fun u R => ?_
 simp only [Zf, kA, takenN, takenE]
 cases bad
 ·by_cases h : st = 0
  ·subst h
   simp only [Bool.false_or, ne_eq, not_true_eq_false, decide_false, Bool.false_eq_true, if_false]
   repeat' (first | (refine Zb (.func 204) ?_; refine qR rfl rfl (Xc _ br a n c 0) ?_; try simp only [kA]) | refine zW ?_ | intro _)
   rename_i b3 b4 b7
   refine tpA [0,1,2,3,4,5,6,7,8] (.e 9 [10] (.e 11 [] (.f [12,13] .o))) ([tkC bt br all false vk vr vs, [(b3, .cells ⟨Yi r⟩ 131 (0, 0))]]) ?_
   repeat' (refine iT ?_; first | refine rA ?_ | ((refine iE ?_; refine rE ?_) <;> ((try refine Zr ?_); (first | (refine Zb (.func 149) ?_; refine qR rfl rfl (Wo _ br a n c 0) ?_; try simp only [kA]) | (refine qEf ?_; try intro _)) <;> ((try simp only [kA]); refine Zj ?_; refine rN ?_))))
   repeat' (first | refine zW ?_ | intro _)
   exact qE ⟨rfl, rfl, rfl⟩
  ·simp only [Bool.false_or, ne_eq, h, not_false_eq_true, decide_true, if_true, Bool.false_eq_true, if_false]
   repeat' (first | (refine Zb (.func 204) ?_; refine qR rfl rfl (Xc _ br a n c st) ?_; try simp only [kA]) | refine zW ?_ | intro _)
   rename_i b3 b4 b7
   refine tpA [0,1,2,3,4] (.e 5 [] (.e 6 [] (.f [7,8] .o))) ([tkC bt br all false vk vr vs, [(b7, .cells ⟨Yi ⟨0, 0, 0, []⟩⟩ 131 (0, 0))]]) ?_
   repeat' (refine iT ?_; first | refine rA ?_ | ((refine iE ?_; refine rE ?_) <;> ((try refine Zr ?_); (first | (refine Zb (.func 204) ?_; refine qR rfl rfl (Xc _ br a n c st) ?_; try simp only [kA]) | (refine qEf ?_; try intro _)) <;> ((try simp only [kA]); refine Zj ?_; refine rN ?_))))
   repeat' (first | refine zW ?_ | intro _)
   exact qE ⟨rfl, rfl, rfl⟩
 ·simp only [Bool.true_or, if_true]
  repeat' (first | refine zW ?_ | intro _)
  exact qE ⟨rfl, rfl, rfl⟩
theorem takenCont_spec (ρ : Hp) (bt br : Nat) (all : Nat) (hall : all ≤ 1000000) (bad : Bool) (vk vr vs : Value) (a : Option Addr) (n c : Nat) (st : Int) (k : Int) (w : CV) (hn : n ≤ all) :
  Spec Tryz.prog 244 [.pointer (some ⟨bt, 0, none⟩), .agg ⟨Wy k w⟩] ρ [tkC bt br all bad vk vr vs, rdC br a n c st]
   (fun v ρ' L' => v = .tuple ⟨[.agg ⟨if bad || decide (st ≠ 0) then Wy 0 ⟨none, 0, 0, none, 0, 0⟩ else Wy k w⟩, .int .i64 (takenN all n bad st), .int .i64 (takenE bad st)]⟩ ∧ ρ' = ρ ∧ L' = []) := by
 refine Za Tryz.func244 rfl rfl rfl fun u R => ?_
 simp only [Zf, kA, takenN, takenE]
 cases bad
 ·by_cases h : st = 0
  ·subst h
   simp only [Bool.false_or, ne_eq, not_true_eq_false, decide_false, Bool.false_eq_true, if_false]
   repeat' (first | (refine Zb (.func 204) ?_; refine qR rfl rfl (Xc _ br a n c 0) ?_; try simp only [kA]) | refine zW ?_ | intro _)
   rename_i b3 b4 b7
   refine tpA [0,1,2,3,4,5,6,7,8] (.e 9 [10] (.e 11 [] (.f [12,13] .o))) ([tkC bt br all false vk vr vs, [(b3, .cells ⟨Wy k w⟩ 104 (0, 0))]]) ?_
   repeat' (refine iT ?_; first | refine rA ?_ | ((refine iE ?_; refine rE ?_) <;> ((try refine Zr ?_); (first | (refine Zb (.func 149) ?_; refine qR rfl rfl (Wo _ br a n c 0) ?_; try simp only [kA]) | (refine qEf ?_; try intro _)) <;> ((try simp only [kA]); refine Zj ?_; refine rN ?_))))
   repeat' (first | refine zW ?_ | intro _)
   exact qE ⟨rfl, rfl, rfl⟩
  ·simp only [Bool.false_or, ne_eq, h, not_false_eq_true, decide_true, if_true, Bool.false_eq_true, if_false]
   repeat' (first | (refine Zb (.func 204) ?_; refine qR rfl rfl (Xc _ br a n c st) ?_; try simp only [kA]) | refine zW ?_ | intro _)
   rename_i b3 b4 b7
   refine tpA [0,1,2,3,4] (.e 5 [] (.e 6 [] (.f [7,8] .o))) ([tkC bt br all false vk vr vs, [(b7, .cells ⟨Wy 0 ⟨none, 0, 0, none, 0, 0⟩⟩ 104 (0, 0))]]) ?_
   repeat' (refine iT ?_; first | refine rA ?_ | ((refine iE ?_; refine rE ?_) <;> ((try refine Zr ?_); (first | (refine Zb (.func 204) ?_; refine qR rfl rfl (Xc _ br a n c st) ?_; try simp only [kA]) | (refine qEf ?_; try intro _)) <;> ((try simp only [kA]); refine Zj ?_; refine rN ?_))))
   repeat' (first | refine zW ?_ | intro _)
   exact qE ⟨rfl, rfl, rfl⟩
 ·simp only [Bool.true_or, if_true]
  repeat' (first | refine zW ?_ | intro _)
  exact qE ⟨rfl, rfl, rfl⟩
end Go.Proofs.E
namespace Go.Proofs.E
open Go
set_option linter.unusedVariables false
set_option linter.unusedSimpArgs false
set_option linter.unusedSectionVars false
set_option maxRecDepth 4000
set_option maxHeartbeats 1000000
attribute [local irreducible] Yl TL TC TE Spec ZN R1 Hp.le EnvLe TS TR YS Zp
def Ww (x1 : Nat) (l1 : List UInt8) (st1 : Int) (b1 : Bool) : (List Row × List Kid) × ZX :=
 if !b1 && decide (st1 = 0) then
  if x1 = 1 then (((YE XR l1 st1 b1).1, []), (YE XR l1 st1 b1).2)
  else if x1 = 2 then (([], (YE Xv l1 st1 b1).1), (YE Xv l1 st1 b1).2)
  else (([], []), l1, st1, b1)
 else (([], []), l1, st1, b1)
def contE (x1 : Nat) (m : (List Row × List Kid) × ZX) : XX × ZX := (⟨x1, m.1.1, m.1.2⟩, m.2.1, m.2.2.1, Xg m.2.2.2 m.2.2.1 (ZG ⟨x1, m.1.1, m.1.2⟩))
def Yp (l : List UInt8) : XX × ZX :=
 contE (ZW 1 l 0).1 (Ww (ZW 1 l 0).1 (ZW 1 l 0).2.1 (ZW 1 l 0).2.2 (Xg false (ZW 1 l 0).2.2 (decide (((ZW 1 l 0).1 : Int) ≤ 2))))
theorem CIn.nil {ρ : Hp} : CIn ρ ⟨none, 0, 0, none, 0, 0⟩ [] [] := ⟨AIn.nil, AIn.nil, by decide, by decide, by decide, by decide⟩
theorem content_spec (ρ : Hp) (bt br : Nat) (all : Int) (a : Option Addr) (n c : Nat) (l : List UInt8) (h : SIn ρ Zo a n l) (hc : n ≤ c) :
  Spec Tryz.prog 245 [.pointer (some ⟨bt, 0, none⟩)] ρ [tkC bt br all false (.int .i64 0) (.slice none 0 0) (.slice none 0 0), rdC br a n c 0]
   (fun v ρ' L' => ρ.le ρ' ∧ ∃ w a' n' c', v = .agg ⟨Wy (Yp l).1.kind w⟩ ∧ CIn ρ' w (Yp l).1.rows (Yp l).1.kids ∧ SIn ρ' Zo a' n' (Yp l).2.1 ∧ n' ≤ c' ∧
    L' = [tkC bt br all (Yp l).2.2.2 (.int .i64 (Yp l).1.kind) (.slice w.ra w.rn w.rc) (.slice w.ka w.kn w.kc), rdC br a' n' c' (Yp l).2.2.1]) := by
 have hn1 := u8_spec ρ br a n c l h hc 0
 have hb1 := XG 1 l 0
 generalize hq : Yp l = q
 unfold Yp at hq
 generalize ZW 1 l 0 = r1 at *
 obtain ⟨x1, l1, st1⟩ := r1
 dsimp only at hq hn1 hb1
 generalize hB1 : Xg false st1 (decide ((x1 : Int) ≤ 2)) = b1 at *
 have hnil : Yu .i64 [] := by intro e he; simp at he
 have hg0 : ∀ k : Int, YM [] k = none := fun _ => rfl
 refine Za Tryz.func245 rfl rfl rfl fun u R => ?_
 simp only [Zf, kA]
 rcases (show (x1 : Int) = 1 ∨ (x1 : Int) = 2 ∨ (x1 : Int) = 0 ∨ (2 : Int) < (x1 : Int) by omega) with hx | hx | hx | hx
 ·rw [decide_eq_true (show (x1 : Int) ≤ 2 by omega)] at hB1
  repeat' (first | (refine Zb (.func 140) ?_; refine qC rfl rfl (hn1) ?_; rintro v ρ' L' hle ⟨rfl, rfl, a1, n1, c1, h1, hc1, rfl⟩ <;> (try simp only [kA])) | (refine Zb (.func 277) ?_; refine qC rfl rfl (YT _ bt br all false _ _ _ a1 n1 c1 st1 _) ?_; rintro v ρ' L' hle ⟨rfl, rfl, rfl⟩ <;> (try simp only [kA, hB1])) | (refine ZM rfl rfl rfl hnil (fun es1 ck1 i1 i2 => ?_)) | (refine ZM rfl rfl rfl i1 (fun es2 ck2 j1 j2 => ?_); have hg := j2 (x1 : Int); rw [i2, if_neg (by omega), if_pos hx] at hg) | refine zW ?_ | intro _)
  cases hok : (!b1 && decide (st1 = 0))
  ·have hm : Ww x1 l1 st1 b1 = (([], []), l1, st1, b1) := by rw [Ww, hok]; rfl
   rw [hm] at hq
   have hck := fun ρ => XE ρ ⟨none, 0, 0, none, 0, 0⟩ ⟨x1, [], []⟩ CIn.nil
   simp only [contE] at hq
   generalize hB2 : Xg b1 st1 (ZG ⟨x1, [], []⟩) = b2 at *
   subst hq
   repeat' (first | (refine Zb (.func 280) ?_; refine qC rfl rfl (ok_spec _ bt br all b1 _ _ _ a1 n1 c1 st1) ?_; rintro v ρ' L' hle ⟨rfl, rfl, rfl⟩ <;> (try simp only [kA, hok])) | refine zW ?_ | intro _)
   cases hco : ZG ⟨x1, [], []⟩
   all_goals rw [hco] at hck hB2
   all_goals (repeat' (first | (refine Zb (.func 224) ?_; refine qC rfl rfl (hck _) ?_; rintro v ρ' L' hle ⟨rfl, rfl, rfl⟩ <;> (try simp only [kA, if_true, if_false, Bool.false_eq_true])) | (refine Zb (.func 277) ?_; refine qC rfl rfl (YT _ bt br all b1 _ _ _ a1 n1 c1 st1 _) ?_; rintro v ρ' L' hle ⟨rfl, rfl, rfl⟩ <;> (try simp only [kA, hB2])) | refine zW ?_ | intro _))
   all_goals exact qE ⟨Hp.le_refl _, ⟨none, 0, 0, none, 0, 0⟩, a1, n1, c1, rfl, CIn.nil, h1, hc1, rfl⟩
  ·have hlf := fun ρ (h : SIn ρ Zo a1 n1 l1) => tleaf_spec ρ bt br all b1 (.int .i64 x1) (.slice none 0 0) (.slice none 0 0) rfl rfl rfl a1 n1 c1 l1 h hc1 st1
   have hm : Ww x1 l1 st1 b1 = (((YE XR l1 st1 b1).1, []), (YE XR l1 st1 b1).2) := by rw [Ww, if_pos hok, if_pos (by omega)]
   rw [hm] at hq
   generalize YE XR l1 st1 b1 = m at *
   obtain ⟨xs, l2, st2, b2⟩ := m
   dsimp only at hq hlf
   have hck := fun ρ w h => XE ρ w ⟨x1, xs, []⟩ h
   simp only [contE] at hq
   generalize hB2 : Xg b2 st2 (ZG ⟨x1, xs, []⟩) = b3 at *
   subst hq
   repeat' (first | (refine Zb (.func 280) ?_; refine qC rfl rfl (ok_spec _ bt br all b1 _ _ _ a1 n1 c1 st1) ?_; rintro v ρ' L' hle ⟨rfl, rfl, rfl⟩ <;> (try simp only [kA, hok])) | (refine Zb (.tmp 40) ?_; refine qC rfl rfl (hlf _ h1) ?_; rintro v ρ' L' hle ⟨rfl, hle2, sa, sn, sc, a2, n2, c2, hsc, hs255, hA, h2, hc2, rfl⟩ <;> (try simp only [kA])) | refine zW ?_ | intro _)
   have hC : CIn ρ' ⟨sa, sn, sc, none, 0, 0⟩ xs [] := ⟨hA, AIn.nil, by dsimp only; omega, Nat.zero_le _, hsc, Nat.le_refl _⟩
   cases hco : ZG ⟨x1, xs, []⟩
   all_goals rw [hco] at hck hB2
   all_goals (repeat' (first | (refine Zb (.func 224) ?_; refine qC rfl rfl (hck _ _ hC) ?_; rintro v ρ' L' hle ⟨rfl, rfl, rfl⟩ <;> (try simp only [kA, if_true, if_false, Bool.false_eq_true])) | (refine Zb (.func 277) ?_; refine qC rfl rfl (YT _ bt br all b2 _ _ _ a2 n2 c2 st2 _) ?_; rintro v ρ' L' hle ⟨rfl, rfl, rfl⟩ <;> (try simp only [kA, hB2])) | refine zW ?_ | intro _))
   all_goals exact qE ⟨hle2, ⟨sa, sn, sc, none, 0, 0⟩, a2, n2, c2, rfl, hC, h2, hc2, rfl⟩
 ·rw [decide_eq_true (show (x1 : Int) ≤ 2 by omega)] at hB1
  repeat' (first | (refine Zb (.func 140) ?_; refine qC rfl rfl (hn1) ?_; rintro v ρ' L' hle ⟨rfl, rfl, a1, n1, c1, h1, hc1, rfl⟩ <;> (try simp only [kA])) | (refine Zb (.func 277) ?_; refine qC rfl rfl (YT _ bt br all false _ _ _ a1 n1 c1 st1 _) ?_; rintro v ρ' L' hle ⟨rfl, rfl, rfl⟩ <;> (try simp only [kA, hB1])) | (refine ZM rfl rfl rfl hnil (fun es1 ck1 i1 i2 => ?_)) | (refine ZM rfl rfl rfl i1 (fun es2 ck2 j1 j2 => ?_); have hg := j2 (x1 : Int); rw [if_pos hx] at hg) | refine zW ?_ | intro _)
  cases hok : (!b1 && decide (st1 = 0))
  ·have hm : Ww x1 l1 st1 b1 = (([], []), l1, st1, b1) := by rw [Ww, hok]; rfl
   rw [hm] at hq
   have hck := fun ρ => XE ρ ⟨none, 0, 0, none, 0, 0⟩ ⟨x1, [], []⟩ CIn.nil
   simp only [contE] at hq
   generalize hB2 : Xg b1 st1 (ZG ⟨x1, [], []⟩) = b2 at *
   subst hq
   repeat' (first | (refine Zb (.func 280) ?_; refine qC rfl rfl (ok_spec _ bt br all b1 _ _ _ a1 n1 c1 st1) ?_; rintro v ρ' L' hle ⟨rfl, rfl, rfl⟩ <;> (try simp only [kA, hok])) | refine zW ?_ | intro _)
   cases hco : ZG ⟨x1, [], []⟩
   all_goals rw [hco] at hck hB2
   all_goals (repeat' (first | (refine Zb (.func 224) ?_; refine qC rfl rfl (hck _) ?_; rintro v ρ' L' hle ⟨rfl, rfl, rfl⟩ <;> (try simp only [kA, if_true, if_false, Bool.false_eq_true])) | (refine Zb (.func 277) ?_; refine qC rfl rfl (YT _ bt br all b1 _ _ _ a1 n1 c1 st1 _) ?_; rintro v ρ' L' hle ⟨rfl, rfl, rfl⟩ <;> (try simp only [kA, hB2])) | refine zW ?_ | intro _))
   all_goals exact qE ⟨Hp.le_refl _, ⟨none, 0, 0, none, 0, 0⟩, a1, n1, c1, rfl, CIn.nil, h1, hc1, rfl⟩
  ·have hlf := fun ρ (h : SIn ρ Zo a1 n1 l1) => tinner_spec ρ bt br all b1 (.int .i64 x1) (.slice none 0 0) (.slice none 0 0) rfl rfl rfl a1 n1 c1 l1 h hc1 st1
   have hm : Ww x1 l1 st1 b1 = (([], (YE Xv l1 st1 b1).1), (YE Xv l1 st1 b1).2) := by rw [Ww, if_pos hok, if_neg (by omega), if_pos (by omega)]
   rw [hm] at hq
   generalize YE Xv l1 st1 b1 = m at *
   obtain ⟨xs, l2, st2, b2⟩ := m
   dsimp only at hq hlf
   have hck := fun ρ w h => XE ρ w ⟨x1, [], xs⟩ h
   simp only [contE] at hq
   generalize hB2 : Xg b2 st2 (ZG ⟨x1, [], xs⟩) = b3 at *
   subst hq
   repeat' (first | (refine Zb (.func 280) ?_; refine qC rfl rfl (ok_spec _ bt br all b1 _ _ _ a1 n1 c1 st1) ?_; rintro v ρ' L' hle ⟨rfl, rfl, rfl⟩ <;> (try simp only [kA, hok])) | (refine Zb (.tmp 40) ?_; refine qC rfl rfl (hlf _ h1) ?_; rintro v ρ' L' hle ⟨rfl, hle2, sa, sn, sc, a2, n2, c2, hsc, hs255, hA, h2, hc2, rfl⟩ <;> (try simp only [kA])) | refine zW ?_ | intro _)
   have hC : CIn ρ' ⟨none, 0, 0, sa, sn, sc⟩ [] xs := ⟨AIn.nil, hA, Nat.zero_le _, by dsimp only; omega, Nat.le_refl _, hsc⟩
   cases hco : ZG ⟨x1, [], xs⟩
   all_goals rw [hco] at hck hB2
   all_goals (repeat' (first | (refine Zb (.func 224) ?_; refine qC rfl rfl (hck _ _ hC) ?_; rintro v ρ' L' hle ⟨rfl, rfl, rfl⟩ <;> (try simp only [kA, if_true, if_false, Bool.false_eq_true])) | (refine Zb (.func 277) ?_; refine qC rfl rfl (YT _ bt br all b2 _ _ _ a2 n2 c2 st2 _) ?_; rintro v ρ' L' hle ⟨rfl, rfl, rfl⟩ <;> (try simp only [kA, hB2])) | refine zW ?_ | intro _))
   all_goals exact qE ⟨hle2, ⟨none, 0, 0, sa, sn, sc⟩, a2, n2, c2, rfl, hC, h2, hc2, rfl⟩
 ·rw [decide_eq_true (show (x1 : Int) ≤ 2 by omega)] at hB1
  repeat' (first | (refine Zb (.func 140) ?_; refine qC rfl rfl (hn1) ?_; rintro v ρ' L' hle ⟨rfl, rfl, a1, n1, c1, h1, hc1, rfl⟩ <;> (try simp only [kA])) | (refine Zb (.func 277) ?_; refine qC rfl rfl (YT _ bt br all false _ _ _ a1 n1 c1 st1 _) ?_; rintro v ρ' L' hle ⟨rfl, rfl, rfl⟩ <;> (try simp only [kA, hB1])) | (refine ZM rfl rfl rfl hnil (fun es1 ck1 i1 i2 => ?_)) | (refine ZM rfl rfl rfl i1 (fun es2 ck2 j1 j2 => ?_); have hg := j2 (x1 : Int); rw [i2, if_neg (by omega), if_neg (by omega), hg0] at hg) | refine zW ?_ | intro _)
  have hm : Ww x1 l1 st1 b1 = (([], []), l1, st1, b1) := by
   rw [Ww]
   split
   ·rw [if_neg (by omega), if_neg (by omega)]
   ·rfl
  rw [hm] at hq
  have hck := fun ρ => XE ρ ⟨none, 0, 0, none, 0, 0⟩ ⟨x1, [], []⟩ CIn.nil
  simp only [contE] at hq
  generalize hB2 : Xg b1 st1 (ZG ⟨x1, [], []⟩) = b2 at *
  subst hq
  cases hco : ZG ⟨x1, [], []⟩
  all_goals rw [hco] at hck hB2
  all_goals (repeat' (first | (refine Zb (.func 224) ?_; refine qC rfl rfl (hck _) ?_; rintro v ρ' L' hle ⟨rfl, rfl, rfl⟩ <;> (try simp only [kA, if_true, if_false, Bool.false_eq_true])) | (refine Zb (.func 277) ?_; refine qC rfl rfl (YT _ bt br all b1 _ _ _ a1 n1 c1 st1 _) ?_; rintro v ρ' L' hle ⟨rfl, rfl, rfl⟩ <;> (try simp only [kA, hB2])) | refine zW ?_ | intro _))
  all_goals exact qE ⟨Hp.le_refl _, ⟨none, 0, 0, none, 0, 0⟩, a1, n1, c1, rfl, CIn.nil, h1, hc1, rfl⟩
 ·rw [decide_eq_false (show ¬ (x1 : Int) ≤ 2 by omega)] at hB1
  repeat' (first | (refine Zb (.func 140) ?_; refine qC rfl rfl (hn1) ?_; rintro v ρ' L' hle ⟨rfl, rfl, a1, n1, c1, h1, hc1, rfl⟩ <;> (try simp only [kA])) | (refine Zb (.func 277) ?_; refine qC rfl rfl (YT _ bt br all false _ _ _ a1 n1 c1 st1 _) ?_; rintro v ρ' L' hle ⟨rfl, rfl, rfl⟩ <;> (try simp only [kA, hB1])) | (refine ZM rfl rfl rfl hnil (fun es1 ck1 i1 i2 => ?_)) | (refine ZM rfl rfl rfl i1 (fun es2 ck2 j1 j2 => ?_); have hg := j2 (x1 : Int); rw [i2, if_neg (by omega), if_neg (by omega), hg0] at hg) | refine zW ?_ | intro _)
  have hm : Ww x1 l1 st1 b1 = (([], []), l1, st1, b1) := by
   rw [Ww]
   split
   ·rw [if_neg (by omega), if_neg (by omega)]
   ·rfl
  rw [hm] at hq
  have hck := fun ρ => XE ρ ⟨none, 0, 0, none, 0, 0⟩ ⟨x1, [], []⟩ CIn.nil
  simp only [contE] at hq
  generalize hB2 : Xg b1 st1 (ZG ⟨x1, [], []⟩) = b2 at *
  subst hq
  cases hco : ZG ⟨x1, [], []⟩
  all_goals rw [hco] at hck hB2
  all_goals (repeat' (first | (refine Zb (.func 224) ?_; refine qC rfl rfl (hck _) ?_; rintro v ρ' L' hle ⟨rfl, rfl, rfl⟩ <;> (try simp only [kA, if_true, if_false, Bool.false_eq_true])) | (refine Zb (.func 277) ?_; refine qC rfl rfl (YT _ bt br all b1 _ _ _ a1 n1 c1 st1 _) ?_; rintro v ρ' L' hle ⟨rfl, rfl, rfl⟩ <;> (try simp only [kA, hB2])) | refine zW ?_ | intro _))
  all_goals exact qE ⟨Hp.le_refl _, ⟨none, 0, 0, none, 0, 0⟩, a1, n1, c1, rfl, CIn.nil, h1, hc1, rfl⟩
theorem WA (k : Nat) (l : List UInt8) (st : Int) : (ZW k l st).2.1.length ≤ l.length := by
 unfold ZW; split
 ·exact Nat.le_refl _
 ·split
  ·exact Nat.le_refl _
  ·simp
theorem rawR_len (k : Nat) (l : List UInt8) (st : Int) : (WB k l st).2.1.length ≤ l.length := by
 unfold WB; split
 ·exact Nat.le_refl _
 ·split
  ·exact Nat.le_refl _
  ·simp
theorem rowR_len (l : List UInt8) (st : Int) (bad : Bool) : (XR l st bad).2.1.length ≤ l.length := by
 unfold XR
 dsimp only
 have e1 := WA 1 l st
 generalize ZW 1 l st = r1 at *
 have e2 := WA 2 r1.2.1 r1.2.2
 generalize ZW 2 r1.2.1 r1.2.2 = r2 at *
 have e3 := WA 8 r2.2.1 r2.2.2
 generalize ZW 8 r2.2.1 r2.2.2 = r3 at *
 have e4 := WA 1 r3.2.1 r3.2.2
 generalize ZW 1 r3.2.1 r3.2.2 = r4 at *
 have e5 := rawR_len r4.1 r4.2.1 r4.2.2
 split
 ·split <;> dsimp only <;> omega
 ·dsimp only; omega
theorem kidR_len (l : List UInt8) (st : Int) : (kidR l st).2.1.length ≤ l.length := by
 unfold kidR
 dsimp only
 have e1 := WA 1 l st
 generalize ZW 1 l st = r1 at *
 have e2 := WA 2 r1.2.1 r1.2.2
 generalize ZW 2 r1.2.1 r1.2.2 = r2 at *
 have e3 := WA 1 r2.2.1 r2.2.2
 omega
theorem manyTo_len {α : Type} {f : List UInt8 → Int → Bool → α × ZX} (hf : ∀ l st bad, (f l st bad).2.1.length ≤ l.length) : ∀ (n : Nat) (l : List UInt8) (st : Int) (bad : Bool), (Xj f n l st bad).2.1.length ≤ l.length
 | 0, l, st, bad => Nat.le_refl _
 | n + 1, l, st, bad => by
  rw [Xj]
  split
  ·exact Nat.le_trans (manyTo_len hf n _ _ _) (hf l st bad)
  ·exact Nat.le_refl _
theorem manyR_len {α : Type} {f : List UInt8 → Int → Bool → α × ZX} (hf : ∀ l st bad, (f l st bad).2.1.length ≤ l.length) (l : List UInt8) (st : Int) (bad : Bool) : (YE f l st bad).2.1.length ≤ l.length :=
 Nat.le_trans (manyTo_len hf _ _ _ _) (WA 1 l st)
theorem contentR_len (l : List UInt8) : (Yp l).2.1.length ≤ l.length := by
 unfold Yp contE
 dsimp only
 have e1 := WA 1 l 0
 generalize ZW 1 l 0 = r1 at *
 have h2 : ∀ b, (Ww r1.1 r1.2.1 r1.2.2 b).2.1.length ≤ r1.2.1.length := fun b => by
  unfold Ww
  have a1 := manyR_len (f := XR) rowR_len r1.2.1 r1.2.2 b
  have a2 := manyR_len (f := Xv) (fun l st bad => kidR_len l st) r1.2.1 r1.2.2 b
  split
  ·split
   ·exact a1
   ·split
    ·exact a2
    ·exact Nat.le_refl _
  ·exact Nat.le_refl _
 exact Nat.le_trans (h2 _) e1
def ZT (l : List UInt8) : Row × Int × Int :=
 let r := XR l 0 false
 (if r.2.2.2 || decide (r.2.2.1 ≠ 0) then ⟨0, 0, 0, []⟩ else r.1, takenN l.length r.2.1.length r.2.2.2 r.2.2.1, takenE r.2.2.2 r.2.2.1)
def Zy (l : List UInt8) : XX × Int × Int :=
 let r := Yp l
 (if r.2.2.2 || decide (r.2.2.1 ≠ 0) then ⟨0, [], []⟩ else r.1, takenN l.length r.2.1.length r.2.2.2 r.2.2.1, takenE r.2.2.2 r.2.2.1)
theorem takeRow_spec (ρ : Hp) (a : Option Addr) (n c : Nat) (l : List UInt8) (h : SIn ρ Zo a n l) (hn : n ≤ 1000000) :
  Spec Tryz.prog 198 [.slice a n c] ρ [] (fun v ρ' L' => v = .tuple ⟨[.agg ⟨Yi (ZT l).1⟩, .int .i64 (ZT l).2.1, .int .i64 (ZT l).2.2]⟩ ∧ ρ.le ρ' ∧ L' = []) := by
 have hf := from_spec ρ a n c l h hn
 have hl := h.len
 have hlen := rowR_len l 0 false
 unfold ZT
 dsimp only
 rw [hl] at hlen ⊢
 refine Za Tryz.func198 rfl rfl rfl fun u R => ?_
 simp only [Zf, kA]
 repeat' (first | (refine Zb (.func 243) ?_; refine qC rfl rfl (hf) ?_; rintro v ρ' L' hle ⟨hle1, bt, br, a1, c1, rfl, hc1, h1, rfl⟩ <;> (try simp only [kA])) | refine zW ?_ | intro _)
 have hr := trow_spec _ bt br n false (.int .i64 0) (.slice none 0 0) (.slice none 0 0) a1 n c1 l h1 hc1 0
 generalize XR l 0 false = r at *
 obtain ⟨x, l2, st2, b2⟩ := r
 dsimp only at hr hlen ⊢
 repeat' (first | (refine Zb (.func 247) ?_; refine qC rfl rfl (hr) ?_; rintro v ρ' L' hle ⟨rfl, hle2, a2, n2, c2, h2, hc2, rfl⟩ <;> (try simp only [kA])) | refine zW ?_ | intro _)
 have hl2 := h2.len
 rw [hl2]
 repeat' (first | (refine Zb (.func 246) ?_; refine qR rfl rfl (takenRow_spec _ bt br n hn b2 _ _ _ a2 n2 c2 st2 x (by omega)) ?_; try simp only [kA]) | refine zW ?_ | intro _)
 exact qE ⟨rfl, Hp.le_trans hle1 hle2, rfl⟩
theorem takeCont_spec (ρ : Hp) (a : Option Addr) (n c : Nat) (l : List UInt8) (h : SIn ρ Zo a n l) (hn : n ≤ 1000000) :
  Spec Tryz.prog 194 [.slice a n c] ρ [] (fun v ρ' L' => ρ.le ρ' ∧ ∃ w, v = .tuple ⟨[.agg ⟨Wy (Zy l).1.kind w⟩, .int .i64 (Zy l).2.1, .int .i64 (Zy l).2.2]⟩ ∧ CIn ρ' w (Zy l).1.rows (Zy l).1.kids ∧ L' = []) := by
 have hf := from_spec ρ a n c l h hn
 have hl := h.len
 have hlen := contentR_len l
 unfold Zy
 dsimp only
 rw [hl] at hlen ⊢
 refine Za Tryz.func194 rfl rfl rfl fun u R => ?_
 simp only [Zf, kA]
 repeat' (first | (refine Zb (.func 243) ?_; refine qC rfl rfl (hf) ?_; rintro v ρ' L' hle ⟨hle1, bt, br, a1, c1, rfl, hc1, h1, rfl⟩ <;> (try simp only [kA])) | refine zW ?_ | intro _)
 have hr := content_spec _ bt br n a1 n c1 l h1 hc1
 generalize Yp l = r at *
 obtain ⟨x, l2, st2, b2⟩ := r
 dsimp only at hr hlen ⊢
 repeat' (first | (refine Zb (.func 245) ?_; refine qC rfl rfl (hr) ?_; rintro v ρ' L' hle ⟨hle2, w, a2, n2, c2, rfl, hC, h2, hc2, rfl⟩ <;> (try simp only [kA])) | refine zW ?_ | intro _)
 have hl2 := h2.len
 rw [hl2]
 have ht := fun ρ => takenCont_spec ρ bt br n hn b2 (.int .i64 x.kind) (.slice w.ra w.rn w.rc) (.slice w.ka w.kn w.kc) a2 n2 c2 st2 x.kind w (by omega)
 by_cases hb : (b2 || decide (st2 ≠ 0)) = true
 ·rw [if_pos hb] at ht
  rw [if_pos hb]
  repeat' (first | (refine Zb (.func 244) ?_; refine qR rfl rfl (ht _) ?_; try simp only [kA]) | refine zW ?_ | intro _)
  exact qE ⟨Hp.le_trans hle1 hle2, ⟨none, 0, 0, none, 0, 0⟩, rfl, CIn.nil, rfl⟩
 ·rw [if_neg hb] at ht
  rw [if_neg hb]
  repeat' (first | (refine Zb (.func 244) ?_; refine qR rfl rfl (ht _) ?_; try simp only [kA]) | refine zW ?_ | intro _)
  exact qE ⟨Hp.le_trans hle1 hle2, w, rfl, hC, rfl⟩
end Go.Proofs.E
namespace Go.Proofs.E
open Go
set_option linter.unusedVariables false
set_option linter.unusedSimpArgs false
set_option linter.unusedSectionVars false
set_option maxRecDepth 4000
set_option maxHeartbeats 1000000
attribute [local irreducible] Yl TL TC TE Spec ZN R1 Hp.le EnvLe TS TR YS Zp TP QP
def tB (t : Int) : UInt8 := UInt8.ofNat t.toNat
def keyB (t : Int) (id : Nat) : List UInt8 := tB t :: be 2 id
def vN (v : Int) : Nat := (IntKind.u64.wrap v).toNat
theorem vN_eq (v : Int) : IntKind.u64.wrap v = (vN v : Nat) := by
 have : 0 ≤ IntKind.u64.wrap v := by simp only [IntKind.wrap, IntKind.bits, IntKind.signed, Bool.false_and, Bool.false_eq_true, if_false]; omega
 simp [vN]; omega
theorem vN_lt (v : Int) : vN v < 18446744073709551616 := by
 have : IntKind.u64.wrap v < 18446744073709551616 := by simp only [IntKind.wrap, IntKind.bits, IntKind.signed, Bool.false_and, Bool.false_eq_true, if_false]; omega
 have h := vN_eq v
 omega
def ZR (r : Row) : List UInt8 := keyB r.t r.id ++ (be 8 (vN r.val) ++ (UInt8.ofNat r.note.length :: r.note))
theorem tB_eq {t : Int} (h0 : 0 ≤ t) (h1 : t < 256) : Value.int .u8 t = Zo (tB t) := by
 obtain ⟨n, rfl⟩ : ∃ n : Nat, t = n := ⟨t.toNat, by omega⟩
 simp only [Zo, tB, Int.toNat_natCast, UInt8.toNat_ofNat']
 congr 1
 have e : (2 : Nat) ^ 8 = 256 := by decide
 rw [e]
 omega
theorem key_spec (ρ : Hp) (v : Value) (n : Nat) (l : List UInt8) (sp : List Value) (hown : OwnS v n (l.map Zo) sp 1) (hn : n ≤ 100000) (t : Int) (id : Nat) (h0 : 0 ≤ t) (h3 : t < 256) (hid : id < 65536) :
  Spec Tryz.prog 297 [v, .agg ⟨keyV t id⟩] ρ [Zw v (l.map Zo) sp 5] (fun r ρ' L' => ρ.le ρ' ∧ ∃ sp', OwnS r (n + 3) ((l ++ keyB t id).map Zo) sp' 1 ∧ L' = [Zw r ((l ++ keyB t id).map Zo) sp' 5]) := by
 have hl : l.length = n := by obtain ⟨_, _, _, h⟩ := hown.len; simpa using h
 refine Za Tryz.func297 rfl rfl rfl fun u R => ?_
 simp only [Zf, kA]
 repeat' (first | refine zW ?_ | intro _)
 rename_i b3
 refine tpA [0,1,2,3,6,7] (.e 4 [] (.e 5 [] (.e 8 [] (.f [9] .o)))) ([[(b3, .cells ⟨keyV t id⟩ 129 (0, 0))]]) ?_
 repeat' (refine iT ?_; first | refine rA ?_ | ((refine iE ?_; refine rE ?_) <;> ((try refine Zr ?_); (first | (refine Zl rfl rfl rfl rfl (by simp) rfl rfl (fun _ => ?_); simp only [tB_eq h0 h3]) | (refine Yk (ys := [Zo (tB t)]) (m := 1) rfl rfl hown (hR := by infer_instance) SrcV.lit rfl rfl (by decide) rfl (by omega) (by omega) rfl (fun v' sp' hown' => ?_); rw [show l.map Zo ++ [Zo (tB t)] = (l ++ [tB t]).map Zo by simp] at hown' ⊢; refine ZJ _ (h := Rem.here) (fun ρ2 hle2 hfz => ?_); obtain ⟨a', c', rfl, hc', hs⟩ := hown'.sIn hfz) | (refine Zb (.func 265) ?_; refine qC rfl rfl (put16_spec _ a' _ c' _ hs id hid (by omega)) ?_; rintro v ρ' L' hle ⟨rfl, sp2, hown2, rfl⟩ <;> (try simp only [kA])) | (refine qEf ?_; try intro _)) <;> ((try simp only [kA]); refine Zj ?_; refine rN ?_))))
 have e : l ++ [tB t] ++ be 2 id = l ++ keyB t id := by rw [List.append_assoc]; rfl
 rw [e] at hown2 ⊢
 repeat' (first | refine zW ?_ | intro _)
 exact qE ⟨hle2, sp2, hown2, rfl⟩
theorem rowOk_iff {r : Row} (h : YZ r = true) : 0 ≤ r.t ∧ r.t < 3 ∧ r.note.length ≤ 8 := by
 have := of_decide_eq_true h
 exact ⟨this.1.1, this.1.2, this.2⟩
theorem lenB {n : Nat} (h : n ≤ 200) : Value.int .u8 (n : Int) = Zo (UInt8.ofNat n) := by
 simp only [Zo, UInt8.toNat_ofNat']
 congr 1
 have e : (2 : Nat) ^ 8 = 256 := by decide
 rw [e]
 omega
theorem claid_spec (ρ : Hp) (v : Value) (n : Nat) (l : List UInt8) (sp : List Value) (hown : OwnS v n (l.map Zo) sp 1) (hn : n ≤ 1000) (r : Row) (hr : YZ r = true) (hid : r.id < 65536) :
  Spec Tryz.prog 290 [v, .agg ⟨Yi r⟩] ρ [Zw v (l.map Zo) sp 5] (fun q ρ' L' => ρ.le ρ' ∧ ∃ sp', OwnS q (n + (ZR r).length) ((l ++ ZR r).map Zo) sp' 1 ∧ L' = [Zw q ((l ++ ZR r).map Zo) sp' 5]) := by
 obtain ⟨h0, h3, h8⟩ := rowOk_iff hr
 have hl : l.length = n := by obtain ⟨_, _, _, h⟩ := hown.len; simpa using h
 have hvl := vN_lt r.val
 have hkb : (keyB r.t r.id).length = 3 := by simp [keyB, Zh]
 have hlb := lenB (n := r.note.length) (by omega)
 refine Za Tryz.func290 rfl rfl rfl fun u R => ?_
 simp only [Zf, kA]
 repeat' (first | refine zW ?_ | intro _)
 rename_i b3
 refine tpA [0,1,2,4,5,6] (.e 3 [] (.e 7 [] (.f [8] .o))) ([[(b3, .cells ⟨Yi r⟩ 131 (0, 0))]]) ?_
 repeat' (refine iT ?_; first | refine rA ?_ | ((refine iE ?_; refine rE ?_) <;> ((try refine Zr ?_); (first | (simp only [vN_eq]; refine Zb (.func 297) ?_; refine qC rfl rfl (key_spec _ v n l sp hown (by omega) r.t r.id h0 (by omega) hid) ?_; rintro v1 ρ1 L1 hle0 ⟨hle1, sp1, hown1, rfl⟩; simp only [kA]; refine ZJ _ (h := Rem.here) (fun ρ2 hle2 hfz => ?_); obtain ⟨a1, c1, rfl, hc1, hs1⟩ := hown1.sIn hfz) | (refine Zb (.func 261) ?_; refine qC rfl rfl (put64_spec _ a1 _ c1 _ hs1 (vN r.val) hvl (by omega)) ?_; rintro v ρ' L' hle ⟨rfl, sp3, hown3, rfl⟩ <;> (try simp only [kA])) | (refine qEf ?_; try intro _)) <;> ((try simp only [kA]); refine Zj ?_; refine rN ?_))))
 repeat' (first | refine zW ?_ | intro _)
 refine tpA [0,1,2,3,4,7,8] (.e 5 [] (.e 6 [] (.e 9 [] (.f [10] .o)))) ([[(b3, .cells ⟨Yi r⟩ 131 (0, 0))]]) ?_
 repeat' (refine iT ?_; first | refine rA ?_ | ((refine iE ?_; refine rE ?_) <;> ((try refine Zr ?_); (first | (refine Zl rfl rfl rfl rfl (by simp) rfl rfl (fun _ => ?_); simp only [hlb]) | (refine Yk (ys := [Zo (UInt8.ofNat r.note.length)]) (m := 1) rfl rfl hown3 (hR := by infer_instance) SrcV.lit rfl rfl (by decide) rfl (by omega) (by omega) rfl (fun v4 sp4 hown4 => ?_)) | (refine tl_app_str (l := r.note) rfl rfl hown4 (hR := by infer_instance) (by omega) rfl (fun v5 sp5 hown5 => ?_)) | (refine qEf ?_; try intro _)) <;> ((try simp only [kA]); refine Zj ?_; refine rN ?_))))
 have e : (l ++ keyB r.t r.id ++ be 8 (vN r.val)).map Zo ++ [Zo (UInt8.ofNat r.note.length)] ++ r.note.map Zo = (l ++ ZR r).map Zo := by simp [ZR]
 have e2 : n + 3 + 8 + 1 + r.note.length = n + (ZR r).length := by simp [ZR, hkb, Zh]; omega
 rw [e] at hown5 ⊢
 rw [e2] at hown5
 repeat' (first | refine zW ?_ | intro _)
 exact qE ⟨Hp.le_trans hle1 hle2, sp5, hown5, rfl⟩
theorem rowE_spec (ρ : Hp) (r : Row) (hid : r.id < 65536) :
  Spec Tryz.prog 264 [.agg ⟨Yi r⟩] ρ [] (fun v ρ' L' => ρ.le ρ' ∧ ∃ a n c, v = .tuple ⟨[.slice a n c, .int .i64 (if YZ r then 0 else 151)]⟩ ∧ n ≤ c ∧ SIn ρ' Zo a n (if YZ r then ZR r else []) ∧ L' = []) := by
 have hck := fun ρ => checkRow_spec ρ r
 refine Za Tryz.func264 rfl rfl rfl fun u R => ?_
 simp only [Zf, kA]
 cases hok : YZ r
 ·simp only [hok, Bool.false_eq_true, if_false] at hck ⊢
  repeat' (first | (refine Zb (.func 286) ?_; refine qR rfl rfl (hck _) ?_; try simp only [kA]) | refine zW ?_ | intro _)
  exact qE ⟨Hp.le_refl _, none, 0, 0, rfl, Nat.le_refl _, SIn.nil, rfl⟩
 ·simp only [hok, if_true] at hck ⊢
  repeat' (first | (refine Zb (.func 286) ?_; refine qR rfl rfl (hck _) ?_; try simp only [kA]) | (refine Zb (.func 290) ?_; refine tl_call rfl rfl (claid_spec _ (.slice none 0 0) 0 [] [] (OwnS.nil 1) (by omega) r hok hid) (Wl rem_nil' take_nil') rfl ?_; rintro v1 ρ1 L1 hle0 ⟨hle1, sp1, hown1, rfl⟩; simp only [kA, Nat.zero_add] at hown1 ⊢; refine ZJ _ (h := Rem.here) (fun ρ2 hle2 hfz => ?_); obtain ⟨a1, c1, rfl, hc1, hs1⟩ := hown1.sIn hfz) | refine zW ?_ | intro _)
  exact qE ⟨Hp.le_trans hle1 hle2, a1, _, c1, rfl, hc1, hs1, rfl⟩
end Go.Proofs.E
