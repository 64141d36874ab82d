/- The law FileWrites. Part 7 of 17. -/
import Derived.Test.YtaacalchpindlaaGreatP6
namespace Go.Proofs.E
open Go
set_option linter.unusedVariables false
set_option linter.unusedSimpArgs false
set_option linter.unusedSectionVars false
set_option maxRecDepth 4000
set_option maxHeartbeats 1000000
attribute [local irreducible] Yl TL TC TE Spec XM R1 Hp.le EnvLe TS TR YS Zo
def Xo {α : Type} (f : List UInt8 → Int → Bool → α × RS3) : Nat → List UInt8 → Int → Bool → List α × RS3
 | 0, l, st, bad => ([], l, st, bad)
 | n + 1, l, st, bad => if !bad && decide (st = 0) then ((f l st bad).1 :: (Xo f n (f l st bad).2.1 (f l st bad).2.2.1 (f l st bad).2.2.2).1, (Xo f n (f l st bad).2.1 (f l st bad).2.2.1 (f l st bad).2.2.2).2) else ([], l, st, bad)
theorem manyTo_stop {α : Type} {f : List UInt8 → Int → Bool → α × RS3} {n : Nat} {l : List UInt8} {st : Int} {bad : Bool} (h : (!bad && decide (st = 0)) = false) : Xo f n l st bad = ([], l, st, bad) := by
 cases n with
 | zero => rfl
 | succ n => rw [Xo, h]; rfl
def YT {α : Type} (f : List UInt8 → Int → Bool → α × RS3) (l : List UInt8) (st : Int) (bad : Bool) : List α × RS3 :=
 Xo f (Yg 1 l st).1 (Yg 1 l st).2.1 (Yg 1 l st).2.2 (Xi bad (Yg 1 l st).2.2 (decide (((Yg 1 l st).1 : Int) ≤ 4)))
theorem manyRow_spec (ρ : Hp) (bt br : Nat) (all : Int) (bad : Bool) (vk vr vs : Value) (a : Option Addr) (n c : Nat) (l : List UInt8) (h : SIn ρ Zs a n l) (hc : n ≤ c) (st : Int) :
  Spec Tryz.prog 116 [.pointer (some ⟨bt, 0, none⟩), .int .i64 4, .func (.func 117) ⟨[.pointer (some ⟨bt, 0, none⟩)]⟩ ⟨[]⟩] ρ [tkC bt br all bad vk vr vs, rdC br a n c st]
   (fun v ρ' L' => ρ.le ρ' ∧ ∃ sa sn sc a' n' c', v = .slice sa sn sc ∧ sn ≤ sc ∧ sn ≤ 255 ∧ AIn ρ' 4 Yp sa sn (YT XY l st bad).1 ∧ SIn ρ' Zs a' n' (YT XY l st bad).2.1 ∧ n' ≤ c' ∧ L' = [tkC bt br all (YT XY l st bad).2.2.2 vk vr vs, rdC br a' n' c' (YT XY l st bad).2.2.1]) := by
 have hn1 := u8_spec ρ br a n c l h hc st
 have hb1 := WO 1 l st
 generalize hq : YT XY l st bad = q
 unfold YT at hq
 generalize Yg 1 l st = r1 at *
 obtain ⟨x1, l1, st1⟩ := r1
 dsimp only at hq hn1 hb1
 have hb255 : x1 < 256 := by simpa using hb1
 generalize hB1 : Xi bad st1 (decide ((x1 : Int) ≤ 4)) = b1 at *
 refine Zf Tryz.func116 rfl rfl rfl fun u R => ?_
 simp only [Zv, List.cons_append, List.nil_append]
 repeat' (first | (refine Zd (.func 109) ?_; refine qC rfl rfl (hn1) ?_; rintro v ρ' L' hle ⟨rfl, rfl, a1, n1, c1, h1, hc1, rfl⟩ <;> (try simp only [kM, kN, kO])) | (refine Zd (.func 110) ?_; refine qC rfl rfl (Xc _ bt br all bad vk vr vs a1 n1 c1 st1 (decide ((x1 : Int) ≤ 4))) ?_; rintro v ρ' L' hle ⟨rfl, rfl, rfl⟩ <;> (try simp only [kM, kN, kO, hB1])) | (refine Zg ?_; first | (refine Ze ?_; refine qQ ?_) | refine Zj ?_) | refine Za ?_ | (refine Zh ?_; refine Zq ?_) | (refine Zi ?_; refine Zr ?_) | intro _)
 refine ZB [(0, _), (2, _), (6, _), (7, _)] (fun (ζ : (Nat) × (Hp) × (Value) × (List Value) × (List Row) × (Option Addr) × (Nat) × (Nat) × (List UInt8) × (Int) × (Bool)) => [(9, .int .i64 ζ.1), (8, ζ.2.2.1)]) (fun (ζ : (Nat) × (Hp) × (Value) × (List Value) × (List Row) × (Option Addr) × (Nat) × (Nat) × (List UInt8) × (Int) × (Bool)) => ζ.2.1) (fun (ζ : (Nat) × (Hp) × (Value) × (List Value) × (List Row) × (Option Addr) × (Nat) × (Nat) × (List UInt8) × (Int) × (Bool)) => [Ye ζ.2.2.1 ((ζ.2.2.2.2.1.map Yp).flatten) ζ.2.2.2.1 65, tkC bt br all ζ.2.2.2.2.2.2.2.2.2.2 vk vr vs, rdC br ζ.2.2.2.2.2.1 ζ.2.2.2.2.2.2.1 ζ.2.2.2.2.2.2.2.1 ζ.2.2.2.2.2.2.2.2.2.1]) (fun (ζ : (Nat) × (Hp) × (Value) × (List Value) × (List Row) × (Option Addr) × (Nat) × (Nat) × (List UInt8) × (Int) × (Bool)) => ζ.1 ≤ x1 ∧ ρ'.le ζ.2.1 ∧ OwnS ζ.2.2.1 ζ.1 ((ζ.2.2.2.2.1.map Yp).flatten) ζ.2.2.2.1 4 ∧ ζ.2.2.2.2.1.length = ζ.1 ∧ SIn ζ.2.1 Zs ζ.2.2.2.2.2.1 ζ.2.2.2.2.2.2.1 ζ.2.2.2.2.2.2.2.2.1 ∧ ζ.2.2.2.2.2.2.1 ≤ ζ.2.2.2.2.2.2.2.1 ∧ q = (ζ.2.2.2.2.1 ++ (Xo XY (x1 - ζ.1) ζ.2.2.2.2.2.2.2.2.1 ζ.2.2.2.2.2.2.2.2.2.1 ζ.2.2.2.2.2.2.2.2.2.2).1, (Xo XY (x1 - ζ.1) ζ.2.2.2.2.2.2.2.2.1 ζ.2.2.2.2.2.2.2.2.2.1 ζ.2.2.2.2.2.2.2.2.2.2).2)) (fun (ζ : (Nat) × (Hp) × (Value) × (List Value) × (List Row) × (Option Addr) × (Nat) × (Nat) × (List UInt8) × (Int) × (Bool)) => x1 - ζ.1) ((0, ρ', .slice none 0 0, [], [], a1, n1, c1, l1, st1, b1)) (⟨Nat.zero_le _, Hp.le_refl _, OwnS.nil 4, rfl, h1, hc1, by simp [hq]⟩) Zm Zm rfl tk ?_
 rintro ⟨i, ρ1, v, sp, acc, a2, n2, c2, l2, st2, bad2⟩ hI
 try simp only [List.cons_append, List.nil_append, List.append_assoc, List.append_eq] at hI ⊢
 try dsimp only at hI ⊢
 obtain ⟨hi, hle1, hown, hal, h2, hc2, hq2⟩ := hI
 obtain ⟨va, vc, rfl, _⟩ := hown.len
 have hg : ∀ x ∈ acc, (Yp x).length = 4 := fun x _ => rowV_len x
 by_cases hlt : i < x1
 ·cases hok : (!bad2 && decide (st2 = 0))
  ·rw [manyTo_stop hok] at hq2
   simp only [List.append_nil] at hq2
   subst hq2
   repeat' (first | (refine Zd (.func 113) ?_; refine qC rfl rfl (ok_spec _ bt br all bad2 vk vr vs a2 n2 c2 st2) ?_; rintro v ρ' L' hle ⟨rfl, rfl, rfl⟩ <;> (try simp only [kM, kN, kO, hok])) | (refine Zg ?_; first | (refine Ze ?_; refine qQ ?_) | refine Zj ?_) | refine Za ?_ | (refine Zh ?_; refine Zq ?_) | (refine Zi ?_; refine Zr ?_) | intro _)
   refine Xd (Ye (.slice va i vc) ((acc.map Yp).flatten) sp 65) (fun ρ3 hle3 hfz => ?_)
   obtain ⟨sa, sc, e1, hsc, hA⟩ := hown.aIn hal hg hfz
   cases e1
   exact qE ⟨Hp.le_trans hle1 hle3, _, _, _, a2, n2, c2, rfl, hsc, by omega, hA, h2.mono hle3, hc2, rfl⟩
  ·rw [show x1 - i = (x1 - (i + 1)) + 1 by omega, Xo, if_pos hok] at hq2
   have hrow := fun ρ h => trow_spec ρ bt br all bad2 vk vr vs a2 n2 c2 l2 h hc2 st2
   generalize XY l2 st2 bad2 = r at *
   obtain ⟨x, l3, st3, bad3⟩ := r
   dsimp only at hq2 hrow
   repeat' (first | (refine Zd (.func 113) ?_; refine qC rfl rfl (ok_spec _ bt br all bad2 vk vr vs a2 n2 c2 st2) ?_; rintro v ρ' L' hle ⟨rfl, rfl, rfl⟩ <;> (try simp only [kM, kN, kO, hok])) | (refine Zd (.tmp 31) ?_; refine qC rfl rfl (hrow _ h2) ?_; rintro v ρ' L' hle ⟨rfl, hle3, a3, n3, c3, h3, hc3, rfl⟩ <;> (try simp only [kM, kN, kO])) | (refine Zg ?_; first | (refine Ze ?_; refine qQ ?_) | refine Zj ?_) | refine Za ?_ | (refine Zh ?_; refine Zq ?_) | (refine Zi ?_; refine Zr ?_) | intro _)
   refine XB (css := [Yp x]) (sz := 4) rfl rfl rfl rfl (by simp) (by simp) rfl (fun bs => ?_)
   simp only [List.flatten_cons, List.flatten_nil, List.append_nil]
   refine Yh (ys := Yp x) (m := 1) rfl rfl hown (hR := by infer_instance) (SrcV.lit) rfl rfl (by decide) rfl (by omega) (by omega) rfl (fun v' sp' hown' => ?_)
   have hm : (acc.map Yp).flatten ++ Yp x = ((acc ++ [x]).map Yp).flatten := by simp
   rw [hm] at hown' ⊢
   repeat' (first | (refine Zg ?_; first | (refine Ze ?_; refine qQ ?_) | refine Zj ?_) | refine Za ?_ | (refine Zh ?_; refine Zq ?_) | (refine Zi ?_; refine Zr ?_) | intro _)
   refine Zp (i + 1, _, v', sp', acc ++ [x], a3, n3, c3, l3, st3, bad3) (⟨hlt, Hp.le_trans hle1 hle3, hown', by simp [hal], h3, hc3, by rw [hq2]; simp⟩) Zm Zm rfl tk inferInstance (by first | omega | (dsimp only; omega))
 ·have hi2 : i = x1 := by omega
  subst hi2
  rw [Nat.sub_self, Xo] at hq2
  simp only [List.append_nil] at hq2
  subst hq2
  repeat' (first | (refine Zg ?_; first | (refine Ze ?_; refine qQ ?_) | refine Zj ?_) | refine Za ?_ | (refine Zh ?_; refine Zq ?_) | (refine Zi ?_; refine Zr ?_) | intro _)
  refine Xd (Ye (.slice va i vc) ((acc.map Yp).flatten) sp 65) (fun ρ3 hle3 hfz => ?_)
  obtain ⟨sa, sc, e1, hsc, hA⟩ := hown.aIn hal hg hfz
  cases e1
  exact qE ⟨Hp.le_trans hle1 hle3, _, _, _, a2, n2, c2, rfl, hsc, by omega, hA, h2.mono hle3, hc2, rfl⟩
def Xv (l : List UInt8) (st : Int) (bad : Bool) : Kid × RS3 := ((kidR l st).1, (kidR l st).2.1, (kidR l st).2.2, bad)
theorem tkidB_spec (ρ : Hp) (bt br : Nat) (all : Int) (bad : Bool) (vk vr vs : Value) (a : Option Addr) (n c : Nat) (l : List UInt8) (h : SIn ρ Zs a n l) (hc : n ≤ c) (st : Int) :
  Spec Tryz.prog 119 [.pointer (some ⟨bt, 0, none⟩)] ρ [tkC bt br all bad vk vr vs, rdC br a n c st]
   (fun v ρ' L' => v = .agg ⟨YY (Xv l st bad).1⟩ ∧ ρ.le ρ' ∧ ∃ a' n' c', SIn ρ' Zs a' n' (Xv l st bad).2.1 ∧ n' ≤ c' ∧ L' = [tkC bt br all (Xv l st bad).2.2.2 vk vr vs, rdC br a' n' c' (Xv l st bad).2.2.1]) := by
 refine (tkid_spec ρ bt br all bad vk vr vs a n c l h hc st).mono ?_
 rintro v ρ' L' hle ⟨h1, h2, h3⟩
 exact ⟨h1, hle, h3⟩
theorem manyKid_spec (ρ : Hp) (bt br : Nat) (all : Int) (bad : Bool) (vk vr vs : Value) (a : Option Addr) (n c : Nat) (l : List UInt8) (h : SIn ρ Zs a n l) (hc : n ≤ c) (st : Int) :
  Spec Tryz.prog 118 [.pointer (some ⟨bt, 0, none⟩), .int .i64 4, .func (.func 119) ⟨[.pointer (some ⟨bt, 0, none⟩)]⟩ ⟨[]⟩] ρ [tkC bt br all bad vk vr vs, rdC br a n c st]
   (fun v ρ' L' => ρ.le ρ' ∧ ∃ sa sn sc a' n' c', v = .slice sa sn sc ∧ sn ≤ sc ∧ sn ≤ 255 ∧ AIn ρ' 3 YY sa sn (YT Xv l st bad).1 ∧ SIn ρ' Zs a' n' (YT Xv l st bad).2.1 ∧ n' ≤ c' ∧ L' = [tkC bt br all (YT Xv l st bad).2.2.2 vk vr vs, rdC br a' n' c' (YT Xv l st bad).2.2.1]) := by
 have hn1 := u8_spec ρ br a n c l h hc st
 have hb1 := WO 1 l st
 generalize hq : YT Xv l st bad = q
 unfold YT at hq
 generalize Yg 1 l st = r1 at *
 obtain ⟨x1, l1, st1⟩ := r1
 dsimp only at hq hn1 hb1
 have hb255 : x1 < 256 := by simpa using hb1
 generalize hB1 : Xi bad st1 (decide ((x1 : Int) ≤ 4)) = b1 at *
 refine Zf Tryz.func118 rfl rfl rfl fun u R => ?_
 simp only [Zv, List.cons_append, List.nil_append]
 repeat' (first | (refine Zd (.func 109) ?_; refine qC rfl rfl (hn1) ?_; rintro v ρ' L' hle ⟨rfl, rfl, a1, n1, c1, h1, hc1, rfl⟩ <;> (try simp only [kM, kN, kO])) | (refine Zd (.func 110) ?_; refine qC rfl rfl (Xc _ bt br all bad vk vr vs a1 n1 c1 st1 (decide ((x1 : Int) ≤ 4))) ?_; rintro v ρ' L' hle ⟨rfl, rfl, rfl⟩ <;> (try simp only [kM, kN, kO, hB1])) | (refine Zg ?_; first | (refine Ze ?_; refine qQ ?_) | refine Zj ?_) | refine Za ?_ | (refine Zh ?_; refine Zq ?_) | (refine Zi ?_; refine Zr ?_) | intro _)
 refine ZB [(0, _), (2, _), (6, _), (7, _)] (fun (ζ : (Nat) × (Hp) × (Value) × (List Value) × (List Kid) × (Option Addr) × (Nat) × (Nat) × (List UInt8) × (Int) × (Bool)) => [(9, .int .i64 ζ.1), (8, ζ.2.2.1)]) (fun (ζ : (Nat) × (Hp) × (Value) × (List Value) × (List Kid) × (Option Addr) × (Nat) × (Nat) × (List UInt8) × (Int) × (Bool)) => ζ.2.1) (fun (ζ : (Nat) × (Hp) × (Value) × (List Value) × (List Kid) × (Option Addr) × (Nat) × (Nat) × (List UInt8) × (Int) × (Bool)) => [Ye ζ.2.2.1 ((ζ.2.2.2.2.1.map YY).flatten) ζ.2.2.2.1 82, tkC bt br all ζ.2.2.2.2.2.2.2.2.2.2 vk vr vs, rdC br ζ.2.2.2.2.2.1 ζ.2.2.2.2.2.2.1 ζ.2.2.2.2.2.2.2.1 ζ.2.2.2.2.2.2.2.2.2.1]) (fun (ζ : (Nat) × (Hp) × (Value) × (List Value) × (List Kid) × (Option Addr) × (Nat) × (Nat) × (List UInt8) × (Int) × (Bool)) => ζ.1 ≤ x1 ∧ ρ'.le ζ.2.1 ∧ OwnS ζ.2.2.1 ζ.1 ((ζ.2.2.2.2.1.map YY).flatten) ζ.2.2.2.1 3 ∧ ζ.2.2.2.2.1.length = ζ.1 ∧ SIn ζ.2.1 Zs ζ.2.2.2.2.2.1 ζ.2.2.2.2.2.2.1 ζ.2.2.2.2.2.2.2.2.1 ∧ ζ.2.2.2.2.2.2.1 ≤ ζ.2.2.2.2.2.2.2.1 ∧ q = (ζ.2.2.2.2.1 ++ (Xo Xv (x1 - ζ.1) ζ.2.2.2.2.2.2.2.2.1 ζ.2.2.2.2.2.2.2.2.2.1 ζ.2.2.2.2.2.2.2.2.2.2).1, (Xo Xv (x1 - ζ.1) ζ.2.2.2.2.2.2.2.2.1 ζ.2.2.2.2.2.2.2.2.2.1 ζ.2.2.2.2.2.2.2.2.2.2).2)) (fun (ζ : (Nat) × (Hp) × (Value) × (List Value) × (List Kid) × (Option Addr) × (Nat) × (Nat) × (List UInt8) × (Int) × (Bool)) => x1 - ζ.1) ((0, ρ', .slice none 0 0, [], [], a1, n1, c1, l1, st1, b1)) (⟨Nat.zero_le _, Hp.le_refl _, OwnS.nil 3, rfl, h1, hc1, by simp [hq]⟩) Zm Zm rfl tk ?_
 rintro ⟨i, ρ1, v, sp, acc, a2, n2, c2, l2, st2, bad2⟩ hI
 try simp only [List.cons_append, List.nil_append, List.append_assoc, List.append_eq] at hI ⊢
 try dsimp only at hI ⊢
 obtain ⟨hi, hle1, hown, hal, h2, hc2, hq2⟩ := hI
 obtain ⟨va, vc, rfl, _⟩ := hown.len
 have hg : ∀ x ∈ acc, (YY x).length = 3 := fun x _ => kidV_len x
 by_cases hlt : i < x1
 ·cases hok : (!bad2 && decide (st2 = 0))
  ·rw [manyTo_stop hok] at hq2
   simp only [List.append_nil] at hq2
   subst hq2
   repeat' (first | (refine Zd (.func 113) ?_; refine qC rfl rfl (ok_spec _ bt br all bad2 vk vr vs a2 n2 c2 st2) ?_; rintro v ρ' L' hle ⟨rfl, rfl, rfl⟩ <;> (try simp only [kM, kN, kO, hok])) | (refine Zg ?_; first | (refine Ze ?_; refine qQ ?_) | refine Zj ?_) | refine Za ?_ | (refine Zh ?_; refine Zq ?_) | (refine Zi ?_; refine Zr ?_) | intro _)
   refine Xd (Ye (.slice va i vc) ((acc.map YY).flatten) sp 82) (fun ρ3 hle3 hfz => ?_)
   obtain ⟨sa, sc, e1, hsc, hA⟩ := hown.aIn hal hg hfz
   cases e1
   exact qE ⟨Hp.le_trans hle1 hle3, _, _, _, a2, n2, c2, rfl, hsc, by omega, hA, h2.mono hle3, hc2, rfl⟩
  ·rw [show x1 - i = (x1 - (i + 1)) + 1 by omega, Xo, if_pos hok] at hq2
   have hrow := fun ρ h => tkidB_spec ρ bt br all bad2 vk vr vs a2 n2 c2 l2 h hc2 st2
   generalize Xv l2 st2 bad2 = r at *
   obtain ⟨x, l3, st3, bad3⟩ := r
   dsimp only at hq2 hrow
   repeat' (first | (refine Zd (.func 113) ?_; refine qC rfl rfl (ok_spec _ bt br all bad2 vk vr vs a2 n2 c2 st2) ?_; rintro v ρ' L' hle ⟨rfl, rfl, rfl⟩ <;> (try simp only [kM, kN, kO, hok])) | (refine Zd (.tmp 31) ?_; refine qC rfl rfl (hrow _ h2) ?_; rintro v ρ' L' hle ⟨rfl, hle3, a3, n3, c3, h3, hc3, rfl⟩ <;> (try simp only [kM, kN, kO])) | (refine Zg ?_; first | (refine Ze ?_; refine qQ ?_) | refine Zj ?_) | refine Za ?_ | (refine Zh ?_; refine Zq ?_) | (refine Zi ?_; refine Zr ?_) | intro _)
   refine XB (css := [YY x]) (sz := 3) rfl rfl rfl rfl (by simp) (by simp) rfl (fun bs => ?_)
   simp only [List.flatten_cons, List.flatten_nil, List.append_nil]
   refine Yh (ys := YY x) (m := 1) rfl rfl hown (hR := by infer_instance) (SrcV.lit) rfl rfl (by decide) rfl (by omega) (by omega) rfl (fun v' sp' hown' => ?_)
   have hm : (acc.map YY).flatten ++ YY x = ((acc ++ [x]).map YY).flatten := by simp
   rw [hm] at hown' ⊢
   repeat' (first | (refine Zg ?_; first | (refine Ze ?_; refine qQ ?_) | refine Zj ?_) | refine Za ?_ | (refine Zh ?_; refine Zq ?_) | (refine Zi ?_; refine Zr ?_) | intro _)
   refine Zp (i + 1, _, v', sp', acc ++ [x], a3, n3, c3, l3, st3, bad3) (⟨hlt, Hp.le_trans hle1 hle3, hown', by simp [hal], h3, hc3, by rw [hq2]; simp⟩) Zm Zm rfl tk inferInstance (by first | omega | (dsimp only; omega))
 ·have hi2 : i = x1 := by omega
  subst hi2
  rw [Nat.sub_self, Xo] at hq2
  simp only [List.append_nil] at hq2
  subst hq2
  repeat' (first | (refine Zg ?_; first | (refine Ze ?_; refine qQ ?_) | refine Zj ?_) | refine Za ?_ | (refine Zh ?_; refine Zq ?_) | (refine Zi ?_; refine Zr ?_) | intro _)
  refine Xd (Ye (.slice va i vc) ((acc.map YY).flatten) sp 82) (fun ρ3 hle3 hfz => ?_)
  obtain ⟨sa, sc, e1, hsc, hA⟩ := hown.aIn hal hg hfz
  cases e1
  exact qE ⟨Hp.le_trans hle1 hle3, _, _, _, a2, n2, c2, rfl, hsc, by omega, hA, h2.mono hle3, hc2, rfl⟩
theorem tleaf_spec (ρ : Hp) (bt br : Nat) (all : Int) (bad : Bool) (vk vr vs : Value) (h1 : vk.oneCell' = true) (h2 : vr.oneCell' = true) (h3 : vs.oneCell' = true) (a : Option Addr) (n c : Nat) (l : List UInt8) (h : SIn ρ Zs a n l) (hc : n ≤ c) (st : Int) :
  Spec Tryz.prog 111 [.pointer (some ⟨bt, 0, none⟩)] ρ [tkC bt br all bad vk vr vs, rdC br a n c st]
   (fun v ρ' L' => v = .tuple ⟨[]⟩ ∧ ρ.le ρ' ∧ ∃ sa sn sc a' n' c', sn ≤ sc ∧ sn ≤ 255 ∧ AIn ρ' 4 Yp sa sn (YT XY l st bad).1 ∧ SIn ρ' Zs a' n' (YT XY l st bad).2.1 ∧ n' ≤ c' ∧ L' = [tkC bt br all (YT XY l st bad).2.2.2 vk (.slice sa sn sc) vs, rdC br a' n' c' (YT XY l st bad).2.2.1]) := by
 have hm := manyRow_spec ρ bt br all bad vk vr vs a n c l h hc st
 refine Zf Tryz.func111 rfl rfl rfl fun u R => ?_
 simp only [Zv, List.cons_append, List.nil_append]
 repeat' (first | (refine Zd (.func 116) ?_; refine qC rfl rfl (hm) ?_; rintro v ρ' L' hle ⟨hle1, sa, sn, sc, a', n', c', rfl, q1, q2, q3, q4, q5, rfl⟩ <;> (try simp only [kM, kN, kO])) | (refine Zg ?_; first | (refine Ze ?_; refine qQ ?_) | refine Zj ?_) | refine Za ?_ | (refine Zh ?_; refine Zq ?_) | (refine Zi ?_; refine Zr ?_) | intro _)
 exact qE ⟨rfl, hle1, sa, sn, sc, a', n', c', q1, q2, q3, q4, q5, rfl⟩
theorem tinner_spec (ρ : Hp) (bt br : Nat) (all : Int) (bad : Bool) (vk vr vs : Value) (h1 : vk.oneCell' = true) (h2 : vr.oneCell' = true) (h3 : vs.oneCell' = true) (a : Option Addr) (n c : Nat) (l : List UInt8) (h : SIn ρ Zs a n l) (hc : n ≤ c) (st : Int) :
  Spec Tryz.prog 112 [.pointer (some ⟨bt, 0, none⟩)] ρ [tkC bt br all bad vk vr vs, rdC br a n c st]
   (fun v ρ' L' => v = .tuple ⟨[]⟩ ∧ ρ.le ρ' ∧ ∃ sa sn sc a' n' c', sn ≤ sc ∧ sn ≤ 255 ∧ AIn ρ' 3 YY sa sn (YT Xv l st bad).1 ∧ SIn ρ' Zs a' n' (YT Xv l st bad).2.1 ∧ n' ≤ c' ∧ L' = [tkC bt br all (YT Xv l st bad).2.2.2 vk vr (.slice sa sn sc), rdC br a' n' c' (YT Xv l st bad).2.2.1]) := by
 have hm := manyKid_spec ρ bt br all bad vk vr vs a n c l h hc st
 refine Zf Tryz.func112 rfl rfl rfl fun u R => ?_
 simp only [Zv, List.cons_append, List.nil_append]
 repeat' (first | (refine Zd (.func 118) ?_; refine qC rfl rfl (hm) ?_; rintro v ρ' L' hle ⟨hle1, sa, sn, sc, a', n', c', rfl, q1, q2, q3, q4, q5, rfl⟩ <;> (try simp only [kM, kN, kO])) | (refine Zg ?_; first | (refine Ze ?_; refine qQ ?_) | refine Zj ?_) | refine Za ?_ | (refine Zh ?_; refine Zq ?_) | (refine Zi ?_; refine Zr ?_) | intro _)
 exact qE ⟨rfl, hle1, sa, sn, sc, a', n', c', q1, q2, q3, q4, q5, rfl⟩
theorem from_spec (ρ : Hp) (a : Option Addr) (n c : Nat) (l : List UInt8) (h : SIn ρ Zs a n l) (hn : n ≤ 1000000) :
  Spec Tryz.prog 97 [.slice a n c] ρ [] (fun v ρ' L' => ρ.le ρ' ∧ ∃ bt br a' c', v = .pointer (some ⟨bt, 0, none⟩) ∧ n ≤ c' ∧ SIn ρ' Zs a' n l ∧ L' = [tkC bt br n false (.int .i64 0) (.slice none 0 0) (.slice none 0 0), rdC br a' n c' 0]) := by
 have hr := read_spec ρ a n c l h hn
 refine Zf Tryz.func97 rfl rfl rfl fun u R => ?_
 simp only [Zv, List.cons_append, List.nil_append]
 repeat' (first | (refine Zd (.func 88) ?_; refine qC rfl rfl (hr) ?_; rintro v ρ' L' hle ⟨hle, br, a', c', rfl, hc', hs, rfl⟩ <;> (try simp only [kM, kN, kO])) | (refine Zg ?_; first | (refine Ze ?_; refine qQ ?_) | refine Zj ?_) | refine Za ?_ | (refine Zh ?_; refine Zq ?_) | (refine Zi ?_; refine Zr ?_) | intro _)
 exact qE ⟨hle, _, br, a', c', rfl, hc', hs, rfl⟩
def takenN (all : Int) (left : Nat) (bad : Bool) (st : Int) : Int := if bad then 0 else if st ≠ 0 then 0 else all - left
def Wk (bad : Bool) (st : Int) : Int := if bad then 161 else st
theorem takenCont_spec (ρ : Hp) (bt br : Nat) (all : Nat) (hall : all ≤ 1000000) (bad : Bool) (vk vr vs : Value) (a : Option Addr) (n c : Nat) (st : Int) (k : Int) (w : CV) (hn : n ≤ all) :
  Spec Tryz.prog 98 [.pointer (some ⟨bt, 0, none⟩), .agg ⟨Yt k w⟩] ρ [tkC bt br all bad vk vr vs, rdC br a n c st]
   (fun v ρ' L' => v = .tuple ⟨[.agg ⟨if bad || decide (st ≠ 0) then Yt 0 ⟨none, 0, 0, none, 0, 0⟩ else Yt k w⟩, .int .i64 (takenN all n bad st), .int .i64 (Wk bad st)]⟩ ∧ ρ' = ρ ∧ L' = []) := by
 refine Zf Tryz.func98 rfl rfl rfl fun u R => ?_
 simp only [Zv, List.cons_append, List.nil_append, takenN, Wk]
 cases bad
 ·by_cases h : st = 0
  ·subst h
   simp only [Bool.false_or, ne_eq, not_true_eq_false, decide_false, Bool.false_eq_true, if_false]
   repeat' (first | (refine Zd (.func 107) ?_; refine qC rfl rfl (XS _ br a n c 0) ?_; rintro v ρ' L' hle ⟨rfl, rfl, rfl⟩ <;> (try simp only [kM, kN, kO])) | (refine Zg ?_; first | (refine Ze ?_; refine qQ ?_) | refine Zj ?_) | refine Za ?_ | (refine Zh ?_; refine Zq ?_) | (refine Zi ?_; refine Zr ?_) | intro _)
   rename_i b3 b4 b7
   refine ZD (Zo _ _ ([tkC bt br all false vk vr vs, [(b3, .cells ⟨Yt k w⟩ 36 (0, 0))]])) (Zx (hT := tk) (Hp.le_refl _)) ?_
   all_goals (refine rLd 0 ?_; refine ZO 1 ?_; refine rNc 2 ?_; refine rFa 3 ?_; refine rLd 4 ?_; refine ZO 5 ?_; refine rNc 6 ?_; refine rFa 7 ?_; refine rLd 8 ?_)
   all_goals (refine Zn (i := 9) ?_; ((try refine Zk ?_); (first | (refine Zd (.func 108) ?_; refine qC rfl rfl (left_spec _ br a n c 0) ?_; rintro v ρ' L' hle ⟨rfl, rfl, rfl⟩ <;> (try simp only [kM, kN, kO])) | (refine Zj ?_; try intro _)) <;> ((try simp only [kM, kN, kO]); refine Za ?_; refine Zl ?_)))
   all_goals refine rSb 10 ?_
   all_goals (refine Zn (i := 11) ?_; ((try refine Zk ?_); (first | (refine Zj ?_; try intro _)) <;> ((try simp only [kM, kN, kO]); refine Za ?_; refine Zl ?_)))
   all_goals (refine ZR ?_; refine rAs 12 ?_; refine rAs 13 ?_; refine ZH ?_)
   repeat' (first | (refine Zg ?_; first | (refine Ze ?_; refine qQ ?_) | refine Zj ?_) | refine Za ?_ | (refine Zh ?_; refine Zq ?_) | (refine Zi ?_; refine Zr ?_) | intro _)
   exact qE ⟨rfl, rfl, rfl⟩
  ·simp only [Bool.false_or, ne_eq, h, not_false_eq_true, decide_true, if_true, Bool.false_eq_true, if_false]
   repeat' (first | (refine Zd (.func 107) ?_; refine qC rfl rfl (XS _ br a n c st) ?_; rintro v ρ' L' hle ⟨rfl, rfl, rfl⟩ <;> (try simp only [kM, kN, kO])) | (refine Zg ?_; first | (refine Ze ?_; refine qQ ?_) | refine Zj ?_) | refine Za ?_ | (refine Zh ?_; refine Zq ?_) | (refine Zi ?_; refine Zr ?_) | intro _)
   rename_i b3 b4 b7
   refine ZD (Zo _ _ ([tkC bt br all false vk vr vs, [(b7, .cells ⟨Yt 0 ⟨none, 0, 0, none, 0, 0⟩⟩ 36 (0, 0))]])) (Zx (hT := tk) (Hp.le_refl _)) ?_
   all_goals (refine rLd 0 ?_; refine ZO 1 ?_; refine rNc 2 ?_; refine rFa 3 ?_; refine rLd 4 ?_)
   all_goals (refine Zn (i := 5) ?_; ((try refine Zk ?_); (first | (refine Zd (.func 107) ?_; refine qC rfl rfl (XS _ br a n c st) ?_; rintro v ρ' L' hle ⟨rfl, rfl, rfl⟩ <;> (try simp only [kM, kN, kO])) | (refine Zj ?_; try intro _)) <;> ((try simp only [kM, kN, kO]); refine Za ?_; refine Zl ?_)))
   all_goals (refine Zn (i := 6) ?_; ((try refine Zk ?_); (first | (refine Zj ?_; try intro _)) <;> ((try simp only [kM, kN, kO]); refine Za ?_; refine Zl ?_)))
   all_goals (refine ZR ?_; refine rAs 7 ?_; refine rAs 8 ?_; refine ZH ?_)
   repeat' (first | (refine Zg ?_; first | (refine Ze ?_; refine qQ ?_) | refine Zj ?_) | refine Za ?_ | (refine Zh ?_; refine Zq ?_) | (refine Zi ?_; refine Zr ?_) | intro _)
   exact qE ⟨rfl, rfl, rfl⟩
 ·simp only [Bool.true_or, if_true]
  repeat' (first | (refine Zg ?_; first | (refine Ze ?_; refine qQ ?_) | refine Zj ?_) | refine Za ?_ | (refine Zh ?_; refine Zq ?_) | (refine Zi ?_; refine Zr ?_) | intro _)
  exact qE ⟨rfl, rfl, rfl⟩
def WI (x1 : Nat) (l1 : List UInt8) (st1 : Int) (b1 : Bool) : (List Row × List Kid) × RS3 :=
 if !b1 && decide (st1 = 0) then
  if x1 = 1 then (((YT XY l1 st1 b1).1, []), (YT XY l1 st1 b1).2)
  else if x1 = 2 then (([], (YT Xv l1 st1 b1).1), (YT Xv l1 st1 b1).2)
  else (([], []), l1, st1, b1)
 else (([], []), l1, st1, b1)
def contE (x1 : Nat) (m : (List Row × List Kid) × RS3) : Yr × RS3 := (⟨x1, m.1.1, m.1.2⟩, m.2.1, m.2.2.1, Xi m.2.2.2 m.2.2.1 (ZN ⟨x1, m.1.1, m.1.2⟩))
def YC (l : List UInt8) : Yr × RS3 :=
 contE (Yg 1 l 0).1 (WI (Yg 1 l 0).1 (Yg 1 l 0).2.1 (Yg 1 l 0).2.2 (Xi false (Yg 1 l 0).2.2 (decide (((Yg 1 l 0).1 : Int) ≤ 2))))
theorem CIn.nil {ρ : Hp} : CIn ρ ⟨none, 0, 0, none, 0, 0⟩ [] [] := ⟨AIn.nil, AIn.nil, by decide, by decide, by decide, by decide⟩
theorem content_spec (ρ : Hp) (bt br : Nat) (all : Int) (a : Option Addr) (n c : Nat) (l : List UInt8) (h : SIn ρ Zs a n l) (hc : n ≤ c) :
  Spec Tryz.prog 99 [.pointer (some ⟨bt, 0, none⟩)] ρ [tkC bt br all false (.int .i64 0) (.slice none 0 0) (.slice none 0 0), rdC br a n c 0]
   (fun v ρ' L' => ρ.le ρ' ∧ ∃ w a' n' c', v = .agg ⟨Yt (YC l).1.kind w⟩ ∧ CIn ρ' w (YC l).1.rows (YC l).1.kids ∧ SIn ρ' Zs a' n' (YC l).2.1 ∧ n' ≤ c' ∧
    L' = [tkC bt br all (YC l).2.2.2 (.int .i64 (YC l).1.kind) (.slice w.ra w.rn w.rc) (.slice w.ka w.kn w.kc), rdC br a' n' c' (YC l).2.2.1]) := by
 have hn1 := u8_spec ρ br a n c l h hc 0
 have hb1 := WO 1 l 0
 generalize hq : YC l = q
 unfold YC at hq
 generalize Yg 1 l 0 = r1 at *
 obtain ⟨x1, l1, st1⟩ := r1
 dsimp only at hq hn1 hb1
 generalize hB1 : Xi false st1 (decide ((x1 : Int) ≤ 2)) = b1 at *
 have hnil : YU .i64 [] := by intro e he; simp at he
 have hg0 : ∀ k : Int, Xq [] k = none := fun _ => rfl
 refine Zf Tryz.func99 rfl rfl rfl fun u R => ?_
 simp only [Zv, List.cons_append, List.nil_append]
 rcases (show (x1 : Int) = 1 ∨ (x1 : Int) = 2 ∨ (x1 : Int) = 0 ∨ (2 : Int) < (x1 : Int) by omega) with hx | hx | hx | hx
 ·rw [decide_eq_true (show (x1 : Int) ≤ 2 by omega)] at hB1
  repeat' (first | (refine Zd (.func 109) ?_; refine qC rfl rfl (hn1) ?_; rintro v ρ' L' hle ⟨rfl, rfl, a1, n1, c1, h1, hc1, rfl⟩ <;> (try simp only [kM, kN, kO])) | (refine Zd (.func 110) ?_; refine qC rfl rfl (Xc _ bt br all false _ _ _ a1 n1 c1 st1 _) ?_; rintro v ρ' L' hle ⟨rfl, rfl, rfl⟩ <;> (try simp only [kM, kN, kO, hB1])) | (refine WD rfl rfl rfl hnil (fun es1 ck1 i1 i2 => ?_)) | (refine WD rfl rfl rfl i1 (fun es2 ck2 j1 j2 => ?_); have hg := j2 (x1 : Int); rw [i2, if_neg (by omega), if_pos hx] at hg) | (refine Zg ?_; first | (refine Ze ?_; refine qQ ?_) | refine Zj ?_) | refine Za ?_ | (refine Zh ?_; refine Zq ?_) | (refine Zi ?_; refine Zr ?_) | intro _)
  cases hok : (!b1 && decide (st1 = 0))
  ·have hm : WI x1 l1 st1 b1 = (([], []), l1, st1, b1) := by rw [WI, hok]; rfl
   rw [hm] at hq
   have hck := fun ρ => XD ρ ⟨none, 0, 0, none, 0, 0⟩ ⟨x1, [], []⟩ CIn.nil
   simp only [contE] at hq
   generalize hB2 : Xi b1 st1 (ZN ⟨x1, [], []⟩) = b2 at *
   subst hq
   repeat' (first | (refine Zd (.func 113) ?_; refine qC rfl rfl (ok_spec _ bt br all b1 _ _ _ a1 n1 c1 st1) ?_; rintro v ρ' L' hle ⟨rfl, rfl, rfl⟩ <;> (try simp only [kM, kN, kO, hok])) | (refine Zg ?_; first | (refine Ze ?_; refine qQ ?_) | refine Zj ?_) | refine Za ?_ | (refine Zh ?_; refine Zq ?_) | (refine Zi ?_; refine Zr ?_) | intro _)
   cases hco : ZN ⟨x1, [], []⟩
   all_goals rw [hco] at hck hB2
   all_goals (repeat' (first | (refine Zd (.func 30) ?_; refine qC rfl rfl (hck _) ?_; rintro v ρ' L' hle ⟨rfl, rfl, rfl⟩ <;> (try simp only [kM, kN, kO, if_true, if_false, Bool.false_eq_true])) | (refine Zd (.func 110) ?_; refine qC rfl rfl (Xc _ bt br all b1 _ _ _ a1 n1 c1 st1 _) ?_; rintro v ρ' L' hle ⟨rfl, rfl, rfl⟩ <;> (try simp only [kM, kN, kO, hB2])) | (refine Zg ?_; first | (refine Ze ?_; refine qQ ?_) | refine Zj ?_) | refine Za ?_ | (refine Zh ?_; refine Zq ?_) | (refine Zi ?_; refine Zr ?_) | intro _))
   all_goals exact qE ⟨Hp.le_refl _, ⟨none, 0, 0, none, 0, 0⟩, a1, n1, c1, rfl, CIn.nil, h1, hc1, rfl⟩
  ·have hlf := fun ρ (h : SIn ρ Zs a1 n1 l1) => tleaf_spec ρ bt br all b1 (.int .i64 x1) (.slice none 0 0) (.slice none 0 0) rfl rfl rfl a1 n1 c1 l1 h hc1 st1
   have hm : WI x1 l1 st1 b1 = (((YT XY l1 st1 b1).1, []), (YT XY l1 st1 b1).2) := by rw [WI, if_pos hok, if_pos (by omega)]
   rw [hm] at hq
   generalize YT XY l1 st1 b1 = m at *
   obtain ⟨xs, l2, st2, b2⟩ := m
   dsimp only at hq hlf
   have hck := fun ρ w h => XD ρ w ⟨x1, xs, []⟩ h
   simp only [contE] at hq
   generalize hB2 : Xi b2 st2 (ZN ⟨x1, xs, []⟩) = b3 at *
   subst hq
   repeat' (first | (refine Zd (.func 113) ?_; refine qC rfl rfl (ok_spec _ bt br all b1 _ _ _ a1 n1 c1 st1) ?_; rintro v ρ' L' hle ⟨rfl, rfl, rfl⟩ <;> (try simp only [kM, kN, kO, hok])) | (refine Zd (.tmp 40) ?_; refine qC rfl rfl (hlf _ h1) ?_; rintro v ρ' L' hle ⟨rfl, hle2, sa, sn, sc, a2, n2, c2, hsc, hs255, hA, h2, hc2, rfl⟩ <;> (try simp only [kM, kN, kO])) | (refine Zg ?_; first | (refine Ze ?_; refine qQ ?_) | refine Zj ?_) | refine Za ?_ | (refine Zh ?_; refine Zq ?_) | (refine Zi ?_; refine Zr ?_) | intro _)
   have hC : CIn ρ' ⟨sa, sn, sc, none, 0, 0⟩ xs [] := ⟨hA, AIn.nil, by dsimp only; omega, Nat.zero_le _, hsc, Nat.le_refl _⟩
   cases hco : ZN ⟨x1, xs, []⟩
   all_goals rw [hco] at hck hB2
   all_goals (repeat' (first | (refine Zd (.func 30) ?_; refine qC rfl rfl (hck _ _ hC) ?_; rintro v ρ' L' hle ⟨rfl, rfl, rfl⟩ <;> (try simp only [kM, kN, kO, if_true, if_false, Bool.false_eq_true])) | (refine Zd (.func 110) ?_; refine qC rfl rfl (Xc _ bt br all b2 _ _ _ a2 n2 c2 st2 _) ?_; rintro v ρ' L' hle ⟨rfl, rfl, rfl⟩ <;> (try simp only [kM, kN, kO, hB2])) | (refine Zg ?_; first | (refine Ze ?_; refine qQ ?_) | refine Zj ?_) | refine Za ?_ | (refine Zh ?_; refine Zq ?_) | (refine Zi ?_; refine Zr ?_) | intro _))
   all_goals exact qE ⟨hle2, ⟨sa, sn, sc, none, 0, 0⟩, a2, n2, c2, rfl, hC, h2, hc2, rfl⟩
 ·rw [decide_eq_true (show (x1 : Int) ≤ 2 by omega)] at hB1
  repeat' (first | (refine Zd (.func 109) ?_; refine qC rfl rfl (hn1) ?_; rintro v ρ' L' hle ⟨rfl, rfl, a1, n1, c1, h1, hc1, rfl⟩ <;> (try simp only [kM, kN, kO])) | (refine Zd (.func 110) ?_; refine qC rfl rfl (Xc _ bt br all false _ _ _ a1 n1 c1 st1 _) ?_; rintro v ρ' L' hle ⟨rfl, rfl, rfl⟩ <;> (try simp only [kM, kN, kO, hB1])) | (refine WD rfl rfl rfl hnil (fun es1 ck1 i1 i2 => ?_)) | (refine WD rfl rfl rfl i1 (fun es2 ck2 j1 j2 => ?_); have hg := j2 (x1 : Int); rw [if_pos hx] at hg) | (refine Zg ?_; first | (refine Ze ?_; refine qQ ?_) | refine Zj ?_) | refine Za ?_ | (refine Zh ?_; refine Zq ?_) | (refine Zi ?_; refine Zr ?_) | intro _)
  cases hok : (!b1 && decide (st1 = 0))
  ·have hm : WI x1 l1 st1 b1 = (([], []), l1, st1, b1) := by rw [WI, hok]; rfl
   rw [hm] at hq
   have hck := fun ρ => XD ρ ⟨none, 0, 0, none, 0, 0⟩ ⟨x1, [], []⟩ CIn.nil
   simp only [contE] at hq
   generalize hB2 : Xi b1 st1 (ZN ⟨x1, [], []⟩) = b2 at *
   subst hq
   repeat' (first | (refine Zd (.func 113) ?_; refine qC rfl rfl (ok_spec _ bt br all b1 _ _ _ a1 n1 c1 st1) ?_; rintro v ρ' L' hle ⟨rfl, rfl, rfl⟩ <;> (try simp only [kM, kN, kO, hok])) | (refine Zg ?_; first | (refine Ze ?_; refine qQ ?_) | refine Zj ?_) | refine Za ?_ | (refine Zh ?_; refine Zq ?_) | (refine Zi ?_; refine Zr ?_) | intro _)
   cases hco : ZN ⟨x1, [], []⟩
   all_goals rw [hco] at hck hB2
   all_goals (repeat' (first | (refine Zd (.func 30) ?_; refine qC rfl rfl (hck _) ?_; rintro v ρ' L' hle ⟨rfl, rfl, rfl⟩ <;> (try simp only [kM, kN, kO, if_true, if_false, Bool.false_eq_true])) | (refine Zd (.func 110) ?_; refine qC rfl rfl (Xc _ bt br all b1 _ _ _ a1 n1 c1 st1 _) ?_; rintro v ρ' L' hle ⟨rfl, rfl, rfl⟩ <;> (try simp only [kM, kN, kO, hB2])) | (refine Zg ?_; first | (refine Ze ?_; refine qQ ?_) | refine Zj ?_) | refine Za ?_ | (refine Zh ?_; refine Zq ?_) | (refine Zi ?_; refine Zr ?_) | intro _))
   all_goals exact qE ⟨Hp.le_refl _, ⟨none, 0, 0, none, 0, 0⟩, a1, n1, c1, rfl, CIn.nil, h1, hc1, rfl⟩
  ·have hlf := fun ρ (h : SIn ρ Zs a1 n1 l1) => tinner_spec ρ bt br all b1 (.int .i64 x1) (.slice none 0 0) (.slice none 0 0) rfl rfl rfl a1 n1 c1 l1 h hc1 st1
   have hm : WI x1 l1 st1 b1 = (([], (YT Xv l1 st1 b1).1), (YT Xv l1 st1 b1).2) := by rw [WI, if_pos hok, if_neg (by omega), if_pos (by omega)]
   rw [hm] at hq
   generalize YT Xv l1 st1 b1 = m at *
   obtain ⟨xs, l2, st2, b2⟩ := m
   dsimp only at hq hlf
   have hck := fun ρ w h => XD ρ w ⟨x1, [], xs⟩ h
   simp only [contE] at hq
   generalize hB2 : Xi b2 st2 (ZN ⟨x1, [], xs⟩) = b3 at *
   subst hq
   repeat' (first | (refine Zd (.func 113) ?_; refine qC rfl rfl (ok_spec _ bt br all b1 _ _ _ a1 n1 c1 st1) ?_; rintro v ρ' L' hle ⟨rfl, rfl, rfl⟩ <;> (try simp only [kM, kN, kO, hok])) | (refine Zd (.tmp 40) ?_; refine qC rfl rfl (hlf _ h1) ?_; rintro v ρ' L' hle ⟨rfl, hle2, sa, sn, sc, a2, n2, c2, hsc, hs255, hA, h2, hc2, rfl⟩ <;> (try simp only [kM, kN, kO])) | (refine Zg ?_; first | (refine Ze ?_; refine qQ ?_) | refine Zj ?_) | refine Za ?_ | (refine Zh ?_; refine Zq ?_) | (refine Zi ?_; refine Zr ?_) | intro _)
   have hC : CIn ρ' ⟨none, 0, 0, sa, sn, sc⟩ [] xs := ⟨AIn.nil, hA, Nat.zero_le _, by dsimp only; omega, Nat.le_refl _, hsc⟩
   cases hco : ZN ⟨x1, [], xs⟩
   all_goals rw [hco] at hck hB2
   all_goals (repeat' (first | (refine Zd (.func 30) ?_; refine qC rfl rfl (hck _ _ hC) ?_; rintro v ρ' L' hle ⟨rfl, rfl, rfl⟩ <;> (try simp only [kM, kN, kO, if_true, if_false, Bool.false_eq_true])) | (refine Zd (.func 110) ?_; refine qC rfl rfl (Xc _ bt br all b2 _ _ _ a2 n2 c2 st2 _) ?_; rintro v ρ' L' hle ⟨rfl, rfl, rfl⟩ <;> (try simp only [kM, kN, kO, hB2])) | (refine Zg ?_; first | (refine Ze ?_; refine qQ ?_) | refine Zj ?_) | refine Za ?_ | (refine Zh ?_; refine Zq ?_) | (refine Zi ?_; refine Zr ?_) | intro _))
   all_goals exact qE ⟨hle2, ⟨none, 0, 0, sa, sn, sc⟩, a2, n2, c2, rfl, hC, h2, hc2, rfl⟩
 ·rw [decide_eq_true (show (x1 : Int) ≤ 2 by omega)] at hB1
  repeat' (first | (refine Zd (.func 109) ?_; refine qC rfl rfl (hn1) ?_; rintro v ρ' L' hle ⟨rfl, rfl, a1, n1, c1, h1, hc1, rfl⟩ <;> (try simp only [kM, kN, kO])) | (refine Zd (.func 110) ?_; refine qC rfl rfl (Xc _ bt br all false _ _ _ a1 n1 c1 st1 _) ?_; rintro v ρ' L' hle ⟨rfl, rfl, rfl⟩ <;> (try simp only [kM, kN, kO, hB1])) | (refine WD rfl rfl rfl hnil (fun es1 ck1 i1 i2 => ?_)) | (refine WD rfl rfl rfl i1 (fun es2 ck2 j1 j2 => ?_); have hg := j2 (x1 : Int); rw [i2, if_neg (by omega), if_neg (by omega), hg0] at hg) | (refine Zg ?_; first | (refine Ze ?_; refine qQ ?_) | refine Zj ?_) | refine Za ?_ | (refine Zh ?_; refine Zq ?_) | (refine Zi ?_; refine Zr ?_) | intro _)
  have hm : WI x1 l1 st1 b1 = (([], []), l1, st1, b1) := by
   rw [WI]
   split
   ·rw [if_neg (by omega), if_neg (by omega)]
   ·rfl
  rw [hm] at hq
  have hck := fun ρ => XD ρ ⟨none, 0, 0, none, 0, 0⟩ ⟨x1, [], []⟩ CIn.nil
  simp only [contE] at hq
  generalize hB2 : Xi b1 st1 (ZN ⟨x1, [], []⟩) = b2 at *
  subst hq
  cases hco : ZN ⟨x1, [], []⟩
  all_goals rw [hco] at hck hB2
  all_goals (repeat' (first | (refine Zd (.func 30) ?_; refine qC rfl rfl (hck _) ?_; rintro v ρ' L' hle ⟨rfl, rfl, rfl⟩ <;> (try simp only [kM, kN, kO, if_true, if_false, Bool.false_eq_true])) | (refine Zd (.func 110) ?_; refine qC rfl rfl (Xc _ bt br all b1 _ _ _ a1 n1 c1 st1 _) ?_; rintro v ρ' L' hle ⟨rfl, rfl, rfl⟩ <;> (try simp only [kM, kN, kO, hB2])) | (refine Zg ?_; first | (refine Ze ?_; refine qQ ?_) | refine Zj ?_) | refine Za ?_ | (refine Zh ?_; refine Zq ?_) | (refine Zi ?_; refine Zr ?_) | intro _))
  all_goals exact qE ⟨Hp.le_refl _, ⟨none, 0, 0, none, 0, 0⟩, a1, n1, c1, rfl, CIn.nil, h1, hc1, rfl⟩
 ·rw [decide_eq_false (show ¬ (x1 : Int) ≤ 2 by omega)] at hB1
  repeat' (first | (refine Zd (.func 109) ?_; refine qC rfl rfl (hn1) ?_; rintro v ρ' L' hle ⟨rfl, rfl, a1, n1, c1, h1, hc1, rfl⟩ <;> (try simp only [kM, kN, kO])) | (refine Zd (.func 110) ?_; refine qC rfl rfl (Xc _ bt br all false _ _ _ a1 n1 c1 st1 _) ?_; rintro v ρ' L' hle ⟨rfl, rfl, rfl⟩ <;> (try simp only [kM, kN, kO, hB1])) | (refine WD rfl rfl rfl hnil (fun es1 ck1 i1 i2 => ?_)) | (refine WD rfl rfl rfl i1 (fun es2 ck2 j1 j2 => ?_); have hg := j2 (x1 : Int); rw [i2, if_neg (by omega), if_neg (by omega), hg0] at hg) | (refine Zg ?_; first | (refine Ze ?_; refine qQ ?_) | refine Zj ?_) | refine Za ?_ | (refine Zh ?_; refine Zq ?_) | (refine Zi ?_; refine Zr ?_) | intro _)
  have hm : WI x1 l1 st1 b1 = (([], []), l1, st1, b1) := by
   rw [WI]
   split
   ·rw [if_neg (by omega), if_neg (by omega)]
   ·rfl
  rw [hm] at hq
  have hck := fun ρ => XD ρ ⟨none, 0, 0, none, 0, 0⟩ ⟨x1, [], []⟩ CIn.nil
  simp only [contE] at hq
  generalize hB2 : Xi b1 st1 (ZN ⟨x1, [], []⟩) = b2 at *
  subst hq
  cases hco : ZN ⟨x1, [], []⟩
  all_goals rw [hco] at hck hB2
  all_goals (repeat' (first | (refine Zd (.func 30) ?_; refine qC rfl rfl (hck _) ?_; rintro v ρ' L' hle ⟨rfl, rfl, rfl⟩ <;> (try simp only [kM, kN, kO, if_true, if_false, Bool.false_eq_true])) | (refine Zd (.func 110) ?_; refine qC rfl rfl (Xc _ bt br all b1 _ _ _ a1 n1 c1 st1 _) ?_; rintro v ρ' L' hle ⟨rfl, rfl, rfl⟩ <;> (try simp only [kM, kN, kO, hB2])) | (refine Zg ?_; first | (refine Ze ?_; refine qQ ?_) | refine Zj ?_) | refine Za ?_ | (refine Zh ?_; refine Zq ?_) | (refine Zi ?_; refine Zr ?_) | intro _))
  all_goals exact qE ⟨Hp.le_refl _, ⟨none, 0, 0, none, 0, 0⟩, a1, n1, c1, rfl, CIn.nil, h1, hc1, rfl⟩
theorem WN (k : Nat) (l : List UInt8) (st : Int) : (Yg k l st).2.1.length ≤ l.length := by
 unfold Yg; split
 ·exact Nat.le_refl _
 ·split
  ·exact Nat.le_refl _
  ·simp
theorem rawR_len (k : Nat) (l : List UInt8) (st : Int) : (rawR k l st).2.1.length ≤ l.length := by
 unfold rawR; split
 ·exact Nat.le_refl _
 ·split
  ·exact Nat.le_refl _
  ·simp
theorem rowR_len (l : List UInt8) (st : Int) (bad : Bool) : (XY l st bad).2.1.length ≤ l.length := by
 unfold XY
 dsimp only
 have e1 := WN 1 l st
 generalize Yg 1 l st = r1 at *
 have e2 := WN 2 r1.2.1 r1.2.2
 generalize Yg 2 r1.2.1 r1.2.2 = r2 at *
 have e3 := WN 8 r2.2.1 r2.2.2
 generalize Yg 8 r2.2.1 r2.2.2 = r3 at *
 have e4 := WN 1 r3.2.1 r3.2.2
 generalize Yg 1 r3.2.1 r3.2.2 = r4 at *
 have e5 := rawR_len r4.1 r4.2.1 r4.2.2
 split
 ·split <;> dsimp only <;> omega
 ·dsimp only; omega
theorem kidR_len (l : List UInt8) (st : Int) : (kidR l st).2.1.length ≤ l.length := by
 unfold kidR
 dsimp only
 have e1 := WN 1 l st
 generalize Yg 1 l st = r1 at *
 have e2 := WN 2 r1.2.1 r1.2.2
 generalize Yg 2 r1.2.1 r1.2.2 = r2 at *
 have e3 := WN 1 r2.2.1 r2.2.2
 omega
theorem manyTo_len {α : Type} {f : List UInt8 → Int → Bool → α × RS3} (hf : ∀ l st bad, (f l st bad).2.1.length ≤ l.length) : ∀ (n : Nat) (l : List UInt8) (st : Int) (bad : Bool), (Xo f n l st bad).2.1.length ≤ l.length
 | 0, l, st, bad => Nat.le_refl _
 | n + 1, l, st, bad => by
  rw [Xo]
  split
  ·exact Nat.le_trans (manyTo_len hf n _ _ _) (hf l st bad)
  ·exact Nat.le_refl _
theorem manyR_len {α : Type} {f : List UInt8 → Int → Bool → α × RS3} (hf : ∀ l st bad, (f l st bad).2.1.length ≤ l.length) (l : List UInt8) (st : Int) (bad : Bool) : (YT f l st bad).2.1.length ≤ l.length :=
 Nat.le_trans (manyTo_len hf _ _ _ _) (WN 1 l st)
theorem contentR_len (l : List UInt8) : (YC l).2.1.length ≤ l.length := by
 unfold YC contE
 dsimp only
 have e1 := WN 1 l 0
 generalize Yg 1 l 0 = r1 at *
 have h2 : ∀ b, (WI r1.1 r1.2.1 r1.2.2 b).2.1.length ≤ r1.2.1.length := fun b => by
  unfold WI
  have a1 := manyR_len (f := XY) rowR_len r1.2.1 r1.2.2 b
  have a2 := manyR_len (f := Xv) (fun l st bad => kidR_len l st) r1.2.1 r1.2.2 b
  split
  ·split
   ·exact a1
   ·split
    ·exact a2
    ·exact Nat.le_refl _
  ·exact Nat.le_refl _
 exact Nat.le_trans (h2 _) e1
def Wa (l : List UInt8) : Row × Int × Int :=
 let r := XY l 0 false
 (if r.2.2.2 || decide (r.2.2.1 ≠ 0) then ⟨0, 0, 0, []⟩ else r.1, takenN l.length r.2.1.length r.2.2.2 r.2.2.1, Wk r.2.2.2 r.2.2.1)
def Zz (l : List UInt8) : Yr × Int × Int :=
 let r := YC l
 (if r.2.2.2 || decide (r.2.2.1 ≠ 0) then ⟨0, [], []⟩ else r.1, takenN l.length r.2.1.length r.2.2.2 r.2.2.1, Wk r.2.2.2 r.2.2.1)
theorem takeCont_spec (ρ : Hp) (a : Option Addr) (n c : Nat) (l : List UInt8) (h : SIn ρ Zs a n l) (hn : n ≤ 1000000) :
  Spec Tryz.prog 90 [.slice a n c] ρ [] (fun v ρ' L' => ρ.le ρ' ∧ ∃ w, v = .tuple ⟨[.agg ⟨Yt (Zz l).1.kind w⟩, .int .i64 (Zz l).2.1, .int .i64 (Zz l).2.2]⟩ ∧ CIn ρ' w (Zz l).1.rows (Zz l).1.kids ∧ L' = []) := by
 have hf := from_spec ρ a n c l h hn
 have hl := h.len
 have hlen := contentR_len l
 unfold Zz
 dsimp only
 rw [hl] at hlen ⊢
 refine Zf Tryz.func90 rfl rfl rfl fun u R => ?_
 simp only [Zv, List.cons_append, List.nil_append]
 repeat' (first | (refine Zd (.func 97) ?_; refine qC rfl rfl (hf) ?_; rintro v ρ' L' hle ⟨hle1, bt, br, a1, c1, rfl, hc1, h1, rfl⟩ <;> (try simp only [kM, kN, kO])) | (refine Zg ?_; first | (refine Ze ?_; refine qQ ?_) | refine Zj ?_) | refine Za ?_ | (refine Zh ?_; refine Zq ?_) | (refine Zi ?_; refine Zr ?_) | intro _)
 have hr := content_spec _ bt br n a1 n c1 l h1 hc1
 generalize YC l = r at *
 obtain ⟨x, l2, st2, b2⟩ := r
 dsimp only at hr hlen ⊢
 repeat' (first | (refine Zd (.func 99) ?_; refine qC rfl rfl (hr) ?_; rintro v ρ' L' hle ⟨hle2, w, a2, n2, c2, rfl, hC, h2, hc2, rfl⟩ <;> (try simp only [kM, kN, kO])) | (refine Zg ?_; first | (refine Ze ?_; refine qQ ?_) | refine Zj ?_) | refine Za ?_ | (refine Zh ?_; refine Zq ?_) | (refine Zi ?_; refine Zr ?_) | intro _)
 have hl2 := h2.len
 rw [hl2]
 have ht := fun ρ => takenCont_spec ρ bt br n hn b2 (.int .i64 x.kind) (.slice w.ra w.rn w.rc) (.slice w.ka w.kn w.kc) a2 n2 c2 st2 x.kind w (by omega)
 by_cases hb : (b2 || decide (st2 ≠ 0)) = true
 ·rw [if_pos hb] at ht
  rw [if_pos hb]
  repeat' (first | (refine Zd (.func 98) ?_; refine qC rfl rfl (ht _) ?_; rintro v ρ' L' hle ⟨rfl, rfl, rfl⟩ <;> (try simp only [kM, kN, kO])) | (refine Zg ?_; first | (refine Ze ?_; refine qQ ?_) | refine Zj ?_) | refine Za ?_ | (refine Zh ?_; refine Zq ?_) | (refine Zi ?_; refine Zr ?_) | intro _)
  exact qE ⟨Hp.le_trans hle1 hle2, ⟨none, 0, 0, none, 0, 0⟩, rfl, CIn.nil, rfl⟩
 ·rw [if_neg hb] at ht
  rw [if_neg hb]
  repeat' (first | (refine Zd (.func 98) ?_; refine qC rfl rfl (ht _) ?_; rintro v ρ' L' hle ⟨rfl, rfl, rfl⟩ <;> (try simp only [kM, kN, kO])) | (refine Zg ?_; first | (refine Ze ?_; refine qQ ?_) | refine Zj ?_) | refine Za ?_ | (refine Zh ?_; refine Zq ?_) | (refine Zi ?_; refine Zr ?_) | intro _)
  exact qE ⟨Hp.le_trans hle1 hle2, w, rfl, hC, rfl⟩
def tB (t : Int) : UInt8 := UInt8.ofNat t.toNat
def Xf (t : Int) (id : Nat) : List UInt8 := tB t :: be 2 id
def vN (v : Int) : Nat := (IntKind.u64.wrap v).toNat
theorem vN_eq (v : Int) : IntKind.u64.wrap v = (vN v : Nat) := by
 have : 0 ≤ IntKind.u64.wrap v := by simp only [IntKind.wrap, IntKind.bits, IntKind.signed, Bool.false_and, Bool.false_eq_true, if_false]; omega
 simp [vN]; omega
theorem vN_lt (v : Int) : vN v < 18446744073709551616 := by
 have : IntKind.u64.wrap v < 18446744073709551616 := by simp only [IntKind.wrap, IntKind.bits, IntKind.signed, Bool.false_and, Bool.false_eq_true, if_false]; omega
 have h := vN_eq v
 omega
def ZL (r : Row) : List UInt8 := Xf r.t r.id ++ (be 8 (vN r.val) ++ (UInt8.ofNat r.note.length :: r.note))
theorem tB_eq {t : Int} (h0 : 0 ≤ t) (h1 : t < 256) : Value.int .u8 t = Zs (tB t) := by
 obtain ⟨n, rfl⟩ : ∃ n : Nat, t = n := ⟨t.toNat, by omega⟩
 simp only [Zs, tB, Int.toNat_natCast, UInt8.toNat_ofNat']
 congr 1
 have e : (2 : Nat) ^ 8 = 256 := by decide
 rw [e]
 omega
theorem key_spec (ρ : Hp) (v : Value) (n : Nat) (l : List UInt8) (sp : List Value) (hown : OwnS v n (l.map Zs) sp 1) (hn : n ≤ 100000) (t : Int) (id : Nat) (h0 : 0 ≤ t) (h3 : t < 256) (hid : id < 65536) :
  Spec Tryz.prog 83 [v, .agg ⟨keyV t id⟩] ρ [Ye v (l.map Zs) sp 5] (fun r ρ' L' => ρ.le ρ' ∧ ∃ sp', OwnS r (n + 3) ((l ++ Xf t id).map Zs) sp' 1 ∧ L' = [Ye r ((l ++ Xf t id).map Zs) sp' 5]) := by
 have hl : l.length = n := by obtain ⟨_, _, _, h⟩ := hown.len; simpa using h
 refine Zf Tryz.func83 rfl rfl rfl fun u R => ?_
 simp only [Zv, List.cons_append, List.nil_append]
 repeat' (first | (refine Zg ?_; first | (refine Ze ?_; refine qQ ?_) | refine Zj ?_) | refine Za ?_ | (refine Zh ?_; refine Zq ?_) | (refine Zi ?_; refine Zr ?_) | intro _)
 rename_i b3
 refine ZD (Zo _ _ ([[(b3, .cells ⟨keyV t id⟩ 63 (0, 0))]])) (Zx (hT := tk) (Hp.le_refl _)) ?_
 all_goals (refine ZO 0 ?_; refine rFa 1 ?_; refine rLd 2 ?_; refine rCv 3 ?_; refine rFa 6 ?_; refine rLd 7 ?_)
 all_goals (refine Zn (i := 4) ?_; ((try refine Zk ?_); (first | (refine ZC rfl rfl rfl rfl (by simp) rfl rfl (fun _ => ?_); simp only [tB_eq h0 h3]) | (refine Zj ?_; try intro _)) <;> ((try simp only [kM, kN, kO]); refine Za ?_; refine Zl ?_)))
 all_goals (refine Zn (i := 5) ?_; ((try refine Zk ?_); (first | (refine Yh (ys := [Zs (tB t)]) (m := 1) rfl rfl hown (hR := by infer_instance) SrcV.lit rfl rfl (by decide) rfl (by omega) (by omega) rfl (fun v' sp' hown' => ?_); rw [show l.map Zs ++ [Zs (tB t)] = (l ++ [tB t]).map Zs by simp] at hown' ⊢; refine Xe _ (h := Rem.here) (fun ρ2 hle2 hfz => ?_); obtain ⟨a', c', rfl, hc', hs⟩ := hown'.sIn hfz) | (refine Zj ?_; try intro _)) <;> ((try simp only [kM, kN, kO]); refine Za ?_; refine Zl ?_)))
 all_goals (refine Zn (i := 8) ?_; ((try refine Zk ?_); (first | (refine Zd (.func 93) ?_; refine qC rfl rfl (put16_spec _ a' _ c' _ hs id hid (by omega)) ?_; rintro v ρ' L' hle ⟨rfl, sp2, hown2, rfl⟩ <;> (try simp only [kM, kN, kO])) | (refine Zj ?_; try intro _)) <;> ((try simp only [kM, kN, kO]); refine Za ?_; refine Zl ?_)))
 all_goals (refine ZR ?_; refine rAs 9 ?_; refine ZH ?_)
 have e : l ++ [tB t] ++ be 2 id = l ++ Xf t id := by rw [List.append_assoc]; rfl
 rw [e] at hown2 ⊢
 repeat' (first | (refine Zg ?_; first | (refine Ze ?_; refine qQ ?_) | refine Zj ?_) | refine Za ?_ | (refine Zh ?_; refine Zq ?_) | (refine Zi ?_; refine Zr ?_) | intro _)
 exact qE ⟨hle2, sp2, hown2, rfl⟩
theorem rowOk_iff {r : Row} (h : YI r = true) : 0 ≤ r.t ∧ r.t < 3 ∧ r.note.length ≤ 8 := by
 have := of_decide_eq_true h
 exact ⟨this.1.1, this.1.2, this.2⟩
theorem lenB {n : Nat} (h : n ≤ 200) : Value.int .u8 (n : Int) = Zs (UInt8.ofNat n) := by
 simp only [Zs, UInt8.toNat_ofNat']
 congr 1
 have e : (2 : Nat) ^ 8 = 256 := by decide
 rw [e]
 omega
theorem claid_spec (ρ : Hp) (v : Value) (n : Nat) (l : List UInt8) (sp : List Value) (hown : OwnS v n (l.map Zs) sp 1) (hn : n ≤ 1000) (r : Row) (hr : YI r = true) (hid : r.id < 65536) :
  Spec Tryz.prog 82 [v, .agg ⟨Yp r⟩] ρ [Ye v (l.map Zs) sp 5] (fun q ρ' L' => ρ.le ρ' ∧ ∃ sp', OwnS q (n + (ZL r).length) ((l ++ ZL r).map Zs) sp' 1 ∧ L' = [Ye q ((l ++ ZL r).map Zs) sp' 5]) := by
 obtain ⟨h0, h3, h8⟩ := rowOk_iff hr
 have hl : l.length = n := by obtain ⟨_, _, _, h⟩ := hown.len; simpa using h
 have hvl := vN_lt r.val
 have hkb : (Xf r.t r.id).length = 3 := by simp [Xf, ZJ]
 have hlb := lenB (n := r.note.length) (by omega)
 refine Zf Tryz.func82 rfl rfl rfl fun u R => ?_
 simp only [Zv, List.cons_append, List.nil_append]
 repeat' (first | (refine Zg ?_; first | (refine Ze ?_; refine qQ ?_) | refine Zj ?_) | refine Za ?_ | (refine Zh ?_; refine Zq ?_) | (refine Zi ?_; refine Zr ?_) | intro _)
 rename_i b3
 refine ZD (Zo _ _ ([[(b3, .cells ⟨Yp r⟩ 65 (0, 0))]])) (Zx (hT := tk) (Hp.le_refl _)) ?_
 all_goals (refine ZO 0 ?_; refine rFa 1 ?_; refine rLd 2 ?_; refine rFa 4 ?_; refine rLd 5 ?_; refine rCv 6 ?_)
 all_goals (refine Zn (i := 3) ?_; ((try refine Zk ?_); (first | (simp only [vN_eq]; refine Zd (.func 83) ?_; refine qC rfl rfl (key_spec _ v n l sp hown (by omega) r.t r.id h0 (by omega) hid) ?_; rintro v1 ρ1 L1 hle0 ⟨hle1, sp1, hown1, rfl⟩; simp only [List.cons_append, List.nil_append]; refine Xe _ (h := Rem.here) (fun ρ2 hle2 hfz => ?_); obtain ⟨a1, c1, rfl, hc1, hs1⟩ := hown1.sIn hfz) | (refine Zj ?_; try intro _)) <;> ((try simp only [kM, kN, kO]); refine Za ?_; refine Zl ?_)))
 all_goals (refine Zn (i := 7) ?_; ((try refine Zk ?_); (first | (refine Zd (.func 58) ?_; refine qC rfl rfl (put64_spec _ a1 _ c1 _ hs1 (vN r.val) hvl (by omega)) ?_; rintro v ρ' L' hle ⟨rfl, sp3, hown3, rfl⟩ <;> (try simp only [kM, kN, kO])) | (refine Zj ?_; try intro _)) <;> ((try simp only [kM, kN, kO]); refine Za ?_; refine Zl ?_)))
 all_goals (refine ZR ?_; refine rAs 8 ?_; refine ZH ?_)
 repeat' (first | (refine Zg ?_; first | (refine Ze ?_; refine qQ ?_) | refine Zj ?_) | refine Za ?_ | (refine Zh ?_; refine Zq ?_) | (refine Zi ?_; refine Zr ?_) | intro _)
 refine ZD (Zo _ _ ([[(b3, .cells ⟨Yp r⟩ 65 (0, 0))]])) (Zx (hT := tk) (Hp.le_refl _)) ?_
 all_goals (refine ZO 0 ?_; refine rFa 1 ?_; refine rLd 2 ?_; refine rBi 3 ?_; refine rCv 4 ?_; refine rFa 7 ?_; refine rLd 8 ?_)
 all_goals (refine Zn (i := 5) ?_; ((try refine Zk ?_); (first | (refine ZC rfl rfl rfl rfl (by simp) rfl rfl (fun _ => ?_); simp only [hlb]) | (refine Zj ?_; try intro _)) <;> ((try simp only [kM, kN, kO]); refine Za ?_; refine Zl ?_)))
 all_goals (refine Zn (i := 6) ?_; ((try refine Zk ?_); (first | (refine Yh (ys := [Zs (UInt8.ofNat r.note.length)]) (m := 1) rfl rfl hown3 (hR := by infer_instance) SrcV.lit rfl rfl (by decide) rfl (by omega) (by omega) rfl (fun v4 sp4 hown4 => ?_)) | (refine tl_app_str (l := r.note) rfl rfl hown4 (hR := by infer_instance) (by omega) rfl (fun v5 sp5 hown5 => ?_)) | (refine Zj ?_; try intro _)) <;> ((try simp only [kM, kN, kO]); refine Za ?_; refine Zl ?_)))
 all_goals (refine Zn (i := 9) ?_; ((try refine Zk ?_); (first | (refine Yh (ys := [Zs (UInt8.ofNat r.note.length)]) (m := 1) rfl rfl hown3 (hR := by infer_instance) SrcV.lit rfl rfl (by decide) rfl (by omega) (by omega) rfl (fun v4 sp4 hown4 => ?_)) | (refine tl_app_str (l := r.note) rfl rfl hown4 (hR := by infer_instance) (by omega) rfl (fun v5 sp5 hown5 => ?_)) | (refine Zj ?_; try intro _)) <;> ((try simp only [kM, kN, kO]); refine Za ?_; refine Zl ?_)))
 all_goals (refine ZR ?_; refine rAs 10 ?_; refine ZH ?_)
 have e : (l ++ Xf r.t r.id ++ be 8 (vN r.val)).map Zs ++ [Zs (UInt8.ofNat r.note.length)] ++ r.note.map Zs = (l ++ ZL r).map Zs := by simp [ZL]
 have e2 : n + 3 + 8 + 1 + r.note.length = n + (ZL r).length := by simp [ZL, hkb, ZJ]; omega
 rw [e] at hown5 ⊢
 rw [e2] at hown5
 repeat' (first | (refine Zg ?_; first | (refine Ze ?_; refine qQ ?_) | refine Zj ?_) | refine Za ?_ | (refine Zh ?_; refine Zq ?_) | (refine Zi ?_; refine Zr ?_) | intro _)
 exact qE ⟨Hp.le_trans hle1 hle2, sp5, hown5, rfl⟩
def Yj (k : Kid) : List UInt8 := Xf k.t k.id ++ [tB k.page]
def cntB (c : Yr) : List UInt8 := if c.kind = 0 then [] else [UInt8.ofNat (c.rows.length + c.kids.length)]
def Yk (c : Yr) : List UInt8 := tB c.kind :: cntB c ++ (c.rows.flatMap ZL ++ c.kids.flatMap Yj)
theorem risesB_true {α : Type} {most : Nat} {right : Nat → α → Bool} {lt : α → α → Bool} {l : List α} : ∀ {k : Nat}, Ym most right lt l k = true → k ≤ l.length → l.length ≤ most ∧ ∀ i (h : i < l.length), i < k → right i l[i] = true ∧ (i = 0 ∨ lt (l[i - 1]'(by omega)) l[i] = true)
 | 0, h, _ => ⟨of_decide_eq_true h, fun i _ hi => by omega⟩
 | k + 1, h, hk => by
  rw [risesB_succ (show k < l.length by omega), Bool.and_eq_true, Bool.and_eq_true] at h
  obtain ⟨h1, h2, h3⟩ := h
  obtain ⟨g1, g2⟩ := risesB_true h1 (by omega)
  refine ⟨g1, fun i hi hik => ?_⟩
  by_cases e : i < k
  ·exact g2 i hi e
  ·have : i = k := by omega
   subst this
   refine ⟨h2, ?_⟩
   simpa using h3
structure ContOk (c : Yr) : Prop where
 kind : c.kind = 0 ∧ c.rows = [] ∧ c.kids = [] ∨ c.kind = 1 ∧ c.kids = [] ∨ c.kind = 2 ∧ c.rows = [] ∧ 1 < c.kids.length
 rl : c.rows.length ≤ 4
 kl : c.kids.length ≤ 4
 row : ∀ r ∈ c.rows, YI r = true
 kid : ∀ k ∈ c.kids, (0 ≤ k.t ∧ k.t < 3) ∧ 0 < k.page ∧ k.page < 64
theorem XE {c : Yr} (h : ZN c = true) : ContOk c := by
 obtain ⟨kind, rows, kids⟩ := c
 unfold ZN at h
 dsimp only at h
 split at h
 ·rename_i hk
  have hz := of_decide_eq_true h
  have h1 : rows = [] := List.eq_nil_of_length_eq_zero (by omega)
  have h2 : kids = [] := List.eq_nil_of_length_eq_zero (by omega)
  subst h1; subst h2
  exact ⟨.inl ⟨hk, rfl, rfl⟩, by simp, by simp, by simp, by simp⟩
 ·split at h
  ·rename_i hk
   rw [Bool.and_eq_true] at h
   have h2 : kids = [] := List.eq_nil_of_length_eq_zero (of_decide_eq_true h.1)
   subst h2
   obtain ⟨g1, g2⟩ := risesB_true h.2 (Nat.le_refl _)
   refine ⟨.inr (.inl ⟨hk, rfl⟩), g1, by simp, fun r hr => ?_, by simp⟩
   obtain ⟨i, hi, rfl⟩ := List.mem_iff_getElem.1 hr
   exact (g2 i hi hi).1
  ·split at h
   ·rename_i hk
    rw [Bool.and_eq_true, Bool.and_eq_true] at h
    have h1 : rows = [] := List.eq_nil_of_length_eq_zero (of_decide_eq_true h.1)
    subst h1
    obtain ⟨g1, g2⟩ := risesB_true h.2.2 (Nat.le_refl _)
    refine ⟨.inr (.inr ⟨hk, rfl, of_decide_eq_true h.2.1⟩), by simp, g1, by simp, fun k hk => ?_⟩
    obtain ⟨i, hi, rfl⟩ := List.mem_iff_getElem.1 hk
    have := of_decide_eq_true (g2 i hi hi).1
    exact ⟨this.2.2.2.1, this.2.1, this.2.2.1⟩
   ·cases h
theorem rowB_len {r : Row} (h : YI r = true) : (ZL r).length = 12 + r.note.length := by simp [ZL, Xf, ZJ]; omega
theorem rowB_le {r : Row} (h : YI r = true) : (ZL r).length ≤ 20 := by rw [rowB_len h]; have := (rowOk_iff h).2.2; omega
theorem WM (k : Kid) : (Yj k).length = 4 := by simp [Yj, Xf, ZJ]
theorem Xn {α : Type} (f : α → List UInt8) (m : Nat) : ∀ (l : List α), (∀ x ∈ l, (f x).length ≤ m) → (l.flatMap f).length ≤ l.length * m
 | [], _ => by simp
 | x :: r, h => by
  have h1 := h x (by simp)
  have ih := Xn f m r (fun y hy => h y (by simp [hy]))
  simp only [List.flatMap_cons, List.length_append, List.length_cons, Nat.add_mul]; omega
theorem Xb {α : Type} (f : α → List UInt8) (l : List α) (k : Nat) (h : k < l.length) : (l.take (k + 1)).flatMap f = (l.take k).flatMap f ++ f l[k] := by
 rw [List.take_succ_eq_append_getElem h, List.flatMap_append]; simp
theorem contE_spec (ρ : Hp) (w : CV) (c : Yr) (h : CIn ρ w c.rows c.kids) (hir : ∀ r ∈ c.rows, r.id < 65536) (hik : ∀ k ∈ c.kids, k.id < 65536) :
  Spec Tryz.prog 57 [.agg ⟨Yt c.kind w⟩] ρ [] (fun v ρ' L' => ρ.le ρ' ∧ ∃ a n c', v = .tuple ⟨[.slice a n c', .int .i64 (if ZN c then 0 else 160)]⟩ ∧ n ≤ c' ∧ SIn ρ' Zs a n (if ZN c then Yk c else []) ∧ L' = []) := by
 have hck := fun ρ h => XD ρ w c h
 refine Zf Tryz.func57 rfl rfl rfl fun u R => ?_
 simp only [Zv, List.cons_append, List.nil_append]
 cases hok : ZN c
 ·simp only [hok, Bool.false_eq_true, if_false] at hck ⊢
  repeat' (first | (refine Zd (.func 30) ?_; refine qC rfl rfl (hck _ h) ?_; rintro v ρ' L' hle ⟨rfl, rfl, rfl⟩ <;> (try simp only [kM, kN, kO])) | (refine Zg ?_; first | (refine Ze ?_; refine qQ ?_) | refine Zj ?_) | refine Za ?_ | (refine Zh ?_; refine Zq ?_) | (refine Zi ?_; refine Zr ?_) | intro _)
  exact qE ⟨Hp.le_refl _, none, 0, 0, rfl, Nat.le_refl _, SIn.nil, rfl⟩
 ·simp only [hok, if_true] at hck ⊢
  obtain ⟨hkind, hrl, hkl, hrow, hkid⟩ := XE hok
  have hk03 : 0 ≤ c.kind ∧ c.kind < 3 := by omega
  obtain ⟨kind, rows, kids⟩ := c
  obtain ⟨ra, rn, rc, ka, kn, kc⟩ := w
  obtain ⟨hr, hk, hrb, hkb, hrc, hkc⟩ := h
  dsimp only at hrc hkc hr hk hrb hkb hrow hkid hrl hkl hk03 hir hik ⊢
  have hrn := hr.len
  have hkn := hk.len
  have hcnt := lenB (n := rn + kn) (by omega)
  have hkB := tB_eq (t := kind) (by omega) (by omega)
  dsimp only [Yt] at hck ⊢
  by_cases hk0 : kind = 0
  ·obtain ⟨B0, hB0⟩ : ∃ B0, tB kind :: cntB ⟨kind, rows, kids⟩ = B0 := ⟨_, rfl⟩
   have hX : B0 = [tB kind] := by rw [← hB0]; simp [cntB, hk0]
   have hBl : B0.length ≤ 2 := by rw [hX]; simp
   repeat' (first | (refine Zd (.func 30) ?_; refine qC rfl rfl (hck _ ⟨hr, hk, hrb, hkb, hrc, hkc⟩) ?_; rintro v ρ' L' hle ⟨rfl, rfl, rfl⟩ <;> (try simp only [kM, kN, kO])) | (refine ZC rfl rfl rfl rfl (by simp) rfl rfl (fun _ => ?_); simp only [hkB]) | (refine Zg ?_; first | (refine Ze ?_; refine qQ ?_) | refine Zj ?_) | refine Za ?_ | (refine Zh ?_; refine Zq ?_) | (refine Zi ?_; refine Zr ?_) | intro _)
   rename_i b1 b2
   rw [show [Zs (tB kind)] = B0.map Zs by rw [hX]; rfl, own_chunk b2 1 1]
   have hown0 : OwnS (.slice (some ⟨b2, 0, none⟩) 1 1) B0.length (B0.map Zs) [] 1 := ⟨.inr ⟨b2, 1, by rw [hX]; rfl, by simp, by simp [hX], by simp [hX]⟩⟩
   generalize Value.slice (some ⟨b2, 0, none⟩) 1 1 = v0 at *
   rw [show B0.map Zs = (B0 ++ (rows.take 0).flatMap ZL).map Zs by simp]
   refine ZB [(1, _), (2, _), (3, _), (34, _), (35, _)] (fun (ζ : (Nat) × (Hp) × (Value) × (List Value)) => [(36, .int .i64 ζ.1), (5, ζ.2.2.1)]) (fun (ζ : (Nat) × (Hp) × (Value) × (List Value)) => ζ.2.1) (fun (ζ : (Nat) × (Hp) × (Value) × (List Value)) => [Ye ζ.2.2.1 ((B0 ++ (rows.take ζ.1).flatMap ZL).map Zs) ζ.2.2.2 5, [(b1, .cells ⟨[.int .i64 kind, .slice ra rn rc, .slice ka kn kc]⟩ 36 (0, 0))]]) (fun (ζ : (Nat) × (Hp) × (Value) × (List Value)) => ζ.1 ≤ rn ∧ ρ'.le ζ.2.1 ∧ OwnS ζ.2.2.1 (B0 ++ (rows.take ζ.1).flatMap ZL).length ((B0 ++ (rows.take ζ.1).flatMap ZL).map Zs) ζ.2.2.2 1) (fun (ζ : (Nat) × (Hp) × (Value) × (List Value)) => rn - ζ.1) ((0, ρ', v0, [])) (⟨Nat.zero_le _, Hp.le_refl _, by simpa using hown0⟩) Zm Zm rfl tk ?_
   rintro ⟨k, ρ1, v, sp⟩ hI
   try simp only [List.cons_append, List.nil_append, List.append_assoc, List.append_eq] at hI ⊢
   try dsimp only at hI ⊢
   obtain ⟨hkn0, hle1, hown⟩ := hI
   by_cases hlt : k < rn
   ·obtain ⟨b, off, C, T, fr, rfl, hb, hfit, hc⟩ := (hr.mono hle1).get (show k < rows.length by omega)
    have hmem : rows[k]'(by omega) ∈ rows := List.getElem_mem _
    have hro := hrow _ hmem
    have hid := hir _ hmem
    have hts := Xb ZL rows k (by omega)
    have hfl := Xn ZL 20 (rows.take k) (fun x hx => rowB_le (hrow x (List.mem_of_mem_take hx)))
    have htl : (rows.take k).length ≤ 4 := by simp; omega
    have hXl : (B0 ++ (rows.take k).flatMap ZL).length ≤ 100 := by simp only [List.length_append]; omega
    have hll : (B0 ++ (rows.take k).flatMap ZL).length + (ZL (rows[k]'(by omega))).length = (B0 ++ (rows.take (k + 1)).flatMap ZL).length := by rw [hts]; simp; omega
    have hmm : B0 ++ (rows.take k).flatMap ZL ++ ZL (rows[k]'(by omega)) = B0 ++ (rows.take (k + 1)).flatMap ZL := by rw [hts]; simp
    generalize rows[k]'(by omega) = x at *
    repeat' (first | (refine Zd (.func 82) ?_; refine qC rfl rfl (claid_spec _ v _ _ sp hown (by omega) x hro hid) ?_; rintro v2 ρ2 L2 hle0 ⟨hle2, sp2, hown2, rfl⟩; simp only [List.cons_append, List.nil_append, hmm]; rw [hmm, hll] at hown2) | (refine Zg ?_; first | (refine Ze ?_; refine qQ ?_) | refine Zj ?_) | refine Za ?_ | (refine Zh ?_; refine Zq ?_) | (refine Zi ?_; refine Zr ?_) | intro _)
    refine Zp (k + 1, _, v2, sp2) (⟨hlt, Hp.le_trans hle1 hle2, hown2⟩) Zm Zm rfl tk inferInstance (by first | omega | (dsimp only; omega))
   ·have hk2 : k = rn := by omega
    subst hk2
    rw [List.take_of_length_le (by omega)] at hown ⊢
    repeat' (first | (refine Zg ?_; first | (refine Ze ?_; refine qQ ?_) | refine Zj ?_) | refine Za ?_ | (refine Zh ?_; refine Zq ?_) | (refine Zi ?_; refine Zr ?_) | intro _)
    rw [show (B0 ++ rows.flatMap ZL).map Zs = (B0 ++ (rows.flatMap ZL ++ (kids.take 0).flatMap Yj)).map Zs by simp]
    refine ZB [(2, _), (3, _), (45, _), (46, _)] (fun (ζ : (Nat) × (Hp) × (Value) × (List Value)) => [(47, .int .i64 ζ.1), (5, ζ.2.2.1)]) (fun (ζ : (Nat) × (Hp) × (Value) × (List Value)) => ζ.2.1) (fun (ζ : (Nat) × (Hp) × (Value) × (List Value)) => [Ye ζ.2.2.1 ((B0 ++ (rows.flatMap ZL ++ (kids.take ζ.1).flatMap Yj)).map Zs) ζ.2.2.2 5]) (fun (ζ : (Nat) × (Hp) × (Value) × (List Value)) => ζ.1 ≤ kn ∧ ρ1.le ζ.2.1 ∧ OwnS ζ.2.2.1 (B0 ++ (rows.flatMap ZL ++ (kids.take ζ.1).flatMap Yj)).length ((B0 ++ (rows.flatMap ZL ++ (kids.take ζ.1).flatMap Yj)).map Zs) ζ.2.2.2 1) (fun (ζ : (Nat) × (Hp) × (Value) × (List Value)) => kn - ζ.1) ((0, ρ1, v, sp)) (⟨Nat.zero_le _, Hp.le_refl _, by simpa using hown⟩) Zm Zm rfl tk ?_
    rintro ⟨j, ρ2, v, sp⟩ hI
    try simp only [List.cons_append, List.nil_append, List.append_assoc, List.append_eq] at hI ⊢
    try dsimp only at hI ⊢
    have hfl := Xn ZL 20 rows (fun x hx => rowB_le (hrow x hx))
    obtain ⟨hj0, hle3, hown3⟩ := hI
    by_cases hlj : j < kn
    ·obtain ⟨b, off, C, T, fr, rfl, hb, hfit, hc⟩ := (hk.mono (Hp.le_trans hle1 hle3)).get (show j < kids.length by omega)
     have hmem : kids[j]'(by omega) ∈ kids := List.getElem_mem _
     have hko := hkid _ hmem
     have hid := hik _ hmem
     have hts := Xb Yj kids j (by omega)
     have hfk := Xn Yj 4 (kids.take j) (fun x hx => Nat.le_of_eq (WM x))
     have htl : (kids.take j).length ≤ 4 := by simp; omega
     have hXl : (B0 ++ (rows.flatMap ZL ++ (kids.take j).flatMap Yj)).length ≤ 200 := by simp only [List.length_append]; omega
     have hmm : B0 ++ (rows.flatMap ZL ++ (kids.take j).flatMap Yj) ++ Xf (kids[j]'(by omega)).t (kids[j]'(by omega)).id ++ [tB (kids[j]'(by omega)).page] = B0 ++ (rows.flatMap ZL ++ (kids.take (j + 1)).flatMap Yj) := by rw [hts]; simp [Yj]
     have hll : (B0 ++ (rows.flatMap ZL ++ (kids.take j).flatMap Yj)).length + 3 + 1 = (B0 ++ (rows.flatMap ZL ++ (kids.take (j + 1)).flatMap Yj)).length := by rw [hts]; simp [WM]; omega
     have hpg := tB_eq (t := (kids[j]'(by omega)).page) (by omega) (by omega)
     generalize kids[j]'(by omega) = x at *
     generalize hX : B0 ++ (rows.flatMap ZL ++ (kids.take j).flatMap Yj) = X at *
     repeat' (first | (refine Zg ?_; first | (refine Ze ?_; refine qQ ?_) | refine Zj ?_) | refine Za ?_ | (refine Zh ?_; refine Zq ?_) | (refine Zi ?_; refine Zr ?_) | intro _)
     rename_i b9
     refine ZD (Zo _ _ ([[(b9, .cells ⟨YY x⟩ 82 (0, 0))]])) (Zx (hT := tk) (Hp.le_refl _)) ?_
     all_goals (refine ZO 0 ?_; refine rFa 1 ?_; refine rLd 2 ?_; refine rFa 4 ?_; refine rLd 5 ?_; refine rCv 6 ?_)
     all_goals (refine Xh (i := 3) (j := 7) ?_ ?_ <;> ((try refine Zk ?_); (first | (refine Zd (.func 83) ?_; refine qC rfl rfl (key_spec _ v _ X sp hown3 (by omega) x.t x.id hko.1.1 (by omega) hid) ?_; rintro v2 ρ4 L2 hle0 ⟨hle4, sp4, hown4, rfl⟩; simp only [List.cons_append, List.nil_append]) | (refine ZC rfl rfl rfl rfl (by simp) rfl rfl (fun _ => ?_); simp only [hpg]) | (refine Zj ?_; try intro _)) <;> ((try simp only [kM, kN, kO]); refine Za ?_; refine Zl ?_)))
     all_goals (first | (refine Zn (i := 7) ?_; ((try refine Zk ?_); (first | (refine ZC rfl rfl rfl rfl (by simp) rfl rfl (fun _ => ?_); simp only [hpg]) | (refine Zj ?_; try intro _)) <;> ((try simp only [kM, kN, kO]); refine Za ?_; refine Zl ?_))) | (refine Zn (i := 3) ?_; ((try refine Zk ?_); (first | (refine Zd (.func 83) ?_; refine qC rfl rfl (key_spec _ v _ X sp hown3 (by omega) x.t x.id hko.1.1 (by omega) hid) ?_; rintro v2 ρ4 L2 hle0 ⟨hle4, sp4, hown4, rfl⟩; simp only [List.cons_append, List.nil_append]) | (refine Zj ?_; try intro _)) <;> ((try simp only [kM, kN, kO]); refine Za ?_; refine Zl ?_))))
     all_goals (refine Zn (i := 8) ?_; ((try refine Zk ?_); (first | (refine Zd (.func 83) ?_; refine qC rfl rfl (key_spec _ v _ X sp hown3 (by omega) x.t x.id hko.1.1 (by omega) hid) ?_; rintro v2 ρ4 L2 hle0 ⟨hle4, sp4, hown4, rfl⟩; simp only [List.cons_append, List.nil_append]) | (refine Yh (ys := [Zs (tB x.page)]) (m := 1) rfl rfl hown4 (hR := by infer_instance) SrcV.lit rfl rfl (by decide) rfl (by omega) (by omega) rfl (fun v5 sp5 hown5 => ?_); rw [show (X ++ Xf x.t x.id).map Zs ++ [Zs (tB x.page)] = (X ++ Xf x.t x.id ++ [tB x.page]).map Zs by simp, hmm] at hown5 ⊢; rw [hll] at hown5) | (refine Zj ?_; try intro _)) <;> ((try simp only [kM, kN, kO]); refine Za ?_; refine Zl ?_)))
     all_goals (refine ZR ?_; refine rAs 9 ?_; refine ZH ?_)
     all_goals (repeat' (first | (refine Zg ?_; first | (refine Ze ?_; refine qQ ?_) | refine Zj ?_) | refine Za ?_ | (refine Zh ?_; refine Zq ?_) | (refine Zi ?_; refine Zr ?_) | intro _))
     all_goals refine Zp (j + 1, _, v5, sp5) (⟨hlj, Hp.le_trans hle3 (by assumption), hown5⟩) Zm Zm rfl tk inferInstance (by first | omega | (dsimp only; omega))
    ·have hj2 : j = kn := by omega
     subst hj2
     rw [List.take_of_length_le (by omega)] at hown3 ⊢
     have hfin : B0 ++ (rows.flatMap ZL ++ kids.flatMap Yj) = Yk ⟨kind, rows, kids⟩ := by rw [← hB0]; simp [Yk]
     rw [hfin] at hown3 ⊢
     repeat' (first | (refine Zg ?_; first | (refine Ze ?_; refine qQ ?_) | refine Zj ?_) | refine Za ?_ | (refine Zh ?_; refine Zq ?_) | (refine Zi ?_; refine Zr ?_) | intro _)
     refine Xd _ (h := Rem.here) (fun ρ6 hle6 hfz => ?_)
     obtain ⟨a6, c6, rfl, hc6, hs6⟩ := hown3.sIn hfz
     exact qE ⟨Hp.le_trans hle1 (Hp.le_trans hle3 hle6), a6, _, c6, rfl, hc6, hs6, rfl⟩
  ·obtain ⟨B0, hB0⟩ : ∃ B0, tB kind :: cntB ⟨kind, rows, kids⟩ = B0 := ⟨_, rfl⟩
   have hX : B0 = [tB kind] ++ [UInt8.ofNat (rn + kn)] := by rw [← hB0]; simp [cntB, hk0, hrn, hkn]
   have hBl : B0.length ≤ 2 := by rw [hX]; simp
   have hcnt' : Value.int .u8 ((rn : Int) + (kn : Int)) = Zs (UInt8.ofNat (rn + kn)) := by rw [← hcnt]; simp
   repeat' (first | (refine Zd (.func 30) ?_; refine qC rfl rfl (hck _ ⟨hr, hk, hrb, hkb, hrc, hkc⟩) ?_; rintro v ρ' L' hle ⟨rfl, rfl, rfl⟩ <;> (try simp only [kM, kN, kO])) | (refine ZC rfl rfl rfl rfl (by simp) rfl rfl (fun _ => ?_); first | simp only [hkB] | simp only [hcnt']) | (refine Zg ?_; first | (refine Ze ?_; refine qQ ?_) | refine Zj ?_) | refine Za ?_ | (refine Zh ?_; refine Zq ?_) | (refine Zi ?_; refine Zr ?_) | intro _)
   rename_i b1 b2 b3
   rw [show ([(b2, Obj.cells ⟨[Zs (tB kind)]⟩ 5 (0, 0))] : List (Nat × Obj)) = Ye (.slice (some ⟨b2, 0, none⟩) 1 1) ([tB kind].map Zs) [] 5 from rfl]
   refine Yh (ys := [Zs (UInt8.ofNat (rn + kn))]) (m := 1) (n := 1) (xs := [tB kind].map Zs) (sp := []) rfl rfl ⟨.inr ⟨b2, 1, rfl, rfl, rfl, Nat.le_refl _⟩⟩ (hR := by infer_instance) SrcV.lit rfl rfl (by decide) rfl (by omega) (by omega) rfl (fun v0 sp0 hown0 => ?_)
   rw [show [tB kind].map Zs ++ [Zs (UInt8.ofNat (rn + kn))] = B0.map Zs by rw [hX]; rfl] at hown0 ⊢
   replace hown0 : OwnS v0 B0.length (B0.map Zs) sp0 1 := by
    have e : B0.length = 1 + 1 := by rw [hX]; rfl
    rw [e]; exact hown0
   repeat' (first | (refine Zg ?_; first | (refine Ze ?_; refine qQ ?_) | refine Zj ?_) | refine Za ?_ | (refine Zh ?_; refine Zq ?_) | (refine Zi ?_; refine Zr ?_) | intro _)
   rw [show B0.map Zs = (B0 ++ (rows.take 0).flatMap ZL).map Zs by simp]
   refine ZB [(1, _), (2, _), (3, _), (34, _), (35, _)] (fun (ζ : (Nat) × (Hp) × (Value) × (List Value)) => [(36, .int .i64 ζ.1), (5, ζ.2.2.1)]) (fun (ζ : (Nat) × (Hp) × (Value) × (List Value)) => ζ.2.1) (fun (ζ : (Nat) × (Hp) × (Value) × (List Value)) => [Ye ζ.2.2.1 ((B0 ++ (rows.take ζ.1).flatMap ZL).map Zs) ζ.2.2.2 5, [(b1, .cells ⟨[.int .i64 kind, .slice ra rn rc, .slice ka kn kc]⟩ 36 (0, 0))]]) (fun (ζ : (Nat) × (Hp) × (Value) × (List Value)) => ζ.1 ≤ rn ∧ ρ'.le ζ.2.1 ∧ OwnS ζ.2.2.1 (B0 ++ (rows.take ζ.1).flatMap ZL).length ((B0 ++ (rows.take ζ.1).flatMap ZL).map Zs) ζ.2.2.2 1) (fun (ζ : (Nat) × (Hp) × (Value) × (List Value)) => rn - ζ.1) ((0, ρ', v0, sp0)) (⟨Nat.zero_le _, Hp.le_refl _, by simpa using hown0⟩) Zm Zm rfl tk ?_
   rintro ⟨k, ρ1, v, sp⟩ hI
   try simp only [List.cons_append, List.nil_append, List.append_assoc, List.append_eq] at hI ⊢
   try dsimp only at hI ⊢
   obtain ⟨hkn0, hle1, hown⟩ := hI
   by_cases hlt : k < rn
   ·obtain ⟨b, off, C, T, fr, rfl, hb, hfit, hc⟩ := (hr.mono hle1).get (show k < rows.length by omega)
    have hmem : rows[k]'(by omega) ∈ rows := List.getElem_mem _
    have hro := hrow _ hmem
    have hid := hir _ hmem
    have hts := Xb ZL rows k (by omega)
    have hfl := Xn ZL 20 (rows.take k) (fun x hx => rowB_le (hrow x (List.mem_of_mem_take hx)))
    have htl : (rows.take k).length ≤ 4 := by simp; omega
    have hXl : (B0 ++ (rows.take k).flatMap ZL).length ≤ 100 := by simp only [List.length_append]; omega
    have hll : (B0 ++ (rows.take k).flatMap ZL).length + (ZL (rows[k]'(by omega))).length = (B0 ++ (rows.take (k + 1)).flatMap ZL).length := by rw [hts]; simp; omega
    have hmm : B0 ++ (rows.take k).flatMap ZL ++ ZL (rows[k]'(by omega)) = B0 ++ (rows.take (k + 1)).flatMap ZL := by rw [hts]; simp
    generalize rows[k]'(by omega) = x at *
    repeat' (first | (refine Zd (.func 82) ?_; refine qC rfl rfl (claid_spec _ v _ _ sp hown (by omega) x hro hid) ?_; rintro v2 ρ2 L2 hle0 ⟨hle2, sp2, hown2, rfl⟩; simp only [List.cons_append, List.nil_append, hmm]; rw [hmm, hll] at hown2) | (refine Zg ?_; first | (refine Ze ?_; refine qQ ?_) | refine Zj ?_) | refine Za ?_ | (refine Zh ?_; refine Zq ?_) | (refine Zi ?_; refine Zr ?_) | intro _)
    refine Zp (k + 1, _, v2, sp2) (⟨hlt, Hp.le_trans hle1 hle2, hown2⟩) Zm Zm rfl tk inferInstance (by first | omega | (dsimp only; omega))
   ·have hk2 : k = rn := by omega
    subst hk2
    rw [List.take_of_length_le (by omega)] at hown ⊢
    repeat' (first | (refine Zg ?_; first | (refine Ze ?_; refine qQ ?_) | refine Zj ?_) | refine Za ?_ | (refine Zh ?_; refine Zq ?_) | (refine Zi ?_; refine Zr ?_) | intro _)
    rw [show (B0 ++ rows.flatMap ZL).map Zs = (B0 ++ (rows.flatMap ZL ++ (kids.take 0).flatMap Yj)).map Zs by simp]
    refine ZB [(2, _), (3, _), (45, _), (46, _)] (fun (ζ : (Nat) × (Hp) × (Value) × (List Value)) => [(47, .int .i64 ζ.1), (5, ζ.2.2.1)]) (fun (ζ : (Nat) × (Hp) × (Value) × (List Value)) => ζ.2.1) (fun (ζ : (Nat) × (Hp) × (Value) × (List Value)) => [Ye ζ.2.2.1 ((B0 ++ (rows.flatMap ZL ++ (kids.take ζ.1).flatMap Yj)).map Zs) ζ.2.2.2 5]) (fun (ζ : (Nat) × (Hp) × (Value) × (List Value)) => ζ.1 ≤ kn ∧ ρ1.le ζ.2.1 ∧ OwnS ζ.2.2.1 (B0 ++ (rows.flatMap ZL ++ (kids.take ζ.1).flatMap Yj)).length ((B0 ++ (rows.flatMap ZL ++ (kids.take ζ.1).flatMap Yj)).map Zs) ζ.2.2.2 1) (fun (ζ : (Nat) × (Hp) × (Value) × (List Value)) => kn - ζ.1) ((0, ρ1, v, sp)) (⟨Nat.zero_le _, Hp.le_refl _, by simpa using hown⟩) Zm Zm rfl tk ?_
    rintro ⟨j, ρ2, v, sp⟩ hI
    try simp only [List.cons_append, List.nil_append, List.append_assoc, List.append_eq] at hI ⊢
    try dsimp only at hI ⊢
    have hfl := Xn ZL 20 rows (fun x hx => rowB_le (hrow x hx))
    obtain ⟨hj0, hle3, hown3⟩ := hI
    by_cases hlj : j < kn
    ·obtain ⟨b, off, C, T, fr, rfl, hb, hfit, hc⟩ := (hk.mono (Hp.le_trans hle1 hle3)).get (show j < kids.length by omega)
     have hmem : kids[j]'(by omega) ∈ kids := List.getElem_mem _
     have hko := hkid _ hmem
     have hid := hik _ hmem
     have hts := Xb Yj kids j (by omega)
     have hfk := Xn Yj 4 (kids.take j) (fun x hx => Nat.le_of_eq (WM x))
     have htl : (kids.take j).length ≤ 4 := by simp; omega
     have hXl : (B0 ++ (rows.flatMap ZL ++ (kids.take j).flatMap Yj)).length ≤ 200 := by simp only [List.length_append]; omega
     have hmm : B0 ++ (rows.flatMap ZL ++ (kids.take j).flatMap Yj) ++ Xf (kids[j]'(by omega)).t (kids[j]'(by omega)).id ++ [tB (kids[j]'(by omega)).page] = B0 ++ (rows.flatMap ZL ++ (kids.take (j + 1)).flatMap Yj) := by rw [hts]; simp [Yj]
     have hll : (B0 ++ (rows.flatMap ZL ++ (kids.take j).flatMap Yj)).length + 3 + 1 = (B0 ++ (rows.flatMap ZL ++ (kids.take (j + 1)).flatMap Yj)).length := by rw [hts]; simp [WM]; omega
     have hpg := tB_eq (t := (kids[j]'(by omega)).page) (by omega) (by omega)
     generalize kids[j]'(by omega) = x at *
     generalize hX : B0 ++ (rows.flatMap ZL ++ (kids.take j).flatMap Yj) = X at *
     repeat' (first | (refine Zg ?_; first | (refine Ze ?_; refine qQ ?_) | refine Zj ?_) | refine Za ?_ | (refine Zh ?_; refine Zq ?_) | (refine Zi ?_; refine Zr ?_) | intro _)
     rename_i b9
     refine ZD (Zo _ _ ([[(b9, .cells ⟨YY x⟩ 82 (0, 0))]])) (Zx (hT := tk) (Hp.le_refl _)) ?_
     all_goals (refine ZO 0 ?_; refine rFa 1 ?_; refine rLd 2 ?_; refine rFa 4 ?_; refine rLd 5 ?_; refine rCv 6 ?_)
     all_goals (refine Xh (i := 3) (j := 7) ?_ ?_ <;> ((try refine Zk ?_); (first | (refine Zd (.func 83) ?_; refine qC rfl rfl (key_spec _ v _ X sp hown3 (by omega) x.t x.id hko.1.1 (by omega) hid) ?_; rintro v2 ρ4 L2 hle0 ⟨hle4, sp4, hown4, rfl⟩; simp only [List.cons_append, List.nil_append]) | (refine ZC rfl rfl rfl rfl (by simp) rfl rfl (fun _ => ?_); simp only [hpg]) | (refine Zj ?_; try intro _)) <;> ((try simp only [kM, kN, kO]); refine Za ?_; refine Zl ?_)))
     all_goals (first | (refine Zn (i := 7) ?_; ((try refine Zk ?_); (first | (refine ZC rfl rfl rfl rfl (by simp) rfl rfl (fun _ => ?_); simp only [hpg]) | (refine Zj ?_; try intro _)) <;> ((try simp only [kM, kN, kO]); refine Za ?_; refine Zl ?_))) | (refine Zn (i := 3) ?_; ((try refine Zk ?_); (first | (refine Zd (.func 83) ?_; refine qC rfl rfl (key_spec _ v _ X sp hown3 (by omega) x.t x.id hko.1.1 (by omega) hid) ?_; rintro v2 ρ4 L2 hle0 ⟨hle4, sp4, hown4, rfl⟩; simp only [List.cons_append, List.nil_append]) | (refine Zj ?_; try intro _)) <;> ((try simp only [kM, kN, kO]); refine Za ?_; refine Zl ?_))))
     all_goals (refine Zn (i := 8) ?_; ((try refine Zk ?_); (first | (refine Zd (.func 83) ?_; refine qC rfl rfl (key_spec _ v _ X sp hown3 (by omega) x.t x.id hko.1.1 (by omega) hid) ?_; rintro v2 ρ4 L2 hle0 ⟨hle4, sp4, hown4, rfl⟩; simp only [List.cons_append, List.nil_append]) | (refine Yh (ys := [Zs (tB x.page)]) (m := 1) rfl rfl hown4 (hR := by infer_instance) SrcV.lit rfl rfl (by decide) rfl (by omega) (by omega) rfl (fun v5 sp5 hown5 => ?_); rw [show (X ++ Xf x.t x.id).map Zs ++ [Zs (tB x.page)] = (X ++ Xf x.t x.id ++ [tB x.page]).map Zs by simp, hmm] at hown5 ⊢; rw [hll] at hown5) | (refine Zj ?_; try intro _)) <;> ((try simp only [kM, kN, kO]); refine Za ?_; refine Zl ?_)))
     all_goals (refine ZR ?_; refine rAs 9 ?_; refine ZH ?_)
     all_goals (repeat' (first | (refine Zg ?_; first | (refine Ze ?_; refine qQ ?_) | refine Zj ?_) | refine Za ?_ | (refine Zh ?_; refine Zq ?_) | (refine Zi ?_; refine Zr ?_) | intro _))
     all_goals refine Zp (j + 1, _, v5, sp5) (⟨hlj, Hp.le_trans hle3 (by assumption), hown5⟩) Zm Zm rfl tk inferInstance (by first | omega | (dsimp only; omega))
    ·have hj2 : j = kn := by omega
     subst hj2
     rw [List.take_of_length_le (by omega)] at hown3 ⊢
     have hfin : B0 ++ (rows.flatMap ZL ++ kids.flatMap Yj) = Yk ⟨kind, rows, kids⟩ := by rw [← hB0]; simp [Yk]
     rw [hfin] at hown3 ⊢
     repeat' (first | (refine Zg ?_; first | (refine Ze ?_; refine qQ ?_) | refine Zj ?_) | refine Za ?_ | (refine Zh ?_; refine Zq ?_) | (refine Zi ?_; refine Zr ?_) | intro _)
     refine Xd _ (h := Rem.here) (fun ρ6 hle6 hfz => ?_)
     obtain ⟨a6, c6, rfl, hc6, hs6⟩ := hown3.sIn hfz
     exact qE ⟨Hp.le_trans hle1 (Hp.le_trans hle3 hle6), a6, _, c6, rfl, hc6, hs6, rfl⟩
instance (priority := 1200) eqRow {x y : Row} : EqC Tryz.prog 8 65 (.agg ⟨Yp x⟩) (.agg ⟨Yp y⟩) (decide (x = y)) := by
 have h : EqC Tryz.prog 8 65 (.agg ⟨[.int .i64 x.t, .int .u16 x.id, .int .i64 x.val, strV x.note]⟩) (.agg ⟨[.int .i64 y.t, .int .u16 y.id, .int .i64 y.val, strV y.note]⟩) _ := inferInstance
 refine ⟨fun d w hd => ?_⟩
 rw [h.out d w hd]
 congr 1
 obtain ⟨t, i, v, n⟩ := x
 obtain ⟨t', i', v', n'⟩ := y
 simp only [Row.mk.injEq, Bool.and_true, Bool.decide_and]
 have e : ((i : Int) == (i' : Int)) = decide (i = i') := by
  by_cases h : i = i'
  ·subst h; simp
  ·rw [decide_eq_false h]; simp only [beq_eq_false_iff_ne, ne_eq]; omega
 rw [e]
 by_cases h1 : t = t' <;> by_cases h2 : i = i' <;> by_cases h3 : v = v' <;> simp [h1, h2, h3]
instance (priority := 1200) eqKid {x y : Kid} : EqC Tryz.prog 8 82 (.agg ⟨YY x⟩) (.agg ⟨YY y⟩) (decide (x = y)) := by
 have h : EqC Tryz.prog 8 82 (.agg ⟨[.int .i64 x.t, .int .u16 x.id, .int .i64 x.page]⟩) (.agg ⟨[.int .i64 y.t, .int .u16 y.id, .int .i64 y.page]⟩) _ := inferInstance
 refine ⟨fun d w hd => ?_⟩
 rw [h.out d w hd]
 congr 1
 obtain ⟨t, i, v⟩ := x
 obtain ⟨t', i', v'⟩ := y
 simp only [Kid.mk.injEq, Bool.and_true, Bool.decide_and]
 have e : ((i : Int) == (i' : Int)) = decide (i = i') := by
  by_cases h : i = i'
  ·subst h; simp
  ·rw [decide_eq_false h]; simp only [beq_eq_false_iff_ne, ne_eq]; omega
 rw [e]
 by_cases h1 : t = t' <;> by_cases h2 : i = i' <;> by_cases h3 : v = v' <;> simp [h1, h2, h3]
theorem Wd {k : Nat} {l : List UInt8} {st : Int} (h : (Yg k l st).2.2 = 0) : st = 0 ∧ k ≤ l.length ∧ Yg k l st = (ZP (l.take k), l.drop k, 0) := by
 unfold Yg at h ⊢
 by_cases hs : st ≠ 0
 ·rw [if_pos hs] at h; exact absurd h hs
 ·have h0 : st = 0 := by simpa using hs
  rw [if_neg hs] at h ⊢
  by_cases hl : l.length < k
  ·rw [if_pos hl] at h; simp at h
  ·rw [if_neg hl]; exact ⟨h0, by omega, rfl⟩
theorem rawR_zero {k : Nat} {l : List UInt8} {st : Int} (h : (rawR k l st).2.2 = 0) : st = 0 ∧ k ≤ l.length ∧ rawR k l st = (l.take k, l.drop k, 0) := by
 unfold rawR at h ⊢
 by_cases hs : st ≠ 0
 ·rw [if_pos hs] at h; exact absurd h hs
 ·have h0 : st = 0 := by simpa using hs
  rw [if_neg hs] at h ⊢
  by_cases hl : l.length < k
  ·rw [if_pos hl] at h; simp at h
  ·rw [if_neg hl]; exact ⟨h0, by omega, rfl⟩
theorem be_take {k : Nat} {l : List UInt8} (h : k ≤ l.length) : be k (ZP (l.take k)) = l.take k := by
 have := be_unbe (l.take k)
 rwa [List.length_take, Nat.min_eq_left h] at this
theorem be_one (x : Nat) : be 1 x = [UInt8.ofNat x] := by simp [be]
theorem tB_nat (x : Nat) : tB (x : Int) = UInt8.ofNat x := rfl
theorem vN_i64N {x : Nat} (h : x < 18446744073709551616) : vN (i64N x) = x := by
 have h1 : IntKind.u64.wrap (i64N x) = x := by
  unfold i64N
  simp only [IntKind.wrap, IntKind.bits, IntKind.signed, Bool.true_and, Bool.false_and, Bool.false_eq_true, if_false]
  split <;> simp_all <;> omega
 simp [vN, h1]
theorem i64N_vN {v : Int} (h : -9223372036854775808 ≤ v ∧ v ≤ 9223372036854775807) : i64N (vN v) = v := by
 unfold i64N
 rw [← vN_eq]
 simp only [IntKind.wrap, IntKind.bits, IntKind.signed, Bool.true_and, Bool.false_and, Bool.false_eq_true, if_false]
 split <;> simp_all <;> omega
theorem needB_false {bad : Bool} {st : Int} {is : Bool} (h : Xi bad st is = false) (hs : st = 0) : bad = false ∧ is = true := by
 subst hs
 cases bad <;> cases is <;> simp_all [Xi]
structure XC (r : Row) : Prop where
 id : r.id < 65536
 val : -9223372036854775808 ≤ r.val ∧ r.val ≤ 9223372036854775807
theorem i64N_fit (x : Nat) : -9223372036854775808 ≤ i64N x ∧ i64N x ≤ 9223372036854775807 := by
 unfold i64N
 simp only [IntKind.wrap, IntKind.bits, IntKind.signed, Bool.true_and]
 split <;> simp_all <;> omega
theorem rowR_ok {l l' : List UInt8} {st : Int} {bad : Bool} {r : Row} (h : XY l st bad = (r, l', 0, false)) : st = 0 ∧ bad = false ∧ YI r = true ∧ l = ZL r ++ l' ∧ XC r := by
 unfold XY at h
 dsimp only at h
 split at h
 ·rename_i hok
  rw [Bool.and_eq_true, Bool.not_eq_true'] at hok
  obtain ⟨hb1, hs1⟩ := hok
  have hs1 := of_decide_eq_true hs1
  obtain ⟨rfl, hl1, e1⟩ := Wd hs1
  obtain ⟨rfl, ht⟩ := needB_false hb1 hs1
  split at h
  ·rename_i hok2
   rw [Bool.and_eq_true, Bool.not_eq_true'] at hok2
   obtain ⟨hb2, hs4⟩ := hok2
   have hs4 := of_decide_eq_true hs4
   obtain ⟨hs3, hl4, e4⟩ := Wd hs4
   obtain ⟨hs2, hl3, e3⟩ := Wd hs3
   obtain ⟨hs1', hl2, e2⟩ := Wd hs2
   obtain ⟨_, hn⟩ := needB_false hb2 hs4
   have ht := of_decide_eq_true ht
   have hn := of_decide_eq_true hn
   simp only [Prod.mk.injEq] at h
   obtain ⟨h1, h2, h3, h4⟩ := h
   obtain ⟨_, hl5, e5⟩ := rawR_zero h3
   subst h1; subst h2
   rw [e5]
   simp only [e4] at hl5 hn e5 ⊢
   simp only [e3] at hl4 hl5 hn e5 ⊢
   simp only [e2] at hl3 hl4 hl5 hn e5 ⊢
   simp only [e1] at hl2 hl3 hl4 hl5 hn ht e5 ⊢
   have b1 := be_take hl1
   have b2 := be_take hl2
   have b3 := be_take hl3
   have b4 := be_take hl4
   rw [be_one] at b1 b4
   have u2 := WS ((l.drop 1).take 2)
   have u3 := WS (((l.drop 1).drop 2).take 8)
   rw [List.length_take, Nat.min_eq_left hl2] at u2
   rw [List.length_take, Nat.min_eq_left hl3] at u3
   have hlen : (List.take (ZP (List.take 1 (List.drop 8 (List.drop 2 (List.drop 1 l))))) (List.drop 1 (List.drop 8 (List.drop 2 (List.drop 1 l))))).length = ZP (List.take 1 (List.drop 8 (List.drop 2 (List.drop 1 l)))) := by rw [List.length_take, Nat.min_eq_left hl5]
   refine ⟨by trivial, by trivial, ?_, ?_, ⟨by dsimp only; omega, i64N_fit _⟩⟩
   ·unfold YI
    dsimp only
    rw [hlen]
    exact decide_eq_true ⟨⟨by omega, by omega⟩, by omega⟩
   ·unfold ZL Xf
    dsimp only
    rw [hlen, vN_i64N (by omega), b3, b2, tB_nat]
    have c1 : UInt8.ofNat (ZP (List.take 1 l)) :: (List.take 2 (List.drop 1 l)) = List.take 1 l ++ List.take 2 (List.drop 1 l) := by
     show [UInt8.ofNat (ZP (List.take 1 l))] ++ _ = _
     rw [b1]
    rw [c1]
    have c4 : ∀ X : List UInt8, UInt8.ofNat (ZP (List.take 1 (List.drop 8 (List.drop 2 (List.drop 1 l))))) :: X = List.take 1 (List.drop 8 (List.drop 2 (List.drop 1 l))) ++ X := fun X => by
     show [UInt8.ofNat (ZP (List.take 1 (List.drop 8 (List.drop 2 (List.drop 1 l)))))] ++ X = _
     rw [b4]
    rw [c4]
    simp only [List.append_assoc, List.take_append_drop]
  ·rename_i hok2
   simp only [Prod.mk.injEq] at h
   obtain ⟨_, _, h3, h4⟩ := h
   exact absurd (by rw [h4, h3]; rfl) hok2
 ·rename_i hok
  simp only [Prod.mk.injEq] at h
  obtain ⟨_, _, h3, h4⟩ := h
  exact absurd (by rw [h4, h3]; rfl) hok
structure KidFit (k : Kid) : Prop where
 id : k.id < 65536
 t : 0 ≤ k.t ∧ k.t < 256
 page : 0 ≤ k.page ∧ k.page < 256
theorem kidRB_ok {l l' : List UInt8} {st : Int} {bad : Bool} {r : Kid} (h : Xv l st bad = (r, l', 0, false)) : st = 0 ∧ bad = false ∧ l = Yj r ++ l' ∧ KidFit r := by
 unfold Xv kidR at h
 dsimp only at h
 simp only [Prod.mk.injEq] at h
 obtain ⟨h1, h2, h3, h4⟩ := h
 obtain ⟨hs2, hl3, e3⟩ := Wd h3
 obtain ⟨hs1, hl2, e2⟩ := Wd hs2
 obtain ⟨rfl, hl1, e1⟩ := Wd hs1
 subst h1; subst h2
 simp only [e3]
 simp only [e2] at hl3 ⊢
 simp only [e1] at hl2 hl3 ⊢
 have b1 := be_take hl1
 have b2 := be_take hl2
 have b3 := be_take hl3
 rw [be_one] at b1 b3
 have u1 := WS (l.take 1)
 have u2 := WS ((l.drop 1).take 2)
 have u3 := WS (((l.drop 1).drop 2).take 1)
 rw [List.length_take, Nat.min_eq_left hl1] at u1
 rw [List.length_take, Nat.min_eq_left hl2] at u2
 rw [List.length_take, Nat.min_eq_left hl3] at u3
 refine ⟨by trivial, h4, ?_, ⟨by dsimp only; omega, by dsimp only; omega, by dsimp only; omega⟩⟩
 unfold Yj Xf
 dsimp only
 rw [b2, tB_nat, tB_nat]
 have c1 : ∀ X : List UInt8, UInt8.ofNat (ZP (List.take 1 l)) :: X = List.take 1 l ++ X := fun X => by
  show [UInt8.ofNat (ZP (List.take 1 l))] ++ X = _
  rw [b1]
 rw [c1, b3]
 simp only [List.append_assoc, List.take_append_drop]
theorem manyTo_ok {α : Type} {f : List UInt8 → Int → Bool → α × RS3} {enc : α → List UInt8} {fit : α → Prop} (hf : ∀ {l l' : List UInt8} {st : Int} {bad : Bool} {x : α}, f l st bad = (x, l', 0, false) → st = 0 ∧ bad = false ∧ l = enc x ++ l' ∧ fit x) :
  ∀ {n : Nat} {l l' : List UInt8} {st : Int} {bad : Bool} {xs : List α}, Xo f n l st bad = (xs, l', 0, false) → st = 0 ∧ bad = false ∧ xs.length = n ∧ l = xs.flatMap enc ++ l' ∧ ∀ x ∈ xs, fit x
 | 0, l, l', st, bad, xs, h => by
  rw [Xo] at h
  simp only [Prod.mk.injEq] at h
  obtain ⟨rfl, rfl, rfl, rfl⟩ := h
  exact ⟨rfl, rfl, rfl, by simp, by simp⟩
 | n + 1, l, l', st, bad, xs, h => by
  rw [Xo] at h
  split at h
  ·simp only [Prod.mk.injEq] at h
   obtain ⟨h1, h2⟩ := h
   have key : Xo f n (f l st bad).2.1 (f l st bad).2.2.1 (f l st bad).2.2.2 = ((Xo f n (f l st bad).2.1 (f l st bad).2.2.1 (f l st bad).2.2.2).1, l', 0, false) := by rw [← h2]
   obtain ⟨g1, g2, g3, g4, g5⟩ := manyTo_ok hf key
   obtain ⟨k1, k2, k3, k4⟩ := hf (show f l st bad = ((f l st bad).1, (f l st bad).2.1, 0, false) by rw [← g1, ← g2])
   subst h1
   refine ⟨k1, k2, by simp [g3], ?_, ?_⟩
   ·rw [List.flatMap_cons, List.append_assoc, ← g4]; exact k3
   ·intro x hx
    rcases List.mem_cons.1 hx with rfl | hx
    ·exact k4
    ·exact g5 x hx
  ·rename_i hok
   simp only [Prod.mk.injEq] at h
   obtain ⟨_, _, h3, h4⟩ := h
   exact absurd (by rw [h4, h3]; rfl) hok
theorem manyR_ok {α : Type} {f : List UInt8 → Int → Bool → α × RS3} {enc : α → List UInt8} {fit : α → Prop} (hf : ∀ {l l' : List UInt8} {st : Int} {bad : Bool} {x : α}, f l st bad = (x, l', 0, false) → st = 0 ∧ bad = false ∧ l = enc x ++ l' ∧ fit x)
  {l l' : List UInt8} {st : Int} {bad : Bool} {xs : List α} (h : YT f l st bad = (xs, l', 0, false)) : st = 0 ∧ bad = false ∧ l = UInt8.ofNat xs.length :: xs.flatMap enc ++ l' ∧ ∀ x ∈ xs, fit x := by
 unfold YT at h
 obtain ⟨g1, g2, g3, g4, g5⟩ := manyTo_ok hf h
 obtain ⟨rfl, hl, e⟩ := Wd g1
 obtain ⟨k1, _⟩ := needB_false g2 g1
 rw [e] at g3 g4
 dsimp only at g3 g4
 refine ⟨rfl, k1, ?_, g5⟩
 have b1 := be_take hl
 rw [be_one, ← g3] at b1
 rw [show UInt8.ofNat xs.length :: xs.flatMap enc ++ l' = [UInt8.ofNat xs.length] ++ (xs.flatMap enc ++ l') from rfl, b1, ← g4, List.take_append_drop]
structure ContFit (c : Yr) : Prop where
 row : ∀ r ∈ c.rows, XC r
 kid : ∀ k ∈ c.kids, KidFit k
theorem contentR_ok {l l' : List UInt8} {c : Yr} (h : YC l = (c, l', 0, false)) : ZN c = true ∧ l = Yk c ++ l' ∧ ContFit c := by
 unfold YC contE at h
 simp only [Prod.mk.injEq] at h
 obtain ⟨h1, h2, h3, h4⟩ := h
 generalize hm : WI (Yg 1 l 0).1 (Yg 1 l 0).2.1 (Yg 1 l 0).2.2 (Xi false (Yg 1 l 0).2.2 (decide (((Yg 1 l 0).1 : Int) ≤ 2))) = m at *
 obtain ⟨⟨rows, kids⟩, l2, st2, b2⟩ := m
 dsimp only at h1 h2 h3 h4
 subst h2; subst h3; subst h1
 obtain ⟨rfl, hok⟩ := needB_false h4 rfl
 refine ⟨hok, ?_⟩
 unfold WI at hm
 have hF := XE hok
 have hkind := hF.kind
 dsimp only at hkind
 split at hm
 ·rename_i hokk
  rw [Bool.and_eq_true, Bool.not_eq_true'] at hokk
  obtain ⟨_, hs1⟩ := hokk
  have hs1 := of_decide_eq_true hs1
  obtain ⟨_, hl1, e1⟩ := Wd hs1
  have b1 := be_take hl1
  rw [be_one] at b1
  rw [e1] at hm hkind hok ⊢
  dsimp only at hm hkind hok ⊢
  generalize hx : ZP (List.take 1 l) = x at *
  have hl : l = UInt8.ofNat x :: l.drop 1 := by
   have : l = l.take 1 ++ l.drop 1 := (List.take_append_drop 1 l).symm
   rw [← b1] at this
   exact this
  split at hm
  ·rename_i hx1
   simp only [Prod.mk.injEq] at hm
   obtain ⟨⟨h1, h2⟩, h3⟩ := hm
   subst h2
   have key : YT XY (l.drop 1) 0 (Xi false 0 (decide ((x : Int) ≤ 2))) = (rows, l2, 0, false) := by rw [← h1, ← h3]
   obtain ⟨_, _, g3, g4⟩ := manyR_ok (enc := ZL) (fit := XC) (fun h => ⟨(rowR_ok h).1, (rowR_ok h).2.1, (rowR_ok h).2.2.2.1, (rowR_ok h).2.2.2.2⟩) key
   refine ⟨?_, ⟨g4, by simp⟩⟩
   have hc : Yk ⟨x, rows, []⟩ = UInt8.ofNat x :: (UInt8.ofNat rows.length :: rows.flatMap ZL) := by
    unfold Yk cntB
    rw [if_neg (by dsimp only; omega), tB_nat]; simp
   rw [hc, hl, g3]; rfl
  ·split at hm
   ·rename_i hx1 hx2
    simp only [Prod.mk.injEq] at hm
    obtain ⟨⟨h1, h2⟩, h3⟩ := hm
    subst h1
    have key : YT Xv (l.drop 1) 0 (Xi false 0 (decide ((x : Int) ≤ 2))) = (kids, l2, 0, false) := by rw [← h2, ← h3]
    obtain ⟨_, _, g3, g4⟩ := manyR_ok (enc := Yj) (fit := KidFit) (fun h => kidRB_ok h) key
    refine ⟨?_, ⟨by simp, g4⟩⟩
    have hc : Yk ⟨x, [], kids⟩ = UInt8.ofNat x :: (UInt8.ofNat kids.length :: kids.flatMap Yj) := by
     unfold Yk cntB
     rw [if_neg (by dsimp only; omega), tB_nat]; simp
    rw [hc, hl, g3]; rfl
   ·rename_i hx1 hx2
    simp only [Prod.mk.injEq] at hm
    obtain ⟨⟨h1, h2⟩, h3, _⟩ := hm
    subst h1; subst h2; subst h3
    have hx0 : (x : Int) = 0 := by
     rcases hkind with h | h | h
     ·exact h.1
     ·exact absurd (by omega) hx1
     ·exact absurd (by omega) hx2
    refine ⟨?_, ⟨by simp, by simp⟩⟩
    have hc : Yk ⟨x, [], []⟩ = [UInt8.ofNat x] := by
     unfold Yk cntB
     rw [if_pos hx0, tB_nat]; simp
    rw [hc]; exact hl
 ·rename_i hokk
  simp only [Prod.mk.injEq] at hm
  obtain ⟨⟨h1, h2⟩, h3, h4, h5⟩ := hm
  exact absurd (by rw [h5, h4]; rfl) hokk
theorem takenE_zero {bad : Bool} {st : Int} (h : Wk bad st = 0) : bad = false ∧ st = 0 := by
 cases bad
 ·exact ⟨rfl, h⟩
 ·simp [Wk] at h
theorem takeRow_ok {l : List UInt8} (h : (Wa l).2.2 = 0) : ∃ n : Nat, (Wa l).2.1 = n ∧ n ≤ l.length ∧ YI (Wa l).1 = true ∧ ZL (Wa l).1 = l.take n ∧ XC (Wa l).1 := by
 unfold Wa at h ⊢
 dsimp only at h ⊢
 obtain ⟨hb, hs⟩ := takenE_zero h
 generalize hr : XY l 0 false = r at *
 obtain ⟨x, l', st, bad⟩ := r
 dsimp only at hb hs
 subst hb; subst hs
 obtain ⟨_, _, g1, g2, g3⟩ := rowR_ok hr
 have hl := congrArg List.length g2
 simp only [List.length_append] at hl
 refine ⟨(ZL x).length, ?_, by omega, ?_⟩
 ·simp [takenN]; omega
 ·simp only [Bool.false_or, ne_eq, not_true_eq_false, decide_false, Bool.false_eq_true, if_false]
  exact ⟨g1, by rw [g2]; simp, g3⟩
theorem WC {l : List UInt8} (h : (Zz l).2.2 = 0) : ∃ n : Nat, (Zz l).2.1 = n ∧ n ≤ l.length ∧ ZN (Zz l).1 = true ∧ Yk (Zz l).1 = l.take n ∧ ContFit (Zz l).1 := by
 unfold Zz at h ⊢
 dsimp only at h ⊢
 obtain ⟨hb, hs⟩ := takenE_zero h
 generalize hr : YC l = r at *
 obtain ⟨x, l', st, bad⟩ := r
 dsimp only at hb hs
 subst hb; subst hs
 obtain ⟨g1, g2, g3⟩ := contentR_ok hr
 have hl := congrArg List.length g2
 simp only [List.length_append] at hl
 refine ⟨(Yk x).length, ?_, by omega, ?_⟩
 ·simp [takenN]; omega
 ·simp only [Bool.false_or, ne_eq, not_true_eq_false, decide_false, Bool.false_eq_true, if_false]
  exact ⟨g1, by rw [g2]; simp, g3⟩
theorem contB_len {c : Yr} (h : ZN c = true) : (Yk c).length ≤ 82 := by
 have hF := XE h
 have h1 := Xn ZL 20 c.rows (fun x hx => rowB_le (hF.row x hx))
 have h2 := Xn Yj 4 c.kids (fun x hx => Nat.le_of_eq (WM x))
 have h3 : (cntB c).length ≤ 1 := by unfold cntB; split <;> simp
 have hk := hF.kind
 have hrl := hF.rl
 have hkl := hF.kl
 simp only [Yk, List.length_cons, List.length_append]
 have er : c.rows = [] → (c.rows.flatMap ZL).length = 0 := fun e => by rw [e]; rfl
 have ek : c.kids = [] → (c.kids.flatMap Yj).length = 0 := fun e => by rw [e]; rfl
 rcases hk with ⟨_, hr, hk⟩ | ⟨_, hk⟩ | ⟨_, hr, _⟩
 ·have := er hr; have := ek hk; omega
 ·have := ek hk; omega
 ·have := er hr; omega
end Go.Proofs.E
