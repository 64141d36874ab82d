/- The law RingDoes. Part 12 of 17. -/
import Derived.Test.YtaacalchpindlaaO11
namespace Go.Proofs.E
open Go
set_option linter.unusedVariables false
set_option linter.unusedSimpArgs false
set_option linter.unusedSectionVars false
set_option maxRecDepth 4000
set_option maxHeartbeats 1000000
attribute [local irreducible] Yl TL TC TE Spec Xt R1 Hp.le EnvLe TS TR YS Zo
theorem xor_b4 (x y : UInt8) : xorI (x.toNat : Int) (y.toNat : Int) = ((x ^^^ y).toNat : Int) := by simp [xorI]
theorem own_set {B : Bs} {sp : List Value} {q : Nat} (hq : q < B.length) (x : UInt8) : SetL (B.map ZE ++ sp) (0 + q * 1) (.int .u8 (x.toNat : Int)) ((B.set q x).map ZE ++ sp) := ⟨by simp; omega, by
 have h : 0 + q * 1 = q := by omega
 rw [h]
 simp only [stc, List.length_singleton, List.map_set]
 rw [List.set_eq_take_append_cons_drop, if_pos (by simpa using hq)]
 rw [List.take_append_of_le_length (by simp; omega), List.drop_append_of_le_length (by simp; omega)]
 simp [ZE]⟩
theorem own_get {B : Bs} {sp : List Value} {q : Nat} (hq : q < B.length) : (B.map ZE ++ sp)[0 + q * 1]? = some (.int .u8 ((B[q]).toNat : Int)) := by
 have h : 0 + q * 1 = q := by omega
 rw [h, List.getElem?_append_left (by simpa using hq)]
 simp [ZE, hq]
theorem Yp (ρ : Hp) (bl : Nat) (a1 a2 : Option Addr) (n1 n2 c1 c2 : Nat) (l1 l2 : Bs) (s1 s2 : List Value) (h1 : OwnS (.slice a1 n1 c1) n1 (l1.map ZE) s1 1) (h2 : OwnS (.slice a2 n2 c2) n2 (l2.map ZE) s2 1) (hb1 : n1 ≤ 1000000) (hb2 : n2 ≤ 1000000) :
  Spec Try.prog 23 [.slice (some ⟨bl, 0, none⟩) 2 2] ρ [[(bl, .cells ⟨[.slice a1 n1 c1, .slice a2 n2 c2]⟩ 30 (0, 0))], ZO (.slice a1 n1 c1) (l1.map ZE) s1 5, ZO (.slice a2 n2 c2) (l2.map ZE) s2 5]
   (fun v ρ' L' => v = .tuple ⟨[]⟩ ∧ ρ' = ρ ∧ ∃ m1 m2 : Bs, L' = [[(bl, .cells ⟨[.slice a1 n1 c1, .slice a2 n2 c2]⟩ 30 (0, 0))], ZO (.slice a1 n1 c1) (m1.map ZE) s1 5, ZO (.slice a2 n2 c2) (m2.map ZE) s2 5]) := by
 have g1 : l1.length = n1 := by obtain ⟨_, _, _, h⟩ := h1.len; simpa using h
 have g2 : l2.length = n2 := by obtain ⟨_, _, _, h⟩ := h2.len; simpa using h
 have p1 : 0 < n1 → ∃ b c, (Value.slice a1 n1 c1) = .slice (some ⟨b, 0, none⟩) n1 c := fun h => h1.pos h
 have p2 : 0 < n2 → ∃ b c, (Value.slice a2 n2 c2) = .slice (some ⟨b, 0, none⟩) n2 c := fun h => h2.pos h
 refine Zd Try.func23 rfl rfl rfl fun u R => ?_
 simp only [Zw, List.cons_append, List.nil_append]
 repeat' (first | (refine Zf ?_; first | (refine Ze ?_; refine qQ ?_) | refine Zk ?_ | refine qAn ?_ | refine qXo ?_ | refine qNt ?_) | refine Za ?_ | (refine Zg ?_; refine Zu ?_) | (refine Zh ?_; refine Zv ?_) | intro _)
 refine ZP [(5, _), (6, _)] (fun (ζ : (Nat) × (Bs) × (Bs)) => [(7, .int .i64 ζ.1)]) (fun (ζ : (Nat) × (Bs) × (Bs)) => ρ) (fun (ζ : (Nat) × (Bs) × (Bs)) => [[(bl, .cells ⟨[.slice a1 n1 c1, .slice a2 n2 c2]⟩ 30 (0, 0))], ZO (.slice a1 n1 c1) (ζ.2.1.map ZE) s1 5, ZO (.slice a2 n2 c2) (ζ.2.2.map ZE) s2 5]) (fun (ζ : (Nat) × (Bs) × (Bs)) => ζ.1 ≤ 2 ∧ ζ.2.1.length = n1 ∧ ζ.2.2.length = n2) (fun (ζ : (Nat) × (Bs) × (Bs)) => 2 - ζ.1) ((0, l1, l2)) (⟨Nat.zero_le _, g1, g2⟩) Zx Zx rfl tk ?_
 rintro ⟨i, B1, B2⟩ hI
 try simp only [List.cons_append, List.nil_append, List.append_assoc, List.append_eq] at hI ⊢
 try dsimp only at hI ⊢
 obtain ⟨hi, gB1, gB2⟩ := hI
 rcases (show i = 0 ∨ i = 1 ∨ i = 2 by omega) with rfl | rfl | rfl
 ·repeat' (first | (refine Zf ?_; first | (refine Ze ?_; refine qQ ?_) | refine Zk ?_ | refine qAn ?_ | refine qXo ?_ | refine qNt ?_) | refine Za ?_ | (refine Zg ?_; refine Zu ?_) | (refine Zh ?_; refine Zv ?_) | intro _)
  refine ZP [(3, _), (5, _), (6, _), (7, _), (8, _), (9, _), (10, _), (11, _), (12, _)] (fun (ζ : (Nat) × (Bs)) => [(13, .int .i64 ζ.1)]) (fun (ζ : (Nat) × (Bs)) => ρ) (fun (ζ : (Nat) × (Bs)) => [[(bl, .cells ⟨[.slice a1 n1 c1, .slice a2 n2 c2]⟩ 30 (0, 0))], ZO (.slice a1 n1 c1) (ζ.2.map ZE) s1 5, ZO (.slice a2 n2 c2) (B2.map ZE) s2 5]) (fun (ζ : (Nat) × (Bs)) => ζ.1 ≤ n1 ∧ ζ.2.length = n1) (fun (ζ : (Nat) × (Bs)) => n1 - ζ.1) ((0, B1)) (⟨Nat.zero_le _, gB1⟩) Zx Zx rfl tk ?_
  rintro ⟨j, B⟩ hI
  try simp only [List.cons_append, List.nil_append, List.append_assoc, List.append_eq] at hI ⊢
  try dsimp only at hI ⊢
  obtain ⟨hj, gB⟩ := hI
  by_cases hlt : j < n1
  ·obtain ⟨b, c, e⟩ := p1 (by omega)
   cases e
   have hjB : j < B.length := by omega
   have hx := xor_b4 B[j] 85
   have hxl : (85 : UInt8).toNat = 85 := rfl
   rw [hxl] at hx
   have hx' : xorI (B[j].toNat : Int) 85 = ((B[j] ^^^ 85).toNat : Int) := hx
   have hgt := own_get (sp := s1) hjB
   have hb8 : (B[j]).toNat < 256 := (B[j]).toNat_lt
   haveI hst : SetL (B.map ZE ++ s1) (0 + j * 1) (.int .u8 (xorI (B[j].toNat : Int) 85)) ((B.set j (B[j] ^^^ 85)).map ZE ++ s1) := by rw [hx']; exact own_set hjB _
   rw [show ZO (.slice (some ⟨b, 0, none⟩) n1 c1) (B.map ZE) s1 5 = [(b, .cells ⟨B.map ZE ++ s1⟩ 5 (0, 0))] from rfl]
   repeat' (first | (refine Zf ?_; first | (refine Ze ?_; refine qQ ?_) | refine Zk ?_ | refine qAn ?_ | refine qXo ?_ | refine qNt ?_) | refine Za ?_ | (refine Zg ?_; refine Zu ?_) | (refine Zh ?_; refine Zv ?_) | intro _)
   rw [← show ZO (.slice (some ⟨b, 0, none⟩) n1 c1) ((B.set j (B[j] ^^^ 85)).map ZE) s1 5 = [(b, .cells ⟨(B.set j (B[j] ^^^ 85)).map ZE ++ s1⟩ 5 (0, 0))] from rfl]
   refine ZI (j + 1, B.set j (B[j] ^^^ 85)) (⟨hlt, by rw [List.length_set]; exact gB⟩) Zx Zx rfl tk inferInstance (by first | omega | (dsimp only; omega))
  ·repeat' (first | (refine Zf ?_; first | (refine Ze ?_; refine qQ ?_) | refine Zk ?_ | refine qAn ?_ | refine qXo ?_ | refine qNt ?_) | refine Za ?_ | (refine Zg ?_; refine Zu ?_) | (refine Zh ?_; refine Zv ?_) | intro _)
   refine ZI (1, B, B2) (⟨by omega, gB, gB2⟩) Zx Zx rfl tk inferInstance (by first | omega | (dsimp only; omega))
 ·repeat' (first | (refine Zf ?_; first | (refine Ze ?_; refine qQ ?_) | refine Zk ?_ | refine qAn ?_ | refine qXo ?_ | refine qNt ?_) | refine Za ?_ | (refine Zg ?_; refine Zu ?_) | (refine Zh ?_; refine Zv ?_) | intro _)
  refine ZP [(3, _), (5, _), (6, _), (7, _), (8, _), (9, _), (10, _), (11, _), (12, _)] (fun (ζ : (Nat) × (Bs)) => [(13, .int .i64 ζ.1)]) (fun (ζ : (Nat) × (Bs)) => ρ) (fun (ζ : (Nat) × (Bs)) => [[(bl, .cells ⟨[.slice a1 n1 c1, .slice a2 n2 c2]⟩ 30 (0, 0))], ZO (.slice a1 n1 c1) (B1.map ZE) s1 5, ZO (.slice a2 n2 c2) (ζ.2.map ZE) s2 5]) (fun (ζ : (Nat) × (Bs)) => ζ.1 ≤ n2 ∧ ζ.2.length = n2) (fun (ζ : (Nat) × (Bs)) => n2 - ζ.1) ((0, B2)) (⟨Nat.zero_le _, gB2⟩) Zx Zx rfl tk ?_
  rintro ⟨j, B⟩ hI
  try simp only [List.cons_append, List.nil_append, List.append_assoc, List.append_eq] at hI ⊢
  try dsimp only at hI ⊢
  obtain ⟨hj, gB⟩ := hI
  by_cases hlt : j < n2
  ·obtain ⟨b, c, e⟩ := p2 (by omega)
   cases e
   have hjB : j < B.length := by omega
   have hx := xor_b4 B[j] 85
   have hxl : (85 : UInt8).toNat = 85 := rfl
   rw [hxl] at hx
   have hx' : xorI (B[j].toNat : Int) 85 = ((B[j] ^^^ 85).toNat : Int) := hx
   have hgt := own_get (sp := s2) hjB
   have hb8 : (B[j]).toNat < 256 := (B[j]).toNat_lt
   haveI hst : SetL (B.map ZE ++ s2) (0 + j * 1) (.int .u8 (xorI (B[j].toNat : Int) 85)) ((B.set j (B[j] ^^^ 85)).map ZE ++ s2) := by rw [hx']; exact own_set hjB _
   rw [show ZO (.slice (some ⟨b, 0, none⟩) n2 c2) (B.map ZE) s2 5 = [(b, .cells ⟨B.map ZE ++ s2⟩ 5 (0, 0))] from rfl]
   repeat' (first | (refine Zf ?_; first | (refine Ze ?_; refine qQ ?_) | refine Zk ?_ | refine qAn ?_ | refine qXo ?_ | refine qNt ?_) | refine Za ?_ | (refine Zg ?_; refine Zu ?_) | (refine Zh ?_; refine Zv ?_) | intro _)
   rw [← show ZO (.slice (some ⟨b, 0, none⟩) n2 c2) ((B.set j (B[j] ^^^ 85)).map ZE) s2 5 = [(b, .cells ⟨(B.set j (B[j] ^^^ 85)).map ZE ++ s2⟩ 5 (0, 0))] from rfl]
   refine ZI (j + 1, B.set j (B[j] ^^^ 85)) (⟨hlt, by rw [List.length_set]; exact gB⟩) Zx Zx rfl tk inferInstance (by first | omega | (dsimp only; omega))
  ·repeat' (first | (refine Zf ?_; first | (refine Ze ?_; refine qQ ?_) | refine Zk ?_ | refine qAn ?_ | refine qXo ?_ | refine qNt ?_) | refine Za ?_ | (refine Zg ?_; refine Zu ?_) | (refine Zh ?_; refine Zv ?_) | intro _)
   refine ZI (2, B1, B) (⟨by omega, gB1, gB⟩) Zx Zx rfl tk inferInstance (by first | omega | (dsimp only; omega))
 ·repeat' (first | (refine Zf ?_; first | (refine Ze ?_; refine qQ ?_) | refine Zk ?_ | refine qAn ?_ | refine qXo ?_ | refine qNt ?_) | refine Za ?_ | (refine Zg ?_; refine Zu ?_) | (refine Zh ?_; refine Zv ?_) | intro _)
  exact qE (L' := [[(bl, .cells ⟨[.slice a1 n1 c1, .slice a2 n2 c2]⟩ 30 (0, 0))], ZO (.slice a1 n1 c1) (B1.map ZE) s1 5, ZO (.slice a2 n2 c2) (B2.map ZE) s2 5]) ⟨rfl, rfl, B1, B2, rfl⟩
theorem append04_spec (ρ : Hp) (mb db : Nat) (R : RgS) (hok : R.Ok) (w : MW) (hm : MIn ρ R.h w) (hel : w.els.map BSl.l = R.ents) (e : BSl) (he : BIn ρ e) (he8 : e.n ≤ 1000000) (k : DK) (D : DS) (hD : DOk k D) :
  Spec Try.prog 22 [.pointer (some ⟨mb, 0, none⟩), slv e] ρ ([[(mb, .cells ⟨mdV db R.h w R.broken false⟩ 38 (0, 0))]] ++ Zi db k D)
   (fun v ρ' L' => v = .int .i64 (R.append e.l D).2.2 ∧ ρ.le ρ' ∧ ∃ k' w', DOk k' (R.append e.l D).2.1 ∧ MIn ρ' (R.append e.l D).1.h w' ∧ w'.els.map BSl.l = (R.append e.l D).1.ents ∧ L' = [[(mb, .cells ⟨mdV db (R.append e.l D).1.h w' (R.append e.l D).1.broken false⟩ 38 (0, 0))]] ++ Zi db k' (R.append e.l D).2.1) := by
 by_cases hbad : R.broken = true ∨ 8000 < e.l.length ∨ R.h.size - R.used < Zt e.l.length ∨ 1099511627776 ≤ R.next
 ·refine (append04_early ρ mb db R hok w hm hel e he he8 k D hD hbad).mono (fun v ρ' L' _ ⟨h1, h2, h3, h4, h5⟩ => ?_)
  subst h2
  rw [h3, h4]
  exact ⟨h1, Hp.le_refl _, k, w, hD, hm, hel, h5⟩
 ·have hb : R.broken = false := by
   cases h : R.broken
   ·rfl
   ·exact absurd (.inl h) hbad
  exact append04_main ρ mb db R hok w hm hel e he he8 k D hD hb (by omega) (by omega) (by omega)
theorem cut04_spec (ρ : Hp) (mb db : Nat) (R : RgS) (hok : R.Ok) (w : MW) (hm : MIn ρ R.h w) (hel : w.els.map BSl.l = R.ents) (e : BSl) (he : BIn ρ e) (he8 : e.n ≤ 1000000) (n : Int) (hn : -9223372036854775808 ≤ n ∧ n ≤ 9223372036854775807) (k : DK) (D : DS) (hD : DOk k D) :
  Spec Try.prog 16 [.pointer (some ⟨mb, 0, none⟩), .int .i64 n, slv e] ρ ([[(mb, .cells ⟨mdV db R.h w R.broken false⟩ 38 (0, 0))]] ++ Zi db k D)
   (fun v ρ' L' => v = .int .i64 (R.cut n e.l D).2.2 ∧ ρ.le ρ' ∧ ∃ k' w', DOk k' (R.cut n e.l D).2.1 ∧ MIn ρ' (R.cut n e.l D).1.h w' ∧ w'.els.map BSl.l = (R.cut n e.l D).1.ents ∧ L' = [[(mb, .cells ⟨mdV db (R.cut n e.l D).1.h w' (R.cut n e.l D).1.broken false⟩ 38 (0, 0))]] ++ Zi db k' (R.cut n e.l D).2.1) := by
 by_cases hbad : R.broken = true ∨ (n < 0 ∨ (R.ents.length : Int) < n ∨ R.h.turn = 1073741824) ∨ 32 < e.l.length
 ·refine (cut04_early ρ mb db R hok w hm hel e he he8 n hn k D hD hbad).mono (fun v ρ' L' _ ⟨h1, h2, h3, h4, h5⟩ => ?_)
  subst h2
  rw [h3, h4]
  exact ⟨h1, Hp.le_refl _, k, w, hD, hm, hel, h5⟩
 ·have hb : R.broken = false := by
   cases h : R.broken
   ·rfl
   ·exact absurd (.inl h) hbad
  have htu := hok.turn
  obtain ⟨m, rfl⟩ : ∃ m : Nat, n = m := ⟨n.toNat, by omega⟩
  exact cut04_main ρ mb db R hok w hm hel e he m k D hD hb (by omega) (by omega) (by omega)
theorem cut_any (ρ : Hp) (rb db : Nat) (R : RgS) (w : RW) (h : RIn ρ R w) (k : DK) (D : DS) (hD : DOk k D) (X : SH) (a : Option Addr) (nn c : Nat) (note : Bs) (hb : Rd ρ X a nn note) (n : Int) (hn : -9223372036854775808 ≤ n ∧ n ≤ 9223372036854775807) :
  Spec Try.prog 13 [.pointer (some ⟨rb, 0, none⟩), .int .i64 n, .slice a nn c] ρ (ZT rb db R w ++ (Zi db k D ++ X))
   (fun v ρ' L' => v = .int .i64 (R.cut n note D).2.2 ∧ ρ.le ρ' ∧ ∃ k' w', DOk k' (R.cut n note D).2.1 ∧ RIn ρ' (R.cut n note D).1 w' ∧ L' = ZT rb db (R.cut n note D).1 w' ++ (Zi db k' (R.cut n note D).2.1 ++ X)) := by
 by_cases hbad : R.broken = true ∨ (n < 0 ∨ (R.ents.length : Int) < n ∨ R.h.turn = 1073741824) ∨ 32 < note.length
 ·refine (cut_spec_early ρ rb db R w h k D hD X a nn c note hb n hn hbad).mono (fun v ρ' L' _ ⟨h1, h2, h3, h4, h5⟩ => ?_)
  subst h2
  rw [h3, h4]
  exact ⟨h1, Hp.le_refl _, k, w, hD, h, h5⟩
 ·have hbr : R.broken = false := by
   cases h : R.broken
   ·rfl
   ·exact absurd (.inl h) hbad
  have htu := h.ok.turn
  obtain ⟨m, rfl⟩ : ∃ m : Nat, n = m := ⟨n.toNat, by omega⟩
  exact cut_spec_main ρ rb db R w h k D hD X a nn c note hb m hbr (by omega) (by omega) (by omega)
theorem append04_none (ρ : Hp) (mb db : Nat) (br : Bool) (e : BSl) (k : DK) (D : DS) :
  Spec Try.prog 22 [.pointer (some ⟨mb, 0, none⟩), slv e] ρ ([[(mb, .cells ⟨mdV db zHd zMW br true⟩ 38 (0, 0))]] ++ Zi db k D)
   (fun v ρ' L' => v = .int .i64 1 ∧ ρ' = ρ ∧ L' = [[(mb, .cells ⟨mdV db zHd zMW br true⟩ 38 (0, 0))]] ++ Zi db k D) := by
 have hlv : slv e = .slice e.a e.n e.c := rfl
 rw [hlv]
 have hus := used04_spec ρ none 0 0 [] SIn.nil (fun x hx => by simp at hx) (by decide) (fun x hx => by simp at hx)
 have hu0 : ZB (([] : List BSl).map BSl.l) = 0 := rfl
 rw [hu0] at hus
 unfold mdV mdT zHd
 refine Zd Try.func22 rfl rfl rfl fun u RR => ?_
 simp only [Zw, List.cons_append, List.nil_append, List.length_nil]
 repeat' (first | (refine Zf ?_; first | (refine Ze ?_; refine qQ ?_) | refine Zk ?_) | refine Za ?_ | (refine Zg ?_; refine Zu ?_) | (refine Zh ?_; refine Zv ?_) | intro _)
 refine ZA (Zo _ _ _) stays_refl ?_
 all_goals (refine ZL 0 ?_; refine ZN ?_; refine rNc 1 ?_; refine ZU 2 ?_; refine ZU 3 ?_; refine ZU 4 ?_; refine ZX 5 ?_; refine ZL 6 ?_; refine rNc 7 ?_; refine ZU 8 ?_; refine ZU 9 ?_; refine ZX 10 ?_; refine rBi 11 ?_; refine rCv 12 ?_; refine rAd 13 ?_; refine rAs 14 ?_; refine ZH ?_)
 all_goals (repeat' (first | (refine Zb (.func 26) ?_; refine qC rfl rfl (hus) ?_; rintro v ρ' L' hle ⟨rfl, rfl, rfl⟩ <;> (try simp only [kM, kN, kO])) | (refine Zf ?_; first | (refine Ze ?_; refine qQ ?_) | refine Zk ?_) | refine Za ?_ | (refine Zg ?_; refine Zu ?_) | (refine Zh ?_; refine Zv ?_) | intro _))
 all_goals exact qE (L' := [[(mb, .cells ⟨mdV db zHd zMW br true⟩ 38 (0, 0))]] ++ Zi db k D) ⟨rfl, rfl, rfl⟩
theorem cut04_none (ρ : Hp) (mb db : Nat) (h : Hd) (w : MW) (br : Bool) (e : BSl) (n : Int) (k : DK) (D : DS) :
  Spec Try.prog 16 [.pointer (some ⟨mb, 0, none⟩), .int .i64 n, slv e] ρ ([[(mb, .cells ⟨mdV db h w br true⟩ 38 (0, 0))]] ++ Zi db k D)
   (fun v ρ' L' => v = .int .i64 1 ∧ ρ' = ρ ∧ L' = [[(mb, .cells ⟨mdV db h w br true⟩ 38 (0, 0))]] ++ Zi db k D) := by
 have hlv : slv e = .slice e.a e.n e.c := rfl
 rw [hlv]
 refine Zd Try.func16 rfl rfl rfl fun u RR => ?_
 simp only [Zw, List.cons_append, List.nil_append]
 repeat' (first | (refine Zf ?_; first | (refine Ze ?_; refine qQ ?_) | refine Zk ?_) | refine Za ?_ | (refine Zg ?_; refine Zu ?_) | (refine Zh ?_; refine Zv ?_) | intro _)
 exact qE (L' := [[(mb, .cells ⟨mdV db h w br true⟩ 38 (0, 0))]] ++ Zi db k D) ⟨rfl, rfl, rfl⟩
theorem openR_none {D D' : DS} {e : Int} (h : openR D = (none, D', e)) : e ≠ 0 := by
 unfold openR openH at h
 split at h
 ·rename_i h1; cases h; exact h1
 ·split at h
  ·rename_i h1; cases h; exact h1
  ·split at h
   ·cases h; decide
   ·split at h
    ·cases h; decide
    ·split at h
     ·rename_i h1
      simp only [Prod.mk.injEq, true_and] at h
      rw [h] at h1
      exact h1
     ·split at h
      ·cases h; decide
      ·split at h
       ·simp at h
       ·rename_i h1
        simp only [Prod.mk.injEq, true_and] at h
        rw [h] at h1
        exact h1
theorem openR_some {D D' : DS} {R : RgS} {e : Int} (h : openR D = (some R, D', e)) : e = 0 := by
 unfold openR openH at h
 split at h
 ·simp at h
 ·split at h
  ·simp at h
  ·split at h
   ·simp at h
   ·split at h
    ·simp at h
    ·split at h
     ·simp at h
     ·split at h
      ·simp at h
      ·split at h
       ·rename_i h1
        simp only [Prod.mk.injEq] at h
        rw [h.2] at h1
        exact h1
       ·simp at h
theorem formatR_none {D D' : DS} {n e : Int} (h : Yj n D = (none, D', e)) : e ≠ 0 := by
 unfold Yj at h
 split at h
 ·cases h; decide
 ·split at h
  ·split at h
   ·simp at h
   ·rename_i h1
    simp only [Prod.mk.injEq, true_and] at h
    rw [h] at h1
    exact h1
  ·rename_i h1
   simp only [Prod.mk.injEq, true_and] at h
   rw [h] at h1
   exact h1
theorem formatR_some {D D' : DS} {R : RgS} {n e : Int} (h : Yj n D = (some R, D', e)) : e = 0 := by
 unfold Yj at h
 split at h
 ·simp at h
 ·split at h
  ·split at h
   ·rename_i h1
    simp only [Prod.mk.injEq] at h
    rw [h.2] at h1
    exact h1
   ·simp at h
  ·simp at h
end Go.Proofs.E
