/- Laws of RedoLast. Part 11 of 19. -/
import Derived.Test.YtpcfmhifkkpjpaaGreatB10
namespace Go.Proofs.E
open Go
set_option linter.unusedVariables false
set_option linter.unusedSimpArgs false
set_option linter.unusedSectionVars false
set_option maxRecDepth 4000
set_option maxHeartbeats 1000000
attribute [local irreducible] Yl TL TC TE Spec ZK R1 Hp.le EnvLe TS TR YS Zp TP QP
theorem Rd.ofNone {ρ : Hp} {X : SH} {n : Nat} {l : Bs} (h : Rd ρ X none n l) : l = [] ∧ n = 0 := by
 have hl := h.len
 have := h.src ⟨Option.none, Tryz.prog, default, [], 0⟩ ρ X [] (Hp.le_refl _) ⟨by simp⟩
 rcases this with h | ⟨b, off, h, _⟩
 ·have : l = [] := by simpa using h
  subst this; exact ⟨rfl, by simpa using hl.symm⟩
 ·cases h
theorem cloneR_spec (ρ : Hp) (X : SH) (a : Option Addr) (n c : Nat) (b : Bs) (h : Rd ρ X a n b) (hn : n ≤ 1000000) :
  Spec Tryz.prog 87 [.slice a n c] ρ X (fun v ρ' L' => ρ.le ρ' ∧ ∃ e : BSl, v = slv e ∧ BIn ρ' e ∧ e.l = b ∧ e.n = n ∧ L' = X) := by
 have hl := h.len
 cases a with
 | none =>
  obtain ⟨rfl, rfl⟩ := h.ofNone
  refine Za Tryz.func87 rfl rfl rfl fun u R => ?_
  simp only [Zg, kA]
  repeat' (first | refine zW ?_ | intro _)
  exact qE ⟨Hp.le_refl _, ⟨none, 0, 0, []⟩, rfl, ⟨SIn.nil, Nat.le_refl _⟩, rfl, rfl, rfl⟩
 | some ad =>
  refine Za Tryz.func87 rfl rfl rfl fun u R => ?_
  simp only [Zg, kA]
  repeat' (first | refine zW ?_ | intro _)
  rename_i bx
  refine Yv (n := 0) (xs := []) (sp := []) (ys := b.map Zr) (sz := 1) rfl rfl (OwnS.zero _ 1) (hR := Zz) (h.src _ _ _ _ (Hp.le_refl _) tk) (by simpa using hl) (ZY b) (by decide) rfl (by omega) (by omega) rfl (fun v' sp' hown' => ?_)
  simp only [Nat.zero_add, List.nil_append] at hown' ⊢
  repeat' (first | refine zW ?_ | intro _)
  refine YG _ (h := Rem.here) (fun ρ6 hle6 hfz => ?_)
  obtain ⟨a6, c6, rfl, hc6, hs6⟩ := hown'.sIn hfz
  exact qE ⟨hle6, ⟨a6, n, c6, b⟩, rfl, ⟨hs6, hc6⟩, rfl, rfl, rfl⟩
theorem partsL_len {h : Hd} {n at' : Nat} {b : Bs} : ∀ p ∈ Yh h n b at', p.2.length = 64 := fun p hp => by
 simp only [Yh, List.mem_map] at hp
 obtain ⟨k, _, rfl⟩ := hp
 exact partB_len _ _ _ _
theorem partsF_spec (ρ : Hp) (h : Hd) (na : Option Addr) (nn nc n : Nat) (a : Option Addr) (bn c at' : Nat) :
  Spec Tryz.prog 85 [.agg ⟨hdV h na nn nc⟩, .int .u64 n, .slice a bn c, .int .i64 at'] ρ [] (fun v ρ' L' => ρ' = ρ ∧ ∃ bb ab hb nb, v = .func (.func 168) ⟨[]⟩ ⟨[.pointer (some ⟨bb, 0, none⟩), .pointer (some ⟨ab, 0, none⟩), .pointer (some ⟨hb, 0, none⟩), .pointer (some ⟨nb, 0, none⟩)]⟩ ∧ L' = partsS bb ab hb nb a bn c at' h na nn nc n) := by
 refine Za Tryz.func85 rfl rfl rfl fun u R => ?_
 simp only [Zg, kA]
 repeat' (first | refine zW ?_ | intro _)
 rename_i hb nb bb ab
 exact qE (L' := partsS bb ab hb nb a bn c at' h na nn nc n) ⟨rfl, bb, ab, hb, nb, rfl, rfl⟩
theorem RIn.broken {ρ : Hp} {R : RgS} {w : RW} (h : RIn ρ R w) (b : Bool) : RIn ρ { R with broken := b } w := ⟨⟨h.ok.turn, h.ok.size, h.ok.first, h.ok.next, h.ok.place, h.ok.note, h.ok.used, h.ok.fit, h.ok.long⟩, h.note, h.nle, h.own, h.ents, h.els⟩
theorem append_spec (ρ : Hp) (rb db : Nat) (R : RgS) (w : RW) (h : RIn ρ R w) (k : DK) (D : DS) (hD : DOk k D) (X : SH) (a : Option Addr) (n c : Nat) (b : Bs) (hb : Rd ρ X a n b) (hc : n ≤ c) (hbig : n ≤ 1000000) :
  Spec Tryz.prog 16 [.pointer (some ⟨rb, 0, none⟩), .slice a n c] ρ (Yw rb db R w ++ (Zk db k D ++ X))
   (fun v ρ' L' => v = .int .i64 (R.append b D).2.2 ∧ ρ.le ρ' ∧ ∃ k' w', DOk k' (R.append b D).2.1 ∧ RIn ρ' (R.append b D).1 w' ∧ L' = Yw rb db (R.append b D).1 w' ++ (Zk db k' (R.append b D).2.1 ++ X)) := by
 have hl := hb.len
 have hok := h.ok
 have hsz := h.ok.size
 have hft := h.ok.fit
 have hfs := h.ok.first
 have hnx := h.ok.next
 have hpl := h.ok.place
 have htu := h.ok.turn
 have hsc := sects_pos n
 cases hbr : R.broken with
 | true =>
  have he : R.append b D = (R, D, 8) := by simp [RgS.append, hbr]
  rw [he]
  have hw8 := works_spec ρ rb db R w
  rw [hbr] at hw8
  simp only [if_true] at hw8
  refine Za Tryz.func16 rfl rfl rfl fun u R0 => ?_
  simp only [Zg, kA, List.append_assoc]
  repeat' (first | (refine Zb (.func 82) ?_; refine qR rfl rfl (hw8) ?_; try simp only [kA]) | refine zW ?_ | intro _)
  exact qE (L' := Yw rb db R w ++ (Zk db k D ++ X)) ⟨rfl, Hp.le_refl _, k, w, hD, h, rfl⟩
 | false =>
  have hw0 := works_spec ρ rb db R w
  rw [hbr] at hw0
  simp only [Bool.false_eq_true, if_false] at hw0
  by_cases hlong : 8000 < n
  ·have he : R.append b D = (R, D, 3) := by simp [RgS.append, hbr, hl, hlong]
   rw [he]
   refine Za Tryz.func16 rfl rfl rfl fun u R0 => ?_
   simp only [Zg, kA, List.append_assoc]
   repeat' (first | (refine Zb (.func 82) ?_; refine qR rfl rfl (hw0) ?_; try simp only [kA]) | refine zW ?_ | intro _)
   exact qE (L' := Yw rb db R w ++ (Zk db k D ++ X)) ⟨rfl, Hp.le_refl _, k, w, hD, h, rfl⟩
  ·have hnext := next_spec ρ rb db R w h
   by_cases hfull : R.h.size - R.used < ZF n
   ·have he : R.append b D = (R, D, 6) := by simp [RgS.append, hbr, hl, hlong, hfull]
    rw [he]
    refine Za Tryz.func16 rfl rfl rfl fun u R0 => ?_
    simp only [Zg, kA, List.append_assoc]
    repeat' (first | (refine Zb (.func 82) ?_; refine qR rfl rfl (hw0) ?_; try simp only [kA]) | refine zW ?_ | intro _)
    refine tpA [0,1,3,4,5,6,7,8,9,10,11,12] (.e 2 [13,14,15] (.e 16 [] (.f [17,18,19] .o))) ([[(rb, .cells ⟨rgV R db w⟩ 163 (0, 0))]]) ?_
    repeat' (refine iT ?_; first | refine rA ?_ | ((refine iE ?_; refine rE ?_) <;> ((try refine Zn ?_); (first | (refine Zb (.func 83) ?_; refine qR rfl rfl (sects_nat _ n (by omega)) ?_; try simp only [kA]) | (refine Yj ?_; try intro _)) <;> ((try simp only [kA]); refine Zi ?_; refine rN ?_))))
    all_goals (repeat' (first | refine zW ?_ | intro _))
    all_goals exact qE (L' := Yw rb db R w ++ (Zk db k D ++ X)) ⟨rfl, Hp.le_refl _, k, w, hD, h, rfl⟩
   ·by_cases hmax : 1099511627776 ≤ R.next
    ·have he : R.append b D = (R, D, 6) := by simp [RgS.append, hbr, hl, hlong, hfull, hmax]
     rw [he]
     refine Za Tryz.func16 rfl rfl rfl fun u R0 => ?_
     simp only [Zg, kA, List.append_assoc]
     repeat' (first | (refine Zb (.func 82) ?_; refine qR rfl rfl (hw0) ?_; try simp only [kA]) | refine zW ?_ | intro _)
     refine tpA [0,1,3,4,5,6,7,8,9,10,11,12] (.e 2 [13,14,15] (.e 16 [] (.f [17,18,19] .o))) ([[(rb, .cells ⟨rgV R db w⟩ 163 (0, 0))]]) ?_
     repeat' (refine iT ?_; first | refine rA ?_ | ((refine iE ?_; refine rE ?_) <;> ((try refine Zn ?_); (first | (refine Zb (.func 83) ?_; refine qR rfl rfl (sects_nat _ n (by omega)) ?_; try simp only [kA]) | (refine Zb (.func 84) ?_; refine qR rfl rfl (hnext) ?_; try simp only [kA]) | (refine Yj ?_; try intro _)) <;> ((try simp only [kA]); refine Zi ?_; refine rN ?_))))
     all_goals (repeat' (first | refine zW ?_ | intro _))
     all_goals exact qE (L' := Yw rb db R w ++ (Zk db k D ++ X)) ⟨rfl, Hp.le_refl _, k, w, hD, h, rfl⟩
    ·have hpu : (R.h.place : Int) + (R.used : Int) = ((R.h.place + R.used : Nat) : Int) := by omega
     have hit := fun bb ab hb2 nb => parts_iter ρ X bb ab hb2 nb a n c (R.h.place + R.used) b R.h w.na w.nn w.nc R.next hb hc (by omega) hnx (by omega) (by omega) (by omega) (by omega)
     have hsome : R.append b D = if (DS.lays (Yh R.h R.next b (R.h.place + R.used)) D).2 = 0 then (⟨R.h, R.ents ++ [b], R.used + ZF b.length, false⟩, DS.lays (Yh R.h R.next b (R.h.place + R.used)) D) else ({ R with broken := true }, DS.lays (Yh R.h R.next b (R.h.place + R.used)) D) := by
      unfold RgS.append
      rw [hbr, hl, if_neg (by simp), if_neg (by omega), if_neg (by omega)]
     refine Za Tryz.func16 rfl rfl rfl fun u R0 => ?_
     simp only [Zg, kA, List.append_assoc]
     repeat' (first | (refine Zb (.func 82) ?_; refine qR rfl rfl (hw0) ?_; try simp only [kA]) | refine zW ?_ | intro _)
     refine tpA [0,1,3,4,5,6,7,8,9,10,11,12] (.e 2 [13,14,15] (.e 16 [] (.f [17,18,19] .o))) ([[(rb, .cells ⟨rgV R db w⟩ 163 (0, 0))]]) ?_
     repeat' (refine iT ?_; first | refine rA ?_ | ((refine iE ?_; refine rE ?_) <;> ((try refine Zn ?_); (first | (refine Zb (.func 83) ?_; refine qR rfl rfl (sects_nat _ n (by omega)) ?_; try simp only [kA]) | (refine Zb (.func 84) ?_; refine qR rfl rfl (hnext) ?_; try simp only [kA]) | (refine Yj ?_; try intro _)) <;> ((try simp only [kA]); refine Zi ?_; refine rN ?_))))
     all_goals (repeat' (first | refine zW ?_ | intro _))
     refine tpA [0,1,2,3,4,5,6,7,8,10,11,12,13,14,15,16,17,18,19,20] (.e 9 [] (.e 21 [] (.e 22 [] (.f [23] .o)))) ([[(rb, .cells ⟨rgV R db w⟩ 163 (0, 0))]]) ?_
     repeat' (refine iT ?_; first | refine rA ?_ | ((refine iE ?_; refine rE ?_) <;> ((try refine Zn ?_); (first | (refine Zb (.func 84) ?_; refine qR rfl rfl (hnext) ?_; try simp only [kA, hpu]) | (refine Zb (.func 85) ?_; refine qC rfl rfl (partsF_spec _ R.h w.na w.nn w.nc R.next a n c (R.h.place + R.used)) ?_; rintro v ρ' L' hle ⟨rfl, bb, ab, hb2, nb, rfl, rfl⟩ <;> (try simp only [kA])) | (refine Zb (.func 74) ?_; refine qC rfl rfl (lays_spec _ _ _ _ _ _ (Hp.le_refl _) (hit bb ab hb2 nb) partsL_len db k D hD) ?_; rintro v6 ρ6 L6 hle6 ⟨rfl, hl6, k6, hD6, rfl⟩; simp only [kA, List.append_assoc]) | (refine Yj ?_; try intro _)) <;> ((try simp only [kA]); refine Zi ?_; refine rN ?_))))
     all_goals (repeat' (first | refine zW ?_ | intro _))
     have hlm := h.mono hl6
     have hbm := hb.mono hl6
     rw [hsome]
     generalize DS.lays (Yh R.h R.next b (R.h.place + R.used)) D = r at *
     obtain ⟨D', ec⟩ := r
     dsimp only at hD6 ⊢
     by_cases hz : ec = 0
     ·subst hz
      rw [show ((0 : Int) != 0) = false from rfl, if_pos rfl]
      repeat' (first | (refine Zb (.func 87) ?_; refine qC rfl rfl (cloneR_spec _ X a n c b hbm hbig) ?_; rintro v7 ρ7 L7 hle7 ⟨hl7, e, rfl, he, hel, hen, rfl⟩; subst hel; simp only [kA]) | (refine Zb (.func 86) ?_; refine qC rfl rfl (adds_spec _ rb db { R with broken := false } w ((hlm.mono hl7).broken false) e he (by omega) (by rw [hen]; dsimp only; omega) (by have : RgS.next { R with broken := false } = R.next := rfl; omega)) ?_; rintro v8 ρ8 L8 hle8 ⟨rfl, rfl, ev8, sp8, hin8, rfl⟩; simp only [kA]) | refine zW ?_ | intro _)
      exact qE (L' := Yw rb db (RgS.adds { R with broken := false } e.l) ⟨w.na, w.nn, w.nc, ev8, w.els ++ [e], sp8⟩ ++ (Zk db k6 D' ++ _)) ⟨rfl, Hp.le_trans hl6 hl7, k6, _, hD6, hin8, rfl⟩
     ·have hcb : (ec != 0) = true := by simpa using hz
      rw [hcb, if_neg hz]
      repeat' (first | refine zW ?_ | intro _)
      exact qE (L' := Yw rb db { R with broken := true } w ++ (Zk db k6 D' ++ X)) ⟨rfl, hl6, k6, w, hD6, hlm.broken true, rfl⟩
end Go.Proofs.E
namespace Go.Proofs.E
open Go
set_option linter.unusedVariables false
set_option linter.unusedSimpArgs false
set_option linter.unusedSectionVars false
set_option maxRecDepth 4000
set_option maxHeartbeats 1000000
attribute [local irreducible] Yl TL TC TE Spec ZK R1 Hp.le EnvLe TS TR YS Zp
theorem mod_inj {p m i j : Nat} (h : (p + i) % m = (p + j) % m) (hi : i < m) (hj : j < m) : i = j := by
 have key : ∀ i j : Nat, i < m → j < m → i ≤ j → (p + i) % m = (p + j) % m → i = j := by
  intro i j hi hj hle h
  have h1 := Nat.div_add_mod (p + i) m
  have h2 := Nat.div_add_mod (p + j) m
  have h3 : m * ((p + j) / m) = m * ((p + i) / m) + (j - i) := by omega
  have h4 : (j - i) = m * ((p + j) / m - (p + i) / m) := by rw [Nat.mul_sub]; omega
  rcases Nat.eq_zero_or_pos ((p + j) / m - (p + i) / m) with h0 | h0
  ·rw [h0] at h4; omega
  ·have : m * 1 ≤ m * ((p + j) / m - (p + i) / m) := Nat.mul_le_mul_left m h0
   omega
 rcases Nat.le_total i j with hle | hle
 ·exact key i j hi hj hle h
 ·exact (key j i hj hi hle h.symm).symm
theorem partsL_mem {h : Hd} {n at' : Nat} {b : Bs} {p : Nat × Blk} : p ∈ Yh h n b at' ↔ ∃ k, k < ZF b.length ∧ p = (2 + (at' + k) % h.size, YA h.turn n b k) := by
 simp only [Yh, List.mem_map, List.mem_range]
 constructor
 ·rintro ⟨k, h1, rfl⟩; exact ⟨k, h1, rfl⟩
 ·rintro ⟨k, h1, rfl⟩; exact ⟨k, h1, rfl⟩
def RgS.plus (R : RgS) (b : Bs) : RgS := ⟨R.h, R.ents ++ [b], R.used + ZF b.length, false⟩
section
variable {R : RgS} {D D' : DS} {b : Bs}
structure Wrote (R : RgS) (D D' : DS) (b : Bs) : Prop where
 ok : D'.Ok
 alive : D'.dead = false
 empty : YD D'.secs
 len : D'.secs.length = D.secs.length
 at' : ∀ i, img D' i = img D i ∨ ∃ k, k < ZF b.length ∧ i = 2 + (R.h.place + R.used + k) % R.h.size ∧ img D' i = YA R.h.turn R.next b k
theorem Wrote.old (w : Wrote R D D' b) (h : RO R D) (hfit : ZF b.length ≤ R.h.size - R.used) {j : Nat} (hj : j < R.used) : img D' (2 + (R.h.place + j) % R.h.size) = img D (2 + (R.h.place + j) % R.h.size) := by
 rcases w.at' (2 + (R.h.place + j) % R.h.size) with h1 | ⟨k, hk, he, _⟩
 ·exact h1
 ·have := mod_inj (p := R.h.place) (i := j) (j := R.used + k) (m := R.h.size) (by rw [← Nat.add_assoc]; omega) (by omega) (by omega)
  omega
theorem Wrote.heads (w : Wrote R D D' b) {i : Nat} (hi : i < 2) : img D' i = img D i := by
 rcases w.at' i with h1 | ⟨k, hk, he, _⟩
 ·exact h1
 ·omega
theorem Wrote.bound (w : Wrote R D D' b) (h : RO R D) (hn : R.next < 1099511627776) {q : Nat} (hq : q < R.h.size) : Wt (img D' (2 + q)) ≤ R.h.turn ∧ numOf (img D' (2 + q)) ≤ R.next := by
 have ht := h.ok.turn
 rcases w.at' (2 + q) with h1 | ⟨k, hk, _, he⟩
 ·rw [h1]; exact h.bound q hq
 ·rw [he, partB_turn (by omega), partB_num hn]; omega
theorem Wrote.whole (w : Wrote R D D' b) (h : RO R D) (hb : b.length ≤ 8000) (hfit : ZF b.length ≤ R.h.size - R.used) (hn : R.next < 1099511627776)
  (hall : ∀ k, k < ZF b.length → img D' (2 + (R.h.place + R.used + k) % R.h.size) = YA R.h.turn R.next b k) : RO (R.plus b) D' ∧ Frs (R.plus b) D' := by
 have ht := h.ok.turn
 have hnx : (R.plus b).next = R.next + 1 := by simp [RgS.plus, RgS.next]; omega
 have hsz := h.ok.size
 refine ⟨⟨⟨h.ok.turn, h.ok.size, h.ok.first, by rw [hnx]; omega, h.ok.place, h.ok.note, ?_, ?_, ?_⟩, rfl, h.num, w.ok, w.alive, w.empty, by rw [w.len]; exact h.len, ?_, ?_, ?_, ?_, ?_⟩, ?_⟩
 ·simp only [RgS.plus, usedL_append, h.ok.used]; simp [Xv]
 ·have := h.ok.fit
  simp only [RgS.plus]; omega
 ·intro c hc
  simp only [RgS.plus, List.mem_append, List.mem_singleton] at hc
  rcases hc with hc | rfl
  ·exact h.ok.long c hc
  ·exact hb
 ·rw [w.heads (by simp only [RgS.plus]; omega)]; exact h.head
 ·intro h1
  rw [w.heads (by simp only [RgS.plus]; omega)] at h1 ⊢
  exact h.other h1
 ·have hu := h.ok.used
  refine Has.append (h.has.frame rfl (fun j hj => w.old h hfit (by rw [hu]; exact hj))) ⟨⟨R.h.turn, ht.1, Nat.le_refl _, fun k hk => ?_⟩, trivial⟩
  have := hall k hk
  rw [hu] at this; exact this
 ·intro hlt t c h1 h2 h3 h4
  rw [hnx] at hlt ⊢
  refine ⟨0, by have := sects_pos c.length; omega, fun he => ?_⟩
  have hb1 := (w.bound h hn (q := ((R.plus b).h.place + (R.plus b).used + 0) % (R.plus b).h.size) (Nat.mod_lt _ (by simp only [RgS.plus]; omega))).2
  rw [he, partB_num hlt] at hb1
  omega
 ·intro q hq
  have := w.bound h hn hq
  rw [hnx]; simp only [RgS.plus]; omega
 ·intro q hq hc
  have := (w.bound h hn hq).2
  rw [hnx] at hc; omega
theorem Wrote.torn (w : Wrote R D D' b) (h : RO R D) (hf : Frs R D) (hb : b.length ≤ 8000) (hfit : ZF b.length ≤ R.h.size - R.used) (hn : R.next < 1099511627776)
  {k0 : Nat} (hk0 : k0 < ZF b.length) (hne : img D' (2 + (R.h.place + R.used + k0) % R.h.size) ≠ YA R.h.turn R.next b k0) : RO R D' := by
 have ht := h.ok.turn
 have hsz := h.ok.size
 refine ⟨h.ok, h.live, h.num, w.ok, w.alive, w.empty, by rw [w.len]; exact h.len, ?_, ?_, ?_, ?_, fun q hq => w.bound h hn hq⟩
 ·rw [w.heads (by omega)]; exact h.head
 ·intro h1
  rw [w.heads (by omega)] at h1 ⊢
  exact h.other h1
 ·have hu := h.ok.used
  exact h.has.frame rfl (fun j hj => w.old h hfit (by rw [hu]; exact hj))
 ·intro hlt t c h1 h1' h2 h3
  by_cases hex : ∃ k, k < ZF c.length ∧ img D' (2 + (R.h.place + R.used + k) % R.h.size) ≠ YA t R.next c k
  ·exact hex
  ·exfalso
   have hall : ∀ k, k < ZF c.length → img D' (2 + (R.h.place + R.used + k) % R.h.size) = YA t R.next c k := fun k hk => by
    by_cases he : img D' (2 + (R.h.place + R.used + k) % R.h.size) = YA t R.next c k
    ·exact he
    ·exact absurd ⟨k, hk, he⟩ hex
   by_cases hT : t = R.h.turn
   ·subst hT
    have hnew : ∀ k, k < ZF c.length → k < ZF b.length ∧ img D' (2 + (R.h.place + R.used + k) % R.h.size) = YA R.h.turn R.next b k := fun k hk => by
     rcases w.at' (2 + (R.h.place + R.used + k) % R.h.size) with e | ⟨k2, hk2, he, e⟩
     ·exfalso
      have hq : (R.h.place + R.used + k) % R.h.size < R.h.size := Nat.mod_lt _ (by omega)
      refine hf _ hq ?_
      rw [← e, hall k hk, partB_turn (by omega), partB_num hlt]
      exact ⟨rfl, rfl⟩
     ·have : k = k2 := mod_inj (p := R.h.place + R.used) (m := R.h.size) (by omega) (by omega) (by omega)
      subst this
      exact ⟨hk2, e⟩
    have h0 := sects_pos c.length
    have hsame := (hall 0 (by omega)).symm.trans (hnew 0 (by omega)).2
    have hlen : c.length = b.length := by
     have := congrArg XN hsame
     rwa [partB_size (by omega), partB_size (by omega)] at this
    exact hne (hnew k0 (by rw [hlen]; exact hk0)).2
   ·obtain ⟨k, hk, hne2⟩ := h.none hlt t c h1 h1' h2 h3
    refine hne2 ?_
    rcases w.at' (2 + (R.h.place + R.used + k) % R.h.size) with e | ⟨k2, hk2, he, e⟩
    ·rw [← e]; exact hall k hk
    ·exfalso
     have := (hall k hk).symm.trans e
     have := congrArg Wt this
     rw [partB_turn (by omega), partB_turn (by omega)] at this
     exact hT this
end
theorem RO.wrote {R : RgS} {D D' : DS} {b : Bs} {keep : Nat → Bool} {l : List (Nat × Blk)} (h : RO R D) (hl : l <+: Yh R.h R.next b (R.h.place + R.used)) (hok : D'.Ok) (hal : D'.dead = false) (hs : D'.secs = settled keep (YJ D.secs l)) : Wrote R D D' b :=
 ⟨hok, hal, by rw [hs]; exact Yf, by rw [hs, ZX, Yy], fun i => by
  rcases YZ h.empty hs D rfl i with e | ⟨p, hp, h1, h2⟩
  ·exact .inl e
  ·obtain ⟨k, hk, rfl⟩ := partsL_mem.1 (hl.subset hp)
   exact .inr ⟨k, hk, h1.symm, h2⟩⟩
theorem RO.append {R : RgS} {D : DS} {b : Bs} (h : RO R D) (hf : Frs R D) (hb : b.length ≤ 8000) (hfit : ZF b.length ≤ R.h.size - R.used) (hn : R.next < 1099511627776) :
  ((DS.lays (Yh R.h R.next b (R.h.place + R.used)) D).2 = 0 → RO (R.plus b) (DS.lays (Yh R.h R.next b (R.h.place + R.used)) D).1 ∧ Frs (R.plus b) (DS.lays (Yh R.h R.next b (R.h.place + R.used)) D).1) ∧
  ((DS.lays (Yh R.h R.next b (R.h.place + R.used)) D).2 ≠ 0 → ∀ keep, RO R ((DS.lays (Yh R.h R.next b (R.h.place + R.used)) D).1.crash keep) ∨ RO (R.plus b) ((DS.lays (Yh R.h R.next b (R.h.place + R.used)) D).1.crash keep)) := by
 have hsz := h.ok.size
 have hlen := h.len
 have hok : (DS.lays (Yh R.h R.next b (R.h.place + R.used)) D).1.Ok := h.dok.lays partsL_len
 have hidx : ∀ p ∈ Yh R.h R.next b (R.h.place + R.used), p.1 < D.secs.length := fun p hp => by
  obtain ⟨k, hk, rfl⟩ := partsL_mem.1 hp
  have := Nat.mod_lt (R.h.place + R.used + k) (show 0 < R.h.size by omega)
  dsimp only; omega
 rcases lays_out (Yh R.h R.next b (R.h.place + R.used)) D h.alive hidx with ⟨l', hl', hs, hc⟩ | ⟨hs, hc, hal⟩
 ·refine ⟨fun h0 => absurd h0 hc, fun _ keep => ?_⟩
  have w : Wrote R D ((DS.lays (Yh R.h R.next b (R.h.place + R.used)) D).1.crash keep) b := h.wrote hl' hok.crash rfl (by simp only [DS.crash]; rw [hs])
  by_cases hex : ∃ k, k < ZF b.length ∧ img ((DS.lays (Yh R.h R.next b (R.h.place + R.used)) D).1.crash keep) (2 + (R.h.place + R.used + k) % R.h.size) ≠ YA R.h.turn R.next b k
  ·obtain ⟨k, hk, hne⟩ := hex
   exact .inl (w.torn h hf hb hfit hn hk hne)
  ·refine .inr (w.whole h hb hfit hn (fun k hk => ?_)).1
   by_cases he : img ((DS.lays (Yh R.h R.next b (R.h.place + R.used)) D).1.crash keep) (2 + (R.h.place + R.used + k) % R.h.size) = YA R.h.turn R.next b k
   ·exact he
   ·exact absurd ⟨k, hk, he⟩ hex
 ·refine ⟨fun _ => ?_, fun h0 => absurd hc h0⟩
  have w := h.wrote (List.prefix_refl _) hok hal hs
  refine w.whole h hb hfit hn (fun k hk => ?_)
  have hm : (2 + (R.h.place + R.used + k) % R.h.size, YA R.h.turn R.next b k) ∈ Yh R.h R.next b (R.h.place + R.used) := partsL_mem.2 ⟨k, hk, rfl⟩
  rcases img_all h.empty hs D rfl (hidx _ hm) with ⟨_, hno⟩ | ⟨p, hp, h1, h2⟩
  ·exact absurd rfl (hno _ hm)
  ·obtain ⟨k2, hk2, rfl⟩ := partsL_mem.1 hp
   dsimp only at h1 h2
   have : k2 = k := mod_inj (p := R.h.place + R.used) (m := R.h.size) (by omega) (by omega) (by omega)
   subst this
   exact h2
def RgS.minus (R : RgS) (n : Nat) (note : Bs) : RgS := ⟨R.cutH n note, R.ents.drop n, R.used - Xv (R.ents.take n), false⟩
theorem RO.cut {R : RgS} {D : DS} {n : Nat} {note : Bs} (h : RO R D) (hn : n ≤ R.ents.length) (ht : R.h.turn < 1073741824) (hnote : note.length ≤ 32) (hnum : R.next < 1099511627776) :
  ((DS.lays (Ys (R.cutH n note)) D).2 = 0 → RO (R.minus n note) (DS.lays (Ys (R.cutH n note)) D).1 ∧ Frs (R.minus n note) (DS.lays (Ys (R.cutH n note)) D).1) ∧
  ((DS.lays (Ys (R.cutH n note)) D).2 ≠ 0 → ∀ keep, RO R ((DS.lays (Ys (R.cutH n note)) D).1.crash keep) ∨ RO (R.minus n note) ((DS.lays (Ys (R.cutH n note)) D).1.crash keep)) := by
 have hsz := h.ok.size
 have hlen := h.len
 have hus := h.ok.used
 have hft := h.ok.fit
 have htd := usedL_take_drop R.ents n
 have hnx := h.ok.next
 have hfi := h.ok.first
 have htu := h.ok.turn
 have hok : (DS.lays (Ys (R.cutH n note)) D).1.Ok := h.dok.lays (fun p hp => by rw [(YL hp).2]; exact headB_len _)
 have hidx : ∀ p ∈ Ys (R.cutH n note), p.1 < D.secs.length := fun p hp => by rw [(YL hp).1]; omega
 have hm : 0 < R.h.size := by omega
 have hok' : RgS.Ok (R.minus n note) := ⟨⟨by simp [RgS.minus, RgS.cutH, Hd.cut], by simp [RgS.minus, RgS.cutH, Hd.cut]; omega⟩, hsz, by simp only [RgS.minus, RgS.cutH, Hd.cut]; omega, by simp only [RgS.minus, RgS.cutH, Hd.cut, RgS.next, List.length_drop] at hnx ⊢; omega, Nat.mod_lt _ hm, hnote, by simp only [RgS.minus]; omega, by simp only [RgS.minus, RgS.cutH, Hd.cut]; omega, fun c hc => h.ok.long c (List.mem_of_mem_drop hc)⟩
 have hhas : Has (img D) (R.cutH n note).size (R.cutH n note).turn (R.cutH n note).first (R.cutH n note).place (R.ents.drop n) := by
  have := (h.has.drop n hn).le (T' := R.h.turn + 1) (by omega)
  exact this.frame (by simp [RgS.cutH, Hd.cut]) (fun _ _ => rfl)
 have hpl : ((R.cutH n note).place + (R.used - Xv (R.ents.take n))) % (R.cutH n note).size = (R.h.place + R.used) % (R.cutH n note).size := by
  simp only [RgS.cutH, Hd.cut]
  rw [Nat.add_mod, Nat.mod_mod, ← Nat.add_mod]
  congr 1; omega
 have hfn : (R.cutH n note).first + (R.ents.drop n).length = R.next := by simp only [RgS.cutH, Hd.cut, RgS.next, List.length_drop]; omega
 have key : ∀ {D' : DS} {keep : Nat → Bool} {l : List (Nat × Blk)}, l <+: Ys (R.cutH n note) → D'.Ok → D'.dead = false → D'.secs = settled keep (YJ D.secs l) → img D' ((R.h.turn + 1) % 2) = XQ (R.cutH n note) → RO (R.minus n note) D' ∧ Frs (R.minus n note) D' := by
  intro D' keep l hl hok1 hal hs hi
  refine h.newHead hok1 hal (by rw [hs]; exact Yf) (by rw [hs, ZX, Yy]) hi (fun i hi => ?_) rfl rfl hok' (by unfold RgS.next at hnum; simp only [RgS.cutH, Hd.cut]; omega) hhas hpl hfn
  rcases YZ h.empty hs D rfl i with e | ⟨p, hp, h1, _⟩
  ·exact e
  ·exact absurd (by rw [← h1, (YL (hl.subset hp)).1]; rfl) hi
 rcases lays_out (Ys (R.cutH n note)) D h.alive hidx with ⟨l', hl', hs, hc⟩ | ⟨hs, hc, hal⟩
 ·refine ⟨fun h0 => absurd h0 hc, fun _ keep => ?_⟩
  have hs2 : ((DS.lays (Ys (R.cutH n note)) D).1.crash keep).secs = settled keep (YJ D.secs l') := by simp only [DS.crash]; rw [hs]
  have hsame : ∀ i, i ≠ (R.h.turn + 1) % 2 → img ((DS.lays (Ys (R.cutH n note)) D).1.crash keep) i = img D i := fun i hi => by
   rcases YZ h.empty hs2 D rfl i with e | ⟨p, hp, h1, _⟩
   ·exact e
   ·exact absurd (by rw [← h1, (YL (hl'.subset hp)).1]; rfl) hi
  rcases YZ h.empty hs2 D rfl ((R.h.turn + 1) % 2) with e | ⟨p, hp, _, h2⟩
  ·left
   have hi : ∀ i, img ((DS.lays (Ys (R.cutH n note)) D).1.crash keep) i = img D i := fun i => by
    by_cases he : i = (R.h.turn + 1) % 2
    ·rw [he]; exact e
    ·exact hsame i he
   have hi' : img ((DS.lays (Ys (R.cutH n note)) D).1.crash keep) = img D := funext hi
   exact ⟨h.ok, h.live, h.num, hok.crash, rfl, by rw [hs2]; exact Yf, by rw [hs2, ZX, Yy]; exact h.len, by rw [hi']; exact h.head, by rw [hi']; exact h.other, by rw [hi']; exact h.has, by rw [hi']; exact h.none, by rw [hi']; exact h.bound⟩
  ·right
   exact (key hl' hok.crash rfl hs2 (by rw [h2, (YL (hl'.subset hp)).2])).1
 ·refine ⟨fun _ => ?_, fun h0 => absurd hc h0⟩
  refine key (List.prefix_refl _) hok hal hs ?_
  rcases img_all h.empty hs D rfl (i := (R.h.turn + 1) % 2) (by omega) with ⟨_, hno⟩ | ⟨p, hp, _, h2⟩
  ·exact absurd rfl (hno _ (List.mem_singleton.2 rfl))
  ·rw [h2, (YL hp).2]
theorem RO.crash {R : RgS} {D : DS} (h : RO R D) (keep : Nat → Bool) : RO R (D.crash keep) := by
 have hs : (D.crash keep).secs = D.secs := by simp only [DS.crash]; exact settled_empty h.empty
 have hi := XA hs
 exact ⟨h.ok, h.live, h.num, h.dok.crash, rfl, by rw [hs]; exact h.empty, by rw [hs]; exact h.len, by rw [hi]; exact h.head, by rw [hi]; exact h.other, by rw [hi]; exact h.has, by rw [hi]; exact h.none, by rw [hi]; exact h.bound⟩
theorem RIn.at {ρ : Hp} {R : RgS} {w : RW} (h : RIn ρ R w) {k : Nat} (hk : k < w.els.length) : (w.els[k]).l = R.ents[k]'(by rw [← h.len]; exact hk) ∧ BIn ρ w.els[k] ∧ (w.els[k]).n ≤ 8000 := by
 have hb := h.els _ (List.getElem_mem hk)
 have hl := hb.s.len
 have hlong := h.ok.long
 have he : (w.els[k]).l = R.ents[k]'(by rw [← h.len]; exact hk) := by simp [h.ents]
 refine ⟨he, hb, ?_⟩
 rw [← hl, he]; exact hlong _ (List.getElem_mem _)
end Go.Proofs.E
namespace Go.Proofs.E
open Go
set_option linter.unusedVariables false
set_option linter.unusedSimpArgs false
set_option linter.unusedSectionVars false
set_option maxRecDepth 4000
set_option maxHeartbeats 1000000
attribute [local irreducible] Yl TL TC TE Spec ZK R1 Hp.le EnvLe TS TR YS Zp TP QP
theorem noughtsL_64 {n : Nat} : ∀ p ∈ Zy n, p.2.length = 64 := fun p hp => by
 simp only [Zy, List.mem_map] at hp
 obtain ⟨k, _, rfl⟩ := hp; rfl
theorem fresh_rok {n : Nat} (h0 : 4 ≤ n) (h1 : n ≤ 1000) : RgS.Ok ⟨ZI n, [], 0, false⟩ :=
 ⟨by simp [ZI], ⟨h0, h1⟩, by simp [ZI], by simp [RgS.next, ZI], by simp only [ZI]; omega, by simp [ZI], rfl, Nat.zero_le _, by simp⟩
theorem fresh_rin {ρ : Hp} {n : Nat} (h0 : 4 ≤ n) (h1 : n ≤ 1000) : RIn ρ ⟨ZI n, [], 0, false⟩ ⟨none, 0, 0, .slice none 0 0, [], []⟩ :=
 ⟨fresh_rok h0 h1, SIn.nil, Nat.le_refl _, OwnS.nil 1, rfl, by simp⟩
def ringAns (ρ' : Hp) (db : Nat) (r : Option RgS × DS × Int) (v : Value) (L' : SH) : Prop :=
 ∃ k', DOk k' r.2.1 ∧ match r.1 with
  | none => v = .tuple ⟨[.pointer none, .int .i64 r.2.2]⟩ ∧ L' = Zk db k' r.2.1
  | some R => ∃ rb w, v = .tuple ⟨[.pointer (some ⟨rb, 0, none⟩), .int .i64 0]⟩ ∧ RIn ρ' R w ∧ L' = Yw rb db R w ++ Zk db k' r.2.1
theorem format_spec (ρ : Hp) (db : Nat) (k : DK) (D : DS) (hD : DOk k D) (size : Int) (hs : -9223372036854775808 ≤ size ∧ size ≤ 9223372036854775807) :
  Spec Tryz.prog 13 [.pointer (some ⟨db, 0, none⟩), .int .i64 size] ρ (Zk db k D) (fun v ρ' L' => ρ.le ρ' ∧ ringAns ρ' db (We size D) v L') := by
 by_cases h1 : size < 4
 ·have he : We size D = (none, D, 2) := by unfold We; rw [if_pos (.inl h1)]
  rw [he]
  refine Za Tryz.func13 rfl rfl rfl fun u R => ?_
  simp only [Zg, kA]
  repeat' (first | refine zW ?_ | intro _)
  rename_i b3
  refine tpA [0,1,2,3,4,5,6,7,9,10] (.e 8 [] (.f [11,12] .o)) ([[(b3, .cells ⟨[.int .i64 size]⟩ 3 (0, 0))]]) ?_
  repeat' (refine iT ?_; first | refine rA ?_ | ((refine iE ?_; refine rE ?_) <;> ((try refine Zn ?_); (first | (refine Zb (.func 73) ?_; refine qR rfl rfl (klen _ db k D) ?_; try simp only [kA]) | (refine Yj ?_; try intro _)) <;> ((try simp only [kA]); refine Zi ?_; refine rN ?_))))
  all_goals (repeat' (first | refine zW ?_ | intro _))
  all_goals exact qE ⟨Hp.le_refl _, k, hD, rfl, rfl⟩
 ·by_cases h2 : 1000 < size
  ·have he : We size D = (none, D, 2) := by unfold We; rw [if_pos (.inr (.inl h2))]
   rw [he]
   refine Za Tryz.func13 rfl rfl rfl fun u R => ?_
   simp only [Zg, kA]
   repeat' (first | refine zW ?_ | intro _)
   rename_i b3
   refine tpA [0,1,2,3,4,5,6,7,9,10] (.e 8 [] (.f [11,12] .o)) ([[(b3, .cells ⟨[.int .i64 size]⟩ 3 (0, 0))]]) ?_
   repeat' (refine iT ?_; first | refine rA ?_ | ((refine iE ?_; refine rE ?_) <;> ((try refine Zn ?_); (first | (refine Zb (.func 73) ?_; refine qR rfl rfl (klen _ db k D) ?_; try simp only [kA]) | (refine Yj ?_; try intro _)) <;> ((try simp only [kA]); refine Zi ?_; refine rN ?_))))
   all_goals (repeat' (first | refine zW ?_ | intro _))
   all_goals exact qE ⟨Hp.le_refl _, k, hD, rfl, rfl⟩
  ·by_cases h3 : (D.secs.length : Int) < size + 2
   ·have he : We size D = (none, D, 2) := by unfold We; rw [if_pos (.inr (.inr h3))]
    rw [he]
    refine Za Tryz.func13 rfl rfl rfl fun u R => ?_
    simp only [Zg, kA]
    repeat' (first | refine zW ?_ | intro _)
    rename_i b3
    refine tpA [0,1,2,3,4,5,6,7,9,10] (.e 8 [] (.f [11,12] .o)) ([[(b3, .cells ⟨[.int .i64 size]⟩ 3 (0, 0))]]) ?_
    repeat' (refine iT ?_; first | refine rA ?_ | ((refine iE ?_; refine rE ?_) <;> ((try refine Zn ?_); (first | (refine Zb (.func 73) ?_; refine qR rfl rfl (klen _ db k D) ?_; try simp only [kA]) | (refine Yj ?_; try intro _)) <;> ((try simp only [kA]); refine Zi ?_; refine rN ?_))))
    all_goals (repeat' (first | refine zW ?_ | intro _))
    all_goals exact qE ⟨Hp.le_refl _, k, hD, rfl, rfl⟩
   ·obtain ⟨n, rfl⟩ : ∃ n : Nat, size = n := ⟨size.toNat, by omega⟩
    have hn0 : 4 ≤ n := by omega
    have hn1 : n ≤ 1000 := by omega
    have he : We n D = if (DS.lays (Zy n) D).2 = 0 then
      if (DS.lays (Ys (ZI n)) (DS.lays (Zy n) D).1).2 = 0 then (some ⟨ZI n, [], 0, false⟩, DS.lays (Ys (ZI n)) (DS.lays (Zy n) D).1) else (none, DS.lays (Ys (ZI n)) (DS.lays (Zy n) D).1)
     else (none, DS.lays (Zy n) D) := by unfold We; rw [if_neg (by omega)]; simp only [Int.toNat_natCast]
    rw [he]
    refine Za Tryz.func13 rfl rfl rfl fun u R => ?_
    simp only [Zg, kA]
    repeat' (first | refine zW ?_ | intro _)
    rename_i b3
    refine tpA [0,1,2,3,4,5,6,7,9,10] (.e 8 [] (.f [11,12] .o)) ([[(b3, .cells ⟨[.int .i64 n]⟩ 3 (0, 0))]]) ?_
    repeat' (refine iT ?_; first | refine rA ?_ | ((refine iE ?_; refine rE ?_) <;> ((try refine Zn ?_); (first | (refine Zb (.func 73) ?_; refine qR rfl rfl (klen _ db k D) ?_; try simp only [kA]) | (refine Yj ?_; try intro _)) <;> ((try simp only [kA]); refine Zi ?_; refine rN ?_))))
    all_goals (repeat' (first | (refine Zb (.func 74) ?_; refine qC rfl rfl (lays_spec _ _ 75 [.pointer (some ⟨b3, 0, none⟩)] [[(b3, .cells ⟨[.int .i64 n]⟩ 3 (0, 0))]] (Zy n) (Hp.le_refl _) (noughts_iter _ b3 n (by omega)) noughtsL_64 db k D hD) ?_; rintro v6 ρ6 L6 hle6 ⟨rfl, hl6, k6, hD6, rfl⟩; simp only [kA, List.append_assoc]) | refine zW ?_ | intro _))
    all_goals generalize DS.lays (Zy n) D = r at *
    all_goals obtain ⟨D', ec⟩ := r
    all_goals dsimp only at hD6 ⊢
    all_goals
     by_cases hz : ec = 0
     ·subst hz
      have hrd := fun ρ => laid_spec ρ (ZI n) none 0 0 SIn.nil (by simp [ZI]) (by simp [ZI]) (by simp only [ZI]; omega) (by simp [ZI]) (by omega) db k6 D' hD6
      rw [show ((0 : Int) == 0) = true from rfl, if_pos rfl]
      repeat' (first | (refine Zb (.func 76) ?_; refine qC rfl rfl (hrd _) ?_; rintro v8 ρ8 L8 hle8 ⟨rfl, hl8, k8, hD8, rfl⟩; try simp only [kA, List.append_assoc]) | refine zW ?_ | intro _)
      generalize DS.lays (Ys (ZI n)) D' = r at *
      obtain ⟨D'', ec⟩ := r
      dsimp only at hD8 ⊢
      by_cases hz : ec = 0
      ·subst hz
       rw [show ((0 : Int) != 0) = false from rfl, if_pos rfl]
       repeat' (first | refine zW ?_ | intro _)
       rename_i rb
       exact qE (L' := Yw rb db ⟨ZI n, [], 0, false⟩ ⟨none, 0, 0, .slice none 0 0, [], []⟩ ++ Zk db k8 D'') ⟨Hp.le_trans hl6 hl8, k8, hD8, rb, _, rfl, fresh_rin hn0 hn1, rfl⟩
      ·have hcb : (ec != 0) = true := by simpa using hz
       rw [hcb, if_neg hz]
       repeat' (first | refine zW ?_ | intro _)
       exact qE (L' := Zk db k8 D'') ⟨Hp.le_trans hl6 hl8, k8, hD8, rfl, rfl⟩
     ·have hcb : (ec == 0) = false := by simpa using hz
      have hcb2 : (ec != 0) = true := by simpa using hz
      rw [hcb, if_neg hz]
      repeat' (first | refine zW ?_ | intro _)
      exact qE (L' := Zk db k6 D') ⟨hl6, k6, hD6, rfl, rfl⟩
end Go.Proofs.E
namespace Go.Proofs.E
open Go
set_option linter.unusedVariables false
set_option linter.unusedSimpArgs false
set_option linter.unusedSectionVars false
set_option maxRecDepth 4000
set_option maxHeartbeats 1000000
attribute [local irreducible] Yl TL TC TE Spec ZK R1 Hp.le EnvLe TS TR YS Zp
structure Good (R : RgS) (D : DS) : Prop where
 ro : RO R D
 frs : Frs R D
 calm : D.Calm
theorem calm_pair {r : DS × Int} (h : r.2 = 0) : r = (r.1, 0) := Prod.ext rfl h
theorem Good.append {R : RgS} {D : DS} {b : Bs} (h : Good R D) (hb : b.length ≤ 8000) (hn : R.next < 1099511627776) (hfit : ZF b.length ≤ R.h.size - R.used) : ∃ D', R.append b D = (R.plus b, D', 0) ∧ Good (R.plus b) D' := by
 have hsz := h.ro.ok.size
 have hlen := h.ro.len
 have hidx : ∀ p ∈ Yh R.h R.next b (R.h.place + R.used), p.1 < D.secs.length := fun p hp => by
  obtain ⟨k, hk, rfl⟩ := partsL_mem.1 hp
  have := Nat.mod_lt (R.h.place + R.used + k) (show 0 < R.h.size by omega)
  dsimp only; omega
 obtain ⟨l0, l1, l2⟩ := XI (Yh R.h R.next b (R.h.place + R.used)) D h.calm hidx
 have ha := (h.ro.append h.frs hb hfit hn).1 l0
 refine ⟨(DS.lays (Yh R.h R.next b (R.h.place + R.used)) D).1, ?_, ha.1, ha.2, l1⟩
 unfold RgS.append
 rw [h.ro.live, if_neg (by simp), if_neg (by omega), if_neg (by omega), if_pos l0, calm_pair l0]
 rfl
theorem Good.full {R : RgS} {D : DS} {b : Bs} (h : Good R D) (hb : b.length ≤ 8000) (hfit : ¬ ZF b.length ≤ R.h.size - R.used) : R.append b D = (R, D, 6) := by
 unfold RgS.append
 rw [h.ro.live, if_neg (by simp), if_neg (by omega), if_pos (by omega)]
theorem Good.cut {R : RgS} {D : DS} {n : Nat} {note : Bs} (h : Good R D) (hn : n ≤ R.ents.length) (ht : R.h.turn < 1073741824) (hnote : note.length ≤ 32) (hnum : R.next < 1099511627776) : ∃ D', R.cut n note D = (R.minus n note, D', 0) ∧ Good (R.minus n note) D' := by
 have hsz := h.ro.ok.size
 have hlen := h.ro.len
 have hidx : ∀ p ∈ Ys (R.cutH n note), p.1 < D.secs.length := fun p hp => by rw [(YL hp).1]; omega
 obtain ⟨l0, l1, l2⟩ := XI (Ys (R.cutH n note)) D h.calm hidx
 have ha := (h.ro.cut hn ht hnote hnum).1 l0
 refine ⟨(DS.lays (Ys (R.cutH n note)) D).1, ?_, ha.1, ha.2, l1⟩
 unfold RgS.cut
 rw [h.ro.live, if_neg (by simp), if_neg (by omega), if_neg (by omega)]
 simp only [Int.toNat_natCast]
 rw [if_pos l0, calm_pair l0]
 rfl
theorem z8_take (n m : Nat) : Ye ((z8 n).take m) = 0 := by
 have : ∀ k, Ye (z8 k) = 0 := fun k => by
  induction k with
  | zero => rfl
  | succ k ih => simp only [z8, List.replicate_succ] at ih ⊢; rw [unbe_cons, ih]; simp
 simp only [z8, List.take_replicate]
 exact this _
theorem zblk_z : YQ = z8 64 := rfl
theorem turn_zblk : Wt YQ = 0 := by unfold Wt; rw [zblk_z, z8_take]
theorem num_zblk : numOf YQ = 0 := by
 unfold numOf; rw [zblk_z]; simp only [z8, List.drop_replicate]; exact z8_take _ _
theorem read_zblk : (readB YQ).2 = false := by
 have h : ¬ (headOf YQ).Right (YQ.getD 21 0).toNat := fun h => by
  have h1 := h.1
  have : (headOf YQ).turn = 0 := by
   simp only [headOf, zblk_z, z8, List.drop_replicate]; exact z8_take _ _
  omega
 unfold readB
 rw [if_neg h]
theorem Good.format {D : DS} {n : Nat} (hok : D.Ok) (hc : D.Calm) (h0 : 4 ≤ n) (h1 : n ≤ 1000) (hl : n + 2 ≤ D.secs.length) (he : YD D.secs) : ∃ D', We n D = (some ⟨ZI n, [], 0, false⟩, D', 0) ∧ Good ⟨ZI n, [], 0, false⟩ D' := by
 have hidx : ∀ p ∈ Zy n, p.1 < D.secs.length := fun p hp => by
  simp only [Zy, List.mem_map, List.mem_range] at hp
  obtain ⟨k, hk, rfl⟩ := hp
  dsimp only; omega
 obtain ⟨l0, l1, l2⟩ := XI (Zy n) D hc hidx
 have hok1 := hok.lays (l := Zy n) noughtsL_64
 have hlen1 := Xa (Zy n) D
 have hemp1 : YD (DS.lays (Zy n) D).1.secs := by rw [l2]; exact Yf
 have hidx2 : ∀ p ∈ Ys (ZI n), p.1 < (DS.lays (Zy n) D).1.secs.length := fun p hp => by
  rw [(YL hp).1, hlen1]; simp only [ZI]; omega
 obtain ⟨m0, m1, m2⟩ := XI (Ys (ZI n)) (DS.lays (Zy n) D).1 l1 hidx2
 have hok2 := hok1.lays (l := Ys (ZI n)) (fun p hp => by rw [(YL hp).2]; exact headB_len _)
 have hlen2 := Xa (Ys (ZI n)) (DS.lays (Zy n) D).1
 have himg1 : ∀ i, i < n + 2 → img (DS.lays (Zy n) D).1 i = YQ := fun i hi => by
  rcases img_all he l2 D rfl (i := i) (by omega) with ⟨_, hno⟩ | ⟨p, hp, h1, h2⟩
  ·exact absurd rfl (hno (i, YQ) (by simp only [Zy, List.mem_map, List.mem_range]; exact ⟨i, hi, rfl⟩))
  ·simp only [Zy, List.mem_map, List.mem_range] at hp
   obtain ⟨k, hk, rfl⟩ := hp
   exact h2
 have himg2 : img (DS.lays (Ys (ZI n)) (DS.lays (Zy n) D).1).1 1 = XQ (ZI n) := by
  rcases img_all hemp1 m2 (DS.lays (Zy n) D).1 rfl (i := 1) (by omega) with ⟨_, hno⟩ | ⟨p, hp, _, h2⟩
  ·exact absurd rfl (hno (1, XQ (ZI n)) (List.mem_singleton.2 rfl))
  ·rw [h2, (YL hp).2]
 have himg3 : ∀ i, i < n + 2 → i ≠ 1 → img (DS.lays (Ys (ZI n)) (DS.lays (Zy n) D).1).1 i = YQ := fun i hi hne => by
  rcases YZ hemp1 m2 (DS.lays (Zy n) D).1 rfl i with e | ⟨p, hp, h1, _⟩
  ·rw [e]; exact himg1 i hi
  ·exact absurd (by rw [← h1, (YL hp).1]; rfl) hne
 refine ⟨(DS.lays (Ys (ZI n)) (DS.lays (Zy n) D).1).1, ?_, ⟨fresh_rok h0 h1, rfl, by simp [ZI], hok2, m1.dead, by rw [m2]; exact Yf, ?_, ?_, ?_, trivial, ?_, ?_⟩, ?_, m1⟩
 ·unfold We
  rw [if_neg (by omega)]
  simp only [Int.toNat_natCast]
  rw [if_pos l0, if_pos m0, calm_pair m0]
 ·show n + 2 ≤ _
  omega
 ·exact himg2
 ·rw [show (({ h := ZI n, ents := [], used := 0, broken := false } : RgS).h.turn + 1) % 2 = 0 from (by simp [ZI]), himg3 0 (by omega) (by omega), read_zblk]
  intro h; cases h
 ·intro _ t b ht ht2 _ _
  refine ⟨0, sects_pos _, fun hx => ?_⟩
  have := congrArg Wt hx
  rw [himg3 _ (by have := Nat.mod_lt ((ZI n).place + 0 + 0) (show 0 < (ZI n).size by simp only [ZI]; omega); simp only [ZI] at this ⊢; omega) (by omega), turn_zblk, partB_turn (by omega)] at this
  omega
 ·intro q hq
  have hq2 : q < n := hq
  rw [himg3 _ (by omega) (by omega), turn_zblk, num_zblk]
  exact ⟨Nat.zero_le _, Nat.zero_le _⟩
 ·intro q hq hc
  have hq2 : q < n := hq
  rw [himg3 _ (by omega) (by omega), turn_zblk] at hc
  exact absurd hc.1 (by simp [ZI])
end Go.Proofs.E
namespace Go.Proofs.E
open Go Go.RowKit
set_option linter.unusedVariables false
set_option linter.unusedSimpArgs false
set_option linter.unusedSectionVars false
set_option maxRecDepth 8000
theorem rs_flatK {α : Type} {sz : Nat} {g : α → List Value} {C : List Value} {off : Nat} : ∀ (l : List α) (k : Nat), k ≤ l.length → (∀ i (h : i < l.length), (C.drop (off + i * sz)).take sz = g l[i]) → (C.drop off).take (k * sz) = ((l.take k).map g).flatten
 | l, 0, _, _ => by simp
 | l, k + 1, hk, h => by
  have ih := rs_flatK l k (by omega) h
  rw [show l.take (k + 1) = l.take k ++ [l[k]'(by omega)] from List.take_succ_eq_append_getElem (by omega), Nat.add_mul, Nat.one_mul, List.take_add, ih, List.drop_drop, h k (by omega)]
  simp only [List.map_append, List.flatten_append, List.map_cons, List.map_nil, List.flatten_cons, List.flatten_nil, List.append_nil]
theorem aIn_ofK {ρ : Hp} {α : Type} {sz : Nat} {g : α → List Value} {P : α → Prop} {cs : List Value} {s : Option Addr × Nat × Nat × List α} (hg : ∀ x, (g x).length = sz) (h : RS ρ sz (fun cs x => cs = g x ∧ P x) cs s) : AIn ρ sz g s.1 s.2.1 s.2.2.2 ∧ (∀ x ∈ s.2.2.2, P x) ∧ s.2.1 ≤ s.2.2.1 ∧ s.2.1 ≤ 9223372036854775807 := by
 obtain ⟨a, n, c, ks⟩ := s
 obtain ⟨h1, h2, h3, h4, h5⟩ := h
 dsimp only at h1 h2 h3 h4 h5 ⊢
 refine ⟨⟨h4, ?_, fun x _ => hg x⟩, fun x hx => ?_, h2, by omega⟩
 ·by_cases h0 : n = 0
  ·exact .inl h0
  ·right
   obtain ⟨b, off, C, T, fr, e1, e2, e3, e4⟩ := h5 0 (by omega)
   have same : ∀ i (h : i < ks.length), off + i * sz + sz ≤ C.length ∧ (C.drop (off + i * sz)).take sz = g ks[i] := fun i hi => by
    obtain ⟨b', off', C', T', fr', f1, f2, f3, f4⟩ := h5 i hi
    rw [e1] at f1
    cases f1
    rw [e2] at f2
    cases f2
    exact ⟨f3, f4.1⟩
   refine ⟨b, off, C, T, fr, e1, e2, ?_, ?_⟩
   ·have := (same (n - 1) (by omega)).1
    have e : n * sz = (n - 1) * sz + sz := by
     obtain ⟨m, rfl⟩ : ∃ m, n = m + 1 := ⟨n - 1, by omega⟩
     rw [Nat.add_mul]; simp
    omega
   ·have := rs_flatK (sz := sz) (g := g) ks n (by omega) (fun i hi => (same i hi).2)
    rw [this, List.take_of_length_le (by omega)]
 ·obtain ⟨i, hi, rfl⟩ := List.mem_iff_getElem.1 hx
  obtain ⟨_, _, _, _, _, _, _, _, f⟩ := h5 i hi
  exact f.2
theorem Opn.mono {H : Type} {enc : TypeId × Value → H} {P : Program} {w : World} {t : TypeId} {α β : Type} {R : List Value → α → Prop} {R' : List Value → β → Prop} (h : Opn enc P w t R) (k : ∀ cs a, R cs a → ∃ b, R' cs b) : Opn enc P w t R' := fun fuel cs x hx => by
 obtain ⟨a, ha⟩ := h fuel cs x hx
 exact k cs a ha
theorem sIn_of1 {ρ : Hp} {α : Type} {g : α → Value} {a : Option Addr} {n : Nat} {l : List α} (h : AIn ρ 1 (fun x => [g x]) a n l) : SIn ρ g a n l := by
 refine ⟨h.len, ?_⟩
 rcases h.out with h0 | ⟨b, off, C, T, fr, h1, h2, h3, h4⟩
 ·exact .inl h0
 ·right
  refine ⟨b, off, C, T, fr, h1, h2, ?_⟩
  rw [Nat.mul_one] at h4
  rw [h4]
  clear h h4 h3
  induction l with
  | nil => rfl
  | cons x r ih => simp [ih]
end Go.Proofs.E
namespace Go.Proofs.E
open Go
set_option linter.unusedVariables false
set_option linter.unusedSimpArgs false
set_option linter.unusedSectionVars false
set_option maxRecDepth 4000
set_option maxHeartbeats 1000000
attribute [local irreducible] Yl TL TC TE Spec ZK R1 Hp.le EnvLe TS TR YS Zp
theorem sIn_l {ρ : Hp} {b : Nat} {l : Bs} {T : TypeId} {fr : Nat × Nat} (h : ρ b = some (.cells ⟨l.map Zr⟩ T fr)) : SIn ρ Zr (some ⟨b, 0, none⟩) l.length l := ⟨rfl, .inr ⟨b, 0, _, _, _, rfl, h, by rw [List.drop_zero, List.take_of_length_le (by simp)]⟩⟩
theorem knew (ρ : Hp) (n : Nat) (h0 : 0 < n) (h1 : n ≤ 2048) : Spec Tryz.prog 12 [.int .i64 n] ρ [] (fun v ρ' L' => ρ' = ρ ∧ ∃ b k, v = .tuple ⟨[.pointer (some ⟨b, 0, none⟩), .int .i64 0]⟩ ∧ DOk k (DS.new n) ∧ L' = Zk b k (DS.new n)) :=
 (new_spec ρ n h0 h1).mono (fun v ρ' L' _ ⟨h1', b, hb, mb, ck, h2, h3⟩ => ⟨h1', b, ⟨hb, mb, [], ck⟩, h2, ⟨new_okD h0 h1, MapOk.empty fresh_empty⟩, h3⟩)
theorem sIn_part {ρ : Hp} {b : Nat} {s : Bs} {T : TypeId} {fr : Nat × Nat} (h : ρ b = some (.cells ⟨s.map Zr⟩ T fr)) (lo' n : Nat) (hn : lo' + n ≤ s.length) : SIn ρ Zr (some ⟨b, lo', none⟩) n ((s.drop lo').take n) := by
 refine ⟨by simp; omega, .inr ⟨b, lo', _, _, _, rfl, h, by rw [List.map_take, List.map_drop]⟩⟩
end Go.Proofs.E
namespace Go.Proofs.E
open Go
set_option linter.unusedVariables false
set_option linter.unusedSimpArgs false
set_option linter.unusedSectionVars false
set_option maxRecDepth 4000
set_option maxHeartbeats 1000000
attribute [local irreducible] Yl TL TC TE Spec ZK R1 Hp.le EnvLe TS TR YS Zp TP QP
abbrev RR := RV × Rc
abbrev rrV (x : RR) : List Value := Xw x.1 x.2
abbrev Wi (l : List RR) : List Value := (l.map rrV).flatten
theorem flatL_len (l : List RR) : (Wi l).length = l.length * 10 := by
 induction l with
 | nil => rfl
 | cons x r ih => simp only [Wi, List.map_cons, List.flatten_cons, List.length_append] at ih ⊢; rw [ih]; simp [rrV]; omega
theorem flatL_add (l m : List RR) : Wi (l ++ m) = Wi l ++ Wi m := by simp [Wi]
structure LgS where
 R : RgS
 base : Nat
 fl : Nat
 ma : Nat
 nx : Int
 recs : List RR
def Xs (l : List RR) : Nat := (l.map fun x => WZ x.2).sum
theorem usedR_add (l m : List RR) : Xs (l ++ m) = Xs l + Xs m := by simp [Xs]
def LgS.next (S : LgS) : Nat := S.base + S.recs.length
def LgS.more (S : LgS) (x : RR) : LgS := { S with recs := S.recs ++ [x] }
abbrev lgV (rb : Nat) (S : LgS) (v : Value) : List Value := [.pointer (some ⟨rb, 0, none⟩), .int .u64 S.base, .int .u64 S.fl, .int .u64 S.ma, .int .i64 S.nx, v, .int .i64 (Xs S.recs : Nat)]
abbrev ZR (lb rb : Nat) (S : LgS) (v : Value) : List (Nat × Obj) := [(lb, .cells ⟨lgV rb S v⟩ 193 (0, 0))]
abbrev Ya (S : LgS) (v : Value) (sp : List Value) : List (Nat × Obj) := ZG v (Wi S.recs) sp 39
structure LgIn (ρ : Hp) (S : LgS) (v : Value) (sp : List Value) : Prop where
 own : OwnS v S.recs.length (Wi S.recs) sp 10
 rin : ∀ x ∈ S.recs, RcIn ρ x.1 x.2
 ok : ∀ x ∈ S.recs, ZP x.2 = true
 used : Xs S.recs ≤ 1000000
 base : S.base ≤ 1099511627777
theorem costN_le (r : Rc) : WZ r ≤ 100 := by
 unfold WZ
 split
 ·rename_i h
  have := recB_le (recOk_lay h)
  unfold sectsB; omega
 ·omega
theorem costN_pos {r : Rc} (h : ZP r = true) : 1 ≤ WZ r := by
 unfold WZ; rw [if_pos h]; unfold sectsB; omega
theorem usedR_len {l : List RR} (h : ∀ x ∈ l, ZP x.2 = true) : l.length ≤ Xs l := by
 induction l with
 | nil => exact Nat.zero_le _
 | cons x r ih =>
  have h1 := costN_pos (h x (by simp))
  have h2 := ih (fun y hy => h y (by simp [hy]))
  simp only [Xs, List.map_cons, List.sum_cons, List.length_cons] at h2 ⊢
  omega
theorem LgIn.mono {ρ ρ' S v sp} (h : LgIn ρ S v sp) (hle : ρ.le ρ') : LgIn ρ' S v sp := ⟨h.own, fun x hx => (h.rin x hx).mono hle, h.ok, h.used, h.base⟩
theorem LgIn.len {ρ S v sp} (h : LgIn ρ S v sp) : S.recs.length ≤ 1000000 := Nat.le_trans (usedR_len h.ok) h.used
theorem LgIn.next {ρ S v sp} (h : LgIn ρ S v sp) : S.next < 2000000000000 := by
 have h1 := h.len
 have h2 := h.base
 unfold LgS.next; omega
theorem WR (ρ : Hp) (lb rb : Nat) (S : LgS) (v : Value) (sp : List Value) (h : LgIn ρ S v sp) :
  Spec Tryz.prog 26 [.pointer (some ⟨lb, 0, none⟩)] ρ [ZR lb rb S v] (fun z ρ' L' => z = .int .u64 (S.next : Nat) ∧ ρ' = ρ ∧ L' = [ZR lb rb S v]) := by
 have h1 := h.len
 have h2 := h.base
 obtain ⟨a, c, rfl, _⟩ := h.own.len
 have e : ((S.base : Nat) : Int) + ((S.recs.length : Nat) : Int) = ((S.next : Nat) : Int) := by unfold LgS.next; omega
 refine Za Tryz.func26 rfl rfl rfl fun u R => ?_
 simp only [Zg, kA]
 repeat' (first | refine zW ?_ | intro _)
 refine tpZ [0] (.f [1,2,3,4,5,6,7,8,9,10,11] .o) ?_
 repeat' (refine iT ?_; first | refine rA ?_)
 all_goals (repeat' (first | refine zW ?_ | intro _))
 all_goals rw [e]
 all_goals exact qE (L' := [ZR lb rb S (.slice a S.recs.length c)]) ⟨rfl, rfl, rfl⟩
theorem flushed16_spec (ρ : Hp) (lb rb : Nat) (S : LgS) (v : Value) :
  Spec Tryz.prog 31 [.pointer (some ⟨lb, 0, none⟩)] ρ [ZR lb rb S v] (fun z ρ' L' => z = .int .u64 (S.fl : Nat) ∧ ρ' = ρ ∧ L' = [ZR lb rb S v]) := by
 refine Za Tryz.func31 rfl rfl rfl fun u R => ?_
 simp only [Zg, kA]
 repeat' (first | refine zW ?_ | intro _)
 exact qE (L' := [ZR lb rb S v]) ⟨rfl, rfl, rfl⟩
theorem takes_spec16 (ρ : Hp) (lb rb : Nat) (S : LgS) (v : Value) (sp : List Value) (h : LgIn ρ S v sp) (x : RR) (hx : RcIn ρ x.1 x.2) (hok : ZP x.2 = true) (hu : Xs S.recs + WZ x.2 ≤ 1000000) :
  Spec Tryz.prog 100 [.pointer (some ⟨lb, 0, none⟩), .agg ⟨Xw x.1 x.2⟩] ρ [ZR lb rb S v, Ya S v sp]
   (fun z ρ' L' => z = .tuple ⟨[]⟩ ∧ ρ.le ρ' ∧ ∃ v' sp', LgIn ρ' (S.more x) v' sp' ∧ L' = [ZR lb rb (S.more x) v', Ya (S.more x) v' sp']) := by
 have h1 := h.len
 have hc := rcost_spec ρ x.1 x.2 hx
 have hcl := costN_le x.2
 have hown := h.own
 obtain ⟨va, vc, rfl, _⟩ := hown.len
 have e1 : ((Xs S.recs : Nat) : Int) + ((WZ x.2 : Nat) : Int) = ((Xs (S.recs ++ [x]) : Nat) : Int) := by rw [usedR_add]; simp [Xs]
 refine Za Tryz.func100 rfl rfl rfl fun u R => ?_
 simp only [Zg, kA]
 repeat' (first | (refine Zb (.func 107) ?_; refine qC rfl rfl (hc) ?_; rintro v ρ' L' hle ⟨hle1, rfl, rfl⟩ <;> (try simp only [kA])) | refine zW ?_ | intro _)
 rename_i xb
 refine tpA [0,1,2,3,4,6,9,10,11,13] (.c 5 7 12 [] [] [14] (.b 7 12 [] [14] (.b 8 12 [] [14] (.e 12 [14,15,16] (.e 17 [18,19] (.e 20 [] .o))) (.e 8 [15,16] (.e 17 [18,19] (.e 20 [] .o)))) (.e 7 [] (.e 8 [15,16] (.e 17 [18,19] (.e 20 [] .o))))) (.b 5 12 [] [14] (.b 8 12 [] [14] (.e 12 [14,15,16] (.e 17 [18,19] (.e 20 [] .o))) (.e 8 [15,16] (.e 17 [18,19] (.e 20 [] .o)))) (.e 5 [] (.e 8 [15,16] (.e 17 [18,19] (.e 20 [] .o))))) (.b 5 7 [] [] (.e 7 [] (.e 8 [15,16] (.e 17 [18,19] (.e 20 [] .o)))) (.e 5 [] (.e 8 [15,16] (.e 17 [18,19] (.e 20 [] .o)))))) ([[(xb, .cells ⟨Xw x.1 x.2⟩ 39 (0, 0))]]) ?_
 repeat' (refine iT ?_; first | refine rA ?_ | ((first | (refine iE ?_; refine rE ?_) | (refine iB ?_; refine rB ?_ ?_) | (refine iC ?_; refine rC ?_ ?_ ?_)) <;> ((try refine Zn ?_); (first | (refine Yx (css := [Xw x.1 x.2]) (sz := 10) rfl rfl rfl rfl (by simp) (by simp) rfl (fun bs => ?_); simp only [List.flatten_cons, List.flatten_nil, List.append_nil]) | (refine Yv (ys := Xw x.1 x.2) (m := 1) (sz := 10) rfl rfl hown (hR := by repeat (first | exact Zz | apply ZE)) SrcV.lit rfl rfl (by decide) rfl (by omega) (by omega) rfl (fun v' sp' hown' => ?_); obtain ⟨va2, vc2, rfl, hvc2⟩ := hown'.slice) | (refine i_qq ?_; refine qQ ?_) | (refine Yj ?_; try intro _)) <;> ((try simp only [kA]); refine Zi ?_; refine rN ?_))))
 all_goals (repeat' (first | refine zW ?_ | intro _))
 all_goals
  have hfl : Wi S.recs ++ Xw x.1 x.2 = Wi (S.recs ++ [x]) := by rw [flatL_add]; simp [Wi]
  simp only [e1]
  rw [hfl] at hown' ⊢
  refine qE (L' := [ZR lb rb (S.more x) (.slice va2 (S.recs.length + 1) vc2), Ya (S.more x) (.slice va2 (S.recs.length + 1) vc2) sp']) ⟨rfl, hle1, _, sp', ⟨by simpa [LgS.more] using hown', ?_, ?_, ?_, h.base⟩, rfl⟩
  ·intro y hy
   rcases List.mem_append.1 hy with hy | hy
   ·exact (h.rin y hy).mono hle1
   ·rw [List.mem_singleton.1 hy]; exact hx.mono hle1
  ·intro y hy
   rcases List.mem_append.1 hy with hy | hy
   ·exact h.ok y hy
   ·rw [List.mem_singleton.1 hy]; exact hok
  ·show Xs (S.recs ++ [x]) ≤ 1000000
   rw [usedR_add]; simpa [Xs] using hu
def appE (S : LgS) (r : Rc) (res : Int) : Int :=
 if ZP r = false then 220 else if r.lsn ≠ S.next ∨ res < 0 ∨ 400 < res then 2
 else if 400 < (Xs S.recs : Int) + (WZ r : Int) + res ∨ S.next = 1099511627776 then 261 else 0
theorem append16_no (ρ : Hp) (lb rb : Nat) (S : LgS) (v : Value) (sp : List Value) (h : LgIn ρ S v sp) (x : RR) (hx : RcIn ρ x.1 x.2) (res : Int) (hno : appE S x.2 res ≠ 0) :
  Spec Tryz.prog 27 [.pointer (some ⟨lb, 0, none⟩), .agg ⟨Xw x.1 x.2⟩, .int .i64 res] ρ [ZR lb rb S v, Ya S v sp]
   (fun z ρ' L' => z = .int .i64 (appE S x.2 res) ∧ ρ.le ρ' ∧ L' = [ZR lb rb S v, Ya S v sp]) := by
 have h1 := h.len
 have hc := rcost_spec ρ x.1 x.2 hx
 have hcl := costN_le x.2
 have hus := h.used
 have hn := fun ρ => WR ρ lb rb S v sp
 have hown := h.own
 obtain ⟨va, vc, rfl, _⟩ := hown.len
 unfold appE at hno ⊢
 unfold errN at hc
 refine Za Tryz.func27 rfl rfl rfl fun u R => ?_
 simp only [Zg, kA]
 cases hok : ZP x.2
 ·rw [hok] at hc
  simp only [Bool.false_eq_true, if_false] at hc
  rw [if_pos rfl]
  repeat' (first | (refine Zb (.func 107) ?_; refine qC rfl rfl (hc) ?_; rintro v ρ' L' hle ⟨hle1, rfl, rfl⟩ <;> (try simp only [kA])) | refine zW ?_ | intro _)
  exact qE (L' := [ZR lb rb S (.slice va S.recs.length vc), Ya S (.slice va S.recs.length vc) sp]) ⟨rfl, hle1, rfl⟩
 ·rw [hok] at hc hno
  simp only [if_true, Bool.true_eq_false, if_false] at hc hno
  rw [if_neg (by simp)]
  by_cases h2 : x.2.lsn ≠ S.next ∨ res < 0 ∨ 400 < res
  ·rw [if_pos h2]
   repeat' (first | (refine Zb (.func 107) ?_; refine qC rfl rfl (hc) ?_; rintro v ρ' L' hle ⟨hle1, rfl, rfl⟩ <;> (try simp only [kA])) | refine zW ?_ | intro _)
   rename_i xb
   have hn1 := hn _ (h.mono hle1)
   by_cases a1 : x.2.lsn = S.next
   ·by_cases a2 : res < 0
    ·refine tpA [0,1,2] (.e 3 [] (.f [4,5,6,7,8,9,10,11,12,13] .o)) ([[(xb, .cells ⟨Xw x.1 x.2⟩ 39 (0, 0))]]) ?_
     repeat' (refine iT ?_; first | refine rA ?_ | ((refine iE ?_; refine rE ?_) <;> ((try refine Zn ?_); (first | (refine Zb (.func 26) ?_; refine qR rfl rfl (hn1) ?_; try simp only [kA]) | (refine Yj ?_; try intro _)) <;> ((try simp only [kA]); refine Zi ?_; refine rN ?_))))
     all_goals (repeat' (first | refine zW ?_ | intro _))
     all_goals exact qE (L' := [ZR lb rb S (.slice va S.recs.length vc), Ya S (.slice va S.recs.length vc) sp]) ⟨rfl, hle1, rfl⟩
    ·have a3 : 400 < res := by omega
     refine tpA [0,1,2] (.e 3 [] (.f [4,5,6,7,8,9,10,11,12,13] .o)) ([[(xb, .cells ⟨Xw x.1 x.2⟩ 39 (0, 0))]]) ?_
     repeat' (refine iT ?_; first | refine rA ?_ | ((refine iE ?_; refine rE ?_) <;> ((try refine Zn ?_); (first | (refine Zb (.func 26) ?_; refine qR rfl rfl (hn1) ?_; try simp only [kA]) | (refine Yj ?_; try intro _)) <;> ((try simp only [kA]); refine Zi ?_; refine rN ?_))))
     all_goals (repeat' (first | refine zW ?_ | intro _))
     all_goals exact qE (L' := [ZR lb rb S (.slice va S.recs.length vc), Ya S (.slice va S.recs.length vc) sp]) ⟨rfl, hle1, rfl⟩
   ·refine tpA [0,1,2] (.e 3 [] (.f [4,5,6,7,8,9,10,11,12,13] .o)) ([[(xb, .cells ⟨Xw x.1 x.2⟩ 39 (0, 0))]]) ?_
    repeat' (refine iT ?_; first | refine rA ?_ | ((refine iE ?_; refine rE ?_) <;> ((try refine Zn ?_); (first | (refine Zb (.func 26) ?_; refine qR rfl rfl (hn1) ?_; try simp only [kA]) | (refine Yj ?_; try intro _)) <;> ((try simp only [kA]); refine Zi ?_; refine rN ?_))))
    all_goals (repeat' (first | refine zW ?_ | intro _))
    all_goals exact qE (L' := [ZR lb rb S (.slice va S.recs.length vc), Ya S (.slice va S.recs.length vc) sp]) ⟨rfl, hle1, rfl⟩
  ·rw [if_neg h2] at hno ⊢
   have h3 : 400 < (Xs S.recs : Int) + (WZ x.2 : Int) + res ∨ S.next = 1099511627776 := by
    by_cases h3 : 400 < (Xs S.recs : Int) + (WZ x.2 : Int) + res ∨ S.next = 1099511627776
    ·exact h3
    ·rw [if_neg h3] at hno; exact absurd rfl hno
   rw [if_pos h3]
   obtain ⟨a1, a2⟩ := not_or.1 h2
   have a1 : x.2.lsn = S.next := Classical.not_not.1 a1
   have a3 : ¬ res < 0 := by omega
   have a4 : ¬ 400 < res := by omega
   repeat' (first | (refine Zb (.func 107) ?_; refine qC rfl rfl (hc) ?_; rintro v ρ' L' hle ⟨hle1, rfl, rfl⟩ <;> (try simp only [kA])) | refine zW ?_ | intro _)
   rename_i xb
   have hn1 := hn _ (h.mono hle1)
   refine tpA [0,1,2] (.e 3 [] (.f [4,5,6,7,8,9,10,11,12,13] .o)) ([[(xb, .cells ⟨Xw x.1 x.2⟩ 39 (0, 0))]]) ?_
   repeat' (refine iT ?_; first | refine rA ?_ | ((refine iE ?_; refine rE ?_) <;> ((try refine Zn ?_); (first | (refine Zb (.func 26) ?_; refine qR rfl rfl (hn1) ?_; try simp only [kA]) | (refine Yj ?_; try intro _)) <;> ((try simp only [kA]); refine Zi ?_; refine rN ?_))))
   by_cases a5 : 400 < (Xs S.recs : Int) + (WZ x.2 : Int) + res
   ·all_goals (repeat' (first | refine zW ?_ | intro _))
    all_goals exact qE (L' := [ZR lb rb S (.slice va S.recs.length vc), Ya S (.slice va S.recs.length vc) sp]) ⟨rfl, hle1, rfl⟩
   ·have a6 : S.next = 1099511627776 := by omega
    all_goals (repeat' (first | (refine Zb (.func 26) ?_; refine qR rfl rfl (hn1) ?_; try simp only [kA]) | refine zW ?_ | intro _))
    all_goals exact qE (L' := [ZR lb rb S (.slice va S.recs.length vc), Ya S (.slice va S.recs.length vc) sp]) ⟨rfl, hle1, rfl⟩
theorem append16_yes (ρ : Hp) (lb rb : Nat) (S : LgS) (v : Value) (sp : List Value) (h : LgIn ρ S v sp) (x : RR) (hx : RcIn ρ x.1 x.2) (res : Int) (hyes : appE S x.2 res = 0) :
  Spec Tryz.prog 27 [.pointer (some ⟨lb, 0, none⟩), .agg ⟨Xw x.1 x.2⟩, .int .i64 res] ρ [ZR lb rb S v, Ya S v sp]
   (fun z ρ' L' => z = .int .i64 0 ∧ ρ.le ρ' ∧ ∃ v' sp', LgIn ρ' (S.more x) v' sp' ∧ L' = [ZR lb rb (S.more x) v', Ya (S.more x) v' sp']) := by
 have h1 := h.len
 have hc := rcost_spec ρ x.1 x.2 hx
 have hcl := costN_le x.2
 have hus := h.used
 have hn := fun ρ => WR ρ lb rb S v sp
 have hown := h.own
 have ht := fun ρ hin => takes_spec16 ρ lb rb S v sp hin x
 obtain ⟨va, vc, rfl, _⟩ := hown.len
 unfold appE at hyes
 unfold errN at hc
 cases hok : ZP x.2
 ·rw [hok, if_pos rfl] at hyes; omega
 ·rw [hok] at hc
  simp only [if_true] at hc
  rw [hok, if_neg (by simp)] at hyes
  by_cases h2 : x.2.lsn ≠ S.next ∨ res < 0 ∨ 400 < res
  ·rw [if_pos h2] at hyes; omega
  ·rw [if_neg h2] at hyes
   by_cases h3 : 400 < (Xs S.recs : Int) + (WZ x.2 : Int) + res ∨ S.next = 1099511627776
   ·rw [if_pos h3] at hyes; omega
   ·obtain ⟨a1, a2⟩ := not_or.1 h2
    have a1 : x.2.lsn = S.next := Classical.not_not.1 a1
    have a3 : ¬ res < 0 := by omega
    have a4 : ¬ 400 < res := by omega
    have a5 : ¬ 400 < (Xs S.recs : Int) + (WZ x.2 : Int) + res := by omega
    have a6 : ¬ ((S.next : Nat) : Int) = 1099511627776 := by omega
    refine Za Tryz.func27 rfl rfl rfl fun u R => ?_
    simp only [Zg, kA]
    repeat' (first | (refine Zb (.func 107) ?_; refine qC rfl rfl (hc) ?_; rintro v ρ' L' hle ⟨hle1, rfl, rfl⟩ <;> (try simp only [kA])) | refine zW ?_ | intro _)
    rename_i xb
    have hn1 := hn _ (h.mono hle1)
    refine tpA [0,1,2] (.e 3 [] (.f [4,5,6,7,8,9,10,11,12,13] .o)) ([[(xb, .cells ⟨Xw x.1 x.2⟩ 39 (0, 0))]]) ?_
    repeat' (refine iT ?_; first | refine rA ?_ | ((refine iE ?_; refine rE ?_) <;> ((try refine Zn ?_); (first | (refine Zb (.func 26) ?_; refine qR rfl rfl (hn1) ?_; try simp only [kA]) | (refine Yj ?_; try intro _)) <;> ((try simp only [kA]); refine Zi ?_; refine rN ?_))))
    all_goals (repeat' (first | (refine Zb (.func 26) ?_; refine qR rfl rfl (hn1) ?_; try simp only [kA]) | (refine Zb (.func 100) ?_; refine qC rfl rfl ((ht _ (h.mono hle1) (hx.mono hle1) hok (by omega))) ?_; rintro v ρ' L' hle ⟨rfl, hle2, v', sp', hin, rfl⟩ <;> (try simp only [kA])) | refine zW ?_ | intro _))
    all_goals exact qE (L' := [ZR lb rb (S.more x) v', Ya (S.more x) v' sp']) ⟨rfl, Hp.le_trans hle1 hle2, v', sp', hin, rfl⟩
end Go.Proofs.E
namespace Go.Proofs.E
open Go
set_option linter.unusedVariables false
set_option linter.unusedSimpArgs false
set_option linter.unusedSectionVars false
set_option maxRecDepth 4000
set_option maxHeartbeats 1000000
attribute [local irreducible] Yl TL TC TE Spec ZK R1 Hp.le EnvLe TS TR YS Zp
theorem filt_pre16 {α : Type} (q : α → Bool) (l : List α) {k : Nat} (hk : k < l.length) (hq : q l[k] = true) : ((l.take k).filter q ++ [l[k]]) <+: l.filter q ∧ (l.take (k + 1)).filter q = (l.take k).filter q ++ [l[k]] := by
 have e : (l.take (k + 1)).filter q = (l.take k).filter q ++ [l[k]] := by
  rw [List.take_succ_eq_append_getElem hk, List.filter_append]
  congr 1
  simp [hq]
 refine ⟨?_, e⟩
 rw [← e]
 exact ⟨(l.drop (k + 1)).filter q, by rw [← List.filter_append, List.take_append_drop]⟩
theorem filt_no16 {α : Type} (q : α → Bool) (l : List α) {k : Nat} (hk : k < l.length) (hq : q l[k] = false) : (l.take (k + 1)).filter q = (l.take k).filter q := by
 rw [List.take_succ_eq_append_getElem hk, List.filter_append]
 simp [hq]
theorem flatL_at {l : List RR} {sp : List Value} {k : Nat} (h : k < l.length) : ((Wi l ++ sp).drop (0 + k * 10)).take 10 = rrV l[k] := by
 have h1 := flatL_len l
 rw [Nat.zero_add, List.drop_append_of_le_length (by omega), List.take_append_of_le_length (by rw [List.length_drop]; omega)]
 exact flat_at rrV 10 l k h (fun x _ => rfl)
abbrev fromL (S : LgS) (lsn : Nat) : List RR := S.recs.filter (fun x => decide (lsn ≤ x.2.lsn))
abbrev fb1 (b lb : Nat) : List (Nat × Obj) := [(b, .cells ⟨[.pointer (some ⟨lb, 0, none⟩)]⟩ 52 (0, 0))]
abbrev fb2 (b lsn : Nat) : List (Nat × Obj) := [(b, .cells ⟨[.int .u64 (lsn : Nat)]⟩ 33 (0, 0))]
theorem from16_spec (ρ : Hp) (lb lsn : Nat) : Spec Tryz.prog 108 [.pointer (some ⟨lb, 0, none⟩), .int .u64 (lsn : Nat)] ρ [] (fun v ρ' L' => ∃ b1 b2, v = .func (.func 191) ⟨[]⟩ ⟨[.pointer (some ⟨b1, 0, none⟩), .pointer (some ⟨b2, 0, none⟩)]⟩ ∧ ρ' = ρ ∧ L' = [fb1 b1 lb, fb2 b2 lsn]) := by
 refine Za Tryz.func108 rfl rfl rfl fun u R => ?_
 simp only [Zg, kA]
 repeat' (first | refine zW ?_ | intro _)
 rename_i b1 b2
 exact qE (L' := [fb1 b1 lb, fb2 b2 lsn]) ⟨b1, b2, rfl, rfl, rfl⟩
theorem from16_iter (ρ0 : Hp) (lb rb b1 b2 lsn : Nat) (S : LgS) (v : Value) (sp : List Value) (h : LgIn ρ0 S v sp) :
  IterP Tryz.prog 191 [] [.pointer (some ⟨b1, 0, none⟩), .pointer (some ⟨b2, 0, none⟩)] (fun x : RR => [.agg ⟨rrV x⟩]) ρ0 [fb1 b1 lb, fb2 b2 lsn, Ya S v sp] (ZR lb rb S v) (fromL S lsn) := by
 intro l J Jx hC hY ρ Lj hl0 hJ
 have h1 := h.len
 obtain ⟨A, B, rfl⟩ := hC _ _ hJ
 rcases h.own.out with ⟨rfl, g0, g1, g2⟩ | ⟨bx, cap, rfl, g1, g2, g3⟩
 ·have hnil : S.recs = [] := List.eq_nil_of_length_eq_zero g0
  subst g2
  simp only [Ya, ZG, fromL, hnil, List.filter_nil]
  refine Za Tryz.func191 rfl rfl rfl fun u R => ?_
  simp only [Zg, kA, List.append_assoc]
  repeat' (first | refine zW ?_ | intro _)
  refine Zl [(0, _), (2, _), (9, _), (10, _)] (fun (ζ : (Nat)) => [(11, .int .i64 ζ)]) (fun (ζ : (Nat)) => ρ) (fun (ζ : (Nat)) => fb1 b1 lb :: fb2 b2 lsn :: (A ++ ZR lb rb S (.slice none 0 0) :: B)) (fun (ζ : (Nat)) => ζ = 0) (fun (ζ : (Nat)) => 0) (0) (rfl) Zc Zc rfl tk ?_
  rintro k hI
  try simp only [kA, List.append_assoc] at hI ⊢
  try dsimp only at hI ⊢
  subst hI
  repeat' (first | refine zW ?_ | intro _)
  exact qE (L' := fb1 b1 lb :: fb2 b2 lsn :: [] :: (A ++ ZR lb rb S (.slice none 0 0) :: B)) ⟨_, rfl, .inl hJ⟩
 ·simp only [Ya, ZG]
  have hfl := flatL_len S.recs
  have hlen : (Wi S.recs ++ sp).length = cap * 10 := by rw [List.length_append]; exact g2
  refine Za Tryz.func191 rfl rfl rfl fun u R => ?_
  simp only [Zg, kA, List.append_assoc]
  repeat' (first | refine zW ?_ | intro _)
  refine Zl [(0, _), (2, _), (9, _), (10, _)] (fun (ζ : (Nat) × (Hp) × (SH)) => [(11, .int .i64 ζ.1)]) (fun (ζ : (Nat) × (Hp) × (SH)) => ζ.2.1) (fun (ζ : (Nat) × (Hp) × (SH)) => fb1 b1 lb :: fb2 b2 lsn :: [(bx, .cells ⟨Wi S.recs ++ sp⟩ 39 (0, 0))] :: ζ.2.2) (fun (ζ : (Nat) × (Hp) × (SH)) => ζ.1 ≤ S.recs.length ∧ ρ.le ζ.2.1 ∧ J ((S.recs.take ζ.1).filter (fun x => decide (lsn ≤ x.2.lsn))) ζ.2.1 ζ.2.2) (fun (ζ : (Nat) × (Hp) × (SH)) => S.recs.length - ζ.1) ((0, ρ, A ++ ZR lb rb S (.slice (some ⟨bx, 0, none⟩) S.recs.length cap) :: B)) (⟨Nat.zero_le _, Hp.le_refl _, hJ⟩) Zc Zc rfl tk ?_
  rintro ⟨k, ρ1, L1⟩ hI
  try simp only [kA, List.append_assoc] at hI ⊢
  try dsimp only at hI ⊢
  obtain ⟨hk, hle1, hj⟩ := hI
  by_cases hlt : k < S.recs.length
  ·have hl1 := Hp.le_trans hl0 hle1
   have hc := flatL_at (sp := sp) hlt
   have hyes := filt_pre16 (fun x : RR => decide (lsn ≤ x.2.lsn)) S.recs hlt
   have hno := filt_no16 (fun x : RR => decide (lsn ≤ x.2.lsn)) S.recs hlt
   generalize S.recs[k] = x at *
   obtain ⟨xv, xr⟩ := x
   dsimp only [rrV] at hc hyes hno
   by_cases hq : lsn ≤ xr.lsn
   ·obtain ⟨hpre, hts⟩ := hyes (decide_eq_true hq)
    clear hyes hno
    have hy := hY _ _ ρ1 L1 hpre hl1 hj
    repeat' (first | (refine Zb (.tmp 20) ?_; refine qY rfl rfl (hy) ?_; rintro v ρ' L' hle ⟨Lj', rfl, ⟨rfl, hj'⟩ | ⟨rfl, hj'⟩⟩ <;> (try simp only [kA])) | refine zW ?_ | intro _)
    ·repeat' (first | refine zW ?_ | intro _)
     refine Zf (k + 1, ρ', Lj') (⟨hlt, Hp.le_trans hle1 hle, by dsimp only; rw [hts]; exact hj'⟩) Zc Zc rfl tk inferInstance (by first | omega | (dsimp only; omega))
    ·repeat' (first | refine zW ?_ | intro _)
     exact qE (L' := fb1 b1 lb :: fb2 b2 lsn :: [(bx, .cells ⟨Wi S.recs ++ sp⟩ 39 (0, 0))] :: Lj') ⟨Lj', rfl, .inr hj'⟩
   ·have hts := hno (decide_eq_false hq)
    clear hyes hno
    repeat' (first | refine zW ?_ | intro _)
    refine Zf (k + 1, ρ1, L1) (⟨hlt, hle1, by dsimp only; rw [hts]; exact hj⟩) Zc Zc rfl tk inferInstance (by first | omega | (dsimp only; omega))
  ·have hk2 : k = S.recs.length := by omega
   rw [hk2, List.take_length] at hj
   repeat' (first | refine zW ?_ | intro _)
   exact qE (L' := fb1 b1 lb :: fb2 b2 lsn :: [(bx, .cells ⟨Wi S.recs ++ sp⟩ 39 (0, 0))] :: L1) ⟨L1, rfl, .inl hj⟩
end Go.Proofs.E
namespace Go.Proofs.E
open Go
set_option linter.unusedVariables false
set_option linter.unusedSimpArgs false
set_option linter.unusedSectionVars false
set_option maxRecDepth 4000
set_option maxHeartbeats 1000000
attribute [local irreducible] Yl TL TC TE Spec ZK R1 Hp.le EnvLe TS TR YS Zp TP QP
def Vb (to : Nat) : List RR → RgS → DS → Nat → RgS × DS × Nat × Int
 | [], R, D, f => (R, D, f, 0)
 | x :: l, R, D, f => if to < x.2.lsn then (R, D, f, 0)
  else if (R.append (WB x.2) D).2.2 = 0 then Vb to l (R.append (WB x.2) D).1 (R.append (WB x.2) D).2.1 x.2.lsn
  else ((R.append (WB x.2) D).1, (R.append (WB x.2) D).2.1, f, (R.append (WB x.2) D).2.2)
def LgS.at (S : LgS) (R : RgS) (f : Nat) : LgS := { S with R := R, fl := f }
def LgS.flush (S : LgS) (to : Nat) (D : DS) : LgS × DS × Int :=
 if S.next ≤ to then (S, D, 2) else
 (S.at (Vb to (fromL S (S.fl + 1)) S.R D S.fl).1 (Vb to (fromL S (S.fl + 1)) S.R D S.fl).2.2.1, (Vb to (fromL S (S.fl + 1)) S.R D S.fl).2.1, (Vb to (fromL S (S.fl + 1)) S.R D S.fl).2.2.2)
theorem fromL_mem {S : LgS} {lsn : Nat} {x : RR} (h : x ∈ fromL S lsn) : x ∈ S.recs := (List.mem_filter.1 h).1
abbrev b2C (b lb : Nat) : List (Nat × Obj) := [(b, .cells ⟨[.pointer (some ⟨lb, 0, none⟩)]⟩ 52 (0, 0))]
abbrev b3C (b to : Nat) : List (Nat × Obj) := [(b, .cells ⟨[.int .u64 (to : Nat)]⟩ 33 (0, 0))]
abbrev b4C (b : Nat) (e : Int) : List (Nat × Obj) := [(b, .cells ⟨[.int .i64 e]⟩ 27 (0, 0))]
theorem flush16_spec (ρ : Hp) (lb rb db : Nat) (S : LgS) (v : Value) (sp : List Value) (h : LgIn ρ S v sp) (w : RW) (hR : RIn ρ S.R w) (k : DK) (D : DS) (hD : DOk k D) (to : Nat) (hf : S.fl < 1000000000000000) :
  Spec Tryz.prog 29 [.pointer (some ⟨lb, 0, none⟩), .int .u64 (to : Nat)] ρ (ZR lb rb S v :: Ya S v sp :: (Yw rb db S.R w ++ Zk db k D))
   (fun z ρ' L' => z = .int .i64 (S.flush to D).2.2 ∧ ρ.le ρ' ∧ ∃ w' k', RIn ρ' (S.flush to D).1.R w' ∧ DOk k' (S.flush to D).2.1 ∧ L' = ZR lb rb (S.flush to D).1 v :: Ya S v sp :: (Yw rb db (S.flush to D).1.R w' ++ Zk db k' (S.flush to D).2.1)) := by
 have hn := fun ρ => WR ρ lb rb S v sp
 by_cases hto : S.next ≤ to
 ·have e : S.flush to D = (S, D, 2) := by unfold LgS.flush; rw [if_pos hto]
  rw [e]
  refine Za Tryz.func29 rfl rfl rfl fun u R => ?_
  simp only [Zg, kA]
  repeat' (first | refine zW ?_ | intro _)
  rename_i c2 c3 c4
  refine tpA [0,1] (.e 2 [] (.f [3] .o)) ([b2C c2 lb, b3C c3 to]) ?_
  repeat' (refine iT ?_; first | refine rA ?_ | ((refine iE ?_; refine rE ?_) <;> ((try refine Zn ?_); (first | (refine Zb (.func 26) ?_; refine qR rfl rfl (hn _ h) ?_; try simp only [kA]) | (refine Yj ?_; try intro _)) <;> ((try simp only [kA]); refine Zi ?_; refine rN ?_))))
  all_goals (repeat' (first | refine zW ?_ | intro _))
  all_goals exact qE (L' := ZR lb rb S v :: Ya S v sp :: (Yw rb db S.R w ++ Zk db k D)) ⟨rfl, Hp.le_refl _, w, k, hR, hD, rfl⟩
 ·generalize hq : Vb to (fromL S (S.fl + 1)) S.R D S.fl = q
  have e : S.flush to D = (S.at q.1 q.2.2.1, q.2.1, q.2.2.2) := by unfold LgS.flush; rw [if_neg hto, hq]
  rw [e]
  dsimp only
  obtain ⟨Rq, Dq, fq, eq⟩ := q
  refine Za Tryz.func29 rfl rfl rfl fun u R => ?_
  simp only [Zg, kA]
  have e1 : ((S.fl : Nat) : Int) + 1 = ((S.fl + 1 : Nat) : Int) := by omega
  repeat' (first | refine zW ?_ | intro _)
  rename_i c2 c3 c4
  refine tpA [0,1] (.e 2 [] (.f [3] .o)) ([b2C c2 lb, b3C c3 to]) ?_
  repeat' (refine iT ?_; first | refine rA ?_ | ((refine iE ?_; refine rE ?_) <;> ((try refine Zn ?_); (first | (refine Zb (.func 26) ?_; refine qR rfl rfl (hn _ h) ?_; try simp only [kA]) | (refine Yj ?_; try intro _)) <;> ((try simp only [kA]); refine Zi ?_; refine rN ?_))))
  all_goals (repeat' (first | refine zW ?_ | intro _))
  all_goals
   refine tpZ [0,1,2,3,4,5] (.e 6 [] .o) ?_
   repeat' (refine iT ?_; first | refine rA ?_ | ((refine iE ?_; refine rE ?_) <;> ((try refine Zn ?_); (first | (simp only [e1]; refine Zb (.func 108) ?_; refine qC rfl rfl (from16_spec _ lb (S.fl + 1)) ?_; rintro v1 ρ1 L1 hle1 ⟨d1, d2, rfl, rfl, rfl⟩; simp only [kA]) | (refine Yj ?_; try intro _)) <;> ((try simp only [kA]); refine Zi ?_; refine rN ?_))))
  all_goals (repeat' (first | refine zW ?_ | intro _))
  refine tc_rangeFuncP (S := [fb1 d1 lb, fb2 d2 (S.fl + 1), Ya S v sp]) (L0 := [b2C c2 lb, b3C c3 to, b4C c4 0, ZR lb rb S v] ++ (Yw rb db S.R w ++ Zk db k D)) (R := R) (R0 := ?r0) rfl rfl (from16_iter ρ1 lb rb d1 d2 (S.fl + 1) S v sp h) (Hp.le_refl _) (fun _ => rfl) rfl
   (fun pre ρ2 Lu => ∃ R1 D1 f1 w1 k1, (∀ rest, Vb to (pre ++ rest) S.R D S.fl = Vb to rest R1 D1 f1) ∧ ρ1.le ρ2 ∧ RIn ρ2 R1 w1 ∧ DOk k1 D1 ∧ Lu = [b2C c2 lb, b3C c3 to, b4C c4 0, ZR lb rb (S.at R1 f1) v] ++ (Yw rb db R1 w1 ++ Zk db k1 D1))
   (fun c ρ2 Lu => ((c = .exit 0 ∧ eq = 0) ∨ (c = .ret ∧ eq ≠ 0)) ∧ ∃ w1 k1, ρ1.le ρ2 ∧ RIn ρ2 Rq w1 ∧ DOk k1 Dq ∧ Lu = [b2C c2 lb, b3C c3 to, b4C c4 eq, ZR lb rb (S.at Rq fq) v] ++ (Yw rb db Rq w1 ++ Zk db k1 Dq)) ?k1 ?k2 ⟨S.R, D, S.fl, w, k, fun _ => rfl, Hp.le_refl _, hR, hD, rfl⟩ ?hC ?round ?done ?stop
  case k1 => exact tk
  case k2 => exact tk
  case hC =>
   rintro ρ2 Lu ⟨R1, D1, f1, w1, k1, h1, _, _, _, rfl⟩
   have := h1 []
   simp only [List.append_nil, Vb, Prod.mk.injEq] at this
   obtain ⟨rfl, rfl, rfl, _⟩ := this
   exact ⟨[b2C c2 lb, b3C c3 to, b4C c4 0], Yw rb db S.R w1 ++ Zk db k1 D, rfl⟩
  case round =>
   rintro l tm r pre y ρ2 Lu u R' hpre hl1 ⟨R1, D1, f1, w1, k1, hgo, hl2, hR1, hD1, rfl⟩ hr hrec
   simp only [envP, kA]
   obtain ⟨t, ht⟩ := hpre
   have hmem : y ∈ S.recs := fromL_mem (lsn := S.fl + 1) (by rw [← ht]; simp)
   have hin := (h.rin y hmem).mono hl2
   have hok := h.ok y hmem
   have hgo1 := hgo (y :: t)
   have ht' : pre ++ y :: t = fromL S (S.fl + 1) := by rw [← ht]; simp
   have hgo2 := fun rest => hgo (y :: rest)
   rw [ht', hq] at hgo1
   obtain ⟨yv, yr⟩ := y
   dsimp only at hin hok hgo1 hgo2
   rw [Vb] at hgo1
   simp only [Vb] at hgo2
   repeat' (first | refine zW ?_ | intro _)
   refine ZH [(l, .loop r)] ?_
   refine te_begin rfl hr (fun r' hbz hrec' => ?_)
   by_cases hgt : to < yr.lsn
   ·rw [if_pos hgt] at hgo1
    simp only [Prod.mk.injEq] at hgo1
    obtain ⟨rfl, rfl, rfl, rfl⟩ := hgo1
    repeat' (first | refine zW ?_ | intro _)
    refine ZH [(l, .loop r')] ?_
    refine te_leave (Lu := [b2C c2 lb, b3C c3 to, b4C c4 0, ZR lb rb (S.at Rq fq) v] ++ (Yw rb db Rq w1 ++ Zk db k1 Dq)) rfl rfl (Hp.le_refl _) ⟨hrec'.tmps.trans hrec.tmps, hrec'.params.trans hrec.params, hrec'.assign.trans hrec.assign, hrec'.body.trans hrec.body⟩ tk tk inferInstance ?_
    exact ⟨.inl ⟨rfl, rfl⟩, w1, k1, hl2, hR1, hD1, rfl⟩
   ·rw [if_neg hgt] at hgo1
    simp only [if_neg hgt] at hgo2
    have henc := rencode_spec ρ2 yv yr hin
    rw [hok] at henc
    simp only [if_true] at henc
    have hlen := recB_le (recOk_lay hok)
    have happ := fun {ρ3 : Hp} {a : Option Addr} {n c : Nat} (hl : ρ2.le ρ3) (hs : SIn ρ3 Zr a n (WB yr)) (hc : n ≤ c) => append_spec ρ3 rb db R1 w1 (hR1.mono hl) k1 D1 hD1 [] a n c (WB yr) hs.rd hc (by have := hs.len; omega)
    repeat' (first | (refine Zb (.func 109) ?_; refine qC rfl rfl (henc) ?_; rintro v ρ' L' hle ⟨hl3, ea, en, ec, rfl, hec, hes, rfl⟩ <;> (try simp only [kA])) | (refine Zb (.func 16) ?_; refine qC rfl rfl (happ (by assumption) hes hec) ?_; rintro v4 ρ4 L4 hle4 ⟨rfl, hl4, k4, w4, hD4, hR4, rfl⟩; try simp only [kA, List.append_nil, List.append_assoc]) | refine zW ?_ | intro _)
    generalize R1.append (WB yr) D1 = ap at *
    obtain ⟨Ra, Da, ea⟩ := ap
    dsimp only at *
    by_cases hz : ea = 0
    ·subst hz
     rw [if_pos rfl] at hgo1
     simp only [if_true] at hgo2
     rw [show ((0 : Int) != 0) = false from rfl]
     repeat' (first | refine zW ?_ | intro _)
     refine ZH [(l, .loop r')] ?_
     refine WH (Lu := [b2C c2 lb, b3C c3 to, b4C c4 0, ZR lb rb (S.at Ra yr.lsn) v] ++ (Yw rb db Ra w4 ++ Zk db k4 Da)) rfl (Hp.le_trans hl3 hl4) ⟨hrec'.tmps.trans hrec.tmps, hrec'.params.trans hrec.params, hrec'.assign.trans hrec.assign, hrec'.body.trans hrec.body⟩ tk tk inferInstance ?_
     exact ⟨Ra, Da, yr.lsn, w4, k4, hgo2, Hp.le_trans hl2 (Hp.le_trans hl3 hl4), hR4, hD4, rfl⟩
    ·rw [if_neg hz] at hgo1
     simp only [Prod.mk.injEq] at hgo1
     obtain ⟨rfl, rfl, rfl, rfl⟩ := hgo1
     have hcb : (eq != 0) = true := by simpa using hz
     rw [hcb]
     repeat' (first | refine zW ?_ | intro _)
     refine ZH [(l, .loop r')] ?_
     refine te_leave (Lu := [b2C c2 lb, b3C c3 to, b4C c4 eq, ZR lb rb (S.at Rq fq) v] ++ (Yw rb db Rq w4 ++ Zk db k4 Dq)) rfl rfl (Hp.le_trans hl3 hl4) ⟨hrec'.tmps.trans hrec.tmps, hrec'.params.trans hrec.params, hrec'.assign.trans hrec.assign, hrec'.body.trans hrec.body⟩ tk tk inferInstance ?_
     exact ⟨.inr ⟨rfl, hz⟩, w4, k4, Hp.le_trans hl2 (Hp.le_trans hl3 hl4), hR4, hD4, rfl⟩
  case done =>
   rintro D0 ρ2 Lu hl1 ⟨R1, D1, f1, w1, k1, hgo, hl2, hR1, hD1, rfl⟩
   have := hgo []
   rw [List.append_nil, hq] at this
   simp only [Vb, Prod.mk.injEq] at this
   obtain ⟨rfl, rfl, rfl, rfl⟩ := this
   simp only [kA]
   repeat' (first | refine zW ?_ | intro _)
   refine ZH [(D0, .deferred (some []))] ?_
   exact XD rfl rfl rfl inferInstance (res1 rfl (Zu rfl rfl)) hl2 tk (by infer_instance) (L' := ZR lb rb (S.at Rq fq) v :: Ya S v sp :: (Yw rb db Rq w1 ++ Zk db k1 Dq)) ⟨rfl, hl2, w1, k1, hR1, hD1, rfl⟩
  case stop =>
   rintro D0 c ρ2 Lu hl1 ⟨hc, w1, k1, hl2, hR1, hD1, rfl⟩
   simp only [kA]
   rcases hc with ⟨rfl, rfl⟩ | ⟨rfl, hne⟩
   ·repeat' (first | refine zW ?_ | intro _)
    refine ZH [(D0, .deferred (some []))] ?_
    exact XD rfl rfl rfl inferInstance (res1 rfl (Zu rfl rfl)) hl2 tk (by infer_instance) (L' := ZR lb rb (S.at Rq fq) v :: Ya S v sp :: (Yw rb db Rq w1 ++ Zk db k1 Dq)) ⟨rfl, hl2, w1, k1, hR1, hD1, rfl⟩
   ·repeat' (first | refine zW ?_ | intro _)
    refine ZH [(D0, .deferred (some []))] ?_
    exact XD rfl rfl rfl inferInstance (res1 rfl (Zu rfl rfl)) hl2 tk (by infer_instance) (L' := ZR lb rb (S.at Rq fq) v :: Ya S v sp :: (Yw rb db Rq w1 ++ Zk db k1 Dq)) ⟨rfl, hl2, w1, k1, hR1, hD1, rfl⟩
end Go.Proofs.E
namespace Go.Proofs.E
open Go
set_option linter.unusedVariables false
set_option linter.unusedSimpArgs false
set_option linter.unusedSectionVars false
set_option maxRecDepth 4000
set_option maxHeartbeats 1000000
attribute [local irreducible] Yl TL TC TE Spec ZK R1 Hp.le EnvLe TS TR YS Zp
def zRR : RR := (⟨⟨none, 0, 0⟩, ⟨none, 0, 0⟩, ⟨none, 0, 0⟩, ⟨none, 0, 0⟩⟩, ⟨0, 0, 0, 0, 0, [], [], 0, [], []⟩)
def firstIs (lsn : Nat) : List RR → Option RR
 | [] => none
 | x :: _ => if x.2.lsn = lsn then some x else none
def recF (S : LgS) (lsn : Nat) : Option RR := firstIs lsn (fromL S lsn)
abbrev recAns (o : Option RR) : Value := .tuple ⟨[.agg ⟨rrV (o.getD zRR)⟩, .int .i64 (if o.isSome then 0 else 4)]⟩
abbrev rc4 (b : Nat) (x : RR) : List (Nat × Obj) := [(b, .cells ⟨rrV x⟩ 39 (0, 0))]
theorem rec16_spec (ρ : Hp) (lb rb : Nat) (S : LgS) (v : Value) (sp : List Value) (h : LgIn ρ S v sp) (lsn : Nat) :
  Spec Tryz.prog 44 [.pointer (some ⟨lb, 0, none⟩), .int .u64 (lsn : Nat)] ρ [ZR lb rb S v, Ya S v sp] (fun z ρ' L' => z = recAns (recF S lsn) ∧ ρ.le ρ' ∧ L' = [ZR lb rb S v, Ya S v sp]) := by
 generalize ho : recF S lsn = o
 refine Za Tryz.func44 rfl rfl rfl fun u R => ?_
 simp only [Zg, kA]
 repeat' (first | (refine Zb (.func 108) ?_; refine qC rfl rfl (from16_spec _ lb lsn) ?_; rintro v1 ρ1 L1 hle1 ⟨d1, d2, rfl, rfl, rfl⟩; simp only [kA]) | refine zW ?_ | intro _)
 rename_i c3 c4 c5
 refine tc_rangeFuncP (S := [fb1 d1 lb, fb2 d2 lsn, Ya S v sp]) (L0 := [b3C c3 lsn, rc4 c4 zRR, b4C c5 0, ZR lb rb S v]) (R := R) (R0 := ?r0) rfl rfl (from16_iter ρ1 lb rb d1 d2 lsn S v sp h) (Hp.le_refl _) (fun _ => rfl) rfl
   (fun pre ρ2 Lu => pre = [] ∧ ρ1.le ρ2 ∧ Lu = [b3C c3 lsn, rc4 c4 zRR, b4C c5 0, ZR lb rb S v])
   (fun c ρ2 Lu => ρ1.le ρ2 ∧ ((c = .exit 0 ∧ o = none ∧ Lu = [b3C c3 lsn, rc4 c4 zRR, b4C c5 0, ZR lb rb S v]) ∨ ∃ x, c = .ret ∧ o = some x ∧ Lu = [b3C c3 lsn, rc4 c4 x, b4C c5 0, ZR lb rb S v])) ?k1 ?k2 ⟨rfl, Hp.le_refl _, rfl⟩ ?hC ?round ?done ?stop
 case k1 => exact tk
 case k2 => exact tk
 case hC =>
  rintro ρ2 Lu ⟨_, _, rfl⟩
  exact ⟨[b3C c3 lsn, rc4 c4 zRR, b4C c5 0], [], rfl⟩
 case round =>
  rintro l tm r pre y ρ2 Lu u R' hpre hl1 ⟨rfl, hl2, rfl⟩ hr hrec
  simp only [envP, kA]
  obtain ⟨t, ht⟩ := hpre
  have ho1 : o = if y.2.lsn = lsn then some y else none := by
   rw [← ho]; unfold recF; rw [← ht]; rfl
  obtain ⟨yv, yr⟩ := y
  dsimp only at ho1
  repeat' (first | refine zW ?_ | intro _)
  refine ZH [(l, .loop r)] ?_
  refine te_begin rfl hr (fun r' hbz hrec' => ?_)
  by_cases he : yr.lsn = lsn
  ·rw [if_pos he] at ho1
   subst he
   repeat' (first | refine zW ?_ | intro _)
   refine ZH [(l, .loop r')] ?_
   refine te_leave (Lu := [b3C c3 yr.lsn, rc4 c4 (yv, yr), b4C c5 0, ZR lb rb S v]) rfl rfl (Hp.le_refl _) ⟨hrec'.tmps.trans hrec.tmps, hrec'.params.trans hrec.params, hrec'.assign.trans hrec.assign, hrec'.body.trans hrec.body⟩ tk tk inferInstance ?_
   exact ⟨hl2, .inr ⟨_, rfl, ho1, rfl⟩⟩
  ·rw [if_neg he] at ho1
   have he2 : ¬ ((yr.lsn : Nat) : Int) = ((lsn : Nat) : Int) := by omega
   repeat' (first | refine zW ?_ | intro _)
   refine ZH [(l, .loop r')] ?_
   refine te_leave (Lu := [b3C c3 lsn, rc4 c4 zRR, b4C c5 0, ZR lb rb S v]) rfl rfl (Hp.le_refl _) ⟨hrec'.tmps.trans hrec.tmps, hrec'.params.trans hrec.params, hrec'.assign.trans hrec.assign, hrec'.body.trans hrec.body⟩ tk tk inferInstance ?_
   exact ⟨hl2, .inl ⟨rfl, ho1, rfl⟩⟩
 case done =>
  rintro D0 ρ2 Lu hl1 ⟨he, hl2, rfl⟩
  have ho1 : o = none := by rw [← ho]; unfold recF; rw [he]; rfl
  subst ho1
  simp only [kA]
  repeat' (first | refine zW ?_ | intro _)
  refine ZH [(D0, .deferred (some []))] ?_
  exact XD rfl rfl rfl inferInstance (res2 rfl (ZO rfl rfl) (Zu rfl rfl)) hl2 tk (by infer_instance) (L' := [ZR lb rb S v, Ya S v sp]) ⟨rfl, hl2, rfl⟩
 case stop =>
  rintro D0 c ρ2 Lu hl1 ⟨hl2, ⟨rfl, rfl, rfl⟩ | ⟨x, rfl, rfl, rfl⟩⟩
  ·simp only [kA]
   repeat' (first | refine zW ?_ | intro _)
   refine ZH [(D0, .deferred (some []))] ?_
   exact XD rfl rfl rfl inferInstance (res2 rfl (ZO rfl rfl) (Zu rfl rfl)) hl2 tk (by infer_instance) (L' := [ZR lb rb S v, Ya S v sp]) ⟨rfl, hl2, rfl⟩
  ·simp only [kA]
   repeat' (first | refine zW ?_ | intro _)
   refine ZH [(D0, .deferred (some []))] ?_
   exact XD rfl rfl rfl inferInstance (res2 rfl (ZO rfl rfl) (Zu rfl rfl)) hl2 tk (by infer_instance) (L' := [ZR lb rb S v, Ya S v sp]) ⟨rfl, hl2, rfl⟩
structure EvV where
 kind : Int
 n : Int
 b : BSl
 note : BSl
 ka : Option Addr
 kn : Nat
 kp : Nat
 ks : List Bool
structure EvIn (ρ : Hp) (e : EvV) : Prop where
 n : -9223372036854775808 ≤ e.n ∧ e.n ≤ 9223372036854775807
 kind : -9223372036854775808 ≤ e.kind ∧ e.kind ≤ 9223372036854775807
 b : BIn ρ e.b
 bbg : e.b.n ≤ 9223372036854775807
 note : BIn ρ e.note
 nb : e.note.n ≤ 9223372036854775807
 ks : SIn ρ bb e.ka e.kn e.ks
 kc : e.kn ≤ e.kp
 kb : e.kn ≤ 9223372036854775807
theorem EvIn.mono {ρ ρ' : Hp} {e : EvV} (h : EvIn ρ e) (hle : ρ.le ρ') : EvIn ρ' e := ⟨h.n, h.kind, h.b.mono hle, h.bbg, h.note.mono hle, h.nb, h.ks.mono hle, h.kc, h.kb⟩
theorem Good.append2 {R : RgS} {D : DS} {b : Bs} (h : Good R D) (hb : b.length ≤ 8000) (hn : R.next < 1099511627776) (hfit : ZF b.length ≤ R.h.size - R.used) :
  ∃ D', R.append b D = (R.plus b, D', 0) ∧ Good (R.plus b) D' ∧ D'.secs.length = D.secs.length ∧ ∀ i, R.h.size + 2 ≤ i → img D' i = img D i := by
 have hsz := h.ro.ok.size
 have hlen := h.ro.len
 have hidx : ∀ p ∈ Yh R.h R.next b (R.h.place + R.used), p.1 < R.h.size + 2 := fun p hp => by
  obtain ⟨k, hk, rfl⟩ := partsL_mem.1 hp
  have := Nat.mod_lt (R.h.place + R.used + k) (show 0 < R.h.size by omega)
  dsimp only; omega
 obtain ⟨l0, l1, l2⟩ := XI (Yh R.h R.next b (R.h.place + R.used)) D h.calm (fun p hp => by have := hidx p hp; omega)
 have ha := (h.ro.append h.frs hb hfit hn).1 l0
 refine ⟨(DS.lays (Yh R.h R.next b (R.h.place + R.used)) D).1, ?_, ⟨ha.1, ha.2, l1⟩, Xa _ _, fun i hi => ?_⟩
 ·unfold RgS.append
  rw [h.ro.live, if_neg (by simp), if_neg (by omega), if_neg (by omega), if_pos l0, calm_pair l0]
  rfl
 ·rcases YZ h.ro.empty l2 D rfl i with e | ⟨p, hp, h1, _⟩
  ·exact e
  ·have := hidx p hp; omega
def lastF (f : Nat) : List RR → Nat
 | [] => f
 | x :: l => lastF x.2.lsn l
abbrev upTo (to : Nat) (l : List RR) : List RR := l.takeWhile (fun x => decide (x.2.lsn ≤ to))
theorem costN_ok {r : Rc} (h : ZP r = true) : WZ r = ZF (WB r).length := by unfold WZ; rw [if_pos h]; rfl
theorem flushL_good (to : Nat) : ∀ (l : List RR) (R : RgS) (D : DS) (f : Nat), Good R D → (∀ x ∈ l, ZP x.2 = true) → Xs l ≤ R.h.size - R.used → R.next + l.length ≤ 1099511627776 →
  ∃ R' D', Vb to l R D f = (R', D', lastF f (upTo to l), 0) ∧ Good R' D' ∧ R'.h = R.h ∧ R'.ents = R.ents ++ (upTo to l).map (fun x => WB x.2) ∧ R'.used = R.used + Xs (upTo to l) ∧ D'.secs.length = D.secs.length ∧ ∀ i, R.h.size + 2 ≤ i → img D' i = img D i
 | [], R, D, f, g, _, _, _ => ⟨R, D, rfl, g, rfl, by simp, by simp [Xs], rfl, fun _ _ => rfl⟩
 | x :: l, R, D, f, g, hok, hu, hn => by
  have hx := hok x (by simp)
  have hc := costN_ok hx
  have hlen := recB_le (recOk_lay hx)
  simp only [Xs, List.map_cons, List.sum_cons] at hu
  simp only [List.length_cons] at hn
  unfold upTo
  rw [Vb, List.takeWhile_cons]
  by_cases hto : to < x.2.lsn
  ·rw [if_pos hto, decide_eq_false (by omega)]
   exact ⟨R, D, rfl, g, rfl, by simp, by simp [Xs], rfl, fun _ _ => rfl⟩
  ·rw [if_neg hto, decide_eq_true (by omega)]
   obtain ⟨D', e, g', hl', hi'⟩ := g.append2 (b := WB x.2) (by omega) (by omega) (by omega)
   have hnx : (R.plus (WB x.2)).next = R.next + 1 := by simp [RgS.plus, RgS.next]; omega
   have hus : (R.plus (WB x.2)).used = R.used + ZF (WB x.2).length := rfl
   obtain ⟨R2, D2, e2, g2, h2, he2, hu2, hl2, hi2⟩ := flushL_good to l (R.plus (WB x.2)) D' x.2.lsn g' (fun y hy => hok y (by simp [hy])) (by rw [hus]; show _ ≤ R.h.size - _; unfold Xs; omega) (by rw [hnx]; omega)
   rw [e]
   dsimp only
   rw [if_pos rfl, e2]
   refine ⟨R2, D2, rfl, g2, h2, ?_, ?_, hl2.trans hl', fun i hi => (hi2 i hi).trans (hi' i hi)⟩
   ·rw [he2]; simp [RgS.plus, upTo]
   ·rw [hu2, hus, ← hc]; simp [Xs, upTo]; omega
def newLg (R : RgS) : LgS := ⟨R, 1, 0, 0, 1, []⟩
theorem newLg_in {ρ : Hp} {R : RgS} : LgIn ρ (newLg R) (.slice none 0 0) [] := ⟨OwnS.nil 10, by simp [newLg], by simp [newLg], by simp [newLg, Xs], by simp [newLg]⟩
end Go.Proofs.E
namespace Go.Proofs.E
open Go
set_option linter.unusedVariables false
set_option linter.unusedSimpArgs false
set_option linter.unusedSectionVars false
set_option maxRecDepth 4000
set_option maxHeartbeats 1000000
attribute [local irreducible] Yl TL TC TE Spec ZK R1 Hp.le EnvLe TS TR YS Zp TP QP
def WP (x : Nat) : Nat := if x % 2 = 1 then (x / 2) ^^^ 2197175160 else x / 2
def hit : Nat → Nat → Nat
 | 0, x => x
 | j + 1, x => WP (hit j x)
theorem hstep_lt {x : Nat} (h : x < 4294967296) : WP x < 4294967296 := by
 unfold WP
 split
 ·exact Nat.xor_lt_two_pow (n := 32) (by omega) (by decide)
 ·omega
theorem hit_lt {x : Nat} (h : x < 4294967296) : ∀ j, hit j x < 4294967296
 | 0 => h
 | j + 1 => hstep_lt (hit_lt h j)
def tabV : List Value := (List.range 16).map fun n => .int .u32 (hit 4 n : Nat)
def tabU (i : Nat) : List Value := ((List.range i).map fun n => Value.int .u32 (hit 4 n : Nat)) ++ List.replicate (16 - i) (.int .u32 0)
theorem tabU_len {i : Nat} (h : i ≤ 16) : (tabU i).length = 16 := by simp [tabU]; omega
theorem stc_at (A B : List Value) (x y : Value) {i : Nat} (h : A.length = i) : stc (A ++ x :: B) (0 + i * 1) [y] = A ++ y :: B := by
 unfold stc
 rw [Nat.zero_add, Nat.mul_one, List.take_left' h]
 have hd : List.drop (i + [y].length) (A ++ x :: B) = B := by
  rw [List.drop_append, List.drop_eq_nil_of_le (by simp; omega)]
  simp [← h]
 rw [hd]; simp
theorem tabU_set {i : Nat} (h : i < 16) : stc (tabU i) (0 + i * 1) [Value.int .u32 (hit 4 i : Nat)] = tabU (i + 1) := by
 unfold tabU
 have e : 16 - i = (16 - (i + 1)) + 1 := by omega
 rw [e, List.replicate_succ, stc_at _ _ _ _ (by simp), List.range_succ, List.map_append]
 simp
theorem halves_spec (ρ : Hp) : Spec Tryz.prog 356 [] ρ [] (fun v ρ' L' => v = .agg ⟨tabV⟩ ∧ ρ' = ρ ∧ L' = []) := by
 refine Za Tryz.func356 rfl rfl rfl fun u R => ?_
 simp only [Zg, kA]
 repeat' (first | refine zB ?_ | intro _)
 rename_i b0 b1
 refine Zl [(0, _), (1, _)] (fun (ζ : (Nat) × (List Value)) => [(4, .int .i64 ζ.1)]) (fun (ζ : (Nat) × (List Value)) => ρ) (fun (ζ : (Nat) × (List Value)) => [[(b1, .cells ⟨ζ.2⟩ 439 (0, 0))]]) (fun (ζ : (Nat) × (List Value)) => ζ.1 ≤ 16 ∧ ζ.2 = tabU ζ.1) (fun (ζ : (Nat) × (List Value)) => 16 - ζ.1) ((0, List.replicate 16 (.int .u32 0))) (⟨Nat.zero_le _, rfl⟩) Zc Zc rfl tk ?_
 rintro ⟨i, cs⟩ hI
 try simp only [kA, List.append_assoc] at hI ⊢
 try dsimp only at hI ⊢
 obtain ⟨hi, rfl⟩ := hI
 have hcl := tabU_len hi
 by_cases hlt : i < 16
 ·have hst := tabU_set hlt
  repeat' (first | refine zB ?_ | intro _)
  refine Zl [(0, _), (1, _), (2, _), (4, _), (5, _), (6, _), (7, _), (8, _)] (fun (ζ : (Nat) × (Nat)) => [(9, .int .i64 ζ.1), (3, .int .u32 ζ.2)]) (fun (ζ : (Nat) × (Nat)) => ρ) (fun (ζ : (Nat) × (Nat)) => []) (fun (ζ : (Nat) × (Nat)) => ζ.1 ≤ 4 ∧ ζ.2 = hit ζ.1 i) (fun (ζ : (Nat) × (Nat)) => 4 - ζ.1) ((0, i)) (⟨Nat.zero_le _, rfl⟩) Zc Zc rfl tk ?_
  rintro ⟨j, y⟩ hI
  try simp only [kA, List.append_assoc] at hI ⊢
  try dsimp only at hI ⊢
  obtain ⟨hj, rfl⟩ := hI
  have hyl := hit_lt (x := i) (by omega) j
  by_cases hlj : j < 4
  ·generalize hy : hit j i = y at *
   have hand : andI (y : Int) 1 = ((y % 2 : Nat) : Int) := by simp [andI, Nat.and_one_is_mod]
   have hnx : hit (j + 1) i = WP y := by rw [← hy]; rfl
   unfold WP at hnx
   have hdv : ((y : Nat) : Int) / 2 ^ 1 = ((y / 2 : Nat) : Int) := by omega
   by_cases ho : y % 2 = 1
   ·rw [if_pos ho] at hnx
    have hxo : xorI ((y / 2 : Nat) : Int) 2197175160 = ((hit (j + 1) i : Nat) : Int) := by
     rw [hnx]
     show ((((y / 2 : Nat) : Int).toNat ^^^ (2197175160 : Int).toNat : Nat) : Int) = _
     rw [Int.toNat_natCast]; rfl
    rw [ho] at hand
    repeat' (first | refine zB ?_ | intro _)
    simp only [hdv, hxo]
    refine Zf (j + 1, _) (⟨hlj, rfl⟩) Zc Zc rfl tk inferInstance (by first | omega | (dsimp only; omega))
   ·rw [if_neg ho] at hnx
    rw [show y % 2 = 0 by omega] at hand
    repeat' (first | refine zB ?_ | intro _)
    simp only [hdv, ← hnx]
    refine Zf (j + 1, _) (⟨hlj, rfl⟩) Zc Zc rfl tk inferInstance (by first | omega | (dsimp only; omega))
  ·have h4 : j = 4 := by omega
   subst h4
   repeat' (first | refine zB ?_ | intro _)
   rw [hst]
   refine Zf (i + 1, _) (⟨hlt, rfl⟩) Zc Zc rfl tk inferInstance (by first | omega | (dsimp only; omega))
 ·have h16 : i = 16 := by omega
  subst h16
  have ht : tabU 16 = tabV := by simp [tabU, tabV]
  rw [ht] at hcl ⊢
  repeat' (first | refine zB ?_ | intro _)
  exact qE (L' := []) ⟨rfl, rfl, rfl⟩
def hal (l n : Nat) : Nat := (l / 16) ^^^ hit 4 ((l ^^^ n) &&& 15)
def byt (l : Nat) (c : UInt8) : Nat := hal (hal l (c.toNat &&& 15)) (c.toNat / 16)
def goesN (l : Nat) (b : List UInt8) : Nat := b.foldl byt l
def sumB (b : List UInt8) : Nat := 4294967295 ^^^ goesN 4294967295 b
theorem and15 (n : Nat) : n &&& 15 < 16 := Nat.lt_of_le_of_lt Nat.and_le_right (by decide)
theorem hal_lt {l n : Nat} (h : l < 4294967296) : hal l n < 4294967296 := by
 unfold hal
 exact Nat.xor_lt_two_pow (n := 32) (by omega) (hit_lt (by have := and15 (l ^^^ n); omega) 4)
theorem byt_lt {l : Nat} {c : UInt8} (h : l < 4294967296) : byt l c < 4294967296 := hal_lt (hal_lt h)
theorem goesN_lt : ∀ (b : List UInt8) {l : Nat}, l < 4294967296 → goesN l b < 4294967296
 | [], l, h => h
 | c :: r, l, h => by show goesN (byt l c) r < _; exact goesN_lt r (byt_lt h)
theorem sumB_lt (b : List UInt8) : sumB b < 4294967296 := Nat.xor_lt_two_pow (n := 32) (by decide) (goesN_lt b (by decide))
theorem tabV_len : tabV.length = 16 := by simp [tabV]
theorem tabV_at {i : Nat} (h : i < 16) : tabV[0 + i * 1]? = some (.int .u32 (hit 4 i : Nat)) := by
 simp [tabV, h]
theorem goes1_spec (ρ : Hp) (lb tb l n : Nat) (hl : l < 4294967296) (hn : n < 256) :
  Spec Tryz.prog 357 [.int .u8 n, .pointer (some ⟨lb, 0, none⟩), .pointer (some ⟨tb, 0, none⟩)] ρ [[(lb, .cells ⟨[.int .u32 l]⟩ 290 (0, 0))], [(tb, .cells ⟨tabV⟩ 439 (0, 0))]]
   (fun v ρ' L' => v = .tuple ⟨[]⟩ ∧ ρ' = ρ ∧ L' = [[(lb, .cells ⟨[.int .u32 (hal l n : Nat)]⟩ 290 (0, 0))], [(tb, .cells ⟨tabV⟩ 439 (0, 0))]]) := by
 have hx : xorI (l : Int) (n : Int) = ((l ^^^ n : Nat) : Int) := by simp [xorI]
 have hxl : l ^^^ n < 4294967296 := Nat.xor_lt_two_pow (n := 32) (by omega) (by omega)
 have ha : andI ((l ^^^ n : Nat) : Int) 15 = (((l ^^^ n) &&& 15 : Nat) : Int) := by simp [andI]
 have hal' := and15 (l ^^^ n)
 have hlen := tabV_len
 have hat := tabV_at hal'
 have hv := hit_lt (x := (l ^^^ n) &&& 15) (by omega) 4
 have hd : ((l : Nat) : Int) / 2 ^ 4 = ((l / 16 : Nat) : Int) := by omega
 have hr : xorI ((l / 16 : Nat) : Int) ((hit 4 ((l ^^^ n) &&& 15) : Nat) : Int) = ((hal l n : Nat) : Int) := by
  show (((((l / 16 : Nat) : Int).toNat) ^^^ (((hit 4 ((l ^^^ n) &&& 15) : Nat) : Int)).toNat : Nat) : Int) = _
  rw [Int.toNat_natCast, Int.toNat_natCast]; rfl
 generalize (l ^^^ n) &&& 15 = i at *
 have ha2 : andI (xorI (l : Int) (n : Int)) 15 = (i : Int) := by rw [hx, ha]
 have hat2 : tabV[0 + (andI (xorI (l : Int) (n : Int)) 15).toNat * 1]? = some (.int .u32 (hit 4 i : Nat)) := by rw [ha2, Int.toNat_natCast]; exact hat
 have hxb : 0 ≤ xorI (l : Int) (n : Int) ∧ xorI (l : Int) (n : Int) < 4294967296 := by omega
 refine Za Tryz.func357 rfl rfl rfl fun u R => ?_
 simp only [Zg, kA]
 refine tpA [3,4] (.b 0 2 [1] [5,6,7,8] (.e 2 [5,6,7,8,9] (.e 10 [] .o)) (.e 0 [1,9] (.e 10 [] .o))) ([[(tb, .cells ⟨tabV⟩ 439 (0, 0))]]) ?_
 repeat' (refine iT ?_; first | refine rA ?_ | (refine iQ ?_; refine rQ ?_ (y := by intro _ _; first | exact y_and rfl rfl (by simp only [bitsHi]; omega) (by simp only [bitsHi]; omega) (by decide) | exact y_xor rfl rfl (by simp only [bitsHi]; omega) (by simp only [bitsHi]; omega) (by decide))) | ((first | (refine iE ?_; refine rE ?_) | (refine iB ?_; refine rB ?_ ?_)) <;> ((try refine Zn ?_); (first | (refine i_qq ?_; refine qQ ?_) | (refine Yj ?_; try intro _)) <;> ((try simp only [kA]); refine Zi ?_; refine rN ?_))))
 all_goals (repeat' (first | refine zB ?_ | intro _))
 all_goals simp only [hd, hr]
 all_goals exact qE (L' := [[(lb, _)], [(tb, _)]]) ⟨rfl, rfl, rfl⟩
theorem goes_spec (ρ : Hp) (l : Nat) (hl : l < 4294967296) (a : Option Addr) (n c : Nat) (b : List UInt8) (hb : SIn ρ Zr a n b) (hbig : n ≤ 1000000) :
  Spec Tryz.prog 346 [.int .u32 l, .slice a n c] ρ [] (fun v ρ' L' => v = .int .u32 (goesN l b : Nat) ∧ ρ' = ρ ∧ L' = []) := by
 have hlen := hb.len
 refine Za Tryz.func346 rfl rfl rfl fun u R => ?_
 simp only [Zg, kA]
 repeat' (first | (refine Zb (.func 356) ?_; refine qC rfl rfl (halves_spec _) ?_; rintro v ρ' L' hle ⟨rfl, rfl, rfl⟩ <;> (try simp only [kA])) | refine zB ?_ | intro _)
 rename_i lb tb
 refine Zl [(2, _), (4, _), (6, _), (11, _), (12, _)] (fun (ζ : (Nat) × (Nat)) => [(13, .int .i64 ζ.1)]) (fun (ζ : (Nat) × (Nat)) => ρ') (fun (ζ : (Nat) × (Nat)) => [[(tb, .cells ⟨tabV⟩ 439 (0, 0))], [(lb, .cells ⟨[.int .u32 ζ.2]⟩ 290 (0, 0))]]) (fun (ζ : (Nat) × (Nat)) => ζ.1 ≤ n ∧ ζ.2 < 4294967296 ∧ ζ.2 = goesN l (b.take ζ.1)) (fun (ζ : (Nat) × (Nat)) => n - ζ.1) ((0, l)) (⟨Nat.zero_le _, hl, rfl⟩) Zc Zc rfl tk ?_
 rintro ⟨i, y⟩ hI
 try simp only [kA, List.append_assoc] at hI ⊢
 try dsimp only at hI ⊢
 obtain ⟨hi, hy, hgo⟩ := hI
 by_cases hlt : i < n
 ·obtain ⟨bx, off, C, T, fr, rfl, hb1, hc1⟩ := hb.get (show i < b.length by omega)
  have hnx : goesN l (b.take (i + 1)) = byt y (b[i]'(by omega)) := by
   rw [hgo]; unfold goesN; rw [List.take_succ_eq_append_getElem (by omega), List.foldl_append]; rfl
  generalize b[i]'(by omega) = ch at *
  have hcl := ch.toNat_lt
  have hq1 : ch.toNat &&& 15 < 256 := by have := and15 ch.toNat; omega
  have hsh : ((ch.toNat : Nat) : Int) / 2 ^ 4 = ((ch.toNat / 16 : Nat) : Int) := by omega
  have hh := hal_lt (n := ch.toNat &&& 15) hy
  have hand : andI ((ch.toNat : Nat) : Int) 15 = ((ch.toNat &&& 15 : Nat) : Int) := by simp [andI]
  repeat' (first | refine zB ?_ | intro _)
  simp only [hand]
  repeat' (first | (refine Zb (.tmp 17) ?_; refine qC rfl rfl (goes1_spec _ lb tb y (ch.toNat &&& 15) hy hq1) ?_; rintro v ρ' L' hle ⟨rfl, rfl, rfl⟩ <;> (try simp only [kA])) | (refine Zb (.tmp 21) ?_; refine qC rfl rfl (goes1_spec _ lb tb (hal y (ch.toNat &&& 15)) (ch.toNat / 16) hh (by omega)) ?_; rintro v ρ' L' hle ⟨rfl, rfl, rfl⟩ <;> (try simp only [kA])) | refine zB ?_ | intro _)
  refine Zf (i + 1, byt y ch) (⟨hlt, byt_lt hy, hnx.symm⟩) Zc Zc rfl tk inferInstance (by first | omega | (dsimp only; omega))
 ·have hin : i = n := by omega
  subst hin
  rw [List.take_of_length_le (by omega)] at hgo
  repeat' (first | refine zB ?_ | intro _)
  rw [hgo]
  exact qE (L' := []) ⟨rfl, rfl, rfl⟩
theorem sum32_spec (ρ : Hp) (a : Option Addr) (n c : Nat) (b : List UInt8) (hb : SIn ρ Zr a n b) (hbig : n ≤ 1000000) :
  Spec Tryz.prog 276 [.slice a n c] ρ [] (fun v ρ' L' => v = .int .u32 (sumB b : Nat) ∧ ρ' = ρ ∧ L' = []) := by
 have hj : Spec Tryz.prog 326 [.int .u32 0, .slice a n c] ρ [] (fun v ρ' L' => v = .int .u32 (sumB b : Nat) ∧ ρ' = ρ ∧ L' = []) := by
  have h1 : xorI 4294967295 0 = ((4294967295 : Nat) : Int) := by simp [xorI]
  have hg := goesN_lt b (l := 4294967295) (by decide)
  have hgs := goes_spec ρ 4294967295 (by decide) a n c b hb hbig
  have h2 : xorI 4294967295 ((goesN 4294967295 b : Nat) : Int) = ((sumB b : Nat) : Int) := by
   show (((4294967295 : Int).toNat ^^^ ((goesN 4294967295 b : Nat) : Int).toNat : Nat) : Int) = _
   rw [Int.toNat_natCast]; rfl
  generalize goesN 4294967295 b = g at *
  refine Za Tryz.func326 rfl rfl rfl fun u R => ?_
  simp only [Zg, kA]
  repeat' (first | refine zB ?_ | intro _)
  simp only [h1]
  repeat' (first | (refine Zb (.func 346) ?_; refine qC rfl rfl (hgs) ?_; rintro v ρ' L' hle ⟨rfl, rfl, rfl⟩ <;> (try simp only [kA])) | refine zB ?_ | intro _)
  rw [h2]
  exact qE (L' := []) ⟨rfl, rfl, rfl⟩
 refine Za Tryz.func276 rfl rfl rfl fun u R => ?_
 simp only [Zg, kA]
 repeat' (first | (refine Zb (.func 326) ?_; refine qC rfl rfl (hj) ?_; rintro v ρ' L' hle ⟨rfl, rfl, rfl⟩ <;> (try simp only [kA])) | refine zB ?_ | intro _)
 exact qE (L' := []) ⟨rfl, rfl, rfl⟩
end Go.Proofs.E
