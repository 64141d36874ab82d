/- Laws of RedoLast. Part 13 of 19. -/
import Derived.Test.YtpcfmhifkkpjpaaGreatB12
namespace Go.Proofs.E
open Go
set_option linter.unusedVariables false
set_option linter.unusedSimpArgs false
set_option linter.unusedSectionVars false
set_option maxRecDepth 4000
set_option maxHeartbeats 1000000
attribute [local irreducible] Yl TL TC TE Spec ZK R1 Hp.le EnvLe TS TR YS Zp
theorem Sec.least {num i t m : Nat} {b : Blk} (h : Sec num i t b) (hi : i < 2) (ht : t < M64) (hm : Xr b ≤ m) : Sec num i m b := by
 rcases h with h | ⟨st, lsn, c, h1, h2, rfl⟩
 ·exact .inl h
 ·rw [WK num st lsn c hi (by omega)] at hm
  exact .inr ⟨st, lsn, c, h1, hm, rfl⟩
abbrev pg (D : DS) (base num j : Nat) : Blk := img D (base + 4 * num + j)
abbrev csD (D : DS) (base num : Nat) : CS := cs2 num (pg D base num 0) (pg D base num 1) (pg D base num 2) (pg D base num 3)
structure FO (D : DS) (base t : Nat) (held : Nat → ZL) : Prop where
 dok : D.Ok
 alive : D.dead = false
 empty : YD D.secs
 len : base + 256 ≤ D.secs.length
 sec : ∀ num j, num < 64 → j < 4 → Sec num (j % 2) t (pg D base num j)
 held : ∀ num, num < 64 → WJ (csD D base num) = held num
theorem FO.congr {D D' : DS} {base t : Nat} {held : Nat → ZL} (h : FO D base t held) (hs : D'.secs = D.secs) (hok : D'.Ok) (ha : D'.dead = false) : FO D' base t held := by
 have hi := XA hs
 exact ⟨hok, ha, by rw [hs]; exact h.empty, by rw [hs]; exact h.len, fun num j h1 h2 => by unfold pg; rw [hi]; exact h.sec num j h1 h2, fun num h1 => by unfold csD pg; rw [hi]; exact h.held num h1⟩
theorem FO.crash {D : DS} {base t : Nat} {held : Nat → ZL} (h : FO D base t held) (keep : Nat → Bool) : FO (D.crash keep) base t held :=
 h.congr (by simp only [DS.crash]; exact settled_empty h.empty) h.dok.crash rfl
theorem rd_ok {D : DS} (he : YD D.secs) (ha : D.dead = false) {i : Nat} (hi : i < D.secs.length) : (D.read (i : Int)).1.dead = false ∧ ((D.read (i : Int)).2.2 = 0 → (D.read (i : Int)).2.1 = img D i) := by
 unfold DS.read
 rw [if_neg (by simp [ha]), if_neg (by omega)]
 split
 ·exact ⟨ha, fun h => by simp at h⟩
 ·refine ⟨ha, fun _ => ?_⟩
  rw [img_at hi]
  simp [says1, List.getElem?_eq_getElem hi, he _ (List.getElem_mem hi)]
theorem rdSlot_img {D : DS} (he : YD D.secs) (ha : D.dead = false) {i : Nat} (hi : i + 1 < D.secs.length) : (Wb D i).1.dead = false ∧ ((Wb D i).2.2 = 0 → (Wb D i).2.1 = (img D i, img D (i + 1))) := by
 obtain ⟨h1, h2⟩ := rd_ok he ha (i := i) (by omega)
 have hs := read_secs (D := D) (i : Int)
 obtain ⟨h3, h4⟩ := rd_ok (D := (D.read (i : Int)).1) (by rw [hs]; exact he) h1 (i := i + 1) (by rw [hs]; exact hi)
 rw [XA hs] at h4
 unfold Wb
 split
 ·rename_i hc; exact ⟨h1, fun h => absurd h hc⟩
 ·rename_i hc
  split
  ·rename_i hd; exact ⟨h3, fun h => absurd h hd⟩
  ·rename_i hd
   refine ⟨h3, fun _ => ?_⟩
   rw [h2 (Classical.not_not.1 hc), h4 (Classical.not_not.1 hd)]
theorem slD_alive {D : DS} {base num : Nat} (he : YD D.secs) (ha : D.dead = false) (hl : base + 4 * num + 4 ≤ D.secs.length) : ∀ k, k ≤ 2 → (slD D base num k).dead = false
 | 0, _ => ha
 | k + 1, hk => (rdSlot_img (D := slD D base num k) (by rw [Xu]; exact he) (slD_alive he ha hl k (by omega)) (i := base + 4 * num + 2 * k) (by rw [Xu]; omega)).1
theorem slR_img {D : DS} {base num k : Nat} (he : YD D.secs) (ha : D.dead = false) (hl : base + 4 * num + 4 ≤ D.secs.length) (hk : k < 2) (h0 : (slR D base num k).2.2 = 0) : (slR D base num k).2.1 = (pg D base num (2 * k), pg D base num (2 * k + 1)) := by
 have := (rdSlot_img (D := slD D base num k) (by rw [Xu]; exact he) (slD_alive he ha hl k (by omega)) (i := base + 4 * num + 2 * k) (by rw [Xu]; omega)).2 h0
 rw [XA (Xu D base num k)] at this
 exact this
theorem Va {D : DS} {base num : Nat} : (Zt D base num).2.1.secs = D.secs := by
 unfold Zt
 split
 ·exact Xu D base num 1
 ·split
  ·exact Xu D base num 2
  ·exact Xu D base num 2
theorem countsD_ok {D : DS} {base num : Nat} (h : D.Ok) : (Zt D base num).2.1.Ok := by
 unfold Zt
 split
 ·exact slD_ok h 1
 ·split
  ·exact slD_ok h 2
  ·exact slD_ok h 2
theorem countsD_alive {D : DS} {base num : Nat} (he : YD D.secs) (ha : D.dead = false) (hl : base + 4 * num + 4 ≤ D.secs.length) : (Zt D base num).2.1.dead = false := by
 unfold Zt
 split
 ·exact slD_alive he ha hl 1 (by omega)
 ·split
  ·exact slD_alive he ha hl 2 (by omega)
  ·exact slD_alive he ha hl 2 (by omega)
theorem countsD_val {D : DS} {base num : Nat} (he : YD D.secs) (ha : D.dead = false) (hl : base + 4 * num + 4 ≤ D.secs.length) (h0 : (Zt D base num).2.2 = 0) :
  (Zt D base num).1 = ({ (csD D base num).best with most := (csD D base num).most }, (csD D base num).other) := by
 unfold Zt at h0 ⊢
 split at h0
 ·rename_i hc; exact absurd h0 hc
 ·rename_i hc
  split at h0
  ·rename_i hd; exact absurd h0 hd
  ·rename_i hd
   have e0 := slR_img he ha hl (k := 0) (by omega) (Classical.not_not.1 hc)
   have e1 := slR_img he ha hl (k := 1) (by omega) (Classical.not_not.1 hd)
   rw [if_neg hc, if_neg hd]
   have y0 : (slY num (slR D base num 0)).1 = slotAt num (pg D base num 0) (pg D base num 1) := by unfold slY; rw [if_neg hc, e0]
   have y1 : (slY num (slR D base num 1)).1 = slotAt num (pg D base num 2) (pg D base num 3) := by unfold slY; rw [if_neg hd, e1]
   have : csTo D base num 2 = csD D base num := by
    show (((⟨zSl, 0, 0⟩ : CS).step 0 (slY num (slR D base num 0)).1).step 1 (slY num (slR D base num 1)).1) = _
    rw [y0, y1]; rfl
   rw [this]
theorem rdSlot_calm {D : DS} (h : D.Calm) {i : Nat} (hi : i + 1 < D.secs.length) : (Wb D i).1.Calm ∧ (Wb D i).2.2 = 0 := by
 have e1 := h.read_eq (i := i) (by omega)
 unfold Wb
 rw [e1]
 have e2 := (DS.Calm.mk' (s := D.secs) (o := IntKind.i64.wrap (D.ops + 1))).read_eq (i := i + 1) hi
 rw [if_neg (by simp), e2, if_neg (by simp)]
 exact ⟨DS.Calm.mk', rfl⟩
theorem slD_calm {D : DS} {base num : Nat} (h : D.Calm) (hl : base + 4 * num + 4 ≤ D.secs.length) : ∀ k, k ≤ 2 → (slD D base num k).Calm
 | 0, _ => h
 | k + 1, hk => (rdSlot_calm (slD_calm h hl k (by omega)) (i := base + 4 * num + 2 * k) (by rw [Xu]; omega)).1
theorem countsD_calm {D : DS} {base num : Nat} (h : D.Calm) (hl : base + 4 * num + 4 ≤ D.secs.length) : (Zt D base num).2.2 = 0 ∧ (Zt D base num).2.1.Calm := by
 have e0 := (rdSlot_calm (slD_calm h hl 0 (by omega)) (i := base + 4 * num + 2 * 0) (by rw [Xu]; omega)).2
 have e1 := (rdSlot_calm (slD_calm h hl 1 (by omega)) (i := base + 4 * num + 2 * 1) (by rw [Xu]; omega)).2
 unfold Zt slR
 rw [if_neg (by rw [e0]; simp), if_neg (by rw [e1]; simp)]
 exact ⟨rfl, slD_calm h hl 2 (by omega)⟩
theorem FO.read {D : DS} {base t : Nat} {held : Nat → ZL} (h : FO D base t held) (hc : D.Calm) {num : Nat} (hn : num < 64) : (XV D base num).1 = ((held num).1, (held num).2, 0) ∧ FO (XV D base num).2 base t held ∧ (XV D base num).2.Calm := by
 have hln := h.len
 have hl : base + 4 * num + 4 ≤ D.secs.length := by omega
 obtain ⟨e1, e2⟩ := countsD_calm hc hl
 have e3 := countsD_val h.empty h.alive hl e1
 have e4 := h.held num hn
 have hf := h.congr (D' := (Zt D base num).2.1) Va (countsD_ok h.dok) e2.dead
 unfold WJ at e4
 unfold XV
 rw [e1, e3]
 dsimp only
 by_cases hr : (csD D base num).best.right = true
 ·rw [if_pos hr] at e4
  rw [if_neg (by simp [hr]), ← e4]
  exact ⟨rfl, hf, e2⟩
 ·rw [if_neg hr] at e4
  rw [if_pos (.inr (by simpa using hr)), ← e4]
  exact ⟨rfl, hf, e2⟩
def upd (f : Nat → ZL) (n : Nat) (v : ZL) : Nat → ZL := fun k => if k = n then v else f k
theorem upd_self (f : Nat → ZL) (n : Nat) : upd f n (f n) = f := by funext k; unfold upd; split <;> simp_all
theorem FO.mono {D : DS} {base t t' : Nat} {held : Nat → ZL} (h : FO D base t held) (ht : t ≤ t') : FO D base t' held :=
 ⟨h.dok, h.alive, h.empty, h.len, fun num j h1 h2 => (h.sec num j h1 h2).mono ht, h.held⟩
theorem csD_most {D : DS} {base t : Nat} {held : Nat → ZL} (h : FO D base t held) {num : Nat} (hn : num < 64) (ht : t < M64) : (csD D base num).most ≤ t ∧ (csD D base num).other < 2 ∧ ∀ j, j < 4 → Xr (pg D base num j) ≤ (csD D base num).most := by
 obtain ⟨_, e2, e3⟩ := cs2_eq num (pg D base num 0) (pg D base num 1) (pg D base num 2) (pg D base num 3)
 have s0 := (h.sec num 0 hn (by omega)).stamp (by omega) hn ht
 have s1 := (h.sec num 1 hn (by omega)).stamp (by omega) hn ht
 have s2 := (h.sec num 2 hn (by omega)).stamp (by omega) hn ht
 have s3 := (h.sec num 3 hn (by omega)).stamp (by omega) hn ht
 simp only [Nat.zero_mod, show 1 % 2 = 1 from rfl, show 2 % 2 = 0 from rfl, show 3 % 2 = 1 from rfl] at s0 s1 s2 s3
 unfold csD
 unfold XY at e3
 rw [s0.1, s1.1, s2.1, s3.1] at e3
 have ho : (cs2 num (pg D base num 0) (pg D base num 1) (pg D base num 2) (pg D base num 3)).other < 2 := by
  rw [e2]; repeat' split
  all_goals omega
 refine ⟨by rw [e3]; omega, ho, fun j hj => ?_⟩
 rw [e3]
 rcases (show j = 0 ∨ j = 1 ∨ j = 2 ∨ j = 3 by omega) with rfl | rfl | rfl | rfl <;> omega
theorem FO.wrote {D D2 : DS} {base t : Nat} {held : Nat → ZL} (h : FO D base t held) {num lsn : Nat} {c : Yi} (hn : num < 64) (hc : Fit c) (hl : lsn < M64) (ht : t + 1 < M64)
  (hok : D2.Ok) (ha : D2.dead = false) (he : YD D2.secs) (hlen : D2.secs.length = D.secs.length)
  (hi : ∀ i, img D2 i = img D i ∨ ∃ p ∈ YH (base + 4 * num + 2 * (csD D base num).other) (ZD num ((csD D base num).most + 1) lsn c 0) (ZD num ((csD D base num).most + 1) lsn c 1), p.1 = i ∧ img D2 i = p.2) :
  ∃ v, (v = held num ∨ v = (c, lsn)) ∧ FO D2 base (t + 1) (upd held num v) ∧
   (img D2 (base + 4 * num + 2 * (csD D base num).other) = ZD num ((csD D base num).most + 1) lsn c 0 → img D2 (base + 4 * num + 2 * (csD D base num).other + 1) = ZD num ((csD D base num).most + 1) lsn c 1 → v = (c, lsn)) := by
 obtain ⟨m1, m2, m3⟩ := csD_most h hn (by omega)
 have hsec := fun j hj => (h.sec num j hn hj).least (by omega) (by omega) (m3 j hj)
 have hheld := h.held num hn
 have hat : ∀ j, j < 4 → pg D2 base num j = pg D base num j ∨ (csD D base num).other = j / 2 ∧ pg D2 base num j = ZD num ((csD D base num).most + 1) lsn c (j % 2) := fun j hj => by
  rcases hi (base + 4 * num + j) with h1 | ⟨p, hp, h2, h3⟩
  ·exact .inl h1
  ·right
   simp only [YH, List.mem_cons, List.not_mem_nil, or_false] at hp
   rcases hp with rfl | rfl
   ·have hj2 : j = 2 * (csD D base num).other := by dsimp only at h2; omega
    refine ⟨by omega, ?_⟩
    rw [show j % 2 = 0 by omega]; exact h3
   ·have hj2 : j = 2 * (csD D base num).other + 1 := by dsimp only at h2; omega
    refine ⟨by omega, ?_⟩
    rw [show j % 2 = 1 by omega]; exact h3
 have hw := E.wrote (x0 := pg D2 base num 0) (y0 := pg D2 base num 1) (x1 := pg D2 base num 2) (y1 := pg D2 base num 3) hn hc hl (hsec 0 (by omega)) (hsec 1 (by omega)) (hsec 2 (by omega)) (hsec 3 (by omega)) rfl (by omega) (hat 0 (by omega)) (hat 1 (by omega)) (hat 2 (by omega)) (hat 3 (by omega))
 have hoth : ∀ m, m < 64 → m ≠ num → ∀ j, j < 4 → pg D2 base m j = pg D base m j := fun m hm hne j hj => by
  rcases hi (base + 4 * m + j) with h1 | ⟨p, hp, h2, h3⟩
  ·exact h1
  ·exfalso
   simp only [YH, List.mem_cons, List.not_mem_nil, or_false] at hp
   rcases hp with rfl | rfl <;> dsimp only at h2 <;> omega
 have hfo : ∀ v, WJ (csD D2 base num) = v → FO D2 base (t + 1) (upd held num v) := fun v hv => by
  refine ⟨hok, ha, he, by rw [hlen]; exact h.len, fun m j hm hj => ?_, fun m hm => ?_⟩
  ·by_cases hmn : m = num
   ·subst hmn
    rcases hat j hj with h1 | ⟨_, h2⟩
    ·rw [h1]; exact (h.sec m j hm hj).mono (by omega)
    ·rw [h2]; exact .inr ⟨_, _, _, by omega, by omega, rfl⟩
   ·rw [hoth m hm hmn j hj]; exact (h.sec m j hm hj).mono (by omega)
  ·unfold upd
   by_cases hmn : m = num
   ·subst hmn; rw [if_pos rfl]; exact hv
   ·rw [if_neg hmn, ← h.held m hm]
    unfold csD
    rw [hoth m hm hmn 0 (by omega), hoth m hm hmn 1 (by omega), hoth m hm hmn 2 (by omega), hoth m hm hmn 3 (by omega)]
 refine ⟨WJ (csD D2 base num), ?_, hfo _ rfl, fun p1 p2 => ?_⟩
 ·rcases hw.1 with h1 | h1
  ·left; rw [← hheld]; exact h1
  ·exact .inr h1
 ·refine hw.2 ?_
  rcases (show (csD D base num).other = 0 ∨ (csD D base num).other = 1 by omega) with ho | ho
  ·rw [ho] at p1 p2
   rw [if_pos ho]; exact ⟨p1, p2⟩
  ·rw [ho] at p1 p2
   rw [if_neg (by rw [show (cs2 num (pg D base num 0) (pg D base num 1) (pg D base num 2) (pg D base num 3)).other = 1 from ho]; omega)]; exact ⟨p1, p2⟩
theorem FO.write {D : DS} {base t : Nat} {held : Nat → ZL} (h : FO D base t held) {num lsn : Nat} {c : Yi} (hn : num < 64) (hc : Fit c) (hl : lsn < M64) (ht : t + 1 < M64) :
  ((Xt D base num lsn c).2 = 0 → FO (Xt D base num lsn c).1 base (t + 1) (upd held num (c, lsn))) ∧ (∀ keep, ∃ v, (v = held num ∨ v = (c, lsn)) ∧ FO ((Xt D base num lsn c).1.crash keep) base (t + 1) (upd held num v)) ∧ (Xt D base num lsn c).1.Ok := by
 have hln := h.len
 have hL : base + 4 * num + 4 ≤ D.secs.length := by omega
 have ha1 := countsD_alive h.empty h.alive hL
 have hs1 := Va (D := D) (base := base) (num := num)
 have hok1 := countsD_ok (base := base) (num := num) h.dok
 have hv := countsD_val h.empty h.alive hL
 obtain ⟨m1, m2, _⟩ := csD_most h hn (by omega)
 have hf1 := h.congr (D' := (Zt D base num).2.1) hs1 hok1 ha1
 unfold Xt
 by_cases he : (Zt D base num).2.2 = 0
 ·rw [if_neg (by simp [he]), hv he]
  dsimp only
  rw [if_neg (by unfold M64 at ht; omega)]
  have hW : ∀ p ∈ YH (base + 4 * num + 2 * (csD D base num).other) (ZD num ((csD D base num).most + 1) lsn c 0) (ZD num ((csD D base num).most + 1) lsn c 1), p.1 < (Zt D base num).2.1.secs.length ∧ p.2.length = 64 := fun p hp => by
   rw [hs1]
   simp only [YH, List.mem_cons, List.not_mem_nil, or_false] at hp
   rcases hp with rfl | rfl
   ·exact ⟨by dsimp only; omega, YY _ _ _ _ (by omega)⟩
   ·exact ⟨by dsimp only; omega, YY _ _ _ _ (by omega)⟩
  have hokL := DS.Ok.lays (D := (Zt D base num).2.1) hok1 (fun p hp => (hW p hp).2)
  have hlenL := Xa (YH (base + 4 * num + 2 * (csD D base num).other) (ZD num ((csD D base num).most + 1) lsn c 0) (ZD num ((csD D base num).most + 1) lsn c 1)) (Zt D base num).2.1
  have hout := lays_out (YH (base + 4 * num + 2 * (csD D base num).other) (ZD num ((csD D base num).most + 1) lsn c 0) (ZD num ((csD D base num).most + 1) lsn c 1)) (Zt D base num).2.1 ha1 (fun p hp => (hW p hp).1)
  rw [hs1] at hlenL hout
  have hgo := fun (D2 : DS) => h.wrote (D2 := D2) hn hc hl ht
  generalize hP0 : ZD num ((csD D base num).most + 1) lsn c 0 = P0 at *
  generalize hP1 : ZD num ((csD D base num).most + 1) lsn c 1 = P1 at *
  generalize base + 4 * num + 2 * (csD D base num).other = ix at *
  generalize hr : DS.lays (YH ix P0 P1) (Zt D base num).2.1 = r at *
  refine ⟨fun h0 => ?_, fun keep => ?_, hokL⟩
  ·rcases hout with ⟨l', hl', hs, hne⟩ | ⟨hs, _, hal⟩
   ·exact absurd h0 hne
   ·have hemp : YD r.1.secs := by rw [hs]; exact Yf
    obtain ⟨v, _, hv2, hv3⟩ := hgo r.1 hokL hal hemp hlenL (fun i => YZ h.empty hs D rfl i)
    have hall := fun {i : Nat} (hi : i < D.secs.length) => img_all (D := r.1) h.empty hs D rfl hi
    have hixl := hW (ix, P0) (by simp [YH])
    have hixm := hW (ix + 1, P1) (by simp [YH])
    rw [hs1] at hixl hixm
    have h1 : img r.1 ix = P0 := by
     rcases hall hixl.1 with ⟨_, hno⟩ | ⟨p, hp, h1, h2⟩
     ·exact absurd rfl (hno (ix, P0) (by simp [YH]))
     ·simp only [YH, List.mem_cons, List.not_mem_nil, or_false] at hp
      rcases hp with rfl | rfl
      ·exact h2
      ·dsimp only at h1; omega
    have h2 : img r.1 (ix + 1) = P1 := by
     rcases hall hixm.1 with ⟨_, hno⟩ | ⟨p, hp, h1, h2⟩
     ·exact absurd rfl (hno (ix + 1, P1) (by simp [YH]))
     ·simp only [YH, List.mem_cons, List.not_mem_nil, or_false] at hp
      rcases hp with rfl | rfl
      ·dsimp only at h1; omega
      ·exact h2
    rw [hv3 h1 h2] at hv2
    exact hv2
  ·have hcr : ∃ (kp : Nat → Bool) (l' : List (Nat × Blk)), l' <+: YH ix P0 P1 ∧ (r.1.crash keep).secs = settled kp (YJ D.secs l') := by
    rcases hout with ⟨l', hl', hs, hne⟩ | ⟨hs, _, hal⟩
    ·exact ⟨keep, l', hl', by simp only [DS.crash]; rw [hs]⟩
    ·refine ⟨fun _ => true, YH ix P0 P1, List.prefix_refl _, ?_⟩
     have hemp : YD r.1.secs := by rw [hs]; exact Yf
     simp only [DS.crash]
     rw [settled_empty hemp, hs]
   obtain ⟨kp, l', hl', hs⟩ := hcr
   obtain ⟨v, h1, h2, _⟩ := hgo (r.1.crash keep) hokL.crash rfl (by rw [hs]; exact Yf) (by rw [hs, ZX, Yy]) (fun i => by
    rcases YZ h.empty hs D rfl i with h1 | ⟨p, hp, h2, h3⟩
    ·exact .inl h1
    ·exact .inr ⟨p, hl'.subset hp, h2, h3⟩)
   exact ⟨v, h1, h2⟩
 ·rw [if_pos he]
  refine ⟨fun h0 => absurd h0 he, fun keep => ⟨held num, .inl rfl, ?_⟩, hok1⟩
  rw [upd_self]
  exact (hf1.crash keep).mono (by omega)
theorem writeF_calm {D : DS} {base t : Nat} {held : Nat → ZL} (h : FO D base t held) (hc : D.Calm) {num lsn : Nat} {c : Yi} (hn : num < 64) (ht : t + 1 < M64) : (Xt D base num lsn c).2 = 0 ∧ (Xt D base num lsn c).1.Calm := by
 have hln := h.len
 have hL : base + 4 * num + 4 ≤ D.secs.length := by omega
 obtain ⟨e1, e2⟩ := countsD_calm hc hL
 have hv := countsD_val h.empty h.alive hL e1
 have hs1 := Va (D := D) (base := base) (num := num)
 obtain ⟨m1, m2, _⟩ := csD_most h hn (by omega)
 unfold Xt
 rw [if_neg (by simp [e1]), hv]
 dsimp only
 rw [if_neg (by unfold M64 at ht; omega)]
 obtain ⟨l0, l1, l2⟩ := XI (YH (base + 4 * num + 2 * (csD D base num).other) (ZD num ((csD D base num).most + 1) lsn c 0) (ZD num ((csD D base num).most + 1) lsn c 1)) (Zt D base num).2.1 e2 (fun p hp => by
  rw [hs1]
  simp only [YH, List.mem_cons, List.not_mem_nil, or_false] at hp
  rcases hp with rfl | rfl <;> dsimp only <;> omega)
 exact ⟨l0, l1⟩
theorem FO.format {D : DS} {base : Nat} (hok : D.Ok) (hc : D.Calm) (he : YD D.secs) (hl : base + 256 ≤ D.secs.length) :
  (DS.lays (XR base) D).2 = 0 ∧ (DS.lays (XR base) D).1.Calm ∧ FO (DS.lays (XR base) D).1 base 0 (fun _ => zHeld) := by
 have hidx : ∀ p ∈ XR base, p.1 < D.secs.length := fun p hp => by
  simp only [XR, List.mem_map, List.mem_range] at hp
  obtain ⟨k, hk, rfl⟩ := hp
  dsimp only; omega
 obtain ⟨l0, l1, l2⟩ := XI (XR base) D hc hidx
 have hok1 := hok.lays (l := XR base) noughtsF_64
 have himg : ∀ i, i < 256 → img (DS.lays (XR base) D).1 (base + i) = YQ := fun i hi => by
  rcases img_all he l2 D rfl (i := base + i) (by omega) with ⟨_, hno⟩ | ⟨p, hp, h1, h2⟩
  ·exact absurd rfl (hno (base + i, YQ) (by simp only [XR, List.mem_map, List.mem_range]; exact ⟨i, hi, rfl⟩))
  ·simp only [XR, List.mem_map, List.mem_range] at hp
   obtain ⟨k, hk, rfl⟩ := hp
   exact h2
 have hpg : ∀ num j, num < 64 → j < 4 → pg (DS.lays (XR base) D).1 base num j = YQ := fun num j h1 h2 => by
  unfold pg; rw [Nat.add_assoc]; exact himg _ (by omega)
 refine ⟨l0, l1, hok1, l1.dead, by rw [l2]; exact Yf, by rw [Xa]; exact hl, fun num j h1 h2 => .inl (hpg num j h1 h2), fun num h1 => ?_⟩
 unfold csD
 rw [hpg num 0 h1 (by omega), hpg num 1 h1 (by omega), hpg num 2 h1 (by omega), hpg num 3 h1 (by omega), (cs2_eq num YQ YQ YQ YQ).1]
 have hr : (Yb num YQ YQ).right = false := by
  cases hr : (Yb num YQ YQ).right with
  | false => rfl
  | true =>
   have := (says_right (by rfl) (by rfl) hr).1
   rw [stamp_zblk] at this; omega
 rw [if_neg (by simp [hr]), if_neg (by simp [hr])]
end Go.Proofs.E
namespace Go.Proofs.E
open Go
set_option linter.unusedVariables false
set_option linter.unusedSimpArgs false
set_option linter.unusedSectionVars false
set_option maxRecDepth 4000
set_option maxHeartbeats 1000000
attribute [local irreducible] Yl TL TC TE Spec ZK R1 Hp.le EnvLe TS TR YS Zp TP QP
structure Pg where
 c : Yi
 w : CV
 lsn : Nat
 rc : Nat
abbrev pgV (g : Pg) : List Value := [.int .i64 g.c.kind, .slice g.w.ra g.w.rn g.w.rc, .slice g.w.ka g.w.kn g.w.kc, .int .u64 g.lsn, .int .u64 g.rc]
abbrev Pgs := Int → Option Pg
def updG (pg : Pgs) (n : Int) (g : Pg) : Pgs := fun k => if k = n then some g else pg k
theorem updG_self {pg : Pgs} {n : Int} {g : Pg} (h : pg n = some g) : updG pg n g = pg := by
 funext k
 unfold updG
 split
 ·rename_i e; rw [e, h]
 ·rfl
structure MpIn (ρ : Hp) (es : List MapEntry) (pg : Pgs) : Prop where
 keys : Yq .i64 es
 uk : UKeys es
 get : ∀ n, YC es n = (pg n).map (fun g => .agg ⟨pgV g⟩)
 cin : ∀ n g, pg n = some g → CIn ρ g.w g.c.rows g.c.kids
theorem MpIn.mono {ρ ρ' es pg} (h : MpIn ρ es pg) (hle : ρ.le ρ') : MpIn ρ' es pg := ⟨h.keys, h.uk, h.get, fun n g hg => (h.cin n g hg).mono hle⟩
theorem MpIn.put {ρ es es' pg} (h : MpIn ρ es pg) {n : Int} {g : Pg} (hk : Yq .i64 es') (hu : UKeys es') (hg : ∀ j, YC es' j = if j = n then some (.agg ⟨pgV g⟩) else YC es j) (hc : CIn ρ g.w g.c.rows g.c.kids) : MpIn ρ es' (updG pg n g) :=
 ⟨hk, hu, fun j => by
  rw [hg]; unfold updG
  split
  ·rfl
  ·exact h.get j, fun j g' hj => by
  unfold updG at hj
  split at hj
  ·cases hj; exact hc
  ·exact h.cin j g' hj⟩
abbrev ZZ (mb : Nat) (es : List MapEntry) (ck : Nat) : List (Nat × Obj) := [(mb, .map ⟨es⟩ ck)]
abbrev PoIn (ρ : Hp) (pb fb lb mb : Nat) : Prop := ρ pb = some (.cells ⟨[.pointer (some ⟨fb, 0, none⟩), .pointer (some ⟨lb, 0, none⟩), .map (some mb)]⟩ 222 (0, 0))
theorem there_spec (ρ : Hp) (n : Int) : Spec Tryz.prog 132 [.int .i64 n] ρ [] (fun v ρ' L' => v = .bool (decide (0 ≤ n ∧ n < 64)) ∧ ρ' = ρ ∧ L' = []) := by
 refine Za Tryz.func132 rfl rfl rfl fun u R => ?_
 simp only [Zg, kA]
 by_cases h : 0 ≤ n
 ·repeat' (first | refine zV ?_ | intro _)
  exact qE ⟨by rw [show (decide (0 ≤ n ∧ n < 64)) = decide (n < 64) by simp [h]], rfl, rfl⟩
 ·repeat' (first | refine zV ?_ | intro _)
  exact qE ⟨by rw [show (decide (0 ≤ n ∧ n < 64)) = false by simp [h]], rfl, rfl⟩
def holdD (pg : Pgs) (D : DS) (base num : Nat) : DS := if (pg num).isSome then D else (XV D base num).2
structure HoldG (pg : Pgs) (D : DS) (base num : Nat) (g : Pg) : Prop where
 out : pg num = some g ∨ pg num = none ∧ g.c = (XV D base num).1.1 ∧ g.lsn = (XV D base num).1.2.1 ∧ g.rc = 0
theorem hold_spec (ρ : Hp) (pb fb lb mb db base num : Nat) (hp : PoIn ρ pb fb lb mb) (hf : FIn ρ fb db base) (hb : base ≤ 100000) (hn : num < 64) (k : DK) (D : DS) (hD : DOk k D) (pg : Pgs) (es : List MapEntry) (ck : Nat) (hm : MpIn ρ es pg)
  (hr : pg num = none → (XV D base num).1.2.2 = 0) :
  Spec Tryz.prog 133 [.pointer (some ⟨pb, 0, none⟩), .int .i64 num] ρ (ZZ mb es ck :: Zk db k D)
   (fun v ρ' L' => ρ.le ρ' ∧ ∃ g es' ck', v = .tuple ⟨[.agg ⟨pgV g⟩, .int .i64 0]⟩ ∧ HoldG pg D base num g ∧ MpIn ρ' es' (updG pg num g) ∧ DOk k (holdD pg D base num) ∧ L' = ZZ mb es' ck' :: Zk db k (holdD pg D base num)) := by
 have hk := hm.keys
 have hu := hm.uk
 have hg := hm.get num
 refine Za Tryz.func133 rfl rfl rfl fun u R => ?_
 simp only [Zg, kA]
 cases hpn : pg num with
 | some g =>
  rw [hpn] at hg
  simp only [Option.map_some] at hg
  have hd : holdD pg D base num = D := by unfold holdD; rw [hpn]; rfl
  rw [hd]
  repeat' (first | refine zV ?_ | intro _)
  exact qE (L' := ZZ mb es ck :: Zk db k D) ⟨Hp.le_refl _, g, es, ck, rfl, ⟨.inl hpn⟩, by rw [updG_self hpn]; exact hm, hD, rfl⟩
 | none =>
  rw [hpn] at hg
  simp only [Option.map_none] at hg
  have h0 := hr hpn
  have hd : holdD pg D base num = (XV D base num).2 := by unfold holdD; rw [hpn]; rfl
  rw [hd]
  have hrd := Read_spec ρ fb db base num hf hb hn k D hD
  rw [h0] at hrd
  have hho : ∀ g : Pg, g.c = (XV D base num).1.1 → g.lsn = (XV D base num).1.2.1 → g.rc = 0 → HoldG pg D base num g := fun g h1 h2 h3 => ⟨.inr ⟨hpn, h1, h2, h3⟩⟩
  generalize XV D base num = r at *
  obtain ⟨⟨c, lsn, e⟩, D'⟩ := r
  dsimp only at *
  repeat' (first | (refine Zb (.func 71) ?_; refine qC rfl rfl hrd ?_; rintro v1 ρ1 L1 hle1 ⟨hl1, w, rfl, hC, hk1, rfl⟩; have hp1 := Hp.at' hl1 hp; try simp only [kA, List.append_assoc]) | refine zV ?_ | intro _)
  rename_i b11
  refine tpA [0,1,2,3,4,5] (.e 6 [] .o) ([[(b11, .cells ⟨pgV ⟨c, w, lsn, 0⟩⟩ 232 (0, 0))]]) ?_
  repeat' (refine iT ?_; first | refine rA ?_ | ((refine iE ?_; refine rE ?_) <;> ((try refine Zn ?_); (first | (refine WG rfl rfl rfl hk hu (fun es' ck' h1 h2 h3 => ?_)) | (refine Yj ?_; try intro _)) <;> ((try simp only [kA]); refine Zi ?_; refine rN ?_))))
  all_goals (repeat' (first | refine zV ?_ | intro _))
  all_goals exact qE (L' := ZZ mb es' ck' :: Zk db k D') ⟨hl1, ⟨c, w, lsn, 0⟩, es', ck', rfl, hho _ rfl rfl rfl, (hm.mono hl1).put h1 h2 h3 hC, hk1, rfl⟩
theorem flat_oneP {α : Type} {g : α → List Value} (hg : ∀ x, (g x).all (·.oneCell') = true) (l : List α) : ((l.map g).flatten).all (·.oneCell') = true := by
 induction l with
 | nil => rfl
 | cons a r ih => simp only [List.map_cons, List.flatten_cons, List.all_append, Bool.and_eq_true]; exact ⟨hg a, ih⟩
theorem AIn.none_nil {ρ : Hp} {α : Type} {sz n : Nat} {g : α → List Value} {l : List α} (h : AIn ρ sz g none n l) : l = [] := by
 by_cases h0 : 0 < l.length
 ·obtain ⟨b, off, C, T, fr, h, _⟩ := h.get h0
  cases h
 ·exact List.eq_nil_of_length_eq_zero (by omega)
theorem cloneRows_spec (ρ : Hp) (a : Option Addr) (n c : Nat) (l : List Row) (h : AIn ρ 4 Yu a n l) (hn : n ≤ 1000000) (hc : n ≤ c) : Spec Tryz.prog 206 [.slice a n c] ρ []
  (fun v ρ' L' => ρ.le ρ' ∧ ∃ a' c', v = .slice a' n c' ∧ n ≤ c' ∧ AIn ρ' 4 Yu a' n l ∧ L' = []) := by
 have hl := h.len
 cases a with
 | none =>
  obtain rfl := h.none_nil
  obtain rfl : n = 0 := by simpa using hl.symm
  refine Za Tryz.func206 rfl rfl rfl fun u R => ?_
  simp only [Zg, kA]
  repeat' (first | refine zV ?_ | intro _)
  exact qE ⟨Hp.le_refl _, none, 0, rfl, Nat.le_refl _, h, rfl⟩
 | some ad =>
  refine Za Tryz.func206 rfl rfl rfl fun u R => ?_
  simp only [Zg, kA]
  repeat' (first | refine zV ?_ | intro _)
  refine Yv (n := 0) (xs := []) (sp := []) (ys := ((l.map Yu).flatten)) (sz := 4) rfl rfl (OwnS.zero _ 4) (hR := Zz) h.srcV (by rw [Xe Yu 4 l (fun _ _ => rfl)]; omega) (flat_oneP (fun _ => rfl) l) (by decide) rfl (by omega) (by omega) rfl (fun v' sp' hown' => ?_)
  simp only [Nat.zero_add, List.nil_append] at hown' ⊢
  refine ZA (ZG v' ((l.map Yu).flatten) sp' 171) (h := Rem.here) (fun ρ2 hl2 hf2 => ?_)
  obtain ⟨a2, c2, rfl, hc2, hA2⟩ := hown'.aIn hl (fun _ _ => rfl) hf2
  repeat' (first | refine zV ?_ | intro _)
  exact qE ⟨hl2, a2, c2, rfl, hc2, hA2, rfl⟩
theorem cloneKids_spec (ρ : Hp) (a : Option Addr) (n c : Nat) (l : List Kid) (h : AIn ρ 3 Xj a n l) (hn : n ≤ 1000000) (hc : n ≤ c) : Spec Tryz.prog 207 [.slice a n c] ρ []
  (fun v ρ' L' => ρ.le ρ' ∧ ∃ a' c', v = .slice a' n c' ∧ n ≤ c' ∧ AIn ρ' 3 Xj a' n l ∧ L' = []) := by
 have hl := h.len
 cases a with
 | none =>
  obtain rfl := h.none_nil
  obtain rfl : n = 0 := by simpa using hl.symm
  refine Za Tryz.func207 rfl rfl rfl fun u R => ?_
  simp only [Zg, kA]
  repeat' (first | refine zV ?_ | intro _)
  exact qE ⟨Hp.le_refl _, none, 0, rfl, Nat.le_refl _, h, rfl⟩
 | some ad =>
  refine Za Tryz.func207 rfl rfl rfl fun u R => ?_
  simp only [Zg, kA]
  repeat' (first | refine zV ?_ | intro _)
  refine Yv (n := 0) (xs := []) (sp := []) (ys := ((l.map Xj).flatten)) (sz := 3) rfl rfl (OwnS.zero _ 3) (hR := Zz) h.srcV (by rw [Xe Xj 3 l (fun _ _ => rfl)]; omega) (flat_oneP (fun _ => rfl) l) (by decide) rfl (by omega) (by omega) rfl (fun v' sp' hown' => ?_)
  simp only [Nat.zero_add, List.nil_append] at hown' ⊢
  refine ZA (ZG v' ((l.map Xj).flatten) sp' 238) (h := Rem.here) (fun ρ2 hl2 hf2 => ?_)
  obtain ⟨a2, c2, rfl, hc2, hA2⟩ := hown'.aIn hl (fun _ _ => rfl) hf2
  repeat' (first | refine zV ?_ | intro _)
  exact qE ⟨hl2, a2, c2, rfl, hc2, hA2, rfl⟩
theorem copied_spec (ρ : Hp) (kd : Int) (w : CV) (rows : List Row) (kids : List Kid) (h : CIn ρ w rows kids) : Spec Tryz.prog 134 [.agg ⟨Xo kd w⟩] ρ []
  (fun v ρ' L' => ρ.le ρ' ∧ ∃ w', v = .agg ⟨Xo kd w'⟩ ∧ CIn ρ' w' rows kids ∧ L' = []) := by
 have hr := fun {ρ' : Hp} (hl : ρ.le ρ') => cloneRows_spec ρ' w.ra w.rn w.rc rows (h.r.mono hl) h.rb h.rc
 have hk := fun {ρ' : Hp} (hl : ρ.le ρ') => cloneKids_spec ρ' w.ka w.kn w.kc kids (h.k.mono hl) h.kb h.kc
 have hfin : ∀ {ρ1 ρ2 ρ' : Hp} {a1 : Option Addr} {c1 : Nat} {a2 : Option Addr} {c2 : Nat}, AIn ρ1 4 Yu a1 w.rn rows → ρ1.le ρ' → w.rn ≤ c1 → AIn ρ2 3 Xj a2 w.kn kids → ρ2.le ρ' → w.kn ≤ c2 → CIn ρ' ⟨a1, w.rn, c1, a2, w.kn, c2⟩ rows kids := fun h1 l1 h2 h3 l2 h4 => ⟨h1.mono l1, h3.mono l2, h.rb, h.kb, h2, h4⟩
 obtain ⟨ra, rn, rc, ka, kn, kc⟩ := w
 dsimp only at hr hk hfin
 refine Za Tryz.func134 rfl rfl rfl fun u R => ?_
 simp only [Zg, kA]
 repeat' (first | refine zV ?_ | intro _)
 rename_i b1 b2
 refine tpA [0,3] (.b 1 4 [] [] (.b 2 4 [] [] (.e 4 [6] (.e 5 [] (.e 7 [8] (.e 9 [] .o)))) (.e 2 [6] (.e 5 [] (.e 7 [8] (.e 9 [] .o))))) (.e 1 [] (.e 2 [6] (.e 5 [] (.e 7 [8] (.e 9 [] .o)))))) ([]) ?_
 repeat' (refine iT ?_; first | refine rA ?_ | ((first | (refine iE ?_; refine rE ?_) | (refine iB ?_; refine rB ?_ ?_)) <;> ((try refine Zn ?_); (first | (refine Zb (.func 206) ?_; refine qC rfl rfl (hr (by assumption)) ?_; rintro v1 ρ1 L1 hle1 ⟨hl1, a1, c1, rfl, hc1, hA1, rfl⟩; simp only [kA]) | (refine Zb (.func 206) ?_; refine qC rfl rfl (hr (Hp.le_refl _)) ?_; rintro v1 ρ1 L1 hle1 ⟨hl1, a1, c1, rfl, hc1, hA1, rfl⟩; simp only [kA]) | (refine Zb (.func 207) ?_; refine qC rfl rfl (hk (by assumption)) ?_; rintro v2 ρ2 L2 hle2 ⟨hl2, a2, c2, rfl, hc2, hA2, rfl⟩; simp only [kA]) | (refine Zb (.func 207) ?_; refine qC rfl rfl (hk (Hp.le_refl _)) ?_; rintro v2 ρ2 L2 hle2 ⟨hl2, a2, c2, rfl, hc2, hA2, rfl⟩; simp only [kA]) | (refine i_qq ?_; refine qQ ?_) | (refine Yj ?_; try intro _)) <;> ((try simp only [kA]); refine Zi ?_; refine rN ?_))))
 all_goals (repeat' (first | refine zV ?_ | intro _))
 all_goals exact qE (L' := []) ⟨by first | exact Hp.le_trans hl1 hl2 | exact Hp.le_trans hl2 hl1, _, rfl, hfin hA1 (by first | assumption | exact Hp.le_refl _) hc1 hA2 (by first | assumption | exact Hp.le_refl _) hc2, rfl⟩
theorem new17_spec (ρ : Hp) (fb lb : Nat) : Spec Tryz.prog 39 [.pointer (some ⟨fb, 0, none⟩), .pointer (some ⟨lb, 0, none⟩)] ρ []
  (fun v ρ' L' => ρ.le ρ' ∧ ∃ pb mb, v = .tuple ⟨[.pointer (some ⟨pb, 0, none⟩), .int .i64 0]⟩ ∧ PoIn ρ' pb fb lb mb ∧ L' = [ZZ mb [] 0]) := by
 refine Za Tryz.func39 rfl rfl rfl fun u R => ?_
 simp only [Zg, kA]
 repeat' (first | refine zV ?_ | intro _)
 rename_i mb pb
 refine YG [(pb, .cells ⟨[.pointer (some ⟨fb, 0, none⟩), .pointer (some ⟨lb, 0, none⟩), .map (some mb)]⟩ 222 (0, 0))] (h := Rem.here) (fun ρ1 hl1 hf1 => ?_)
 have hp := hf1 _ (List.mem_singleton.2 rfl)
 exact qE (L' := [ZZ mb [] 0]) ⟨hl1, pb, mb, rfl, hp, rfl⟩
theorem page17_spec (ρ : Hp) (pb fb lb mb db base num : Nat) (hp : PoIn ρ pb fb lb mb) (hf : FIn ρ fb db base) (hb : base ≤ 100000) (hn : num < 64) (k : DK) (D : DS) (hD : DOk k D) (pg : Pgs) (es : List MapEntry) (ck : Nat) (hm : MpIn ρ es pg)
  (hr : pg num = none → (XV D base num).1.2.2 = 0) :
  Spec Tryz.prog 59 [.pointer (some ⟨pb, 0, none⟩), .int .i64 num] ρ (ZZ mb es ck :: Zk db k D)
   (fun v ρ' L' => ρ.le ρ' ∧ ∃ g es' ck' w, v = .tuple ⟨[.agg ⟨Xo g.c.kind w⟩, .int .u64 (g.lsn : Nat), .int .i64 0]⟩ ∧ CIn ρ' w g.c.rows g.c.kids ∧ HoldG pg D base num g ∧ MpIn ρ' es' (updG pg num g) ∧ DOk k (holdD pg D base num) ∧ L' = ZZ mb es' ck' :: Zk db k (holdD pg D base num)) := by
 have ht := fun ρ => there_spec ρ num
 simp only [decide_eq_true (show (0 : Int) ≤ num ∧ (num : Int) < 64 by omega)] at ht
 have hh := hold_spec ρ pb fb lb mb db base num hp hf hb hn k D hD pg es ck hm hr
 have hcp := fun {ρ' : Hp} {g : Pg} {es' : List MapEntry} (h : MpIn ρ' es' (updG pg num g)) => copied_spec ρ' g.c.kind g.w g.c.rows g.c.kids (h.cin num g (by unfold updG; rw [if_pos rfl]))
 refine Za Tryz.func59 rfl rfl rfl fun u R => ?_
 simp only [Zg, kA]
 repeat' (first | (refine Zb (.func 132) ?_; refine qC rfl rfl (ht _) ?_; rintro v ρ' L' hle ⟨rfl, rfl, rfl⟩ <;> (try simp only [kA])) | (refine Zb (.func 133) ?_; refine qC rfl rfl hh ?_; rintro v1 ρ1 L1 hle1 ⟨hl1, g, es', ck', rfl, hg, hm1, hk1, rfl⟩; try simp only [kA, List.append_assoc]) | refine zV ?_ | intro _)
 rename_i b7
 refine tpA [0,1,3,4,5] (.e 2 [] (.e 6 [] (.f [7,8] .o))) ([[(b7, .cells ⟨pgV g⟩ 232 (0, 0))]]) ?_
 repeat' (refine iT ?_; first | refine rA ?_ | ((refine iE ?_; refine rE ?_) <;> ((try refine Zn ?_); (first | (refine Zb (.func 134) ?_; refine qC rfl rfl (hcp hm1) ?_; rintro v2 ρ2 L2 hle2 ⟨hl2, w2, rfl, hC2, rfl⟩; simp only [kA]) | (refine Yj ?_; try intro _)) <;> ((try simp only [kA]); refine Zi ?_; refine rN ?_))))
 all_goals (repeat' (first | refine zV ?_ | intro _))
 all_goals exact qE (L' := ZZ mb es' ck' :: Zk db k (holdD pg D base num)) ⟨Hp.le_trans hl1 hl2, g, es', ck', w2, rfl, hC2, hg, hm1.mono hl2, hk1, rfl⟩
theorem own_arg (ρ : Hp) (pb : Nat) (n : Int) (f : Value) (hn : ¬ (0 ≤ n ∧ n < 64)) : Spec Tryz.prog 143 [.pointer (some ⟨pb, 0, none⟩), .int .i64 n, f] ρ [] (fun v ρ' L' => v = .int .i64 2 ∧ ρ' = ρ ∧ L' = []) := by
 have ht := there_spec ρ n
 rw [decide_eq_false hn] at ht
 refine Za Tryz.func143 rfl rfl rfl fun u R => ?_
 simp only [Zg, kA]
 repeat' (first | (refine Zb (.func 132) ?_; refine qR rfl rfl (ht) ?_; try simp only [kA]) | refine zV ?_ | intro _)
 exact qE ⟨rfl, rfl, rfl⟩
theorem own_none (ρ : Hp) (pb fb lb mb : Nat) (hp : PoIn ρ pb fb lb mb) (n : Int) (f : Value) (hn : 0 ≤ n ∧ n < 64) (pg : Pgs) (es : List MapEntry) (ck : Nat) (hm : MpIn ρ es pg) (hno : pg n = none) :
  Spec Tryz.prog 143 [.pointer (some ⟨pb, 0, none⟩), .int .i64 n, f] ρ [ZZ mb es ck] (fun v ρ' L' => v = .int .i64 4 ∧ ρ' = ρ ∧ L' = [ZZ mb es ck]) := by
 have ht := there_spec ρ n
 rw [decide_eq_true hn] at ht
 have hk := hm.keys
 have hg := hm.get n
 rw [hno] at hg
 simp only [Option.map_none] at hg
 refine Za Tryz.func143 rfl rfl rfl fun u R => ?_
 simp only [Zg, kA]
 repeat' (first | (refine Zb (.func 132) ?_; refine qR rfl rfl (ht) ?_; try simp only [kA]) | refine zV ?_ | intro _)
 exact qE (L' := [ZZ mb es ck]) ⟨rfl, rfl, rfl⟩
theorem own_some (ρ : Hp) (pb fb lb mb : Nat) (hp : PoIn ρ pb fb lb mb) (n : Int) (hn : 0 ≤ n ∧ n < 64) (pg : Pgs) (es : List MapEntry) (ck : Nat) (hm : MpIn ρ es pg) (g : Pg) (hs : pg n = some g) (fn : Nat) [hF : ZJ Tryz.prog fn] (cs : List Value) (X : SH) (Post : Value → Hp → SH → Prop)
  (hS : Spec Tryz.prog fn ([.agg ⟨pgV g⟩] ++ cs) ρ (ZZ mb es ck :: X) (fun v ρ' L' => (∃ e, v = .int .i64 e) ∧ Post v ρ' L')) :
  Spec Tryz.prog 143 [.pointer (some ⟨pb, 0, none⟩), .int .i64 n, .func (.func fn) ⟨[]⟩ ⟨cs⟩] ρ (ZZ mb es ck :: X) Post := by
 have ht := there_spec ρ n
 rw [decide_eq_true hn] at ht
 have hk := hm.keys
 have hg := hm.get n
 rw [hs] at hg
 simp only [Option.map_some] at hg
 refine Za Tryz.func143 rfl rfl rfl fun u R => ?_
 simp only [Zg, kA]
 repeat' (first | (refine Zb (.func 132) ?_; refine qR rfl rfl (ht) ?_; try simp only [kA]) | (refine Zb (.tmp 27) ?_; refine qC rfl rfl hS ?_; rintro v1 ρ1 L1 hle1 ⟨⟨e, rfl⟩, hP⟩; try simp only [kA, List.append_assoc]) | refine zV ?_ | intro _)
 exact qE (L' := L1) hP
abbrev bpC (b pb : Nat) : List (Nat × Obj) := [(b, .cells ⟨[.pointer (some ⟨pb, 0, none⟩)]⟩ 79 (0, 0))]
abbrev bnC (b : Nat) (n : Int) : List (Nat × Obj) := [(b, .cells ⟨[.int .i64 n]⟩ 3 (0, 0))]
structure PgOk (g : Pg) : Prop where
 ok : ZB g.c = true
 fit : IdFit g.c
 lsn : g.lsn < 18446744073709551616
def stealF (S : LgS) (D : DS) (g : Pg) : LgS × DS × Int := if S.fl < g.lsn then S.flush g.lsn D else (S, D, 0)
def XS (S : LgS) (D : DS) (base num : Nat) (g : Pg) : LgS × DS × Int :=
 if (stealF S D g).2.2 ≠ 0 then stealF S D g else ((stealF S D g).1, Xt (stealF S D g).2.1 base num g.lsn g.c)
theorem steal1_spec (ρ : Hp) (b2 b3 pb fb lb mb rb db base num : Nat) (hp : PoIn ρ pb fb lb mb) (hf : FIn ρ fb db base) (hb : base ≤ 100000) (hn : num < 64) (pg : Pgs) (es : List MapEntry) (ck : Nat) (hm : MpIn ρ es pg) (g : Pg) (hs : pg num = some g) (hg : PgOk g) (h0 : g.rc ≠ 0)
  (S : LgS) (v : Value) (sp : List Value) (h : LgIn ρ S v sp) (w : RW) (hR : RIn ρ S.R w) (k : DK) (D : DS) (hD : DOk k D) (hfl : S.fl < 1000000000000000) :
  Spec Tryz.prog 144 [.agg ⟨pgV g⟩, .pointer (some ⟨b2, 0, none⟩), .pointer (some ⟨b3, 0, none⟩)] ρ (ZZ mb es ck :: bpC b2 pb :: bnC b3 num :: ZR lb rb S v :: Ya S v sp :: (Yw rb db S.R w ++ Zk db k D))
   (fun z ρ' L' => (∃ e, z = .int .i64 e) ∧ z = .int .i64 (XS S D base num g).2.2 ∧ ρ.le ρ' ∧ ∃ es' ck' w' k', MpIn ρ' es' (if (XS S D base num g).2.2 = 0 then updG pg num { g with rc := 0 } else pg) ∧ RIn ρ' (XS S D base num g).1.R w' ∧ DOk k' (XS S D base num g).2.1 ∧
    L' = ZZ mb es' ck' :: bpC b2 pb :: bnC b3 num :: ZR lb rb (XS S D base num g).1 v :: Ya S v sp :: (Yw rb db (XS S D base num g).1.R w' ++ Zk db k' (XS S D base num g).2.1)) := by
 have hk := hm.keys
 have hu := hm.uk
 have hcin := hm.cin num g hs
 have hfs := fun ρ => flushed16_spec ρ lb rb S v
 have hflu := flush16_spec ρ lb rb db S v sp h w hR k D hD g.lsn hfl
 have hwr := fun {ρ' : Hp} (hle : ρ.le ρ') (k : DK) (D : DS) (hD : DOk k D) => Write_spec ρ' fb db base num g.lsn (hf.mono hle) hb hn hg.lsn g.c g.w (hcin.mono hle) hg.ok (fun r hr => (hg.fit.row r hr).id) hg.fit.kid k D hD
 have hput := fun {ρ' : Hp} (hle : ρ.le ρ') {es' : List MapEntry} h1 h2 h3 => (hm.mono hle).put (n := num) (g := { g with rc := 0 }) (es' := es') h1 h2 h3 (hcin.mono hle)
 have hst : XS S D base num g = if (stealF S D g).2.2 ≠ 0 then stealF S D g else ((stealF S D g).1, Xt (stealF S D g).2.1 base num g.lsn g.c) := rfl
 have hstf : stealF S D g = if S.fl < g.lsn then S.flush g.lsn D else (S, D, 0) := rfl
 have hrc : ¬ ((g.rc : Nat) : Int) = 0 := by omega
 obtain ⟨gc, gw, glsn, grc⟩ := g
 dsimp only at *
 by_cases hlt : S.fl < glsn
 ·rw [if_pos hlt] at hstf
  rw [hstf] at hst
  generalize S.flush glsn D = q at *
  obtain ⟨S1, D1, e1⟩ := q
  dsimp only at *
  refine Za Tryz.func144 rfl rfl rfl fun u R => ?_
  simp only [Zg, kA]
  repeat' (first | refine zV ?_ | intro _)
  rename_i b1
  refine tpA [0,1,2,3,5,6] (.e 4 [] (.f [7] .o)) ([bpC b2 pb, [(b1, .cells ⟨pgV ⟨gc, gw, glsn, grc⟩⟩ 232 (0, 0))]]) ?_
  repeat' (refine iT ?_; first | refine rA ?_ | ((refine iE ?_; refine rE ?_) <;> ((try refine Zn ?_); (first | (refine Zb (.func 31) ?_; refine qC rfl rfl (hfs _) ?_; rintro v ρ' L' hle ⟨rfl, rfl, rfl⟩ <;> (try simp only [kA])) | (refine Yj ?_; try intro _)) <;> ((try simp only [kA]); refine Zi ?_; refine rN ?_))))
  all_goals (repeat' (first | refine zV ?_ | intro _))
  all_goals refine tpA [0,1,2,3,4,5] (.e 6 [] (.f [7] .o)) ([bpC b2 pb, [(b1, .cells ⟨pgV ⟨gc, gw, glsn, grc⟩⟩ 232 (0, 0))]]) ?_
  all_goals (repeat' (refine iT ?_; first | refine rA ?_ | ((refine iE ?_; refine rE ?_) <;> ((try refine Zn ?_); (first | (refine Zb (.func 29) ?_; refine qC rfl rfl hflu ?_; rintro v1 ρ1 L1 hle1 ⟨rfl, hl1, w1, k1, hR1, hD1, rfl⟩; try simp only [kA, List.append_assoc]) | (refine Yj ?_; try intro _)) <;> ((try simp only [kA]); refine Zi ?_; refine rN ?_)))))
  all_goals (repeat' (first | refine zV ?_ | intro _))
  all_goals
   by_cases hz : e1 = 0
   ·subst hz
    rw [if_neg (by simp)] at hst
    have hp1 := Hp.at' hl1 hp
    have hw1 := hwr hl1 k1 D1 hD1
    generalize Xt D1 base num glsn gc = q at *
    obtain ⟨D2, e2⟩ := q
    rw [hst]
    dsimp only at hw1 ⊢
    rw [show ((0 : Int) != 0) = false from rfl]
    repeat' (first | refine zV ?_ | intro _)
    refine tpA [0,1,2,3,4,5,6,7,8] (.e 9 [] (.f [10] .o)) ([bpC b2 pb, bnC b3 num, [(b1, .cells ⟨pgV ⟨gc, gw, glsn, grc⟩⟩ 232 (0, 0))]]) ?_
    repeat' (refine iT ?_; first | refine rA ?_ | ((refine iE ?_; refine rE ?_) <;> ((try refine Zn ?_); (first | (refine Zb (.func 119) ?_; refine qC rfl rfl hw1 ?_; rintro v2 ρ2 L2 hle2 ⟨rfl, hl2, k2, hD2, rfl⟩; have hp2 := Hp.at' hl2 hp1; try simp only [kA, List.append_assoc]) | (refine Yj ?_; try intro _)) <;> ((try simp only [kA]); refine Zi ?_; refine rN ?_))))
    all_goals (repeat' (first | refine zV ?_ | intro _))
    all_goals
     have hl12 := Hp.le_trans hl1 hl2
     by_cases hz : e2 = 0
     ·subst hz
      rw [show ((0 : Int) != 0) = false from rfl]
      repeat' (first | refine zV ?_ | intro _)
      refine tpA [0,1,2,3,4,5] (.e 6 [] .o) ([bpC b2 pb, bnC b3 num, [(b1, .cells ⟨pgV ⟨gc, gw, glsn, 0⟩⟩ 232 (0, 0))]]) ?_
      repeat' (refine iT ?_; first | refine rA ?_ | ((refine iE ?_; refine rE ?_) <;> ((try refine Zn ?_); (first | (refine WG rfl rfl rfl hk hu (fun es' ck' h1 h2 h3 => ?_)) | (refine Yj ?_; try intro _)) <;> ((try simp only [kA]); refine Zi ?_; refine rN ?_))))
      all_goals (repeat' (first | refine zV ?_ | intro _))
      all_goals exact qE (L' := ZZ mb es' ck' :: bpC b2 pb :: bnC b3 num :: ZR lb rb S1 v :: Ya S v sp :: (Yw rb db S1.R w1 ++ Zk db k2 D2)) ⟨⟨_, rfl⟩, rfl, hl12, es', ck', w1, k2, by simp only [if_true]; exact hput hl12 h1 h2 h3, hR1.mono hl2, hD2, rfl⟩
     ·have hcb : (e2 != 0) = true := by simpa using hz
      rw [hcb]
      repeat' (first | refine zV ?_ | intro _)
      exact qE (L' := ZZ mb es ck :: bpC b2 pb :: bnC b3 num :: ZR lb rb S1 v :: Ya S v sp :: (Yw rb db S1.R w1 ++ Zk db k2 D2)) ⟨⟨_, rfl⟩, rfl, hl12, es, ck, w1, k2, by rw [if_neg hz]; exact hm.mono hl12, hR1.mono hl2, hD2, rfl⟩
   ·have hcb : (e1 != 0) = true := by simpa using hz
    rw [if_pos hz] at hst
    rw [hst, hcb]
    dsimp only
    repeat' (first | refine zV ?_ | intro _)
    exact qE (L' := ZZ mb es ck :: bpC b2 pb :: bnC b3 num :: ZR lb rb S1 v :: Ya S v sp :: (Yw rb db S1.R w1 ++ Zk db k1 D1)) ⟨⟨_, rfl⟩, rfl, hl1, es, ck, w1, k1, by rw [if_neg hz]; exact hm.mono hl1, hR1, hD1, rfl⟩
 ·rw [if_neg hlt] at hstf
  rw [hstf] at hst
  rw [if_neg (by simp)] at hst
  have hw1 := hwr (Hp.le_refl _) k D hD
  dsimp only at hst
  generalize Xt D base num glsn gc = q at *
  obtain ⟨D2, e2⟩ := q
  rw [hst]
  dsimp only at hw1 ⊢
  refine Za Tryz.func144 rfl rfl rfl fun u R => ?_
  simp only [Zg, kA]
  repeat' (first | refine zV ?_ | intro _)
  rename_i b1
  refine tpA [0,1,2,3,5,6] (.e 4 [] (.f [7] .o)) ([bpC b2 pb, [(b1, .cells ⟨pgV ⟨gc, gw, glsn, grc⟩⟩ 232 (0, 0))]]) ?_
  repeat' (refine iT ?_; first | refine rA ?_ | ((refine iE ?_; refine rE ?_) <;> ((try refine Zn ?_); (first | (refine Zb (.func 31) ?_; refine qC rfl rfl (hfs _) ?_; rintro v ρ' L' hle ⟨rfl, rfl, rfl⟩ <;> (try simp only [kA])) | (refine Yj ?_; try intro _)) <;> ((try simp only [kA]); refine Zi ?_; refine rN ?_))))
  all_goals (repeat' (first | refine zV ?_ | intro _))
  all_goals refine tpA [0,1,2,3,4,5,6,7,8] (.e 9 [] (.f [10] .o)) ([bpC b2 pb, bnC b3 num, [(b1, .cells ⟨pgV ⟨gc, gw, glsn, grc⟩⟩ 232 (0, 0))]]) ?_
  all_goals (repeat' (refine iT ?_; first | refine rA ?_ | ((refine iE ?_; refine rE ?_) <;> ((try refine Zn ?_); (first | (refine Zb (.func 119) ?_; refine qC rfl rfl hw1 ?_; rintro v2 ρ2 L2 hle2 ⟨rfl, hl2, k2, hD2, rfl⟩; have hp2 := Hp.at' hl2 hp; try simp only [kA, List.append_assoc]) | (refine Yj ?_; try intro _)) <;> ((try simp only [kA]); refine Zi ?_; refine rN ?_)))))
  all_goals (repeat' (first | refine zV ?_ | intro _))
  all_goals
   by_cases hz : e2 = 0
   ·subst hz
    rw [show ((0 : Int) != 0) = false from rfl]
    repeat' (first | refine zV ?_ | intro _)
    refine tpA [0,1,2,3,4,5] (.e 6 [] .o) ([bpC b2 pb, bnC b3 num, [(b1, .cells ⟨pgV ⟨gc, gw, glsn, 0⟩⟩ 232 (0, 0))]]) ?_
    repeat' (refine iT ?_; first | refine rA ?_ | ((refine iE ?_; refine rE ?_) <;> ((try refine Zn ?_); (first | (refine WG rfl rfl rfl hk hu (fun es' ck' h1 h2 h3 => ?_)) | (refine Yj ?_; try intro _)) <;> ((try simp only [kA]); refine Zi ?_; refine rN ?_))))
    all_goals (repeat' (first | refine zV ?_ | intro _))
    all_goals exact qE (L' := ZZ mb es' ck' :: bpC b2 pb :: bnC b3 num :: ZR lb rb S v :: Ya S v sp :: (Yw rb db S.R w ++ Zk db k2 D2)) ⟨⟨_, rfl⟩, rfl, hl2, es', ck', w, k2, by simp only [if_true]; exact hput hl2 h1 h2 h3, hR.mono hl2, hD2, rfl⟩
   ·have hcb : (e2 != 0) = true := by simpa using hz
    rw [hcb]
    repeat' (first | refine zV ?_ | intro _)
    exact qE (L' := ZZ mb es ck :: bpC b2 pb :: bnC b3 num :: ZR lb rb S v :: Ya S v sp :: (Yw rb db S.R w ++ Zk db k2 D2)) ⟨⟨_, rfl⟩, rfl, hl2, es, ck, w, k2, by rw [if_neg hz]; exact hm.mono hl2, hR.mono hl2, hD2, rfl⟩
end Go.Proofs.E
namespace Go.Proofs.E
open Go
set_option linter.unusedVariables false
set_option linter.unusedSimpArgs false
set_option linter.unusedSectionVars false
set_option maxRecDepth 4000
set_option maxHeartbeats 1000000
attribute [local irreducible] Yl TL TC TE Spec ZK R1 Hp.le EnvLe TS TR YS Zp
def stealE (pg : Pgs) (n : Int) : Int := if 0 ≤ n ∧ n < 64 then (match pg n with | none => 4 | some _ => 0) else 2
theorem steal17_not (ρ : Hp) (pb fb lb mb : Nat) (hp : PoIn ρ pb fb lb mb) (n : Int) (pg : Pgs) (es : List MapEntry) (ck : Nat) (hm : MpIn ρ es pg) (hno : ∀ g, pg n = some g → 0 ≤ n ∧ n < 64 → g.rc = 0) :
  Spec Tryz.prog 63 [.pointer (some ⟨pb, 0, none⟩), .int .i64 n] ρ [ZZ mb es ck] (fun v ρ' L' => v = .int .i64 (stealE pg n) ∧ ρ' = ρ ∧ L' = [ZZ mb es ck]) := by
 refine Za Tryz.func63 rfl rfl rfl fun u R => ?_
 simp only [Zg, kA]
 by_cases hn : 0 ≤ n ∧ n < 64
 ·cases hs : pg n with
  | none =>
   have e : stealE pg n = 4 := by unfold stealE; rw [if_pos hn, hs]
   rw [e]
   repeat' (first | (refine Zb (.func 143) ?_; refine qC rfl rfl (own_none ρ pb fb lb mb hp n _ hn pg es ck hm hs) ?_; rintro v ρ' L' hle ⟨rfl, rfl, rfl⟩ <;> (try simp only [kA])) | refine zV ?_ | intro _)
   exact qE (L' := [ZZ mb es ck]) ⟨rfl, rfl, rfl⟩
  | some g =>
   have e : stealE pg n = 0 := by unfold stealE; rw [if_pos hn, hs]
   rw [e]
   have h0 : ((g.rc : Nat) : Int) = 0 := by have := hno g hs hn; omega
   have h1 : ∀ b2 b3, Spec Tryz.prog 144 ([.agg ⟨pgV g⟩] ++ [.pointer (some ⟨b2, 0, none⟩), .pointer (some ⟨b3, 0, none⟩)]) ρ (ZZ mb es ck :: [bpC b2 pb, bnC b3 n]) (fun v ρ' L' => (∃ e, v = .int .i64 e) ∧ v = .int .i64 0 ∧ ρ' = ρ ∧ L' = [ZZ mb es ck, bpC b2 pb, bnC b3 n]) := fun b2 b3 => by
    refine Za Tryz.func144 rfl rfl rfl fun u R => ?_
    simp only [Zg, kA]
    repeat' (first | refine zV ?_ | intro _)
    exact qE (L' := [ZZ mb es ck, bpC b2 pb, bnC b3 n]) ⟨⟨_, rfl⟩, rfl, rfl, rfl⟩
   have hev := fun b2 b3 => own_some ρ pb fb lb mb hp n hn pg es ck hm g hs 144 _ _ _ (h1 b2 b3)
   repeat' (first | (refine Zb (.func 143) ?_; refine qC rfl rfl (hev _ _) ?_; rintro v1 ρ1 L1 hle1 ⟨rfl, rfl, rfl⟩; try simp only [kA, List.append_assoc]) | refine zV ?_ | intro _)
   exact qE (L' := [ZZ mb es ck]) ⟨rfl, rfl, rfl⟩
 ·have e : stealE pg n = 2 := by unfold stealE; rw [if_neg hn]
  rw [e]
  repeat' (first | (refine Zb (.func 143) ?_; refine qC rfl rfl (own_arg _ _ _ _ hn) ?_; rintro v ρ' L' hle ⟨rfl, rfl, rfl⟩ <;> (try simp only [kA])) | refine zV ?_ | intro _)
  exact qE (L' := [ZZ mb es ck]) ⟨rfl, rfl, rfl⟩
theorem steal17_spec (ρ : Hp) (pb fb lb mb rb db base num : Nat) (hp : PoIn ρ pb fb lb mb) (hf : FIn ρ fb db base) (hb : base ≤ 100000) (hn : num < 64) (pg : Pgs) (es : List MapEntry) (ck : Nat) (hm : MpIn ρ es pg) (g : Pg) (hs : pg num = some g) (hg : PgOk g) (h0 : g.rc ≠ 0)
  (S : LgS) (v : Value) (sp : List Value) (h : LgIn ρ S v sp) (w : RW) (hR : RIn ρ S.R w) (k : DK) (D : DS) (hD : DOk k D) (hfl : S.fl < 1000000000000000) :
  Spec Tryz.prog 63 [.pointer (some ⟨pb, 0, none⟩), .int .i64 num] ρ (ZZ mb es ck :: ZR lb rb S v :: Ya S v sp :: (Yw rb db S.R w ++ Zk db k D))
   (fun z ρ' L' => z = .int .i64 (XS S D base num g).2.2 ∧ ρ.le ρ' ∧ ∃ es' ck' w' k', MpIn ρ' es' (if (XS S D base num g).2.2 = 0 then updG pg num { g with rc := 0 } else pg) ∧ RIn ρ' (XS S D base num g).1.R w' ∧ DOk k' (XS S D base num g).2.1 ∧
    L' = ZZ mb es' ck' :: ZR lb rb (XS S D base num g).1 v :: Ya S v sp :: (Yw rb db (XS S D base num g).1.R w' ++ Zk db k' (XS S D base num g).2.1)) := by
 have h1 := fun b2 b3 => steal1_spec ρ b2 b3 pb fb lb mb rb db base num hp hf hb hn pg es ck hm g hs hg h0 S v sp h w hR k D hD hfl
 have hev := fun b2 b3 => own_some ρ pb fb lb mb hp num ⟨by omega, by omega⟩ pg es ck hm g hs 144 [.pointer (some ⟨b2, 0, none⟩), .pointer (some ⟨b3, 0, none⟩)] _ _ (h1 b2 b3)
 generalize XS S D base num g = q at *
 obtain ⟨S1, D1, e1⟩ := q
 dsimp only at *
 refine Za Tryz.func63 rfl rfl rfl fun u R => ?_
 simp only [Zg, kA]
 repeat' (first | (refine Zb (.func 143) ?_; refine qC rfl rfl (hev _ _) ?_; rintro v1 ρ1 L1 hle1 ⟨rfl, hl1, es', ck', w1, k1, hm1, hR1, hD1, rfl⟩; try simp only [kA, List.append_assoc]) | refine zV ?_ | intro _)
 exact qE (L' := ZZ mb es' ck' :: ZR lb rb S1 v :: Ya S v sp :: (Yw rb db S1.R w1 ++ Zk db k1 D1)) ⟨rfl, hl1, es', ck', w1, k1, hm1, hR1, hD1, rfl⟩
abbrev NP := Nat × Pg
def allTo (pg : Pgs) (n : Nat) : List NP := (List.range n).filterMap (fun i => (pg (i : Nat)).map (fun g => (i, g)))
abbrev allG (pg : Pgs) : List NP := allTo pg 64
theorem allTo_some {pg : Pgs} {n : Nat} {g : Pg} (h : pg (n : Nat) = some g) : allTo pg (n + 1) = allTo pg n ++ [(n, g)] := by
 unfold allTo; rw [List.range_succ, List.filterMap_append]; simp [h]
theorem allTo_none {pg : Pgs} {n : Nat} (h : pg (n : Nat) = none) : allTo pg (n + 1) = allTo pg n := by
 unfold allTo; rw [List.range_succ, List.filterMap_append]; simp [h]
theorem allTo_pre {pg : Pgs} {n m : Nat} (h : n ≤ m) : allTo pg n <+: allTo pg m := by
 induction m with
 | zero => rw [Nat.le_zero.1 h]; exact List.prefix_refl _
 | succ m ih =>
  rcases Nat.lt_or_ge n (m + 1) with h1 | h1
  ·refine (ih (by omega)).trans ?_
   cases hp : pg (m : Nat) with
   | none => rw [allTo_none hp]; exact List.prefix_refl _
   | some g => rw [allTo_some hp]; exact List.prefix_append _ _
  ·rw [show n = m + 1 by omega]; exact List.prefix_refl _
theorem allTo_len (pg : Pgs) (n : Nat) : (allTo pg n).length ≤ n := by
 unfold allTo
 exact Nat.le_trans (List.length_filterMap_le _ _) (by simp)
abbrev npE (x : NP) : List Value := [.int .i64 x.1, .agg ⟨pgV x.2⟩]
theorem all17_spec (ρ : Hp) (pb : Nat) : Spec Tryz.prog 142 [.pointer (some ⟨pb, 0, none⟩)] ρ [] (fun v ρ' L' => ∃ b1, v = .func (.func 221) ⟨[]⟩ ⟨[.pointer (some ⟨b1, 0, none⟩)]⟩ ∧ ρ' = ρ ∧ L' = [bpC b1 pb]) := by
 refine Za Tryz.func142 rfl rfl rfl fun u R => ?_
 simp only [Zg, kA]
 repeat' (first | refine zV ?_ | intro _)
 rename_i b1
 exact qE (L' := [bpC b1 pb]) ⟨b1, rfl, rfl, rfl⟩
theorem all17_iter (ρ0 : Hp) (b1 pb fb lb mb : Nat) (hp : PoIn ρ0 pb fb lb mb) (pg : Pgs) (es : List MapEntry) (ck : Nat) (hm : MpIn ρ0 es pg) :
  Iter Tryz.prog 221 [] [.pointer (some ⟨b1, 0, none⟩)] npE ρ0 [bpC b1 pb, ZZ mb es ck] (allG pg) := by
 intro l J Jx hY ρ Lj hl0 hJ
 have hk := hm.keys
 refine Za Tryz.func221 rfl rfl rfl fun u R => ?_
 simp only [Zg, kA, List.append_assoc]
 repeat' (first | refine zV ?_ | intro _)
 refine Zl [(0, _), (1, _)] (fun (ζ : (Nat) × (Hp) × (SH)) => [(6, .int .i64 ζ.1)]) (fun (ζ : (Nat) × (Hp) × (SH)) => ζ.2.1) (fun (ζ : (Nat) × (Hp) × (SH)) => bpC b1 pb :: ZZ mb es ck :: ζ.2.2) (fun (ζ : (Nat) × (Hp) × (SH)) => ζ.1 ≤ 64 ∧ ρ.le ζ.2.1 ∧ J (allTo pg ζ.1) ζ.2.1 ζ.2.2) (fun (ζ : (Nat) × (Hp) × (SH)) => 64 - ζ.1) ((0, ρ, Lj)) (⟨Nat.zero_le _, Hp.le_refl _, hJ⟩) Zc Zc rfl tk ?_
 rintro ⟨k, ρ1, L1⟩ hI
 try simp only [kA, List.append_assoc] at hI ⊢
 try dsimp only at hI ⊢
 obtain ⟨hk64, hle1, hj⟩ := hI
 by_cases hlt : k < 64
 ·have hl1 := Hp.le_trans hl0 hle1
  have hp1 := Hp.at' hl1 hp
  have hg := hm.get k
  cases hs : pg (k : Nat) with
  | none =>
   rw [hs] at hg
   simp only [Option.map_none] at hg
   repeat' (first | refine zV ?_ | intro _)
   refine Zf (k + 1, ρ1, L1) (⟨hlt, hle1, by dsimp only; rw [allTo_none hs]; exact hj⟩) Zc Zc rfl tk inferInstance (by first | omega | (dsimp only; omega))
  | some g =>
   rw [hs] at hg
   simp only [Option.map_some] at hg
   have hts := allTo_some hs
   have hpre : allTo pg k ++ [(k, g)] <+: allG pg := by rw [← hts]; exact allTo_pre (by omega)
   have hy := hY _ _ ρ1 L1 hpre hl1 hj
   repeat' (first | (refine Zb (.tmp 20) ?_; refine qY rfl rfl (hy) ?_; rintro v ρ' L' hle ⟨Lj', rfl, ⟨rfl, hj'⟩ | ⟨rfl, hj'⟩⟩ <;> (try simp only [kA])) | refine zV ?_ | intro _)
   ·repeat' (first | refine zV ?_ | intro _)
    refine Zf (k + 1, ρ', Lj') (⟨hlt, Hp.le_trans hle1 hle, by dsimp only; rw [hts]; exact hj'⟩) Zc Zc rfl tk inferInstance (by first | omega | (dsimp only; omega))
   ·repeat' (first | refine zV ?_ | intro _)
    exact qE (L' := bpC b1 pb :: ZZ mb es ck :: Lj') ⟨Lj', rfl, .inr hj'⟩
 ·have hk2 : k = 64 := by omega
  rw [hk2] at hj
  repeat' (first | refine zV ?_ | intro _)
  exact qE (L' := bpC b1 pb :: ZZ mb es ck :: L1) ⟨L1, rfl, .inl hj⟩
structure Lv (D D' : DS) : Prop where
 secs : D'.secs = D.secs
 armed : D'.armed = D.armed
 failing : D'.failing = -1
 dead : D'.dead = false
theorem Lv.trans {D D' D'' : DS} (h : Lv D D') (h' : Lv D' D'') : Lv D D'' := ⟨h'.secs.trans h.secs, h'.armed.trans h.armed, h'.failing, h'.dead⟩
abbrev Lv1 (D : DS) : Prop := Lv D D
theorem Lv.next {D D' : DS} (h : Lv D D') : Lv1 D' := ⟨rfl, rfl, h.failing, h.dead⟩
theorem DS.Calm.lv {D : DS} (h : D.Calm) : Lv1 D := by
 obtain ⟨s, o, a, f, d⟩ := D
 obtain ⟨h1, h2, h3⟩ := h
 dsimp only at h1 h2 h3
 subst h1; subst h2; subst h3
 exact ⟨rfl, rfl, rfl, rfl⟩
theorem Lv.calm {D D' : DS} (h : Lv D D') (hc : D.Calm) : D'.Calm := by
 obtain ⟨s, o, a, f, d⟩ := D
 obtain ⟨s', o', a', f', d'⟩ := D'
 obtain ⟨h1, h2, h3⟩ := hc
 obtain ⟨g1, g2, g3, g4⟩ := h
 dsimp only at h1 h2 h3 g1 g2 g3 g4
 subst h1; subst h2; subst h3; subst g1; subst g2; subst g3; subst g4
 exact ⟨rfl, rfl, rfl⟩
theorem read_lv {D : DS} {i : Nat} (h : Lv1 D) (hi : i < D.secs.length) : Lv D (D.read i).1 ∧ (D.read i).2.2 = 0 := by
 obtain ⟨s, o, a, f, d⟩ := D
 obtain ⟨_, _, h3, h4⟩ := h
 dsimp only at h3 h4 hi
 subst h3; subst h4
 have hn : ¬ ((i : Int) < 0 ∨ (s.length : Int) ≤ i) := by omega
 have hc : cnt (-1) = -1 := by decide
 unfold DS.read
 simp only [hn, if_false, Bool.false_eq_true, DS.tick, hc, show ¬ ((-1 : Int) = 0) by decide]
 exact ⟨⟨rfl, rfl, rfl, rfl⟩, trivial⟩
theorem rdSlot_lv {D : DS} (h : Lv1 D) {i : Nat} (hi : i + 1 < D.secs.length) : Lv D (Wb D i).1 ∧ (Wb D i).2.2 = 0 := by
 obtain ⟨h1, h2⟩ := read_lv h (i := i) (by omega)
 obtain ⟨h3, h4⟩ := read_lv h1.next (i := i + 1) (by rw [h1.secs]; exact hi)
 unfold Wb
 rw [if_neg (by simp [h2]), if_neg (by rw [h4]; simp)]
 exact ⟨h1.trans h3, rfl⟩
theorem slD_lv {D : DS} {base num : Nat} (h : Lv1 D) (hl : base + 4 * num + 4 ≤ D.secs.length) : ∀ k, k ≤ 2 → Lv D (slD D base num k)
 | 0, _ => h
 | k + 1, hk => by
  have h1 := slD_lv h hl k (by omega)
  exact h1.trans (rdSlot_lv h1.next (i := base + 4 * num + 2 * k) (by rw [Xu]; omega)).1
theorem countsD_lv {D : DS} {base num : Nat} (h : Lv1 D) (hl : base + 4 * num + 4 ≤ D.secs.length) : (Zt D base num).2.2 = 0 ∧ Lv D (Zt D base num).2.1 := by
 have e0 := (rdSlot_lv (slD_lv h hl 0 (by omega)).next (i := base + 4 * num + 2 * 0) (by rw [Xu]; omega)).2
 have e1 := (rdSlot_lv (slD_lv h hl 1 (by omega)).next (i := base + 4 * num + 2 * 1) (by rw [Xu]; omega)).2
 unfold Zt slR
 rw [if_neg (by rw [e0]; simp), if_neg (by rw [e1]; simp)]
 exact ⟨rfl, slD_lv h hl 2 (by omega)⟩
theorem FO.readL {D : DS} {base t : Nat} {held : Nat → ZL} (h : FO D base t held) (hc : Lv1 D) {num : Nat} (hn : num < 64) : (XV D base num).1 = ((held num).1, (held num).2, 0) ∧ Lv D (XV D base num).2 ∧ FO (XV D base num).2 base t held := by
 have hln := h.len
 have hl : base + 4 * num + 4 ≤ D.secs.length := by omega
 obtain ⟨e1, e2⟩ := countsD_lv hc hl
 have e3 := countsD_val h.empty h.alive hl e1
 have e4 := h.held num hn
 have hf := h.congr (D' := (Zt D base num).2.1) Va (countsD_ok h.dok) e2.dead
 unfold WJ at e4
 unfold XV
 rw [e1, e3]
 dsimp only
 by_cases hr : (csD D base num).best.right = true
 ·rw [if_pos hr] at e4
  rw [if_neg (by simp [hr]), ← e4]
  exact ⟨rfl, e2, hf⟩
 ·rw [if_neg hr] at e4
  rw [if_pos (.inr (by simpa using hr)), ← e4]
  exact ⟨rfl, e2, hf⟩
abbrev PV := Int → Option (Yi × Nat × Nat)
def vw (pg : Pgs) : PV := fun n => (pg n).map (fun g => (g.c, g.lsn, g.rc))
def setV (pv : PV) (n : Int) (x : Yi × Nat × Nat) : PV := fun k => if k = n then some x else pv k
def Xn (held : Nat → ZL) (pv : PV) (n : Int) : Yi × Nat × Nat := (pv n).getD ((held n.toNat).1, (held n.toNat).2, 0)
def holdV (held : Nat → ZL) (pv : PV) (n : Int) : PV := setV pv n (Xn held pv n)
theorem vw_upd (pg : Pgs) (n : Int) (g : Pg) : vw (updG pg n g) = setV (vw pg) n (g.c, g.lsn, g.rc) := by
 funext k; unfold vw updG setV; split <;> simp
theorem vw_some {pg : Pgs} {n : Int} {x : Yi × Nat × Nat} (h : vw pg n = some x) : ∃ g, pg n = some g ∧ g.c = x.1 ∧ g.lsn = x.2.1 ∧ g.rc = x.2.2 := by
 unfold vw at h
 cases hp : pg n with
 | none => rw [hp] at h; cases h
 | some g => rw [hp] at h; cases h; exact ⟨g, rfl, rfl, rfl, rfl⟩
theorem HoldG.view {pg : Pgs} {D : DS} {base t num : Nat} {held : Nat → ZL} {g : Pg} (h : HoldG pg D base num g) (hf : FO D base t held) (hc : Lv1 D) (hn : num < 64) : vw (updG pg num g) = holdV held (vw pg) num ∧ (g.c, g.lsn, g.rc) = Xn held (vw pg) num := by
 have e : (g.c, g.lsn, g.rc) = Xn held (vw pg) num := by
  unfold Xn vw
  rcases h.out with h1 | ⟨h1, h2, h3, h4⟩
  ·rw [h1]; rfl
  ·rw [h1, h2, h3, h4, (hf.readL hc hn).1]; rfl
 rw [vw_upd, e]
 exact ⟨rfl, rfl⟩
theorem holdD_lv {pg : Pgs} {D : DS} {base t num : Nat} {held : Nat → ZL} (hf : FO D base t held) (hc : Lv1 D) (hn : num < 64) : Lv D (holdD pg D base num) ∧ FO (holdD pg D base num) base t held := by
 unfold holdD
 split
 ·exact ⟨hc, hf⟩
 ·exact (hf.readL hc hn).2
theorem hold_lv (ρ : Hp) (pb fb lb mb db base num t : Nat) (hp : PoIn ρ pb fb lb mb) (hf : FIn ρ fb db base) (hb : base ≤ 100000) (hn : num < 64) (k : DK) (D : DS) (hD : DOk k D) (pg : Pgs) (es : List MapEntry) (ck : Nat) (hm : MpIn ρ es pg) (held : Nat → ZL) (hF : FO D base t held) (hL : Lv1 D) :
  Spec Tryz.prog 133 [.pointer (some ⟨pb, 0, none⟩), .int .i64 num] ρ (ZZ mb es ck :: Zk db k D)
   (fun v ρ' L' => ρ.le ρ' ∧ ∃ g es' ck' pg' D', v = .tuple ⟨[.agg ⟨pgV g⟩, .int .i64 0]⟩ ∧ (g.c, g.lsn, g.rc) = Xn held (vw pg) num ∧ MpIn ρ' es' pg' ∧ vw pg' = holdV held (vw pg) num ∧ DOk k D' ∧ Lv D D' ∧ FO D' base t held ∧ L' = ZZ mb es' ck' :: Zk db k D') := by
 have hr := (hF.readL hL hn).1
 refine (hold_spec ρ pb fb lb mb db base num hp hf hb hn k D hD pg es ck hm (fun _ => by rw [hr])).mono ?_
 rintro v ρ' L' _ ⟨h1, g, es', ck', h2, h3, h4, h5, h6⟩
 obtain ⟨e1, e2⟩ := h3.view hF hL hn
 obtain ⟨e3, e4⟩ := holdD_lv (pg := pg) hF hL hn
 exact ⟨h1, g, es', ck', _, _, h2, e2, h4, e1, h5, e3, e4, h6⟩
theorem page_lv (ρ : Hp) (pb fb lb mb db base num t : Nat) (hp : PoIn ρ pb fb lb mb) (hf : FIn ρ fb db base) (hb : base ≤ 100000) (hn : num < 64) (k : DK) (D : DS) (hD : DOk k D) (pg : Pgs) (es : List MapEntry) (ck : Nat) (hm : MpIn ρ es pg) (held : Nat → ZL) (hF : FO D base t held) (hL : Lv1 D) :
  Spec Tryz.prog 59 [.pointer (some ⟨pb, 0, none⟩), .int .i64 num] ρ (ZZ mb es ck :: Zk db k D)
   (fun v ρ' L' => ρ.le ρ' ∧ ∃ w es' ck' pg' D', v = .tuple ⟨[.agg ⟨Xo (Xn held (vw pg) num).1.kind w⟩, .int .u64 ((Xn held (vw pg) num).2.1 : Nat), .int .i64 0]⟩ ∧ CIn ρ' w (Xn held (vw pg) num).1.rows (Xn held (vw pg) num).1.kids ∧ MpIn ρ' es' pg' ∧ vw pg' = holdV held (vw pg) num ∧ DOk k D' ∧ Lv D D' ∧ FO D' base t held ∧ L' = ZZ mb es' ck' :: Zk db k D') := by
 have hr := (hF.readL hL hn).1
 refine (page17_spec ρ pb fb lb mb db base num hp hf hb hn k D hD pg es ck hm (fun _ => by rw [hr])).mono ?_
 rintro v ρ' L' _ ⟨h1, g, es', ck', w, h2, h2', h3, h4, h5, h6⟩
 obtain ⟨e1, e2⟩ := h3.view hF hL hn
 obtain ⟨e3, e4⟩ := holdD_lv (pg := pg) hF hL hn
 rw [← e2]
 exact ⟨h1, w, es', ck', _, _, h2, h2', h4, e1, h5, e3, e4, h6⟩
structure Sh where
 page : Int
 w : CV
 c : Yi
abbrev sheV (s : Sh) : List Value := [.int .i64 s.page, .int .i64 s.c.kind, .slice s.w.ra s.w.rn s.w.rc, .slice s.w.ka s.w.kn s.w.kc]
structure ShsIn (ρ : Hp) (a : Option Addr) (n c : Nat) (l : List Sh) : Prop where
 at' : AIn ρ 4 sheV a n l
 big : n ≤ 1000000
 cin : ∀ s ∈ l, CIn ρ s.w s.c.rows s.c.kids
theorem ShsIn.mono {ρ ρ' a n c l} (h : ShsIn ρ a n c l) (hle : ρ.le ρ') : ShsIn ρ' a n c l := ⟨h.at'.mono hle, h.big, fun s hs => (h.cin s hs).mono hle⟩
def riseS : Int → List Sh → Bool
 | _, [] => true
 | last, s :: r => decide (last < s.page ∧ 0 ≤ s.page ∧ s.page < 64) && riseS s.page r
def XO (held : Nat → ZL) : PV → List Sh → PV
 | pv, [] => pv
 | pv, s :: r => XO held (holdV held pv s.page) r
def askE (known : Bool) (held : Nat → ZL) (pv : PV) (lsn : Nat) (l : List Sh) : Int :=
 if known = false ∨ l = [] then 2 else if riseS (-1) l = false then 2 else if l.all (fun s => ZB s.c) = false then 160
 else if l.any (fun s => decide (lsn ≤ (Xn held (XO held pv l) s.page).2.1)) then 2 else 0
def askV (known : Bool) (held : Nat → ZL) (pv : PV) (l : List Sh) : PV :=
 if known = false ∨ l = [] then pv else if riseS (-1) l = false then pv else if l.all (fun s => ZB s.c) = false then pv else XO held pv l
def prevS (l : List Sh) (k : Nat) : Int := if h : 0 < k ∧ k ≤ l.length then (l[k - 1]'(by omega)).page else -1
theorem riseS_drop {l : List Sh} {k : Nat} (hk : k < l.length) : riseS (prevS l k) (l.drop k) = (decide (prevS l k < l[k].page ∧ 0 ≤ l[k].page ∧ l[k].page < 64) && riseS (prevS l (k + 1)) (l.drop (k + 1))) := by
 rw [List.drop_eq_getElem_cons hk, riseS]
 congr 2
 unfold prevS
 rw [dif_pos ⟨by omega, by omega⟩]
 rfl
theorem holdsV_snoc (held : Nat → ZL) : ∀ (pv : PV) (l : List Sh) (s : Sh), XO held pv (l ++ [s]) = holdV held (XO held pv l) s.page
 | pv, [], s => rfl
 | pv, x :: r, s => by simp only [List.cons_append, XO]; exact holdsV_snoc held _ r s
theorem take_snoc {α : Type} (l : List α) (k : Nat) (hk : k < l.length) : l.take (k + 1) = l.take k ++ [l[k]] := List.take_succ_eq_append_getElem hk
theorem holdV_has (held : Nat → ZL) (pv : PV) (n m : Int) (h : (pv m).isSome) : ((holdV held pv n) m) = pv m ∧ ((holdV held pv n) n).isSome := by
 refine ⟨?_, by unfold holdV setV; simp⟩
 unfold holdV setV
 split
 ·rename_i e
  subst e
  unfold Xn
  cases hp : pv m with
  | none => rw [hp] at h; cases h
  | some x => rfl
 ·rfl
theorem holdsV_has (held : Nat → ZL) : ∀ (l : List Sh) (pv : PV) (m : Int), (pv m).isSome → (XO held pv l) m = pv m
 | [], pv, m, _ => rfl
 | s :: r, pv, m, h => by
  have h1 := (holdV_has held pv s.page m h).1
  show XO held (holdV held pv s.page) r m = _
  rw [holdsV_has held r _ m (by rw [h1]; exact h), h1]
theorem holdsV_mem (held : Nat → ZL) : ∀ (l : List Sh) (pv : PV) (s : Sh), s ∈ l → ((XO held pv l) s.page).isSome
 | x :: r, pv, s, hs => by
  show (XO held (holdV held pv x.page) r s.page).isSome
  rcases List.mem_cons.1 hs with rfl | hs
  ·have h1 : ((holdV held pv s.page) s.page).isSome := by unfold holdV setV; simp
   rw [holdsV_has held r _ _ h1]; exact h1
  ·exact holdsV_mem held r _ s hs
end Go.Proofs.E
namespace Go.Proofs.E
open Go
set_option linter.unusedVariables false
set_option linter.unusedSimpArgs false
set_option linter.unusedSectionVars false
set_option maxRecDepth 4000
set_option maxHeartbeats 1000000
attribute [local irreducible] Yl TL TC TE Spec ZK R1 Hp.le EnvLe TS TR YS Zp TP QP
theorem prevS_zero (l : List Sh) : prevS l 0 = -1 := by unfold prevS; rw [dif_neg (by omega)]
theorem prevS_pos {l : List Sh} {k : Nat} (h0 : k ≠ 0) (hk : k < l.length) : prevS l k = (l[k - 1]'(by omega)).page := by unfold prevS; rw [dif_pos ⟨by omega, by omega⟩]
theorem riseS_pages : ∀ {l : List Sh} {last : Int}, riseS last l = true → ∀ s ∈ l, 0 ≤ s.page ∧ s.page < 64
 | [], _, _, s, hs => by cases hs
 | x :: r, last, h, s, hs => by
  rw [riseS, Bool.and_eq_true, decide_eq_true_eq] at h
  rcases List.mem_cons.1 hs with rfl | hs
  ·exact h.1.2
  ·exact riseS_pages h.2 s hs
theorem asked_spec (ρ : Hp) (pb fb lb mb rb db base t : Nat) (hp : PoIn ρ pb fb lb mb) (hf : FIn ρ fb db base) (hb : base ≤ 100000) (S : LgS) (v : Value) (sp : List Value) (hS : LgIn ρ S v sp) (k : DK) (D : DS) (hD : DOk k D) (pg : Pgs) (es : List MapEntry) (ck : Nat) (hm : MpIn ρ es pg) (held : Nat → ZL) (hF : FO D base t held) (hL : Lv1 D)
  (lsn : Nat) (a : Option Addr) (n c : Nat) (l : List Sh) (h : ShsIn ρ a n c l) :
  Spec Tryz.prog 201 [.pointer (some ⟨pb, 0, none⟩), .int .u64 (lsn : Nat), .slice a n c] ρ (ZR lb rb S v :: Ya S v sp :: ZZ mb es ck :: Zk db k D)
   (fun z ρ' L' => z = .int .i64 (askE (recF S lsn).isSome held (vw pg) lsn l) ∧ ρ.le ρ' ∧ ∃ es' ck' pg' D', MpIn ρ' es' pg' ∧ vw pg' = askV (recF S lsn).isSome held (vw pg) l ∧ DOk k D' ∧ Lv D D' ∧ FO D' base t held ∧ L' = ZR lb rb S v :: Ya S v sp :: ZZ mb es' ck' :: Zk db k D') := by
 have hl := h.at'.len
 have hbig := h.big
 have hrec := rec16_spec ρ lb rb S v sp hS lsn
 generalize hE : askE (recF S lsn).isSome held (vw pg) lsn l = E
 generalize hV : askV (recF S lsn).isSome held (vw pg) l = V
 unfold askE at hE
 unfold askV at hV
 generalize ho : recF S lsn = o at *
 have hone : (rrV (o.getD zRR)).length = 10 := rfl
 refine Za Tryz.func201 rfl rfl rfl fun u R => ?_
 simp only [Zg, kA]
 cases hoo : o with
 | none =>
  subst hoo
  rw [if_pos (.inl rfl)] at hE hV
  subst hE; subst hV
  have hrc : (fun z ρ' L' => z = recAns none ∧ ρ.le ρ' ∧ L' = [ZR lb rb S v, Ya S v sp]) = (fun z ρ' L' => z = .tuple ⟨[.agg ⟨Xw zRR.1 zRR.2⟩, .int .i64 4]⟩ ∧ ρ.le ρ' ∧ L' = [ZR lb rb S v, Ya S v sp]) := rfl
  rw [hrc] at hrec
  repeat' (first | (refine Zb (.func 44) ?_; refine qC rfl rfl hrec ?_; rintro v1 ρ1 L1 hle1 ⟨rfl, hl1, rfl⟩; try simp only [kA, List.append_assoc]) | refine zV ?_ | intro _)
  exact qE (L' := ZR lb rb S v :: Ya S v sp :: ZZ mb es ck :: Zk db k D) ⟨rfl, hl1, es, ck, pg, D, hm.mono hl1, rfl, hD, hL, hF, rfl⟩
 | some x =>
  subst hoo
  obtain ⟨xv, xr⟩ := x
  simp only [Option.isSome_some, Bool.true_eq_false, false_or] at hE hV
  have hrc : (fun z ρ' L' => z = recAns (some (xv, xr)) ∧ ρ.le ρ' ∧ L' = [ZR lb rb S v, Ya S v sp]) = (fun z ρ' L' => z = .tuple ⟨[.agg ⟨Xw xv xr⟩, .int .i64 0]⟩ ∧ ρ.le ρ' ∧ L' = [ZR lb rb S v, Ya S v sp]) := rfl
  rw [hrc] at hrec
  by_cases hnil : l = []
  ·rw [if_pos hnil] at hE hV
   subst hE; subst hV
   have hn0 : ((n : Nat) : Int) = 0 := by rw [← hl, hnil]; rfl
   repeat' (first | (refine Zb (.func 44) ?_; refine qC rfl rfl hrec ?_; rintro v1 ρ1 L1 hle1 ⟨rfl, hl1, rfl⟩; try simp only [kA, List.append_assoc]) | refine zV ?_ | intro _)
   exact qE (L' := ZR lb rb S v :: Ya S v sp :: ZZ mb es ck :: Zk db k D) ⟨rfl, hl1, es, ck, pg, D, hm.mono hl1, rfl, hD, hL, hF, rfl⟩
  ·rw [if_neg hnil] at hE hV
   have hn0 : ¬ ((n : Nat) : Int) = 0 := by
    intro e; apply hnil; exact List.eq_nil_of_length_eq_zero (by omega)
   repeat' (first | (refine Zb (.func 44) ?_; refine qC rfl rfl hrec ?_; rintro v1 ρ1 L1 hle1 ⟨rfl, hl1, rfl⟩; try simp only [kA, List.append_assoc]) | refine zV ?_ | intro _)
   have hp1 := Hp.at' hl1 hp
   have hf1 := hf.mono hl1
   have hm1 := hm.mono hl1
   have h1 := h.mono hl1
   clear hp hf hm h hrec
   refine Zl [(0, _), (1, _), (2, _), (36, _), (37, _)] (fun (ζ : (Nat)) => [(38, .int .i64 ζ), (6, .int .i64 0)]) (fun (ζ : (Nat)) => ρ1) (fun (ζ : (Nat)) => ZR lb rb S v :: Ya S v sp :: ZZ mb es ck :: Zk db k D) (fun (ζ : (Nat)) => ζ ≤ n ∧ riseS (prevS l ζ) (l.drop ζ) = riseS (-1) l) (fun (ζ : (Nat)) => n - ζ) (0) (⟨Nat.zero_le _, by rw [prevS_zero]; rfl⟩) Zc Zc rfl tk ?_
   rintro i hI
   try simp only [kA, List.append_assoc] at hI ⊢
   try dsimp only at hI ⊢
   obtain ⟨hi, hri⟩ := hI
   by_cases hlt : i < n
   ·have hil : i < l.length := by omega
    obtain ⟨b, off, C, T, fr, e1, hb0, hfit, hc⟩ := h1.at'.get hil
    have hs := riseS_drop hil
    rw [hri] at hs
    have hth := fun ρ => there_spec ρ (l[i]).page
    have hbad : (¬ (0 ≤ (l[i]).page ∧ (l[i]).page < 64) ∨ (l[i]).page ≤ prevS l i) → riseS (-1) l = false := fun hx => by
     rw [hs, decide_eq_false (by omega)]; rfl
    have hgood : 0 ≤ (l[i]).page ∧ (l[i]).page < 64 → prevS l i < (l[i]).page → riseS (prevS l (i + 1)) (l.drop (i + 1)) = riseS (-1) l := fun h1 h2 => by
     rw [hs, decide_eq_true ⟨h2, h1⟩, Bool.true_and]
    rw [e1]
    by_cases hi0 : i = 0
    ·have hpr : prevS l i = -1 := by rw [hi0]; exact prevS_zero l
     rw [hpr] at hbad hgood
     have hi0' : ¬ ((i : Int) > 0) := by omega
     clear hs hri
     generalize l[i] = x at *
     by_cases hx : 0 ≤ x.page ∧ x.page < 64
     ·simp only [decide_eq_true hx] at hth
      repeat' (first | refine zV ?_ | intro _)
      rename_i bx
      refine tpA [0,1] (.e 2 [] (.f [3,4,5,6,7,8,9,10,11,12,13,14,15,16,17,18] .o)) ([[(bx, .cells ⟨sheV x⟩ 215 (0, 0))]]) ?_
      repeat' (refine iT ?_; first | refine rA ?_ | ((refine iE ?_; refine rE ?_) <;> ((try refine Zn ?_); (first | (refine Zb (.func 132) ?_; refine qC rfl rfl (hth _) ?_; rintro v ρ' L' hle ⟨rfl, rfl, rfl⟩ <;> (try simp only [kA])) | (refine Yj ?_; try intro _)) <;> ((try simp only [kA]); refine Zi ?_; refine rN ?_))))
      all_goals (repeat' (first | refine zV ?_ | intro _))
      all_goals rw [← e1]
      all_goals refine Zf (i + 1) (⟨hlt, hgood hx (by omega)⟩) Zc Zc rfl tk inferInstance (by first | omega | (dsimp only; omega))
     ·simp only [decide_eq_false hx] at hth
      rw [if_pos (hbad (.inl hx))] at hE hV
      subst hE; subst hV
      repeat' (first | refine zV ?_ | intro _)
      rename_i bx
      refine tpA [0,1] (.e 2 [] (.f [3,4,5,6,7,8,9,10,11,12,13,14,15,16,17,18] .o)) ([[(bx, .cells ⟨sheV x⟩ 215 (0, 0))]]) ?_
      repeat' (refine iT ?_; first | refine rA ?_ | ((refine iE ?_; refine rE ?_) <;> ((try refine Zn ?_); (first | (refine Zb (.func 132) ?_; refine qC rfl rfl (hth _) ?_; rintro v ρ' L' hle ⟨rfl, rfl, rfl⟩ <;> (try simp only [kA])) | (refine Yj ?_; try intro _)) <;> ((try simp only [kA]); refine Zi ?_; refine rN ?_))))
      all_goals (repeat' (first | refine zV ?_ | intro _))
      all_goals exact qE (L' := ZR lb rb S v :: Ya S v sp :: ZZ mb es ck :: Zk db k D) ⟨rfl, hl1, es, ck, pg, D, hm1, rfl, hD, hL, hF, rfl⟩
    ·have hpr := prevS_pos hi0 hil
     rw [hpr] at hbad hgood
     obtain ⟨b2, off2, C2, T2, fr2, f1, hb2, hfit2, hc2⟩ := h1.at'.get (show i - 1 < l.length by omega)
     rw [e1] at f1
     cases f1
     rw [hb0] at hb2
     cases hb2
     have ek : ((i : Int) - 1).toNat = i - 1 := by omega
     rw [← ek] at hfit2
     have hc3 : List.take 4 (List.drop (off + ((i : Int) - 1).toNat * 4) C) = sheV (l[i - 1]'(by omega)) := by rw [ek]; exact hc2
     have hc4 : C[off + ((i : Int) - 1).toNat * 4]? = some (.int .i64 (l[i - 1]'(by omega)).page) := by
      have := congrArg (fun l : List Value => l[0]?) hc3
      simp only [List.getElem?_take_of_lt (show 0 < 4 by omega), List.getElem?_drop, Nat.add_zero] at this
      exact this
     clear hc2 hc3 hs hri
     generalize l[i] = x at *
     generalize l[i - 1]'(by omega) = y at *
     by_cases hx : 0 ≤ x.page ∧ x.page < 64
     ·simp only [decide_eq_true hx] at hth
      by_cases hyx : y.page < x.page
      ·have hyx' : ¬ x.page ≤ y.page := by omega
       repeat' (first | refine zV ?_ | intro _)
       rename_i bx
       refine tpA [0,1] (.e 2 [] (.f [3,4,5,6,7,8,9,10,11,12,13,14,15,16,17,18] .o)) ([[(bx, .cells ⟨sheV x⟩ 215 (0, 0))]]) ?_
       repeat' (refine iT ?_; first | refine rA ?_ | ((refine iE ?_; refine rE ?_) <;> ((try refine Zn ?_); (first | (refine Zb (.func 132) ?_; refine qC rfl rfl (hth _) ?_; rintro v ρ' L' hle ⟨rfl, rfl, rfl⟩ <;> (try simp only [kA])) | (refine Yj ?_; try intro _)) <;> ((try simp only [kA]); refine Zi ?_; refine rN ?_))))
       all_goals (repeat' (first | refine zV ?_ | intro _))
       all_goals rw [← e1]
       all_goals refine Zf (i + 1) (⟨hlt, hgood hx hyx⟩) Zc Zc rfl tk inferInstance (by first | omega | (dsimp only; omega))
      ·have hyx' : x.page ≤ y.page := by omega
       rw [if_pos (hbad (.inr hyx'))] at hE hV
       subst hE; subst hV
       repeat' (first | refine zV ?_ | intro _)
       rename_i bx
       refine tpA [0,1] (.e 2 [] (.f [3,4,5,6,7,8,9,10,11,12,13,14,15,16,17,18] .o)) ([[(bx, .cells ⟨sheV x⟩ 215 (0, 0))]]) ?_
       repeat' (refine iT ?_; first | refine rA ?_ | ((refine iE ?_; refine rE ?_) <;> ((try refine Zn ?_); (first | (refine Zb (.func 132) ?_; refine qC rfl rfl (hth _) ?_; rintro v ρ' L' hle ⟨rfl, rfl, rfl⟩ <;> (try simp only [kA])) | (refine Yj ?_; try intro _)) <;> ((try simp only [kA]); refine Zi ?_; refine rN ?_))))
       all_goals (repeat' (first | refine zV ?_ | intro _))
       all_goals exact qE (L' := ZR lb rb S v :: Ya S v sp :: ZZ mb es ck :: Zk db k D) ⟨rfl, hl1, es, ck, pg, D, hm1, rfl, hD, hL, hF, rfl⟩
     ·simp only [decide_eq_false hx] at hth
      rw [if_pos (hbad (.inl hx))] at hE hV
      subst hE; subst hV
      repeat' (first | refine zV ?_ | intro _)
      rename_i bx
      refine tpA [0,1] (.e 2 [] (.f [3,4,5,6,7,8,9,10,11,12,13,14,15,16,17,18] .o)) ([[(bx, .cells ⟨sheV x⟩ 215 (0, 0))]]) ?_
      repeat' (refine iT ?_; first | refine rA ?_ | ((refine iE ?_; refine rE ?_) <;> ((try refine Zn ?_); (first | (refine Zb (.func 132) ?_; refine qC rfl rfl (hth _) ?_; rintro v ρ' L' hle ⟨rfl, rfl, rfl⟩ <;> (try simp only [kA])) | (refine Yj ?_; try intro _)) <;> ((try simp only [kA]); refine Zi ?_; refine rN ?_))))
      all_goals (repeat' (first | refine zV ?_ | intro _))
      all_goals exact qE (L' := ZR lb rb S v :: Ya S v sp :: ZZ mb es ck :: Zk db k D) ⟨rfl, hl1, es, ck, pg, D, hm1, rfl, hD, hL, hF, rfl⟩
   ·have hi2 : i = l.length := by omega
    rw [hi2, List.drop_length, riseS] at hri
    rw [if_neg (by rw [← hri]; simp)] at hE hV
    have hrt := hri.symm
    repeat' (first | refine zV ?_ | intro _)
    clear hri hi hi2 hlt
    refine Zl [(0, _), (1, _), (2, _), (63, _), (64, _)] (fun (ζ : (Nat)) => [(65, .int .i64 ζ), (6, .int .i64 0)]) (fun (ζ : (Nat)) => ρ1) (fun (ζ : (Nat)) => ZR lb rb S v :: Ya S v sp :: ZZ mb es ck :: Zk db k D) (fun (ζ : (Nat)) => ζ ≤ n ∧ (l.take ζ).all (fun s => ZB s.c) = true) (fun (ζ : (Nat)) => n - ζ) (0) (⟨Nat.zero_le _, rfl⟩) Zc Zc rfl tk ?_
    rintro i hI
    try simp only [kA, List.append_assoc] at hI ⊢
    try dsimp only at hI ⊢
    obtain ⟨hi, hok⟩ := hI
    by_cases hlt : i < n
    ·have hil : i < l.length := by omega
     obtain ⟨b, off, C, T, fr, e1, hb0, hfit, hc⟩ := h1.at'.get hil
     have hck := XC ρ1 (l[i]).w (l[i]).c (h1.cin _ (List.getElem_mem hil))
     have htk := take_snoc l i hil
     have hbad : ZB (l[i]).c = false → l.all (fun s => ZB s.c) = false := fun e => by
      cases hA : l.all (fun s => ZB s.c) with
      | false => rfl
      | true => rw [List.all_eq_true] at hA; rw [hA _ (List.getElem_mem hil)] at e; cases e
     rw [e1]
     generalize l[i] = x at *
     cases hx : ZB x.c
     ·rw [hx] at hck
      rw [if_pos (hbad hx)] at hE hV
      subst hE; subst hV
      repeat' (first | (refine Zb (.func 195) ?_; refine qC rfl rfl (hck) ?_; rintro v ρ' L' hle ⟨rfl, rfl, rfl⟩ <;> (try simp only [kA, if_false, Bool.false_eq_true])) | refine zV ?_ | intro _)
      exact qE (L' := ZR lb rb S v :: Ya S v sp :: ZZ mb es ck :: Zk db k D) ⟨rfl, hl1, es, ck, pg, D, hm1, rfl, hD, hL, hF, rfl⟩
     ·rw [hx] at hck
      repeat' (first | (refine Zb (.func 195) ?_; refine qC rfl rfl (hck) ?_; rintro v ρ' L' hle ⟨rfl, rfl, rfl⟩ <;> (try simp only [kA, if_true])) | refine zV ?_ | intro _)
      rw [← e1]
      refine Zf (i + 1) (⟨hlt, by rw [htk, List.all_append, hok]; simp [hx]⟩) Zc Zc rfl tk inferInstance (by first | omega | (dsimp only; omega))
    ·have hi2 : i = l.length := by omega
     rw [hi2, List.take_length] at hok
     rw [if_neg (by rw [hok]; simp)] at hE hV
     have hpages := riseS_pages hrt
     repeat' (first | refine zV ?_ | intro _)
     clear hok hi hi2 hlt
     refine Zl [(0, _), (1, _), (2, _), (76, _), (77, _)] (fun (ζ : (Nat) × (Hp) × (Pgs) × (List MapEntry) × (Nat) × (DS)) => [(78, .int .i64 ζ.1), (6, .int .i64 0)]) (fun (ζ : (Nat) × (Hp) × (Pgs) × (List MapEntry) × (Nat) × (DS)) => ζ.2.1) (fun (ζ : (Nat) × (Hp) × (Pgs) × (List MapEntry) × (Nat) × (DS)) => ZR lb rb S v :: Ya S v sp :: ZZ mb ζ.2.2.2.1 ζ.2.2.2.2.1 :: Zk db k ζ.2.2.2.2.2) (fun (ζ : (Nat) × (Hp) × (Pgs) × (List MapEntry) × (Nat) × (DS)) => ζ.1 ≤ n ∧ ρ1.le ζ.2.1 ∧ MpIn ζ.2.1 ζ.2.2.2.1 ζ.2.2.1 ∧ vw ζ.2.2.1 = XO held (vw pg) (l.take ζ.1) ∧ DOk k ζ.2.2.2.2.2 ∧ Lv D ζ.2.2.2.2.2 ∧ FO ζ.2.2.2.2.2 base t held) (fun (ζ : (Nat) × (Hp) × (Pgs) × (List MapEntry) × (Nat) × (DS)) => n - ζ.1) ((0, ρ1, pg, es, ck, D)) (⟨Nat.zero_le _, Hp.le_refl _, hm1, rfl, hD, hL, hF⟩) Zc Zc rfl tk ?_
     rintro ⟨i, ρ2, pg2, es2, ck2, D2⟩ hI
     try simp only [kA, List.append_assoc] at hI ⊢
     try dsimp only at hI ⊢
     obtain ⟨hi, hl2, hm2, hvw, hD2, hL2, hF2⟩ := hI
     by_cases hlt : i < n
     ·have hil : i < l.length := by omega
      obtain ⟨b, off, C, T, fr, e1, hb0, hfit, hc⟩ := (h1.mono hl2).at'.get hil
      have htk := take_snoc l i hil
      have hpn := hpages _ (List.getElem_mem hil)
      rw [e1]
      generalize l[i] = x at *
      obtain ⟨xp, xw, xc⟩ := x
      dsimp only at hpn
      obtain ⟨num, rfl⟩ : ∃ m : Nat, xp = m := ⟨xp.toNat, by omega⟩
      have hh := hold_lv ρ2 pb fb lb mb db base num t (Hp.at' hl2 hp1) (hf1.mono hl2) hb (by omega) k D2 hD2 pg2 es2 ck2 hm2 held hF2 hL2.next
      repeat' (first | (refine Zb (.func 133) ?_; refine qC rfl rfl hh ?_; rintro v3 ρ3 L3 hle3 ⟨hl3, g, es3, ck3, pg3, D3, rfl, hg, hm3, hv3, hD3, hL3, hF3, rfl⟩; try simp only [kA, List.append_assoc]) | refine zV ?_ | intro _)
      rw [← e1]
      refine Zf (i + 1, ρ3, pg3, es3, ck3, D3) (⟨hlt, Hp.le_trans hl2 hl3, hm3, by dsimp only; rw [htk, holdsV_snoc, hv3, hvw], hD3, hL2.trans hL3, hF3⟩) Zc Zc rfl tk inferInstance (by first | omega | (dsimp only; omega))
     ·have hi2 : i = l.length := by omega
      rw [hi2, List.take_length] at hvw
      have hl12 := Hp.le_trans hl1 hl2
      repeat' (first | refine zV ?_ | intro _)
      clear hi hi2 hlt
      refine Zl [(0, _), (1, _), (93, _), (94, _)] (fun (ζ : (Nat)) => [(95, .int .i64 ζ), (6, .int .i64 0)]) (fun (ζ : (Nat)) => ρ2) (fun (ζ : (Nat)) => ZR lb rb S v :: Ya S v sp :: ZZ mb es2 ck2 :: Zk db k D2) (fun (ζ : (Nat)) => ζ ≤ n ∧ ∀ s ∈ l.take ζ, (Xn held (XO held (vw pg) l) s.page).2.1 < lsn) (fun (ζ : (Nat)) => n - ζ) (0) (⟨Nat.zero_le _, by simp⟩) Zc Zc rfl tk ?_
      rintro i hI
      try simp only [kA, List.append_assoc] at hI ⊢
      try dsimp only at hI ⊢
      obtain ⟨hi, hlo⟩ := hI
      by_cases hlt : i < n
      ·have hil : i < l.length := by omega
       obtain ⟨b, off, C, T, fr, e1, hb0, hfit, hc⟩ := (h1.mono hl2).at'.get hil
       have htk := take_snoc l i hil
       have hmem := List.getElem_mem hil
       have hp2 := Hp.at' hl2 hp1
       have hkk := hm2.keys
       obtain ⟨g, hg1, hg2⟩ : ∃ g, pg2 (l[i]).page = some g ∧ g.lsn = (Xn held (XO held (vw pg) l) (l[i]).page).2.1 := by
        have h5 := holdsV_mem held l (vw pg) _ hmem
        rw [← hvw] at h5
        obtain ⟨y, hy⟩ := Option.isSome_iff_exists.1 h5
        obtain ⟨g, q1, q2, q3, q4⟩ := vw_some hy
        refine ⟨g, q1, ?_⟩
        unfold Xn
        rw [← hvw, hy, q3]; rfl
       have hget := hm2.get (l[i]).page
       rw [hg1] at hget
       simp only [Option.map_some] at hget
       have hbad : lsn ≤ g.lsn → l.any (fun s => decide (lsn ≤ (Xn held (XO held (vw pg) l) s.page).2.1)) = true := fun e => by
        rw [List.any_eq_true]; exact ⟨_, hmem, decide_eq_true (by rw [← hg2]; exact e)⟩
       have hnew : g.lsn < lsn → ∀ s ∈ l.take (i + 1), (Xn held (XO held (vw pg) l) s.page).2.1 < lsn := fun e s hs => by
        rw [htk] at hs
        rcases List.mem_append.1 hs with hs | hs
        ·exact hlo s hs
        ·rw [List.mem_singleton.1 hs, ← hg2]; exact e
       rw [e1]
       generalize l[i] = x at *
       by_cases hge : lsn ≤ g.lsn
       ·rw [if_pos (hbad hge)] at hE
        subst hE
        rw [← hvw] at hV
        subst hV
        repeat' (first | refine zV ?_ | intro _)
        rename_i bx
        refine tpA [0] (.f [1,2,3,4,5,6,7,8,9] .o) ([ZZ mb es2 ck2, [(bx, .cells ⟨sheV x⟩ 215 (0, 0))]]) ?_
        repeat' (refine iT ?_; first | refine rA ?_)
        all_goals (repeat' (first | refine zV ?_ | intro _))
        all_goals exact qE (L' := ZR lb rb S v :: Ya S v sp :: ZZ mb es2 ck2 :: Zk db k D2) ⟨rfl, hl12, es2, ck2, pg2, D2, hm2, rfl, hD2, hL2, hF2, rfl⟩
       ·repeat' (first | refine zV ?_ | intro _)
        rename_i bx
        refine tpA [0] (.f [1,2,3,4,5,6,7,8,9] .o) ([ZZ mb es2 ck2, [(bx, .cells ⟨sheV x⟩ 215 (0, 0))]]) ?_
        repeat' (refine iT ?_; first | refine rA ?_)
        all_goals (repeat' (first | refine zV ?_ | intro _))
        all_goals rw [← e1]
        all_goals refine Zf (i + 1) (⟨hlt, hnew (by omega)⟩) Zc Zc rfl tk inferInstance (by first | omega | (dsimp only; omega))
      ·have hi2 : i = l.length := by omega
       rw [hi2, List.take_length] at hlo
       rw [if_neg (by
        rw [List.any_eq_true]
        rintro ⟨s, hs, hd⟩
        have h6 := hlo s hs
        have h7 := of_decide_eq_true hd
        omega)] at hE
       subst hE
       rw [← hvw] at hV
       subst hV
       repeat' (first | refine zV ?_ | intro _)
       exact qE (L' := ZR lb rb S v :: Ya S v sp :: ZZ mb es2 ck2 :: Zk db k D2) ⟨rfl, hl12, es2, ck2, pg2, D2, hm2, rfl, hD2, hL2, hF2, rfl⟩
def newV (lsn : Nat) (pv : PV) (n : Int) (c : Yi) : PV := setV pv n (c, lsn, if ((pv n).getD (c, 0, 0)).2.2 = 0 then lsn else ((pv n).getD (c, 0, 0)).2.2)
def chgsV (lsn : Nat) : PV → List Sh → PV
 | pv, [] => pv
 | pv, s :: r => chgsV lsn (newV lsn pv s.page s.c) r
theorem chgsV_snoc (lsn : Nat) : ∀ (pv : PV) (l : List Sh) (s : Sh), chgsV lsn pv (l ++ [s]) = newV lsn (chgsV lsn pv l) s.page s.c
 | pv, [], s => rfl
 | pv, x :: r, s => by simp only [List.cons_append, chgsV]; exact chgsV_snoc lsn _ r s
theorem newV_has {lsn : Nat} {pv : PV} {n m : Int} {c : Yi} (h : (pv m).isSome) : (newV lsn pv n c m).isSome := by
 unfold newV setV; split
 ·rfl
 ·exact h
theorem chgsV_has {lsn : Nat} {m : Int} : ∀ (l : List Sh) {pv : PV}, (pv m).isSome → (chgsV lsn pv l m).isSome
 | [], pv, h => h
 | s :: r, pv, h => chgsV_has r (newV_has h)
def chgV (known : Bool) (held : Nat → ZL) (pv : PV) (lsn : Nat) (l : List Sh) : PV := if askE known held pv lsn l = 0 then chgsV lsn (askV known held pv l) l else askV known held pv l
theorem askE_zero {known : Bool} {held : Nat → ZL} {pv : PV} {lsn : Nat} {l : List Sh} (h : askE known held pv lsn l = 0) : known = true ∧ riseS (-1) l = true ∧ l.all (fun s => ZB s.c) = true ∧ askV known held pv l = XO held pv l ∧ ∀ s ∈ l, (Xn held (XO held pv l) s.page).2.1 < lsn := by
 unfold askE at h
 split at h
 ·omega
 ·rename_i h1
  split at h
  ·omega
  ·rename_i h2
   split at h
   ·omega
   ·rename_i h3
    split at h
    ·omega
    ·rename_i h4
     refine ⟨by simpa using (not_or.1 h1).1, by simpa using h2, by simpa using h3, ?_, fun s hs => ?_⟩
     ·unfold askV; rw [if_neg h1, if_neg h2, if_neg h3]
     ·rcases Nat.lt_or_ge (Xn held (XO held pv l) s.page).2.1 lsn with h5 | h5
      ·exact h5
      ·exact absurd (List.any_eq_true.2 ⟨s, hs, decide_eq_true h5⟩) h4
theorem change17_spec (ρ : Hp) (pb fb lb mb rb db base t : Nat) (hp : PoIn ρ pb fb lb mb) (hf : FIn ρ fb db base) (hb : base ≤ 100000) (S : LgS) (v : Value) (sp : List Value) (hS : LgIn ρ S v sp) (k : DK) (D : DS) (hD : DOk k D) (pg : Pgs) (es : List MapEntry) (ck : Nat) (hm : MpIn ρ es pg) (held : Nat → ZL) (hF : FO D base t held) (hL : Lv1 D)
  (lsn : Nat) (a : Option Addr) (n c : Nat) (l : List Sh) (h : ShsIn ρ a n c l) :
  Spec Tryz.prog 123 [.pointer (some ⟨pb, 0, none⟩), .int .u64 (lsn : Nat), .slice a n c] ρ (ZR lb rb S v :: Ya S v sp :: ZZ mb es ck :: Zk db k D)
   (fun z ρ' L' => z = .int .i64 (askE (recF S lsn).isSome held (vw pg) lsn l) ∧ ρ.le ρ' ∧ ∃ es' ck' pg' D', MpIn ρ' es' pg' ∧ vw pg' = chgV (recF S lsn).isSome held (vw pg) lsn l ∧ DOk k D' ∧ Lv D D' ∧ FO D' base t held ∧ L' = ZR lb rb S v :: Ya S v sp :: ZZ mb es' ck' :: Zk db k D') := by
 have hl := h.at'.len
 have hbig := h.big
 have hask := asked_spec ρ pb fb lb mb rb db base t hp hf hb S v sp hS k D hD pg es ck hm held hF hL lsn a n c l h
 have hz := fun e => askE_zero (known := (recF S lsn).isSome) (held := held) (pv := vw pg) (lsn := lsn) (l := l) e
 unfold chgV
 generalize askE (recF S lsn).isSome held (vw pg) lsn l = E at *
 generalize askV (recF S lsn).isSome held (vw pg) l = V at *
 refine Za Tryz.func123 rfl rfl rfl fun u R => ?_
 simp only [Zg, kA]
 repeat' (first | (refine Zb (.func 201) ?_; refine qC rfl rfl hask ?_; rintro v1 ρ1 L1 hle1 ⟨rfl, hl1, es1, ck1, pg1, D1, hm1, hv1, hD1, hL1, hF1, rfl⟩; try simp only [kA, List.append_assoc]) | refine zV ?_ | intro _)
 by_cases hE : E = 0
 ·subst hE
  rw [show ((0 : Int) != 0) = false from rfl]
  simp only [if_true]
  obtain ⟨_, hrt, _, hV, _⟩ := hz rfl
  have h1 := h.mono hl1
  have hhas : ∀ s ∈ l, (V s.page).isSome := fun s hs => by rw [hV]; exact holdsV_mem held l (vw pg) s hs
  repeat' (first | refine zV ?_ | intro _)
  clear hz hask
  refine Zl [(0, _), (1, _), (20, _), (21, _)] (fun (ζ : (Nat) × (Hp) × (Pgs) × (List MapEntry) × (Nat)) => [(22, .int .i64 ζ.1), (6, .int .i64 0)]) (fun (ζ : (Nat) × (Hp) × (Pgs) × (List MapEntry) × (Nat)) => ζ.2.1) (fun (ζ : (Nat) × (Hp) × (Pgs) × (List MapEntry) × (Nat)) => ZR lb rb S v :: Ya S v sp :: ZZ mb ζ.2.2.2.1 ζ.2.2.2.2 :: Zk db k D1) (fun (ζ : (Nat) × (Hp) × (Pgs) × (List MapEntry) × (Nat)) => ζ.1 ≤ n ∧ ρ1.le ζ.2.1 ∧ MpIn ζ.2.1 ζ.2.2.2.1 ζ.2.2.1 ∧ vw ζ.2.2.1 = chgsV lsn V (l.take ζ.1)) (fun (ζ : (Nat) × (Hp) × (Pgs) × (List MapEntry) × (Nat)) => n - ζ.1) ((0, ρ1, pg1, es1, ck1)) (⟨Nat.zero_le _, Hp.le_refl _, hm1, hv1⟩) Zc Zc rfl tk ?_
  rintro ⟨i, ρ2, pg2, es2, ck2⟩ hI
  try simp only [kA, List.append_assoc] at hI ⊢
  try dsimp only at hI ⊢
  obtain ⟨hi, hl2, hm2, hvw⟩ := hI
  by_cases hlt : i < n
  ·have hil : i < l.length := by omega
   obtain ⟨b, off, C, T, fr, e1, hb0, hfit, hc⟩ := (h1.mono hl2).at'.get hil
   have htk := take_snoc l i hil
   have hmem := List.getElem_mem hil
   have hp2 := Hp.at' (Hp.le_trans hl1 hl2) hp
   have hkk := hm2.keys
   have huu := hm2.uk
   have hcs := (h1.mono hl2).cin _ hmem
   obtain ⟨g, hg1, hg2⟩ : ∃ g, pg2 (l[i]).page = some g ∧ ((vw pg2 (l[i]).page).getD ((l[i]).c, 0, 0)).2.2 = g.rc := by
    have h5 := chgsV_has (lsn := lsn) (l.take i) (hhas _ hmem)
    rw [← hvw] at h5
    obtain ⟨y, hy⟩ := Option.isSome_iff_exists.1 h5
    obtain ⟨g, q1, q2, q3, q4⟩ := vw_some hy
    exact ⟨g, q1, by rw [hy, q4]; rfl⟩
   have hget := hm2.get (l[i]).page
   rw [hg1] at hget
   simp only [Option.map_some] at hget
   rw [e1]
   generalize l[i] = x at *
   obtain ⟨xp, xw, xc⟩ := x
   dsimp only at hcs hg1 hg2 hget hmem
   have hcp := fun {ρ' : Hp} (hle : ρ2.le ρ') => copied_spec ρ' xc.kind xw xc.rows xc.kids (hcs.mono hle)
   obtain ⟨gc, gw, glsn, grc⟩ := g
   dsimp only at hg2
   repeat' (first | refine zV ?_ | intro _)
   rename_i bx
   refine tpA [0,1,2,3,4,5,6] (.e 7 [] (.e 8 [] .o)) ([ZZ mb es2 ck2, [(bx, .cells ⟨sheV ⟨xp, xw, xc⟩⟩ 215 (0, 0))]]) ?_
   repeat' (refine iT ?_; first | refine rA ?_ | ((refine iE ?_; refine rE ?_) <;> ((try refine Zn ?_); (first | (refine Yj ?_; try intro _)) <;> ((try simp only [kA]); refine Zi ?_; refine rN ?_))))
   all_goals (repeat' (first | (refine Zb (.func 134) ?_; refine qC rfl rfl (hcp (Hp.le_refl _)) ?_; rintro v3 ρ3 L3 hle3 ⟨hl3, w3, rfl, hC3, rfl⟩; have hp3 := Hp.at' hl3 hp2; simp only [kA]) | refine zV ?_ | intro _))
   dsimp only
   rename_i bg
   have hl3' := Hp.le_trans hl2 hl3
   have hput := fun {es' : List MapEntry} {r : Nat} h1 h2 h3 => (hm2.mono hl3).put (n := xp) (g := ⟨xc, w3, lsn, r⟩) (es' := es') h1 h2 h3 hC3
   have hnew : ∀ r, r = (if grc = 0 then lsn else grc) → vw (updG pg2 xp ⟨xc, w3, lsn, r⟩) = chgsV lsn V (l.take (i + 1)) := fun r hr => by
    rw [vw_upd, htk, chgsV_snoc, ← hvw]
    unfold newV
    rw [hg2, hr]
   by_cases h0 : grc = 0
   ·rw [if_pos h0] at hnew
    rw [show (((grc : Nat) : Int) == 0) = true by simpa using h0]
    repeat' (first | refine zV ?_ | intro _)
    refine tpA [0,1,2,3,4,5,6] (.e 7 [] .o) ([[(bg, .cells ⟨pgV ⟨xc, w3, lsn, lsn⟩⟩ 232 (0, 0))], [(bx, .cells ⟨sheV ⟨xp, xw, xc⟩⟩ 215 (0, 0))]]) ?_
    repeat' (refine iT ?_; first | refine rA ?_ | ((refine iE ?_; refine rE ?_) <;> ((try refine Zn ?_); (first | (refine WG rfl rfl rfl hkk huu (fun es' ck' q1 q2 q3 => ?_)) | (refine Yj ?_; try intro _)) <;> ((try simp only [kA]); refine Zi ?_; refine rN ?_))))
    all_goals (repeat' (first | refine zV ?_ | intro _))
    all_goals rw [← e1]
    all_goals refine Zf (i + 1, ρ3, updG pg2 xp ⟨xc, w3, lsn, lsn⟩, es', ck') (⟨hlt, hl3', hput q1 q2 q3, hnew _ rfl⟩) Zc Zc rfl tk inferInstance (by first | omega | (dsimp only; omega))
   ·rw [if_neg h0] at hnew
    rw [show (((grc : Nat) : Int) == 0) = false by simpa using h0]
    repeat' (first | refine zV ?_ | intro _)
    refine tpA [0,1,2,3,4,5,6] (.e 7 [] .o) ([[(bg, .cells ⟨pgV ⟨xc, w3, lsn, grc⟩⟩ 232 (0, 0))], [(bx, .cells ⟨sheV ⟨xp, xw, xc⟩⟩ 215 (0, 0))]]) ?_
    repeat' (refine iT ?_; first | refine rA ?_ | ((refine iE ?_; refine rE ?_) <;> ((try refine Zn ?_); (first | (refine WG rfl rfl rfl hkk huu (fun es' ck' q1 q2 q3 => ?_)) | (refine Yj ?_; try intro _)) <;> ((try simp only [kA]); refine Zi ?_; refine rN ?_))))
    all_goals (repeat' (first | refine zV ?_ | intro _))
    all_goals rw [← e1]
    all_goals refine Zf (i + 1, ρ3, updG pg2 xp ⟨xc, w3, lsn, grc⟩, es', ck') (⟨hlt, hl3', hput q1 q2 q3, hnew _ rfl⟩) Zc Zc rfl tk inferInstance (by first | omega | (dsimp only; omega))
  ·have hi2 : i = l.length := by omega
   rw [hi2, List.take_length] at hvw
   repeat' (first | refine zV ?_ | intro _)
   exact qE (L' := ZR lb rb S v :: Ya S v sp :: ZZ mb es2 ck2 :: Zk db k D1) ⟨rfl, Hp.le_trans hl1 hl2, es2, ck2, pg2, D1, hm2, hvw, hD1, hL1, hF1, rfl⟩
 ·have hcb : (E != 0) = true := by simpa using hE
  rw [hcb]
  simp only [if_neg hE]
  repeat' (first | refine zV ?_ | intro _)
  exact qE (L' := ZR lb rb S v :: Ya S v sp :: ZZ mb es1 ck1 :: Zk db k D1) ⟨rfl, hl1, es1, ck1, pg1, D1, hm1, hv1, hD1, hL1, hF1, rfl⟩
end Go.Proofs.E
namespace Go.Proofs.E
open Go
set_option linter.unusedVariables false
set_option linter.unusedSimpArgs false
set_option linter.unusedSectionVars false
set_option maxRecDepth 4000
set_option maxHeartbeats 1000000
attribute [local irreducible] Yl TL TC TE Spec ZK R1 Hp.le EnvLe TS TR YS Zp
structure Lf where
 lsn : Nat
 cost : Int
deriving DecidableEq
abbrev lfV (x : Lf) : List Value := [.int .u64 x.lsn, .int .i64 x.cost]
abbrev u64c (n : Nat) : Value := .int .u64 n
structure Tx where
 num : Int
 state : Int
 first : Nat
 last : Nat
 undo : Nat
 stack : List Lf
 marks : List Nat
 sv : SV
 mv : SV
abbrev txV (x : Tx) : List Value := [.int .i64 x.num, .int .i64 x.state, .int .u64 x.first, .int .u64 x.last, .int .u64 x.undo, .slice x.sv.a x.sv.n x.sv.c, .slice x.mv.a x.mv.n x.mv.c]
structure Tx.In (ρ : Hp) (x : Tx) : Prop where
 s : AIn ρ 2 lfV x.sv.a x.sv.n x.stack
 m : SIn ρ u64c x.mv.a x.mv.n x.marks
 sb : x.sv.n ≤ 200000000000000
 mb : x.mv.n ≤ 200000000000000
 sc : x.sv.n ≤ x.sv.c
 mc : x.mv.n ≤ x.mv.c
theorem Tx.In.mono {ρ ρ' x} (h : Tx.In ρ x) (hle : ρ.le ρ') : Tx.In ρ' x := ⟨h.s.mono hle, h.m.mono hle, h.sb, h.mb, h.sc, h.mc⟩
structure Ros where
 next : Int
 txns : List Tx
structure RosIn (ρ : Hp) (v : SV) (r : Ros) : Prop where
 at' : AS ρ 7 txV v r.txns
 tx : ∀ x ∈ r.txns, Tx.In ρ x
theorem RosIn.mono {ρ ρ' v r} (h : RosIn ρ v r) (hle : ρ.le ρ') : RosIn ρ' v r := ⟨h.at'.mono hle, fun x hx => (h.tx x hx).mono hle⟩
def tblB : Int → List CkP → Bool
 | _, [] => true
 | last, p :: r => decide (last < p.page ∧ p.page < 64 ∧ 1 ≤ p.since ∧ p.since ≤ 1099511627776) && tblB p.page r
def Xh (d : List CkP) : Bool := tblB (-1) d
theorem ckcheck_spec (ρ : Hp) (s : SV) (l : List CkP) (h : AS ρ 2 YN s l) : Spec Tryz.prog 58 [.slice s.a s.n s.c] ρ [] (fun z ρ' L' => z = .int .i64 (if Xh l then 0 else 320) ∧ ρ' = ρ ∧ L' = []) := by
 have hl := h.at'.len
 have hn := h.big
 have hA := h.at'
 generalize hq : Xh l = q
 unfold Xh at hq
 refine Za Tryz.func58 rfl rfl rfl fun u R => ?_
 simp only [Zg, kA]
 repeat' (first | refine zV ?_ | intro _)
 refine Zl [(6, _), (7, _)] (fun (ζ : (Nat) × (Int)) => [(8, .int .i64 ζ.1), (2, .int .i64 0), (3, .int .i64 ζ.2)]) (fun (ζ : (Nat) × (Int)) => ρ) (fun (ζ : (Nat) × (Int)) => []) (fun (ζ : (Nat) × (Int)) => ζ.1 ≤ s.n ∧ tblB ζ.2 (l.drop ζ.1) = q) (fun (ζ : (Nat) × (Int)) => s.n - ζ.1) ((0, -1)) (⟨Nat.zero_le _, hq⟩) Zc Zc rfl tk ?_
 rintro ⟨k, last⟩ hI
 try simp only [kA, List.append_assoc] at hI ⊢
 try dsimp only at hI ⊢
 obtain ⟨hk, hok⟩ := hI
 by_cases hlt : k < s.n
 ·obtain ⟨b, off, C, T, fr, e1, hb, hfit, hc⟩ := hA.get (show k < l.length by omega)
  rw [List.drop_eq_getElem_cons (show k < l.length by omega), tblB] at hok
  generalize l[k]'(by omega) = y at *
  rw [e1]
  by_cases hy : last < y.page ∧ y.page < 64 ∧ 1 ≤ y.since ∧ y.since ≤ 1099511627776
  ·rw [decide_eq_true hy, Bool.true_and] at hok
   repeat' (first | refine zV ?_ | intro _)
   rw [← e1]
   refine Zf (k + 1, y.page) (⟨hlt, hok⟩) Zc Zc rfl tk inferInstance (by first | omega | (dsimp only; omega))
  ·rw [decide_eq_false hy, Bool.false_and] at hok
   subst hok
   repeat' (first | refine zV ?_ | (refine Wu ?_; refine ZT rfl rfl (fun hb => ?_) (fun hb => ?_) <;> (try simp only [decide_eq_true_eq, decide_eq_false_iff_not, Bool.not_eq_true, Bool.not_eq_false, beq_iff_eq, bne_iff_ne, ne_eq, decide_eq_decide, Bool.not_eq_eq_eq_not, Bool.not_true, Bool.not_false, beq_eq_false_iff_ne, bne_eq_false_iff_eq, Bool.and_eq_true, Bool.or_eq_true, Bool.and_eq_false_imp, Bool.or_eq_false_iff, bq2, bqt, bqf] at hb)) | (refine YB ?_; refine Yd rfl (fun hb => ?_) (fun hb => ?_) <;> (try simp only [decide_eq_true_eq, decide_eq_false_iff_not, Bool.not_eq_true, Bool.not_eq_false, beq_iff_eq, bne_iff_ne, ne_eq, decide_eq_decide, Bool.not_eq_eq_eq_not, Bool.not_true, Bool.not_false, beq_eq_false_iff_ne, bne_eq_false_iff_eq, Bool.and_eq_true, Bool.or_eq_true, Bool.and_eq_false_imp, Bool.or_eq_false_iff, bq2, bqt, bqf] at hb)) | intro _)
   all_goals first | exact qE ⟨rfl, rfl, rfl⟩ | (exfalso; omega)
 ·have hk2 : k = l.length := by omega
  rw [hk2, List.drop_length, tblB] at hok
  subst hok
  repeat' (first | refine zV ?_ | intro _)
  exact qE ⟨rfl, rfl, rfl⟩
theorem RosIn.nil {ρ : Hp} : RosIn ρ nilS ⟨0, []⟩ := ⟨AS.nil, by simp⟩
theorem at1_spec (ρ : Hp) (p : CkP) (n : Int) : Spec Tryz.prog 217 [.agg ⟨YN p⟩, .int .i64 n] ρ [] (fun v ρ' L' => v = .int .i64 (cmpI p.page n) ∧ ρ' = ρ ∧ L' = []) := by
 refine Za Tryz.func217 rfl rfl rfl fun u R => ?_
 simp only [Zg, kA]
 repeat' (first | (refine Zb (.func 218) ?_; refine qR rfl rfl (cmpI_spec _ _ _) ?_; try simp only [kA]) | refine zV ?_ | intro _)
 exact qE ⟨rfl, rfl, rfl⟩
structure AtR (l : List CkP) (page : Int) (i : Nat) (there : Bool) : Prop where
 le : i ≤ l.length
 hit : there = true → ∃ h : i < l.length, l[i].page = page
 lo : Xh l = true → ∀ j (h : j < l.length), j < i → l[j].page < page
 hi : Xh l = true → there = false → ∀ j (h : j < l.length), i ≤ j → page < l[j].page
theorem tblB_lt : ∀ {l : List CkP} {last : Int}, tblB last l = true → (∀ j (h : j < l.length), last < l[j].page ∧ l[j].page < 64 ∧ 1 ≤ l[j].since ∧ l[j].since ≤ 1099511627776) ∧ ∀ i j (h : j < l.length) (hij : i < j), (l[i]'(by omega)).page < l[j].page
 | [], _, _ => ⟨fun j h => by simp at h, fun i j h => by simp at h⟩
 | p :: r, last, h => by
  rw [tblB, Bool.and_eq_true, decide_eq_true_eq] at h
  obtain ⟨⟨h1, h2, h3, h4⟩, h5⟩ := h
  obtain ⟨g1, g2⟩ := tblB_lt h5
  refine ⟨fun j hj => ?_, fun i j hj hij => ?_⟩
  ·cases j with
   | zero => exact ⟨h1, h2, h3, h4⟩
   | succ j =>
    have := g1 j (by simpa using hj)
    simp only [List.getElem_cons_succ]
    exact ⟨by omega, this.2⟩
  ·cases j with
   | zero => omega
   | succ j =>
    cases i with
    | zero => simp only [List.getElem_cons_succ, List.getElem_cons_zero]; exact (g1 j (by simpa using hj)).1
    | succ i => simp only [List.getElem_cons_succ]; exact g2 i j (by simpa using hj) (by omega)
theorem search_spec (ρ : Hp) (a : Option Addr) (n c : Nat) (l : List CkP) (h : AIn ρ 2 YN a n l) (hn : n ≤ 1000000) (page : Int) :
  Spec Tryz.prog 216 [.slice a n c, .int .i64 page, .func (.func 217) ⟨[]⟩ ⟨[]⟩] ρ []
  (fun v ρ' L' => ρ' = ρ ∧ ∃ i there, v = .tuple ⟨[.int .i64 (i : Nat), .bool there]⟩ ∧ AtR l page i there ∧ L' = []) := by
 have hl := h.len
 refine Za Tryz.func216 rfl rfl rfl fun u R => ?_
 simp only [Zg, kA]
 repeat' (first | refine zV ?_ | intro _)
 refine Zl [(0, _), (1, _), (2, _), (6, _), (7, _), (8, _)] (fun (ζ : (Nat) × (Nat)) => [(9, .int .i64 ζ.1), (10, .int .i64 ζ.2)]) (fun (ζ : (Nat) × (Nat)) => ρ) (fun (ζ : (Nat) × (Nat)) => []) (fun (ζ : (Nat) × (Nat)) => ζ.1 ≤ ζ.2 ∧ ζ.2 ≤ n ∧ (Xh l = true → (∀ k (h : k < l.length), k < ζ.1 → l[k].page < page) ∧ ∀ k (h : k < l.length), ζ.2 ≤ k → page ≤ l[k].page)) (fun (ζ : (Nat) × (Nat)) => ζ.2 - ζ.1) ((0, n)) (⟨Nat.zero_le _, Nat.le_refl _, fun _ => ⟨fun k _ h => by omega, fun k h1 h2 => by omega⟩⟩) Zc Zc rfl tk ?_
 rintro ⟨i, j⟩ hI
 try simp only [kA, List.append_assoc] at hI ⊢
 try dsimp only at hI ⊢
 obtain ⟨hij, hj, hok⟩ := hI
 by_cases hlt : i < j
 ·have hm : ((i : Int) + (j : Int)) / 2 ^ 1 = (((i + j) / 2 : Nat) : Int) := by omega
  obtain ⟨b, off, C, T, fr, e1, hb, hfit, hc⟩ := h.get (show (i + j) / 2 < l.length by omega)
  have hq : ∀ x : CkP, l[(i + j) / 2]'(by omega) = x → (x.page < page → Xh l = true → (∀ k (h : k < l.length), k < (i + j) / 2 + 1 → l[k].page < page)) ∧ (page ≤ x.page → Xh l = true → ∀ k (h : k < l.length), (i + j) / 2 ≤ k → page ≤ l[k].page) := fun x hx => by
   refine ⟨fun hp ht k hk hk2 => ?_, fun hp ht k hk hk2 => ?_⟩
   ·have hs := (tblB_lt ht).2 k ((i + j) / 2) (by omega)
    by_cases e : k = (i + j) / 2
    ·subst e; rw [hx]; exact hp
    ·have := hs (by omega); rw [hx] at this; omega
   ·have hs := (tblB_lt ht).2 ((i + j) / 2) k hk
    by_cases e : k = (i + j) / 2
    ·subst e; rw [hx]; exact hp
    ·have := hs (by omega); rw [hx] at this; omega
  generalize hX : l[(i + j) / 2]'(by omega) = x at *
  obtain ⟨q1, q2⟩ := hq x rfl
  rw [e1]
  by_cases hlp : x.page < page
  ·have hcm : cmpI x.page page < 0 := by unfold cmpI; rw [if_pos hlp]; omega
   repeat' (first | (refine iSr ?_; refine tl_y (y_shr (c := 1) rfl rfl (by omega) (by simp [IntKind.bits])) rfl rfl ?_; rw [hm]) | (refine Zb (.tmp 24) ?_; refine qR rfl rfl (at1_spec _ _ _) ?_; try simp only [kA]) | refine zV ?_ | intro _)
   rw [← e1]
   have hs1 := q1 hlp
   refine Zf ((i + j) / 2 + 1, j) (⟨by omega, hj, fun ht => ⟨hs1 ht, (hok ht).2⟩⟩) Zc Zc rfl tk inferInstance (by first | omega | (dsimp only; omega))
  ·have hcm : ¬ cmpI x.page page < 0 := by unfold cmpI; rw [if_neg hlp]; split <;> omega
   repeat' (first | (refine iSr ?_; refine tl_y (y_shr (c := 1) rfl rfl (by omega) (by simp [IntKind.bits])) rfl rfl ?_; rw [hm]) | (refine Zb (.tmp 24) ?_; refine qR rfl rfl (at1_spec _ _ _) ?_; try simp only [kA]) | refine zV ?_ | intro _)
   rw [← e1]
   have hs2 := q2 (by omega)
   refine Zf (i, (i + j) / 2) (⟨by omega, by omega, fun ht => ⟨(hok ht).1, hs2 ht⟩⟩) Zc Zc rfl tk inferInstance (by first | omega | (dsimp only; omega))
 ·obtain rfl : i = j := by omega
  by_cases hin : i < n
  ·obtain ⟨b, off, C, T, fr, e1, hb, hfit, hc⟩ := h.get (show i < l.length by omega)
   have hX : l[i]'(by omega) = l[i]'(by omega) := rfl
   generalize hx : l[i]'(by omega) = x at hc hX
   rw [e1]
   by_cases hp : x.page = page
   ·have hcm : cmpI x.page page = 0 := by unfold cmpI; rw [hp]; simp
    repeat' (first | (refine Zb (.tmp 40) ?_; refine qR rfl rfl (at1_spec _ _ _) ?_; try simp only [kA, hcm]) | refine zV ?_ | intro _)
    exact qE ⟨rfl, i, true, rfl, ⟨by omega, fun _ => ⟨by omega, by rw [hx]; exact hp⟩, fun ht => (hok ht).1, (fun _ e => nomatch e)⟩, rfl⟩
   ·have hcm : cmpI x.page page ≠ 0 := by unfold cmpI; split <;> (try split) <;> omega
    repeat' (first | (refine Zb (.tmp 40) ?_; refine qR rfl rfl (at1_spec _ _ _) ?_; try simp only [kA]) | refine zV ?_ | intro _)
    refine qE ⟨rfl, i, false, rfl, ⟨by omega, (fun e => nomatch e), fun ht => (hok ht).1, fun ht _ k hk hik => ?_⟩, rfl⟩
    have h1 := (hok ht).2 k hk hik
    by_cases e : i = k
    ·subst e; rw [hx]; rw [hx] at h1; omega
    ·have h2 := (tblB_lt ht).2 i k hk (by omega)
     have h3 := (hok ht).2 i (by omega) (Nat.le_refl _)
     omega
  ·repeat' (first | refine zV ?_ | intro _)
   exact qE ⟨rfl, i, false, rfl, ⟨by omega, (fun e => nomatch e), fun ht => (hok ht).1, fun ht _ k hk hik => by omega⟩, rfl⟩
theorem at_spec (ρ : Hp) (s : SV) (l : List CkP) (h : AS ρ 2 YN s l) (page : Int) :
  Spec Tryz.prog 140 [.slice s.a s.n s.c, .int .i64 page] ρ [] (fun v ρ' L' => ρ' = ρ ∧ ∃ i there, v = .tuple ⟨[.int .i64 (i : Nat), .bool there]⟩ ∧ AtR l page i there ∧ L' = []) := by
 have hs := search_spec ρ s.a s.n s.c l h.at' h.big page
 refine Za Tryz.func140 rfl rfl rfl fun u R => ?_
 simp only [Zg, kA]
 repeat' (first | (refine Zb (.func 216) ?_; refine qC rfl rfl (hs) ?_; rintro v ρ' L' hle ⟨rfl, i, there, rfl, hA, rfl⟩ <;> (try simp only [kA])) | refine zV ?_ | intro _)
 exact qE ⟨rfl, i, there, rfl, hA, rfl⟩
end Go.Proofs.E
