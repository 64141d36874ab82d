/- Disks of layer 2 and rings of layer 4 as data, and what their functions come to. Part 5 of 5. -/
import Derived.Test.YtkgenlmcdbafmaaD4
namespace Go.Proofs.E
open Go
set_option linter.unusedVariables false
set_option linter.unusedSimpArgs false
set_option linter.unusedSectionVars false
set_option maxRecDepth 4000
set_option maxHeartbeats 1000000
attribute [local irreducible] Yl TL TC TE Spec YSpec R1 Hp.le EnvLe TS TR YS Stays
/-! ## what a disk says of a ring -/
structure RO (R : RgS) (D : DS) : Prop where
  ok : R.Ok
  live : R.broken = false
  num : R.h.first < 1099511627776
  dok : D.Ok
  alive : D.dead = false
  empty : emptyC D.secs
  len : R.h.size + 2 ≤ D.secs.length
  head : img D (R.h.turn % 2) = headB R.h
  other : (readB (img D ((R.h.turn + 1) % 2))).2 = true → (readB (img D ((R.h.turn + 1) % 2))).1.turn < R.h.turn
  has : Has (img D) R.h.size R.h.turn R.h.first R.h.place R.ents
  none : R.next < 1099511627776 → NoAt (img D) R.h.size (R.h.place + R.used) R.next
  bound : ∀ q, q < R.h.size → turnOf (img D (2 + q)) ≤ R.h.turn ∧ numOf (img D (2 + q)) ≤ R.next
/-- and nothing of the entry that is next was written in this turn -/
def Frs (R : RgS) (D : DS) : Prop := ∀ q, q < R.h.size → ¬ (turnOf (img D (2 + q)) = R.h.turn ∧ numOf (img D (2 + q)) = R.next)
theorem mod2 (t : Nat) : t % 2 = 0 ∧ (t + 1) % 2 = 1 ∨ t % 2 = 1 ∧ (t + 1) % 2 = 0 := by omega
theorem RO.counts {R : RgS} {D : DS} (h : RO R D) : countsB (img D 0) (img D 1) = (R.h, true) := by
  have hr := readB_headB h.ok.right h.num
  have ho := h.other
  have hh := h.head
  rcases mod2 R.h.turn with ⟨e1, e2⟩ | ⟨e1, e2⟩
  · rw [e1] at hh; rw [e2] at ho
    unfold countsB
    rw [hh, hr]
    cases hy : (readB (img D 1)).2 with
    | false => simp
    | true => have := ho hy; simp; omega
  · rw [e1] at hh; rw [e2] at ho
    unfold countsB
    rw [hh, hr]
    cases hy : (readB (img D 0)).2 with
    | false => simp
    | true => have := ho hy; simp; omega
/-- what is on a disk behind writes, settled by some of them -/
theorem img_settled {s : Secs} {keep : Nat → Bool} {D : DS} {l : List (Nat × Blk)} (he : emptyC s) (hs : D.secs = settled keep (putAll s l)) (D0 : DS) (h0 : D0.secs = s) (i : Nat) : img D i = img D0 i ∨ ∃ p ∈ l, p.1 = i ∧ img D i = p.2 := by
  by_cases hi : i < s.length
  · have hl : i < D.secs.length := by rw [hs, settled_length, putAll_length]; exact hi
    have h' : i < (settled keep (putAll s l)).length := by rw [settled_length, putAll_length]; exact hi
    have e1 : img D i = (settled keep (putAll s l))[i].1 := by rw [img_at hl]; congr 1; simp [hs]
    have e2 : img D0 i = s[i].1 := by rw [img_at (by rw [h0]; exact hi)]; simp [h0]
    rcases settled_one (keep := keep) he l hi h' with h | ⟨p, hp, h1, h2⟩
    · left; rw [e1, e2, h]
    · right; exact ⟨p, hp, h1, by rw [e1, h2]⟩
  · left
    have a : D.secs[i]? = none := List.getElem?_eq_none (by rw [hs, settled_length, putAll_length]; omega)
    have b : D0.secs[i]? = none := List.getElem?_eq_none (by rw [h0]; omega)
    unfold img; rw [a, b]
theorem img_all {s : Secs} {D : DS} {l : List (Nat × Blk)} (he : emptyC s) (hs : D.secs = settled (fun _ => true) (putAll s l)) (D0 : DS) (h0 : D0.secs = s) {i : Nat} (hi : i < s.length) : (img D i = img D0 i ∧ ∀ p ∈ l, p.1 ≠ i) ∨ ∃ p ∈ l, p.1 = i ∧ img D i = p.2 := by
  have hl : i < D.secs.length := by rw [hs, settled_length, putAll_length]; exact hi
  have h' : i < (settled (fun _ => true) (putAll s l)).length := by rw [settled_length, putAll_length]; exact hi
  have e1 : img D i = (settled (fun _ => true) (putAll s l))[i].1 := by rw [img_at hl]; congr 1; simp [hs]
  have e2 : img D0 i = s[i].1 := by rw [img_at (by rw [h0]; exact hi)]; simp [h0]
  rcases settled_all he l hi h' with ⟨h, h2⟩ | ⟨p, hp, h1, h2⟩
  · left; exact ⟨by rw [e1, e2, h], h2⟩
  · right; exact ⟨p, hp, h1, by rw [e1, h2]⟩
/-- a head in the place of the older one: whatever else there is stays -/
theorem RO.newHead {R : RgS} {D D' : DS} {h' : Hd} {l : List Bs} {u : Nat} (h : RO R D) (hok : D'.Ok) (hal : D'.dead = false) (hem : emptyC D'.secs) (hlen : D'.secs.length = D.secs.length)
    (hi : img D' ((R.h.turn + 1) % 2) = headB h') (hs : ∀ i, i ≠ (R.h.turn + 1) % 2 → img D' i = img D i) (ht : h'.turn = R.h.turn + 1) (hz : h'.size = R.h.size)
    (hR : RgS.Ok ⟨h', l, u, false⟩) (hnum : h'.first < 1099511627776) (hhas : Has (img D) h'.size h'.turn h'.first h'.place l) (hpl : (h'.place + u) % h'.size = (R.h.place + R.used) % h'.size) (hn : h'.first + l.length = R.next) :
    RO ⟨h', l, u, false⟩ D' ∧ Frs ⟨h', l, u, false⟩ D' := by
  have hsec : ∀ q, img D' (2 + q) = img D (2 + q) := fun q => hs (2 + q) (by omega)
  have hold : img D' (R.h.turn % 2) = headB R.h := by rw [hs _ (by omega)]; exact h.head
  have hrd := readB_headB h.ok.right h.num
  refine ⟨⟨hR, rfl, hnum, hok, hal, hem, by dsimp only; rw [hlen, hz]; exact h.len, by dsimp only; rw [ht]; exact hi, ?_, ?_, ?_, ?_⟩, ?_⟩
  · dsimp only
    rw [ht, show (R.h.turn + 1 + 1) % 2 = R.h.turn % 2 by omega, hold, hrd]
    intro _; dsimp only; omega
  · exact hhas.frame rfl (fun j _ => hsec _)
  · intro hlt t b h1 h1' h2 h3
    dsimp only [RgS.next] at hlt ⊢
    rw [hn] at hlt ⊢
    dsimp only at h3
    rw [hz] at h3 hpl ⊢
    obtain ⟨k, hk, hne⟩ := h.none hlt t b h1 h1' h2 h3
    refine ⟨k, hk, ?_⟩
    have e : (h'.place + u + k) % R.h.size = (R.h.place + R.used + k) % R.h.size := by rw [Nat.add_mod, hpl, ← Nat.add_mod]
    rw [e, hsec]; exact hne
  · intro q hq
    dsimp only [RgS.next] at hq ⊢
    rw [hz] at hq
    have := h.bound q hq
    rw [hsec, hn, ht]; omega
  · intro q hq hc
    dsimp only [RgS.next] at hq hc
    rw [hz] at hq
    have := h.bound q hq
    rw [hsec, ht] at hc; omega
theorem headL_idx {h : Hd} {p : Nat × Blk} (hp : p ∈ headL h) : p.1 = h.turn % 2 ∧ p.2 = headB h := by
  simp only [headL, List.mem_singleton] at hp; subst hp; exact ⟨rfl, rfl⟩
theorem emptyC_lays {D : DS} {l : List (Nat × Blk)} {keep : Nat → Bool} (h : D.secs = settled keep (putAll D.secs l)) : emptyC D.secs := by rw [h]; exact emptyC_settled
/-- what a ring is behind an Open -/
def RgS.again (R : RgS) : RgS := { R with h := { R.h with turn := R.h.turn + 1 } }
theorem RO.open {R : RgS} {D : DS} (h : RO R D) (hc : D.Calm) (ht : R.h.turn < 1073741824) : ∃ D', openR D = (some R.again, D', 0) ∧ RO R.again D' ∧ Frs R.again D' ∧ D'.Calm ∧ D'.secs.length = D.secs.length := by
  have hcl : D.Clean := ⟨h.dok, hc, h.empty⟩
  have hsz := h.ok.size
  have hlen := h.len
  have hus := h.ok.used
  have hnx := h.ok.next
  obtain ⟨D1, e1, c1, s1⟩ := hcl.read (i := 0) (by omega)
  obtain ⟨D2, e2, c2, s2⟩ := c1.read (i := 1) (by rw [s1]; omega)
  rw [img_congr s1] at e2
  have hcnt := h.counts
  have hs2 : D2.secs = D.secs := s2.trans s1
  obtain ⟨D3, e3, c3, s3⟩ := found_clean R.ents (R.h.size + 1) ⟨R.h, [], 0, false⟩ D2 c2 (by dsimp only; omega) (by rw [hs2]; exact hlen) (by dsimp only; omega) (by
      rw [img_congr hs2]; simpa [RgS.next] using h.has) h.ok.long (by dsimp only; have := h.ok.fit; omega) (fun hlt => by
      rw [img_congr hs2]
      have := h.none (by unfold RgS.next; simpa [RgS.next] using hlt)
      rw [hus] at this
      simpa [RgS.next] using this) (by unfold RgS.next at hnx; simpa [RgS.next] using hnx) (by have := usedL_len R.ents; have := h.ok.fit; omega)
  have hs3 : D3.secs = D.secs := s3.trans hs2
  have hidx : ∀ p ∈ headL { R.h with turn := R.h.turn + 1 }, p.1 < D3.secs.length := fun p hp => by
    rw [(headL_idx hp).1, hs3]; omega
  obtain ⟨l0, l1, l2⟩ := Calm_lays (headL { R.h with turn := R.h.turn + 1 }) D3 c3.calm hidx
  have hD4ok : (DS.lays (headL { R.h with turn := R.h.turn + 1 }) D3).1.Ok := c3.ok.lays (fun p hp => by rw [(headL_idx hp).2]; exact headB_len _)
  have hall := fun {i : Nat} (hi : i < D3.secs.length) => img_all (D := (DS.lays (headL { R.h with turn := R.h.turn + 1 }) D3).1) c3.empty l2 D3 rfl hi
  have hR : ({ R with h := { R.h with turn := R.h.turn + 1 } } : RgS) = ⟨{ R.h with turn := R.h.turn + 1 }, R.ents, R.used, false⟩ := by rw [← h.live]
  have hok' : RgS.Ok ⟨{ R.h with turn := R.h.turn + 1 }, R.ents, R.used, false⟩ := ⟨⟨by dsimp only; omega, by dsimp only; omega⟩, h.ok.size, h.ok.first, h.ok.next, h.ok.place, h.ok.note, h.ok.used, h.ok.fit, h.ok.long⟩
  have hnew := h.newHead (D' := (DS.lays (headL { R.h with turn := R.h.turn + 1 }) D3).1) (h' := { R.h with turn := R.h.turn + 1 }) (l := R.ents) (u := R.used) hD4ok l1.dead (by rw [l2]; exact emptyC_settled)
    (by rw [lays_length, hs3]) (by
      rcases hall (i := (R.h.turn + 1) % 2) (by rw [hs3]; omega) with ⟨_, hno⟩ | ⟨p, hp, _, hq⟩
      · exact absurd rfl (hno _ (List.mem_singleton.2 rfl))
      · rw [hq, (headL_idx hp).2]) (fun i hi => by
      rw [← img_congr hs3]
      rcases img_settled c3.empty l2 D3 rfl i with he | ⟨p, hp, h1, _⟩
      · exact he
      · exact absurd (by rw [← h1, (headL_idx hp).1]) hi) rfl rfl hok' h.num (h.has.le (by dsimp only; omega)) rfl rfl
  refine ⟨(DS.lays (headL { R.h with turn := R.h.turn + 1 }) D3).1, ?_, by unfold RgS.again; rw [hR]; exact hnew.1, by unfold RgS.again; rw [hR]; exact hnew.2, l1, by rw [lays_length, hs3]⟩
  have e1' : D.read 0 = (D1, img D 0, 0) := e1
  have e2' : D1.read 1 = (D2, img D 1, 0) := e2
  have hul : usedL R.ents = R.used := hus.symm
  have hfin : openH R.h D2 = (some ⟨{ R.h with turn := R.h.turn + 1 }, R.ents, R.used, false⟩, (DS.lays (headL { R.h with turn := R.h.turn + 1 }) D3).1, 0) := by
    unfold openH
    rw [if_neg (by rw [hs2]; omega), e3, if_neg (by simp), if_neg (by omega), if_pos l0]
    simp only [List.nil_append, Nat.zero_add, hul]
    refine Prod.ext rfl (Prod.ext rfl l0)
  unfold openR
  rw [e1', if_neg (by simp), e2', if_neg (by simp), hcnt, if_neg (by simp), hfin]
  unfold RgS.again
  rw [hR]
end Go.Proofs.E

namespace Go.Proofs.E
open Go
set_option linter.unusedVariables false
set_option linter.unusedSimpArgs false
set_option linter.unusedSectionVars false
set_option maxRecDepth 4000
set_option maxHeartbeats 1000000
attribute [local irreducible] Yl TL TC TE Spec YSpec R1 Hp.le EnvLe TS TR YS Stays
/-! ## entries that are appended, or cut off -/
theorem mod_inj {p m i j : Nat} (h : (p + i) % m = (p + j) % m) (hi : i < m) (hj : j < m) : i = j := by
  have key : ∀ i j : Nat, i < m → j < m → i ≤ j → (p + i) % m = (p + j) % m → i = j := by
    intro i j hi hj hle h
    have h1 := Nat.div_add_mod (p + i) m
    have h2 := Nat.div_add_mod (p + j) m
    have h3 : m * ((p + j) / m) = m * ((p + i) / m) + (j - i) := by omega
    have h4 : (j - i) = m * ((p + j) / m - (p + i) / m) := by rw [Nat.mul_sub]; omega
    rcases Nat.eq_zero_or_pos ((p + j) / m - (p + i) / m) with h0 | h0
    · rw [h0] at h4; omega
    · have : m * 1 ≤ m * ((p + j) / m - (p + i) / m) := Nat.mul_le_mul_left m h0
      omega
  rcases Nat.le_total i j with hle | hle
  · exact key i j hi hj hle h
  · exact (key j i hj hi hle h.symm).symm
theorem partsL_mem {h : Hd} {n at' : Nat} {b : Bs} {p : Nat × Blk} : p ∈ partsL h n b at' ↔ ∃ k, k < sects b.length ∧ p = (2 + (at' + k) % h.size, partB h.turn n b k) := by
  simp only [partsL, List.mem_map, List.mem_range]
  constructor
  · rintro ⟨k, h1, rfl⟩; exact ⟨k, h1, rfl⟩
  · rintro ⟨k, h1, rfl⟩; exact ⟨k, h1, rfl⟩
def RgS.plus (R : RgS) (b : Bs) : RgS := ⟨R.h, R.ents ++ [b], R.used + sects b.length, false⟩
section
variable {R : RgS} {D D' : DS} {b : Bs}
structure Wrote (R : RgS) (D D' : DS) (b : Bs) : Prop where
  ok : D'.Ok
  alive : D'.dead = false
  empty : emptyC D'.secs
  len : D'.secs.length = D.secs.length
  at' : ∀ i, img D' i = img D i ∨ ∃ k, k < sects b.length ∧ i = 2 + (R.h.place + R.used + k) % R.h.size ∧ img D' i = partB R.h.turn R.next b k
theorem Wrote.old (w : Wrote R D D' b) (h : RO R D) (hfit : sects b.length ≤ R.h.size - R.used) {j : Nat} (hj : j < R.used) : img D' (2 + (R.h.place + j) % R.h.size) = img D (2 + (R.h.place + j) % R.h.size) := by
  rcases w.at' (2 + (R.h.place + j) % R.h.size) with h1 | ⟨k, hk, he, _⟩
  · exact h1
  · have := mod_inj (p := R.h.place) (i := j) (j := R.used + k) (m := R.h.size) (by rw [← Nat.add_assoc]; omega) (by omega) (by omega)
    omega
theorem Wrote.heads (w : Wrote R D D' b) {i : Nat} (hi : i < 2) : img D' i = img D i := by
  rcases w.at' i with h1 | ⟨k, hk, he, _⟩
  · exact h1
  · omega
theorem Wrote.bound (w : Wrote R D D' b) (h : RO R D) (hn : R.next < 1099511627776) {q : Nat} (hq : q < R.h.size) : turnOf (img D' (2 + q)) ≤ R.h.turn ∧ numOf (img D' (2 + q)) ≤ R.next := by
  have ht := h.ok.turn
  rcases w.at' (2 + q) with h1 | ⟨k, hk, _, he⟩
  · rw [h1]; exact h.bound q hq
  · rw [he, partB_turn (by omega), partB_num hn]; omega
theorem Wrote.whole (w : Wrote R D D' b) (h : RO R D) (hb : b.length ≤ 8000) (hfit : sects b.length ≤ R.h.size - R.used) (hn : R.next < 1099511627776)
    (hall : ∀ k, k < sects b.length → img D' (2 + (R.h.place + R.used + k) % R.h.size) = partB R.h.turn R.next b k) : RO (R.plus b) D' ∧ Frs (R.plus b) D' := by
  have ht := h.ok.turn
  have hnx : (R.plus b).next = R.next + 1 := by simp [RgS.plus, RgS.next]; omega
  have hsz := h.ok.size
  refine ⟨⟨⟨h.ok.turn, h.ok.size, h.ok.first, by rw [hnx]; omega, h.ok.place, h.ok.note, ?_, ?_, ?_⟩, rfl, h.num, w.ok, w.alive, w.empty, by rw [w.len]; exact h.len, ?_, ?_, ?_, ?_, ?_⟩, ?_⟩
  · simp only [RgS.plus, usedL_append, h.ok.used]; simp [usedL]
  · have := h.ok.fit
    simp only [RgS.plus]; omega
  · intro c hc
    simp only [RgS.plus, List.mem_append, List.mem_singleton] at hc
    rcases hc with hc | rfl
    · exact h.ok.long c hc
    · exact hb
  · rw [w.heads (by simp only [RgS.plus]; omega)]; exact h.head
  · intro h1
    rw [w.heads (by simp only [RgS.plus]; omega)] at h1 ⊢
    exact h.other h1
  · have hu := h.ok.used
    refine Has.append (h.has.frame rfl (fun j hj => w.old h hfit (by rw [hu]; exact hj))) ⟨⟨R.h.turn, ht.1, Nat.le_refl _, fun k hk => ?_⟩, trivial⟩
    have := hall k hk
    rw [hu] at this; exact this
  · intro hlt t c h1 h2 h3 h4
    rw [hnx] at hlt ⊢
    refine ⟨0, by have := sects_pos c.length; omega, fun he => ?_⟩
    have hb1 := (w.bound h hn (q := ((R.plus b).h.place + (R.plus b).used + 0) % (R.plus b).h.size) (Nat.mod_lt _ (by simp only [RgS.plus]; omega))).2
    rw [he, partB_num hlt] at hb1
    omega
  · intro q hq
    have := w.bound h hn hq
    rw [hnx]; simp only [RgS.plus]; omega
  · intro q hq hc
    have := (w.bound h hn hq).2
    rw [hnx] at hc; omega
theorem Wrote.torn (w : Wrote R D D' b) (h : RO R D) (hf : Frs R D) (hb : b.length ≤ 8000) (hfit : sects b.length ≤ R.h.size - R.used) (hn : R.next < 1099511627776)
    {k0 : Nat} (hk0 : k0 < sects b.length) (hne : img D' (2 + (R.h.place + R.used + k0) % R.h.size) ≠ partB R.h.turn R.next b k0) : RO R D' := by
  have ht := h.ok.turn
  have hsz := h.ok.size
  refine ⟨h.ok, h.live, h.num, w.ok, w.alive, w.empty, by rw [w.len]; exact h.len, ?_, ?_, ?_, ?_, fun q hq => w.bound h hn hq⟩
  · rw [w.heads (by omega)]; exact h.head
  · intro h1
    rw [w.heads (by omega)] at h1 ⊢
    exact h.other h1
  · have hu := h.ok.used
    exact h.has.frame rfl (fun j hj => w.old h hfit (by rw [hu]; exact hj))
  · intro hlt t c h1 h1' h2 h3
    by_cases hex : ∃ k, k < sects c.length ∧ img D' (2 + (R.h.place + R.used + k) % R.h.size) ≠ partB t R.next c k
    · exact hex
    · exfalso
      have hall : ∀ k, k < sects c.length → img D' (2 + (R.h.place + R.used + k) % R.h.size) = partB t R.next c k := fun k hk => by
        by_cases he : img D' (2 + (R.h.place + R.used + k) % R.h.size) = partB t R.next c k
        · exact he
        · exact absurd ⟨k, hk, he⟩ hex
      by_cases hT : t = R.h.turn
      · subst hT
        have hnew : ∀ k, k < sects c.length → k < sects b.length ∧ img D' (2 + (R.h.place + R.used + k) % R.h.size) = partB R.h.turn R.next b k := fun k hk => by
          rcases w.at' (2 + (R.h.place + R.used + k) % R.h.size) with e | ⟨k2, hk2, he, e⟩
          · exfalso
            have hq : (R.h.place + R.used + k) % R.h.size < R.h.size := Nat.mod_lt _ (by omega)
            refine hf _ hq ?_
            rw [← e, hall k hk, partB_turn (by omega), partB_num hlt]
            exact ⟨rfl, rfl⟩
          · have : k = k2 := mod_inj (p := R.h.place + R.used) (m := R.h.size) (by omega) (by omega) (by omega)
            subst this
            exact ⟨hk2, e⟩
        have h0 := sects_pos c.length
        have hsame := (hall 0 (by omega)).symm.trans (hnew 0 (by omega)).2
        have hlen : c.length = b.length := by
          have := congrArg sizeOf' hsame
          rwa [partB_size (by omega), partB_size (by omega)] at this
        exact hne (hnew k0 (by rw [hlen]; exact hk0)).2
      · obtain ⟨k, hk, hne2⟩ := h.none hlt t c h1 h1' h2 h3
        refine hne2 ?_
        rcases w.at' (2 + (R.h.place + R.used + k) % R.h.size) with e | ⟨k2, hk2, he, e⟩
        · rw [← e]; exact hall k hk
        · exfalso
          have := (hall k hk).symm.trans e
          have := congrArg turnOf this
          rw [partB_turn (by omega), partB_turn (by omega)] at this
          exact hT this
end
theorem RO.wrote {R : RgS} {D D' : DS} {b : Bs} {keep : Nat → Bool} {l : List (Nat × Blk)} (h : RO R D) (hl : l <+: partsL R.h R.next b (R.h.place + R.used)) (hok : D'.Ok) (hal : D'.dead = false) (hs : D'.secs = settled keep (putAll D.secs l)) : Wrote R D D' b :=
  ⟨hok, hal, by rw [hs]; exact emptyC_settled, by rw [hs, settled_length, putAll_length], fun i => by
    rcases img_settled h.empty hs D rfl i with e | ⟨p, hp, h1, h2⟩
    · exact .inl e
    · obtain ⟨k, hk, rfl⟩ := partsL_mem.1 (hl.subset hp)
      exact .inr ⟨k, hk, h1.symm, h2⟩⟩
theorem RO.append {R : RgS} {D : DS} {b : Bs} (h : RO R D) (hf : Frs R D) (hb : b.length ≤ 8000) (hfit : sects b.length ≤ R.h.size - R.used) (hn : R.next < 1099511627776) :
    ((DS.lays (partsL R.h R.next b (R.h.place + R.used)) D).2 = 0 → RO (R.plus b) (DS.lays (partsL R.h R.next b (R.h.place + R.used)) D).1 ∧ Frs (R.plus b) (DS.lays (partsL R.h R.next b (R.h.place + R.used)) D).1) ∧
    ((DS.lays (partsL R.h R.next b (R.h.place + R.used)) D).2 ≠ 0 → ∀ keep, RO R ((DS.lays (partsL R.h R.next b (R.h.place + R.used)) D).1.crash keep) ∨ RO (R.plus b) ((DS.lays (partsL R.h R.next b (R.h.place + R.used)) D).1.crash keep)) := by
  have hsz := h.ok.size
  have hlen := h.len
  have hok : (DS.lays (partsL R.h R.next b (R.h.place + R.used)) D).1.Ok := h.dok.lays partsL_len
  have hidx : ∀ p ∈ partsL R.h R.next b (R.h.place + R.used), p.1 < D.secs.length := fun p hp => by
    obtain ⟨k, hk, rfl⟩ := partsL_mem.1 hp
    have := Nat.mod_lt (R.h.place + R.used + k) (show 0 < R.h.size by omega)
    dsimp only; omega
  rcases lays_out (partsL R.h R.next b (R.h.place + R.used)) D h.alive hidx with ⟨l', hl', hs, hc⟩ | ⟨hs, hc, hal⟩
  · refine ⟨fun h0 => absurd h0 hc, fun _ keep => ?_⟩
    have w : Wrote R D ((DS.lays (partsL R.h R.next b (R.h.place + R.used)) D).1.crash keep) b := h.wrote hl' hok.crash rfl (by simp only [DS.crash]; rw [hs])
    by_cases hex : ∃ k, k < sects b.length ∧ img ((DS.lays (partsL R.h R.next b (R.h.place + R.used)) D).1.crash keep) (2 + (R.h.place + R.used + k) % R.h.size) ≠ partB R.h.turn R.next b k
    · obtain ⟨k, hk, hne⟩ := hex
      exact .inl (w.torn h hf hb hfit hn hk hne)
    · refine .inr (w.whole h hb hfit hn (fun k hk => ?_)).1
      by_cases he : img ((DS.lays (partsL R.h R.next b (R.h.place + R.used)) D).1.crash keep) (2 + (R.h.place + R.used + k) % R.h.size) = partB R.h.turn R.next b k
      · exact he
      · exact absurd ⟨k, hk, he⟩ hex
  · refine ⟨fun _ => ?_, fun h0 => absurd hc h0⟩
    have w := h.wrote (List.prefix_refl _) hok hal hs
    refine w.whole h hb hfit hn (fun k hk => ?_)
    have hm : (2 + (R.h.place + R.used + k) % R.h.size, partB R.h.turn R.next b k) ∈ partsL R.h R.next b (R.h.place + R.used) := partsL_mem.2 ⟨k, hk, rfl⟩
    rcases img_all h.empty hs D rfl (hidx _ hm) with ⟨_, hno⟩ | ⟨p, hp, h1, h2⟩
    · exact absurd rfl (hno _ hm)
    · obtain ⟨k2, hk2, rfl⟩ := partsL_mem.1 hp
      dsimp only at h1 h2
      have : k2 = k := mod_inj (p := R.h.place + R.used) (m := R.h.size) (by omega) (by omega) (by omega)
      subst this
      exact h2
def RgS.minus (R : RgS) (n : Nat) (note : Bs) : RgS := ⟨R.cutH n note, R.ents.drop n, R.used - usedL (R.ents.take n), false⟩
theorem RO.cut {R : RgS} {D : DS} {n : Nat} {note : Bs} (h : RO R D) (hn : n ≤ R.ents.length) (ht : R.h.turn < 1073741824) (hnote : note.length ≤ 32) (hnum : R.next < 1099511627776) :
    ((DS.lays (headL (R.cutH n note)) D).2 = 0 → RO (R.minus n note) (DS.lays (headL (R.cutH n note)) D).1 ∧ Frs (R.minus n note) (DS.lays (headL (R.cutH n note)) D).1) ∧
    ((DS.lays (headL (R.cutH n note)) D).2 ≠ 0 → ∀ keep, RO R ((DS.lays (headL (R.cutH n note)) D).1.crash keep) ∨ RO (R.minus n note) ((DS.lays (headL (R.cutH n note)) D).1.crash keep)) := by
  have hsz := h.ok.size
  have hlen := h.len
  have hus := h.ok.used
  have hft := h.ok.fit
  have htd := usedL_take_drop R.ents n
  have hnx := h.ok.next
  have hfi := h.ok.first
  have htu := h.ok.turn
  have hok : (DS.lays (headL (R.cutH n note)) D).1.Ok := h.dok.lays (fun p hp => by rw [(headL_idx hp).2]; exact headB_len _)
  have hidx : ∀ p ∈ headL (R.cutH n note), p.1 < D.secs.length := fun p hp => by rw [(headL_idx hp).1]; omega
  have hm : 0 < R.h.size := by omega
  have hok' : RgS.Ok (R.minus n note) := ⟨⟨by simp [RgS.minus, RgS.cutH, Hd.cut], by simp [RgS.minus, RgS.cutH, Hd.cut]; omega⟩, hsz, by simp only [RgS.minus, RgS.cutH, Hd.cut]; omega, by simp only [RgS.minus, RgS.cutH, Hd.cut, RgS.next, List.length_drop] at hnx ⊢; omega, Nat.mod_lt _ hm, hnote, by simp only [RgS.minus]; omega, by simp only [RgS.minus, RgS.cutH, Hd.cut]; omega, fun c hc => h.ok.long c (List.mem_of_mem_drop hc)⟩
  have hhas : Has (img D) (R.cutH n note).size (R.cutH n note).turn (R.cutH n note).first (R.cutH n note).place (R.ents.drop n) := by
    have := (h.has.drop n hn).le (T' := R.h.turn + 1) (by omega)
    exact this.frame (by simp [RgS.cutH, Hd.cut]) (fun _ _ => rfl)
  have hpl : ((R.cutH n note).place + (R.used - usedL (R.ents.take n))) % (R.cutH n note).size = (R.h.place + R.used) % (R.cutH n note).size := by
    simp only [RgS.cutH, Hd.cut]
    rw [Nat.add_mod, Nat.mod_mod, ← Nat.add_mod]
    congr 1; omega
  have hfn : (R.cutH n note).first + (R.ents.drop n).length = R.next := by simp only [RgS.cutH, Hd.cut, RgS.next, List.length_drop]; omega
  have key : ∀ {D' : DS} {keep : Nat → Bool} {l : List (Nat × Blk)}, l <+: headL (R.cutH n note) → D'.Ok → D'.dead = false → D'.secs = settled keep (putAll D.secs l) → img D' ((R.h.turn + 1) % 2) = headB (R.cutH n note) → RO (R.minus n note) D' ∧ Frs (R.minus n note) D' := by
    intro D' keep l hl hok1 hal hs hi
    refine h.newHead hok1 hal (by rw [hs]; exact emptyC_settled) (by rw [hs, settled_length, putAll_length]) hi (fun i hi => ?_) rfl rfl hok' (by unfold RgS.next at hnum; simp only [RgS.cutH, Hd.cut]; omega) hhas hpl hfn
    rcases img_settled h.empty hs D rfl i with e | ⟨p, hp, h1, _⟩
    · exact e
    · exact absurd (by rw [← h1, (headL_idx (hl.subset hp)).1]; rfl) hi
  rcases lays_out (headL (R.cutH n note)) D h.alive hidx with ⟨l', hl', hs, hc⟩ | ⟨hs, hc, hal⟩
  · refine ⟨fun h0 => absurd h0 hc, fun _ keep => ?_⟩
    have hs2 : ((DS.lays (headL (R.cutH n note)) D).1.crash keep).secs = settled keep (putAll D.secs l') := by simp only [DS.crash]; rw [hs]
    have hsame : ∀ i, i ≠ (R.h.turn + 1) % 2 → img ((DS.lays (headL (R.cutH n note)) D).1.crash keep) i = img D i := fun i hi => by
      rcases img_settled h.empty hs2 D rfl i with e | ⟨p, hp, h1, _⟩
      · exact e
      · exact absurd (by rw [← h1, (headL_idx (hl'.subset hp)).1]; rfl) hi
    rcases img_settled h.empty hs2 D rfl ((R.h.turn + 1) % 2) with e | ⟨p, hp, _, h2⟩
    · left
      have hi : ∀ i, img ((DS.lays (headL (R.cutH n note)) D).1.crash keep) i = img D i := fun i => by
        by_cases he : i = (R.h.turn + 1) % 2
        · rw [he]; exact e
        · exact hsame i he
      have hi' : img ((DS.lays (headL (R.cutH n note)) D).1.crash keep) = img D := funext hi
      exact ⟨h.ok, h.live, h.num, hok.crash, rfl, by rw [hs2]; exact emptyC_settled, by rw [hs2, settled_length, putAll_length]; exact h.len, by rw [hi']; exact h.head, by rw [hi']; exact h.other, by rw [hi']; exact h.has, by rw [hi']; exact h.none, by rw [hi']; exact h.bound⟩
    · right
      exact (key hl' hok.crash rfl hs2 (by rw [h2, (headL_idx (hl'.subset hp)).2])).1
  · refine ⟨fun _ => ?_, fun h0 => absurd hc h0⟩
    refine key (List.prefix_refl _) hok hal hs ?_
    rcases img_all h.empty hs D rfl (i := (R.h.turn + 1) % 2) (by omega) with ⟨_, hno⟩ | ⟨p, hp, _, h2⟩
    · exact absurd rfl (hno _ (List.mem_singleton.2 rfl))
    · rw [h2, (headL_idx hp).2]
theorem RO.crash {R : RgS} {D : DS} (h : RO R D) (keep : Nat → Bool) : RO R (D.crash keep) := by
  have hs : (D.crash keep).secs = D.secs := by simp only [DS.crash]; exact settled_empty h.empty
  have hi := img_congr hs
  exact ⟨h.ok, h.live, h.num, h.dok.crash, rfl, by rw [hs]; exact h.empty, by rw [hs]; exact h.len, by rw [hi]; exact h.head, by rw [hi]; exact h.other, by rw [hi]; exact h.has, by rw [hi]; exact h.none, by rw [hi]; exact h.bound⟩
end Go.Proofs.E

namespace Go.Proofs.E
open Go
set_option linter.unusedVariables false
set_option linter.unusedSimpArgs false
set_option linter.unusedSectionVars false
set_option maxRecDepth 4000
set_option maxHeartbeats 1000000
attribute [local irreducible] Yl TL TC TE Spec YSpec R1 Hp.le EnvLe TS TR YS Stays
/-! ## rings on disks on which nothing happens -/
structure Good (R : RgS) (D : DS) : Prop where
  ro : RO R D
  frs : Frs R D
  calm : D.Calm
theorem calm_pair {r : DS × Int} (h : r.2 = 0) : r = (r.1, 0) := Prod.ext rfl h
theorem Good.append {R : RgS} {D : DS} {b : Bs} (h : Good R D) (hb : b.length ≤ 8000) (hn : R.next < 1099511627776) (hfit : sects b.length ≤ R.h.size - R.used) : ∃ D', R.append b D = (R.plus b, D', 0) ∧ Good (R.plus b) D' := by
  have hsz := h.ro.ok.size
  have hlen := h.ro.len
  have hidx : ∀ p ∈ partsL R.h R.next b (R.h.place + R.used), p.1 < D.secs.length := fun p hp => by
    obtain ⟨k, hk, rfl⟩ := partsL_mem.1 hp
    have := Nat.mod_lt (R.h.place + R.used + k) (show 0 < R.h.size by omega)
    dsimp only; omega
  obtain ⟨l0, l1, l2⟩ := Calm_lays (partsL R.h R.next b (R.h.place + R.used)) D h.calm hidx
  have ha := (h.ro.append h.frs hb hfit hn).1 l0
  refine ⟨(DS.lays (partsL R.h R.next b (R.h.place + R.used)) D).1, ?_, ha.1, ha.2, l1⟩
  unfold RgS.append
  rw [h.ro.live, if_neg (by simp), if_neg (by omega), if_neg (by omega), if_pos l0, calm_pair l0]
  rfl
theorem Good.full {R : RgS} {D : DS} {b : Bs} (h : Good R D) (hb : b.length ≤ 8000) (hfit : ¬ sects b.length ≤ R.h.size - R.used) : R.append b D = (R, D, 6) := by
  unfold RgS.append
  rw [h.ro.live, if_neg (by simp), if_neg (by omega), if_pos (by omega)]
theorem Good.cut {R : RgS} {D : DS} {n : Nat} {note : Bs} (h : Good R D) (hn : n ≤ R.ents.length) (ht : R.h.turn < 1073741824) (hnote : note.length ≤ 32) (hnum : R.next < 1099511627776) : ∃ D', R.cut n note D = (R.minus n note, D', 0) ∧ Good (R.minus n note) D' := by
  have hsz := h.ro.ok.size
  have hlen := h.ro.len
  have hidx : ∀ p ∈ headL (R.cutH n note), p.1 < D.secs.length := fun p hp => by rw [(headL_idx hp).1]; omega
  obtain ⟨l0, l1, l2⟩ := Calm_lays (headL (R.cutH n note)) D h.calm hidx
  have ha := (h.ro.cut hn ht hnote hnum).1 l0
  refine ⟨(DS.lays (headL (R.cutH n note)) D).1, ?_, ha.1, ha.2, l1⟩
  unfold RgS.cut
  rw [h.ro.live, if_neg (by simp), if_neg (by omega), if_neg (by omega)]
  simp only [Int.toNat_natCast]
  rw [if_pos l0, calm_pair l0]
  rfl
theorem z8_take (n m : Nat) : unbe ((z8 n).take m) = 0 := by
  have : ∀ k, unbe (z8 k) = 0 := fun k => by
    induction k with
    | zero => rfl
    | succ k ih => simp only [z8, List.replicate_succ] at ih ⊢; rw [unbe_cons, ih]; simp
  simp only [z8, List.take_replicate]
  exact this _
theorem zblk_z : zblk = z8 64 := rfl
theorem turn_zblk : turnOf zblk = 0 := by unfold turnOf; rw [zblk_z, z8_take]
theorem num_zblk : numOf zblk = 0 := by
  unfold numOf; rw [zblk_z]; simp only [z8, List.drop_replicate]; exact z8_take _ _
theorem read_zblk : (readB zblk).2 = false := by
  have h : ¬ (headOf zblk).Right (zblk.getD 21 0).toNat := fun h => by
    have h1 := h.1
    have : (headOf zblk).turn = 0 := by
      simp only [headOf, zblk_z, z8, List.drop_replicate]; exact z8_take _ _
    omega
  unfold readB
  rw [if_neg h]
theorem Good.format {D : DS} {n : Nat} (hok : D.Ok) (hc : D.Calm) (h0 : 4 ≤ n) (h1 : n ≤ 1000) (hl : D.secs.length = n + 2) (he : emptyC D.secs) : ∃ D', formatR n D = (some ⟨freshH n, [], 0, false⟩, D', 0) ∧ Good ⟨freshH n, [], 0, false⟩ D' := by
  have hidx : ∀ p ∈ noughtsL n, p.1 < D.secs.length := fun p hp => by
    simp only [noughtsL, List.mem_map, List.mem_range] at hp
    obtain ⟨k, hk, rfl⟩ := hp
    dsimp only; omega
  obtain ⟨l0, l1, l2⟩ := Calm_lays (noughtsL n) D hc hidx
  have hok1 := hok.lays (l := noughtsL n) noughtsL_64
  have hlen1 := lays_length (noughtsL n) D
  have hemp1 : emptyC (DS.lays (noughtsL n) D).1.secs := by rw [l2]; exact emptyC_settled
  have hidx2 : ∀ p ∈ headL (freshH n), p.1 < (DS.lays (noughtsL n) D).1.secs.length := fun p hp => by
    rw [(headL_idx hp).1, hlen1, hl]; simp only [freshH]; omega
  obtain ⟨m0, m1, m2⟩ := Calm_lays (headL (freshH n)) (DS.lays (noughtsL n) D).1 l1 hidx2
  have hok2 := hok1.lays (l := headL (freshH n)) (fun p hp => by rw [(headL_idx hp).2]; exact headB_len _)
  have hlen2 := lays_length (headL (freshH n)) (DS.lays (noughtsL n) D).1
  have himg1 : ∀ i, i < n + 2 → img (DS.lays (noughtsL n) D).1 i = zblk := fun i hi => by
    rcases img_all he l2 D rfl (i := i) (by omega) with ⟨_, hno⟩ | ⟨p, hp, h1, h2⟩
    · exact absurd rfl (hno (i, zblk) (by simp only [noughtsL, List.mem_map, List.mem_range]; exact ⟨i, hi, rfl⟩))
    · simp only [noughtsL, List.mem_map, List.mem_range] at hp
      obtain ⟨k, hk, rfl⟩ := hp
      exact h2
  have himg2 : img (DS.lays (headL (freshH n)) (DS.lays (noughtsL n) D).1).1 1 = headB (freshH n) := by
    rcases img_all hemp1 m2 (DS.lays (noughtsL n) D).1 rfl (i := 1) (by omega) with ⟨_, hno⟩ | ⟨p, hp, _, h2⟩
    · exact absurd rfl (hno (1, headB (freshH n)) (List.mem_singleton.2 rfl))
    · rw [h2, (headL_idx hp).2]
  have himg3 : ∀ i, i < n + 2 → i ≠ 1 → img (DS.lays (headL (freshH n)) (DS.lays (noughtsL n) D).1).1 i = zblk := fun i hi hne => by
    rcases img_settled hemp1 m2 (DS.lays (noughtsL n) D).1 rfl i with e | ⟨p, hp, h1, _⟩
    · rw [e]; exact himg1 i hi
    · exact absurd (by rw [← h1, (headL_idx hp).1]; rfl) hne
  refine ⟨(DS.lays (headL (freshH n)) (DS.lays (noughtsL n) D).1).1, ?_, ⟨fresh_rok h0 h1, rfl, by simp [freshH], hok2, m1.dead, by rw [m2]; exact emptyC_settled, ?_, ?_, ?_, trivial, ?_, ?_⟩, ?_, m1⟩
  · unfold formatR
    rw [if_neg (by omega)]
    simp only [Int.toNat_natCast]
    rw [if_pos l0, if_pos m0, calm_pair m0]
  · show n + 2 ≤ _
    omega
  · exact himg2
  · rw [show (({ h := freshH n, ents := [], used := 0, broken := false } : RgS).h.turn + 1) % 2 = 0 from (by simp [freshH]), himg3 0 (by omega) (by omega), read_zblk]
    intro h; cases h
  · intro _ t b ht ht2 _ _
    refine ⟨0, sects_pos _, fun hx => ?_⟩
    have := congrArg turnOf hx
    rw [himg3 _ (by have := Nat.mod_lt ((freshH n).place + 0 + 0) (show 0 < (freshH n).size by simp only [freshH]; omega); simp only [freshH] at this ⊢; omega) (by omega), turn_zblk, partB_turn (by omega)] at this
    omega
  · intro q hq
    have hq2 : q < n := hq
    rw [himg3 _ (by omega) (by omega), turn_zblk, num_zblk]
    exact ⟨Nat.zero_le _, Nat.zero_le _⟩
  · intro q hq hc
    have hq2 : q < n := hq
    rw [himg3 _ (by omega) (by omega), turn_zblk] at hc
    exact absurd hc.1 (by simp [freshH])
theorem new_good {n : Nat} (h0 : 4 ≤ n) (h1 : n ≤ 1000) : ∃ D', formatR n (DS.new (n + 2)) = (some ⟨freshH n, [], 0, false⟩, D', 0) ∧ Good ⟨freshH n, [], 0, false⟩ D' :=
  Good.format (new_okD (by omega) (by omega)) new_calm h0 h1 (by simp [DS.new, fresh]) fresh_empty
end Go.Proofs.E

namespace Go.Proofs.E
open Go
set_option linter.unusedVariables false
set_option linter.unusedSimpArgs false
set_option linter.unusedSectionVars false
set_option maxRecDepth 4000
set_option maxHeartbeats 1000000
attribute [local irreducible] Yl TL TC TE Spec YSpec R1 Hp.le EnvLe TS TR YS Stays
theorem kformat (ρ : Hp) (n : Nat) (hn0 : 4 ≤ n) (hn1 : n ≤ 1000) (db : Nat) (k : DK) (hk : DOk k (DS.new (n + 2))) :
    Spec Try.prog 40 [.pointer (some ⟨db, 0, none⟩), .int .i64 n] ρ (diskK db k (DS.new (n + 2))) (fun v ρ' L' => ρ.le ρ' ∧ ∃ rb w k' D', v = .tuple ⟨[.pointer (some ⟨rb, 0, none⟩), .int .i64 0]⟩ ∧ DOk k' D' ∧ RIn ρ' ⟨freshH n, [], 0, false⟩ w ∧ Good ⟨freshH n, [], 0, false⟩ D' ∧ L' = ringC rb db ⟨freshH n, [], 0, false⟩ w ++ diskK db k' D') := by
  obtain ⟨D', e, g⟩ := new_good hn0 hn1
  refine (format_spec ρ db k (DS.new (n + 2)) hk n (by omega)).mono ?_
  rintro v ρ' L' _ ⟨hle, h⟩
  unfold ringAns at h
  rw [e] at h
  obtain ⟨k', hk', rb, w, hv, hin, hL⟩ := h
  exact ⟨hle, rb, w, k', D', hv, hk', hin, g, hL⟩
theorem knew (ρ : Hp) (n : Nat) (h0 : 0 < n) (h1 : n ≤ 2048) : Spec Try.prog 51 [.int .i64 n] ρ [] (fun v ρ' L' => ρ' = ρ ∧ ∃ b k, v = .tuple ⟨[.pointer (some ⟨b, 0, none⟩), .int .i64 0]⟩ ∧ DOk k (DS.new n) ∧ L' = diskK b k (DS.new n)) :=
  (new_spec ρ n h0 h1).mono (fun v ρ' L' _ ⟨h1', b, hb, mb, ck, h2, h3⟩ => ⟨h1', b, ⟨hb, mb, [], ck⟩, h2, ⟨new_okD h0 h1, MapOk.empty fresh_empty⟩, h3⟩)
/-- what an Append to a good ring comes to -/
theorem gappend (ρ : Hp) (rb db : Nat) (R : RgS) (w : RW) (h : RIn ρ R w) (k : DK) (D : DS) (hD : DOk k D) (g : Good R D) (X : SH) (a : Option Addr) (n c : Nat) (b : Bs) (hb : Rd ρ X a n b) (hc : n ≤ c) (hn : n ≤ 8000) (hfit : sects n ≤ R.h.size - R.used) (hnx : R.next < 1099511627776) :
    Spec Try.prog 25 [.pointer (some ⟨rb, 0, none⟩), .slice a n c] ρ (ringC rb db R w ++ (diskK db k D ++ X))
      (fun v ρ' L' => v = .int .i64 0 ∧ ρ.le ρ' ∧ ∃ k' D' w', DOk k' D' ∧ RIn ρ' (R.plus b) w' ∧ Good (R.plus b) D' ∧ L' = ringC rb db (R.plus b) w' ++ (diskK db k' D' ++ X)) := by
  have hl := hb.len
  obtain ⟨D', e, g'⟩ := g.append (b := b) (by omega) hnx (by rw [hl]; exact hfit)
  refine (append_spec ρ rb db R w h k D hD X a n c b hb hc (by omega)).mono ?_
  rintro v ρ' L' _ ⟨hv, hle, k', w', h1, h2, h3⟩
  rw [e] at hv h1 h2 h3
  exact ⟨hv, hle, k', D', w', h1, h2, g', h3⟩
theorem gfull (ρ : Hp) (rb db : Nat) (R : RgS) (w : RW) (h : RIn ρ R w) (k : DK) (D : DS) (hD : DOk k D) (g : Good R D) (X : SH) (a : Option Addr) (n c : Nat) (b : Bs) (hb : Rd ρ X a n b) (hc : n ≤ c) (hn : n ≤ 8000) (hfit : ¬ sects n ≤ R.h.size - R.used) :
    Spec Try.prog 25 [.pointer (some ⟨rb, 0, none⟩), .slice a n c] ρ (ringC rb db R w ++ (diskK db k D ++ X))
      (fun v ρ' L' => v = .int .i64 6 ∧ ρ.le ρ' ∧ ∃ k' w', DOk k' D ∧ RIn ρ' R w' ∧ L' = ringC rb db R w' ++ (diskK db k' D ++ X)) := by
  have hl := hb.len
  have e := g.full (b := b) (by omega) (by rw [hl]; exact hfit)
  refine (append_spec ρ rb db R w h k D hD X a n c b hb hc (by omega)).mono ?_
  rintro v ρ' L' _ ⟨hv, hle, k', w', h1, h2, h3⟩
  rw [e] at hv h1 h2 h3
  exact ⟨hv, hle, k', w', h1, h2, h3⟩
theorem gcut (ρ : Hp) (rb db : Nat) (R : RgS) (w : RW) (h : RIn ρ R w) (k : DK) (D : DS) (hD : DOk k D) (g : Good R D) (X : SH) (a : Option Addr) (nn c : Nat) (note : Bs) (hb : Rd ρ X a nn note) (m : Nat) (hm : m ≤ R.ents.length) (ht : R.h.turn < 1073741824) (hnl : nn ≤ 32) (hnx : R.next < 1099511627776) :
    Spec Try.prog 27 [.pointer (some ⟨rb, 0, none⟩), .int .i64 m, .slice a nn c] ρ (ringC rb db R w ++ (diskK db k D ++ X))
      (fun v ρ' L' => v = .int .i64 0 ∧ ρ.le ρ' ∧ ∃ k' D' w', DOk k' D' ∧ RIn ρ' (R.minus m note) w' ∧ Good (R.minus m note) D' ∧ L' = ringC rb db (R.minus m note) w' ++ (diskK db k' D' ++ X)) := by
  have hl := hb.len
  obtain ⟨D', e, g'⟩ := g.cut (note := note) hm ht (by omega) hnx
  refine (cut_spec_main ρ rb db R w h k D hD X a nn c note hb m g.ro.live hm ht (by omega)).mono ?_
  rintro v ρ' L' _ ⟨hv, hle, k', w', h1, h2, h3⟩
  rw [e] at hv h1 h2 h3
  exact ⟨hv, hle, k', D', w', h1, h2, g', h3⟩
theorem sIn_z {ρ : Hp} {b n : Nat} {T : TypeId} {fr : Nat × Nat} (h : ρ b = some (.cells ⟨(z8 n).map u8c⟩ T fr)) : SIn ρ u8c (some ⟨b, 0, none⟩) n (z8 n) := ⟨by simp [z8], .inr ⟨b, 0, _, _, _, rfl, h, by simp [z8]⟩⟩
theorem sIn_l {ρ : Hp} {b : Nat} {l : Bs} {T : TypeId} {fr : Nat × Nat} (h : ρ b = some (.cells ⟨l.map u8c⟩ T fr)) : SIn ρ u8c (some ⟨b, 0, none⟩) l.length l := ⟨rfl, .inr ⟨b, 0, _, _, _, rfl, h, by rw [List.drop_zero, List.take_of_length_le (by simp)]⟩⟩
abbrev wR0 : RgS := ⟨freshH 6, [], 0, false⟩
abbrev wR1 : RgS := wR0.plus (z8 100)
abbrev wR2 : RgS := wR1.plus (z8 3)
abbrev wR3 : RgS := wR2.minus 1 [7]
theorem wk_l2 : ((wR2.h.size - wR2.used : Nat) : Int) = 3 := by decide
theorem wk_l3 : ((wR3.h.size - wR3.used : Nat) : Int) = 5 := by decide
theorem wk_f3 : ((wR3.h.first : Nat) : Int) = 2 := by decide
theorem wakes4_spec (ρ : Hp) : Spec Try.prog 21 [] ρ [] (fun v ρ' L' => v = .bool true ∧ ρ.le ρ' ∧ L' = []) := by
  refine spec_enter Try.func21 rfl rfl rfl fun u R => ?_
  simp only [argsE, List.cons_append, List.nil_append]
  repeat' (first | (refine tl_is (.func 51) ?_; refine qC rfl rfl (knew _ 8 (by omega) (by omega)) ?_; rintro v ρ' L' hle ⟨rfl, db, k0, rfl, hk0, rfl⟩ <;> (try simp only [List.cons_append, List.nil_append, List.append_eq])) | (refine tl_is (.func 40) ?_; refine qC rfl rfl (kformat _ 6 (by omega) (by omega) db k0 hk0) ?_; rintro v1 ρ1 L1 hle1 ⟨hl1, rb, w1, k1, D1, rfl, hk1, hr1, g1, rfl⟩; try simp only [List.cons_append, List.nil_append, List.append_assoc]) | (refine tl_makeSlice rfl rfl (by omega) (by omega) (by omega) (by omega) rfl (fun hbn1 => ?_); simp only [Nat.mul_one, made_z8]; refine tl_freeze [(hbn1, .cells ⟨(z8 100).map u8c⟩ 5 (0, 0))] (h := Rem.here) (fun ρm1 hlm1 hfz1 => ?_); have hs1 := sIn_z (hfz1 _ (List.mem_singleton.2 rfl))) | (refine i_op ?_; first | (refine i_qq ?_; refine qQ ?_) | refine qEf ?_) | refine tl_nil ?_ | (refine i_tc ?_; refine qTc ?_) | (refine i_te ?_; refine qTe ?_) | intro _)
  repeat' (first | (refine tl_is (.func 25) ?_; refine qC rfl rfl (gappend _ rb db wR0 w1 (hr1.mono hlm1) k1 D1 hk1 g1 [] _ 100 _ (z8 100) hs1.rd (by omega) (by omega) (by decide) (by decide)) ?_; rintro v2 ρ2 L2 hle2 ⟨rfl, hl2, k2, D2, w2, hk2, hr2, g2, rfl⟩; try simp only [List.cons_append, List.nil_append, List.append_assoc]) | (refine tl_makeSlice rfl rfl (by omega) (by omega) (by omega) (by omega) rfl (fun hbn2 => ?_); simp only [Nat.mul_one, made_z8]; refine tl_freeze [(hbn2, .cells ⟨(z8 3).map u8c⟩ 5 (0, 0))] (h := Rem.here) (fun ρm2 hlm2 hfz2 => ?_); have hs2 := sIn_z (hfz2 _ (List.mem_singleton.2 rfl))) | (refine i_op ?_; first | (refine i_qq ?_; refine qQ ?_) | refine qEf ?_) | refine tl_nil ?_ | (refine i_tc ?_; refine qTc ?_) | (refine i_te ?_; refine qTe ?_) | intro _)
  repeat' (first | (refine tl_is (.func 25) ?_; refine qC rfl rfl (gappend _ rb db wR1 w2 (hr2.mono hlm2) k2 D2 hk2 g2 [] _ 3 _ (z8 3) hs2.rd (by omega) (by omega) (by decide) (by decide)) ?_; rintro v3 ρ3 L3 hle3 ⟨rfl, hl3, k3, D3, w3, hk3, hr3, g3, rfl⟩; try simp only [List.cons_append, List.nil_append, List.append_assoc]) | (refine tl_is (.func 23) ?_; refine qC rfl rfl (left_spec4 _ rb db wR2 w3 hr3.ok) ?_; rintro v ρ' L' hle ⟨rfl, rfl, rfl⟩ <;> (try simp only [List.cons_append, List.nil_append, List.append_eq, wk_l2])) | (refine tl_makeSlice rfl rfl (by omega) (by omega) (by omega) (by omega) rfl (fun hbn3 => ?_); simp only [Nat.mul_one, made_z8]; refine tl_freeze [(hbn3, .cells ⟨(z8 160).map u8c⟩ 5 (0, 0))] (h := Rem.here) (fun ρm3 hlm3 hfz3 => ?_); have hs3 := sIn_z (hfz3 _ (List.mem_singleton.2 rfl))) | (refine i_op ?_; first | (refine i_qq ?_; refine qQ ?_) | refine qEf ?_) | refine tl_nil ?_ | (refine i_tc ?_; refine qTc ?_) | (refine i_te ?_; refine qTe ?_) | intro _)
  repeat' (first | (refine tl_is (.func 25) ?_; refine qC rfl rfl (gfull _ rb db wR2 w3 (hr3.mono hlm3) k3 D3 hk3 g3 [] _ 160 _ (z8 160) hs3.rd (by omega) (by omega) (by decide)) ?_; rintro v4 ρ4 L4 hle4 ⟨rfl, hl4, k4, w4, hk4, hr4, rfl⟩; try simp only [List.cons_append, List.nil_append, List.append_assoc]) | (refine tl_buildSlice_s rfl rfl rfl rfl (by simp) rfl rfl (fun hb7 => ?_); refine tl_freeze [(hb7, .cells ⟨[(7 : UInt8)].map u8c⟩ 5 (0, 0))] (h := Rem.here) (fun ρm4 hlm4 hfz4 => ?_); have hs4 := sIn_l (hfz4 _ (List.mem_singleton.2 rfl))) | (refine i_op ?_; first | (refine i_qq ?_; refine qQ ?_) | refine qEf ?_) | refine tl_nil ?_ | (refine i_tc ?_; refine qTc ?_) | (refine i_te ?_; refine qTe ?_) | intro _)
  repeat' (first | (refine tl_is (.func 27) ?_; refine qC rfl rfl (gcut _ rb db wR2 w4 (hr4.mono hlm4) k4 D3 hk4 g3 [] _ 1 _ [7] hs4.rd 1 (by decide) (by decide) (by omega) (by decide)) ?_; rintro v5 ρ5 L5 hle5 ⟨rfl, hl5, k5, D5, w5, hk5, hr5, g5, rfl⟩; try simp only [List.cons_append, List.nil_append, List.append_assoc]) | (refine tl_is (.func 28) ?_; refine qC rfl rfl (first_spec _ rb db wR3 w5) ?_; rintro v ρ' L' hle ⟨rfl, rfl, rfl⟩ <;> (try simp only [List.cons_append, List.nil_append, List.append_eq, wk_f3])) | (refine tl_is (.func 23) ?_; refine qC rfl rfl (left_spec4 _ rb db wR3 w5 hr5.ok) ?_; rintro v ρ' L' hle ⟨rfl, rfl, rfl⟩ <;> (try simp only [List.cons_append, List.nil_append, List.append_eq, wk_l3])) | (refine tl_makeSlice rfl rfl (by omega) (by omega) (by omega) (by omega) rfl (fun hbn5 => ?_); simp only [Nat.mul_one, made_z8]; refine tl_freeze [(hbn5, .cells ⟨(z8 160).map u8c⟩ 5 (0, 0))] (h := Rem.here) (fun ρm5 hlm5 hfz5 => ?_); have hs5 := sIn_z (hfz5 _ (List.mem_singleton.2 rfl))) | (refine i_op ?_; first | (refine i_qq ?_; refine qQ ?_) | refine qEf ?_) | refine tl_nil ?_ | (refine i_tc ?_; refine qTc ?_) | (refine i_te ?_; refine qTe ?_) | intro _)
  repeat' (first | (refine tl_is (.func 25) ?_; refine qC rfl rfl (gappend _ rb db wR3 w5 (hr5.mono (by assumption)) k5 D5 hk5 g5 [] _ 160 _ (z8 160) hs5.rd (by omega) (by omega) (by decide) (by decide)) ?_; rintro v6 ρ6 L6 hle6 ⟨rfl, hl6, k6, D6, w6, hk6, hr6, g6, rfl⟩; try simp only [List.cons_append, List.nil_append, List.append_assoc]) | (refine i_op ?_; first | (refine i_qq ?_; refine qQ ?_) | refine qEf ?_) | refine tl_nil ?_ | (refine i_tc ?_; refine qTc ?_) | (refine i_te ?_; refine qTe ?_) | intro _)
  have hfin := Hp.le_trans hl1 (Hp.le_trans hlm1 (Hp.le_trans hl2 (Hp.le_trans hlm2 (Hp.le_trans hl3 (Hp.le_trans hlm3 (Hp.le_trans hl4 (Hp.le_trans hlm4 (Hp.le_trans hl5 (Hp.le_trans hlm5 (hl6))))))))))
  exact qE (L' := []) ⟨rfl, hfin, rfl⟩
end Go.Proofs.E

