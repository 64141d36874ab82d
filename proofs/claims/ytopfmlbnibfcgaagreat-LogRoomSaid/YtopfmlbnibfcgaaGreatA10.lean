/- The law LogRoom. Part 10 of 16. -/
import Derived.Test.YtopfmlbnibfcgaaGreatA9
namespace Go.Proofs.E
open Go
set_option linter.unusedVariables false
set_option linter.unusedSimpArgs false
set_option linter.unusedSectionVars false
set_option maxRecDepth 4000
set_option maxHeartbeats 1000000
attribute [local irreducible] Yl TL TC TE Spec ZN R1 Hp.le EnvLe TS TR YS Zp
theorem mid {A B C : Bs} {n m : Nat} (hA : A.length = n) (hB : B.length = m) : ((A ++ (B ++ C)).drop n).take m = B := by
 subst hA; subst hB; rw [List.drop_left, List.take_left]
theorem fit52 (l : Bs) : YX 52 l = l.take 52 ++ z8 (52 - l.length) := by
 unfold YX z8
 rw [List.take_append, List.take_replicate]
 congr 2; omega
theorem pad_drop {x l : Bs} (hx : x.length = 12) (hl : l.length ≤ 52) : (pad (x ++ l)).drop 12 = YX 52 l := by
 rw [pad_of (by simp; omega), ← hx, List.append_assoc, List.drop_left, fit52, List.take_of_length_le hl]
 congr 2; simp; omega
theorem partB_eq (t n : Nat) (b : Bs) (k : Nat) : ZV t n b k = pad ((be 4 t ++ (be 5 n ++ (be 2 b.length ++ [UInt8.ofNat k]))) ++ (b.drop (52 * k)).take 52) := by
 unfold ZV; simp
theorem partB_drop (t n : Nat) (b : Bs) (k : Nat) : (ZV t n b k).drop 12 = YX 52 (b.drop (52 * k)) := by
 rw [partB_eq, pad_drop (by simp [Zh]) (by simp; omega), fit52, fit52, List.take_take]
 congr 2
 simp; omega
theorem partB_congr {t n : Nat} {b c : Bs} {k : Nat} (hl : b.length = c.length) (h : (b.drop (52 * k)).take 52 = (c.drop (52 * k)).take 52) : ZV t n b k = ZV t n c k := by
 unfold ZV; rw [hl, h]
theorem partB_turn {t n : Nat} {b : Bs} {k : Nat} (ht : t < 4294967296) : Yh (ZV t n b k) = t := by
 have h : (ZV t n b k).take 4 = be 4 t := by
  unfold ZV pad
  rw [List.append_assoc, List.take_take, Nat.min_eq_left (by omega), List.take_left' (Zh 4 t)]
 unfold Yh
 rw [h, WE, Nat.mod_eq_of_lt (by simpa using ht)]
theorem partB_num {t n : Nat} {b : Bs} {k : Nat} (hn : n < 1099511627776) : numOf (ZV t n b k) = n := by
 have h : ((ZV t n b k).drop 4).take 5 = be 5 n := by
  unfold ZV pad
  rw [List.drop_take, List.take_take, Nat.min_eq_left (by omega)]
  simp only [List.append_assoc]
  exact mid (Zh 4 t) (Zh 5 n)
 unfold numOf
 rw [h, WE, Nat.mod_eq_of_lt (by simpa using hn)]
theorem partB_size {t n : Nat} {b : Bs} {k : Nat} (hn : b.length < 65536) : Zx (ZV t n b k) = b.length := by
 have h : ((ZV t n b k).drop 9).take 2 = be 2 b.length := by
  unfold ZV pad
  rw [List.drop_take, List.take_take, Nat.min_eq_left (by omega)]
  simp only [List.append_assoc]
  rw [← List.append_assoc (be 4 t)]
  exact mid (by simp [Zh]) (Zh 2 _)
 unfold Zx
 rw [h, WE, Nat.mod_eq_of_lt (by simpa using hn)]
theorem sects_mul {n k : Nat} (h : k < Zv n) : 52 * k < n ∨ (k = 0 ∧ n = 0) := by unfold Zv at h; omega
theorem sects_end (n : Nat) : n ≤ 52 * Zv n := by unfold Zv; omega
theorem fit_step {size k : Nat} {b acc : Bs} (hb : b.length = size) (hk : k < Zv size) (hl : acc.length = 52 * k) (h : acc.take size = b.take (52 * k)) :
  (acc ++ YX 52 (b.drop (52 * k))).take size = b.take (52 * (k + 1)) := by
 have hm : 52 * k ≤ size := by rcases sects_mul hk with h | h <;> omega
 have ha : acc = b.take (52 * k) := by rw [← h, List.take_of_length_le (by omega)]
 rw [List.take_append, List.take_of_length_le (by omega), hl, ha]
 by_cases h52 : 52 * (k + 1) ≤ size
 ·have e : YX 52 (b.drop (52 * k)) = (b.drop (52 * k)).take 52 := by
   rw [fit52]
   have : 52 - (b.drop (52 * k)).length = 0 := by simp; omega
   rw [this]; simp [z8]
  rw [e, List.take_take, Nat.min_eq_right (by omega), Nat.mul_add, Nat.mul_one, List.take_add]
 ·have e : (YX 52 (b.drop (52 * k))).take (size - 52 * k) = b.drop (52 * k) := by
   rw [fit52, List.take_of_length_le (l := b.drop (52 * k)) (by simp; omega), List.take_append_of_le_length (by simp; omega), List.take_of_length_le (by simp; omega)]
  rw [e, List.take_append_drop, List.take_of_length_le (by omega)]
theorem fit_of {size k : Nat} {b acc : Bs} (hb : b.length = size) (hl : acc.length = 52 * k) (h : acc.take size = b.take (52 * k)) : YX size acc = b.take (52 * k) ++ z8 (size - 52 * k) := by
 unfold YX z8
 rw [List.take_append, h, List.take_replicate, hl]
 congr 2; omega
theorem part_fit {t n size k : Nat} {b acc : Bs} (hb : b.length = size) (hl : acc.length = 52 * (k + 1)) (h : acc.take size = b.take (52 * (k + 1))) : ZV t n (YX size acc) k = ZV t n b k := by
 refine partB_congr (by rw [XS, hb]) ?_
 rw [fit_of hb hl h]
 by_cases h52 : 52 * (k + 1) ≤ size
 ·rw [List.drop_append_of_le_length (by simp; omega), List.take_append_of_le_length (by simp; omega), List.drop_take, List.take_take]
  congr 1; omega
 ·have e : size - 52 * (k + 1) = 0 := by omega
  rw [e]
  simp only [z8, List.replicate_zero, List.append_nil]
  rw [List.drop_take, List.take_take]
  congr 1; omega
def entP (g : Nat → Blk) (m n at' turn size : Nat) : Nat → Nat → Bs → Option Bs
 | 0, _, acc => some (YX size acc)
 | j + 1, k, acc => if ZV turn n (YX size (acc ++ (g (2 + (at' + k) % m)).drop 12)) k = g (2 + (at' + k) % m) then entP g m n at' turn size j (k + 1) (acc ++ (g (2 + (at' + k) % m)).drop 12) else none
theorem entP_some {g : Nat → Blk} {m n at' t size : Nat} {b : Bs} (hb : b.length = size) (hg : ∀ k, k < Zv size → g (2 + (at' + k) % m) = ZV t n b k) :
  ∀ (j k : Nat) (acc : Bs), j + k = Zv size → acc.length = 52 * k → acc.take size = b.take (52 * k) → entP g m n at' t size j k acc = some b
 | 0, k, acc, hjk, hl, h => by
  have hk : k = Zv size := by omega
  have he := sects_end size
  subst hk
  rw [entP, fit_of hb hl h, List.take_of_length_le (by omega)]
  have e : size - 52 * Zv size = 0 := by omega
  rw [e]; simp [z8]
 | j + 1, k, acc, hjk, hl, h => by
  have hk : k < Zv size := by omega
  have hgk := hg k hk
  have hst := fit_step hb hk hl h
  have hl2 : (acc ++ (ZV t n b k).drop 12).length = 52 * (k + 1) := by simp [partB_len, hl]; omega
  rw [entP, hgk, if_pos]
  ·exact entP_some hb hg j (k + 1) _ (by omega) hl2 (by rw [partB_drop]; exact hst)
  ·exact part_fit hb hl2 (by rw [partB_drop]; exact hst)
theorem entP_inv {g : Nat → Blk} {m n at' t size : Nat} {b : Bs} (hg64 : ∀ q, (g (2 + q % m)).length = 64) : ∀ (j k : Nat) (acc : Bs), j + k = Zv size → acc.length = 52 * k → entP g m n at' t size j k acc = some b →
  b.length = size ∧ acc.take size = b.take (52 * k) ∧ ∀ i, k ≤ i → i < Zv size → g (2 + (at' + i) % m) = ZV t n b i
 | 0, k, acc, hjk, hl, h => by
  have hk : k = Zv size := by omega
  have he := sects_end size
  subst hk
  simp only [entP, Option.some.injEq] at h
  subst h
  refine ⟨XS _ _, ?_, fun i h1 h2 => by omega⟩
  have : YX size acc = acc.take size := by
   unfold YX; rw [List.take_append_of_le_length (by omega)]
  rw [this, List.take_take, Nat.min_eq_right (by omega)]
 | j + 1, k, acc, hjk, hl, h => by
  have hk : k < Zv size := by omega
  rw [entP] at h
  split at h
  ·rename_i hp
   have hl2 : (acc ++ (g (2 + (at' + k) % m)).drop 12).length = 52 * (k + 1) := by simp [hg64, hl]; omega
   obtain ⟨h1, h2, h3⟩ := entP_inv hg64 j (k + 1) _ (by omega) hl2 h
   have hm : 52 * k ≤ size := by rcases sects_mul hk with h | h <;> omega
   refine ⟨h1, ?_, fun i hi1 hi2 => ?_⟩
   ·have := congrArg (fun l : Bs => l.take (52 * k)) h2
    simp only [List.take_take] at this
    rw [Nat.min_eq_left hm, Nat.min_eq_left (by omega), List.take_append_of_le_length (by omega)] at this
    rw [← this, List.take_of_length_le (by omega), List.take_of_length_le (by omega)]
   ·by_cases e : i = k
    ·subst e; rw [← hp, part_fit h1 hl2 h2]
    ·exact h3 i (by omega) hi2
  ·cases h
def entP0 (g : Nat → Blk) (m T n at' left : Nat) : Option Bs :=
 if left = 0 then none
 else if Yh (g (2 + at' % m)) < 1 ∨ T < Yh (g (2 + at' % m)) ∨ 8000 < Zx (g (2 + at' % m)) ∨ left < Zv (Zx (g (2 + at' % m))) then none
 else entP g m n at' (Yh (g (2 + at' % m))) (Zx (g (2 + at' % m))) (Zv (Zx (g (2 + at' % m)))) 0 []
theorem entP0_some {g : Nat → Blk} {m T n at' left t : Nat} {b : Bs} (ht : 1 ≤ t ∧ t ≤ T) (hT : T < 4294967296) (hb : b.length ≤ 8000) (hleft : Zv b.length ≤ left) (hg : ∀ k, k < Zv b.length → g (2 + (at' + k) % m) = ZV t n b k) :
  entP0 g m T n at' left = some b := by
 have hp := Wa b.length
 have h0 := hg 0 (by omega)
 rw [Nat.add_zero] at h0
 unfold entP0
 rw [h0, partB_turn (by omega), partB_size (by omega), if_neg (by omega), if_neg (by omega)]
 exact entP_some rfl hg _ 0 [] (by omega) rfl (by simp)
theorem entP0_inv {g : Nat → Blk} {m T n at' left : Nat} {b : Bs} (hg64 : ∀ q, (g (2 + q % m)).length = 64) (h : entP0 g m T n at' left = some b) :
  ∃ t, 1 ≤ t ∧ t ≤ T ∧ b.length ≤ 8000 ∧ Zv b.length ≤ left ∧ ∀ k, k < Zv b.length → g (2 + (at' + k) % m) = ZV t n b k := by
 unfold entP0 at h
 split at h
 ·cases h
 ·split at h
  ·cases h
  ·rename_i h1 h2
   obtain ⟨g1, g2, g3⟩ := entP_inv hg64 _ 0 [] (by omega) rfl h
   exact ⟨_, by omega, by omega, by omega, by rw [g1]; omega, fun k hk => g3 k (by omega) (by rw [← g1]; exact hk)⟩
def NoAt (g : Nat → Blk) (m pos n : Nat) : Prop := ∀ t b, 1 ≤ t → t ≤ 1073741824 → b.length ≤ 8000 → Zv b.length ≤ m → ∃ k, k < Zv b.length ∧ g (2 + (pos + k) % m) ≠ ZV t n b k
theorem NoAt.scan {g : Nat → Blk} {m T n pos left : Nat} (h : NoAt g m pos n) (hg64 : ∀ q, (g (2 + q % m)).length = 64) (hl : left ≤ m) (hT : T ≤ 1073741824) : entP0 g m T n pos left = none := by
 cases he : entP0 g m T n pos left with
 | none => rfl
 | some b =>
  obtain ⟨t, h1, h2, h3, h4, h5⟩ := entP0_inv hg64 he
  obtain ⟨k, hk, hne⟩ := h t b h1 (by omega) h3 (by omega)
  exact absurd (h5 k hk) hne
def Has (g : Nat → Blk) (m T : Nat) : Nat → Nat → List Bs → Prop
 | _, _, [] => True
 | n, pos, b :: r => (∃ t, 1 ≤ t ∧ t ≤ T ∧ ∀ k, k < Zv b.length → g (2 + (pos + k) % m) = ZV t n b k) ∧ Has g m T (n + 1) (pos + Zv b.length) r
theorem Has.frame {g g' : Nat → Blk} {m T : Nat} : ∀ {l : List Bs} {n pos pos' : Nat}, Has g m T n pos l → pos % m = pos' % m → (∀ j, j < Yc l → g' (2 + (pos + j) % m) = g (2 + (pos + j) % m)) → Has g' m T n pos' l
 | [], n, pos, pos', _, _, _ => trivial
 | b :: r, n, pos, pos', ⟨⟨t, h1, h2, h3⟩, h4⟩, hp, hg => by
  rw [usedL_cons] at hg
  refine ⟨⟨t, h1, h2, fun k hk => ?_⟩, ?_⟩
  ·have e : (pos' + k) % m = (pos + k) % m := by rw [Nat.add_mod, ← hp, ← Nat.add_mod]
   rw [e, hg k (by omega), h3 k hk]
  ·refine h4.frame (by rw [Nat.add_mod, hp, ← Nat.add_mod]) (fun j hj => ?_)
   have := hg (Zv b.length + j) (by omega)
   rw [← Nat.add_assoc] at this; exact this
theorem Has.le {g : Nat → Blk} {m T T' : Nat} (hT : T ≤ T') : ∀ {l : List Bs} {n pos : Nat}, Has g m T n pos l → Has g m T' n pos l
 | [], _, _, _ => trivial
 | b :: r, n, pos, ⟨⟨t, h1, h2, h3⟩, h4⟩ => ⟨⟨t, h1, by omega, h3⟩, h4.le hT⟩
theorem Has.append {g : Nat → Blk} {m T : Nat} : ∀ {l l' : List Bs} {n pos : Nat}, Has g m T n pos l → Has g m T (n + l.length) (pos + Yc l) l' → Has g m T n pos (l ++ l')
 | [], l', n, pos, _, h => by simpa [Yc] using h
 | b :: r, l', n, pos, ⟨h1, h2⟩, h => by
  refine ⟨h1, h2.append ?_⟩
  rw [usedL_cons] at h
  rw [show n + 1 + r.length = n + (b :: r).length by simp; omega, Nat.add_assoc]; exact h
theorem Has.drop {g : Nat → Blk} {m T : Nat} : ∀ {l : List Bs} {n pos : Nat} (i : Nat), Has g m T n pos l → i ≤ l.length → Has g m T (n + i) (pos + Yc (l.take i)) (l.drop i)
 | l, n, pos, 0, h, _ => by simpa [Yc] using h
 | [], n, pos, i + 1, h, hi => by simp at hi
 | b :: r, n, pos, i + 1, ⟨h1, h2⟩, hi => by
  have := h2.drop i (by simpa using hi)
  simp only [List.take_succ_cons, List.drop_succ_cons, usedL_cons]
  rw [show n + (i + 1) = n + 1 + i by omega, ← Nat.add_assoc]; exact this
def img (D : DS) (i : Nat) : Blk := (D.secs[i]?.map (·.1)).getD (z8 64)
theorem img_at {D : DS} {i : Nat} (hi : i < D.secs.length) : img D i = D.secs[i].1 := by simp [img, hi]
theorem img_len {D : DS} (h : D.Ok) (i : Nat) : (img D i).length = 64 := by
 unfold img
 cases hs : D.secs[i]? with
 | none => simp [z8]
 | some p => simpa using h.secs.held p (List.mem_of_getElem? hs)
theorem XZ {D D' : DS} (h : D'.secs = D.secs) : img D' = img D := by funext i; simp [img, h]
structure DS.Clean (D : DS) : Prop where
 ok : D.Ok
 calm : D.Calm
 empty : Wj D.secs
theorem DS.Clean.read {D : DS} (h : D.Clean) {i : Nat} (hi : i < D.secs.length) : ∃ D', D.read (i : Int) = (D', img D i, 0) ∧ D'.Clean ∧ D'.secs = D.secs := by
 refine ⟨⟨D.secs, IntKind.i64.wrap (D.ops + 1), -1, -1, false⟩, ?_, ⟨DS.Ok.mk' h.ok.secs, DS.Calm.mk', h.empty⟩, rfl⟩
 ·rw [h.calm.read_eq hi, img_at hi]
  simp [says1, h.empty _ (List.getElem_mem hi)]
theorem entGo_clean {h : Hd} {n at' t size : Nat} (hm : 0 < h.size) : ∀ (j k : Nat) (acc : Bs) (D : DS), D.Clean → h.size + 2 ≤ D.secs.length →
  ∃ D', entGo h n at' t size j k acc D = (entP (img D) h.size n at' t size j k acc, D', 0) ∧ D'.Clean ∧ D'.secs = D.secs
 | 0, k, acc, D, hD, hl => ⟨D, rfl, hD, rfl⟩
 | j + 1, k, acc, D, hD, hl => by
  have hlt : 2 + (at' + k) % h.size < D.secs.length := by have := Nat.mod_lt (at' + k) hm; omega
  obtain ⟨D1, e1, h1, h2⟩ := hD.read hlt
  unfold entGo entP
  rw [e1]
  rw [if_neg (by simp)]
  by_cases hp : ZV t n (YX size (acc ++ (img D (2 + (at' + k) % h.size)).drop 12)) k = img D (2 + (at' + k) % h.size)
  ·rw [if_pos hp, if_pos hp]
   obtain ⟨D2, e2, h3, h4⟩ := entGo_clean hm j (k + 1) (acc ++ (img D (2 + (at' + k) % h.size)).drop 12) D1 h1 (by rw [h2]; exact hl)
   rw [XZ h2] at e2
   exact ⟨D2, e2, h3, h4.trans h2⟩
  ·rw [if_neg hp, if_neg hp]
   exact ⟨D1, rfl, h1, h2⟩
theorem entryR_clean {h : Hd} {n at' left : Nat} (hm : 0 < h.size) {D : DS} (hD : D.Clean) (hl : h.size + 2 ≤ D.secs.length) :
  ∃ D', entryR h n at' left D = (entP0 (img D) h.size h.turn n at' left, D', 0) ∧ D'.Clean ∧ D'.secs = D.secs := by
 unfold entryR entP0
 split
 ·exact ⟨D, rfl, hD, rfl⟩
 ·have hlt : 2 + at' % h.size < D.secs.length := by have := Nat.mod_lt at' hm; omega
  obtain ⟨D1, e1, h1, h2⟩ := hD.read hlt
  rw [e1, if_neg (by simp)]
  unfold entGo0
  split
  ·exact ⟨D1, rfl, h1, h2⟩
  ·have hs := Wa (Zx (img D (2 + at' % h.size)))
   have e : Zv (Zx (img D (2 + at' % h.size))) = (Zv (Zx (img D (2 + at' % h.size))) - 1) + 1 := by omega
   rw [e, entP]
   simp only [Nat.add_zero, List.nil_append, Nat.zero_add, Nat.add_sub_cancel]
   split
   ·obtain ⟨D2, e2, h3, h4⟩ := entGo_clean (n := n) (at' := at') (t := Yh (img D (2 + at' % h.size))) (size := Zx (img D (2 + at' % h.size))) hm (Zv (Zx (img D (2 + at' % h.size))) - 1) 1 ((img D (2 + at' % h.size)).drop 12) D1 h1 (by rw [h2]; exact hl)
    rw [XZ h2] at e2
    exact ⟨D2, e2, h3, h4.trans h2⟩
   ·exact ⟨D1, rfl, h1, h2⟩
theorem found_clean : ∀ (l : List Bs) (f : Nat) (R : RgS) (D : DS), D.Clean → 0 < R.h.size → R.h.size + 2 ≤ D.secs.length → R.h.turn ≤ 1073741824 → Has (img D) R.h.size R.h.turn R.next (R.h.place + R.used) l → (∀ b ∈ l, b.length ≤ 8000) →
  R.used + Yc l ≤ R.h.size → (R.next + l.length < 1099511627776 → NoAt (img D) R.h.size (R.h.place + R.used + Yc l) (R.next + l.length)) → R.next + l.length ≤ 1099511627776 → l.length < f →
  ∃ D', Yx f R D = ({ R with ents := R.ents ++ l, used := R.used + Yc l }, D', 0) ∧ D'.Clean ∧ D'.secs = D.secs
 | _, 0, _, _, _, _, _, _, _, _, _, _, _, h => by omega
 | [], f + 1, R, D, hD, hm, hl, hT, _, _, hfit, hno, hn, hf => by
  unfold Yx
  have hR : ({ R with ents := R.ents ++ [], used := R.used + Yc [] } : RgS) = R := by simp [Yc]
  rw [hR]
  by_cases hlt : R.next < 1099511627776
  ·rw [if_pos hlt]
   obtain ⟨D', e1, h1, h2⟩ := entryR_clean (h := R.h) (n := R.next) (at' := R.h.place + R.used) (left := R.h.size - R.used) hm hD hl
   have := (hno (by simpa using hlt)).scan (T := R.h.turn) (left := R.h.size - R.used) (fun q => img_len hD.ok _) (by omega) hT
   simp only [Yc, List.map_nil, List.sum_nil, Nat.add_zero, List.length_nil] at this
   rw [e1, this]
   exact ⟨D', rfl, h1, h2⟩
  ·rw [if_neg hlt]
   exact ⟨D, rfl, hD, rfl⟩
 | b :: r, f + 1, R, D, hD, hm, hl, hT, hhas, hlong, hfit, hno, hn, hf => by
  obtain ⟨⟨t, h1, h2, h3⟩, h4⟩ := hhas
  simp only [usedL_cons] at hfit hno
  simp only [List.length_cons] at hn hno hf
  unfold Yx
  rw [if_pos (by omega)]
  obtain ⟨D1, e1, g1, g2⟩ := entryR_clean (h := R.h) (n := R.next) (at' := R.h.place + R.used) (left := R.h.size - R.used) hm hD hl
  rw [entP0_some ⟨h1, h2⟩ (by omega) (hlong b (by simp)) (by omega) h3] at e1
  rw [e1]
  simp only [if_true]
  have hnx : (R.adds b).next = R.next + 1 := by simp [RgS.adds, RgS.next]; omega
  obtain ⟨D2, e2, g3, g4⟩ := found_clean r f (R.adds b) D1 g1 hm (by rw [g2]; exact hl) hT (by
   rw [hnx, XZ g2]
   have : (R.adds b).h.place + (R.adds b).used = R.h.place + R.used + Zv b.length := by simp [RgS.adds]; omega
   rw [this]; exact h4) (fun c hc => hlong c (by simp [hc])) (by simp only [RgS.adds]; omega) (fun hlt => by
   rw [hnx, XZ g2] at *
   have e : (R.adds b).h.place + (R.adds b).used + Yc r = R.h.place + R.used + (Zv b.length + Yc r) := by simp [RgS.adds]; omega
   rw [e, show R.next + 1 + r.length = R.next + (r.length + 1) by omega]
   exact hno (by omega)) (by rw [hnx]; omega) (by omega)
  refine ⟨D2, ?_, g3, g4.trans g2⟩
  rw [e2]
  simp [RgS.adds, usedL_cons, Nat.add_assoc]
theorem headB_eq {h : Hd} (hn : h.note.length ≤ 32) : YY h = letB ++ (be 4 h.turn ++ (be 2 h.size ++ (be 5 h.first ++ (be 2 h.place ++ ([UInt8.ofNat h.note.length] ++ (h.note ++ z8 (42 - h.note.length))))))) := by
 unfold YY
 rw [pad_of (by simp [Zh, letB]; omega)]
 simp only [List.append_assoc, kA]
 have e : 64 - (letB ++ (be 4 h.turn ++ (be 2 h.size ++ (be 5 h.first ++ (be 2 h.place ++ (UInt8.ofNat h.note.length :: h.note)))))).length = 42 - h.note.length := by simp [Zh, letB]; omega
 rw [e]
theorem headOf_headB {h : Hd} (hr : h.Right h.note.length) (hf : h.first < 1099511627776) : headOf (YY h) = h ∧ ((YY h).getD 21 0).toNat = h.note.length := by
 obtain ⟨h1, h2, h3, h4, h5, h6, h7, h8⟩ := hr
 have e := headB_eq h8
 have hl : letB.length = 8 := rfl
 have hb4 := Zh 4 h.turn
 have hb2 := Zh 2 h.size
 have hb5 := Zh 5 h.first
 have hbp := Zh 2 h.place
 have hn8 : h.note.length < 256 := by omega
 have e21 : (YY h).getD 21 0 = UInt8.ofNat h.note.length := by
  rw [e, ← List.append_assoc, ← List.append_assoc, ← List.append_assoc, ← List.append_assoc]
  rw [List.getD_eq_getElem?_getD, List.getElem?_append_right (by simp [hl, hb4, hb2, hb5, hbp])]
  simp [hl, hb4, hb2, hb5, hbp]
 have en : (UInt8.ofNat h.note.length).toNat = h.note.length := by simp; omega
 refine ⟨?_, by rw [e21, en]⟩
 unfold headOf
 have f1 : ((YY h).drop 8).take 4 = be 4 h.turn := by rw [e]; exact mid hl hb4
 have f2 : ((YY h).drop 12).take 2 = be 2 h.size := by
  rw [e, ← List.append_assoc]; exact mid (by simp [hl, hb4]) hb2
 have f3 : ((YY h).drop 14).take 5 = be 5 h.first := by
  rw [e, ← List.append_assoc, ← List.append_assoc]; exact mid (by simp [hl, hb4, hb2]) hb5
 have f4 : ((YY h).drop 19).take 2 = be 2 h.place := by
  rw [e, ← List.append_assoc, ← List.append_assoc, ← List.append_assoc]; exact mid (by simp [hl, hb4, hb2, hb5]) hbp
 have f5 : ((YY h).drop 22).take h.note.length = h.note := by
  rw [e, ← List.append_assoc, ← List.append_assoc, ← List.append_assoc, ← List.append_assoc, ← List.append_assoc]; exact mid (by simp [hl, hb4, hb2, hb5, hbp]) rfl
 have g1 : h.turn % 256 ^ 4 = h.turn := Nat.mod_eq_of_lt (by simp; omega)
 have g2 : h.size % 256 ^ 2 = h.size := Nat.mod_eq_of_lt (by simp; omega)
 have g3 : h.first % 256 ^ 5 = h.first := Nat.mod_eq_of_lt (by simp; omega)
 have g4 : h.place % 256 ^ 2 = h.place := Nat.mod_eq_of_lt (by simp; omega)
 rw [e21, en, f1, f2, f3, f4, f5, WE, WE, WE, WE, g1, g2, g3, g4]
theorem readB_headB {h : Hd} (hr : h.Right h.note.length) (hf : h.first < 1099511627776) : Xh (YY h) = (h, true) := by
 obtain ⟨h1, h2⟩ := headOf_headB hr hf
 unfold Xh
 rw [h1, h2, if_pos hr]; simp
theorem RgS.Ok.right {R : RgS} (h : R.Ok) : R.h.Right R.h.note.length := ⟨h.turn.1, h.turn.2, h.size.1, h.size.2, h.first, by have := h.next; unfold RgS.next at this; omega, h.place, h.note⟩
structure RO (R : RgS) (D : DS) : Prop where
 ok : R.Ok
 live : R.broken = false
 num : R.h.first < 1099511627776
 dok : D.Ok
 alive : D.dead = false
 empty : Wj D.secs
 len : R.h.size + 2 ≤ D.secs.length
 head : img D (R.h.turn % 2) = YY R.h
 other : (Xh (img D ((R.h.turn + 1) % 2))).2 = true → (Xh (img D ((R.h.turn + 1) % 2))).1.turn < R.h.turn
 has : Has (img D) R.h.size R.h.turn R.h.first R.h.place R.ents
 none : R.next < 1099511627776 → NoAt (img D) R.h.size (R.h.place + R.used) R.next
 bound : ∀ q, q < R.h.size → Yh (img D (2 + q)) ≤ R.h.turn ∧ numOf (img D (2 + q)) ≤ R.next
def Frs (R : RgS) (D : DS) : Prop := ∀ q, q < R.h.size → ¬ (Yh (img D (2 + q)) = R.h.turn ∧ numOf (img D (2 + q)) = R.next)
theorem mod2 (t : Nat) : t % 2 = 0 ∧ (t + 1) % 2 = 1 ∨ t % 2 = 1 ∧ (t + 1) % 2 = 0 := by omega
theorem RO.counts {R : RgS} {D : DS} (h : RO R D) : Xw (img D 0) (img D 1) = (R.h, true) := by
 have hr := readB_headB h.ok.right h.num
 have ho := h.other
 have hh := h.head
 rcases mod2 R.h.turn with ⟨e1, e2⟩ | ⟨e1, e2⟩
 ·rw [e1] at hh; rw [e2] at ho
  unfold Xw
  rw [hh, hr]
  cases hy : (Xh (img D 1)).2 with
  | false => simp
  | true => have := ho hy; simp; omega
 ·rw [e1] at hh; rw [e2] at ho
  unfold Xw
  rw [hh, hr]
  cases hy : (Xh (img D 0)).2 with
  | false => simp
  | true => have := ho hy; simp; omega
theorem XT {s : YI} {keep : Nat → Bool} {D : DS} {l : List (Nat × Blk)} (he : Wj s) (hs : D.secs = settled keep (Yv s l)) (D0 : DS) (h0 : D0.secs = s) (i : Nat) : img D i = img D0 i ∨ ∃ p ∈ l, p.1 = i ∧ img D i = p.2 := by
 by_cases hi : i < s.length
 ·have hl : i < D.secs.length := by rw [hs, Ya, Yq]; exact hi
  have h' : i < (settled keep (Yv s l)).length := by rw [Ya, Yq]; exact hi
  have e1 : img D i = (settled keep (Yv s l))[i].1 := by rw [img_at hl]; congr 1; simp [hs]
  have e2 : img D0 i = s[i].1 := by rw [img_at (by rw [h0]; exact hi)]; simp [h0]
  rcases settled_one (keep := keep) he l hi h' with h | ⟨p, hp, h1, h2⟩
  ·left; rw [e1, e2, h]
  ·right; exact ⟨p, hp, h1, by rw [e1, h2]⟩
 ·left
  have a : D.secs[i]? = none := List.getElem?_eq_none (by rw [hs, Ya, Yq]; omega)
  have b : D0.secs[i]? = none := List.getElem?_eq_none (by rw [h0]; omega)
  unfold img; rw [a, b]
theorem img_all {s : YI} {D : DS} {l : List (Nat × Blk)} (he : Wj s) (hs : D.secs = settled (fun _ => true) (Yv s l)) (D0 : DS) (h0 : D0.secs = s) {i : Nat} (hi : i < s.length) : (img D i = img D0 i ∧ ∀ p ∈ l, p.1 ≠ i) ∨ ∃ p ∈ l, p.1 = i ∧ img D i = p.2 := by
 have hl : i < D.secs.length := by rw [hs, Ya, Yq]; exact hi
 have h' : i < (settled (fun _ => true) (Yv s l)).length := by rw [Ya, Yq]; exact hi
 have e1 : img D i = (settled (fun _ => true) (Yv s l))[i].1 := by rw [img_at hl]; congr 1; simp [hs]
 have e2 : img D0 i = s[i].1 := by rw [img_at (by rw [h0]; exact hi)]; simp [h0]
 rcases settled_all he l hi h' with ⟨h, h2⟩ | ⟨p, hp, h1, h2⟩
 ·left; exact ⟨by rw [e1, e2, h], h2⟩
 ·right; exact ⟨p, hp, h1, by rw [e1, h2]⟩
theorem RO.newHead {R : RgS} {D D' : DS} {h' : Hd} {l : List Bs} {u : Nat} (h : RO R D) (hok : D'.Ok) (hal : D'.dead = false) (hem : Wj D'.secs) (hlen : D'.secs.length = D.secs.length)
  (hi : img D' ((R.h.turn + 1) % 2) = YY h') (hs : ∀ i, i ≠ (R.h.turn + 1) % 2 → img D' i = img D i) (ht : h'.turn = R.h.turn + 1) (hz : h'.size = R.h.size)
  (hR : RgS.Ok ⟨h', l, u, false⟩) (hnum : h'.first < 1099511627776) (hhas : Has (img D) h'.size h'.turn h'.first h'.place l) (hpl : (h'.place + u) % h'.size = (R.h.place + R.used) % h'.size) (hn : h'.first + l.length = R.next) :
  RO ⟨h', l, u, false⟩ D' ∧ Frs ⟨h', l, u, false⟩ D' := by
 have hsec : ∀ q, img D' (2 + q) = img D (2 + q) := fun q => hs (2 + q) (by omega)
 have hold : img D' (R.h.turn % 2) = YY R.h := by rw [hs _ (by omega)]; exact h.head
 have hrd := readB_headB h.ok.right h.num
 refine ⟨⟨hR, rfl, hnum, hok, hal, hem, by dsimp only; rw [hlen, hz]; exact h.len, by dsimp only; rw [ht]; exact hi, ?_, ?_, ?_, ?_⟩, ?_⟩
 ·dsimp only
  rw [ht, show (R.h.turn + 1 + 1) % 2 = R.h.turn % 2 by omega, hold, hrd]
  intro _; dsimp only; omega
 ·exact hhas.frame rfl (fun j _ => hsec _)
 ·intro hlt t b h1 h1' h2 h3
  dsimp only [RgS.next] at hlt ⊢
  rw [hn] at hlt ⊢
  dsimp only at h3
  rw [hz] at h3 hpl ⊢
  obtain ⟨k, hk, hne⟩ := h.none hlt t b h1 h1' h2 h3
  refine ⟨k, hk, ?_⟩
  have e : (h'.place + u + k) % R.h.size = (R.h.place + R.used + k) % R.h.size := by rw [Nat.add_mod, hpl, ← Nat.add_mod]
  rw [e, hsec]; exact hne
 ·intro q hq
  dsimp only [RgS.next] at hq ⊢
  rw [hz] at hq
  have := h.bound q hq
  rw [hsec, hn, ht]; omega
 ·intro q hq hc
  dsimp only [RgS.next] at hq hc
  rw [hz] at hq
  have := h.bound q hq
  rw [hsec, ht] at hc; omega
theorem YG {h : Hd} {p : Nat × Blk} (hp : p ∈ ZU h) : p.1 = h.turn % 2 ∧ p.2 = YY h := by
 simp only [ZU, List.mem_singleton] at hp; subst hp; exact ⟨rfl, rfl⟩
def RgS.again (R : RgS) : RgS := { R with h := { R.h with turn := R.h.turn + 1 } }
theorem RO.open {R : RgS} {D : DS} (h : RO R D) (hc : D.Calm) (ht : R.h.turn < 1073741824) : ∃ D', openR D = (some R.again, D', 0) ∧ RO R.again D' ∧ Frs R.again D' ∧ D'.Calm ∧ D'.secs.length = D.secs.length := by
 have hcl : D.Clean := ⟨h.dok, hc, h.empty⟩
 have hsz := h.ok.size
 have hlen := h.len
 have hus := h.ok.used
 have hnx := h.ok.next
 obtain ⟨D1, e1, c1, s1⟩ := hcl.read (i := 0) (by omega)
 obtain ⟨D2, e2, c2, s2⟩ := c1.read (i := 1) (by rw [s1]; omega)
 rw [XZ s1] at e2
 have hcnt := h.counts
 have hs2 : D2.secs = D.secs := s2.trans s1
 obtain ⟨D3, e3, c3, s3⟩ := found_clean R.ents (R.h.size + 1) ⟨R.h, [], 0, false⟩ D2 c2 (by dsimp only; omega) (by rw [hs2]; exact hlen) (by dsimp only; omega) (by
   rw [XZ hs2]; simpa [RgS.next] using h.has) h.ok.long (by dsimp only; have := h.ok.fit; omega) (fun hlt => by
   rw [XZ hs2]
   have := h.none (by unfold RgS.next; simpa [RgS.next] using hlt)
   rw [hus] at this
   simpa [RgS.next] using this) (by unfold RgS.next at hnx; simpa [RgS.next] using hnx) (by have := usedL_len R.ents; have := h.ok.fit; omega)
 have hs3 : D3.secs = D.secs := s3.trans hs2
 have hidx : ∀ p ∈ ZU { R.h with turn := R.h.turn + 1 }, p.1 < D3.secs.length := fun p hp => by
  rw [(YG hp).1, hs3]; omega
 obtain ⟨l0, l1, l2⟩ := Calm_lays (ZU { R.h with turn := R.h.turn + 1 }) D3 c3.calm hidx
 have hD4ok : (DS.lays (ZU { R.h with turn := R.h.turn + 1 }) D3).1.Ok := c3.ok.lays (fun p hp => by rw [(YG hp).2]; exact headB_len _)
 have hall := fun {i : Nat} (hi : i < D3.secs.length) => img_all (D := (DS.lays (ZU { R.h with turn := R.h.turn + 1 }) D3).1) c3.empty l2 D3 rfl hi
 have hR : ({ R with h := { R.h with turn := R.h.turn + 1 } } : RgS) = ⟨{ R.h with turn := R.h.turn + 1 }, R.ents, R.used, false⟩ := by rw [← h.live]
 have hok' : RgS.Ok ⟨{ R.h with turn := R.h.turn + 1 }, R.ents, R.used, false⟩ := ⟨⟨by dsimp only; omega, by dsimp only; omega⟩, h.ok.size, h.ok.first, h.ok.next, h.ok.place, h.ok.note, h.ok.used, h.ok.fit, h.ok.long⟩
 have hnew := h.newHead (D' := (DS.lays (ZU { R.h with turn := R.h.turn + 1 }) D3).1) (h' := { R.h with turn := R.h.turn + 1 }) (l := R.ents) (u := R.used) hD4ok l1.dead (by rw [l2]; exact Xb)
  (by rw [XB, hs3]) (by
   rcases hall (i := (R.h.turn + 1) % 2) (by rw [hs3]; omega) with ⟨_, hno⟩ | ⟨p, hp, _, hq⟩
   ·exact absurd rfl (hno _ (List.mem_singleton.2 rfl))
   ·rw [hq, (YG hp).2]) (fun i hi => by
   rw [← XZ hs3]
   rcases XT c3.empty l2 D3 rfl i with he | ⟨p, hp, h1, _⟩
   ·exact he
   ·exact absurd (by rw [← h1, (YG hp).1]) hi) rfl rfl hok' h.num (h.has.le (by dsimp only; omega)) rfl rfl
 refine ⟨(DS.lays (ZU { R.h with turn := R.h.turn + 1 }) D3).1, ?_, by unfold RgS.again; rw [hR]; exact hnew.1, by unfold RgS.again; rw [hR]; exact hnew.2, l1, by rw [XB, hs3]⟩
 have e1' : D.read 0 = (D1, img D 0, 0) := e1
 have e2' : D1.read 1 = (D2, img D 1, 0) := e2
 have hul : Yc R.ents = R.used := hus.symm
 have hfin : openH R.h D2 = (some ⟨{ R.h with turn := R.h.turn + 1 }, R.ents, R.used, false⟩, (DS.lays (ZU { R.h with turn := R.h.turn + 1 }) D3).1, 0) := by
  unfold openH
  rw [if_neg (by rw [hs2]; omega), e3, if_neg (by simp), if_neg (by omega), if_pos l0]
  simp only [List.nil_append, Nat.zero_add, hul]
  refine Prod.ext rfl (Prod.ext rfl l0)
 unfold openR
 rw [e1', if_neg (by simp), e2', if_neg (by simp), hcnt, if_neg (by simp), hfin]
 unfold RgS.again
 rw [hR]
theorem shr_byteR (V m : Nat) : Value.int .u8 (IntKind.u8.wrap ((V : Int) / 2 ^ (8 * m))) = Zo (UInt8.ofNat (V / 256 ^ m)) := by
 have h2 : (2 ^ (8 * m) : Nat) = 256 ^ m := by rw [Nat.pow_mul]
 have h3 : ((2 : Int) ^ (8 * m)) = ((2 ^ (8 * m) : Nat) : Int) := by rw [Int.natCast_pow]; rfl
 rw [h3, h2, ← Int.natCast_ediv, u8_wrap]
theorem be_take_succ : ∀ (n V j : Nat), j < n → (be n V).take (j + 1) = (be n V).take j ++ [UInt8.ofNat (V / 256 ^ (n - 1 - j))]
 | 0, V, j, h => by omega
 | n + 1, V, 0, h => by simp [be]
 | n + 1, V, j + 1, h => by
  have ih := be_take_succ n V j (by omega)
  rw [be, List.take_succ_cons, List.take_succ_cons, ih]
  simp only [List.cons_append, List.cons.injEq, true_and]
  rw [show n + 1 - 1 - (j + 1) = n - 1 - j by omega]
theorem put_spec (ρ : Hp) (v : Value) (c : List (Nat × Obj)) (l : Bs) (h : AppB v c 5 l) (x m : Nat) (hx : x < 18446744073709551616) (hm : m ≤ 8) (hm0 : 0 < m) (hl : l.length ≤ 1000000) :
  Spec Tryz.prog 180 [v, .int .u64 x, .int .i64 m] ρ [c] (fun v' ρ' L' => ρ' = ρ ∧ ∃ sp, OwnS v' (l.length + m) ((l ++ be m x).map Zo) sp 1 ∧ L' = [Zw v' ((l ++ be m x).map Zo) sp 5]) := by
 refine Za Tryz.func180 rfl rfl rfl fun u R => ?_
 simp only [Zf, kA]
 repeat' (first | refine zW ?_ | intro _)
 refine Zm [(1, _), (6, _)] (fun (ζ : (Nat) × (Int) × (Value) × (List (Nat × Obj))) => [(7, .int .i64 ζ.2.1), (0, ζ.2.2.1)]) (fun (ζ : (Nat) × (Int) × (Value) × (List (Nat × Obj))) => ρ) (fun (ζ : (Nat) × (Int) × (Value) × (List (Nat × Obj))) => [ζ.2.2.2]) (fun (ζ : (Nat) × (Int) × (Value) × (List (Nat × Obj))) => ζ.1 ≤ m ∧ ζ.2.1 = (m : Int) - 1 - (ζ.1 : Int) ∧ AppB ζ.2.2.1 ζ.2.2.2 5 (l ++ (be m x).take ζ.1) ∧ (ζ.1 = 0 ∨ ∃ sp, OwnS ζ.2.2.1 (l.length + ζ.1) ((l ++ (be m x).take ζ.1).map Zo) sp 1 ∧ ζ.2.2.2 = Zw ζ.2.2.1 ((l ++ (be m x).take ζ.1).map Zo) sp 5)) (fun (ζ : (Nat) × (Int) × (Value) × (List (Nat × Obj))) => m - ζ.1) ((0, (m : Int) - 1, v, c)) (⟨Nat.zero_le _, by simp, by simpa using h, .inl rfl⟩) Zc Zc rfl tk ?_
 rintro ⟨j, i, v1, c1⟩ hI
 try simp only [kA, List.append_assoc] at hI ⊢
 try dsimp only at hI ⊢
 obtain ⟨hj, hi, ha, hor⟩ := hI
 by_cases hlt : j < m
 ·have hsh := shr_byteR x (m - 1 - j)
  have hts := be_take_succ m x j hlt
  have hlen : ((be m x).take j).length = j := by simp [Zh]; omega
  subst hi
  have hmin : min (8 * ((m : Int) - 1 - (j : Int))).toNat 64 = 8 * (m - 1 - j) := by omega
  have hmm : l ++ (be m x).take j ++ [UInt8.ofNat (x / 256 ^ (m - 1 - j))] = l ++ (be m x).take (j + 1) := by rw [hts]; simp
  have hll : (l ++ (be m x).take (j + 1)).length = l.length + (j + 1) := by simp [Zh]; omega
  repeat' (first | (refine Zl rfl rfl rfl rfl (by simp) rfl rfl (fun _ => ?_); simp only [hmin, hsh]) | (refine tl_appB (ys := [UInt8.ofNat (x / 256 ^ (m - 1 - j))]) (m := 1) rfl rfl ha (hR := by infer_instance) SrcV.lit rfl (by simp) (by simp [Zh]; omega) rfl (fun v2 sp2 hown2 => ?_); rw [hmm] at hown2 ⊢) | refine zW ?_ | intro _)
  have ha2 := hown2.appB (T := 5) rfl
  rw [hll] at hown2
  refine Zi (j + 1, (m : Int) - 1 - (j : Int) - 1, v2, _) (⟨hlt, by dsimp only; omega, ha2, .inr ⟨sp2, hown2, rfl⟩⟩) Zc Zc rfl tk inferInstance (by first | omega | (dsimp only; omega))
 ·have hk2 : j = m := by omega
  subst hk2
  obtain ⟨sp, hown, rfl⟩ := hor.resolve_left (by omega)
  rw [List.take_of_length_le (by rw [Zh]; exact Nat.le_refl _)] at *
  repeat' (first | refine zW ?_ | intro _)
  exact qE ⟨rfl, sp, hown, rfl⟩
theorem numb_spec (ρ : Hp) (a : Option Addr) (n c : Nat) (l : Bs) (h : SIn ρ Zo a n l) (hn : n ≤ 8) :
  Spec Tryz.prog 239 [.slice a n c] ρ [] (fun v ρ' L' => v = .int .u64 (Ym l : Nat) ∧ ρ' = ρ ∧ L' = []) := by
 have hl := h.len
 refine Za Tryz.func239 rfl rfl rfl fun u R => ?_
 simp only [Zf, kA]
 repeat' (first | refine zW ?_ | intro _)
 refine Zm [(5, _), (6, _)] (fun (ζ : (Nat) × (Nat)) => [(7, .int .i64 ζ.1), (2, .int .u64 (ζ.2 : Nat))]) (fun (ζ : (Nat) × (Nat)) => ρ) (fun (ζ : (Nat) × (Nat)) => []) (fun (ζ : (Nat) × (Nat)) => ζ.1 ≤ n ∧ ζ.2 = Ym (l.take ζ.1)) (fun (ζ : (Nat) × (Nat)) => n - ζ.1) ((0, 0)) (⟨Nat.zero_le _, rfl⟩) Zc Zc rfl tk ?_
 rintro ⟨k, z⟩ hI
 try simp only [kA, List.append_assoc] at hI ⊢
 try dsimp only at hI ⊢
 obtain ⟨hk, hz⟩ := hI
 by_cases hlt : k < n
 ·obtain ⟨b, off, C, T, fr, rfl, hb, hc⟩ := h.get (show k < l.length by omega)
  have hzl := unbe_take_lt l k (by omega) (by omega)
  rw [← hz] at hzl
  have hs := take_succ_unbe l k (by omega)
  have hbt : l[k].toNat < 256 := l[k].toNat_lt
  generalize l[k] = b8 at *
  simp only [Zo] at hc
  repeat' (first | refine zW ?_ | intro _)
  have e : (z : Int) * 256 + (b8.toNat : Int) = ((z * 256 + b8.toNat : Nat) : Int) := by omega
  rw [e]
  refine Zi (k + 1, z * 256 + b8.toNat) (⟨hlt, by dsimp only; rw [hs, hz]⟩) Zc Zc rfl tk inferInstance (by first | omega | (dsimp only; omega))
 ·have hk2 : k = n := by omega
  subst hk2
  rw [List.take_of_length_le (by omega)] at hz
  subst hz
  repeat' (first | refine zW ?_ | intro _)
  exact qE ⟨rfl, rfl, rfl⟩
theorem sects_spec (ρ : Hp) (n : Nat) (hn : n ≤ 4611686018427387904) : Spec Tryz.prog 62 [.int .i64 n] ρ [] (fun v ρ' L' => v = .int .i64 (Zv n : Nat) ∧ ρ' = ρ ∧ L' = []) := by
 refine Za Tryz.func62 rfl rfl rfl fun u R => ?_
 simp only [Zf, kA]
 have e : max 1 (IntKind.i64.wrap (((n : Int) + 52 - 1).tdiv 52)) = ((Zv n : Nat) : Int) := by
  rw [Int.tdiv_eq_ediv_of_nonneg (by omega), Wh (by simp only [lo, hi]; omega)]
  unfold Zv; omega
 repeat' (first | refine zW ?_ | intro _)
 rw [e]
 exact qE ⟨rfl, rfl, rfl⟩
theorem block_spec (ρ : Hp) (v : Value) (n : Nat) (l : Bs) (sp : List Value) (h : OwnS v n (l.map Zo) sp 1) :
  Spec Tryz.prog 181 [v] ρ [Zw v (l.map Zo) sp 5] (fun v ρ' L' => v = bv (pad l) ∧ ρ' = ρ ∧ L' = []) := by
 obtain ⟨a, cap, rfl, hl⟩ := h.len
 have hl' : l.length = n := by simpa using hl
 refine Za Tryz.func181 rfl rfl rfl fun u R => ?_
 simp only [Zf, kA]
 have hz : (List.replicate 64 (Value.int .u8 0)).length = 64 := by simp
 have hst : stc (List.replicate 64 (Value.int .u8 0)) 0 ((l.map Zo).take 64) = (pad l).map Zo := by
  unfold stc
  rw [← pad_take]
  have hl64 : (l.take 64).length ≤ 64 := by simp; omega
  rw [pad_of hl64]
  simp only [List.take_zero, List.nil_append, List.map_append, List.map_take, Nat.zero_add]
  congr 1
  rw [List.drop_replicate]
  simp only [z8, List.map_replicate, List.length_take, List.length_map]
  rfl
 have hpl : ((pad l).map Zo).length = 64 := by simp [pad_len]
 have h1 := Yf (pad l)
 repeat' (first | refine zW ?_ | intro _)
 refine tl_copy (ys := l.map Zo) rfl rfl (SrcV.own (v := .nilIface) h (T := 5) (hR := by infer_instance)) (by simpa using hl) (Yf l) (by rw [hz]; omega) rfl ?_
 simp only [hst]
 repeat' (first | refine zW ?_ | intro _)
 exact qE ⟨rfl, rfl, rfl⟩
end Go.Proofs.E
namespace Go.Proofs.E
open Go
set_option linter.unusedVariables false
set_option linter.unusedSimpArgs false
set_option linter.unusedSectionVars false
set_option maxRecDepth 4000
set_option maxHeartbeats 1000000
attribute [local irreducible] Yl TL TC TE Spec ZN R1 Hp.le EnvLe TS TR YS Zp TP QP
theorem put_own (ρ : Hp) {v : Value} {l : Bs} {sp : List Value} (h : OwnS v l.length (l.map Zo) sp 1) (x m : Nat) (hx : x < 18446744073709551616) (hm : m ≤ 8) (hm0 : 0 < m) (hl : l.length ≤ 1000000) :
  Spec Tryz.prog 180 [v, .int .u64 x, .int .i64 m] ρ [Zw v (l.map Zo) sp 5] (fun v' ρ' L' => ρ' = ρ ∧ ∃ sp, OwnS v' (l ++ be m x).length ((l ++ be m x).map Zo) sp 1 ∧ L' = [Zw v' ((l ++ be m x).map Zo) sp 5]) := by
 have := put_spec ρ v _ l (h.appB rfl) x m hx hm hm0 hl
 rwa [show l.length + m = (l ++ be m x).length by simp [Zh]] at this
theorem put_nil (ρ : Hp) (x m : Nat) (hx : x < 18446744073709551616) (hm : m ≤ 8) (hm0 : 0 < m) :
  Spec Tryz.prog 180 [.slice none 0 0, .int .u64 x, .int .i64 m] ρ [[]] (fun v' ρ' L' => ρ' = ρ ∧ ∃ sp, OwnS v' (be m x).length ((be m x).map Zo) sp 1 ∧ L' = [Zw v' ((be m x).map Zo) sp 5]) :=
 put_own ρ (l := []) (sp := []) (OwnS.nil 1) x m hx hm hm0 (by simp)
theorem tl_app_own {x : Cx} {Q : Exit → Act → World → Prop} {E : Env} {ρ : Hp} {L L1 : SH} {ops : Array Oper} {rest : List Oper} {ty : TypeId} {pos : String} {af : Array Edge} {d t e m cx : Nat} {s y : Operand} {v : Value} {sp : List Value} {l ys : List UInt8} {a : Option Addr} [hS : ZD x.P t e] [hZ : Zn x.P e 1] [hB : Zd x.P e 1] [hz : Zg x.P e (.int .u8 0)]
  (hs : ev E s = some v) (hy : ev E y = some (.slice a m cx)) (h : OwnS v l.length (l.map Zo) sp 1) [hR : Rem (Zw v (l.map Zo) sp e) L L1] (hsrc : SrcV x ρ L1 a (ys.map Zo)) (hlen : ys.length = m)
  (hb : l.length + m ≤ 140737488355328) (hd : Nat.blt d x.N = true)
  (k : ∀ v' sp', OwnS v' (l ++ ys).length ((l ++ ys).map Zo) sp' 1 → TL x ops rest Q ((d, v') :: E) ρ (Zw v' ((l ++ ys).map Zo) sp' e :: L1)) :
  TL x ops (⟨some d, .call { callee := .builtin .append, args := #[s, y], argTypes := #[t, t] }, ty, pos, af, none⟩ :: rest) Q E ρ L :=
 Yk hs hy h hsrc (by simpa using hlen) (Yf ys) (by decide) rfl (by omega) (by omega) hd (fun v' sp' ho => by
  rw [← List.map_append] at ho ⊢
  exact k v' sp' (by rw [List.length_append, hlen]; exact ho))
theorem part_spec (ρ : Hp) (X : SH) (turn n : Nat) (a : Option Addr) (bn c : Nat) (b : Bs) (hb : Rd ρ X a bn b) (hc : bn ≤ c) (k : Nat) (ht : turn < 4294967296) (hn : n ≤ 1099511627776) (hbl : bn ≤ 8000) (hk : k < Zv bn) :
  Spec Tryz.prog 131 [.int .u64 turn, .int .u64 n, .slice a bn c, .int .i64 k] ρ X (fun v ρ' L' => v = bv (ZV turn n b k) ∧ ρ' = ρ ∧ L' = X) := by
 have hl := hb.len
 have hkm : 52 * k ≤ bn := by unfold Zv at hk; omega
 have hk2 : k < 256 := by unfold Zv at hk; omega
 have hkb : Value.int .u8 (IntKind.u8.wrap (k : Int)) = Zo (UInt8.ofNat k) := u8_wrap k
 have hkb' : Value.int .u8 (k : Int) = Zo (UInt8.ofNat k) := by rw [← hkb, Wh (by simp only [lo, hi]; omega)]
 have hlo : (52 * (k : Int)).toNat = 52 * k := by omega
 have hhi : (min (52 * (k : Int) + 52) (bn : Int)).toNat - 52 * k = min 52 (bn - 52 * k) := by omega
 have htk : (b.drop (52 * k)).take (min 52 (bn - 52 * k)) = (b.drop (52 * k)).take 52 := by
  by_cases h : 52 ≤ bn - 52 * k
  ·rw [Nat.min_eq_left h]
  ·rw [Nat.min_eq_right (by omega), List.take_of_length_le (by simp; omega), List.take_of_length_le (by simp; omega)]
 have hfin : ∀ n2, pad (be 4 turn ++ be 5 n ++ be 2 n2 ++ [UInt8.ofNat k] ++ (b.drop (52 * k)).take (min 52 (bn - 52 * k))) = pad (be 4 turn ++ (be 5 n ++ (be 2 n2 ++ (UInt8.ofNat k :: (b.drop (52 * k)).take 52)))) := fun n2 => by rw [htk]; simp
 have hfin2 : pad (be 4 turn ++ be 5 n ++ be 2 bn ++ [UInt8.ofNat k] ++ (b.drop (52 * k)).take (min 52 (bn - 52 * k))) = ZV turn n b k := by rw [hfin, ← hl]; rfl
 have hpl : ((ZV turn n b k).map Zo).length = 64 := by simp [partB_len]
 have hp1 := Yf (ZV turn n b k)
 refine Za Tryz.func131 rfl rfl rfl fun u R => ?_
 simp only [Zf, kA]
 repeat' (first | (refine Zb (.func 180) ?_; refine qC rfl rfl (put_nil _ turn 4 (by omega) (by omega) (by omega)) ?_; rintro v1 ρ' L' hle ⟨rfl, sp1, hown1, rfl⟩; simp only [kA]) | refine zW ?_ | intro _)
 repeat' (first | (refine Zb (.func 180) ?_; refine qC rfl rfl (put_own _ hown1 n 5 (by omega) (by omega) (by omega) (by simp [Zh])) ?_; rintro v2 ρ2 L2 hle2 ⟨rfl, sp2, hown2, rfl⟩; simp only [kA]) | refine zW ?_ | intro _)
 repeat' (first | (refine Zb (.func 180) ?_; refine qC rfl rfl (put_own _ hown2 bn 2 (by omega) (by omega) (by omega) (by simp [Zh])) ?_; rintro v3 ρ3 L3 hle3 ⟨rfl, sp3, hown3, rfl⟩; simp only [kA]) | refine zW ?_ | intro _)
 refine tpA [0,1,2,5,6,7,8,9,10,11,12] (.e 3 [] (.e 4 [] (.e 13 [] (.e 14 [] (.e 15 [] .o))))) ([]) ?_
 repeat' (refine iT ?_; first | refine rA ?_ | ((refine iE ?_; refine rE ?_) <;> ((try refine Zr ?_); (first | (refine Zl rfl rfl rfl rfl (by simp) rfl rfl (fun _ => ?_); simp only [hkb']) | (refine tl_app_own (ys := [UInt8.ofNat k]) (m := 1) rfl rfl hown3 (hR := by infer_instance) SrcV.lit rfl (by simp [Zh]) rfl (fun v4 sp4 hown4 => ?_)) | (simp only [hlo, hhi]; refine tl_app_own (ys := (b.drop (52 * k)).take (min 52 (bn - 52 * k))) rfl rfl hown4 (hR := by infer_instance) (by rw [List.map_take, List.map_drop]; exact SrcV.sub (hb.src _ _ _ _ (Hp.le_refl _) tk) (by simp; omega) (by simpa [hl] using hc)) (by simp; omega) (by simp [Zh]; omega) rfl (fun v5 sp5 hown5 => ?_)) | (refine Zb (.func 181) ?_; refine qC rfl rfl (block_spec _ _ _ _ _ hown5) ?_; rintro v6 ρ6 L6 hle6 ⟨rfl, rfl, rfl⟩; simp only [kA, hfin2]) | (refine qEf ?_; try intro _)) <;> ((try simp only [kA]); refine Zj ?_; refine rN ?_))))
 all_goals (repeat' (first | refine zW ?_ | intro _))
 all_goals exact qE ⟨rfl, rfl, rfl⟩
abbrev hdV (h : Hd) (na : Option Addr) (nn nc : Nat) : List Value := [.int .u64 h.turn, .int .u64 h.first, .int .i64 h.size, .int .i64 h.place, .slice na nn nc]
theorem hblock_spec (ρ : Hp) (h : Hd) (na : Option Addr) (nn nc : Nat) (hn : SIn ρ Zo na nn h.note) (ht : h.turn < 4294967296) (hf : h.first ≤ 1099511627776) (hs : h.size < 65536) (hp : h.place < 65536) (hnl : nn ≤ 32) :
  Spec Tryz.prog 126 [.agg ⟨hdV h na nn nc⟩] ρ [] (fun v ρ' L' => v = bv (YY h) ∧ ρ' = ρ ∧ L' = []) := by
 have hl := hn.len
 have hkb : Value.int .u8 (nn : Int) = Zo (UInt8.ofNat nn) := by rw [← u8_wrap nn, Wh (by simp only [lo, hi]; omega)]
 have hpl : ((YY h).map Zo).length = 64 := by simp [headB_len]
 have hp1 := Yf (YY h)
 have hfin : pad (letB ++ be 4 h.turn ++ be 2 h.size ++ be 5 h.first ++ be 2 h.place ++ [UInt8.ofNat nn] ++ h.note) = YY h := by unfold YY; rw [hl]; simp
 refine Za Tryz.func126 rfl rfl rfl fun u R => ?_
 simp only [Zf, kA]
 repeat' (first | (refine Zl rfl rfl rfl rfl (by simp) rfl rfl (fun _ => ?_)) | refine zW ?_ | intro _)
 rename_i b1 b2 b3
 repeat' (first | (refine Zb (.func 180) ?_; refine qC (Lf := [[(b3, .cells ⟨letB.map Zo⟩ 5 (8, 9))]]) rfl rfl (put_spec _ _ _ letB (.inr ⟨b3, (8, 9), rfl, by simp [letB], rfl⟩) h.turn 4 (by omega) (by omega) (by omega) (by simp [letB])) ?_; rintro v1 ρ' L' hle ⟨rfl, sp1, hown1, rfl⟩; simp only [kA]) | refine zW ?_ | intro _)
 replace hown1 : OwnS v1 (letB ++ be 4 h.turn).length ((letB ++ be 4 h.turn).map Zo) sp1 1 := by rw [List.length_append, Zh]; exact hown1
 refine tpA [0,1,2,3,5,6,8,9,10] (.e 4 [] (.e 7 [] (.e 11 [] (.f [12] .o)))) ([[(b1, .cells ⟨hdV h na nn nc⟩ 120 (0, 0))]]) ?_
 repeat' (refine iT ?_; first | refine rA ?_ | ((refine iE ?_; refine rE ?_) <;> ((try refine Zr ?_); (first | (refine Zb (.func 180) ?_; refine qC rfl rfl (put_own _ hown1 h.size 2 (by omega) (by omega) (by omega) (by simp [Zh, letB])) ?_; rintro v2 ρ2 L2 hle2 ⟨rfl, sp2, hown2, rfl⟩; simp only [kA]) | (refine Zb (.func 180) ?_; refine qC rfl rfl (put_own _ hown2 h.first 5 (by omega) (by omega) (by omega) (by simp [Zh, letB])) ?_; rintro v3 ρ3 L3 hle3 ⟨rfl, sp3, hown3, rfl⟩; simp only [kA]) | (refine Zb (.func 180) ?_; refine qC rfl rfl (put_own _ hown3 h.place 2 (by omega) (by omega) (by omega) (by simp [Zh, letB])) ?_; rintro v4 ρ4 L4 hle4 ⟨rfl, sp4, hown4, rfl⟩; simp only [kA]) | (refine qEf ?_; try intro _)) <;> ((try simp only [kA]); refine Zj ?_; refine rN ?_))))
 all_goals (repeat' (first | refine zW ?_ | intro _))
 refine tpA [0,1,2,3,4,7,8] (.e 5 [] (.e 6 [] (.e 9 [] (.e 10 [] (.e 11 [] .o))))) ([[(b1, .cells ⟨hdV h na nn nc⟩ 120 (0, 0))]]) ?_
 repeat' (refine iT ?_; first | refine rA ?_ | ((refine iE ?_; refine rE ?_) <;> ((try refine Zr ?_); (first | (refine Zl rfl rfl rfl rfl (by simp) rfl rfl (fun _ => ?_); simp only [hkb]) | (refine tl_app_own (ys := [UInt8.ofNat nn]) (m := 1) rfl rfl hown4 (hR := by infer_instance) SrcV.lit rfl (by simp [Zh, letB]) rfl (fun v5 sp5 hown5 => ?_)) | (refine tl_app_own (ys := h.note) rfl rfl hown5 (hR := by infer_instance) (SIn.srcV (by assumption)) hl (by simp [Zh, letB]; omega) rfl (fun v6 sp6 hown6 => ?_)) | (refine Zb (.func 181) ?_; refine qC rfl rfl (block_spec _ _ _ _ _ hown6) ?_; rintro v7 ρ7 L7 hle7 ⟨rfl, rfl, rfl⟩; simp only [kA, hfin]) | (refine qEf ?_; try intro _)) <;> ((try simp only [kA]); refine Zj ?_; refine rN ?_))))
 all_goals (repeat' (first | refine zW ?_ | intro _))
 all_goals exact qE ⟨rfl, rfl, rfl⟩
abbrev pencV (p : Nat × Blk) : List Value := [.int .i64 p.1, bv p.2]
theorem take_succ_pre {α : Type} (l : List α) (k : Nat) (h : k < l.length) : l.take k ++ [l[k]] <+: l := by
 rw [← List.take_succ_eq_append_getElem h]; exact List.take_prefix _ _
theorem partsL_at {h : Hd} {n at' : Nat} {b : Bs} {k : Nat} (hk : k < (ZY h n b at').length) : (ZY h n b at')[k] = (2 + (at' + k) % h.size, ZV h.turn n b k) := by
 simp [ZY]
theorem partsL_length {h : Hd} {n at' : Nat} {b : Bs} : (ZY h n b at').length = Zv b.length := by simp [ZY]
abbrev partsS (bb ab hb nb : Nat) (a : Option Addr) (bn c at' : Nat) (h : Hd) (na : Option Addr) (nn nc n : Nat) : SH :=
 [[(bb, .cells ⟨[.slice a bn c]⟩ 22 (0, 0))], [(ab, .cells ⟨[.int .i64 at']⟩ 3 (0, 0))], [(hb, .cells ⟨hdV h na nn nc⟩ 120 (0, 0))], [(nb, .cells ⟨[.int .u64 n]⟩ 33 (0, 0))]]
theorem parts_iter (ρ0 : Hp) (X : SH) (bb ab hb nb : Nat) (a : Option Addr) (bn c at' : Nat) (b : Bs) (h : Hd) (na : Option Addr) (nn nc n : Nat) (hb0 : Rd ρ0 X a bn b) (hc : bn ≤ c) (ht : h.turn < 4294967296) (hn : n ≤ 1099511627776) (hbl : bn ≤ 8000) (hat : at' ≤ 1000000) (hsz : 0 < h.size) (hsz2 : h.size ≤ 1000000) :
  Iter Tryz.prog 130 [] [.pointer (some ⟨bb, 0, none⟩), .pointer (some ⟨ab, 0, none⟩), .pointer (some ⟨hb, 0, none⟩), .pointer (some ⟨nb, 0, none⟩)] pencV ρ0 (partsS bb ab hb nb a bn c at' h na nn nc n ++ X) (ZY h n b at') := by
 intro l J Jx hY ρ Lj hl0 hJ
 have hl := hb0.len
 have hsc := sects_le (n := bn) (by omega)
 have hpl : (ZY h n b at').length = Zv bn := by rw [partsL_length, hl]
 refine Za Tryz.func130 rfl rfl rfl fun u R => ?_
 simp only [Zf, kA, List.append_assoc]
 repeat' (first | (refine Zb (.func 62) ?_; refine qC rfl rfl (sects_spec _ bn (by omega)) ?_; rintro v ρ' L' hle ⟨rfl, rfl, rfl⟩ <;> (try simp only [kA])) | refine zW ?_ | intro _)
 refine Zm [(0, _), (1, _), (2, _), (3, _), (4, _), (9, _)] (fun (ζ : (Nat) × (Hp) × (SH)) => [(10, .int .i64 ζ.1)]) (fun (ζ : (Nat) × (Hp) × (SH)) => ζ.2.1) (fun (ζ : (Nat) × (Hp) × (SH)) => partsS bb ab hb nb a bn c at' h na nn nc n ++ (X ++ ζ.2.2)) (fun (ζ : (Nat) × (Hp) × (SH)) => ζ.1 ≤ Zv bn ∧ ρ'.le ζ.2.1 ∧ J ((ZY h n b at').take ζ.1) ζ.2.1 ζ.2.2) (fun (ζ : (Nat) × (Hp) × (SH)) => Zv bn - ζ.1) ((0, ρ', Lj)) (⟨Nat.zero_le _, Hp.le_refl _, hJ⟩) Zc Zc rfl tk ?_
 rintro ⟨k, ρ1, L1⟩ hI
 try simp only [kA, List.append_assoc] at hI ⊢
 try dsimp only at hI ⊢
 obtain ⟨hk, hle1, hj⟩ := hI
 by_cases hlt : k < Zv bn
 ·have hk2 : k < (ZY h n b at').length := by omega
  have hpre := take_succ_pre (ZY h n b at') k hk2
  rw [partsL_at] at hpre
  have hts := List.take_succ_eq_append_getElem hk2
  rw [partsL_at] at hts
  have hy := hY _ _ ρ1 L1 hpre (Hp.le_trans hl0 hle1) hj
  have hrm : (2 : Int) + ((at' : Int) + (k : Int)).tmod (h.size : Int) = ((2 + (at' + k) % h.size : Nat) : Int) := by
   rw [Int.tmod_eq_emod_of_nonneg (by omega), Int.natCast_add, Int.natCast_emod, Int.natCast_add]; rfl
  have hrm1 : ((at' : Int) + (k : Int)).tmod (h.size : Int) < h.size := Int.tmod_lt_of_pos _ (by omega)
  have hrm0 : 0 ≤ ((at' : Int) + (k : Int)).tmod (h.size : Int) := Int.tmod_nonneg _ (by omega)
  repeat' (first | refine zW ?_ | intro _)
  refine tpA [0,1,2,3,4,5,6,7,8,9,10,11,12] (.e 13 [] (.e 14 [] (.f [15] .o))) (partsS bb ab hb nb a bn c at' h na nn nc n) ?_
  repeat' (refine iT ?_; first | refine rA ?_ | ((refine iE ?_; refine rE ?_) <;> ((try refine Zr ?_); (first | (refine Zb (.func 131) ?_; refine qC rfl rfl (part_spec _ X h.turn n a bn c b (hb0.mono (Hp.le_trans hl0 hle1)) hc k ht hn hbl hlt) ?_; rintro v6 ρ6 L6 hle6 ⟨rfl, rfl, rfl⟩; simp only [kA, hrm]) | (refine Zb (.tmp 13) ?_; refine qY rfl rfl (hy) ?_; rintro v ρ' L' hle ⟨Lj', rfl, ⟨rfl, hj'⟩ | ⟨rfl, hj'⟩⟩ <;> (try simp only [kA, partsS, List.append_assoc])) | (refine qEf ?_; try intro _)) <;> ((try simp only [kA]); refine Zj ?_; refine rN ?_))))
  ·repeat' (first | refine zW ?_ | intro _)
   refine Zi (k + 1, ρ', Lj') (⟨hlt, Hp.le_trans hle1 hle, by dsimp only; rw [hts]; exact hj'⟩) Zc Zc rfl tk inferInstance (by first | omega | (dsimp only; omega))
  ·repeat' (first | refine zW ?_ | intro _)
   exact qE (L' := partsS bb ab hb nb a bn c at' h na nn nc n ++ L6 ++ Lj') ⟨Lj', rfl, .inr hj'⟩
 ·have hk2 : k = Zv bn := by omega
  subst hk2
  rw [List.take_of_length_le (by omega)] at hj
  repeat' (first | refine zW ?_ | intro _)
  exact qE (L' := partsS bb ab hb nb a bn c at' h na nn nc n ++ X ++ L1) ⟨L1, rfl, .inl hj⟩
end Go.Proofs.E
namespace Go.Proofs.E
open Go
set_option linter.unusedVariables false
set_option linter.unusedSimpArgs false
set_option linter.unusedSectionVars false
set_option maxRecDepth 4000
set_option maxHeartbeats 1000000
attribute [local irreducible] Yl TL TC TE Spec ZN R1 Hp.le EnvLe TS TR YS Zp
theorem kwrite (ρ : Hp) (b : Nat) (k : DK) (D : DS) (i : Int) (blk : Blk) (h64 : blk.length = 64) (h : DOk k D) :
  Spec Tryz.prog 123 [.pointer (some ⟨b, 0, none⟩), .int .i64 i, bv blk] ρ (Zs b k D) (fun v ρ' L' => v = .int .i64 (D.write i blk).2 ∧ ρ' = ρ ∧ ∃ k', DOk k' (D.write i blk).1 ∧ L' = Zs b k' (D.write i blk).1) :=
 (dwrite_spec ρ b k.hb k.mb k.es k.ck D i blk h64 h.ok h.map).mono (fun v ρ' L' _ ⟨h1, h2, es', ck', h3, h4⟩ => ⟨h1, h2, ⟨k.hb, k.mb, es', ck'⟩, ⟨h.ok.write h64, h3⟩, h4⟩)
theorem ksync (ρ : Hp) (b : Nat) (k : DK) (D : DS) (h : DOk k D) :
  Spec Tryz.prog 124 [.pointer (some ⟨b, 0, none⟩)] ρ (Zs b k D) (fun v ρ' L' => v = .int .i64 D.sync.2 ∧ ρ.le ρ' ∧ ∃ k', DOk k' D.sync.1 ∧ L' = Zs b k' D.sync.1) :=
 (dsync_spec ρ b k.hb k.mb k.es k.ck D h.ok h.map).mono (fun v ρ' L' _ ⟨h1, h2, mb', es', ck', h3, h4⟩ => ⟨h1, h2, ⟨k.hb, mb', es', ck'⟩, ⟨h.ok.sync, h3⟩, h4⟩)
theorem kread (ρ : Hp) (b : Nat) (k : DK) (D : DS) (i : Int) (h : DOk k D) :
  Spec Tryz.prog 135 [.pointer (some ⟨b, 0, none⟩), .int .i64 i] ρ (Zs b k D) (fun v ρ' L' => v = .tuple ⟨[bv (D.read i).2.1, .int .i64 (D.read i).2.2]⟩ ∧ ρ' = ρ ∧ DOk k (D.read i).1 ∧ L' = Zs b k (D.read i).1) :=
 (dread_spec ρ b k.hb k.mb k.es k.ck D i h.ok h.map).mono (fun v ρ' L' _ ⟨h1, h2, h4⟩ => ⟨h1, h2, ⟨h.ok.read, h.map.read⟩, h4⟩)
inductive Wr (D : DS) : List (Nat × Blk) → DS → Prop
 | nil : Wr D [] D
 | snoc {l : List (Nat × Blk)} {D1 : DS} {p : Nat × Blk} : Wr D l D1 → (D1.write (p.1 : Int) p.2).2 = 0 → Wr D (l ++ [p]) (D1.write (p.1 : Int) p.2).1
theorem Wr.lays {D D1 : DS} {l : List (Nat × Blk)} (h : Wr D l D1) : ∀ r, DS.lays (l ++ r) D = DS.lays r D1 := by
 induction h with
 | nil => intro r; rfl
 | snoc h1 h2 ih =>
  intro r
  rw [List.append_assoc, ih]
  simp only [kA]
  rw [DS.lays, if_pos h2]
theorem Wr.stop {D D1 : DS} {l xs : List (Nat × Blk)} {p : Nat × Blk} (h : Wr D l D1) (hp : l ++ [p] <+: xs) (hc : (D1.write (p.1 : Int) p.2).2 ≠ 0) : DS.lays xs D = D1.write (p.1 : Int) p.2 := by
 obtain ⟨t, rfl⟩ := hp
 rw [List.append_assoc, h.lays]
 simp only [kA]
 rw [DS.lays, if_neg hc]
theorem lays_spec (ρ0 ρ : Hp) (g : Nat) (cs : List Value) (S : SH) (xs : List (Nat × Blk)) (hl0 : ρ0.le ρ) (hI : Iter Tryz.prog g [] cs pencV ρ0 S xs) [hF : ZK Tryz.prog g] (h64 : ∀ p ∈ xs, p.2.length = 64) (b : Nat) (k : DK) (D : DS) (hD : DOk k D) :
  Spec Tryz.prog 53 [.pointer (some ⟨b, 0, none⟩), .func (.func g) ⟨[]⟩ ⟨cs⟩] ρ (S ++ Zs b k D) (fun v ρ' L' => v = .int .i64 (DS.lays xs D).2 ∧ ρ.le ρ' ∧ ∃ k', DOk k' (DS.lays xs D).1 ∧ L' = S ++ Zs b k' (DS.lays xs D).1) := by
 refine Za Tryz.func53 rfl rfl rfl fun u R => ?_
 simp only [Zf, kA, List.append_assoc]
 repeat' (first | refine zW ?_ | intro _)
 rename_i b2 b4
 refine tc_rangeFunc (S := S) (L0 := [[(b2, .cells ⟨[.pointer (some ⟨b, 0, none⟩)]⟩ 26 (0, 0))], [(b4, .cells ⟨[.int .i64 0]⟩ 27 (0, 0))]] ++ Zs b k D) (R := R) (R0 := [(b4, .cells ⟨[.int .i64 0]⟩ 27 (0, 0))] :: [(b2, .cells ⟨[.pointer (some ⟨b, 0, none⟩)]⟩ 26 (0, 0))] :: (Zs b k D ++ R)) rfl rfl hI hl0 (fun _ => rfl) rfl
  (fun pre ρ1 Lu => ∃ D1 k1, ρ.le ρ1 ∧ Wr D pre D1 ∧ DOk k1 D1 ∧ Lu = [[(b2, .cells ⟨[.pointer (some ⟨b, 0, none⟩)]⟩ 26 (0, 0))], [(b4, .cells ⟨[.int .i64 0]⟩ 27 (0, 0))]] ++ Zs b k1 D1)
  (fun c ρ1 Lu => c = .exit 0 ∧ ∃ D2 k2 e, ρ.le ρ1 ∧ e ≠ 0 ∧ DS.lays xs D = (D2, e) ∧ DOk k2 D2 ∧ Lu = [[(b2, .cells ⟨[.pointer (some ⟨b, 0, none⟩)]⟩ 26 (0, 0))], [(b4, .cells ⟨[.int .i64 e]⟩ 27 (0, 0))]] ++ Zs b k2 D2) ?k1 ?k2 ⟨D, k, Hp.le_refl _, .nil, hD, rfl⟩ ?round ?done ?stop
 case k1 => exact tk
 case k2 => exact tk
 case round =>
  rintro l tm r pre y ρ1 Lu u R' hpre hl1 ⟨D1, k1, hl2, hwr, hD1, rfl⟩ hr hrec
  simp only [envP, kA]
  have hm64 := h64 y (hpre.subset (by simp))
  have hy1 := Yf y.2
  have hyl : (y.2.map Zo).length = 64 := by simpa using hm64
  repeat' (first | refine zW ?_ | intro _)
  refine YO [(l, .loop r)] ?_
  refine te_begin rfl hr (fun r' hbz hrec' => ?_)
  repeat' (first | (refine Zb (.func 123) ?_; refine qC rfl rfl (kwrite _ b k1 D1 y.1 y.2 hm64 hD1) ?_; rintro v ρ' L' hle ⟨rfl, rfl, k2, hD2, rfl⟩ <;> (try simp only [kA])) | refine zW ?_ | intro _)
  by_cases hc : (D1.write (y.1 : Int) y.2).2 = 0
  ·have hcb : ((D1.write (y.1 : Int) y.2).2 != 0) = false := by simpa using hc
   have hw2 := hwr.snoc hc
   rw [hcb, hc]
   repeat' (first | refine zW ?_ | intro _)
   refine YO [(l, .loop r')] ?_
   refine te_next (Lu := [[(b2, .cells ⟨[.pointer (some ⟨b, 0, none⟩)]⟩ 26 (0, 0))], [(b4, .cells ⟨[.int .i64 0]⟩ 27 (0, 0))]] ++ Zs b k2 (D1.write (y.1 : Int) y.2).1) rfl (Hp.le_refl _) ⟨hrec'.tmps.trans hrec.tmps, hrec'.params.trans hrec.params, hrec'.assign.trans hrec.assign, hrec'.body.trans hrec.body⟩ tk tk inferInstance ?_
   exact ⟨_, k2, hl2, hw2, hD2, rfl⟩
  ·have hcb : ((D1.write (y.1 : Int) y.2).2 != 0) = true := by simpa using hc
   have hst := hwr.stop hpre hc
   rw [hcb]
   repeat' (first | refine zW ?_ | intro _)
   refine YO [(l, .loop r')] ?_
   refine te_leave (Lu := [[(b2, .cells ⟨[.pointer (some ⟨b, 0, none⟩)]⟩ 26 (0, 0))], [(b4, .cells ⟨[.int .i64 (D1.write (y.1 : Int) y.2).2]⟩ 27 (0, 0))]] ++ Zs b k2 (D1.write (y.1 : Int) y.2).1) rfl rfl (Hp.le_refl _) ⟨hrec'.tmps.trans hrec.tmps, hrec'.params.trans hrec.params, hrec'.assign.trans hrec.assign, hrec'.body.trans hrec.body⟩ tk tk inferInstance ?_
   exact ⟨rfl, _, k2, _, hl2, hc, hst, hD2, rfl⟩
 case done =>
  rintro D0 ρ1 Lu hl1 ⟨D1, k1, hl2, hwr, hD1, rfl⟩
  simp only [kA]
  have hlay := hwr.lays []
  rw [List.append_nil, DS.lays] at hlay
  rw [hlay]
  repeat' (first | (refine Zb (.func 124) ?_; refine qC rfl rfl (ksync _ b k1 D1 hD1) ?_; rintro v ρ' L' hle ⟨rfl, hl3, k2, hD2, rfl⟩ <;> (try simp only [kA])) | refine zW ?_ | intro _)
  refine YO [(D0, .deferred (some []))] ?_
  exact te_end_d rfl rfl rfl inferInstance (res1 rfl (Zu rfl rfl)) (Hp.le_trans hl2 hl3) tk (by infer_instance) (L' := S ++ Zs b k2 D1.sync.1) ⟨rfl, Hp.le_trans hl2 hl3, k2, hD2, rfl⟩
 case stop =>
  rintro D0 c ρ1 Lu hl1 ⟨rfl, D2, k2, e, hl2, he, hlay, hD2, rfl⟩
  simp only [kA]
  have heb : (e != 0) = true := by simpa using he
  rw [hlay]
  repeat' (first | refine zW ?_ | intro _)
  refine YO [(D0, .deferred (some []))] ?_
  exact te_end_d rfl rfl rfl inferInstance (res1 rfl (Zu rfl rfl)) hl2 tk (by infer_instance) (L' := S ++ Zs b k2 D2) ⟨rfl, hl2, k2, hD2, rfl⟩
end Go.Proofs.E
namespace Go.Proofs.E
open Go
set_option linter.unusedVariables false
set_option linter.unusedSimpArgs false
set_option linter.unusedSectionVars false
set_option maxRecDepth 4000
set_option maxHeartbeats 1000000
attribute [local irreducible] Yl TL TC TE Spec ZN R1 Hp.le EnvLe TS TR YS Zp TP QP
theorem laid_iter (ρ0 : Hp) (hb : Nat) (h : Hd) (na : Option Addr) (nn nc : Nat) (hn : SIn ρ0 Zo na nn h.note) (ht : h.turn < 4294967296) (hf : h.first ≤ 1099511627776) (hs : h.size < 65536) (hp : h.place < 65536) (hnl : nn ≤ 32) :
  Iter Tryz.prog 125 [] [.pointer (some ⟨hb, 0, none⟩)] pencV ρ0 [[(hb, .cells ⟨hdV h na nn nc⟩ 120 (0, 0))]] (ZU h) := by
 intro l J Jx hY ρ Lj hl0 hJ
 have hy := fun ρ Lj h1 h2 => hY [] (h.turn % 2, YY h) ρ Lj (List.prefix_refl _) h1 h2
 have hrm : (h.turn : Int).tmod 2 = ((h.turn % 2 : Nat) : Int) := by rw [Int.tmod_eq_emod_of_nonneg (by omega)]; rfl
 have hrm1 : 0 ≤ (h.turn : Int).tmod 2 := by rw [hrm]; omega
 have hrm2 : (h.turn : Int).tmod 2 < 2 := by rw [hrm]; omega
 refine Za Tryz.func125 rfl rfl rfl fun u R => ?_
 simp only [Zf, kA, List.append_assoc]
 refine tpA [0,1,2,3,4,5] (.e 6 [] (.e 7 [] .o)) ([[(hb, .cells ⟨hdV h na nn nc⟩ 120 (0, 0))]]) ?_
 repeat' (refine iT ?_; first | refine rA ?_ | ((refine iE ?_; refine rE ?_) <;> ((try refine Zr ?_); (first | (refine Zb (.func 126) ?_; refine qC rfl rfl (hblock_spec _ h na nn nc (hn.mono hl0) ht hf hs hp hnl) ?_; rintro v6 ρ6 L6 hle6 ⟨rfl, rfl, rfl⟩; simp only [kA, hrm]) | (refine Zb (.tmp 3) ?_; refine qY rfl rfl ((hy _ _ hl0 hJ)) ?_; rintro v ρ' L' hle ⟨Lj', rfl, ⟨rfl, hj'⟩ | ⟨rfl, hj'⟩⟩ <;> (try simp only [kA])) | (refine qEf ?_; try intro _)) <;> ((try simp only [kA]); refine Zj ?_; refine rN ?_))))
 all_goals (repeat' (first | refine zW ?_ | intro _))
 ·exact qE (L' := [[(hb, .cells ⟨hdV h na nn nc⟩ 120 (0, 0))]] ++ Lj') ⟨Lj', rfl, .inl hj'⟩
 ·exact qE (L' := [[(hb, .cells ⟨hdV h na nn nc⟩ 120 (0, 0))]] ++ Lj') ⟨Lj', rfl, .inr hj'⟩
theorem laid_spec (ρ : Hp) (h : Hd) (na : Option Addr) (nn nc : Nat) (hn : SIn ρ Zo na nn h.note) (ht : h.turn < 4294967296) (hf : h.first ≤ 1099511627776) (hs : h.size < 65536) (hp : h.place < 65536) (hnl : nn ≤ 32) (b : Nat) (k : DK) (D : DS) (hD : DOk k D) :
  Spec Tryz.prog 55 [.agg ⟨hdV h na nn nc⟩, .pointer (some ⟨b, 0, none⟩)] ρ (Zs b k D) (fun v ρ' L' => v = .int .i64 (DS.lays (ZU h) D).2 ∧ ρ.le ρ' ∧ ∃ k', DOk k' (DS.lays (ZU h) D).1 ∧ L' = Zs b k' (DS.lays (ZU h) D).1) := by
 refine Za Tryz.func55 rfl rfl rfl fun u R => ?_
 simp only [Zf, kA]
 repeat' (first | refine zW ?_ | intro _)
 rename_i hb
 repeat' (first | (refine Zb (.func 53) ?_; refine qC rfl rfl (lays_spec ρ ρ 125 [.pointer (some ⟨hb, 0, none⟩)] [[(hb, .cells ⟨hdV h na nn nc⟩ 120 (0, 0))]] (ZU h) (Hp.le_refl _) (laid_iter ρ hb h na nn nc hn ht hf hs hp hnl) (fun p hp => by rw [List.mem_singleton.1 hp]; exact headB_len h) b k D hD) ?_; rintro v ρ' L' hle ⟨rfl, hl1, k', hD', rfl⟩ <;> (try simp only [kA])) | refine zW ?_ | intro _)
 exact qE ⟨rfl, hl1, k', hD', rfl⟩
theorem noughtsL_at {n k : Nat} (hk : k < (ZB n).length) : (ZB n)[k] = (k, zblk) := by simp [ZB]
theorem noughtsL_len {n : Nat} : (ZB n).length = n + 2 := by simp [ZB]
theorem noughts_iter (ρ0 : Hp) (sb n : Nat) (hn : n ≤ 1000000) : Iter Tryz.prog 54 [] [.pointer (some ⟨sb, 0, none⟩)] pencV ρ0 [[(sb, .cells ⟨[.int .i64 n]⟩ 3 (0, 0))]] (ZB n) := by
 intro l J Jx hY ρ Lj hl0 hJ
 have hlen := noughtsL_len (n := n)
 refine Za Tryz.func54 rfl rfl rfl fun u R => ?_
 simp only [Zf, kA, List.append_assoc]
 repeat' (first | refine zW ?_ | intro _)
 refine Zm [(0, _), (1, _)] (fun (ζ : (Nat) × (Hp) × (SH)) => [(3, .int .i64 ζ.1)]) (fun (ζ : (Nat) × (Hp) × (SH)) => ζ.2.1) (fun (ζ : (Nat) × (Hp) × (SH)) => [[(sb, .cells ⟨[.int .i64 n]⟩ 3 (0, 0))]] ++ ζ.2.2) (fun (ζ : (Nat) × (Hp) × (SH)) => ζ.1 ≤ n + 2 ∧ ρ.le ζ.2.1 ∧ J ((ZB n).take ζ.1) ζ.2.1 ζ.2.2) (fun (ζ : (Nat) × (Hp) × (SH)) => n + 2 - ζ.1) ((0, ρ, Lj)) (⟨Nat.zero_le _, Hp.le_refl _, hJ⟩) Zc Zc rfl tk ?_
 rintro ⟨k, ρ1, L1⟩ hI
 try simp only [kA, List.append_assoc] at hI ⊢
 try dsimp only at hI ⊢
 obtain ⟨hk, hle1, hj⟩ := hI
 by_cases hlt : k < n + 2
 ·have hk2 : k < (ZB n).length := by omega
  have hpre := take_succ_pre (ZB n) k hk2
  rw [noughtsL_at] at hpre
  have hts := List.take_succ_eq_append_getElem hk2
  rw [noughtsL_at] at hts
  have hy := hY _ _ ρ1 L1 hpre (Hp.le_trans hl0 hle1) hj
  repeat' (first | (simp only [Value.cells, zblk_cells]; refine Zb (.tmp 9) ?_; refine qY rfl rfl hy ?_; rintro v ρ' L' hle ⟨Lj', rfl, ⟨rfl, hj'⟩ | ⟨rfl, hj'⟩⟩ <;> (try simp only [kA])) | refine zW ?_ | intro _)
  ·refine Zi (k + 1, ρ', Lj') (⟨hlt, Hp.le_trans hle1 hle, by dsimp only; rw [hts]; exact hj'⟩) Zc Zc rfl tk inferInstance (by first | omega | (dsimp only; omega))
  ·exact qE (L' := [[(sb, .cells ⟨[.int .i64 n]⟩ 3 (0, 0))]] ++ Lj') ⟨Lj', rfl, .inr hj'⟩
 ·have hk2 : k = n + 2 := by omega
  subst hk2
  rw [List.take_of_length_le (by omega)] at hj
  repeat' (first | refine zW ?_ | intro _)
  exact qE (L' := [[(sb, .cells ⟨[.int .i64 n]⟩ 3 (0, 0))]] ++ L1) ⟨L1, rfl, .inl hj⟩
theorem klen (ρ : Hp) (b : Nat) (k : DK) (D : DS) : Spec Tryz.prog 52 [.pointer (some ⟨b, 0, none⟩)] ρ (Zs b k D) (fun v ρ' L' => v = .int .i64 (D.secs.length : Nat) ∧ ρ' = ρ ∧ L' = Zs b k D) := len_disk ρ b k.hb k.mb k.es k.ck D
structure BSl where
 a : Option Addr
 n : Nat
 c : Nat
 l : Bs
abbrev slv (e : BSl) : Value := .slice e.a e.n e.c
structure BIn (ρ : Hp) (e : BSl) : Prop where
 s : SIn ρ Zo e.a e.n e.l
 le : e.n ≤ e.c
theorem BIn.mono {ρ ρ' : Hp} {e : BSl} (h : BIn ρ e) (hle : ρ.le ρ') : BIn ρ' e := ⟨h.s.mono hle, h.le⟩
structure RW where
 na : Option Addr
 nn : Nat
 nc : Nat
 ev : Value
 els : List BSl
 sp : List Value
abbrev rgV (R : RgS) (db : Nat) (w : RW) : List Value := [.int .u64 R.h.turn, .int .u64 R.h.first, .int .i64 R.h.size, .int .i64 R.h.place, .slice w.na w.nn w.nc, .pointer (some ⟨db, 0, none⟩), w.ev, .int .i64 R.used, .bool R.broken]
abbrev ZO (rb db : Nat) (R : RgS) (w : RW) : SH := [[(rb, .cells ⟨rgV R db w⟩ 123 (0, 0))], Zw w.ev (w.els.map slv) w.sp 22]
structure RIn (ρ : Hp) (R : RgS) (w : RW) : Prop where
 ok : R.Ok
 note : SIn ρ Zo w.na w.nn R.h.note
 nle : w.nn ≤ w.nc
 own : OwnS w.ev w.els.length (w.els.map slv) w.sp 1
 ents : R.ents = w.els.map BSl.l
 els : ∀ e ∈ w.els, BIn ρ e
theorem RIn.mono {ρ ρ' : Hp} {R : RgS} {w : RW} (h : RIn ρ R w) (hle : ρ.le ρ') : RIn ρ' R w := ⟨h.ok, h.note.mono hle, h.nle, h.own, h.ents, fun e he => (h.els e he).mono hle⟩
theorem RIn.len {ρ : Hp} {R : RgS} {w : RW} (h : RIn ρ R w) : w.els.length = R.ents.length := by rw [h.ents]; simp
theorem slv_one (l : List BSl) : (l.map slv).all (·.oneCell') = true := by
 rw [List.all_eq_true]; intro v hv; obtain ⟨b, _, rfl⟩ := List.mem_map.1 hv; rfl
theorem works_spec (ρ : Hp) (rb db : Nat) (R : RgS) (w : RW) : Spec Tryz.prog 61 [.pointer (some ⟨rb, 0, none⟩)] ρ [[(rb, .cells ⟨rgV R db w⟩ 123 (0, 0))]] (fun v ρ' L' => v = .int .i64 (if R.broken then 8 else 0) ∧ ρ' = ρ ∧ L' = [[(rb, .cells ⟨rgV R db w⟩ 123 (0, 0))]]) := by
 obtain ⟨h, ents, used, broken⟩ := R
 refine Za Tryz.func61 rfl rfl rfl fun u R => ?_
 simp only [Zf, kA]
 cases broken
 all_goals (repeat' (first | refine zW ?_ | intro _))
 all_goals exact qE ⟨rfl, rfl, rfl⟩
theorem next_spec (ρ : Hp) (rb db : Nat) (R : RgS) (w : RW) (h : RIn ρ R w) : Spec Tryz.prog 63 [.pointer (some ⟨rb, 0, none⟩)] ρ [[(rb, .cells ⟨rgV R db w⟩ 123 (0, 0))]] (fun v ρ' L' => v = .int .u64 (R.next : Nat) ∧ ρ' = ρ ∧ L' = [[(rb, .cells ⟨rgV R db w⟩ 123 (0, 0))]]) := by
 have hl := h.len
 have hnx := h.ok.next
 have e : (R.h.first : Int) + (w.els.length : Int) = (R.next : Int) := by unfold RgS.next; omega
 obtain ⟨a, cap, hev, _⟩ := h.own.len
 obtain ⟨na, nn, nc, ev, els, sp⟩ := w
 dsimp only at hev hl e
 subst hev
 refine Za Tryz.func63 rfl rfl rfl fun u R0 => ?_
 simp only [Zf, kA]
 repeat' (first | refine zW ?_ | intro _)
 refine tpZ [0] (.f [1,2,3,4,5,6,7,8,9,10,11,12] .o) ?_
 repeat' (refine iT ?_; first | refine rA ?_)
 all_goals (repeat' (first | refine zW ?_ | intro _))
 rw [e]
 exact qE ⟨rfl, rfl, rfl⟩
theorem sects_nat (ρ : Hp) (n : Nat) (hn : n ≤ 1000000) : Spec Tryz.prog 62 [.int .i64 n] ρ [] (fun v ρ' L' => v = .int .i64 (Zv n : Nat) ∧ ρ' = ρ ∧ L' = []) := sects_spec ρ n (by omega)
theorem RIn.adds {ρ : Hp} {R : RgS} {w : RW} (h : RIn ρ R w) {e : BSl} (he : BIn ρ e) (hel : e.n ≤ 8000) (hfit : R.used + Zv e.n ≤ R.h.size) (hn : R.next < 1099511627776) {v : Value} {sp : List Value} (ho : OwnS v (w.els.length + 1) ((w.els ++ [e]).map slv) sp 1) :
  RIn ρ (R.adds e.l) ⟨w.na, w.nn, w.nc, v, w.els ++ [e], sp⟩ := by
 have hel2 := he.s.len
 have hok := h.ok
 refine ⟨⟨hok.turn, hok.size, hok.first, ?_, hok.place, hok.note, ?_, ?_, ?_⟩, h.note, h.nle, by simpa using ho, ?_, ?_⟩
 ·simp only [RgS.adds, RgS.next] at hn ⊢; simp; omega
 ·simp only [RgS.adds, usedL_append, hok.used]; simp [Yc]
 ·simp only [RgS.adds]; rw [hel2]; exact hfit
 ·intro b hb
  simp only [RgS.adds, List.mem_append, List.mem_singleton] at hb
  rcases hb with hb | rfl
  ·exact hok.long b hb
  ·omega
 ·simp [RgS.adds, h.ents]
 ·intro x hx
  rcases List.mem_append.1 hx with hx | hx
  ·exact h.els x hx
  ·rw [List.mem_singleton.1 hx]; exact he
theorem adds_spec (ρ : Hp) (rb db : Nat) (R : RgS) (w : RW) (h : RIn ρ R w) (e : BSl) (he : BIn ρ e) (hel : e.n ≤ 8000) (hfit : R.used + Zv e.n ≤ R.h.size) (hn : R.next < 1099511627776) :
  Spec Tryz.prog 65 [.pointer (some ⟨rb, 0, none⟩), slv e] ρ (ZO rb db R w) (fun v ρ' L' => v = .tuple ⟨[]⟩ ∧ ρ' = ρ ∧ ∃ ev' sp', RIn ρ (R.adds e.l) ⟨w.na, w.nn, w.nc, ev', w.els ++ [e], sp'⟩ ∧ L' = ZO rb db (R.adds e.l) ⟨w.na, w.nn, w.nc, ev', w.els ++ [e], sp'⟩) := by
 have hsz := h.ok.size
 have hlen := h.len
 have hul := usedL_len R.ents
 have hus := h.ok.used
 have hel2 := he.s.len
 have hown := h.own
 obtain ⟨hd, ents, used, broken⟩ := R
 obtain ⟨na, nn, nc, ev, els, sp⟩ := w
 dsimp only at hsz hlen hul hus hown hfit ⊢
 have hmap : els.map slv ++ [slv e] = (els ++ [e]).map slv := by simp
 have hus2 : (used : Int) + (Zv e.n : Int) = ((used + Zv e.l.length : Nat) : Int) := by rw [hel2]; omega
 refine Za Tryz.func65 rfl rfl rfl fun u R0 => ?_
 simp only [Zf, kA]
 repeat' (first | (refine Zl rfl rfl rfl rfl (by simp) rfl rfl (fun _ => ?_)) | (refine Yk (ys := [slv e]) (m := 1) (sz := 1) rfl rfl hown (hR := by infer_instance) SrcV.lit rfl rfl (by decide) rfl (by omega) (by omega) rfl (fun v2 sp2 hown2 => ?_); obtain ⟨a2, cap2, rfl, hc2⟩ := hown2.slice; rw [hmap] at hown2 ⊢) | (refine Zb (.func 62) ?_; refine qR rfl rfl (sects_nat _ e.n (by omega)) ?_; try simp only [kA]) | refine zW ?_ | intro _)
 refine tpA [0,1,2,4,5] (.b 3 6 [] [] (.e 6 [7,8,9] (.e 10 [] .o)) (.e 3 [7,8,9] (.e 10 [] .o))) ([]) ?_
 repeat' (refine iT ?_; first | refine rA ?_ | ((first | (refine iE ?_; refine rE ?_) | (refine iB ?_; refine rB ?_ ?_)) <;> ((try refine Zr ?_); (first | (refine Zb (.func 62) ?_; refine qR rfl rfl (sects_nat _ e.n (by omega)) ?_; try simp only [kA]) | (refine i_qq ?_; refine qQ ?_) | (refine qEf ?_; try intro _)) <;> ((try simp only [kA]); refine Zj ?_; refine rN ?_))))
 all_goals rw [hus2]
 all_goals exact qE (L' := [[(rb, _)], Zw _ _ _ _]) ⟨rfl, rfl, _, sp2, h.adds he hel hfit hn hown2, rfl⟩
theorem Rd.ofNone {ρ : Hp} {X : SH} {n : Nat} {l : Bs} (h : Rd ρ X none n l) : l = [] ∧ n = 0 := by
 have hl := h.len
 have := h.src ⟨Option.none, Tryz.prog, default, [], 0⟩ ρ X [] (Hp.le_refl _) ⟨by simp⟩
 rcases this with h | ⟨b, off, h, _⟩
 ·have : l = [] := by simpa using h
  subst this; exact ⟨rfl, by simpa using hl.symm⟩
 ·cases h
theorem Wn (ρ : Hp) (X : SH) (a : Option Addr) (n c : Nat) (b : Bs) (h : Rd ρ X a n b) (hn : n ≤ 1000000) :
  Spec Tryz.prog 66 [.slice a n c] ρ X (fun v ρ' L' => ρ.le ρ' ∧ ∃ e : BSl, v = slv e ∧ BIn ρ' e ∧ e.l = b ∧ e.n = n ∧ L' = X) := by
 have hl := h.len
 cases a with
 | none =>
  obtain ⟨rfl, rfl⟩ := h.ofNone
  refine Za Tryz.func66 rfl rfl rfl fun u R => ?_
  simp only [Zf, kA]
  repeat' (first | refine zW ?_ | intro _)
  exact qE ⟨Hp.le_refl _, ⟨none, 0, 0, []⟩, rfl, ⟨SIn.nil, Nat.le_refl _⟩, rfl, rfl, rfl⟩
 | some ad =>
  refine Za Tryz.func66 rfl rfl rfl fun u R => ?_
  simp only [Zf, kA]
  repeat' (first | refine zW ?_ | intro _)
  rename_i bx
  refine Yk (n := 0) (xs := []) (sp := []) (ys := b.map Zo) (sz := 1) rfl rfl (OwnS.zero _ 1) (hR := Zz) (h.src _ _ _ _ (Hp.le_refl _) tk) (by simpa using hl) (Yf b) (by decide) rfl (by omega) (by omega) rfl (fun v' sp' hown' => ?_)
  simp only [Nat.zero_add, List.nil_append] at hown' ⊢
  repeat' (first | refine zW ?_ | intro _)
  refine Yb _ (h := Rem.here) (fun ρ6 hle6 hfz => ?_)
  obtain ⟨a6, c6, rfl, hc6, hs6⟩ := hown'.sIn hfz
  exact qE ⟨hle6, ⟨a6, n, c6, b⟩, rfl, ⟨hs6, hc6⟩, rfl, rfl, rfl⟩
theorem partsL_len {h : Hd} {n at' : Nat} {b : Bs} : ∀ p ∈ ZY h n b at', p.2.length = 64 := fun p hp => by
 simp only [ZY, List.mem_map] at hp
 obtain ⟨k, _, rfl⟩ := hp
 exact partB_len _ _ _ _
theorem partsF_spec (ρ : Hp) (h : Hd) (na : Option Addr) (nn nc n : Nat) (a : Option Addr) (bn c at' : Nat) :
  Spec Tryz.prog 64 [.agg ⟨hdV h na nn nc⟩, .int .u64 n, .slice a bn c, .int .i64 at'] ρ [] (fun v ρ' L' => ρ' = ρ ∧ ∃ bb ab hb nb, v = .func (.func 130) ⟨[]⟩ ⟨[.pointer (some ⟨bb, 0, none⟩), .pointer (some ⟨ab, 0, none⟩), .pointer (some ⟨hb, 0, none⟩), .pointer (some ⟨nb, 0, none⟩)]⟩ ∧ L' = partsS bb ab hb nb a bn c at' h na nn nc n) := by
 refine Za Tryz.func64 rfl rfl rfl fun u R => ?_
 simp only [Zf, kA]
 repeat' (first | refine zW ?_ | intro _)
 rename_i hb nb bb ab
 exact qE (L' := partsS bb ab hb nb a bn c at' h na nn nc n) ⟨rfl, bb, ab, hb, nb, rfl, rfl⟩
theorem RIn.broken {ρ : Hp} {R : RgS} {w : RW} (h : RIn ρ R w) (b : Bool) : RIn ρ { R with broken := b } w := ⟨⟨h.ok.turn, h.ok.size, h.ok.first, h.ok.next, h.ok.place, h.ok.note, h.ok.used, h.ok.fit, h.ok.long⟩, h.note, h.nle, h.own, h.ents, h.els⟩
theorem append_spec (ρ : Hp) (rb db : Nat) (R : RgS) (w : RW) (h : RIn ρ R w) (k : DK) (D : DS) (hD : DOk k D) (X : SH) (a : Option Addr) (n c : Nat) (b : Bs) (hb : Rd ρ X a n b) (hc : n ≤ c) (hbig : n ≤ 1000000) :
  Spec Tryz.prog 12 [.pointer (some ⟨rb, 0, none⟩), .slice a n c] ρ (ZO rb db R w ++ (Zs db k D ++ X))
   (fun v ρ' L' => v = .int .i64 (R.append b D).2.2 ∧ ρ.le ρ' ∧ ∃ k' w', DOk k' (R.append b D).2.1 ∧ RIn ρ' (R.append b D).1 w' ∧ L' = ZO rb db (R.append b D).1 w' ++ (Zs db k' (R.append b D).2.1 ++ X)) := by
 have hl := hb.len
 have hok := h.ok
 have hsz := h.ok.size
 have hft := h.ok.fit
 have hfs := h.ok.first
 have hnx := h.ok.next
 have hpl := h.ok.place
 have htu := h.ok.turn
 have hsc := Wa n
 cases hbr : R.broken with
 | true =>
  have he : R.append b D = (R, D, 8) := by simp [RgS.append, hbr]
  rw [he]
  have hw8 := works_spec ρ rb db R w
  rw [hbr] at hw8
  simp only [if_true] at hw8
  refine Za Tryz.func12 rfl rfl rfl fun u R0 => ?_
  simp only [Zf, kA, List.append_assoc]
  repeat' (first | (refine Zb (.func 61) ?_; refine qR rfl rfl (hw8) ?_; try simp only [kA]) | refine zW ?_ | intro _)
  exact qE (L' := ZO rb db R w ++ (Zs db k D ++ X)) ⟨rfl, Hp.le_refl _, k, w, hD, h, rfl⟩
 | false =>
  have hw0 := works_spec ρ rb db R w
  rw [hbr] at hw0
  simp only [Bool.false_eq_true, if_false] at hw0
  by_cases hlong : 8000 < n
  ·have he : R.append b D = (R, D, 3) := by simp [RgS.append, hbr, hl, hlong]
   rw [he]
   refine Za Tryz.func12 rfl rfl rfl fun u R0 => ?_
   simp only [Zf, kA, List.append_assoc]
   repeat' (first | (refine Zb (.func 61) ?_; refine qR rfl rfl (hw0) ?_; try simp only [kA]) | refine zW ?_ | intro _)
   exact qE (L' := ZO rb db R w ++ (Zs db k D ++ X)) ⟨rfl, Hp.le_refl _, k, w, hD, h, rfl⟩
  ·have hnext := next_spec ρ rb db R w h
   by_cases hfull : R.h.size - R.used < Zv n
   ·have he : R.append b D = (R, D, 6) := by simp [RgS.append, hbr, hl, hlong, hfull]
    rw [he]
    refine Za Tryz.func12 rfl rfl rfl fun u R0 => ?_
    simp only [Zf, kA, List.append_assoc]
    repeat' (first | (refine Zb (.func 61) ?_; refine qR rfl rfl (hw0) ?_; try simp only [kA]) | refine zW ?_ | intro _)
    refine tpA [0,1,3,4,5,6,7,8,9,10,11,12] (.e 2 [13,14,15] (.e 16 [] (.f [17,18,19] .o))) ([[(rb, .cells ⟨rgV R db w⟩ 123 (0, 0))]]) ?_
    repeat' (refine iT ?_; first | refine rA ?_ | ((refine iE ?_; refine rE ?_) <;> ((try refine Zr ?_); (first | (refine Zb (.func 62) ?_; refine qR rfl rfl (sects_nat _ n (by omega)) ?_; try simp only [kA]) | (refine qEf ?_; try intro _)) <;> ((try simp only [kA]); refine Zj ?_; refine rN ?_))))
    all_goals (repeat' (first | refine zW ?_ | intro _))
    all_goals exact qE (L' := ZO rb db R w ++ (Zs db k D ++ X)) ⟨rfl, Hp.le_refl _, k, w, hD, h, rfl⟩
   ·by_cases hmax : 1099511627776 ≤ R.next
    ·have he : R.append b D = (R, D, 6) := by simp [RgS.append, hbr, hl, hlong, hfull, hmax]
     rw [he]
     refine Za Tryz.func12 rfl rfl rfl fun u R0 => ?_
     simp only [Zf, kA, List.append_assoc]
     repeat' (first | (refine Zb (.func 61) ?_; refine qR rfl rfl (hw0) ?_; try simp only [kA]) | refine zW ?_ | intro _)
     refine tpA [0,1,3,4,5,6,7,8,9,10,11,12] (.e 2 [13,14,15] (.e 16 [] (.f [17,18,19] .o))) ([[(rb, .cells ⟨rgV R db w⟩ 123 (0, 0))]]) ?_
     repeat' (refine iT ?_; first | refine rA ?_ | ((refine iE ?_; refine rE ?_) <;> ((try refine Zr ?_); (first | (refine Zb (.func 62) ?_; refine qR rfl rfl (sects_nat _ n (by omega)) ?_; try simp only [kA]) | (refine Zb (.func 63) ?_; refine qR rfl rfl (hnext) ?_; try simp only [kA]) | (refine qEf ?_; try intro _)) <;> ((try simp only [kA]); refine Zj ?_; refine rN ?_))))
     all_goals (repeat' (first | refine zW ?_ | intro _))
     all_goals exact qE (L' := ZO rb db R w ++ (Zs db k D ++ X)) ⟨rfl, Hp.le_refl _, k, w, hD, h, rfl⟩
    ·have hpu : (R.h.place : Int) + (R.used : Int) = ((R.h.place + R.used : Nat) : Int) := by omega
     have hit := fun bb ab hb2 nb => parts_iter ρ X bb ab hb2 nb a n c (R.h.place + R.used) b R.h w.na w.nn w.nc R.next hb hc (by omega) hnx (by omega) (by omega) (by omega) (by omega)
     have hsome : R.append b D = if (DS.lays (ZY R.h R.next b (R.h.place + R.used)) D).2 = 0 then (⟨R.h, R.ents ++ [b], R.used + Zv b.length, false⟩, DS.lays (ZY R.h R.next b (R.h.place + R.used)) D) else ({ R with broken := true }, DS.lays (ZY R.h R.next b (R.h.place + R.used)) D) := by
      unfold RgS.append
      rw [hbr, hl, if_neg (by simp), if_neg (by omega), if_neg (by omega)]
     refine Za Tryz.func12 rfl rfl rfl fun u R0 => ?_
     simp only [Zf, kA, List.append_assoc]
     repeat' (first | (refine Zb (.func 61) ?_; refine qR rfl rfl (hw0) ?_; try simp only [kA]) | refine zW ?_ | intro _)
     refine tpA [0,1,3,4,5,6,7,8,9,10,11,12] (.e 2 [13,14,15] (.e 16 [] (.f [17,18,19] .o))) ([[(rb, .cells ⟨rgV R db w⟩ 123 (0, 0))]]) ?_
     repeat' (refine iT ?_; first | refine rA ?_ | ((refine iE ?_; refine rE ?_) <;> ((try refine Zr ?_); (first | (refine Zb (.func 62) ?_; refine qR rfl rfl (sects_nat _ n (by omega)) ?_; try simp only [kA]) | (refine Zb (.func 63) ?_; refine qR rfl rfl (hnext) ?_; try simp only [kA]) | (refine qEf ?_; try intro _)) <;> ((try simp only [kA]); refine Zj ?_; refine rN ?_))))
     all_goals (repeat' (first | refine zW ?_ | intro _))
     refine tpA [0,1,2,3,4,5,6,7,8,10,11,12,13,14,15,16,17,18,19,20] (.e 9 [] (.e 21 [] (.e 22 [] (.f [23] .o)))) ([[(rb, .cells ⟨rgV R db w⟩ 123 (0, 0))]]) ?_
     repeat' (refine iT ?_; first | refine rA ?_ | ((refine iE ?_; refine rE ?_) <;> ((try refine Zr ?_); (first | (refine Zb (.func 63) ?_; refine qR rfl rfl (hnext) ?_; try simp only [kA, hpu]) | (refine Zb (.func 64) ?_; refine qC rfl rfl (partsF_spec _ R.h w.na w.nn w.nc R.next a n c (R.h.place + R.used)) ?_; rintro v ρ' L' hle ⟨rfl, bb, ab, hb2, nb, rfl, rfl⟩ <;> (try simp only [kA])) | (refine Zb (.func 53) ?_; refine qC rfl rfl (lays_spec _ _ _ _ _ _ (Hp.le_refl _) (hit bb ab hb2 nb) partsL_len db k D hD) ?_; rintro v6 ρ6 L6 hle6 ⟨rfl, hl6, k6, hD6, rfl⟩; simp only [kA, List.append_assoc]) | (refine qEf ?_; try intro _)) <;> ((try simp only [kA]); refine Zj ?_; refine rN ?_))))
     all_goals (repeat' (first | refine zW ?_ | intro _))
     have hlm := h.mono hl6
     have hbm := hb.mono hl6
     rw [hsome]
     generalize DS.lays (ZY R.h R.next b (R.h.place + R.used)) D = r at *
     obtain ⟨D', ec⟩ := r
     dsimp only at hD6 ⊢
     by_cases hz : ec = 0
     ·subst hz
      rw [show ((0 : Int) != 0) = false from rfl, if_pos rfl]
      repeat' (first | (refine Zb (.func 66) ?_; refine qC rfl rfl (Wn _ X a n c b hbm hbig) ?_; rintro v7 ρ7 L7 hle7 ⟨hl7, e, rfl, he, hel, hen, rfl⟩; subst hel; simp only [kA]) | (refine Zb (.func 65) ?_; refine qC rfl rfl (adds_spec _ rb db { R with broken := false } w ((hlm.mono hl7).broken false) e he (by omega) (by rw [hen]; dsimp only; omega) (by have : RgS.next { R with broken := false } = R.next := rfl; omega)) ?_; rintro v8 ρ8 L8 hle8 ⟨rfl, rfl, ev8, sp8, hin8, rfl⟩; simp only [kA]) | refine zW ?_ | intro _)
      exact qE (L' := ZO rb db (RgS.adds { R with broken := false } e.l) ⟨w.na, w.nn, w.nc, ev8, w.els ++ [e], sp8⟩ ++ (Zs db k6 D' ++ _)) ⟨rfl, Hp.le_trans hl6 hl7, k6, _, hD6, hin8, rfl⟩
     ·have hcb : (ec != 0) = true := by simpa using hz
      rw [hcb, if_neg hz]
      repeat' (first | refine zW ?_ | intro _)
      exact qE (L' := ZO rb db { R with broken := true } w ++ (Zs db k6 D' ++ X)) ⟨rfl, hl6, k6, w, hD6, hlm.broken true, rfl⟩
end Go.Proofs.E
namespace Go.Proofs.E
open Go
set_option linter.unusedVariables false
set_option linter.unusedSimpArgs false
set_option linter.unusedSectionVars false
set_option maxRecDepth 4000
set_option maxHeartbeats 1000000
attribute [local irreducible] Yl TL TC TE Spec ZN R1 Hp.le EnvLe TS TR YS Zp
theorem mod_inj {p m i j : Nat} (h : (p + i) % m = (p + j) % m) (hi : i < m) (hj : j < m) : i = j := by
 have key : ∀ i j : Nat, i < m → j < m → i ≤ j → (p + i) % m = (p + j) % m → i = j := by
  intro i j hi hj hle h
  have h1 := Nat.div_add_mod (p + i) m
  have h2 := Nat.div_add_mod (p + j) m
  have h3 : m * ((p + j) / m) = m * ((p + i) / m) + (j - i) := by omega
  have h4 : (j - i) = m * ((p + j) / m - (p + i) / m) := by rw [Nat.mul_sub]; omega
  rcases Nat.eq_zero_or_pos ((p + j) / m - (p + i) / m) with h0 | h0
  ·rw [h0] at h4; omega
  ·have : m * 1 ≤ m * ((p + j) / m - (p + i) / m) := Nat.mul_le_mul_left m h0
   omega
 rcases Nat.le_total i j with hle | hle
 ·exact key i j hi hj hle h
 ·exact (key j i hj hi hle h.symm).symm
theorem partsL_mem {h : Hd} {n at' : Nat} {b : Bs} {p : Nat × Blk} : p ∈ ZY h n b at' ↔ ∃ k, k < Zv b.length ∧ p = (2 + (at' + k) % h.size, ZV h.turn n b k) := by
 simp only [ZY, List.mem_map, List.mem_range]
 constructor
 ·rintro ⟨k, h1, rfl⟩; exact ⟨k, h1, rfl⟩
 ·rintro ⟨k, h1, rfl⟩; exact ⟨k, h1, rfl⟩
def RgS.plus (R : RgS) (b : Bs) : RgS := ⟨R.h, R.ents ++ [b], R.used + Zv b.length, false⟩
section
variable {R : RgS} {D D' : DS} {b : Bs}
structure Wrote (R : RgS) (D D' : DS) (b : Bs) : Prop where
 ok : D'.Ok
 alive : D'.dead = false
 empty : Wj D'.secs
 len : D'.secs.length = D.secs.length
 at' : ∀ i, img D' i = img D i ∨ ∃ k, k < Zv b.length ∧ i = 2 + (R.h.place + R.used + k) % R.h.size ∧ img D' i = ZV R.h.turn R.next b k
theorem Wrote.old (w : Wrote R D D' b) (h : RO R D) (hfit : Zv b.length ≤ R.h.size - R.used) {j : Nat} (hj : j < R.used) : img D' (2 + (R.h.place + j) % R.h.size) = img D (2 + (R.h.place + j) % R.h.size) := by
 rcases w.at' (2 + (R.h.place + j) % R.h.size) with h1 | ⟨k, hk, he, _⟩
 ·exact h1
 ·have := mod_inj (p := R.h.place) (i := j) (j := R.used + k) (m := R.h.size) (by rw [← Nat.add_assoc]; omega) (by omega) (by omega)
  omega
theorem Wrote.heads (w : Wrote R D D' b) {i : Nat} (hi : i < 2) : img D' i = img D i := by
 rcases w.at' i with h1 | ⟨k, hk, he, _⟩
 ·exact h1
 ·omega
theorem Wrote.bound (w : Wrote R D D' b) (h : RO R D) (hn : R.next < 1099511627776) {q : Nat} (hq : q < R.h.size) : Yh (img D' (2 + q)) ≤ R.h.turn ∧ numOf (img D' (2 + q)) ≤ R.next := by
 have ht := h.ok.turn
 rcases w.at' (2 + q) with h1 | ⟨k, hk, _, he⟩
 ·rw [h1]; exact h.bound q hq
 ·rw [he, partB_turn (by omega), partB_num hn]; omega
theorem Wrote.whole (w : Wrote R D D' b) (h : RO R D) (hb : b.length ≤ 8000) (hfit : Zv b.length ≤ R.h.size - R.used) (hn : R.next < 1099511627776)
  (hall : ∀ k, k < Zv b.length → img D' (2 + (R.h.place + R.used + k) % R.h.size) = ZV R.h.turn R.next b k) : RO (R.plus b) D' ∧ Frs (R.plus b) D' := by
 have ht := h.ok.turn
 have hnx : (R.plus b).next = R.next + 1 := by simp [RgS.plus, RgS.next]; omega
 have hsz := h.ok.size
 refine ⟨⟨⟨h.ok.turn, h.ok.size, h.ok.first, by rw [hnx]; omega, h.ok.place, h.ok.note, ?_, ?_, ?_⟩, rfl, h.num, w.ok, w.alive, w.empty, by rw [w.len]; exact h.len, ?_, ?_, ?_, ?_, ?_⟩, ?_⟩
 ·simp only [RgS.plus, usedL_append, h.ok.used]; simp [Yc]
 ·have := h.ok.fit
  simp only [RgS.plus]; omega
 ·intro c hc
  simp only [RgS.plus, List.mem_append, List.mem_singleton] at hc
  rcases hc with hc | rfl
  ·exact h.ok.long c hc
  ·exact hb
 ·rw [w.heads (by simp only [RgS.plus]; omega)]; exact h.head
 ·intro h1
  rw [w.heads (by simp only [RgS.plus]; omega)] at h1 ⊢
  exact h.other h1
 ·have hu := h.ok.used
  refine Has.append (h.has.frame rfl (fun j hj => w.old h hfit (by rw [hu]; exact hj))) ⟨⟨R.h.turn, ht.1, Nat.le_refl _, fun k hk => ?_⟩, trivial⟩
  have := hall k hk
  rw [hu] at this; exact this
 ·intro hlt t c h1 h2 h3 h4
  rw [hnx] at hlt ⊢
  refine ⟨0, by have := Wa c.length; omega, fun he => ?_⟩
  have hb1 := (w.bound h hn (q := ((R.plus b).h.place + (R.plus b).used + 0) % (R.plus b).h.size) (Nat.mod_lt _ (by simp only [RgS.plus]; omega))).2
  rw [he, partB_num hlt] at hb1
  omega
 ·intro q hq
  have := w.bound h hn hq
  rw [hnx]; simp only [RgS.plus]; omega
 ·intro q hq hc
  have := (w.bound h hn hq).2
  rw [hnx] at hc; omega
theorem Wrote.torn (w : Wrote R D D' b) (h : RO R D) (hf : Frs R D) (hb : b.length ≤ 8000) (hfit : Zv b.length ≤ R.h.size - R.used) (hn : R.next < 1099511627776)
  {k0 : Nat} (hk0 : k0 < Zv b.length) (hne : img D' (2 + (R.h.place + R.used + k0) % R.h.size) ≠ ZV R.h.turn R.next b k0) : RO R D' := by
 have ht := h.ok.turn
 have hsz := h.ok.size
 refine ⟨h.ok, h.live, h.num, w.ok, w.alive, w.empty, by rw [w.len]; exact h.len, ?_, ?_, ?_, ?_, fun q hq => w.bound h hn hq⟩
 ·rw [w.heads (by omega)]; exact h.head
 ·intro h1
  rw [w.heads (by omega)] at h1 ⊢
  exact h.other h1
 ·have hu := h.ok.used
  exact h.has.frame rfl (fun j hj => w.old h hfit (by rw [hu]; exact hj))
 ·intro hlt t c h1 h1' h2 h3
  by_cases hex : ∃ k, k < Zv c.length ∧ img D' (2 + (R.h.place + R.used + k) % R.h.size) ≠ ZV t R.next c k
  ·exact hex
  ·exfalso
   have hall : ∀ k, k < Zv c.length → img D' (2 + (R.h.place + R.used + k) % R.h.size) = ZV t R.next c k := fun k hk => by
    by_cases he : img D' (2 + (R.h.place + R.used + k) % R.h.size) = ZV t R.next c k
    ·exact he
    ·exact absurd ⟨k, hk, he⟩ hex
   by_cases hT : t = R.h.turn
   ·subst hT
    have hnew : ∀ k, k < Zv c.length → k < Zv b.length ∧ img D' (2 + (R.h.place + R.used + k) % R.h.size) = ZV R.h.turn R.next b k := fun k hk => by
     rcases w.at' (2 + (R.h.place + R.used + k) % R.h.size) with e | ⟨k2, hk2, he, e⟩
     ·exfalso
      have hq : (R.h.place + R.used + k) % R.h.size < R.h.size := Nat.mod_lt _ (by omega)
      refine hf _ hq ?_
      rw [← e, hall k hk, partB_turn (by omega), partB_num hlt]
      exact ⟨rfl, rfl⟩
     ·have : k = k2 := mod_inj (p := R.h.place + R.used) (m := R.h.size) (by omega) (by omega) (by omega)
      subst this
      exact ⟨hk2, e⟩
    have h0 := Wa c.length
    have hsame := (hall 0 (by omega)).symm.trans (hnew 0 (by omega)).2
    have hlen : c.length = b.length := by
     have := congrArg Zx hsame
     rwa [partB_size (by omega), partB_size (by omega)] at this
    exact hne (hnew k0 (by rw [hlen]; exact hk0)).2
   ·obtain ⟨k, hk, hne2⟩ := h.none hlt t c h1 h1' h2 h3
    refine hne2 ?_
    rcases w.at' (2 + (R.h.place + R.used + k) % R.h.size) with e | ⟨k2, hk2, he, e⟩
    ·rw [← e]; exact hall k hk
    ·exfalso
     have := (hall k hk).symm.trans e
     have := congrArg Yh this
     rw [partB_turn (by omega), partB_turn (by omega)] at this
     exact hT this
end
theorem RO.wrote {R : RgS} {D D' : DS} {b : Bs} {keep : Nat → Bool} {l : List (Nat × Blk)} (h : RO R D) (hl : l <+: ZY R.h R.next b (R.h.place + R.used)) (hok : D'.Ok) (hal : D'.dead = false) (hs : D'.secs = settled keep (Yv D.secs l)) : Wrote R D D' b :=
 ⟨hok, hal, by rw [hs]; exact Xb, by rw [hs, Ya, Yq], fun i => by
  rcases XT h.empty hs D rfl i with e | ⟨p, hp, h1, h2⟩
  ·exact .inl e
  ·obtain ⟨k, hk, rfl⟩ := partsL_mem.1 (hl.subset hp)
   exact .inr ⟨k, hk, h1.symm, h2⟩⟩
theorem RO.append {R : RgS} {D : DS} {b : Bs} (h : RO R D) (hf : Frs R D) (hb : b.length ≤ 8000) (hfit : Zv b.length ≤ R.h.size - R.used) (hn : R.next < 1099511627776) :
  ((DS.lays (ZY R.h R.next b (R.h.place + R.used)) D).2 = 0 → RO (R.plus b) (DS.lays (ZY R.h R.next b (R.h.place + R.used)) D).1 ∧ Frs (R.plus b) (DS.lays (ZY R.h R.next b (R.h.place + R.used)) D).1) ∧
  ((DS.lays (ZY R.h R.next b (R.h.place + R.used)) D).2 ≠ 0 → ∀ keep, RO R ((DS.lays (ZY R.h R.next b (R.h.place + R.used)) D).1.crash keep) ∨ RO (R.plus b) ((DS.lays (ZY R.h R.next b (R.h.place + R.used)) D).1.crash keep)) := by
 have hsz := h.ok.size
 have hlen := h.len
 have hok : (DS.lays (ZY R.h R.next b (R.h.place + R.used)) D).1.Ok := h.dok.lays partsL_len
 have hidx : ∀ p ∈ ZY R.h R.next b (R.h.place + R.used), p.1 < D.secs.length := fun p hp => by
  obtain ⟨k, hk, rfl⟩ := partsL_mem.1 hp
  have := Nat.mod_lt (R.h.place + R.used + k) (show 0 < R.h.size by omega)
  dsimp only; omega
 rcases lays_out (ZY R.h R.next b (R.h.place + R.used)) D h.alive hidx with ⟨l', hl', hs, hc⟩ | ⟨hs, hc, hal⟩
 ·refine ⟨fun h0 => absurd h0 hc, fun _ keep => ?_⟩
  have w : Wrote R D ((DS.lays (ZY R.h R.next b (R.h.place + R.used)) D).1.crash keep) b := h.wrote hl' hok.crash rfl (by simp only [DS.crash]; rw [hs])
  by_cases hex : ∃ k, k < Zv b.length ∧ img ((DS.lays (ZY R.h R.next b (R.h.place + R.used)) D).1.crash keep) (2 + (R.h.place + R.used + k) % R.h.size) ≠ ZV R.h.turn R.next b k
  ·obtain ⟨k, hk, hne⟩ := hex
   exact .inl (w.torn h hf hb hfit hn hk hne)
  ·refine .inr (w.whole h hb hfit hn (fun k hk => ?_)).1
   by_cases he : img ((DS.lays (ZY R.h R.next b (R.h.place + R.used)) D).1.crash keep) (2 + (R.h.place + R.used + k) % R.h.size) = ZV R.h.turn R.next b k
   ·exact he
   ·exact absurd ⟨k, hk, he⟩ hex
 ·refine ⟨fun _ => ?_, fun h0 => absurd hc h0⟩
  have w := h.wrote (List.prefix_refl _) hok hal hs
  refine w.whole h hb hfit hn (fun k hk => ?_)
  have hm : (2 + (R.h.place + R.used + k) % R.h.size, ZV R.h.turn R.next b k) ∈ ZY R.h R.next b (R.h.place + R.used) := partsL_mem.2 ⟨k, hk, rfl⟩
  rcases img_all h.empty hs D rfl (hidx _ hm) with ⟨_, hno⟩ | ⟨p, hp, h1, h2⟩
  ·exact absurd rfl (hno _ hm)
  ·obtain ⟨k2, hk2, rfl⟩ := partsL_mem.1 hp
   dsimp only at h1 h2
   have : k2 = k := mod_inj (p := R.h.place + R.used) (m := R.h.size) (by omega) (by omega) (by omega)
   subst this
   exact h2
def RgS.minus (R : RgS) (n : Nat) (note : Bs) : RgS := ⟨R.cutH n note, R.ents.drop n, R.used - Yc (R.ents.take n), false⟩
theorem RO.cut {R : RgS} {D : DS} {n : Nat} {note : Bs} (h : RO R D) (hn : n ≤ R.ents.length) (ht : R.h.turn < 1073741824) (hnote : note.length ≤ 32) (hnum : R.next < 1099511627776) :
  ((DS.lays (ZU (R.cutH n note)) D).2 = 0 → RO (R.minus n note) (DS.lays (ZU (R.cutH n note)) D).1 ∧ Frs (R.minus n note) (DS.lays (ZU (R.cutH n note)) D).1) ∧
  ((DS.lays (ZU (R.cutH n note)) D).2 ≠ 0 → ∀ keep, RO R ((DS.lays (ZU (R.cutH n note)) D).1.crash keep) ∨ RO (R.minus n note) ((DS.lays (ZU (R.cutH n note)) D).1.crash keep)) := by
 have hsz := h.ok.size
 have hlen := h.len
 have hus := h.ok.used
 have hft := h.ok.fit
 have htd := Wg R.ents n
 have hnx := h.ok.next
 have hfi := h.ok.first
 have htu := h.ok.turn
 have hok : (DS.lays (ZU (R.cutH n note)) D).1.Ok := h.dok.lays (fun p hp => by rw [(YG hp).2]; exact headB_len _)
 have hidx : ∀ p ∈ ZU (R.cutH n note), p.1 < D.secs.length := fun p hp => by rw [(YG hp).1]; omega
 have hm : 0 < R.h.size := by omega
 have hok' : RgS.Ok (R.minus n note) := ⟨⟨by simp [RgS.minus, RgS.cutH, Hd.cut], by simp [RgS.minus, RgS.cutH, Hd.cut]; omega⟩, hsz, by simp only [RgS.minus, RgS.cutH, Hd.cut]; omega, by simp only [RgS.minus, RgS.cutH, Hd.cut, RgS.next, List.length_drop] at hnx ⊢; omega, Nat.mod_lt _ hm, hnote, by simp only [RgS.minus]; omega, by simp only [RgS.minus, RgS.cutH, Hd.cut]; omega, fun c hc => h.ok.long c (List.mem_of_mem_drop hc)⟩
 have hhas : Has (img D) (R.cutH n note).size (R.cutH n note).turn (R.cutH n note).first (R.cutH n note).place (R.ents.drop n) := by
  have := (h.has.drop n hn).le (T' := R.h.turn + 1) (by omega)
  exact this.frame (by simp [RgS.cutH, Hd.cut]) (fun _ _ => rfl)
 have hpl : ((R.cutH n note).place + (R.used - Yc (R.ents.take n))) % (R.cutH n note).size = (R.h.place + R.used) % (R.cutH n note).size := by
  simp only [RgS.cutH, Hd.cut]
  rw [Nat.add_mod, Nat.mod_mod, ← Nat.add_mod]
  congr 1; omega
 have hfn : (R.cutH n note).first + (R.ents.drop n).length = R.next := by simp only [RgS.cutH, Hd.cut, RgS.next, List.length_drop]; omega
 have key : ∀ {D' : DS} {keep : Nat → Bool} {l : List (Nat × Blk)}, l <+: ZU (R.cutH n note) → D'.Ok → D'.dead = false → D'.secs = settled keep (Yv D.secs l) → img D' ((R.h.turn + 1) % 2) = YY (R.cutH n note) → RO (R.minus n note) D' ∧ Frs (R.minus n note) D' := by
  intro D' keep l hl hok1 hal hs hi
  refine h.newHead hok1 hal (by rw [hs]; exact Xb) (by rw [hs, Ya, Yq]) hi (fun i hi => ?_) rfl rfl hok' (by unfold RgS.next at hnum; simp only [RgS.cutH, Hd.cut]; omega) hhas hpl hfn
  rcases XT h.empty hs D rfl i with e | ⟨p, hp, h1, _⟩
  ·exact e
  ·exact absurd (by rw [← h1, (YG (hl.subset hp)).1]; rfl) hi
 rcases lays_out (ZU (R.cutH n note)) D h.alive hidx with ⟨l', hl', hs, hc⟩ | ⟨hs, hc, hal⟩
 ·refine ⟨fun h0 => absurd h0 hc, fun _ keep => ?_⟩
  have hs2 : ((DS.lays (ZU (R.cutH n note)) D).1.crash keep).secs = settled keep (Yv D.secs l') := by simp only [DS.crash]; rw [hs]
  have hsame : ∀ i, i ≠ (R.h.turn + 1) % 2 → img ((DS.lays (ZU (R.cutH n note)) D).1.crash keep) i = img D i := fun i hi => by
   rcases XT h.empty hs2 D rfl i with e | ⟨p, hp, h1, _⟩
   ·exact e
   ·exact absurd (by rw [← h1, (YG (hl'.subset hp)).1]; rfl) hi
  rcases XT h.empty hs2 D rfl ((R.h.turn + 1) % 2) with e | ⟨p, hp, _, h2⟩
  ·left
   have hi : ∀ i, img ((DS.lays (ZU (R.cutH n note)) D).1.crash keep) i = img D i := fun i => by
    by_cases he : i = (R.h.turn + 1) % 2
    ·rw [he]; exact e
    ·exact hsame i he
   have hi' : img ((DS.lays (ZU (R.cutH n note)) D).1.crash keep) = img D := funext hi
   exact ⟨h.ok, h.live, h.num, hok.crash, rfl, by rw [hs2]; exact Xb, by rw [hs2, Ya, Yq]; exact h.len, by rw [hi']; exact h.head, by rw [hi']; exact h.other, by rw [hi']; exact h.has, by rw [hi']; exact h.none, by rw [hi']; exact h.bound⟩
  ·right
   exact (key hl' hok.crash rfl hs2 (by rw [h2, (YG (hl'.subset hp)).2])).1
 ·refine ⟨fun _ => ?_, fun h0 => absurd hc h0⟩
  refine key (List.prefix_refl _) hok hal hs ?_
  rcases img_all h.empty hs D rfl (i := (R.h.turn + 1) % 2) (by omega) with ⟨_, hno⟩ | ⟨p, hp, _, h2⟩
  ·exact absurd rfl (hno _ (List.mem_singleton.2 rfl))
  ·rw [h2, (YG hp).2]
theorem RO.crash {R : RgS} {D : DS} (h : RO R D) (keep : Nat → Bool) : RO R (D.crash keep) := by
 have hs : (D.crash keep).secs = D.secs := by simp only [DS.crash]; exact settled_empty h.empty
 have hi := XZ hs
 exact ⟨h.ok, h.live, h.num, h.dok.crash, rfl, by rw [hs]; exact h.empty, by rw [hs]; exact h.len, by rw [hi]; exact h.head, by rw [hi]; exact h.other, by rw [hi]; exact h.has, by rw [hi]; exact h.none, by rw [hi]; exact h.bound⟩
theorem usedL_take_succ (l : List Bs) (k : Nat) (h : k < l.length) : Yc (l.take (k + 1)) = Yc (l.take k) + Zv l[k].length := by
 rw [List.take_succ_eq_append_getElem h, usedL_append]; simp [Yc]
theorem RIn.at {ρ : Hp} {R : RgS} {w : RW} (h : RIn ρ R w) {k : Nat} (hk : k < w.els.length) : (w.els[k]).l = R.ents[k]'(by rw [← h.len]; exact hk) ∧ BIn ρ w.els[k] ∧ (w.els[k]).n ≤ 8000 := by
 have hb := h.els _ (List.getElem_mem hk)
 have hl := hb.s.len
 have hlong := h.ok.long
 have he : (w.els[k]).l = R.ents[k]'(by rw [← h.len]; exact hk) := by simp [h.ents]
 refine ⟨he, hb, ?_⟩
 rw [← hl, he]; exact hlong _ (List.getElem_mem _)
theorem clone2_spec (ρ : Hp) (a : Option Addr) (n c off : Nat) (T : TypeId) (xs sp : List Value) (X : SH) (b : Nat) (cap : Nat) (els : List BSl) (hn : n ≤ 1000000) (hlen : els.length = n) (ha : a = some ⟨b, off, none⟩) (hX : X = [[(b, .cells ⟨xs⟩ T (0, 0))]]) (hx : (xs.drop off).take n = els.map slv) :
  Spec Tryz.prog 70 [.slice a n c] ρ X (fun v ρ' L' => ρ' = ρ ∧ ∃ sp', OwnS v n (els.map slv) sp' 1 ∧ L' = X ++ [Zw v (els.map slv) sp' 22]) := by
 subst ha; subst hX
 refine Za Tryz.func70 rfl rfl rfl fun u R => ?_
 simp only [Zf, kA]
 repeat' (first | refine zW ?_ | intro _)
 refine Yk (n := 0) (xs := []) (sp := []) (ys := els.map slv) (sz := 1) rfl rfl (OwnS.zero _ 1) (hR := Zz) (SrcV.find (n := n) hx) (by simpa using hlen) (slv_one els) (by decide) rfl (by omega) (by omega) rfl (fun v' sp' hown' => ?_)
 simp only [Nat.zero_add, List.nil_append] at hown' ⊢
 repeat' (first | refine zW ?_ | intro _)
 exact qE (L' := [[(b, .cells ⟨xs⟩ T (0, 0))], Zw v' (els.map slv) sp' 22]) ⟨rfl, sp', hown', rfl⟩
theorem clone2_nil (ρ : Hp) (n c : Nat) : Spec Tryz.prog 70 [.slice none n c] ρ [] (fun v ρ' L' => v = .slice none 0 0 ∧ ρ' = ρ ∧ L' = []) := by
 refine Za Tryz.func70 rfl rfl rfl fun u R => ?_
 simp only [Zf, kA]
 repeat' (first | refine zW ?_ | intro _)
 exact qE ⟨rfl, rfl, rfl⟩
end Go.Proofs.E
