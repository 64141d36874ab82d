/- Laws of RedoAll,RedoOthers,RedoSteps. Part 18 of 23. -/
import Derived.Test.YtpcfmhifkkpjpaaGreatA17
namespace Go.Proofs.E
open Go
set_option linter.unusedVariables false
set_option linter.unusedSimpArgs false
set_option linter.unusedSectionVars false
set_option maxRecDepth 4000
set_option maxHeartbeats 1000000
attribute [local irreducible] Yl TL TC TE Spec ZF R1 Hp.le EnvLe TS TR YS Zo
abbrev Xy (s m : Nat) : List RR := (List.range' s m).map (fun i => begX i 1)
theorem begL_len (s m : Nat) : (Xy s m).length = m := by simp [Xy]
theorem begL_mem {s m : Nat} {x : RR} (h : x ∈ Xy s m) : ∃ i, s ≤ i ∧ i < s + m ∧ x = begX i 1 := by
 obtain ⟨i, hi, rfl⟩ := List.mem_map.1 h
 rw [List.mem_range'_1] at hi
 exact ⟨i, hi.1, hi.2, rfl⟩
theorem begL_used (s m : Nat) (h1 : 1 ≤ s) (h2 : s + m ≤ 1000) : Xr (Xy s m) = m := by
 induction m generalizing s with
 | zero => rfl
 | succ m ih =>
  have e : Xy s (m + 1) = begX s 1 :: Xy (s + 1) m := by simp [Xy, List.range'_succ]
  rw [e]
  have := ih (s + 1) (by omega) (by omega)
  have hc := begR_cost (lsn := s) (txn := 1) (begR_ok h1 (by omega) (by omega) (by omega))
  simp only [Xr, List.map_cons, List.sum_cons] at this ⊢
  rw [this, hc]; omega
def pS (R : RgS) (fl m : Nat) : LgS := ⟨R, 1, fl, 0, 1, Xy 1 m⟩
theorem pS_next (R : RgS) (fl m : Nat) : (pS R fl m).next = m + 1 := by simp [pS, LgS.next]; omega
theorem filter_beg : ∀ (m s lsn : Nat), (Xy s m).filter (fun x => decide (lsn ≤ x.2.lsn)) = Xy (max s lsn) (s + m - max s lsn)
 | 0, s, lsn => by simp [Xy, show s - max s lsn = 0 by omega]
 | m + 1, s, lsn => by
  have e : Xy s (m + 1) = begX s 1 :: Xy (s + 1) m := by simp [Xy, List.range'_succ]
  rw [e, List.filter_cons, filter_beg m (s + 1) lsn]
  by_cases h : lsn ≤ s
  ·rw [if_pos (show decide (lsn ≤ (begX s 1).2.lsn) = true from decide_eq_true h)]
   rw [show max (s + 1) lsn = s + 1 by omega, show max s lsn = s by omega, show s + (m + 1) - s = m + 1 by omega, show s + 1 + m - (s + 1) = m by omega]
   simp [Xy, List.range'_succ]
  ·rw [if_neg (show ¬ decide (lsn ≤ (begX s 1).2.lsn) = true from fun e => h (of_decide_eq_true e)), show max (s + 1) lsn = max s lsn by omega, show s + 1 + m = s + (m + 1) by omega]
theorem upTo_beg : ∀ (m s to : Nat), upTo to (Xy s m) = Xy s (min m (to + 1 - s))
 | 0, s, to => by simp [Xy]
 | m + 1, s, to => by
  have e : Xy s (m + 1) = begX s 1 :: Xy (s + 1) m := by simp [Xy, List.range'_succ]
  have ih := upTo_beg m (s + 1) to
  unfold upTo at ih ⊢
  rw [e, List.takeWhile_cons]
  by_cases h : s ≤ to
  ·rw [if_pos (show decide ((begX s 1).2.lsn ≤ to) = true from decide_eq_true h), ih, show min (m + 1) (to + 1 - s) = min m (to + 1 - (s + 1)) + 1 by omega]
   simp [Xy, List.range'_succ]
  ·rw [if_neg (show ¬ decide ((begX s 1).2.lsn ≤ to) = true from fun e => h (of_decide_eq_true e)), show min (m + 1) (to + 1 - s) = 0 by omega]; rfl
theorem lastF_beg : ∀ (m s f : Nat), lastF f (Xy s m) = if m = 0 then f else s + m - 1
 | 0, s, f => rfl
 | m + 1, s, f => by
  have e : Xy s (m + 1) = begX s 1 :: Xy (s + 1) m := by simp [Xy, List.range'_succ]
  rw [e]
  show lastF s (Xy (s + 1) m) = _
  rw [lastF_beg m (s + 1) s]
  split
  ·rename_i h; subst h; simp
  ·rw [if_neg (by omega)]; omega
structure StoK (R : RgS) (fl m : Nat) (D : DS) (t : Nat) (held : Nat → YB) : Prop where
 good : Good R D
 fo : FO D 902 t held
 head : R.h = ZG 450
 used : R.used = fl
 ents : R.ents.length = fl
 le : fl ≤ m
 few : m ≤ 300
theorem StoK.flush {R : RgS} {fl m : Nat} {D : DS} {t : Nat} {held : Nat → YB} (h : StoK R fl m D t held) {to : Nat} (h1 : fl < to) (h2 : to ≤ m) :
  ∃ R' D', (pS R fl m).flush to D = (pS R' to m, D', 0) ∧ StoK R' to m D' t held ∧ D'.Calm := by
 have hle := h.le
 have hfw := h.few
 have hu := h.used
 have hsz : R.h.size = 450 := by rw [h.head]; rfl
 have hf1 : R.h.first = 1 := by rw [h.head]; rfl
 have hfr : fromL (pS R fl m) (fl + 1) = Xy (fl + 1) (m - fl) := by
  unfold fromL pS
  rw [filter_beg, show max 1 (fl + 1) = fl + 1 by omega, show 1 + m - (fl + 1) = m - fl by omega]
 obtain ⟨R', D', e, g', q1, q2, q3, q4, q5⟩ := flushL_good to (Xy (fl + 1) (m - fl)) R D fl h.good (fun x hx => by
  obtain ⟨i, h3, h4, rfl⟩ := begL_mem hx
  exact begR_ok (by omega) (by omega) (by omega) (by omega)) (by rw [begL_used _ _ (by omega) (by omega)]; omega) (by rw [begL_len]; unfold RgS.next; rw [hf1, h.ents]; omega)
 have hup : upTo to (Xy (fl + 1) (m - fl)) = Xy (fl + 1) (to - fl) := by rw [upTo_beg, show min (m - fl) (to + 1 - (fl + 1)) = to - fl by omega]
 rw [hup] at e q2 q3
 rw [lastF_beg, if_neg (by omega), show fl + 1 + (to - fl) - 1 = to by omega] at e
 rw [begL_used _ _ (by omega) (by omega)] at q3
 refine ⟨R', D', ?_, ⟨g', h.fo.frame g'.ro.dok g'.ro.alive g'.ro.empty q4 (fun i h3 h4 => q5 i (by omega)), by rw [q1, h.head], by omega, by rw [q2, List.length_append, List.length_map, begL_len, h.ents]; omega, h2, hfw⟩, g'.calm⟩
 unfold LgS.flush
 rw [pS_next, if_neg (by omega), show (pS R fl m).fl = fl from rfl, hfr, show (pS R fl m).R = R from rfl, e]
 rfl
theorem StoK.write {R : RgS} {fl m : Nat} {D : DS} {t : Nat} {held : Nat → YB} (h : StoK R fl m D t held) {num lsn : Nat} {c : Yh} (hn : num < 64) (hc : Fit c) (hl : lsn < M64) (ht : t + 1 < M64) :
  ∃ D', XN D 902 num lsn c = (D', 0) ∧ StoK R fl m D' (t + 1) (upd held num (c, lsn)) := by
 obtain ⟨w0, w1, w2, w3, w4⟩ := writeF_frame (lsn := lsn) (c := c) h.fo h.good.calm hn ht
 have hw := h.fo.write hn hc hl ht
 have hsz : R.h.size = 450 := by rw [h.head]; rfl
 exact ⟨_, Prod.ext rfl w0, h.good.frame hw.2.2 w1 w2 w3 (fun i hi => w4 i (by omega)), hw.1 w0, h.head, h.used, h.ents, h.le, h.few⟩
theorem StoK.lv {R : RgS} {fl m : Nat} {D D' : DS} {t : Nat} {held : Nat → YB} (h : StoK R fl m D t held) (hl : Lv D D') (hf : FO D' 902 t held) : StoK R fl m D' t held :=
 ⟨h.good.frame hf.dok (hl.calm h.good.calm) hf.empty (by rw [hl.secs]) (fun i _ => by rw [Xx hl.secs]), hf, h.head, h.used, h.ents, h.le, h.few⟩
theorem StoK.more {R : RgS} {fl m : Nat} {D : DS} {t : Nat} {held : Nat → YB} (h : StoK R fl m D t held) (hm : m < 300) : StoK R fl (m + 1) D t held :=
 ⟨h.good, h.fo, h.head, h.used, h.ents, by have := h.le; omega, by omega⟩
theorem filt_drop : ∀ (l : List RR) (b fr : Nat), (∀ i (h : i < l.length), (l[i]).2.lsn = b + i) → l.filter (fun x => decide (fr ≤ x.2.lsn)) = l.drop (fr - b)
 | [], _, _, _ => by simp
 | x :: l, b, fr, h => by
  have h0 := h 0 (by simp)
  have ih := filt_drop l (b + 1) fr (fun i hi => by have := h (i + 1) (by simpa using hi); simp only [List.getElem_cons_succ] at this; omega)
  simp only [List.getElem_cons_zero] at h0
  rw [List.filter_cons]
  by_cases hb : fr ≤ b
  ·rw [if_pos (by simp; omega), ih, show fr - (b + 1) = 0 by omega, show fr - b = 0 by omega]; rfl
  ·rw [if_neg (by simp; omega), ih, show fr - b = (fr - (b + 1)) + 1 by omega, List.drop_succ_cons]
theorem app_facts {S : LgS} {r : Rc} (h : appE S r 0 = 0) : ZT r = true ∧ r.lsn = S.next ∧ Xr S.recs + WW r ≤ 400 ∧ S.next ≠ 1099511627776 := by
 unfold appE at h
 split at h
 ·omega
 ·rename_i h1
  split at h
  ·omega
  ·split at h
   ·omega
   ·exact ⟨by simpa using h1, by omega, by omega, by omega⟩
def mkS (l : List RR) : LgS := ⟨⟨ZG 450, [], 0, false⟩, 1, 0, 0, 1, l⟩
structure MkOk (l : List RR) : Prop where
 ok : ∀ x ∈ l, ZT x.2 = true
 lsn : ∀ i (h : i < l.length), (l[i]).2.lsn = 1 + i
 used : Xr l ≤ 400
theorem MkOk.nil : MkOk [] := ⟨by simp, by simp, by simp [Xr]⟩
theorem mkS_next (l : List RR) : (mkS l).next = 1 + l.length := rfl
theorem MkOk.len {l : List RR} (h : MkOk l) : l.length ≤ 400 := Nat.le_trans (usedR_len h.ok) h.used
theorem MkOk.more {l : List RR} (h : MkOk l) {x : RR} (ha : appE (mkS l) x.2 0 = 0) : MkOk (l ++ [x]) := by
 obtain ⟨h1, h2, h3, _⟩ := app_facts ha
 refine ⟨fun y hy => ?_, fun i hi => ?_, ?_⟩
 ·rcases List.mem_append.1 hy with hy | hy
  ·exact h.ok y hy
  ·rw [List.mem_singleton.1 hy]; exact h1
 ·by_cases hlt : i < l.length
  ·rw [List.getElem_append_left hlt]; exact h.lsn i hlt
  ·simp only [List.length_append, List.length_cons, List.length_nil] at hi
   rw [List.getElem_append_right (by omega)]
   simp only [show i - l.length = 0 by omega, List.getElem_cons_zero]
   rw [h2, mkS_next]; omega
 ·rw [usedR_add]; simp only [mkS] at h3; simpa [Xr] using h3
theorem upTo_all : ∀ (l : List RR) (to : Nat), (∀ x ∈ l, x.2.lsn ≤ to) → upTo to l = l
 | [], _, _ => rfl
 | x :: r, to, h => by
  have ih := upTo_all r to (fun y hy => h y (by simp [hy]))
  unfold upTo at ih ⊢
  rw [List.takeWhile_cons, decide_eq_true (h x (by simp)), ih]; rfl
theorem lastF_all : ∀ (l : List RR) (f : Nat), (∀ i (h : i < l.length), (l[i]).2.lsn = f + 1 + i) → lastF f l = f + l.length
 | [], f, _ => rfl
 | x :: r, f, h => by
  have h0 := h 0 (by simp)
  simp only [List.getElem_cons_zero] at h0
  show lastF x.2.lsn r = _
  rw [lastF_all r x.2.lsn (fun i hi => by have := h (i + 1) (by simpa using hi); simp only [List.getElem_cons_succ] at this; omega)]
  simp only [List.length_cons]; omega
theorem MkOk.flush {l : List RR} (h : MkOk l) {D : DS} (g : Good ⟨ZG 450, [], 0, false⟩ D) :
  ∃ R' D', (mkS l).flush ((mkS l).next - 1) D = ((mkS l).at R' l.length, D', 0) ∧ Good R' D' ∧ D'.secs.length = D.secs.length ∧ ∀ i, 452 ≤ i → img D' i = img D i := by
 have hlen := h.len
 have hfr : fromL (mkS l) ((mkS l).fl + 1) = l := by
  have := filt_drop l 1 1 h.lsn
  rw [Nat.sub_self, List.drop_zero] at this
  exact this
 have hall : ∀ x ∈ l, x.2.lsn ≤ l.length := fun x hx => by
  obtain ⟨i, hi, rfl⟩ := List.getElem_of_mem hx
  rw [h.lsn i hi]; omega
 obtain ⟨R', D', e, g', _, _, _, q4, q5⟩ := flushL_good l.length l ⟨ZG 450, [], 0, false⟩ D 0 g h.ok (by have := h.used; simp only [ZG]; omega) (by simp only [RgS.next, ZG, List.length_nil]; omega)
 rw [upTo_all l _ hall, lastF_all l 0 (fun i hi => h.lsn i hi), Nat.zero_add] at e
 refine ⟨R', D', ?_, g', q4, fun i hi => q5 i (by simp only [ZG]; omega)⟩
 unfold LgS.flush
 rw [if_neg (by rw [mkS_next]; omega), hfr, mkS_next, Nat.add_sub_cancel_left, show (mkS l).R = ⟨ZG 450, [], 0, false⟩ from rfl, show (mkS l).fl = 0 from rfl, e]
theorem recF_known {S : LgS} {l : List RR} (hr : S.recs = l) (h : MkOk l) (lsn : Nat) : (Wa S lsn).isSome = decide (1 ≤ lsn ∧ lsn ≤ l.length) := by
 unfold Wa fromL
 rw [hr, filt_drop l 1 lsn h.lsn]
 by_cases hlt : lsn - 1 < l.length
 ·rw [List.drop_eq_getElem_cons hlt]
  show (if (l[lsn - 1]).2.lsn = lsn then some l[lsn - 1] else none).isSome = _
  rw [h.lsn _ hlt]
  by_cases h1 : 1 ≤ lsn
  ·rw [if_pos (by omega), decide_eq_true ⟨h1, by omega⟩]; rfl
  ·rw [if_neg (by omega), decide_eq_false (by omega)]; rfl
 ·rw [List.drop_eq_nil_of_le (by omega), decide_eq_false (by omega)]; rfl
theorem recF_mem {S : LgS} {l : List RR} (hr : S.recs = l) (h : MkOk l) : ∀ x ∈ l, (Wa S x.2.lsn).isSome = true := fun x hx => by
 obtain ⟨i, hi, rfl⟩ := List.getElem_of_mem hx
 rw [recF_known hr h, decide_eq_true]
 rw [h.lsn i hi]; omega
theorem FO.zero {D : DS} {base : Nat} (hok : D.Ok) (ha : D.dead = false) (he : YD D.secs) (hl : base + 256 ≤ D.secs.length) (himg : ∀ i, i < 256 → img D (base + i) = YR) : FO D base 0 (fun _ => zHeld) := by
 have hpg : ∀ num j, num < 64 → j < 4 → pg D base num j = YR := fun num j h1 h2 => by
  unfold pg; rw [Nat.add_assoc]; exact himg _ (by omega)
 refine ⟨hok, ha, he, hl, fun num j h1 h2 => .inl (hpg num j h1 h2), fun num h1 => ?_⟩
 unfold csD
 rw [hpg num 0 h1 (by omega), hpg num 1 h1 (by omega), hpg num 2 h1 (by omega), hpg num 3 h1 (by omega), (cs2_eq num YR YR YR YR).1]
 have hr : (ZX num YR YR).right = false := by
  cases hr : (ZX num YR YR).right with
  | false => rfl
  | true =>
   have := (says_right (by rfl) (by rfl) hr).1
   rw [stamp_zblk] at this; omega
 rw [if_neg (by simp [hr]), if_neg (by simp [hr])]
theorem img_new {n i : Nat} (h : i < n) : img (DS.new n) i = YR := by simp [img, DS.new, fresh, h]
theorem format_img {n : Nat} {D D' : DS} {R : RgS} (hc : D.Calm) (he : YD D.secs) (hl : n + 2 ≤ D.secs.length) (h : Wg n D = (some R, D', 0)) : ∀ i, n + 2 ≤ i → img D' i = img D i := by
 have hidx : ∀ p ∈ Zz n, p.1 < n + 2 := fun p hp => by
  simp only [Zz, List.mem_map, List.mem_range] at hp
  obtain ⟨k, hk, rfl⟩ := hp
  exact hk
 obtain ⟨l0, l1, l2⟩ := XF (Zz n) D hc (fun p hp => by have := hidx p hp; omega)
 have hlen1 := Xc (Zz n) D
 have hemp1 : YD (DS.lays (Zz n) D).1.secs := by rw [l2]; exact Yb
 obtain ⟨m0, m1, m2⟩ := XF (Yk (ZG n)) (DS.lays (Zz n) D).1 l1 (fun p hp => by rw [(YN hp).1, hlen1]; simp only [ZG]; omega)
 unfold Wg at h
 split at h
 ·simp at h
 ·rw [Int.toNat_natCast, if_pos l0, if_pos m0] at h
  have e := congrArg (fun x => x.2.1) h
  dsimp only at e
  intro i hi
  rw [← e]
  rcases Xb hemp1 m2 (DS.lays (Zz n) D).1 rfl i with e1 | ⟨p, hp, h1, _⟩
  ·rw [e1]
   rcases Xb he l2 D rfl i with e2 | ⟨p, hp, h1, _⟩
   ·exact e2
   ·have := hidx p hp; omega
  ·rw [(YN hp).1] at h1; simp only [ZG] at h1; omega
theorem kformat24 (ρ : Hp) (db : Nat) (k : DK) (hk : DOk k (DS.new 1158)) :
  Spec Tryz.prog 24 [.pointer (some ⟨db, 0, none⟩), .int .i64 450] ρ (Zl db k (DS.new 1158)) (fun v ρ' L' => ρ.le ρ' ∧ ∃ lb rb w k' D', v = .tuple ⟨[.pointer (some ⟨lb, 0, none⟩), .int .i64 0]⟩ ∧ DOk k' D' ∧ RIn ρ' ⟨ZG 450, [], 0, false⟩ w ∧ Good ⟨ZG 450, [], 0, false⟩ D' ∧ D'.secs.length = 1158 ∧ (∀ i, 452 ≤ i → i < 1158 → img D' i = YR) ∧ L' = ZY lb rb (mkS []) (.slice none 0 0) :: (XA rb db ⟨ZG 450, [], 0, false⟩ w ++ Zl db k' D')) := by
 obtain ⟨D', e, g⟩ := Good.format (D := DS.new 1158) (n := 450) (new_okD (by omega) (by omega)) new_calm (by omega) (by omega) (by simp [DS.new, fresh]) fresh_empty
 have himg := format_img new_calm fresh_empty (by simp [DS.new, fresh]) e
 have hlen : D'.secs.length = 1158 := by
  unfold Wg at e
  split at e
  ·simp at e
  ·split at e
   ·split at e
    ·have := congrArg (fun x => x.2.1.secs.length) e
     dsimp only at this
     rw [← this, Xc, Xc]; simp [DS.new, fresh]
    ·simp at e
   ·simp at e
 have hf := format_spec ρ db k (DS.new 1158) hk 450 (by omega)
 rw [show ((450 : Int)) = ((450 : Nat) : Int) from rfl, e] at hf
 refine Za Tryz.func24 rfl rfl rfl fun u R => ?_
 simp only [Zg, kA]
 repeat' (first | (refine Zb (.func 13) ?_; refine qC rfl rfl hf ?_; rintro v1 ρ1 L1 hle1 ⟨hl1, k1, hk1, rb, w, rfl, hr, rfl⟩; try simp only [kA, List.append_assoc]) | refine zW ?_ | intro _)
 rename_i lb
 exact qE (L' := ZY lb rb (mkS []) (.slice none 0 0) :: (XA rb db ⟨ZG 450, [], 0, false⟩ w ++ Zl db k1 D')) ⟨hl1, lb, rb, w, k1, D', rfl, hk1, hr, g, hlen, fun i h1 h2 => by rw [himg i h1]; exact img_new h2, rfl⟩
theorem fo_write {D : DS} {t : Nat} {held : Nat → YB} (h : FO D 902 t held) (hc : D.Calm) {num lsn : Nat} {c : Yh} (hn : num < 64) (hf : Fit c) (hl : lsn < M64) (ht : t + 1 < M64) : ∃ D', XN D 902 num lsn c = (D', 0) ∧ FO D' 902 (t + 1) (upd held num (c, lsn)) ∧ D'.Calm := by
 obtain ⟨w0, w1⟩ := writeF_calm (lsn := lsn) (c := c) h hc hn ht
 exact ⟨_, Prod.ext rfl w0, (h.write hn hf hl ht).1 w0, w1⟩
theorem stepnil_spec (ρ : Hp) (s : SV) (v : RV) (r : Rc) : Spec Tryz.prog 41 [.pointer none, .slice s.a s.n s.c, .agg ⟨YI v r⟩] ρ [] (fun z ρ' L' => z = .tuple ⟨[.int .i64 0, .int .i64 1]⟩ ∧ ρ' = ρ ∧ L' = []) := by
 refine Za Tryz.func41 rfl rfl rfl fun u R => ?_
 simp only [Zg, kA]
 repeat' (first | refine zV ?_ | intro _)
 exact qE (L' := []) ⟨rfl, rfl, rfl⟩
def wnI (n : Int) : Im := ⟨n, nilCV, ztC, nilCV, ztC⟩
def wnR : Rc := ⟨2, 7, 1, 1, 0, [wnI 2, wnI 5], [], 0, [], []⟩
def wnD : List Ym := [⟨2, 7⟩, ⟨5, 3⟩]
def wnF (m : Nat) (n : Int) : Nat := if n = 5 then m else 0
theorem wn_why : WJ wnD wnR = 0 := by decide +kernel
theorem wn_a : (redoL (wnF 0) wnD wnR).map Im.page = [2, 5] := by decide +kernel
theorem wn_b : (redoL (wnF 7) wnD wnR).map Im.page = [2] := by decide +kernel
theorem wnSh (ρ : Hp) (b : Nat) (W : List Value) (m : Nat) (h2 : W[0 + 2 * 4 + 3]? = some (.int .u64 0)) (h5 : W[0 + 5 * 4 + 3]? = some (.int .u64 m)) (s : SV) (hd : AS ρ 2 YQ s wnD) (v : RV) (h : RcIn ρ v wnR) :
  Spec Tryz.prog 116 [.slice (some ⟨b, 0, none⟩) 64 64, .slice s.a s.n s.c, .agg ⟨YI v wnR⟩] ρ [[(b, .cells ⟨W⟩ 114 (0, 0))]]
   (fun z ρ' L' => ρ.le ρ' ∧ ∃ s2 : SV, z = .tuple ⟨[.slice s2.a s2.n s2.c, .int .i64 0]⟩ ∧ AS ρ' 4 shV s2 ((redoL (wnF m) wnD wnR).map Wy) ∧ L' = [[(b, .cells ⟨W⟩ 114 (0, 0))]]) := by
 have e : shE wnD wnR 64 = 0 := by unfold shE; rw [wn_why]; rfl
 have := rsheets_spec ρ (some ⟨b, 0, none⟩) 64 64 s wnD hd v wnR h [[(b, .cells ⟨W⟩ 114 (0, 0))]] (wnF m) (fun _ _ lb ρ2 _ x hx => by
  have hx : x = wnI 2 ∨ x = wnI 5 := by simpa [wnR] using hx
  rcases hx with rfl | rfl
  ·exact lsn1_own ρ2 lb b 64 64 W 2 0 (by decide) (by decide) h2
  ·exact lsn1_own ρ2 lb b 64 64 W 5 m (by decide) (by decide) h5)
 rw [e, if_pos rfl] at this
 exact this
theorem wnA (ρ : Hp) (b : Nat) (W : List Value) (h2 : W[0 + 2 * 4 + 3]? = some (.int .u64 0)) (h5 : W[0 + 5 * 4 + 3]? = some (.int .u64 0)) (s : SV) (hd : AS ρ 2 YQ s wnD) (v : RV) (h : RcIn ρ v wnR) :
  Spec Tryz.prog 116 [.slice (some ⟨b, 0, none⟩) 64 64, .slice s.a s.n s.c, .agg ⟨YI v wnR⟩] ρ [[(b, .cells ⟨W⟩ 114 (0, 0))]]
   (fun z ρ' L' => ρ.le ρ' ∧ ∃ s2 : SV, z = .tuple ⟨[.slice s2.a 2 s2.c, .int .i64 0]⟩ ∧ L' = [[(b, .cells ⟨W⟩ 114 (0, 0))]]) := by
 refine (wnSh ρ b W 0 h2 h5 s hd v h).mono ?_
 rintro z ρ' L' _ ⟨q1, s2, q2, q3, q4⟩
 have e : s2.n = 2 := by
  have := q3.at'.len
  have h3 := congrArg List.length wn_a
  simp only [List.length_map, List.length_cons, List.length_nil] at this h3
  omega
 rw [e] at q2
 exact ⟨q1, s2, q2, q4⟩
theorem wnB (ρ : Hp) (b : Nat) (W : List Value) (h2 : W[0 + 2 * 4 + 3]? = some (.int .u64 0)) (h5 : W[0 + 5 * 4 + 3]? = some (.int .u64 7)) (s : SV) (hd : AS ρ 2 YQ s wnD) (v : RV) (h : RcIn ρ v wnR) :
  Spec Tryz.prog 116 [.slice (some ⟨b, 0, none⟩) 64 64, .slice s.a s.n s.c, .agg ⟨YI v wnR⟩] ρ [[(b, .cells ⟨W⟩ 114 (0, 0))]]
   (fun z ρ' L' => ρ.le ρ' ∧ ∃ b2 off C T fr c, z = .tuple ⟨[.slice (some ⟨b2, off, none⟩) 1 c, .int .i64 0]⟩ ∧ ρ' b2 = some (.cells ⟨C⟩ T fr) ∧ C[off + (0 : Int).toNat * 4 + 0]? = some (.int .i64 2) ∧ L' = [[(b, .cells ⟨W⟩ 114 (0, 0))]]) := by
 refine (wnSh ρ b W 7 h2 h5 s hd v h).mono ?_
 rintro z ρ' L' _ ⟨q1, s2, q2, q3, q4⟩
 have hl := q3.at'.len
 have h3 := congrArg List.length wn_b
 simp only [List.length_map, List.length_cons, List.length_nil] at hl h3
 have h4 := congrArg (fun l => l[0]?) wn_b
 simp only [List.getElem?_map, List.getElem?_cons_zero, List.getElem?_eq_getElem (show 0 < (redoL (wnF 7) wnD wnR).length by omega), Option.map_some, Option.some.injEq] at h4
 obtain ⟨b2, off, C, T, fr, e1, hb, hfit, hc⟩ := q3.at'.get (show 0 < ((redoL (wnF 7) wnD wnR).map Wy).length by rw [List.length_map]; omega)
 rw [List.getElem_map] at hc
 have hc0 := cell_at4 hc (d := 0) rfl
 rw [show (Wy ((redoL (wnF 7) wnD wnR)[0]'(by omega))).page = 2 from h4] at hc0
 refine ⟨q1, b2, off, C, T, fr, s2.c, ?_, hb, hc0, q4⟩
 rw [q2, e1, show s2.n = 1 by omega]
theorem set7 {W : List Value} (h : W.length = 256) : SetL W (0 + (5 : Int).toNat * 4 + 3) (.int .u64 7) (W.set 23 (.int .u64 7)) := by
 refine ⟨by rw [h]; decide, ?_⟩
 rw [List.set_eq_take_append_cons_drop, if_pos (by rw [h]; decide)]
 simp [stc]
def wnW : Array Value := madeCells (Value.cells (.agg ⟨[.int .i64 0, .slice none 0 0, .slice none 0 0, .int .u64 0]⟩)) (Int.toNat 64 * 4)
theorem wn_W : wnW.toList.length = 256 ∧ wnW.toList[0 + 2 * 4 + 3]? = some (.int .u64 0) ∧ wnW.toList[0 + 5 * 4 + 3]? = some (.int .u64 0) := ⟨by kernel_rfl, by kernel_rfl, by kernel_rfl⟩
theorem wakes24_spec (ρ : Hp) : Spec Tryz.prog 37 [] ρ [] (fun v ρ' L' => v = .bool true ∧ ρ.le ρ' ∧ L' = []) := by
 refine Za Tryz.func37 rfl rfl rfl fun u R => ?_
 simp only [Zg, kA]
 repeat' (first | (refine YH (css := [imV (wnI 2), imV (wnI 5)]) (sz := 7) rfl rfl rfl rfl (by simp) (by simp) rfl (fun bs => ?_); simp only [List.flatten_cons, List.flatten_nil, List.append_nil]; refine ZB _ (h := Rem.here) (fun ρz hlz hfz => ?_); have hbs := hfz _ (List.mem_singleton.2 rfl); clear hfz; (try simp only [List.nil_append])) | (refine YH (css := [YQ ⟨2, 7⟩, YQ ⟨5, 3⟩]) (sz := 2) rfl rfl rfl rfl (by simp) (by simp) rfl (fun bs2 => ?_); simp only [List.flatten_cons, List.flatten_nil, List.append_nil]; refine ZB _ (h := Rem.here) (fun ρy hly hfy => ?_); have hbs2 := hfy _ (List.mem_singleton.2 rfl); clear hfy; (try simp only [List.nil_append])) | refine zV ?_ | intro _)
 refine Vg rfl rfl (by omega) (by omega) (by omega) (by omega) rfl (fun hbn => ?_)
 have hW := wn_W
 obtain ⟨W0, hW0⟩ : ∃ W0 : List Value, wnW = ⟨W0⟩ := ⟨_, rfl⟩
 rw [hW0] at hW
 rw [show madeCells (Value.cells (.agg ⟨[.int .i64 0, .slice none 0 0, .slice none 0 0, .int .u64 0]⟩)) (Int.toNat 64 * 4) = ⟨W0⟩ from hW0]
 clear hW0
 obtain ⟨hW1, hW2, hW3⟩ := hW
 simp only [show Int.toNat 64 = 64 from rfl]
 haveI hst := set7 hW1
 have hd : ∀ ρq, ρy.le ρq → AS ρq 2 YQ ⟨some ⟨bs2, 0, none⟩, 2, 2⟩ wnD := fun ρq hq => ⟨⟨rfl, .inr ⟨bs2, 0, _, _, _, rfl, Hp.up hq hbs2, Nat.le_refl _, rfl⟩, by (intro x hx; rfl)⟩, by (dsimp only; omega), Nat.le_refl _⟩
 have hr : ∀ ρq, ρz.le ρq → RcIn ρq ⟨⟨some ⟨bs, 0, none⟩, 2, 2⟩, ⟨none, 0, 0⟩, ⟨none, 0, 0⟩, ⟨none, 0, 0⟩⟩ wnR := fun ρq hq => ⟨⟨⟨rfl, .inr ⟨bs, 0, _, _, _, rfl, Hp.up hq hbs, Nat.le_refl _, rfl⟩, by (intro x hx; rfl)⟩, by (dsimp only; omega), Nat.le_refl _⟩, fun x hx => by (have hx : x = wnI 2 ∨ x = wnI 5 := by (simpa [wnR] using hx)); (rcases hx with rfl | rfl); (exact ⟨CI.nil, CI.nil⟩); (exact ⟨CI.nil, CI.nil⟩), AS.nil, AS.nil, AS.nil, by (simp [wnR])⟩
 have h11 : (W0.set 23 (Value.int .u64 7))[0 + 2 * 4 + 3]? = some (.int .u64 0) := by (rw [List.getElem?_set_ne (by decide)]; exact hW2)
 have h23 : (W0.set 23 (Value.int .u64 7))[0 + 5 * 4 + 3]? = some (.int .u64 7) := by (rw [List.getElem?_set_self (by rw [hW1]; decide)])
 repeat' (first | (refine Zb (.func 116) ?_; refine qC rfl rfl ((wnA _ hbn W0 hW2 hW3 ⟨some ⟨bs2, 0, none⟩, 2, 2⟩ (hd _ (Hp.le_refl _)) _ (hr _ hly))) ?_; rintro v ρ' L' hle ⟨hz1, s2, rfl, rfl⟩ <;> (try simp only [kA])) | (refine Zb (.func 116) ?_; refine qC rfl rfl ((wnB _ hbn (W0.set 23 (.int .u64 7)) h11 h23 ⟨some ⟨bs2, 0, none⟩, 2, 2⟩ (hd _ hz1) _ (hr _ (Hp.le_trans hly hz1)))) ?_; rintro v ρ' L' hle ⟨hz2, b3, off, C, T, fr, c3, rfl, hb3, hcell, rfl⟩ <;> (try simp only [kA])) | (refine Zb (.func 41) ?_; refine qC rfl rfl ((stepnil_spec _ ⟨some ⟨bs2, 0, none⟩, 2, 2⟩ ⟨⟨some ⟨bs, 0, none⟩, 2, 2⟩, ⟨none, 0, 0⟩, ⟨none, 0, 0⟩, ⟨none, 0, 0⟩⟩ wnR)) ?_; rintro v ρ' L' hle ⟨rfl, rfl, rfl⟩ <;> (try simp only [kA])) | refine zV ?_ | intro _)
 exact qE (L' := []) (hle := Hp.le_trans hlz (Hp.le_trans hly (Hp.le_trans hz1 hz2))) ⟨rfl, Hp.le_trans hlz (Hp.le_trans hly (Hp.le_trans hz1 hz2)), rfl⟩
end Go.Proofs.E
namespace Go.Proofs.E
open Go
set_option linter.unusedVariables false
set_option linter.unusedSimpArgs false
set_option linter.unusedSectionVars false
set_option maxRecDepth 4000
set_option maxHeartbeats 1000000
attribute [local irreducible] Yl TL TC TE Spec ZF R1 Hp.le EnvLe TS TR YS Zo TP QP
structure PgA where
 num : Int
 lsn : Nat
 w : CV
 c : Yh
abbrev paV (x : PgA) : List Value := [.int .i64 x.num, .int .u64 x.lsn, .int .i64 x.c.kind, .slice x.w.ra x.w.rn x.w.rc, .slice x.w.ka x.w.kn x.w.kc]
structure PaI (ρ : Hp) (x : PgA) : Prop where
 num : -9223372036854775808 ≤ x.num ∧ x.num ≤ 9223372036854775807
 lsn : x.lsn < 18446744073709551616
 c : CW ρ x.w x.c
theorem PaI.mono {ρ ρ' x} (h : PaI ρ x) (hl : ρ.le ρ') : PaI ρ' x := ⟨h.num, h.lsn, h.c.mono hl⟩
structure StA where
 a : Option Addr
 n : Nat
 c : Nat
 l : List RR
 a2 : Option Addr
 n2 : Nat
 c2 : Nat
 l2 : List PgA
abbrev stA (x : StA) : List Value := [.slice x.a x.n x.c, .slice x.a2 x.n2 x.c2]
structure StI (ρ : Hp) (x : StA) : Prop where
 at' : AIn ρ 10 rrV x.a x.n x.l
 big : x.n ≤ 9223372036854775807
 rcs : ∀ y ∈ x.l, RcW ρ y.1 y.2
 at2 : AIn ρ 5 paV x.a2 x.n2 x.l2
 big2 : x.n2 ≤ 9223372036854775807
 pg : ∀ y ∈ x.l2, PaI ρ y
theorem StI.mono {ρ ρ' x} (h : StI ρ x) (hl : ρ.le ρ') : StI ρ' x := ⟨h.at'.mono hl, h.big, fun y hy => (h.rcs y hy).mono hl, h.at2.mono hl, h.big2, fun y hy => (h.pg y hy).mono hl⟩
def zPd : PgD := ⟨zCV, ztC, 0⟩
def zPl : List PgD := List.replicate 64 zPd
theorem flat_rep_get {z : List Value} : ∀ (n i : Nat), i < n * z.length → ((List.replicate n z).flatten)[i]? = z[i % z.length]?
 | 0, i, h => by omega
 | n + 1, i, h => by
  rw [List.replicate_succ, List.flatten_cons]
  by_cases hi : i < z.length
  ·rw [List.getElem?_append_left hi, Nat.mod_eq_of_lt hi]
  ·rw [List.getElem?_append_right (by omega), flat_rep_get n (i - z.length) (by rw [Nat.add_mul] at h; omega), Nat.mod_eq_sub_mod (by omega : i ≥ z.length)]
theorem madeCells_flat (z : List Value) (n : Nat) (hz : 0 < z.length) : madeCells ⟨z⟩ (n * z.length) = ⟨(List.replicate n z).flatten⟩ := by
 apply Array.ext'
 apply List.ext_getElem?
 intro i
 have hl : ((List.replicate n z).flatten).length = n * z.length := by simp
 by_cases hi : i < n * z.length
 ·have h3 : i % z.length < z.length := Nat.mod_lt _ hz
  rw [show (⟨(List.replicate n z).flatten⟩ : Array Value).toList = (List.replicate n z).flatten from rfl, flat_rep_get n i hi, List.getElem?_eq_getElem h3]
  simp [madeCells, hi, h3]
 ·rw [List.getElem?_eq_none (by simp [madeCells]; omega), List.getElem?_eq_none (by rw [hl]; omega)]
theorem zPl_W : madeCells (Value.cells (.agg ⟨[.int .i64 0, .slice none 0 0, .slice none 0 0, .int .u64 0]⟩)) (Int.toNat 64 * 4) = ⟨(zPl.map pdV).flatten⟩ := by
 have h := madeCells_flat [.int .i64 0, .slice none 0 0, .slice none 0 0, .int .u64 0] 64 (by decide)
 unfold zPl
 rw [List.map_replicate]
 exact h
abbrev stdC (sb db lb fb : Nat) (v v2 : Value) : List (Nat × Obj) := [(sb, .cells ⟨[.pointer (some ⟨db, 0, none⟩), .pointer (some ⟨lb, 0, none⟩), .pointer (some ⟨fb, 0, none⟩), v, v2]⟩ 85 (0, 0))]
structure MdI (ρ : Hp) (fb db : Nat) (S : LgS) (v : Value) (sp : List Value) (w : RW) (k : DK) (D : DS) (t : Nat) (held : Nat → YB) (ra : Option Addr) (rc : Nat) (l : List RR) (pa : Option Addr) (pc : Nat) (pl : List PgD) : Prop where
 fi : FIn ρ fb db 902
 lg : LgIn ρ S v sp
 rg : RIn ρ S.R w
 dk : DOk k D
 fo : FO D 902 t held
 calm : D.Calm
 tb : t ≤ 8
 recs : S.recs = l
 base : S.base = 1
 fl : S.fl = l.length
 mo : MkOk l
 few : l.length ≤ 12
 rin : ∀ x ∈ l, RcIn ρ x.1 x.2
 at' : AIn ρ 10 rrV ra l.length l
 cap : l.length ≤ rc
 pg : PgL ρ pa pc pl held
 fit : ∀ n, Fit (held n).1
 lsb : ∀ n, (held n).2 ≤ l.length
theorem zFit : Fit zHeld.1 := ⟨by decide, ⟨by simp [zHeld], by simp [zHeld]⟩⟩
set_option maxHeartbeats 4000000 in
theorem made_spec (ρ : Hp) (x : StA) (hx : StI ρ x) :
  Spec Tryz.prog 38 [.agg ⟨stA x⟩] ρ [] (fun z ρ' L' => ρ.le ρ' ∧ ∃ sb db lb fb rb S v sp w k D t held ra rc l pa pc pl, z = .tuple ⟨[.pointer (some ⟨sb, 0, none⟩), .bool true]⟩ ∧ MdI ρ' fb db S v sp w k D t held ra rc l pa pc pl ∧
   L' = stdC sb db lb fb (.slice ra l.length rc) (.slice pa 64 pc) :: ZY lb rb S v :: Yy S v sp :: (XA rb db S.R w ++ Zl db k D)) := by
 obtain ⟨xa, xn, xc, xl, xa2, xn2, xc2, xl2⟩ := x
 obtain ⟨hA, hbig, hrw, hA2, hbig2, hpw⟩ := hx
 dsimp only at hA hbig hrw hA2 hbig2 hpw
 have hlen := hA.len
 have hlen2 := hA2.len
 refine Za Tryz.func38 rfl rfl rfl fun u R => ?_
 simp only [Zg, kA, stA]
 repeat' (first | (refine Zb (.func 12) ?_; refine qC rfl rfl (knew _ 1158 (by omega) (by omega)) ?_; rintro v ρ' L' hle ⟨rfl, db, k0, rfl, hk0, rfl⟩ <;> (try simp only [kA])) | (refine Zb (.func 24) ?_; refine qC rfl rfl (kformat24 _ db k0 hk0) ?_; rintro v1 ρ1 L1 hle1 ⟨hl1, lb, rb, w1, k1, D1, rfl, hk1, hr1, g1, hlen1, himg1, rfl⟩; try simp only [kA, List.append_assoc]) | (refine Zb (.func 72) ?_; refine qC rfl rfl (Open_spec _ db k1 D1 hk1 902 (by omega)) ?_; rintro v2 ρ2 L2 hle2 ⟨hl2, fb, rfl, hf2, rfl⟩; try simp only [kA, List.append_assoc]) | refine zV ?_ | intro _)
 refine Vg rfl rfl (by omega) (by omega) (by omega) (by omega) rfl (fun pb => ?_)
 rw [zPl_W]
 simp only [show Int.toNat 64 = 64 from rfl]
 have hz1 : zPl.length = 64 := rfl
 have hz2 : ∀ (ρ : Hp), ∀ y ∈ zPl, CIn ρ y.w y.c.rows y.c.kids := fun ρ y hy => by rw [(List.mem_replicate.1 hy).2]; exact CIn.nil
 have hz3 : ∀ k (h : k < zPl.length), ((zPl[k]).c, (zPl[k]).lsn) = zHeld := fun k h => by simp only [zPl, List.getElem_replicate]; rfl
 generalize zPl = pl0 at *
 rename_i xb
 rw [show [(pb, Obj.cells ⟨(pl0.map pdV).flatten⟩ 114 (0, 0))] = ZM (.slice (some ⟨pb, 0, none⟩) 64 64) ((pl0.map pdV).flatten) [] 114 by simp [ZM]]
 repeat' (first | refine zV ?_ | intro _)
 rename_i sb
 have hfo : FO D1 902 0 (fun _ => zHeld) := FO.zero hk1.ok g1.ro.alive g1.ro.empty (by omega) (fun i hi => himg1 _ (by omega) (by omega))
 have hl02 := Hp.le_trans hl1 hl2
 refine Zk [(1, _), (2, _), (3, _), (6, _), (8, _), (10, _), (48, _), (49, _)] (fun (ζ : (Nat) × (Hp) × (List RR) × (Value) × (List Value) × (Value) × (List Value)) => [(50, .int .i64 ζ.1)]) (fun (ζ : (Nat) × (Hp) × (List RR) × (Value) × (List Value) × (Value) × (List Value)) => ζ.2.1) (fun (ζ : (Nat) × (Hp) × (List RR) × (Value) × (List Value) × (Value) × (List Value)) => stdC sb db lb fb ζ.2.2.2.2.2.1 (.slice (some ⟨pb, 0, none⟩) 64 64) :: ZM ζ.2.2.2.2.2.1 (XO ζ.2.2.1) ζ.2.2.2.2.2.2 39 :: ZM (.slice (some ⟨pb, 0, none⟩) 64 64) ((pl0.map pdV).flatten) [] 114 :: [(xb, .cells ⟨[.slice xa xn xc, .slice xa2 xn2 xc2]⟩ 75 (0, 0))] :: ZY lb rb (mkS ζ.2.2.1) ζ.2.2.2.1 :: Yy (mkS ζ.2.2.1) ζ.2.2.2.1 ζ.2.2.2.2.1 :: (XA rb db ⟨ZG 450, [], 0, false⟩ w1 ++ Zl db k1 D1)) (fun (ζ : (Nat) × (Hp) × (List RR) × (Value) × (List Value) × (Value) × (List Value)) => ζ.1 ≤ xn ∧ ζ.2.2.1.length ≤ min ζ.1 12 ∧ ρ2.le ζ.2.1 ∧ LgIn ζ.2.1 (mkS ζ.2.2.1) ζ.2.2.2.1 ζ.2.2.2.2.1 ∧ MkOk ζ.2.2.1 ∧ OwnS ζ.2.2.2.2.2.1 ζ.2.2.1.length (XO ζ.2.2.1) ζ.2.2.2.2.2.2 10) (fun (ζ : (Nat) × (Hp) × (List RR) × (Value) × (List Value) × (Value) × (List Value)) => xn - ζ.1) ((0, ρ2, [], .slice none 0 0, [], .slice none 0 0, [])) (⟨Nat.zero_le _, Nat.zero_le _, Hp.le_refl _, newLg_in, MkOk.nil, OwnS.nil 10⟩) Zc Zc rfl tk ?_
 rintro ⟨i, ρ3, RS, v, sp, vr, sr⟩ hI
 try simp only [kA, List.append_assoc] at hI ⊢
 try dsimp only at hI ⊢
 obtain ⟨hi, hRl, hl3, hlg, hmk, hown⟩ := hI
 by_cases hlt : i < xn
 ·have hil : i < xl.length := by omega
  obtain ⟨b, off, C, T, fr, e1, hb, hfit, hc⟩ := (hA.mono (Hp.le_trans hl02 hl3)).get hil
  have hy := (hrw _ (List.getElem_mem hil)).mono (Hp.le_trans hl02 hl3)
  generalize xl[i] = y at *
  obtain ⟨yv, yr⟩ := y
  dsimp only at hy hc
  subst e1
  have hfw := few24_spec ρ3 yv yr hy
  have hN := fun ρ4 (h : LgIn ρ4 (mkS RS) v sp) => WO ρ4 lb rb (mkS RS) v sp h
  simp only [mkS_next] at hN
  have hnx := hlg.len
  by_cases h12 : 12 ≤ i
  all_goals
   repeat' (first | (refine Zb (.func 40) ?_; refine qC rfl rfl hfw ?_; rintro v4 ρ4 L4 hle4 ⟨hl4, rv, rr, rfl, hrin, -, rfl⟩; try simp only [kA]) | (refine Zb (.func 26) ?_; refine qR rfl rfl (hN _ (hlg.mono hl4)) ?_; try simp only [kA]) | refine zV ?_ | intro _)
   have hle4 := Hp.le_trans hl3 hl4
   have hlg4 := hlg.mono hl4
   obtain ⟨xr, hxr⟩ : ∃ xr : Rc, xr = { rr with lsn := 1 + RS.length } := ⟨_, rfl⟩
   have hxin : RcIn ρ4 rv xr := by rw [hxr]; exact ⟨hrin.i, hrin.im, hrin.s, hrin.t, hrin.d, hrin.sf⟩
   have hxv : [.int .i64 rr.kind, .int .u64 ((1 + RS.length : Nat) : Int), .int .i64 rr.txn, .int .u64 rr.prev, .int .u64 rr.next, .slice rv.i.a rv.i.n rv.i.c, .slice rv.s.a rv.s.n rv.s.c, .int .i64 rr.nextTxn, .slice rv.t.a rv.t.n rv.t.c, .slice rv.d.a rv.d.n rv.d.c] = YI rv xr := by rw [hxr]
   rw [hxv]
   clear hxv hrin
   have hri := right12_spec ρ4 rv xr hxin
  ·repeat' (first | refine zV ?_ | intro _)
   refine Zd (i + 1, ρ4, RS, v, sp, vr, sr) (⟨hlt, by dsimp only; omega, hle4, hlg4, hmk, hown⟩) Zc Zc rfl tk inferInstance (by first | omega | (dsimp only; omega))
  ·cases hok : ZT xr
   ·rw [hok] at hri
    repeat' (first | (refine Zb (.func 15) ?_; refine qR rfl rfl (hri) ?_; try simp only [kA]) | refine zV ?_ | intro _)
    refine Zd (i + 1, ρ4, RS, v, sp, vr, sr) (⟨hlt, by dsimp only; omega, hle4, hlg4, hmk, hown⟩) Zc Zc rfl tk inferInstance (by first | omega | (dsimp only; omega))
   ·rw [hok] at hri
    by_cases ha : appE (mkS RS) xr 0 = 0
    ·have hA1 := append16_yes ρ4 lb rb (mkS RS) v sp hlg4 (rv, xr) hxin 0 ha
     obtain ⟨va, vc, rfl, hvc⟩ := hown.slice
     repeat' (first | (refine Zb (.func 15) ?_; refine qR rfl rfl (hri) ?_; try simp only [kA]) | (refine Zb (.func 27) ?_; refine qC rfl rfl hA1 ?_; rintro v5 ρ5 L5 hle5 ⟨rfl, hl5, v6, sp6, hlg6, rfl⟩; try simp only [kA]) | refine zV ?_ | intro _)
     refine tc_phase 8 (Zo _ _ ([stdC sb db lb fb (.slice va RS.length vc) (.slice (some ⟨pb, 0, none⟩) 64 64), [(_, .cells ⟨YI rv xr⟩ 39 (0, 0))]])) (by decide +kernel) (Ve (hT := tk) (Hp.le_refl _)) ?_
     simp only [List.take_succ_cons, List.take_zero]
     all_goals (refine rMv 0 ?_; refine rMv 1 ?_; refine rNc 2 ?_; refine rFa 3 ?_; refine rLd 4 ?_; refine rLd 5 ?_)
     all_goals (refine rStep (i := 6) ?_; ((try refine Zn ?_); (first | (refine YH (css := [YI rv xr]) (sz := 10) rfl rfl rfl rfl (by simp) (by simp) rfl (fun bs => ?_); simp only [List.flatten_cons, List.flatten_nil, List.append_nil]) | (refine Yp ?_; try intro _)) <;> ((try simp only [kA]); refine Zi ?_; refine rNext ?_)))
     all_goals (refine rStep (i := 7) ?_; ((try refine Zn ?_); (first | (refine YH (css := [YI rv xr]) (sz := 10) rfl rfl rfl rfl (by simp) (by simp) rfl (fun bs => ?_); simp only [List.flatten_cons, List.flatten_nil, List.append_nil]) | (refine Ye (ys := YI rv xr) (m := 1) (sz := 10) rfl rfl hown (hR := by repeat (first | exact Zx | apply ZA)) SrcV.lit rfl rfl (by decide) rfl (by omega) (by omega) rfl (fun v' sp' hown' => ?_); obtain ⟨va2, vc2, rfl, hvc2⟩ := hown'.slice) | (refine Yp ?_; try intro _)) <;> ((try simp only [kA]); refine Zi ?_; refine rNext ?_)))
     all_goals refine rDone ?_
     all_goals refine te_phase (fuel := 3) (m := [true, true, true, true, true, true, true, true, false, false, false]) (Zo _ _ ([])) rfl rfl (Ve (hT := tk) (Hp.le_refl _)) ?_
     all_goals (refine rNc 8 ?_; refine rFa 9 ?_)
     all_goals (refine rStep (i := 10) ?_; ((try refine Zn ?_); (first | (refine Yp ?_; try intro _)) <;> ((try simp only [kA]); refine Zi ?_; refine rNext ?_)))
     all_goals refine rDone ?_
     all_goals (repeat' (first | refine zV ?_ | intro _))
     all_goals rw [show XO RS ++ YI rv xr = XO (RS ++ [(rv, xr)]) by rw [flatL_add]; simp [XO]] at hown' ⊢
     all_goals refine Zd (i + 1, ρ5, RS ++ [(rv, xr)], v6, sp6, .slice va2 (RS.length + 1) vc2, sp') (⟨hlt, by dsimp only; rw [List.length_append, List.length_singleton]; omega, Hp.le_trans hle4 hl5, hlg6, hmk.more (x := (rv, xr)) ha, by dsimp only; rw [List.length_append]; exact hown'⟩) Zc Zc rfl tk inferInstance (by first | omega | (dsimp only; omega))
    ·have hA1 := append16_no ρ4 lb rb (mkS RS) v sp hlg4 (rv, xr) hxin 0 ha
     have hne : (appE (mkS RS) xr 0 == 0) = false := by simpa using ha
     dsimp only at hA1
     generalize appE (mkS RS) xr 0 = E at *
     repeat' (first | (refine Zb (.func 15) ?_; refine qR rfl rfl (hri) ?_; try simp only [kA]) | (refine Zb (.func 27) ?_; refine qC rfl rfl hA1 ?_; rintro v5 ρ5 L5 hle5 ⟨rfl, hl5, rfl⟩; try simp only [kA]) | refine zV ?_ | intro _)
     refine Zd (i + 1, ρ5, RS, v, sp, vr, sr) (⟨hlt, by dsimp only; omega, Hp.le_trans hle4 hl5, hlg4.mono hl5, hmk, hown⟩) Zc Zc rfl tk inferInstance (by first | omega | (dsimp only; omega))
 ·obtain ⟨R2, D2, hfl, g2, len2, img2⟩ := hmk.flush g1
  have hRl2 := hmk.len
  have hl03 := Hp.le_trans hl02 hl3
  have hF := flush16_spec ρ3 lb rb db (mkS RS) v sp hlg w1 (hr1.mono (Hp.le_trans hl2 hl3)) k1 D1 hk1 ((mkS RS).next - 1) (by show 0 < _; omega)
  rw [hfl] at hF
  dsimp only at hF
  have hN := WO ρ3 lb rb (mkS RS) v sp hlg
  simp only [mkS_next] at hN hF
  have hsub : ((1 + RS.length : Nat) : Int) - 1 = ((1 + RS.length - 1 : Nat) : Int) := by omega
  have hfo2 : FO D2 902 0 (fun _ => zHeld) := hfo.frame g2.ro.dok g2.ro.alive g2.ro.empty len2 (fun i h1 h2 => img2 i (by omega))
  obtain ⟨S, hS⟩ : ∃ S, S = (mkS RS).at R2 RS.length := ⟨_, rfl⟩
  rw [← hS] at hF
  repeat' (first | (refine Zb (.func 26) ?_; refine qR rfl rfl (hN) ?_; try simp only [kA]) | (refine Zb (.func 29) ?_; simp only [hsub]; refine qC rfl rfl hF ?_; rintro v5 ρ5 L5 hle5 ⟨rfl, hl5, w3, k3, hr3, hk3, rfl⟩; try simp only [kA, List.append_assoc]) | refine zV ?_ | intro _)
  rw [show Yy (mkS RS) v sp = Yy S v sp by rw [hS]; rfl]
  have hlgS : LgIn ρ5 S v sp := by rw [hS]; exact (hlg.mono hl5).at R2 RS.length
  have hSn : S.next = 1 + RS.length := by rw [hS]; rfl
  have hl05 := Hp.le_trans hl03 hl5
  have hf5 := hf2.mono (Hp.le_trans hl3 hl5)
  refine Zk [(6, _), (8, _), (10, _), (89, _), (90, _)] (fun (ζ : (Nat) × (Hp) × (DK) × (DS) × (Nat) × (Nat → YB) × (List PgD)) => [(91, .int .i64 ζ.1), (2, .pointer none), (3, .bool false)]) (fun (ζ : (Nat) × (Hp) × (DK) × (DS) × (Nat) × (Nat → YB) × (List PgD)) => ζ.2.1) (fun (ζ : (Nat) × (Hp) × (DK) × (DS) × (Nat) × (Nat → YB) × (List PgD)) => stdC sb db lb fb vr (.slice (some ⟨pb, 0, none⟩) 64 64) :: ZM vr (XO RS) sr 39 :: ZM (.slice (some ⟨pb, 0, none⟩) 64 64) ((ζ.2.2.2.2.2.2.map pdV).flatten) [] 114 :: ZY lb rb S v :: Yy S v sp :: (XA rb db S.R w3 ++ Zl db ζ.2.2.1 ζ.2.2.2.1)) (fun (ζ : (Nat) × (Hp) × (DK) × (DS) × (Nat) × (Nat → YB) × (List PgD)) => ζ.1 ≤ xn2 ∧ ζ.2.2.2.2.1 ≤ min ζ.1 8 ∧ ρ5.le ζ.2.1 ∧ DOk ζ.2.2.1 ζ.2.2.2.1 ∧ FO ζ.2.2.2.1 902 ζ.2.2.2.2.1 ζ.2.2.2.2.2.1 ∧ ζ.2.2.2.1.Calm ∧ ζ.2.2.2.2.2.2.length = 64 ∧ (∀ y ∈ ζ.2.2.2.2.2.2, CIn ζ.2.1 y.w y.c.rows y.c.kids) ∧ (∀ q (h : q < ζ.2.2.2.2.2.2.length), ((ζ.2.2.2.2.2.2[q]).c, (ζ.2.2.2.2.2.2[q]).lsn) = ζ.2.2.2.2.2.1 q) ∧ (∀ q, Fit (ζ.2.2.2.2.2.1 q).1 ∧ (ζ.2.2.2.2.2.1 q).2 ≤ RS.length)) (fun (ζ : (Nat) × (Hp) × (DK) × (DS) × (Nat) × (Nat → YB) × (List PgD)) => xn2 - ζ.1) ((0, ρ5, k3, D2, 0, fun _ => zHeld, pl0)) (⟨Nat.zero_le _, Nat.zero_le _, Hp.le_refl _, hk3, hfo2, g2.calm, hz1, hz2 _, hz3, fun _ => ⟨zFit, Nat.zero_le _⟩⟩) Zc Zc rfl tk ?_
  rintro ⟨j, ρ6, kk, DD, t, held, pl⟩ hI
  try simp only [kA, List.append_assoc] at hI ⊢
  try dsimp only at hI ⊢
  obtain ⟨hj, htb, hl6, hkk, hfo6, hca6, hpl, hpc, hpe, hft⟩ := hI
  have hl06 := Hp.le_trans hl05 hl6
  by_cases hjt : j < xn2
  ·have hjl : j < xl2.length := by omega
   obtain ⟨b, off, C, T, fr, e1, hb, hfit, hc⟩ := (hA2.mono hl06).get hjl
   obtain ⟨hyn, hyl, hyc⟩ := (hpw _ (List.getElem_mem hjl)).mono hl06
   generalize xl2[j] = y at *
   obtain ⟨yn, yl, yw, yc⟩ := y
   dsimp only at hyn hyl hyc hc
   subst e1
   have hct := content24_spec ρ6 yw yc hyc.few
   have hrt := fun ρ7 w7 (h : CI ρ7 w7 (fewC yc)) => right_spec ρ7 w7 (fewC yc) h.cin (fun r hr => (h.row r hr).id) h.kid
   by_cases hgo : j < 8 ∧ 0 ≤ yn ∧ yn < 64
   ·obtain ⟨g8, g0, g64⟩ := hgo
    repeat' (first | (refine Zb (.func 117) ?_; refine qC rfl rfl hct ?_; rintro v7 ρ7 L7 hle7 ⟨hl7, w7, rfl, hC7, rfl⟩; have hci := fewC_fit hyc hC7; try simp only [kA]) | (refine Zb (.func 118) ?_; refine qR rfl rfl (hrt _ _ hci) ?_; try simp only [kA]) | refine zV ?_ | intro _)
    rename_i b14 b15
    have hl67 := Hp.le_trans hl6 hl7
    cases hck : ZC (fewC yc)
    ·rw [show (!false) = true from rfl]
     repeat' (first | refine zV ?_ | intro _)
     refine Zd (j + 1, ρ7, kk, DD, t, held, pl) (⟨hjt, by dsimp only; omega, hl67, hkk, hfo6, hca6, hpl, fun y hy => (hpc y hy).mono hl7, hpe, hft⟩) Zc Zc rfl tk inferInstance (by first | omega | (dsimp only; omega))
    ·rw [show (!true) = false from rfl]
     obtain ⟨num, rfl⟩ : ∃ num : Nat, yn = (num : Int) := ⟨yn.toNat, by omega⟩
     have hN7 := WO ρ7 lb rb S v sp (hlgS.mono hl67)
     rw [hSn] at hN7
     have htm : (yl : Int).tmod ((1 + RS.length : Nat) : Int) = ((yl % (1 + RS.length) : Nat) : Int) := (Int.ofNat_tmod _ _).symm
     have hlm : yl % (1 + RS.length) < 1 + RS.length := Nat.mod_lt _ (by omega)
     have hfit2 : Fit (fewC yc) := ⟨hck, ⟨hci.row, hci.kid⟩⟩
     have hRl7 := hmk.len
     obtain ⟨D8, e8, hfo8, hca8⟩ := fo_write (num := num) (lsn := yl % (1 + RS.length)) hfo6 hca6 (by omega) hfit2 (by unfold M64; omega) (by unfold M64; omega)
     have hW := Write_spec ρ7 fb db 902 num (yl % (1 + RS.length)) ((hf5.mono hl6).mono hl7) (by omega) (by omega) (by omega) (fewC yc) w7 hC7 hck (fun r hr => (hci.row r hr).id) hci.kid kk DD hkk
     rw [e8] at hW
     dsimp only at hW
     obtain ⟨q2, q3⟩ := pd_split pl num (by omega) ⟨w7, fewC yc, yl % (1 + RS.length)⟩
     have hPl : (((pl.take num).map pdV).flatten).length = 0 + num * 4 := by rw [Yn pdV 4 _ (fun x _ => rfl), List.length_take]; omega
     have q4 : ZM (.slice (some ⟨pb, 0, none⟩) 64 64) ((pl.map pdV).flatten) [] 114 = [(pb, .cells ⟨((pl.take num).map pdV).flatten ++ (pdV pl[num] ++ (((pl.drop (num + 1)).map pdV).flatten ++ []))⟩ 114 (0, 0))] := by
      rw [q2]
      show [(pb, Obj.cells ⟨_ ++ []⟩ 114 (0, 0))] = _
      simp only [List.append_assoc]
     have q5 : [(pb, Obj.cells ⟨((pl.take num).map pdV).flatten ++ (.int .i64 yc.kind :: .slice w7.ra w7.rn w7.rc :: .slice w7.ka w7.kn w7.kc :: .int .u64 ((yl % (1 + RS.length) : Nat) : Int) :: (((pl.drop (num + 1)).map pdV).flatten ++ []))⟩ 114 (0, 0))] = ZM (.slice (some ⟨pb, 0, none⟩) 64 64) (((pl.set num ⟨w7, fewC yc, yl % (1 + RS.length)⟩).map pdV).flatten) [] 114 := by
      rw [q3]
      show _ = [(pb, Obj.cells ⟨_ ++ []⟩ 114 (0, 0))]
      simp only [List.append_assoc]
      rfl
     rw [q4]
     repeat' (first | refine zV ?_ | intro _)
     refine tpA [0,1,2] (.e 3 [] (.f [4,5] .o)) ([[(b14, .cells ⟨[.int .i64 num, .int .u64 yl, .int .i64 yc.kind, .slice yw.ra yw.rn yw.rc, .slice yw.ka yw.kn yw.kc]⟩ 217 (0, 0))]]) ?_
     repeat' (refine iT ?_; first | refine rA ?_ | ((refine iE ?_; refine rE ?_) <;> ((try refine Zn ?_); (first | (refine Zb (.func 26) ?_; refine qR rfl rfl (hN7) ?_; try simp only [kA]) | (refine Yp ?_; try intro _)) <;> ((try simp only [kA]); refine Zi ?_; refine rN ?_))))
     rw [htm]
     repeat' (first | (refine Zb (.func 119) ?_; refine qC rfl rfl hW ?_; rintro v8 ρ8 L8 hle8 ⟨rfl, hl8, k8, hk8, rfl⟩; try simp only [kA, List.append_assoc]) | refine zV ?_ | intro _)
     refine tpA [0,1,2,3,4,5,6,7,8,9] (.e 10 [] .o) ([stdC sb db lb fb vr (.slice (some ⟨pb, 0, none⟩) 64 64), [(b14, .cells ⟨[.int .i64 num, .int .u64 yl, .int .i64 yc.kind, .slice yw.ra yw.rn yw.rc, .slice yw.ka yw.kn yw.kc]⟩ 217 (0, 0))], [(b15, .cells ⟨Xl yc.kind w7⟩ 112 (0, 0))]]) ?_
     repeat' (refine iT ?_; first | refine rAb ?_ | ((refine iE ?_; refine rE ?_) <;> ((try refine Zn ?_); (first | (refine tl_store_midA (P := ((pl.take num).map pdV).flatten) (l := pdV pl[num]) rfl rfl hPl rfl rfl rfl ?_) | (refine Yp ?_; try intro _)) <;> ((try simp only [kA]); refine Zi ?_; refine rN ?_))))
     repeat' (first | refine zV ?_ | intro _)
     rw [q5]
     have hmc' : ∀ y ∈ pl.set num ⟨w7, fewC yc, yl % (1 + RS.length)⟩, CIn ρ8 y.w y.c.rows y.c.kids := fun y hy => by
      rcases List.mem_or_eq_of_mem_set hy with hy | rfl
      ·exact (hpc y hy).mono (Hp.le_trans hl7 hl8)
      ·exact hC7.mono hl8
     have hme' : ∀ q (h : q < (pl.set num ⟨w7, fewC yc, yl % (1 + RS.length)⟩).length), (((pl.set num ⟨w7, fewC yc, yl % (1 + RS.length)⟩)[q]).c, ((pl.set num ⟨w7, fewC yc, yl % (1 + RS.length)⟩)[q]).lsn) = upd held num (fewC yc, yl % (1 + RS.length)) q := fun q hq => by
      rw [List.getElem_set]
      unfold upd
      split
      ·rename_i e; rw [if_pos e.symm]
      ·rename_i e; rw [if_neg (fun h => e h.symm)]; exact hpe q (by simpa using hq)
     have hft' : ∀ q, Fit (upd held num (fewC yc, yl % (1 + RS.length)) q).1 ∧ (upd held num (fewC yc, yl % (1 + RS.length)) q).2 ≤ RS.length := fun q => by
      unfold upd
      split
      ·exact ⟨hfit2, by dsimp only; omega⟩
      ·exact hft q
     refine Zd (j + 1, ρ8, k8, D8, t + 1, upd held num (fewC yc, yl % (1 + RS.length)), pl.set num ⟨w7, fewC yc, yl % (1 + RS.length)⟩) (⟨hjt, by dsimp only; omega, Hp.le_trans hl67 hl8, hk8, hfo8, hca8, by simpa using hpl, hmc', hme', hft'⟩) Zc Zc rfl tk inferInstance (by first | omega | (dsimp only; omega))
   ·rcases (show 8 ≤ j ∨ (j < 8 ∧ yn < 0) ∨ (j < 8 ∧ 0 ≤ yn ∧ 64 ≤ yn) by omega) with g | ⟨g, g1⟩ | ⟨g, g1, g3⟩
    all_goals (repeat' (first | (refine Zb (.func 117) ?_; refine qC rfl rfl hct ?_; rintro v7 ρ7 L7 hle7 ⟨hl7, w7, rfl, hC7, rfl⟩; try simp only [kA]) | refine zV ?_ | intro _))
    all_goals refine Zd (j + 1, ρ7, kk, DD, t, held, pl) (⟨hjt, by dsimp only; omega, Hp.le_trans hl6 hl7, hkk, hfo6, hca6, hpl, fun y hy => (hpc y hy).mono hl7, hpe, hft⟩) Zc Zc rfl tk inferInstance (by first | omega | (dsimp only; omega))
  ·have hown6 : OwnS (.slice (some ⟨pb, 0, none⟩) 64 64) 64 ((pl.map pdV).flatten) [] 4 := ⟨.inr ⟨pb, 64, rfl, by rw [Yn pdV 4 _ (fun x _ => rfl), hpl], by rw [Yn pdV 4 _ (fun x _ => rfl), hpl]; rfl, Nat.le_refl _⟩⟩
   repeat' (first | refine zV ?_ | intro _)
   refine Yw (ZM vr (XO RS) sr 39) (fun ρ7 hl7 hz7 => ?_)
   refine Yw (ZM (.slice (some ⟨pb, 0, none⟩) 64 64) ((pl.map pdV).flatten) [] 114) (fun ρ8 hl8 hz8 => ?_)
   obtain ⟨ra, rc, rfl, hrc, hRA⟩ := hown.aIn (g := rrV) (l := RS) rfl (fun _ _ => rfl) hz7
   obtain ⟨pa, pc, e9, hpcap, hPA⟩ := hown6.aIn hpl (fun _ _ => rfl) hz8
   cases e9
   have hl68 := Hp.le_trans hl7 hl8
   have hl58 := Hp.le_trans hl6 hl68
   have hrin3 := (hlgS.mono hl58).rin
   have hrecs : S.recs = RS := by rw [hS]; rfl
   rw [hrecs] at hrin3
   exact qE (L' := stdC sb db lb fb (.slice ra RS.length rc) (.slice (some ⟨pb, 0, none⟩) 64 64) :: ZY lb rb S v :: Yy S v sp :: (XA rb db S.R w3 ++ Zl db kk DD)) ⟨Hp.le_trans hl06 hl68, sb, db, lb, fb, rb, S, v, sp, w3, kk, DD, t, held, ra, rc, RS, some ⟨pb, 0, none⟩, 64, pl, rfl, ⟨hf5.mono hl58, hlgS.mono hl58, hr3.mono hl58, hkk, hfo6, hca6, by omega, hrecs, by rw [hS]; rfl, by rw [hS]; rfl, hmk, by omega, hrin3, hRA.mono hl8, hrc, ⟨hPA, hpcap, fun y hy => (hpc y hy).mono hl68, hpe⟩, fun q => (hft q).1, fun q => (hft q).2⟩, rfl⟩
end Go.Proofs.E
namespace Go.Proofs.E
open Go
set_option linter.unusedVariables false
set_option linter.unusedSimpArgs false
set_option linter.unusedSectionVars false
set_option maxRecDepth 4000
set_option maxHeartbeats 1000000
attribute [local irreducible] Yl TL TC TE Spec ZF R1 Hp.le EnvLe TS TR YS Zo TP QP
def pgZ : Pgs := fun _ => none
theorem mpZ {ρ : Hp} : MpIn ρ [] pgZ := ⟨(by intro e he; cases he), List.Pairwise.nil, fun _ => rfl, (by intro n g h; cases h)⟩
theorem Sees.zero (held : Nat → YB) : Sees held (vw pgZ) held := ⟨fun n _ => by unfold Xw vw pgZ; simp⟩
theorem MdI.pq {ρ ρ' : Hp} {fb db : Nat} {S : LgS} {v : Value} {sp : List Value} {w : RW} {k : DK} {D : DS} {t : Nat} {held : Nat → YB} {ra : Option Addr} {rc : Nat} {l : List RR} {pa : Option Addr} {pc : Nat} {pl : List PgD} (h : MdI ρ fb db S v sp w k D t held ra rc l pa pc pl) (hl : ρ.le ρ') {pb lb mb : Nat} (hp : PoIn ρ' pb fb lb mb) : PqI ρ' pb fb lb mb db t pgZ [] k D held held :=
 ⟨hp, h.fi.mono hl, mpZ, h.dk, h.fo, h.calm.lv, Sees.zero held⟩
theorem MdI.rcs {ρ ρ' : Hp} {fb db : Nat} {S : LgS} {v : Value} {sp : List Value} {w : RW} {k : DK} {D : DS} {t : Nat} {held : Nat → YB} {ra : Option Addr} {rc : Nat} {l : List RR} {pa : Option Addr} {pc : Nat} {pl : List PgD} (h : MdI ρ fb db S v sp w k D t held ra rc l pa pc pl) (hl : ρ.le ρ') : RcsIn ρ' S ra l.length rc l :=
 ⟨h.at'.mono hl, h.cap, by have := h.few; omega, fun x hx => (h.rin x hx).mono hl, h.mo.ok, recF_mem h.recs h.mo⟩
theorem all24Law_spec (ρ : Hp) (x : StA) (hx : StI ρ x) (a1 : Option Addr) (n1 c1 : Nat) (dl : List Ym) (h1 : AIn ρ 2 YQ a1 n1 dl) (hc1 : n1 ≤ c1) (hn1 : n1 ≤ 9223372036854775807) :
  Spec Tryz.prog 7 [.agg ⟨stA x⟩, .slice a1 n1 c1] ρ [] (fun z ρ' L' => z = .bool true ∧ ρ.le ρ' ∧ L' = []) := by
 have hl1 := h1.len
 obtain ⟨md, hmd⟩ : ∃ m, m = min n1 65 := ⟨_, rfl⟩
 have hdm : (min (n1 : Int) 65).toNat = md := by omega
 have hD := h1.take (hi' := md) (by omega)
 rw [take_some 65 _ _ _ hl1 hmd] at hD
 have hDl := hD.len
 generalize dl.take 65 = DD at *
 refine Za Tryz.func7 rfl rfl rfl fun u R => ?_
 simp only [Zg, kA]
 repeat' (first | (refine Zb (.func 37) ?_; refine qC rfl rfl (wakes24_spec _) ?_; rintro v ρ' L' hle ⟨rfl, hw1, rfl⟩ <;> (try simp only [kA])) | (refine Zb (.func 38) ?_; refine qC rfl rfl (made_spec _ x (hx.mono hw1)) ?_; rintro v1 ρ1 L1 hle1 ⟨hz1, sb, db, lb, fb, rb, S, v, sp, w, k, D, t, held, ra, rc, l, pa, pc, pl, rfl, hM, rfl⟩; try simp only [kA]) | (simp only [hdm]; refine Ye (n := 0) (xs := []) (sp := []) (ys := (DD.map YQ).flatten) (m := md) (sz := 2) rfl rfl (OwnS.zero _ 2) (hR := by repeat (first | exact Zx | apply ZA)) (AIn.srcV (hD.mono (Hp.le_trans hw1 hz1))) (by rw [Yn YQ 2 _ (fun x _ => rfl), hDl]) (flat_one YQ ckPV_one _) (by decide) rfl (by omega) (by omega) rfl (fun v2 sp2 hown2 => ?_); simp only [Nat.zero_add, List.nil_append] at hown2 ⊢; refine ZB _ (h := Rem.here) (fun ρ2 hz2 hfz2 => ?_); obtain ⟨da, dc, rfl, hdc, hDA⟩ := hown2.aIn hDl (fun x _ => ckPV_len x) hfz2; clear hfz2) | refine zV ?_ | intro _)
 have hdS : AS ρ2 2 YQ ⟨da, md, dc⟩ DD := ⟨hDA, by dsimp only; omega, hdc⟩
 refine tpA [0,1,2,3,4,5,6,7] (.e 8 [] (.f [9,10,11,12,13] .o)) ([stdC sb db lb fb (.slice ra l.length rc) (.slice pa 64 pc)]) ?_
 repeat' (refine iT ?_; first | refine rA ?_ | ((refine iE ?_; refine rE ?_) <;> ((try refine Zn ?_); (first | (refine Zb (.func 39) ?_; refine qC rfl rfl (new17_spec _ fb lb) ?_; rintro v3 ρ3 L3 hle3 ⟨hz3, pb, mb, rfl, hp3, rfl⟩; try simp only [kA]) | (refine Yp ?_; try intro _)) <;> ((try simp only [kA]); refine Zi ?_; refine rN ?_))))
 all_goals
  have hz23 := Hp.le_trans hz2 hz3
  have hl03 := Hp.le_trans hw1 (Hp.le_trans hz1 hz23)
  have hpq := hM.pq hz23 hp3
  have hrc := hM.rcs hz23
  have hd3 := hdS.mono hz3
  have hpg := hM.pg.mono hz23
  have hlg3 := hM.lg.mono hz23
  have hr22 := Vc ρ3 ⟨da, md, dc⟩ DD hd3
  rw [← tblOk_up] at hr22
  have hfw := hM.few
  clear hM
  cases ht : Xn DD
  ·rw [ht] at hr22
   have hB := all24_bad ρ3 pb ⟨da, md, dc⟩ DD hd3 ht ra l.length rc l hrc.at' hrc.rin
   by_cases hl0 : l.length = 0
   ·rw [if_pos hl0] at hB
    repeat' (first | (refine Zb (.func 57) ?_; refine qR rfl rfl (hB) ?_; try simp only [kA]) | (refine Zb (.func 42) ?_; refine qR rfl rfl (hr22) ?_; try simp only [kA]) | refine zV ?_ | intro _)
    exact qE (L' := []) ⟨rfl, hl03, rfl⟩
   ·rw [if_neg hl0] at hB
    repeat' (first | (refine Zb (.func 57) ?_; refine qR rfl rfl (hB) ?_; try simp only [kA]) | (refine Zb (.func 42) ?_; refine qR rfl rfl (hr22) ?_; try simp only [kA]) | refine zV ?_ | intro _)
    exact qE (L' := []) ⟨rfl, hl03, rfl⟩
  ·rw [ht] at hr22
   have hA := all24_spec ρ3 pb fb lb mb rb db t pgZ [] 0 k D held held hpq S v sp hlg3 ⟨da, md, dc⟩ DD hd3 ht ra l.length rc l hrc
   repeat' (first | (refine Zb (.func 57) ?_; refine qC rfl rfl hA ?_; rintro v4 ρ4 L4 hle4 ⟨rfl, hz4, es4, ck4, pg4, D4, hq4, hL4, rfl⟩; have hr4 := Vc ρ4 ⟨da, md, dc⟩ DD (hd3.mono hz4); rw [← tblOk_up, ht] at hr4; try simp only [kA]) | (refine Zb (.func 42) ?_; refine qR rfl rfl (hr4) ?_; try simp only [kA]) | refine zV ?_ | intro _)
   have hl04 := Hp.le_trans hl03 hz4
   have hll := hrc.at'.len
   refine Zk [(1, _), (4, _), (5, _), (7, _), (8, _), (9, _), (81, _), (82, _)] (fun (ζ : (Nat) × (Nat) × (Hp) × (Option Addr) × (Nat) × (List PgD)) => [(83, .int .i64 ζ.1), (10, .int .i64 ζ.2.1)]) (fun (ζ : (Nat) × (Nat) × (Hp) × (Option Addr) × (Nat) × (List PgD)) => ζ.2.2.1) (fun (ζ : (Nat) × (Nat) × (Hp) × (Option Addr) × (Nat) × (List PgD)) => stdC sb db lb fb (.slice ra l.length rc) (.slice ζ.2.2.2.1 64 ζ.2.2.2.2.1) :: Xa mb es4 ck4 :: Zl db k D4) (fun (ζ : (Nat) × (Nat) × (Hp) × (Option Addr) × (Nat) × (List PgD)) => ζ.1 ≤ l.length ∧ ζ.2.1 = allN DD held (l.take ζ.1) ∧ ζ.2.1 ≤ 16 * ζ.1 ∧ ρ4.le ζ.2.2.1 ∧ PgL ζ.2.2.1 ζ.2.2.2.1 ζ.2.2.2.2.1 ζ.2.2.2.2.2 (allP DD held (l.take ζ.1))) (fun (ζ : (Nat) × (Nat) × (Hp) × (Option Addr) × (Nat) × (List PgD)) => l.length - ζ.1) ((0, 0, ρ4, pa, pc, pl)) (⟨Nat.zero_le _, rfl, Nat.zero_le _, Hp.le_refl _, hpg.mono hz4⟩) Zc Zc rfl tk ?_
   rintro ⟨i, m, ρ5, pa5, pc5, pl5⟩ hI
   try simp only [kA, List.append_assoc] at hI ⊢
   try dsimp only at hI ⊢
   obtain ⟨hi, hm, hmb, hz5, hp5⟩ := hI
   have hz35 := Hp.le_trans hz4 hz5
   by_cases hlt : i < l.length
   ·obtain ⟨b, off, C, T, fr, e1, hb, hfit, hc⟩ := (hrc.at'.mono hz35).get hlt
    have hxr := (hrc.rin _ (List.getElem_mem hlt)).mono hz35
    have hok := hrc.ok _ (List.getElem_mem hlt)
    have htk := List.take_succ_eq_append_getElem hlt
    generalize l[i] = y at *
    obtain ⟨yv, yr⟩ := y
    dsimp only at hxr hok hc
    have hN := allN_snoc DD held (l.take i) (yv, yr)
    have hP := allP_snoc DD held (l.take i) (yv, yr)
    rw [← htk] at hN hP
    dsimp only at hN hP
    have hlen := redoS_len (allP DD held (l.take i)) DD hok
    have hw0 : WJ DD yr = 0 := by unfold WJ; rw [ht, hok]; rfl
    have hst := refstep_spec ρ5 pa5 pc5 pl5 (allP DD held (l.take i)) hp5 ⟨da, md, dc⟩ DD (hd3.mono hz35) yv yr hxr hw0
    generalize (Yu (allP DD held (l.take i)) DD yr).length = q at *
    rw [e1]
    repeat' (first | refine zV ?_ | intro _)
    refine tpA [0,1,2,3,4,5] (.e 6 [] (.f [7,8,9,10,11] .o)) ([stdC sb db lb fb (.slice (some ⟨b, off, none⟩) l.length rc) (.slice pa5 64 pc5), [(_, .cells ⟨YI yv yr⟩ 39 (0, 0))]]) ?_
    repeat' (refine iT ?_; first | refine rA ?_ | ((refine iE ?_; refine rE ?_) <;> ((try refine Zn ?_); (first | (refine Zb (.func 43) ?_; refine qC rfl rfl hst ?_; rintro v6 ρ6 L6 hle6 ⟨hz6, pa6, pc6, pl6, rfl, hp6, rfl⟩; try simp only [kA]) | (refine Yp ?_; try intro _)) <;> ((try simp only [kA]); refine Zi ?_; refine rN ?_))))
    all_goals (repeat' (first | refine zV ?_ | intro _))
    all_goals rw [← e1]
    all_goals rw [← hP] at hp6
    all_goals refine Zd (i + 1, m + q, ρ6, pa6, pc6, pl6) (⟨hlt, by dsimp only; omega, by dsimp only; omega, Hp.le_trans hz5 hz6, hp6⟩) Zc Zc rfl tk inferInstance (by first | omega | (dsimp only; omega))
   ·have hin : i = l.length := by omega
    rw [hin, List.take_length] at hm hp5
    have hH := holds24_spec ρ5 pb fb lb mb db t pg4 es4 ck4 k D4 held (allP DD held l) (hq4.mono hz5) pa5 pc5 pl5 hp5
    have hNl := all24_nil ρ5 ⟨da, md, dc⟩ ra l.length rc
    subst hm
    repeat' (first | (refine Zb (.func 57) ?_; refine qR rfl rfl (hNl) ?_; try simp only [kA]) | (refine Zb (.func 45) ?_; refine qC rfl rfl hH ?_; rintro v6 ρ6 L6 hle6 ⟨rfl, hz6, es6, ck6, pg6, D6, hq6, hL6, rfl⟩; try simp only [kA]) | refine zV ?_ | intro _)
    have hfin := Hp.le_trans hl04 (Hp.le_trans hz5 hz6)
    exact qE (L' := []) ⟨rfl, hfin, rfl⟩
end Go.Proofs.E
namespace Go.Proofs.E
open Go Go.RowKit
set_option linter.unusedVariables false
set_option linter.unusedSimpArgs false
set_option linter.unusedSectionVars false
set_option maxRecDepth 8000
theorem rsw_flat {α : Type} {sz : Nat} {g : α → List Value} {C : List Value} {off : Nat} : ∀ (l : List α) (k : Nat), k ≤ l.length → (∀ i (h : i < l.length), (C.drop (off + i * sz)).take sz = g l[i]) → (C.drop off).take (k * sz) = ((l.take k).map g).flatten
 | l, 0, _, _ => by simp
 | l, k + 1, hk, h => by
  have ih := rsw_flat l k (by omega) h
  rw [show l.take (k + 1) = l.take k ++ [l[k]'(by omega)] from List.take_succ_eq_append_getElem (by omega), Nat.add_mul, Nat.one_mul, List.take_add, ih, List.drop_drop, h k (by omega)]
  simp only [List.map_append, List.flatten_append, List.map_cons, List.map_nil, List.flatten_cons, List.flatten_nil, List.append_nil]
theorem WD {ρ : Hp} {α : Type} {sz : Nat} {g : α → List Value} {P : α → Prop} {cs : List Value} {s : Option Addr × Nat × Nat × List α} (hg : ∀ x, (g x).length = sz) (h : RS ρ sz (fun cs x => cs = g x ∧ P x) cs s) : AIn ρ sz g s.1 s.2.1 s.2.2.2 ∧ (∀ x ∈ s.2.2.2, P x) ∧ s.2.1 ≤ s.2.2.1 ∧ s.2.1 ≤ 9223372036854775807 := by
 obtain ⟨a, n, c, ks⟩ := s
 obtain ⟨h1, h2, h3, h4, h5⟩ := h
 dsimp only at h1 h2 h3 h4 h5 ⊢
 refine ⟨⟨h4, ?_, fun x _ => hg x⟩, fun x hx => ?_, h2, by omega⟩
 ·by_cases h0 : n = 0
  ·exact .inl h0
  ·right
   obtain ⟨b, off, C, T, fr, e1, e2, e3, e4⟩ := h5 0 (by omega)
   have same : ∀ i (h : i < ks.length), off + i * sz + sz ≤ C.length ∧ (C.drop (off + i * sz)).take sz = g ks[i] := fun i hi => by
    obtain ⟨b', off', C', T', fr', f1, f2, f3, f4⟩ := h5 i hi
    rw [e1] at f1
    cases f1
    rw [e2] at f2
    cases f2
    exact ⟨f3, f4.1⟩
   refine ⟨b, off, C, T, fr, e1, e2, ?_, ?_⟩
   ·have := (same (n - 1) (by omega)).1
    have e : n * sz = (n - 1) * sz + sz := by
     obtain ⟨m, rfl⟩ : ∃ m, n = m + 1 := ⟨n - 1, by omega⟩
     rw [Nat.add_mul]; simp
    omega
   ·have := rsw_flat (sz := sz) (g := g) ks n (by omega) (fun i hi => (same i hi).2)
    rw [this, List.take_of_length_le (by omega)]
 ·obtain ⟨i, hi, rfl⟩ := List.mem_iff_getElem.1 hx
  obtain ⟨_, _, _, _, _, _, _, _, f⟩ := h5 i hi
  exact f.2
section
variable {H : Type} {enc : TypeId × Value → H} {w : World}
theorem opnS_str : OpnS enc Tryz.prog w 9 (fun cs (l : List UInt8) => cs = [strV l]) := Opn.sized (fun fuel cs x h => by
 obtain ⟨s, rfl, _, _⟩ := DataW.trod_string Tryz.underlying9 h
 obtain ⟨⟨l⟩⟩ := s
 exact ⟨l, rfl⟩)
theorem opnS_key : OpnS enc Tryz.prog w 169 (fun cs (k : Int × Nat) => cs = keyV k.1 k.2 ∧ k.2 < 65536) := Opn.sized (fun fuel cs x h => by
 obtain ⟨hl, hf⟩ := opn_fields Tryz.underlying169 h
 have hl : cs.length = 2 := by rw [hl]; kernel_rfl
 obtain ⟨c0, c1, rfl⟩ : ∃ c0 c1, cs = [c0, c1] := by
  match cs, hl with
  | [c0, c1], _ => exact ⟨c0, c1, rfl⟩
 obtain ⟨t, h0, _⟩ := opn_field h Tryz.underlying169 0 0 1 rfl rfl rfl (by kernel_rfl) (YV Tryz.underlying3)
 obtain ⟨i, h1, i0, i1⟩ := opn_field h Tryz.underlying169 1 1 1 rfl rfl rfl (by kernel_rfl) (YV Tryz.underlying167)
 simp only [List.drop_zero, List.drop_succ_cons, List.take_succ_cons, List.take_zero, List.cons.injEq, and_true] at h0 h1
 subst h0; subst h1
 simp only [lo, hi] at i0 i1
 refine ⟨(t, i.toNat), ?_, by dsimp only; omega⟩
 have : ((i.toNat : Nat) : Int) = i := by omega
 simp only [keyV, this])
theorem opnS_row : OpnS enc Tryz.prog w 171 (fun cs (r : Row) => cs = Yv r ∧ WS r) := fun fuel cs x h hw => by
 obtain ⟨hl, hf⟩ := Xm Tryz.underlying171 h hw
 have hl : cs.length = 4 := by rw [hl]; kernel_rfl
 obtain ⟨c0, c1, c2, c3, rfl⟩ : ∃ c0 c1 c2 c3, cs = [c0, c1, c2, c3] := by
  match cs, hl with
  | [c0, c1, c2, c3], _ => exact ⟨c0, c1, c2, c3, rfl⟩
 obtain ⟨⟨t, i⟩, h0, hi0⟩ := Zy h hw Tryz.underlying171 0 0 2 rfl rfl rfl (by kernel_rfl) opnS_key
 obtain ⟨v, h1, v0, v1⟩ := Zy h hw Tryz.underlying171 1 2 1 rfl rfl rfl (by kernel_rfl) (YV Tryz.underlying2).sized
 obtain ⟨s, h2⟩ := Zy h hw Tryz.underlying171 2 3 1 rfl rfl rfl (by kernel_rfl) opnS_str
 simp only [List.drop_zero, List.drop_succ_cons, List.take_succ_cons, List.take_zero, List.cons.injEq, and_true, keyV] at h0 h1 h2
 obtain ⟨rfl, rfl⟩ := h0
 subst h1; subst h2
 simp only [lo, hi] at v0 v1
 exact ⟨⟨t, i, v, s⟩, rfl, ⟨hi0, v0, v1⟩⟩
theorem opnS_kid : OpnS enc Tryz.prog w 238 (fun cs (k : Kid) => cs = Xi k ∧ k.id < 65536) := fun fuel cs x h hw => by
 obtain ⟨hl, hf⟩ := Xm Tryz.underlying238 h hw
 have hl : cs.length = 3 := by rw [hl]; kernel_rfl
 obtain ⟨c0, c1, c2, rfl⟩ : ∃ c0 c1 c2, cs = [c0, c1, c2] := by
  match cs, hl with
  | [c0, c1, c2], _ => exact ⟨c0, c1, c2, rfl⟩
 obtain ⟨⟨t, i⟩, h0, hi0⟩ := Zy h hw Tryz.underlying238 0 0 2 rfl rfl rfl (by kernel_rfl) opnS_key
 obtain ⟨v, h1, _⟩ := Zy h hw Tryz.underlying238 1 2 1 rfl rfl rfl (by kernel_rfl) (YV Tryz.underlying3).sized
 simp only [List.drop_zero, List.drop_succ_cons, List.take_succ_cons, List.take_zero, List.cons.injEq, and_true, keyV] at h0 h1
 obtain ⟨rfl, rfl⟩ := h0
 subst h1
 exact ⟨⟨t, i, v⟩, rfl, hi0⟩
theorem opnS_cont : OpnS enc Tryz.prog w 112 (fun cs (x : CV × Yh) => cs = Xl x.2.kind x.1 ∧ CW (hpOf w) x.1 x.2) := fun fuel cs x h hw => by
 obtain ⟨hl, hf⟩ := Xm Tryz.underlying112 h hw
 have hl : cs.length = 3 := by rw [hl]; kernel_rfl
 obtain ⟨c0, c1, c2, rfl⟩ : ∃ c0 c1 c2, cs = [c0, c1, c2] := by
  match cs, hl with
  | [c0, c1, c2], _ => exact ⟨c0, c1, c2, rfl⟩
 obtain ⟨k, h0, _⟩ := Zy h hw Tryz.underlying112 0 0 1 rfl rfl rfl (by kernel_rfl) (YV Tryz.underlying3).sized
 obtain ⟨⟨ra, rn, rc, rows⟩, h1, w1⟩ := Zy h hw Tryz.underlying112 1 1 1 rfl rfl rfl (by kernel_rfl) (Xs (sz := 4) (by' := 40) Tryz.underlying109 (by kernel_rfl) (by decide) (by kernel_rfl) opnS_row)
 obtain ⟨⟨ka, kn, kc, kids⟩, h2, w2⟩ := Zy h hw Tryz.underlying112 2 2 1 rfl rfl rfl (by kernel_rfl) (Xs (sz := 3) (by' := 24) Tryz.underlying110 (by kernel_rfl) (by decide) (by kernel_rfl) opnS_kid)
 obtain ⟨g1, g2, g3, _⟩ := WD rowV_len h1
 obtain ⟨k1, k2, k3, _⟩ := WD kidV_len h2
 simp only [reachBytes] at w1 w2
 replace h1 := h1.cells
 replace h2 := h2.cells
 simp only [List.drop_zero, List.drop_succ_cons, List.take_succ_cons, List.take_zero, List.cons.injEq, and_true] at h0 h1 h2
 subst h0; subst h1; subst h2
 exact ⟨(⟨ra, rn, rc, ka, kn, kc⟩, ⟨k, rows, kids⟩), rfl, ⟨g1, k1, by dsimp only; omega, by dsimp only; omega, g3, k3, g2, k2⟩⟩
theorem opnS_image : OpnS enc Tryz.prog w 165 (fun cs (x : Im) => cs = imV x ∧ (CW (hpOf w) x.bv x.b ∧ CW (hpOf w) x.av x.a)) := fun fuel cs x h hw => by
 obtain ⟨hl, hf⟩ := Xm Tryz.underlying165 h hw
 have hl : cs.length = 7 := by rw [hl]; kernel_rfl
 obtain ⟨c0, c1, c2, c3, c4, c5, c6, rfl⟩ : ∃ c0 c1 c2 c3 c4 c5 c6, cs = [c0, c1, c2, c3, c4, c5, c6] := by
  match cs, hl with
  | [c0, c1, c2, c3, c4, c5, c6], _ => exact ⟨c0, c1, c2, c3, c4, c5, c6, rfl⟩
 obtain ⟨k, h0, _⟩ := Zy h hw Tryz.underlying165 0 0 1 rfl rfl rfl (by kernel_rfl) (YV Tryz.underlying3).sized
 obtain ⟨⟨bv, b⟩, h1, w1⟩ := Zy h hw Tryz.underlying165 1 1 3 rfl rfl rfl (by kernel_rfl) opnS_cont
 obtain ⟨⟨av, a⟩, h2, w2⟩ := Zy h hw Tryz.underlying165 2 4 3 rfl rfl rfl (by kernel_rfl) opnS_cont
 simp only [List.drop_zero, List.drop_succ_cons, List.take_succ_cons, List.take_zero, List.cons.injEq, and_true, Xl] at h0 h1 h2
 obtain ⟨rfl, rfl, rfl⟩ := h1
 obtain ⟨rfl, rfl, rfl⟩ := h2
 subst h0
 exact ⟨⟨k, bv, b, av, a⟩, rfl, w1, w2⟩
theorem opnS_step : OpnS enc Tryz.prog w 173 (fun cs (x : Stp) => cs = stpV x ∧ WS x.row) := fun fuel cs x h hw => by
 obtain ⟨hl, hf⟩ := Xm Tryz.underlying173 h hw
 have hl : cs.length = 6 := by rw [hl]; kernel_rfl
 obtain ⟨c0, c1, c2, c3, c4, c5, rfl⟩ : ∃ c0 c1 c2 c3 c4 c5, cs = [c0, c1, c2, c3, c4, c5] := by
  match cs, hl with
  | [c0, c1, c2, c3, c4, c5], _ => exact ⟨c0, c1, c2, c3, c4, c5, rfl⟩
 obtain ⟨k, h0, _⟩ := Zy h hw Tryz.underlying173 0 0 1 rfl rfl rfl (by kernel_rfl) (YV Tryz.underlying3).sized
 obtain ⟨r, h1, w1⟩ := Zy h hw Tryz.underlying173 1 1 4 rfl rfl rfl (by kernel_rfl) opnS_row
 obtain ⟨b, h2, _⟩ := Zy h hw Tryz.underlying173 2 5 1 rfl rfl rfl (by kernel_rfl) (YV Tryz.underlying2).sized
 simp only [List.drop_zero, List.drop_succ_cons, List.take_succ_cons, List.take_zero, List.cons.injEq, and_true, Yv] at h0 h1 h2
 obtain ⟨rfl, rfl, rfl, rfl⟩ := h1
 subst h0; subst h2
 exact ⟨⟨k, r, b⟩, rfl, w1⟩
theorem u64_back {i : Int} (h : lo .u64 ≤ i) : ((i.toNat : Nat) : Int) = i := by simp only [lo] at h; omega
theorem opnS_ckt : OpnS enc Tryz.prog w 187 (fun cs (x : CkT) => cs = ckTV x ∧ True) := fun fuel cs x h hw => by
 obtain ⟨hl, hf⟩ := Xm Tryz.underlying187 h hw
 have hl : cs.length = 5 := by rw [hl]; kernel_rfl
 obtain ⟨c0, c1, c2, c3, c4, rfl⟩ : ∃ c0 c1 c2 c3 c4, cs = [c0, c1, c2, c3, c4] := by
  match cs, hl with
  | [c0, c1, c2, c3, c4], _ => exact ⟨c0, c1, c2, c3, c4, rfl⟩
 obtain ⟨k, h0, _⟩ := Zy h hw Tryz.underlying187 0 0 1 rfl rfl rfl (by kernel_rfl) (YV Tryz.underlying3).sized
 obtain ⟨f, h1, f0, f1⟩ := Zy h hw Tryz.underlying187 1 1 1 rfl rfl rfl (by kernel_rfl) (YV Tryz.underlying33).sized
 obtain ⟨l, h2, l0, l1⟩ := Zy h hw Tryz.underlying187 2 2 1 rfl rfl rfl (by kernel_rfl) (YV Tryz.underlying33).sized
 obtain ⟨u, h3, u0, u1⟩ := Zy h hw Tryz.underlying187 3 3 1 rfl rfl rfl (by kernel_rfl) (YV Tryz.underlying33).sized
 obtain ⟨s, h4, _⟩ := Zy h hw Tryz.underlying187 4 4 1 rfl rfl rfl (by kernel_rfl) (YV Tryz.underlying3).sized
 simp only [List.drop_zero, List.drop_succ_cons, List.take_succ_cons, List.take_zero, List.cons.injEq, and_true] at h0 h1 h2 h3 h4
 subst h0; subst h1; subst h2; subst h3; subst h4
 refine ⟨⟨k, f.toNat, l.toNat, u.toNat, s⟩, ?_, trivial⟩
 simp only [ckTV, u64_back f0, u64_back l0, u64_back u0]
theorem opnS_ckp : OpnS enc Tryz.prog w 108 (fun cs (x : Ym) => cs = YQ x ∧ True) := fun fuel cs x h hw => by
 obtain ⟨hl, hf⟩ := Xm Tryz.underlying108 h hw
 have hl : cs.length = 2 := by rw [hl]; kernel_rfl
 obtain ⟨c0, c1, rfl⟩ : ∃ c0 c1, cs = [c0, c1] := by
  match cs, hl with
  | [c0, c1], _ => exact ⟨c0, c1, rfl⟩
 obtain ⟨k, h0, _⟩ := Zy h hw Tryz.underlying108 0 0 1 rfl rfl rfl (by kernel_rfl) (YV Tryz.underlying3).sized
 obtain ⟨f, h1, f0, f1⟩ := Zy h hw Tryz.underlying108 1 1 1 rfl rfl rfl (by kernel_rfl) (YV Tryz.underlying33).sized
 simp only [List.drop_zero, List.drop_succ_cons, List.take_succ_cons, List.take_zero, List.cons.injEq, and_true] at h0 h1
 subst h0; subst h1
 refine ⟨⟨k, f.toNat⟩, ?_, trivial⟩
 simp only [YQ, u64_back f0]
theorem opnS_rec : OpnS enc Tryz.prog w 39 (fun cs (x : RV × Rc) => cs = YI x.1 x.2 ∧ RcW (hpOf w) x.1 x.2) := fun fuel cs x h hw => by
 obtain ⟨hl, hf⟩ := Xm Tryz.underlying39 h hw
 have hl : cs.length = 10 := by rw [hl]; kernel_rfl
 obtain ⟨c0, c1, c2, c3, c4, c5, c6, c7, c8, c9, rfl⟩ : ∃ c0 c1 c2 c3 c4 c5 c6 c7 c8 c9, cs = [c0, c1, c2, c3, c4, c5, c6, c7, c8, c9] := by
  match cs, hl with
  | [c0, c1, c2, c3, c4, c5, c6, c7, c8, c9], _ => exact ⟨c0, c1, c2, c3, c4, c5, c6, c7, c8, c9, rfl⟩
 obtain ⟨k, h0, _⟩ := Zy h hw Tryz.underlying39 0 0 1 rfl rfl rfl (by kernel_rfl) (YV Tryz.underlying3).sized
 obtain ⟨l, h1, l0, _⟩ := Zy h hw Tryz.underlying39 1 1 1 rfl rfl rfl (by kernel_rfl) (YV Tryz.underlying33).sized
 obtain ⟨t, h2, _⟩ := Zy h hw Tryz.underlying39 2 2 1 rfl rfl rfl (by kernel_rfl) (YV Tryz.underlying3).sized
 obtain ⟨p, h3, p0, _⟩ := Zy h hw Tryz.underlying39 3 3 1 rfl rfl rfl (by kernel_rfl) (YV Tryz.underlying33).sized
 obtain ⟨n, h4, n0, _⟩ := Zy h hw Tryz.underlying39 4 4 1 rfl rfl rfl (by kernel_rfl) (YV Tryz.underlying33).sized
 obtain ⟨⟨ia, inn, ic, ims⟩, h5, w5⟩ := Zy h hw Tryz.underlying39 5 5 1 rfl rfl rfl (by kernel_rfl) (Xs (sz := 7) (by' := 120) Tryz.underlying34 (by kernel_rfl) (by decide) (by kernel_rfl) opnS_image)
 obtain ⟨⟨sa, sn, sc, steps⟩, h6, w6⟩ := Zy h hw Tryz.underlying39 6 6 1 rfl rfl rfl (by kernel_rfl) (Xs (sz := 6) (by' := 56) Tryz.underlying35 (by kernel_rfl) (by decide) (by kernel_rfl) opnS_step)
 obtain ⟨x7, h7, _⟩ := Zy h hw Tryz.underlying39 7 7 1 rfl rfl rfl (by kernel_rfl) (YV Tryz.underlying3).sized
 obtain ⟨⟨ta, tn, tc, txns⟩, h8, w8⟩ := Zy h hw Tryz.underlying39 8 8 1 rfl rfl rfl (by kernel_rfl) (Xs (sz := 5) (by' := 40) Tryz.underlying36 (by kernel_rfl) (by decide) (by kernel_rfl) opnS_ckt)
 obtain ⟨⟨da, dn, dc, dirty⟩, h9, w9⟩ := Zy h hw Tryz.underlying39 9 9 1 rfl rfl rfl (by kernel_rfl) (Xs (sz := 2) (by' := 16) Tryz.underlying37 (by kernel_rfl) (by decide) (by kernel_rfl) opnS_ckp)
 obtain ⟨i1, i2, i3, _⟩ := WD imV_len h5
 obtain ⟨s1, s2, s3, _⟩ := WD stpV_len h6
 obtain ⟨t1, t2, t3, _⟩ := WD ckTV_len h8
 obtain ⟨d1, d2, d3, _⟩ := WD ckPV_len h9
 simp only [reachBytes] at w5 w6 w8 w9
 replace h5 := h5.cells
 replace h6 := h6.cells
 replace h8 := h8.cells
 replace h9 := h9.cells
 simp only [List.drop_zero, List.drop_succ_cons, List.take_succ_cons, List.take_zero, List.cons.injEq, and_true] at h0 h1 h2 h3 h4 h5 h6 h7 h8 h9
 subst h0; subst h1; subst h2; subst h3; subst h4; subst h5; subst h6; subst h7; subst h8; subst h9
 refine ⟨(⟨⟨ia, inn, ic⟩, ⟨sa, sn, sc⟩, ⟨ta, tn, tc⟩, ⟨da, dn, dc⟩⟩, ⟨k, l.toNat, t, p.toNat, n.toNat, ims, steps, x7, txns, dirty⟩), ?_, ⟨⟨i1, by dsimp only; omega, i3⟩, i2, ⟨s1, by dsimp only; omega, s3⟩, ⟨t1, by dsimp only; omega, t3⟩, ⟨d1, by dsimp only; omega, d3⟩, s2⟩⟩
 simp only [YI, u64_back l0, u64_back p0, u64_back n0]
end
section
variable {H : Type} {enc : TypeId × Value → H} {w : World}
theorem opnS_page24 : OpnS enc Tryz.prog w 217 (fun cs (x : PgA) => cs = paV x ∧ PaI (hpOf w) x) := fun fuel cs x h hw => by
 obtain ⟨hl, hf⟩ := Xm Tryz.underlying217 h hw
 have hl : cs.length = 5 := by rw [hl]; kernel_rfl
 obtain ⟨c0, c1, c2, c3, c4, rfl⟩ : ∃ c0 c1 c2 c3 c4, cs = [c0, c1, c2, c3, c4] := by
  match cs, hl with
  | [c0, c1, c2, c3, c4], _ => exact ⟨c0, c1, c2, c3, c4, rfl⟩
 obtain ⟨p, h0, p0, p1⟩ := Zy h hw Tryz.underlying217 0 0 1 rfl rfl rfl (by kernel_rfl) (YV Tryz.underlying3).sized
 obtain ⟨l, h1, l0, l1⟩ := Zy h hw Tryz.underlying217 1 1 1 rfl rfl rfl (by kernel_rfl) (YV Tryz.underlying33).sized
 obtain ⟨⟨bv, b⟩, h2, w2⟩ := Zy h hw Tryz.underlying217 2 2 3 rfl rfl rfl (by kernel_rfl) opnS_cont
 simp only [List.drop_zero, List.drop_succ_cons, List.take_succ_cons, List.take_zero, List.cons.injEq, and_true, Xl] at h0 h1 h2
 obtain ⟨g0, g1, g2⟩ := h2
 have l2 := l0
 have l3 := l1
 simp only [lo, hi] at p0 p1 l2 l3
 subst h0; subst h1; subst g0; subst g1; subst g2
 refine ⟨⟨p, l.toNat, bv, b⟩, ?_, ⟨⟨p0, p1⟩, by dsimp only; omega, w2⟩⟩
 simp only [paV, u64_back l0]
theorem opnS_start24 : OpnS enc Tryz.prog w 75 (fun cs (x : StA) => cs = stA x ∧ StI (hpOf w) x) := fun fuel cs x h hw => by
 obtain ⟨hl, hf⟩ := Xm Tryz.underlying75 h hw
 have hl : cs.length = 2 := by rw [hl]; kernel_rfl
 obtain ⟨c0, c1, rfl⟩ : ∃ c0 c1, cs = [c0, c1] := by
  match cs, hl with
  | [c0, c1], _ => exact ⟨c0, c1, rfl⟩
 obtain ⟨⟨ra, rn, rc, rl⟩, h0, _⟩ := Zy h hw Tryz.underlying75 0 0 1 rfl rfl rfl (by kernel_rfl) (Xs (sz := 10) (by' := 144) Tryz.underlying23 (by kernel_rfl) (by decide) (by kernel_rfl) opnS_rec)
 obtain ⟨⟨pa, pn, pc, pl⟩, h1, _⟩ := Zy h hw Tryz.underlying75 1 1 1 rfl rfl rfl (by kernel_rfl) (Xs (sz := 5) (by' := 72) Tryz.underlying73 (by kernel_rfl) (by decide) (by kernel_rfl) opnS_page24)
 obtain ⟨i1, i2, i3, i4⟩ := WD (g := rrV) (fun _ => rfl) h0
 obtain ⟨s1, s2, s3, s4⟩ := WD (g := paV) (fun _ => rfl) h1
 replace h0 := h0.cells
 replace h1 := h1.cells
 simp only [List.drop_zero, List.drop_succ_cons, List.take_succ_cons, List.take_zero, List.cons.injEq, and_true] at h0 h1
 subst h0; subst h1
 exact ⟨⟨ra, rn, rc, rl, pa, pn, pc, pl⟩, rfl, ⟨i1, i4, i2, s1, s4, s2⟩⟩
end
end Go.Proofs.E
