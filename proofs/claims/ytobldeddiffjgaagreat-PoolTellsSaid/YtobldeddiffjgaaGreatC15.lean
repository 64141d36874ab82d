/- The law PoolTells. Part 15 of 20. -/
import Derived.Test.YtobldeddiffjgaaGreatC14
namespace Go.Proofs.E
open Go
set_option linter.unusedVariables false
set_option linter.unusedSimpArgs false
set_option linter.unusedSectionVars false
set_option maxRecDepth 4000
set_option maxHeartbeats 1000000
attribute [local irreducible] Yl TL TC TE Spec XU R1 Hp.le EnvLe TS TR YS Zr
theorem FO.mono {D : DS} {base t t' : Nat} {held : Nat → Xc} (h : FO D base t held) (ht : t ≤ t') : FO D base t' held :=
 ⟨h.dok, h.alive, h.empty, h.len, fun num j h1 h2 => (h.sec num j h1 h2).mono ht, h.held⟩
theorem csD_most {D : DS} {base t : Nat} {held : Nat → Xc} (h : FO D base t held) {num : Nat} (hn : num < 64) (ht : t < M64) : (csD D base num).most ≤ t ∧ (csD D base num).other < 2 ∧ ∀ j, j < 4 → XA (pg D base num j) ≤ (csD D base num).most := by
 obtain ⟨_, e2, e3⟩ := cs2_eq num (pg D base num 0) (pg D base num 1) (pg D base num 2) (pg D base num 3)
 have s0 := (h.sec num 0 hn (by omega)).stamp (by omega) hn ht
 have s1 := (h.sec num 1 hn (by omega)).stamp (by omega) hn ht
 have s2 := (h.sec num 2 hn (by omega)).stamp (by omega) hn ht
 have s3 := (h.sec num 3 hn (by omega)).stamp (by omega) hn ht
 simp only [Nat.zero_mod, show 1 % 2 = 1 from rfl, show 2 % 2 = 0 from rfl, show 3 % 2 = 1 from rfl] at s0 s1 s2 s3
 unfold csD
 unfold Wm at e3
 rw [s0.1, s1.1, s2.1, s3.1] at e3
 have ho : (cs2 num (pg D base num 0) (pg D base num 1) (pg D base num 2) (pg D base num 3)).other < 2 := by
  rw [e2]; repeat' split
  all_goals omega
 refine ⟨by rw [e3]; omega, ho, fun j hj => ?_⟩
 rw [e3]
 rcases (show j = 0 ∨ j = 1 ∨ j = 2 ∨ j = 3 by omega) with rfl | rfl | rfl | rfl <;> omega
theorem FO.wrote {D D2 : DS} {base t : Nat} {held : Nat → Xc} (h : FO D base t held) {num lsn : Nat} {c : Yb} (hn : num < 64) (hc : Fit c) (hl : lsn < M64) (ht : t + 1 < M64)
  (hok : D2.Ok) (ha : D2.dead = false) (he : YI D2.secs) (hlen : D2.secs.length = D.secs.length)
  (hi : ∀ i, img D2 i = img D i ∨ ∃ p ∈ YW (base + 4 * num + 2 * (csD D base num).other) (ZP num ((csD D base num).most + 1) lsn c 0) (ZP num ((csD D base num).most + 1) lsn c 1), p.1 = i ∧ img D2 i = p.2) :
  ∃ v, (v = held num ∨ v = (c, lsn)) ∧ FO D2 base (t + 1) (upd held num v) ∧
   (img D2 (base + 4 * num + 2 * (csD D base num).other) = ZP num ((csD D base num).most + 1) lsn c 0 → img D2 (base + 4 * num + 2 * (csD D base num).other + 1) = ZP num ((csD D base num).most + 1) lsn c 1 → v = (c, lsn)) := by
 obtain ⟨m1, m2, m3⟩ := csD_most h hn (by omega)
 have hsec := fun j hj => (h.sec num j hn hj).least (by omega) (by omega) (m3 j hj)
 have hheld := h.held num hn
 have hat : ∀ j, j < 4 → pg D2 base num j = pg D base num j ∨ (csD D base num).other = j / 2 ∧ pg D2 base num j = ZP num ((csD D base num).most + 1) lsn c (j % 2) := fun j hj => by
  rcases hi (base + 4 * num + j) with h1 | ⟨p, hp, h2, h3⟩
  ·exact .inl h1
  ·right
   simp only [YW, List.mem_cons, List.not_mem_nil, or_false] at hp
   rcases hp with rfl | rfl
   ·have hj2 : j = 2 * (csD D base num).other := by dsimp only at h2; omega
    refine ⟨by omega, ?_⟩
    rw [show j % 2 = 0 by omega]; exact h3
   ·have hj2 : j = 2 * (csD D base num).other + 1 := by dsimp only at h2; omega
    refine ⟨by omega, ?_⟩
    rw [show j % 2 = 1 by omega]; exact h3
 have hw := E.wrote (x0 := pg D2 base num 0) (y0 := pg D2 base num 1) (x1 := pg D2 base num 2) (y1 := pg D2 base num 3) hn hc hl (hsec 0 (by omega)) (hsec 1 (by omega)) (hsec 2 (by omega)) (hsec 3 (by omega)) rfl (by omega) (hat 0 (by omega)) (hat 1 (by omega)) (hat 2 (by omega)) (hat 3 (by omega))
 have hoth : ∀ m, m < 64 → m ≠ num → ∀ j, j < 4 → pg D2 base m j = pg D base m j := fun m hm hne j hj => by
  rcases hi (base + 4 * m + j) with h1 | ⟨p, hp, h2, h3⟩
  ·exact h1
  ·exfalso
   simp only [YW, List.mem_cons, List.not_mem_nil, or_false] at hp
   rcases hp with rfl | rfl <;> dsimp only at h2 <;> omega
 have hfo : ∀ v, WW (csD D2 base num) = v → FO D2 base (t + 1) (upd held num v) := fun v hv => by
  refine ⟨hok, ha, he, by rw [hlen]; exact h.len, fun m j hm hj => ?_, fun m hm => ?_⟩
  ·by_cases hmn : m = num
   ·subst hmn
    rcases hat j hj with h1 | ⟨_, h2⟩
    ·rw [h1]; exact (h.sec m j hm hj).mono (by omega)
    ·rw [h2]; exact .inr ⟨_, _, _, by omega, by omega, rfl⟩
   ·rw [hoth m hm hmn j hj]; exact (h.sec m j hm hj).mono (by omega)
  ·unfold upd
   by_cases hmn : m = num
   ·subst hmn; rw [if_pos rfl]; exact hv
   ·rw [if_neg hmn, ← h.held m hm]
    unfold csD
    rw [hoth m hm hmn 0 (by omega), hoth m hm hmn 1 (by omega), hoth m hm hmn 2 (by omega), hoth m hm hmn 3 (by omega)]
 refine ⟨WW (csD D2 base num), ?_, hfo _ rfl, fun p1 p2 => ?_⟩
 ·rcases hw.1 with h1 | h1
  ·left; rw [← hheld]; exact h1
  ·exact .inr h1
 ·refine hw.2 ?_
  rcases (show (csD D base num).other = 0 ∨ (csD D base num).other = 1 by omega) with ho | ho
  ·rw [ho] at p1 p2
   rw [if_pos ho]; exact ⟨p1, p2⟩
  ·rw [ho] at p1 p2
   rw [if_neg (by rw [show (cs2 num (pg D base num 0) (pg D base num 1) (pg D base num 2) (pg D base num 3)).other = 1 from ho]; omega)]; exact ⟨p1, p2⟩
theorem FO.write {D : DS} {base t : Nat} {held : Nat → Xc} (h : FO D base t held) {num lsn : Nat} {c : Yb} (hn : num < 64) (hc : Fit c) (hl : lsn < M64) (ht : t + 1 < M64) :
  ((XJ D base num lsn c).2 = 0 → FO (XJ D base num lsn c).1 base (t + 1) (upd held num (c, lsn))) ∧ (∀ keep, ∃ v, (v = held num ∨ v = (c, lsn)) ∧ FO ((XJ D base num lsn c).1.crash keep) base (t + 1) (upd held num v)) ∧ (XJ D base num lsn c).1.Ok := by
 have hln := h.len
 have hL : base + 4 * num + 4 ≤ D.secs.length := by omega
 have ha1 := countsD_alive h.empty h.alive hL
 have hs1 := Vq (D := D) (base := base) (num := num)
 have hok1 := countsD_ok (base := base) (num := num) h.dok
 have hv := countsD_val h.empty h.alive hL
 obtain ⟨m1, m2, _⟩ := csD_most h hn (by omega)
 have hf1 := h.congr (D' := (ZE D base num).2.1) hs1 hok1 ha1
 unfold XJ
 by_cases he : (ZE D base num).2.2 = 0
 ·rw [if_neg (by simp [he]), hv he]
  dsimp only
  rw [if_neg (by unfold M64 at ht; omega)]
  have hW : ∀ p ∈ YW (base + 4 * num + 2 * (csD D base num).other) (ZP num ((csD D base num).most + 1) lsn c 0) (ZP num ((csD D base num).most + 1) lsn c 1), p.1 < (ZE D base num).2.1.secs.length ∧ p.2.length = 64 := fun p hp => by
   rw [hs1]
   simp only [YW, List.mem_cons, List.not_mem_nil, or_false] at hp
   rcases hp with rfl | rfl
   ·exact ⟨by dsimp only; omega, Xl _ _ _ _ (by omega)⟩
   ·exact ⟨by dsimp only; omega, Xl _ _ _ _ (by omega)⟩
  have hokL := DS.Ok.lays (D := (ZE D base num).2.1) hok1 (fun p hp => (hW p hp).2)
  have hlenL := Xb (YW (base + 4 * num + 2 * (csD D base num).other) (ZP num ((csD D base num).most + 1) lsn c 0) (ZP num ((csD D base num).most + 1) lsn c 1)) (ZE D base num).2.1
  have hout := lays_out (YW (base + 4 * num + 2 * (csD D base num).other) (ZP num ((csD D base num).most + 1) lsn c 0) (ZP num ((csD D base num).most + 1) lsn c 1)) (ZE D base num).2.1 ha1 (fun p hp => (hW p hp).1)
  rw [hs1] at hlenL hout
  have hgo := fun (D2 : DS) => h.wrote (D2 := D2) hn hc hl ht
  generalize hP0 : ZP num ((csD D base num).most + 1) lsn c 0 = P0 at *
  generalize hP1 : ZP num ((csD D base num).most + 1) lsn c 1 = P1 at *
  generalize base + 4 * num + 2 * (csD D base num).other = ix at *
  generalize hr : DS.lays (YW ix P0 P1) (ZE D base num).2.1 = r at *
  refine ⟨fun h0 => ?_, fun keep => ?_, hokL⟩
  ·rcases hout with ⟨l', hl', hs, hne⟩ | ⟨hs, _, hal⟩
   ·exact absurd h0 hne
   ·have hemp : YI r.1.secs := by rw [hs]; exact Yo
    obtain ⟨v, _, hv2, hv3⟩ := hgo r.1 hokL hal hemp hlenL (fun i => Xy h.empty hs D rfl i)
    have hall := fun {i : Nat} (hi : i < D.secs.length) => img_all (D := r.1) h.empty hs D rfl hi
    have hixl := hW (ix, P0) (by simp [YW])
    have hixm := hW (ix + 1, P1) (by simp [YW])
    rw [hs1] at hixl hixm
    have h1 : img r.1 ix = P0 := by
     rcases hall hixl.1 with ⟨_, hno⟩ | ⟨p, hp, h1, h2⟩
     ·exact absurd rfl (hno (ix, P0) (by simp [YW]))
     ·simp only [YW, List.mem_cons, List.not_mem_nil, or_false] at hp
      rcases hp with rfl | rfl
      ·exact h2
      ·dsimp only at h1; omega
    have h2 : img r.1 (ix + 1) = P1 := by
     rcases hall hixm.1 with ⟨_, hno⟩ | ⟨p, hp, h1, h2⟩
     ·exact absurd rfl (hno (ix + 1, P1) (by simp [YW]))
     ·simp only [YW, List.mem_cons, List.not_mem_nil, or_false] at hp
      rcases hp with rfl | rfl
      ·dsimp only at h1; omega
      ·exact h2
    rw [hv3 h1 h2] at hv2
    exact hv2
  ·have hcr : ∃ (kp : Nat → Bool) (l' : List (Nat × Blk)), l' <+: YW ix P0 P1 ∧ (r.1.crash keep).secs = settled kp (YY D.secs l') := by
    rcases hout with ⟨l', hl', hs, hne⟩ | ⟨hs, _, hal⟩
    ·exact ⟨keep, l', hl', by simp only [DS.crash]; rw [hs]⟩
    ·refine ⟨fun _ => true, YW ix P0 P1, List.prefix_refl _, ?_⟩
     have hemp : YI r.1.secs := by rw [hs]; exact Yo
     simp only [DS.crash]
     rw [settled_empty hemp, hs]
   obtain ⟨kp, l', hl', hs⟩ := hcr
   obtain ⟨v, h1, h2, _⟩ := hgo (r.1.crash keep) hokL.crash rfl (by rw [hs]; exact Yo) (by rw [hs, Yq, YJ]) (fun i => by
    rcases Xy h.empty hs D rfl i with h1 | ⟨p, hp, h2, h3⟩
    ·exact .inl h1
    ·exact .inr ⟨p, hl'.subset hp, h2, h3⟩)
   exact ⟨v, h1, h2⟩
 ·rw [if_pos he]
  refine ⟨fun h0 => absurd h0 he, fun keep => ⟨held num, .inl rfl, ?_⟩, hok1⟩
  rw [upd_self]
  exact (hf1.crash keep).mono (by omega)
theorem writeF_calm {D : DS} {base t : Nat} {held : Nat → Xc} (h : FO D base t held) (hc : D.Calm) {num lsn : Nat} {c : Yb} (hn : num < 64) (ht : t + 1 < M64) : (XJ D base num lsn c).2 = 0 ∧ (XJ D base num lsn c).1.Calm := by
 have hln := h.len
 have hL : base + 4 * num + 4 ≤ D.secs.length := by omega
 obtain ⟨e1, e2⟩ := countsD_calm hc hL
 have hv := countsD_val h.empty h.alive hL e1
 have hs1 := Vq (D := D) (base := base) (num := num)
 obtain ⟨m1, m2, _⟩ := csD_most h hn (by omega)
 unfold XJ
 rw [if_neg (by simp [e1]), hv]
 dsimp only
 rw [if_neg (by unfold M64 at ht; omega)]
 obtain ⟨l0, l1, l2⟩ := XT (YW (base + 4 * num + 2 * (csD D base num).other) (ZP num ((csD D base num).most + 1) lsn c 0) (ZP num ((csD D base num).most + 1) lsn c 1)) (ZE D base num).2.1 e2 (fun p hp => by
  rw [hs1]
  simp only [YW, List.mem_cons, List.not_mem_nil, or_false] at hp
  rcases hp with rfl | rfl <;> dsimp only <;> omega)
 exact ⟨l0, l1⟩
theorem FO.format {D : DS} {base : Nat} (hok : D.Ok) (hc : D.Calm) (he : YI D.secs) (hl : base + 256 ≤ D.secs.length) :
  (DS.lays (ZQ base) D).2 = 0 ∧ (DS.lays (ZQ base) D).1.Calm ∧ FO (DS.lays (ZQ base) D).1 base 0 (fun _ => zHeld) := by
 have hidx : ∀ p ∈ ZQ base, p.1 < D.secs.length := fun p hp => by
  simp only [ZQ, List.mem_map, List.mem_range] at hp
  obtain ⟨k, hk, rfl⟩ := hp
  dsimp only; omega
 obtain ⟨l0, l1, l2⟩ := XT (ZQ base) D hc hidx
 have hok1 := hok.lays (l := ZQ base) noughtsF_64
 have himg : ∀ i, i < 256 → img (DS.lays (ZQ base) D).1 (base + i) = XK := fun i hi => by
  rcases img_all he l2 D rfl (i := base + i) (by omega) with ⟨_, hno⟩ | ⟨p, hp, h1, h2⟩
  ·exact absurd rfl (hno (base + i, XK) (by simp only [ZQ, List.mem_map, List.mem_range]; exact ⟨i, hi, rfl⟩))
  ·simp only [ZQ, List.mem_map, List.mem_range] at hp
   obtain ⟨k, hk, rfl⟩ := hp
   exact h2
 have hpg : ∀ num j, num < 64 → j < 4 → pg (DS.lays (ZQ base) D).1 base num j = XK := fun num j h1 h2 => by
  unfold pg; rw [Nat.add_assoc]; exact himg _ (by omega)
 refine ⟨l0, l1, hok1, l1.dead, by rw [l2]; exact Yo, by rw [Xb]; exact hl, fun num j h1 h2 => .inl (hpg num j h1 h2), fun num h1 => ?_⟩
 unfold csD
 rw [hpg num 0 h1 (by omega), hpg num 1 h1 (by omega), hpg num 2 h1 (by omega), hpg num 3 h1 (by omega), (cs2_eq num XK XK XK XK).1]
 have hr : (YA num XK XK).right = false := by
  cases hr : (YA num XK XK).right with
  | false => rfl
  | true =>
   have := (says_right (by rfl) (by rfl) hr).1
   rw [stamp_zblk] at this; omega
 rw [if_neg (by simp [hr]), if_neg (by simp [hr])]
structure Pg where
 c : Yb
 w : CV
 lsn : Nat
 rc : Nat
abbrev pgV (g : Pg) : List Value := [.int .i64 g.c.kind, .slice g.w.ra g.w.rn g.w.rc, .slice g.w.ka g.w.kn g.w.kc, .int .u64 g.lsn, .int .u64 g.rc]
abbrev Pgs := Int → Option Pg
def updG (pg : Pgs) (n : Int) (g : Pg) : Pgs := fun k => if k = n then some g else pg k
theorem updG_self {pg : Pgs} {n : Int} {g : Pg} (h : pg n = some g) : updG pg n g = pg := by
 funext k
 unfold updG
 split
 ·rename_i e; rw [e, h]
 ·rfl
structure MpIn (ρ : Hp) (es : List MapEntry) (pg : Pgs) : Prop where
 keys : Yg .i64 es
 uk : UKeys es
 get : ∀ n, YE es n = (pg n).map (fun g => .agg ⟨pgV g⟩)
 cin : ∀ n g, pg n = some g → CIn ρ g.w g.c.rows g.c.kids
theorem MpIn.mono {ρ ρ' es pg} (h : MpIn ρ es pg) (hle : ρ.le ρ') : MpIn ρ' es pg := ⟨h.keys, h.uk, h.get, fun n g hg => (h.cin n g hg).mono hle⟩
theorem MpIn.put {ρ es es' pg} (h : MpIn ρ es pg) {n : Int} {g : Pg} (hk : Yg .i64 es') (hu : UKeys es') (hg : ∀ j, YE es' j = if j = n then some (.agg ⟨pgV g⟩) else YE es j) (hc : CIn ρ g.w g.c.rows g.c.kids) : MpIn ρ es' (updG pg n g) :=
 ⟨hk, hu, fun j => by
  rw [hg]; unfold updG
  split
  ·rfl
  ·exact h.get j, fun j g' hj => by
  unfold updG at hj
  split at hj
  ·cases hj; exact hc
  ·exact h.cin j g' hj⟩
abbrev YD (mb : Nat) (es : List MapEntry) (ck : Nat) : List (Nat × Obj) := [(mb, .map ⟨es⟩ ck)]
abbrev PoIn (ρ : Hp) (pb fb lb mb : Nat) : Prop := ρ pb = some (.cells ⟨[.pointer (some ⟨fb, 0, none⟩), .pointer (some ⟨lb, 0, none⟩), .map (some mb)]⟩ 135 (0, 0))
theorem there_spec (ρ : Hp) (n : Int) : Spec Tryz.prog 70 [.int .i64 n] ρ [] (fun v ρ' L' => v = .bool (decide (0 ≤ n ∧ n < 64)) ∧ ρ' = ρ ∧ L' = []) := by
 refine Ze Tryz.func70 rfl rfl rfl fun u R => ?_
 simp only [Zt, List.cons_append, List.nil_append]
 by_cases h : 0 ≤ n
 ·repeat' (first | (refine iBu ?_; refine ZL (Zn rfl) rfl rfl ?_) | (refine Zg ?_; first | (refine Zf ?_; refine qQ ?_) | refine Zj ?_) | refine Za ?_ | (refine Zh ?_; refine Zu ?_) | (refine Zi ?_; refine Zv ?_) | intro _)
  exact qE ⟨by rw [show (decide (0 ≤ n ∧ n < 64)) = decide (n < 64) by simp [h]], rfl, rfl⟩
 ·repeat' (first | (refine iBu ?_; refine ZL (Zn rfl) rfl rfl ?_) | (refine Zg ?_; first | (refine Zf ?_; refine qQ ?_) | refine Zj ?_) | refine Za ?_ | (refine Zh ?_; refine Zu ?_) | (refine Zi ?_; refine Zv ?_) | intro _)
  exact qE ⟨by rw [show (decide (0 ≤ n ∧ n < 64)) = false by simp [h]], rfl, rfl⟩
def holdD (pg : Pgs) (D : DS) (base num : Nat) : DS := if (pg num).isSome then D else (We D base num).2
structure HoldG (pg : Pgs) (D : DS) (base num : Nat) (g : Pg) : Prop where
 out : pg num = some g ∨ pg num = none ∧ g.c = (We D base num).1.1 ∧ g.lsn = (We D base num).1.2.1 ∧ g.rc = 0
theorem hold_spec (ρ : Hp) (pb fb lb mb db base num : Nat) (hp : PoIn ρ pb fb lb mb) (hf : FIn ρ fb db base) (hb : base ≤ 100000) (hn : num < 64) (k : DK) (D : DS) (hD : DOk k D) (pg : Pgs) (es : List MapEntry) (ck : Nat) (hm : MpIn ρ es pg)
  (hr : pg num = none → (We D base num).1.2.2 = 0) :
  Spec Tryz.prog 71 [.pointer (some ⟨pb, 0, none⟩), .int .i64 num] ρ (YD mb es ck :: ZA db k D)
   (fun v ρ' L' => ρ.le ρ' ∧ ∃ g es' ck', v = .tuple ⟨[.agg ⟨pgV g⟩, .int .i64 0]⟩ ∧ HoldG pg D base num g ∧ MpIn ρ' es' (updG pg num g) ∧ DOk k (holdD pg D base num) ∧ L' = YD mb es' ck' :: ZA db k (holdD pg D base num)) := by
 have hk := hm.keys
 have hu := hm.uk
 have hg := hm.get num
 refine Ze Tryz.func71 rfl rfl rfl fun u R => ?_
 simp only [Zt, List.cons_append, List.nil_append]
 cases hpn : pg num with
 | some g =>
  rw [hpn] at hg
  simp only [Option.map_some] at hg
  have hd : holdD pg D base num = D := by unfold holdD; rw [hpn]; rfl
  rw [hd]
  repeat' (first | (refine iBu ?_; refine ZL (Zn rfl) rfl rfl ?_) | (refine Zg ?_; first | (refine Zf ?_; refine qQ ?_) | refine Zj ?_) | refine Za ?_ | (refine Zh ?_; refine Zu ?_) | (refine Zi ?_; refine Zv ?_) | intro _)
  exact qE (L' := YD mb es ck :: ZA db k D) ⟨Hp.le_refl _, g, es, ck, rfl, ⟨.inl hpn⟩, by rw [updG_self hpn]; exact hm, hD, rfl⟩
 | none =>
  rw [hpn] at hg
  simp only [Option.map_none] at hg
  have h0 := hr hpn
  have hd : holdD pg D base num = (We D base num).2 := by unfold holdD; rw [hpn]; rfl
  rw [hd]
  have hrd := Read_spec ρ fb db base num hf hb hn k D hD
  rw [h0] at hrd
  have hho : ∀ g : Pg, g.c = (We D base num).1.1 → g.lsn = (We D base num).1.2.1 → g.rc = 0 → HoldG pg D base num g := fun g h1 h2 h3 => ⟨.inr ⟨hpn, h1, h2, h3⟩⟩
  generalize We D base num = r at *
  obtain ⟨⟨c, lsn, e⟩, D'⟩ := r
  dsimp only at *
  repeat' (first | (refine Zc (.func 33) ?_; refine qC rfl rfl hrd ?_; rintro v1 ρ1 L1 hle1 ⟨hl1, w, rfl, hC, hk1, rfl⟩; have hp1 := Hp.at' hl1 hp; try simp only [List.cons_append, List.nil_append, List.append_assoc, List.append_eq]) | (refine iBu ?_; refine ZL (Zn rfl) rfl rfl ?_) | (refine Zg ?_; first | (refine Zf ?_; refine qQ ?_) | refine Zj ?_) | refine Za ?_ | (refine Zh ?_; refine Zu ?_) | (refine Zi ?_; refine Zv ?_) | intro _)
  rename_i b11
  refine Zz (Zr _ _ ([[(b11, .cells ⟨pgV ⟨c, w, lsn, 0⟩⟩ 132 (0, 0))]])) (Zy (hT := tk) (Hp.le_refl _)) ?_
  all_goals (refine ZO 0 ?_; refine rNc 1 ?_; refine Yv 2 ?_; refine ZX 3 ?_; refine ZO 4 ?_; refine ZX 5 ?_)
  all_goals (refine Zm (i := 6) ?_; ((try refine Zk ?_); (first | (refine WS rfl rfl rfl hk hu (fun es' ck' h1 h2 h3 => ?_)) | (refine Zj ?_; try intro _)) <;> ((try simp only [kM, kN, kO]); refine Za ?_; refine Zl ?_)))
  all_goals refine ZI ?_
  all_goals (repeat' (first | (refine iBu ?_; refine ZL (Zn rfl) rfl rfl ?_) | (refine Zg ?_; first | (refine Zf ?_; refine qQ ?_) | refine Zj ?_) | refine Za ?_ | (refine Zh ?_; refine Zu ?_) | (refine Zi ?_; refine Zv ?_) | intro _))
  all_goals exact qE (L' := YD mb es' ck' :: ZA db k D') ⟨hl1, ⟨c, w, lsn, 0⟩, es', ck', rfl, hho _ rfl rfl rfl, (hm.mono hl1).put h1 h2 h3 hC, hk1, rfl⟩
theorem flat_oneP {α : Type} {g : α → List Value} (hg : ∀ x, (g x).all (·.oneCell') = true) (l : List α) : ((l.map g).flatten).all (·.oneCell') = true := by
 induction l with
 | nil => rfl
 | cons a r ih => simp only [List.map_cons, List.flatten_cons, List.all_append, Bool.and_eq_true]; exact ⟨hg a, ih⟩
theorem AIn.none_nil {ρ : Hp} {α : Type} {sz n : Nat} {g : α → List Value} {l : List α} (h : AIn ρ sz g none n l) : l = [] := by
 by_cases h0 : 0 < l.length
 ·obtain ⟨b, off, C, T, fr, h, _⟩ := h.get h0
  cases h
 ·exact List.eq_nil_of_length_eq_zero (by omega)
theorem cloneRows_spec (ρ : Hp) (a : Option Addr) (n c : Nat) (l : List Row) (h : AIn ρ 4 YT a n l) (hn : n ≤ 1000000) (hc : n ≤ c) : Spec Tryz.prog 119 [.slice a n c] ρ []
  (fun v ρ' L' => ρ.le ρ' ∧ ∃ a' c', v = .slice a' n c' ∧ n ≤ c' ∧ AIn ρ' 4 YT a' n l ∧ L' = []) := by
 have hl := h.len
 cases a with
 | none =>
  obtain rfl := h.none_nil
  obtain rfl : n = 0 := by simpa using hl.symm
  refine Ze Tryz.func119 rfl rfl rfl fun u R => ?_
  simp only [Zt, List.cons_append, List.nil_append]
  repeat' (first | (refine iBu ?_; refine ZL (Zn rfl) rfl rfl ?_) | (refine Zg ?_; first | (refine Zf ?_; refine qQ ?_) | refine Zj ?_) | refine Za ?_ | (refine Zh ?_; refine Zu ?_) | (refine Zi ?_; refine Zv ?_) | intro _)
  exact qE ⟨Hp.le_refl _, none, 0, rfl, Nat.le_refl _, h, rfl⟩
 | some ad =>
  refine Ze Tryz.func119 rfl rfl rfl fun u R => ?_
  simp only [Zt, List.cons_append, List.nil_append]
  repeat' (first | (refine iBu ?_; refine ZL (Zn rfl) rfl rfl ?_) | (refine Zg ?_; first | (refine Zf ?_; refine qQ ?_) | refine Zj ?_) | refine Za ?_ | (refine Zh ?_; refine Zu ?_) | (refine Zi ?_; refine Zv ?_) | intro _)
  refine YQ (n := 0) (xs := []) (sp := []) (ys := ((l.map YT).flatten)) (sz := 4) rfl rfl (OwnS.zero _ 4) (hR := Ya) h.srcV (by rw [flat_len YT 4 l (fun _ _ => rfl)]; omega) (flat_oneP (fun _ => rfl) l) (by decide) rfl (by omega) (by omega) rfl (fun v' sp' hown' => ?_)
  simp only [Nat.zero_add, List.nil_append] at hown' ⊢
  refine ZM (Ym v' ((l.map YT).flatten) sp' 130) (h := Rem.here) (fun ρ2 hl2 hf2 => ?_)
  obtain ⟨a2, c2, rfl, hc2, hA2⟩ := hown'.aIn hl (fun _ _ => rfl) hf2
  repeat' (first | (refine iBu ?_; refine ZL (Zn rfl) rfl rfl ?_) | (refine Zg ?_; first | (refine Zf ?_; refine qQ ?_) | refine Zj ?_) | refine Za ?_ | (refine Zh ?_; refine Zu ?_) | (refine Zi ?_; refine Zv ?_) | intro _)
  exact qE ⟨hl2, a2, c2, rfl, hc2, hA2, rfl⟩
theorem cloneKids_spec (ρ : Hp) (a : Option Addr) (n c : Nat) (l : List Kid) (h : AIn ρ 3 XQ a n l) (hn : n ≤ 1000000) (hc : n ≤ c) : Spec Tryz.prog 120 [.slice a n c] ρ []
  (fun v ρ' L' => ρ.le ρ' ∧ ∃ a' c', v = .slice a' n c' ∧ n ≤ c' ∧ AIn ρ' 3 XQ a' n l ∧ L' = []) := by
 have hl := h.len
 cases a with
 | none =>
  obtain rfl := h.none_nil
  obtain rfl : n = 0 := by simpa using hl.symm
  refine Ze Tryz.func120 rfl rfl rfl fun u R => ?_
  simp only [Zt, List.cons_append, List.nil_append]
  repeat' (first | (refine iBu ?_; refine ZL (Zn rfl) rfl rfl ?_) | (refine Zg ?_; first | (refine Zf ?_; refine qQ ?_) | refine Zj ?_) | refine Za ?_ | (refine Zh ?_; refine Zu ?_) | (refine Zi ?_; refine Zv ?_) | intro _)
  exact qE ⟨Hp.le_refl _, none, 0, rfl, Nat.le_refl _, h, rfl⟩
 | some ad =>
  refine Ze Tryz.func120 rfl rfl rfl fun u R => ?_
  simp only [Zt, List.cons_append, List.nil_append]
  repeat' (first | (refine iBu ?_; refine ZL (Zn rfl) rfl rfl ?_) | (refine Zg ?_; first | (refine Zf ?_; refine qQ ?_) | refine Zj ?_) | refine Za ?_ | (refine Zh ?_; refine Zu ?_) | (refine Zi ?_; refine Zv ?_) | intro _)
  refine YQ (n := 0) (xs := []) (sp := []) (ys := ((l.map XQ).flatten)) (sz := 3) rfl rfl (OwnS.zero _ 3) (hR := Ya) h.srcV (by rw [flat_len XQ 3 l (fun _ _ => rfl)]; omega) (flat_oneP (fun _ => rfl) l) (by decide) rfl (by omega) (by omega) rfl (fun v' sp' hown' => ?_)
  simp only [Nat.zero_add, List.nil_append] at hown' ⊢
  refine ZM (Ym v' ((l.map XQ).flatten) sp' 149) (h := Rem.here) (fun ρ2 hl2 hf2 => ?_)
  obtain ⟨a2, c2, rfl, hc2, hA2⟩ := hown'.aIn hl (fun _ _ => rfl) hf2
  repeat' (first | (refine iBu ?_; refine ZL (Zn rfl) rfl rfl ?_) | (refine Zg ?_; first | (refine Zf ?_; refine qQ ?_) | refine Zj ?_) | refine Za ?_ | (refine Zh ?_; refine Zu ?_) | (refine Zi ?_; refine Zv ?_) | intro _)
  exact qE ⟨hl2, a2, c2, rfl, hc2, hA2, rfl⟩
theorem copied_spec (ρ : Hp) (kd : Int) (w : CV) (rows : List Row) (kids : List Kid) (h : CIn ρ w rows kids) : Spec Tryz.prog 64 [.agg ⟨XF kd w⟩] ρ []
  (fun v ρ' L' => ρ.le ρ' ∧ ∃ w', v = .agg ⟨XF kd w'⟩ ∧ CIn ρ' w' rows kids ∧ L' = []) := by
 have hr := fun {ρ' : Hp} (hl : ρ.le ρ') => cloneRows_spec ρ' w.ra w.rn w.rc rows (h.r.mono hl) h.rb h.rc
 have hk := fun {ρ' : Hp} (hl : ρ.le ρ') => cloneKids_spec ρ' w.ka w.kn w.kc kids (h.k.mono hl) h.kb h.kc
 have hfin : ∀ {ρ1 ρ2 ρ' : Hp} {a1 : Option Addr} {c1 : Nat} {a2 : Option Addr} {c2 : Nat}, AIn ρ1 4 YT a1 w.rn rows → ρ1.le ρ' → w.rn ≤ c1 → AIn ρ2 3 XQ a2 w.kn kids → ρ2.le ρ' → w.kn ≤ c2 → CIn ρ' ⟨a1, w.rn, c1, a2, w.kn, c2⟩ rows kids := fun h1 l1 h2 h3 l2 h4 => ⟨h1.mono l1, h3.mono l2, h.rb, h.kb, h2, h4⟩
 obtain ⟨ra, rn, rc, ka, kn, kc⟩ := w
 dsimp only at hr hk hfin
 refine Ze Tryz.func64 rfl rfl rfl fun u R => ?_
 simp only [Zt, List.cons_append, List.nil_append]
 repeat' (first | (refine iBu ?_; refine ZL (Zn rfl) rfl rfl ?_) | (refine Zg ?_; first | (refine Zf ?_; refine qQ ?_) | refine Zj ?_) | refine Za ?_ | (refine Zh ?_; refine Zu ?_) | (refine Zi ?_; refine Zv ?_) | intro _)
 rename_i b1 b2
 refine Zz (Zr _ _ ([])) (Zy (hT := tk) (Hp.le_refl _)) ?_
 all_goals (refine Yv 0 ?_; refine Yv 3 ?_)
 all_goals (refine Xn (i := 1) (j := 4) ?_ ?_ <;> ((try refine Zk ?_); (first | (refine Zc (.func 119) ?_; refine qC rfl rfl (hr (by assumption)) ?_; rintro v1 ρ1 L1 hle1 ⟨hl1, a1, c1, rfl, hc1, hA1, rfl⟩; simp only [List.cons_append, List.nil_append]) | (refine Zc (.func 119) ?_; refine qC rfl rfl (hr (Hp.le_refl _)) ?_; rintro v1 ρ1 L1 hle1 ⟨hl1, a1, c1, rfl, hc1, hA1, rfl⟩; simp only [List.cons_append, List.nil_append]) | (refine Zc (.func 120) ?_; refine qC rfl rfl (hk (by assumption)) ?_; rintro v2 ρ2 L2 hle2 ⟨hl2, a2, c2, rfl, hc2, hA2, rfl⟩; simp only [List.cons_append, List.nil_append]) | (refine Zc (.func 120) ?_; refine qC rfl rfl (hk (Hp.le_refl _)) ?_; rintro v2 ρ2 L2 hle2 ⟨hl2, a2, c2, rfl, hc2, hA2, rfl⟩; simp only [List.cons_append, List.nil_append]) | (refine Zf ?_; refine qQ ?_) | (refine Zj ?_; try intro _)) <;> ((try simp only [kM, kN, kO]); refine Za ?_; refine Zl ?_)))
 all_goals (first | (refine Xn (i := 2) (j := 4) ?_ ?_ <;> ((try refine Zk ?_); (first | (refine Zc (.func 119) ?_; refine qC rfl rfl (hr (by assumption)) ?_; rintro v1 ρ1 L1 hle1 ⟨hl1, a1, c1, rfl, hc1, hA1, rfl⟩; simp only [List.cons_append, List.nil_append]) | (refine Zc (.func 119) ?_; refine qC rfl rfl (hr (Hp.le_refl _)) ?_; rintro v1 ρ1 L1 hle1 ⟨hl1, a1, c1, rfl, hc1, hA1, rfl⟩; simp only [List.cons_append, List.nil_append]) | (refine Zc (.func 120) ?_; refine qC rfl rfl (hk (by assumption)) ?_; rintro v2 ρ2 L2 hle2 ⟨hl2, a2, c2, rfl, hc2, hA2, rfl⟩; simp only [List.cons_append, List.nil_append]) | (refine Zc (.func 120) ?_; refine qC rfl rfl (hk (Hp.le_refl _)) ?_; rintro v2 ρ2 L2 hle2 ⟨hl2, a2, c2, rfl, hc2, hA2, rfl⟩; simp only [List.cons_append, List.nil_append]) | (refine Zf ?_; refine qQ ?_) | (refine Zj ?_; try intro _)) <;> ((try simp only [kM, kN, kO]); refine Za ?_; refine Zl ?_))) | (refine Zm (i := 1) ?_; ((try refine Zk ?_); (first | (refine Zc (.func 119) ?_; refine qC rfl rfl (hr (by assumption)) ?_; rintro v1 ρ1 L1 hle1 ⟨hl1, a1, c1, rfl, hc1, hA1, rfl⟩; simp only [List.cons_append, List.nil_append]) | (refine Zc (.func 119) ?_; refine qC rfl rfl (hr (Hp.le_refl _)) ?_; rintro v1 ρ1 L1 hle1 ⟨hl1, a1, c1, rfl, hc1, hA1, rfl⟩; simp only [List.cons_append, List.nil_append]) | (refine Zc (.func 120) ?_; refine qC rfl rfl (hk (by assumption)) ?_; rintro v2 ρ2 L2 hle2 ⟨hl2, a2, c2, rfl, hc2, hA2, rfl⟩; simp only [List.cons_append, List.nil_append]) | (refine Zc (.func 120) ?_; refine qC rfl rfl (hk (Hp.le_refl _)) ?_; rintro v2 ρ2 L2 hle2 ⟨hl2, a2, c2, rfl, hc2, hA2, rfl⟩; simp only [List.cons_append, List.nil_append]) | (refine Zf ?_; refine qQ ?_) | (refine Zj ?_; try intro _)) <;> ((try simp only [kM, kN, kO]); refine Za ?_; refine Zl ?_))))
 all_goals (first | (refine Zm (i := 4) ?_; ((try refine Zk ?_); (first | (refine Zc (.func 119) ?_; refine qC rfl rfl (hr (by assumption)) ?_; rintro v1 ρ1 L1 hle1 ⟨hl1, a1, c1, rfl, hc1, hA1, rfl⟩; simp only [List.cons_append, List.nil_append]) | (refine Zc (.func 119) ?_; refine qC rfl rfl (hr (Hp.le_refl _)) ?_; rintro v1 ρ1 L1 hle1 ⟨hl1, a1, c1, rfl, hc1, hA1, rfl⟩; simp only [List.cons_append, List.nil_append]) | (refine Zc (.func 120) ?_; refine qC rfl rfl (hk (by assumption)) ?_; rintro v2 ρ2 L2 hle2 ⟨hl2, a2, c2, rfl, hc2, hA2, rfl⟩; simp only [List.cons_append, List.nil_append]) | (refine Zc (.func 120) ?_; refine qC rfl rfl (hk (Hp.le_refl _)) ?_; rintro v2 ρ2 L2 hle2 ⟨hl2, a2, c2, rfl, hc2, hA2, rfl⟩; simp only [List.cons_append, List.nil_append]) | (refine Zf ?_; refine qQ ?_) | (refine Zj ?_; try intro _)) <;> ((try simp only [kM, kN, kO]); refine Za ?_; refine Zl ?_))) | (refine Zm (i := 2) ?_; ((try refine Zk ?_); (first | (refine Zc (.func 119) ?_; refine qC rfl rfl (hr (by assumption)) ?_; rintro v1 ρ1 L1 hle1 ⟨hl1, a1, c1, rfl, hc1, hA1, rfl⟩; simp only [List.cons_append, List.nil_append]) | (refine Zc (.func 119) ?_; refine qC rfl rfl (hr (Hp.le_refl _)) ?_; rintro v1 ρ1 L1 hle1 ⟨hl1, a1, c1, rfl, hc1, hA1, rfl⟩; simp only [List.cons_append, List.nil_append]) | (refine Zf ?_; refine qQ ?_) | (refine Zj ?_; try intro _)) <;> ((try simp only [kM, kN, kO]); refine Za ?_; refine Zl ?_))))
 all_goals refine Yv 6 ?_
 all_goals (refine Zm (i := 5) ?_; ((try refine Zk ?_); (first | (refine Zc (.func 120) ?_; refine qC rfl rfl (hk (by assumption)) ?_; rintro v2 ρ2 L2 hle2 ⟨hl2, a2, c2, rfl, hc2, hA2, rfl⟩; simp only [List.cons_append, List.nil_append]) | (refine Zc (.func 120) ?_; refine qC rfl rfl (hk (Hp.le_refl _)) ?_; rintro v2 ρ2 L2 hle2 ⟨hl2, a2, c2, rfl, hc2, hA2, rfl⟩; simp only [List.cons_append, List.nil_append]) | (refine Zf ?_; refine qQ ?_) | (refine Zj ?_; try intro _)) <;> ((try simp only [kM, kN, kO]); refine Za ?_; refine Zl ?_)))
 all_goals (refine Zm (i := 7) ?_; ((try refine Zk ?_); (first | (refine Zf ?_; refine qQ ?_) | (refine Zj ?_; try intro _)) <;> ((try simp only [kM, kN, kO]); refine Za ?_; refine Zl ?_)))
 all_goals refine Yv 8 ?_
 all_goals (refine Zm (i := 9) ?_; ((try refine Zk ?_); (first | (refine Zf ?_; refine qQ ?_) | (refine Zj ?_; try intro _)) <;> ((try simp only [kM, kN, kO]); refine Za ?_; refine Zl ?_)))
 all_goals refine ZI ?_
 all_goals (repeat' (first | (refine iBu ?_; refine ZL (Zn rfl) rfl rfl ?_) | (refine Zg ?_; first | (refine Zf ?_; refine qQ ?_) | refine Zj ?_) | refine Za ?_ | (refine Zh ?_; refine Zu ?_) | (refine Zi ?_; refine Zv ?_) | intro _))
 all_goals exact qE (L' := []) ⟨by first | exact Hp.le_trans hl1 hl2 | exact Hp.le_trans hl2 hl1, _, rfl, hfin hA1 (by first | assumption | exact Hp.le_refl _) hc1 hA2 (by first | assumption | exact Hp.le_refl _) hc2, rfl⟩
theorem new17_spec (ρ : Hp) (fb lb : Nat) : Spec Tryz.prog 34 [.pointer (some ⟨fb, 0, none⟩), .pointer (some ⟨lb, 0, none⟩)] ρ []
  (fun v ρ' L' => ρ.le ρ' ∧ ∃ pb mb, v = .tuple ⟨[.pointer (some ⟨pb, 0, none⟩), .int .i64 0]⟩ ∧ PoIn ρ' pb fb lb mb ∧ L' = [YD mb [] 0]) := by
 refine Ze Tryz.func34 rfl rfl rfl fun u R => ?_
 simp only [Zt, List.cons_append, List.nil_append]
 repeat' (first | (refine iBu ?_; refine ZL (Zn rfl) rfl rfl ?_) | (refine Zg ?_; first | (refine Zf ?_; refine qQ ?_) | refine Zj ?_) | refine Za ?_ | (refine Zh ?_; refine Zu ?_) | (refine Zi ?_; refine Zv ?_) | intro _)
 rename_i mb pb
 refine Xs [(pb, .cells ⟨[.pointer (some ⟨fb, 0, none⟩), .pointer (some ⟨lb, 0, none⟩), .map (some mb)]⟩ 135 (0, 0))] (h := Rem.here) (fun ρ1 hl1 hf1 => ?_)
 have hp := hf1 _ (List.mem_singleton.2 rfl)
 exact qE (L' := [YD mb [] 0]) ⟨hl1, pb, mb, rfl, hp, rfl⟩
theorem page17_spec (ρ : Hp) (pb fb lb mb db base num : Nat) (hp : PoIn ρ pb fb lb mb) (hf : FIn ρ fb db base) (hb : base ≤ 100000) (hn : num < 64) (k : DK) (D : DS) (hD : DOk k D) (pg : Pgs) (es : List MapEntry) (ck : Nat) (hm : MpIn ρ es pg)
  (hr : pg num = none → (We D base num).1.2.2 = 0) :
  Spec Tryz.prog 31 [.pointer (some ⟨pb, 0, none⟩), .int .i64 num] ρ (YD mb es ck :: ZA db k D)
   (fun v ρ' L' => ρ.le ρ' ∧ ∃ g es' ck' w, v = .tuple ⟨[.agg ⟨XF g.c.kind w⟩, .int .u64 (g.lsn : Nat), .int .i64 0]⟩ ∧ CIn ρ' w g.c.rows g.c.kids ∧ HoldG pg D base num g ∧ MpIn ρ' es' (updG pg num g) ∧ DOk k (holdD pg D base num) ∧ L' = YD mb es' ck' :: ZA db k (holdD pg D base num)) := by
 have ht := fun ρ => there_spec ρ num
 simp only [decide_eq_true (show (0 : Int) ≤ num ∧ (num : Int) < 64 by omega)] at ht
 have hh := hold_spec ρ pb fb lb mb db base num hp hf hb hn k D hD pg es ck hm hr
 have hcp := fun {ρ' : Hp} {g : Pg} {es' : List MapEntry} (h : MpIn ρ' es' (updG pg num g)) => copied_spec ρ' g.c.kind g.w g.c.rows g.c.kids (h.cin num g (by unfold updG; rw [if_pos rfl]))
 refine Ze Tryz.func31 rfl rfl rfl fun u R => ?_
 simp only [Zt, List.cons_append, List.nil_append]
 repeat' (first | (refine Zc (.func 70) ?_; refine qC rfl rfl (ht _) ?_; rintro v ρ' L' hle ⟨rfl, rfl, rfl⟩ <;> (try simp only [kM, kN, kO])) | (refine Zc (.func 71) ?_; refine qC rfl rfl hh ?_; rintro v1 ρ1 L1 hle1 ⟨hl1, g, es', ck', rfl, hg, hm1, hk1, rfl⟩; try simp only [List.cons_append, List.nil_append, List.append_assoc, List.append_eq]) | (refine iBu ?_; refine ZL (Zn rfl) rfl rfl ?_) | (refine Zg ?_; first | (refine Zf ?_; refine qQ ?_) | refine Zj ?_) | refine Za ?_ | (refine Zh ?_; refine Zu ?_) | (refine Zi ?_; refine Zv ?_) | intro _)
 rename_i b7
 refine Zz (Zr _ _ ([[(b7, .cells ⟨pgV g⟩ 132 (0, 0))]])) (Zy (hT := tk) (Hp.le_refl _)) ?_
 all_goals (refine Yv 0 ?_; refine ZX 1 ?_; refine Yv 3 ?_; refine ZX 4 ?_; refine ZO 5 ?_)
 all_goals (refine Zm (i := 2) ?_; ((try refine Zk ?_); (first | (refine Zc (.func 64) ?_; refine qC rfl rfl (hcp hm1) ?_; rintro v2 ρ2 L2 hle2 ⟨hl2, w2, rfl, hC2, rfl⟩; simp only [List.cons_append, List.nil_append]) | (refine Zj ?_; try intro _)) <;> ((try simp only [kM, kN, kO]); refine Za ?_; refine Zl ?_)))
 all_goals (refine Zm (i := 6) ?_; ((try refine Zk ?_); (first | (refine Zj ?_; try intro _)) <;> ((try simp only [kM, kN, kO]); refine Za ?_; refine Zl ?_)))
 all_goals (refine ZN ?_; refine rAs 7 ?_; refine rAs 8 ?_; refine ZI ?_)
 all_goals (repeat' (first | (refine iBu ?_; refine ZL (Zn rfl) rfl rfl ?_) | (refine Zg ?_; first | (refine Zf ?_; refine qQ ?_) | refine Zj ?_) | refine Za ?_ | (refine Zh ?_; refine Zu ?_) | (refine Zi ?_; refine Zv ?_) | intro _))
 all_goals exact qE (L' := YD mb es' ck' :: ZA db k (holdD pg D base num)) ⟨Hp.le_trans hl1 hl2, g, es', ck', w2, rfl, hC2, hg, hm1.mono hl2, hk1, rfl⟩
theorem own_arg (ρ : Hp) (pb : Nat) (n : Int) (f : Value) (hn : ¬ (0 ≤ n ∧ n < 64)) : Spec Tryz.prog 65 [.pointer (some ⟨pb, 0, none⟩), .int .i64 n, f] ρ [] (fun v ρ' L' => v = .int .i64 2 ∧ ρ' = ρ ∧ L' = []) := by
 have ht := there_spec ρ n
 rw [decide_eq_false hn] at ht
 refine Ze Tryz.func65 rfl rfl rfl fun u R => ?_
 simp only [Zt, List.cons_append, List.nil_append]
 repeat' (first | (refine Zc (.func 70) ?_; refine qC rfl rfl (ht) ?_; rintro v ρ' L' hle ⟨rfl, rfl, rfl⟩ <;> (try simp only [kM, kN, kO])) | (refine iBu ?_; refine ZL (Zn rfl) rfl rfl ?_) | (refine Zg ?_; first | (refine Zf ?_; refine qQ ?_) | refine Zj ?_) | refine Za ?_ | (refine Zh ?_; refine Zu ?_) | (refine Zi ?_; refine Zv ?_) | intro _)
 exact qE ⟨rfl, rfl, rfl⟩
theorem own_none (ρ : Hp) (pb fb lb mb : Nat) (hp : PoIn ρ pb fb lb mb) (n : Int) (f : Value) (hn : 0 ≤ n ∧ n < 64) (pg : Pgs) (es : List MapEntry) (ck : Nat) (hm : MpIn ρ es pg) (hno : pg n = none) :
  Spec Tryz.prog 65 [.pointer (some ⟨pb, 0, none⟩), .int .i64 n, f] ρ [YD mb es ck] (fun v ρ' L' => v = .int .i64 4 ∧ ρ' = ρ ∧ L' = [YD mb es ck]) := by
 have ht := there_spec ρ n
 rw [decide_eq_true hn] at ht
 have hk := hm.keys
 have hg := hm.get n
 rw [hno] at hg
 simp only [Option.map_none] at hg
 refine Ze Tryz.func65 rfl rfl rfl fun u R => ?_
 simp only [Zt, List.cons_append, List.nil_append]
 repeat' (first | (refine Zc (.func 70) ?_; refine qC rfl rfl (ht) ?_; rintro v ρ' L' hle ⟨rfl, rfl, rfl⟩ <;> (try simp only [kM, kN, kO])) | (refine iBu ?_; refine ZL (Zn rfl) rfl rfl ?_) | (refine Zg ?_; first | (refine Zf ?_; refine qQ ?_) | refine Zj ?_) | refine Za ?_ | (refine Zh ?_; refine Zu ?_) | (refine Zi ?_; refine Zv ?_) | intro _)
 exact qE (L' := [YD mb es ck]) ⟨rfl, rfl, rfl⟩
theorem own_some (ρ : Hp) (pb fb lb mb : Nat) (hp : PoIn ρ pb fb lb mb) (n : Int) (hn : 0 ≤ n ∧ n < 64) (pg : Pgs) (es : List MapEntry) (ck : Nat) (hm : MpIn ρ es pg) (g : Pg) (hs : pg n = some g) (fn : Nat) [hF : Yf Tryz.prog fn] (cs : List Value) (X : SH) (Post : Value → Hp → SH → Prop)
  (hS : Spec Tryz.prog fn ([.agg ⟨pgV g⟩] ++ cs) ρ (YD mb es ck :: X) (fun v ρ' L' => (∃ e, v = .int .i64 e) ∧ Post v ρ' L')) :
  Spec Tryz.prog 65 [.pointer (some ⟨pb, 0, none⟩), .int .i64 n, .func (.func fn) ⟨[]⟩ ⟨cs⟩] ρ (YD mb es ck :: X) Post := by
 have ht := there_spec ρ n
 rw [decide_eq_true hn] at ht
 have hk := hm.keys
 have hg := hm.get n
 rw [hs] at hg
 simp only [Option.map_some] at hg
 refine Ze Tryz.func65 rfl rfl rfl fun u R => ?_
 simp only [Zt, List.cons_append, List.nil_append]
 repeat' (first | (refine Zc (.func 70) ?_; refine qC rfl rfl (ht) ?_; rintro v ρ' L' hle ⟨rfl, rfl, rfl⟩ <;> (try simp only [kM, kN, kO])) | (refine Zc (.tmp 27) ?_; refine qC rfl rfl hS ?_; rintro v1 ρ1 L1 hle1 ⟨⟨e, rfl⟩, hP⟩; try simp only [List.cons_append, List.nil_append, List.append_assoc, List.append_eq]) | (refine iBu ?_; refine ZL (Zn rfl) rfl rfl ?_) | (refine Zg ?_; first | (refine Zf ?_; refine qQ ?_) | refine Zj ?_) | refine Za ?_ | (refine Zh ?_; refine Zu ?_) | (refine Zi ?_; refine Zv ?_) | intro _)
 exact qE (L' := L1) hP
def delG (pg : Pgs) (n : Int) : Pgs := fun k => if k = n then none else pg k
theorem MpIn.del {ρ es es' pg} (h : MpIn ρ es pg) {n : Int} (hk : Yg .i64 es') (hu : UKeys es') (hg : ∀ j, YE es' j = if j = n then none else YE es j) : MpIn ρ es' (delG pg n) :=
 ⟨hk, hu, fun j => by
  rw [hg]; unfold delG
  split
  ·rfl
  ·exact h.get j, fun j g' hj => by
  unfold delG at hj
  split at hj
  ·cases hj
  ·exact h.cin j g' hj⟩
abbrev bpC (b pb : Nat) : List (Nat × Obj) := [(b, .cells ⟨[.pointer (some ⟨pb, 0, none⟩)]⟩ 57 (0, 0))]
abbrev bnC (b : Nat) (n : Int) : List (Nat × Obj) := [(b, .cells ⟨[.int .i64 n]⟩ 3 (0, 0))]
theorem evict1_spec (ρ : Hp) (b2 b3 pb fb lb mb : Nat) (hp : PoIn ρ pb fb lb mb) (n : Int) (pg : Pgs) (es : List MapEntry) (ck : Nat) (hm : MpIn ρ es pg) (g : Pg) :
  Spec Tryz.prog 68 [.agg ⟨pgV g⟩, .pointer (some ⟨b2, 0, none⟩), .pointer (some ⟨b3, 0, none⟩)] ρ [YD mb es ck, bpC b2 pb, bnC b3 n]
   (fun v ρ' L' => (∃ e, v = .int .i64 e) ∧ v = .int .i64 (if g.rc = 0 then 0 else 270) ∧ ρ' = ρ ∧ ∃ es' ck', MpIn ρ es' (if g.rc = 0 then delG pg n else pg) ∧ L' = [YD mb es' ck', bpC b2 pb, bnC b3 n]) := by
 have hk := hm.keys
 have hu := hm.uk
 refine Ze Tryz.func68 rfl rfl rfl fun u R => ?_
 simp only [Zt, List.cons_append, List.nil_append]
 by_cases h0 : g.rc = 0
 ·rw [if_pos h0, if_pos h0]
  have h1 : ((g.rc : Nat) : Int) = 0 := by omega
  repeat' (first | (refine iBu ?_; refine ZL (Zn rfl) rfl rfl ?_) | (refine Zg ?_; first | (refine Zf ?_; refine qQ ?_) | refine Zj ?_) | refine Za ?_ | (refine Zh ?_; refine Zu ?_) | (refine Zi ?_; refine Zv ?_) | intro _)
  refine Zz (Zr _ _ ([bpC b2 pb, bnC b3 n])) (Zy (hT := tk) (Hp.le_refl _)) ?_
  all_goals (refine ZX 0 ?_; refine rNc 1 ?_; refine Yv 2 ?_; refine ZX 3 ?_; refine ZX 4 ?_)
  all_goals (refine Zm (i := 5) ?_; ((try refine Zk ?_); (first | (refine tl_delete rfl rfl hk hu (fun es' h1 h2 h3 => ?_)) | (refine Zj ?_; try intro _)) <;> ((try simp only [kM, kN, kO]); refine Za ?_; refine Zl ?_)))
  all_goals refine ZI ?_
  all_goals (repeat' (first | (refine iBu ?_; refine ZL (Zn rfl) rfl rfl ?_) | (refine Zg ?_; first | (refine Zf ?_; refine qQ ?_) | refine Zj ?_) | refine Za ?_ | (refine Zh ?_; refine Zu ?_) | (refine Zi ?_; refine Zv ?_) | intro _))
  all_goals exact qE (L' := [YD mb es' ck, bpC b2 pb, bnC b3 n]) ⟨⟨_, rfl⟩, rfl, rfl, es', ck, hm.del h1 h2 h3, rfl⟩
 ·rw [if_neg h0, if_neg h0]
  have h1 : ¬ ((g.rc : Nat) : Int) = 0 := by omega
  repeat' (first | (refine iBu ?_; refine ZL (Zn rfl) rfl rfl ?_) | (refine Zg ?_; first | (refine Zf ?_; refine qQ ?_) | refine Zj ?_) | refine Za ?_ | (refine Zh ?_; refine Zu ?_) | (refine Zi ?_; refine Zv ?_) | intro _)
  exact qE (L' := [YD mb es ck, bpC b2 pb, bnC b3 n]) ⟨⟨_, rfl⟩, rfl, rfl, es, ck, hm, rfl⟩
def WM (pg : Pgs) (n : Int) : Int := if 0 ≤ n ∧ n < 64 then (match pg n with | none => 4 | some g => if g.rc = 0 then 0 else 270) else 2
def evictG (pg : Pgs) (n : Int) : Pgs := if WM pg n = 0 then delG pg n else pg
theorem evict17_spec (ρ : Hp) (pb fb lb mb : Nat) (hp : PoIn ρ pb fb lb mb) (n : Int) (pg : Pgs) (es : List MapEntry) (ck : Nat) (hm : MpIn ρ es pg) :
  Spec Tryz.prog 29 [.pointer (some ⟨pb, 0, none⟩), .int .i64 n] ρ [YD mb es ck]
   (fun v ρ' L' => v = .int .i64 (WM pg n) ∧ ρ' = ρ ∧ ∃ es' ck', MpIn ρ es' (evictG pg n) ∧ L' = [YD mb es' ck']) := by
 refine Ze Tryz.func29 rfl rfl rfl fun u R => ?_
 simp only [Zt, List.cons_append, List.nil_append]
 unfold evictG
 by_cases hn : 0 ≤ n ∧ n < 64
 ·cases hs : pg n with
  | none =>
   have e : WM pg n = 4 := by unfold WM; rw [if_pos hn, hs]
   rw [e, if_neg (by omega)]
   repeat' (first | (refine Zc (.func 65) ?_; refine qC rfl rfl (own_none ρ pb fb lb mb hp n _ hn pg es ck hm hs) ?_; rintro v ρ' L' hle ⟨rfl, rfl, rfl⟩ <;> (try simp only [kM, kN, kO])) | (refine iBu ?_; refine ZL (Zn rfl) rfl rfl ?_) | (refine Zg ?_; first | (refine Zf ?_; refine qQ ?_) | refine Zj ?_) | refine Za ?_ | (refine Zh ?_; refine Zu ?_) | (refine Zi ?_; refine Zv ?_) | intro _)
   exact qE (L' := [YD mb es ck]) ⟨rfl, rfl, es, ck, hm, rfl⟩
  | some g =>
   have e : WM pg n = if g.rc = 0 then 0 else 270 := by unfold WM; rw [if_pos hn, hs]
   have e2 : (if g.rc = 0 then delG pg n else pg) = if WM pg n = 0 then delG pg n else pg := by
    rw [e]
    by_cases h0 : g.rc = 0
    ·rw [if_pos h0, if_pos (by rw [if_pos h0])]
    ·rw [if_neg h0, if_neg (by rw [if_neg h0]; omega)]
   have hev := fun b2 b3 => own_some ρ pb fb lb mb hp n hn pg es ck hm g hs 68 [.pointer (some ⟨b2, 0, none⟩), .pointer (some ⟨b3, 0, none⟩)] [bpC b2 pb, bnC b3 n] _ (evict1_spec ρ b2 b3 pb fb lb mb hp n pg es ck hm g)
   rw [← e2, e]
   repeat' (first | (refine Zc (.func 65) ?_; refine qC rfl rfl (hev _ _) ?_; rintro v1 ρ1 L1 hle1 ⟨rfl, rfl, es', ck', hm1, rfl⟩; try simp only [List.cons_append, List.nil_append, List.append_assoc, List.append_eq]) | (refine iBu ?_; refine ZL (Zn rfl) rfl rfl ?_) | (refine Zg ?_; first | (refine Zf ?_; refine qQ ?_) | refine Zj ?_) | refine Za ?_ | (refine Zh ?_; refine Zu ?_) | (refine Zi ?_; refine Zv ?_) | intro _)
   exact qE (L' := [YD mb es' ck']) ⟨rfl, rfl, es', ck', hm1, rfl⟩
 ·have e : WM pg n = 2 := by unfold WM; rw [if_neg hn]
  rw [e, if_neg (by omega)]
  repeat' (first | (refine Zc (.func 65) ?_; refine qC rfl rfl (own_arg _ _ _ _ hn) ?_; rintro v ρ' L' hle ⟨rfl, rfl, rfl⟩ <;> (try simp only [kM, kN, kO])) | (refine iBu ?_; refine ZL (Zn rfl) rfl rfl ?_) | (refine Zg ?_; first | (refine Zf ?_; refine qQ ?_) | refine Zj ?_) | refine Za ?_ | (refine Zh ?_; refine Zu ?_) | (refine Zi ?_; refine Zv ?_) | intro _)
  exact qE (L' := [YD mb es ck]) ⟨rfl, rfl, es, ck, hm, rfl⟩
structure PgOk (g : Pg) : Prop where
 ok : ZT g.c = true
 fit : IdFit g.c
 lsn : g.lsn < 18446744073709551616
def stealF (S : LgS) (D : DS) (g : Pg) : LgS × DS × Int := if S.fl < g.lsn then S.flush g.lsn D else (S, D, 0)
def Wt (S : LgS) (D : DS) (base num : Nat) (g : Pg) : LgS × DS × Int :=
 if (stealF S D g).2.2 ≠ 0 then stealF S D g else ((stealF S D g).1, XJ (stealF S D g).2.1 base num g.lsn g.c)
theorem steal1_spec (ρ : Hp) (b2 b3 pb fb lb mb rb db base num : Nat) (hp : PoIn ρ pb fb lb mb) (hf : FIn ρ fb db base) (hb : base ≤ 100000) (hn : num < 64) (pg : Pgs) (es : List MapEntry) (ck : Nat) (hm : MpIn ρ es pg) (g : Pg) (hs : pg num = some g) (hg : PgOk g) (h0 : g.rc ≠ 0)
  (S : LgS) (v : Value) (sp : List Value) (h : LgIn ρ S v sp) (w : RW) (hR : RIn ρ S.R w) (k : DK) (D : DS) (hD : DOk k D) (hfl : S.fl < 1000000000000000) :
  Spec Tryz.prog 66 [.agg ⟨pgV g⟩, .pointer (some ⟨b2, 0, none⟩), .pointer (some ⟨b3, 0, none⟩)] ρ (YD mb es ck :: bpC b2 pb :: bnC b3 num :: YB lb rb S v :: Xf S v sp :: (Xe rb db S.R w ++ ZA db k D))
   (fun z ρ' L' => (∃ e, z = .int .i64 e) ∧ z = .int .i64 (Wt S D base num g).2.2 ∧ ρ.le ρ' ∧ ∃ es' ck' w' k', MpIn ρ' es' (if (Wt S D base num g).2.2 = 0 then updG pg num { g with rc := 0 } else pg) ∧ RIn ρ' (Wt S D base num g).1.R w' ∧ DOk k' (Wt S D base num g).2.1 ∧
    L' = YD mb es' ck' :: bpC b2 pb :: bnC b3 num :: YB lb rb (Wt S D base num g).1 v :: Xf S v sp :: (Xe rb db (Wt S D base num g).1.R w' ++ ZA db k' (Wt S D base num g).2.1)) := by
 have hk := hm.keys
 have hu := hm.uk
 have hcin := hm.cin num g hs
 have hfs := fun ρ => flushed16_spec ρ lb rb S v
 have hflu := flush16_spec ρ lb rb db S v sp h w hR k D hD g.lsn hfl
 have hwr := fun {ρ' : Hp} (hle : ρ.le ρ') (k : DK) (D : DS) (hD : DOk k D) => Write_spec ρ' fb db base num g.lsn (hf.mono hle) hb hn hg.lsn g.c g.w (hcin.mono hle) hg.ok (fun r hr => (hg.fit.row r hr).id) hg.fit.kid k D hD
 have hput := fun {ρ' : Hp} (hle : ρ.le ρ') {es' : List MapEntry} h1 h2 h3 => (hm.mono hle).put (n := num) (g := { g with rc := 0 }) (es' := es') h1 h2 h3 (hcin.mono hle)
 have hst : Wt S D base num g = if (stealF S D g).2.2 ≠ 0 then stealF S D g else ((stealF S D g).1, XJ (stealF S D g).2.1 base num g.lsn g.c) := rfl
 have hstf : stealF S D g = if S.fl < g.lsn then S.flush g.lsn D else (S, D, 0) := rfl
 have hrc : ¬ ((g.rc : Nat) : Int) = 0 := by omega
 obtain ⟨gc, gw, glsn, grc⟩ := g
 dsimp only at *
 by_cases hlt : S.fl < glsn
 ·rw [if_pos hlt] at hstf
  rw [hstf] at hst
  generalize S.flush glsn D = q at *
  obtain ⟨S1, D1, e1⟩ := q
  dsimp only at *
  refine Ze Tryz.func66 rfl rfl rfl fun u R => ?_
  simp only [Zt, List.cons_append, List.nil_append]
  repeat' (first | (refine iBu ?_; refine ZL (Zn rfl) rfl rfl ?_) | (refine Zg ?_; first | (refine Zf ?_; refine qQ ?_) | refine Zj ?_) | refine Za ?_ | (refine Zh ?_; refine Zu ?_) | (refine Zi ?_; refine Zv ?_) | intro _)
  rename_i b1
  refine Zz (Zr _ _ ([bpC b2 pb, [(b1, .cells ⟨pgV ⟨gc, gw, glsn, grc⟩⟩ 132 (0, 0))]])) (Zy (hT := tk) (Hp.le_refl _)) ?_
  all_goals (refine ZX 0 ?_; refine rNc 1 ?_; refine Yv 2 ?_; refine ZX 3 ?_; refine Yv 5 ?_; refine ZX 6 ?_)
  all_goals (refine Zm (i := 4) ?_; ((try refine Zk ?_); (first | (refine Zc (.func 17) ?_; refine qC rfl rfl (hfs _) ?_; rintro v ρ' L' hle ⟨rfl, rfl, rfl⟩ <;> (try simp only [kM, kN, kO])) | (refine Zj ?_; try intro _)) <;> ((try simp only [kM, kN, kO]); refine Za ?_; refine Zl ?_)))
  all_goals (refine ZN ?_; refine rCm 7 ?_; refine ZI ?_)
  all_goals (repeat' (first | (refine iBu ?_; refine ZL (Zn rfl) rfl rfl ?_) | (refine Zg ?_; first | (refine Zf ?_; refine qQ ?_) | refine Zj ?_) | refine Za ?_ | (refine Zh ?_; refine Zu ?_) | (refine Zi ?_; refine Zv ?_) | intro _))
  all_goals refine Zz (Zr _ _ ([bpC b2 pb, [(b1, .cells ⟨pgV ⟨gc, gw, glsn, grc⟩⟩ 132 (0, 0))]])) (Zy (hT := tk) (Hp.le_refl _)) ?_
  all_goals (refine ZX 0 ?_; refine rNc 1 ?_; refine Yv 2 ?_; refine ZX 3 ?_; refine Yv 4 ?_; refine ZX 5 ?_)
  all_goals (refine Zm (i := 6) ?_; ((try refine Zk ?_); (first | (refine Zc (.func 12) ?_; refine qC rfl rfl hflu ?_; rintro v1 ρ1 L1 hle1 ⟨rfl, hl1, w1, k1, hR1, hD1, rfl⟩; try simp only [List.cons_append, List.nil_append, List.append_assoc, List.append_eq]) | (refine Zj ?_; try intro _)) <;> ((try simp only [kM, kN, kO]); refine Za ?_; refine Zl ?_)))
  all_goals (refine ZN ?_; refine rAs 7 ?_; refine ZI ?_)
  all_goals (repeat' (first | (refine iBu ?_; refine ZL (Zn rfl) rfl rfl ?_) | (refine Zg ?_; first | (refine Zf ?_; refine qQ ?_) | refine Zj ?_) | refine Za ?_ | (refine Zh ?_; refine Zu ?_) | (refine Zi ?_; refine Zv ?_) | intro _))
  all_goals
   by_cases hz : e1 = 0
   ·subst hz
    rw [if_neg (by simp)] at hst
    have hp1 := Hp.at' hl1 hp
    have hw1 := hwr hl1 k1 D1 hD1
    generalize XJ D1 base num glsn gc = q at *
    obtain ⟨D2, e2⟩ := q
    rw [hst]
    dsimp only at hw1 ⊢
    rw [show ((0 : Int) != 0) = false from rfl]
    repeat' (first | (refine iBu ?_; refine ZL (Zn rfl) rfl rfl ?_) | (refine Zg ?_; first | (refine Zf ?_; refine qQ ?_) | refine Zj ?_) | refine Za ?_ | (refine Zh ?_; refine Zu ?_) | (refine Zi ?_; refine Zv ?_) | intro _)
    refine Zz (Zr _ _ ([bpC b2 pb, bnC b3 num, [(b1, .cells ⟨pgV ⟨gc, gw, glsn, grc⟩⟩ 132 (0, 0))]])) (Zy (hT := tk) (Hp.le_refl _)) ?_
    all_goals (refine ZX 0 ?_; refine rNc 1 ?_; refine Yv 2 ?_; refine ZX 3 ?_; refine ZX 4 ?_; refine Yv 5 ?_; refine ZX 6 ?_; refine Yv 7 ?_; refine ZX 8 ?_)
    all_goals (refine Zm (i := 9) ?_; ((try refine Zk ?_); (first | (refine Zc (.func 67) ?_; refine qC rfl rfl hw1 ?_; rintro v2 ρ2 L2 hle2 ⟨rfl, hl2, k2, hD2, rfl⟩; have hp2 := Hp.at' hl2 hp1; try simp only [List.cons_append, List.nil_append, List.append_assoc, List.append_eq]) | (refine Zj ?_; try intro _)) <;> ((try simp only [kM, kN, kO]); refine Za ?_; refine Zl ?_)))
    all_goals (refine ZN ?_; refine rAs 10 ?_; refine ZI ?_)
    all_goals (repeat' (first | (refine iBu ?_; refine ZL (Zn rfl) rfl rfl ?_) | (refine Zg ?_; first | (refine Zf ?_; refine qQ ?_) | refine Zj ?_) | refine Za ?_ | (refine Zh ?_; refine Zu ?_) | (refine Zi ?_; refine Zv ?_) | intro _))
    all_goals
     have hl12 := Hp.le_trans hl1 hl2
     by_cases hz : e2 = 0
     ·subst hz
      rw [show ((0 : Int) != 0) = false from rfl]
      repeat' (first | (refine iBu ?_; refine ZL (Zn rfl) rfl rfl ?_) | (refine Zg ?_; first | (refine Zf ?_; refine qQ ?_) | refine Zj ?_) | refine Za ?_ | (refine Zh ?_; refine Zu ?_) | (refine Zi ?_; refine Zv ?_) | intro _)
      refine Zz (Zr _ _ ([bpC b2 pb, bnC b3 num, [(b1, .cells ⟨pgV ⟨gc, gw, glsn, 0⟩⟩ 132 (0, 0))]])) (Zy (hT := tk) (Hp.le_refl _)) ?_
      all_goals (refine ZX 0 ?_; refine rNc 1 ?_; refine Yv 2 ?_; refine ZX 3 ?_; refine ZX 4 ?_; refine ZX 5 ?_)
      all_goals (refine Zm (i := 6) ?_; ((try refine Zk ?_); (first | (refine WS rfl rfl rfl hk hu (fun es' ck' h1 h2 h3 => ?_)) | (refine Zj ?_; try intro _)) <;> ((try simp only [kM, kN, kO]); refine Za ?_; refine Zl ?_)))
      all_goals refine ZI ?_
      all_goals (repeat' (first | (refine iBu ?_; refine ZL (Zn rfl) rfl rfl ?_) | (refine Zg ?_; first | (refine Zf ?_; refine qQ ?_) | refine Zj ?_) | refine Za ?_ | (refine Zh ?_; refine Zu ?_) | (refine Zi ?_; refine Zv ?_) | intro _))
      all_goals exact qE (L' := YD mb es' ck' :: bpC b2 pb :: bnC b3 num :: YB lb rb S1 v :: Xf S v sp :: (Xe rb db S1.R w1 ++ ZA db k2 D2)) ⟨⟨_, rfl⟩, rfl, hl12, es', ck', w1, k2, by simp only [if_true]; exact hput hl12 h1 h2 h3, hR1.mono hl2, hD2, rfl⟩
     ·have hcb : (e2 != 0) = true := by simpa using hz
      rw [hcb]
      repeat' (first | (refine iBu ?_; refine ZL (Zn rfl) rfl rfl ?_) | (refine Zg ?_; first | (refine Zf ?_; refine qQ ?_) | refine Zj ?_) | refine Za ?_ | (refine Zh ?_; refine Zu ?_) | (refine Zi ?_; refine Zv ?_) | intro _)
      exact qE (L' := YD mb es ck :: bpC b2 pb :: bnC b3 num :: YB lb rb S1 v :: Xf S v sp :: (Xe rb db S1.R w1 ++ ZA db k2 D2)) ⟨⟨_, rfl⟩, rfl, hl12, es, ck, w1, k2, by rw [if_neg hz]; exact hm.mono hl12, hR1.mono hl2, hD2, rfl⟩
   ·have hcb : (e1 != 0) = true := by simpa using hz
    rw [if_pos hz] at hst
    rw [hst, hcb]
    dsimp only
    repeat' (first | (refine iBu ?_; refine ZL (Zn rfl) rfl rfl ?_) | (refine Zg ?_; first | (refine Zf ?_; refine qQ ?_) | refine Zj ?_) | refine Za ?_ | (refine Zh ?_; refine Zu ?_) | (refine Zi ?_; refine Zv ?_) | intro _)
    exact qE (L' := YD mb es ck :: bpC b2 pb :: bnC b3 num :: YB lb rb S1 v :: Xf S v sp :: (Xe rb db S1.R w1 ++ ZA db k1 D1)) ⟨⟨_, rfl⟩, rfl, hl1, es, ck, w1, k1, by rw [if_neg hz]; exact hm.mono hl1, hR1, hD1, rfl⟩
 ·rw [if_neg hlt] at hstf
  rw [hstf] at hst
  rw [if_neg (by simp)] at hst
  have hw1 := hwr (Hp.le_refl _) k D hD
  dsimp only at hst
  generalize XJ D base num glsn gc = q at *
  obtain ⟨D2, e2⟩ := q
  rw [hst]
  dsimp only at hw1 ⊢
  refine Ze Tryz.func66 rfl rfl rfl fun u R => ?_
  simp only [Zt, List.cons_append, List.nil_append]
  repeat' (first | (refine iBu ?_; refine ZL (Zn rfl) rfl rfl ?_) | (refine Zg ?_; first | (refine Zf ?_; refine qQ ?_) | refine Zj ?_) | refine Za ?_ | (refine Zh ?_; refine Zu ?_) | (refine Zi ?_; refine Zv ?_) | intro _)
  rename_i b1
  refine Zz (Zr _ _ ([bpC b2 pb, [(b1, .cells ⟨pgV ⟨gc, gw, glsn, grc⟩⟩ 132 (0, 0))]])) (Zy (hT := tk) (Hp.le_refl _)) ?_
  all_goals (refine ZX 0 ?_; refine rNc 1 ?_; refine Yv 2 ?_; refine ZX 3 ?_; refine Yv 5 ?_; refine ZX 6 ?_)
  all_goals (refine Zm (i := 4) ?_; ((try refine Zk ?_); (first | (refine Zc (.func 17) ?_; refine qC rfl rfl (hfs _) ?_; rintro v ρ' L' hle ⟨rfl, rfl, rfl⟩ <;> (try simp only [kM, kN, kO])) | (refine Zj ?_; try intro _)) <;> ((try simp only [kM, kN, kO]); refine Za ?_; refine Zl ?_)))
  all_goals (refine ZN ?_; refine rCm 7 ?_; refine ZI ?_)
  all_goals (repeat' (first | (refine iBu ?_; refine ZL (Zn rfl) rfl rfl ?_) | (refine Zg ?_; first | (refine Zf ?_; refine qQ ?_) | refine Zj ?_) | refine Za ?_ | (refine Zh ?_; refine Zu ?_) | (refine Zi ?_; refine Zv ?_) | intro _))
  all_goals refine Zz (Zr _ _ ([bpC b2 pb, bnC b3 num, [(b1, .cells ⟨pgV ⟨gc, gw, glsn, grc⟩⟩ 132 (0, 0))]])) (Zy (hT := tk) (Hp.le_refl _)) ?_
  all_goals (refine ZX 0 ?_; refine rNc 1 ?_; refine Yv 2 ?_; refine ZX 3 ?_; refine ZX 4 ?_; refine Yv 5 ?_; refine ZX 6 ?_; refine Yv 7 ?_; refine ZX 8 ?_)
  all_goals (refine Zm (i := 9) ?_; ((try refine Zk ?_); (first | (refine Zc (.func 67) ?_; refine qC rfl rfl hw1 ?_; rintro v2 ρ2 L2 hle2 ⟨rfl, hl2, k2, hD2, rfl⟩; have hp2 := Hp.at' hl2 hp; try simp only [List.cons_append, List.nil_append, List.append_assoc, List.append_eq]) | (refine Zj ?_; try intro _)) <;> ((try simp only [kM, kN, kO]); refine Za ?_; refine Zl ?_)))
  all_goals (refine ZN ?_; refine rAs 10 ?_; refine ZI ?_)
  all_goals (repeat' (first | (refine iBu ?_; refine ZL (Zn rfl) rfl rfl ?_) | (refine Zg ?_; first | (refine Zf ?_; refine qQ ?_) | refine Zj ?_) | refine Za ?_ | (refine Zh ?_; refine Zu ?_) | (refine Zi ?_; refine Zv ?_) | intro _))
  all_goals
   by_cases hz : e2 = 0
   ·subst hz
    rw [show ((0 : Int) != 0) = false from rfl]
    repeat' (first | (refine iBu ?_; refine ZL (Zn rfl) rfl rfl ?_) | (refine Zg ?_; first | (refine Zf ?_; refine qQ ?_) | refine Zj ?_) | refine Za ?_ | (refine Zh ?_; refine Zu ?_) | (refine Zi ?_; refine Zv ?_) | intro _)
    refine Zz (Zr _ _ ([bpC b2 pb, bnC b3 num, [(b1, .cells ⟨pgV ⟨gc, gw, glsn, 0⟩⟩ 132 (0, 0))]])) (Zy (hT := tk) (Hp.le_refl _)) ?_
    all_goals (refine ZX 0 ?_; refine rNc 1 ?_; refine Yv 2 ?_; refine ZX 3 ?_; refine ZX 4 ?_; refine ZX 5 ?_)
    all_goals (refine Zm (i := 6) ?_; ((try refine Zk ?_); (first | (refine WS rfl rfl rfl hk hu (fun es' ck' h1 h2 h3 => ?_)) | (refine Zj ?_; try intro _)) <;> ((try simp only [kM, kN, kO]); refine Za ?_; refine Zl ?_)))
    all_goals refine ZI ?_
    all_goals (repeat' (first | (refine iBu ?_; refine ZL (Zn rfl) rfl rfl ?_) | (refine Zg ?_; first | (refine Zf ?_; refine qQ ?_) | refine Zj ?_) | refine Za ?_ | (refine Zh ?_; refine Zu ?_) | (refine Zi ?_; refine Zv ?_) | intro _))
    all_goals exact qE (L' := YD mb es' ck' :: bpC b2 pb :: bnC b3 num :: YB lb rb S v :: Xf S v sp :: (Xe rb db S.R w ++ ZA db k2 D2)) ⟨⟨_, rfl⟩, rfl, hl2, es', ck', w, k2, by simp only [if_true]; exact hput hl2 h1 h2 h3, hR.mono hl2, hD2, rfl⟩
   ·have hcb : (e2 != 0) = true := by simpa using hz
    rw [hcb]
    repeat' (first | (refine iBu ?_; refine ZL (Zn rfl) rfl rfl ?_) | (refine Zg ?_; first | (refine Zf ?_; refine qQ ?_) | refine Zj ?_) | refine Za ?_ | (refine Zh ?_; refine Zu ?_) | (refine Zi ?_; refine Zv ?_) | intro _)
    exact qE (L' := YD mb es ck :: bpC b2 pb :: bnC b3 num :: YB lb rb S v :: Xf S v sp :: (Xe rb db S.R w ++ ZA db k2 D2)) ⟨⟨_, rfl⟩, rfl, hl2, es, ck, w, k2, by rw [if_neg hz]; exact hm.mono hl2, hR.mono hl2, hD2, rfl⟩
def stealE (pg : Pgs) (n : Int) : Int := if 0 ≤ n ∧ n < 64 then (match pg n with | none => 4 | some _ => 0) else 2
theorem steal17_not (ρ : Hp) (pb fb lb mb : Nat) (hp : PoIn ρ pb fb lb mb) (n : Int) (pg : Pgs) (es : List MapEntry) (ck : Nat) (hm : MpIn ρ es pg) (hno : ∀ g, pg n = some g → 0 ≤ n ∧ n < 64 → g.rc = 0) :
  Spec Tryz.prog 28 [.pointer (some ⟨pb, 0, none⟩), .int .i64 n] ρ [YD mb es ck] (fun v ρ' L' => v = .int .i64 (stealE pg n) ∧ ρ' = ρ ∧ L' = [YD mb es ck]) := by
 refine Ze Tryz.func28 rfl rfl rfl fun u R => ?_
 simp only [Zt, List.cons_append, List.nil_append]
 by_cases hn : 0 ≤ n ∧ n < 64
 ·cases hs : pg n with
  | none =>
   have e : stealE pg n = 4 := by unfold stealE; rw [if_pos hn, hs]
   rw [e]
   repeat' (first | (refine Zc (.func 65) ?_; refine qC rfl rfl (own_none ρ pb fb lb mb hp n _ hn pg es ck hm hs) ?_; rintro v ρ' L' hle ⟨rfl, rfl, rfl⟩ <;> (try simp only [kM, kN, kO])) | (refine iBu ?_; refine ZL (Zn rfl) rfl rfl ?_) | (refine Zg ?_; first | (refine Zf ?_; refine qQ ?_) | refine Zj ?_) | refine Za ?_ | (refine Zh ?_; refine Zu ?_) | (refine Zi ?_; refine Zv ?_) | intro _)
   exact qE (L' := [YD mb es ck]) ⟨rfl, rfl, rfl⟩
  | some g =>
   have e : stealE pg n = 0 := by unfold stealE; rw [if_pos hn, hs]
   rw [e]
   have h0 : ((g.rc : Nat) : Int) = 0 := by have := hno g hs hn; omega
   have h1 : ∀ b2 b3, Spec Tryz.prog 66 ([.agg ⟨pgV g⟩] ++ [.pointer (some ⟨b2, 0, none⟩), .pointer (some ⟨b3, 0, none⟩)]) ρ (YD mb es ck :: [bpC b2 pb, bnC b3 n]) (fun v ρ' L' => (∃ e, v = .int .i64 e) ∧ v = .int .i64 0 ∧ ρ' = ρ ∧ L' = [YD mb es ck, bpC b2 pb, bnC b3 n]) := fun b2 b3 => by
    refine Ze Tryz.func66 rfl rfl rfl fun u R => ?_
    simp only [Zt, List.cons_append, List.nil_append]
    repeat' (first | (refine iBu ?_; refine ZL (Zn rfl) rfl rfl ?_) | (refine Zg ?_; first | (refine Zf ?_; refine qQ ?_) | refine Zj ?_) | refine Za ?_ | (refine Zh ?_; refine Zu ?_) | (refine Zi ?_; refine Zv ?_) | intro _)
    exact qE (L' := [YD mb es ck, bpC b2 pb, bnC b3 n]) ⟨⟨_, rfl⟩, rfl, rfl, rfl⟩
   have hev := fun b2 b3 => own_some ρ pb fb lb mb hp n hn pg es ck hm g hs 66 _ _ _ (h1 b2 b3)
   repeat' (first | (refine Zc (.func 65) ?_; refine qC rfl rfl (hev _ _) ?_; rintro v1 ρ1 L1 hle1 ⟨rfl, rfl, rfl⟩; try simp only [List.cons_append, List.nil_append, List.append_assoc, List.append_eq]) | (refine iBu ?_; refine ZL (Zn rfl) rfl rfl ?_) | (refine Zg ?_; first | (refine Zf ?_; refine qQ ?_) | refine Zj ?_) | refine Za ?_ | (refine Zh ?_; refine Zu ?_) | (refine Zi ?_; refine Zv ?_) | intro _)
   exact qE (L' := [YD mb es ck]) ⟨rfl, rfl, rfl⟩
 ·have e : stealE pg n = 2 := by unfold stealE; rw [if_neg hn]
  rw [e]
  repeat' (first | (refine Zc (.func 65) ?_; refine qC rfl rfl (own_arg _ _ _ _ hn) ?_; rintro v ρ' L' hle ⟨rfl, rfl, rfl⟩ <;> (try simp only [kM, kN, kO])) | (refine iBu ?_; refine ZL (Zn rfl) rfl rfl ?_) | (refine Zg ?_; first | (refine Zf ?_; refine qQ ?_) | refine Zj ?_) | refine Za ?_ | (refine Zh ?_; refine Zu ?_) | (refine Zi ?_; refine Zv ?_) | intro _)
  exact qE (L' := [YD mb es ck]) ⟨rfl, rfl, rfl⟩
theorem steal17_spec (ρ : Hp) (pb fb lb mb rb db base num : Nat) (hp : PoIn ρ pb fb lb mb) (hf : FIn ρ fb db base) (hb : base ≤ 100000) (hn : num < 64) (pg : Pgs) (es : List MapEntry) (ck : Nat) (hm : MpIn ρ es pg) (g : Pg) (hs : pg num = some g) (hg : PgOk g) (h0 : g.rc ≠ 0)
  (S : LgS) (v : Value) (sp : List Value) (h : LgIn ρ S v sp) (w : RW) (hR : RIn ρ S.R w) (k : DK) (D : DS) (hD : DOk k D) (hfl : S.fl < 1000000000000000) :
  Spec Tryz.prog 28 [.pointer (some ⟨pb, 0, none⟩), .int .i64 num] ρ (YD mb es ck :: YB lb rb S v :: Xf S v sp :: (Xe rb db S.R w ++ ZA db k D))
   (fun z ρ' L' => z = .int .i64 (Wt S D base num g).2.2 ∧ ρ.le ρ' ∧ ∃ es' ck' w' k', MpIn ρ' es' (if (Wt S D base num g).2.2 = 0 then updG pg num { g with rc := 0 } else pg) ∧ RIn ρ' (Wt S D base num g).1.R w' ∧ DOk k' (Wt S D base num g).2.1 ∧
    L' = YD mb es' ck' :: YB lb rb (Wt S D base num g).1 v :: Xf S v sp :: (Xe rb db (Wt S D base num g).1.R w' ++ ZA db k' (Wt S D base num g).2.1)) := by
 have h1 := fun b2 b3 => steal1_spec ρ b2 b3 pb fb lb mb rb db base num hp hf hb hn pg es ck hm g hs hg h0 S v sp h w hR k D hD hfl
 have hev := fun b2 b3 => own_some ρ pb fb lb mb hp num ⟨by omega, by omega⟩ pg es ck hm g hs 66 [.pointer (some ⟨b2, 0, none⟩), .pointer (some ⟨b3, 0, none⟩)] _ _ (h1 b2 b3)
 generalize Wt S D base num g = q at *
 obtain ⟨S1, D1, e1⟩ := q
 dsimp only at *
 refine Ze Tryz.func28 rfl rfl rfl fun u R => ?_
 simp only [Zt, List.cons_append, List.nil_append]
 repeat' (first | (refine Zc (.func 65) ?_; refine qC rfl rfl (hev _ _) ?_; rintro v1 ρ1 L1 hle1 ⟨rfl, hl1, es', ck', w1, k1, hm1, hR1, hD1, rfl⟩; try simp only [List.cons_append, List.nil_append, List.append_assoc, List.append_eq]) | (refine iBu ?_; refine ZL (Zn rfl) rfl rfl ?_) | (refine Zg ?_; first | (refine Zf ?_; refine qQ ?_) | refine Zj ?_) | refine Za ?_ | (refine Zh ?_; refine Zu ?_) | (refine Zi ?_; refine Zv ?_) | intro _)
 exact qE (L' := YD mb es' ck' :: YB lb rb S1 v :: Xf S v sp :: (Xe rb db S1.R w1 ++ ZA db k1 D1)) ⟨rfl, hl1, es', ck', w1, k1, hm1, hR1, hD1, rfl⟩
abbrev NP := Nat × Pg
def allTo (pg : Pgs) (n : Nat) : List NP := (List.range n).filterMap (fun i => (pg (i : Nat)).map (fun g => (i, g)))
abbrev allG (pg : Pgs) : List NP := allTo pg 64
theorem allTo_some {pg : Pgs} {n : Nat} {g : Pg} (h : pg (n : Nat) = some g) : allTo pg (n + 1) = allTo pg n ++ [(n, g)] := by
 unfold allTo; rw [List.range_succ, List.filterMap_append]; simp [h]
theorem allTo_none {pg : Pgs} {n : Nat} (h : pg (n : Nat) = none) : allTo pg (n + 1) = allTo pg n := by
 unfold allTo; rw [List.range_succ, List.filterMap_append]; simp [h]
theorem allTo_pre {pg : Pgs} {n m : Nat} (h : n ≤ m) : allTo pg n <+: allTo pg m := by
 induction m with
 | zero => rw [Nat.le_zero.1 h]; exact List.prefix_refl _
 | succ m ih =>
  rcases Nat.lt_or_ge n (m + 1) with h1 | h1
  ·refine (ih (by omega)).trans ?_
   cases hp : pg (m : Nat) with
   | none => rw [allTo_none hp]; exact List.prefix_refl _
   | some g => rw [allTo_some hp]; exact List.prefix_append _ _
  ·rw [show n = m + 1 by omega]; exact List.prefix_refl _
theorem allTo_len (pg : Pgs) (n : Nat) : (allTo pg n).length ≤ n := by
 unfold allTo
 exact Nat.le_trans (List.length_filterMap_le _ _) (by simp)
abbrev npE (x : NP) : List Value := [.int .i64 x.1, .agg ⟨pgV x.2⟩]
theorem all17_spec (ρ : Hp) (pb : Nat) : Spec Tryz.prog 69 [.pointer (some ⟨pb, 0, none⟩)] ρ [] (fun v ρ' L' => ∃ b1, v = .func (.func 124) ⟨[]⟩ ⟨[.pointer (some ⟨b1, 0, none⟩)]⟩ ∧ ρ' = ρ ∧ L' = [bpC b1 pb]) := by
 refine Ze Tryz.func69 rfl rfl rfl fun u R => ?_
 simp only [Zt, List.cons_append, List.nil_append]
 repeat' (first | (refine iBu ?_; refine ZL (Zn rfl) rfl rfl ?_) | (refine Zg ?_; first | (refine Zf ?_; refine qQ ?_) | refine Zj ?_) | refine Za ?_ | (refine Zh ?_; refine Zu ?_) | (refine Zi ?_; refine Zv ?_) | intro _)
 rename_i b1
 exact qE (L' := [bpC b1 pb]) ⟨b1, rfl, rfl, rfl⟩
theorem all17_iter (ρ0 : Hp) (b1 pb fb lb mb : Nat) (hp : PoIn ρ0 pb fb lb mb) (pg : Pgs) (es : List MapEntry) (ck : Nat) (hm : MpIn ρ0 es pg) :
  Iter Tryz.prog 124 [] [.pointer (some ⟨b1, 0, none⟩)] npE ρ0 [bpC b1 pb, YD mb es ck] (allG pg) := by
 intro l J Jx hY ρ Lj hl0 hJ
 have hk := hm.keys
 refine Ze Tryz.func124 rfl rfl rfl fun u R => ?_
 simp only [Zt, List.cons_append, List.nil_append, List.append_assoc]
 repeat' (first | (refine iBu ?_; refine ZL (Zn rfl) rfl rfl ?_) | (refine Zg ?_; first | (refine Zf ?_; refine qQ ?_) | refine Zj ?_) | refine Za ?_ | (refine Zh ?_; refine Zu ?_) | (refine Zi ?_; refine Zv ?_) | intro _)
 refine ZH [(0, _), (1, _)] (fun (ζ : (Nat) × (Hp) × (SH)) => [(6, .int .i64 ζ.1)]) (fun (ζ : (Nat) × (Hp) × (SH)) => ζ.2.1) (fun (ζ : (Nat) × (Hp) × (SH)) => bpC b1 pb :: YD mb es ck :: ζ.2.2) (fun (ζ : (Nat) × (Hp) × (SH)) => ζ.1 ≤ 64 ∧ ρ.le ζ.2.1 ∧ J (allTo pg ζ.1) ζ.2.1 ζ.2.2) (fun (ζ : (Nat) × (Hp) × (SH)) => 64 - ζ.1) ((0, ρ, Lj)) (⟨Nat.zero_le _, Hp.le_refl _, hJ⟩) Zo Zo rfl tk ?_
 rintro ⟨k, ρ1, L1⟩ hI
 try simp only [List.cons_append, List.nil_append, List.append_assoc, List.append_eq] at hI ⊢
 try dsimp only at hI ⊢
 obtain ⟨hk64, hle1, hj⟩ := hI
 by_cases hlt : k < 64
 ·have hl1 := Hp.le_trans hl0 hle1
  have hp1 := Hp.at' hl1 hp
  have hg := hm.get k
  cases hs : pg (k : Nat) with
  | none =>
   rw [hs] at hg
   simp only [Option.map_none] at hg
   repeat' (first | (refine iBu ?_; refine ZL (Zn rfl) rfl rfl ?_) | (refine Zg ?_; first | (refine Zf ?_; refine qQ ?_) | refine Zj ?_) | refine Za ?_ | (refine Zh ?_; refine Zu ?_) | (refine Zi ?_; refine Zv ?_) | intro _)
   refine Zx (k + 1, ρ1, L1) (⟨hlt, hle1, by dsimp only; rw [allTo_none hs]; exact hj⟩) Zo Zo rfl tk inferInstance (by first | omega | (dsimp only; omega))
  | some g =>
   rw [hs] at hg
   simp only [Option.map_some] at hg
   have hts := allTo_some hs
   have hpre : allTo pg k ++ [(k, g)] <+: allG pg := by rw [← hts]; exact allTo_pre (by omega)
   have hy := hY _ _ ρ1 L1 hpre hl1 hj
   repeat' (first | (refine Zc (.tmp 20) ?_; refine qY rfl rfl (hy) ?_; rintro v ρ' L' hle ⟨Lj', rfl, ⟨rfl, hj'⟩ | ⟨rfl, hj'⟩⟩ <;> (try simp only [kM, kN, kO])) | (refine iBu ?_; refine ZL (Zn rfl) rfl rfl ?_) | (refine Zg ?_; first | (refine Zf ?_; refine qQ ?_) | refine Zj ?_) | refine Za ?_ | (refine Zh ?_; refine Zu ?_) | (refine Zi ?_; refine Zv ?_) | intro _)
   ·repeat' (first | (refine iBu ?_; refine ZL (Zn rfl) rfl rfl ?_) | (refine Zg ?_; first | (refine Zf ?_; refine qQ ?_) | refine Zj ?_) | refine Za ?_ | (refine Zh ?_; refine Zu ?_) | (refine Zi ?_; refine Zv ?_) | intro _)
    refine Zx (k + 1, ρ', Lj') (⟨hlt, Hp.le_trans hle1 hle, by dsimp only; rw [hts]; exact hj'⟩) Zo Zo rfl tk inferInstance (by first | omega | (dsimp only; omega))
   ·repeat' (first | (refine iBu ?_; refine ZL (Zn rfl) rfl rfl ?_) | (refine Zg ?_; first | (refine Zf ?_; refine qQ ?_) | refine Zj ?_) | refine Za ?_ | (refine Zh ?_; refine Zu ?_) | (refine Zi ?_; refine Zv ?_) | intro _)
    exact qE (L' := bpC b1 pb :: YD mb es ck :: Lj') ⟨Lj', rfl, .inr hj'⟩
 ·have hk2 : k = 64 := by omega
  rw [hk2] at hj
  repeat' (first | (refine iBu ?_; refine ZL (Zn rfl) rfl rfl ?_) | (refine Zg ?_; first | (refine Zf ?_; refine qQ ?_) | refine Zj ?_) | refine Za ?_ | (refine Zh ?_; refine Zu ?_) | (refine Zi ?_; refine Zv ?_) | intro _)
  exact qE (L' := bpC b1 pb :: YD mb es ck :: L1) ⟨L1, rfl, .inl hj⟩
structure Lv (D D' : DS) : Prop where
 secs : D'.secs = D.secs
 armed : D'.armed = D.armed
 failing : D'.failing = -1
 dead : D'.dead = false
theorem Lv.trans {D D' D'' : DS} (h : Lv D D') (h' : Lv D' D'') : Lv D D'' := ⟨h'.secs.trans h.secs, h'.armed.trans h.armed, h'.failing, h'.dead⟩
abbrev Lv1 (D : DS) : Prop := Lv D D
theorem Lv.next {D D' : DS} (h : Lv D D') : Lv1 D' := ⟨rfl, rfl, h.failing, h.dead⟩
theorem DS.Calm.lv {D : DS} (h : D.Calm) : Lv1 D := by
 obtain ⟨s, o, a, f, d⟩ := D
 obtain ⟨h1, h2, h3⟩ := h
 dsimp only at h1 h2 h3
 subst h1; subst h2; subst h3
 exact ⟨rfl, rfl, rfl, rfl⟩
theorem Lv.calm {D D' : DS} (h : Lv D D') (hc : D.Calm) : D'.Calm := by
 obtain ⟨s, o, a, f, d⟩ := D
 obtain ⟨s', o', a', f', d'⟩ := D'
 obtain ⟨h1, h2, h3⟩ := hc
 obtain ⟨g1, g2, g3, g4⟩ := h
 dsimp only at h1 h2 h3 g1 g2 g3 g4
 subst h1; subst h2; subst h3; subst g1; subst g2; subst g3; subst g4
 exact ⟨rfl, rfl, rfl⟩
theorem read_lv {D : DS} {i : Nat} (h : Lv1 D) (hi : i < D.secs.length) : Lv D (D.read i).1 ∧ (D.read i).2.2 = 0 := by
 obtain ⟨s, o, a, f, d⟩ := D
 obtain ⟨_, _, h3, h4⟩ := h
 dsimp only at h3 h4 hi
 subst h3; subst h4
 have hn : ¬ ((i : Int) < 0 ∨ (s.length : Int) ≤ i) := by omega
 have hc : cnt (-1) = -1 := by decide
 unfold DS.read
 simp only [hn, if_false, Bool.false_eq_true, DS.tick, hc, show ¬ ((-1 : Int) = 0) by decide]
 exact ⟨⟨rfl, rfl, rfl, rfl⟩, trivial⟩
theorem rdSlot_lv {D : DS} (h : Lv1 D) {i : Nat} (hi : i + 1 < D.secs.length) : Lv D (Ws D i).1 ∧ (Ws D i).2.2 = 0 := by
 obtain ⟨h1, h2⟩ := read_lv h (i := i) (by omega)
 obtain ⟨h3, h4⟩ := read_lv h1.next (i := i + 1) (by rw [h1.secs]; exact hi)
 unfold Ws
 rw [if_neg (by simp [h2]), if_neg (by rw [h4]; simp)]
 exact ⟨h1.trans h3, rfl⟩
theorem slD_lv {D : DS} {base num : Nat} (h : Lv1 D) (hl : base + 4 * num + 4 ≤ D.secs.length) : ∀ k, k ≤ 2 → Lv D (slD D base num k)
 | 0, _ => h
 | k + 1, hk => by
  have h1 := slD_lv h hl k (by omega)
  exact h1.trans (rdSlot_lv h1.next (i := base + 4 * num + 2 * k) (by rw [XG]; omega)).1
theorem countsD_lv {D : DS} {base num : Nat} (h : Lv1 D) (hl : base + 4 * num + 4 ≤ D.secs.length) : (ZE D base num).2.2 = 0 ∧ Lv D (ZE D base num).2.1 := by
 have e0 := (rdSlot_lv (slD_lv h hl 0 (by omega)).next (i := base + 4 * num + 2 * 0) (by rw [XG]; omega)).2
 have e1 := (rdSlot_lv (slD_lv h hl 1 (by omega)).next (i := base + 4 * num + 2 * 1) (by rw [XG]; omega)).2
 unfold ZE slR
 rw [if_neg (by rw [e0]; simp), if_neg (by rw [e1]; simp)]
 exact ⟨rfl, slD_lv h hl 2 (by omega)⟩
theorem FO.readL {D : DS} {base t : Nat} {held : Nat → Xc} (h : FO D base t held) (hc : Lv1 D) {num : Nat} (hn : num < 64) : (We D base num).1 = ((held num).1, (held num).2, 0) ∧ Lv D (We D base num).2 ∧ FO (We D base num).2 base t held := by
 have hln := h.len
 have hl : base + 4 * num + 4 ≤ D.secs.length := by omega
 obtain ⟨e1, e2⟩ := countsD_lv hc hl
 have e3 := countsD_val h.empty h.alive hl e1
 have e4 := h.held num hn
 have hf := h.congr (D' := (ZE D base num).2.1) Vq (countsD_ok h.dok) e2.dead
 unfold WW at e4
 unfold We
 rw [e1, e3]
 dsimp only
 by_cases hr : (csD D base num).best.right = true
 ·rw [if_pos hr] at e4
  rw [if_neg (by simp [hr]), ← e4]
  exact ⟨rfl, e2, hf⟩
 ·rw [if_neg hr] at e4
  rw [if_pos (.inr (by simpa using hr)), ← e4]
  exact ⟨rfl, e2, hf⟩
abbrev PV := Int → Option (Yb × Nat × Nat)
def vw (pg : Pgs) : PV := fun n => (pg n).map (fun g => (g.c, g.lsn, g.rc))
def setV (pv : PV) (n : Int) (x : Yb × Nat × Nat) : PV := fun k => if k = n then some x else pv k
def XY (held : Nat → Xc) (pv : PV) (n : Int) : Yb × Nat × Nat := (pv n).getD ((held n.toNat).1, (held n.toNat).2, 0)
def holdV (held : Nat → Xc) (pv : PV) (n : Int) : PV := setV pv n (XY held pv n)
theorem vw_upd (pg : Pgs) (n : Int) (g : Pg) : vw (updG pg n g) = setV (vw pg) n (g.c, g.lsn, g.rc) := by
 funext k; unfold vw updG setV; split <;> simp
theorem vw_del (pg : Pgs) (n : Int) : vw (delG pg n) = fun k => if k = n then none else vw pg k := by
 funext k; unfold vw delG; split <;> simp
theorem vw_some {pg : Pgs} {n : Int} {x : Yb × Nat × Nat} (h : vw pg n = some x) : ∃ g, pg n = some g ∧ g.c = x.1 ∧ g.lsn = x.2.1 ∧ g.rc = x.2.2 := by
 unfold vw at h
 cases hp : pg n with
 | none => rw [hp] at h; cases h
 | some g => rw [hp] at h; cases h; exact ⟨g, rfl, rfl, rfl, rfl⟩
theorem HoldG.view {pg : Pgs} {D : DS} {base t num : Nat} {held : Nat → Xc} {g : Pg} (h : HoldG pg D base num g) (hf : FO D base t held) (hc : Lv1 D) (hn : num < 64) : vw (updG pg num g) = holdV held (vw pg) num ∧ (g.c, g.lsn, g.rc) = XY held (vw pg) num := by
 have e : (g.c, g.lsn, g.rc) = XY held (vw pg) num := by
  unfold XY vw
  rcases h.out with h1 | ⟨h1, h2, h3, h4⟩
  ·rw [h1]; rfl
  ·rw [h1, h2, h3, h4, (hf.readL hc hn).1]; rfl
 rw [vw_upd, e]
 exact ⟨rfl, rfl⟩
theorem holdD_lv {pg : Pgs} {D : DS} {base t num : Nat} {held : Nat → Xc} (hf : FO D base t held) (hc : Lv1 D) (hn : num < 64) : Lv D (holdD pg D base num) ∧ FO (holdD pg D base num) base t held := by
 unfold holdD
 split
 ·exact ⟨hc, hf⟩
 ·exact (hf.readL hc hn).2
theorem hold_lv (ρ : Hp) (pb fb lb mb db base num t : Nat) (hp : PoIn ρ pb fb lb mb) (hf : FIn ρ fb db base) (hb : base ≤ 100000) (hn : num < 64) (k : DK) (D : DS) (hD : DOk k D) (pg : Pgs) (es : List MapEntry) (ck : Nat) (hm : MpIn ρ es pg) (held : Nat → Xc) (hF : FO D base t held) (hL : Lv1 D) :
  Spec Tryz.prog 71 [.pointer (some ⟨pb, 0, none⟩), .int .i64 num] ρ (YD mb es ck :: ZA db k D)
   (fun v ρ' L' => ρ.le ρ' ∧ ∃ g es' ck' pg' D', v = .tuple ⟨[.agg ⟨pgV g⟩, .int .i64 0]⟩ ∧ (g.c, g.lsn, g.rc) = XY held (vw pg) num ∧ MpIn ρ' es' pg' ∧ vw pg' = holdV held (vw pg) num ∧ DOk k D' ∧ Lv D D' ∧ FO D' base t held ∧ L' = YD mb es' ck' :: ZA db k D') := by
 have hr := (hF.readL hL hn).1
 refine (hold_spec ρ pb fb lb mb db base num hp hf hb hn k D hD pg es ck hm (fun _ => by rw [hr])).mono ?_
 rintro v ρ' L' _ ⟨h1, g, es', ck', h2, h3, h4, h5, h6⟩
 obtain ⟨e1, e2⟩ := h3.view hF hL hn
 obtain ⟨e3, e4⟩ := holdD_lv (pg := pg) hF hL hn
 exact ⟨h1, g, es', ck', _, _, h2, e2, h4, e1, h5, e3, e4, h6⟩
theorem page_lv (ρ : Hp) (pb fb lb mb db base num t : Nat) (hp : PoIn ρ pb fb lb mb) (hf : FIn ρ fb db base) (hb : base ≤ 100000) (hn : num < 64) (k : DK) (D : DS) (hD : DOk k D) (pg : Pgs) (es : List MapEntry) (ck : Nat) (hm : MpIn ρ es pg) (held : Nat → Xc) (hF : FO D base t held) (hL : Lv1 D) :
  Spec Tryz.prog 31 [.pointer (some ⟨pb, 0, none⟩), .int .i64 num] ρ (YD mb es ck :: ZA db k D)
   (fun v ρ' L' => ρ.le ρ' ∧ ∃ w es' ck' pg' D', v = .tuple ⟨[.agg ⟨XF (XY held (vw pg) num).1.kind w⟩, .int .u64 ((XY held (vw pg) num).2.1 : Nat), .int .i64 0]⟩ ∧ CIn ρ' w (XY held (vw pg) num).1.rows (XY held (vw pg) num).1.kids ∧ MpIn ρ' es' pg' ∧ vw pg' = holdV held (vw pg) num ∧ DOk k D' ∧ Lv D D' ∧ FO D' base t held ∧ L' = YD mb es' ck' :: ZA db k D') := by
 have hr := (hF.readL hL hn).1
 refine (page17_spec ρ pb fb lb mb db base num hp hf hb hn k D hD pg es ck hm (fun _ => by rw [hr])).mono ?_
 rintro v ρ' L' _ ⟨h1, g, es', ck', w, h2, h2', h3, h4, h5, h6⟩
 obtain ⟨e1, e2⟩ := h3.view hF hL hn
 obtain ⟨e3, e4⟩ := holdD_lv (pg := pg) hF hL hn
 rw [← e2]
 exact ⟨h1, w, es', ck', _, _, h2, h2', h4, e1, h5, e3, e4, h6⟩
structure Sh where
 page : Int
 w : CV
 c : Yb
abbrev sheV (s : Sh) : List Value := [.int .i64 s.page, .int .i64 s.c.kind, .slice s.w.ra s.w.rn s.w.rc, .slice s.w.ka s.w.kn s.w.kc]
structure ShsIn (ρ : Hp) (a : Option Addr) (n c : Nat) (l : List Sh) : Prop where
 at' : AIn ρ 4 sheV a n l
 big : n ≤ 1000000
 cin : ∀ s ∈ l, CIn ρ s.w s.c.rows s.c.kids
theorem ShsIn.mono {ρ ρ' a n c l} (h : ShsIn ρ a n c l) (hle : ρ.le ρ') : ShsIn ρ' a n c l := ⟨h.at'.mono hle, h.big, fun s hs => (h.cin s hs).mono hle⟩
def Vv : Int → List Sh → Bool
 | _, [] => true
 | last, s :: r => decide (last < s.page ∧ 0 ≤ s.page ∧ s.page < 64) && Vv s.page r
def Wl (held : Nat → Xc) : PV → List Sh → PV
 | pv, [] => pv
 | pv, s :: r => Wl held (holdV held pv s.page) r
def askE (known : Bool) (held : Nat → Xc) (pv : PV) (lsn : Nat) (l : List Sh) : Int :=
 if known = false ∨ l = [] then 2 else if Vv (-1) l = false then 2 else if l.all (fun s => ZT s.c) = false then 160
 else if l.any (fun s => decide (lsn ≤ (XY held (Wl held pv l) s.page).2.1)) then 2 else 0
def askV (known : Bool) (held : Nat → Xc) (pv : PV) (l : List Sh) : PV :=
 if known = false ∨ l = [] then pv else if Vv (-1) l = false then pv else if l.all (fun s => ZT s.c) = false then pv else Wl held pv l
def prevS (l : List Sh) (k : Nat) : Int := if h : 0 < k ∧ k ≤ l.length then (l[k - 1]'(by omega)).page else -1
theorem riseS_drop {l : List Sh} {k : Nat} (hk : k < l.length) : Vv (prevS l k) (l.drop k) = (decide (prevS l k < l[k].page ∧ 0 ≤ l[k].page ∧ l[k].page < 64) && Vv (prevS l (k + 1)) (l.drop (k + 1))) := by
 rw [List.drop_eq_getElem_cons hk, Vv]
 congr 2
 unfold prevS
 rw [dif_pos ⟨by omega, by omega⟩]
 rfl
theorem holdsV_snoc (held : Nat → Xc) : ∀ (pv : PV) (l : List Sh) (s : Sh), Wl held pv (l ++ [s]) = holdV held (Wl held pv l) s.page
 | pv, [], s => rfl
 | pv, x :: r, s => by simp only [List.cons_append, Wl]; exact holdsV_snoc held _ r s
theorem take_snoc {α : Type} (l : List α) (k : Nat) (hk : k < l.length) : l.take (k + 1) = l.take k ++ [l[k]] := List.take_succ_eq_append_getElem hk
theorem holdV_has (held : Nat → Xc) (pv : PV) (n m : Int) (h : (pv m).isSome) : ((holdV held pv n) m) = pv m ∧ ((holdV held pv n) n).isSome := by
 refine ⟨?_, by unfold holdV setV; simp⟩
 unfold holdV setV
 split
 ·rename_i e
  subst e
  unfold XY
  cases hp : pv m with
  | none => rw [hp] at h; cases h
  | some x => rfl
 ·rfl
theorem holdsV_has (held : Nat → Xc) : ∀ (l : List Sh) (pv : PV) (m : Int), (pv m).isSome → (Wl held pv l) m = pv m
 | [], pv, m, _ => rfl
 | s :: r, pv, m, h => by
  have h1 := (holdV_has held pv s.page m h).1
  show Wl held (holdV held pv s.page) r m = _
  rw [holdsV_has held r _ m (by rw [h1]; exact h), h1]
theorem holdsV_mem (held : Nat → Xc) : ∀ (l : List Sh) (pv : PV) (s : Sh), s ∈ l → ((Wl held pv l) s.page).isSome
 | x :: r, pv, s, hs => by
  show (Wl held (holdV held pv x.page) r s.page).isSome
  rcases List.mem_cons.1 hs with rfl | hs
  ·have h1 : ((holdV held pv s.page) s.page).isSome := by unfold holdV setV; simp
   rw [holdsV_has held r _ _ h1]; exact h1
  ·exact holdsV_mem held r _ s hs
end Go.Proofs.E
