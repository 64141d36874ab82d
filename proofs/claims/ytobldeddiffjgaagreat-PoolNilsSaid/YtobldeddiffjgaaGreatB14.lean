/- The law PoolNils. Part 14 of 18. -/
import Derived.Test.YtobldeddiffjgaaGreatB13
namespace Go.Proofs.E
open Go
set_option linter.unusedVariables false
set_option linter.unusedSimpArgs false
set_option linter.unusedSectionVars false
set_option maxRecDepth 4000
set_option maxHeartbeats 1000000
attribute [local irreducible] Yl TL TC TE Spec XZ R1 Hp.le EnvLe TS TR YS Zq
theorem FO.mono {D : DS} {base t t' : Nat} {held : Nat → XX} (h : FO D base t held) (ht : t ≤ t') : FO D base t' held :=
 ⟨h.dok, h.alive, h.empty, h.len, fun num j h1 h2 => (h.sec num j h1 h2).mono ht, h.held⟩
theorem csD_most {D : DS} {base t : Nat} {held : Nat → XX} (h : FO D base t held) {num : Nat} (hn : num < 64) (ht : t < M64) : (csD D base num).most ≤ t ∧ (csD D base num).other < 2 ∧ ∀ j, j < 4 → Xv (pg D base num j) ≤ (csD D base num).most := by
 obtain ⟨_, e2, e3⟩ := cs2_eq num (pg D base num 0) (pg D base num 1) (pg D base num 2) (pg D base num 3)
 have s0 := (h.sec num 0 hn (by omega)).stamp (by omega) hn ht
 have s1 := (h.sec num 1 hn (by omega)).stamp (by omega) hn ht
 have s2 := (h.sec num 2 hn (by omega)).stamp (by omega) hn ht
 have s3 := (h.sec num 3 hn (by omega)).stamp (by omega) hn ht
 simp only [Nat.zero_mod, show 1 % 2 = 1 from rfl, show 2 % 2 = 0 from rfl, show 3 % 2 = 1 from rfl] at s0 s1 s2 s3
 unfold csD
 unfold Wi at e3
 rw [s0.1, s1.1, s2.1, s3.1] at e3
 have ho : (cs2 num (pg D base num 0) (pg D base num 1) (pg D base num 2) (pg D base num 3)).other < 2 := by
  rw [e2]; repeat' split
  all_goals omega
 refine ⟨by rw [e3]; omega, ho, fun j hj => ?_⟩
 rw [e3]
 rcases (show j = 0 ∨ j = 1 ∨ j = 2 ∨ j = 3 by omega) with rfl | rfl | rfl | rfl <;> omega
theorem FO.wrote {D D2 : DS} {base t : Nat} {held : Nat → XX} (h : FO D base t held) {num lsn : Nat} {c : YE} (hn : num < 64) (hc : Fit c) (hl : lsn < M64) (ht : t + 1 < M64)
  (hok : D2.Ok) (ha : D2.dead = false) (he : YF D2.secs) (hlen : D2.secs.length = D.secs.length)
  (hi : ∀ i, img D2 i = img D i ∨ ∃ p ∈ YT (base + 4 * num + 2 * (csD D base num).other) (ZM num ((csD D base num).most + 1) lsn c 0) (ZM num ((csD D base num).most + 1) lsn c 1), p.1 = i ∧ img D2 i = p.2) :
  ∃ v, (v = held num ∨ v = (c, lsn)) ∧ FO D2 base (t + 1) (upd held num v) ∧
   (img D2 (base + 4 * num + 2 * (csD D base num).other) = ZM num ((csD D base num).most + 1) lsn c 0 → img D2 (base + 4 * num + 2 * (csD D base num).other + 1) = ZM num ((csD D base num).most + 1) lsn c 1 → v = (c, lsn)) := by
 obtain ⟨m1, m2, m3⟩ := csD_most h hn (by omega)
 have hsec := fun j hj => (h.sec num j hn hj).least (by omega) (by omega) (m3 j hj)
 have hheld := h.held num hn
 have hat : ∀ j, j < 4 → pg D2 base num j = pg D base num j ∨ (csD D base num).other = j / 2 ∧ pg D2 base num j = ZM num ((csD D base num).most + 1) lsn c (j % 2) := fun j hj => by
  rcases hi (base + 4 * num + j) with h1 | ⟨p, hp, h2, h3⟩
  ·exact .inl h1
  ·right
   simp only [YT, List.mem_cons, List.not_mem_nil, or_false] at hp
   rcases hp with rfl | rfl
   ·have hj2 : j = 2 * (csD D base num).other := by dsimp only at h2; omega
    refine ⟨by omega, ?_⟩
    rw [show j % 2 = 0 by omega]; exact h3
   ·have hj2 : j = 2 * (csD D base num).other + 1 := by dsimp only at h2; omega
    refine ⟨by omega, ?_⟩
    rw [show j % 2 = 1 by omega]; exact h3
 have hw := E.wrote (x0 := pg D2 base num 0) (y0 := pg D2 base num 1) (x1 := pg D2 base num 2) (y1 := pg D2 base num 3) hn hc hl (hsec 0 (by omega)) (hsec 1 (by omega)) (hsec 2 (by omega)) (hsec 3 (by omega)) rfl (by omega) (hat 0 (by omega)) (hat 1 (by omega)) (hat 2 (by omega)) (hat 3 (by omega))
 have hoth : ∀ m, m < 64 → m ≠ num → ∀ j, j < 4 → pg D2 base m j = pg D base m j := fun m hm hne j hj => by
  rcases hi (base + 4 * m + j) with h1 | ⟨p, hp, h2, h3⟩
  ·exact h1
  ·exfalso
   simp only [YT, List.mem_cons, List.not_mem_nil, or_false] at hp
   rcases hp with rfl | rfl <;> dsimp only at h2 <;> omega
 have hfo : ∀ v, WS (csD D2 base num) = v → FO D2 base (t + 1) (upd held num v) := fun v hv => by
  refine ⟨hok, ha, he, by rw [hlen]; exact h.len, fun m j hm hj => ?_, fun m hm => ?_⟩
  ·by_cases hmn : m = num
   ·subst hmn
    rcases hat j hj with h1 | ⟨_, h2⟩
    ·rw [h1]; exact (h.sec m j hm hj).mono (by omega)
    ·rw [h2]; exact .inr ⟨_, _, _, by omega, by omega, rfl⟩
   ·rw [hoth m hm hmn j hj]; exact (h.sec m j hm hj).mono (by omega)
  ·unfold upd
   by_cases hmn : m = num
   ·subst hmn; rw [if_pos rfl]; exact hv
   ·rw [if_neg hmn, ← h.held m hm]
    unfold csD
    rw [hoth m hm hmn 0 (by omega), hoth m hm hmn 1 (by omega), hoth m hm hmn 2 (by omega), hoth m hm hmn 3 (by omega)]
 refine ⟨WS (csD D2 base num), ?_, hfo _ rfl, fun p1 p2 => ?_⟩
 ·rcases hw.1 with h1 | h1
  ·left; rw [← hheld]; exact h1
  ·exact .inr h1
 ·refine hw.2 ?_
  rcases (show (csD D base num).other = 0 ∨ (csD D base num).other = 1 by omega) with ho | ho
  ·rw [ho] at p1 p2
   rw [if_pos ho]; exact ⟨p1, p2⟩
  ·rw [ho] at p1 p2
   rw [if_neg (by rw [show (cs2 num (pg D base num 0) (pg D base num 1) (pg D base num 2) (pg D base num 3)).other = 1 from ho]; omega)]; exact ⟨p1, p2⟩
theorem FO.write {D : DS} {base t : Nat} {held : Nat → XX} (h : FO D base t held) {num lsn : Nat} {c : YE} (hn : num < 64) (hc : Fit c) (hl : lsn < M64) (ht : t + 1 < M64) :
  ((XC D base num lsn c).2 = 0 → FO (XC D base num lsn c).1 base (t + 1) (upd held num (c, lsn))) ∧ (∀ keep, ∃ v, (v = held num ∨ v = (c, lsn)) ∧ FO ((XC D base num lsn c).1.crash keep) base (t + 1) (upd held num v)) ∧ (XC D base num lsn c).1.Ok := by
 have hln := h.len
 have hL : base + 4 * num + 4 ≤ D.secs.length := by omega
 have ha1 := countsD_alive h.empty h.alive hL
 have hs1 := Vn (D := D) (base := base) (num := num)
 have hok1 := countsD_ok (base := base) (num := num) h.dok
 have hv := countsD_val h.empty h.alive hL
 obtain ⟨m1, m2, _⟩ := csD_most h hn (by omega)
 have hf1 := h.congr (D' := (ZE D base num).2.1) hs1 hok1 ha1
 unfold XC
 by_cases he : (ZE D base num).2.2 = 0
 ·rw [if_neg (by simp [he]), hv he]
  dsimp only
  rw [if_neg (by unfold M64 at ht; omega)]
  have hW : ∀ p ∈ YT (base + 4 * num + 2 * (csD D base num).other) (ZM num ((csD D base num).most + 1) lsn c 0) (ZM num ((csD D base num).most + 1) lsn c 1), p.1 < (ZE D base num).2.1.secs.length ∧ p.2.length = 64 := fun p hp => by
   rw [hs1]
   simp only [YT, List.mem_cons, List.not_mem_nil, or_false] at hp
   rcases hp with rfl | rfl
   ·exact ⟨by dsimp only; omega, Xf _ _ _ _ (by omega)⟩
   ·exact ⟨by dsimp only; omega, Xf _ _ _ _ (by omega)⟩
  have hokL := DS.Ok.lays (D := (ZE D base num).2.1) hok1 (fun p hp => (hW p hp).2)
  have hlenL := YY (YT (base + 4 * num + 2 * (csD D base num).other) (ZM num ((csD D base num).most + 1) lsn c 0) (ZM num ((csD D base num).most + 1) lsn c 1)) (ZE D base num).2.1
  have hout := lays_out (YT (base + 4 * num + 2 * (csD D base num).other) (ZM num ((csD D base num).most + 1) lsn c 0) (ZM num ((csD D base num).most + 1) lsn c 1)) (ZE D base num).2.1 ha1 (fun p hp => (hW p hp).1)
  rw [hs1] at hlenL hout
  have hgo := fun (D2 : DS) => h.wrote (D2 := D2) hn hc hl ht
  generalize hP0 : ZM num ((csD D base num).most + 1) lsn c 0 = P0 at *
  generalize hP1 : ZM num ((csD D base num).most + 1) lsn c 1 = P1 at *
  generalize base + 4 * num + 2 * (csD D base num).other = ix at *
  generalize hr : DS.lays (YT ix P0 P1) (ZE D base num).2.1 = r at *
  refine ⟨fun h0 => ?_, fun keep => ?_, hokL⟩
  ·rcases hout with ⟨l', hl', hs, hne⟩ | ⟨hs, _, hal⟩
   ·exact absurd h0 hne
   ·have hemp : YF r.1.secs := by rw [hs]; exact Yg
    obtain ⟨v, _, hv2, hv3⟩ := hgo r.1 hokL hal hemp hlenL (fun i => Xt h.empty hs D rfl i)
    have hall := fun {i : Nat} (hi : i < D.secs.length) => img_all (D := r.1) h.empty hs D rfl hi
    have hixl := hW (ix, P0) (by simp [YT])
    have hixm := hW (ix + 1, P1) (by simp [YT])
    rw [hs1] at hixl hixm
    have h1 : img r.1 ix = P0 := by
     rcases hall hixl.1 with ⟨_, hno⟩ | ⟨p, hp, h1, h2⟩
     ·exact absurd rfl (hno (ix, P0) (by simp [YT]))
     ·simp only [YT, List.mem_cons, List.not_mem_nil, or_false] at hp
      rcases hp with rfl | rfl
      ·exact h2
      ·dsimp only at h1; omega
    have h2 : img r.1 (ix + 1) = P1 := by
     rcases hall hixm.1 with ⟨_, hno⟩ | ⟨p, hp, h1, h2⟩
     ·exact absurd rfl (hno (ix + 1, P1) (by simp [YT]))
     ·simp only [YT, List.mem_cons, List.not_mem_nil, or_false] at hp
      rcases hp with rfl | rfl
      ·dsimp only at h1; omega
      ·exact h2
    rw [hv3 h1 h2] at hv2
    exact hv2
  ·have hcr : ∃ (kp : Nat → Bool) (l' : List (Nat × Blk)), l' <+: YT ix P0 P1 ∧ (r.1.crash keep).secs = settled kp (YV D.secs l') := by
    rcases hout with ⟨l', hl', hs, hne⟩ | ⟨hs, _, hal⟩
    ·exact ⟨keep, l', hl', by simp only [DS.crash]; rw [hs]⟩
    ·refine ⟨fun _ => true, YT ix P0 P1, List.prefix_refl _, ?_⟩
     have hemp : YF r.1.secs := by rw [hs]; exact Yg
     simp only [DS.crash]
     rw [settled_empty hemp, hs]
   obtain ⟨kp, l', hl', hs⟩ := hcr
   obtain ⟨v, h1, h2, _⟩ := hgo (r.1.crash keep) hokL.crash rfl (by rw [hs]; exact Yg) (by rw [hs, Yi, YI]) (fun i => by
    rcases Xt h.empty hs D rfl i with h1 | ⟨p, hp, h2, h3⟩
    ·exact .inl h1
    ·exact .inr ⟨p, hl'.subset hp, h2, h3⟩)
   exact ⟨v, h1, h2⟩
 ·rw [if_pos he]
  refine ⟨fun h0 => absurd h0 he, fun keep => ⟨held num, .inl rfl, ?_⟩, hok1⟩
  rw [upd_self]
  exact (hf1.crash keep).mono (by omega)
theorem writeF_calm {D : DS} {base t : Nat} {held : Nat → XX} (h : FO D base t held) (hc : D.Calm) {num lsn : Nat} {c : YE} (hn : num < 64) (ht : t + 1 < M64) : (XC D base num lsn c).2 = 0 ∧ (XC D base num lsn c).1.Calm := by
 have hln := h.len
 have hL : base + 4 * num + 4 ≤ D.secs.length := by omega
 obtain ⟨e1, e2⟩ := countsD_calm hc hL
 have hv := countsD_val h.empty h.alive hL e1
 have hs1 := Vn (D := D) (base := base) (num := num)
 obtain ⟨m1, m2, _⟩ := csD_most h hn (by omega)
 unfold XC
 rw [if_neg (by simp [e1]), hv]
 dsimp only
 rw [if_neg (by unfold M64 at ht; omega)]
 obtain ⟨l0, l1, l2⟩ := XM (YT (base + 4 * num + 2 * (csD D base num).other) (ZM num ((csD D base num).most + 1) lsn c 0) (ZM num ((csD D base num).most + 1) lsn c 1)) (ZE D base num).2.1 e2 (fun p hp => by
  rw [hs1]
  simp only [YT, List.mem_cons, List.not_mem_nil, or_false] at hp
  rcases hp with rfl | rfl <;> dsimp only <;> omega)
 exact ⟨l0, l1⟩
theorem FO.format {D : DS} {base : Nat} (hok : D.Ok) (hc : D.Calm) (he : YF D.secs) (hl : base + 256 ≤ D.secs.length) :
  (DS.lays (ZN base) D).2 = 0 ∧ (DS.lays (ZN base) D).1.Calm ∧ FO (DS.lays (ZN base) D).1 base 0 (fun _ => zHeld) := by
 have hidx : ∀ p ∈ ZN base, p.1 < D.secs.length := fun p hp => by
  simp only [ZN, List.mem_map, List.mem_range] at hp
  obtain ⟨k, hk, rfl⟩ := hp
  dsimp only; omega
 obtain ⟨l0, l1, l2⟩ := XM (ZN base) D hc hidx
 have hok1 := hok.lays (l := ZN base) noughtsF_64
 have himg : ∀ i, i < 256 → img (DS.lays (ZN base) D).1 (base + i) = XD := fun i hi => by
  rcases img_all he l2 D rfl (i := base + i) (by omega) with ⟨_, hno⟩ | ⟨p, hp, h1, h2⟩
  ·exact absurd rfl (hno (base + i, XD) (by simp only [ZN, List.mem_map, List.mem_range]; exact ⟨i, hi, rfl⟩))
  ·simp only [ZN, List.mem_map, List.mem_range] at hp
   obtain ⟨k, hk, rfl⟩ := hp
   exact h2
 have hpg : ∀ num j, num < 64 → j < 4 → pg (DS.lays (ZN base) D).1 base num j = XD := fun num j h1 h2 => by
  unfold pg; rw [Nat.add_assoc]; exact himg _ (by omega)
 refine ⟨l0, l1, hok1, l1.dead, by rw [l2]; exact Yg, by rw [YY]; exact hl, fun num j h1 h2 => .inl (hpg num j h1 h2), fun num h1 => ?_⟩
 unfold csD
 rw [hpg num 0 h1 (by omega), hpg num 1 h1 (by omega), hpg num 2 h1 (by omega), hpg num 3 h1 (by omega), (cs2_eq num XD XD XD XD).1]
 have hr : (Yu num XD XD).right = false := by
  cases hr : (Yu num XD XD).right with
  | false => rfl
  | true =>
   have := (says_right (by rfl) (by rfl) hr).1
   rw [stamp_zblk] at this; omega
 rw [if_neg (by simp [hr]), if_neg (by simp [hr])]
structure Pg where
 c : YE
 w : CV
 lsn : Nat
 rc : Nat
abbrev pgV (g : Pg) : List Value := [.int .i64 g.c.kind, .slice g.w.ra g.w.rn g.w.rc, .slice g.w.ka g.w.kn g.w.kc, .int .u64 g.lsn, .int .u64 g.rc]
abbrev Pgs := Int → Option Pg
def updG (pg : Pgs) (n : Int) (g : Pg) : Pgs := fun k => if k = n then some g else pg k
theorem updG_self {pg : Pgs} {n : Int} {g : Pg} (h : pg n = some g) : updG pg n g = pg := by
 funext k
 unfold updG
 split
 ·rename_i e; rw [e, h]
 ·rfl
structure MpIn (ρ : Hp) (es : List MapEntry) (pg : Pgs) : Prop where
 keys : Ym .i64 es
 uk : UKeys es
 get : ∀ n, YG es n = (pg n).map (fun g => .agg ⟨pgV g⟩)
 cin : ∀ n g, pg n = some g → CIn ρ g.w g.c.rows g.c.kids
theorem MpIn.mono {ρ ρ' es pg} (h : MpIn ρ es pg) (hle : ρ.le ρ') : MpIn ρ' es pg := ⟨h.keys, h.uk, h.get, fun n g hg => (h.cin n g hg).mono hle⟩
theorem MpIn.put {ρ es es' pg} (h : MpIn ρ es pg) {n : Int} {g : Pg} (hk : Ym .i64 es') (hu : UKeys es') (hg : ∀ j, YG es' j = if j = n then some (.agg ⟨pgV g⟩) else YG es j) (hc : CIn ρ g.w g.c.rows g.c.kids) : MpIn ρ es' (updG pg n g) :=
 ⟨hk, hu, fun j => by
  rw [hg]; unfold updG
  split
  ·rfl
  ·exact h.get j, fun j g' hj => by
  unfold updG at hj
  split at hj
  ·cases hj; exact hc
  ·exact h.cin j g' hj⟩
abbrev YZ (mb : Nat) (es : List MapEntry) (ck : Nat) : List (Nat × Obj) := [(mb, .map ⟨es⟩ ck)]
abbrev PoIn (ρ : Hp) (pb fb lb mb : Nat) : Prop := ρ pb = some (.cells ⟨[.pointer (some ⟨fb, 0, none⟩), .pointer (some ⟨lb, 0, none⟩), .map (some mb)]⟩ 135 (0, 0))
theorem there_spec (ρ : Hp) (n : Int) : Spec Tryz.prog 70 [.int .i64 n] ρ [] (fun v ρ' L' => v = .bool (decide (0 ≤ n ∧ n < 64)) ∧ ρ' = ρ ∧ L' = []) := by
 refine Ze Tryz.func70 rfl rfl rfl fun u R => ?_
 simp only [Zp, List.cons_append, List.nil_append]
 by_cases h : 0 ≤ n
 ·repeat' (first | (refine iBu ?_; refine ZS (Zt rfl) rfl rfl ?_) | (refine Zg ?_; first | (refine Zf ?_; refine qQ ?_) | refine Zj ?_) | refine Za ?_ | (refine Zh ?_; refine Zu ?_) | (refine Zi ?_; refine Zv ?_) | intro _)
  exact qE ⟨by rw [show (decide (0 ≤ n ∧ n < 64)) = decide (n < 64) by simp [h]], rfl, rfl⟩
 ·repeat' (first | (refine iBu ?_; refine ZS (Zt rfl) rfl rfl ?_) | (refine Zg ?_; first | (refine Zf ?_; refine qQ ?_) | refine Zj ?_) | refine Za ?_ | (refine Zh ?_; refine Zu ?_) | (refine Zi ?_; refine Zv ?_) | intro _)
  exact qE ⟨by rw [show (decide (0 ≤ n ∧ n < 64)) = false by simp [h]], rfl, rfl⟩
def holdD (pg : Pgs) (D : DS) (base num : Nat) : DS := if (pg num).isSome then D else (Wh D base num).2
structure HoldG (pg : Pgs) (D : DS) (base num : Nat) (g : Pg) : Prop where
 out : pg num = some g ∨ pg num = none ∧ g.c = (Wh D base num).1.1 ∧ g.lsn = (Wh D base num).1.2.1 ∧ g.rc = 0
theorem hold_spec (ρ : Hp) (pb fb lb mb db base num : Nat) (hp : PoIn ρ pb fb lb mb) (hf : FIn ρ fb db base) (hb : base ≤ 100000) (hn : num < 64) (k : DK) (D : DS) (hD : DOk k D) (pg : Pgs) (es : List MapEntry) (ck : Nat) (hm : MpIn ρ es pg)
  (hr : pg num = none → (Wh D base num).1.2.2 = 0) :
  Spec Tryz.prog 71 [.pointer (some ⟨pb, 0, none⟩), .int .i64 num] ρ (YZ mb es ck :: ZA db k D)
   (fun v ρ' L' => ρ.le ρ' ∧ ∃ g es' ck', v = .tuple ⟨[.agg ⟨pgV g⟩, .int .i64 0]⟩ ∧ HoldG pg D base num g ∧ MpIn ρ' es' (updG pg num g) ∧ DOk k (holdD pg D base num) ∧ L' = YZ mb es' ck' :: ZA db k (holdD pg D base num)) := by
 have hk := hm.keys
 have hu := hm.uk
 have hg := hm.get num
 refine Ze Tryz.func71 rfl rfl rfl fun u R => ?_
 simp only [Zp, List.cons_append, List.nil_append]
 cases hpn : pg num with
 | some g =>
  rw [hpn] at hg
  simp only [Option.map_some] at hg
  have hd : holdD pg D base num = D := by unfold holdD; rw [hpn]; rfl
  rw [hd]
  repeat' (first | (refine iBu ?_; refine ZS (Zt rfl) rfl rfl ?_) | (refine Zg ?_; first | (refine Zf ?_; refine qQ ?_) | refine Zj ?_) | refine Za ?_ | (refine Zh ?_; refine Zu ?_) | (refine Zi ?_; refine Zv ?_) | intro _)
  exact qE (L' := YZ mb es ck :: ZA db k D) ⟨Hp.le_refl _, g, es, ck, rfl, ⟨.inl hpn⟩, by rw [updG_self hpn]; exact hm, hD, rfl⟩
 | none =>
  rw [hpn] at hg
  simp only [Option.map_none] at hg
  have h0 := hr hpn
  have hd : holdD pg D base num = (Wh D base num).2 := by unfold holdD; rw [hpn]; rfl
  rw [hd]
  have hrd := Read_spec ρ fb db base num hf hb hn k D hD
  rw [h0] at hrd
  have hho : ∀ g : Pg, g.c = (Wh D base num).1.1 → g.lsn = (Wh D base num).1.2.1 → g.rc = 0 → HoldG pg D base num g := fun g h1 h2 h3 => ⟨.inr ⟨hpn, h1, h2, h3⟩⟩
  generalize Wh D base num = r at *
  obtain ⟨⟨c, lsn, e⟩, D'⟩ := r
  dsimp only at *
  repeat' (first | (refine Zc (.func 33) ?_; refine qC rfl rfl hrd ?_; rintro v1 ρ1 L1 hle1 ⟨hl1, w, rfl, hC, hk1, rfl⟩; have hp1 := Hp.at' hl1 hp; try simp only [List.cons_append, List.nil_append, List.append_assoc, List.append_eq]) | (refine iBu ?_; refine ZS (Zt rfl) rfl rfl ?_) | (refine Zg ?_; first | (refine Zf ?_; refine qQ ?_) | refine Zj ?_) | refine Za ?_ | (refine Zh ?_; refine Zu ?_) | (refine Zi ?_; refine Zv ?_) | intro _)
  rename_i b11
  refine Zz (Zq _ _ ([[(b11, .cells ⟨pgV ⟨c, w, lsn, 0⟩⟩ 132 (0, 0))]])) (Zx (hT := tk) (Hp.le_refl _)) ?_
  all_goals (refine ZU 0 ?_; refine rNc 1 ?_; refine YB 2 ?_; refine Ya 3 ?_; refine ZU 4 ?_; refine Ya 5 ?_)
  all_goals (refine Zm (i := 6) ?_; ((try refine Zk ?_); (first | (refine WO rfl rfl rfl hk hu (fun es' ck' h1 h2 h3 => ?_)) | (refine Zj ?_; try intro _)) <;> ((try simp only [kM, kN, kO]); refine Za ?_; refine Zl ?_)))
  all_goals refine ZI ?_
  all_goals (repeat' (first | (refine iBu ?_; refine ZS (Zt rfl) rfl rfl ?_) | (refine Zg ?_; first | (refine Zf ?_; refine qQ ?_) | refine Zj ?_) | refine Za ?_ | (refine Zh ?_; refine Zu ?_) | (refine Zi ?_; refine Zv ?_) | intro _))
  all_goals exact qE (L' := YZ mb es' ck' :: ZA db k D') ⟨hl1, ⟨c, w, lsn, 0⟩, es', ck', rfl, hho _ rfl rfl rfl, (hm.mono hl1).put h1 h2 h3 hC, hk1, rfl⟩
theorem flat_oneP {α : Type} {g : α → List Value} (hg : ∀ x, (g x).all (·.oneCell') = true) (l : List α) : ((l.map g).flatten).all (·.oneCell') = true := by
 induction l with
 | nil => rfl
 | cons a r ih => simp only [List.map_cons, List.flatten_cons, List.all_append, Bool.and_eq_true]; exact ⟨hg a, ih⟩
theorem AIn.none_nil {ρ : Hp} {α : Type} {sz n : Nat} {g : α → List Value} {l : List α} (h : AIn ρ sz g none n l) : l = [] := by
 by_cases h0 : 0 < l.length
 ·obtain ⟨b, off, C, T, fr, h, _⟩ := h.get h0
  cases h
 ·exact List.eq_nil_of_length_eq_zero (by omega)
theorem cloneRows_spec (ρ : Hp) (a : Option Addr) (n c : Nat) (l : List Row) (h : AIn ρ 4 We a n l) (hn : n ≤ 1000000) (hc : n ≤ c) : Spec Tryz.prog 119 [.slice a n c] ρ []
  (fun v ρ' L' => ρ.le ρ' ∧ ∃ a' c', v = .slice a' n c' ∧ n ≤ c' ∧ AIn ρ' 4 We a' n l ∧ L' = []) := by
 have hl := h.len
 cases a with
 | none =>
  obtain rfl := h.none_nil
  obtain rfl : n = 0 := by simpa using hl.symm
  refine Ze Tryz.func119 rfl rfl rfl fun u R => ?_
  simp only [Zp, List.cons_append, List.nil_append]
  repeat' (first | (refine iBu ?_; refine ZS (Zt rfl) rfl rfl ?_) | (refine Zg ?_; first | (refine Zf ?_; refine qQ ?_) | refine Zj ?_) | refine Za ?_ | (refine Zh ?_; refine Zu ?_) | (refine Zi ?_; refine Zv ?_) | intro _)
  exact qE ⟨Hp.le_refl _, none, 0, rfl, Nat.le_refl _, h, rfl⟩
 | some ad =>
  refine Ze Tryz.func119 rfl rfl rfl fun u R => ?_
  simp only [Zp, List.cons_append, List.nil_append]
  repeat' (first | (refine iBu ?_; refine ZS (Zt rfl) rfl rfl ?_) | (refine Zg ?_; first | (refine Zf ?_; refine qQ ?_) | refine Zj ?_) | refine Za ?_ | (refine Zh ?_; refine Zu ?_) | (refine Zi ?_; refine Zv ?_) | intro _)
  refine Xc (n := 0) (xs := []) (sp := []) (ys := ((l.map We).flatten)) (sz := 4) rfl rfl (OwnS.zero _ 4) (hR := Yw) h.srcV (by rw [flat_len We 4 l (fun _ _ => rfl)]; omega) (flat_oneP (fun _ => rfl) l) (by decide) rfl (by omega) (by omega) rfl (fun v' sp' hown' => ?_)
  simp only [Nat.zero_add, List.nil_append] at hown' ⊢
  refine ZL (YC v' ((l.map We).flatten) sp' 130) (h := Rem.here) (fun ρ2 hl2 hf2 => ?_)
  obtain ⟨a2, c2, rfl, hc2, hA2⟩ := hown'.aIn hl (fun _ _ => rfl) hf2
  repeat' (first | (refine iBu ?_; refine ZS (Zt rfl) rfl rfl ?_) | (refine Zg ?_; first | (refine Zf ?_; refine qQ ?_) | refine Zj ?_) | refine Za ?_ | (refine Zh ?_; refine Zu ?_) | (refine Zi ?_; refine Zv ?_) | intro _)
  exact qE ⟨hl2, a2, c2, rfl, hc2, hA2, rfl⟩
theorem cloneKids_spec (ρ : Hp) (a : Option Addr) (n c : Nat) (l : List Kid) (h : AIn ρ 3 Wk a n l) (hn : n ≤ 1000000) (hc : n ≤ c) : Spec Tryz.prog 120 [.slice a n c] ρ []
  (fun v ρ' L' => ρ.le ρ' ∧ ∃ a' c', v = .slice a' n c' ∧ n ≤ c' ∧ AIn ρ' 3 Wk a' n l ∧ L' = []) := by
 have hl := h.len
 cases a with
 | none =>
  obtain rfl := h.none_nil
  obtain rfl : n = 0 := by simpa using hl.symm
  refine Ze Tryz.func120 rfl rfl rfl fun u R => ?_
  simp only [Zp, List.cons_append, List.nil_append]
  repeat' (first | (refine iBu ?_; refine ZS (Zt rfl) rfl rfl ?_) | (refine Zg ?_; first | (refine Zf ?_; refine qQ ?_) | refine Zj ?_) | refine Za ?_ | (refine Zh ?_; refine Zu ?_) | (refine Zi ?_; refine Zv ?_) | intro _)
  exact qE ⟨Hp.le_refl _, none, 0, rfl, Nat.le_refl _, h, rfl⟩
 | some ad =>
  refine Ze Tryz.func120 rfl rfl rfl fun u R => ?_
  simp only [Zp, List.cons_append, List.nil_append]
  repeat' (first | (refine iBu ?_; refine ZS (Zt rfl) rfl rfl ?_) | (refine Zg ?_; first | (refine Zf ?_; refine qQ ?_) | refine Zj ?_) | refine Za ?_ | (refine Zh ?_; refine Zu ?_) | (refine Zi ?_; refine Zv ?_) | intro _)
  refine Xc (n := 0) (xs := []) (sp := []) (ys := ((l.map Wk).flatten)) (sz := 3) rfl rfl (OwnS.zero _ 3) (hR := Yw) h.srcV (by rw [flat_len Wk 3 l (fun _ _ => rfl)]; omega) (flat_oneP (fun _ => rfl) l) (by decide) rfl (by omega) (by omega) rfl (fun v' sp' hown' => ?_)
  simp only [Nat.zero_add, List.nil_append] at hown' ⊢
  refine ZL (YC v' ((l.map Wk).flatten) sp' 149) (h := Rem.here) (fun ρ2 hl2 hf2 => ?_)
  obtain ⟨a2, c2, rfl, hc2, hA2⟩ := hown'.aIn hl (fun _ _ => rfl) hf2
  repeat' (first | (refine iBu ?_; refine ZS (Zt rfl) rfl rfl ?_) | (refine Zg ?_; first | (refine Zf ?_; refine qQ ?_) | refine Zj ?_) | refine Za ?_ | (refine Zh ?_; refine Zu ?_) | (refine Zi ?_; refine Zv ?_) | intro _)
  exact qE ⟨hl2, a2, c2, rfl, hc2, hA2, rfl⟩
theorem copied_spec (ρ : Hp) (kd : Int) (w : CV) (rows : List Row) (kids : List Kid) (h : CIn ρ w rows kids) : Spec Tryz.prog 64 [.agg ⟨Wf kd w⟩] ρ []
  (fun v ρ' L' => ρ.le ρ' ∧ ∃ w', v = .agg ⟨Wf kd w'⟩ ∧ CIn ρ' w' rows kids ∧ L' = []) := by
 have hr := fun {ρ' : Hp} (hl : ρ.le ρ') => cloneRows_spec ρ' w.ra w.rn w.rc rows (h.r.mono hl) h.rb h.rc
 have hk := fun {ρ' : Hp} (hl : ρ.le ρ') => cloneKids_spec ρ' w.ka w.kn w.kc kids (h.k.mono hl) h.kb h.kc
 have hfin : ∀ {ρ1 ρ2 ρ' : Hp} {a1 : Option Addr} {c1 : Nat} {a2 : Option Addr} {c2 : Nat}, AIn ρ1 4 We a1 w.rn rows → ρ1.le ρ' → w.rn ≤ c1 → AIn ρ2 3 Wk a2 w.kn kids → ρ2.le ρ' → w.kn ≤ c2 → CIn ρ' ⟨a1, w.rn, c1, a2, w.kn, c2⟩ rows kids := fun h1 l1 h2 h3 l2 h4 => ⟨h1.mono l1, h3.mono l2, h.rb, h.kb, h2, h4⟩
 obtain ⟨ra, rn, rc, ka, kn, kc⟩ := w
 dsimp only at hr hk hfin
 refine Ze Tryz.func64 rfl rfl rfl fun u R => ?_
 simp only [Zp, List.cons_append, List.nil_append]
 repeat' (first | (refine iBu ?_; refine ZS (Zt rfl) rfl rfl ?_) | (refine Zg ?_; first | (refine Zf ?_; refine qQ ?_) | refine Zj ?_) | refine Za ?_ | (refine Zh ?_; refine Zu ?_) | (refine Zi ?_; refine Zv ?_) | intro _)
 rename_i b1 b2
 refine Zz (Zq _ _ ([])) (Zx (hT := tk) (Hp.le_refl _)) ?_
 all_goals (refine YB 0 ?_; refine YB 3 ?_)
 all_goals (refine Xi (i := 1) (j := 4) ?_ ?_ <;> ((try refine Zk ?_); (first | (refine Zc (.func 119) ?_; refine qC rfl rfl (hr (by assumption)) ?_; rintro v1 ρ1 L1 hle1 ⟨hl1, a1, c1, rfl, hc1, hA1, rfl⟩; simp only [List.cons_append, List.nil_append]) | (refine Zc (.func 119) ?_; refine qC rfl rfl (hr (Hp.le_refl _)) ?_; rintro v1 ρ1 L1 hle1 ⟨hl1, a1, c1, rfl, hc1, hA1, rfl⟩; simp only [List.cons_append, List.nil_append]) | (refine Zc (.func 120) ?_; refine qC rfl rfl (hk (by assumption)) ?_; rintro v2 ρ2 L2 hle2 ⟨hl2, a2, c2, rfl, hc2, hA2, rfl⟩; simp only [List.cons_append, List.nil_append]) | (refine Zc (.func 120) ?_; refine qC rfl rfl (hk (Hp.le_refl _)) ?_; rintro v2 ρ2 L2 hle2 ⟨hl2, a2, c2, rfl, hc2, hA2, rfl⟩; simp only [List.cons_append, List.nil_append]) | (refine Zf ?_; refine qQ ?_) | (refine Zj ?_; try intro _)) <;> ((try simp only [kM, kN, kO]); refine Za ?_; refine Zl ?_)))
 all_goals (first | (refine Xi (i := 2) (j := 4) ?_ ?_ <;> ((try refine Zk ?_); (first | (refine Zc (.func 119) ?_; refine qC rfl rfl (hr (by assumption)) ?_; rintro v1 ρ1 L1 hle1 ⟨hl1, a1, c1, rfl, hc1, hA1, rfl⟩; simp only [List.cons_append, List.nil_append]) | (refine Zc (.func 119) ?_; refine qC rfl rfl (hr (Hp.le_refl _)) ?_; rintro v1 ρ1 L1 hle1 ⟨hl1, a1, c1, rfl, hc1, hA1, rfl⟩; simp only [List.cons_append, List.nil_append]) | (refine Zc (.func 120) ?_; refine qC rfl rfl (hk (by assumption)) ?_; rintro v2 ρ2 L2 hle2 ⟨hl2, a2, c2, rfl, hc2, hA2, rfl⟩; simp only [List.cons_append, List.nil_append]) | (refine Zc (.func 120) ?_; refine qC rfl rfl (hk (Hp.le_refl _)) ?_; rintro v2 ρ2 L2 hle2 ⟨hl2, a2, c2, rfl, hc2, hA2, rfl⟩; simp only [List.cons_append, List.nil_append]) | (refine Zf ?_; refine qQ ?_) | (refine Zj ?_; try intro _)) <;> ((try simp only [kM, kN, kO]); refine Za ?_; refine Zl ?_))) | (refine Zm (i := 1) ?_; ((try refine Zk ?_); (first | (refine Zc (.func 119) ?_; refine qC rfl rfl (hr (by assumption)) ?_; rintro v1 ρ1 L1 hle1 ⟨hl1, a1, c1, rfl, hc1, hA1, rfl⟩; simp only [List.cons_append, List.nil_append]) | (refine Zc (.func 119) ?_; refine qC rfl rfl (hr (Hp.le_refl _)) ?_; rintro v1 ρ1 L1 hle1 ⟨hl1, a1, c1, rfl, hc1, hA1, rfl⟩; simp only [List.cons_append, List.nil_append]) | (refine Zc (.func 120) ?_; refine qC rfl rfl (hk (by assumption)) ?_; rintro v2 ρ2 L2 hle2 ⟨hl2, a2, c2, rfl, hc2, hA2, rfl⟩; simp only [List.cons_append, List.nil_append]) | (refine Zc (.func 120) ?_; refine qC rfl rfl (hk (Hp.le_refl _)) ?_; rintro v2 ρ2 L2 hle2 ⟨hl2, a2, c2, rfl, hc2, hA2, rfl⟩; simp only [List.cons_append, List.nil_append]) | (refine Zf ?_; refine qQ ?_) | (refine Zj ?_; try intro _)) <;> ((try simp only [kM, kN, kO]); refine Za ?_; refine Zl ?_))))
 all_goals (first | (refine Zm (i := 4) ?_; ((try refine Zk ?_); (first | (refine Zc (.func 119) ?_; refine qC rfl rfl (hr (by assumption)) ?_; rintro v1 ρ1 L1 hle1 ⟨hl1, a1, c1, rfl, hc1, hA1, rfl⟩; simp only [List.cons_append, List.nil_append]) | (refine Zc (.func 119) ?_; refine qC rfl rfl (hr (Hp.le_refl _)) ?_; rintro v1 ρ1 L1 hle1 ⟨hl1, a1, c1, rfl, hc1, hA1, rfl⟩; simp only [List.cons_append, List.nil_append]) | (refine Zc (.func 120) ?_; refine qC rfl rfl (hk (by assumption)) ?_; rintro v2 ρ2 L2 hle2 ⟨hl2, a2, c2, rfl, hc2, hA2, rfl⟩; simp only [List.cons_append, List.nil_append]) | (refine Zc (.func 120) ?_; refine qC rfl rfl (hk (Hp.le_refl _)) ?_; rintro v2 ρ2 L2 hle2 ⟨hl2, a2, c2, rfl, hc2, hA2, rfl⟩; simp only [List.cons_append, List.nil_append]) | (refine Zf ?_; refine qQ ?_) | (refine Zj ?_; try intro _)) <;> ((try simp only [kM, kN, kO]); refine Za ?_; refine Zl ?_))) | (refine Zm (i := 2) ?_; ((try refine Zk ?_); (first | (refine Zc (.func 119) ?_; refine qC rfl rfl (hr (by assumption)) ?_; rintro v1 ρ1 L1 hle1 ⟨hl1, a1, c1, rfl, hc1, hA1, rfl⟩; simp only [List.cons_append, List.nil_append]) | (refine Zc (.func 119) ?_; refine qC rfl rfl (hr (Hp.le_refl _)) ?_; rintro v1 ρ1 L1 hle1 ⟨hl1, a1, c1, rfl, hc1, hA1, rfl⟩; simp only [List.cons_append, List.nil_append]) | (refine Zf ?_; refine qQ ?_) | (refine Zj ?_; try intro _)) <;> ((try simp only [kM, kN, kO]); refine Za ?_; refine Zl ?_))))
 all_goals refine YB 6 ?_
 all_goals (refine Zm (i := 5) ?_; ((try refine Zk ?_); (first | (refine Zc (.func 120) ?_; refine qC rfl rfl (hk (by assumption)) ?_; rintro v2 ρ2 L2 hle2 ⟨hl2, a2, c2, rfl, hc2, hA2, rfl⟩; simp only [List.cons_append, List.nil_append]) | (refine Zc (.func 120) ?_; refine qC rfl rfl (hk (Hp.le_refl _)) ?_; rintro v2 ρ2 L2 hle2 ⟨hl2, a2, c2, rfl, hc2, hA2, rfl⟩; simp only [List.cons_append, List.nil_append]) | (refine Zf ?_; refine qQ ?_) | (refine Zj ?_; try intro _)) <;> ((try simp only [kM, kN, kO]); refine Za ?_; refine Zl ?_)))
 all_goals (refine Zm (i := 7) ?_; ((try refine Zk ?_); (first | (refine Zf ?_; refine qQ ?_) | (refine Zj ?_; try intro _)) <;> ((try simp only [kM, kN, kO]); refine Za ?_; refine Zl ?_)))
 all_goals refine YB 8 ?_
 all_goals (refine Zm (i := 9) ?_; ((try refine Zk ?_); (first | (refine Zf ?_; refine qQ ?_) | (refine Zj ?_; try intro _)) <;> ((try simp only [kM, kN, kO]); refine Za ?_; refine Zl ?_)))
 all_goals refine ZI ?_
 all_goals (repeat' (first | (refine iBu ?_; refine ZS (Zt rfl) rfl rfl ?_) | (refine Zg ?_; first | (refine Zf ?_; refine qQ ?_) | refine Zj ?_) | refine Za ?_ | (refine Zh ?_; refine Zu ?_) | (refine Zi ?_; refine Zv ?_) | intro _))
 all_goals exact qE (L' := []) ⟨by first | exact Hp.le_trans hl1 hl2 | exact Hp.le_trans hl2 hl1, _, rfl, hfin hA1 (by first | assumption | exact Hp.le_refl _) hc1 hA2 (by first | assumption | exact Hp.le_refl _) hc2, rfl⟩
abbrev zCc : Value := .agg ⟨Wf 0 zCV⟩
theorem new17_spec (ρ : Hp) (fb lb : Nat) : Spec Tryz.prog 34 [.pointer (some ⟨fb, 0, none⟩), .pointer (some ⟨lb, 0, none⟩)] ρ []
  (fun v ρ' L' => ρ.le ρ' ∧ ∃ pb mb, v = .tuple ⟨[.pointer (some ⟨pb, 0, none⟩), .int .i64 0]⟩ ∧ PoIn ρ' pb fb lb mb ∧ L' = [YZ mb [] 0]) := by
 refine Ze Tryz.func34 rfl rfl rfl fun u R => ?_
 simp only [Zp, List.cons_append, List.nil_append]
 repeat' (first | (refine iBu ?_; refine ZS (Zt rfl) rfl rfl ?_) | (refine Zg ?_; first | (refine Zf ?_; refine qQ ?_) | refine Zj ?_) | refine Za ?_ | (refine Zh ?_; refine Zu ?_) | (refine Zi ?_; refine Zv ?_) | intro _)
 rename_i mb pb
 refine Xo [(pb, .cells ⟨[.pointer (some ⟨fb, 0, none⟩), .pointer (some ⟨lb, 0, none⟩), .map (some mb)]⟩ 135 (0, 0))] (h := Rem.here) (fun ρ1 hl1 hf1 => ?_)
 have hp := hf1 _ (List.mem_singleton.2 rfl)
 exact qE (L' := [YZ mb [] 0]) ⟨hl1, pb, mb, rfl, hp, rfl⟩
theorem new17_nil (ρ : Hp) (v : Value) (fb : Option Addr) (lb : Option Addr) (h : fb = none ∨ lb = none) : Spec Tryz.prog 34 [.pointer fb, .pointer lb] ρ [] (fun v ρ' L' => v = .tuple ⟨[.pointer none, .int .i64 1]⟩ ∧ ρ' = ρ ∧ L' = []) := by
 refine Ze Tryz.func34 rfl rfl rfl fun u R => ?_
 simp only [Zp, List.cons_append, List.nil_append]
 cases fb with
 | none =>
  repeat' (first | (refine iBu ?_; refine ZS (Zt rfl) rfl rfl ?_) | (refine Zg ?_; first | (refine Zf ?_; refine qQ ?_) | refine Zj ?_) | refine Za ?_ | (refine Zh ?_; refine Zu ?_) | (refine Zi ?_; refine Zv ?_) | intro _)
  exact qE ⟨rfl, rfl, rfl⟩
 | some a =>
  obtain rfl : lb = none := by rcases h with h | h <;> simp_all
  repeat' (first | (refine iBu ?_; refine ZS (Zt rfl) rfl rfl ?_) | (refine Zg ?_; first | (refine Zf ?_; refine qQ ?_) | refine Zj ?_) | refine Za ?_ | (refine Zh ?_; refine Zu ?_) | (refine Zi ?_; refine Zv ?_) | intro _)
  exact qE ⟨rfl, rfl, rfl⟩
theorem page17_nil (ρ : Hp) (n : Int) : Spec Tryz.prog 31 [.pointer none, .int .i64 n] ρ [] (fun v ρ' L' => v = .tuple ⟨[zCc, .int .u64 0, .int .i64 1]⟩ ∧ ρ' = ρ ∧ L' = []) := by
 refine Ze Tryz.func31 rfl rfl rfl fun u R => ?_
 simp only [Zp, List.cons_append, List.nil_append]
 repeat' (first | (refine iBu ?_; refine ZS (Zt rfl) rfl rfl ?_) | (refine Zg ?_; first | (refine Zf ?_; refine qQ ?_) | refine Zj ?_) | refine Za ?_ | (refine Zh ?_; refine Zu ?_) | (refine Zi ?_; refine Zv ?_) | intro _)
 exact qE ⟨rfl, rfl, rfl⟩
theorem page17_spec (ρ : Hp) (pb fb lb mb db base num : Nat) (hp : PoIn ρ pb fb lb mb) (hf : FIn ρ fb db base) (hb : base ≤ 100000) (hn : num < 64) (k : DK) (D : DS) (hD : DOk k D) (pg : Pgs) (es : List MapEntry) (ck : Nat) (hm : MpIn ρ es pg)
  (hr : pg num = none → (Wh D base num).1.2.2 = 0) :
  Spec Tryz.prog 31 [.pointer (some ⟨pb, 0, none⟩), .int .i64 num] ρ (YZ mb es ck :: ZA db k D)
   (fun v ρ' L' => ρ.le ρ' ∧ ∃ g es' ck' w, v = .tuple ⟨[.agg ⟨Wf g.c.kind w⟩, .int .u64 (g.lsn : Nat), .int .i64 0]⟩ ∧ CIn ρ' w g.c.rows g.c.kids ∧ HoldG pg D base num g ∧ MpIn ρ' es' (updG pg num g) ∧ DOk k (holdD pg D base num) ∧ L' = YZ mb es' ck' :: ZA db k (holdD pg D base num)) := by
 have ht := fun ρ => there_spec ρ num
 simp only [decide_eq_true (show (0 : Int) ≤ num ∧ (num : Int) < 64 by omega)] at ht
 have hh := hold_spec ρ pb fb lb mb db base num hp hf hb hn k D hD pg es ck hm hr
 have hcp := fun {ρ' : Hp} {g : Pg} {es' : List MapEntry} (h : MpIn ρ' es' (updG pg num g)) => copied_spec ρ' g.c.kind g.w g.c.rows g.c.kids (h.cin num g (by unfold updG; rw [if_pos rfl]))
 refine Ze Tryz.func31 rfl rfl rfl fun u R => ?_
 simp only [Zp, List.cons_append, List.nil_append]
 repeat' (first | (refine Zc (.func 70) ?_; refine qC rfl rfl (ht _) ?_; rintro v ρ' L' hle ⟨rfl, rfl, rfl⟩ <;> (try simp only [kM, kN, kO])) | (refine Zc (.func 71) ?_; refine qC rfl rfl hh ?_; rintro v1 ρ1 L1 hle1 ⟨hl1, g, es', ck', rfl, hg, hm1, hk1, rfl⟩; try simp only [List.cons_append, List.nil_append, List.append_assoc, List.append_eq]) | (refine iBu ?_; refine ZS (Zt rfl) rfl rfl ?_) | (refine Zg ?_; first | (refine Zf ?_; refine qQ ?_) | refine Zj ?_) | refine Za ?_ | (refine Zh ?_; refine Zu ?_) | (refine Zi ?_; refine Zv ?_) | intro _)
 rename_i b7
 refine Zz (Zq _ _ ([[(b7, .cells ⟨pgV g⟩ 132 (0, 0))]])) (Zx (hT := tk) (Hp.le_refl _)) ?_
 all_goals (refine YB 0 ?_; refine Ya 1 ?_; refine YB 3 ?_; refine Ya 4 ?_; refine ZU 5 ?_)
 all_goals (refine Zm (i := 2) ?_; ((try refine Zk ?_); (first | (refine Zc (.func 64) ?_; refine qC rfl rfl (hcp hm1) ?_; rintro v2 ρ2 L2 hle2 ⟨hl2, w2, rfl, hC2, rfl⟩; simp only [List.cons_append, List.nil_append]) | (refine Zj ?_; try intro _)) <;> ((try simp only [kM, kN, kO]); refine Za ?_; refine Zl ?_)))
 all_goals (refine Zm (i := 6) ?_; ((try refine Zk ?_); (first | (refine Zj ?_; try intro _)) <;> ((try simp only [kM, kN, kO]); refine Za ?_; refine Zl ?_)))
 all_goals (refine ZP ?_; refine rAs 7 ?_; refine rAs 8 ?_; refine ZI ?_)
 all_goals (repeat' (first | (refine iBu ?_; refine ZS (Zt rfl) rfl rfl ?_) | (refine Zg ?_; first | (refine Zf ?_; refine qQ ?_) | refine Zj ?_) | refine Za ?_ | (refine Zh ?_; refine Zu ?_) | (refine Zi ?_; refine Zv ?_) | intro _))
 all_goals exact qE (L' := YZ mb es' ck' :: ZA db k (holdD pg D base num)) ⟨Hp.le_trans hl1 hl2, g, es', ck', w2, rfl, hC2, hg, hm1.mono hl2, hk1, rfl⟩
theorem own_nil (ρ : Hp) (n : Int) (f : Value) : Spec Tryz.prog 65 [.pointer none, .int .i64 n, f] ρ [] (fun v ρ' L' => v = .int .i64 1 ∧ ρ' = ρ ∧ L' = []) := by
 refine Ze Tryz.func65 rfl rfl rfl fun u R => ?_
 simp only [Zp, List.cons_append, List.nil_append]
 repeat' (first | (refine iBu ?_; refine ZS (Zt rfl) rfl rfl ?_) | (refine Zg ?_; first | (refine Zf ?_; refine qQ ?_) | refine Zj ?_) | refine Za ?_ | (refine Zh ?_; refine Zu ?_) | (refine Zi ?_; refine Zv ?_) | intro _)
 exact qE ⟨rfl, rfl, rfl⟩
theorem own_arg (ρ : Hp) (pb : Nat) (n : Int) (f : Value) (hn : ¬ (0 ≤ n ∧ n < 64)) : Spec Tryz.prog 65 [.pointer (some ⟨pb, 0, none⟩), .int .i64 n, f] ρ [] (fun v ρ' L' => v = .int .i64 2 ∧ ρ' = ρ ∧ L' = []) := by
 have ht := there_spec ρ n
 rw [decide_eq_false hn] at ht
 refine Ze Tryz.func65 rfl rfl rfl fun u R => ?_
 simp only [Zp, List.cons_append, List.nil_append]
 repeat' (first | (refine Zc (.func 70) ?_; refine qC rfl rfl (ht) ?_; rintro v ρ' L' hle ⟨rfl, rfl, rfl⟩ <;> (try simp only [kM, kN, kO])) | (refine iBu ?_; refine ZS (Zt rfl) rfl rfl ?_) | (refine Zg ?_; first | (refine Zf ?_; refine qQ ?_) | refine Zj ?_) | refine Za ?_ | (refine Zh ?_; refine Zu ?_) | (refine Zi ?_; refine Zv ?_) | intro _)
 exact qE ⟨rfl, rfl, rfl⟩
theorem own_none (ρ : Hp) (pb fb lb mb : Nat) (hp : PoIn ρ pb fb lb mb) (n : Int) (f : Value) (hn : 0 ≤ n ∧ n < 64) (pg : Pgs) (es : List MapEntry) (ck : Nat) (hm : MpIn ρ es pg) (hno : pg n = none) :
  Spec Tryz.prog 65 [.pointer (some ⟨pb, 0, none⟩), .int .i64 n, f] ρ [YZ mb es ck] (fun v ρ' L' => v = .int .i64 4 ∧ ρ' = ρ ∧ L' = [YZ mb es ck]) := by
 have ht := there_spec ρ n
 rw [decide_eq_true hn] at ht
 have hk := hm.keys
 have hg := hm.get n
 rw [hno] at hg
 simp only [Option.map_none] at hg
 refine Ze Tryz.func65 rfl rfl rfl fun u R => ?_
 simp only [Zp, List.cons_append, List.nil_append]
 repeat' (first | (refine Zc (.func 70) ?_; refine qC rfl rfl (ht) ?_; rintro v ρ' L' hle ⟨rfl, rfl, rfl⟩ <;> (try simp only [kM, kN, kO])) | (refine iBu ?_; refine ZS (Zt rfl) rfl rfl ?_) | (refine Zg ?_; first | (refine Zf ?_; refine qQ ?_) | refine Zj ?_) | refine Za ?_ | (refine Zh ?_; refine Zu ?_) | (refine Zi ?_; refine Zv ?_) | intro _)
 exact qE (L' := [YZ mb es ck]) ⟨rfl, rfl, rfl⟩
theorem own_some (ρ : Hp) (pb fb lb mb : Nat) (hp : PoIn ρ pb fb lb mb) (n : Int) (hn : 0 ≤ n ∧ n < 64) (pg : Pgs) (es : List MapEntry) (ck : Nat) (hm : MpIn ρ es pg) (g : Pg) (hs : pg n = some g) (fn : Nat) [hF : Yc Tryz.prog fn] (cs : List Value) (X : SH) (Post : Value → Hp → SH → Prop)
  (hS : Spec Tryz.prog fn ([.agg ⟨pgV g⟩] ++ cs) ρ (YZ mb es ck :: X) (fun v ρ' L' => (∃ e, v = .int .i64 e) ∧ Post v ρ' L')) :
  Spec Tryz.prog 65 [.pointer (some ⟨pb, 0, none⟩), .int .i64 n, .func (.func fn) ⟨[]⟩ ⟨cs⟩] ρ (YZ mb es ck :: X) Post := by
 have ht := there_spec ρ n
 rw [decide_eq_true hn] at ht
 have hk := hm.keys
 have hg := hm.get n
 rw [hs] at hg
 simp only [Option.map_some] at hg
 refine Ze Tryz.func65 rfl rfl rfl fun u R => ?_
 simp only [Zp, List.cons_append, List.nil_append]
 repeat' (first | (refine Zc (.func 70) ?_; refine qC rfl rfl (ht) ?_; rintro v ρ' L' hle ⟨rfl, rfl, rfl⟩ <;> (try simp only [kM, kN, kO])) | (refine Zc (.tmp 27) ?_; refine qC rfl rfl hS ?_; rintro v1 ρ1 L1 hle1 ⟨⟨e, rfl⟩, hP⟩; try simp only [List.cons_append, List.nil_append, List.append_assoc, List.append_eq]) | (refine iBu ?_; refine ZS (Zt rfl) rfl rfl ?_) | (refine Zg ?_; first | (refine Zf ?_; refine qQ ?_) | refine Zj ?_) | refine Za ?_ | (refine Zh ?_; refine Zu ?_) | (refine Zi ?_; refine Zv ?_) | intro _)
 exact qE (L' := L1) hP
def delG (pg : Pgs) (n : Int) : Pgs := fun k => if k = n then none else pg k
theorem MpIn.del {ρ es es' pg} (h : MpIn ρ es pg) {n : Int} (hk : Ym .i64 es') (hu : UKeys es') (hg : ∀ j, YG es' j = if j = n then none else YG es j) : MpIn ρ es' (delG pg n) :=
 ⟨hk, hu, fun j => by
  rw [hg]; unfold delG
  split
  ·rfl
  ·exact h.get j, fun j g' hj => by
  unfold delG at hj
  split at hj
  ·cases hj
  ·exact h.cin j g' hj⟩
abbrev bpC (b pb : Nat) : List (Nat × Obj) := [(b, .cells ⟨[.pointer (some ⟨pb, 0, none⟩)]⟩ 57 (0, 0))]
abbrev bnC (b : Nat) (n : Int) : List (Nat × Obj) := [(b, .cells ⟨[.int .i64 n]⟩ 3 (0, 0))]
theorem evict1_spec (ρ : Hp) (b2 b3 pb fb lb mb : Nat) (hp : PoIn ρ pb fb lb mb) (n : Int) (pg : Pgs) (es : List MapEntry) (ck : Nat) (hm : MpIn ρ es pg) (g : Pg) :
  Spec Tryz.prog 68 [.agg ⟨pgV g⟩, .pointer (some ⟨b2, 0, none⟩), .pointer (some ⟨b3, 0, none⟩)] ρ [YZ mb es ck, bpC b2 pb, bnC b3 n]
   (fun v ρ' L' => (∃ e, v = .int .i64 e) ∧ v = .int .i64 (if g.rc = 0 then 0 else 270) ∧ ρ' = ρ ∧ ∃ es' ck', MpIn ρ es' (if g.rc = 0 then delG pg n else pg) ∧ L' = [YZ mb es' ck', bpC b2 pb, bnC b3 n]) := by
 have hk := hm.keys
 have hu := hm.uk
 refine Ze Tryz.func68 rfl rfl rfl fun u R => ?_
 simp only [Zp, List.cons_append, List.nil_append]
 by_cases h0 : g.rc = 0
 ·rw [if_pos h0, if_pos h0]
  have h1 : ((g.rc : Nat) : Int) = 0 := by omega
  repeat' (first | (refine iBu ?_; refine ZS (Zt rfl) rfl rfl ?_) | (refine Zg ?_; first | (refine Zf ?_; refine qQ ?_) | refine Zj ?_) | refine Za ?_ | (refine Zh ?_; refine Zu ?_) | (refine Zi ?_; refine Zv ?_) | intro _)
  refine Zz (Zq _ _ ([bpC b2 pb, bnC b3 n])) (Zx (hT := tk) (Hp.le_refl _)) ?_
  all_goals (refine Ya 0 ?_; refine rNc 1 ?_; refine YB 2 ?_; refine Ya 3 ?_; refine Ya 4 ?_)
  all_goals (refine Zm (i := 5) ?_; ((try refine Zk ?_); (first | (refine tl_delete rfl rfl hk hu (fun es' h1 h2 h3 => ?_)) | (refine Zj ?_; try intro _)) <;> ((try simp only [kM, kN, kO]); refine Za ?_; refine Zl ?_)))
  all_goals refine ZI ?_
  all_goals (repeat' (first | (refine iBu ?_; refine ZS (Zt rfl) rfl rfl ?_) | (refine Zg ?_; first | (refine Zf ?_; refine qQ ?_) | refine Zj ?_) | refine Za ?_ | (refine Zh ?_; refine Zu ?_) | (refine Zi ?_; refine Zv ?_) | intro _))
  all_goals exact qE (L' := [YZ mb es' ck, bpC b2 pb, bnC b3 n]) ⟨⟨_, rfl⟩, rfl, rfl, es', ck, hm.del h1 h2 h3, rfl⟩
 ·rw [if_neg h0, if_neg h0]
  have h1 : ¬ ((g.rc : Nat) : Int) = 0 := by omega
  repeat' (first | (refine iBu ?_; refine ZS (Zt rfl) rfl rfl ?_) | (refine Zg ?_; first | (refine Zf ?_; refine qQ ?_) | refine Zj ?_) | refine Za ?_ | (refine Zh ?_; refine Zu ?_) | (refine Zi ?_; refine Zv ?_) | intro _)
  exact qE (L' := [YZ mb es ck, bpC b2 pb, bnC b3 n]) ⟨⟨_, rfl⟩, rfl, rfl, es, ck, hm, rfl⟩
theorem evict17_nil (ρ : Hp) (n : Int) : Spec Tryz.prog 29 [.pointer none, .int .i64 n] ρ [] (fun v ρ' L' => v = .int .i64 1 ∧ ρ' = ρ ∧ L' = []) := by
 refine Ze Tryz.func29 rfl rfl rfl fun u R => ?_
 simp only [Zp, List.cons_append, List.nil_append]
 repeat' (first | (refine Zc (.func 65) ?_; refine qC rfl rfl (own_nil _ _ _) ?_; rintro v ρ' L' hle ⟨rfl, rfl, rfl⟩ <;> (try simp only [kM, kN, kO])) | (refine iBu ?_; refine ZS (Zt rfl) rfl rfl ?_) | (refine Zg ?_; first | (refine Zf ?_; refine qQ ?_) | refine Zj ?_) | refine Za ?_ | (refine Zh ?_; refine Zu ?_) | (refine Zi ?_; refine Zv ?_) | intro _)
 exact qE ⟨rfl, rfl, rfl⟩
def Vo (pg : Pgs) (n : Int) : Int := if 0 ≤ n ∧ n < 64 then (match pg n with | none => 4 | some g => if g.rc = 0 then 0 else 270) else 2
def evictG (pg : Pgs) (n : Int) : Pgs := if Vo pg n = 0 then delG pg n else pg
theorem evict17_spec (ρ : Hp) (pb fb lb mb : Nat) (hp : PoIn ρ pb fb lb mb) (n : Int) (pg : Pgs) (es : List MapEntry) (ck : Nat) (hm : MpIn ρ es pg) :
  Spec Tryz.prog 29 [.pointer (some ⟨pb, 0, none⟩), .int .i64 n] ρ [YZ mb es ck]
   (fun v ρ' L' => v = .int .i64 (Vo pg n) ∧ ρ' = ρ ∧ ∃ es' ck', MpIn ρ es' (evictG pg n) ∧ L' = [YZ mb es' ck']) := by
 refine Ze Tryz.func29 rfl rfl rfl fun u R => ?_
 simp only [Zp, List.cons_append, List.nil_append]
 unfold evictG
 by_cases hn : 0 ≤ n ∧ n < 64
 ·cases hs : pg n with
  | none =>
   have e : Vo pg n = 4 := by unfold Vo; rw [if_pos hn, hs]
   rw [e, if_neg (by omega)]
   repeat' (first | (refine Zc (.func 65) ?_; refine qC rfl rfl (own_none ρ pb fb lb mb hp n _ hn pg es ck hm hs) ?_; rintro v ρ' L' hle ⟨rfl, rfl, rfl⟩ <;> (try simp only [kM, kN, kO])) | (refine iBu ?_; refine ZS (Zt rfl) rfl rfl ?_) | (refine Zg ?_; first | (refine Zf ?_; refine qQ ?_) | refine Zj ?_) | refine Za ?_ | (refine Zh ?_; refine Zu ?_) | (refine Zi ?_; refine Zv ?_) | intro _)
   exact qE (L' := [YZ mb es ck]) ⟨rfl, rfl, es, ck, hm, rfl⟩
  | some g =>
   have e : Vo pg n = if g.rc = 0 then 0 else 270 := by unfold Vo; rw [if_pos hn, hs]
   have e2 : (if g.rc = 0 then delG pg n else pg) = if Vo pg n = 0 then delG pg n else pg := by
    rw [e]
    by_cases h0 : g.rc = 0
    ·rw [if_pos h0, if_pos (by rw [if_pos h0])]
    ·rw [if_neg h0, if_neg (by rw [if_neg h0]; omega)]
   have hev := fun b2 b3 => own_some ρ pb fb lb mb hp n hn pg es ck hm g hs 68 [.pointer (some ⟨b2, 0, none⟩), .pointer (some ⟨b3, 0, none⟩)] [bpC b2 pb, bnC b3 n] _ (evict1_spec ρ b2 b3 pb fb lb mb hp n pg es ck hm g)
   rw [← e2, e]
   repeat' (first | (refine Zc (.func 65) ?_; refine qC rfl rfl (hev _ _) ?_; rintro v1 ρ1 L1 hle1 ⟨rfl, rfl, es', ck', hm1, rfl⟩; try simp only [List.cons_append, List.nil_append, List.append_assoc, List.append_eq]) | (refine iBu ?_; refine ZS (Zt rfl) rfl rfl ?_) | (refine Zg ?_; first | (refine Zf ?_; refine qQ ?_) | refine Zj ?_) | refine Za ?_ | (refine Zh ?_; refine Zu ?_) | (refine Zi ?_; refine Zv ?_) | intro _)
   exact qE (L' := [YZ mb es' ck']) ⟨rfl, rfl, es', ck', hm1, rfl⟩
 ·have e : Vo pg n = 2 := by unfold Vo; rw [if_neg hn]
  rw [e, if_neg (by omega)]
  repeat' (first | (refine Zc (.func 65) ?_; refine qC rfl rfl (own_arg _ _ _ _ hn) ?_; rintro v ρ' L' hle ⟨rfl, rfl, rfl⟩ <;> (try simp only [kM, kN, kO])) | (refine iBu ?_; refine ZS (Zt rfl) rfl rfl ?_) | (refine Zg ?_; first | (refine Zf ?_; refine qQ ?_) | refine Zj ?_) | refine Za ?_ | (refine Zh ?_; refine Zu ?_) | (refine Zi ?_; refine Zv ?_) | intro _)
  exact qE (L' := [YZ mb es ck]) ⟨rfl, rfl, es, ck, hm, rfl⟩
structure PgOk (g : Pg) : Prop where
 ok : ZR g.c = true
 fit : IdFit g.c
 lsn : g.lsn < 18446744073709551616
def stealF (S : LgS) (D : DS) (g : Pg) : LgS × DS × Int := if S.fl < g.lsn then S.flush g.lsn D else (S, D, 0)
def Wq (S : LgS) (D : DS) (base num : Nat) (g : Pg) : LgS × DS × Int :=
 if (stealF S D g).2.2 ≠ 0 then stealF S D g else ((stealF S D g).1, XC (stealF S D g).2.1 base num g.lsn g.c)
theorem steal1_spec (ρ : Hp) (b2 b3 pb fb lb mb rb db base num : Nat) (hp : PoIn ρ pb fb lb mb) (hf : FIn ρ fb db base) (hb : base ≤ 100000) (hn : num < 64) (pg : Pgs) (es : List MapEntry) (ck : Nat) (hm : MpIn ρ es pg) (g : Pg) (hs : pg num = some g) (hg : PgOk g) (h0 : g.rc ≠ 0)
  (S : LgS) (v : Value) (sp : List Value) (h : LgIn ρ S v sp) (w : RW) (hR : RIn ρ S.R w) (k : DK) (D : DS) (hD : DOk k D) (hfl : S.fl < 1000000000000000) :
  Spec Tryz.prog 66 [.agg ⟨pgV g⟩, .pointer (some ⟨b2, 0, none⟩), .pointer (some ⟨b3, 0, none⟩)] ρ (YZ mb es ck :: bpC b2 pb :: bnC b3 num :: Yy lb rb S v :: Xg S v sp :: (Xa rb db S.R w ++ ZA db k D))
   (fun z ρ' L' => (∃ e, z = .int .i64 e) ∧ z = .int .i64 (Wq S D base num g).2.2 ∧ ρ.le ρ' ∧ ∃ es' ck' w' k', MpIn ρ' es' (if (Wq S D base num g).2.2 = 0 then updG pg num { g with rc := 0 } else pg) ∧ RIn ρ' (Wq S D base num g).1.R w' ∧ DOk k' (Wq S D base num g).2.1 ∧
    L' = YZ mb es' ck' :: bpC b2 pb :: bnC b3 num :: Yy lb rb (Wq S D base num g).1 v :: Xg S v sp :: (Xa rb db (Wq S D base num g).1.R w' ++ ZA db k' (Wq S D base num g).2.1)) := by
 have hk := hm.keys
 have hu := hm.uk
 have hcin := hm.cin num g hs
 have hfs := fun ρ => flushed16_spec ρ lb rb S v
 have hflu := flush16_spec ρ lb rb db S v sp h w hR k D hD g.lsn hfl
 have hwr := fun {ρ' : Hp} (hle : ρ.le ρ') (k : DK) (D : DS) (hD : DOk k D) => Write_spec ρ' fb db base num g.lsn (hf.mono hle) hb hn hg.lsn g.c g.w (hcin.mono hle) hg.ok (fun r hr => (hg.fit.row r hr).id) hg.fit.kid k D hD
 have hput := fun {ρ' : Hp} (hle : ρ.le ρ') {es' : List MapEntry} h1 h2 h3 => (hm.mono hle).put (n := num) (g := { g with rc := 0 }) (es' := es') h1 h2 h3 (hcin.mono hle)
 have hst : Wq S D base num g = if (stealF S D g).2.2 ≠ 0 then stealF S D g else ((stealF S D g).1, XC (stealF S D g).2.1 base num g.lsn g.c) := rfl
 have hstf : stealF S D g = if S.fl < g.lsn then S.flush g.lsn D else (S, D, 0) := rfl
 have hrc : ¬ ((g.rc : Nat) : Int) = 0 := by omega
 obtain ⟨gc, gw, glsn, grc⟩ := g
 dsimp only at *
 by_cases hlt : S.fl < glsn
 ·rw [if_pos hlt] at hstf
  rw [hstf] at hst
  generalize S.flush glsn D = q at *
  obtain ⟨S1, D1, e1⟩ := q
  dsimp only at *
  refine Ze Tryz.func66 rfl rfl rfl fun u R => ?_
  simp only [Zp, List.cons_append, List.nil_append]
  repeat' (first | (refine iBu ?_; refine ZS (Zt rfl) rfl rfl ?_) | (refine Zg ?_; first | (refine Zf ?_; refine qQ ?_) | refine Zj ?_) | refine Za ?_ | (refine Zh ?_; refine Zu ?_) | (refine Zi ?_; refine Zv ?_) | intro _)
  rename_i b1
  refine Zz (Zq _ _ ([bpC b2 pb, [(b1, .cells ⟨pgV ⟨gc, gw, glsn, grc⟩⟩ 132 (0, 0))]])) (Zx (hT := tk) (Hp.le_refl _)) ?_
  all_goals (refine Ya 0 ?_; refine rNc 1 ?_; refine YB 2 ?_; refine Ya 3 ?_; refine YB 5 ?_; refine Ya 6 ?_)
  all_goals (refine Zm (i := 4) ?_; ((try refine Zk ?_); (first | (refine Zc (.func 17) ?_; refine qC rfl rfl (hfs _) ?_; rintro v ρ' L' hle ⟨rfl, rfl, rfl⟩ <;> (try simp only [kM, kN, kO])) | (refine Zj ?_; try intro _)) <;> ((try simp only [kM, kN, kO]); refine Za ?_; refine Zl ?_)))
  all_goals (refine ZP ?_; refine rCm 7 ?_; refine ZI ?_)
  all_goals (repeat' (first | (refine iBu ?_; refine ZS (Zt rfl) rfl rfl ?_) | (refine Zg ?_; first | (refine Zf ?_; refine qQ ?_) | refine Zj ?_) | refine Za ?_ | (refine Zh ?_; refine Zu ?_) | (refine Zi ?_; refine Zv ?_) | intro _))
  all_goals refine Zz (Zq _ _ ([bpC b2 pb, [(b1, .cells ⟨pgV ⟨gc, gw, glsn, grc⟩⟩ 132 (0, 0))]])) (Zx (hT := tk) (Hp.le_refl _)) ?_
  all_goals (refine Ya 0 ?_; refine rNc 1 ?_; refine YB 2 ?_; refine Ya 3 ?_; refine YB 4 ?_; refine Ya 5 ?_)
  all_goals (refine Zm (i := 6) ?_; ((try refine Zk ?_); (first | (refine Zc (.func 12) ?_; refine qC rfl rfl hflu ?_; rintro v1 ρ1 L1 hle1 ⟨rfl, hl1, w1, k1, hR1, hD1, rfl⟩; try simp only [List.cons_append, List.nil_append, List.append_assoc, List.append_eq]) | (refine Zj ?_; try intro _)) <;> ((try simp only [kM, kN, kO]); refine Za ?_; refine Zl ?_)))
  all_goals (refine ZP ?_; refine rAs 7 ?_; refine ZI ?_)
  all_goals (repeat' (first | (refine iBu ?_; refine ZS (Zt rfl) rfl rfl ?_) | (refine Zg ?_; first | (refine Zf ?_; refine qQ ?_) | refine Zj ?_) | refine Za ?_ | (refine Zh ?_; refine Zu ?_) | (refine Zi ?_; refine Zv ?_) | intro _))
  all_goals
   by_cases hz : e1 = 0
   ·subst hz
    rw [if_neg (by simp)] at hst
    have hp1 := Hp.at' hl1 hp
    have hw1 := hwr hl1 k1 D1 hD1
    generalize XC D1 base num glsn gc = q at *
    obtain ⟨D2, e2⟩ := q
    rw [hst]
    dsimp only at hw1 ⊢
    rw [show ((0 : Int) != 0) = false from rfl]
    repeat' (first | (refine iBu ?_; refine ZS (Zt rfl) rfl rfl ?_) | (refine Zg ?_; first | (refine Zf ?_; refine qQ ?_) | refine Zj ?_) | refine Za ?_ | (refine Zh ?_; refine Zu ?_) | (refine Zi ?_; refine Zv ?_) | intro _)
    refine Zz (Zq _ _ ([bpC b2 pb, bnC b3 num, [(b1, .cells ⟨pgV ⟨gc, gw, glsn, grc⟩⟩ 132 (0, 0))]])) (Zx (hT := tk) (Hp.le_refl _)) ?_
    all_goals (refine Ya 0 ?_; refine rNc 1 ?_; refine YB 2 ?_; refine Ya 3 ?_; refine Ya 4 ?_; refine YB 5 ?_; refine Ya 6 ?_; refine YB 7 ?_; refine Ya 8 ?_)
    all_goals (refine Zm (i := 9) ?_; ((try refine Zk ?_); (first | (refine Zc (.func 67) ?_; refine qC rfl rfl hw1 ?_; rintro v2 ρ2 L2 hle2 ⟨rfl, hl2, k2, hD2, rfl⟩; have hp2 := Hp.at' hl2 hp1; try simp only [List.cons_append, List.nil_append, List.append_assoc, List.append_eq]) | (refine Zj ?_; try intro _)) <;> ((try simp only [kM, kN, kO]); refine Za ?_; refine Zl ?_)))
    all_goals (refine ZP ?_; refine rAs 10 ?_; refine ZI ?_)
    all_goals (repeat' (first | (refine iBu ?_; refine ZS (Zt rfl) rfl rfl ?_) | (refine Zg ?_; first | (refine Zf ?_; refine qQ ?_) | refine Zj ?_) | refine Za ?_ | (refine Zh ?_; refine Zu ?_) | (refine Zi ?_; refine Zv ?_) | intro _))
    all_goals
     have hl12 := Hp.le_trans hl1 hl2
     by_cases hz : e2 = 0
     ·subst hz
      rw [show ((0 : Int) != 0) = false from rfl]
      repeat' (first | (refine iBu ?_; refine ZS (Zt rfl) rfl rfl ?_) | (refine Zg ?_; first | (refine Zf ?_; refine qQ ?_) | refine Zj ?_) | refine Za ?_ | (refine Zh ?_; refine Zu ?_) | (refine Zi ?_; refine Zv ?_) | intro _)
      refine Zz (Zq _ _ ([bpC b2 pb, bnC b3 num, [(b1, .cells ⟨pgV ⟨gc, gw, glsn, 0⟩⟩ 132 (0, 0))]])) (Zx (hT := tk) (Hp.le_refl _)) ?_
      all_goals (refine Ya 0 ?_; refine rNc 1 ?_; refine YB 2 ?_; refine Ya 3 ?_; refine Ya 4 ?_; refine Ya 5 ?_)
      all_goals (refine Zm (i := 6) ?_; ((try refine Zk ?_); (first | (refine WO rfl rfl rfl hk hu (fun es' ck' h1 h2 h3 => ?_)) | (refine Zj ?_; try intro _)) <;> ((try simp only [kM, kN, kO]); refine Za ?_; refine Zl ?_)))
      all_goals refine ZI ?_
      all_goals (repeat' (first | (refine iBu ?_; refine ZS (Zt rfl) rfl rfl ?_) | (refine Zg ?_; first | (refine Zf ?_; refine qQ ?_) | refine Zj ?_) | refine Za ?_ | (refine Zh ?_; refine Zu ?_) | (refine Zi ?_; refine Zv ?_) | intro _))
      all_goals exact qE (L' := YZ mb es' ck' :: bpC b2 pb :: bnC b3 num :: Yy lb rb S1 v :: Xg S v sp :: (Xa rb db S1.R w1 ++ ZA db k2 D2)) ⟨⟨_, rfl⟩, rfl, hl12, es', ck', w1, k2, by simp only [if_true]; exact hput hl12 h1 h2 h3, hR1.mono hl2, hD2, rfl⟩
     ·have hcb : (e2 != 0) = true := by simpa using hz
      rw [hcb]
      repeat' (first | (refine iBu ?_; refine ZS (Zt rfl) rfl rfl ?_) | (refine Zg ?_; first | (refine Zf ?_; refine qQ ?_) | refine Zj ?_) | refine Za ?_ | (refine Zh ?_; refine Zu ?_) | (refine Zi ?_; refine Zv ?_) | intro _)
      exact qE (L' := YZ mb es ck :: bpC b2 pb :: bnC b3 num :: Yy lb rb S1 v :: Xg S v sp :: (Xa rb db S1.R w1 ++ ZA db k2 D2)) ⟨⟨_, rfl⟩, rfl, hl12, es, ck, w1, k2, by rw [if_neg hz]; exact hm.mono hl12, hR1.mono hl2, hD2, rfl⟩
   ·have hcb : (e1 != 0) = true := by simpa using hz
    rw [if_pos hz] at hst
    rw [hst, hcb]
    dsimp only
    repeat' (first | (refine iBu ?_; refine ZS (Zt rfl) rfl rfl ?_) | (refine Zg ?_; first | (refine Zf ?_; refine qQ ?_) | refine Zj ?_) | refine Za ?_ | (refine Zh ?_; refine Zu ?_) | (refine Zi ?_; refine Zv ?_) | intro _)
    exact qE (L' := YZ mb es ck :: bpC b2 pb :: bnC b3 num :: Yy lb rb S1 v :: Xg S v sp :: (Xa rb db S1.R w1 ++ ZA db k1 D1)) ⟨⟨_, rfl⟩, rfl, hl1, es, ck, w1, k1, by rw [if_neg hz]; exact hm.mono hl1, hR1, hD1, rfl⟩
 ·rw [if_neg hlt] at hstf
  rw [hstf] at hst
  rw [if_neg (by simp)] at hst
  have hw1 := hwr (Hp.le_refl _) k D hD
  dsimp only at hst
  generalize XC D base num glsn gc = q at *
  obtain ⟨D2, e2⟩ := q
  rw [hst]
  dsimp only at hw1 ⊢
  refine Ze Tryz.func66 rfl rfl rfl fun u R => ?_
  simp only [Zp, List.cons_append, List.nil_append]
  repeat' (first | (refine iBu ?_; refine ZS (Zt rfl) rfl rfl ?_) | (refine Zg ?_; first | (refine Zf ?_; refine qQ ?_) | refine Zj ?_) | refine Za ?_ | (refine Zh ?_; refine Zu ?_) | (refine Zi ?_; refine Zv ?_) | intro _)
  rename_i b1
  refine Zz (Zq _ _ ([bpC b2 pb, [(b1, .cells ⟨pgV ⟨gc, gw, glsn, grc⟩⟩ 132 (0, 0))]])) (Zx (hT := tk) (Hp.le_refl _)) ?_
  all_goals (refine Ya 0 ?_; refine rNc 1 ?_; refine YB 2 ?_; refine Ya 3 ?_; refine YB 5 ?_; refine Ya 6 ?_)
  all_goals (refine Zm (i := 4) ?_; ((try refine Zk ?_); (first | (refine Zc (.func 17) ?_; refine qC rfl rfl (hfs _) ?_; rintro v ρ' L' hle ⟨rfl, rfl, rfl⟩ <;> (try simp only [kM, kN, kO])) | (refine Zj ?_; try intro _)) <;> ((try simp only [kM, kN, kO]); refine Za ?_; refine Zl ?_)))
  all_goals (refine ZP ?_; refine rCm 7 ?_; refine ZI ?_)
  all_goals (repeat' (first | (refine iBu ?_; refine ZS (Zt rfl) rfl rfl ?_) | (refine Zg ?_; first | (refine Zf ?_; refine qQ ?_) | refine Zj ?_) | refine Za ?_ | (refine Zh ?_; refine Zu ?_) | (refine Zi ?_; refine Zv ?_) | intro _))
  all_goals refine Zz (Zq _ _ ([bpC b2 pb, bnC b3 num, [(b1, .cells ⟨pgV ⟨gc, gw, glsn, grc⟩⟩ 132 (0, 0))]])) (Zx (hT := tk) (Hp.le_refl _)) ?_
  all_goals (refine Ya 0 ?_; refine rNc 1 ?_; refine YB 2 ?_; refine Ya 3 ?_; refine Ya 4 ?_; refine YB 5 ?_; refine Ya 6 ?_; refine YB 7 ?_; refine Ya 8 ?_)
  all_goals (refine Zm (i := 9) ?_; ((try refine Zk ?_); (first | (refine Zc (.func 67) ?_; refine qC rfl rfl hw1 ?_; rintro v2 ρ2 L2 hle2 ⟨rfl, hl2, k2, hD2, rfl⟩; have hp2 := Hp.at' hl2 hp; try simp only [List.cons_append, List.nil_append, List.append_assoc, List.append_eq]) | (refine Zj ?_; try intro _)) <;> ((try simp only [kM, kN, kO]); refine Za ?_; refine Zl ?_)))
  all_goals (refine ZP ?_; refine rAs 10 ?_; refine ZI ?_)
  all_goals (repeat' (first | (refine iBu ?_; refine ZS (Zt rfl) rfl rfl ?_) | (refine Zg ?_; first | (refine Zf ?_; refine qQ ?_) | refine Zj ?_) | refine Za ?_ | (refine Zh ?_; refine Zu ?_) | (refine Zi ?_; refine Zv ?_) | intro _))
  all_goals
   by_cases hz : e2 = 0
   ·subst hz
    rw [show ((0 : Int) != 0) = false from rfl]
    repeat' (first | (refine iBu ?_; refine ZS (Zt rfl) rfl rfl ?_) | (refine Zg ?_; first | (refine Zf ?_; refine qQ ?_) | refine Zj ?_) | refine Za ?_ | (refine Zh ?_; refine Zu ?_) | (refine Zi ?_; refine Zv ?_) | intro _)
    refine Zz (Zq _ _ ([bpC b2 pb, bnC b3 num, [(b1, .cells ⟨pgV ⟨gc, gw, glsn, 0⟩⟩ 132 (0, 0))]])) (Zx (hT := tk) (Hp.le_refl _)) ?_
    all_goals (refine Ya 0 ?_; refine rNc 1 ?_; refine YB 2 ?_; refine Ya 3 ?_; refine Ya 4 ?_; refine Ya 5 ?_)
    all_goals (refine Zm (i := 6) ?_; ((try refine Zk ?_); (first | (refine WO rfl rfl rfl hk hu (fun es' ck' h1 h2 h3 => ?_)) | (refine Zj ?_; try intro _)) <;> ((try simp only [kM, kN, kO]); refine Za ?_; refine Zl ?_)))
    all_goals refine ZI ?_
    all_goals (repeat' (first | (refine iBu ?_; refine ZS (Zt rfl) rfl rfl ?_) | (refine Zg ?_; first | (refine Zf ?_; refine qQ ?_) | refine Zj ?_) | refine Za ?_ | (refine Zh ?_; refine Zu ?_) | (refine Zi ?_; refine Zv ?_) | intro _))
    all_goals exact qE (L' := YZ mb es' ck' :: bpC b2 pb :: bnC b3 num :: Yy lb rb S v :: Xg S v sp :: (Xa rb db S.R w ++ ZA db k2 D2)) ⟨⟨_, rfl⟩, rfl, hl2, es', ck', w, k2, by simp only [if_true]; exact hput hl2 h1 h2 h3, hR.mono hl2, hD2, rfl⟩
   ·have hcb : (e2 != 0) = true := by simpa using hz
    rw [hcb]
    repeat' (first | (refine iBu ?_; refine ZS (Zt rfl) rfl rfl ?_) | (refine Zg ?_; first | (refine Zf ?_; refine qQ ?_) | refine Zj ?_) | refine Za ?_ | (refine Zh ?_; refine Zu ?_) | (refine Zi ?_; refine Zv ?_) | intro _)
    exact qE (L' := YZ mb es ck :: bpC b2 pb :: bnC b3 num :: Yy lb rb S v :: Xg S v sp :: (Xa rb db S.R w ++ ZA db k2 D2)) ⟨⟨_, rfl⟩, rfl, hl2, es, ck, w, k2, by rw [if_neg hz]; exact hm.mono hl2, hR.mono hl2, hD2, rfl⟩
theorem steal17_nil (ρ : Hp) (n : Int) : Spec Tryz.prog 28 [.pointer none, .int .i64 n] ρ [] (fun v ρ' L' => v = .int .i64 1 ∧ ρ' = ρ ∧ L' = []) := by
 refine Ze Tryz.func28 rfl rfl rfl fun u R => ?_
 simp only [Zp, List.cons_append, List.nil_append]
 repeat' (first | (refine Zc (.func 65) ?_; refine qC rfl rfl (own_nil _ _ _) ?_; rintro v ρ' L' hle ⟨rfl, rfl, rfl⟩ <;> (try simp only [kM, kN, kO])) | (refine iBu ?_; refine ZS (Zt rfl) rfl rfl ?_) | (refine Zg ?_; first | (refine Zf ?_; refine qQ ?_) | refine Zj ?_) | refine Za ?_ | (refine Zh ?_; refine Zu ?_) | (refine Zi ?_; refine Zv ?_) | intro _)
 exact qE ⟨rfl, rfl, rfl⟩
theorem steal17_spec (ρ : Hp) (pb fb lb mb rb db base num : Nat) (hp : PoIn ρ pb fb lb mb) (hf : FIn ρ fb db base) (hb : base ≤ 100000) (hn : num < 64) (pg : Pgs) (es : List MapEntry) (ck : Nat) (hm : MpIn ρ es pg) (g : Pg) (hs : pg num = some g) (hg : PgOk g) (h0 : g.rc ≠ 0)
  (S : LgS) (v : Value) (sp : List Value) (h : LgIn ρ S v sp) (w : RW) (hR : RIn ρ S.R w) (k : DK) (D : DS) (hD : DOk k D) (hfl : S.fl < 1000000000000000) :
  Spec Tryz.prog 28 [.pointer (some ⟨pb, 0, none⟩), .int .i64 num] ρ (YZ mb es ck :: Yy lb rb S v :: Xg S v sp :: (Xa rb db S.R w ++ ZA db k D))
   (fun z ρ' L' => z = .int .i64 (Wq S D base num g).2.2 ∧ ρ.le ρ' ∧ ∃ es' ck' w' k', MpIn ρ' es' (if (Wq S D base num g).2.2 = 0 then updG pg num { g with rc := 0 } else pg) ∧ RIn ρ' (Wq S D base num g).1.R w' ∧ DOk k' (Wq S D base num g).2.1 ∧
    L' = YZ mb es' ck' :: Yy lb rb (Wq S D base num g).1 v :: Xg S v sp :: (Xa rb db (Wq S D base num g).1.R w' ++ ZA db k' (Wq S D base num g).2.1)) := by
 have h1 := fun b2 b3 => steal1_spec ρ b2 b3 pb fb lb mb rb db base num hp hf hb hn pg es ck hm g hs hg h0 S v sp h w hR k D hD hfl
 have hev := fun b2 b3 => own_some ρ pb fb lb mb hp num ⟨by omega, by omega⟩ pg es ck hm g hs 66 [.pointer (some ⟨b2, 0, none⟩), .pointer (some ⟨b3, 0, none⟩)] _ _ (h1 b2 b3)
 generalize Wq S D base num g = q at *
 obtain ⟨S1, D1, e1⟩ := q
 dsimp only at *
 refine Ze Tryz.func28 rfl rfl rfl fun u R => ?_
 simp only [Zp, List.cons_append, List.nil_append]
 repeat' (first | (refine Zc (.func 65) ?_; refine qC rfl rfl (hev _ _) ?_; rintro v1 ρ1 L1 hle1 ⟨rfl, hl1, es', ck', w1, k1, hm1, hR1, hD1, rfl⟩; try simp only [List.cons_append, List.nil_append, List.append_assoc, List.append_eq]) | (refine iBu ?_; refine ZS (Zt rfl) rfl rfl ?_) | (refine Zg ?_; first | (refine Zf ?_; refine qQ ?_) | refine Zj ?_) | refine Za ?_ | (refine Zh ?_; refine Zu ?_) | (refine Zi ?_; refine Zv ?_) | intro _)
 exact qE (L' := YZ mb es' ck' :: Yy lb rb S1 v :: Xg S v sp :: (Xa rb db S1.R w1 ++ ZA db k1 D1)) ⟨rfl, hl1, es', ck', w1, k1, hm1, hR1, hD1, rfl⟩
structure Lv (D D' : DS) : Prop where
 secs : D'.secs = D.secs
 armed : D'.armed = D.armed
 failing : D'.failing = -1
 dead : D'.dead = false
theorem Lv.trans {D D' D'' : DS} (h : Lv D D') (h' : Lv D' D'') : Lv D D'' := ⟨h'.secs.trans h.secs, h'.armed.trans h.armed, h'.failing, h'.dead⟩
abbrev Lv1 (D : DS) : Prop := Lv D D
theorem Lv.next {D D' : DS} (h : Lv D D') : Lv1 D' := ⟨rfl, rfl, h.failing, h.dead⟩
theorem DS.Calm.lv {D : DS} (h : D.Calm) : Lv1 D := by
 obtain ⟨s, o, a, f, d⟩ := D
 obtain ⟨h1, h2, h3⟩ := h
 dsimp only at h1 h2 h3
 subst h1; subst h2; subst h3
 exact ⟨rfl, rfl, rfl, rfl⟩
theorem Lv.calm {D D' : DS} (h : Lv D D') (hc : D.Calm) : D'.Calm := by
 obtain ⟨s, o, a, f, d⟩ := D
 obtain ⟨s', o', a', f', d'⟩ := D'
 obtain ⟨h1, h2, h3⟩ := hc
 obtain ⟨g1, g2, g3, g4⟩ := h
 dsimp only at h1 h2 h3 g1 g2 g3 g4
 subst h1; subst h2; subst h3; subst g1; subst g2; subst g3; subst g4
 exact ⟨rfl, rfl, rfl⟩
theorem read_lv {D : DS} {i : Nat} (h : Lv1 D) (hi : i < D.secs.length) : Lv D (D.read i).1 ∧ (D.read i).2.2 = 0 := by
 obtain ⟨s, o, a, f, d⟩ := D
 obtain ⟨_, _, h3, h4⟩ := h
 dsimp only at h3 h4 hi
 subst h3; subst h4
 have hn : ¬ ((i : Int) < 0 ∨ (s.length : Int) ≤ i) := by omega
 have hc : cnt (-1) = -1 := by decide
 unfold DS.read
 simp only [hn, if_false, Bool.false_eq_true, DS.tick, hc, show ¬ ((-1 : Int) = 0) by decide]
 exact ⟨⟨rfl, rfl, rfl, rfl⟩, trivial⟩
theorem rdSlot_lv {D : DS} (h : Lv1 D) {i : Nat} (hi : i + 1 < D.secs.length) : Lv D (Wp D i).1 ∧ (Wp D i).2.2 = 0 := by
 obtain ⟨h1, h2⟩ := read_lv h (i := i) (by omega)
 obtain ⟨h3, h4⟩ := read_lv h1.next (i := i + 1) (by rw [h1.secs]; exact hi)
 unfold Wp
 rw [if_neg (by simp [h2]), if_neg (by rw [h4]; simp)]
 exact ⟨h1.trans h3, rfl⟩
theorem slD_lv {D : DS} {base num : Nat} (h : Lv1 D) (hl : base + 4 * num + 4 ≤ D.secs.length) : ∀ k, k ≤ 2 → Lv D (slD D base num k)
 | 0, _ => h
 | k + 1, hk => by
  have h1 := slD_lv h hl k (by omega)
  exact h1.trans (rdSlot_lv h1.next (i := base + 4 * num + 2 * k) (by rw [XA]; omega)).1
theorem countsD_lv {D : DS} {base num : Nat} (h : Lv1 D) (hl : base + 4 * num + 4 ≤ D.secs.length) : (ZE D base num).2.2 = 0 ∧ Lv D (ZE D base num).2.1 := by
 have e0 := (rdSlot_lv (slD_lv h hl 0 (by omega)).next (i := base + 4 * num + 2 * 0) (by rw [XA]; omega)).2
 have e1 := (rdSlot_lv (slD_lv h hl 1 (by omega)).next (i := base + 4 * num + 2 * 1) (by rw [XA]; omega)).2
 unfold ZE slR
 rw [if_neg (by rw [e0]; simp), if_neg (by rw [e1]; simp)]
 exact ⟨rfl, slD_lv h hl 2 (by omega)⟩
theorem FO.readL {D : DS} {base t : Nat} {held : Nat → XX} (h : FO D base t held) (hc : Lv1 D) {num : Nat} (hn : num < 64) : (Wh D base num).1 = ((held num).1, (held num).2, 0) ∧ Lv D (Wh D base num).2 ∧ FO (Wh D base num).2 base t held := by
 have hln := h.len
 have hl : base + 4 * num + 4 ≤ D.secs.length := by omega
 obtain ⟨e1, e2⟩ := countsD_lv hc hl
 have e3 := countsD_val h.empty h.alive hl e1
 have e4 := h.held num hn
 have hf := h.congr (D' := (ZE D base num).2.1) Vn (countsD_ok h.dok) e2.dead
 unfold WS at e4
 unfold Wh
 rw [e1, e3]
 dsimp only
 by_cases hr : (csD D base num).best.right = true
 ·rw [if_pos hr] at e4
  rw [if_neg (by simp [hr]), ← e4]
  exact ⟨rfl, e2, hf⟩
 ·rw [if_neg hr] at e4
  rw [if_pos (.inr (by simpa using hr)), ← e4]
  exact ⟨rfl, e2, hf⟩
abbrev PV := Int → Option (YE × Nat × Nat)
def vw (pg : Pgs) : PV := fun n => (pg n).map (fun g => (g.c, g.lsn, g.rc))
def setV (pv : PV) (n : Int) (x : YE × Nat × Nat) : PV := fun k => if k = n then some x else pv k
def Vf (held : Nat → XX) (pv : PV) (n : Int) : YE × Nat × Nat := (pv n).getD ((held n.toNat).1, (held n.toNat).2, 0)
def holdV (held : Nat → XX) (pv : PV) (n : Int) : PV := setV pv n (Vf held pv n)
theorem vw_upd (pg : Pgs) (n : Int) (g : Pg) : vw (updG pg n g) = setV (vw pg) n (g.c, g.lsn, g.rc) := by
 funext k; unfold vw updG setV; split <;> simp
theorem vw_del (pg : Pgs) (n : Int) : vw (delG pg n) = fun k => if k = n then none else vw pg k := by
 funext k; unfold vw delG; split <;> simp
theorem vw_some {pg : Pgs} {n : Int} {x : YE × Nat × Nat} (h : vw pg n = some x) : ∃ g, pg n = some g ∧ g.c = x.1 ∧ g.lsn = x.2.1 ∧ g.rc = x.2.2 := by
 unfold vw at h
 cases hp : pg n with
 | none => rw [hp] at h; cases h
 | some g => rw [hp] at h; cases h; exact ⟨g, rfl, rfl, rfl, rfl⟩
theorem HoldG.view {pg : Pgs} {D : DS} {base t num : Nat} {held : Nat → XX} {g : Pg} (h : HoldG pg D base num g) (hf : FO D base t held) (hc : Lv1 D) (hn : num < 64) : vw (updG pg num g) = holdV held (vw pg) num ∧ (g.c, g.lsn, g.rc) = Vf held (vw pg) num := by
 have e : (g.c, g.lsn, g.rc) = Vf held (vw pg) num := by
  unfold Vf vw
  rcases h.out with h1 | ⟨h1, h2, h3, h4⟩
  ·rw [h1]; rfl
  ·rw [h1, h2, h3, h4, (hf.readL hc hn).1]; rfl
 rw [vw_upd, e]
 exact ⟨rfl, rfl⟩
theorem holdD_lv {pg : Pgs} {D : DS} {base t num : Nat} {held : Nat → XX} (hf : FO D base t held) (hc : Lv1 D) (hn : num < 64) : Lv D (holdD pg D base num) ∧ FO (holdD pg D base num) base t held := by
 unfold holdD
 split
 ·exact ⟨hc, hf⟩
 ·exact (hf.readL hc hn).2
theorem hold_lv (ρ : Hp) (pb fb lb mb db base num t : Nat) (hp : PoIn ρ pb fb lb mb) (hf : FIn ρ fb db base) (hb : base ≤ 100000) (hn : num < 64) (k : DK) (D : DS) (hD : DOk k D) (pg : Pgs) (es : List MapEntry) (ck : Nat) (hm : MpIn ρ es pg) (held : Nat → XX) (hF : FO D base t held) (hL : Lv1 D) :
  Spec Tryz.prog 71 [.pointer (some ⟨pb, 0, none⟩), .int .i64 num] ρ (YZ mb es ck :: ZA db k D)
   (fun v ρ' L' => ρ.le ρ' ∧ ∃ g es' ck' pg' D', v = .tuple ⟨[.agg ⟨pgV g⟩, .int .i64 0]⟩ ∧ (g.c, g.lsn, g.rc) = Vf held (vw pg) num ∧ MpIn ρ' es' pg' ∧ vw pg' = holdV held (vw pg) num ∧ DOk k D' ∧ Lv D D' ∧ FO D' base t held ∧ L' = YZ mb es' ck' :: ZA db k D') := by
 have hr := (hF.readL hL hn).1
 refine (hold_spec ρ pb fb lb mb db base num hp hf hb hn k D hD pg es ck hm (fun _ => by rw [hr])).mono ?_
 rintro v ρ' L' _ ⟨h1, g, es', ck', h2, h3, h4, h5, h6⟩
 obtain ⟨e1, e2⟩ := h3.view hF hL hn
 obtain ⟨e3, e4⟩ := holdD_lv (pg := pg) hF hL hn
 exact ⟨h1, g, es', ck', _, _, h2, e2, h4, e1, h5, e3, e4, h6⟩
theorem page_lv (ρ : Hp) (pb fb lb mb db base num t : Nat) (hp : PoIn ρ pb fb lb mb) (hf : FIn ρ fb db base) (hb : base ≤ 100000) (hn : num < 64) (k : DK) (D : DS) (hD : DOk k D) (pg : Pgs) (es : List MapEntry) (ck : Nat) (hm : MpIn ρ es pg) (held : Nat → XX) (hF : FO D base t held) (hL : Lv1 D) :
  Spec Tryz.prog 31 [.pointer (some ⟨pb, 0, none⟩), .int .i64 num] ρ (YZ mb es ck :: ZA db k D)
   (fun v ρ' L' => ρ.le ρ' ∧ ∃ w es' ck' pg' D', v = .tuple ⟨[.agg ⟨Wf (Vf held (vw pg) num).1.kind w⟩, .int .u64 ((Vf held (vw pg) num).2.1 : Nat), .int .i64 0]⟩ ∧ CIn ρ' w (Vf held (vw pg) num).1.rows (Vf held (vw pg) num).1.kids ∧ MpIn ρ' es' pg' ∧ vw pg' = holdV held (vw pg) num ∧ DOk k D' ∧ Lv D D' ∧ FO D' base t held ∧ L' = YZ mb es' ck' :: ZA db k D') := by
 have hr := (hF.readL hL hn).1
 refine (page17_spec ρ pb fb lb mb db base num hp hf hb hn k D hD pg es ck hm (fun _ => by rw [hr])).mono ?_
 rintro v ρ' L' _ ⟨h1, g, es', ck', w, h2, h2', h3, h4, h5, h6⟩
 obtain ⟨e1, e2⟩ := h3.view hF hL hn
 obtain ⟨e3, e4⟩ := holdD_lv (pg := pg) hF hL hn
 rw [← e2]
 exact ⟨h1, w, es', ck', _, _, h2, h2', h4, e1, h5, e3, e4, h6⟩
structure Sh where
 page : Int
 w : CV
 c : YE
abbrev sheV (s : Sh) : List Value := [.int .i64 s.page, .int .i64 s.c.kind, .slice s.w.ra s.w.rn s.w.rc, .slice s.w.ka s.w.kn s.w.kc]
structure ShsIn (ρ : Hp) (a : Option Addr) (n c : Nat) (l : List Sh) : Prop where
 at' : AIn ρ 4 sheV a n l
 big : n ≤ 1000000
 cin : ∀ s ∈ l, CIn ρ s.w s.c.rows s.c.kids
theorem ShsIn.mono {ρ ρ' a n c l} (h : ShsIn ρ a n c l) (hle : ρ.le ρ') : ShsIn ρ' a n c l := ⟨h.at'.mono hle, h.big, fun s hs => (h.cin s hs).mono hle⟩
def riseS : Int → List Sh → Bool
 | _, [] => true
 | last, s :: r => decide (last < s.page ∧ 0 ≤ s.page ∧ s.page < 64) && riseS s.page r
def Wo (held : Nat → XX) : PV → List Sh → PV
 | pv, [] => pv
 | pv, s :: r => Wo held (holdV held pv s.page) r
def askE (known : Bool) (held : Nat → XX) (pv : PV) (lsn : Nat) (l : List Sh) : Int :=
 if known = false ∨ l = [] then 2 else if riseS (-1) l = false then 2 else if l.all (fun s => ZR s.c) = false then 160
 else if l.any (fun s => decide (lsn ≤ (Vf held (Wo held pv l) s.page).2.1)) then 2 else 0
def askV (known : Bool) (held : Nat → XX) (pv : PV) (l : List Sh) : PV :=
 if known = false ∨ l = [] then pv else if riseS (-1) l = false then pv else if l.all (fun s => ZR s.c) = false then pv else Wo held pv l
def prevS (l : List Sh) (k : Nat) : Int := if h : 0 < k ∧ k ≤ l.length then (l[k - 1]'(by omega)).page else -1
theorem riseS_drop {l : List Sh} {k : Nat} (hk : k < l.length) : riseS (prevS l k) (l.drop k) = (decide (prevS l k < l[k].page ∧ 0 ≤ l[k].page ∧ l[k].page < 64) && riseS (prevS l (k + 1)) (l.drop (k + 1))) := by
 rw [List.drop_eq_getElem_cons hk, riseS]
 congr 2
 unfold prevS
 rw [dif_pos ⟨by omega, by omega⟩]
 rfl
theorem holdsV_snoc (held : Nat → XX) : ∀ (pv : PV) (l : List Sh) (s : Sh), Wo held pv (l ++ [s]) = holdV held (Wo held pv l) s.page
 | pv, [], s => rfl
 | pv, x :: r, s => by simp only [List.cons_append, Wo]; exact holdsV_snoc held _ r s
theorem take_snoc {α : Type} (l : List α) (k : Nat) (hk : k < l.length) : l.take (k + 1) = l.take k ++ [l[k]] := List.take_succ_eq_append_getElem hk
theorem holdV_has (held : Nat → XX) (pv : PV) (n m : Int) (h : (pv m).isSome) : ((holdV held pv n) m) = pv m ∧ ((holdV held pv n) n).isSome := by
 refine ⟨?_, by unfold holdV setV; simp⟩
 unfold holdV setV
 split
 ·rename_i e
  subst e
  unfold Vf
  cases hp : pv m with
  | none => rw [hp] at h; cases h
  | some x => rfl
 ·rfl
theorem holdsV_has (held : Nat → XX) : ∀ (l : List Sh) (pv : PV) (m : Int), (pv m).isSome → (Wo held pv l) m = pv m
 | [], pv, m, _ => rfl
 | s :: r, pv, m, h => by
  have h1 := (holdV_has held pv s.page m h).1
  show Wo held (holdV held pv s.page) r m = _
  rw [holdsV_has held r _ m (by rw [h1]; exact h), h1]
theorem holdsV_mem (held : Nat → XX) : ∀ (l : List Sh) (pv : PV) (s : Sh), s ∈ l → ((Wo held pv l) s.page).isSome
 | x :: r, pv, s, hs => by
  show (Wo held (holdV held pv x.page) r s.page).isSome
  rcases List.mem_cons.1 hs with rfl | hs
  ·have h1 : ((holdV held pv s.page) s.page).isSome := by unfold holdV setV; simp
   rw [holdsV_has held r _ _ h1]; exact h1
  ·exact holdsV_mem held r _ s hs
theorem prevS_zero (l : List Sh) : prevS l 0 = -1 := by unfold prevS; rw [dif_neg (by omega)]
theorem prevS_pos {l : List Sh} {k : Nat} (h0 : k ≠ 0) (hk : k < l.length) : prevS l k = (l[k - 1]'(by omega)).page := by unfold prevS; rw [dif_pos ⟨by omega, by omega⟩]
theorem riseS_pages : ∀ {l : List Sh} {last : Int}, riseS last l = true → ∀ s ∈ l, 0 ≤ s.page ∧ s.page < 64
 | [], _, _, s, hs => by cases hs
 | x :: r, last, h, s, hs => by
  rw [riseS, Bool.and_eq_true, decide_eq_true_eq] at h
  rcases List.mem_cons.1 hs with rfl | hs
  ·exact h.1.2
  ·exact riseS_pages h.2 s hs
theorem asked_spec (ρ : Hp) (pb fb lb mb rb db base t : Nat) (hp : PoIn ρ pb fb lb mb) (hf : FIn ρ fb db base) (hb : base ≤ 100000) (S : LgS) (v : Value) (sp : List Value) (hS : LgIn ρ S v sp) (k : DK) (D : DS) (hD : DOk k D) (pg : Pgs) (es : List MapEntry) (ck : Nat) (hm : MpIn ρ es pg) (held : Nat → XX) (hF : FO D base t held) (hL : Lv1 D)
  (lsn : Nat) (a : Option Addr) (n c : Nat) (l : List Sh) (h : ShsIn ρ a n c l) :
  Spec Tryz.prog 63 [.pointer (some ⟨pb, 0, none⟩), .int .u64 (lsn : Nat), .slice a n c] ρ (Yy lb rb S v :: Xg S v sp :: YZ mb es ck :: ZA db k D)
   (fun z ρ' L' => z = .int .i64 (askE (recF S lsn).isSome held (vw pg) lsn l) ∧ ρ.le ρ' ∧ ∃ es' ck' pg' D', MpIn ρ' es' pg' ∧ vw pg' = askV (recF S lsn).isSome held (vw pg) l ∧ DOk k D' ∧ Lv D D' ∧ FO D' base t held ∧ L' = Yy lb rb S v :: Xg S v sp :: YZ mb es' ck' :: ZA db k D') := by
 have hl := h.at'.len
 have hbig := h.big
 have hrec := rec16_spec ρ lb rb S v sp hS lsn
 generalize hE : askE (recF S lsn).isSome held (vw pg) lsn l = E
 generalize hV : askV (recF S lsn).isSome held (vw pg) l = V
 unfold askE at hE
 unfold askV at hV
 generalize ho : recF S lsn = o at *
 have hone : (rrV (o.getD zRR)).length = 10 := rfl
 refine Ze Tryz.func63 rfl rfl rfl fun u R => ?_
 simp only [Zp, List.cons_append, List.nil_append]
 cases hoo : o with
 | none =>
  subst hoo
  rw [if_pos (.inl rfl)] at hE hV
  subst hE; subst hV
  have hrc : (fun z ρ' L' => z = recAns none ∧ ρ.le ρ' ∧ L' = [Yy lb rb S v, Xg S v sp]) = (fun z ρ' L' => z = .tuple ⟨[.agg ⟨WW zRR.1 zRR.2⟩, .int .i64 4]⟩ ∧ ρ.le ρ' ∧ L' = [Yy lb rb S v, Xg S v sp]) := rfl
  rw [hrc] at hrec
  repeat' (first | (refine Zc (.func 10) ?_; refine qC rfl rfl hrec ?_; rintro v1 ρ1 L1 hle1 ⟨rfl, hl1, rfl⟩; try simp only [List.cons_append, List.nil_append, List.append_assoc, List.append_eq]) | (refine iBu ?_; refine ZS (Zt rfl) rfl rfl ?_) | (refine Zg ?_; first | (refine Zf ?_; refine qQ ?_) | refine Zj ?_) | refine Za ?_ | (refine Zh ?_; refine Zu ?_) | (refine Zi ?_; refine Zv ?_) | intro _)
  exact qE (L' := Yy lb rb S v :: Xg S v sp :: YZ mb es ck :: ZA db k D) ⟨rfl, hl1, es, ck, pg, D, hm.mono hl1, rfl, hD, hL, hF, rfl⟩
 | some x =>
  subst hoo
  obtain ⟨xv, xr⟩ := x
  simp only [Option.isSome_some, Bool.true_eq_false, false_or] at hE hV
  have hrc : (fun z ρ' L' => z = recAns (some (xv, xr)) ∧ ρ.le ρ' ∧ L' = [Yy lb rb S v, Xg S v sp]) = (fun z ρ' L' => z = .tuple ⟨[.agg ⟨WW xv xr⟩, .int .i64 0]⟩ ∧ ρ.le ρ' ∧ L' = [Yy lb rb S v, Xg S v sp]) := rfl
  rw [hrc] at hrec
  by_cases hnil : l = []
  ·rw [if_pos hnil] at hE hV
   subst hE; subst hV
   have hn0 : ((n : Nat) : Int) = 0 := by rw [← hl, hnil]; rfl
   repeat' (first | (refine Zc (.func 10) ?_; refine qC rfl rfl hrec ?_; rintro v1 ρ1 L1 hle1 ⟨rfl, hl1, rfl⟩; try simp only [List.cons_append, List.nil_append, List.append_assoc, List.append_eq]) | (refine iBu ?_; refine ZS (Zt rfl) rfl rfl ?_) | (refine Zg ?_; first | (refine Zf ?_; refine qQ ?_) | refine Zj ?_) | refine Za ?_ | (refine Zh ?_; refine Zu ?_) | (refine Zi ?_; refine Zv ?_) | intro _)
   exact qE (L' := Yy lb rb S v :: Xg S v sp :: YZ mb es ck :: ZA db k D) ⟨rfl, hl1, es, ck, pg, D, hm.mono hl1, rfl, hD, hL, hF, rfl⟩
  ·rw [if_neg hnil] at hE hV
   have hn0 : ¬ ((n : Nat) : Int) = 0 := by
    intro e; apply hnil; exact List.eq_nil_of_length_eq_zero (by omega)
   repeat' (first | (refine Zc (.func 10) ?_; refine qC rfl rfl hrec ?_; rintro v1 ρ1 L1 hle1 ⟨rfl, hl1, rfl⟩; try simp only [List.cons_append, List.nil_append, List.append_assoc, List.append_eq]) | (refine iBu ?_; refine ZS (Zt rfl) rfl rfl ?_) | (refine Zg ?_; first | (refine Zf ?_; refine qQ ?_) | refine Zj ?_) | refine Za ?_ | (refine Zh ?_; refine Zu ?_) | (refine Zi ?_; refine Zv ?_) | intro _)
   have hp1 := Hp.at' hl1 hp
   have hf1 := hf.mono hl1
   have hm1 := hm.mono hl1
   have h1 := h.mono hl1
   clear hp hf hm h hrec
   refine ZK [(0, _), (1, _), (2, _), (36, _), (37, _)] (fun (ζ : (Nat)) => [(38, .int .i64 ζ), (6, .int .i64 0)]) (fun (ζ : (Nat)) => ρ1) (fun (ζ : (Nat)) => Yy lb rb S v :: Xg S v sp :: YZ mb es ck :: ZA db k D) (fun (ζ : (Nat)) => ζ ≤ n ∧ riseS (prevS l ζ) (l.drop ζ) = riseS (-1) l) (fun (ζ : (Nat)) => n - ζ) (0) (⟨Nat.zero_le _, by rw [prevS_zero]; rfl⟩) Zw Zw rfl tk ?_
   rintro i hI
   try simp only [List.cons_append, List.nil_append, List.append_assoc, List.append_eq] at hI ⊢
   try dsimp only at hI ⊢
   obtain ⟨hi, hri⟩ := hI
   by_cases hlt : i < n
   ·have hil : i < l.length := by omega
    obtain ⟨b, off, C, T, fr, e1, hb0, hfit, hc⟩ := h1.at'.get hil
    have hs := riseS_drop hil
    rw [hri] at hs
    have hth := fun ρ => there_spec ρ (l[i]).page
    have hbad : (¬ (0 ≤ (l[i]).page ∧ (l[i]).page < 64) ∨ (l[i]).page ≤ prevS l i) → riseS (-1) l = false := fun hx => by
     rw [hs, decide_eq_false (by omega)]; rfl
    have hgood : 0 ≤ (l[i]).page ∧ (l[i]).page < 64 → prevS l i < (l[i]).page → riseS (prevS l (i + 1)) (l.drop (i + 1)) = riseS (-1) l := fun h1 h2 => by
     rw [hs, decide_eq_true ⟨h2, h1⟩, Bool.true_and]
    rw [e1]
    by_cases hi0 : i = 0
    ·have hpr : prevS l i = -1 := by rw [hi0]; exact prevS_zero l
     rw [hpr] at hbad hgood
     have hi0' : ¬ ((i : Int) > 0) := by omega
     clear hs hri
     generalize l[i] = x at *
     by_cases hx : 0 ≤ x.page ∧ x.page < 64
     ·simp only [decide_eq_true hx] at hth
      repeat' (first | (refine iBu ?_; refine ZS (Zt rfl) rfl rfl ?_) | (refine Zg ?_; first | (refine Zf ?_; refine qQ ?_) | refine Zj ?_) | refine Za ?_ | (refine Zh ?_; refine Zu ?_) | (refine Zi ?_; refine Zv ?_) | intro _)
      rename_i bx
      refine Zz (Zq _ _ ([[(bx, .cells ⟨sheV x⟩ 67 (0, 0))]])) (Zx (hT := tk) (Hp.le_refl _)) ?_
      all_goals (refine YB 0 ?_; refine Ya 1 ?_)
      all_goals (refine Zm (i := 2) ?_; ((try refine Zk ?_); (first | (refine Zc (.func 70) ?_; refine qC rfl rfl (hth _) ?_; rintro v ρ' L' hle ⟨rfl, rfl, rfl⟩ <;> (try simp only [kM, kN, kO])) | (refine Zj ?_; try intro _)) <;> ((try simp only [kM, kN, kO]); refine Za ?_; refine Zl ?_)))
      all_goals (refine ZP ?_; refine rUn 3 ?_; refine ZU 4 ?_; (first | refine Zd 5 ?_ | refine Zb 5 ?_ | refine Yf 5 ?_); (first | refine Zd 6 ?_ | refine Zb 6 ?_ | refine wCm 6 ?_); (first | refine Zd 7 ?_ | refine Zb 7 ?_ | refine Yf 7 ?_); (first | refine Zd 8 ?_ | refine Zb 8 ?_ | refine Yf 8 ?_); (first | refine Zd 9 ?_ | refine Zb 9 ?_ | refine Yf 9 ?_); (first | refine Zd 10 ?_ | refine Zb 10 ?_ | refine wSb 10 ?_); (first | refine Zd 11 ?_ | refine Zb 11 ?_ | refine wIa 11 ?_); (first | refine Zd 12 ?_ | refine Zb 12 ?_ | refine wFa 12 ?_); (first | refine Zd 13 ?_ | refine Zb 13 ?_ | refine wLd 13 ?_); (first | refine Zd 14 ?_ | refine Zb 14 ?_ | refine wFa 14 ?_); (first | refine Zd 15 ?_ | refine Zb 15 ?_ | refine wLd 15 ?_); (first | refine Zd 16 ?_ | refine Zb 16 ?_ | refine wCm 16 ?_); (first | refine Zd 17 ?_ | refine Zb 17 ?_ | refine wPk 17 ?_); refine rPk 18 ?_; refine ZI ?_)
      all_goals (repeat' (first | (refine iBu ?_; refine ZS (Zt rfl) rfl rfl ?_) | (refine Zg ?_; first | (refine Zf ?_; refine qQ ?_) | refine Zj ?_) | refine Za ?_ | (refine Zh ?_; refine Zu ?_) | (refine Zi ?_; refine Zv ?_) | intro _))
      all_goals rw [← e1]
      all_goals refine Zy (i + 1) (⟨hlt, hgood hx (by omega)⟩) Zw Zw rfl tk inferInstance (by first | omega | (dsimp only; omega))
     ·simp only [decide_eq_false hx] at hth
      rw [if_pos (hbad (.inl hx))] at hE hV
      subst hE; subst hV
      repeat' (first | (refine iBu ?_; refine ZS (Zt rfl) rfl rfl ?_) | (refine Zg ?_; first | (refine Zf ?_; refine qQ ?_) | refine Zj ?_) | refine Za ?_ | (refine Zh ?_; refine Zu ?_) | (refine Zi ?_; refine Zv ?_) | intro _)
      rename_i bx
      refine Zz (Zq _ _ ([[(bx, .cells ⟨sheV x⟩ 67 (0, 0))]])) (Zx (hT := tk) (Hp.le_refl _)) ?_
      all_goals (refine YB 0 ?_; refine Ya 1 ?_)
      all_goals (refine Zm (i := 2) ?_; ((try refine Zk ?_); (first | (refine Zc (.func 70) ?_; refine qC rfl rfl (hth _) ?_; rintro v ρ' L' hle ⟨rfl, rfl, rfl⟩ <;> (try simp only [kM, kN, kO])) | (refine Zj ?_; try intro _)) <;> ((try simp only [kM, kN, kO]); refine Za ?_; refine Zl ?_)))
      all_goals (refine ZP ?_; refine rUn 3 ?_; refine ZU 4 ?_; (first | refine Zd 5 ?_ | refine Zb 5 ?_ | refine Yf 5 ?_); (first | refine Zd 6 ?_ | refine Zb 6 ?_ | refine wCm 6 ?_); (first | refine Zd 7 ?_ | refine Zb 7 ?_ | refine Yf 7 ?_); (first | refine Zd 8 ?_ | refine Zb 8 ?_ | refine Yf 8 ?_); (first | refine Zd 9 ?_ | refine Zb 9 ?_ | refine Yf 9 ?_); (first | refine Zd 10 ?_ | refine Zb 10 ?_ | refine wSb 10 ?_); (first | refine Zd 11 ?_ | refine Zb 11 ?_ | refine wIa 11 ?_); (first | refine Zd 12 ?_ | refine Zb 12 ?_ | refine wFa 12 ?_); (first | refine Zd 13 ?_ | refine Zb 13 ?_ | refine wLd 13 ?_); (first | refine Zd 14 ?_ | refine Zb 14 ?_ | refine wFa 14 ?_); (first | refine Zd 15 ?_ | refine Zb 15 ?_ | refine wLd 15 ?_); (first | refine Zd 16 ?_ | refine Zb 16 ?_ | refine wCm 16 ?_); (first | refine Zd 17 ?_ | refine Zb 17 ?_ | refine wPk 17 ?_); refine rPk 18 ?_; refine ZI ?_)
      all_goals (repeat' (first | (refine iBu ?_; refine ZS (Zt rfl) rfl rfl ?_) | (refine Zg ?_; first | (refine Zf ?_; refine qQ ?_) | refine Zj ?_) | refine Za ?_ | (refine Zh ?_; refine Zu ?_) | (refine Zi ?_; refine Zv ?_) | intro _))
      all_goals exact qE (L' := Yy lb rb S v :: Xg S v sp :: YZ mb es ck :: ZA db k D) ⟨rfl, hl1, es, ck, pg, D, hm1, rfl, hD, hL, hF, rfl⟩
    ·have hpr := prevS_pos hi0 hil
     rw [hpr] at hbad hgood
     obtain ⟨b2, off2, C2, T2, fr2, f1, hb2, hfit2, hc2⟩ := h1.at'.get (show i - 1 < l.length by omega)
     rw [e1] at f1
     cases f1
     rw [hb0] at hb2
     cases hb2
     have ek : ((i : Int) - 1).toNat = i - 1 := by omega
     rw [← ek] at hfit2
     have hc3 : List.take 4 (List.drop (off + ((i : Int) - 1).toNat * 4) C) = sheV (l[i - 1]'(by omega)) := by rw [ek]; exact hc2
     have hc4 : C[off + ((i : Int) - 1).toNat * 4]? = some (.int .i64 (l[i - 1]'(by omega)).page) := by
      have := congrArg (fun l : List Value => l[0]?) hc3
      simp only [List.getElem?_take_of_lt (show 0 < 4 by omega), List.getElem?_drop, Nat.add_zero] at this
      exact this
     clear hc2 hc3 hs hri
     generalize l[i] = x at *
     generalize l[i - 1]'(by omega) = y at *
     by_cases hx : 0 ≤ x.page ∧ x.page < 64
     ·simp only [decide_eq_true hx] at hth
      by_cases hyx : y.page < x.page
      ·have hyx' : ¬ x.page ≤ y.page := by omega
       repeat' (first | (refine iBu ?_; refine ZS (Zt rfl) rfl rfl ?_) | (refine Zg ?_; first | (refine Zf ?_; refine qQ ?_) | refine Zj ?_) | refine Za ?_ | (refine Zh ?_; refine Zu ?_) | (refine Zi ?_; refine Zv ?_) | intro _)
       rename_i bx
       refine Zz (Zq _ _ ([[(bx, .cells ⟨sheV x⟩ 67 (0, 0))]])) (Zx (hT := tk) (Hp.le_refl _)) ?_
       all_goals (refine YB 0 ?_; refine Ya 1 ?_)
       all_goals (refine Zm (i := 2) ?_; ((try refine Zk ?_); (first | (refine Zc (.func 70) ?_; refine qC rfl rfl (hth _) ?_; rintro v ρ' L' hle ⟨rfl, rfl, rfl⟩ <;> (try simp only [kM, kN, kO])) | (refine Zj ?_; try intro _)) <;> ((try simp only [kM, kN, kO]); refine Za ?_; refine Zl ?_)))
       all_goals (refine ZP ?_; refine rUn 3 ?_; refine ZU 4 ?_; (first | refine Zd 5 ?_ | refine Zb 5 ?_ | refine Yf 5 ?_); (first | refine Zd 6 ?_ | refine Zb 6 ?_ | refine wCm 6 ?_); (first | refine Zd 7 ?_ | refine Zb 7 ?_ | refine Yf 7 ?_); (first | refine Zd 8 ?_ | refine Zb 8 ?_ | refine Yf 8 ?_); (first | refine Zd 9 ?_ | refine Zb 9 ?_ | refine Yf 9 ?_); (first | refine Zd 10 ?_ | refine Zb 10 ?_ | refine wSb 10 ?_); (first | refine Zd 11 ?_ | refine Zb 11 ?_ | refine wIa 11 ?_); (first | refine Zd 12 ?_ | refine Zb 12 ?_ | refine wFa 12 ?_); (first | refine Zd 13 ?_ | refine Zb 13 ?_ | refine wLd 13 ?_); (first | refine Zd 14 ?_ | refine Zb 14 ?_ | refine wFa 14 ?_); (first | refine Zd 15 ?_ | refine Zb 15 ?_ | refine wLd 15 ?_); (first | refine Zd 16 ?_ | refine Zb 16 ?_ | refine wCm 16 ?_); (first | refine Zd 17 ?_ | refine Zb 17 ?_ | refine wPk 17 ?_); refine rPk 18 ?_; refine ZI ?_)
       all_goals (repeat' (first | (refine iBu ?_; refine ZS (Zt rfl) rfl rfl ?_) | (refine Zg ?_; first | (refine Zf ?_; refine qQ ?_) | refine Zj ?_) | refine Za ?_ | (refine Zh ?_; refine Zu ?_) | (refine Zi ?_; refine Zv ?_) | intro _))
       all_goals rw [← e1]
       all_goals refine Zy (i + 1) (⟨hlt, hgood hx hyx⟩) Zw Zw rfl tk inferInstance (by first | omega | (dsimp only; omega))
      ·have hyx' : x.page ≤ y.page := by omega
       rw [if_pos (hbad (.inr hyx'))] at hE hV
       subst hE; subst hV
       repeat' (first | (refine iBu ?_; refine ZS (Zt rfl) rfl rfl ?_) | (refine Zg ?_; first | (refine Zf ?_; refine qQ ?_) | refine Zj ?_) | refine Za ?_ | (refine Zh ?_; refine Zu ?_) | (refine Zi ?_; refine Zv ?_) | intro _)
       rename_i bx
       refine Zz (Zq _ _ ([[(bx, .cells ⟨sheV x⟩ 67 (0, 0))]])) (Zx (hT := tk) (Hp.le_refl _)) ?_
       all_goals (refine YB 0 ?_; refine Ya 1 ?_)
       all_goals (refine Zm (i := 2) ?_; ((try refine Zk ?_); (first | (refine Zc (.func 70) ?_; refine qC rfl rfl (hth _) ?_; rintro v ρ' L' hle ⟨rfl, rfl, rfl⟩ <;> (try simp only [kM, kN, kO])) | (refine Zj ?_; try intro _)) <;> ((try simp only [kM, kN, kO]); refine Za ?_; refine Zl ?_)))
       all_goals (refine ZP ?_; refine rUn 3 ?_; refine ZU 4 ?_; (first | refine Zd 5 ?_ | refine Zb 5 ?_ | refine Yf 5 ?_); (first | refine Zd 6 ?_ | refine Zb 6 ?_ | refine wCm 6 ?_); (first | refine Zd 7 ?_ | refine Zb 7 ?_ | refine Yf 7 ?_); (first | refine Zd 8 ?_ | refine Zb 8 ?_ | refine Yf 8 ?_); (first | refine Zd 9 ?_ | refine Zb 9 ?_ | refine Yf 9 ?_); (first | refine Zd 10 ?_ | refine Zb 10 ?_ | refine wSb 10 ?_); (first | refine Zd 11 ?_ | refine Zb 11 ?_ | refine wIa 11 ?_); (first | refine Zd 12 ?_ | refine Zb 12 ?_ | refine wFa 12 ?_); (first | refine Zd 13 ?_ | refine Zb 13 ?_ | refine wLd 13 ?_); (first | refine Zd 14 ?_ | refine Zb 14 ?_ | refine wFa 14 ?_); (first | refine Zd 15 ?_ | refine Zb 15 ?_ | refine wLd 15 ?_); (first | refine Zd 16 ?_ | refine Zb 16 ?_ | refine wCm 16 ?_); (first | refine Zd 17 ?_ | refine Zb 17 ?_ | refine wPk 17 ?_); refine rPk 18 ?_; refine ZI ?_)
       all_goals (repeat' (first | (refine iBu ?_; refine ZS (Zt rfl) rfl rfl ?_) | (refine Zg ?_; first | (refine Zf ?_; refine qQ ?_) | refine Zj ?_) | refine Za ?_ | (refine Zh ?_; refine Zu ?_) | (refine Zi ?_; refine Zv ?_) | intro _))
       all_goals exact qE (L' := Yy lb rb S v :: Xg S v sp :: YZ mb es ck :: ZA db k D) ⟨rfl, hl1, es, ck, pg, D, hm1, rfl, hD, hL, hF, rfl⟩
     ·simp only [decide_eq_false hx] at hth
      rw [if_pos (hbad (.inl hx))] at hE hV
      subst hE; subst hV
      repeat' (first | (refine iBu ?_; refine ZS (Zt rfl) rfl rfl ?_) | (refine Zg ?_; first | (refine Zf ?_; refine qQ ?_) | refine Zj ?_) | refine Za ?_ | (refine Zh ?_; refine Zu ?_) | (refine Zi ?_; refine Zv ?_) | intro _)
      rename_i bx
      refine Zz (Zq _ _ ([[(bx, .cells ⟨sheV x⟩ 67 (0, 0))]])) (Zx (hT := tk) (Hp.le_refl _)) ?_
      all_goals (refine YB 0 ?_; refine Ya 1 ?_)
      all_goals (refine Zm (i := 2) ?_; ((try refine Zk ?_); (first | (refine Zc (.func 70) ?_; refine qC rfl rfl (hth _) ?_; rintro v ρ' L' hle ⟨rfl, rfl, rfl⟩ <;> (try simp only [kM, kN, kO])) | (refine Zj ?_; try intro _)) <;> ((try simp only [kM, kN, kO]); refine Za ?_; refine Zl ?_)))
      all_goals (refine ZP ?_; refine rUn 3 ?_; refine ZU 4 ?_; (first | refine Zd 5 ?_ | refine Zb 5 ?_ | refine Yf 5 ?_); (first | refine Zd 6 ?_ | refine Zb 6 ?_ | refine wCm 6 ?_); (first | refine Zd 7 ?_ | refine Zb 7 ?_ | refine Yf 7 ?_); (first | refine Zd 8 ?_ | refine Zb 8 ?_ | refine Yf 8 ?_); (first | refine Zd 9 ?_ | refine Zb 9 ?_ | refine Yf 9 ?_); (first | refine Zd 10 ?_ | refine Zb 10 ?_ | refine wSb 10 ?_); (first | refine Zd 11 ?_ | refine Zb 11 ?_ | refine wIa 11 ?_); (first | refine Zd 12 ?_ | refine Zb 12 ?_ | refine wFa 12 ?_); (first | refine Zd 13 ?_ | refine Zb 13 ?_ | refine wLd 13 ?_); (first | refine Zd 14 ?_ | refine Zb 14 ?_ | refine wFa 14 ?_); (first | refine Zd 15 ?_ | refine Zb 15 ?_ | refine wLd 15 ?_); (first | refine Zd 16 ?_ | refine Zb 16 ?_ | refine wCm 16 ?_); (first | refine Zd 17 ?_ | refine Zb 17 ?_ | refine wPk 17 ?_); refine rPk 18 ?_; refine ZI ?_)
      all_goals (repeat' (first | (refine iBu ?_; refine ZS (Zt rfl) rfl rfl ?_) | (refine Zg ?_; first | (refine Zf ?_; refine qQ ?_) | refine Zj ?_) | refine Za ?_ | (refine Zh ?_; refine Zu ?_) | (refine Zi ?_; refine Zv ?_) | intro _))
      all_goals exact qE (L' := Yy lb rb S v :: Xg S v sp :: YZ mb es ck :: ZA db k D) ⟨rfl, hl1, es, ck, pg, D, hm1, rfl, hD, hL, hF, rfl⟩
   ·have hi2 : i = l.length := by omega
    rw [hi2, List.drop_length, riseS] at hri
    rw [if_neg (by rw [← hri]; simp)] at hE hV
    have hrt := hri.symm
    repeat' (first | (refine iBu ?_; refine ZS (Zt rfl) rfl rfl ?_) | (refine Zg ?_; first | (refine Zf ?_; refine qQ ?_) | refine Zj ?_) | refine Za ?_ | (refine Zh ?_; refine Zu ?_) | (refine Zi ?_; refine Zv ?_) | intro _)
    clear hri hi hi2 hlt
    refine ZK [(0, _), (1, _), (2, _), (63, _), (64, _)] (fun (ζ : (Nat)) => [(65, .int .i64 ζ), (6, .int .i64 0)]) (fun (ζ : (Nat)) => ρ1) (fun (ζ : (Nat)) => Yy lb rb S v :: Xg S v sp :: YZ mb es ck :: ZA db k D) (fun (ζ : (Nat)) => ζ ≤ n ∧ (l.take ζ).all (fun s => ZR s.c) = true) (fun (ζ : (Nat)) => n - ζ) (0) (⟨Nat.zero_le _, rfl⟩) Zw Zw rfl tk ?_
    rintro i hI
    try simp only [List.cons_append, List.nil_append, List.append_assoc, List.append_eq] at hI ⊢
    try dsimp only at hI ⊢
    obtain ⟨hi, hok⟩ := hI
    by_cases hlt : i < n
    ·have hil : i < l.length := by omega
     obtain ⟨b, off, C, T, fr, e1, hb0, hfit, hc⟩ := h1.at'.get hil
     have hck := XG ρ1 (l[i]).w (l[i]).c (h1.cin _ (List.getElem_mem hil))
     have htk := take_snoc l i hil
     have hbad : ZR (l[i]).c = false → l.all (fun s => ZR s.c) = false := fun e => by
      cases hA : l.all (fun s => ZR s.c) with
      | false => rfl
      | true => rw [List.all_eq_true] at hA; rw [hA _ (List.getElem_mem hil)] at e; cases e
     rw [e1]
     generalize l[i] = x at *
     cases hx : ZR x.c
     ·rw [hx] at hck
      rw [if_pos (hbad hx)] at hE hV
      subst hE; subst hV
      repeat' (first | (refine Zc (.func 118) ?_; refine qC rfl rfl (hck) ?_; rintro v ρ' L' hle ⟨rfl, rfl, rfl⟩ <;> (try simp only [kM, kN, kO, if_false, Bool.false_eq_true])) | (refine iBu ?_; refine ZS (Zt rfl) rfl rfl ?_) | (refine Zg ?_; first | (refine Zf ?_; refine qQ ?_) | refine Zj ?_) | refine Za ?_ | (refine Zh ?_; refine Zu ?_) | (refine Zi ?_; refine Zv ?_) | intro _)
      exact qE (L' := Yy lb rb S v :: Xg S v sp :: YZ mb es ck :: ZA db k D) ⟨rfl, hl1, es, ck, pg, D, hm1, rfl, hD, hL, hF, rfl⟩
     ·rw [hx] at hck
      repeat' (first | (refine Zc (.func 118) ?_; refine qC rfl rfl (hck) ?_; rintro v ρ' L' hle ⟨rfl, rfl, rfl⟩ <;> (try simp only [kM, kN, kO, if_true])) | (refine iBu ?_; refine ZS (Zt rfl) rfl rfl ?_) | (refine Zg ?_; first | (refine Zf ?_; refine qQ ?_) | refine Zj ?_) | refine Za ?_ | (refine Zh ?_; refine Zu ?_) | (refine Zi ?_; refine Zv ?_) | intro _)
      rw [← e1]
      refine Zy (i + 1) (⟨hlt, by rw [htk, List.all_append, hok]; simp [hx]⟩) Zw Zw rfl tk inferInstance (by first | omega | (dsimp only; omega))
    ·have hi2 : i = l.length := by omega
     rw [hi2, List.take_length] at hok
     rw [if_neg (by rw [hok]; simp)] at hE hV
     have hpages := riseS_pages hrt
     repeat' (first | (refine iBu ?_; refine ZS (Zt rfl) rfl rfl ?_) | (refine Zg ?_; first | (refine Zf ?_; refine qQ ?_) | refine Zj ?_) | refine Za ?_ | (refine Zh ?_; refine Zu ?_) | (refine Zi ?_; refine Zv ?_) | intro _)
     clear hok hi hi2 hlt
     refine ZK [(0, _), (1, _), (2, _), (76, _), (77, _)] (fun (ζ : (Nat) × (Hp) × (Pgs) × (List MapEntry) × (Nat) × (DS)) => [(78, .int .i64 ζ.1), (6, .int .i64 0)]) (fun (ζ : (Nat) × (Hp) × (Pgs) × (List MapEntry) × (Nat) × (DS)) => ζ.2.1) (fun (ζ : (Nat) × (Hp) × (Pgs) × (List MapEntry) × (Nat) × (DS)) => Yy lb rb S v :: Xg S v sp :: YZ mb ζ.2.2.2.1 ζ.2.2.2.2.1 :: ZA db k ζ.2.2.2.2.2) (fun (ζ : (Nat) × (Hp) × (Pgs) × (List MapEntry) × (Nat) × (DS)) => ζ.1 ≤ n ∧ ρ1.le ζ.2.1 ∧ MpIn ζ.2.1 ζ.2.2.2.1 ζ.2.2.1 ∧ vw ζ.2.2.1 = Wo held (vw pg) (l.take ζ.1) ∧ DOk k ζ.2.2.2.2.2 ∧ Lv D ζ.2.2.2.2.2 ∧ FO ζ.2.2.2.2.2 base t held) (fun (ζ : (Nat) × (Hp) × (Pgs) × (List MapEntry) × (Nat) × (DS)) => n - ζ.1) ((0, ρ1, pg, es, ck, D)) (⟨Nat.zero_le _, Hp.le_refl _, hm1, rfl, hD, hL, hF⟩) Zw Zw rfl tk ?_
     rintro ⟨i, ρ2, pg2, es2, ck2, D2⟩ hI
     try simp only [List.cons_append, List.nil_append, List.append_assoc, List.append_eq] at hI ⊢
     try dsimp only at hI ⊢
     obtain ⟨hi, hl2, hm2, hvw, hD2, hL2, hF2⟩ := hI
     by_cases hlt : i < n
     ·have hil : i < l.length := by omega
      obtain ⟨b, off, C, T, fr, e1, hb0, hfit, hc⟩ := (h1.mono hl2).at'.get hil
      have htk := take_snoc l i hil
      have hpn := hpages _ (List.getElem_mem hil)
      rw [e1]
      generalize l[i] = x at *
      obtain ⟨xp, xw, xc⟩ := x
      dsimp only at hpn
      obtain ⟨num, rfl⟩ : ∃ m : Nat, xp = m := ⟨xp.toNat, by omega⟩
      have hh := hold_lv ρ2 pb fb lb mb db base num t (Hp.at' hl2 hp1) (hf1.mono hl2) hb (by omega) k D2 hD2 pg2 es2 ck2 hm2 held hF2 hL2.next
      repeat' (first | (refine Zc (.func 71) ?_; refine qC rfl rfl hh ?_; rintro v3 ρ3 L3 hle3 ⟨hl3, g, es3, ck3, pg3, D3, rfl, hg, hm3, hv3, hD3, hL3, hF3, rfl⟩; try simp only [List.cons_append, List.nil_append, List.append_assoc, List.append_eq]) | (refine iBu ?_; refine ZS (Zt rfl) rfl rfl ?_) | (refine Zg ?_; first | (refine Zf ?_; refine qQ ?_) | refine Zj ?_) | refine Za ?_ | (refine Zh ?_; refine Zu ?_) | (refine Zi ?_; refine Zv ?_) | intro _)
      rw [← e1]
      refine Zy (i + 1, ρ3, pg3, es3, ck3, D3) (⟨hlt, Hp.le_trans hl2 hl3, hm3, by dsimp only; rw [htk, holdsV_snoc, hv3, hvw], hD3, hL2.trans hL3, hF3⟩) Zw Zw rfl tk inferInstance (by first | omega | (dsimp only; omega))
     ·have hi2 : i = l.length := by omega
      rw [hi2, List.take_length] at hvw
      have hl12 := Hp.le_trans hl1 hl2
      repeat' (first | (refine iBu ?_; refine ZS (Zt rfl) rfl rfl ?_) | (refine Zg ?_; first | (refine Zf ?_; refine qQ ?_) | refine Zj ?_) | refine Za ?_ | (refine Zh ?_; refine Zu ?_) | (refine Zi ?_; refine Zv ?_) | intro _)
      clear hi hi2 hlt
      refine ZK [(0, _), (1, _), (93, _), (94, _)] (fun (ζ : (Nat)) => [(95, .int .i64 ζ), (6, .int .i64 0)]) (fun (ζ : (Nat)) => ρ2) (fun (ζ : (Nat)) => Yy lb rb S v :: Xg S v sp :: YZ mb es2 ck2 :: ZA db k D2) (fun (ζ : (Nat)) => ζ ≤ n ∧ ∀ s ∈ l.take ζ, (Vf held (Wo held (vw pg) l) s.page).2.1 < lsn) (fun (ζ : (Nat)) => n - ζ) (0) (⟨Nat.zero_le _, by simp⟩) Zw Zw rfl tk ?_
      rintro i hI
      try simp only [List.cons_append, List.nil_append, List.append_assoc, List.append_eq] at hI ⊢
      try dsimp only at hI ⊢
      obtain ⟨hi, hlo⟩ := hI
      by_cases hlt : i < n
      ·have hil : i < l.length := by omega
       obtain ⟨b, off, C, T, fr, e1, hb0, hfit, hc⟩ := (h1.mono hl2).at'.get hil
       have htk := take_snoc l i hil
       have hmem := List.getElem_mem hil
       have hp2 := Hp.at' hl2 hp1
       have hkk := hm2.keys
       obtain ⟨g, hg1, hg2⟩ : ∃ g, pg2 (l[i]).page = some g ∧ g.lsn = (Vf held (Wo held (vw pg) l) (l[i]).page).2.1 := by
        have h5 := holdsV_mem held l (vw pg) _ hmem
        rw [← hvw] at h5
        obtain ⟨y, hy⟩ := Option.isSome_iff_exists.1 h5
        obtain ⟨g, q1, q2, q3, q4⟩ := vw_some hy
        refine ⟨g, q1, ?_⟩
        unfold Vf
        rw [← hvw, hy, q3]; rfl
       have hget := hm2.get (l[i]).page
       rw [hg1] at hget
       simp only [Option.map_some] at hget
       have hbad : lsn ≤ g.lsn → l.any (fun s => decide (lsn ≤ (Vf held (Wo held (vw pg) l) s.page).2.1)) = true := fun e => by
        rw [List.any_eq_true]; exact ⟨_, hmem, decide_eq_true (by rw [← hg2]; exact e)⟩
       have hnew : g.lsn < lsn → ∀ s ∈ l.take (i + 1), (Vf held (Wo held (vw pg) l) s.page).2.1 < lsn := fun e s hs => by
        rw [htk] at hs
        rcases List.mem_append.1 hs with hs | hs
        ·exact hlo s hs
        ·rw [List.mem_singleton.1 hs, ← hg2]; exact e
       rw [e1]
       generalize l[i] = x at *
       by_cases hge : lsn ≤ g.lsn
       ·rw [if_pos (hbad hge)] at hE
        subst hE
        rw [← hvw] at hV
        subst hV
        repeat' (first | (refine iBu ?_; refine ZS (Zt rfl) rfl rfl ?_) | (refine Zg ?_; first | (refine Zf ?_; refine qQ ?_) | refine Zj ?_) | refine Za ?_ | (refine Zh ?_; refine Zu ?_) | (refine Zi ?_; refine Zv ?_) | intro _)
        rename_i bx
        refine Zz (Zq _ _ ([YZ mb es2 ck2, [(bx, .cells ⟨sheV x⟩ 67 (0, 0))]])) (Zx (hT := tk) (Hp.le_refl _)) ?_
        all_goals (refine ZU 0 ?_; refine ZP ?_; refine rNc 1 ?_; refine YB 2 ?_; refine Ya 3 ?_; refine YB 4 ?_; refine Ya 5 ?_; refine rLu 6 ?_; refine rFl 7 ?_; refine ZU 8 ?_; refine rCm 9 ?_; refine ZI ?_)
        all_goals (repeat' (first | (refine iBu ?_; refine ZS (Zt rfl) rfl rfl ?_) | (refine Zg ?_; first | (refine Zf ?_; refine qQ ?_) | refine Zj ?_) | refine Za ?_ | (refine Zh ?_; refine Zu ?_) | (refine Zi ?_; refine Zv ?_) | intro _))
        all_goals exact qE (L' := Yy lb rb S v :: Xg S v sp :: YZ mb es2 ck2 :: ZA db k D2) ⟨rfl, hl12, es2, ck2, pg2, D2, hm2, rfl, hD2, hL2, hF2, rfl⟩
       ·repeat' (first | (refine iBu ?_; refine ZS (Zt rfl) rfl rfl ?_) | (refine Zg ?_; first | (refine Zf ?_; refine qQ ?_) | refine Zj ?_) | refine Za ?_ | (refine Zh ?_; refine Zu ?_) | (refine Zi ?_; refine Zv ?_) | intro _)
        rename_i bx
        refine Zz (Zq _ _ ([YZ mb es2 ck2, [(bx, .cells ⟨sheV x⟩ 67 (0, 0))]])) (Zx (hT := tk) (Hp.le_refl _)) ?_
        all_goals (refine ZU 0 ?_; refine ZP ?_; refine rNc 1 ?_; refine YB 2 ?_; refine Ya 3 ?_; refine YB 4 ?_; refine Ya 5 ?_; refine rLu 6 ?_; refine rFl 7 ?_; refine ZU 8 ?_; refine rCm 9 ?_; refine ZI ?_)
        all_goals (repeat' (first | (refine iBu ?_; refine ZS (Zt rfl) rfl rfl ?_) | (refine Zg ?_; first | (refine Zf ?_; refine qQ ?_) | refine Zj ?_) | refine Za ?_ | (refine Zh ?_; refine Zu ?_) | (refine Zi ?_; refine Zv ?_) | intro _))
        all_goals rw [← e1]
        all_goals refine Zy (i + 1) (⟨hlt, hnew (by omega)⟩) Zw Zw rfl tk inferInstance (by first | omega | (dsimp only; omega))
      ·have hi2 : i = l.length := by omega
       rw [hi2, List.take_length] at hlo
       rw [if_neg (by
        rw [List.any_eq_true]
        rintro ⟨s, hs, hd⟩
        have h6 := hlo s hs
        have h7 := of_decide_eq_true hd
        omega)] at hE
       subst hE
       rw [← hvw] at hV
       subst hV
       repeat' (first | (refine iBu ?_; refine ZS (Zt rfl) rfl rfl ?_) | (refine Zg ?_; first | (refine Zf ?_; refine qQ ?_) | refine Zj ?_) | refine Za ?_ | (refine Zh ?_; refine Zu ?_) | (refine Zi ?_; refine Zv ?_) | intro _)
       exact qE (L' := Yy lb rb S v :: Xg S v sp :: YZ mb es2 ck2 :: ZA db k D2) ⟨rfl, hl12, es2, ck2, pg2, D2, hm2, rfl, hD2, hL2, hF2, rfl⟩
end Go.Proofs.E
