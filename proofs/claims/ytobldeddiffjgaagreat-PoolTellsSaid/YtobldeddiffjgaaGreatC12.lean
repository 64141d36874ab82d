/- The law PoolTells. Part 12 of 20. -/
import Derived.Test.YtobldeddiffjgaaGreatC11
namespace Go.Proofs.E
open Go
set_option linter.unusedVariables false
set_option linter.unusedSimpArgs false
set_option linter.unusedSectionVars false
set_option maxRecDepth 4000
set_option maxHeartbeats 1000000
attribute [local irreducible] Yl TL TC TE Spec XU R1 Hp.le EnvLe TS TR YS Zr
abbrev pencV (p : Nat × Blk) : List Value := [.int .i64 p.1, bv p.2]
theorem take_succ_pre {α : Type} (l : List α) (k : Nat) (h : k < l.length) : l.take k ++ [l[k]] <+: l := by
 rw [← List.take_succ_eq_append_getElem h]; exact List.take_prefix _ _
theorem partsL_at {h : Hd} {n at' : Nat} {b : Bs} {k : Nat} (hk : k < (Yz h n b at').length) : (Yz h n b at')[k] = (2 + (at' + k) % h.size, YL h.turn n b k) := by
 simp [Yz]
theorem partsL_length {h : Hd} {n at' : Nat} {b : Bs} : (Yz h n b at').length = ZS b.length := by simp [Yz]
abbrev partsS (bb ab hb nb : Nat) (a : Option Addr) (bn c at' : Nat) (h : Hd) (na : Option Addr) (nn nc n : Nat) : SH :=
 [[(bb, .cells ⟨[.slice a bn c]⟩ 109 (0, 0))], [(ab, .cells ⟨[.int .i64 at']⟩ 3 (0, 0))], [(hb, .cells ⟨hdV h na nn nc⟩ 175 (0, 0))], [(nb, .cells ⟨[.int .u64 n]⟩ 22 (0, 0))]]
theorem parts_iter (ρ0 : Hp) (X : SH) (bb ab hb nb : Nat) (a : Option Addr) (bn c at' : Nat) (b : Bs) (h : Hd) (na : Option Addr) (nn nc n : Nat) (hb0 : Rd ρ0 X a bn b) (hc : bn ≤ c) (ht : h.turn < 4294967296) (hn : n ≤ 1099511627776) (hbl : bn ≤ 8000) (hat : at' ≤ 1000000) (hsz : 0 < h.size) (hsz2 : h.size ≤ 1000000) :
  Iter Tryz.prog 173 [] [.pointer (some ⟨bb, 0, none⟩), .pointer (some ⟨ab, 0, none⟩), .pointer (some ⟨hb, 0, none⟩), .pointer (some ⟨nb, 0, none⟩)] pencV ρ0 (partsS bb ab hb nb a bn c at' h na nn nc n ++ X) (Yz h n b at') := by
 intro l J Jx hY ρ Lj hl0 hJ
 have hl := hb0.len
 have hsc := sects_le (n := bn) (by omega)
 have hpl : (Yz h n b at').length = ZS bn := by rw [partsL_length, hl]
 refine Ze Tryz.func173 rfl rfl rfl fun u R => ?_
 simp only [Zt, List.cons_append, List.nil_append, List.append_assoc]
 repeat' (first | (refine Zc (.func 109) ?_; refine qC rfl rfl (sects_spec _ bn (by omega)) ?_; rintro v ρ' L' hle ⟨rfl, rfl, rfl⟩ <;> (try simp only [kM, kN, kO])) | (refine Zg ?_; first | (refine Zf ?_; refine qQ ?_) | refine Zj ?_) | refine Za ?_ | (refine Zh ?_; refine Zu ?_) | (refine Zi ?_; refine Zv ?_) | intro _)
 refine ZH [(0, _), (1, _), (2, _), (3, _), (4, _), (9, _)] (fun (ζ : (Nat) × (Hp) × (SH)) => [(10, .int .i64 ζ.1)]) (fun (ζ : (Nat) × (Hp) × (SH)) => ζ.2.1) (fun (ζ : (Nat) × (Hp) × (SH)) => partsS bb ab hb nb a bn c at' h na nn nc n ++ (X ++ ζ.2.2)) (fun (ζ : (Nat) × (Hp) × (SH)) => ζ.1 ≤ ZS bn ∧ ρ'.le ζ.2.1 ∧ J ((Yz h n b at').take ζ.1) ζ.2.1 ζ.2.2) (fun (ζ : (Nat) × (Hp) × (SH)) => ZS bn - ζ.1) ((0, ρ', Lj)) (⟨Nat.zero_le _, Hp.le_refl _, hJ⟩) Zo Zo rfl tk ?_
 rintro ⟨k, ρ1, L1⟩ hI
 try simp only [List.cons_append, List.nil_append, List.append_assoc, List.append_eq] at hI ⊢
 try dsimp only at hI ⊢
 obtain ⟨hk, hle1, hj⟩ := hI
 by_cases hlt : k < ZS bn
 ·have hk2 : k < (Yz h n b at').length := by omega
  have hpre := take_succ_pre (Yz h n b at') k hk2
  rw [partsL_at] at hpre
  have hts := List.take_succ_eq_append_getElem hk2
  rw [partsL_at] at hts
  have hy := hY _ _ ρ1 L1 hpre (Hp.le_trans hl0 hle1) hj
  have hrm : (2 : Int) + ((at' : Int) + (k : Int)).tmod (h.size : Int) = ((2 + (at' + k) % h.size : Nat) : Int) := by
   rw [Int.tmod_eq_emod_of_nonneg (by omega), Int.natCast_add, Int.natCast_emod, Int.natCast_add]; rfl
  have hrm1 : ((at' : Int) + (k : Int)).tmod (h.size : Int) < h.size := Int.tmod_lt_of_pos _ (by omega)
  have hrm0 : 0 ≤ ((at' : Int) + (k : Int)).tmod (h.size : Int) := Int.tmod_nonneg _ (by omega)
  repeat' (first | (refine Zg ?_; first | (refine Zf ?_; refine qQ ?_) | refine Zj ?_) | refine Za ?_ | (refine Zh ?_; refine Zu ?_) | (refine Zi ?_; refine Zv ?_) | intro _)
  refine Zz (Zr _ _ (partsS bb ab hb nb a bn c at' h na nn nc n)) (Zy (hT := tk) (Hp.le_refl _)) ?_
  all_goals (refine ZO 0 ?_; refine ZX 1 ?_; refine ZO 2 ?_; refine rAd 3 ?_; refine Yv 4 ?_; refine ZX 5 ?_; refine rRm 6 ?_; refine rAd 7 ?_; refine Yv 8 ?_; refine ZX 9 ?_; refine ZX 10 ?_; refine ZX 11 ?_; refine ZO 12 ?_)
  all_goals (refine Zm (i := 13) ?_; ((try refine Zk ?_); (first | (refine Zc (.func 174) ?_; refine qC rfl rfl (part_spec _ X h.turn n a bn c b (hb0.mono (Hp.le_trans hl0 hle1)) hc k ht hn hbl hlt) ?_; rintro v6 ρ6 L6 hle6 ⟨rfl, rfl, rfl⟩; simp only [List.cons_append, List.nil_append, hrm]) | (refine Zj ?_; try intro _)) <;> ((try simp only [kM, kN, kO]); refine Za ?_; refine Zl ?_)))
  all_goals (refine Zm (i := 14) ?_; ((try refine Zk ?_); (first | (refine Zc (.tmp 13) ?_; refine qY rfl rfl (hy) ?_; rintro v ρ' L' hle ⟨Lj', rfl, ⟨rfl, hj'⟩ | ⟨rfl, hj'⟩⟩ <;> (try simp only [kM, kN, kO, partsS, List.append_assoc])) | (refine Zj ?_; try intro _)) <;> ((try simp only [kM, kN, kO]); refine Za ?_; refine Zl ?_)))
  all_goals (refine ZN ?_; refine rUn 15 ?_; refine ZI ?_)
  ·repeat' (first | (refine Zg ?_; first | (refine Zf ?_; refine qQ ?_) | refine Zj ?_) | refine Za ?_ | (refine Zh ?_; refine Zu ?_) | (refine Zi ?_; refine Zv ?_) | intro _)
   refine Zx (k + 1, ρ', Lj') (⟨hlt, Hp.le_trans hle1 hle, by dsimp only; rw [hts]; exact hj'⟩) Zo Zo rfl tk inferInstance (by first | omega | (dsimp only; omega))
  ·repeat' (first | (refine Zg ?_; first | (refine Zf ?_; refine qQ ?_) | refine Zj ?_) | refine Za ?_ | (refine Zh ?_; refine Zu ?_) | (refine Zi ?_; refine Zv ?_) | intro _)
   exact qE (L' := partsS bb ab hb nb a bn c at' h na nn nc n ++ L6 ++ Lj') ⟨Lj', rfl, .inr hj'⟩
 ·have hk2 : k = ZS bn := by omega
  subst hk2
  rw [List.take_of_length_le (by omega)] at hj
  repeat' (first | (refine Zg ?_; first | (refine Zf ?_; refine qQ ?_) | refine Zj ?_) | refine Za ?_ | (refine Zh ?_; refine Zu ?_) | (refine Zi ?_; refine Zv ?_) | intro _)
  exact qE (L' := partsS bb ab hb nb a bn c at' h na nn nc n ++ X ++ L1) ⟨L1, rfl, .inl hj⟩
theorem kwrite (ρ : Hp) (b : Nat) (k : DK) (D : DS) (i : Int) (blk : Blk) (h64 : blk.length = 64) (h : DOk k D) :
  Spec Tryz.prog 133 [.pointer (some ⟨b, 0, none⟩), .int .i64 i, bv blk] ρ (ZA b k D) (fun v ρ' L' => v = .int .i64 (D.write i blk).2 ∧ ρ' = ρ ∧ ∃ k', DOk k' (D.write i blk).1 ∧ L' = ZA b k' (D.write i blk).1) :=
 (dwrite_spec ρ b k.hb k.mb k.es k.ck D i blk h64 h.ok h.map).mono (fun v ρ' L' _ ⟨h1, h2, es', ck', h3, h4⟩ => ⟨h1, h2, ⟨k.hb, k.mb, es', ck'⟩, ⟨h.ok.write h64, h3⟩, h4⟩)
theorem ksync (ρ : Hp) (b : Nat) (k : DK) (D : DS) (h : DOk k D) :
  Spec Tryz.prog 134 [.pointer (some ⟨b, 0, none⟩)] ρ (ZA b k D) (fun v ρ' L' => v = .int .i64 D.sync.2 ∧ ρ.le ρ' ∧ ∃ k', DOk k' D.sync.1 ∧ L' = ZA b k' D.sync.1) :=
 (dsync_spec ρ b k.hb k.mb k.es k.ck D h.ok h.map).mono (fun v ρ' L' _ ⟨h1, h2, mb', es', ck', h3, h4⟩ => ⟨h1, h2, ⟨k.hb, mb', es', ck'⟩, ⟨h.ok.sync, h3⟩, h4⟩)
theorem kread (ρ : Hp) (b : Nat) (k : DK) (D : DS) (i : Int) (h : DOk k D) :
  Spec Tryz.prog 91 [.pointer (some ⟨b, 0, none⟩), .int .i64 i] ρ (ZA b k D) (fun v ρ' L' => v = .tuple ⟨[bv (D.read i).2.1, .int .i64 (D.read i).2.2]⟩ ∧ ρ' = ρ ∧ DOk k (D.read i).1 ∧ L' = ZA b k (D.read i).1) :=
 (dread_spec ρ b k.hb k.mb k.es k.ck D i h.ok h.map).mono (fun v ρ' L' _ ⟨h1, h2, h4⟩ => ⟨h1, h2, ⟨h.ok.read, h.map.read⟩, h4⟩)
inductive Wr (D : DS) : List (Nat × Blk) → DS → Prop
 | nil : Wr D [] D
 | snoc {l : List (Nat × Blk)} {D1 : DS} {p : Nat × Blk} : Wr D l D1 → (D1.write (p.1 : Int) p.2).2 = 0 → Wr D (l ++ [p]) (D1.write (p.1 : Int) p.2).1
theorem Wr.lays {D D1 : DS} {l : List (Nat × Blk)} (h : Wr D l D1) : ∀ r, DS.lays (l ++ r) D = DS.lays r D1 := by
 induction h with
 | nil => intro r; rfl
 | snoc h1 h2 ih =>
  intro r
  rw [List.append_assoc, ih]
  simp only [List.cons_append, List.nil_append]
  rw [DS.lays, if_pos h2]
theorem Wr.stop {D D1 : DS} {l xs : List (Nat × Blk)} {p : Nat × Blk} (h : Wr D l D1) (hp : l ++ [p] <+: xs) (hc : (D1.write (p.1 : Int) p.2).2 ≠ 0) : DS.lays xs D = D1.write (p.1 : Int) p.2 := by
 obtain ⟨t, rfl⟩ := hp
 rw [List.append_assoc, h.lays]
 simp only [List.cons_append, List.nil_append]
 rw [DS.lays, if_neg hc]
theorem lays_spec (ρ0 ρ : Hp) (g : Nat) (cs : List Value) (S : SH) (xs : List (Nat × Blk)) (hl0 : ρ0.le ρ) (hI : Iter Tryz.prog g [] cs pencV ρ0 S xs) [hF : Yf Tryz.prog g] (h64 : ∀ p ∈ xs, p.2.length = 64) (b : Nat) (k : DK) (D : DS) (hD : DOk k D) :
  Spec Tryz.prog 88 [.pointer (some ⟨b, 0, none⟩), .func (.func g) ⟨[]⟩ ⟨cs⟩] ρ (S ++ ZA b k D) (fun v ρ' L' => v = .int .i64 (DS.lays xs D).2 ∧ ρ.le ρ' ∧ ∃ k', DOk k' (DS.lays xs D).1 ∧ L' = S ++ ZA b k' (DS.lays xs D).1) := by
 refine Ze Tryz.func88 rfl rfl rfl fun u R => ?_
 simp only [Zt, List.cons_append, List.nil_append, List.append_assoc]
 repeat' (first | (refine Zg ?_; first | (refine Zf ?_; refine qQ ?_) | refine Zj ?_) | refine Za ?_ | (refine Zh ?_; refine Zu ?_) | (refine Zi ?_; refine Zv ?_) | intro _)
 rename_i b2 b4
 refine tc_rangeFunc (S := S) (L0 := [[(b2, .cells ⟨[.pointer (some ⟨b, 0, none⟩)]⟩ 55 (0, 0))], [(b4, .cells ⟨[.int .i64 0]⟩ 25 (0, 0))]] ++ ZA b k D) (R := R) (R0 := [(b4, .cells ⟨[.int .i64 0]⟩ 25 (0, 0))] :: [(b2, .cells ⟨[.pointer (some ⟨b, 0, none⟩)]⟩ 55 (0, 0))] :: (ZA b k D ++ R)) rfl rfl hI hl0 (fun _ => rfl) rfl
  (fun pre ρ1 Lu => ∃ D1 k1, ρ.le ρ1 ∧ Wr D pre D1 ∧ DOk k1 D1 ∧ Lu = [[(b2, .cells ⟨[.pointer (some ⟨b, 0, none⟩)]⟩ 55 (0, 0))], [(b4, .cells ⟨[.int .i64 0]⟩ 25 (0, 0))]] ++ ZA b k1 D1)
  (fun c ρ1 Lu => c = .exit 0 ∧ ∃ D2 k2 e, ρ.le ρ1 ∧ e ≠ 0 ∧ DS.lays xs D = (D2, e) ∧ DOk k2 D2 ∧ Lu = [[(b2, .cells ⟨[.pointer (some ⟨b, 0, none⟩)]⟩ 55 (0, 0))], [(b4, .cells ⟨[.int .i64 e]⟩ 25 (0, 0))]] ++ ZA b k2 D2) ?k1 ?k2 ⟨D, k, Hp.le_refl _, .nil, hD, rfl⟩ ?round ?done ?stop
 case k1 => exact tk
 case k2 => exact tk
 case round =>
  rintro l tm r pre y ρ1 Lu u R' hpre hl1 ⟨D1, k1, hl2, hwr, hD1, rfl⟩ hr hrec
  simp only [envP, List.cons_append, List.nil_append]
  have hm64 := h64 y (hpre.subset (by simp))
  have hy1 := Yr y.2
  have hyl : (y.2.map ZD).length = 64 := by simpa using hm64
  repeat' (first | (refine Zg ?_; first | (refine Zf ?_; refine qQ ?_) | refine Zj ?_) | refine Za ?_ | (refine Zh ?_; refine Zu ?_) | (refine Zi ?_; refine Zv ?_) | intro _)
  refine ZV [(l, .loop r)] ?_
  refine te_begin rfl hr (fun r' hbz hrec' => ?_)
  repeat' (first | (refine Zc (.func 133) ?_; refine qC rfl rfl (kwrite _ b k1 D1 y.1 y.2 hm64 hD1) ?_; rintro v ρ' L' hle ⟨rfl, rfl, k2, hD2, rfl⟩ <;> (try simp only [kM, kN, kO])) | (refine Zg ?_; first | (refine Zf ?_; refine qQ ?_) | refine Zj ?_) | refine Za ?_ | (refine Zh ?_; refine Zu ?_) | (refine Zi ?_; refine Zv ?_) | intro _)
  by_cases hc : (D1.write (y.1 : Int) y.2).2 = 0
  ·have hcb : ((D1.write (y.1 : Int) y.2).2 != 0) = false := by simpa using hc
   have hw2 := hwr.snoc hc
   rw [hcb, hc]
   repeat' (first | (refine Zg ?_; first | (refine Zf ?_; refine qQ ?_) | refine Zj ?_) | refine Za ?_ | (refine Zh ?_; refine Zu ?_) | (refine Zi ?_; refine Zv ?_) | intro _)
   refine ZV [(l, .loop r')] ?_
   refine Vx (Lu := [[(b2, .cells ⟨[.pointer (some ⟨b, 0, none⟩)]⟩ 55 (0, 0))], [(b4, .cells ⟨[.int .i64 0]⟩ 25 (0, 0))]] ++ ZA b k2 (D1.write (y.1 : Int) y.2).1) rfl (Hp.le_refl _) ⟨hrec'.tmps.trans hrec.tmps, hrec'.params.trans hrec.params, hrec'.assign.trans hrec.assign, hrec'.body.trans hrec.body⟩ tk tk inferInstance ?_
   exact ⟨_, k2, hl2, hw2, hD2, rfl⟩
  ·have hcb : ((D1.write (y.1 : Int) y.2).2 != 0) = true := by simpa using hc
   have hst := hwr.stop hpre hc
   rw [hcb]
   repeat' (first | (refine Zg ?_; first | (refine Zf ?_; refine qQ ?_) | refine Zj ?_) | refine Za ?_ | (refine Zh ?_; refine Zu ?_) | (refine Zi ?_; refine Zv ?_) | intro _)
   refine ZV [(l, .loop r')] ?_
   refine te_leave (Lu := [[(b2, .cells ⟨[.pointer (some ⟨b, 0, none⟩)]⟩ 55 (0, 0))], [(b4, .cells ⟨[.int .i64 (D1.write (y.1 : Int) y.2).2]⟩ 25 (0, 0))]] ++ ZA b k2 (D1.write (y.1 : Int) y.2).1) rfl rfl (Hp.le_refl _) ⟨hrec'.tmps.trans hrec.tmps, hrec'.params.trans hrec.params, hrec'.assign.trans hrec.assign, hrec'.body.trans hrec.body⟩ tk tk inferInstance ?_
   exact ⟨rfl, _, k2, _, hl2, hc, hst, hD2, rfl⟩
 case done =>
  rintro D0 ρ1 Lu hl1 ⟨D1, k1, hl2, hwr, hD1, rfl⟩
  simp only [List.cons_append, List.nil_append]
  have hlay := hwr.lays []
  rw [List.append_nil, DS.lays] at hlay
  rw [hlay]
  repeat' (first | (refine Zc (.func 134) ?_; refine qC rfl rfl (ksync _ b k1 D1 hD1) ?_; rintro v ρ' L' hle ⟨rfl, hl3, k2, hD2, rfl⟩ <;> (try simp only [kM, kN, kO])) | (refine Zg ?_; first | (refine Zf ?_; refine qQ ?_) | refine Zj ?_) | refine Za ?_ | (refine Zh ?_; refine Zu ?_) | (refine Zi ?_; refine Zv ?_) | intro _)
  refine ZV [(D0, .deferred (some []))] ?_
  exact Wa rfl rfl rfl inferInstance (res1 rfl (ZJ rfl rfl)) (Hp.le_trans hl2 hl3) tk (by infer_instance) (L' := S ++ ZA b k2 D1.sync.1) ⟨rfl, Hp.le_trans hl2 hl3, k2, hD2, rfl⟩
 case stop =>
  rintro D0 c ρ1 Lu hl1 ⟨rfl, D2, k2, e, hl2, he, hlay, hD2, rfl⟩
  simp only [List.cons_append, List.nil_append]
  have heb : (e != 0) = true := by simpa using he
  rw [hlay]
  repeat' (first | (refine Zg ?_; first | (refine Zf ?_; refine qQ ?_) | refine Zj ?_) | refine Za ?_ | (refine Zh ?_; refine Zu ?_) | (refine Zi ?_; refine Zv ?_) | intro _)
  refine ZV [(D0, .deferred (some []))] ?_
  exact Wa rfl rfl rfl inferInstance (res1 rfl (ZJ rfl rfl)) hl2 tk (by infer_instance) (L' := S ++ ZA b k2 D2) ⟨rfl, hl2, k2, hD2, rfl⟩
theorem laid_iter (ρ0 : Hp) (hb : Nat) (h : Hd) (na : Option Addr) (nn nc : Nat) (hn : SIn ρ0 ZD na nn h.note) (ht : h.turn < 4294967296) (hf : h.first ≤ 1099511627776) (hs : h.size < 65536) (hp : h.place < 65536) (hnl : nn ≤ 32) :
  Iter Tryz.prog 135 [] [.pointer (some ⟨hb, 0, none⟩)] pencV ρ0 [[(hb, .cells ⟨hdV h na nn nc⟩ 175 (0, 0))]] (YG h) := by
 intro l J Jx hY ρ Lj hl0 hJ
 have hy := fun ρ Lj h1 h2 => hY [] (h.turn % 2, Wh h) ρ Lj (List.prefix_refl _) h1 h2
 have hrm : (h.turn : Int).tmod 2 = ((h.turn % 2 : Nat) : Int) := by rw [Int.tmod_eq_emod_of_nonneg (by omega)]; rfl
 have hrm1 : 0 ≤ (h.turn : Int).tmod 2 := by rw [hrm]; omega
 have hrm2 : (h.turn : Int).tmod 2 < 2 := by rw [hrm]; omega
 refine Ze Tryz.func135 rfl rfl rfl fun u R => ?_
 simp only [Zt, List.cons_append, List.nil_append, List.append_assoc]
 refine Zz (Zr _ _ ([[(hb, .cells ⟨hdV h na nn nc⟩ 175 (0, 0))]])) (Zy (hT := tk) (Hp.le_refl _)) ?_
 all_goals (refine ZO 0 ?_; refine Yv 1 ?_; refine ZX 2 ?_; refine rRm 3 ?_; refine rCv 4 ?_; refine ZX 5 ?_)
 all_goals (refine Zm (i := 6) ?_; ((try refine Zk ?_); (first | (refine Zc (.func 136) ?_; refine qC rfl rfl (hblock_spec _ h na nn nc (hn.mono hl0) ht hf hs hp hnl) ?_; rintro v6 ρ6 L6 hle6 ⟨rfl, rfl, rfl⟩; simp only [List.cons_append, List.nil_append, hrm]) | (refine Zj ?_; try intro _)) <;> ((try simp only [kM, kN, kO]); refine Za ?_; refine Zl ?_)))
 all_goals (refine Zm (i := 7) ?_; ((try refine Zk ?_); (first | (refine Zc (.tmp 3) ?_; refine qY rfl rfl ((hy _ _ hl0 hJ)) ?_; rintro v ρ' L' hle ⟨Lj', rfl, ⟨rfl, hj'⟩ | ⟨rfl, hj'⟩⟩ <;> (try simp only [kM, kN, kO])) | (refine Zj ?_; try intro _)) <;> ((try simp only [kM, kN, kO]); refine Za ?_; refine Zl ?_)))
 all_goals refine ZI ?_
 all_goals (repeat' (first | (refine Zg ?_; first | (refine Zf ?_; refine qQ ?_) | refine Zj ?_) | refine Za ?_ | (refine Zh ?_; refine Zu ?_) | (refine Zi ?_; refine Zv ?_) | intro _))
 ·exact qE (L' := [[(hb, .cells ⟨hdV h na nn nc⟩ 175 (0, 0))]] ++ Lj') ⟨Lj', rfl, .inl hj'⟩
 ·exact qE (L' := [[(hb, .cells ⟨hdV h na nn nc⟩ 175 (0, 0))]] ++ Lj') ⟨Lj', rfl, .inr hj'⟩
theorem laid_spec (ρ : Hp) (h : Hd) (na : Option Addr) (nn nc : Nat) (hn : SIn ρ ZD na nn h.note) (ht : h.turn < 4294967296) (hf : h.first ≤ 1099511627776) (hs : h.size < 65536) (hp : h.place < 65536) (hnl : nn ≤ 32) (b : Nat) (k : DK) (D : DS) (hD : DOk k D) :
  Spec Tryz.prog 90 [.agg ⟨hdV h na nn nc⟩, .pointer (some ⟨b, 0, none⟩)] ρ (ZA b k D) (fun v ρ' L' => v = .int .i64 (DS.lays (YG h) D).2 ∧ ρ.le ρ' ∧ ∃ k', DOk k' (DS.lays (YG h) D).1 ∧ L' = ZA b k' (DS.lays (YG h) D).1) := by
 refine Ze Tryz.func90 rfl rfl rfl fun u R => ?_
 simp only [Zt, List.cons_append, List.nil_append]
 repeat' (first | (refine Zg ?_; first | (refine Zf ?_; refine qQ ?_) | refine Zj ?_) | refine Za ?_ | (refine Zh ?_; refine Zu ?_) | (refine Zi ?_; refine Zv ?_) | intro _)
 rename_i hb
 repeat' (first | (refine Zc (.func 88) ?_; refine qC rfl rfl (lays_spec ρ ρ 135 [.pointer (some ⟨hb, 0, none⟩)] [[(hb, .cells ⟨hdV h na nn nc⟩ 175 (0, 0))]] (YG h) (Hp.le_refl _) (laid_iter ρ hb h na nn nc hn ht hf hs hp hnl) (fun p hp => by rw [List.mem_singleton.1 hp]; exact headB_len h) b k D hD) ?_; rintro v ρ' L' hle ⟨rfl, hl1, k', hD', rfl⟩ <;> (try simp only [kM, kN, kO])) | (refine Zg ?_; first | (refine Zf ?_; refine qQ ?_) | refine Zj ?_) | refine Za ?_ | (refine Zh ?_; refine Zu ?_) | (refine Zi ?_; refine Zv ?_) | intro _)
 exact qE ⟨rfl, hl1, k', hD', rfl⟩
theorem noughtsL_at {n k : Nat} (hk : k < (ZR n).length) : (ZR n)[k] = (k, XK) := by simp [ZR]
theorem noughtsL_len {n : Nat} : (ZR n).length = n + 2 := by simp [ZR]
theorem noughts_iter (ρ0 : Hp) (sb n : Nat) (hn : n ≤ 1000000) : Iter Tryz.prog 89 [] [.pointer (some ⟨sb, 0, none⟩)] pencV ρ0 [[(sb, .cells ⟨[.int .i64 n]⟩ 3 (0, 0))]] (ZR n) := by
 intro l J Jx hY ρ Lj hl0 hJ
 have hlen := noughtsL_len (n := n)
 refine Ze Tryz.func89 rfl rfl rfl fun u R => ?_
 simp only [Zt, List.cons_append, List.nil_append, List.append_assoc]
 repeat' (first | (refine Zg ?_; first | (refine Zf ?_; refine qQ ?_) | refine Zj ?_) | refine Za ?_ | (refine Zh ?_; refine Zu ?_) | (refine Zi ?_; refine Zv ?_) | intro _)
 refine ZH [(0, _), (1, _)] (fun (ζ : (Nat) × (Hp) × (SH)) => [(3, .int .i64 ζ.1)]) (fun (ζ : (Nat) × (Hp) × (SH)) => ζ.2.1) (fun (ζ : (Nat) × (Hp) × (SH)) => [[(sb, .cells ⟨[.int .i64 n]⟩ 3 (0, 0))]] ++ ζ.2.2) (fun (ζ : (Nat) × (Hp) × (SH)) => ζ.1 ≤ n + 2 ∧ ρ.le ζ.2.1 ∧ J ((ZR n).take ζ.1) ζ.2.1 ζ.2.2) (fun (ζ : (Nat) × (Hp) × (SH)) => n + 2 - ζ.1) ((0, ρ, Lj)) (⟨Nat.zero_le _, Hp.le_refl _, hJ⟩) Zo Zo rfl tk ?_
 rintro ⟨k, ρ1, L1⟩ hI
 try simp only [List.cons_append, List.nil_append, List.append_assoc, List.append_eq] at hI ⊢
 try dsimp only at hI ⊢
 obtain ⟨hk, hle1, hj⟩ := hI
 by_cases hlt : k < n + 2
 ·have hk2 : k < (ZR n).length := by omega
  have hpre := take_succ_pre (ZR n) k hk2
  rw [noughtsL_at] at hpre
  have hts := List.take_succ_eq_append_getElem hk2
  rw [noughtsL_at] at hts
  have hy := hY _ _ ρ1 L1 hpre (Hp.le_trans hl0 hle1) hj
  repeat' (first | (simp only [Value.cells, zblk_cells]; refine Zc (.tmp 9) ?_; refine qY rfl rfl hy ?_; rintro v ρ' L' hle ⟨Lj', rfl, ⟨rfl, hj'⟩ | ⟨rfl, hj'⟩⟩ <;> (try simp only [kM, kN, kO])) | (refine Zg ?_; first | (refine Zf ?_; refine qQ ?_) | refine Zj ?_) | refine Za ?_ | (refine Zh ?_; refine Zu ?_) | (refine Zi ?_; refine Zv ?_) | intro _)
  ·refine Zx (k + 1, ρ', Lj') (⟨hlt, Hp.le_trans hle1 hle, by dsimp only; rw [hts]; exact hj'⟩) Zo Zo rfl tk inferInstance (by first | omega | (dsimp only; omega))
  ·exact qE (L' := [[(sb, .cells ⟨[.int .i64 n]⟩ 3 (0, 0))]] ++ Lj') ⟨Lj', rfl, .inr hj'⟩
 ·have hk2 : k = n + 2 := by omega
  subst hk2
  rw [List.take_of_length_le (by omega)] at hj
  repeat' (first | (refine Zg ?_; first | (refine Zf ?_; refine qQ ?_) | refine Zj ?_) | refine Za ?_ | (refine Zh ?_; refine Zu ?_) | (refine Zi ?_; refine Zv ?_) | intro _)
  exact qE (L' := [[(sb, .cells ⟨[.int .i64 n]⟩ 3 (0, 0))]] ++ L1) ⟨L1, rfl, .inl hj⟩
theorem klen (ρ : Hp) (b : Nat) (k : DK) (D : DS) : Spec Tryz.prog 87 [.pointer (some ⟨b, 0, none⟩)] ρ (ZA b k D) (fun v ρ' L' => v = .int .i64 (D.secs.length : Nat) ∧ ρ' = ρ ∧ L' = ZA b k D) := len_disk ρ b k.hb k.mb k.es k.ck D
structure BSl where
 a : Option Addr
 n : Nat
 c : Nat
 l : Bs
abbrev slv (e : BSl) : Value := .slice e.a e.n e.c
structure BIn (ρ : Hp) (e : BSl) : Prop where
 s : SIn ρ ZD e.a e.n e.l
 le : e.n ≤ e.c
theorem BIn.mono {ρ ρ' : Hp} {e : BSl} (h : BIn ρ e) (hle : ρ.le ρ') : BIn ρ' e := ⟨h.s.mono hle, h.le⟩
structure RW where
 na : Option Addr
 nn : Nat
 nc : Nat
 ev : Value
 els : List BSl
 sp : List Value
abbrev rgV (R : RgS) (db : Nat) (w : RW) : List Value := [.int .u64 R.h.turn, .int .u64 R.h.first, .int .i64 R.h.size, .int .i64 R.h.place, .slice w.na w.nn w.nc, .pointer (some ⟨db, 0, none⟩), w.ev, .int .i64 R.used, .bool R.broken]
abbrev Xe (rb db : Nat) (R : RgS) (w : RW) : SH := [[(rb, .cells ⟨rgV R db w⟩ 178 (0, 0))], Ym w.ev (w.els.map slv) w.sp 109]
structure RIn (ρ : Hp) (R : RgS) (w : RW) : Prop where
 ok : R.Ok
 note : SIn ρ ZD w.na w.nn R.h.note
 nle : w.nn ≤ w.nc
 own : OwnS w.ev w.els.length (w.els.map slv) w.sp 1
 ents : R.ents = w.els.map BSl.l
 els : ∀ e ∈ w.els, BIn ρ e
theorem RIn.mono {ρ ρ' : Hp} {R : RgS} {w : RW} (h : RIn ρ R w) (hle : ρ.le ρ') : RIn ρ' R w := ⟨h.ok, h.note.mono hle, h.nle, h.own, h.ents, fun e he => (h.els e he).mono hle⟩
theorem RIn.len {ρ : Hp} {R : RgS} {w : RW} (h : RIn ρ R w) : w.els.length = R.ents.length := by rw [h.ents]; simp
theorem works_spec (ρ : Hp) (rb db : Nat) (R : RgS) (w : RW) : Spec Tryz.prog 111 [.pointer (some ⟨rb, 0, none⟩)] ρ [[(rb, .cells ⟨rgV R db w⟩ 178 (0, 0))]] (fun v ρ' L' => v = .int .i64 (if R.broken then 8 else 0) ∧ ρ' = ρ ∧ L' = [[(rb, .cells ⟨rgV R db w⟩ 178 (0, 0))]]) := by
 obtain ⟨h, ents, used, broken⟩ := R
 refine Ze Tryz.func111 rfl rfl rfl fun u R => ?_
 simp only [Zt, List.cons_append, List.nil_append]
 cases broken
 all_goals (repeat' (first | (refine Zg ?_; first | (refine Zf ?_; refine qQ ?_) | refine Zj ?_) | refine Za ?_ | (refine Zh ?_; refine Zu ?_) | (refine Zi ?_; refine Zv ?_) | intro _))
 all_goals exact qE ⟨rfl, rfl, rfl⟩
theorem next_spec (ρ : Hp) (rb db : Nat) (R : RgS) (w : RW) (h : RIn ρ R w) : Spec Tryz.prog 112 [.pointer (some ⟨rb, 0, none⟩)] ρ [[(rb, .cells ⟨rgV R db w⟩ 178 (0, 0))]] (fun v ρ' L' => v = .int .u64 (R.next : Nat) ∧ ρ' = ρ ∧ L' = [[(rb, .cells ⟨rgV R db w⟩ 178 (0, 0))]]) := by
 have hl := h.len
 have hnx := h.ok.next
 have e : (R.h.first : Int) + (w.els.length : Int) = (R.next : Int) := by unfold RgS.next; omega
 obtain ⟨a, cap, hev, _⟩ := h.own.len
 obtain ⟨na, nn, nc, ev, els, sp⟩ := w
 dsimp only at hev hl e
 subst hev
 refine Ze Tryz.func112 rfl rfl rfl fun u R0 => ?_
 simp only [Zt, List.cons_append, List.nil_append]
 repeat' (first | (refine Zg ?_; first | (refine Zf ?_; refine qQ ?_) | refine Zj ?_) | refine Za ?_ | (refine Zh ?_; refine Zu ?_) | (refine Zi ?_; refine Zv ?_) | intro _)
 refine Zz (Zr _ _ _) Ye ?_
 all_goals (refine ZO 0 ?_; refine ZN ?_; refine rNc 1 ?_; refine Yv 2 ?_; refine Yv 3 ?_; refine ZX 4 ?_; refine ZO 5 ?_; refine rNc 6 ?_; refine Yv 7 ?_; refine ZX 8 ?_; refine rBi 9 ?_; refine rCv 10 ?_; refine rAd 11 ?_; refine rAs 12 ?_; refine ZI ?_)
 all_goals (repeat' (first | (refine Zg ?_; first | (refine Zf ?_; refine qQ ?_) | refine Zj ?_) | refine Za ?_ | (refine Zh ?_; refine Zu ?_) | (refine Zi ?_; refine Zv ?_) | intro _))
 rw [e]
 exact qE ⟨rfl, rfl, rfl⟩
theorem sects_nat (ρ : Hp) (n : Nat) (hn : n ≤ 1000000) : Spec Tryz.prog 109 [.int .i64 n] ρ [] (fun v ρ' L' => v = .int .i64 (ZS n : Nat) ∧ ρ' = ρ ∧ L' = []) := sects_spec ρ n (by omega)
theorem RIn.adds {ρ : Hp} {R : RgS} {w : RW} (h : RIn ρ R w) {e : BSl} (he : BIn ρ e) (hel : e.n ≤ 8000) (hfit : R.used + ZS e.n ≤ R.h.size) (hn : R.next < 1099511627776) {v : Value} {sp : List Value} (ho : OwnS v (w.els.length + 1) ((w.els ++ [e]).map slv) sp 1) :
  RIn ρ (R.adds e.l) ⟨w.na, w.nn, w.nc, v, w.els ++ [e], sp⟩ := by
 have hel2 := he.s.len
 have hok := h.ok
 refine ⟨⟨hok.turn, hok.size, hok.first, ?_, hok.place, hok.note, ?_, ?_, ?_⟩, h.note, h.nle, by simpa using ho, ?_, ?_⟩
 ·simp only [RgS.adds, RgS.next] at hn ⊢; simp; omega
 ·simp only [RgS.adds, usedL_append, hok.used]; simp [XI]
 ·simp only [RgS.adds]; rw [hel2]; exact hfit
 ·intro b hb
  simp only [RgS.adds, List.mem_append, List.mem_singleton] at hb
  rcases hb with hb | rfl
  ·exact hok.long b hb
  ·omega
 ·simp [RgS.adds, h.ents]
 ·intro x hx
  rcases List.mem_append.1 hx with hx | hx
  ·exact h.els x hx
  ·rw [List.mem_singleton.1 hx]; exact he
theorem adds_spec (ρ : Hp) (rb db : Nat) (R : RgS) (w : RW) (h : RIn ρ R w) (e : BSl) (he : BIn ρ e) (hel : e.n ≤ 8000) (hfit : R.used + ZS e.n ≤ R.h.size) (hn : R.next < 1099511627776) :
  Spec Tryz.prog 114 [.pointer (some ⟨rb, 0, none⟩), slv e] ρ (Xe rb db R w) (fun v ρ' L' => v = .tuple ⟨[]⟩ ∧ ρ' = ρ ∧ ∃ ev' sp', RIn ρ (R.adds e.l) ⟨w.na, w.nn, w.nc, ev', w.els ++ [e], sp'⟩ ∧ L' = Xe rb db (R.adds e.l) ⟨w.na, w.nn, w.nc, ev', w.els ++ [e], sp'⟩) := by
 have hsz := h.ok.size
 have hlen := h.len
 have hul := usedL_len R.ents
 have hus := h.ok.used
 have hel2 := he.s.len
 have hown := h.own
 obtain ⟨hd, ents, used, broken⟩ := R
 obtain ⟨na, nn, nc, ev, els, sp⟩ := w
 dsimp only at hsz hlen hul hus hown hfit ⊢
 have hmap : els.map slv ++ [slv e] = (els ++ [e]).map slv := by simp
 have hus2 : (used : Int) + (ZS e.n : Int) = ((used + ZS e.l.length : Nat) : Int) := by rw [hel2]; omega
 refine Ze Tryz.func114 rfl rfl rfl fun u R0 => ?_
 simp only [Zt, List.cons_append, List.nil_append]
 repeat' (first | (refine ZC rfl rfl rfl rfl (by simp) rfl rfl (fun _ => ?_)) | (refine YQ (ys := [slv e]) (m := 1) (sz := 1) rfl rfl hown (hR := by infer_instance) SrcV.lit rfl rfl (by decide) rfl (by omega) (by omega) rfl (fun v2 sp2 hown2 => ?_); obtain ⟨a2, cap2, rfl, hc2⟩ := hown2.slice; rw [hmap] at hown2 ⊢) | (refine Zc (.func 109) ?_; refine qC rfl rfl (sects_nat _ e.n (by omega)) ?_; rintro v ρ' L' hle ⟨rfl, rfl, rfl⟩ <;> (try simp only [kM, kN, kO])) | (refine Zg ?_; first | (refine Zf ?_; refine qQ ?_) | refine Zj ?_) | refine Za ?_ | (refine Zh ?_; refine Zu ?_) | (refine Zi ?_; refine Zv ?_) | intro _)
 refine Zz (Zr _ _ ([])) (Zy (hT := tk) (Hp.le_refl _)) ?_
 all_goals (refine ZO 0 ?_; refine rNc 1 ?_; refine Yv 2 ?_; refine ZO 4 ?_; refine rBi 5 ?_)
 all_goals (refine Xn (i := 3) (j := 6) ?_ ?_ <;> ((try refine Zk ?_); (first | (refine Zc (.func 109) ?_; refine qC rfl rfl (sects_nat _ e.n (by omega)) ?_; rintro v ρ' L' hle ⟨rfl, rfl, rfl⟩ <;> (try simp only [kM, kN, kO])) | (refine Zf ?_; refine qQ ?_) | (refine Zj ?_; try intro _)) <;> ((try simp only [kM, kN, kO]); refine Za ?_; refine Zl ?_)))
 all_goals (first | (refine Zm (i := 6) ?_; ((try refine Zk ?_); (first | (refine Zc (.func 109) ?_; refine qC rfl rfl (sects_nat _ e.n (by omega)) ?_; rintro v ρ' L' hle ⟨rfl, rfl, rfl⟩ <;> (try simp only [kM, kN, kO])) | (refine Zf ?_; refine qQ ?_) | (refine Zj ?_; try intro _)) <;> ((try simp only [kM, kN, kO]); refine Za ?_; refine Zl ?_))) | (refine Zm (i := 3) ?_; ((try refine Zk ?_); (first | (refine Zc (.func 109) ?_; refine qC rfl rfl (sects_nat _ e.n (by omega)) ?_; rintro v ρ' L' hle ⟨rfl, rfl, rfl⟩ <;> (try simp only [kM, kN, kO])) | (refine Zf ?_; refine qQ ?_) | (refine Zj ?_; try intro _)) <;> ((try simp only [kM, kN, kO]); refine Za ?_; refine Zl ?_))))
 all_goals (refine rAd 7 ?_; refine rNc 8 ?_; refine Yv 9 ?_)
 all_goals (refine Zm (i := 10) ?_; ((try refine Zk ?_); (first | (refine Zf ?_; refine qQ ?_) | (refine Zj ?_; try intro _)) <;> ((try simp only [kM, kN, kO]); refine Za ?_; refine Zl ?_)))
 all_goals refine ZI ?_
 all_goals rw [hus2]
 all_goals exact qE (L' := [[(rb, _)], Ym _ _ _ _]) ⟨rfl, rfl, _, sp2, h.adds he hel hfit hn hown2, rfl⟩
theorem Rd.ofNone {ρ : Hp} {X : SH} {n : Nat} {l : Bs} (h : Rd ρ X none n l) : l = [] ∧ n = 0 := by
 have hl := h.len
 have := h.src ⟨Option.none, Tryz.prog, default, [], 0⟩ ρ X [] (Hp.le_refl _) ⟨by simp⟩
 rcases this with h | ⟨b, off, h, _⟩
 ·have : l = [] := by simpa using h
  subst this; exact ⟨rfl, by simpa using hl.symm⟩
 ·cases h
theorem cloneR_spec (ρ : Hp) (X : SH) (a : Option Addr) (n c : Nat) (b : Bs) (h : Rd ρ X a n b) (hn : n ≤ 1000000) :
  Spec Tryz.prog 95 [.slice a n c] ρ X (fun v ρ' L' => ρ.le ρ' ∧ ∃ e : BSl, v = slv e ∧ BIn ρ' e ∧ e.l = b ∧ e.n = n ∧ L' = X) := by
 have hl := h.len
 cases a with
 | none =>
  obtain ⟨rfl, rfl⟩ := h.ofNone
  refine Ze Tryz.func95 rfl rfl rfl fun u R => ?_
  simp only [Zt, List.cons_append, List.nil_append]
  repeat' (first | (refine Zg ?_; first | (refine Zf ?_; refine qQ ?_) | refine Zj ?_) | refine Za ?_ | (refine Zh ?_; refine Zu ?_) | (refine Zi ?_; refine Zv ?_) | intro _)
  exact qE ⟨Hp.le_refl _, ⟨none, 0, 0, []⟩, rfl, ⟨SIn.nil, Nat.le_refl _⟩, rfl, rfl, rfl⟩
 | some ad =>
  refine Ze Tryz.func95 rfl rfl rfl fun u R => ?_
  simp only [Zt, List.cons_append, List.nil_append]
  repeat' (first | (refine Zg ?_; first | (refine Zf ?_; refine qQ ?_) | refine Zj ?_) | refine Za ?_ | (refine Zh ?_; refine Zu ?_) | (refine Zi ?_; refine Zv ?_) | intro _)
  rename_i bx
  refine YQ (n := 0) (xs := []) (sp := []) (ys := b.map ZD) (sz := 1) rfl rfl (OwnS.zero _ 1) (hR := Ya) (h.src _ _ _ _ (Hp.le_refl _) tk) (by simpa using hl) (Yr b) (by decide) rfl (by omega) (by omega) rfl (fun v' sp' hown' => ?_)
  simp only [Nat.zero_add, List.nil_append] at hown' ⊢
  repeat' (first | (refine Zg ?_; first | (refine Zf ?_; refine qQ ?_) | refine Zj ?_) | refine Za ?_ | (refine Zh ?_; refine Zu ?_) | (refine Zi ?_; refine Zv ?_) | intro _)
  refine Xs _ (h := Rem.here) (fun ρ6 hle6 hfz => ?_)
  obtain ⟨a6, c6, rfl, hc6, hs6⟩ := hown'.sIn hfz
  exact qE ⟨hle6, ⟨a6, n, c6, b⟩, rfl, ⟨hs6, hc6⟩, rfl, rfl, rfl⟩
theorem partsL_len {h : Hd} {n at' : Nat} {b : Bs} : ∀ p ∈ Yz h n b at', p.2.length = 64 := fun p hp => by
 simp only [Yz, List.mem_map] at hp
 obtain ⟨k, _, rfl⟩ := hp
 exact partB_len _ _ _ _
theorem partsF_spec (ρ : Hp) (h : Hd) (na : Option Addr) (nn nc n : Nat) (a : Option Addr) (bn c at' : Nat) :
  Spec Tryz.prog 113 [.agg ⟨hdV h na nn nc⟩, .int .u64 n, .slice a bn c, .int .i64 at'] ρ [] (fun v ρ' L' => ρ' = ρ ∧ ∃ bb ab hb nb, v = .func (.func 173) ⟨[]⟩ ⟨[.pointer (some ⟨bb, 0, none⟩), .pointer (some ⟨ab, 0, none⟩), .pointer (some ⟨hb, 0, none⟩), .pointer (some ⟨nb, 0, none⟩)]⟩ ∧ L' = partsS bb ab hb nb a bn c at' h na nn nc n) := by
 refine Ze Tryz.func113 rfl rfl rfl fun u R => ?_
 simp only [Zt, List.cons_append, List.nil_append]
 repeat' (first | (refine Zg ?_; first | (refine Zf ?_; refine qQ ?_) | refine Zj ?_) | refine Za ?_ | (refine Zh ?_; refine Zu ?_) | (refine Zi ?_; refine Zv ?_) | intro _)
 rename_i hb nb bb ab
 exact qE (L' := partsS bb ab hb nb a bn c at' h na nn nc n) ⟨rfl, bb, ab, hb, nb, rfl, rfl⟩
theorem RIn.broken {ρ : Hp} {R : RgS} {w : RW} (h : RIn ρ R w) (b : Bool) : RIn ρ { R with broken := b } w := ⟨⟨h.ok.turn, h.ok.size, h.ok.first, h.ok.next, h.ok.place, h.ok.note, h.ok.used, h.ok.fit, h.ok.long⟩, h.note, h.nle, h.own, h.ents, h.els⟩
theorem append_spec (ρ : Hp) (rb db : Nat) (R : RgS) (w : RW) (h : RIn ρ R w) (k : DK) (D : DS) (hD : DOk k D) (X : SH) (a : Option Addr) (n c : Nat) (b : Bs) (hb : Rd ρ X a n b) (hc : n ≤ c) (hbig : n ≤ 1000000) :
  Spec Tryz.prog 57 [.pointer (some ⟨rb, 0, none⟩), .slice a n c] ρ (Xe rb db R w ++ (ZA db k D ++ X))
   (fun v ρ' L' => v = .int .i64 (R.append b D).2.2 ∧ ρ.le ρ' ∧ ∃ k' w', DOk k' (R.append b D).2.1 ∧ RIn ρ' (R.append b D).1 w' ∧ L' = Xe rb db (R.append b D).1 w' ++ (ZA db k' (R.append b D).2.1 ++ X)) := by
 have hl := hb.len
 have hok := h.ok
 have hsz := h.ok.size
 have hft := h.ok.fit
 have hfs := h.ok.first
 have hnx := h.ok.next
 have hpl := h.ok.place
 have htu := h.ok.turn
 have hsc := sects_pos n
 cases hbr : R.broken with
 | true =>
  have he : R.append b D = (R, D, 8) := by simp [RgS.append, hbr]
  rw [he]
  have hw8 := works_spec ρ rb db R w
  rw [hbr] at hw8
  simp only [if_true] at hw8
  refine Ze Tryz.func57 rfl rfl rfl fun u R0 => ?_
  simp only [Zt, List.cons_append, List.nil_append, List.append_assoc]
  repeat' (first | (refine Zc (.func 111) ?_; refine qC rfl rfl (hw8) ?_; rintro v ρ' L' hle ⟨rfl, rfl, rfl⟩ <;> (try simp only [kM, kN, kO])) | (refine Zg ?_; first | (refine Zf ?_; refine qQ ?_) | refine Zj ?_) | refine Za ?_ | (refine Zh ?_; refine Zu ?_) | (refine Zi ?_; refine Zv ?_) | intro _)
  exact qE (L' := Xe rb db R w ++ (ZA db k D ++ X)) ⟨rfl, Hp.le_refl _, k, w, hD, h, rfl⟩
 | false =>
  have hw0 := works_spec ρ rb db R w
  rw [hbr] at hw0
  simp only [Bool.false_eq_true, if_false] at hw0
  by_cases hlong : 8000 < n
  ·have he : R.append b D = (R, D, 3) := by simp [RgS.append, hbr, hl, hlong]
   rw [he]
   refine Ze Tryz.func57 rfl rfl rfl fun u R0 => ?_
   simp only [Zt, List.cons_append, List.nil_append, List.append_assoc]
   repeat' (first | (refine Zc (.func 111) ?_; refine qC rfl rfl (hw0) ?_; rintro v ρ' L' hle ⟨rfl, rfl, rfl⟩ <;> (try simp only [kM, kN, kO])) | (refine Zg ?_; first | (refine Zf ?_; refine qQ ?_) | refine Zj ?_) | refine Za ?_ | (refine Zh ?_; refine Zu ?_) | (refine Zi ?_; refine Zv ?_) | intro _)
   exact qE (L' := Xe rb db R w ++ (ZA db k D ++ X)) ⟨rfl, Hp.le_refl _, k, w, hD, h, rfl⟩
  ·have hnext := next_spec ρ rb db R w h
   by_cases hfull : R.h.size - R.used < ZS n
   ·have he : R.append b D = (R, D, 6) := by simp [RgS.append, hbr, hl, hlong, hfull]
    rw [he]
    refine Ze Tryz.func57 rfl rfl rfl fun u R0 => ?_
    simp only [Zt, List.cons_append, List.nil_append, List.append_assoc]
    repeat' (first | (refine Zc (.func 111) ?_; refine qC rfl rfl (hw0) ?_; rintro v ρ' L' hle ⟨rfl, rfl, rfl⟩ <;> (try simp only [kM, kN, kO])) | (refine Zg ?_; first | (refine Zf ?_; refine qQ ?_) | refine Zj ?_) | refine Za ?_ | (refine Zh ?_; refine Zu ?_) | (refine Zi ?_; refine Zv ?_) | intro _)
    refine Zz (Zr _ _ ([[(rb, .cells ⟨rgV R db w⟩ 178 (0, 0))]])) (Zy (hT := tk) (Hp.le_refl _)) ?_
    all_goals (refine ZO 0 ?_; refine rBi 1 ?_; refine ZO 3 ?_; refine rNc 4 ?_; refine Yv 5 ?_; refine Yv 6 ?_; refine ZX 7 ?_; refine ZO 8 ?_; refine rNc 9 ?_; refine Yv 10 ?_; refine ZX 11 ?_; refine rSb 12 ?_)
    all_goals (refine Zm (i := 2) ?_; ((try refine Zk ?_); (first | (refine Zc (.func 109) ?_; refine qC rfl rfl (sects_nat _ n (by omega)) ?_; rintro v ρ' L' hle ⟨rfl, rfl, rfl⟩ <;> (try simp only [kM, kN, kO])) | (refine Zj ?_; try intro _)) <;> ((try simp only [kM, kN, kO]); refine Za ?_; refine Zl ?_)))
    all_goals (refine rCm 13 ?_; refine ZO 14 ?_; (first | refine Zd 15 ?_ | refine Zb 15 ?_ | refine Yk 15 ?_))
    all_goals (first | refine Zd 16 ?_ | refine Zb 16 ?_ | (refine Zm (i := 16) ?_; ((try refine Zk ?_); (first | (refine Zj ?_; try intro _)) <;> ((try simp only [kM, kN, kO]); refine Za ?_; refine Zl ?_))))
    all_goals (refine ZN ?_; (first | refine Zd 17 ?_ | refine Zb 17 ?_ | refine wCm 17 ?_); refine rPk 18 ?_; refine rAs 19 ?_; refine ZI ?_)
    all_goals (repeat' (first | (refine Zg ?_; first | (refine Zf ?_; refine qQ ?_) | refine Zj ?_) | refine Za ?_ | (refine Zh ?_; refine Zu ?_) | (refine Zi ?_; refine Zv ?_) | intro _))
    all_goals exact qE (L' := Xe rb db R w ++ (ZA db k D ++ X)) ⟨rfl, Hp.le_refl _, k, w, hD, h, rfl⟩
   ·by_cases hmax : 1099511627776 ≤ R.next
    ·have he : R.append b D = (R, D, 6) := by simp [RgS.append, hbr, hl, hlong, hfull, hmax]
     rw [he]
     refine Ze Tryz.func57 rfl rfl rfl fun u R0 => ?_
     simp only [Zt, List.cons_append, List.nil_append, List.append_assoc]
     repeat' (first | (refine Zc (.func 111) ?_; refine qC rfl rfl (hw0) ?_; rintro v ρ' L' hle ⟨rfl, rfl, rfl⟩ <;> (try simp only [kM, kN, kO])) | (refine Zg ?_; first | (refine Zf ?_; refine qQ ?_) | refine Zj ?_) | refine Za ?_ | (refine Zh ?_; refine Zu ?_) | (refine Zi ?_; refine Zv ?_) | intro _)
     refine Zz (Zr _ _ ([[(rb, .cells ⟨rgV R db w⟩ 178 (0, 0))]])) (Zy (hT := tk) (Hp.le_refl _)) ?_
     all_goals (refine ZO 0 ?_; refine rBi 1 ?_; refine ZO 3 ?_; refine rNc 4 ?_; refine Yv 5 ?_; refine Yv 6 ?_; refine ZX 7 ?_; refine ZO 8 ?_; refine rNc 9 ?_; refine Yv 10 ?_; refine ZX 11 ?_; refine rSb 12 ?_)
     all_goals (refine Zm (i := 2) ?_; ((try refine Zk ?_); (first | (refine Zc (.func 109) ?_; refine qC rfl rfl (sects_nat _ n (by omega)) ?_; rintro v ρ' L' hle ⟨rfl, rfl, rfl⟩ <;> (try simp only [kM, kN, kO])) | (refine Zj ?_; try intro _)) <;> ((try simp only [kM, kN, kO]); refine Za ?_; refine Zl ?_)))
     all_goals (refine rCm 13 ?_; refine ZO 14 ?_; (first | refine Zd 15 ?_ | refine Zb 15 ?_ | refine Yk 15 ?_))
     all_goals (first | refine Zd 16 ?_ | refine Zb 16 ?_ | (refine Zm (i := 16) ?_; ((try refine Zk ?_); (first | (refine Zc (.func 112) ?_; refine qC rfl rfl (hnext) ?_; rintro v ρ' L' hle ⟨rfl, rfl, rfl⟩ <;> (try simp only [kM, kN, kO])) | (refine Zj ?_; try intro _)) <;> ((try simp only [kM, kN, kO]); refine Za ?_; refine Zl ?_))))
     all_goals (refine ZN ?_; (first | refine Zd 17 ?_ | refine Zb 17 ?_ | refine wCm 17 ?_); refine rPk 18 ?_; refine rAs 19 ?_; refine ZI ?_)
     all_goals (repeat' (first | (refine Zg ?_; first | (refine Zf ?_; refine qQ ?_) | refine Zj ?_) | refine Za ?_ | (refine Zh ?_; refine Zu ?_) | (refine Zi ?_; refine Zv ?_) | intro _))
     all_goals exact qE (L' := Xe rb db R w ++ (ZA db k D ++ X)) ⟨rfl, Hp.le_refl _, k, w, hD, h, rfl⟩
    ·have hpu : (R.h.place : Int) + (R.used : Int) = ((R.h.place + R.used : Nat) : Int) := by omega
     have hit := fun bb ab hb2 nb => parts_iter ρ X bb ab hb2 nb a n c (R.h.place + R.used) b R.h w.na w.nn w.nc R.next hb hc (by omega) hnx (by omega) (by omega) (by omega) (by omega)
     have hsome : R.append b D = if (DS.lays (Yz R.h R.next b (R.h.place + R.used)) D).2 = 0 then (⟨R.h, R.ents ++ [b], R.used + ZS b.length, false⟩, DS.lays (Yz R.h R.next b (R.h.place + R.used)) D) else ({ R with broken := true }, DS.lays (Yz R.h R.next b (R.h.place + R.used)) D) := by
      unfold RgS.append
      rw [hbr, hl, if_neg (by simp), if_neg (by omega), if_neg (by omega)]
     refine Ze Tryz.func57 rfl rfl rfl fun u R0 => ?_
     simp only [Zt, List.cons_append, List.nil_append, List.append_assoc]
     repeat' (first | (refine Zc (.func 111) ?_; refine qC rfl rfl (hw0) ?_; rintro v ρ' L' hle ⟨rfl, rfl, rfl⟩ <;> (try simp only [kM, kN, kO])) | (refine Zg ?_; first | (refine Zf ?_; refine qQ ?_) | refine Zj ?_) | refine Za ?_ | (refine Zh ?_; refine Zu ?_) | (refine Zi ?_; refine Zv ?_) | intro _)
     refine Zz (Zr _ _ ([[(rb, .cells ⟨rgV R db w⟩ 178 (0, 0))]])) (Zy (hT := tk) (Hp.le_refl _)) ?_
     all_goals (refine ZO 0 ?_; refine rBi 1 ?_; refine ZO 3 ?_; refine rNc 4 ?_; refine Yv 5 ?_; refine Yv 6 ?_; refine ZX 7 ?_; refine ZO 8 ?_; refine rNc 9 ?_; refine Yv 10 ?_; refine ZX 11 ?_; refine rSb 12 ?_)
     all_goals (refine Zm (i := 2) ?_; ((try refine Zk ?_); (first | (refine Zc (.func 109) ?_; refine qC rfl rfl (sects_nat _ n (by omega)) ?_; rintro v ρ' L' hle ⟨rfl, rfl, rfl⟩ <;> (try simp only [kM, kN, kO])) | (refine Zj ?_; try intro _)) <;> ((try simp only [kM, kN, kO]); refine Za ?_; refine Zl ?_)))
     all_goals (refine rCm 13 ?_; refine ZO 14 ?_; (first | refine Zd 15 ?_ | refine Zb 15 ?_ | refine Yk 15 ?_))
     all_goals (first | refine Zd 16 ?_ | refine Zb 16 ?_ | (refine Zm (i := 16) ?_; ((try refine Zk ?_); (first | (refine Zc (.func 112) ?_; refine qC rfl rfl (hnext) ?_; rintro v ρ' L' hle ⟨rfl, rfl, rfl⟩ <;> (try simp only [kM, kN, kO])) | (refine Zj ?_; try intro _)) <;> ((try simp only [kM, kN, kO]); refine Za ?_; refine Zl ?_))))
     all_goals (refine ZN ?_; (first | refine Zd 17 ?_ | refine Zb 17 ?_ | refine wCm 17 ?_); refine rPk 18 ?_; refine rAs 19 ?_; refine ZI ?_)
     all_goals (repeat' (first | (refine Zg ?_; first | (refine Zf ?_; refine qQ ?_) | refine Zj ?_) | refine Za ?_ | (refine Zh ?_; refine Zu ?_) | (refine Zi ?_; refine Zv ?_) | intro _))
     refine Zz (Zr _ _ ([[(rb, .cells ⟨rgV R db w⟩ 178 (0, 0))]])) (Zy (hT := tk) (Hp.le_refl _)) ?_
     all_goals (refine ZO 0 ?_; refine rNc 1 ?_; refine Yv 2 ?_; refine ZX 3 ?_; refine ZO 4 ?_; refine rNc 5 ?_; refine Yv 6 ?_; refine ZX 7 ?_; refine ZO 8 ?_; refine ZO 10 ?_; refine ZO 11 ?_; refine rNc 12 ?_; refine Yv 13 ?_; refine Yv 14 ?_; refine ZX 15 ?_; refine ZO 16 ?_; refine rNc 17 ?_; refine Yv 18 ?_; refine ZX 19 ?_; refine rAd 20 ?_)
     all_goals (refine Zm (i := 9) ?_; ((try refine Zk ?_); (first | (refine Zc (.func 112) ?_; refine qC rfl rfl (hnext) ?_; rintro v ρ' L' hle ⟨rfl, rfl, rfl⟩ <;> (try simp only [kM, kN, kO, hpu])) | (refine Zj ?_; try intro _)) <;> ((try simp only [kM, kN, kO]); refine Za ?_; refine Zl ?_)))
     all_goals (refine Zm (i := 21) ?_; ((try refine Zk ?_); (first | (refine Zc (.func 113) ?_; refine qC rfl rfl (partsF_spec _ R.h w.na w.nn w.nc R.next a n c (R.h.place + R.used)) ?_; rintro v ρ' L' hle ⟨rfl, bb, ab, hb2, nb, rfl, rfl⟩ <;> (try simp only [kM, kN, kO])) | (refine Zj ?_; try intro _)) <;> ((try simp only [kM, kN, kO]); refine Za ?_; refine Zl ?_)))
     all_goals (refine Zm (i := 22) ?_; ((try refine Zk ?_); (first | (refine Zc (.func 88) ?_; refine qC rfl rfl (lays_spec _ _ _ _ _ _ (Hp.le_refl _) (hit bb ab hb2 nb) partsL_len db k D hD) ?_; rintro v6 ρ6 L6 hle6 ⟨rfl, hl6, k6, hD6, rfl⟩; simp only [List.cons_append, List.nil_append, List.append_assoc]) | (refine Zj ?_; try intro _)) <;> ((try simp only [kM, kN, kO]); refine Za ?_; refine Zl ?_)))
     all_goals (refine ZN ?_; refine rAs 23 ?_; refine ZI ?_)
     all_goals (repeat' (first | (refine Zg ?_; first | (refine Zf ?_; refine qQ ?_) | refine Zj ?_) | refine Za ?_ | (refine Zh ?_; refine Zu ?_) | (refine Zi ?_; refine Zv ?_) | intro _))
     have hlm := h.mono hl6
     have hbm := hb.mono hl6
     rw [hsome]
     generalize DS.lays (Yz R.h R.next b (R.h.place + R.used)) D = r at *
     obtain ⟨D', ec⟩ := r
     dsimp only at hD6 ⊢
     by_cases hz : ec = 0
     ·subst hz
      rw [show ((0 : Int) != 0) = false from rfl, if_pos rfl]
      repeat' (first | (refine Zc (.func 95) ?_; refine qC rfl rfl (cloneR_spec _ X a n c b hbm hbig) ?_; rintro v7 ρ7 L7 hle7 ⟨hl7, e, rfl, he, hel, hen, rfl⟩; subst hel; simp only [List.cons_append, List.nil_append]) | (refine Zc (.func 114) ?_; refine qC rfl rfl (adds_spec _ rb db { R with broken := false } w ((hlm.mono hl7).broken false) e he (by omega) (by rw [hen]; dsimp only; omega) (by have : RgS.next { R with broken := false } = R.next := rfl; omega)) ?_; rintro v8 ρ8 L8 hle8 ⟨rfl, rfl, ev8, sp8, hin8, rfl⟩; simp only [List.cons_append, List.nil_append]) | (refine Zg ?_; first | (refine Zf ?_; refine qQ ?_) | refine Zj ?_) | refine Za ?_ | (refine Zh ?_; refine Zu ?_) | (refine Zi ?_; refine Zv ?_) | intro _)
      exact qE (L' := Xe rb db (RgS.adds { R with broken := false } e.l) ⟨w.na, w.nn, w.nc, ev8, w.els ++ [e], sp8⟩ ++ (ZA db k6 D' ++ _)) ⟨rfl, Hp.le_trans hl6 hl7, k6, _, hD6, hin8, rfl⟩
     ·have hcb : (ec != 0) = true := by simpa using hz
      rw [hcb, if_neg hz]
      repeat' (first | (refine Zg ?_; first | (refine Zf ?_; refine qQ ?_) | refine Zj ?_) | refine Za ?_ | (refine Zh ?_; refine Zu ?_) | (refine Zi ?_; refine Zv ?_) | intro _)
      exact qE (L' := Xe rb db { R with broken := true } w ++ (ZA db k6 D' ++ X)) ⟨rfl, hl6, k6, w, hD6, hlm.broken true, rfl⟩
theorem mod_inj {p m i j : Nat} (h : (p + i) % m = (p + j) % m) (hi : i < m) (hj : j < m) : i = j := by
 have key : ∀ i j : Nat, i < m → j < m → i ≤ j → (p + i) % m = (p + j) % m → i = j := by
  intro i j hi hj hle h
  have h1 := Nat.div_add_mod (p + i) m
  have h2 := Nat.div_add_mod (p + j) m
  have h3 : m * ((p + j) / m) = m * ((p + i) / m) + (j - i) := by omega
  have h4 : (j - i) = m * ((p + j) / m - (p + i) / m) := by rw [Nat.mul_sub]; omega
  rcases Nat.eq_zero_or_pos ((p + j) / m - (p + i) / m) with h0 | h0
  ·rw [h0] at h4; omega
  ·have : m * 1 ≤ m * ((p + j) / m - (p + i) / m) := Nat.mul_le_mul_left m h0
   omega
 rcases Nat.le_total i j with hle | hle
 ·exact key i j hi hj hle h
 ·exact (key j i hj hi hle h.symm).symm
theorem partsL_mem {h : Hd} {n at' : Nat} {b : Bs} {p : Nat × Blk} : p ∈ Yz h n b at' ↔ ∃ k, k < ZS b.length ∧ p = (2 + (at' + k) % h.size, YL h.turn n b k) := by
 simp only [Yz, List.mem_map, List.mem_range]
 constructor
 ·rintro ⟨k, h1, rfl⟩; exact ⟨k, h1, rfl⟩
 ·rintro ⟨k, h1, rfl⟩; exact ⟨k, h1, rfl⟩
def RgS.plus (R : RgS) (b : Bs) : RgS := ⟨R.h, R.ents ++ [b], R.used + ZS b.length, false⟩
section
variable {R : RgS} {D D' : DS} {b : Bs}
structure Wrote (R : RgS) (D D' : DS) (b : Bs) : Prop where
 ok : D'.Ok
 alive : D'.dead = false
 empty : YI D'.secs
 len : D'.secs.length = D.secs.length
 at' : ∀ i, img D' i = img D i ∨ ∃ k, k < ZS b.length ∧ i = 2 + (R.h.place + R.used + k) % R.h.size ∧ img D' i = YL R.h.turn R.next b k
theorem Wrote.old (w : Wrote R D D' b) (h : RO R D) (hfit : ZS b.length ≤ R.h.size - R.used) {j : Nat} (hj : j < R.used) : img D' (2 + (R.h.place + j) % R.h.size) = img D (2 + (R.h.place + j) % R.h.size) := by
 rcases w.at' (2 + (R.h.place + j) % R.h.size) with h1 | ⟨k, hk, he, _⟩
 ·exact h1
 ·have := mod_inj (p := R.h.place) (i := j) (j := R.used + k) (m := R.h.size) (by rw [← Nat.add_assoc]; omega) (by omega) (by omega)
  omega
theorem Wrote.heads (w : Wrote R D D' b) {i : Nat} (hi : i < 2) : img D' i = img D i := by
 rcases w.at' i with h1 | ⟨k, hk, he, _⟩
 ·exact h1
 ·omega
theorem Wrote.bound (w : Wrote R D D' b) (h : RO R D) (hn : R.next < 1099511627776) {q : Nat} (hq : q < R.h.size) : WC (img D' (2 + q)) ≤ R.h.turn ∧ numOf (img D' (2 + q)) ≤ R.next := by
 have ht := h.ok.turn
 rcases w.at' (2 + q) with h1 | ⟨k, hk, _, he⟩
 ·rw [h1]; exact h.bound q hq
 ·rw [he, partB_turn (by omega), partB_num hn]; omega
theorem Wrote.whole (w : Wrote R D D' b) (h : RO R D) (hb : b.length ≤ 8000) (hfit : ZS b.length ≤ R.h.size - R.used) (hn : R.next < 1099511627776)
  (hall : ∀ k, k < ZS b.length → img D' (2 + (R.h.place + R.used + k) % R.h.size) = YL R.h.turn R.next b k) : RO (R.plus b) D' ∧ Frs (R.plus b) D' := by
 have ht := h.ok.turn
 have hnx : (R.plus b).next = R.next + 1 := by simp [RgS.plus, RgS.next]; omega
 have hsz := h.ok.size
 refine ⟨⟨⟨h.ok.turn, h.ok.size, h.ok.first, by rw [hnx]; omega, h.ok.place, h.ok.note, ?_, ?_, ?_⟩, rfl, h.num, w.ok, w.alive, w.empty, by rw [w.len]; exact h.len, ?_, ?_, ?_, ?_, ?_⟩, ?_⟩
 ·simp only [RgS.plus, usedL_append, h.ok.used]; simp [XI]
 ·have := h.ok.fit
  simp only [RgS.plus]; omega
 ·intro c hc
  simp only [RgS.plus, List.mem_append, List.mem_singleton] at hc
  rcases hc with hc | rfl
  ·exact h.ok.long c hc
  ·exact hb
 ·rw [w.heads (by simp only [RgS.plus]; omega)]; exact h.head
 ·intro h1
  rw [w.heads (by simp only [RgS.plus]; omega)] at h1 ⊢
  exact h.other h1
 ·have hu := h.ok.used
  refine Has.append (h.has.frame rfl (fun j hj => w.old h hfit (by rw [hu]; exact hj))) ⟨⟨R.h.turn, ht.1, Nat.le_refl _, fun k hk => ?_⟩, trivial⟩
  have := hall k hk
  rw [hu] at this; exact this
 ·intro hlt t c h1 h2 h3 h4
  rw [hnx] at hlt ⊢
  refine ⟨0, by have := sects_pos c.length; omega, fun he => ?_⟩
  have hb1 := (w.bound h hn (q := ((R.plus b).h.place + (R.plus b).used + 0) % (R.plus b).h.size) (Nat.mod_lt _ (by simp only [RgS.plus]; omega))).2
  rw [he, partB_num hlt] at hb1
  omega
 ·intro q hq
  have := w.bound h hn hq
  rw [hnx]; simp only [RgS.plus]; omega
 ·intro q hq hc
  have := (w.bound h hn hq).2
  rw [hnx] at hc; omega
theorem Wrote.torn (w : Wrote R D D' b) (h : RO R D) (hf : Frs R D) (hb : b.length ≤ 8000) (hfit : ZS b.length ≤ R.h.size - R.used) (hn : R.next < 1099511627776)
  {k0 : Nat} (hk0 : k0 < ZS b.length) (hne : img D' (2 + (R.h.place + R.used + k0) % R.h.size) ≠ YL R.h.turn R.next b k0) : RO R D' := by
 have ht := h.ok.turn
 have hsz := h.ok.size
 refine ⟨h.ok, h.live, h.num, w.ok, w.alive, w.empty, by rw [w.len]; exact h.len, ?_, ?_, ?_, ?_, fun q hq => w.bound h hn hq⟩
 ·rw [w.heads (by omega)]; exact h.head
 ·intro h1
  rw [w.heads (by omega)] at h1 ⊢
  exact h.other h1
 ·have hu := h.ok.used
  exact h.has.frame rfl (fun j hj => w.old h hfit (by rw [hu]; exact hj))
 ·intro hlt t c h1 h1' h2 h3
  by_cases hex : ∃ k, k < ZS c.length ∧ img D' (2 + (R.h.place + R.used + k) % R.h.size) ≠ YL t R.next c k
  ·exact hex
  ·exfalso
   have hall : ∀ k, k < ZS c.length → img D' (2 + (R.h.place + R.used + k) % R.h.size) = YL t R.next c k := fun k hk => by
    by_cases he : img D' (2 + (R.h.place + R.used + k) % R.h.size) = YL t R.next c k
    ·exact he
    ·exact absurd ⟨k, hk, he⟩ hex
   by_cases hT : t = R.h.turn
   ·subst hT
    have hnew : ∀ k, k < ZS c.length → k < ZS b.length ∧ img D' (2 + (R.h.place + R.used + k) % R.h.size) = YL R.h.turn R.next b k := fun k hk => by
     rcases w.at' (2 + (R.h.place + R.used + k) % R.h.size) with e | ⟨k2, hk2, he, e⟩
     ·exfalso
      have hq : (R.h.place + R.used + k) % R.h.size < R.h.size := Nat.mod_lt _ (by omega)
      refine hf _ hq ?_
      rw [← e, hall k hk, partB_turn (by omega), partB_num hlt]
      exact ⟨rfl, rfl⟩
     ·have : k = k2 := mod_inj (p := R.h.place + R.used) (m := R.h.size) (by omega) (by omega) (by omega)
      subst this
      exact ⟨hk2, e⟩
    have h0 := sects_pos c.length
    have hsame := (hall 0 (by omega)).symm.trans (hnew 0 (by omega)).2
    have hlen : c.length = b.length := by
     have := congrArg XZ hsame
     rwa [partB_size (by omega), partB_size (by omega)] at this
    exact hne (hnew k0 (by rw [hlen]; exact hk0)).2
   ·obtain ⟨k, hk, hne2⟩ := h.none hlt t c h1 h1' h2 h3
    refine hne2 ?_
    rcases w.at' (2 + (R.h.place + R.used + k) % R.h.size) with e | ⟨k2, hk2, he, e⟩
    ·rw [← e]; exact hall k hk
    ·exfalso
     have := (hall k hk).symm.trans e
     have := congrArg WC this
     rw [partB_turn (by omega), partB_turn (by omega)] at this
     exact hT this
end
theorem RO.wrote {R : RgS} {D D' : DS} {b : Bs} {keep : Nat → Bool} {l : List (Nat × Blk)} (h : RO R D) (hl : l <+: Yz R.h R.next b (R.h.place + R.used)) (hok : D'.Ok) (hal : D'.dead = false) (hs : D'.secs = settled keep (YY D.secs l)) : Wrote R D D' b :=
 ⟨hok, hal, by rw [hs]; exact Yo, by rw [hs, Yq, YJ], fun i => by
  rcases Xy h.empty hs D rfl i with e | ⟨p, hp, h1, h2⟩
  ·exact .inl e
  ·obtain ⟨k, hk, rfl⟩ := partsL_mem.1 (hl.subset hp)
   exact .inr ⟨k, hk, h1.symm, h2⟩⟩
theorem RO.append {R : RgS} {D : DS} {b : Bs} (h : RO R D) (hf : Frs R D) (hb : b.length ≤ 8000) (hfit : ZS b.length ≤ R.h.size - R.used) (hn : R.next < 1099511627776) :
  ((DS.lays (Yz R.h R.next b (R.h.place + R.used)) D).2 = 0 → RO (R.plus b) (DS.lays (Yz R.h R.next b (R.h.place + R.used)) D).1 ∧ Frs (R.plus b) (DS.lays (Yz R.h R.next b (R.h.place + R.used)) D).1) ∧
  ((DS.lays (Yz R.h R.next b (R.h.place + R.used)) D).2 ≠ 0 → ∀ keep, RO R ((DS.lays (Yz R.h R.next b (R.h.place + R.used)) D).1.crash keep) ∨ RO (R.plus b) ((DS.lays (Yz R.h R.next b (R.h.place + R.used)) D).1.crash keep)) := by
 have hsz := h.ok.size
 have hlen := h.len
 have hok : (DS.lays (Yz R.h R.next b (R.h.place + R.used)) D).1.Ok := h.dok.lays partsL_len
 have hidx : ∀ p ∈ Yz R.h R.next b (R.h.place + R.used), p.1 < D.secs.length := fun p hp => by
  obtain ⟨k, hk, rfl⟩ := partsL_mem.1 hp
  have := Nat.mod_lt (R.h.place + R.used + k) (show 0 < R.h.size by omega)
  dsimp only; omega
 rcases lays_out (Yz R.h R.next b (R.h.place + R.used)) D h.alive hidx with ⟨l', hl', hs, hc⟩ | ⟨hs, hc, hal⟩
 ·refine ⟨fun h0 => absurd h0 hc, fun _ keep => ?_⟩
  have w : Wrote R D ((DS.lays (Yz R.h R.next b (R.h.place + R.used)) D).1.crash keep) b := h.wrote hl' hok.crash rfl (by simp only [DS.crash]; rw [hs])
  by_cases hex : ∃ k, k < ZS b.length ∧ img ((DS.lays (Yz R.h R.next b (R.h.place + R.used)) D).1.crash keep) (2 + (R.h.place + R.used + k) % R.h.size) ≠ YL R.h.turn R.next b k
  ·obtain ⟨k, hk, hne⟩ := hex
   exact .inl (w.torn h hf hb hfit hn hk hne)
  ·refine .inr (w.whole h hb hfit hn (fun k hk => ?_)).1
   by_cases he : img ((DS.lays (Yz R.h R.next b (R.h.place + R.used)) D).1.crash keep) (2 + (R.h.place + R.used + k) % R.h.size) = YL R.h.turn R.next b k
   ·exact he
   ·exact absurd ⟨k, hk, he⟩ hex
 ·refine ⟨fun _ => ?_, fun h0 => absurd hc h0⟩
  have w := h.wrote (List.prefix_refl _) hok hal hs
  refine w.whole h hb hfit hn (fun k hk => ?_)
  have hm : (2 + (R.h.place + R.used + k) % R.h.size, YL R.h.turn R.next b k) ∈ Yz R.h R.next b (R.h.place + R.used) := partsL_mem.2 ⟨k, hk, rfl⟩
  rcases img_all h.empty hs D rfl (hidx _ hm) with ⟨_, hno⟩ | ⟨p, hp, h1, h2⟩
  ·exact absurd rfl (hno _ hm)
  ·obtain ⟨k2, hk2, rfl⟩ := partsL_mem.1 hp
   dsimp only at h1 h2
   have : k2 = k := mod_inj (p := R.h.place + R.used) (m := R.h.size) (by omega) (by omega) (by omega)
   subst this
   exact h2
def RgS.minus (R : RgS) (n : Nat) (note : Bs) : RgS := ⟨R.cutH n note, R.ents.drop n, R.used - XI (R.ents.take n), false⟩
theorem RO.cut {R : RgS} {D : DS} {n : Nat} {note : Bs} (h : RO R D) (hn : n ≤ R.ents.length) (ht : R.h.turn < 1073741824) (hnote : note.length ≤ 32) (hnum : R.next < 1099511627776) :
  ((DS.lays (YG (R.cutH n note)) D).2 = 0 → RO (R.minus n note) (DS.lays (YG (R.cutH n note)) D).1 ∧ Frs (R.minus n note) (DS.lays (YG (R.cutH n note)) D).1) ∧
  ((DS.lays (YG (R.cutH n note)) D).2 ≠ 0 → ∀ keep, RO R ((DS.lays (YG (R.cutH n note)) D).1.crash keep) ∨ RO (R.minus n note) ((DS.lays (YG (R.cutH n note)) D).1.crash keep)) := by
 have hsz := h.ok.size
 have hlen := h.len
 have hus := h.ok.used
 have hft := h.ok.fit
 have htd := usedL_take_drop R.ents n
 have hnx := h.ok.next
 have hfi := h.ok.first
 have htu := h.ok.turn
 have hok : (DS.lays (YG (R.cutH n note)) D).1.Ok := h.dok.lays (fun p hp => by rw [(Xr hp).2]; exact headB_len _)
 have hidx : ∀ p ∈ YG (R.cutH n note), p.1 < D.secs.length := fun p hp => by rw [(Xr hp).1]; omega
 have hm : 0 < R.h.size := by omega
 have hok' : RgS.Ok (R.minus n note) := ⟨⟨by simp [RgS.minus, RgS.cutH, Hd.cut], by simp [RgS.minus, RgS.cutH, Hd.cut]; omega⟩, hsz, by simp only [RgS.minus, RgS.cutH, Hd.cut]; omega, by simp only [RgS.minus, RgS.cutH, Hd.cut, RgS.next, List.length_drop] at hnx ⊢; omega, Nat.mod_lt _ hm, hnote, by simp only [RgS.minus]; omega, by simp only [RgS.minus, RgS.cutH, Hd.cut]; omega, fun c hc => h.ok.long c (List.mem_of_mem_drop hc)⟩
 have hhas : Has (img D) (R.cutH n note).size (R.cutH n note).turn (R.cutH n note).first (R.cutH n note).place (R.ents.drop n) := by
  have := (h.has.drop n hn).le (T' := R.h.turn + 1) (by omega)
  exact this.frame (by simp [RgS.cutH, Hd.cut]) (fun _ _ => rfl)
 have hpl : ((R.cutH n note).place + (R.used - XI (R.ents.take n))) % (R.cutH n note).size = (R.h.place + R.used) % (R.cutH n note).size := by
  simp only [RgS.cutH, Hd.cut]
  rw [Nat.add_mod, Nat.mod_mod, ← Nat.add_mod]
  congr 1; omega
 have hfn : (R.cutH n note).first + (R.ents.drop n).length = R.next := by simp only [RgS.cutH, Hd.cut, RgS.next, List.length_drop]; omega
 have key : ∀ {D' : DS} {keep : Nat → Bool} {l : List (Nat × Blk)}, l <+: YG (R.cutH n note) → D'.Ok → D'.dead = false → D'.secs = settled keep (YY D.secs l) → img D' ((R.h.turn + 1) % 2) = Wh (R.cutH n note) → RO (R.minus n note) D' ∧ Frs (R.minus n note) D' := by
  intro D' keep l hl hok1 hal hs hi
  refine h.newHead hok1 hal (by rw [hs]; exact Yo) (by rw [hs, Yq, YJ]) hi (fun i hi => ?_) rfl rfl hok' (by unfold RgS.next at hnum; simp only [RgS.cutH, Hd.cut]; omega) hhas hpl hfn
  rcases Xy h.empty hs D rfl i with e | ⟨p, hp, h1, _⟩
  ·exact e
  ·exact absurd (by rw [← h1, (Xr (hl.subset hp)).1]; rfl) hi
 rcases lays_out (YG (R.cutH n note)) D h.alive hidx with ⟨l', hl', hs, hc⟩ | ⟨hs, hc, hal⟩
 ·refine ⟨fun h0 => absurd h0 hc, fun _ keep => ?_⟩
  have hs2 : ((DS.lays (YG (R.cutH n note)) D).1.crash keep).secs = settled keep (YY D.secs l') := by simp only [DS.crash]; rw [hs]
  have hsame : ∀ i, i ≠ (R.h.turn + 1) % 2 → img ((DS.lays (YG (R.cutH n note)) D).1.crash keep) i = img D i := fun i hi => by
   rcases Xy h.empty hs2 D rfl i with e | ⟨p, hp, h1, _⟩
   ·exact e
   ·exact absurd (by rw [← h1, (Xr (hl'.subset hp)).1]; rfl) hi
  rcases Xy h.empty hs2 D rfl ((R.h.turn + 1) % 2) with e | ⟨p, hp, _, h2⟩
  ·left
   have hi : ∀ i, img ((DS.lays (YG (R.cutH n note)) D).1.crash keep) i = img D i := fun i => by
    by_cases he : i = (R.h.turn + 1) % 2
    ·rw [he]; exact e
    ·exact hsame i he
   have hi' : img ((DS.lays (YG (R.cutH n note)) D).1.crash keep) = img D := funext hi
   exact ⟨h.ok, h.live, h.num, hok.crash, rfl, by rw [hs2]; exact Yo, by rw [hs2, Yq, YJ]; exact h.len, by rw [hi']; exact h.head, by rw [hi']; exact h.other, by rw [hi']; exact h.has, by rw [hi']; exact h.none, by rw [hi']; exact h.bound⟩
  ·right
   exact (key hl' hok.crash rfl hs2 (by rw [h2, (Xr (hl'.subset hp)).2])).1
 ·refine ⟨fun _ => ?_, fun h0 => absurd hc h0⟩
  refine key (List.prefix_refl _) hok hal hs ?_
  rcases img_all h.empty hs D rfl (i := (R.h.turn + 1) % 2) (by omega) with ⟨_, hno⟩ | ⟨p, hp, _, h2⟩
  ·exact absurd rfl (hno _ (List.mem_singleton.2 rfl))
  ·rw [h2, (Xr hp).2]
theorem RO.crash {R : RgS} {D : DS} (h : RO R D) (keep : Nat → Bool) : RO R (D.crash keep) := by
 have hs : (D.crash keep).secs = D.secs := by simp only [DS.crash]; exact settled_empty h.empty
 have hi := XM hs
 exact ⟨h.ok, h.live, h.num, h.dok.crash, rfl, by rw [hs]; exact h.empty, by rw [hs]; exact h.len, by rw [hi]; exact h.head, by rw [hi]; exact h.other, by rw [hi]; exact h.has, by rw [hi]; exact h.none, by rw [hi]; exact h.bound⟩
theorem RIn.at {ρ : Hp} {R : RgS} {w : RW} (h : RIn ρ R w) {k : Nat} (hk : k < w.els.length) : (w.els[k]).l = R.ents[k]'(by rw [← h.len]; exact hk) ∧ BIn ρ w.els[k] ∧ (w.els[k]).n ≤ 8000 := by
 have hb := h.els _ (List.getElem_mem hk)
 have hl := hb.s.len
 have hlong := h.ok.long
 have he : (w.els[k]).l = R.ents[k]'(by rw [← h.len]; exact hk) := by simp [h.ents]
 refine ⟨he, hb, ?_⟩
 rw [← hl, he]; exact hlong _ (List.getElem_mem _)
theorem noughtsL_64 {n : Nat} : ∀ p ∈ ZR n, p.2.length = 64 := fun p hp => by
 simp only [ZR, List.mem_map] at hp
 obtain ⟨k, _, rfl⟩ := hp; rfl
theorem fresh_rok {n : Nat} (h0 : 4 ≤ n) (h1 : n ≤ 1000) : RgS.Ok ⟨ZY n, [], 0, false⟩ :=
 ⟨by simp [ZY], ⟨h0, h1⟩, by simp [ZY], by simp [RgS.next, ZY], by simp only [ZY]; omega, by simp [ZY], rfl, Nat.zero_le _, by simp⟩
theorem fresh_rin {ρ : Hp} {n : Nat} (h0 : 4 ≤ n) (h1 : n ≤ 1000) : RIn ρ ⟨ZY n, [], 0, false⟩ ⟨none, 0, 0, .slice none 0 0, [], []⟩ :=
 ⟨fresh_rok h0 h1, SIn.nil, Nat.le_refl _, OwnS.nil 1, rfl, by simp⟩
def ringAns (ρ' : Hp) (db : Nat) (r : Option RgS × DS × Int) (v : Value) (L' : SH) : Prop :=
 ∃ k', DOk k' r.2.1 ∧ match r.1 with
  | none => v = .tuple ⟨[.pointer none, .int .i64 r.2.2]⟩ ∧ L' = ZA db k' r.2.1
  | some R => ∃ rb w, v = .tuple ⟨[.pointer (some ⟨rb, 0, none⟩), .int .i64 0]⟩ ∧ RIn ρ' R w ∧ L' = Xe rb db R w ++ ZA db k' r.2.1
theorem format_spec (ρ : Hp) (db : Nat) (k : DK) (D : DS) (hD : DOk k D) (size : Int) (hs : -9223372036854775808 ≤ size ∧ size ≤ 9223372036854775807) :
  Spec Tryz.prog 45 [.pointer (some ⟨db, 0, none⟩), .int .i64 size] ρ (ZA db k D) (fun v ρ' L' => ρ.le ρ' ∧ ringAns ρ' db (WT size D) v L') := by
 by_cases h1 : size < 4
 ·have he : WT size D = (none, D, 2) := by unfold WT; rw [if_pos (.inl h1)]
  rw [he]
  refine Ze Tryz.func45 rfl rfl rfl fun u R => ?_
  simp only [Zt, List.cons_append, List.nil_append]
  repeat' (first | (refine Zg ?_; first | (refine Zf ?_; refine qQ ?_) | refine Zj ?_) | refine Za ?_ | (refine Zh ?_; refine Zu ?_) | (refine Zi ?_; refine Zv ?_) | intro _)
  rename_i b3
  refine Zz (Zr _ _ ([[(b3, .cells ⟨[.int .i64 size]⟩ 3 (0, 0))]])) (Zy (hT := tk) (Hp.le_refl _)) ?_
  all_goals (refine ZX 0 ?_; refine rCm 1 ?_; refine ZO 2 ?_; (first | refine Zd 3 ?_ | refine Zb 3 ?_ | refine wLd 3 ?_); (first | refine Zd 4 ?_ | refine Zb 4 ?_ | refine wCm 4 ?_); refine rPk 5 ?_; refine ZO 6 ?_; (first | refine Zd 7 ?_ | refine Zb 7 ?_ | refine Yk 7 ?_); (first | refine Zd 9 ?_ | refine Zb 9 ?_ | refine wLd 9 ?_); (first | refine Zd 10 ?_ | refine Zb 10 ?_ | refine wAd 10 ?_))
  all_goals (first | refine Zd 8 ?_ | refine Zb 8 ?_ | (refine Zm (i := 8) ?_; ((try refine Zk ?_); (first | (refine Zc (.func 87) ?_; refine qC rfl rfl (klen _ db k D) ?_; rintro v ρ' L' hle ⟨rfl, rfl, rfl⟩ <;> (try simp only [kM, kN, kO])) | (refine Zj ?_; try intro _)) <;> ((try simp only [kM, kN, kO]); refine Za ?_; refine Zl ?_))))
  all_goals (refine ZN ?_; (first | refine Zd 11 ?_ | refine Zb 11 ?_ | refine wCm 11 ?_); refine rPk 12 ?_; refine ZI ?_)
  all_goals (repeat' (first | (refine Zg ?_; first | (refine Zf ?_; refine qQ ?_) | refine Zj ?_) | refine Za ?_ | (refine Zh ?_; refine Zu ?_) | (refine Zi ?_; refine Zv ?_) | intro _))
  all_goals exact qE ⟨Hp.le_refl _, k, hD, rfl, rfl⟩
 ·by_cases h2 : 1000 < size
  ·have he : WT size D = (none, D, 2) := by unfold WT; rw [if_pos (.inr (.inl h2))]
   rw [he]
   refine Ze Tryz.func45 rfl rfl rfl fun u R => ?_
   simp only [Zt, List.cons_append, List.nil_append]
   repeat' (first | (refine Zg ?_; first | (refine Zf ?_; refine qQ ?_) | refine Zj ?_) | refine Za ?_ | (refine Zh ?_; refine Zu ?_) | (refine Zi ?_; refine Zv ?_) | intro _)
   rename_i b3
   refine Zz (Zr _ _ ([[(b3, .cells ⟨[.int .i64 size]⟩ 3 (0, 0))]])) (Zy (hT := tk) (Hp.le_refl _)) ?_
   all_goals (refine ZX 0 ?_; refine rCm 1 ?_; refine ZO 2 ?_; (first | refine Zd 3 ?_ | refine Zb 3 ?_ | refine wLd 3 ?_); (first | refine Zd 4 ?_ | refine Zb 4 ?_ | refine wCm 4 ?_); refine rPk 5 ?_; refine ZO 6 ?_; (first | refine Zd 7 ?_ | refine Zb 7 ?_ | refine Yk 7 ?_); (first | refine Zd 9 ?_ | refine Zb 9 ?_ | refine wLd 9 ?_); (first | refine Zd 10 ?_ | refine Zb 10 ?_ | refine wAd 10 ?_))
   all_goals (first | refine Zd 8 ?_ | refine Zb 8 ?_ | (refine Zm (i := 8) ?_; ((try refine Zk ?_); (first | (refine Zc (.func 87) ?_; refine qC rfl rfl (klen _ db k D) ?_; rintro v ρ' L' hle ⟨rfl, rfl, rfl⟩ <;> (try simp only [kM, kN, kO])) | (refine Zj ?_; try intro _)) <;> ((try simp only [kM, kN, kO]); refine Za ?_; refine Zl ?_))))
   all_goals (refine ZN ?_; (first | refine Zd 11 ?_ | refine Zb 11 ?_ | refine wCm 11 ?_); refine rPk 12 ?_; refine ZI ?_)
   all_goals (repeat' (first | (refine Zg ?_; first | (refine Zf ?_; refine qQ ?_) | refine Zj ?_) | refine Za ?_ | (refine Zh ?_; refine Zu ?_) | (refine Zi ?_; refine Zv ?_) | intro _))
   all_goals exact qE ⟨Hp.le_refl _, k, hD, rfl, rfl⟩
  ·by_cases h3 : (D.secs.length : Int) < size + 2
   ·have he : WT size D = (none, D, 2) := by unfold WT; rw [if_pos (.inr (.inr h3))]
    rw [he]
    refine Ze Tryz.func45 rfl rfl rfl fun u R => ?_
    simp only [Zt, List.cons_append, List.nil_append]
    repeat' (first | (refine Zg ?_; first | (refine Zf ?_; refine qQ ?_) | refine Zj ?_) | refine Za ?_ | (refine Zh ?_; refine Zu ?_) | (refine Zi ?_; refine Zv ?_) | intro _)
    rename_i b3
    refine Zz (Zr _ _ ([[(b3, .cells ⟨[.int .i64 size]⟩ 3 (0, 0))]])) (Zy (hT := tk) (Hp.le_refl _)) ?_
    all_goals (refine ZX 0 ?_; refine rCm 1 ?_; refine ZO 2 ?_; (first | refine Zd 3 ?_ | refine Zb 3 ?_ | refine wLd 3 ?_); (first | refine Zd 4 ?_ | refine Zb 4 ?_ | refine wCm 4 ?_); refine rPk 5 ?_; refine ZO 6 ?_; (first | refine Zd 7 ?_ | refine Zb 7 ?_ | refine Yk 7 ?_); (first | refine Zd 9 ?_ | refine Zb 9 ?_ | refine wLd 9 ?_); (first | refine Zd 10 ?_ | refine Zb 10 ?_ | refine wAd 10 ?_))
    all_goals (first | refine Zd 8 ?_ | refine Zb 8 ?_ | (refine Zm (i := 8) ?_; ((try refine Zk ?_); (first | (refine Zc (.func 87) ?_; refine qC rfl rfl (klen _ db k D) ?_; rintro v ρ' L' hle ⟨rfl, rfl, rfl⟩ <;> (try simp only [kM, kN, kO])) | (refine Zj ?_; try intro _)) <;> ((try simp only [kM, kN, kO]); refine Za ?_; refine Zl ?_))))
    all_goals (refine ZN ?_; (first | refine Zd 11 ?_ | refine Zb 11 ?_ | refine wCm 11 ?_); refine rPk 12 ?_; refine ZI ?_)
    all_goals (repeat' (first | (refine Zg ?_; first | (refine Zf ?_; refine qQ ?_) | refine Zj ?_) | refine Za ?_ | (refine Zh ?_; refine Zu ?_) | (refine Zi ?_; refine Zv ?_) | intro _))
    all_goals exact qE ⟨Hp.le_refl _, k, hD, rfl, rfl⟩
   ·obtain ⟨n, rfl⟩ : ∃ n : Nat, size = n := ⟨size.toNat, by omega⟩
    have hn0 : 4 ≤ n := by omega
    have hn1 : n ≤ 1000 := by omega
    have he : WT n D = if (DS.lays (ZR n) D).2 = 0 then
      if (DS.lays (YG (ZY n)) (DS.lays (ZR n) D).1).2 = 0 then (some ⟨ZY n, [], 0, false⟩, DS.lays (YG (ZY n)) (DS.lays (ZR n) D).1) else (none, DS.lays (YG (ZY n)) (DS.lays (ZR n) D).1)
     else (none, DS.lays (ZR n) D) := by unfold WT; rw [if_neg (by omega)]; simp only [Int.toNat_natCast]
    rw [he]
    refine Ze Tryz.func45 rfl rfl rfl fun u R => ?_
    simp only [Zt, List.cons_append, List.nil_append]
    repeat' (first | (refine Zg ?_; first | (refine Zf ?_; refine qQ ?_) | refine Zj ?_) | refine Za ?_ | (refine Zh ?_; refine Zu ?_) | (refine Zi ?_; refine Zv ?_) | intro _)
    rename_i b3
    refine Zz (Zr _ _ ([[(b3, .cells ⟨[.int .i64 n]⟩ 3 (0, 0))]])) (Zy (hT := tk) (Hp.le_refl _)) ?_
    all_goals (refine ZX 0 ?_; refine rCm 1 ?_; refine ZO 2 ?_; (first | refine Zd 3 ?_ | refine Zb 3 ?_ | refine wLd 3 ?_); (first | refine Zd 4 ?_ | refine Zb 4 ?_ | refine wCm 4 ?_); refine rPk 5 ?_; refine ZO 6 ?_; (first | refine Zd 7 ?_ | refine Zb 7 ?_ | refine Yk 7 ?_); (first | refine Zd 9 ?_ | refine Zb 9 ?_ | refine wLd 9 ?_); (first | refine Zd 10 ?_ | refine Zb 10 ?_ | refine wAd 10 ?_))
    all_goals (first | refine Zd 8 ?_ | refine Zb 8 ?_ | (refine Zm (i := 8) ?_; ((try refine Zk ?_); (first | (refine Zc (.func 87) ?_; refine qC rfl rfl (klen _ db k D) ?_; rintro v ρ' L' hle ⟨rfl, rfl, rfl⟩ <;> (try simp only [kM, kN, kO])) | (refine Zj ?_; try intro _)) <;> ((try simp only [kM, kN, kO]); refine Za ?_; refine Zl ?_))))
    all_goals (refine ZN ?_; (first | refine Zd 11 ?_ | refine Zb 11 ?_ | refine wCm 11 ?_); refine rPk 12 ?_; refine ZI ?_)
    all_goals (repeat' (first | (refine Zc (.func 88) ?_; refine qC rfl rfl (lays_spec _ _ 89 [.pointer (some ⟨b3, 0, none⟩)] [[(b3, .cells ⟨[.int .i64 n]⟩ 3 (0, 0))]] (ZR n) (Hp.le_refl _) (noughts_iter _ b3 n (by omega)) noughtsL_64 db k D hD) ?_; rintro v6 ρ6 L6 hle6 ⟨rfl, hl6, k6, hD6, rfl⟩; simp only [List.cons_append, List.nil_append, List.append_assoc]) | (refine Zg ?_; first | (refine Zf ?_; refine qQ ?_) | refine Zj ?_) | refine Za ?_ | (refine Zh ?_; refine Zu ?_) | (refine Zi ?_; refine Zv ?_) | intro _))
    all_goals generalize DS.lays (ZR n) D = r at *
    all_goals obtain ⟨D', ec⟩ := r
    all_goals dsimp only at hD6 ⊢
    all_goals
     by_cases hz : ec = 0
     ·subst hz
      have hrd := fun ρ => laid_spec ρ (ZY n) none 0 0 SIn.nil (by simp [ZY]) (by simp [ZY]) (by simp only [ZY]; omega) (by simp [ZY]) (by omega) db k6 D' hD6
      rw [show ((0 : Int) == 0) = true from rfl, if_pos rfl]
      repeat' (first | (refine Zc (.func 90) ?_; refine qC rfl rfl (hrd _) ?_; rintro v8 ρ8 L8 hle8 ⟨rfl, hl8, k8, hD8, rfl⟩; try simp only [List.cons_append, List.nil_append, List.append_assoc]) | (refine Zg ?_; first | (refine Zf ?_; refine qQ ?_) | refine Zj ?_) | refine Za ?_ | (refine Zh ?_; refine Zu ?_) | (refine Zi ?_; refine Zv ?_) | intro _)
      generalize DS.lays (YG (ZY n)) D' = r at *
      obtain ⟨D'', ec⟩ := r
      dsimp only at hD8 ⊢
      by_cases hz : ec = 0
      ·subst hz
       rw [show ((0 : Int) != 0) = false from rfl, if_pos rfl]
       repeat' (first | (refine Zg ?_; first | (refine Zf ?_; refine qQ ?_) | refine Zj ?_) | refine Za ?_ | (refine Zh ?_; refine Zu ?_) | (refine Zi ?_; refine Zv ?_) | intro _)
       rename_i rb
       exact qE (L' := Xe rb db ⟨ZY n, [], 0, false⟩ ⟨none, 0, 0, .slice none 0 0, [], []⟩ ++ ZA db k8 D'') ⟨Hp.le_trans hl6 hl8, k8, hD8, rb, _, rfl, fresh_rin hn0 hn1, rfl⟩
      ·have hcb : (ec != 0) = true := by simpa using hz
       rw [hcb, if_neg hz]
       repeat' (first | (refine Zg ?_; first | (refine Zf ?_; refine qQ ?_) | refine Zj ?_) | refine Za ?_ | (refine Zh ?_; refine Zu ?_) | (refine Zi ?_; refine Zv ?_) | intro _)
       exact qE (L' := ZA db k8 D'') ⟨Hp.le_trans hl6 hl8, k8, hD8, rfl, rfl⟩
     ·have hcb : (ec == 0) = false := by simpa using hz
      have hcb2 : (ec != 0) = true := by simpa using hz
      rw [hcb, if_neg hz]
      repeat' (first | (refine Zg ?_; first | (refine Zf ?_; refine qQ ?_) | refine Zj ?_) | refine Za ?_ | (refine Zh ?_; refine Zu ?_) | (refine Zi ?_; refine Zv ?_) | intro _)
      exact qE (L' := ZA db k6 D') ⟨hl6, k6, hD6, rfl, rfl⟩
end Go.Proofs.E
namespace Go.Proofs.E
open Go Go.RowKit
set_option linter.unusedVariables false
set_option linter.unusedSimpArgs false
set_option linter.unusedSectionVars false
set_option maxRecDepth 8000
theorem rs_flatK {α : Type} {sz : Nat} {g : α → List Value} {C : List Value} {off : Nat} : ∀ (l : List α) (k : Nat), k ≤ l.length → (∀ i (h : i < l.length), (C.drop (off + i * sz)).take sz = g l[i]) → (C.drop off).take (k * sz) = ((l.take k).map g).flatten
 | l, 0, _, _ => by simp
 | l, k + 1, hk, h => by
  have ih := rs_flatK l k (by omega) h
  rw [show l.take (k + 1) = l.take k ++ [l[k]'(by omega)] from List.take_succ_eq_append_getElem (by omega), Nat.add_mul, Nat.one_mul, List.take_add, ih, List.drop_drop, h k (by omega)]
  simp only [List.map_append, List.flatten_append, List.map_cons, List.map_nil, List.flatten_cons, List.flatten_nil, List.append_nil]
theorem aIn_ofK {ρ : Hp} {α : Type} {sz : Nat} {g : α → List Value} {P : α → Prop} {cs : List Value} {s : Option Addr × Nat × Nat × List α} (hg : ∀ x, (g x).length = sz) (h : RS ρ sz (fun cs x => cs = g x ∧ P x) cs s) : AIn ρ sz g s.1 s.2.1 s.2.2.2 ∧ (∀ x ∈ s.2.2.2, P x) ∧ s.2.1 ≤ s.2.2.1 ∧ s.2.1 ≤ 9223372036854775807 := by
 obtain ⟨a, n, c, ks⟩ := s
 obtain ⟨h1, h2, h3, h4, h5⟩ := h
 dsimp only at h1 h2 h3 h4 h5 ⊢
 refine ⟨⟨h4, ?_, fun x _ => hg x⟩, fun x hx => ?_, h2, by omega⟩
 ·by_cases h0 : n = 0
  ·exact .inl h0
  ·right
   obtain ⟨b, off, C, T, fr, e1, e2, e3, e4⟩ := h5 0 (by omega)
   have same : ∀ i (h : i < ks.length), off + i * sz + sz ≤ C.length ∧ (C.drop (off + i * sz)).take sz = g ks[i] := fun i hi => by
    obtain ⟨b', off', C', T', fr', f1, f2, f3, f4⟩ := h5 i hi
    rw [e1] at f1
    cases f1
    rw [e2] at f2
    cases f2
    exact ⟨f3, f4.1⟩
   refine ⟨b, off, C, T, fr, e1, e2, ?_, ?_⟩
   ·have := (same (n - 1) (by omega)).1
    have e : n * sz = (n - 1) * sz + sz := by
     obtain ⟨m, rfl⟩ : ∃ m, n = m + 1 := ⟨n - 1, by omega⟩
     rw [Nat.add_mul]; simp
    omega
   ·have := rs_flatK (sz := sz) (g := g) ks n (by omega) (fun i hi => (same i hi).2)
    rw [this, List.take_of_length_le (by omega)]
 ·obtain ⟨i, hi, rfl⟩ := List.mem_iff_getElem.1 hx
  obtain ⟨_, _, _, _, _, _, _, _, f⟩ := h5 i hi
  exact f.2
theorem Opn.mono {H : Type} {enc : TypeId × Value → H} {P : Program} {w : World} {t : TypeId} {α β : Type} {R : List Value → α → Prop} {R' : List Value → β → Prop} (h : Opn enc P w t R) (k : ∀ cs a, R cs a → ∃ b, R' cs b) : Opn enc P w t R' := fun fuel cs x hx => by
 obtain ⟨a, ha⟩ := h fuel cs x hx
 exact k cs a ha
end Go.Proofs.E
namespace Go.Proofs.E
open Go
set_option linter.unusedVariables false
set_option linter.unusedSimpArgs false
set_option linter.unusedSectionVars false
set_option maxRecDepth 4000
set_option maxHeartbeats 1000000
attribute [local irreducible] Yl TL TC TE Spec XU R1 Hp.le EnvLe TS TR YS Zr
theorem sIn_l {ρ : Hp} {b : Nat} {l : Bs} {T : TypeId} {fr : Nat × Nat} (h : ρ b = some (.cells ⟨l.map ZD⟩ T fr)) : SIn ρ ZD (some ⟨b, 0, none⟩) l.length l := ⟨rfl, .inr ⟨b, 0, _, _, _, rfl, h, by rw [List.drop_zero, List.take_of_length_le (by simp)]⟩⟩
theorem knew (ρ : Hp) (n : Nat) (h0 : 0 < n) (h1 : n ≤ 2048) : Spec Tryz.prog 44 [.int .i64 n] ρ [] (fun v ρ' L' => ρ' = ρ ∧ ∃ b k, v = .tuple ⟨[.pointer (some ⟨b, 0, none⟩), .int .i64 0]⟩ ∧ DOk k (DS.new n) ∧ L' = ZA b k (DS.new n)) :=
 (new_spec ρ n h0 h1).mono (fun v ρ' L' _ ⟨h1', b, hb, mb, ck, h2, h3⟩ => ⟨h1', b, ⟨hb, mb, [], ck⟩, h2, ⟨new_okD h0 h1, MapOk.empty fresh_empty⟩, h3⟩)
theorem z8_take (n m : Nat) : Yx ((z8 n).take m) = 0 := by
 have : ∀ k, Yx (z8 k) = 0 := fun k => by
  induction k with
  | zero => rfl
  | succ k ih => simp only [z8, List.replicate_succ] at ih ⊢; rw [unbe_cons, ih]; simp
 simp only [z8, List.take_replicate]
 exact this _
theorem zblk_z : XK = z8 64 := rfl
theorem sIn_part {ρ : Hp} {b : Nat} {s : Bs} {T : TypeId} {fr : Nat × Nat} (h : ρ b = some (.cells ⟨s.map ZD⟩ T fr)) (lo' n : Nat) (hn : lo' + n ≤ s.length) : SIn ρ ZD (some ⟨b, lo', none⟩) n ((s.drop lo').take n) := by
 refine ⟨by simp; omega, .inr ⟨b, lo', _, _, _, rfl, h, by rw [List.map_take, List.map_drop]⟩⟩
structure Good (R : RgS) (D : DS) : Prop where
 ro : RO R D
 frs : Frs R D
 calm : D.Calm
theorem calm_pair {r : DS × Int} (h : r.2 = 0) : r = (r.1, 0) := Prod.ext rfl h
theorem Good.append {R : RgS} {D : DS} {b : Bs} (h : Good R D) (hb : b.length ≤ 8000) (hn : R.next < 1099511627776) (hfit : ZS b.length ≤ R.h.size - R.used) : ∃ D', R.append b D = (R.plus b, D', 0) ∧ Good (R.plus b) D' := by
 have hsz := h.ro.ok.size
 have hlen := h.ro.len
 have hidx : ∀ p ∈ Yz R.h R.next b (R.h.place + R.used), p.1 < D.secs.length := fun p hp => by
  obtain ⟨k, hk, rfl⟩ := partsL_mem.1 hp
  have := Nat.mod_lt (R.h.place + R.used + k) (show 0 < R.h.size by omega)
  dsimp only; omega
 obtain ⟨l0, l1, l2⟩ := XT (Yz R.h R.next b (R.h.place + R.used)) D h.calm hidx
 have ha := (h.ro.append h.frs hb hfit hn).1 l0
 refine ⟨(DS.lays (Yz R.h R.next b (R.h.place + R.used)) D).1, ?_, ha.1, ha.2, l1⟩
 unfold RgS.append
 rw [h.ro.live, if_neg (by simp), if_neg (by omega), if_neg (by omega), if_pos l0, calm_pair l0]
 rfl
theorem Good.full {R : RgS} {D : DS} {b : Bs} (h : Good R D) (hb : b.length ≤ 8000) (hfit : ¬ ZS b.length ≤ R.h.size - R.used) : R.append b D = (R, D, 6) := by
 unfold RgS.append
 rw [h.ro.live, if_neg (by simp), if_neg (by omega), if_pos (by omega)]
theorem Good.cut {R : RgS} {D : DS} {n : Nat} {note : Bs} (h : Good R D) (hn : n ≤ R.ents.length) (ht : R.h.turn < 1073741824) (hnote : note.length ≤ 32) (hnum : R.next < 1099511627776) : ∃ D', R.cut n note D = (R.minus n note, D', 0) ∧ Good (R.minus n note) D' := by
 have hsz := h.ro.ok.size
 have hlen := h.ro.len
 have hidx : ∀ p ∈ YG (R.cutH n note), p.1 < D.secs.length := fun p hp => by rw [(Xr hp).1]; omega
 obtain ⟨l0, l1, l2⟩ := XT (YG (R.cutH n note)) D h.calm hidx
 have ha := (h.ro.cut hn ht hnote hnum).1 l0
 refine ⟨(DS.lays (YG (R.cutH n note)) D).1, ?_, ha.1, ha.2, l1⟩
 unfold RgS.cut
 rw [h.ro.live, if_neg (by simp), if_neg (by omega), if_neg (by omega)]
 simp only [Int.toNat_natCast]
 rw [if_pos l0, calm_pair l0]
 rfl
theorem turn_zblk : WC XK = 0 := by unfold WC; rw [zblk_z, z8_take]
theorem num_zblk : numOf XK = 0 := by
 unfold numOf; rw [zblk_z]; simp only [z8, List.drop_replicate]; exact z8_take _ _
theorem read_zblk : (readB XK).2 = false := by
 have h : ¬ (headOf XK).Right (XK.getD 21 0).toNat := fun h => by
  have h1 := h.1
  have : (headOf XK).turn = 0 := by
   simp only [headOf, zblk_z, z8, List.drop_replicate]; exact z8_take _ _
  omega
 unfold readB
 rw [if_neg h]
theorem Good.format {D : DS} {n : Nat} (hok : D.Ok) (hc : D.Calm) (h0 : 4 ≤ n) (h1 : n ≤ 1000) (hl : n + 2 ≤ D.secs.length) (he : YI D.secs) : ∃ D', WT n D = (some ⟨ZY n, [], 0, false⟩, D', 0) ∧ Good ⟨ZY n, [], 0, false⟩ D' := by
 have hidx : ∀ p ∈ ZR n, p.1 < D.secs.length := fun p hp => by
  simp only [ZR, List.mem_map, List.mem_range] at hp
  obtain ⟨k, hk, rfl⟩ := hp
  dsimp only; omega
 obtain ⟨l0, l1, l2⟩ := XT (ZR n) D hc hidx
 have hok1 := hok.lays (l := ZR n) noughtsL_64
 have hlen1 := Xb (ZR n) D
 have hemp1 : YI (DS.lays (ZR n) D).1.secs := by rw [l2]; exact Yo
 have hidx2 : ∀ p ∈ YG (ZY n), p.1 < (DS.lays (ZR n) D).1.secs.length := fun p hp => by
  rw [(Xr hp).1, hlen1]; simp only [ZY]; omega
 obtain ⟨m0, m1, m2⟩ := XT (YG (ZY n)) (DS.lays (ZR n) D).1 l1 hidx2
 have hok2 := hok1.lays (l := YG (ZY n)) (fun p hp => by rw [(Xr hp).2]; exact headB_len _)
 have hlen2 := Xb (YG (ZY n)) (DS.lays (ZR n) D).1
 have himg1 : ∀ i, i < n + 2 → img (DS.lays (ZR n) D).1 i = XK := fun i hi => by
  rcases img_all he l2 D rfl (i := i) (by omega) with ⟨_, hno⟩ | ⟨p, hp, h1, h2⟩
  ·exact absurd rfl (hno (i, XK) (by simp only [ZR, List.mem_map, List.mem_range]; exact ⟨i, hi, rfl⟩))
  ·simp only [ZR, List.mem_map, List.mem_range] at hp
   obtain ⟨k, hk, rfl⟩ := hp
   exact h2
 have himg2 : img (DS.lays (YG (ZY n)) (DS.lays (ZR n) D).1).1 1 = Wh (ZY n) := by
  rcases img_all hemp1 m2 (DS.lays (ZR n) D).1 rfl (i := 1) (by omega) with ⟨_, hno⟩ | ⟨p, hp, _, h2⟩
  ·exact absurd rfl (hno (1, Wh (ZY n)) (List.mem_singleton.2 rfl))
  ·rw [h2, (Xr hp).2]
 have himg3 : ∀ i, i < n + 2 → i ≠ 1 → img (DS.lays (YG (ZY n)) (DS.lays (ZR n) D).1).1 i = XK := fun i hi hne => by
  rcases Xy hemp1 m2 (DS.lays (ZR n) D).1 rfl i with e | ⟨p, hp, h1, _⟩
  ·rw [e]; exact himg1 i hi
  ·exact absurd (by rw [← h1, (Xr hp).1]; rfl) hne
 refine ⟨(DS.lays (YG (ZY n)) (DS.lays (ZR n) D).1).1, ?_, ⟨fresh_rok h0 h1, rfl, by simp [ZY], hok2, m1.dead, by rw [m2]; exact Yo, ?_, ?_, ?_, trivial, ?_, ?_⟩, ?_, m1⟩
 ·unfold WT
  rw [if_neg (by omega)]
  simp only [Int.toNat_natCast]
  rw [if_pos l0, if_pos m0, calm_pair m0]
 ·show n + 2 ≤ _
  omega
 ·exact himg2
 ·rw [show (({ h := ZY n, ents := [], used := 0, broken := false } : RgS).h.turn + 1) % 2 = 0 from (by simp [ZY]), himg3 0 (by omega) (by omega), read_zblk]
  intro h; cases h
 ·intro _ t b ht ht2 _ _
  refine ⟨0, sects_pos _, fun hx => ?_⟩
  have := congrArg WC hx
  rw [himg3 _ (by have := Nat.mod_lt ((ZY n).place + 0 + 0) (show 0 < (ZY n).size by simp only [ZY]; omega); simp only [ZY] at this ⊢; omega) (by omega), turn_zblk, partB_turn (by omega)] at this
  omega
 ·intro q hq
  have hq2 : q < n := hq
  rw [himg3 _ (by omega) (by omega), turn_zblk, num_zblk]
  exact ⟨Nat.zero_le _, Nat.zero_le _⟩
 ·intro q hq hc
  have hq2 : q < n := hq
  rw [himg3 _ (by omega) (by omega), turn_zblk] at hc
  exact absurd hc.1 (by simp [ZY])
abbrev RR := RV × Rc
abbrev rrV (x : RR) : List Value := Vb x.1 x.2
abbrev flatL (l : List RR) : List Value := (l.map rrV).flatten
theorem flatL_len (l : List RR) : (flatL l).length = l.length * 10 := by
 induction l with
 | nil => rfl
 | cons x r ih => simp only [flatL, List.map_cons, List.flatten_cons, List.length_append] at ih ⊢; rw [ih]; simp [rrV]; omega
theorem flatL_add (l m : List RR) : flatL (l ++ m) = flatL l ++ flatL m := by simp [flatL]
structure LgS where
 R : RgS
 base : Nat
 fl : Nat
 ma : Nat
 nx : Int
 recs : List RR
def Wf (l : List RR) : Nat := (l.map fun x => costN x.2).sum
theorem usedR_add (l m : List RR) : Wf (l ++ m) = Wf l + Wf m := by simp [Wf]
def LgS.next (S : LgS) : Nat := S.base + S.recs.length
def LgS.more (S : LgS) (x : RR) : LgS := { S with recs := S.recs ++ [x] }
abbrev lgV (rb : Nat) (S : LgS) (v : Value) : List Value := [.pointer (some ⟨rb, 0, none⟩), .int .u64 S.base, .int .u64 S.fl, .int .u64 S.ma, .int .i64 S.nx, v, .int .i64 (Wf S.recs : Nat)]
abbrev YB (lb rb : Nat) (S : LgS) (v : Value) : List (Nat × Obj) := [(lb, .cells ⟨lgV rb S v⟩ 106 (0, 0))]
abbrev Xf (S : LgS) (v : Value) (sp : List Value) : List (Nat × Obj) := Ym v (flatL S.recs) sp 34
structure LgIn (ρ : Hp) (S : LgS) (v : Value) (sp : List Value) : Prop where
 own : OwnS v S.recs.length (flatL S.recs) sp 10
 rin : ∀ x ∈ S.recs, RcIn ρ x.1 x.2
 ok : ∀ x ∈ S.recs, Wo x.2 = true
 used : Wf S.recs ≤ 1000000
 base : S.base ≤ 1099511627777
theorem costN_le (r : Rc) : costN r ≤ 100 := by
 unfold costN
 split
 ·rename_i h
  have := recB_le (recOk_lay h)
  unfold sectsB; omega
 ·omega
theorem costN_pos {r : Rc} (h : Wo r = true) : 1 ≤ costN r := by
 unfold costN; rw [if_pos h]; unfold sectsB; omega
theorem usedR_len {l : List RR} (h : ∀ x ∈ l, Wo x.2 = true) : l.length ≤ Wf l := by
 induction l with
 | nil => exact Nat.zero_le _
 | cons x r ih =>
  have h1 := costN_pos (h x (by simp))
  have h2 := ih (fun y hy => h y (by simp [hy]))
  simp only [Wf, List.map_cons, List.sum_cons, List.length_cons] at h2 ⊢
  omega
theorem LgIn.mono {ρ ρ' S v sp} (h : LgIn ρ S v sp) (hle : ρ.le ρ') : LgIn ρ' S v sp := ⟨h.own, fun x hx => (h.rin x hx).mono hle, h.ok, h.used, h.base⟩
theorem LgIn.len {ρ S v sp} (h : LgIn ρ S v sp) : S.recs.length ≤ 1000000 := Nat.le_trans (usedR_len h.ok) h.used
theorem LgIn.next {ρ S v sp} (h : LgIn ρ S v sp) : S.next < 2000000000000 := by
 have h1 := h.len
 have h2 := h.base
 unfold LgS.next; omega
theorem next16_spec (ρ : Hp) (lb rb : Nat) (S : LgS) (v : Value) (sp : List Value) (h : LgIn ρ S v sp) :
  Spec Tryz.prog 16 [.pointer (some ⟨lb, 0, none⟩)] ρ [YB lb rb S v] (fun z ρ' L' => z = .int .u64 (S.next : Nat) ∧ ρ' = ρ ∧ L' = [YB lb rb S v]) := by
 have h1 := h.len
 have h2 := h.base
 obtain ⟨a, c, rfl, _⟩ := h.own.len
 have e : ((S.base : Nat) : Int) + ((S.recs.length : Nat) : Int) = ((S.next : Nat) : Int) := by unfold LgS.next; omega
 refine Ze Tryz.func16 rfl rfl rfl fun u R => ?_
 simp only [Zt, List.cons_append, List.nil_append]
 repeat' (first | (refine Zg ?_; first | (refine Zf ?_; refine qQ ?_) | refine Zj ?_) | refine Za ?_ | (refine Zh ?_; refine Zu ?_) | (refine Zi ?_; refine Zv ?_) | intro _)
 refine Zz (Zr _ _ _) Ye ?_
 all_goals (refine ZO 0 ?_; refine ZN ?_; refine rNc 1 ?_; refine Yv 2 ?_; refine ZX 3 ?_; refine ZO 4 ?_; refine rNc 5 ?_; refine Yv 6 ?_; refine ZX 7 ?_; refine rBi 8 ?_; refine rCv 9 ?_; refine rAd 10 ?_; refine rAs 11 ?_; refine ZI ?_)
 all_goals (repeat' (first | (refine Zg ?_; first | (refine Zf ?_; refine qQ ?_) | refine Zj ?_) | refine Za ?_ | (refine Zh ?_; refine Zu ?_) | (refine Zi ?_; refine Zv ?_) | intro _))
 all_goals rw [e]
 all_goals exact qE (L' := [YB lb rb S (.slice a S.recs.length c)]) ⟨rfl, rfl, rfl⟩
theorem flushed16_spec (ρ : Hp) (lb rb : Nat) (S : LgS) (v : Value) :
  Spec Tryz.prog 17 [.pointer (some ⟨lb, 0, none⟩)] ρ [YB lb rb S v] (fun z ρ' L' => z = .int .u64 (S.fl : Nat) ∧ ρ' = ρ ∧ L' = [YB lb rb S v]) := by
 refine Ze Tryz.func17 rfl rfl rfl fun u R => ?_
 simp only [Zt, List.cons_append, List.nil_append]
 repeat' (first | (refine Zg ?_; first | (refine Zf ?_; refine qQ ?_) | refine Zj ?_) | refine Za ?_ | (refine Zh ?_; refine Zu ?_) | (refine Zi ?_; refine Zv ?_) | intro _)
 exact qE (L' := [YB lb rb S v]) ⟨rfl, rfl, rfl⟩
theorem takes_spec16 (ρ : Hp) (lb rb : Nat) (S : LgS) (v : Value) (sp : List Value) (h : LgIn ρ S v sp) (x : RR) (hx : RcIn ρ x.1 x.2) (hok : Wo x.2 = true) (hu : Wf S.recs + costN x.2 ≤ 1000000) :
  Spec Tryz.prog 52 [.pointer (some ⟨lb, 0, none⟩), .agg ⟨Vb x.1 x.2⟩] ρ [YB lb rb S v, Xf S v sp]
   (fun z ρ' L' => z = .tuple ⟨[]⟩ ∧ ρ.le ρ' ∧ ∃ v' sp', LgIn ρ' (S.more x) v' sp' ∧ L' = [YB lb rb (S.more x) v', Xf (S.more x) v' sp']) := by
 have h1 := h.len
 have hc := rcost_spec ρ x.1 x.2 hx
 have hcl := costN_le x.2
 have hown := h.own
 obtain ⟨va, vc, rfl, _⟩ := hown.len
 have e1 : ((Wf S.recs : Nat) : Int) + ((costN x.2 : Nat) : Int) = ((Wf (S.recs ++ [x]) : Nat) : Int) := by rw [usedR_add]; simp [Wf]
 refine Ze Tryz.func52 rfl rfl rfl fun u R => ?_
 simp only [Zt, List.cons_append, List.nil_append]
 repeat' (first | (refine Zc (.func 55) ?_; refine qC rfl rfl (hc) ?_; rintro v ρ' L' hle ⟨hle1, rfl, rfl⟩ <;> (try simp only [kM, kN, kO])) | (refine Zg ?_; first | (refine Zf ?_; refine qQ ?_) | refine Zj ?_) | refine Za ?_ | (refine Zh ?_; refine Zu ?_) | (refine Zi ?_; refine Zv ?_) | intro _)
 rename_i xb
 refine Zz (Zr _ _ ([[(xb, .cells ⟨Vb x.1 x.2⟩ 34 (0, 0))]])) (Zy (hT := tk) (Hp.le_refl _)) ?_
 all_goals (refine ZO 0 ?_; refine ZO 1 ?_; refine ZO 2 ?_; refine rNc 3 ?_; refine Yv 4 ?_; refine ZX 6 ?_; refine ZO 9 ?_; refine rNc 10 ?_; refine Yv 11 ?_; refine ZO 13 ?_)
 all_goals (refine rStep3 (i := 5) (j := 7) (k := 12) ?_ ?_ ?_ <;> ((try refine Zk ?_); (first | (refine Yi (css := [Vb x.1 x.2]) (sz := 10) rfl rfl rfl rfl (by simp) (by simp) rfl (fun bs => ?_); simp only [List.flatten_cons, List.flatten_nil, List.append_nil]) | (refine YQ (ys := Vb x.1 x.2) (m := 1) (sz := 10) rfl rfl hown (hR := by repeat (first | exact Ya | apply Yn)) SrcV.lit rfl rfl (by decide) rfl (by omega) (by omega) rfl (fun v' sp' hown' => ?_); obtain ⟨va2, vc2, rfl, hvc2⟩ := hown'.slice) | (refine Zf ?_; refine qQ ?_) | (refine Zj ?_; try intro _)) <;> ((try simp only [kM, kN, kO]); refine Za ?_; refine Zl ?_)))
 all_goals (first | refine rAd 14 ?_ | (refine Xn (i := 7) (j := 12) ?_ ?_ <;> ((try refine Zk ?_); (first | (refine Yi (css := [Vb x.1 x.2]) (sz := 10) rfl rfl rfl rfl (by simp) (by simp) rfl (fun bs => ?_); simp only [List.flatten_cons, List.flatten_nil, List.append_nil]) | (refine YQ (ys := Vb x.1 x.2) (m := 1) (sz := 10) rfl rfl hown (hR := by repeat (first | exact Ya | apply Yn)) SrcV.lit rfl rfl (by decide) rfl (by omega) (by omega) rfl (fun v' sp' hown' => ?_); obtain ⟨va2, vc2, rfl, hvc2⟩ := hown'.slice) | (refine Zf ?_; refine qQ ?_) | (refine Zj ?_; try intro _)) <;> ((try simp only [kM, kN, kO]); refine Za ?_; refine Zl ?_))) | (refine Xn (i := 5) (j := 12) ?_ ?_ <;> ((try refine Zk ?_); (first | (refine Yi (css := [Vb x.1 x.2]) (sz := 10) rfl rfl rfl rfl (by simp) (by simp) rfl (fun bs => ?_); simp only [List.flatten_cons, List.flatten_nil, List.append_nil]) | (refine YQ (ys := Vb x.1 x.2) (m := 1) (sz := 10) rfl rfl hown (hR := by repeat (first | exact Ya | apply Yn)) SrcV.lit rfl rfl (by decide) rfl (by omega) (by omega) rfl (fun v' sp' hown' => ?_); obtain ⟨va2, vc2, rfl, hvc2⟩ := hown'.slice) | (refine Zf ?_; refine qQ ?_) | (refine Zj ?_; try intro _)) <;> ((try simp only [kM, kN, kO]); refine Za ?_; refine Zl ?_))))
 all_goals (first | refine rAd 14 ?_ | (refine Xn (i := 8) (j := 12) ?_ ?_ <;> ((try refine Zk ?_); (first | (refine Yi (css := [Vb x.1 x.2]) (sz := 10) rfl rfl rfl rfl (by simp) (by simp) rfl (fun bs => ?_); simp only [List.flatten_cons, List.flatten_nil, List.append_nil]) | (refine YQ (ys := Vb x.1 x.2) (m := 1) (sz := 10) rfl rfl hown (hR := by repeat (first | exact Ya | apply Yn)) SrcV.lit rfl rfl (by decide) rfl (by omega) (by omega) rfl (fun v' sp' hown' => ?_); obtain ⟨va2, vc2, rfl, hvc2⟩ := hown'.slice) | (refine Zf ?_; refine qQ ?_) | (refine Zj ?_; try intro _)) <;> ((try simp only [kM, kN, kO]); refine Za ?_; refine Zl ?_))) | (refine Xn (i := 5) (j := 7) ?_ ?_ <;> ((try refine Zk ?_); (first | (refine Yi (css := [Vb x.1 x.2]) (sz := 10) rfl rfl rfl rfl (by simp) (by simp) rfl (fun bs => ?_); simp only [List.flatten_cons, List.flatten_nil, List.append_nil]) | (refine YQ (ys := Vb x.1 x.2) (m := 1) (sz := 10) rfl rfl hown (hR := by repeat (first | exact Ya | apply Yn)) SrcV.lit rfl rfl (by decide) rfl (by omega) (by omega) rfl (fun v' sp' hown' => ?_); obtain ⟨va2, vc2, rfl, hvc2⟩ := hown'.slice) | (refine Zf ?_; refine qQ ?_) | (refine Zj ?_; try intro _)) <;> ((try simp only [kM, kN, kO]); refine Za ?_; refine Zl ?_))))
 all_goals (first | refine rAd 14 ?_ | (refine Zm (i := 12) ?_; ((try refine Zk ?_); (first | (refine Yi (css := [Vb x.1 x.2]) (sz := 10) rfl rfl rfl rfl (by simp) (by simp) rfl (fun bs => ?_); simp only [List.flatten_cons, List.flatten_nil, List.append_nil]) | (refine YQ (ys := Vb x.1 x.2) (m := 1) (sz := 10) rfl rfl hown (hR := by repeat (first | exact Ya | apply Yn)) SrcV.lit rfl rfl (by decide) rfl (by omega) (by omega) rfl (fun v' sp' hown' => ?_); obtain ⟨va2, vc2, rfl, hvc2⟩ := hown'.slice) | (refine Zf ?_; refine qQ ?_) | (refine Zj ?_; try intro _)) <;> ((try simp only [kM, kN, kO]); refine Za ?_; refine Zl ?_))) | (refine Zm (i := 7) ?_; ((try refine Zk ?_); (first | (refine Yi (css := [Vb x.1 x.2]) (sz := 10) rfl rfl rfl rfl (by simp) (by simp) rfl (fun bs => ?_); simp only [List.flatten_cons, List.flatten_nil, List.append_nil]) | (refine Zf ?_; refine qQ ?_) | (refine Zj ?_; try intro _)) <;> ((try simp only [kM, kN, kO]); refine Za ?_; refine Zl ?_))) | (refine Zm (i := 5) ?_; ((try refine Zk ?_); (first | (refine Yi (css := [Vb x.1 x.2]) (sz := 10) rfl rfl rfl rfl (by simp) (by simp) rfl (fun bs => ?_); simp only [List.flatten_cons, List.flatten_nil, List.append_nil]) | (refine YQ (ys := Vb x.1 x.2) (m := 1) (sz := 10) rfl rfl hown (hR := by repeat (first | exact Ya | apply Yn)) SrcV.lit rfl rfl (by decide) rfl (by omega) (by omega) rfl (fun v' sp' hown' => ?_); obtain ⟨va2, vc2, rfl, hvc2⟩ := hown'.slice) | (refine Zf ?_; refine qQ ?_) | (refine Zj ?_; try intro _)) <;> ((try simp only [kM, kN, kO]); refine Za ?_; refine Zl ?_))))
 all_goals (first | refine rAd 14 ?_ | (refine Zm (i := 8) ?_; ((try refine Zk ?_); (first | (refine Yi (css := [Vb x.1 x.2]) (sz := 10) rfl rfl rfl rfl (by simp) (by simp) rfl (fun bs => ?_); simp only [List.flatten_cons, List.flatten_nil, List.append_nil]) | (refine YQ (ys := Vb x.1 x.2) (m := 1) (sz := 10) rfl rfl hown (hR := by repeat (first | exact Ya | apply Yn)) SrcV.lit rfl rfl (by decide) rfl (by omega) (by omega) rfl (fun v' sp' hown' => ?_); obtain ⟨va2, vc2, rfl, hvc2⟩ := hown'.slice) | (refine Zf ?_; refine qQ ?_) | (refine Zj ?_; try intro _)) <;> ((try simp only [kM, kN, kO]); refine Za ?_; refine Zl ?_))))
 all_goals (refine rNc 15 ?_; refine Yv 16 ?_)
 all_goals (refine Zm (i := 17) ?_; ((try refine Zk ?_); (first | (refine Zf ?_; refine qQ ?_) | (refine Zj ?_; try intro _)) <;> ((try simp only [kM, kN, kO]); refine Za ?_; refine Zl ?_)))
 all_goals (refine rNc 18 ?_; refine Yv 19 ?_)
 all_goals (refine Zm (i := 20) ?_; ((try refine Zk ?_); (first | (refine Zf ?_; refine qQ ?_) | (refine Zj ?_; try intro _)) <;> ((try simp only [kM, kN, kO]); refine Za ?_; refine Zl ?_)))
 all_goals refine ZI ?_
 all_goals (repeat' (first | (refine Zg ?_; first | (refine Zf ?_; refine qQ ?_) | refine Zj ?_) | refine Za ?_ | (refine Zh ?_; refine Zu ?_) | (refine Zi ?_; refine Zv ?_) | intro _))
 all_goals
  have hfl : flatL S.recs ++ Vb x.1 x.2 = flatL (S.recs ++ [x]) := by rw [flatL_add]; simp [flatL]
  simp only [e1]
  rw [hfl] at hown' ⊢
  refine qE (L' := [YB lb rb (S.more x) (.slice va2 (S.recs.length + 1) vc2), Xf (S.more x) (.slice va2 (S.recs.length + 1) vc2) sp']) ⟨rfl, hle1, _, sp', ⟨by simpa [LgS.more] using hown', ?_, ?_, ?_, h.base⟩, rfl⟩
  ·intro y hy
   rcases List.mem_append.1 hy with hy | hy
   ·exact (h.rin y hy).mono hle1
   ·rw [List.mem_singleton.1 hy]; exact hx.mono hle1
  ·intro y hy
   rcases List.mem_append.1 hy with hy | hy
   ·exact h.ok y hy
   ·rw [List.mem_singleton.1 hy]; exact hok
  ·show Wf (S.recs ++ [x]) ≤ 1000000
   rw [usedR_add]; simpa [Wf] using hu
def appE (S : LgS) (r : Rc) (res : Int) : Int :=
 if Wo r = false then 220 else if r.lsn ≠ S.next ∨ res < 0 ∨ 400 < res then 2
 else if 400 < (Wf S.recs : Int) + (costN r : Int) + res ∨ S.next = 1099511627776 then 261 else 0
theorem append16_yes (ρ : Hp) (lb rb : Nat) (S : LgS) (v : Value) (sp : List Value) (h : LgIn ρ S v sp) (x : RR) (hx : RcIn ρ x.1 x.2) (res : Int) (hyes : appE S x.2 res = 0) :
  Spec Tryz.prog 11 [.pointer (some ⟨lb, 0, none⟩), .agg ⟨Vb x.1 x.2⟩, .int .i64 res] ρ [YB lb rb S v, Xf S v sp]
   (fun z ρ' L' => z = .int .i64 0 ∧ ρ.le ρ' ∧ ∃ v' sp', LgIn ρ' (S.more x) v' sp' ∧ L' = [YB lb rb (S.more x) v', Xf (S.more x) v' sp']) := by
 have h1 := h.len
 have hc := rcost_spec ρ x.1 x.2 hx
 have hcl := costN_le x.2
 have hus := h.used
 have hn := fun ρ => next16_spec ρ lb rb S v sp
 have hown := h.own
 have ht := fun ρ hin => takes_spec16 ρ lb rb S v sp hin x
 obtain ⟨va, vc, rfl, _⟩ := hown.len
 unfold appE at hyes
 unfold errN at hc
 cases hok : Wo x.2
 ·rw [hok, if_pos rfl] at hyes; omega
 ·rw [hok] at hc
  simp only [if_true] at hc
  rw [hok, if_neg (by simp)] at hyes
  by_cases h2 : x.2.lsn ≠ S.next ∨ res < 0 ∨ 400 < res
  ·rw [if_pos h2] at hyes; omega
  ·rw [if_neg h2] at hyes
   by_cases h3 : 400 < (Wf S.recs : Int) + (costN x.2 : Int) + res ∨ S.next = 1099511627776
   ·rw [if_pos h3] at hyes; omega
   ·obtain ⟨a1, a2⟩ := not_or.1 h2
    have a1 : x.2.lsn = S.next := Classical.not_not.1 a1
    have a3 : ¬ res < 0 := by omega
    have a4 : ¬ 400 < res := by omega
    have a5 : ¬ 400 < (Wf S.recs : Int) + (costN x.2 : Int) + res := by omega
    have a6 : ¬ ((S.next : Nat) : Int) = 1099511627776 := by omega
    refine Ze Tryz.func11 rfl rfl rfl fun u R => ?_
    simp only [Zt, List.cons_append, List.nil_append]
    repeat' (first | (refine Zc (.func 55) ?_; refine qC rfl rfl (hc) ?_; rintro v ρ' L' hle ⟨hle1, rfl, rfl⟩ <;> (try simp only [kM, kN, kO])) | (refine Zg ?_; first | (refine Zf ?_; refine qQ ?_) | refine Zj ?_) | refine Za ?_ | (refine Zh ?_; refine Zu ?_) | (refine Zi ?_; refine Zv ?_) | intro _)
    rename_i xb
    have hn1 := hn _ (h.mono hle1)
    refine Zz (Zr _ _ ([[(xb, .cells ⟨Vb x.1 x.2⟩ 34 (0, 0))]])) (Zy (hT := tk) (Hp.le_refl _)) ?_
    all_goals (refine Yv 0 ?_; refine ZX 1 ?_; refine ZO 2 ?_)
    all_goals (refine Zm (i := 3) ?_; ((try refine Zk ?_); (first | (refine Zc (.func 16) ?_; refine qC rfl rfl (hn1) ?_; rintro v ρ' L' hle ⟨rfl, rfl, rfl⟩ <;> (try simp only [kM, kN, kO])) | (refine Zj ?_; try intro _)) <;> ((try simp only [kM, kN, kO]); refine Za ?_; refine Zl ?_)))
    all_goals (refine ZN ?_; refine rCm 4 ?_; refine ZO 5 ?_; (first | refine Zd 6 ?_ | refine Zb 6 ?_ | refine Yk 6 ?_); (first | refine Zd 7 ?_ | refine Zb 7 ?_ | refine wCm 7 ?_); refine rPk 8 ?_; refine ZO 9 ?_; (first | refine Zd 10 ?_ | refine Zb 10 ?_ | refine Yk 10 ?_); (first | refine Zd 11 ?_ | refine Zb 11 ?_ | refine wCm 11 ?_); refine rPk 12 ?_; refine rAs 13 ?_; refine ZI ?_)
    all_goals (repeat' (first | (refine Zc (.func 16) ?_; refine qC rfl rfl (hn1) ?_; rintro v ρ' L' hle ⟨rfl, rfl, rfl⟩ <;> (try simp only [kM, kN, kO])) | (refine Zc (.func 52) ?_; refine qC rfl rfl ((ht _ (h.mono hle1) (hx.mono hle1) hok (by omega))) ?_; rintro v ρ' L' hle ⟨rfl, hle2, v', sp', hin, rfl⟩ <;> (try simp only [kM, kN, kO])) | (refine Zg ?_; first | (refine Zf ?_; refine qQ ?_) | refine Zj ?_) | refine Za ?_ | (refine Zh ?_; refine Zu ?_) | (refine Zi ?_; refine Zv ?_) | intro _))
    all_goals exact qE (L' := [YB lb rb (S.more x) v', Xf (S.more x) v' sp']) ⟨rfl, Hp.le_trans hle1 hle2, v', sp', hin, rfl⟩
end Go.Proofs.E
