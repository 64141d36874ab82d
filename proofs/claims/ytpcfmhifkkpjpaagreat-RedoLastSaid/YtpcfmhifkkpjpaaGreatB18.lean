/- Laws of RedoLast. Part 18 of 19. -/
import Derived.Test.YtpcfmhifkkpjpaaGreatB17
namespace Go.Proofs.E
open Go
set_option linter.unusedVariables false
set_option linter.unusedSimpArgs false
set_option linter.unusedSectionVars false
set_option maxRecDepth 4000
set_option maxHeartbeats 1000000
attribute [local irreducible] Yl TL TC TE Spec ZK R1 Hp.le EnvLe TS TR YS Zp TP QP
structure PgA where
 num : Int
 lsn : Nat
 w : CV
 c : Yi
abbrev paV (x : PgA) : List Value := [.int .i64 x.num, .int .u64 x.lsn, .int .i64 x.c.kind, .slice x.w.ra x.w.rn x.w.rc, .slice x.w.ka x.w.kn x.w.kc]
structure PaI (ρ : Hp) (x : PgA) : Prop where
 num : -9223372036854775808 ≤ x.num ∧ x.num ≤ 9223372036854775807
 lsn : x.lsn < 18446744073709551616
 c : CW ρ x.w x.c
theorem PaI.mono {ρ ρ' x} (h : PaI ρ x) (hl : ρ.le ρ') : PaI ρ' x := ⟨h.num, h.lsn, h.c.mono hl⟩
structure StA where
 a : Option Addr
 n : Nat
 c : Nat
 l : List RR
 a2 : Option Addr
 n2 : Nat
 c2 : Nat
 l2 : List PgA
abbrev stA (x : StA) : List Value := [.slice x.a x.n x.c, .slice x.a2 x.n2 x.c2]
structure StI (ρ : Hp) (x : StA) : Prop where
 at' : AIn ρ 10 rrV x.a x.n x.l
 big : x.n ≤ 9223372036854775807
 rcs : ∀ y ∈ x.l, RcW ρ y.1 y.2
 at2 : AIn ρ 5 paV x.a2 x.n2 x.l2
 big2 : x.n2 ≤ 9223372036854775807
 pg : ∀ y ∈ x.l2, PaI ρ y
theorem StI.mono {ρ ρ' x} (h : StI ρ x) (hl : ρ.le ρ') : StI ρ' x := ⟨h.at'.mono hl, h.big, fun y hy => (h.rcs y hy).mono hl, h.at2.mono hl, h.big2, fun y hy => (h.pg y hy).mono hl⟩
def zPd : PgD := ⟨zCV, ztC, 0⟩
def zPl : List PgD := List.replicate 64 zPd
theorem flat_rep_get {z : List Value} : ∀ (n i : Nat), i < n * z.length → ((List.replicate n z).flatten)[i]? = z[i % z.length]?
 | 0, i, h => by omega
 | n + 1, i, h => by
  rw [List.replicate_succ, List.flatten_cons]
  by_cases hi : i < z.length
  ·rw [List.getElem?_append_left hi, Nat.mod_eq_of_lt hi]
  ·rw [List.getElem?_append_right (by omega), flat_rep_get n (i - z.length) (by rw [Nat.add_mul] at h; omega), Nat.mod_eq_sub_mod (by omega : i ≥ z.length)]
theorem madeCells_flat (z : List Value) (n : Nat) (hz : 0 < z.length) : madeCells ⟨z⟩ (n * z.length) = ⟨(List.replicate n z).flatten⟩ := by
 apply Array.ext'
 apply List.ext_getElem?
 intro i
 have hl : ((List.replicate n z).flatten).length = n * z.length := by simp
 by_cases hi : i < n * z.length
 ·have h3 : i % z.length < z.length := Nat.mod_lt _ hz
  rw [show (⟨(List.replicate n z).flatten⟩ : Array Value).toList = (List.replicate n z).flatten from rfl, flat_rep_get n i hi, List.getElem?_eq_getElem h3]
  simp [madeCells, hi, h3]
 ·rw [List.getElem?_eq_none (by simp [madeCells]; omega), List.getElem?_eq_none (by rw [hl]; omega)]
theorem zPl_W : madeCells (Value.cells (.agg ⟨[.int .i64 0, .slice none 0 0, .slice none 0 0, .int .u64 0]⟩)) (Int.toNat 64 * 4) = ⟨(zPl.map pdV).flatten⟩ := by
 have h := madeCells_flat [.int .i64 0, .slice none 0 0, .slice none 0 0, .int .u64 0] 64 (by decide)
 unfold zPl
 rw [List.map_replicate]
 exact h
abbrev stdC (sb db lb fb : Nat) (v v2 : Value) : List (Nat × Obj) := [(sb, .cells ⟨[.pointer (some ⟨db, 0, none⟩), .pointer (some ⟨lb, 0, none⟩), .pointer (some ⟨fb, 0, none⟩), v, v2]⟩ 85 (0, 0))]
structure MdI (ρ : Hp) (fb db : Nat) (S : LgS) (v : Value) (sp : List Value) (w : RW) (k : DK) (D : DS) (t : Nat) (held : Nat → ZL) (ra : Option Addr) (rc : Nat) (l : List RR) (pa : Option Addr) (pc : Nat) (pl : List PgD) : Prop where
 fi : FIn ρ fb db 902
 lg : LgIn ρ S v sp
 rg : RIn ρ S.R w
 dk : DOk k D
 fo : FO D 902 t held
 calm : D.Calm
 tb : t ≤ 8
 recs : S.recs = l
 base : S.base = 1
 fl : S.fl = l.length
 mo : MkOk l
 few : l.length ≤ 12
 rin : ∀ x ∈ l, RcIn ρ x.1 x.2
 at' : AIn ρ 10 rrV ra l.length l
 cap : l.length ≤ rc
 pg : PgL ρ pa pc pl held
 fit : ∀ n, Fit (held n).1
 lsb : ∀ n, (held n).2 ≤ l.length
theorem zFit : Fit zHeld.1 := ⟨by decide, ⟨by simp [zHeld], by simp [zHeld]⟩⟩
set_option maxHeartbeats 4000000 in
theorem made_spec (ρ : Hp) (x : StA) (hx : StI ρ x) :
  Spec Tryz.prog 38 [.agg ⟨stA x⟩] ρ [] (fun z ρ' L' => ρ.le ρ' ∧ ∃ sb db lb fb rb S v sp w k D t held ra rc l pa pc pl, z = .tuple ⟨[.pointer (some ⟨sb, 0, none⟩), .bool true]⟩ ∧ MdI ρ' fb db S v sp w k D t held ra rc l pa pc pl ∧
   L' = stdC sb db lb fb (.slice ra l.length rc) (.slice pa 64 pc) :: ZR lb rb S v :: Ya S v sp :: (Yw rb db S.R w ++ Zk db k D)) := by
 obtain ⟨xa, xn, xc, xl, xa2, xn2, xc2, xl2⟩ := x
 obtain ⟨hA, hbig, hrw, hA2, hbig2, hpw⟩ := hx
 dsimp only at hA hbig hrw hA2 hbig2 hpw
 have hlen := hA.len
 have hlen2 := hA2.len
 refine Za Tryz.func38 rfl rfl rfl fun u R => ?_
 simp only [Zg, kA, stA]
 repeat' (first | (refine Zb (.func 12) ?_; refine qC rfl rfl (knew _ 1158 (by omega) (by omega)) ?_; rintro v ρ' L' hle ⟨rfl, db, k0, rfl, hk0, rfl⟩ <;> (try simp only [kA])) | (refine Zb (.func 24) ?_; refine qC rfl rfl (kformat24 _ db k0 hk0) ?_; rintro v1 ρ1 L1 hle1 ⟨hl1, lb, rb, w1, k1, D1, rfl, hk1, hr1, g1, hlen1, himg1, rfl⟩; try simp only [kA, List.append_assoc]) | (refine Zb (.func 72) ?_; refine qC rfl rfl (Open_spec _ db k1 D1 hk1 902 (by omega)) ?_; rintro v2 ρ2 L2 hle2 ⟨hl2, fb, rfl, hf2, rfl⟩; try simp only [kA, List.append_assoc]) | refine zV ?_ | intro _)
 refine Vi rfl rfl (by omega) (by omega) (by omega) (by omega) rfl (fun pb => ?_)
 rw [zPl_W]
 simp only [show Int.toNat 64 = 64 from rfl]
 have hz1 : zPl.length = 64 := rfl
 have hz2 : ∀ (ρ : Hp), ∀ y ∈ zPl, CIn ρ y.w y.c.rows y.c.kids := fun ρ y hy => by rw [(List.mem_replicate.1 hy).2]; exact CIn.nil
 have hz3 : ∀ k (h : k < zPl.length), ((zPl[k]).c, (zPl[k]).lsn) = zHeld := fun k h => by simp only [zPl, List.getElem_replicate]; rfl
 generalize zPl = pl0 at *
 rename_i xb
 rw [show [(pb, Obj.cells ⟨(pl0.map pdV).flatten⟩ 114 (0, 0))] = ZG (.slice (some ⟨pb, 0, none⟩) 64 64) ((pl0.map pdV).flatten) [] 114 by simp [ZG]]
 repeat' (first | refine zV ?_ | intro _)
 rename_i sb
 have hfo : FO D1 902 0 (fun _ => zHeld) := FO.zero hk1.ok g1.ro.alive g1.ro.empty (by omega) (fun i hi => himg1 _ (by omega) (by omega))
 have hl02 := Hp.le_trans hl1 hl2
 refine Zl [(1, _), (2, _), (3, _), (6, _), (8, _), (10, _), (48, _), (49, _)] (fun (ζ : (Nat) × (Hp) × (List RR) × (Value) × (List Value) × (Value) × (List Value)) => [(50, .int .i64 ζ.1)]) (fun (ζ : (Nat) × (Hp) × (List RR) × (Value) × (List Value) × (Value) × (List Value)) => ζ.2.1) (fun (ζ : (Nat) × (Hp) × (List RR) × (Value) × (List Value) × (Value) × (List Value)) => stdC sb db lb fb ζ.2.2.2.2.2.1 (.slice (some ⟨pb, 0, none⟩) 64 64) :: ZG ζ.2.2.2.2.2.1 (Wi ζ.2.2.1) ζ.2.2.2.2.2.2 39 :: ZG (.slice (some ⟨pb, 0, none⟩) 64 64) ((pl0.map pdV).flatten) [] 114 :: [(xb, .cells ⟨[.slice xa xn xc, .slice xa2 xn2 xc2]⟩ 75 (0, 0))] :: ZR lb rb (mkS ζ.2.2.1) ζ.2.2.2.1 :: Ya (mkS ζ.2.2.1) ζ.2.2.2.1 ζ.2.2.2.2.1 :: (Yw rb db ⟨ZI 450, [], 0, false⟩ w1 ++ Zk db k1 D1)) (fun (ζ : (Nat) × (Hp) × (List RR) × (Value) × (List Value) × (Value) × (List Value)) => ζ.1 ≤ xn ∧ ζ.2.2.1.length ≤ min ζ.1 12 ∧ ρ2.le ζ.2.1 ∧ LgIn ζ.2.1 (mkS ζ.2.2.1) ζ.2.2.2.1 ζ.2.2.2.2.1 ∧ MkOk ζ.2.2.1 ∧ OwnS ζ.2.2.2.2.2.1 ζ.2.2.1.length (Wi ζ.2.2.1) ζ.2.2.2.2.2.2 10) (fun (ζ : (Nat) × (Hp) × (List RR) × (Value) × (List Value) × (Value) × (List Value)) => xn - ζ.1) ((0, ρ2, [], .slice none 0 0, [], .slice none 0 0, [])) (⟨Nat.zero_le _, Nat.zero_le _, Hp.le_refl _, newLg_in, MkOk.nil, OwnS.nil 10⟩) Zc Zc rfl tk ?_
 rintro ⟨i, ρ3, RS, v, sp, vr, sr⟩ hI
 try simp only [kA, List.append_assoc] at hI ⊢
 try dsimp only at hI ⊢
 obtain ⟨hi, hRl, hl3, hlg, hmk, hown⟩ := hI
 by_cases hlt : i < xn
 ·have hil : i < xl.length := by omega
  obtain ⟨b, off, C, T, fr, e1, hb, hfit, hc⟩ := (hA.mono (Hp.le_trans hl02 hl3)).get hil
  have hy := (hrw _ (List.getElem_mem hil)).mono (Hp.le_trans hl02 hl3)
  generalize xl[i] = y at *
  obtain ⟨yv, yr⟩ := y
  dsimp only at hy hc
  subst e1
  have hfw := few24_spec ρ3 yv yr hy
  have hN := fun ρ4 (h : LgIn ρ4 (mkS RS) v sp) => WR ρ4 lb rb (mkS RS) v sp h
  simp only [mkS_next] at hN
  have hnx := hlg.len
  by_cases h12 : 12 ≤ i
  all_goals
   repeat' (first | (refine Zb (.func 40) ?_; refine qC rfl rfl hfw ?_; rintro v4 ρ4 L4 hle4 ⟨hl4, rv, rr, rfl, hrin, -, rfl⟩; try simp only [kA]) | (refine Zb (.func 26) ?_; refine qR rfl rfl (hN _ (hlg.mono hl4)) ?_; try simp only [kA]) | refine zV ?_ | intro _)
   have hle4 := Hp.le_trans hl3 hl4
   have hlg4 := hlg.mono hl4
   obtain ⟨xr, hxr⟩ : ∃ xr : Rc, xr = { rr with lsn := 1 + RS.length } := ⟨_, rfl⟩
   have hxin : RcIn ρ4 rv xr := by rw [hxr]; exact ⟨hrin.i, hrin.im, hrin.s, hrin.t, hrin.d, hrin.sf⟩
   have hxv : [.int .i64 rr.kind, .int .u64 ((1 + RS.length : Nat) : Int), .int .i64 rr.txn, .int .u64 rr.prev, .int .u64 rr.next, .slice rv.i.a rv.i.n rv.i.c, .slice rv.s.a rv.s.n rv.s.c, .int .i64 rr.nextTxn, .slice rv.t.a rv.t.n rv.t.c, .slice rv.d.a rv.d.n rv.d.c] = Xw rv xr := by rw [hxr]
   rw [hxv]
   clear hxv hrin
   have hri := right12_spec ρ4 rv xr hxin
  ·repeat' (first | refine zV ?_ | intro _)
   refine Zf (i + 1, ρ4, RS, v, sp, vr, sr) (⟨hlt, by dsimp only; omega, hle4, hlg4, hmk, hown⟩) Zc Zc rfl tk inferInstance (by first | omega | (dsimp only; omega))
  ·cases hok : ZP xr
   ·rw [hok] at hri
    repeat' (first | (refine Zb (.func 15) ?_; refine qR rfl rfl (hri) ?_; try simp only [kA]) | refine zV ?_ | intro _)
    refine Zf (i + 1, ρ4, RS, v, sp, vr, sr) (⟨hlt, by dsimp only; omega, hle4, hlg4, hmk, hown⟩) Zc Zc rfl tk inferInstance (by first | omega | (dsimp only; omega))
   ·rw [hok] at hri
    by_cases ha : appE (mkS RS) xr 0 = 0
    ·have hA1 := append16_yes ρ4 lb rb (mkS RS) v sp hlg4 (rv, xr) hxin 0 ha
     obtain ⟨va, vc, rfl, hvc⟩ := hown.slice
     repeat' (first | (refine Zb (.func 15) ?_; refine qR rfl rfl (hri) ?_; try simp only [kA]) | (refine Zb (.func 27) ?_; refine qC rfl rfl hA1 ?_; rintro v5 ρ5 L5 hle5 ⟨rfl, hl5, v6, sp6, hlg6, rfl⟩; try simp only [kA]) | refine zV ?_ | intro _)
     refine tc_phase 8 (Zp _ _ ([stdC sb db lb fb (.slice va RS.length vc) (.slice (some ⟨pb, 0, none⟩) 64 64), [(_, .cells ⟨Xw rv xr⟩ 39 (0, 0))]])) (by decide +kernel) (Wp (hT := tk) (Hp.le_refl _)) ?_
     simp only [List.take_succ_cons, List.take_zero]
     all_goals (refine rMv 0 ?_; refine rMv 1 ?_; refine rNc 2 ?_; refine rFa 3 ?_; refine rLd 4 ?_; refine rLd 5 ?_)
     all_goals (refine rStep (i := 6) ?_; ((try refine Zn ?_); (first | (refine Yx (css := [Xw rv xr]) (sz := 10) rfl rfl rfl rfl (by simp) (by simp) rfl (fun bs => ?_); simp only [List.flatten_cons, List.flatten_nil, List.append_nil]) | (refine Yj ?_; try intro _)) <;> ((try simp only [kA]); refine Zi ?_; refine rNext ?_)))
     all_goals (refine rStep (i := 7) ?_; ((try refine Zn ?_); (first | (refine Yx (css := [Xw rv xr]) (sz := 10) rfl rfl rfl rfl (by simp) (by simp) rfl (fun bs => ?_); simp only [List.flatten_cons, List.flatten_nil, List.append_nil]) | (refine Yv (ys := Xw rv xr) (m := 1) (sz := 10) rfl rfl hown (hR := by repeat (first | exact Zz | apply ZE)) SrcV.lit rfl rfl (by decide) rfl (by omega) (by omega) rfl (fun v' sp' hown' => ?_); obtain ⟨va2, vc2, rfl, hvc2⟩ := hown'.slice) | (refine Yj ?_; try intro _)) <;> ((try simp only [kA]); refine Zi ?_; refine rNext ?_)))
     all_goals refine rDone ?_
     all_goals refine te_phase (fuel := 3) (m := [true, true, true, true, true, true, true, true, false, false, false]) (Zp _ _ ([])) rfl rfl (Wp (hT := tk) (Hp.le_refl _)) ?_
     all_goals (refine rNc 8 ?_; refine rFa 9 ?_)
     all_goals (refine rStep (i := 10) ?_; ((try refine Zn ?_); (first | (refine Yj ?_; try intro _)) <;> ((try simp only [kA]); refine Zi ?_; refine rNext ?_)))
     all_goals refine rDone ?_
     all_goals (repeat' (first | refine zV ?_ | intro _))
     all_goals rw [show Wi RS ++ Xw rv xr = Wi (RS ++ [(rv, xr)]) by rw [flatL_add]; simp [Wi]] at hown' ⊢
     all_goals refine Zf (i + 1, ρ5, RS ++ [(rv, xr)], v6, sp6, .slice va2 (RS.length + 1) vc2, sp') (⟨hlt, by dsimp only; rw [List.length_append, List.length_singleton]; omega, Hp.le_trans hle4 hl5, hlg6, hmk.more (x := (rv, xr)) ha, by dsimp only; rw [List.length_append]; exact hown'⟩) Zc Zc rfl tk inferInstance (by first | omega | (dsimp only; omega))
    ·have hA1 := append16_no ρ4 lb rb (mkS RS) v sp hlg4 (rv, xr) hxin 0 ha
     have hne : (appE (mkS RS) xr 0 == 0) = false := by simpa using ha
     dsimp only at hA1
     generalize appE (mkS RS) xr 0 = E at *
     repeat' (first | (refine Zb (.func 15) ?_; refine qR rfl rfl (hri) ?_; try simp only [kA]) | (refine Zb (.func 27) ?_; refine qC rfl rfl hA1 ?_; rintro v5 ρ5 L5 hle5 ⟨rfl, hl5, rfl⟩; try simp only [kA]) | refine zV ?_ | intro _)
     refine Zf (i + 1, ρ5, RS, v, sp, vr, sr) (⟨hlt, by dsimp only; omega, Hp.le_trans hle4 hl5, hlg4.mono hl5, hmk, hown⟩) Zc Zc rfl tk inferInstance (by first | omega | (dsimp only; omega))
 ·obtain ⟨R2, D2, hfl, g2, len2, img2⟩ := hmk.flush g1
  have hRl2 := hmk.len
  have hl03 := Hp.le_trans hl02 hl3
  have hF := flush16_spec ρ3 lb rb db (mkS RS) v sp hlg w1 (hr1.mono (Hp.le_trans hl2 hl3)) k1 D1 hk1 ((mkS RS).next - 1) (by show 0 < _; omega)
  rw [hfl] at hF
  dsimp only at hF
  have hN := WR ρ3 lb rb (mkS RS) v sp hlg
  simp only [mkS_next] at hN hF
  have hsub : ((1 + RS.length : Nat) : Int) - 1 = ((1 + RS.length - 1 : Nat) : Int) := by omega
  have hfo2 : FO D2 902 0 (fun _ => zHeld) := hfo.frame g2.ro.dok g2.ro.alive g2.ro.empty len2 (fun i h1 h2 => img2 i (by omega))
  obtain ⟨S, hS⟩ : ∃ S, S = (mkS RS).at R2 RS.length := ⟨_, rfl⟩
  rw [← hS] at hF
  repeat' (first | (refine Zb (.func 26) ?_; refine qR rfl rfl (hN) ?_; try simp only [kA]) | (refine Zb (.func 29) ?_; simp only [hsub]; refine qC rfl rfl hF ?_; rintro v5 ρ5 L5 hle5 ⟨rfl, hl5, w3, k3, hr3, hk3, rfl⟩; try simp only [kA, List.append_assoc]) | refine zV ?_ | intro _)
  rw [show Ya (mkS RS) v sp = Ya S v sp by rw [hS]; rfl]
  have hlgS : LgIn ρ5 S v sp := by rw [hS]; exact (hlg.mono hl5).at R2 RS.length
  have hSn : S.next = 1 + RS.length := by rw [hS]; rfl
  have hl05 := Hp.le_trans hl03 hl5
  have hf5 := hf2.mono (Hp.le_trans hl3 hl5)
  refine Zl [(6, _), (8, _), (10, _), (89, _), (90, _)] (fun (ζ : (Nat) × (Hp) × (DK) × (DS) × (Nat) × (Nat → ZL) × (List PgD)) => [(91, .int .i64 ζ.1), (2, .pointer none), (3, .bool false)]) (fun (ζ : (Nat) × (Hp) × (DK) × (DS) × (Nat) × (Nat → ZL) × (List PgD)) => ζ.2.1) (fun (ζ : (Nat) × (Hp) × (DK) × (DS) × (Nat) × (Nat → ZL) × (List PgD)) => stdC sb db lb fb vr (.slice (some ⟨pb, 0, none⟩) 64 64) :: ZG vr (Wi RS) sr 39 :: ZG (.slice (some ⟨pb, 0, none⟩) 64 64) ((ζ.2.2.2.2.2.2.map pdV).flatten) [] 114 :: ZR lb rb S v :: Ya S v sp :: (Yw rb db S.R w3 ++ Zk db ζ.2.2.1 ζ.2.2.2.1)) (fun (ζ : (Nat) × (Hp) × (DK) × (DS) × (Nat) × (Nat → ZL) × (List PgD)) => ζ.1 ≤ xn2 ∧ ζ.2.2.2.2.1 ≤ min ζ.1 8 ∧ ρ5.le ζ.2.1 ∧ DOk ζ.2.2.1 ζ.2.2.2.1 ∧ FO ζ.2.2.2.1 902 ζ.2.2.2.2.1 ζ.2.2.2.2.2.1 ∧ ζ.2.2.2.1.Calm ∧ ζ.2.2.2.2.2.2.length = 64 ∧ (∀ y ∈ ζ.2.2.2.2.2.2, CIn ζ.2.1 y.w y.c.rows y.c.kids) ∧ (∀ q (h : q < ζ.2.2.2.2.2.2.length), ((ζ.2.2.2.2.2.2[q]).c, (ζ.2.2.2.2.2.2[q]).lsn) = ζ.2.2.2.2.2.1 q) ∧ (∀ q, Fit (ζ.2.2.2.2.2.1 q).1 ∧ (ζ.2.2.2.2.2.1 q).2 ≤ RS.length)) (fun (ζ : (Nat) × (Hp) × (DK) × (DS) × (Nat) × (Nat → ZL) × (List PgD)) => xn2 - ζ.1) ((0, ρ5, k3, D2, 0, fun _ => zHeld, pl0)) (⟨Nat.zero_le _, Nat.zero_le _, Hp.le_refl _, hk3, hfo2, g2.calm, hz1, hz2 _, hz3, fun _ => ⟨zFit, Nat.zero_le _⟩⟩) Zc Zc rfl tk ?_
  rintro ⟨j, ρ6, kk, DD, t, held, pl⟩ hI
  try simp only [kA, List.append_assoc] at hI ⊢
  try dsimp only at hI ⊢
  obtain ⟨hj, htb, hl6, hkk, hfo6, hca6, hpl, hpc, hpe, hft⟩ := hI
  have hl06 := Hp.le_trans hl05 hl6
  by_cases hjt : j < xn2
  ·have hjl : j < xl2.length := by omega
   obtain ⟨b, off, C, T, fr, e1, hb, hfit, hc⟩ := (hA2.mono hl06).get hjl
   obtain ⟨hyn, hyl, hyc⟩ := (hpw _ (List.getElem_mem hjl)).mono hl06
   generalize xl2[j] = y at *
   obtain ⟨yn, yl, yw, yc⟩ := y
   dsimp only at hyn hyl hyc hc
   subst e1
   have hct := content24_spec ρ6 yw yc hyc.few
   have hrt := fun ρ7 w7 (h : CI ρ7 w7 (fewC yc)) => right_spec ρ7 w7 (fewC yc) h.cin (fun r hr => (h.row r hr).id) h.kid
   by_cases hgo : j < 8 ∧ 0 ≤ yn ∧ yn < 64
   ·obtain ⟨g8, g0, g64⟩ := hgo
    repeat' (first | (refine Zb (.func 117) ?_; refine qC rfl rfl hct ?_; rintro v7 ρ7 L7 hle7 ⟨hl7, w7, rfl, hC7, rfl⟩; have hci := fewC_fit hyc hC7; try simp only [kA]) | (refine Zb (.func 118) ?_; refine qR rfl rfl (hrt _ _ hci) ?_; try simp only [kA]) | refine zV ?_ | intro _)
    rename_i b14 b15
    have hl67 := Hp.le_trans hl6 hl7
    cases hck : ZB (fewC yc)
    ·rw [show (!false) = true from rfl]
     repeat' (first | refine zV ?_ | intro _)
     refine Zf (j + 1, ρ7, kk, DD, t, held, pl) (⟨hjt, by dsimp only; omega, hl67, hkk, hfo6, hca6, hpl, fun y hy => (hpc y hy).mono hl7, hpe, hft⟩) Zc Zc rfl tk inferInstance (by first | omega | (dsimp only; omega))
    ·rw [show (!true) = false from rfl]
     obtain ⟨num, rfl⟩ : ∃ num : Nat, yn = (num : Int) := ⟨yn.toNat, by omega⟩
     have hN7 := WR ρ7 lb rb S v sp (hlgS.mono hl67)
     rw [hSn] at hN7
     have htm : (yl : Int).tmod ((1 + RS.length : Nat) : Int) = ((yl % (1 + RS.length) : Nat) : Int) := (Int.ofNat_tmod _ _).symm
     have hlm : yl % (1 + RS.length) < 1 + RS.length := Nat.mod_lt _ (by omega)
     have hfit2 : Fit (fewC yc) := ⟨hck, ⟨hci.row, hci.kid⟩⟩
     have hRl7 := hmk.len
     obtain ⟨D8, e8, hfo8, hca8⟩ := fo_write (num := num) (lsn := yl % (1 + RS.length)) hfo6 hca6 (by omega) hfit2 (by unfold M64; omega) (by unfold M64; omega)
     have hW := Write_spec ρ7 fb db 902 num (yl % (1 + RS.length)) ((hf5.mono hl6).mono hl7) (by omega) (by omega) (by omega) (fewC yc) w7 hC7 hck (fun r hr => (hci.row r hr).id) hci.kid kk DD hkk
     rw [e8] at hW
     dsimp only at hW
     obtain ⟨q2, q3⟩ := pd_split pl num (by omega) ⟨w7, fewC yc, yl % (1 + RS.length)⟩
     have hPl : (((pl.take num).map pdV).flatten).length = 0 + num * 4 := by rw [Xe pdV 4 _ (fun x _ => rfl), List.length_take]; omega
     have q4 : ZG (.slice (some ⟨pb, 0, none⟩) 64 64) ((pl.map pdV).flatten) [] 114 = [(pb, .cells ⟨((pl.take num).map pdV).flatten ++ (pdV pl[num] ++ (((pl.drop (num + 1)).map pdV).flatten ++ []))⟩ 114 (0, 0))] := by
      rw [q2]
      show [(pb, Obj.cells ⟨_ ++ []⟩ 114 (0, 0))] = _
      simp only [List.append_assoc]
     have q5 : [(pb, Obj.cells ⟨((pl.take num).map pdV).flatten ++ (.int .i64 yc.kind :: .slice w7.ra w7.rn w7.rc :: .slice w7.ka w7.kn w7.kc :: .int .u64 ((yl % (1 + RS.length) : Nat) : Int) :: (((pl.drop (num + 1)).map pdV).flatten ++ []))⟩ 114 (0, 0))] = ZG (.slice (some ⟨pb, 0, none⟩) 64 64) (((pl.set num ⟨w7, fewC yc, yl % (1 + RS.length)⟩).map pdV).flatten) [] 114 := by
      rw [q3]
      show _ = [(pb, Obj.cells ⟨_ ++ []⟩ 114 (0, 0))]
      simp only [List.append_assoc]
      rfl
     rw [q4]
     repeat' (first | refine zV ?_ | intro _)
     refine tpA [0,1,2] (.e 3 [] (.f [4,5] .o)) ([[(b14, .cells ⟨[.int .i64 num, .int .u64 yl, .int .i64 yc.kind, .slice yw.ra yw.rn yw.rc, .slice yw.ka yw.kn yw.kc]⟩ 217 (0, 0))]]) ?_
     repeat' (refine iT ?_; first | refine rA ?_ | ((refine iE ?_; refine rE ?_) <;> ((try refine Zn ?_); (first | (refine Zb (.func 26) ?_; refine qR rfl rfl (hN7) ?_; try simp only [kA]) | (refine Yj ?_; try intro _)) <;> ((try simp only [kA]); refine Zi ?_; refine rN ?_))))
     rw [htm]
     repeat' (first | (refine Zb (.func 119) ?_; refine qC rfl rfl hW ?_; rintro v8 ρ8 L8 hle8 ⟨rfl, hl8, k8, hk8, rfl⟩; try simp only [kA, List.append_assoc]) | refine zV ?_ | intro _)
     refine tpA [0,1,2,3,4,5,6,7,8,9] (.e 10 [] .o) ([stdC sb db lb fb vr (.slice (some ⟨pb, 0, none⟩) 64 64), [(b14, .cells ⟨[.int .i64 num, .int .u64 yl, .int .i64 yc.kind, .slice yw.ra yw.rn yw.rc, .slice yw.ka yw.kn yw.kc]⟩ 217 (0, 0))], [(b15, .cells ⟨Xo yc.kind w7⟩ 112 (0, 0))]]) ?_
     repeat' (refine iT ?_; first | refine rAb ?_ | ((refine iE ?_; refine rE ?_) <;> ((try refine Zn ?_); (first | (refine tl_store_midA (P := ((pl.take num).map pdV).flatten) (l := pdV pl[num]) rfl rfl hPl rfl rfl rfl ?_) | (refine Yj ?_; try intro _)) <;> ((try simp only [kA]); refine Zi ?_; refine rN ?_))))
     repeat' (first | refine zV ?_ | intro _)
     rw [q5]
     have hmc' : ∀ y ∈ pl.set num ⟨w7, fewC yc, yl % (1 + RS.length)⟩, CIn ρ8 y.w y.c.rows y.c.kids := fun y hy => by
      rcases List.mem_or_eq_of_mem_set hy with hy | rfl
      ·exact (hpc y hy).mono (Hp.le_trans hl7 hl8)
      ·exact hC7.mono hl8
     have hme' : ∀ q (h : q < (pl.set num ⟨w7, fewC yc, yl % (1 + RS.length)⟩).length), (((pl.set num ⟨w7, fewC yc, yl % (1 + RS.length)⟩)[q]).c, ((pl.set num ⟨w7, fewC yc, yl % (1 + RS.length)⟩)[q]).lsn) = upd held num (fewC yc, yl % (1 + RS.length)) q := fun q hq => by
      rw [List.getElem_set]
      unfold upd
      split
      ·rename_i e; rw [if_pos e.symm]
      ·rename_i e; rw [if_neg (fun h => e h.symm)]; exact hpe q (by simpa using hq)
     have hft' : ∀ q, Fit (upd held num (fewC yc, yl % (1 + RS.length)) q).1 ∧ (upd held num (fewC yc, yl % (1 + RS.length)) q).2 ≤ RS.length := fun q => by
      unfold upd
      split
      ·exact ⟨hfit2, by dsimp only; omega⟩
      ·exact hft q
     refine Zf (j + 1, ρ8, k8, D8, t + 1, upd held num (fewC yc, yl % (1 + RS.length)), pl.set num ⟨w7, fewC yc, yl % (1 + RS.length)⟩) (⟨hjt, by dsimp only; omega, Hp.le_trans hl67 hl8, hk8, hfo8, hca8, by simpa using hpl, hmc', hme', hft'⟩) Zc Zc rfl tk inferInstance (by first | omega | (dsimp only; omega))
   ·rcases (show 8 ≤ j ∨ (j < 8 ∧ yn < 0) ∨ (j < 8 ∧ 0 ≤ yn ∧ 64 ≤ yn) by omega) with g | ⟨g, g1⟩ | ⟨g, g1, g3⟩
    all_goals (repeat' (first | (refine Zb (.func 117) ?_; refine qC rfl rfl hct ?_; rintro v7 ρ7 L7 hle7 ⟨hl7, w7, rfl, hC7, rfl⟩; try simp only [kA]) | refine zV ?_ | intro _))
    all_goals refine Zf (j + 1, ρ7, kk, DD, t, held, pl) (⟨hjt, by dsimp only; omega, Hp.le_trans hl6 hl7, hkk, hfo6, hca6, hpl, fun y hy => (hpc y hy).mono hl7, hpe, hft⟩) Zc Zc rfl tk inferInstance (by first | omega | (dsimp only; omega))
  ·have hown6 : OwnS (.slice (some ⟨pb, 0, none⟩) 64 64) 64 ((pl.map pdV).flatten) [] 4 := ⟨.inr ⟨pb, 64, rfl, by rw [Xe pdV 4 _ (fun x _ => rfl), hpl], by rw [Xe pdV 4 _ (fun x _ => rfl), hpl]; rfl, Nat.le_refl _⟩⟩
   repeat' (first | refine zV ?_ | intro _)
   refine YG (ZG vr (Wi RS) sr 39) (fun ρ7 hl7 hz7 => ?_)
   refine YG (ZG (.slice (some ⟨pb, 0, none⟩) 64 64) ((pl.map pdV).flatten) [] 114) (fun ρ8 hl8 hz8 => ?_)
   obtain ⟨ra, rc, rfl, hrc, hRA⟩ := hown.aIn (g := rrV) (l := RS) rfl (fun _ _ => rfl) hz7
   obtain ⟨pa, pc, e9, hpcap, hPA⟩ := hown6.aIn hpl (fun _ _ => rfl) hz8
   cases e9
   have hl68 := Hp.le_trans hl7 hl8
   have hl58 := Hp.le_trans hl6 hl68
   have hrin3 := (hlgS.mono hl58).rin
   have hrecs : S.recs = RS := by rw [hS]; rfl
   rw [hrecs] at hrin3
   exact qE (L' := stdC sb db lb fb (.slice ra RS.length rc) (.slice (some ⟨pb, 0, none⟩) 64 64) :: ZR lb rb S v :: Ya S v sp :: (Yw rb db S.R w3 ++ Zk db kk DD)) ⟨Hp.le_trans hl06 hl68, sb, db, lb, fb, rb, S, v, sp, w3, kk, DD, t, held, ra, rc, RS, some ⟨pb, 0, none⟩, 64, pl, rfl, ⟨hf5.mono hl58, hlgS.mono hl58, hr3.mono hl58, hkk, hfo6, hca6, by omega, hrecs, by rw [hS]; rfl, by rw [hS]; rfl, hmk, by omega, hrin3, hRA.mono hl8, hrc, ⟨hPA, hpcap, fun y hy => (hpc y hy).mono hl68, hpe⟩, fun q => (hft q).1, fun q => (hft q).2⟩, rfl⟩
end Go.Proofs.E
namespace Go.Proofs.E
open Go
set_option linter.unusedVariables false
set_option linter.unusedSimpArgs false
set_option linter.unusedSectionVars false
set_option maxRecDepth 4000
set_option maxHeartbeats 1000000
attribute [local irreducible] Yl TL TC TE Spec ZK R1 Hp.le EnvLe TS TR YS Zp TP QP
def pgZ : Pgs := fun _ => none
theorem mpZ {ρ : Hp} : MpIn ρ [] pgZ := ⟨(by intro e he; cases he), List.Pairwise.nil, fun _ => rfl, (by intro n g h; cases h)⟩
theorem Sees.zero (held : Nat → ZL) : Sees held (vw pgZ) held := ⟨fun n _ => by unfold Xn vw pgZ; simp⟩
theorem MdI.pq {ρ ρ' : Hp} {fb db : Nat} {S : LgS} {v : Value} {sp : List Value} {w : RW} {k : DK} {D : DS} {t : Nat} {held : Nat → ZL} {ra : Option Addr} {rc : Nat} {l : List RR} {pa : Option Addr} {pc : Nat} {pl : List PgD} (h : MdI ρ fb db S v sp w k D t held ra rc l pa pc pl) (hl : ρ.le ρ') {pb lb mb : Nat} (hp : PoIn ρ' pb fb lb mb) : PqI ρ' pb fb lb mb db t pgZ [] k D held held :=
 ⟨hp, h.fi.mono hl, mpZ, h.dk, h.fo, h.calm.lv, Sees.zero held⟩
theorem MdI.rcs {ρ ρ' : Hp} {fb db : Nat} {S : LgS} {v : Value} {sp : List Value} {w : RW} {k : DK} {D : DS} {t : Nat} {held : Nat → ZL} {ra : Option Addr} {rc : Nat} {l : List RR} {pa : Option Addr} {pc : Nat} {pl : List PgD} (h : MdI ρ fb db S v sp w k D t held ra rc l pa pc pl) (hl : ρ.le ρ') : RcsIn ρ' S ra l.length rc l :=
 ⟨h.at'.mono hl, h.cap, by have := h.few; omega, fun x hx => (h.rin x hx).mono hl, h.mo.ok, recF_mem h.recs h.mo⟩
end Go.Proofs.E
namespace Go.Proofs.E
open Go Go.RowKit
set_option linter.unusedVariables false
set_option linter.unusedSimpArgs false
set_option linter.unusedSectionVars false
set_option maxRecDepth 8000
theorem rsw_flat {α : Type} {sz : Nat} {g : α → List Value} {C : List Value} {off : Nat} : ∀ (l : List α) (k : Nat), k ≤ l.length → (∀ i (h : i < l.length), (C.drop (off + i * sz)).take sz = g l[i]) → (C.drop off).take (k * sz) = ((l.take k).map g).flatten
 | l, 0, _, _ => by simp
 | l, k + 1, hk, h => by
  have ih := rsw_flat l k (by omega) h
  rw [show l.take (k + 1) = l.take k ++ [l[k]'(by omega)] from List.take_succ_eq_append_getElem (by omega), Nat.add_mul, Nat.one_mul, List.take_add, ih, List.drop_drop, h k (by omega)]
  simp only [List.map_append, List.flatten_append, List.map_cons, List.map_nil, List.flatten_cons, List.flatten_nil, List.append_nil]
theorem aIn_ofW {ρ : Hp} {α : Type} {sz : Nat} {g : α → List Value} {P : α → Prop} {cs : List Value} {s : Option Addr × Nat × Nat × List α} (hg : ∀ x, (g x).length = sz) (h : RS ρ sz (fun cs x => cs = g x ∧ P x) cs s) : AIn ρ sz g s.1 s.2.1 s.2.2.2 ∧ (∀ x ∈ s.2.2.2, P x) ∧ s.2.1 ≤ s.2.2.1 ∧ s.2.1 ≤ 9223372036854775807 := by
 obtain ⟨a, n, c, ks⟩ := s
 obtain ⟨h1, h2, h3, h4, h5⟩ := h
 dsimp only at h1 h2 h3 h4 h5 ⊢
 refine ⟨⟨h4, ?_, fun x _ => hg x⟩, fun x hx => ?_, h2, by omega⟩
 ·by_cases h0 : n = 0
  ·exact .inl h0
  ·right
   obtain ⟨b, off, C, T, fr, e1, e2, e3, e4⟩ := h5 0 (by omega)
   have same : ∀ i (h : i < ks.length), off + i * sz + sz ≤ C.length ∧ (C.drop (off + i * sz)).take sz = g ks[i] := fun i hi => by
    obtain ⟨b', off', C', T', fr', f1, f2, f3, f4⟩ := h5 i hi
    rw [e1] at f1
    cases f1
    rw [e2] at f2
    cases f2
    exact ⟨f3, f4.1⟩
   refine ⟨b, off, C, T, fr, e1, e2, ?_, ?_⟩
   ·have := (same (n - 1) (by omega)).1
    have e : n * sz = (n - 1) * sz + sz := by
     obtain ⟨m, rfl⟩ : ∃ m, n = m + 1 := ⟨n - 1, by omega⟩
     rw [Nat.add_mul]; simp
    omega
   ·have := rsw_flat (sz := sz) (g := g) ks n (by omega) (fun i hi => (same i hi).2)
    rw [this, List.take_of_length_le (by omega)]
 ·obtain ⟨i, hi, rfl⟩ := List.mem_iff_getElem.1 hx
  obtain ⟨_, _, _, _, _, _, _, _, f⟩ := h5 i hi
  exact f.2
section
variable {H : Type} {enc : TypeId × Value → H} {w : World}
theorem opnS_str : OpnS enc Tryz.prog w 9 (fun cs (l : List UInt8) => cs = [strV l]) := Opn.sized (fun fuel cs x h => by
 obtain ⟨s, rfl, _, _⟩ := DataW.trod_string Tryz.underlying9 h
 obtain ⟨⟨l⟩⟩ := s
 exact ⟨l, rfl⟩)
theorem opnS_key : OpnS enc Tryz.prog w 169 (fun cs (k : Int × Nat) => cs = keyV k.1 k.2 ∧ k.2 < 65536) := Opn.sized (fun fuel cs x h => by
 obtain ⟨hl, hf⟩ := opn_fields Tryz.underlying169 h
 have hl : cs.length = 2 := by rw [hl]; kernel_rfl
 obtain ⟨c0, c1, rfl⟩ : ∃ c0 c1, cs = [c0, c1] := by
  match cs, hl with
  | [c0, c1], _ => exact ⟨c0, c1, rfl⟩
 obtain ⟨t, h0, _⟩ := opn_field h Tryz.underlying169 0 0 1 rfl rfl rfl (by kernel_rfl) (YM Tryz.underlying3)
 obtain ⟨i, h1, i0, i1⟩ := opn_field h Tryz.underlying169 1 1 1 rfl rfl rfl (by kernel_rfl) (YM Tryz.underlying167)
 simp only [List.drop_zero, List.drop_succ_cons, List.take_succ_cons, List.take_zero, List.cons.injEq, and_true] at h0 h1
 subst h0; subst h1
 simp only [lo, hi] at i0 i1
 refine ⟨(t, i.toNat), ?_, by dsimp only; omega⟩
 have : ((i.toNat : Nat) : Int) = i := by omega
 simp only [keyV, this])
theorem opnS_row : OpnS enc Tryz.prog w 171 (fun cs (r : Row) => cs = Yu r ∧ WU r) := fun fuel cs x h hw => by
 obtain ⟨hl, hf⟩ := Xb Tryz.underlying171 h hw
 have hl : cs.length = 4 := by rw [hl]; kernel_rfl
 obtain ⟨c0, c1, c2, c3, rfl⟩ : ∃ c0 c1 c2 c3, cs = [c0, c1, c2, c3] := by
  match cs, hl with
  | [c0, c1, c2, c3], _ => exact ⟨c0, c1, c2, c3, rfl⟩
 obtain ⟨⟨t, i⟩, h0, hi0⟩ := Zx h hw Tryz.underlying171 0 0 2 rfl rfl rfl (by kernel_rfl) opnS_key
 obtain ⟨v, h1, v0, v1⟩ := Zx h hw Tryz.underlying171 1 2 1 rfl rfl rfl (by kernel_rfl) (YM Tryz.underlying2).sized
 obtain ⟨s, h2⟩ := Zx h hw Tryz.underlying171 2 3 1 rfl rfl rfl (by kernel_rfl) opnS_str
 simp only [List.drop_zero, List.drop_succ_cons, List.take_succ_cons, List.take_zero, List.cons.injEq, and_true, keyV] at h0 h1 h2
 obtain ⟨rfl, rfl⟩ := h0
 subst h1; subst h2
 simp only [lo, hi] at v0 v1
 exact ⟨⟨t, i, v, s⟩, rfl, ⟨hi0, v0, v1⟩⟩
theorem opnS_kid : OpnS enc Tryz.prog w 238 (fun cs (k : Kid) => cs = Xj k ∧ k.id < 65536) := fun fuel cs x h hw => by
 obtain ⟨hl, hf⟩ := Xb Tryz.underlying238 h hw
 have hl : cs.length = 3 := by rw [hl]; kernel_rfl
 obtain ⟨c0, c1, c2, rfl⟩ : ∃ c0 c1 c2, cs = [c0, c1, c2] := by
  match cs, hl with
  | [c0, c1, c2], _ => exact ⟨c0, c1, c2, rfl⟩
 obtain ⟨⟨t, i⟩, h0, hi0⟩ := Zx h hw Tryz.underlying238 0 0 2 rfl rfl rfl (by kernel_rfl) opnS_key
 obtain ⟨v, h1, _⟩ := Zx h hw Tryz.underlying238 1 2 1 rfl rfl rfl (by kernel_rfl) (YM Tryz.underlying3).sized
 simp only [List.drop_zero, List.drop_succ_cons, List.take_succ_cons, List.take_zero, List.cons.injEq, and_true, keyV] at h0 h1
 obtain ⟨rfl, rfl⟩ := h0
 subst h1
 exact ⟨⟨t, i, v⟩, rfl, hi0⟩
theorem opnS_cont : OpnS enc Tryz.prog w 112 (fun cs (x : CV × Yi) => cs = Xo x.2.kind x.1 ∧ CW (hpOf w) x.1 x.2) := fun fuel cs x h hw => by
 obtain ⟨hl, hf⟩ := Xb Tryz.underlying112 h hw
 have hl : cs.length = 3 := by rw [hl]; kernel_rfl
 obtain ⟨c0, c1, c2, rfl⟩ : ∃ c0 c1 c2, cs = [c0, c1, c2] := by
  match cs, hl with
  | [c0, c1, c2], _ => exact ⟨c0, c1, c2, rfl⟩
 obtain ⟨k, h0, _⟩ := Zx h hw Tryz.underlying112 0 0 1 rfl rfl rfl (by kernel_rfl) (YM Tryz.underlying3).sized
 obtain ⟨⟨ra, rn, rc, rows⟩, h1, w1⟩ := Zx h hw Tryz.underlying112 1 1 1 rfl rfl rfl (by kernel_rfl) (XX (sz := 4) (by' := 40) Tryz.underlying109 (by kernel_rfl) (by decide) (by kernel_rfl) opnS_row)
 obtain ⟨⟨ka, kn, kc, kids⟩, h2, w2⟩ := Zx h hw Tryz.underlying112 2 2 1 rfl rfl rfl (by kernel_rfl) (XX (sz := 3) (by' := 24) Tryz.underlying110 (by kernel_rfl) (by decide) (by kernel_rfl) opnS_kid)
 obtain ⟨g1, g2, g3, _⟩ := aIn_ofW rowV_len h1
 obtain ⟨k1, k2, k3, _⟩ := aIn_ofW kidV_len h2
 simp only [reachBytes] at w1 w2
 replace h1 := h1.cells
 replace h2 := h2.cells
 simp only [List.drop_zero, List.drop_succ_cons, List.take_succ_cons, List.take_zero, List.cons.injEq, and_true] at h0 h1 h2
 subst h0; subst h1; subst h2
 exact ⟨(⟨ra, rn, rc, ka, kn, kc⟩, ⟨k, rows, kids⟩), rfl, ⟨g1, k1, by dsimp only; omega, by dsimp only; omega, g3, k3, g2, k2⟩⟩
theorem opnS_image : OpnS enc Tryz.prog w 165 (fun cs (x : Im) => cs = imV x ∧ (CW (hpOf w) x.bv x.b ∧ CW (hpOf w) x.av x.a)) := fun fuel cs x h hw => by
 obtain ⟨hl, hf⟩ := Xb Tryz.underlying165 h hw
 have hl : cs.length = 7 := by rw [hl]; kernel_rfl
 obtain ⟨c0, c1, c2, c3, c4, c5, c6, rfl⟩ : ∃ c0 c1 c2 c3 c4 c5 c6, cs = [c0, c1, c2, c3, c4, c5, c6] := by
  match cs, hl with
  | [c0, c1, c2, c3, c4, c5, c6], _ => exact ⟨c0, c1, c2, c3, c4, c5, c6, rfl⟩
 obtain ⟨k, h0, _⟩ := Zx h hw Tryz.underlying165 0 0 1 rfl rfl rfl (by kernel_rfl) (YM Tryz.underlying3).sized
 obtain ⟨⟨bv, b⟩, h1, w1⟩ := Zx h hw Tryz.underlying165 1 1 3 rfl rfl rfl (by kernel_rfl) opnS_cont
 obtain ⟨⟨av, a⟩, h2, w2⟩ := Zx h hw Tryz.underlying165 2 4 3 rfl rfl rfl (by kernel_rfl) opnS_cont
 simp only [List.drop_zero, List.drop_succ_cons, List.take_succ_cons, List.take_zero, List.cons.injEq, and_true, Xo] at h0 h1 h2
 obtain ⟨rfl, rfl, rfl⟩ := h1
 obtain ⟨rfl, rfl, rfl⟩ := h2
 subst h0
 exact ⟨⟨k, bv, b, av, a⟩, rfl, w1, w2⟩
theorem opnS_step : OpnS enc Tryz.prog w 173 (fun cs (x : Stp) => cs = stpV x ∧ WU x.row) := fun fuel cs x h hw => by
 obtain ⟨hl, hf⟩ := Xb Tryz.underlying173 h hw
 have hl : cs.length = 6 := by rw [hl]; kernel_rfl
 obtain ⟨c0, c1, c2, c3, c4, c5, rfl⟩ : ∃ c0 c1 c2 c3 c4 c5, cs = [c0, c1, c2, c3, c4, c5] := by
  match cs, hl with
  | [c0, c1, c2, c3, c4, c5], _ => exact ⟨c0, c1, c2, c3, c4, c5, rfl⟩
 obtain ⟨k, h0, _⟩ := Zx h hw Tryz.underlying173 0 0 1 rfl rfl rfl (by kernel_rfl) (YM Tryz.underlying3).sized
 obtain ⟨r, h1, w1⟩ := Zx h hw Tryz.underlying173 1 1 4 rfl rfl rfl (by kernel_rfl) opnS_row
 obtain ⟨b, h2, _⟩ := Zx h hw Tryz.underlying173 2 5 1 rfl rfl rfl (by kernel_rfl) (YM Tryz.underlying2).sized
 simp only [List.drop_zero, List.drop_succ_cons, List.take_succ_cons, List.take_zero, List.cons.injEq, and_true, Yu] at h0 h1 h2
 obtain ⟨rfl, rfl, rfl, rfl⟩ := h1
 subst h0; subst h2
 exact ⟨⟨k, r, b⟩, rfl, w1⟩
theorem u64_back {i : Int} (h : lo .u64 ≤ i) : ((i.toNat : Nat) : Int) = i := by simp only [lo] at h; omega
theorem opnS_ckt : OpnS enc Tryz.prog w 187 (fun cs (x : CkT) => cs = ckTV x ∧ True) := fun fuel cs x h hw => by
 obtain ⟨hl, hf⟩ := Xb Tryz.underlying187 h hw
 have hl : cs.length = 5 := by rw [hl]; kernel_rfl
 obtain ⟨c0, c1, c2, c3, c4, rfl⟩ : ∃ c0 c1 c2 c3 c4, cs = [c0, c1, c2, c3, c4] := by
  match cs, hl with
  | [c0, c1, c2, c3, c4], _ => exact ⟨c0, c1, c2, c3, c4, rfl⟩
 obtain ⟨k, h0, _⟩ := Zx h hw Tryz.underlying187 0 0 1 rfl rfl rfl (by kernel_rfl) (YM Tryz.underlying3).sized
 obtain ⟨f, h1, f0, f1⟩ := Zx h hw Tryz.underlying187 1 1 1 rfl rfl rfl (by kernel_rfl) (YM Tryz.underlying33).sized
 obtain ⟨l, h2, l0, l1⟩ := Zx h hw Tryz.underlying187 2 2 1 rfl rfl rfl (by kernel_rfl) (YM Tryz.underlying33).sized
 obtain ⟨u, h3, u0, u1⟩ := Zx h hw Tryz.underlying187 3 3 1 rfl rfl rfl (by kernel_rfl) (YM Tryz.underlying33).sized
 obtain ⟨s, h4, _⟩ := Zx h hw Tryz.underlying187 4 4 1 rfl rfl rfl (by kernel_rfl) (YM Tryz.underlying3).sized
 simp only [List.drop_zero, List.drop_succ_cons, List.take_succ_cons, List.take_zero, List.cons.injEq, and_true] at h0 h1 h2 h3 h4
 subst h0; subst h1; subst h2; subst h3; subst h4
 refine ⟨⟨k, f.toNat, l.toNat, u.toNat, s⟩, ?_, trivial⟩
 simp only [ckTV, u64_back f0, u64_back l0, u64_back u0]
theorem opnS_ckp : OpnS enc Tryz.prog w 108 (fun cs (x : CkP) => cs = YN x ∧ True) := fun fuel cs x h hw => by
 obtain ⟨hl, hf⟩ := Xb Tryz.underlying108 h hw
 have hl : cs.length = 2 := by rw [hl]; kernel_rfl
 obtain ⟨c0, c1, rfl⟩ : ∃ c0 c1, cs = [c0, c1] := by
  match cs, hl with
  | [c0, c1], _ => exact ⟨c0, c1, rfl⟩
 obtain ⟨k, h0, _⟩ := Zx h hw Tryz.underlying108 0 0 1 rfl rfl rfl (by kernel_rfl) (YM Tryz.underlying3).sized
 obtain ⟨f, h1, f0, f1⟩ := Zx h hw Tryz.underlying108 1 1 1 rfl rfl rfl (by kernel_rfl) (YM Tryz.underlying33).sized
 simp only [List.drop_zero, List.drop_succ_cons, List.take_succ_cons, List.take_zero, List.cons.injEq, and_true] at h0 h1
 subst h0; subst h1
 refine ⟨⟨k, f.toNat⟩, ?_, trivial⟩
 simp only [YN, u64_back f0]
theorem opnS_rec : OpnS enc Tryz.prog w 39 (fun cs (x : RV × Rc) => cs = Xw x.1 x.2 ∧ RcW (hpOf w) x.1 x.2) := fun fuel cs x h hw => by
 obtain ⟨hl, hf⟩ := Xb Tryz.underlying39 h hw
 have hl : cs.length = 10 := by rw [hl]; kernel_rfl
 obtain ⟨c0, c1, c2, c3, c4, c5, c6, c7, c8, c9, rfl⟩ : ∃ c0 c1 c2 c3 c4 c5 c6 c7 c8 c9, cs = [c0, c1, c2, c3, c4, c5, c6, c7, c8, c9] := by
  match cs, hl with
  | [c0, c1, c2, c3, c4, c5, c6, c7, c8, c9], _ => exact ⟨c0, c1, c2, c3, c4, c5, c6, c7, c8, c9, rfl⟩
 obtain ⟨k, h0, _⟩ := Zx h hw Tryz.underlying39 0 0 1 rfl rfl rfl (by kernel_rfl) (YM Tryz.underlying3).sized
 obtain ⟨l, h1, l0, _⟩ := Zx h hw Tryz.underlying39 1 1 1 rfl rfl rfl (by kernel_rfl) (YM Tryz.underlying33).sized
 obtain ⟨t, h2, _⟩ := Zx h hw Tryz.underlying39 2 2 1 rfl rfl rfl (by kernel_rfl) (YM Tryz.underlying3).sized
 obtain ⟨p, h3, p0, _⟩ := Zx h hw Tryz.underlying39 3 3 1 rfl rfl rfl (by kernel_rfl) (YM Tryz.underlying33).sized
 obtain ⟨n, h4, n0, _⟩ := Zx h hw Tryz.underlying39 4 4 1 rfl rfl rfl (by kernel_rfl) (YM Tryz.underlying33).sized
 obtain ⟨⟨ia, inn, ic, ims⟩, h5, w5⟩ := Zx h hw Tryz.underlying39 5 5 1 rfl rfl rfl (by kernel_rfl) (XX (sz := 7) (by' := 120) Tryz.underlying34 (by kernel_rfl) (by decide) (by kernel_rfl) opnS_image)
 obtain ⟨⟨sa, sn, sc, steps⟩, h6, w6⟩ := Zx h hw Tryz.underlying39 6 6 1 rfl rfl rfl (by kernel_rfl) (XX (sz := 6) (by' := 56) Tryz.underlying35 (by kernel_rfl) (by decide) (by kernel_rfl) opnS_step)
 obtain ⟨x7, h7, _⟩ := Zx h hw Tryz.underlying39 7 7 1 rfl rfl rfl (by kernel_rfl) (YM Tryz.underlying3).sized
 obtain ⟨⟨ta, tn, tc, txns⟩, h8, w8⟩ := Zx h hw Tryz.underlying39 8 8 1 rfl rfl rfl (by kernel_rfl) (XX (sz := 5) (by' := 40) Tryz.underlying36 (by kernel_rfl) (by decide) (by kernel_rfl) opnS_ckt)
 obtain ⟨⟨da, dn, dc, dirty⟩, h9, w9⟩ := Zx h hw Tryz.underlying39 9 9 1 rfl rfl rfl (by kernel_rfl) (XX (sz := 2) (by' := 16) Tryz.underlying37 (by kernel_rfl) (by decide) (by kernel_rfl) opnS_ckp)
 obtain ⟨i1, i2, i3, _⟩ := aIn_ofW imV_len h5
 obtain ⟨s1, s2, s3, _⟩ := aIn_ofW stpV_len h6
 obtain ⟨t1, t2, t3, _⟩ := aIn_ofW ckTV_len h8
 obtain ⟨d1, d2, d3, _⟩ := aIn_ofW ckPV_len h9
 simp only [reachBytes] at w5 w6 w8 w9
 replace h5 := h5.cells
 replace h6 := h6.cells
 replace h8 := h8.cells
 replace h9 := h9.cells
 simp only [List.drop_zero, List.drop_succ_cons, List.take_succ_cons, List.take_zero, List.cons.injEq, and_true] at h0 h1 h2 h3 h4 h5 h6 h7 h8 h9
 subst h0; subst h1; subst h2; subst h3; subst h4; subst h5; subst h6; subst h7; subst h8; subst h9
 refine ⟨(⟨⟨ia, inn, ic⟩, ⟨sa, sn, sc⟩, ⟨ta, tn, tc⟩, ⟨da, dn, dc⟩⟩, ⟨k, l.toNat, t, p.toNat, n.toNat, ims, steps, x7, txns, dirty⟩), ?_, ⟨⟨i1, by dsimp only; omega, i3⟩, i2, ⟨s1, by dsimp only; omega, s3⟩, ⟨t1, by dsimp only; omega, t3⟩, ⟨d1, by dsimp only; omega, d3⟩, s2⟩⟩
 simp only [Xw, u64_back l0, u64_back p0, u64_back n0]
end
section
variable {H : Type} {enc : TypeId × Value → H} {w : World}
theorem opnS_page24 : OpnS enc Tryz.prog w 217 (fun cs (x : PgA) => cs = paV x ∧ PaI (hpOf w) x) := fun fuel cs x h hw => by
 obtain ⟨hl, hf⟩ := Xb Tryz.underlying217 h hw
 have hl : cs.length = 5 := by rw [hl]; kernel_rfl
 obtain ⟨c0, c1, c2, c3, c4, rfl⟩ : ∃ c0 c1 c2 c3 c4, cs = [c0, c1, c2, c3, c4] := by
  match cs, hl with
  | [c0, c1, c2, c3, c4], _ => exact ⟨c0, c1, c2, c3, c4, rfl⟩
 obtain ⟨p, h0, p0, p1⟩ := Zx h hw Tryz.underlying217 0 0 1 rfl rfl rfl (by kernel_rfl) (YM Tryz.underlying3).sized
 obtain ⟨l, h1, l0, l1⟩ := Zx h hw Tryz.underlying217 1 1 1 rfl rfl rfl (by kernel_rfl) (YM Tryz.underlying33).sized
 obtain ⟨⟨bv, b⟩, h2, w2⟩ := Zx h hw Tryz.underlying217 2 2 3 rfl rfl rfl (by kernel_rfl) opnS_cont
 simp only [List.drop_zero, List.drop_succ_cons, List.take_succ_cons, List.take_zero, List.cons.injEq, and_true, Xo] at h0 h1 h2
 obtain ⟨g0, g1, g2⟩ := h2
 have l2 := l0
 have l3 := l1
 simp only [lo, hi] at p0 p1 l2 l3
 subst h0; subst h1; subst g0; subst g1; subst g2
 refine ⟨⟨p, l.toNat, bv, b⟩, ?_, ⟨⟨p0, p1⟩, by dsimp only; omega, w2⟩⟩
 simp only [paV, u64_back l0]
theorem opnS_start24 : OpnS enc Tryz.prog w 75 (fun cs (x : StA) => cs = stA x ∧ StI (hpOf w) x) := fun fuel cs x h hw => by
 obtain ⟨hl, hf⟩ := Xb Tryz.underlying75 h hw
 have hl : cs.length = 2 := by rw [hl]; kernel_rfl
 obtain ⟨c0, c1, rfl⟩ : ∃ c0 c1, cs = [c0, c1] := by
  match cs, hl with
  | [c0, c1], _ => exact ⟨c0, c1, rfl⟩
 obtain ⟨⟨ra, rn, rc, rl⟩, h0, _⟩ := Zx h hw Tryz.underlying75 0 0 1 rfl rfl rfl (by kernel_rfl) (XX (sz := 10) (by' := 144) Tryz.underlying23 (by kernel_rfl) (by decide) (by kernel_rfl) opnS_rec)
 obtain ⟨⟨pa, pn, pc, pl⟩, h1, _⟩ := Zx h hw Tryz.underlying75 1 1 1 rfl rfl rfl (by kernel_rfl) (XX (sz := 5) (by' := 72) Tryz.underlying73 (by kernel_rfl) (by decide) (by kernel_rfl) opnS_page24)
 obtain ⟨i1, i2, i3, i4⟩ := aIn_ofW (g := rrV) (fun _ => rfl) h0
 obtain ⟨s1, s2, s3, s4⟩ := aIn_ofW (g := paV) (fun _ => rfl) h1
 replace h0 := h0.cells
 replace h1 := h1.cells
 simp only [List.drop_zero, List.drop_succ_cons, List.take_succ_cons, List.take_zero, List.cons.injEq, and_true] at h0 h1
 subst h0; subst h1
 exact ⟨⟨ra, rn, rc, rl, pa, pn, pc, pl⟩, rfl, ⟨i1, i4, i2, s1, s4, s2⟩⟩
end
end Go.Proofs.E
namespace Go.Proofs.E
open Go
set_option linter.unusedVariables false
set_option linter.unusedSimpArgs false
set_option linter.unusedSectionVars false
set_option maxRecDepth 4000
set_option maxHeartbeats 1000000
attribute [local irreducible] Yl TL TC TE Spec ZK R1 Hp.le EnvLe TS TR YS Zp
theorem recP_cons {page : Int} {p : CkP} {r : List CkP} : recP page (p :: r) = if p.page = page then some p else recP page r := by
 unfold recP
 rw [List.find?_cons]
 by_cases h : p.page = page <;> simp [h]
theorem recP_low {l : List CkP} {last page : Int} (h : tblB last l = true) (hp : page ≤ last) : recP page l = none := by
 unfold recP
 rw [List.find?_eq_none]
 intro x hx
 obtain ⟨i, hi, rfl⟩ := List.mem_iff_getElem.1 hx
 have := ((tblB_lt h).1 i hi).1
 simp; omega
theorem recP_add {pg : Int} {lsn : Nat} {page : Int} : ∀ {l : List CkP} {last : Int}, tblB last l = true → recP page (addP pg lsn l) = if (recP page l).isSome then recP page l else if pg = page then some ⟨pg, lsn⟩ else none
 | [], _, _ => by
  rw [addP, recP_cons]
  by_cases h : pg = page <;> simp [h, recP]
 | p :: r, last, h => by
  rw [tblB, Bool.and_eq_true] at h
  rw [addP]
  split
  ·rename_i hlt
   rw [recP_cons, recP_cons]
   by_cases hp : p.page = page
   ·simp [hp]
   ·simp only [if_neg hp]; rw [recP_add h.2]
  ·split
   ·rename_i h1 h2
    rw [recP_cons]
    by_cases hp : p.page = page
    ·rw [if_pos hp]; rfl
    ·rw [if_neg hp]
     have : ¬ pg = page := fun e => hp (by omega)
     rw [if_neg this]
     cases hh : recP page r <;> rfl
   ·rename_i h1 h2
    rw [recP_cons]
    by_cases hp : pg = page
    ·subst hp
     rw [if_pos rfl, if_pos rfl]
     have : recP pg (p :: r) = none := by
      rw [recP_cons, if_neg h2]
      exact recP_low h.2 (by omega)
     rw [this]; rfl
    ·rw [if_neg hp, if_neg hp]
     cases hh : recP page (p :: r) <;> rfl
theorem touchI_tbl {lsn : Nat} (h1 : 1 ≤ lsn) (h2 : lsn ≤ 1099511627776) : ∀ {xs : List Im} {l : List CkP}, (∀ x ∈ xs, pageOk x.page = true) → Xh l = true →
  Xh (touchI lsn xs l) = true ∧ ∀ page, recP page (touchI lsn xs l) = if (recP page l).isSome then recP page l else if (xs.find? (fun x => decide (x.page = page))).isSome then some ⟨page, lsn⟩ else none
 | [], l, _, hl => by
  refine ⟨hl, fun page => ?_⟩
  rw [touchI]
  simp only [List.find?_nil, Option.isSome_none, Bool.false_eq_true, if_false]
  cases hh : recP page l <;> rfl
 | x :: r, l, hx, hl => by
  have hpx := hx x (by simp)
  unfold pageOk at hpx
  rw [decide_eq_true_eq] at hpx
  have ht : Xh (addP x.page lsn l) = true := addP_tbl hpx.2 h1 h2 (by omega) hl
  obtain ⟨g1, g2⟩ := touchI_tbl h1 h2 (xs := r) (fun y hy => hx y (by simp [hy])) ht
  refine ⟨g1, fun page => ?_⟩
  rw [touchI, g2 page, recP_add (last := -1) hl, List.find?_cons]
  cases hh : recP page l with
  | some p => rfl
  | none =>
   simp only [Option.isSome_none, Bool.false_eq_true, if_false]
   by_cases hp : x.page = page
   ·rw [decide_eq_true hp, if_pos hp]; subst hp; rfl
   ·rw [decide_eq_false hp, if_neg hp]; rfl
theorem recOk_touch {r : Rc} (hok : ZP r = true) : (1 ≤ r.lsn ∧ r.lsn ≤ 1099511627776) ∧ ∀ x ∈ r.ims, pageOk x.page = true := by
 unfold ZP at hok
 simp only [Bool.and_eq_true, decide_eq_true_eq] at hok
 obtain ⟨_, hh, ha, hb⟩ := hok
 unfold headOk at hh
 rw [decide_eq_true_eq] at hh
 refine ⟨⟨hh.1, hh.2.1⟩, fun x hx => ?_⟩
 have him : ∃ b, imsOk b r.ims = true := by
  unfold bareOk at hb
  rw [decide_eq_true_eq] at hb
  rcases hb.2.1 with h0 | h2 | h5
  ·rw [h0] at hx; cases hx
  ·unfold askOk at ha; rw [if_pos h2, Bool.and_eq_true] at ha; exact ⟨true, ha.2⟩
  ·unfold askOk at ha
   rw [if_neg (by omega), if_neg (by omega), if_neg (by omega), if_pos h5, Bool.and_eq_true] at ha; exact ⟨false, ha.2⟩
 obtain ⟨b, him⟩ := him
 unfold imsOk upB at him
 rw [Bool.and_eq_true] at him
 obtain ⟨j, hj, rfl⟩ := List.mem_iff_getElem.1 hx
 have := ((Wo him.2 (Nat.le_refl _)).2 j hj hj).1
 unfold imOk at this
 rw [Bool.and_eq_true] at this
 exact this.1
def nx (n : Nat) (r : Rc) (v : ZL) : ZL := match Xz r n with
 | some x => if v.2 < r.lsn then (x.a, r.lsn) else v
 | none => v
def run (n : Nat) (rs : List RR) (v : ZL) : ZL := rs.foldl (fun v x => nx n x.2 v) v
theorem run_snoc (n : Nat) (rs : List RR) (x : RR) (v : ZL) : run n (rs ++ [x]) v = nx n x.2 (run n rs v) := by unfold run; rw [List.foldl_append]; rfl
theorem run_add (n : Nat) (a b : List RR) (v : ZL) : run n (a ++ b) v = run n b (run n a v) := by unfold run; rw [List.foldl_append]
theorem nx_le (n : Nat) (r : Rc) (v : ZL) : v.2 ≤ (nx n r v).2 := by
 unfold nx
 cases Xz r n with
 | none => exact Nat.le_refl _
 | some x => dsimp only; split <;> (first | (dsimp only; omega) | exact Nat.le_refl _)
theorem nx_ge {n : Nat} {r : Rc} {v : ZL} (h : (Xz r n).isSome = true) : r.lsn ≤ (nx n r v).2 := by
 unfold nx
 cases hr : Xz r n with
 | none => rw [hr] at h; cases h
 | some x => dsimp only; split <;> (first | exact Nat.le_refl _ | omega)
theorem nx_noop {n : Nat} {r : Rc} {v : ZL} (h : (Xz r n).isSome = true → r.lsn ≤ v.2) : nx n r v = v := by
 unfold nx
 cases hr : Xz r n with
 | none => rfl
 | some x =>
  rw [hr] at h
  have := h rfl
  dsimp only
  rw [if_neg (by omega)]
theorem run_le (n : Nat) : ∀ (rs : List RR) (v : ZL), v.2 ≤ (run n rs v).2
 | [], v => Nat.le_refl _
 | x :: r, v => Nat.le_trans (nx_le n x.2 v) (run_le n r _)
theorem run_ge (n : Nat) : ∀ (rs : List RR) (v : ZL), ∀ x ∈ rs, (Xz x.2 n).isSome = true → x.2.lsn ≤ (run n rs v).2
 | y :: r, v, x, hx, h => by
  rcases List.mem_cons.1 hx with rfl | hx
  ·exact Nat.le_trans (nx_ge h) (run_le n r _)
  ·exact run_ge n r _ x hx h
theorem run_noop (n : Nat) : ∀ (rs : List RR) (v : ZL), (∀ x ∈ rs, (Xz x.2 n).isSome = true → x.2.lsn ≤ v.2) → run n rs v = v
 | [], v, _ => rfl
 | x :: r, v, h => by
  show run n r (nx n x.2 v) = v
  rw [nx_noop (h x (by simp))]
  exact run_noop n r v (fun y hy => h y (by simp [hy]))
theorem run_again (n : Nat) (rs : List RR) (v : ZL) {j m : Nat} (h : j ≤ m) : run n (rs.take m) (run n (rs.take j) v) = run n (rs.take m) v := by
 have e : rs.take m = rs.take j ++ (rs.take m).drop j := by
  conv => lhs; rw [← List.take_append_drop j (rs.take m), List.take_take, Nat.min_eq_left h]
 rw [e, run_add, run_add, run_noop n (rs.take j) _ (run_ge n (rs.take j) v)]
def lastI (n : Nat) (rs : List RR) : ZL := rs.foldl (fun w x => match Xz x.2 n with | some y => (y.a, x.2.lsn) | none => w) (ztC, 0)
theorem lastI_snoc (n : Nat) (rs : List RR) (x : RR) : lastI n (rs ++ [x]) = match Xz x.2 n with | some y => (y.a, x.2.lsn) | none => lastI n rs := by unfold lastI; rw [List.foldl_append]; rfl
theorem run_last (n : Nat) (v : ZL) (rs : List RR) (hl : ∀ i (h : i < rs.length), (rs[i]).2.lsn = 1 + i) : ∀ k, k ≤ rs.length → (lastI n (rs.take k)).2 ≤ k ∧ run n (rs.take k) v = if (lastI n (rs.take k)).2 ≤ v.2 then v else lastI n (rs.take k)
 | 0, _ => ⟨Nat.le_refl _, by rw [List.take_zero]; unfold run lastI; simp⟩
 | k + 1, hk => by
  obtain ⟨h1, h2⟩ := run_last n v rs hl k (by omega)
  have hx := hl k (by omega)
  have htk := List.take_succ_eq_append_getElem (show k < rs.length by omega)
  rw [htk, run_snoc, lastI_snoc, h2]
  cases hr : Xz (rs[k]).2 n with
  | none =>
   dsimp only
   exact ⟨by omega, by unfold nx; rw [hr]⟩
  | some y =>
   dsimp only
   refine ⟨by omega, ?_⟩
   unfold nx
   rw [hr]
   dsimp only
   split
   ·rename_i h3
    split
    ·rw [if_neg (by omega)]
    ·rw [if_pos (by omega)]
   ·rename_i h3
    rw [if_pos (by omega), if_neg (by omega)]
structure TabAll (d : List CkP) (rs : List RR) : Prop where
 tbl : Xh d = true
 has : ∀ x ∈ rs, ∀ n, (Xz x.2 n).isSome = true → needsB d x.2 n = true
theorem putS_at (lsn : Nat) (n : Nat) : ∀ (l : List Sh) (p : PgF), l.Pairwise (fun a b => a.page < b.page) → (∀ s ∈ l, 0 ≤ s.page) → putS lsn p l n = match l.find? (fun s => decide (s.page = (n : Int))) with | some s => (s.c, lsn) | none => p n
 | [], p, _, _ => rfl
 | s :: r, p, h, h0 => by
  rw [List.pairwise_cons] at h
  have hs0 := h0 s (by simp)
  show putS lsn (upd p s.page.toNat (s.c, lsn)) r n = _
  rw [putS_at lsn n r _ h.2 (fun x hx => h0 x (by simp [hx])), List.find?_cons]
  by_cases e : s.page = (n : Int)
  ·rw [decide_eq_true e]
   have hno : r.find? (fun s => decide (s.page = (n : Int))) = none := List.find?_eq_none.2 (fun x hx => by have := h.1 x hx; simp; omega)
   rw [hno]
   dsimp only
   unfold upd
   rw [if_pos (by omega)]
  ·rw [decide_eq_false e]
   cases r.find? (fun s => decide (s.page = (n : Int))) with
   | some _ => rfl
   | none => dsimp only; unfold upd; rw [if_neg (by omega)]
theorem find_filt {α : Type} (q p : α → Bool) (l : List α) : (l.filter q).find? p = l.find? (fun a => q a && p a) := by rw [List.find?_filter]; congr 1; funext a; simp
theorem stepP_nx {d : List CkP} {rs : List RR} (ht : TabAll d rs) {x : RR} (hx : x ∈ rs) (hr : ZP x.2 = true) (p : PgF) (n : Nat) : Wq d p x.2 n = nx n x.2 (p n) := by
 have hpw : (Xl p d x.2).Pairwise (fun a b => a.page < b.page) := by
  unfold Xl redoL Wv
  rw [List.pairwise_map]
  exact ((ims_up hr).filter _).filter _
 unfold Wq
 rw [putS_at x.2.lsn n _ p hpw (fun s hs => (redoS_page hr hs).1)]
 have e : (Xl p d x.2).find? (fun s => decide (s.page = (n : Int))) = if (p n).2 < x.2.lsn then (Xz x.2 n).map WF else none := by
  unfold Xl redoL Wv
  rw [List.find?_map, find_filt, find_filt]
  have hI : Xz x.2 (n : Int) = x.2.ims.find? (fun y => decide (y.page = (n : Int))) := by unfold Xz; rw [if_pos hr]
  by_cases hlt : (p n).2 < x.2.lsn
  ·rw [if_pos hlt, hI]
   congr 1
   cases hN : needsB d x.2 (n : Int) with
   | true =>
    congr 1
    funext y
    by_cases hy : y.page = (n : Int)
    ·simp [WF, hy, hN, hlt]
    ·simp [WF, hy]
   | false =>
    have hno : x.2.ims.find? (fun y => decide (y.page = (n : Int))) = none := by
     rw [← hI]
     cases hq : Xz x.2 (n : Int) with
     | none => rfl
     | some y => have := ht.has x hx n (by rw [hq]; rfl); rw [hN] at this; cases this
    rw [hno]
    refine List.find?_eq_none.2 (fun y hy => ?_)
    have := List.find?_eq_none.1 hno y hy
    simp only [decide_eq_true_eq] at this
    simp [WF, this]
  ·rw [if_neg hlt]
   have : x.2.ims.find? (fun a => needsB d x.2 a.page && (decide ((p a.page.toNat).2 < x.2.lsn) && (fun s : Sh => decide (s.page = (n : Int))) (WF a))) = none := by
    refine List.find?_eq_none.2 (fun y hy => ?_)
    by_cases hy2 : y.page = (n : Int)
    ·simp [WF, hy2, hlt]
    ·simp [WF, hy2]
   exact congrArg (Option.map WF) this
 rw [e]
 unfold nx
 cases hq : Xz x.2 (n : Int) with
 | none => simp
 | some y =>
  by_cases hlt : (p n).2 < x.2.lsn
  ·rw [if_pos hlt]; simp [hlt, WF]
  ·rw [if_neg hlt]; simp [hlt]
theorem allP_run {d : List CkP} {rs : List RR} (ht : TabAll d rs) (hr : ∀ x ∈ rs, ZP x.2 = true) (n : Nat) : ∀ (l : List RR) (p : PgF), (∀ x ∈ l, x ∈ rs) → allP d p l n = run n l (p n)
 | [], p, _ => rfl
 | x :: l, p, h => by
  show allP d (Wq d p x.2) l n = run n l (nx n x.2 (p n))
  rw [allP_run ht hr n l _ (fun y hy => h y (by simp [hy])), stepP_nx ht (h x (by simp)) (hr x (h x (by simp)))]
theorem redo_twice {d : List CkP} {rs : List RR} (ht : TabAll d rs) {x : RR} (hx : x ∈ rs) (hr : ZP x.2 = true) (p : PgF) : Xl (Wq d p x.2) d x.2 = [] := by
 refine List.eq_nil_iff_forall_not_mem.2 (fun s hs => ?_)
 obtain ⟨y, hy, rfl, hlt, hn⟩ := redoS_in hs
 have h0 := (redoS_page hr hs).1
 rw [stepP_nx ht hx hr] at hlt
 have hI : (Xz x.2 (y.page.toNat : Int)).isSome = true := by
  unfold needsB at hn
  rw [Bool.and_eq_true] at hn
  have h0 : 0 ≤ y.page := h0
  rw [Int.toNat_of_nonneg h0]
  exact hn.1
 have := nx_ge (v := p y.page.toNat) hI
 omega
theorem touch_rec24 {l : List CkP} {r : Rc} (ht : Xh l = true) (hr : ZP r = true) : Xh (touchP r l) = true ∧ ∀ page, recP page (touchP r l) = if (recP page l).isSome then recP page l else if (r.ims.find? (fun x => decide (x.page = page))).isSome then some ⟨page, r.lsn⟩ else none := by
 obtain ⟨⟨h1, h2⟩, hpg⟩ := recOk_touch hr
 exact touchI_tbl h1 h2 hpg ht
def tabL (rs : List RR) : List CkP := rs.foldl (fun d x => touchP x.2 d) []
theorem tabL_snoc (rs : List RR) (x : RR) : tabL (rs ++ [x]) = touchP x.2 (tabL rs) := by unfold tabL; rw [List.foldl_append]; rfl
theorem tabL_ok (rs : List RR) (hr : ∀ x ∈ rs, ZP x.2 = true) (hl : ∀ i (h : i < rs.length), (rs[i]).2.lsn = 1 + i) : ∀ k, k ≤ rs.length → Xh (tabL (rs.take k)) = true ∧ (tabL (rs.take k)).length ≤ 16 * k ∧ (∀ p q, recP p (tabL (rs.take k)) = some q → q.since ≤ k) ∧ ∀ x ∈ rs.take k, ∀ n : Int, (Xz x.2 n).isSome = true → ∃ q, recP n (tabL (rs.take k)) = some q ∧ q.since ≤ x.2.lsn
 | 0, _ => by
  rw [List.take_zero]
  exact ⟨by decide, Nat.zero_le _, fun p q h => by simp [tabL, recP] at h, by simp⟩
 | k + 1, hk => by
  obtain ⟨h1, h2, h3, h4⟩ := tabL_ok rs hr hl k (by omega)
  have htk := List.take_succ_eq_append_getElem (show k < rs.length by omega)
  have hxr := hr _ (List.getElem_mem (show k < rs.length by omega))
  have hxl := hl k (by omega)
  rw [htk, tabL_snoc]
  generalize rs[k] = x at *
  obtain ⟨t1, t2⟩ := touch_rec24 h1 hxr
  have hlen := touchI_len (lsn := x.2.lsn) (xs := x.2.ims) (l := tabL (rs.take k))
  have hil := (Xy hxr).il
  refine ⟨t1, by unfold touchP; omega, fun p q h => ?_, fun y hy n hn => ?_⟩
  ·rw [t2] at h
   split at h
   ·have := h3 p q h; omega
   ·split at h
    ·cases h; dsimp only; omega
    ·cases h
  ·rw [t2]
   rcases List.mem_append.1 hy with hy | hy
   ·obtain ⟨q, hq, hs⟩ := h4 y hy n hn
    rw [hq]
    exact ⟨q, rfl, hs⟩
   ·rw [List.mem_singleton.1 hy] at hn ⊢
    cases hp : recP n (tabL (rs.take k)) with
    | some q => exact ⟨q, rfl, by have := h3 n q hp; omega⟩
    | none =>
     unfold Xz at hn
     rw [if_pos hxr] at hn
     simp only [Option.isSome_none, Bool.false_eq_true, if_false, hn, if_true]
     exact ⟨_, rfl, Nat.le_refl _⟩
theorem tabL_all {rs : List RR} (hm : MkOk rs) : TabAll (tabL rs) rs := by
 obtain ⟨h1, _, _, h4⟩ := tabL_ok rs hm.ok hm.lsn rs.length (Nat.le_refl _)
 rw [List.take_length] at h1 h4
 refine ⟨h1, fun x hx n hn => ?_⟩
 obtain ⟨q, hq, hs⟩ := h4 x hx n hn
 unfold needsB
 rw [hn, h1, hq]
 simp [hs]
def Wj (xs : List NP) : List Int := xs.map (fun x => (x.1 : Int))
abbrev flatI (l : List Int) : List Value := l.map i64c
theorem held17_spec (ρ : Hp) (pb fb lb mb : Nat) (hp : PoIn ρ pb fb lb mb) (pg : Pgs) (es : List MapEntry) (ck : Nat) (hm : MpIn ρ es pg) :
  Spec Tryz.prog 62 [.pointer (some ⟨pb, 0, none⟩)] ρ [ZZ mb es ck]
   (fun z ρ' L' => ρ.le ρ' ∧ ∃ sp', OwnS z (Wj (allG pg)).length (flatI (Wj (allG pg))) sp' 1 ∧ L' = [ZZ mb es ck, ZG z (flatI (Wj (allG pg))) sp' 3]) := by
 have h64 : (allG pg).length ≤ 64 := allTo_len pg 64
 refine Za Tryz.func62 rfl rfl rfl fun u R => ?_
 simp only [Zg, kA]
 repeat' (first | (refine Zb (.func 142) ?_; refine qC rfl rfl (all17_spec _ pb) ?_; rintro v1 ρ1 L1 hle1 ⟨b1, rfl, rfl, rfl⟩; simp only [kA]) | refine zV ?_ | intro _)
 rename_i c3
 refine Vh (S := [bpC b1 pb, ZZ mb es ck]) (L0 := [[(c3, .cells ⟨[.slice none 0 0]⟩ 58 (0, 0))], ZG (.slice none 0 0) (flatI (Wj [])) [] 3]) (R := R) (R0 := [(c3, .cells ⟨[.slice none 0 0]⟩ 58 (0, 0))] :: R) rfl rfl (all17_iter ρ1 b1 pb fb lb mb hp pg es ck hm) (Hp.le_refl _) (fun _ => rfl) rfl
   (fun pre ρ2 Lu => ρ1.le ρ2 ∧ ∃ z sp', OwnS z (Wj pre).length (flatI (Wj pre)) sp' 1 ∧ Lu = [[(c3, .cells ⟨[z]⟩ 58 (0, 0))], ZG z (flatI (Wj pre)) sp' 3])
   (fun c ρ2 Lu => False) ?k1 ?k2 ⟨Hp.le_refl _, _, [], OwnS.nil 1, rfl⟩ ?round ?done ?stop
 case k1 => exact tk
 case k2 => exact take_cons' Zz (take_cons' rem_nil' take_nil')
 case stop => rintro D0 c ρ2 Lu _ hf; exact hf.elim
 case round =>
  rintro l tm r pre y ρ2 Lu u R' hpre hl1 ⟨hl2, z, sp1, hown, rfl⟩ hr hrec
  simp only [envP, kA]
  have hlen := hpre.length_le
  simp only [List.length_append, List.length_singleton] at hlen
  have hdl : (Wj pre).length = pre.length := List.length_map _
  obtain ⟨za, zc, rfl, _⟩ := hown.slice
  obtain ⟨n, g⟩ := y
  repeat' (first | refine zV ?_ | intro _)
  refine ZH [(l, .loop r)] ?_
  refine te_begin rfl hr (fun r' hbz hrec' => ?_)
  repeat' (first | (refine Yx (css := [[i64c (n : Int)]]) (sz := 1) rfl rfl rfl rfl (by simp) (by simp) rfl (fun bs => ?_); simp only [List.flatten_cons, List.flatten_nil, List.append_nil]) | (refine Yv (ys := [i64c (n : Int)]) (m := 1) (sz := 1) rfl rfl hown (hR := by repeat (first | exact Zz | apply ZE)) SrcV.lit rfl rfl (by decide) rfl (by omega) (by omega) rfl (fun v' sp' hown' => ?_); obtain ⟨a', cap', rfl, hvl⟩ := hown'.slice) | refine zV ?_ | intro _)
  have e : flatI (Wj pre) ++ [i64c (n : Int)] = flatI (Wj (pre ++ [(n, g)])) := by simp [flatI, Wj]
  have e2 : (Wj pre).length + 1 = (Wj (pre ++ [(n, g)])).length := by simp [Wj]
  rw [e, e2] at hown' ⊢
  refine ZH [(l, .loop r')] ?_
  refine WH (Lu := [[(c3, .cells ⟨[.slice a' ((Wj (pre ++ [(n, g)])).length) cap']⟩ 58 (0, 0))], ZG (.slice a' ((Wj (pre ++ [(n, g)])).length) cap') (flatI (Wj (pre ++ [(n, g)]))) sp' 3]) rfl (Hp.le_refl _) ⟨hrec'.tmps.trans hrec.tmps, hrec'.params.trans hrec.params, hrec'.assign.trans hrec.assign, hrec'.body.trans hrec.body⟩ tk tk inferInstance ?_
  exact ⟨hl2, _, sp', hown', rfl⟩
 case done =>
  rintro D0 ρ2 Lu hl1 ⟨hl2, z, sp1, hown, rfl⟩
  simp only [kA]
  obtain ⟨za, zc, rfl, _⟩ := hown.slice
  repeat' (first | refine zV ?_ | intro _)
  refine ZH [(D0, .deferred (some []))] ?_
  exact XD rfl rfl rfl inferInstance (res1 rfl (ZW rfl)) hl2 tk (by infer_instance) (L' := [ZZ mb es ck, ZG (.slice za (Wj (allG pg)).length zc) (flatI (Wj (allG pg))) sp1 3]) ⟨hl2, sp1, hown, rfl⟩
theorem heldL_mem {pg : Pgs} {n : Int} (h : n ∈ Wj (allG pg)) : ∃ m : Nat, n = m ∧ m < 64 ∧ ∃ g, pg (m : Nat) = some g := by
 obtain ⟨x, hx, rfl⟩ := List.mem_map.1 h
 obtain ⟨i, hi, hi2⟩ := List.mem_filterMap.1 hx
 cases hp : pg (i : Nat) with
 | none => rw [hp] at hi2; cases hi2
 | some g => rw [hp] at hi2; cases hi2; exact ⟨i, rfl, List.mem_range.1 hi, g, hp⟩
theorem steal24_spec (ρ : Hp) (pb fb lb mb rb db t num : Nat) (pg : Pgs) (es : List MapEntry) (ck : Nat) (k : DK) (D : DS) (held : Nat → ZL) (p : PgF) (h : PqI ρ pb fb lb mb db t pg es k D held p) (hc : D.Calm) (hn : num < 64) (g : Pg) (hg : pg num = some g) (ht : t ≤ 1000000)
  (S : LgS) (v : Value) (sp : List Value) (hS : LgIn ρ S v sp) (w : RW) (hw : RIn ρ S.R w) (hfl : (p num).2 ≤ S.fl) (hfl2 : S.fl ≤ 1000000) (hft : Fit (p num).1) :
  Spec Tryz.prog 63 [.pointer (some ⟨pb, 0, none⟩), .int .i64 num] ρ (ZZ mb es ck :: ZR lb rb S v :: Ya S v sp :: (Yw rb db S.R w ++ Zk db k D))
   (fun z ρ' L' => z = .int .i64 0 ∧ ρ.le ρ' ∧ ∃ es' ck' pg' w' k' D' t' held', PqI ρ' pb fb lb mb db t' pg' es' k' D' held' p ∧ RIn ρ' S.R w' ∧ D'.Calm ∧ t' ≤ t + 1 ∧ (∀ n : Nat, (pg' n).isSome = (pg n).isSome) ∧ (∀ n, held' n = held n ∨ (n = num ∧ held' n = p n)) ∧ L' = ZZ mb es' ck' :: ZR lb rb S v :: Ya S v sp :: (Yw rb db S.R w' ++ Zk db k' D')) := by
 have he := h.se.see num hn
 have hv : Xn held (vw pg) num = (g.c, g.lsn, g.rc) := by unfold Xn vw; rw [hg]; rfl
 rw [hv] at he
 dsimp only at he
 by_cases h0 : g.rc = 0
 ·have hE : stealE pg num = 0 := by unfold stealE; rw [if_pos (by omega), hg]
  have hs := (steal17_not ρ pb fb lb mb h.po num pg es ck h.mp (fun g' hg' _ => by rw [hg] at hg'; cases hg'; exact h0)).frame (ZR lb rb S v :: Ya S v sp :: (Yw rb db S.R w ++ Zk db k D))
  rw [hE] at hs
  refine hs.mono ?_
  rintro z ρ' L' _ ⟨L1, rfl, rfl, rfl, rfl⟩
  exact ⟨rfl, Hp.le_refl _, es, ck, pg, w, k, D, t, held, h, hw, hc, by omega, fun _ => rfl, fun _ => .inl rfl, rfl⟩
 ·have h2 := congrArg Prod.snd he
  have h1 := congrArg Prod.fst he
  dsimp only at h1 h2
  have hok : PgOk g := ⟨by rw [h1]; exact hft.ok, by rw [h1]; exact hft.id, by omega⟩
  obtain ⟨D', e8, hfo8, hca8⟩ := fo_write (num := num) (lsn := g.lsn) (c := g.c) h.fo hc hn (by rw [h1]; exact hft) (by unfold M64; omega) (by unfold M64; omega)
  have hst : XS S D 902 num g = (S, D', 0) := by
   have e1 : stealF S D g = (S, D, 0) := by unfold stealF; rw [if_neg (by omega)]
   unfold XS
   rw [e1, if_neg (by simp), e8]
  have hs := steal17_spec ρ pb fb lb mb rb db 902 num h.po h.fi (by omega) hn pg es ck h.mp g hg hok h0 S v sp hS w hw k D h.dk (by omega)
  rw [hst] at hs
  refine hs.mono ?_
  rintro z ρ' L' _ ⟨rfl, hl, es', ck', w', k', hm', hR', hk', rfl⟩
  refine ⟨rfl, hl, es', ck', updG pg num { g with rc := 0 }, w', k', D', t + 1, upd held num (g.c, g.lsn), ⟨Hp.at' hl h.po, h.fi.mono hl, hm', hk', hfo8, hca8.lv, ⟨fun n hn' => ?_⟩⟩, hR', hca8, Nat.le_refl _, fun n => ?_, fun n => ?_, rfl⟩
  ·have hs := h.se.see n hn'
   rw [vw_upd]
   unfold Xn setV upd at *
   by_cases e : n = num
   ·subst e
    simp only [if_true, Option.getD_some]
    exact he
   ·rw [if_neg (by omega : ¬ (n : Int) = num)]
    simp only [Int.toNat_natCast] at hs ⊢
    rw [if_neg e]; exact hs
  ·unfold updG
   split
   ·rename_i e
    rw [e, hg]; rfl
   ·rfl
  ·unfold upd
   split
   ·rename_i e
    subst e
    exact .inr ⟨rfl, he⟩
   ·exact .inl rfl
structure LvP (rs : List RR) (k : Nat) (h0 held p : Nat → ZL) : Prop where
 pg : ∀ n, p n = run n (rs.take k) (h0 n)
 hd : ∀ n, ∃ j, j ≤ k ∧ held n = run n (rs.take j) (h0 n)
theorem LvP.zero (rs : List RR) (h0 : Nat → ZL) : LvP rs 0 h0 h0 h0 := ⟨fun n => rfl, fun n => ⟨0, Nat.le_refl _, rfl⟩⟩
theorem LvP.step {rs : List RR} {d : List CkP} {k : Nat} {h0 held p : Nat → ZL} (h : LvP rs k h0 held p) (ht : TabAll d rs) (hm : MkOk rs) (hk : k < rs.length) : LvP rs (k + 1) h0 held (Wq d p (rs[k]).2) := by
 have htk := List.take_succ_eq_append_getElem hk
 refine ⟨fun n => ?_, fun n => ?_⟩
 ·rw [stepP_nx ht (List.getElem_mem hk) (hm.ok _ (List.getElem_mem hk)), htk, run_snoc, h.pg]
 ·obtain ⟨j, h1, h2⟩ := h.hd n
  exact ⟨j, by omega, h2⟩
theorem LvP.steal {rs : List RR} {k : Nat} {h0 held p held' : Nat → ZL} {num : Nat} (h : LvP rs k h0 held p) (e : ∀ n, held' n = held n ∨ (n = num ∧ held' n = p n)) : LvP rs k h0 held' p := by
 refine ⟨h.pg, fun n => ?_⟩
 rcases e n with e | ⟨_, e⟩
 ·rw [e]; exact h.hd n
 ·rw [e]; exact ⟨k, Nat.le_refl _, h.pg n⟩
theorem LvP.again {rs : List RR} {d : List CkP} {k : Nat} {h0 held p : Nat → ZL} (h : LvP rs k h0 held p) (ht : TabAll d rs) (hm : MkOk rs) : LvP rs k h0 held (allP d held (rs.take k)) := by
 refine ⟨fun n => ?_, h.hd⟩
 rw [allP_run ht hm.ok n _ _ (fun x hx => List.mem_of_mem_take hx)]
 obtain ⟨j, h1, h2⟩ := h.hd n
 rw [h2, run_again n rs _ h1]
theorem twice_step {d : List CkP} {rs : List RR} (ht : TabAll d rs) {x : RR} (hx : x ∈ rs) (hr : ZP x.2 = true) (p : PgF) : Wq d (Wq d p x.2) x.2 = Wq d p x.2 := by
 have e := redo_twice ht hx hr p
 show putS x.2.lsn (Wq d p x.2) (Xl (Wq d p x.2) d x.2) = _
 rw [e]; rfl
theorem nx_fit {ρ : Hp} {v : RV} {r : Rc} (hr : RcIn ρ v r) (n : Nat) {x : ZL} (hx : Fit x.1) : Fit (nx n r x).1 := by
 unfold nx
 cases hq : Xz r n with
 | none => exact hx
 | some y =>
  dsimp only
  split
  ·unfold Xz at hq
   cases hok : ZP r
   ·rw [hok] at hq; cases hq
   ·rw [hok, if_pos rfl] at hq
    have hm := List.mem_of_find?_eq_some hq
    have hc := (hr.im y hm).a
    exact ⟨((Xy hok).im y hm).2.1, ⟨hc.row, hc.kid⟩⟩
  ·exact hx
theorem run_fit {ρ : Hp} (n : Nat) : ∀ (l : List RR) (x : ZL), (∀ y ∈ l, RcIn ρ y.1 y.2) → Fit x.1 → Fit (run n l x).1
 | [], x, _, h => h
 | y :: l, x, hl, h => run_fit n l _ (fun z hz => hl z (by simp [hz])) (nx_fit (hl y (by simp)) n h)
theorem run_lsb {n : Nat} {v : ZL} {rs : List RR} (hm : MkOk rs) (k : Nat) (hv : v.2 ≤ rs.length) (hk : k ≤ rs.length) : (run n (rs.take k) v).2 ≤ rs.length := by
 obtain ⟨h1, h2⟩ := run_last n v rs hm.lsn k hk
 rw [h2]
 split
 ·exact hv
 ·omega
end Go.Proofs.E
namespace Go.Proofs.E
open Go
set_option linter.unusedVariables false
set_option linter.unusedSimpArgs false
set_option linter.unusedSectionVars false
set_option maxRecDepth 4000
set_option maxHeartbeats 1000000
attribute [local irreducible] Yl TL TC TE Spec ZK R1 Hp.le EnvLe TS TR YS Zp TP QP
structure TwA where
 b : Int
 a : Option Addr
 n : Nat
 c : Nat
 l : List Bool
abbrev twV (x : TwA) : List Value := [.int .i64 x.b, .slice x.a x.n x.c]
structure TwI (ρ : Hp) (x : TwA) : Prop where
 b : -9223372036854775808 ≤ x.b ∧ x.b ≤ 9223372036854775807
 at' : SIn ρ bb x.a x.n x.l
 cap : x.n ≤ x.c
 big : x.n ≤ 9223372036854775807
theorem TwI.mono {ρ ρ' x} (h : TwI ρ x) (hl : ρ.le ρ') : TwI ρ' x := ⟨h.b, h.at'.mono hl, h.cap, h.big⟩
structure TwM (ρ : Hp) (es : List MapEntry) : Prop where
 keys : Yq .i64 es
 val : ∀ n v, YC es n = some v → ∃ x : TwA, v = .agg ⟨twV x⟩ ∧ TwI ρ x
theorem TwM.zero {ρ : Hp} : TwM ρ [] := ⟨(by intro e he; cases he), fun n v h => by cases h⟩
theorem TwM.mono {ρ ρ' es} (h : TwM ρ es) (hl : ρ.le ρ') : TwM ρ' es := ⟨h.keys, fun n v e => by obtain ⟨x, h1, h2⟩ := h.val n v e; exact ⟨x, h1, h2.mono hl⟩⟩
theorem TwM.add {ρ : Hp} {es es' : List MapEntry} (h : TwM ρ es) {x : TwA} (hx : TwI ρ x) (hk : Yq .i64 es') (hg : ∀ j, YC es' j = if j = x.b then some (.agg ⟨twV x⟩) else YC es j) : TwM ρ es' :=
 ⟨hk, fun n v e => by
  rw [hg] at e
  split at e
  ·cases e; exact ⟨x, rfl, hx⟩
  ·exact h.val n v e⟩
theorem tbl_page {d : List CkP} (h : Xh d = true) {x : CkP} (hx : x ∈ d) : 0 ≤ x.page ∧ x.page < 64 := by
 have key : ∀ (d : List CkP) (last : Int), tblB last d = true → -1 ≤ last → ∀ x ∈ d, 0 ≤ x.page ∧ x.page < 64 := by
  intro d
  induction d with
  | nil => intro _ _ _ x hx; cases hx
  | cons p r ih =>
   intro last h h1 x hx
   rw [tblB, Bool.and_eq_true, decide_eq_true_eq] at h
   obtain ⟨⟨g1, g2, _⟩, g3⟩ := h
   rcases List.mem_cons.1 hx with rfl | hx
   ·omega
   ·exact ih p.page g3 (by omega) x hx
 exact key d (-1) h (by omega) x hx
theorem last24Law_spec (ρ : Hp) (x : StA) (hx : StI ρ x) (a1 : Option Addr) (n1 c1 : Nat) (tl : List TwA) (h1 : AIn ρ 2 twV a1 n1 tl) (hT : ∀ y ∈ tl, TwI ρ y) (hc1 : n1 ≤ c1) (hn1 : n1 ≤ 9223372036854775807) :
  Spec Tryz.prog 9 [.agg ⟨stA x⟩, .slice a1 n1 c1] ρ [] (fun z ρ' L' => z = .bool true ∧ ρ.le ρ' ∧ L' = []) := by
 have hl1 := h1.len
 refine Za Tryz.func9 rfl rfl rfl fun u R => ?_
 simp only [Zg, kA]
 repeat' (first | (refine Zb (.func 37) ?_; refine qC rfl rfl (wakes24_spec _) ?_; rintro v ρ' L' hle ⟨rfl, hw1, rfl⟩ <;> (try simp only [kA])) | (refine Zb (.func 38) ?_; refine qC rfl rfl (made_spec _ x (hx.mono hw1)) ?_; rintro v1 ρ1 L1 hle1 ⟨hz1, sb, db, lb, fb, rb, S, v, sp, w, k, D, t, held, ra, rc, l, pa, pc, pl, rfl, hM, rfl⟩; try simp only [kA]) | refine zV ?_ | intro _)
 have hl01 := Hp.le_trans hw1 hz1
 have hrc := hM.rcs (Hp.le_refl _)
 have hpg := hM.pg
 have hlg := hM.lg
 have hfw := hM.few
 have hmo := hM.mo
 have hll := hrc.at'.len
 refine Zl [(1, _), (5, _), (53, _), (54, _)] (fun (ζ : (Nat) × (Hp) × (SV)) => [(55, .int .i64 ζ.1), (4, .bool false), (7, .slice ζ.2.2.a ζ.2.2.n ζ.2.2.c)]) (fun (ζ : (Nat) × (Hp) × (SV)) => ζ.2.1) (fun (ζ : (Nat) × (Hp) × (SV)) => stdC sb db lb fb (.slice ra l.length rc) (.slice pa 64 pc) :: ZR lb rb S v :: Ya S v sp :: (Yw rb db S.R w ++ Zk db k D)) (fun (ζ : (Nat) × (Hp) × (SV)) => ζ.1 ≤ l.length ∧ ρ1.le ζ.2.1 ∧ AS ζ.2.1 2 YN ζ.2.2 (tabL (l.take ζ.1))) (fun (ζ : (Nat) × (Hp) × (SV)) => l.length - ζ.1) ((0, ρ1, ⟨none, 0, 0⟩)) (⟨Nat.zero_le _, Hp.le_refl _, AS.nil⟩) Zc Zc rfl tk ?_
 rintro ⟨i, ρ2, s2⟩ hI
 try simp only [kA, List.append_assoc] at hI ⊢
 try dsimp only at hI ⊢
 obtain ⟨hi, hz2, hs2⟩ := hI
 by_cases hlt : i < l.length
 ·obtain ⟨b, off, C, T, fr, e1, hb, hfit, hc⟩ := (hrc.at'.mono hz2).get hlt
  have hxr := (hrc.rin _ (List.getElem_mem hlt)).mono hz2
  have hok := hrc.ok _ (List.getElem_mem hlt)
  have htk := List.take_succ_eq_append_getElem hlt
  obtain ⟨ht1, ht2, _⟩ := tabL_ok l hmo.ok hmo.lsn i (by omega)
  have hsn := tabL_snoc (l.take i) l[i]
  rw [← htk] at hsn
  rw [e1]
  generalize l[i] = y at *
  obtain ⟨yv, yr⟩ := y
  dsimp only at hxr hok hc hsn
  have hil := (Xy hok).il
  have hin := hxr.i.at'.len
  have hto := touch_spec ρ2 s2 (tabL (l.take i)) hs2 (by omega) yv yr hxr (by omega)
  rw [show touchE (tabL (l.take i)) yr = 0 by unfold touchE; rw [ht1, hok]; rfl, show touchR (tabL (l.take i)) yr = tabL (l.take (i + 1)) by unfold touchR; rw [ht1, hok, hsn]; rfl] at hto
  repeat' (first | (refine Zb (.func 61) ?_; refine qC rfl rfl hto ?_; rintro v3 ρ3 L3 hle3 ⟨hz3, s3, rfl, hs3, rfl⟩; try simp only [kA]) | refine zV ?_ | intro _)
  rw [← e1]
  refine Zf (i + 1, ρ3, s3) (⟨hlt, Hp.le_trans hz2 hz3, hs3⟩) Zc Zc rfl tk inferInstance (by first | omega | (dsimp only; omega))
 rw [List.take_of_length_le (by omega)] at hs2
 repeat' (first | refine zV ?_ | intro _)
 rename_i mb2
 have hl02 := Hp.le_trans hl01 hz2
 refine Zl [(4, _), (5, _), (7, _), (12, _), (70, _), (71, _)] (fun (ζ : (Nat) × (List MapEntry) × (Nat)) => [(72, .int .i64 ζ.1)]) (fun (ζ : (Nat) × (List MapEntry) × (Nat)) => ρ2) (fun (ζ : (Nat) × (List MapEntry) × (Nat)) => [(mb2, .map ⟨ζ.2.1⟩ ζ.2.2)] :: stdC sb db lb fb (.slice ra l.length rc) (.slice pa 64 pc) :: ZR lb rb S v :: Ya S v sp :: (Yw rb db S.R w ++ Zk db k D)) (fun (ζ : (Nat) × (List MapEntry) × (Nat)) => ζ.1 ≤ n1 ∧ TwM ρ2 ζ.2.1) (fun (ζ : (Nat) × (List MapEntry) × (Nat)) => n1 - ζ.1) ((0, [], 0)) (⟨Nat.zero_le _, TwM.zero⟩) Zc Zc rfl tk ?_
 rintro ⟨i, e11, c11⟩ hI
 try simp only [kA, List.append_assoc] at hI ⊢
 try dsimp only at hI ⊢
 obtain ⟨hi, him⟩ := hI
 by_cases hlt : i < n1
 ·have hil : i < tl.length := by omega
  obtain ⟨b, off, C, T, fr, e1, hb, hfit, hc⟩ := (h1.mono hl02).get hil
  have hy := (hT _ (List.getElem_mem hil)).mono hl02
  have hkk := him.keys
  rw [e1]
  generalize tl[i] = y at *
  obtain ⟨yb, ya, yn, yc, yl⟩ := y
  by_cases h5 : i < 5
  ·repeat' (first | (refine Xx rfl rfl rfl hkk (fun es' ck' q1 q2 => ?_)) | refine zV ?_ | intro _)
   rw [← e1]
   have hnew : TwM ρ2 es' := him.add hy q1 q2
   refine Zf (i + 1, es', ck') (⟨hlt, hnew⟩) Zc Zc rfl tk inferInstance (by first | omega | (dsimp only; omega))
  ·repeat' (first | refine zV ?_ | intro _)
   rw [← e1]
   refine Zf (i + 1, e11, c11) (⟨hlt, him⟩) Zc Zc rfl tk inferInstance (by first | omega | (dsimp only; omega))
 have hi2 : i = n1 := by omega
 clear hi2
 repeat' (first | refine zV ?_ | intro _)
 refine tpA [0,1,2,3,4,5,6,7] (.e 8 [] (.f [9,10,11,12,13] .o)) ([stdC sb db lb fb (.slice ra l.length rc) (.slice pa 64 pc)]) ?_
 repeat' (refine iT ?_; first | refine rA ?_ | ((refine iE ?_; refine rE ?_) <;> ((try refine Zn ?_); (first | (refine Zb (.func 39) ?_; refine qC rfl rfl (new17_spec _ fb lb) ?_; rintro v3 ρ3 L3 hle3 ⟨hz3, pb, mb, rfl, hp3, rfl⟩; try simp only [kA]) | (refine Yj ?_; try intro _)) <;> ((try simp only [kA]); refine Zi ?_; refine rN ?_))))
 have hz13 := Hp.le_trans hz2 hz3
 have hl03 := Hp.le_trans hl01 hz13
 have hpq := hM.pq hz13 hp3
 have hts := tabL_all hmo
 have hs3 := hs2.mono hz3
 have hm3 := him.mono hz3
 have hrc3 := hrc.mono hz13
 have hpg3 := hpg.mono hz13
 have hlg3 := hlg.mono hz13
 have hrg3 := hM.rg.mono hz13
 have hfi3 := hM.fi.mono hz13
 have hft := hM.fit
 have hlsb := hM.lsb
 have htb := hM.tb
 have hfl := hM.fl
 have hcalm := hM.calm
 clear hM hrc hpg hlg hs2 him
 repeat' (first | refine zV ?_ | intro _)
 refine Zl [(5, _), (7, _), (12, _), (101, _), (102, _)] (fun (ζ : (Nat) × (Hp) × (Nat) × (Nat) × (List MapEntry) × (Nat) × (Pgs) × (DK) × (DS) × (Nat) × (RW) × (Nat → ZL) × (Nat → ZL)) => [(103, .int .i64 ζ.1), (4, .bool false), (15, .pointer (some ⟨ζ.2.2.1, 0, none⟩)), (16, .int .i64 0)]) (fun (ζ : (Nat) × (Hp) × (Nat) × (Nat) × (List MapEntry) × (Nat) × (Pgs) × (DK) × (DS) × (Nat) × (RW) × (Nat → ZL) × (Nat → ZL)) => ζ.2.1) (fun (ζ : (Nat) × (Hp) × (Nat) × (Nat) × (List MapEntry) × (Nat) × (Pgs) × (DK) × (DS) × (Nat) × (RW) × (Nat → ZL) × (Nat → ZL)) => [(mb2, .map ⟨e11⟩ c11)] :: stdC sb db lb fb (.slice ra l.length rc) (.slice pa 64 pc) :: ZR lb rb S v :: Ya S v sp :: ZZ ζ.2.2.2.1 ζ.2.2.2.2.1 ζ.2.2.2.2.2.1 :: (Yw rb db S.R ζ.2.2.2.2.2.2.2.2.2.2.1 ++ Zk db ζ.2.2.2.2.2.2.2.1 ζ.2.2.2.2.2.2.2.2.1)) (fun (ζ : (Nat) × (Hp) × (Nat) × (Nat) × (List MapEntry) × (Nat) × (Pgs) × (DK) × (DS) × (Nat) × (RW) × (Nat → ZL) × (Nat → ZL)) => ζ.1 ≤ l.length ∧ ρ3.le ζ.2.1 ∧ PqI ζ.2.1 ζ.2.2.1 fb lb ζ.2.2.2.1 db ζ.2.2.2.2.2.2.2.2.2.1 ζ.2.2.2.2.2.2.1 ζ.2.2.2.2.1 ζ.2.2.2.2.2.2.2.1 ζ.2.2.2.2.2.2.2.2.1 ζ.2.2.2.2.2.2.2.2.2.2.2.1 ζ.2.2.2.2.2.2.2.2.2.2.2.2 ∧ RIn ζ.2.1 S.R ζ.2.2.2.2.2.2.2.2.2.2.1 ∧ ζ.2.2.2.2.2.2.2.2.1.Calm ∧ ζ.2.2.2.2.2.2.2.2.2.1 ≤ 8 + 64 * ζ.1 ∧ LvP l ζ.1 held ζ.2.2.2.2.2.2.2.2.2.2.2.1 ζ.2.2.2.2.2.2.2.2.2.2.2.2) (fun (ζ : (Nat) × (Hp) × (Nat) × (Nat) × (List MapEntry) × (Nat) × (Pgs) × (DK) × (DS) × (Nat) × (RW) × (Nat → ZL) × (Nat → ZL)) => l.length - ζ.1) ((0, ρ3, pb, mb, [], 0, pgZ, k, D, t, w, held, held)) (⟨Nat.zero_le _, Hp.le_refl _, hpq, hrg3, hcalm, htb, LvP.zero l held⟩) Zc Zc rfl tk ?_
 rintro ⟨i, ρ5, pb5, mb5, es5, ck5, pg5, k5, D5, t5, w5, held5, p5⟩ hI
 try simp only [kA, List.append_assoc] at hI ⊢
 try dsimp only at hI ⊢
 obtain ⟨hi, hz5, hq5, hrg5, hca5, htb5, hlv5⟩ := hI
 by_cases hlt : i < l.length
 ·obtain ⟨b, off, C, T, fr, e1, hb, hfit, hc⟩ := (hrc3.at'.mono hz5).get hlt
  have hmem := List.getElem_mem hlt
  have hxr := (hrc3.rin _ hmem).mono hz5
  have hok := hrc3.ok _ hmem
  have hkn := hrc3.known _ hmem
  have hlv6 := hlv5.step hts hmo hlt
  have htw := twice_step hts hmem hok p5
  have hrd := redo_twice hts hmem hok p5
  have hxl := hmo.lsn i hlt
  rw [e1]
  generalize l[i] = y at *
  obtain ⟨yv, yr⟩ := y
  dsimp only at hxr hok hkn hc hlv6 htw hrd hxl
  have hd5 := hs3.mono hz5
  have hst := step24_spec ρ5 pb5 fb lb mb5 rb db t5 pg5 es5 ck5 k5 D5 held5 p5 hq5 S v sp (hlg3.mono hz5) s2 (tabL l) hd5 yv yr hxr
  have hst2 := fun ρ6 es6 ck6 pg6 D6 (hl6 : ρ5.le ρ6) (hq6 : PqI ρ6 pb5 fb lb mb5 db t5 pg6 es6 k5 D6 held5 (Wq (tabL l) p5 yr)) => step24_spec ρ6 pb5 fb lb mb5 rb db t5 pg6 es6 ck6 k5 D6 held5 _ hq6 S v sp ((hlg3.mono hz5).mono hl6) s2 (tabL l) (hd5.mono hl6) yv yr (hxr.mono hl6)
  obtain ⟨g1, g2, g3⟩ := stp_yes (p := p5) hts.tbl hok
  obtain ⟨g4, g5, g6⟩ := stp_yes (p := Wq (tabL l) p5 yr) hts.tbl hok
  rw [hkn, g1, g2, g3] at hst
  simp only [hkn, g4, g5, g6, htw, hrd, List.length_nil] at hst2
  generalize Wq (tabL l) p5 yr = p6 at *
  generalize (Xl p5 (tabL l) yr).length = q at *
  clear g1 g2 g3 g4 g5 g6 htw hrd
  repeat' (first | refine zV ?_ | intro _)
  refine Zb (.func 41) ?_
  refine qC rfl rfl hst ?_
  rintro v6 ρ6 L6 hle6 ⟨rfl, hz6, es6, ck6, pg6, D6, hq6, hL6, rfl⟩
  try simp only [kA]
  repeat' (first | refine zV ?_ | intro _)
  refine Zb (.func 41) ?_
  refine qC rfl rfl (hst2 _ _ _ _ _ hz6 hq6) ?_
  rintro v7 ρ7 L7 hle7 ⟨rfl, hz7, es7, ck7, pg7, D7, hq7, hL7, rfl⟩
  try simp only [kA]
  have hz57 := Hp.le_trans hz6 hz7
  have hz37 := Hp.le_trans hz5 hz57
  have hca7 := (hL6.trans hL7).calm hca5
  have hki := hm3.keys
  clear hst hst2 hq6
  cases hmg : YC e11 (i : Int) with
  | none =>
   repeat' (first | refine zV ?_ | intro _)
   rw [← e1]
   refine Zf (i + 1, ρ7, pb5, mb5, es7, ck7, pg7, k5, D7, t5, w5, held5, p6) (⟨hlt, hz37, hq7, hrg5.mono hz57, hca7, by dsimp only; omega, hlv6⟩) Zc Zc rfl tk inferInstance (by first | omega | (dsimp only; omega))
  | some tv =>
   obtain ⟨⟨xb, xa, xn, xc, xl⟩, rfl, hxi⟩ := (hm3.mono hz37).val _ _ hmg
   have hxi7 := hxi
   obtain ⟨hxb, hxS, hxc, hxbig⟩ := hxi
   dsimp only at hxb hxS hxc hxbig
   have hxl := hxS.len
   repeat' (first | refine zV ?_ | intro _)
   rename_i b23
   refine Zb (.func 62) ?_
   refine qC rfl rfl (held17_spec ρ7 pb5 fb lb mb5 hq7.po pg7 es7 ck7 hq7.mp) ?_
   rintro v8 ρ8 L8 hle8 ⟨hz8, sp8, hown8, rfl⟩
   try simp only [kA]
   refine ZA _ (h := ZE Zz) (fun ρ9 hz9 hfz9 => ?_)
   obtain ⟨ha, hcp, rfl, hhc, hhS⟩ := hown8.sIn hfz9
   have hz79 := Hp.le_trans hz8 hz9
   have hz59 := Hp.le_trans hz57 hz79
   have hgm := fun n => @heldL_mem pg7 n
   have hh64 : (Wj (allG pg7)).length ≤ 64 := by
    have := allTo_len pg7 64
    unfold Wj; rw [List.length_map]; exact this
   generalize Wj (allG pg7) = HL at *
   clear hfz9 hown8
   repeat' (first | refine zV ?_ | intro _)
   refine Zl [(5, _), (7, _), (12, _), (15, _), (17, _), (23, _), (101, _), (102, _), (103, _), (139, _), (140, _)] (fun (ζ : (Nat) × (Hp) × (List MapEntry) × (Nat) × (Pgs) × (DK) × (DS) × (Nat) × (RW) × (Nat → ZL)) => [(141, .int .i64 ζ.1), (4, .bool false)]) (fun (ζ : (Nat) × (Hp) × (List MapEntry) × (Nat) × (Pgs) × (DK) × (DS) × (Nat) × (RW) × (Nat → ZL)) => ζ.2.1) (fun (ζ : (Nat) × (Hp) × (List MapEntry) × (Nat) × (Pgs) × (DK) × (DS) × (Nat) × (RW) × (Nat → ZL)) => [(b23, .cells ⟨[.int .i64 xb, .slice xa xn xc]⟩ 123 (0, 0))] :: [(mb2, .map ⟨e11⟩ c11)] :: stdC sb db lb fb (.slice (some ⟨b, off, none⟩) l.length rc) (.slice pa 64 pc) :: ZR lb rb S v :: Ya S v sp :: ZZ mb5 ζ.2.2.1 ζ.2.2.2.1 :: (Yw rb db S.R ζ.2.2.2.2.2.2.2.2.1 ++ Zk db ζ.2.2.2.2.2.1 ζ.2.2.2.2.2.2.1)) (fun (ζ : (Nat) × (Hp) × (List MapEntry) × (Nat) × (Pgs) × (DK) × (DS) × (Nat) × (RW) × (Nat → ZL)) => ζ.1 ≤ HL.length ∧ ρ9.le ζ.2.1 ∧ PqI ζ.2.1 pb5 fb lb mb5 db ζ.2.2.2.2.2.2.2.1 ζ.2.2.2.2.1 ζ.2.2.1 ζ.2.2.2.2.2.1 ζ.2.2.2.2.2.2.1 ζ.2.2.2.2.2.2.2.2.2 p6 ∧ RIn ζ.2.1 S.R ζ.2.2.2.2.2.2.2.2.1 ∧ ζ.2.2.2.2.2.2.1.Calm ∧ ζ.2.2.2.2.2.2.2.1 ≤ t5 + ζ.1 ∧ (∀ n : Nat, (ζ.2.2.2.2.1 n).isSome = (pg7 n).isSome) ∧ LvP l (i + 1) held ζ.2.2.2.2.2.2.2.2.2 p6) (fun (ζ : (Nat) × (Hp) × (List MapEntry) × (Nat) × (Pgs) × (DK) × (DS) × (Nat) × (RW) × (Nat → ZL)) => HL.length - ζ.1) ((0, ρ9, es7, ck7, pg7, k5, D7, t5, w5, held5)) (⟨Nat.zero_le _, Hp.le_refl _, hq7.mono hz79, hrg5.mono hz59, hca7, Nat.le_refl _, fun _ => rfl, hlv6⟩) Zc Zc rfl tk ?_
   rintro ⟨qi, ρa, esa, cka, pga, ka, Da, ta, wa, helda⟩ hI
   try simp only [kA, List.append_assoc] at hI ⊢
   try dsimp only at hI ⊢
   obtain ⟨hqi, hza, hqa, hrga, hcaa, hta, hisa, hlva⟩ := hI
   have hz7a := Hp.le_trans hz79 hza
   have hz5a := Hp.le_trans hz57 hz7a
   have hz3a := Hp.le_trans hz5 hz5a
   by_cases hqt : qi < HL.length
   ·obtain ⟨hbk, hoff, hC, hT2, hfr, he1, hhb, hhc2⟩ := (hhS.mono hza).get hqt
    obtain ⟨m, hm1, hm64, g, hgm7⟩ := hgm _ (List.getElem_mem hqt)
    simp only [hm1] at hhc2
    have hgs := hisa m
    rw [hgm7] at hgs
    obtain ⟨ga, hga⟩ := Option.isSome_iff_exists.1 hgs
    have hpm := hlva.pg m
    have hfm : Fit (p6 m).1 := by rw [hpm]; exact run_fit m _ _ (fun y hy => (hrc3.rin y (List.mem_of_mem_take hy))) (hft m)
    have hlm : (p6 m).2 ≤ S.fl := by rw [hpm, hfl]; exact run_lsb hmo _ (hlsb m) (by omega)
    have hS := steal24_spec ρa pb5 fb lb mb5 rb db ta m pga esa cka ka Da helda p6 hqa hcaa hm64 ga hga (by omega) S v sp (hlg3.mono hz3a) wa hrga hlm (by omega) hfm
    rw [he1]
    by_cases hx0 : xn = 0
    ·have hx0' : ¬ (0 : Int) < (xn : Int) := by omega
     repeat' (first | refine zV ?_ | intro _)
     refine tpA [0,1,2,3,4,5,6,7,8,9,10,11,12,13,14,15,16,17] (.e 18 [] (.f [19,20] .o)) ([[(b23, .cells ⟨[.int .i64 xb, .slice xa xn xc]⟩ 123 (0, 0))]]) ?_
     repeat' (refine iT ?_; first | refine rA ?_ | ((refine iE ?_; refine rE ?_) <;> ((try refine Zn ?_); (first | (refine Yj ?_; try intro _)) <;> ((try simp only [kA]); refine Zi ?_; refine rN ?_))))
     repeat' (first | refine zV ?_ | intro _)
     rw [← he1]
     refine Zf (qi + 1, ρa, esa, cka, pga, ka, Da, ta, wa, helda) (⟨hqt, hza, hqa, hrga, hcaa, by dsimp only; omega, hisa, hlva⟩) Zc Zc rfl tk inferInstance (by first | omega | (dsimp only; omega))
    ·obtain ⟨r, hr⟩ : ∃ r : Nat, r = qi % xn := ⟨_, rfl⟩
     have hrl : r < xl.length := by rw [hr, ← hxl]; exact Nat.mod_lt _ (by omega)
     obtain ⟨bbk, boff, bC, bT, bfr, be1, bhb, bhc⟩ := ((hxS.mono hz7a).get hrl)
     have htm : ((qi : Nat) : Int).tmod ((xn : Nat) : Int) = ((r : Nat) : Int) := by rw [hr]; exact (Int.ofNat_tmod _ _).symm
     subst be1
     cases hbv : xl[r]
     all_goals rw [hbv] at bhc
     all_goals rw [show boff + r * 1 = boff + (((qi : Nat) : Int).tmod ((xn : Nat) : Int)).toNat * 1 by rw [htm]; rfl] at bhc
     ·repeat' (first | refine zV ?_ | intro _)
      refine tpA [0,1,2,3,4,5,6,7,8,9,10,11,12,13,14,15,16,17] (.e 18 [] (.f [19,20] .o)) ([[(b23, .cells ⟨[.int .i64 xb, .slice (some ⟨bbk, boff, none⟩) xn xc]⟩ 123 (0, 0))]]) ?_
      repeat' (refine iT ?_; first | refine rA ?_ | ((refine iE ?_; refine rE ?_) <;> ((try refine Zn ?_); (first | (refine Yj ?_; try intro _)) <;> ((try simp only [kA]); refine Zi ?_; refine rN ?_))))
      repeat' (first | refine zV ?_ | intro _)
      rw [← he1]
      refine Zf (qi + 1, ρa, esa, cka, pga, ka, Da, ta, wa, helda) (⟨hqt, hza, hqa, hrga, hcaa, by dsimp only; omega, hisa, hlva⟩) Zc Zc rfl tk inferInstance (by first | omega | (dsimp only; omega))
     ·repeat' (first | refine zV ?_ | intro _)
      refine tpA [0,1,2,3,4,5,6,7,8,9,10,11,12,13,14,15,16,17] (.e 18 [] (.f [19,20] .o)) ([[(b23, .cells ⟨[.int .i64 xb, .slice (some ⟨bbk, boff, none⟩) xn xc]⟩ 123 (0, 0))]]) ?_
      repeat' (refine iT ?_; first | refine rA ?_ | ((refine iE ?_; refine rE ?_) <;> ((try refine Zn ?_); (first | (refine Zb (.func 63) ?_; refine qC rfl rfl hS ?_; rintro vb ρb Lb hleb ⟨rfl, hzb, esb, ckb, pgb, wb, kb, Db, tb, heldb, hqb, hrgb, hcab, htbb, hisb, hheb, rfl⟩; try simp only [kA, List.append_assoc]) | (refine Yj ?_; try intro _)) <;> ((try simp only [kA]); refine Zi ?_; refine rN ?_))))
      repeat' (first | refine zV ?_ | intro _)
      rw [← he1]
      refine Zf (qi + 1, ρb, esb, ckb, pgb, kb, Db, tb, wb, heldb) (⟨hqt, Hp.le_trans hza hzb, hqb, hrgb, hcab, by dsimp only; omega, fun n => (hisb n).trans (hisa n), hlva.steal hheb⟩) Zc Zc rfl tk inferInstance (by first | omega | (dsimp only; omega))
   ·have htn : (((i : Nat) : Int) + 1).toNat = i + 1 := by omega
    have hrca := (hrc3.mono hz3a)
    have hrt : RcsIn ρa S ra (i + 1) rc (l.take (i + 1)) := ⟨hrca.at'.take (by omega), by have := hrca.cap; omega, by omega, fun y hy => hrca.rin y (List.mem_of_mem_take hy), fun y hy => hrca.ok y (List.mem_of_mem_take hy), fun y hy => hrca.known y (List.mem_of_mem_take hy)⟩
    have hrcap := hrca.cap
    repeat' (first | refine zV ?_ | intro _)
    refine tpA [0,1,2,3,4,5,6,7] (.e 8 [] (.f [9,10,11,12,13] .o)) ([stdC sb db lb fb (.slice (some ⟨b, off, none⟩) l.length rc) (.slice pa 64 pc)]) ?_
    repeat' (refine iT ?_; first | refine rA ?_ | ((refine iE ?_; refine rE ?_) <;> ((try refine Zn ?_); (first | (refine Zb (.func 39) ?_; refine qC rfl rfl (new17_spec _ fb lb) ?_; rintro vb ρb Lb hleb ⟨hzb, pbb, mbb, rfl, hpb, rfl⟩; try simp only [kA]) | (refine Yj ?_; try intro _)) <;> ((try simp only [kA]); refine Zi ?_; refine rN ?_))))
    have hqb : PqI ρb pbb fb lb mbb db ta pgZ [] ka Da helda helda := ⟨hpb, hqa.fi.mono hzb, mpZ, hqa.dk, hqa.fo, hcaa.lv, Sees.zero helda⟩
    have hz5b := Hp.le_trans hz5a hzb
    have hz3b := Hp.le_trans hz3a hzb
    have hA := all24_spec ρb pbb fb lb mbb rb db ta pgZ [] 0 ka Da helda helda hqb S v sp (hlg3.mono hz3b) s2 (tabL l) (hs3.mono hz3b) hts.tbl ra (i + 1) rc (l.take (i + 1)) (hrt.mono hzb)
    have hlvb := hlva.again hts hmo
    generalize allP (tabL l) helda (l.take (i + 1)) = pz at *
    generalize allN (tabL l) helda (l.take (i + 1)) = nz at *
    clear hrt
    rw [e1] at hA
    repeat' (first | (simp only [htn]; refine Zb (.func 57) ?_; refine qC rfl rfl hA ?_; rintro vc ρc Lc hlec ⟨rfl, hzc, esc, ckc, pgc, Dc, hqc, hLc, rfl⟩; try simp only [kA]) | refine zV ?_ | intro _)
    rw [← e1]
    refine Zf (i + 1, ρc, pbb, mbb, esc, ckc, pgc, ka, Dc, ta, wa, helda, pz) (⟨hlt, Hp.le_trans hz3b hzc, hqc, (hrga.mono hzb).mono hzc, hLc.calm hcaa, by dsimp only; omega, hlvb⟩) Zc Zc rfl tk inferInstance (by first | omega | (dsimp only; omega))
 rw [show i = l.length by omega] at hlv5
 have hz35 := hz5
 repeat' (first | refine zV ?_ | intro _)
 have hs5 := hs3.mono hz5
 have hsl := hs5.at'.len
 have hsb := hs5.big
 have hrc5 := hrc3.mono hz5
 have hpg5 := hpg3.mono hz5
 have hpl := hpg5.at'.len
 refine Zl [(5, _), (15, _), (202, _), (203, _)] (fun (ζ : (Nat) × (Hp) × (List MapEntry) × (Nat) × (Pgs) × (DS)) => [(204, .int .i64 ζ.1), (4, .bool false)]) (fun (ζ : (Nat) × (Hp) × (List MapEntry) × (Nat) × (Pgs) × (DS)) => ζ.2.1) (fun (ζ : (Nat) × (Hp) × (List MapEntry) × (Nat) × (Pgs) × (DS)) => stdC sb db lb fb (.slice ra l.length rc) (.slice pa 64 pc) :: ZZ mb5 ζ.2.2.1 ζ.2.2.2.1 :: Zk db k5 ζ.2.2.2.2.2) (fun (ζ : (Nat) × (Hp) × (List MapEntry) × (Nat) × (Pgs) × (DS)) => ζ.1 ≤ s2.n ∧ ρ5.le ζ.2.1 ∧ PqI ζ.2.1 pb5 fb lb mb5 db t5 ζ.2.2.2.2.1 ζ.2.2.1 k5 ζ.2.2.2.2.2 held5 p5) (fun (ζ : (Nat) × (Hp) × (List MapEntry) × (Nat) × (Pgs) × (DS)) => s2.n - ζ.1) ((0, ρ5, es5, ck5, pg5, D5)) (⟨Nat.zero_le _, Hp.le_refl _, hq5⟩) Zc Zc rfl tk ?_
 rintro ⟨j, ρ7, es7, ck7, pg7, D7⟩ hI
 try simp only [kA, List.append_assoc] at hI ⊢
 try dsimp only at hI ⊢
 obtain ⟨hj, hz7, hq7⟩ := hI
 by_cases hjt : j < s2.n
 ·have hjl : j < (tabL l).length := by omega
  obtain ⟨b, off, C, T, fr, e1, hb, hfit, hc⟩ := (hs5.at'.mono hz7).get hjl
  have hpr := tbl_page hts.tbl (List.getElem_mem hjl)
  rw [e1]
  generalize (tabL l)[j] = y at *
  obtain ⟨yp, ys⟩ := y
  dsimp only at hpr
  obtain ⟨n, rfl⟩ : ∃ n : Nat, yp = (n : Int) := ⟨yp.toNat, by omega⟩
  have hn64 : n < 64 := by omega
  repeat' (first | refine zV ?_ | intro _)
  rename_i b30 b31
  refine Zl [(4, _), (5, _), (15, _), (30, _), (31, _), (202, _), (203, _), (204, _), (205, _), (206, _), (207, _), (208, _), (209, _), (210, _), (211, _), (212, _), (213, _)] (fun (ζ : (Nat) × (CV) × (Yi) × (Nat)) => [(32, .int .u64 ζ.2.2.2), (214, .int .i64 ζ.1)]) (fun (ζ : (Nat) × (CV) × (Yi) × (Nat)) => ρ7) (fun (ζ : (Nat) × (CV) × (Yi) × (Nat)) => [(b30, .cells ⟨[.int .i64 n, .int .u64 ys]⟩ 108 (0, 0))] :: [(b31, .cells ⟨Xo ζ.2.2.1.kind ζ.2.1⟩ 112 (0, 0))] :: stdC sb db lb fb (.slice ra l.length rc) (.slice pa 64 pc) :: ZZ mb5 es7 ck7 :: Zk db k5 D7) (fun (ζ : (Nat) × (CV) × (Yi) × (Nat)) => ζ.1 ≤ l.length ∧ (ζ.2.2.1, ζ.2.2.2) = lastI n (l.take ζ.1) ∧ CIn ρ7 ζ.2.1 ζ.2.2.1.rows ζ.2.2.1.kids) (fun (ζ : (Nat) × (CV) × (Yi) × (Nat)) => l.length - ζ.1) ((0, zCV, ztC, 0)) (⟨Nat.zero_le _, rfl, CIn.nil⟩) Zc Zc rfl tk ?_
  rintro ⟨qi, wl, cl, ll⟩ hI
  try simp only [kA, List.append_assoc] at hI ⊢
  try dsimp only at hI ⊢
  obtain ⟨hqi, hla, hCl⟩ := hI
  by_cases hqt : qi < l.length
  ·obtain ⟨rbk, roff, rC, rT, rfr, re1, rhb, rhfit, rhc⟩ := (hrc5.at'.mono hz7).get hqt
   have hxr := (hrc5.rin _ (List.getElem_mem hqt)).mono hz7
   have htk := List.take_succ_eq_append_getElem hqt
   have hsn := lastI_snoc n (l.take qi) l[qi]
   rw [← htk] at hsn
   rw [re1]
   generalize l[qi] = y at *
   obtain ⟨yv, yr⟩ := y
   dsimp only at hxr hsn rhc
   have hrd := redoes_spec ρ7 yv yr hxr n
   cases hro : Xz yr n with
   | none =>
    rw [hro] at hsn hrd
    repeat' (first | (refine Zb (.func 64) ?_; refine qR rfl rfl (hrd) ?_; try simp only [kA]) | refine zV ?_ | intro _)
    rw [← re1]
    refine Zf (qi + 1, wl, cl, ll) (⟨hqt, hla.trans hsn.symm, hCl⟩) Zc Zc rfl tk inferInstance (by first | omega | (dsimp only; omega))
   | some z =>
    rw [hro] at hsn hrd
    dsimp only at hsn
    have hzm : z ∈ yr.ims := by
     unfold Xz at hro
     split at hro
     ·exact List.mem_of_find?_eq_some hro
     ·cases hro
    have hzc := ((hxr.im z hzm).a).cin
    simp only [contO, Option.isSome_some] at hrd
    repeat' (first | (refine Zb (.func 64) ?_; refine qR rfl rfl (hrd) ?_; try simp only [kA]) | refine zV ?_ | intro _)
    rename_i b34 b35
    refine tpA [0,1,2] (.e 3 [] (.f [4] .o)) ([[(b34, .cells ⟨Xw yv yr⟩ 39 (0, 0))], [(b35, .cells ⟨Xo z.a.kind z.av⟩ 112 (0, 0))]]) ?_
    repeat' (refine iT ?_; first | refine rA ?_ | ((refine iE ?_; refine rE ?_) <;> ((try refine Zn ?_); (first | (refine Yj ?_; try intro _)) <;> ((try simp only [kA]); refine Zi ?_; refine rN ?_))))
    repeat' (first | refine zV ?_ | intro _)
    rw [← re1]
    refine Zf (qi + 1, z.av, z.a, yr.lsn) (⟨hqt, hsn.symm, hzc⟩) Zc Zc rfl tk inferInstance (by first | omega | (dsimp only; omega))
  ·rw [List.take_of_length_le (by omega)] at hla
   have hP := page24 ρ7 pb5 fb lb mb5 db t5 n pg7 es7 ck7 k5 D7 held5 p5 hq7 hn64
   have hpn := hlv5.pg n
   obtain ⟨_, hrl⟩ := run_last n (held n) l hmo.lsn l.length (Nat.le_refl _)
   rw [List.take_length] at hpn hrl
   rw [hrl, ← hla] at hpn
   obtain ⟨gbk, goff, gC, gT, gfr, ge1, ghb, ghfit, ghc⟩ := (hpg5.at'.mono hz7).get (show n < pl.length by omega)
   have hxc := (hpg5.cin _ (List.getElem_mem (show n < pl.length by omega))).mono hz7
   have hxe := hpg5.eq n (by omega)
   rw [ge1]
   generalize pl[n]'(by omega) = y at *
   obtain ⟨yw, yc, yl⟩ := y
   dsimp only at hxc hxe ghc
   rw [← hxe] at hpn
   dsimp only at hpn
   have hS1 := fun ρ8 w8 (h : ρ7.le ρ8) (hC : CIn ρ8 w8 yc.rows yc.kids) => same_spec ρ8 w8 yw yc yc hC (hxc.mono h)
   have hS2 := fun ρ8 w8 (h : ρ7.le ρ8) (hC : CIn ρ8 w8 cl.rows cl.kids) => same_spec ρ8 w8 wl cl cl hC (hCl.mono h)
   simp only [decide_eq_true (rfl : yc = yc), decide_eq_true (rfl : cl = cl)] at hS1 hS2
   by_cases hge : ll ≤ yl
   ·rw [if_pos hge] at hpn
    rw [hpn] at hP
    dsimp only at hP
    repeat' (first | (refine Zb (.func 59) ?_; refine qC rfl rfl hP ?_; rintro v8 ρ8 L8 hle8 ⟨hz8, w8, es8, ck8, pg8, D8, rfl, hC8, hq8, hL8, rfl⟩; have ghb8 := Hp.at' hz8 ghb; try simp only [kA]) | refine zV ?_ | intro _)
    refine tpA [0,1,2,3,4,5,6,7] (.e 8 [] (.e 9 [] .o)) ([stdC sb db lb fb (.slice ra l.length rc) (.slice (some ⟨gbk, goff, none⟩) 64 pc), [(b30, .cells ⟨[.int .i64 n, .int .u64 ys]⟩ 108 (0, 0))]]) ?_
    repeat' (refine iT ?_; first | refine rA ?_ | ((refine iE ?_; refine rE ?_) <;> ((try refine Zn ?_); (first | (refine Yj ?_; try intro _)) <;> ((try simp only [kA]); refine Zi ?_; refine rN ?_))))
    rename_i b40
    repeat' (first | refine zV ?_ | intro _)
    refine tpA [0,1,2,3] (.e 4 [] (.f [5] .o)) ([[(b40, .cells ⟨[.int .i64 yc.kind, .slice yw.ra yw.rn yw.rc, .slice yw.ka yw.kn yw.kc, .int .u64 yl]⟩ 114 (0, 0))]]) ?_
    repeat' (refine iT ?_; first | refine rA ?_ | ((refine iE ?_; refine rE ?_) <;> ((try refine Zn ?_); (first | (refine Yj ?_; try intro _)) <;> ((try simp only [kA]); refine Zi ?_; refine rN ?_))))
    repeat' (first | (refine Zb (.func 60) ?_; refine qR rfl rfl (hS1 _ _ hz8 hC8) ?_; try simp only [kA]) | refine zV ?_ | intro _)
    rw [← e1, ← ge1]
    refine Zf (j + 1, ρ8, es8, ck8, pg8, D8) (⟨hjt, Hp.le_trans hz7 hz8, hq8⟩) Zc Zc rfl tk inferInstance (by first | omega | (dsimp only; omega))
   ·rw [if_neg hge] at hpn
    rw [hpn] at hP
    dsimp only at hP
    repeat' (first | (refine Zb (.func 59) ?_; refine qC rfl rfl hP ?_; rintro v8 ρ8 L8 hle8 ⟨hz8, w8, es8, ck8, pg8, D8, rfl, hC8, hq8, hL8, rfl⟩; have ghb8 := Hp.at' hz8 ghb; try simp only [kA]) | refine zV ?_ | intro _)
    refine tpA [0,1,2,3,4,5,6,7] (.e 8 [] (.e 9 [] .o)) ([stdC sb db lb fb (.slice ra l.length rc) (.slice (some ⟨gbk, goff, none⟩) 64 pc), [(b30, .cells ⟨[.int .i64 n, .int .u64 ys]⟩ 108 (0, 0))]]) ?_
    repeat' (refine iT ?_; first | refine rA ?_ | ((refine iE ?_; refine rE ?_) <;> ((try refine Zn ?_); (first | (refine Yj ?_; try intro _)) <;> ((try simp only [kA]); refine Zi ?_; refine rN ?_))))
    rename_i b40
    repeat' (first | refine zV ?_ | intro _)
    repeat' (first | (refine Zb (.func 60) ?_; refine qR rfl rfl (hS2 _ _ hz8 hC8) ?_; try simp only [kA]) | refine zV ?_ | intro _)
    rw [← e1, ← ge1]
    refine Zf (j + 1, ρ8, es8, ck8, pg8, D8) (⟨hjt, Hp.le_trans hz7 hz8, hq8⟩) Zc Zc rfl tk inferInstance (by first | omega | (dsimp only; omega))
 ·repeat' (first | refine zV ?_ | intro _)
  exact qE (L' := []) ⟨rfl, Hp.le_trans (Hp.le_trans hl03 hz5) hz7, rfl⟩
end Go.Proofs.E
namespace Go.Proofs.E
open Go Go.RowKit
set_option linter.unusedVariables false
set_option linter.unusedSimpArgs false
set_option linter.unusedSectionVars false
set_option maxRecDepth 8000
section
variable {H : Type} {enc : TypeId × Value → H} {w : World}
theorem opn_boolT : Opn enc Tryz.prog w 4 (fun cs (b : Bool) => cs = [bb b] ∧ True) := (opn_bool Tryz.underlying4).mono (fun cs b h => ⟨b, h, trivial⟩)
theorem opn_boolsT : Opn enc Tryz.prog w 60 (fun cs (s : Option Addr × Nat × Nat × List Bool) => cs = [.slice s.1 s.2.1 s.2.2.1] ∧ (SIn (hpOf w) bb s.1 s.2.1 s.2.2.2 ∧ s.2.1 ≤ s.2.2.1 ∧ s.2.1 ≤ 9223372036854775807)) :=
 (opn_slice (sz := 1) Tryz.underlying60 (by kernel_rfl) (by decide) opn_boolT).mono (fun cs s h => by
  obtain ⟨h1, _, h3, h4⟩ := aIn_ofK (g := fun b : Bool => [bb b]) (P := fun _ => True) (fun _ => rfl) h
  exact ⟨s, h.cells, sIn_of1 h1, h3, h4⟩)
theorem opnS_twist : OpnS enc Tryz.prog w 123 (fun cs (x : TwA) => cs = twV x ∧ TwI (hpOf w) x) := fun fuel cs x h hw => by
 obtain ⟨hl, hf⟩ := Xb Tryz.underlying123 h hw
 have hl : cs.length = 2 := by rw [hl]; kernel_rfl
 obtain ⟨c0, c1, rfl⟩ : ∃ c0 c1, cs = [c0, c1] := by
  match cs, hl with
  | [c0, c1], _ => exact ⟨c0, c1, rfl⟩
 obtain ⟨p, h0, p0, p1⟩ := Zx h hw Tryz.underlying123 0 0 1 rfl rfl rfl (by kernel_rfl) (YM Tryz.underlying3).sized
 obtain ⟨⟨a, n, c, l⟩, h1, g1, g2, g3⟩ := Zx h hw Tryz.underlying123 1 1 1 rfl rfl rfl (by kernel_rfl) opn_boolsT.sized
 simp only [List.drop_zero, List.drop_succ_cons, List.take_succ_cons, List.take_zero, List.cons.injEq, and_true] at h0 h1
 simp only [lo, hi] at p0 p1
 subst h0; subst h1
 exact ⟨⟨p, a, n, c, l⟩, rfl, ⟨⟨p0, p1⟩, g1, g2, g3⟩⟩
end
end Go.Proofs.E
