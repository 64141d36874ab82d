/- The law LogRoom. Part 15 of 16. -/
import Derived.Test.YtopfmlbnibfcgaaGreatA14
namespace Go.Proofs.E
open Go
set_option linter.unusedVariables false
set_option linter.unusedSimpArgs false
set_option linter.unusedSectionVars false
set_option maxRecDepth 4000
set_option maxHeartbeats 1000000
attribute [local irreducible] Yl TL TC TE Spec ZN R1 Hp.le EnvLe TS TR YS Zp TP QP
def Halt (p : Prop) : Prop := p
theorem Halt.mk {p : Prop} (h : p) : Halt p := h
theorem halt {x : Cx} {z y : Code} {ops : Array Oper} {d : Bool} {Q : Exit → Act → World → Prop} {E : Env} {ρ : Hp} {L : SH} (n : Nat) (h : Halt (TC x (.seq (.seq (.region n ops d) z) y) Q E ρ L)) : TC x (.seq (.seq (.region n ops d) z) y) Q E ρ L := h
attribute [irreducible] Halt
theorem Rm.mono {S : LgS} {D : DS} {t t' : Nat} (h : Rm S D t) (ht : t ≤ t') : Rm S D t' := ⟨h.good, h.ok, h.rf, h.lsn, h.first, h.base, h.fl, h.ents, h.used, h.size, by have := h.turn; omega, by have := h.next; omega⟩
theorem from_zero (S : LgS) : Yo S 0 = S.recs := by unfold Yo; rw [List.filter_eq_self]; simp
theorem tmodN (a b : Nat) : (a : Int).tmod (b : Int) = ((a % b : Nat) : Int) := (Int.ofNat_tmod a b).symm
structure RmI (ρ : Hp) (S : LgS) (v : Value) (sp : List Value) (w : RW) (k : DK) (D : DS) (t : Nat) : Prop where
 lg : LgIn ρ S v sp
 rg : RIn ρ S.R w
 dk : DOk k D
 rm : Rm S D t
theorem Rm.decs {S : LgS} {D : DS} {t : Nat} (h : Rm S D t) : S.R.ents.map decR = plL S.recs := by
 rw [h.ents, List.map_map]
 exact List.map_congr_left fun x hx => (dec_enc (h.ok x hx) (h.rf x hx)).2
theorem room_flush (ρ : Hp) (lb rb db : Nat) (S : LgS) (v : Value) (sp : List Value) (w : RW) (k : DK) (D : DS) (t : Nat) (x : RR) (h : Rm S D t) (ht : t ≤ 1000) (ha : appE S x.2 0 = 0) (hf : RcF x.2) (hlg : LgIn ρ (S.more x) v sp) (hr : RIn ρ S.R w) (hk : DOk k D) :
  Spec Tryz.prog 25 [.pointer (some ⟨lb, 0, none⟩), .int .u64 (((S.more x).next - 1 : Nat))] ρ (Ye lb rb (S.more x) v :: Xp (S.more x) v sp :: (ZO rb db S.R w ++ Zs db k D))
   (fun z ρ' L' => z = .int .i64 0 ∧ ρ.le ρ' ∧ ∃ S2 w2 k2 D2, RmI ρ' S2 v sp w2 k2 D2 (t + 1) ∧ L' = Ye lb rb S2 v :: Xp S2 v sp :: (ZO rb db S2.R w2 ++ Zs db k2 D2)) := by
 obtain ⟨R', D', fl', hfl, hrm⟩ := h.more ht ha hf
 have hF := flush16_spec ρ lb rb db (S.more x) v sp hlg w hr k D hk ((S.more x).next - 1) (by have e1 := h.fl; have e2 := h.next; show S.fl < _; omega)
 rw [hfl] at hF
 refine hF.mono ?_
 rintro z ρ' L' _ ⟨rfl, hl, w2, k2, hr2, hk2, rfl⟩
 exact ⟨rfl, hl, _, w2, k2, D', ⟨(hlg.mono hl).at R' fl', hr2, hk2, hrm⟩, rfl⟩
theorem room_cut (ρ : Hp) (lb rb db : Nat) (S : LgS) (v : Value) (sp : List Value) (w : RW) (k : DK) (D : DS) (t : Nat) (h : RmI ρ S v sp w k D t) (ht : t ≤ 1000) (fr nx : Nat) (h1 : S.base ≤ fr) (h2 : fr ≤ S.fl + 1) (h3 : 1 ≤ nx) (h4 : nx ≤ 9) :
  Spec Tryz.prog 28 [.pointer (some ⟨lb, 0, none⟩), .int .u64 (fr : Nat), .int .u64 ((0 : Nat) : Int), .int .i64 (nx : Nat)] ρ (Ye lb rb S v :: Xp S v sp :: (ZO rb db S.R w ++ Zs db k D))
   (fun z ρ' L' => z = .int .i64 0 ∧ ρ.le ρ' ∧ ∃ S2 v2 sp2 w2 k2 D2, RmI ρ' S2 v2 sp2 w2 k2 D2 (t + 1) ∧ S2.nx = nx ∧ S2.base = fr ∧ S2.R.h.note = YV [0, nx] 2 ∧ L' = Ye lb rb S2 v2 :: Xp S2 v2 sp2 :: (ZO rb db S2.R w2 ++ Zs db k2 D2)) := by
 obtain ⟨hlg, hr, hk, hm⟩ := h
 obtain ⟨D', e, hrm⟩ := hm.cut ht nx h1 h2
 have hl := hm.len
 have e1 := hm.fl
 have e2 := hm.next
 have e3 := hm.turn
 have hT := trunc16_spec ρ lb rb db S v sp hlg w hr k D hk fr 0 nx hm.good.ro.live h1 h2 (Nat.zero_le _) h3 (by omega) (by unfold LgS.next at e1; omega) (by omega) (by omega) (by omega)
 rw [e] at hT
 refine hT.mono ?_
 rintro z ρ' L' _ ⟨rfl, hl', k2, w2, v2, sp2, hk2, hr2, hlg2, rfl⟩
 exact ⟨rfl, hl', _, v2, sp2, w2, k2, D', ⟨hlg2, hr2, hk2, hrm⟩, rfl, rfl, rfl, rfl⟩
theorem room16_spec (ρ : Hp) (a0 : Option Addr) (n0 c0 : Nat) (l0 : List RR) (h0 : AIn ρ 10 rrV a0 n0 l0) (hP0 : ∀ x ∈ l0, RcW ρ x.1 x.2 ∧ ∀ s ∈ x.2.steps, StpF s) (hb0 : n0 ≤ 9223372036854775807) (a1 : Option Addr) (n1 c1 : Nat) (l1 : List Int) (h1 : SIn ρ i64c a1 n1 l1) (hb1 : n1 ≤ 9223372036854775807) (hP1 : ∀ x ∈ l1, i64in x) :
  Spec Tryz.prog 4 [.slice a0 n0 c0, .slice a1 n1 c1] ρ [] (fun v ρ' L' => v = .bool true ∧ ρ.le ρ' ∧ L' = []) := by
 have hl0 := h0.len
 have hl1 := h1.len
 refine Za Tryz.func4 rfl rfl rfl fun u R => ?_
 simp only [Zf, kA]
 repeat' (first | (refine Zb (.func 7) ?_; refine qC rfl rfl (wakes16_spec _) ?_; rintro v ρ' L' hle ⟨rfl, hw1, rfl⟩ <;> (try simp only [kA])) | (refine Zb (.func 8) ?_; refine qC rfl rfl (knew _ 452 (by omega) (by omega)) ?_; rintro v ρ' L' hle ⟨rfl, db, k0, rfl, hk0, rfl⟩ <;> (try simp only [kA])) | (refine Zb (.func 20) ?_; refine qC rfl rfl (kformat16 _ 450 452 (by omega) (by omega) (by omega) (by omega) db k0 hk0) ?_; rintro z1 ρ1 L1 hle1 ⟨hl1', lb, rb, w1, k1, D1, rfl, hk1, hr1, g1, hlen1, rfl⟩; try simp only [kA, List.append_assoc]) | (refine halt 8 ?_) | refine zV ?_ | intro _)
 refine Halt.mk ?_
 refine tc_seq ?_
 refine tc_cut_k R [] (fun (ζ : (Hp) × (LgS) × (Value) × (List Value) × (RW) × (DK) × (DS)) => [(5, .pointer (some ⟨db, 0, none⟩)), (7, .pointer (some ⟨lb, 0, none⟩))]) (fun (ζ : (Hp) × (LgS) × (Value) × (List Value) × (RW) × (DK) × (DS)) => ζ.1) (fun (ζ : (Hp) × (LgS) × (Value) × (List Value) × (RW) × (DK) × (DS)) => Ye lb rb ζ.2.1 ζ.2.2.1 :: Xp ζ.2.1 ζ.2.2.1 ζ.2.2.2.1 :: (ZO rb db ζ.2.1.R ζ.2.2.2.2.1 ++ Zs db ζ.2.2.2.2.2.1 ζ.2.2.2.2.2.2)) (fun (ζ : (Hp) × (LgS) × (Value) × (List Value) × (RW) × (DK) × (DS)) => ρ.le ζ.1 ∧ RmI ζ.1 ζ.2.1 ζ.2.2.1 ζ.2.2.2.1 ζ.2.2.2.2.1 ζ.2.2.2.2.2.1 ζ.2.2.2.2.2.2 500) Zc ?_ ?_
 ·repeat' (first | refine zV ?_ | intro _)
  have hw2 := Hp.le_trans hw1 hl1'
  refine Zm [(0, _), (1, _), (5, _), (6, _), (7, _)] (fun (ζ : (Nat) × (Nat) × (Hp) × (LgS) × (Value) × (List Value) × (RW) × (DK) × (DS)) => [(33, .int .i64 ζ.1), (9, .int .i64 ζ.2.1), (4, .bool false)]) (fun (ζ : (Nat) × (Nat) × (Hp) × (LgS) × (Value) × (List Value) × (RW) × (DK) × (DS)) => ζ.2.2.1) (fun (ζ : (Nat) × (Nat) × (Hp) × (LgS) × (Value) × (List Value) × (RW) × (DK) × (DS)) => Ye lb rb ζ.2.2.2.1 ζ.2.2.2.2.1 :: Xp ζ.2.2.2.1 ζ.2.2.2.2.1 ζ.2.2.2.2.2.1 :: (ZO rb db ζ.2.2.2.1.R ζ.2.2.2.2.2.2.1 ++ Zs db ζ.2.2.2.2.2.2.2.1 ζ.2.2.2.2.2.2.2.2)) (fun (ζ : (Nat) × (Nat) × (Hp) × (LgS) × (Value) × (List Value) × (RW) × (DK) × (DS)) => ζ.1 ≤ 200 ∧ ζ.2.1 ≤ ζ.1 ∧ ρ.le ζ.2.2.1 ∧ RmI ζ.2.2.1 ζ.2.2.2.1 ζ.2.2.2.2.1 ζ.2.2.2.2.2.1 ζ.2.2.2.2.2.2.1 ζ.2.2.2.2.2.2.2.1 ζ.2.2.2.2.2.2.2.2 (2 * ζ.1)) (fun (ζ : (Nat) × (Nat) × (Hp) × (LgS) × (Value) × (List Value) × (RW) × (DK) × (DS)) => 200 - ζ.1) ((0, 0, ρ1, newLg ⟨ZC 450, [], 0, false⟩, .slice none 0 0, [], w1, k1, D1)) (⟨Nat.zero_le _, Nat.zero_le _, hw2, newLg_in, hr1, hk1, Rm.fresh g1⟩) Zc Zc rfl tk ?_
  rintro ⟨i, nn, ρ2, S, v, sp, w, k, D⟩ hI
  try simp only [kA, List.append_assoc] at hI ⊢
  try dsimp only at hI ⊢
  obtain ⟨hi, hnn, hle2, hS⟩ := hI
  have hgo : RmI ρ2 S v sp w k D 500 := ⟨hS.lg, hS.rg, hS.dk, hS.rm.mono (by omega)⟩
  by_cases hlt : i < 200
  ·by_cases h00 : n0 = 0
   ·repeat' (first | refine zV ?_ | intro _)
    refine YW ((ρ2, S, v, sp, w, k, D)) (⟨hle2, hgo⟩) Zc Zc rfl tk inferInstance
   ·have hmi : i % n0 < n0 := Nat.mod_lt _ (by omega)
    obtain ⟨b, off, C, T, fr, rfl, hb, hfit, hc⟩ := (h0.mono hle2).get (show i % n0 < l0.length by omega)
    obtain ⟨hx, hxs⟩ := hP0 _ (List.getElem_mem (show i % n0 < l0.length by omega))
    have hxm := hx.mono hle2
    generalize l0[i % n0]'(by omega) = x at *
    have htm := tmodN i n0
    have hte : i % n0 = ((i : Int).tmod (n0 : Int)).toNat := by rw [htm]; rfl
    have hn := hS.lg.next
    rw [hte] at hc hfit
    have hrec := op16_rec ρ2 ⟨0, 0, 0, 0, 0, 0, true, x.1, x.2, ⟨none, 0, 0⟩⟩ S.next (by omega) hxm hxs
    simp only [op16V] at hrec
    have hN := XC ρ2 lb rb S v sp hS.lg
    repeat' (first | refine zV ?_ | intro _)
    refine tc_cut_k R [(0, _), (1, _), (4, _), (5, _), (6, _), (7, _), (9, _), (10, _), (33, _)] (fun (ζ : (Hp) × (Nat) × (RR)) => [(11, .pointer (some ⟨ζ.2.1, 0, none⟩))]) (fun (ζ : (Hp) × (Nat) × (RR)) => ζ.1) (fun (ζ : (Hp) × (Nat) × (RR)) => [(ζ.2.1, .cells ⟨rrV ζ.2.2⟩ 39 (0, 0))] :: Ye lb rb S v :: Xp S v sp :: (ZO rb db S.R w ++ Zs db k D)) (fun (ζ : (Hp) × (Nat) × (RR)) => ρ2.le ζ.1 ∧ RcIn ζ.1 ζ.2.2.1 ζ.2.2.2 ∧ RcF ζ.2.2.2) Zc ?_ ?_
    ·refine tpA [0,1,2,3,4,5,6,7,8] (.b 9 11 [] [] (.b 10 11 [] [] (.e 11 [] (.e 12 [] .o)) (.e 10 [] (.e 12 [] .o))) (.e 9 [] (.e 10 [] (.e 12 [] .o)))) ([]) ?_
     repeat' (refine iT ?_; first | refine rAb ?_ | ((first | (refine iE ?_; refine rE ?_) | (refine iB ?_; refine rB ?_ ?_)) <;> ((try refine Zr ?_); (first | (refine Zb (.func 22) ?_; refine qC rfl rfl (hN) ?_; rintro v ρ' L' hle ⟨rfl, rfl, rfl⟩ <;> (try simp only [kA])) | (refine Zb (.func 21) ?_; refine qC rfl rfl (hrec) ?_; rintro v ρ' L' hle ⟨⟨hl3, v3, r3, rfl, hin3, hf3⟩, rfl⟩ <;> (try simp only [kA])) | (refine qEf ?_; try intro _)) <;> ((try simp only [kA]); refine Zj ?_; refine rN ?_))))
     all_goals first | (rename_i b11; refine YW (_, b11, (v3, r3)) ⟨hl3, hin3, hf3⟩ Zc Zc rfl tk inferInstance) | (rename_i b11 _; refine YW (_, b11, (v3, r3)) ⟨hl3, hin3, hf3⟩ Zc Zc rfl tk inferInstance) | (rename_i b11 _ _; refine YW (_, b11, (v3, r3)) ⟨hl3, hin3, hf3⟩ Zc Zc rfl tk inferInstance) | (rename_i b11 _ _ _; refine YW (_, b11, (v3, r3)) ⟨hl3, hin3, hf3⟩ Zc Zc rfl tk inferInstance) | (rename_i b11 _ _ _ _; refine YW (_, b11, (v3, r3)) ⟨hl3, hin3, hf3⟩ Zc Zc rfl tk inferInstance) | (rename_i b11 _ _ _ _ _; refine YW (_, b11, (v3, r3)) ⟨hl3, hin3, hf3⟩ Zc Zc rfl tk inferInstance) | (rename_i b11 _ _ _ _ _ _; refine YW (_, b11, (v3, r3)) ⟨hl3, hin3, hf3⟩ Zc Zc rfl tk inferInstance)
    ·rintro ⟨ρ3, b11, yv, yr⟩ ⟨hl3, hy, hyf⟩
     simp only [kA] at hy hyf ⊢
     have hle3 := Hp.le_trans hle2 hl3
     have hlg3 := hS.lg.mono hl3
     by_cases ha : appE S yr 0 = 0
     ·have hA := append16_yes ρ3 lb rb S v sp hlg3 (yv, yr) hy 0 ha
      obtain ⟨_, _, hus2, _⟩ := app_facts ha
      replace hus2 : ZH (S.more (yv, yr)).recs ≤ 400 := by show ZH (S.recs ++ [(yv, yr)]) ≤ 400; rw [usedR_add]; simpa [ZH] using hus2
      have hnb2 : (S.more (yv, yr)).next = S.next + 1 := by simp [LgS.next, LgS.more]; omega
      have hnx : ((S.more (yv, yr)).next : Int) - 1 = (((S.more (yv, yr)).next - 1 : Nat) : Int) := by omega
      have hF := fun ρ4 v4 sp4 (hl4 : ρ3.le ρ4) (h4 : LgIn ρ4 (S.more (yv, yr)) v4 sp4) => room_flush ρ4 lb rb db S v4 sp4 w k D (2 * i) (yv, yr) hS.rm (by omega) ha hyf h4 ((hS.rg.mono hl3).mono hl4) hS.dk
      have h7 : ((nn : Int) + 1).tmod 7 = (((nn + 1) % 7 : Nat) : Int) := tmodN (nn + 1) 7
      by_cases hc1 : n1 = 0
      case' neg => by_cases hc2 : (nn + 1) % 7 = 3
      all_goals
       repeat' (first | (refine Zb (.func 23) ?_; refine qC rfl rfl hA ?_; rintro z4 ρ4 L4 hle4 ⟨rfl, hl4, v4, sp4, hlg4, rfl⟩; simp only [kA]) | (refine Zb (.func 24) ?_; refine qC rfl rfl ((used16_spec _ lb rb (S.more (yv, yr)) _)) ?_; rintro v ρ' L' hle ⟨rfl, rfl, rfl⟩ <;> (try simp only [kA])) | (refine Zb (.func 22) ?_; refine qC rfl rfl ((XC _ lb rb (S.more (yv, yr)) _ _ hlg4)) ?_; rintro v ρ' L' hle ⟨rfl, rfl, rfl⟩ <;> (try simp only [kA])) | (refine Zb (.func 25) ?_; simp only [hnx]; refine qC rfl rfl (hF _ _ _ hl4 hlg4) ?_; rintro z5 ρ5 L5 hle5 ⟨rfl, hl5, S2, w5, k5, D5, hS2, rfl⟩; simp only [kA]) | refine zV ?_ | intro _)
       have hle5 := Hp.le_trans hle3 (Hp.le_trans hl4 hl5)
      ·have hmi1 : (nn + 1) % n1 < n1 := Nat.mod_lt _ (by omega)
       obtain ⟨b1, off1, C1, T1, fr1, rfl, hb1', hc1'⟩ := (h1.mono hle5).get (show (nn + 1) % n1 < l1.length by omega)
       have hci := hP1 _ (List.getElem_mem (show (nn + 1) % n1 < l1.length by omega))
       generalize l1[(nn + 1) % n1]'(by omega) = c at *
       obtain ⟨hci1, hci2⟩ := hci
       have htm1 : ((nn : Int) + 1).tmod (n1 : Int) = (((nn + 1) % n1 : Nat) : Int) := tmodN (nn + 1) n1
       have hte1 : (nn + 1) % n1 = (((nn : Int) + 1).tmod (n1 : Int)).toNat := by rw [htm1]; rfl
       rw [hte1] at hc1'
       obtain ⟨m, hm⟩ : ∃ m : Nat, max c 0 = (m : Int) := ⟨(max c 0).toNat, by omega⟩
       have hm8 : (max c 0).tmod 8 = ((m % 8 : Nat) : Int) := by rw [hm]; exact tmodN m 8
       have hmb : m % 8 < 8 := Nat.mod_lt _ (by omega)
       have hbb := hS2.lg.base
       have g1 := hS2.rm.fl
       have g2 := hS2.rm.next
       have hfr : (S2.base : Int) + (max c 0).tmod 8 = ((S2.base + m % 8 : Nat) : Int) := by rw [hm8]; omega
       have hT := fun h2 => room_cut ρ5 lb rb db S2 v4 sp4 w5 k5 D5 (2 * i + 1) hS2 (by omega) (S2.base + m % 8) 1 (by omega) h2 (by omega) (by omega)
       refine tpA [0,2,3,4,5,6,7,8,9,10,11] (.e 1 [] (.f [12,13] .o)) ([]) ?_
       repeat' (refine iT ?_; first | refine rA ?_ | ((refine iE ?_; refine rE ?_) <;> ((try refine Zr ?_); (first | (refine Zb (.func 26) ?_; refine qC rfl rfl ((base16_spec _ lb rb S2 _)) ?_; rintro v ρ' L' hle ⟨rfl, rfl, rfl⟩ <;> (try simp only [kA])) | (refine qEf ?_; try intro _)) <;> ((try simp only [kA]); refine Zj ?_; refine rN ?_))))
       all_goals rw [hfr]
       all_goals
        by_cases hfl : S2.base + m % 8 ≤ S2.fl + 1
        ·replace hT := hT hfl
         repeat' (first | (refine Zb (.func 27) ?_; refine qC rfl rfl ((flushed16_spec _ lb rb S2 _)) ?_; rintro v ρ' L' hle ⟨rfl, rfl, rfl⟩ <;> (try simp only [kA])) | (refine Zb (.func 28) ?_; refine qC rfl rfl hT ?_; rintro z6 ρ6 L6 hle6 ⟨rfl, hl6, S3, v6, sp6, w6, k6, D6, hS3, -, -, -, rfl⟩; simp only [kA]) | refine zV ?_ | intro _)
         refine Zi (i + 1, nn + 1, ρ6, S3, v6, sp6, w6, k6, D6) (⟨hlt, by dsimp only; omega, Hp.le_trans hle5 hl6, ⟨hS3.lg, hS3.rg, hS3.dk, hS3.rm.mono (by omega)⟩⟩) Zc Zc rfl tk inferInstance (by first | omega | (dsimp only; omega))
        ·repeat' (first | (refine Zb (.func 27) ?_; refine qC rfl rfl ((flushed16_spec _ lb rb S2 _)) ?_; rintro v ρ' L' hle ⟨rfl, rfl, rfl⟩ <;> (try simp only [kA])) | refine zV ?_ | intro _)
         refine Zi (i + 1, nn + 1, _, S2, v4, sp4, w5, k5, D5) (⟨hlt, by dsimp only; omega, hle5, ⟨hS2.lg, hS2.rg, hS2.dk, hS2.rm.mono (by omega)⟩⟩) Zc Zc rfl tk inferInstance (by first | omega | (dsimp only; omega))
      all_goals
       refine Zi (i + 1, nn + 1, ρ5, S2, v4, sp4, w5, k5, D5) (⟨hlt, by dsimp only; omega, hle5, ⟨hS2.lg, hS2.rg, hS2.dk, hS2.rm.mono (by omega)⟩⟩) Zc Zc rfl tk inferInstance (by first | omega | (dsimp only; omega))
     ·have hA := append16_no ρ3 lb rb S v sp hlg3 (yv, yr) hy 0 ha
      by_cases ha2 : appE S yr 0 = 261
      ·repeat' (first | (refine Zb (.func 23) ?_; refine qC rfl rfl hA ?_; dsimp only; rw [ha2]; rintro z4 ρ4 L4 hle4 ⟨rfl, hl4, rfl⟩; simp only [kA]) | refine zV ?_ | intro _)
       refine YW ((_, S, v, sp, w, k, D)) (⟨Hp.le_trans hle3 hl4, ⟨hlg3.mono hl4, (hS.rg.mono hl3).mono hl4, hS.dk, hS.rm.mono (by omega)⟩⟩) Zc Zc rfl tk inferInstance
      ·repeat' (first | (refine Zb (.func 23) ?_; refine qC rfl rfl hA ?_; dsimp only; rintro z4 ρ4 L4 hle4 ⟨rfl, hl4, rfl⟩; simp only [kA]) | refine zV ?_ | intro _)
       refine Zi (i + 1, nn, ρ4, S, v, sp, w, k, D) (⟨hlt, by dsimp only; omega, Hp.le_trans hle3 hl4, ⟨hlg3.mono hl4, (hS.rg.mono hl3).mono hl4, hS.dk, hS.rm.mono (by omega)⟩⟩) Zc Zc rfl tk inferInstance (by first | omega | (dsimp only; omega))
  ·repeat' (first | refine zV ?_ | intro _)
   refine YW ((ρ2, S, v, sp, w, k, D)) (⟨hle2, hgo⟩) Zc Zc rfl tk inferInstance
 ·rintro ⟨ρ2, S, v, sp, w, k, D⟩ ⟨hle2, hS⟩
  dsimp only at hle2 hS ⊢
  simp only [kA]
  have e1 := hS.rm.fl
  have hT := room_cut ρ2 lb rb db S v sp w k D 500 hS (by omega) S.base 5 (Nat.le_refl _) (by unfold LgS.next at e1; omega) (by omega) (by omega)
  repeat' (first | (refine Zb (.func 26) ?_; refine qC rfl rfl ((base16_spec _ lb rb _ _)) ?_; rintro v ρ' L' hle ⟨rfl, rfl, rfl⟩ <;> (try simp only [kA])) | (refine Zb (.func 29) ?_; refine qC rfl rfl ((ntxn16_spec _ lb rb _ _)) ?_; rintro v ρ' L' hle ⟨rfl, rfl, rfl⟩ <;> (try simp only [kA])) | (refine Zb (.func 28) ?_; refine qC rfl rfl hT ?_; rintro z3 ρ3 L3 hle3 ⟨rfl, hl3, S3, v3, sp3, w3, k3, D3, ⟨hlg3, hrg3, hdk3, hrm3⟩, hx3, hb3, hn3, rfl⟩; have hx3' : S3.nx = 5 := hx3; simp only [kA]) | (refine Zb (.func 30) ?_; refine qC rfl rfl (recs16_spec _ lb rb S3 v3 sp3 hlg3 S3.base) ?_; rintro z4 ρ4 L4 hle4 ⟨hl4, sp4, hown4, rfl⟩; simp only [kA]; refine ZJ (Zw z4 (Xm (Yo S3 S3.base)) sp4 39) (fun ρ5 hl5 hfz5 => ?_); obtain ⟨a4, c4, rfl, hc4, hA4⟩ := hown4.aIn (g := rrV) (l := Yo S3 S3.base) rfl (fun _ _ => rfl) hfz5) | refine zV ?_ | intro _)
  obtain ⟨Da, ga, hop⟩ := gopen2 ρ5 db k3 D3 hdk3 S3.R hrm3.good.ro hrm3.good.calm (by have := hrm3.turn; omega)
  have hl3' := hrm3.len
  have e3 := hrm3.next
  have hnf : S3.R.h.first + S3.R.ents.length = S3.next := by unfold LgS.next; rw [hrm3.first, hl3']
  have hdec : ∀ (i : Nat) (hi : i < S3.R.ents.length), ∃ hi' : i < S3.recs.length, S3.R.ents[i] = Xa (S3.recs[i]).2 := fun i hi => ⟨by omega, by
   have := List.getElem_of_eq hrm3.ents hi
   rw [this, List.getElem_map]⟩
  have hO := lopen_spec ρ5 db k3 D3 Da S3.R.again hop 0 ((5 : Nat) : Int) (fun S' h1 _ _ => by rw [show S3.R.again.h.note = S3.R.h.note from rfl, hn3, note_back]) (by show S3.R.h.first ≤ _; omega) (by show 0 < S3.R.h.first + S3.R.ents.length; have := hrm3.base; have := hrm3.first; omega)
   (fun i hi => by
    obtain ⟨hi', e⟩ := hdec i hi
    have hd := dec_enc (hrm3.ok _ (List.getElem_mem hi')) (hrm3.rf _ (List.getElem_mem hi'))
    show decOk (S3.R.ents[i]) = true ∧ (decR (S3.R.ents[i])).lsn = S3.R.h.first + i
    rw [e, hd.1, hd.2]
    exact ⟨rfl, by rw [hrm3.first]; exact hrm3.lsn i hi'⟩) (by show S3.R.ents.length ≤ _; unfold LgS.next at e3; omega)
  have hO2 := hO.mono (Post' := fun v ρ' L' => ρ5.le ρ' ∧ ∃ lb2 rb2 v6 sp6 Y X6, v = .tuple ⟨[.pointer (some ⟨lb2, 0, none⟩), .int .i64 0]⟩ ∧ LgIn ρ' Y v6 sp6 ∧ Y.base = S3.base ∧ plL Y.recs = plL S3.recs ∧ L' = Ye lb2 rb2 Y v6 :: Xp Y v6 sp6 :: X6) (by
   rintro z ρ' L' _ ⟨hl, lb2, rb2, w6, k6, l6, v6, sp6, rfl, _, _, hlg, hp, rfl⟩
   refine ⟨hl, lb2, rb2, v6, sp6, _, _, rfl, hlg, hrm3.first, ?_, rfl⟩
   show l6.map _ = _
   rw [hp]
   exact hrm3.decs)
  have hf3 : Yo S3 S3.base = S3.recs := by rw [hrm3.from, Nat.sub_self, List.drop_zero]
  rw [hf3] at hA4 ⊢
  clear hO hop
  have hb6 := hlg3.len
  have hlx := Hp.le_trans hl3 (Hp.le_trans hl4 hl5)
  repeat' (first | (refine Zb (.func 17) ?_; refine qC rfl rfl hO2 ?_; rintro z6 ρ6 L6 hle6 ⟨hl6, lb2, rb2, v6, sp6, Y, X6, rfl, hlg6, hYb, hYp, rfl⟩; have hYu := usedR_plain hYp; simp only [kA]) | (refine Zb (.func 26) ?_; refine qC rfl rfl ((base16_spec _ lb2 rb2 Y v6)) ?_; rintro v ρ' L' hle ⟨rfl, rfl, rfl⟩ <;> (try simp only [kA, hYb])) | (refine Zb (.func 26) ?_; refine qC rfl rfl ((base16_spec _ lb rb S3 v3)) ?_; rintro v ρ' L' hle ⟨rfl, rfl, rfl⟩ <;> (try simp only [kA])) | (refine Zb (.func 24) ?_; refine qC rfl rfl ((used16_spec _ lb2 rb2 Y v6)) ?_; rintro v ρ' L' hle ⟨rfl, rfl, rfl⟩ <;> (try simp only [kA, hYu])) | (refine Zb (.func 24) ?_; refine qC rfl rfl ((used16_spec _ lb rb S3 v3)) ?_; rintro v ρ' L' hle ⟨rfl, rfl, rfl⟩ <;> (try simp only [kA])) | (refine Zb (.func 30) ?_; refine qC rfl rfl (recs16_spec _ lb2 rb2 Y v6 sp6 hlg6 0) ?_; rw [from_zero]; rintro z7 ρ7 L7 hle7 ⟨hl7, sp7, hown7, rfl⟩; simp only [kA]; refine ZJ (Zw z7 (Xm Y.recs) sp7 39) (fun ρ8 hl8 hfz8 => ?_); obtain ⟨a8, c8, rfl, hc8, hA8⟩ := hown7.aIn (g := rrV) (l := Y.recs) rfl (fun _ _ => rfl) hfz8; have h58 := Hp.le_trans hl6 (Hp.le_trans hl7 hl8)) | (refine Zb (.func 31) ?_; refine qC rfl rfl ((eqRR_spec _ _ _ _ _ _ _ _ _ hA8 (hA4.mono h58) (fun x hx => (hlg6.rin x hx).mono (Hp.le_trans hl7 hl8)) (fun x hx => (hlg3.rin x hx).mono (Hp.le_trans (Hp.le_trans hl4 hl5) h58)) hYp hlg6.len)) ?_; rintro v ρ' L' hle ⟨rfl, rfl, rfl⟩ <;> (try simp only [kA])) | refine zV ?_ | intro _)
  have hfin := Hp.le_trans hle2 (Hp.le_trans hlx h58)
  exact qE (L' := []) ⟨rfl, hfin, rfl⟩
end Go.Proofs.E
namespace Go.Proofs.E
open Go Go.RowKit
set_option linter.unusedVariables false
set_option linter.unusedSimpArgs false
set_option linter.unusedSectionVars false
set_option maxRecDepth 8000
theorem rsw_flat {α : Type} {sz : Nat} {g : α → List Value} {C : List Value} {off : Nat} : ∀ (l : List α) (k : Nat), k ≤ l.length → (∀ i (h : i < l.length), (C.drop (off + i * sz)).take sz = g l[i]) → (C.drop off).take (k * sz) = ((l.take k).map g).flatten
 | l, 0, _, _ => by simp
 | l, k + 1, hk, h => by
  have ih := rsw_flat l k (by omega) h
  rw [show l.take (k + 1) = l.take k ++ [l[k]'(by omega)] from List.take_succ_eq_append_getElem (by omega), Nat.add_mul, Nat.one_mul, List.take_add, ih, List.drop_drop, h k (by omega)]
  simp only [List.map_append, List.flatten_append, List.map_cons, List.map_nil, List.flatten_cons, List.flatten_nil, List.append_nil]
theorem aIn_ofW {ρ : Hp} {α : Type} {sz : Nat} {g : α → List Value} {P : α → Prop} {cs : List Value} {s : Option Addr × Nat × Nat × List α} (hg : ∀ x, (g x).length = sz) (h : RS ρ sz (fun cs x => cs = g x ∧ P x) cs s) : AIn ρ sz g s.1 s.2.1 s.2.2.2 ∧ (∀ x ∈ s.2.2.2, P x) ∧ s.2.1 ≤ s.2.2.1 ∧ s.2.1 ≤ 9223372036854775807 := by
 obtain ⟨a, n, c, ks⟩ := s
 obtain ⟨h1, h2, h3, h4, h5⟩ := h
 dsimp only at h1 h2 h3 h4 h5 ⊢
 refine ⟨⟨h4, ?_, fun x _ => hg x⟩, fun x hx => ?_, h2, by omega⟩
 ·by_cases h0 : n = 0
  ·exact .inl h0
  ·right
   obtain ⟨b, off, C, T, fr, e1, e2, e3, e4⟩ := h5 0 (by omega)
   have same : ∀ i (h : i < ks.length), off + i * sz + sz ≤ C.length ∧ (C.drop (off + i * sz)).take sz = g ks[i] := fun i hi => by
    obtain ⟨b', off', C', T', fr', f1, f2, f3, f4⟩ := h5 i hi
    rw [e1] at f1
    cases f1
    rw [e2] at f2
    cases f2
    exact ⟨f3, f4.1⟩
   refine ⟨b, off, C, T, fr, e1, e2, ?_, ?_⟩
   ·have := (same (n - 1) (by omega)).1
    have e : n * sz = (n - 1) * sz + sz := by
     obtain ⟨m, rfl⟩ : ∃ m, n = m + 1 := ⟨n - 1, by omega⟩
     rw [Nat.add_mul]; simp
    omega
   ·have := rsw_flat (sz := sz) (g := g) ks n (by omega) (fun i hi => (same i hi).2)
    rw [this, List.take_of_length_le (by omega)]
 ·obtain ⟨i, hi, rfl⟩ := List.mem_iff_getElem.1 hx
  obtain ⟨_, _, _, _, _, _, _, _, f⟩ := h5 i hi
  exact f.2
section
variable {H : Type} {enc : TypeId × Value → H} {w : World}
theorem opnS_str : OpnS enc Tryz.prog w 9 (fun cs (l : List UInt8) => cs = [strV l]) := Opn.sized (fun fuel cs x h => by
 obtain ⟨s, rfl, _, _⟩ := DataW.trod_string Tryz.underlying9 h
 obtain ⟨⟨l⟩⟩ := s
 exact ⟨l, rfl⟩)
theorem opnS_key : OpnS enc Tryz.prog w 129 (fun cs (k : Int × Nat) => cs = keyV k.1 k.2 ∧ k.2 < 65536) := Opn.sized (fun fuel cs x h => by
 obtain ⟨hl, hf⟩ := opn_fields Tryz.underlying129 h
 have hl : cs.length = 2 := by rw [hl]; kernel_rfl
 obtain ⟨c0, c1, rfl⟩ : ∃ c0 c1, cs = [c0, c1] := by
  match cs, hl with
  | [c0, c1], _ => exact ⟨c0, c1, rfl⟩
 obtain ⟨t, h0, _⟩ := opn_field h Tryz.underlying129 0 0 1 rfl rfl rfl (by kernel_rfl) (YC Tryz.underlying3)
 obtain ⟨i, h1, i0, i1⟩ := opn_field h Tryz.underlying129 1 1 1 rfl rfl rfl (by kernel_rfl) (YC Tryz.underlying127)
 simp only [List.drop_zero, List.drop_succ_cons, List.take_succ_cons, List.take_zero, List.cons.injEq, and_true] at h0 h1
 subst h0; subst h1
 simp only [lo, hi] at i0 i1
 refine ⟨(t, i.toNat), ?_, by dsimp only; omega⟩
 have : ((i.toNat : Nat) : Int) = i := by omega
 simp only [keyV, this])
theorem opnS_row : OpnS enc Tryz.prog w 131 (fun cs (r : Row) => cs = Yi r ∧ Xs r) := fun fuel cs x h hw => by
 obtain ⟨hl, hf⟩ := Xo Tryz.underlying131 h hw
 have hl : cs.length = 4 := by rw [hl]; kernel_rfl
 obtain ⟨c0, c1, c2, c3, rfl⟩ : ∃ c0 c1 c2 c3, cs = [c0, c1, c2, c3] := by
  match cs, hl with
  | [c0, c1, c2, c3], _ => exact ⟨c0, c1, c2, c3, rfl⟩
 obtain ⟨⟨t, i⟩, h0, hi0⟩ := ZA h hw Tryz.underlying131 0 0 2 rfl rfl rfl (by kernel_rfl) opnS_key
 obtain ⟨v, h1, v0, v1⟩ := ZA h hw Tryz.underlying131 1 2 1 rfl rfl rfl (by kernel_rfl) (YC Tryz.underlying2).sized
 obtain ⟨s, h2⟩ := ZA h hw Tryz.underlying131 2 3 1 rfl rfl rfl (by kernel_rfl) opnS_str
 simp only [List.drop_zero, List.drop_succ_cons, List.take_succ_cons, List.take_zero, List.cons.injEq, and_true, keyV] at h0 h1 h2
 obtain ⟨rfl, rfl⟩ := h0
 subst h1; subst h2
 simp only [lo, hi] at v0 v1
 exact ⟨⟨t, i, v, s⟩, rfl, ⟨hi0, v0, v1⟩⟩
theorem opnS_kid : OpnS enc Tryz.prog w 212 (fun cs (k : Kid) => cs = Xi k ∧ k.id < 65536) := fun fuel cs x h hw => by
 obtain ⟨hl, hf⟩ := Xo Tryz.underlying212 h hw
 have hl : cs.length = 3 := by rw [hl]; kernel_rfl
 obtain ⟨c0, c1, c2, rfl⟩ : ∃ c0 c1 c2, cs = [c0, c1, c2] := by
  match cs, hl with
  | [c0, c1, c2], _ => exact ⟨c0, c1, c2, rfl⟩
 obtain ⟨⟨t, i⟩, h0, hi0⟩ := ZA h hw Tryz.underlying212 0 0 2 rfl rfl rfl (by kernel_rfl) opnS_key
 obtain ⟨v, h1, _⟩ := ZA h hw Tryz.underlying212 1 2 1 rfl rfl rfl (by kernel_rfl) (YC Tryz.underlying3).sized
 simp only [List.drop_zero, List.drop_succ_cons, List.take_succ_cons, List.take_zero, List.cons.injEq, and_true, keyV] at h0 h1
 obtain ⟨rfl, rfl⟩ := h0
 subst h1
 exact ⟨⟨t, i, v⟩, rfl, hi0⟩
theorem opnS_cont : OpnS enc Tryz.prog w 104 (fun cs (x : CV × XX) => cs = Wy x.2.kind x.1 ∧ CW (hpOf w) x.1 x.2) := fun fuel cs x h hw => by
 obtain ⟨hl, hf⟩ := Xo Tryz.underlying104 h hw
 have hl : cs.length = 3 := by rw [hl]; kernel_rfl
 obtain ⟨c0, c1, c2, rfl⟩ : ∃ c0 c1 c2, cs = [c0, c1, c2] := by
  match cs, hl with
  | [c0, c1, c2], _ => exact ⟨c0, c1, c2, rfl⟩
 obtain ⟨k, h0, _⟩ := ZA h hw Tryz.underlying104 0 0 1 rfl rfl rfl (by kernel_rfl) (YC Tryz.underlying3).sized
 obtain ⟨⟨ra, rn, rc, rows⟩, h1, w1⟩ := ZA h hw Tryz.underlying104 1 1 1 rfl rfl rfl (by kernel_rfl) (XV (sz := 4) (by' := 40) Tryz.underlying101 (by kernel_rfl) (by decide) (by kernel_rfl) opnS_row)
 obtain ⟨⟨ka, kn, kc, kids⟩, h2, w2⟩ := ZA h hw Tryz.underlying104 2 2 1 rfl rfl rfl (by kernel_rfl) (XV (sz := 3) (by' := 24) Tryz.underlying102 (by kernel_rfl) (by decide) (by kernel_rfl) opnS_kid)
 obtain ⟨g1, g2, g3, _⟩ := aIn_ofW rowV_len h1
 obtain ⟨k1, k2, k3, _⟩ := aIn_ofW kidV_len h2
 simp only [reachBytes] at w1 w2
 replace h1 := h1.cells
 replace h2 := h2.cells
 simp only [List.drop_zero, List.drop_succ_cons, List.take_succ_cons, List.take_zero, List.cons.injEq, and_true] at h0 h1 h2
 subst h0; subst h1; subst h2
 exact ⟨(⟨ra, rn, rc, ka, kn, kc⟩, ⟨k, rows, kids⟩), rfl, ⟨g1, k1, by dsimp only; omega, by dsimp only; omega, g3, k3, g2, k2⟩⟩
theorem opnS_image : OpnS enc Tryz.prog w 125 (fun cs (x : Im) => cs = imV x ∧ (CW (hpOf w) x.bv x.b ∧ CW (hpOf w) x.av x.a)) := fun fuel cs x h hw => by
 obtain ⟨hl, hf⟩ := Xo Tryz.underlying125 h hw
 have hl : cs.length = 7 := by rw [hl]; kernel_rfl
 obtain ⟨c0, c1, c2, c3, c4, c5, c6, rfl⟩ : ∃ c0 c1 c2 c3 c4 c5 c6, cs = [c0, c1, c2, c3, c4, c5, c6] := by
  match cs, hl with
  | [c0, c1, c2, c3, c4, c5, c6], _ => exact ⟨c0, c1, c2, c3, c4, c5, c6, rfl⟩
 obtain ⟨k, h0, _⟩ := ZA h hw Tryz.underlying125 0 0 1 rfl rfl rfl (by kernel_rfl) (YC Tryz.underlying3).sized
 obtain ⟨⟨bv, b⟩, h1, w1⟩ := ZA h hw Tryz.underlying125 1 1 3 rfl rfl rfl (by kernel_rfl) opnS_cont
 obtain ⟨⟨av, a⟩, h2, w2⟩ := ZA h hw Tryz.underlying125 2 4 3 rfl rfl rfl (by kernel_rfl) opnS_cont
 simp only [List.drop_zero, List.drop_succ_cons, List.take_succ_cons, List.take_zero, List.cons.injEq, and_true, Wy] at h0 h1 h2
 obtain ⟨rfl, rfl, rfl⟩ := h1
 obtain ⟨rfl, rfl, rfl⟩ := h2
 subst h0
 exact ⟨⟨k, bv, b, av, a⟩, rfl, w1, w2⟩
theorem u64_back {i : Int} (h : lo .u64 ≤ i) : ((i.toNat : Nat) : Int) = i := by simp only [lo] at h; omega
theorem opnS_ckt : OpnS enc Tryz.prog w 147 (fun cs (x : CkT) => cs = YB x ∧ True) := fun fuel cs x h hw => by
 obtain ⟨hl, hf⟩ := Xo Tryz.underlying147 h hw
 have hl : cs.length = 5 := by rw [hl]; kernel_rfl
 obtain ⟨c0, c1, c2, c3, c4, rfl⟩ : ∃ c0 c1 c2 c3 c4, cs = [c0, c1, c2, c3, c4] := by
  match cs, hl with
  | [c0, c1, c2, c3, c4], _ => exact ⟨c0, c1, c2, c3, c4, rfl⟩
 obtain ⟨k, h0, _⟩ := ZA h hw Tryz.underlying147 0 0 1 rfl rfl rfl (by kernel_rfl) (YC Tryz.underlying3).sized
 obtain ⟨f, h1, f0, f1⟩ := ZA h hw Tryz.underlying147 1 1 1 rfl rfl rfl (by kernel_rfl) (YC Tryz.underlying33).sized
 obtain ⟨l, h2, l0, l1⟩ := ZA h hw Tryz.underlying147 2 2 1 rfl rfl rfl (by kernel_rfl) (YC Tryz.underlying33).sized
 obtain ⟨u, h3, u0, u1⟩ := ZA h hw Tryz.underlying147 3 3 1 rfl rfl rfl (by kernel_rfl) (YC Tryz.underlying33).sized
 obtain ⟨s, h4, _⟩ := ZA h hw Tryz.underlying147 4 4 1 rfl rfl rfl (by kernel_rfl) (YC Tryz.underlying3).sized
 simp only [List.drop_zero, List.drop_succ_cons, List.take_succ_cons, List.take_zero, List.cons.injEq, and_true] at h0 h1 h2 h3 h4
 subst h0; subst h1; subst h2; subst h3; subst h4
 refine ⟨⟨k, f.toNat, l.toNat, u.toNat, s⟩, ?_, trivial⟩
 simp only [YB, u64_back f0, u64_back l0, u64_back u0]
theorem opnS_ckp : OpnS enc Tryz.prog w 149 (fun cs (x : CkP) => cs = YK x ∧ True) := fun fuel cs x h hw => by
 obtain ⟨hl, hf⟩ := Xo Tryz.underlying149 h hw
 have hl : cs.length = 2 := by rw [hl]; kernel_rfl
 obtain ⟨c0, c1, rfl⟩ : ∃ c0 c1, cs = [c0, c1] := by
  match cs, hl with
  | [c0, c1], _ => exact ⟨c0, c1, rfl⟩
 obtain ⟨k, h0, _⟩ := ZA h hw Tryz.underlying149 0 0 1 rfl rfl rfl (by kernel_rfl) (YC Tryz.underlying3).sized
 obtain ⟨f, h1, f0, f1⟩ := ZA h hw Tryz.underlying149 1 1 1 rfl rfl rfl (by kernel_rfl) (YC Tryz.underlying33).sized
 simp only [List.drop_zero, List.drop_succ_cons, List.take_succ_cons, List.take_zero, List.cons.injEq, and_true] at h0 h1
 subst h0; subst h1
 refine ⟨⟨k, f.toNat⟩, ?_, trivial⟩
 simp only [YK, u64_back f0]
end
section
variable {H : Type} {enc : TypeId × Value → H} {w : World}
theorem opnS_step2 : OpnS enc Tryz.prog w 133 (fun cs (x : Stp) => cs = YQ x ∧ StpF x) := fun fuel cs x h hw => by
 obtain ⟨hl, hf⟩ := Xo Tryz.underlying133 h hw
 have hl : cs.length = 6 := by rw [hl]; kernel_rfl
 obtain ⟨c0, c1, c2, c3, c4, c5, rfl⟩ : ∃ c0 c1 c2 c3 c4 c5, cs = [c0, c1, c2, c3, c4, c5] := by
  match cs, hl with
  | [c0, c1, c2, c3, c4, c5], _ => exact ⟨c0, c1, c2, c3, c4, c5, rfl⟩
 obtain ⟨k, h0, _⟩ := ZA h hw Tryz.underlying133 0 0 1 rfl rfl rfl (by kernel_rfl) (YC Tryz.underlying3).sized
 obtain ⟨r, h1, w1⟩ := ZA h hw Tryz.underlying133 1 1 4 rfl rfl rfl (by kernel_rfl) opnS_row
 obtain ⟨b, h2, b0, b1⟩ := ZA h hw Tryz.underlying133 2 5 1 rfl rfl rfl (by kernel_rfl) (YC Tryz.underlying2).sized
 simp only [List.drop_zero, List.drop_succ_cons, List.take_succ_cons, List.take_zero, List.cons.injEq, and_true, Yi] at h0 h1 h2
 obtain ⟨rfl, rfl, rfl, rfl⟩ := h1
 subst h0; subst h2
 simp only [lo, hi] at b0 b1
 exact ⟨⟨k, r, b⟩, rfl, w1, b0, b1⟩
theorem opnS_rec2 : OpnS enc Tryz.prog w 39 (fun cs (x : RV × Rc) => cs = Wt x.1 x.2 ∧ (RcW (hpOf w) x.1 x.2 ∧ ∀ s ∈ x.2.steps, StpF s)) := fun fuel cs x h hw => by
 obtain ⟨hl, hf⟩ := Xo Tryz.underlying39 h hw
 have hl : cs.length = 10 := by rw [hl]; kernel_rfl
 obtain ⟨c0, c1, c2, c3, c4, c5, c6, c7, c8, c9, rfl⟩ : ∃ c0 c1 c2 c3 c4 c5 c6 c7 c8 c9, cs = [c0, c1, c2, c3, c4, c5, c6, c7, c8, c9] := by
  match cs, hl with
  | [c0, c1, c2, c3, c4, c5, c6, c7, c8, c9], _ => exact ⟨c0, c1, c2, c3, c4, c5, c6, c7, c8, c9, rfl⟩
 obtain ⟨k, h0, _⟩ := ZA h hw Tryz.underlying39 0 0 1 rfl rfl rfl (by kernel_rfl) (YC Tryz.underlying3).sized
 obtain ⟨l, h1, l0, _⟩ := ZA h hw Tryz.underlying39 1 1 1 rfl rfl rfl (by kernel_rfl) (YC Tryz.underlying33).sized
 obtain ⟨t, h2, _⟩ := ZA h hw Tryz.underlying39 2 2 1 rfl rfl rfl (by kernel_rfl) (YC Tryz.underlying3).sized
 obtain ⟨p, h3, p0, _⟩ := ZA h hw Tryz.underlying39 3 3 1 rfl rfl rfl (by kernel_rfl) (YC Tryz.underlying33).sized
 obtain ⟨n, h4, n0, _⟩ := ZA h hw Tryz.underlying39 4 4 1 rfl rfl rfl (by kernel_rfl) (YC Tryz.underlying33).sized
 obtain ⟨⟨ia, inn, ic, ims⟩, h5, w5⟩ := ZA h hw Tryz.underlying39 5 5 1 rfl rfl rfl (by kernel_rfl) (XV (sz := 7) (by' := 120) Tryz.underlying34 (by kernel_rfl) (by decide) (by kernel_rfl) opnS_image)
 obtain ⟨⟨sa, sn, sc, steps⟩, h6, w6⟩ := ZA h hw Tryz.underlying39 6 6 1 rfl rfl rfl (by kernel_rfl) (XV (sz := 6) (by' := 56) Tryz.underlying35 (by kernel_rfl) (by decide) (by kernel_rfl) opnS_step2)
 obtain ⟨x7, h7, _⟩ := ZA h hw Tryz.underlying39 7 7 1 rfl rfl rfl (by kernel_rfl) (YC Tryz.underlying3).sized
 obtain ⟨⟨ta, tn, tc, txns⟩, h8, w8⟩ := ZA h hw Tryz.underlying39 8 8 1 rfl rfl rfl (by kernel_rfl) (XV (sz := 5) (by' := 40) Tryz.underlying36 (by kernel_rfl) (by decide) (by kernel_rfl) opnS_ckt)
 obtain ⟨⟨da, dn, dc, dirty⟩, h9, w9⟩ := ZA h hw Tryz.underlying39 9 9 1 rfl rfl rfl (by kernel_rfl) (XV (sz := 2) (by' := 16) Tryz.underlying37 (by kernel_rfl) (by decide) (by kernel_rfl) opnS_ckp)
 obtain ⟨i1, i2, i3, _⟩ := aIn_ofW imV_len h5
 obtain ⟨s1, s2, s3, _⟩ := aIn_ofW stpV_len h6
 obtain ⟨t1, t2, t3, _⟩ := aIn_ofW ckTV_len h8
 obtain ⟨d1, d2, d3, _⟩ := aIn_ofW ckPV_len h9
 simp only [reachBytes] at w5 w6 w8 w9
 replace h5 := h5.cells
 replace h6 := h6.cells
 replace h8 := h8.cells
 replace h9 := h9.cells
 simp only [List.drop_zero, List.drop_succ_cons, List.take_succ_cons, List.take_zero, List.cons.injEq, and_true] at h0 h1 h2 h3 h4 h5 h6 h7 h8 h9
 subst h0; subst h1; subst h2; subst h3; subst h4; subst h5; subst h6; subst h7; subst h8; subst h9
 refine ⟨(⟨⟨ia, inn, ic⟩, ⟨sa, sn, sc⟩, ⟨ta, tn, tc⟩, ⟨da, dn, dc⟩⟩, ⟨k, l.toNat, t, p.toNat, n.toNat, ims, steps, x7, txns, dirty⟩), ?_, ⟨⟨i1, by dsimp only; omega, i3⟩, i2, ⟨s1, by dsimp only; omega, s3⟩, ⟨t1, by dsimp only; omega, t3⟩, ⟨d1, by dsimp only; omega, d3⟩, fun s hs => (s2 s hs).row⟩, s2⟩
 simp only [Wt, u64_back l0, u64_back p0, u64_back n0]
end
end Go.Proofs.E
namespace Go.Proofs.E
open Go Go.RowKit
set_option linter.unusedVariables false
set_option linter.unusedSimpArgs false
set_option linter.unusedSectionVars false
section
variable {H : Type} {enc : TypeId × Value → H} {w : World}
theorem sIn_ofA {ρ : Hp} {α : Type} {g : α → Value} {a : Option Addr} {n : Nat} {l : List α} (h : AIn ρ 1 (fun x => [g x]) a n l) : SIn ρ g a n l := by
 refine ⟨h.len, ?_⟩
 rcases h.out with h0 | ⟨b, off, C, T, fr, e1, e2, e3, e4⟩
 ·exact .inl h0
 ·right
  refine ⟨b, off, C, T, fr, e1, e2, ?_⟩
  have key : ∀ l : List α, (l.map (fun x => [g x])).flatten = l.map g := fun l => by
   induction l with
   | nil => rfl
   | cons a r ih => simp only [List.map_cons, List.flatten_cons, ih, List.singleton_append]
  have := key l
  rw [← this, ← e4]; simp
theorem opnS_i64 : OpnS enc Tryz.prog w 3 (fun cs (x : Int) => cs = [i64c x] ∧ i64in x) := fun fuel cs x h hw => by
 obtain ⟨k, h0, k0, k1⟩ := (YC Tryz.underlying3).sized fuel cs x h hw
 refine ⟨k, h0, ?_⟩
 simp only [lo, hi] at k0 k1; omega
end
end Go.Proofs.E
