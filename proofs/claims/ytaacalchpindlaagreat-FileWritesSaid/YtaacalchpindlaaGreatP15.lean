/- The law FileWrites. Part 15 of 17. -/
import Derived.Test.YtaacalchpindlaaGreatP14
namespace Go.Proofs.E
open Go
set_option linter.unusedVariables false
set_option linter.unusedSimpArgs false
set_option linter.unusedSectionVars false
set_option maxRecDepth 4000
set_option maxHeartbeats 1000000
attribute [local irreducible] Yl TL TC TE Spec XM R1 Hp.le EnvLe TS TR YS Zo
structure WrV where
 page : Int
 lsn : Nat
 w : CV
 c : Yr
abbrev wrC (e : WrV) : List Value := [.int .i64 e.page, .int .u64 (e.lsn : Nat), .int .i64 e.c.kind, .slice e.w.ra e.w.rn e.w.rc, .slice e.w.ka e.w.kn e.w.kc]
structure WrIn (ρ : Hp) (e : WrV) : Prop where
 pg : -9223372036854775808 ≤ e.page ∧ e.page ≤ 9223372036854775807
 ls : e.lsn < 18446744073709551616
 c : ContI ρ (e.w, e.c)
theorem WrIn.mono {ρ ρ' : Hp} {e : WrV} (h : WrIn ρ e) (hl : ρ.le ρ') : WrIn ρ' e := ⟨h.pg, h.ls, h.c.monoQ hl⟩
theorem refStamp_lt (num : Nat) (a0 b0 a1 b1 : Blk) (h0 : a0.length = 64) (h1 : b0.length = 64) (h2 : a1.length = 64) (h3 : b1.length = 64) : XX num a0 b0 a1 b1 < 18446744073709551616 := by
 have := stampsF_lt num a0 b0
 have := stampsF_lt num a1 b1
 unfold XX
 omega
theorem write14_6 (ρ : Hp) (fb db num lsn : Nat) (hF : FIn ρ fb db 4) (hn : num < 64) (hls : lsn < 18446744073709551616) (c : Yr) (w : CV) (hC : CIn ρ w c.rows c.kids) (hok : ZN c = true) (hir : ∀ r ∈ c.rows, r.id < 65536) (hik : ∀ k ∈ c.kids, k.id < 65536) (k : DK) (D : DS) (hD : DOk k D) (h : FD D) (hs : WR D num = 18446744073709551615) :
  Spec Tryz.prog 14 [.pointer (some ⟨fb, 0, none⟩), .int .i64 num, .int .u64 lsn, .agg ⟨Yt c.kind w⟩] ρ (ZF db k D) (fun v ρ' L' => v = .int .i64 6 ∧ ρ.le ρ' ∧ ∃ k' D', FD D' ∧ DOk k' D' ∧ L' = ZF db k' D') :=
 (Write_spec ρ fb db 4 num lsn hF (by omega) hn hls c w hC hok hir hik k D hD).mono (fun v ρ' L' _ ⟨h1, h2, k', h3, h4⟩ => by
  obtain ⟨e1, e2⟩ := (h.write (lsn := lsn) (c := c) hn).1 hs
  rw [e1] at h1
  exact ⟨h1, h2, k', _, e2, h3, h4⟩)
def toS (D : DS) (num : Nat) : Nat := if which4 D num = 0 then 1 else 0
theorem write14_0 (ρ : Hp) (fb db num lsn : Nat) (hF : FIn ρ fb db 4) (hn : num < 64) (hls : lsn < 18446744073709551616) (c : Yr) (w : CV) (hC : CIn ρ w c.rows c.kids) (hok : ZN c = true) (hir : ∀ r ∈ c.rows, r.id < 65536) (hik : ∀ k ∈ c.kids, k.id < 65536) (k : DK) (D : DS) (hD : DOk k D) (h : FD D) (hs : WR D num ≠ 18446744073709551615) :
  Spec Tryz.prog 14 [.pointer (some ⟨fb, 0, none⟩), .int .i64 num, .int .u64 lsn, .agg ⟨Yt c.kind w⟩] ρ (ZF db k D) (fun v ρ' L' => v = .int .i64 0 ∧ ρ.le ρ' ∧ ∃ k' D', FD D' ∧ DOk k' D' ∧
   (pg D' 4 num (2 * toS D num) = ZE num (WR D num + 1) lsn c 0 ∧ pg D' 4 num (2 * toS D num + 1) = ZE num (WR D num + 1) lsn c 1 ∧ ∀ j, j < 4 → j ≠ 2 * toS D num → j ≠ 2 * toS D num + 1 → pg D' 4 num j = pg D 4 num j) ∧ L' = ZF db k' D') :=
 (Write_spec ρ fb db 4 num lsn hF (by omega) hn hls c w hC hok hir hik k D hD).mono (fun v ρ' L' _ ⟨h1, h2, k', h3, h4⟩ => by
  obtain ⟨e1, e2, e3⟩ := (h.write (lsn := lsn) (c := c) hn).2 hs
  rw [e1] at h1
  have hto : toS D num ≤ 1 := by unfold toS; split <;> omega
  have hix : ix4 D num = 4 + 4 * num + 2 * toS D num := rfl
  refine ⟨h1, h2, k', _, e2, h3, ⟨?_, ?_, ?_⟩, h4⟩
  ·unfold pg; rw [e3 _ (by omega), if_pos hix.symm]
  ·unfold pg; rw [e3 _ (by omega), if_neg (by omega), if_pos (by omega)]
  ·intro j hj j0 j1
   unfold pg; rw [e3 _ (by omega), if_neg (by omega), if_neg (by omega)])
theorem Xu (ρ : Hp) (b : Nat) (k : DK) (D : DS) (num slot : Nat) (X : Bs) (hD : DOk k D) (h : FD D) (hn : num < 64) (hs : slot < 2) (hX : pg D 4 num (2 * slot) ++ pg D 4 num (2 * slot + 1) = X) (S : YO) (hS : D.secs = S) :
  Spec Tryz.prog 16 [.pointer (some ⟨b, 0, none⟩), .int .i64 num, .int .i64 slot] ρ (ZF b k D) (fun v ρ' L' => v = .tuple ⟨[.agg ⟨X.map Zs⟩, .bool true]⟩ ∧ ρ' = ρ ∧ ∃ D', FD D' ∧ DOk k D' ∧ D'.secs = S ∧ L' = ZF b k D') := by
 subst hX
 subst hS
 exact sectors_spec ρ b k D num slot hD h hn hs
theorem write14_at (ρ : Hp) (fb db num lsn : Nat) (hF : FIn ρ fb db 4) (hn : num < 64) (hls : lsn < 18446744073709551616) (c : Yr) (w : CV) (hC : CIn ρ w c.rows c.kids) (hok : ZN c = true) (hir : ∀ r ∈ c.rows, r.id < 65536) (hik : ∀ k ∈ c.kids, k.id < 65536) (k : DK) (D : DS) (hD : DOk k D) (h : FD D) (St to : Nat) (e1 : WR D num = St) (e2 : toS D num = to) (hs : St ≠ 18446744073709551615) (so : Nat) (hso : to + so = 1) (X : Bs) (hX : pg D 4 num (2 * so) ++ pg D 4 num (2 * so + 1) = X) (N : Bs) (hN : ZE num (St + 1) lsn c 0 ++ ZE num (St + 1) lsn c 1 = N) :
  Spec Tryz.prog 14 [.pointer (some ⟨fb, 0, none⟩), .int .i64 num, .int .u64 lsn, .agg ⟨Yt c.kind w⟩] ρ (ZF db k D) (fun v ρ' L' => v = .int .i64 0 ∧ ρ.le ρ' ∧ ∃ k' D', FD D' ∧ DOk k' D' ∧
   (∀ E : DS, E.secs = D'.secs → pg E 4 num (2 * to) ++ pg E 4 num (2 * to + 1) = N ∧ pg E 4 num (2 * so) ++ pg E 4 num (2 * so + 1) = X) ∧ L' = ZF db k' D') :=
 (write14_0 ρ fb db num lsn hF hn hls c w hC hok hir hik k D hD h (by rw [e1]; exact hs)).mono (fun v ρ' L' _ ⟨h1, h2, k', D', h3, h4, ⟨p0, p1, p2⟩, h5⟩ => by
  rw [e1, e2] at p0
  rw [e1, e2] at p1
  rw [e2] at p2
  have hto : to ≤ 1 := by rw [← e2]; unfold toS; split <;> omega
  refine ⟨h1, h2, k', D', h3, h4, fun E hE => ⟨?_, ?_⟩, h5⟩
  ·rw [We hE, We hE, p0, p1, hN]
  ·rw [We hE, We hE, p2 _ (by omega) (by omega) (by omega), p2 _ (by omega) (by omega) (by omega), hX])
theorem writes14_spec (ρ : Hp) (a : Option Addr) (n c : Nat) (l : List LaidV) (hl : AIn ρ 10 laidC a n l) (hin : ∀ e ∈ l, LaidIn ρ e) (hbig : n ≤ 9223372036854775807)
  (a1 : Option Addr) (n1 c1 : Nat) (ws : List WrV) (hws : AIn ρ 5 wrC a1 n1 ws) (hwin : ∀ e ∈ ws, WrIn ρ e) (hbig1 : n1 ≤ 9223372036854775807) :
  Spec Tryz.prog 4 [.slice a n c, .slice a1 n1 c1] ρ [] (fun v ρ' L' => v = .bool true ∧ ρ.le ρ' ∧ L' = []) := by
 have hll := hl.len
 have hpl := hws.len
 obtain ⟨n0, n1', n2⟩ := FD.new
 refine Zf Tryz.func4 rfl rfl rfl fun u R => ?_
 simp only [Zv, List.cons_append, List.nil_append]
 repeat' (first | (refine Zd (.func 5) ?_; refine qC rfl rfl (wakes14_spec _) ?_; rintro v ρ' L' hle ⟨rfl, hl1, rfl⟩ <;> (try simp only [kM, kN, kO])) | (refine Zd (.func 6) ?_; refine qC rfl rfl (knew _ 260 (by omega) (by omega)) ?_; rintro v ρ' L' hle ⟨rfl, db, k0, rfl, hk0, rfl⟩ <;> (try simp only [kM, kN, kO])) | (refine Zd (.func 7) ?_; refine qC rfl rfl (lays14_spec _ db n c a l (hl.mono hl1) (fun e he => (hin e he).mono hl1) hbig k0 (DS.new 260) hk0 n0 n2) ?_; rintro v ρ' L' hle ⟨rfl, hl2, k1, D1, hk1, hf1, rfl⟩ <;> (try simp only [kM, kN, kO])) | (have hL1 := hf1.len; refine Zd (.func 8) ?_; refine qC rfl rfl (Open_spec _ db k1 D1 hk1 4 (by omega)) ?_; rintro v5 ρ6 L5 hle5 ⟨hl6, fb, rfl, hF, rfl⟩; try simp only [List.cons_append, List.nil_append, List.append_assoc, List.append_eq]) | (refine Zg ?_; first | (refine Ze ?_; refine qQ ?_) | refine Zj ?_) | refine Za ?_ | (refine Zh ?_; refine Zq ?_) | (refine Zi ?_; refine Zr ?_) | intro _)
 have hl16 := Hp.le_trans hl1 (Hp.le_trans hl2 hl6)
 refine ZB [(5, _), (7, _), (50, _), (51, _)] (fun (ζ : (Nat) × (Hp) × (DK) × (DS)) => [(52, .int .i64 ζ.1), (4, .bool false)]) (fun (ζ : (Nat) × (Hp) × (DK) × (DS)) => ζ.2.1) (fun (ζ : (Nat) × (Hp) × (DK) × (DS)) => ZF db ζ.2.2.1 ζ.2.2.2) (fun (ζ : (Nat) × (Hp) × (DK) × (DS)) => (ζ.1 ≤ n1 ∧ ζ.1 ≤ 15) ∧ ρ6.le ζ.2.1 ∧ DOk ζ.2.2.1 ζ.2.2.2 ∧ FD ζ.2.2.2) (fun (ζ : (Nat) × (Hp) × (DK) × (DS)) => n1 - ζ.1) ((0, ρ6, k1, D1)) (⟨⟨Nat.zero_le _, Nat.zero_le _⟩, Hp.le_refl _, hk1, hf1⟩) Zm Zm rfl tk ?_
 rintro ⟨j, ρ2, k, D⟩ hI
 try simp only [List.cons_append, List.nil_append, List.append_assoc, List.append_eq] at hI ⊢
 try dsimp only at hI ⊢
 obtain ⟨⟨hj, hj3⟩, hl7, hk, hf⟩ := hI
 have hF7 := hF.mono hl7
 have hlm := Hp.le_trans hl16 hl7
 by_cases hlt : j < n1 ∧ j ≠ 15
 ·obtain ⟨b, off, C, T, fr, rfl, hb, hb5, hcd⟩ := (hws.mono hlm).get (show j < ws.length by omega)
  have he := (hwin _ (List.getElem_mem (show j < ws.length by omega))).mono hlm
  generalize ws[j]'(by omega) = e at *
  have hid := fewC_idQ he.c
  have hls := he.ls
  have hpg := he.pg
  have hrt : ∀ ρ w, CIn ρ w (XF e.c).rows (XF e.c).kids → _ := fun ρ w hC => right_spec ρ w (XF e.c) hC hid.1 hid.2
  by_cases hbad : e.page < 0 ∨ 64 ≤ e.page
  ·have hno : ¬ (0 ≤ e.page ∧ e.page < 64) := by omega
   by_cases hneg : e.page < 0
   all_goals (repeat' (first | (refine Zd (.func 12) ?_; refine qC rfl rfl (Wq _ e.w e.c he.c.c) ?_; rintro v ρ' L' hle ⟨hl3, w3, rfl, hC3, rfl⟩ <;> (try simp only [kM, kN, kO])) | (refine Zd (.func 14) ?_; refine qC rfl rfl (Write_no _ fb e.page e.lsn (XF e.c) w3 hno) ?_; rintro v ρ' L' hle ⟨rfl, rfl, rfl⟩ <;> (try simp only [kM, kN, kO])) | (refine Zd (.func 15) ?_; refine qC rfl rfl (pending0_spec _ db k D hk hf) ?_; rintro v ρ' L' hle ⟨hl4, a9, c9, rfl, rfl⟩ <;> (try simp only [kM, kN, kO])) | (refine Zg ?_; first | (refine Ze ?_; refine qQ ?_) | refine Zj ?_) | refine Za ?_ | (refine Zh ?_; refine Zq ?_) | (refine Zi ?_; refine Zr ?_) | intro _))
   all_goals refine Zp (j + 1, _, k, D) (⟨⟨hlt.1, by omega⟩, Hp.le_trans hl7 (Hp.le_trans hl3 hl4), hk, hf⟩) Zm Zm rfl tk inferInstance (by first | omega | (dsimp only; omega))
  ·obtain ⟨q, hq, hqv⟩ : ∃ q : Nat, q < 64 ∧ (if 3 ≤ e.page then e.page.tmod 3 else e.page) = (q : Int) := by
    by_cases h3 : 3 ≤ e.page
    ·rw [if_pos h3, Int.tmod_eq_emod_of_nonneg (by omega)]
     exact ⟨(e.page % 3).toNat, by omega, by omega⟩
    ·rw [if_neg h3]
     exact ⟨e.page.toNat, by omega, by omega⟩
   cases hok : ZN (XF e.c) with
   | false =>
    simp only [hok] at hrt
    by_cases h3 : 3 ≤ e.page
    all_goals (first | rw [if_pos h3] at hqv | rw [if_neg h3] at hqv)
    all_goals (repeat' (first | (refine Zd (.func 12) ?_; refine qC rfl rfl (Wq _ e.w e.c he.c.c) ?_; rintro v ρ' L' hle ⟨hl3, w3, rfl, hC3, rfl⟩ <;> (try simp only [kM, kN, kO])) | (refine Zg ?_; first | (refine Ze ?_; refine qQ ?_) | refine Zj ?_) | refine Za ?_ | (refine Zh ?_; refine Zq ?_) | (refine Zi ?_; refine Zr ?_) | intro _))
    all_goals (try rw [hqv])
    all_goals (repeat' (first | (refine Zd (.func 13) ?_; refine qC rfl rfl ((hrt _ w3 hC3)) ?_; rintro v ρ' L' hle ⟨rfl, rfl, rfl⟩ <;> (try simp only [kM, kN, kO])) | (refine Zd (.func 14) ?_; refine qC rfl rfl (Write_bad _ fb q e.lsn hq (XF e.c) w3 hC3 hok) ?_; rintro v ρ' L' hle ⟨rfl, rfl, rfl⟩ <;> (try simp only [kM, kN, kO])) | (refine Zd (.func 15) ?_; refine qC rfl rfl (pending0_spec _ db k D hk hf) ?_; rintro v ρ' L' hle ⟨hl4, a9, c9, rfl, rfl⟩ <;> (try simp only [kM, kN, kO])) | (refine Zg ?_; first | (refine Ze ?_; refine qQ ?_) | refine Zj ?_) | refine Za ?_ | (refine Zh ?_; refine Zq ?_) | (refine Zi ?_; refine Zr ?_) | intro _))
    all_goals refine Zp (j + 1, _, k, D) (⟨⟨hlt.1, by omega⟩, Hp.le_trans hl7 (Hp.le_trans hl3 hl4), hk, hf⟩) Zm Zm rfl tk inferInstance (by first | omega | (dsimp only; omega))
   | true =>
    simp only [hok] at hrt
    have hp := fun j => pg_len hf q j
    have hX0' : ∀ D1 : DS, D1.secs = D.secs → pg D1 4 q (2 * 0) ++ pg D1 4 q (2 * 0 + 1) = pg D 4 q 0 ++ pg D 4 q 1 := fun D1 h => by rw [We h, We h]
    have hX1 : ∀ D1 : DS, D1.secs = D.secs → pg D1 4 q (2 * 1) ++ pg D1 4 q (2 * 1 + 1) = pg D 4 q 2 ++ pg D 4 q 3 := fun D1 h => by rw [We h, We h]
    have hct := fun ρ => counts14_spec ρ q hq (pg D 4 q 0) (pg D 4 q 1) (pg D 4 q 2) (pg D 4 q 3) (hp 0) (hp 1) (hp 2) (hp 3)
    have hst := fun ρ => stamp14_spec ρ q hq (pg D 4 q 0) (pg D 4 q 1) (pg D 4 q 2) (pg D 4 q 3) (hp 0) (hp 1) (hp 2) (hp 3)
    have hSlt := refStamp_lt q (pg D 4 q 0) (pg D 4 q 1) (pg D 4 q 2) (pg D 4 q 3) (hp 0) (hp 1) (hp 2) (hp 3)
    have hSt : ∀ D1 : DS, D1.secs = D.secs → WR D1 q = XX q (pg D 4 q 0) (pg D 4 q 1) (pg D 4 q 2) (pg D 4 q 3) := fun D1 h => by unfold WR; simp only [We h]
    have hWt : ∀ D1 : DS, D1.secs = D.secs → which4 D1 q = whichF q (pg D 4 q 0) (pg D 4 q 1) (pg D 4 q 2) (pg D 4 q 3) := fun D1 h => by unfold which4; simp only [We h]
    have hab : ((pg D 4 q 0 ++ pg D 4 q 1).map Zs).length = 128 := by simp [hp]
    have hab1 : ((pg D 4 q 2 ++ pg D 4 q 3).map Zs).length = 128 := by simp [hp]
    have hone := ZI (pg D 4 q 0 ++ pg D 4 q 1)
    have hone1 := ZI (pg D 4 q 2 ++ pg D 4 q 3)
    generalize cntF q (pg D 4 q 0) (pg D 4 q 1) (pg D 4 q 2) (pg D 4 q 3) = C0 at *
    generalize whichF q (pg D 4 q 0) (pg D 4 q 1) (pg D 4 q 2) (pg D 4 q 3) = W at *
    generalize XX q (pg D 4 q 0) (pg D 4 q 1) (pg D 4 q 2) (pg D 4 q 3) = St at *
    generalize hP0 : pg D 4 q 0 ++ pg D 4 q 1 = P0 at *
    have hX0 : pg D 4 q (2 * 0) ++ pg D 4 q (2 * 0 + 1) = P0 := hP0
    generalize hP1 : pg D 4 q 2 ++ pg D 4 q 3 = P1 at *
    by_cases hs6 : St = 18446744073709551615
    ·have hw6 : ∀ ρ (hF : FIn ρ fb db 4) w (hC : CIn ρ w (XF e.c).rows (XF e.c).kids) D1 (f1 : FD D1) (d1 : DOk k D1) (g : D1.secs = D.secs), _ := fun ρ hF w hC D1 f1 d1 g => write14_6 ρ fb db q e.lsn hF hq hls (XF e.c) w hC hok hid.1 hid.2 k D1 d1 f1 ((hSt D1 g).trans hs6)
     by_cases h3 : 3 ≤ e.page
     all_goals (first | rw [if_pos h3] at hqv | rw [if_neg h3] at hqv)
     all_goals (repeat' (first | (refine Zd (.func 12) ?_; refine qC rfl rfl (Wq _ e.w e.c he.c.c) ?_; rintro v ρ' L' hle ⟨hl3, w3, rfl, hC3, rfl⟩ <;> (try simp only [kM, kN, kO])) | (refine Zg ?_; first | (refine Ze ?_; refine qQ ?_) | refine Zj ?_) | refine Za ?_ | (refine Zh ?_; refine Zq ?_) | (refine Zi ?_; refine Zr ?_) | intro _))
     all_goals (try rw [hqv])
     all_goals (repeat' (first | (refine Zd (.func 13) ?_; refine qC rfl rfl ((hrt _ w3 hC3)) ?_; rintro v ρ' L' hle ⟨rfl, rfl, rfl⟩ <;> (try simp only [kM, kN, kO])) | (refine Zd (.func 16) ?_; refine qC rfl rfl (Xu _ db k D q 0 _ hk hf hq (by omega) hX0 D.secs rfl) ?_; rintro v ρ' L' hle ⟨rfl, rfl, Da, fa, da, qa, rfl⟩ <;> (try simp only [kM, kN, kO])) | (refine Zd (.func 16) ?_; refine qC rfl rfl (Xu _ db k Da q 1 _ da fa hq (by omega) (hX1 Da qa) D.secs qa) ?_; rintro v ρ' L' hle ⟨rfl, rfl, Db, fb', db', qb, rfl⟩ <;> (try simp only [kM, kN, kO])) | (refine Zd (.func 17) ?_; refine qC rfl rfl ((hct _)) ?_; rintro v ρ' L' hle ⟨hl4, w4, rfl, hC4, rfl⟩ <;> (try simp only [kM, kN, kO])) | (refine Zd (.func 18) ?_; refine qC rfl rfl ((hst _)) ?_; rintro v ρ' L' hle ⟨rfl, hl5, rfl⟩ <;> (try simp only [kM, kN, kO])) | (refine Zd (.func 14) ?_; refine qC rfl rfl ((hw6 _ (hF7.mono (Hp.le_trans hl3 (Hp.le_trans hl4 hl5))) w3 (hC3.mono (Hp.le_trans hl4 hl5)) Db fb' db' qb)) ?_; rintro v ρ' L' hle ⟨rfl, hl6', k6, D6, f6, d6, rfl⟩ <;> (try simp only [kM, kN, kO])) | (refine Zg ?_; first | (refine Ze ?_; refine qQ ?_) | refine Zj ?_) | refine Za ?_ | (refine Zh ?_; refine Zq ?_) | (refine Zi ?_; refine Zr ?_) | intro _))
     all_goals refine Zp (j + 1, _, k6, D6) (⟨⟨hlt.1, by omega⟩, Hp.le_trans hl7 (Hp.le_trans hl3 (Hp.le_trans hl4 (Hp.le_trans hl5 hl6'))), d6, f6⟩) Zm Zm rfl tk inferInstance (by first | omega | (dsimp only; omega))
    ·have hpa := fun ρ w hC => parts14_spec ρ q hq (St + 1) e.lsn (by omega) hls w (XF e.c) hC hok hid.1 hid.2
     have hPl : ((ZE q (St + 1) e.lsn (XF e.c) 0 ++ ZE q (St + 1) e.lsn (XF e.c) 1).map Zs).length = 128 := by simp [Ya _ _ _ _ (show 0 < 2 by omega), Ya _ _ _ _ (show 1 < 2 by omega)]
     have hPo := ZI (ZE q (St + 1) e.lsn (XF e.c) 0 ++ ZE q (St + 1) e.lsn (XF e.c) 1)
     have hNl : ∀ i, i < 2 → (ZE q (St + 1) e.lsn (XF e.c) i).length = 64 := fun i hi => Ya _ _ _ _ hi
     generalize hN : ZE q (St + 1) e.lsn (XF e.c) 0 ++ ZE q (St + 1) e.lsn (XF e.c) 1 = N at *
     have hEqN : EqC Tryz.prog 8 52 (.agg ⟨N.map Zs⟩) (.agg ⟨N.map Zs⟩) true := by
      have := eqC_two (P := Tryz.prog) (t := 52) (m := 5) _ _ _ _ (hNl 0 (by omega)) (hNl 1 (by omega)) (hNl 0 (by omega)) (hNl 1 (by omega))
      rw [decide_eq_true rfl, hN] at this
      exact this
     have hEqP : EqC Tryz.prog 8 52 (.agg ⟨P0.map Zs⟩) (.agg ⟨P0.map Zs⟩) true := by
      have := eqC_two (P := Tryz.prog) (t := 52) (m := 5) _ _ _ _ (hp 0) (hp 1) (hp 0) (hp 1)
      rw [decide_eq_true rfl, hP0] at this
      exact this
     have hEqQ : EqC Tryz.prog 8 52 (.agg ⟨P1.map Zs⟩) (.agg ⟨P1.map Zs⟩) true := by
      have := eqC_two (P := Tryz.prog) (t := 52) (m := 5) _ _ _ _ (hp 2) (hp 3) (hp 2) (hp 3)
      rw [decide_eq_true rfl, hP1] at this
      exact this
     obtain ⟨sI, hsI⟩ : ∃ sI : Int, ((St : Nat) : Int) = sI := ⟨_, rfl⟩
     have hS1 : ((St + 1 : Nat) : Int) = sI + 1 := by omega
     have hsb : 0 ≤ sI ∧ sI < 18446744073709551615 := by omega
     simp only [hsI] at hst
     simp only [hS1] at hpa
     by_cases hW : W = 0
     ·have hto : ∀ D1 : DS, D1.secs = D.secs → toS D1 q = 1 := fun D1 h => by unfold toS; rw [hWt D1 h, if_pos hW]
      have hw0 : ∀ ρ (hF : FIn ρ fb db 4) w (hC : CIn ρ w (XF e.c).rows (XF e.c).kids) D1 (f1 : FD D1) (d1 : DOk k D1) (g : D1.secs = D.secs), _ := fun ρ hF w hC D1 f1 d1 g => write14_at ρ fb db q e.lsn hF hq hls (XF e.c) w hC hok hid.1 hid.2 k D1 d1 f1 St 1 (hSt D1 g) (hto D1 g) hs6 0 rfl P0 (hX0' D1 g) N hN
      by_cases h3 : 3 ≤ e.page
      all_goals (first | rw [if_pos h3] at hqv | rw [if_neg h3] at hqv)
      all_goals (repeat' (first | (refine Zd (.func 12) ?_; refine qC rfl rfl (Wq _ e.w e.c he.c.c) ?_; rintro v ρ' L' hle ⟨hl3, w3, rfl, hC3, rfl⟩ <;> (try simp only [kM, kN, kO])) | (refine Zg ?_; first | (refine Ze ?_; refine qQ ?_) | refine Zj ?_) | refine Za ?_ | (refine Zh ?_; refine Zq ?_) | (refine Zi ?_; refine Zr ?_) | intro _))
      all_goals (try rw [hqv])
      all_goals (repeat' (first | (refine Zd (.func 13) ?_; refine qC rfl rfl ((hrt _ w3 hC3)) ?_; rintro v ρ' L' hle ⟨rfl, rfl, rfl⟩ <;> (try simp only [kM, kN, kO])) | (refine Zd (.func 16) ?_; refine qC rfl rfl (Xu _ db k D q 0 _ hk hf hq (by omega) hX0 D.secs rfl) ?_; rintro v ρ' L' hle ⟨rfl, rfl, Da, fa, da, qa, rfl⟩ <;> (try simp only [kM, kN, kO])) | (refine Zd (.func 16) ?_; refine qC rfl rfl (Xu _ db k Da q 1 _ da fa hq (by omega) (hX1 Da qa) D.secs qa) ?_; rintro v ρ' L' hle ⟨rfl, rfl, Db, fb', db', qb, rfl⟩ <;> (try simp only [kM, kN, kO])) | (refine Zd (.func 17) ?_; refine qC rfl rfl ((hct _)) ?_; rintro v ρ' L' hle ⟨hl4, w4, rfl, hC4, rfl⟩ <;> (try simp only [kM, kN, kO])) | (refine Zd (.func 18) ?_; refine qC rfl rfl ((hst _)) ?_; rintro v ρ' L' hle ⟨rfl, hl5, rfl⟩ <;> (try simp only [kM, kN, kO])) | (refine Zg ?_; first | (refine Ze ?_; refine qQ ?_) | refine Zj ?_) | refine Za ?_ | (refine Zh ?_; refine Zq ?_) | (refine Zi ?_; refine Zr ?_) | intro _))
      all_goals (repeat' (first | (refine Zd (.func 14) ?_; refine qC rfl rfl ((hw0 _ (hF7.mono (Hp.le_trans hl3 (Hp.le_trans hl4 hl5))) w3 (hC3.mono (Hp.le_trans hl4 hl5)) Db fb' db' qb)) ?_; rintro v ρ' L' hle ⟨rfl, hl6', k6, D6, f6, d6, hpgs, rfl⟩ <;> (try simp only [kM, kN, kO])) | (refine Zg ?_; first | (refine Ze ?_; refine qQ ?_) | refine Zj ?_) | refine Za ?_ | (refine Zh ?_; refine Zq ?_) | (refine Zi ?_; refine Zr ?_) | intro _))
      all_goals (refine Zd (.func 16) ?_; refine qC rfl rfl (Xu _ db k6 D6 q 1 _ d6 f6 hq (by omega) (hpgs D6 rfl).1 D6.secs rfl) ?_; rintro v9 ρ9 L9 hle9 ⟨rfl, rfl, Dc, fc, dc, qc, rfl⟩; try simp only [List.cons_append, List.nil_append, List.append_assoc, List.append_eq])
      all_goals (repeat' (first | (refine Zg ?_; first | (refine Ze ?_; refine qQ ?_) | refine Zj ?_) | refine Za ?_ | (refine Zh ?_; refine Zq ?_) | (refine Zi ?_; refine Zr ?_) | intro _))
      all_goals rw [show (1 : Int) - 1 = ((0 : Nat) : Int) from rfl]
      all_goals (refine Zd (.func 16) ?_; refine qC rfl rfl (Xu _ db k6 Dc q 0 _ dc fc hq (by omega) (hpgs Dc qc).2 D6.secs qc) ?_; rintro v10 ρ10 L10 hle10 ⟨rfl, rfl, Dd, fd, dd, qd, rfl⟩; try simp only [List.cons_append, List.nil_append, List.append_assoc, List.append_eq])
      all_goals (repeat' (first | (refine Zg ?_; first | (refine Ze ?_; refine qQ ?_) | refine Zj ?_) | refine Za ?_ | (refine Zh ?_; refine Zq ?_) | (refine Zi ?_; refine Zr ?_) | intro _))
      all_goals rename_i bw bc b13 ρa x5 x4 x3 x2 b15 ρb x1 b19 x0 b24 b26 b28
      all_goals have hl35 := Hp.le_trans hl3 (Hp.le_trans hl4 (Hp.le_trans hl5 hl6'))
      all_goals refine ZD (Zo _ _ ([[(b24, .cells ⟨N.map Zs⟩ 52 (0, 0))], [(b26, .cells ⟨P0.map Zs⟩ 52 (0, 0))], [(b28, .cells ⟨P0.map Zs⟩ 52 (0, 0))], [(bc, .cells ⟨Yt e.c.kind w3⟩ 36 (0, 0))], [(bw, .cells ⟨wrC e⟩ 45 (0, 0))]])) (Zx (hT := tk) (Hp.le_refl _)) ?_
      all_goals (refine ZO 0 ?_; refine rUn 1 ?_; refine ZO 2 ?_; (first | refine Zc 3 ?_ | refine Zb 3 ?_ | refine ZU 3 ?_); (first | refine Zc 4 ?_ | refine Zb 4 ?_ | refine wUn 4 ?_); refine rPk 5 ?_; refine ZO 6 ?_; (first | refine Zc 7 ?_ | refine Zb 7 ?_ | refine ZU 7 ?_); (first | refine Zc 8 ?_ | refine Zb 8 ?_ | refine wCm 8 ?_); refine rPk 9 ?_; refine ZO 10 ?_; (first | refine Zc 11 ?_ | refine Zb 11 ?_ | refine ZU 11 ?_); (first | refine Zc 12 ?_ | refine Zb 12 ?_ | refine wUn 12 ?_); refine rPk 13 ?_; refine ZO 14 ?_; (first | refine Zc 15 ?_ | refine Zb 15 ?_ | refine ZU 15 ?_); (first | refine Zc 16 ?_ | refine Zb 16 ?_ | refine wUn 16 ?_); refine rPk 17 ?_; refine ZO 18 ?_; (first | refine Zc 19 ?_ | refine Zb 19 ?_ | refine wLd 19 ?_); (first | refine Zc 20 ?_ | refine Zb 20 ?_ | refine ZU 20 ?_); (first | refine Zc 21 ?_ | refine Zb 21 ?_ | refine ZU 21 ?_); (first | refine Zc 22 ?_ | refine Zb 22 ?_ | refine wAd 22 ?_); (first | refine Zc 23 ?_ | refine Zb 23 ?_ | refine wFa 23 ?_); (first | refine Zc 24 ?_ | refine Zb 24 ?_ | refine wLd 24 ?_); (first | refine Zc 25 ?_ | refine Zb 25 ?_ | refine wLd 25 ?_))
      all_goals (first | refine Zc 26 ?_ | refine Zb 26 ?_ | (refine Zn (i := 26) ?_; ((try refine Zk ?_); (first | (refine Zd (.func 19) ?_; refine qC rfl rfl ((hpa _ w3 (hC3.mono (Hp.le_trans hl4 (Hp.le_trans hl5 hl6'))))) ?_; rintro v ρ' L' hle ⟨rfl, hl11, rfl⟩ <;> (try simp only [kM, kN, kO])) | (refine Zj ?_; try intro _)) <;> ((try simp only [kM, kN, kO]); refine Za ?_; refine Zl ?_))))
      all_goals ((first | refine Zc 27 ?_ | refine Zb 27 ?_ | refine wCm 27 ?_); refine rPk 28 ?_; refine ZO 29 ?_; (first | refine Zc 30 ?_ | refine Zb 30 ?_ | refine wLd 30 ?_); (first | refine Zc 31 ?_ | refine Zb 31 ?_ | refine wLd 31 ?_); (first | refine Zc 32 ?_ | refine Zb 32 ?_ | refine wCm 32 ?_); refine rPk 33 ?_; refine ZO 34 ?_; (first | refine Zc 35 ?_ | refine Zb 35 ?_ | refine ZU 35 ?_))
      all_goals (first | refine Zc 36 ?_ | refine Zb 36 ?_ | (refine Zn (i := 36) ?_; ((try refine Zk ?_); (first | (refine Zd (.func 15) ?_; refine qC rfl rfl (pending0_spec _ db k6 Dd dd fd) ?_; rintro v ρ' L' hle ⟨hl12, a9, c9, rfl, rfl⟩ <;> (try simp only [kM, kN, kO])) | (refine Zj ?_; try intro _)) <;> ((try simp only [kM, kN, kO]); refine Za ?_; refine Zl ?_))))
      all_goals ((first | refine Zc 37 ?_ | refine Zb 37 ?_ | refine wBi 37 ?_); (first | refine Zc 38 ?_ | refine Zb 38 ?_ | refine wCm 38 ?_); refine rPk 39 ?_; refine ZO 40 ?_; (first | refine Zc 41 ?_ | refine Zb 41 ?_ | refine ZU 41 ?_); (first | refine Zc 42 ?_ | refine Zb 42 ?_ | refine ZU 42 ?_); (first | refine Zc 43 ?_ | refine Zb 43 ?_ | refine ZU 43 ?_))
      all_goals (first | refine Zc 44 ?_ | refine Zb 44 ?_ | (refine Zn (i := 44) ?_; ((try refine Zk ?_); (first | (refine Zd (.func 11) ?_; refine qC rfl rfl (XU _ fb db q (hF7.mono (Hp.le_trans hl35 (Hp.le_trans hl11 hl12))) hq k6 Dd dd fd) ?_; rintro v ρ' L' hle ⟨rfl, hl13, De, fe, de, qe, rfl⟩ <;> (try simp only [kM, kN, kO])) | (refine Zj ?_; try intro _)) <;> ((try simp only [kM, kN, kO]); refine Za ?_; refine Zl ?_))))
      all_goals (refine ZR ?_; (first | refine Zc 45 ?_ | refine Zb 45 ?_ | refine wUn 45 ?_); refine rPk 46 ?_; refine ZH ?_)
      all_goals (repeat' (first | (refine Zg ?_; first | (refine Ze ?_; refine qQ ?_) | refine Zj ?_) | refine Za ?_ | (refine Zh ?_; refine Zq ?_) | (refine Zi ?_; refine Zr ?_) | intro _))
      all_goals refine Zp (j + 1, _, k6, De) (⟨⟨hlt.1, by omega⟩, Hp.le_trans hl7 (Hp.le_trans hl35 (Hp.le_trans hl11 (Hp.le_trans hl12 hl13))), de, fe⟩) Zm Zm rfl tk inferInstance (by first | omega | (dsimp only; omega))
     ·have hto : ∀ D1 : DS, D1.secs = D.secs → toS D1 q = 0 := fun D1 h => by unfold toS; rw [hWt D1 h, if_neg hW]
      have hw0 : ∀ ρ (hF : FIn ρ fb db 4) w (hC : CIn ρ w (XF e.c).rows (XF e.c).kids) D1 (f1 : FD D1) (d1 : DOk k D1) (g : D1.secs = D.secs), _ := fun ρ hF w hC D1 f1 d1 g => write14_at ρ fb db q e.lsn hF hq hls (XF e.c) w hC hok hid.1 hid.2 k D1 d1 f1 St 0 (hSt D1 g) (hto D1 g) hs6 1 rfl P1 (hX1 D1 g) N hN
      by_cases h3 : 3 ≤ e.page
      all_goals (first | rw [if_pos h3] at hqv | rw [if_neg h3] at hqv)
      all_goals (repeat' (first | (refine Zd (.func 12) ?_; refine qC rfl rfl (Wq _ e.w e.c he.c.c) ?_; rintro v ρ' L' hle ⟨hl3, w3, rfl, hC3, rfl⟩ <;> (try simp only [kM, kN, kO])) | (refine Zg ?_; first | (refine Ze ?_; refine qQ ?_) | refine Zj ?_) | refine Za ?_ | (refine Zh ?_; refine Zq ?_) | (refine Zi ?_; refine Zr ?_) | intro _))
      all_goals (try rw [hqv])
      all_goals (repeat' (first | (refine Zd (.func 13) ?_; refine qC rfl rfl ((hrt _ w3 hC3)) ?_; rintro v ρ' L' hle ⟨rfl, rfl, rfl⟩ <;> (try simp only [kM, kN, kO])) | (refine Zd (.func 16) ?_; refine qC rfl rfl (Xu _ db k D q 0 _ hk hf hq (by omega) hX0 D.secs rfl) ?_; rintro v ρ' L' hle ⟨rfl, rfl, Da, fa, da, qa, rfl⟩ <;> (try simp only [kM, kN, kO])) | (refine Zd (.func 16) ?_; refine qC rfl rfl (Xu _ db k Da q 1 _ da fa hq (by omega) (hX1 Da qa) D.secs qa) ?_; rintro v ρ' L' hle ⟨rfl, rfl, Db, fb', db', qb, rfl⟩ <;> (try simp only [kM, kN, kO])) | (refine Zd (.func 17) ?_; refine qC rfl rfl ((hct _)) ?_; rintro v ρ' L' hle ⟨hl4, w4, rfl, hC4, rfl⟩ <;> (try simp only [kM, kN, kO])) | (refine Zd (.func 18) ?_; refine qC rfl rfl ((hst _)) ?_; rintro v ρ' L' hle ⟨rfl, hl5, rfl⟩ <;> (try simp only [kM, kN, kO])) | (refine Zg ?_; first | (refine Ze ?_; refine qQ ?_) | refine Zj ?_) | refine Za ?_ | (refine Zh ?_; refine Zq ?_) | (refine Zi ?_; refine Zr ?_) | intro _))
      all_goals (repeat' (first | (refine Zd (.func 14) ?_; refine qC rfl rfl ((hw0 _ (hF7.mono (Hp.le_trans hl3 (Hp.le_trans hl4 hl5))) w3 (hC3.mono (Hp.le_trans hl4 hl5)) Db fb' db' qb)) ?_; rintro v ρ' L' hle ⟨rfl, hl6', k6, D6, f6, d6, hpgs, rfl⟩ <;> (try simp only [kM, kN, kO])) | (refine Zg ?_; first | (refine Ze ?_; refine qQ ?_) | refine Zj ?_) | refine Za ?_ | (refine Zh ?_; refine Zq ?_) | (refine Zi ?_; refine Zr ?_) | intro _))
      all_goals (refine Zd (.func 16) ?_; refine qC rfl rfl (Xu _ db k6 D6 q 0 _ d6 f6 hq (by omega) (hpgs D6 rfl).1 D6.secs rfl) ?_; rintro v9 ρ9 L9 hle9 ⟨rfl, rfl, Dc, fc, dc, qc, rfl⟩; try simp only [List.cons_append, List.nil_append, List.append_assoc, List.append_eq])
      all_goals (repeat' (first | (refine Zg ?_; first | (refine Ze ?_; refine qQ ?_) | refine Zj ?_) | refine Za ?_ | (refine Zh ?_; refine Zq ?_) | (refine Zi ?_; refine Zr ?_) | intro _))
      all_goals rw [show (1 : Int) - 0 = ((1 : Nat) : Int) from rfl]
      all_goals (refine Zd (.func 16) ?_; refine qC rfl rfl (Xu _ db k6 Dc q 1 _ dc fc hq (by omega) (hpgs Dc qc).2 D6.secs qc) ?_; rintro v10 ρ10 L10 hle10 ⟨rfl, rfl, Dd, fd, dd, qd, rfl⟩; try simp only [List.cons_append, List.nil_append, List.append_assoc, List.append_eq])
      all_goals (repeat' (first | (refine Zg ?_; first | (refine Ze ?_; refine qQ ?_) | refine Zj ?_) | refine Za ?_ | (refine Zh ?_; refine Zq ?_) | (refine Zi ?_; refine Zr ?_) | intro _))
      all_goals rename_i bw bc b13 ρa x5 x4 x3 x2 b15 ρb x1 b19 x0 b24 b26 b28
      all_goals have hl35 := Hp.le_trans hl3 (Hp.le_trans hl4 (Hp.le_trans hl5 hl6'))
      all_goals refine ZD (Zo _ _ ([[(b24, .cells ⟨N.map Zs⟩ 52 (0, 0))], [(b26, .cells ⟨P1.map Zs⟩ 52 (0, 0))], [(b28, .cells ⟨P1.map Zs⟩ 52 (0, 0))], [(bc, .cells ⟨Yt e.c.kind w3⟩ 36 (0, 0))], [(bw, .cells ⟨wrC e⟩ 45 (0, 0))]])) (Zx (hT := tk) (Hp.le_refl _)) ?_
      all_goals (refine ZO 0 ?_; refine rUn 1 ?_; refine ZO 2 ?_; (first | refine Zc 3 ?_ | refine Zb 3 ?_ | refine ZU 3 ?_); (first | refine Zc 4 ?_ | refine Zb 4 ?_ | refine wUn 4 ?_); refine rPk 5 ?_; refine ZO 6 ?_; (first | refine Zc 7 ?_ | refine Zb 7 ?_ | refine ZU 7 ?_); (first | refine Zc 8 ?_ | refine Zb 8 ?_ | refine wCm 8 ?_); refine rPk 9 ?_; refine ZO 10 ?_; (first | refine Zc 11 ?_ | refine Zb 11 ?_ | refine ZU 11 ?_); (first | refine Zc 12 ?_ | refine Zb 12 ?_ | refine wUn 12 ?_); refine rPk 13 ?_; refine ZO 14 ?_; (first | refine Zc 15 ?_ | refine Zb 15 ?_ | refine ZU 15 ?_); (first | refine Zc 16 ?_ | refine Zb 16 ?_ | refine wUn 16 ?_); refine rPk 17 ?_; refine ZO 18 ?_; (first | refine Zc 19 ?_ | refine Zb 19 ?_ | refine wLd 19 ?_); (first | refine Zc 20 ?_ | refine Zb 20 ?_ | refine ZU 20 ?_); (first | refine Zc 21 ?_ | refine Zb 21 ?_ | refine ZU 21 ?_); (first | refine Zc 22 ?_ | refine Zb 22 ?_ | refine wAd 22 ?_); (first | refine Zc 23 ?_ | refine Zb 23 ?_ | refine wFa 23 ?_); (first | refine Zc 24 ?_ | refine Zb 24 ?_ | refine wLd 24 ?_); (first | refine Zc 25 ?_ | refine Zb 25 ?_ | refine wLd 25 ?_))
      all_goals (first | refine Zc 26 ?_ | refine Zb 26 ?_ | (refine Zn (i := 26) ?_; ((try refine Zk ?_); (first | (refine Zd (.func 19) ?_; refine qC rfl rfl ((hpa _ w3 (hC3.mono (Hp.le_trans hl4 (Hp.le_trans hl5 hl6'))))) ?_; rintro v ρ' L' hle ⟨rfl, hl11, rfl⟩ <;> (try simp only [kM, kN, kO])) | (refine Zj ?_; try intro _)) <;> ((try simp only [kM, kN, kO]); refine Za ?_; refine Zl ?_))))
      all_goals ((first | refine Zc 27 ?_ | refine Zb 27 ?_ | refine wCm 27 ?_); refine rPk 28 ?_; refine ZO 29 ?_; (first | refine Zc 30 ?_ | refine Zb 30 ?_ | refine wLd 30 ?_); (first | refine Zc 31 ?_ | refine Zb 31 ?_ | refine wLd 31 ?_); (first | refine Zc 32 ?_ | refine Zb 32 ?_ | refine wCm 32 ?_); refine rPk 33 ?_; refine ZO 34 ?_; (first | refine Zc 35 ?_ | refine Zb 35 ?_ | refine ZU 35 ?_))
      all_goals (first | refine Zc 36 ?_ | refine Zb 36 ?_ | (refine Zn (i := 36) ?_; ((try refine Zk ?_); (first | (refine Zd (.func 15) ?_; refine qC rfl rfl (pending0_spec _ db k6 Dd dd fd) ?_; rintro v ρ' L' hle ⟨hl12, a9, c9, rfl, rfl⟩ <;> (try simp only [kM, kN, kO])) | (refine Zj ?_; try intro _)) <;> ((try simp only [kM, kN, kO]); refine Za ?_; refine Zl ?_))))
      all_goals ((first | refine Zc 37 ?_ | refine Zb 37 ?_ | refine wBi 37 ?_); (first | refine Zc 38 ?_ | refine Zb 38 ?_ | refine wCm 38 ?_); refine rPk 39 ?_; refine ZO 40 ?_; (first | refine Zc 41 ?_ | refine Zb 41 ?_ | refine ZU 41 ?_); (first | refine Zc 42 ?_ | refine Zb 42 ?_ | refine ZU 42 ?_); (first | refine Zc 43 ?_ | refine Zb 43 ?_ | refine ZU 43 ?_))
      all_goals (first | refine Zc 44 ?_ | refine Zb 44 ?_ | (refine Zn (i := 44) ?_; ((try refine Zk ?_); (first | (refine Zd (.func 11) ?_; refine qC rfl rfl (XU _ fb db q (hF7.mono (Hp.le_trans hl35 (Hp.le_trans hl11 hl12))) hq k6 Dd dd fd) ?_; rintro v ρ' L' hle ⟨rfl, hl13, De, fe, de, qe, rfl⟩ <;> (try simp only [kM, kN, kO])) | (refine Zj ?_; try intro _)) <;> ((try simp only [kM, kN, kO]); refine Za ?_; refine Zl ?_))))
      all_goals (refine ZR ?_; (first | refine Zc 45 ?_ | refine Zb 45 ?_ | refine wUn 45 ?_); refine rPk 46 ?_; refine ZH ?_)
      all_goals (repeat' (first | (refine Zg ?_; first | (refine Ze ?_; refine qQ ?_) | refine Zj ?_) | refine Za ?_ | (refine Zh ?_; refine Zq ?_) | (refine Zi ?_; refine Zr ?_) | intro _))
      all_goals refine Zp (j + 1, _, k6, De) (⟨⟨hlt.1, by omega⟩, Hp.le_trans hl7 (Hp.le_trans hl35 (Hp.le_trans hl11 (Hp.le_trans hl12 hl13))), de, fe⟩) Zm Zm rfl tk inferInstance (by first | omega | (dsimp only; omega))
 ·by_cases h10 : j < n1
  ·have hj10 : j = 15 := by omega
   obtain ⟨b, off, C, T, fr, rfl, hb, hb5, hcd⟩ := (hws.mono hlm).get (show j < ws.length by omega)
   repeat' (first | (refine Zd (.func 11) ?_; refine qC rfl rfl (XU _ fb db 0 hF7 (by omega) k D hk hf) ?_; rintro v ρ' L' hle ⟨rfl, hl8, D2, hf2, hk2, hs2, rfl⟩ <;> (try simp only [kM, kN, kO])) | (refine Zg ?_; first | (refine Ze ?_; refine qQ ?_) | refine Zj ?_) | refine Za ?_ | (refine Zh ?_; refine Zq ?_) | (refine Zi ?_; refine Zr ?_) | intro _)
   repeat' (first | (refine Zd (.func 11) ?_; refine qC rfl rfl (XU _ fb db 1 (hF7.mono hl8) (by omega) k D2 hk2 hf2) ?_; rintro v ρ' L' hle ⟨rfl, hl9, D3, hf3, hk3, hs3, rfl⟩ <;> (try simp only [kM, kN, kO])) | (refine Zg ?_; first | (refine Ze ?_; refine qQ ?_) | refine Zj ?_) | refine Za ?_ | (refine Zh ?_; refine Zq ?_) | (refine Zi ?_; refine Zr ?_) | intro _)
   repeat' (first | (refine Zd (.func 11) ?_; refine qC rfl rfl (XU _ fb db 2 (hF7.mono (Hp.le_trans hl8 hl9)) (by omega) k D3 hk3 hf3) ?_; rintro v ρ' L' hle ⟨rfl, hl10, D4, hf4, hk4, hs4, rfl⟩ <;> (try simp only [kM, kN, kO])) | (refine Zg ?_; first | (refine Ze ?_; refine qQ ?_) | refine Zj ?_) | refine Za ?_ | (refine Zh ?_; refine Zq ?_) | (refine Zi ?_; refine Zr ?_) | intro _)
   have hfin := Hp.le_trans hlm (Hp.le_trans hl8 (Hp.le_trans hl9 hl10))
   exact qE (L' := []) ⟨rfl, hfin, rfl⟩
  ·repeat' (first | (refine Zd (.func 11) ?_; refine qC rfl rfl (XU _ fb db 0 hF7 (by omega) k D hk hf) ?_; rintro v ρ' L' hle ⟨rfl, hl8, D2, hf2, hk2, hs2, rfl⟩ <;> (try simp only [kM, kN, kO])) | (refine Zg ?_; first | (refine Ze ?_; refine qQ ?_) | refine Zj ?_) | refine Za ?_ | (refine Zh ?_; refine Zq ?_) | (refine Zi ?_; refine Zr ?_) | intro _)
   repeat' (first | (refine Zd (.func 11) ?_; refine qC rfl rfl (XU _ fb db 1 (hF7.mono hl8) (by omega) k D2 hk2 hf2) ?_; rintro v ρ' L' hle ⟨rfl, hl9, D3, hf3, hk3, hs3, rfl⟩ <;> (try simp only [kM, kN, kO])) | (refine Zg ?_; first | (refine Ze ?_; refine qQ ?_) | refine Zj ?_) | refine Za ?_ | (refine Zh ?_; refine Zq ?_) | (refine Zi ?_; refine Zr ?_) | intro _)
   repeat' (first | (refine Zd (.func 11) ?_; refine qC rfl rfl (XU _ fb db 2 (hF7.mono (Hp.le_trans hl8 hl9)) (by omega) k D3 hk3 hf3) ?_; rintro v ρ' L' hle ⟨rfl, hl10, D4, hf4, hk4, hs4, rfl⟩ <;> (try simp only [kM, kN, kO])) | (refine Zg ?_; first | (refine Ze ?_; refine qQ ?_) | refine Zj ?_) | refine Za ?_ | (refine Zh ?_; refine Zq ?_) | (refine Zi ?_; refine Zr ?_) | intro _)
   have hfin := Hp.le_trans hlm (Hp.le_trans hl8 (Hp.le_trans hl9 hl10))
   exact qE (L' := []) ⟨rfl, hfin, rfl⟩
end Go.Proofs.E
