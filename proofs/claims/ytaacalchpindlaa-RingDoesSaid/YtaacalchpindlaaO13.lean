/- The law RingDoes. Part 13 of 17. -/
import Derived.Test.YtaacalchpindlaaO12
namespace Go.Proofs.E
open Go
set_option linter.unusedVariables false
set_option linter.unusedSimpArgs false
set_option linter.unusedSectionVars false
set_option maxRecDepth 4000
set_option maxHeartbeats 1000000
attribute [local irreducible] Yl TL TC TE Spec Xt R1 Hp.le EnvLe TS TR YS Zo
theorem u64_mod4 (a m : Int) (h0 : 0 < m) (h1 : m ≤ 1000000) : ∃ q : Nat, (IntKind.u64.wrap a).tmod m = q ∧ (q : Int) < m := by
 have h2 : 0 ≤ IntKind.u64.wrap a := by
  have : IntKind.u64.wrap a = a % 18446744073709551616 := by simp only [IntKind.wrap]; rfl
  omega
 have h3 : (IntKind.u64.wrap a).tmod m = (IntKind.u64.wrap a) % m := Int.tmod_eq_emod_of_nonneg h2
 have h4 := Int.emod_nonneg (IntKind.u64.wrap a) (show m ≠ 0 by omega)
 have h5 := Int.emod_lt_of_pos (IntKind.u64.wrap a) h0
 exact ⟨((IntKind.u64.wrap a) % m).toNat, by rw [h3]; omega, by omega⟩
def doesAns (ρ' : Hp) (mb om db : Nat) (v : Value) (L' : SH) : Prop :=
 ∃ D' km' k', DOk km' D' ∧ DOk k' D' ∧ ((∃ rb' R' wr' w', v = .tuple ⟨[.pointer (some ⟨rb', 0, none⟩), .bool true]⟩ ∧ MIn ρ' R'.h w' ∧ w'.els.map BSl.l = R'.ents ∧ RIn ρ' R' wr' ∧ L' = [[(mb, .cells ⟨mdV om R'.h w' R'.broken false⟩ 38 (0, 0))]] ++ (ZT rb' db R' wr' ++ (Zi om km' D' ++ Zi db k' D'))) ∨
  (v = .tuple ⟨[.pointer none, .bool true]⟩ ∧ L' = [[(mb, .cells ⟨mdV om zHd zMW false true⟩ 38 (0, 0))]] ++ (Zi om km' D' ++ Zi db k' D')))
theorem does_some (ρ : Hp) (mb om rb db : Nat) (R : RgS) (w : MW) (hm : MIn ρ R.h w) (hel : w.els.map BSl.l = R.ents) (wr : RW) (hr : RIn ρ R wr) (km k : DK) (D : DS) (hkm : DOk km D) (hk : DOk k D) (e : EvV) (he : EvIn ρ e) :
  Spec Try.prog 6 [.pointer (some ⟨mb, 0, none⟩), .pointer (some ⟨rb, 0, none⟩), .pointer (some ⟨db, 0, none⟩), .agg ⟨evC e⟩] ρ ([[(mb, .cells ⟨mdV om R.h w R.broken false⟩ 38 (0, 0))]] ++ (ZT rb db R wr ++ (Zi om km D ++ Zi db k D)))
   (fun v ρ' L' => ρ.le ρ' ∧ doesAns ρ' mb om db v L') := by
 have hb1 : min e.b.n 400 ≤ 400 := Nat.min_le_right _ _
 have hb2 : min e.note.n 33 ≤ 33 := Nat.min_le_right _ _
 have hb3 : min e.kn 40 ≤ 40 := Nat.min_le_right _ _
 have hfw := fun ρ => few4_spec ρ e
 have hen := he.n
 generalize min e.b.n 400 = n1 at *
 generalize min e.note.n 33 = n2 at *
 generalize min e.kn 40 = n3 at *
 generalize e.b.l.take n1 = lb at *
 generalize e.note.l.take n2 = ln at *
 generalize e.ks.take n3 = lk at *
 obtain ⟨q, hq, hq12⟩ := u64_mod4 e.kind 12 (by omega) (by omega)
 refine Zd Try.func6 rfl rfl rfl fun u RR => ?_
 simp only [Zw, List.cons_append, List.nil_append]
 repeat' (first | (refine ZV ?_; refine Zy (Zc rfl) rfl rfl ?_) | (refine Zf ?_; first | (refine Ze ?_; refine qQ ?_) | refine Zk ?_) | refine Za ?_ | (refine Zg ?_; refine Zu ?_) | (refine Zh ?_; refine Zv ?_) | intro _)
 (refine Zb (.func 15) ?_; refine qC rfl rfl (hfw _ he) ?_; rintro v1 ρ1 L1 hle1 ⟨rfl, a1, c1, s1, a2, c2, s2, a3, c3, s3, rfl, ho1, ho2, ho3, rfl⟩; simp only [List.cons_append, List.nil_append])
 repeat' (first | (refine ZV ?_; refine Zy (Zc rfl) rfl rfl ?_) | (refine Zf ?_; first | (refine Ze ?_; refine qQ ?_) | refine Zk ?_) | refine Za ?_ | (refine Zg ?_; refine Zu ?_) | (refine Zh ?_; refine Zv ?_) | intro _)
 (refine Zb (.func 15) ?_; refine qC rfl rfl (hfw _ he) ?_; rintro v2 ρ2 L2 hle2 ⟨rfl, a4, c4, s4, a5, c5, s5, a6, c6, s6, rfl, ho4, ho5, ho6, rfl⟩; simp only [List.cons_append, List.nil_append])
 refine Yd (ZO (.slice a4 n1 c4) (lb.map ZE) s4 5) (h := by infer_instance) (fun ρ4 hl4 hfz4 => ?_)
 obtain ⟨_, _, e4, hc4, hs4⟩ := ho4.sIn hfz4
 cases e4
 refine Yd (ZO (.slice a5 n2 c5) (ln.map ZE) s5 5) (h := by infer_instance) (fun ρ5 hl5 hfz5 => ?_)
 obtain ⟨_, _, e5, hc5, hs5⟩ := ho5.sIn hfz5
 cases e5
 refine Yd (ZO (.slice a6 n3 c6) (lk.map bb) s6 4) (h := by infer_instance) (fun ρ6 hl6 hfz6 => ?_)
 obtain ⟨_, _, e6, hc6, hs6⟩ := ho6.sIn hfz6
 cases e6
 have hl46 := Hp.le_trans hl4 (Hp.le_trans hl5 hl6)
 have hxb : BIn ρ6 ⟨a4, n1, c4, lb⟩ := ⟨hs4.mono (Hp.le_trans hl5 hl6), hc4⟩
 have hxn : BIn ρ6 ⟨a5, n2, c5, ln⟩ := ⟨hs5.mono hl6, hc5⟩
 have hm6 := hm.mono hl46
 have hr6 := hr.mono hl46
 repeat' (first | (refine ZV ?_; refine Zy (Zc rfl) rfl rfl ?_) | (refine Zf ?_; first | (refine Ze ?_; refine qQ ?_) | refine Zk ?_) | refine Za ?_ | (refine Zg ?_; refine Zu ?_) | (refine Zh ?_; refine Zv ?_) | intro _)
 rename_i b7 b12
 rw [hq]
 by_cases q5 : q < 5
 ·have h5 : ((q : Int) == 5) = false := by simp; omega
  have h6 : ((q : Int) == 6) = false := by simp; omega
  have h7 : ((q : Int) == 7) = false := by simp; omega
  have h8 : ((q : Int) == 8) = false := by simp; omega
  have h9 : ((q : Int) == 9) = false := by simp; omega
  have h10 : ((q : Int) == 10) = false := by simp; omega
  have h11 : ((q : Int) == 11) = false := by simp; omega
  repeat' (first | (refine ZV ?_; refine Zy (Zc rfl) rfl rfl ?_) | (refine Zf ?_; first | (refine Ze ?_; refine qQ ?_) | refine Zk ?_) | refine Za ?_ | (refine Zg ?_; refine Zu ?_) | (refine Zh ?_; refine Zv ?_) | intro _)
  rw [h5]
  repeat' (first | (refine ZV ?_; refine Zy (Zc rfl) rfl rfl ?_) | (refine Zf ?_; first | (refine Ze ?_; refine qQ ?_) | refine Zk ?_) | refine Za ?_ | (refine Zg ?_; refine Zu ?_) | (refine Zh ?_; refine Zv ?_) | intro _)
  have hra := fun ρ (h : RIn ρ R wr) => append_spec ρ rb db R wr h k D hk _ a1 n1 c1 lb (ho1.rd (ρ := ρ) (T := 5)) (by have := ho1.slice; obtain ⟨_, _, e, h⟩ := this; cases e; exact h) (by omega)
  have hma := fun ρ (h : MIn ρ R.h w) hb => append04_spec ρ mb om R hr.ok w h hel ⟨a4, n1, c4, lb⟩ hb (by dsimp only; omega) km D hkm
  dsimp only at hma
  generalize R.append lb D = AP at *
  obtain ⟨R', D', ee⟩ := AP
  dsimp only at hra hma
  refine ZA (Zo _ _ ([[(b12, .cells ⟨[.int .i64 e.kind, .int .i64 e.n, .slice a1 n1 c1, .slice a2 n2 c2, .slice a3 n3 c3]⟩ 42 (0, 0))], [(b7, .cells ⟨[.int .i64 e.kind, .int .i64 e.n, .slice a4 n1 c4, .slice a5 n2 c5, .slice a6 n3 c6]⟩ 42 (0, 0))]])) (Zn (hT := tk) (Hp.le_refl _)) ?_
  all_goals (refine ZL 0 ?_; refine ZU 1 ?_; refine ZX 2 ?_; refine ZL 4 ?_; refine ZU 5 ?_; refine ZX 6 ?_)
  all_goals (refine Zp (i := 3) ?_; ((try refine Zl ?_); (first | (refine Zb (.func 11) ?_; refine qC rfl rfl (hra _ hr6) ?_; rintro v7 ρ7 L7 hle7 ⟨rfl, hl7, k7, wr7, hk7, hr7, rfl⟩; try simp only [List.cons_append, List.nil_append, List.append_assoc, List.append_eq]) | (refine Zk ?_; try intro _)) <;> ((try simp only [kM, kN, kO]); refine Za ?_; refine Zm ?_)))
  all_goals (refine Zp (i := 7) ?_; ((try refine Zl ?_); (first | (refine Zb (.func 22) ?_; refine qC rfl rfl (hma _ (hm6.mono hl7) (hxb.mono hl7)) ?_; rintro v8 ρ8 L8 hle8 ⟨rfl, hl8, k8, w8, hk8, hm8, hel8, rfl⟩; try simp only [List.cons_append, List.nil_append, List.append_assoc, List.append_eq]) | (refine Zk ?_; try intro _)) <;> ((try simp only [kM, kN, kO]); refine Za ?_; refine Zm ?_)))
  all_goals (refine ZN ?_; refine rAs 8 ?_; refine rAs 9 ?_; refine ZH ?_)
  all_goals (repeat' (first | (refine Zq rfl rfl rfl rfl (by simp) rfl rfl (fun bl => ?_)) | (refine Zb (.func 23) ?_; refine qC rfl rfl (Yp _ _ a1 a2 n1 n2 c1 c2 lb ln s1 s2 ho1 ho2 (by omega) (by omega)) ?_; rintro v9 ρ9 L9 hle9 ⟨rfl, rfl, m1, m2, rfl⟩; try simp only [List.cons_append, List.nil_append, List.append_assoc, List.append_eq]) | (refine ZV ?_; refine Zy (Zc rfl) rfl rfl ?_) | (refine Zf ?_; first | (refine Ze ?_; refine qQ ?_) | refine Zk ?_) | refine Za ?_ | (refine Zg ?_; refine Zu ?_) | (refine Zh ?_; refine Zv ?_) | intro _))
  all_goals (try simp only [beq_self_eq_true, decide_true])
  all_goals have hfin := Hp.le_trans hl46 (Hp.le_trans hl7 hl8)
  all_goals exact qE (L' := [[(mb, .cells ⟨mdV om R'.h w8 R'.broken false⟩ 38 (0, 0))]] ++ (ZT rb db R' wr7 ++ (Zi om k8 D' ++ Zi db k7 D'))) ⟨hfin, D', k8, k7, hk8, hk7, .inl ⟨rb, R', wr7, w8, rfl, hm8, hel8, hr7.mono hl8, rfl⟩⟩
 ·have hqs : (q = 5 ∨ q = 6) ∨ q = 7 ∨ q = 8 ∨ q = 9 ∨ q = 10 ∨ q = 11 := by omega
  rcases hqs with qc | qc | qc | qc | qc | qc
  ·have hra := fun ρ (h : RIn ρ R wr) => cut_any ρ rb db R wr h k D hk _ a2 n2 c2 ln (ho2.rd (ρ := ρ) (T := 5)) e.n hen
   have hma := fun ρ (h : MIn ρ R.h w) hb => cut04_spec ρ mb om R hr.ok w h hel ⟨a5, n2, c5, ln⟩ hb (by dsimp only; omega) e.n hen km D hkm
   dsimp only at hma
   generalize R.cut e.n ln D = AP at *
   obtain ⟨R', D', ee⟩ := AP
   dsimp only at hra hma
   rcases qc with rfl | rfl
   all_goals (repeat' (first | (refine ZV ?_; refine Zy (Zc rfl) rfl rfl ?_) | (refine Zf ?_; first | (refine Ze ?_; refine qQ ?_) | refine Zk ?_) | refine Za ?_ | (refine Zg ?_; refine Zu ?_) | (refine Zh ?_; refine Zv ?_) | intro _))
   all_goals refine ZA (Zo _ _ ([[(b12, .cells ⟨[.int .i64 e.kind, .int .i64 e.n, .slice a1 n1 c1, .slice a2 n2 c2, .slice a3 n3 c3]⟩ 42 (0, 0))], [(b7, .cells ⟨[.int .i64 e.kind, .int .i64 e.n, .slice a4 n1 c4, .slice a5 n2 c5, .slice a6 n3 c6]⟩ 42 (0, 0))]])) (Zn (hT := tk) (Hp.le_refl _)) ?_
   all_goals (refine ZL 0 ?_; refine ZU 1 ?_; refine ZX 2 ?_; refine ZU 3 ?_; refine ZX 4 ?_; refine ZL 6 ?_; refine ZU 7 ?_; refine ZX 8 ?_; refine ZU 9 ?_; refine ZX 10 ?_)
   all_goals (refine Zp (i := 5) ?_; ((try refine Zl ?_); (first | (refine Zb (.func 13) ?_; refine qC rfl rfl (hra _ hr6) ?_; rintro v7 ρ7 L7 hle7 ⟨rfl, hl7, k7, wr7, hk7, hr7, rfl⟩; try simp only [List.cons_append, List.nil_append, List.append_assoc, List.append_eq]) | (refine Zk ?_; try intro _)) <;> ((try simp only [kM, kN, kO]); refine Za ?_; refine Zm ?_)))
   all_goals (refine Zp (i := 11) ?_; ((try refine Zl ?_); (first | (refine Zb (.func 16) ?_; refine qC rfl rfl (hma _ (hm6.mono hl7) (hxn.mono hl7)) ?_; rintro v8 ρ8 L8 hle8 ⟨rfl, hl8, k8, w8, hk8, hm8, hel8, rfl⟩; try simp only [List.cons_append, List.nil_append, List.append_assoc, List.append_eq]) | (refine Zk ?_; try intro _)) <;> ((try simp only [kM, kN, kO]); refine Za ?_; refine Zm ?_)))
   all_goals (refine ZN ?_; refine rAs 12 ?_; refine rAs 13 ?_; refine ZH ?_)
   all_goals (repeat' (first | (refine Zq rfl rfl rfl rfl (by simp) rfl rfl (fun bl => ?_)) | (refine Zb (.func 23) ?_; refine qC rfl rfl (Yp _ _ a1 a2 n1 n2 c1 c2 lb ln s1 s2 ho1 ho2 (by omega) (by omega)) ?_; rintro v9 ρ9 L9 hle9 ⟨rfl, rfl, m1, m2, rfl⟩; try simp only [List.cons_append, List.nil_append, List.append_assoc, List.append_eq]) | (refine ZV ?_; refine Zy (Zc rfl) rfl rfl ?_) | (refine Zf ?_; first | (refine Ze ?_; refine qQ ?_) | refine Zk ?_) | refine Za ?_ | (refine Zg ?_; refine Zu ?_) | (refine Zh ?_; refine Zv ?_) | intro _))
   all_goals (try simp only [beq_self_eq_true, decide_true])
   all_goals have hfin := Hp.le_trans hl46 (Hp.le_trans hl7 hl8)
   all_goals exact qE (L' := [[(mb, .cells ⟨mdV om R'.h w8 R'.broken false⟩ 38 (0, 0))]] ++ (ZT rb db R' wr7 ++ (Zi om k8 D' ++ Zi db k7 D'))) ⟨hfin, D', k8, k7, hk8, hk7, .inl ⟨rb, R', wr7, w8, rfl, hm8, hel8, hr7.mono hl8, rfl⟩⟩
  ·subst qc
   have hra := fun ρ => karm4 ρ db k D hk e.n hen.2
   have hma := fun ρ => karm4 ρ om km D hkm e.n hen.2
   generalize D.arm e.n = AP at *
   obtain ⟨D', ee⟩ := AP
   dsimp only at hra hma
   repeat' (first | (refine ZV ?_; refine Zy (Zc rfl) rfl rfl ?_) | (refine Zf ?_; first | (refine Ze ?_; refine qQ ?_) | refine Zk ?_) | refine Za ?_ | (refine Zg ?_; refine Zu ?_) | (refine Zh ?_; refine Zv ?_) | intro _)
   refine ZA (Zo _ _ ([[(b7, .cells ⟨[.int .i64 e.kind, .int .i64 e.n, .slice a4 n1 c4, .slice a5 n2 c5, .slice a6 n3 c6]⟩ 42 (0, 0))], [(mb, .cells ⟨mdV om R.h w R.broken false⟩ 38 (0, 0))]])) (Zn (hT := tk) (Hp.le_refl _)) ?_
   all_goals (refine ZL 0 ?_; refine ZU 1 ?_; refine ZX 2 ?_; refine ZL 4 ?_; refine rNc 5 ?_; refine ZU 6 ?_; refine ZX 7 ?_; refine ZU 8 ?_; refine ZX 9 ?_)
   all_goals (refine Zp (i := 3) ?_; ((try refine Zl ?_); (first | (refine Zb (.func 17) ?_; refine qC rfl rfl ((hra _)) ?_; rintro v ρ' L' hle ⟨rfl, rfl, hk7, rfl⟩ <;> (try simp only [kM, kN, kO])) | (refine Zb (.func 17) ?_; refine qC rfl rfl ((hma _)) ?_; rintro v ρ' L' hle ⟨rfl, rfl, hk8, rfl⟩ <;> (try simp only [kM, kN, kO])) | (refine Zk ?_; try intro _)) <;> ((try simp only [kM, kN, kO]); refine Za ?_; refine Zm ?_)))
   all_goals (refine Zp (i := 10) ?_; ((try refine Zl ?_); (first | (refine Zb (.func 17) ?_; refine qC rfl rfl ((hra _)) ?_; rintro v ρ' L' hle ⟨rfl, rfl, hk7, rfl⟩ <;> (try simp only [kM, kN, kO])) | (refine Zb (.func 17) ?_; refine qC rfl rfl ((hma _)) ?_; rintro v ρ' L' hle ⟨rfl, rfl, hk8, rfl⟩ <;> (try simp only [kM, kN, kO])) | (refine Zk ?_; try intro _)) <;> ((try simp only [kM, kN, kO]); refine Za ?_; refine Zm ?_)))
   all_goals (refine ZN ?_; refine rAs 11 ?_; refine rAs 12 ?_; refine ZH ?_)
   all_goals (repeat' (first | (refine Zq rfl rfl rfl rfl (by simp) rfl rfl (fun bl => ?_)) | (refine Zb (.func 23) ?_; refine qC rfl rfl (Yp _ _ a1 a2 n1 n2 c1 c2 lb ln s1 s2 ho1 ho2 (by omega) (by omega)) ?_; rintro v9 ρ9 L9 hle9 ⟨rfl, rfl, m1, m2, rfl⟩; try simp only [List.cons_append, List.nil_append, List.append_assoc, List.append_eq]) | (refine ZV ?_; refine Zy (Zc rfl) rfl rfl ?_) | (refine Zf ?_; first | (refine Ze ?_; refine qQ ?_) | refine Zk ?_) | refine Za ?_ | (refine Zg ?_; refine Zu ?_) | (refine Zh ?_; refine Zv ?_) | intro _))
   all_goals (try simp only [beq_self_eq_true, decide_true])
   all_goals exact qE (L' := [[(mb, .cells ⟨mdV om R.h w R.broken false⟩ 38 (0, 0))]] ++ (ZT rb db R wr ++ (Zi om km D' ++ Zi db k D'))) ⟨hl46, D', km, k, hk8, hk7, .inl ⟨rb, R, wr, w, rfl, hm6, hel, hr6, rfl⟩⟩
  ·subst qc
   have hra := fun ρ => kfail4 ρ db k D hk e.n hen.2
   have hma := fun ρ => kfail4 ρ om km D hkm e.n hen.2
   generalize D.fail e.n = AP at *
   obtain ⟨D', ee⟩ := AP
   dsimp only at hra hma
   repeat' (first | (refine ZV ?_; refine Zy (Zc rfl) rfl rfl ?_) | (refine Zf ?_; first | (refine Ze ?_; refine qQ ?_) | refine Zk ?_) | refine Za ?_ | (refine Zg ?_; refine Zu ?_) | (refine Zh ?_; refine Zv ?_) | intro _)
   refine ZA (Zo _ _ ([[(b7, .cells ⟨[.int .i64 e.kind, .int .i64 e.n, .slice a4 n1 c4, .slice a5 n2 c5, .slice a6 n3 c6]⟩ 42 (0, 0))], [(mb, .cells ⟨mdV om R.h w R.broken false⟩ 38 (0, 0))]])) (Zn (hT := tk) (Hp.le_refl _)) ?_
   all_goals (refine ZL 0 ?_; refine ZU 1 ?_; refine ZX 2 ?_; refine ZL 4 ?_; refine rNc 5 ?_; refine ZU 6 ?_; refine ZX 7 ?_; refine ZU 8 ?_; refine ZX 9 ?_)
   all_goals (refine Zp (i := 3) ?_; ((try refine Zl ?_); (first | (refine Zb (.func 18) ?_; refine qC rfl rfl ((hra _)) ?_; rintro v ρ' L' hle ⟨rfl, rfl, hk7, rfl⟩ <;> (try simp only [kM, kN, kO])) | (refine Zb (.func 18) ?_; refine qC rfl rfl ((hma _)) ?_; rintro v ρ' L' hle ⟨rfl, rfl, hk8, rfl⟩ <;> (try simp only [kM, kN, kO])) | (refine Zk ?_; try intro _)) <;> ((try simp only [kM, kN, kO]); refine Za ?_; refine Zm ?_)))
   all_goals (refine Zp (i := 10) ?_; ((try refine Zl ?_); (first | (refine Zb (.func 18) ?_; refine qC rfl rfl ((hra _)) ?_; rintro v ρ' L' hle ⟨rfl, rfl, hk7, rfl⟩ <;> (try simp only [kM, kN, kO])) | (refine Zb (.func 18) ?_; refine qC rfl rfl ((hma _)) ?_; rintro v ρ' L' hle ⟨rfl, rfl, hk8, rfl⟩ <;> (try simp only [kM, kN, kO])) | (refine Zk ?_; try intro _)) <;> ((try simp only [kM, kN, kO]); refine Za ?_; refine Zm ?_)))
   all_goals (refine ZN ?_; refine rAs 11 ?_; refine rAs 12 ?_; refine ZH ?_)
   all_goals (repeat' (first | (refine Zq rfl rfl rfl rfl (by simp) rfl rfl (fun bl => ?_)) | (refine Zb (.func 23) ?_; refine qC rfl rfl (Yp _ _ a1 a2 n1 n2 c1 c2 lb ln s1 s2 ho1 ho2 (by omega) (by omega)) ?_; rintro v9 ρ9 L9 hle9 ⟨rfl, rfl, m1, m2, rfl⟩; try simp only [List.cons_append, List.nil_append, List.append_assoc, List.append_eq]) | (refine ZV ?_; refine Zy (Zc rfl) rfl rfl ?_) | (refine Zf ?_; first | (refine Ze ?_; refine qQ ?_) | refine Zk ?_) | refine Za ?_ | (refine Zg ?_; refine Zu ?_) | (refine Zh ?_; refine Zv ?_) | intro _))
   all_goals (try simp only [beq_self_eq_true, decide_true])
   all_goals exact qE (L' := [[(mb, .cells ⟨mdV om R.h w R.broken false⟩ 38 (0, 0))]] ++ (ZT rb db R wr ++ (Zi om km D' ++ Zi db k D'))) ⟨hl46, D', km, k, hk8, hk7, .inl ⟨rb, R, wr, w, rfl, hm6, hel, hr6, rfl⟩⟩
  ·subst qc
   have hra := fun ρ h => kcrash ρ db k D hk a6 n3 c6 lk h hb3 hc6
   have hma := fun ρ h => kcrash ρ om km D hkm a6 n3 c6 lk h hb3 hc6
   generalize D.crash (keepB (lk.take 60)) = D' at *
   repeat' (first | (refine ZV ?_; refine Zy (Zc rfl) rfl rfl ?_) | (refine Zf ?_; first | (refine Ze ?_; refine qQ ?_) | refine Zk ?_) | refine Za ?_ | (refine Zg ?_; refine Zu ?_) | (refine Zh ?_; refine Zv ?_) | intro _)
   refine ZA (Zo _ _ ([[(b7, .cells ⟨[.int .i64 e.kind, .int .i64 e.n, .slice a4 n1 c4, .slice a5 n2 c5, .slice a6 n3 c6]⟩ 42 (0, 0))], [(mb, .cells ⟨mdV om R.h w R.broken false⟩ 38 (0, 0))]])) (Zn (hT := tk) (Hp.le_refl _)) ?_
   all_goals (refine ZL 0 ?_; refine ZU 1 ?_; refine ZX 2 ?_; refine ZL 4 ?_; refine rNc 5 ?_; refine ZU 6 ?_; refine ZX 7 ?_; refine ZU 8 ?_; refine ZX 9 ?_)
   all_goals (refine Zp (i := 3) ?_; ((try refine Zl ?_); (first | (refine Zb (.func 8) ?_; refine qC rfl rfl (hra _ hs6) ?_; rintro v7 ρ7 L7 hle7 ⟨rfl, hl7, k7, hk7, rfl⟩; try simp only [List.cons_append, List.nil_append, List.append_assoc, List.append_eq]) | (refine Zb (.func 8) ?_; refine qC rfl rfl (hma _ (hs6.mono hl7)) ?_; rintro v8 ρ8 L8 hle8 ⟨rfl, hl8, k8, hk8, rfl⟩; try simp only [List.cons_append, List.nil_append, List.append_assoc, List.append_eq]) | (refine Zk ?_; try intro _)) <;> ((try simp only [kM, kN, kO]); refine Za ?_; refine Zm ?_)))
   all_goals (refine Zp (i := 10) ?_; ((try refine Zl ?_); (first | (refine Zb (.func 8) ?_; refine qC rfl rfl (hra _ hs6) ?_; rintro v7 ρ7 L7 hle7 ⟨rfl, hl7, k7, hk7, rfl⟩; try simp only [List.cons_append, List.nil_append, List.append_assoc, List.append_eq]) | (refine Zb (.func 8) ?_; refine qC rfl rfl (hma _ (hs6.mono hl7)) ?_; rintro v8 ρ8 L8 hle8 ⟨rfl, hl8, k8, hk8, rfl⟩; try simp only [List.cons_append, List.nil_append, List.append_assoc, List.append_eq]) | (refine Zk ?_; try intro _)) <;> ((try simp only [kM, kN, kO]); refine Za ?_; refine Zm ?_)))
   all_goals (refine ZN ?_; refine rAs 11 ?_; refine rAs 12 ?_; refine ZH ?_)
   all_goals (repeat' (first | (refine Zq rfl rfl rfl rfl (by simp) rfl rfl (fun bl => ?_)) | (refine Zb (.func 23) ?_; refine qC rfl rfl (Yp _ _ a1 a2 n1 n2 c1 c2 lb ln s1 s2 ho1 ho2 (by omega) (by omega)) ?_; rintro v9 ρ9 L9 hle9 ⟨rfl, rfl, m1, m2, rfl⟩; try simp only [List.cons_append, List.nil_append, List.append_assoc, List.append_eq]) | (refine ZV ?_; refine Zy (Zc rfl) rfl rfl ?_) | (refine Zf ?_; first | (refine Ze ?_; refine qQ ?_) | refine Zk ?_) | refine Za ?_ | (refine Zg ?_; refine Zu ?_) | (refine Zh ?_; refine Zv ?_) | intro _))
   all_goals (try simp only [beq_self_eq_true, decide_true])
   all_goals have hl78 := Hp.le_trans hl7 hl8
   all_goals have hfin := Hp.le_trans hl46 hl78
   all_goals exact qE (L' := [[(mb, .cells ⟨mdV om R.h w R.broken false⟩ 38 (0, 0))]] ++ (ZT rb db R wr ++ (Zi om k8 D' ++ Zi db k7 D'))) ⟨hfin, D', k8, k7, hk8, hk7, .inl ⟨rb, R, wr, w, rfl, hm6.mono hl78, hel, hr6.mono hl78, rfl⟩⟩
  ·subst qc
   have hra := fun ρ => open_spec ρ db k D hk
   have hma := fun ρ (h : MIn ρ R.h w) => open04_spec ρ mb om R.h w R.broken false km D hkm
   have hnn := @openR_none
   have hss := @openR_some
   generalize hAP : openR D = AP at *
   obtain ⟨o, D', ee⟩ := AP
   cases o with
   | none =>
    have he0 := hnn hAP
    unfold openAns at hra
    unfold mdAns at hma
    dsimp only at hra hma
    repeat' (first | (refine Zb (.func 19) ?_; refine qC rfl rfl (hra _) ?_; rintro v7 ρ7 L7 hle7 ⟨hl7, k7, hk7, rfl, rfl⟩; try simp only [List.cons_append, List.nil_append, List.append_assoc, List.append_eq]) | (refine Zb (.func 20) ?_; refine qC rfl rfl (hma _ (hm6.mono hl7)) ?_; rintro v8 ρ8 L8 hle8 ⟨hl8, k8, hk8, rfl, rfl⟩; try simp only [List.cons_append, List.nil_append, List.append_assoc, List.append_eq]) | (refine ZV ?_; refine Zy (Zc rfl) rfl rfl ?_) | (refine Zf ?_; first | (refine Ze ?_; refine qQ ?_) | refine Zk ?_) | refine Za ?_ | (refine Zg ?_; refine Zu ?_) | (refine Zh ?_; refine Zv ?_) | intro _)
    repeat' (first | (refine Zq rfl rfl rfl rfl (by simp) rfl rfl (fun bl => ?_)) | (refine Zb (.func 23) ?_; refine qC rfl rfl (Yp _ _ a1 a2 n1 n2 c1 c2 lb ln s1 s2 ho1 ho2 (by omega) (by omega)) ?_; rintro v9 ρ9 L9 hle9 ⟨rfl, rfl, m1, m2, rfl⟩; try simp only [List.cons_append, List.nil_append, List.append_assoc, List.append_eq]) | (refine ZV ?_; refine Zy (Zc rfl) rfl rfl ?_) | (refine Zf ?_; first | (refine Ze ?_; refine qQ ?_) | refine Zk ?_) | refine Za ?_ | (refine Zg ?_; refine Zu ?_) | (refine Zh ?_; refine Zv ?_) | intro _)
    (try simp only [beq_self_eq_true, decide_true])
    have hl78 := Hp.le_trans hl7 hl8
    have hfin := Hp.le_trans hl46 hl78
    exact qE (L' := [[(mb, .cells ⟨mdV om R.h w R.broken false⟩ 38 (0, 0))]] ++ (ZT rb db R wr ++ (Zi om k8 D' ++ Zi db k7 D'))) ⟨hfin, D', k8, k7, hk8, hk7, .inl ⟨rb, R, wr, w, rfl, hm6.mono hl78, hel, hr6.mono hl78, rfl⟩⟩
   | some R' =>
    have he0 := hss hAP
    subst he0
    unfold openAns at hra
    unfold mdAns at hma
    dsimp only at hra hma
    repeat' (first | (refine Zb (.func 19) ?_; refine qC rfl rfl (hra _) ?_; rintro v7 ρ7 L7 hle7 ⟨hl7, k7, hk7, rb7, wr7, rfl, hr7, rfl⟩; try simp only [List.cons_append, List.nil_append, List.append_assoc, List.append_eq]) | (refine Zb (.func 20) ?_; refine qC rfl rfl (hma _ (hm6.mono hl7)) ?_; rintro v8 ρ8 L8 hle8 ⟨hl8, k8, hk8, rfl, w8, hm8, hel8, rfl⟩; try simp only [List.cons_append, List.nil_append, List.append_assoc, List.append_eq]) | (refine ZV ?_; refine Zy (Zc rfl) rfl rfl ?_) | (refine Zf ?_; first | (refine Ze ?_; refine qQ ?_) | refine Zk ?_) | refine Za ?_ | (refine Zg ?_; refine Zu ?_) | (refine Zh ?_; refine Zv ?_) | intro _)
    repeat' (first | (refine Zq rfl rfl rfl rfl (by simp) rfl rfl (fun bl => ?_)) | (refine Zb (.func 23) ?_; refine qC rfl rfl (Yp _ _ a1 a2 n1 n2 c1 c2 lb ln s1 s2 ho1 ho2 (by omega) (by omega)) ?_; rintro v9 ρ9 L9 hle9 ⟨rfl, rfl, m1, m2, rfl⟩; try simp only [List.cons_append, List.nil_append, List.append_assoc, List.append_eq]) | (refine ZV ?_; refine Zy (Zc rfl) rfl rfl ?_) | (refine Zf ?_; first | (refine Ze ?_; refine qQ ?_) | refine Zk ?_) | refine Za ?_ | (refine Zg ?_; refine Zu ?_) | (refine Zh ?_; refine Zv ?_) | intro _)
    have hl78 := Hp.le_trans hl7 hl8
    have hfin := Hp.le_trans hl46 hl78
    exact qE (L' := [[(mb, .cells ⟨mdV om R'.h w8 R'.broken false⟩ 38 (0, 0))]] ++ (ZT rb7 db R' wr7 ++ (Zi om k8 D' ++ Zi db k7 D'))) ⟨hfin, D', k8, k7, hk8, hk7, .inl ⟨rb7, R', wr7, w8, rfl, hm8, hel8, hr7.mono hl8, rfl⟩⟩
  ·subst qc
   have hra := fun ρ => format_spec ρ db k D hk e.n hen
   have hma := fun ρ (h : MIn ρ R.h w) => format04_spec ρ mb om R.h w R.broken false km D hkm e.n hen
   have hnn := @formatR_none
   have hss := @formatR_some
   generalize hAP : Yj e.n D = AP at *
   obtain ⟨o, D', ee⟩ := AP
   cases o with
   | none =>
    have he0 := hnn hAP
    unfold ringAns at hra
    unfold mdAns at hma
    dsimp only at hra hma
    repeat' (first | (refine Zb (.func 10) ?_; refine qC rfl rfl (hra _) ?_; rintro v7 ρ7 L7 hle7 ⟨hl7, k7, hk7, rfl, rfl⟩; try simp only [List.cons_append, List.nil_append, List.append_assoc, List.append_eq]) | (refine Zb (.func 21) ?_; refine qC rfl rfl (hma _ (hm6.mono hl7)) ?_; rintro v8 ρ8 L8 hle8 ⟨hl8, k8, hk8, rfl, rfl⟩; try simp only [List.cons_append, List.nil_append, List.append_assoc, List.append_eq]) | (refine ZV ?_; refine Zy (Zc rfl) rfl rfl ?_) | (refine Zf ?_; first | (refine Ze ?_; refine qQ ?_) | refine Zk ?_) | refine Za ?_ | (refine Zg ?_; refine Zu ?_) | (refine Zh ?_; refine Zv ?_) | intro _)
    repeat' (first | (refine Zq rfl rfl rfl rfl (by simp) rfl rfl (fun bl => ?_)) | (refine Zb (.func 23) ?_; refine qC rfl rfl (Yp _ _ a1 a2 n1 n2 c1 c2 lb ln s1 s2 ho1 ho2 (by omega) (by omega)) ?_; rintro v9 ρ9 L9 hle9 ⟨rfl, rfl, m1, m2, rfl⟩; try simp only [List.cons_append, List.nil_append, List.append_assoc, List.append_eq]) | (refine ZV ?_; refine Zy (Zc rfl) rfl rfl ?_) | (refine Zf ?_; first | (refine Ze ?_; refine qQ ?_) | refine Zk ?_) | refine Za ?_ | (refine Zg ?_; refine Zu ?_) | (refine Zh ?_; refine Zv ?_) | intro _)
    (try simp only [beq_self_eq_true, decide_true])
    have hl78 := Hp.le_trans hl7 hl8
    have hfin := Hp.le_trans hl46 hl78
    exact qE (L' := [[(mb, .cells ⟨mdV om R.h w R.broken false⟩ 38 (0, 0))]] ++ (ZT rb db R wr ++ (Zi om k8 D' ++ Zi db k7 D'))) ⟨hfin, D', k8, k7, hk8, hk7, .inl ⟨rb, R, wr, w, rfl, hm6.mono hl78, hel, hr6.mono hl78, rfl⟩⟩
   | some R' =>
    have he0 := hss hAP
    subst he0
    unfold ringAns at hra
    unfold mdAns at hma
    dsimp only at hra hma
    repeat' (first | (refine Zb (.func 10) ?_; refine qC rfl rfl (hra _) ?_; rintro v7 ρ7 L7 hle7 ⟨hl7, k7, hk7, rb7, wr7, rfl, hr7, rfl⟩; try simp only [List.cons_append, List.nil_append, List.append_assoc, List.append_eq]) | (refine Zb (.func 21) ?_; refine qC rfl rfl (hma _ (hm6.mono hl7)) ?_; rintro v8 ρ8 L8 hle8 ⟨hl8, k8, hk8, rfl, w8, hm8, hel8, rfl⟩; try simp only [List.cons_append, List.nil_append, List.append_assoc, List.append_eq]) | (refine ZV ?_; refine Zy (Zc rfl) rfl rfl ?_) | (refine Zf ?_; first | (refine Ze ?_; refine qQ ?_) | refine Zk ?_) | refine Za ?_ | (refine Zg ?_; refine Zu ?_) | (refine Zh ?_; refine Zv ?_) | intro _)
    repeat' (first | (refine Zq rfl rfl rfl rfl (by simp) rfl rfl (fun bl => ?_)) | (refine Zb (.func 23) ?_; refine qC rfl rfl (Yp _ _ a1 a2 n1 n2 c1 c2 lb ln s1 s2 ho1 ho2 (by omega) (by omega)) ?_; rintro v9 ρ9 L9 hle9 ⟨rfl, rfl, m1, m2, rfl⟩; try simp only [List.cons_append, List.nil_append, List.append_assoc, List.append_eq]) | (refine ZV ?_; refine Zy (Zc rfl) rfl rfl ?_) | (refine Zf ?_; first | (refine Ze ?_; refine qQ ?_) | refine Zk ?_) | refine Za ?_ | (refine Zg ?_; refine Zu ?_) | (refine Zh ?_; refine Zv ?_) | intro _)
    have hl78 := Hp.le_trans hl7 hl8
    have hfin := Hp.le_trans hl46 hl78
    exact qE (L' := [[(mb, .cells ⟨mdV om R'.h w8 R'.broken false⟩ 38 (0, 0))]] ++ (ZT rb7 db R' wr7 ++ (Zi om k8 D' ++ Zi db k7 D'))) ⟨hfin, D', k8, k7, hk8, hk7, .inl ⟨rb7, R', wr7, w8, rfl, hm8, hel8, hr7.mono hl8, rfl⟩⟩
end Go.Proofs.E
