/- Laws of analysis. Part 31 of 37. -/
import Derived.Test.YtkbiahafeoillaaGreatB30
namespace Go.Proofs.E
open Go
set_option linter.unusedVariables false
set_option linter.unusedSimpArgs false
set_option linter.unusedSectionVars false
set_option maxRecDepth 4000
set_option maxHeartbeats 1000000
attribute [local irreducible] Yl TL TC TE Spec YY R1 Hp.le EnvLe TS TR YS Zq
theorem does2_spec (ρ : Hp) (sb : Nat) {vv : Value} {sp : List Value} {lv : List (RV × Rc)} {rv : SV} {ro : Ros} {dv : SV} {d : List Yp} {m : Nat} (hS : StoS ρ vv sp lv rv ro dv d m) (hl : lv.length ≤ 1000) (o : FdD) (hk0 : ¬ (IntKind.u64.wrap o.kind).tmod 3 = 0) (hk1 : ¬ (IntKind.u64.wrap o.kind).tmod 3 = 1) :
  Spec Tryz.prog 37 [.pointer (some ⟨sb, 0, none⟩), .agg ⟨fdV o⟩] ρ [ZN vv (lvF lv) sp 34, stoC sb vv rv ro dv m] (DoesPost ρ sb lv.length) := by
 have hM := make_spec ρ rv ro hS.rs dv d hS.ds (lv.length + 1)
 have hown := hS.own
 obtain ⟨va, vc, rfl, hvc⟩ := hown.slice
 refine Zg Tryz.func37 rfl rfl rfl fun u R => ?_
 simp only [Zx, List.cons_append, List.nil_append]
 by_cases he : makeE ro d (lv.length + 1) = 0
 case' neg =>
  generalize makeE ro d (lv.length + 1) = me at *
  repeat' (first | (refine Zz ?_; refine Zk (Zc rfl) rfl rfl ?_) | (refine Zh ?_; first | (refine Zf ?_; refine qQ ?_) | refine Zm ?_) | refine Zb ?_ | (refine Zi ?_; refine Zr ?_) | (refine Zj ?_; refine Zs ?_) | intro _)
  refine ZB (Zq _ _ _) Zy ?_
  all_goals (refine ZI 0 ?_; refine rNc 1 ?_; refine ZO 2 ?_; refine ZU 3 ?_; refine ZI 4 ?_; refine rNc 5 ?_; refine ZO 6 ?_; refine ZU 7 ?_; refine ZI 8 ?_)
  all_goals (refine YG (i := 9) (j := 13) ?_ ?_ <;> ((try refine Zn ?_); (first | (refine Ze (.func 74) ?_; refine qC rfl rfl (hM) ?_; rintro v ρ' L' hle ⟨hz1, v1, rfl, hR1, rfl⟩ <;> (try simp only [kM, kN, kO])) | (refine Zm ?_; try intro _)) <;> ((try simp only [kM, kN, kO]); refine Zb ?_; refine Zo ?_)))
  all_goals (first | refine ZI 10 ?_ | (refine Zt (i := 9) ?_; ((try refine Zn ?_); (first | (refine Ze (.func 74) ?_; refine qC rfl rfl (hM) ?_; rintro v ρ' L' hle ⟨hz1, v1, rfl, hR1, rfl⟩ <;> (try simp only [kM, kN, kO])) | (refine Zm ?_; try intro _)) <;> ((try simp only [kM, kN, kO]); refine Zb ?_; refine Zo ?_))))
  all_goals (first | refine ZI 10 ?_ | refine rEx 11 ?_)
  all_goals (first | refine rEx 11 ?_ | refine rEx 12 ?_)
  all_goals (first | refine rEx 12 ?_ | (refine Zt (i := 13) ?_; ((try refine Zn ?_); (first | (refine Zm ?_; try intro _)) <;> ((try simp only [kM, kN, kO]); refine Zb ?_; refine Zo ?_))))
  all_goals (refine Zt (i := 14) ?_; ((try refine Zn ?_); (first | (refine Zm ?_; try intro _)) <;> ((try simp only [kM, kN, kO]); refine Zb ?_; refine Zo ?_)))
  all_goals (refine ZK ?_; refine rAs 15 ?_; refine ZE ?_)
  all_goals (repeat' (first | (refine Zz ?_; refine Zk (Zc rfl) rfl rfl ?_) | (refine Zh ?_; first | (refine Zf ?_; refine qQ ?_) | refine Zm ?_) | refine Zb ?_ | (refine Zi ?_; refine Zr ?_) | (refine Zj ?_; refine Zs ?_) | intro _))
  all_goals exact qE (L' := [ZN (.slice va lv.length vc) (lvF lv) sp 34, stoC sb (.slice va lv.length vc) rv ro dv m]) ⟨hz1, _, sp, lv, rv, ro, dv, d, m, hS.mono hz1, Nat.le_succ _, rfl⟩
 obtain ⟨h1, h2, h3⟩ := makeE_zero he
 have hm : makeR ro d (lv.length + 1) = Xy ro d (lv.length + 1) := by unfold makeR; rw [if_pos he]
 rw [hm, he] at hM
 have hG := hS.g.ckpt (r := Xy ro d (lv.length + 1)) h3 (by rw [List.length_map]; rfl) rfl rfl (ckTs2 _) rfl
 rw [List.length_map] at hG
 repeat' (first | (refine Zz ?_; refine Zk (Zc rfl) rfl rfl ?_) | (refine Zh ?_; first | (refine Zf ?_; refine qQ ?_) | refine Zm ?_) | refine Zb ?_ | (refine Zi ?_; refine Zr ?_) | (refine Zj ?_; refine Zs ?_) | intro _)
 refine tc_cut_k R [(0, _), (4, _)] (fun (ζ : (Hp) × (Nat) × (RV)) => [(13, .pointer (some ⟨ζ.2.1, 0, none⟩)), (14, .int .i64 0)]) (fun (ζ : (Hp) × (Nat) × (RV)) => ζ.1) (fun (ζ : (Hp) × (Nat) × (RV)) => [[(ζ.2.1, .cells ⟨YR ζ.2.2 (Xy ro d (lv.length + 1))⟩ 34 (0, 0))], ZN (.slice va lv.length vc) (lvF lv) sp 34, stoC sb (.slice va lv.length vc) rv ro dv m]) (fun (ζ : (Hp) × (Nat) × (RV)) => ρ.le ζ.1 ∧ RcIn ζ.1 ζ.2.2 (Xy ro d (lv.length + 1))) Zl ?_ ?_
 ·refine ZB (Zq _ _ _) Zy ?_
  all_goals (refine ZI 0 ?_; refine rNc 1 ?_; refine ZO 2 ?_; refine ZU 3 ?_; refine ZI 4 ?_; refine rNc 5 ?_; refine ZO 6 ?_; refine ZU 7 ?_; refine ZI 8 ?_)
  all_goals (refine YG (i := 9) (j := 13) ?_ ?_ <;> ((try refine Zn ?_); (first | (refine Ze (.func 74) ?_; refine qC rfl rfl (hM) ?_; rintro v ρ' L' hle ⟨hz1, v1, rfl, hR1, rfl⟩ <;> (try simp only [kM, kN, kO])) | (refine Zm ?_; try intro _)) <;> ((try simp only [kM, kN, kO]); refine Zb ?_; refine Zo ?_)))
  all_goals (first | refine ZI 10 ?_ | (refine Zt (i := 9) ?_; ((try refine Zn ?_); (first | (refine Ze (.func 74) ?_; refine qC rfl rfl (hM) ?_; rintro v ρ' L' hle ⟨hz1, v1, rfl, hR1, rfl⟩ <;> (try simp only [kM, kN, kO])) | (refine Zm ?_; try intro _)) <;> ((try simp only [kM, kN, kO]); refine Zb ?_; refine Zo ?_))))
  all_goals (first | refine ZI 10 ?_ | refine rEx 11 ?_)
  all_goals (first | refine rEx 11 ?_ | refine rEx 12 ?_)
  all_goals (first | refine rEx 12 ?_ | (refine Zt (i := 13) ?_; ((try refine Zn ?_); (first | (refine Zm ?_; try intro _)) <;> ((try simp only [kM, kN, kO]); refine Zb ?_; refine Zo ?_))))
  all_goals (refine Zt (i := 14) ?_; ((try refine Zn ?_); (first | (refine Zm ?_; try intro _)) <;> ((try simp only [kM, kN, kO]); refine Zb ?_; refine Zo ?_)))
  all_goals (refine ZK ?_; refine rAs 15 ?_; refine ZE ?_)
  all_goals refine te_cut_g ((_, _, _)) (⟨hz1, hR1⟩) Zl Zl rfl tk inferInstance
 rintro ⟨ρ2, b13, v1⟩ ⟨hz1, hR1⟩
 simp only [List.cons_append, List.nil_append]
 refine tc_freeze [(b13, .cells ⟨YR v1 (Xy ro d (lv.length + 1))⟩ 34 (0, 0))] (h := Rem.here) (fun ρ3 hz3 hfz => ?_)
 have hb13 : ρ3 b13 = some (.cells ⟨YR v1 (Xy ro d (lv.length + 1))⟩ 34 (0, 0)) := hfz _ (List.mem_singleton.2 rfl)
 have hld13 : List.take 10 (List.drop 0 (YR v1 (Xy ro d (lv.length + 1)))) = YR v1 (Xy ro d (lv.length + 1)) := rfl
 have hfit13 : 0 + 10 ≤ (YR v1 (Xy ro d (lv.length + 1))).length := Nat.le_refl 10
 clear hfz
 have hz4 := Hp.le_trans hz1 hz3
 repeat' (first | (refine Zz ?_; refine Zk (Zc rfl) rfl rfl ?_) | (refine Zh ?_; first | (refine Zf ?_; refine qQ ?_) | refine Zm ?_) | refine Zb ?_ | (refine Zi ?_; refine Zr ?_) | (refine Zj ?_; refine Zs ?_) | intro _)
 refine ZB (Zq _ _ ([])) (ZG (hT := tk) (Hp.le_refl _)) ?_
 all_goals (refine ZI 0 ?_; refine ZI 1 ?_; refine ZI 2 ?_; refine rNc 3 ?_; refine ZO 4 ?_; refine ZU 6 ?_; refine ZI 9 ?_)
 all_goals (refine YG (i := 5) (j := 7) ?_ ?_ <;> ((try refine Zn ?_); (first | (refine ZS (css := [lvV (v1, Xy ro d (lv.length + 1))]) (sz := 10) rfl rfl rfl rfl (by simp) (by simp) rfl (fun bs => ?_); simp only [List.flatten_cons, List.flatten_nil, List.append_nil]) | (refine Xg (ys := lvV (v1, Xy ro d (lv.length + 1))) (m := 1) rfl rfl hown (hR := by repeat (first | exact Yj | apply Yr)) (SrcV.lit) rfl rfl (by decide) rfl (by omega) (by omega) rfl (fun v9 sp9 hown9 => ?_); obtain ⟨va9, vc9, rfl, _⟩ := hown9.slice) | (refine Zf ?_; refine qQ ?_) | (refine Zm ?_; try intro _)) <;> ((try simp only [kM, kN, kO]); refine Zb ?_; refine Zo ?_)))
 all_goals (first | (refine Zt (i := 7) ?_; ((try refine Zn ?_); (first | (refine ZS (css := [lvV (v1, Xy ro d (lv.length + 1))]) (sz := 10) rfl rfl rfl rfl (by simp) (by simp) rfl (fun bs => ?_); simp only [List.flatten_cons, List.flatten_nil, List.append_nil]) | (refine Zf ?_; refine qQ ?_) | (refine Zm ?_; try intro _)) <;> ((try simp only [kM, kN, kO]); refine Zb ?_; refine Zo ?_))) | (refine Zt (i := 5) ?_; ((try refine Zn ?_); (first | (refine ZS (css := [lvV (v1, Xy ro d (lv.length + 1))]) (sz := 10) rfl rfl rfl rfl (by simp) (by simp) rfl (fun bs => ?_); simp only [List.flatten_cons, List.flatten_nil, List.append_nil]) | (refine Xg (ys := lvV (v1, Xy ro d (lv.length + 1))) (m := 1) rfl rfl hown (hR := by repeat (first | exact Yj | apply Yr)) (SrcV.lit) rfl rfl (by decide) rfl (by omega) (by omega) rfl (fun v9 sp9 hown9 => ?_); obtain ⟨va9, vc9, rfl, _⟩ := hown9.slice) | (refine Zf ?_; refine qQ ?_) | (refine Zm ?_; try intro _)) <;> ((try simp only [kM, kN, kO]); refine Zb ?_; refine Zo ?_))))
 all_goals (refine Zt (i := 8) ?_; ((try refine Zn ?_); (first | (refine ZS (css := [lvV (v1, Xy ro d (lv.length + 1))]) (sz := 10) rfl rfl rfl rfl (by simp) (by simp) rfl (fun bs => ?_); simp only [List.flatten_cons, List.flatten_nil, List.append_nil]) | (refine Xg (ys := lvV (v1, Xy ro d (lv.length + 1))) (m := 1) rfl rfl hown (hR := by repeat (first | exact Yj | apply Yr)) (SrcV.lit) rfl rfl (by decide) rfl (by omega) (by omega) rfl (fun v9 sp9 hown9 => ?_); obtain ⟨va9, vc9, rfl, _⟩ := hown9.slice) | (refine Zf ?_; refine qQ ?_) | (refine Zm ?_; try intro _)) <;> ((try simp only [kM, kN, kO]); refine Zb ?_; refine Zo ?_)))
 all_goals (refine rNc 10 ?_; refine ZO 11 ?_)
 all_goals (refine Zt (i := 12) ?_; ((try refine Zn ?_); (first | (refine Zf ?_; refine qQ ?_) | (refine Zm ?_; try intro _)) <;> ((try simp only [kM, kN, kO]); refine Zb ?_; refine Zo ?_)))
 all_goals (refine rNc 13 ?_; refine ZO 14 ?_)
 all_goals (refine Zt (i := 15) ?_; ((try refine Zn ?_); (first | (refine Zf ?_; refine qQ ?_) | (refine Zm ?_; try intro _)) <;> ((try simp only [kM, kN, kO]); refine Zb ?_; refine Zo ?_)))
 all_goals refine ZE ?_
 all_goals (repeat' (first | (refine Zz ?_; refine Zk (Zc rfl) rfl rfl ?_) | (refine Zh ?_; first | (refine Zf ?_; refine qQ ?_) | refine Zm ?_) | refine Zb ?_ | (refine Zi ?_; refine Zr ?_) | (refine Zj ?_; refine Zs ?_) | intro _))
 all_goals (
  have hmm : lvF lv ++ lvV (v1, Xy ro d (lv.length + 1)) = lvF (lv ++ [(v1, Xy ro d (lv.length + 1))]) := by simp [lvF]
  have hS2 : StoS ρ3 (.slice va9 (lv.length + 1) vc9) sp9 (lv ++ [(v1, Xy ro d (lv.length + 1))]) rv ro dv d (lv.length + 1) := by
   refine ⟨by rw [List.length_append, ← hmm]; exact hown9, hS.rs.mono hz4, hS.ds.mono hz4, fun x hx => ?_, by rw [List.map_append]; exact hG⟩
   rcases List.mem_append.1 hx with hx | hx
   ·exact (hS.ls x hx).mono hz4
   ·rw [List.mem_singleton.1 hx]; exact hR1.mono hz3
  rw [hmm])
 all_goals exact qE (L' := [ZN (.slice va9 (lv.length + 1) vc9) (lvF (lv ++ [(v1, Xy ro d (lv.length + 1))])) sp9 34, stoC sb (.slice va9 (lv.length + 1) vc9) rv ro dv (lv.length + 1)]) (hle := hz4) ⟨hz4, _, sp9, _, rv, ro, dv, d, lv.length + 1, hS2, by simp, rfl⟩
def idxQ (a : Int) (n : Nat) : Nat := ((IntKind.u64.wrap a).tmod (n : Int)).toNat
theorem idxQ_lt (a : Int) {n : Nat} (h : 0 < n) : idxQ a n < n ∧ 0 ≤ (IntKind.u64.wrap a).tmod (n : Int) ∧ (IntKind.u64.wrap a).tmod (n : Int) < (n : Int) := by
 have h1 : 0 ≤ IntKind.u64.wrap a := by
  have h : IntKind.u64.wrap a = a % 18446744073709551616 := rfl
  omega
 have h2 : (IntKind.u64.wrap a).tmod (n : Int) = (IntKind.u64.wrap a) % (n : Int) := Int.tmod_eq_emod_of_nonneg h1
 have h3 := Int.emod_nonneg (IntKind.u64.wrap a) (show (n : Int) ≠ 0 by omega)
 have h4 := Int.emod_lt_of_pos (IntKind.u64.wrap a) (show (0 : Int) < (n : Int) by omega)
 unfold idxQ
 omega
theorem nth_cellQ {ρ : Hp} {v : SV} {ro : Ros} (h : RosIn ρ v ro) (a : Int) (h0 : 0 < v.n) : ∃ b off C T fr x, v.a = some ⟨b, off, none⟩ ∧ ρ b = some (.cells ⟨C⟩ T fr) ∧ off + ((IntKind.u64.wrap a).tmod (v.n : Int)).toNat * 7 + 7 ≤ C.length ∧ (C.drop (off + ((IntKind.u64.wrap a).tmod (v.n : Int)).toNat * 7)).take 7 = txV x := by
 have hl := h.at'.at'.len
 have hi := (idxQ_lt a h0).1
 obtain ⟨b, off, C, T, fr, e1, hb, hfit, hc⟩ := h.at'.at'.get (show idxQ a v.n < ro.txns.length by omega)
 exact ⟨b, off, C, T, fr, _, e1, hb, hfit, hc⟩
abbrev recX (o : FdD) (n : Nat) (T : Int) (P : Nat) : Rc := { o.rc with lsn := n, txn := T, prev := P }
theorem recX_in {ρ : Hp} {o : FdD} (h : RcIn ρ o.rv o.rc) (n : Nat) (T : Int) (P : Nat) : RcIn ρ o.rv (recX o n T P) := ⟨h.i, h.im, h.s, h.t, h.d, h.sf⟩
theorem does0_spec (ρ : Hp) (sb : Nat) {vv : Value} {sp : List Value} {lv : List (RV × Rc)} {rv : SV} {ro : Ros} {dv : SV} {d : List Yp} {m : Nat} (hS : StoS ρ vv sp lv rv ro dv d m) (hl : lv.length ≤ 1000) (o : FdD) (ho : RcIn ρ o.rv o.rc) (hi : o.rv.i.n ≤ 30) (hk0 : (IntKind.u64.wrap o.kind).tmod 3 = 0) :
  Spec Tryz.prog 37 [.pointer (some ⟨sb, 0, none⟩), .agg ⟨fdV o⟩] ρ [ZN vv (lvF lv) sp 34, stoC sb vv rv ro dv m] (DoesPost ρ sb lv.length) := by
 have hown := hS.own
 obtain ⟨va, vc, rfl, hvc⟩ := hown.slice
 have hrb := hS.rs.at'.big
 have hro := hS.rs
 refine Zg Tryz.func37 rfl rfl rfl fun u R => ?_
 simp only [Zx, List.cons_append, List.nil_append]
 by_cases k9 : o.rc.kind = 9
 ·repeat' (first | (refine Zz ?_; refine Zk (Zc rfl) rfl rfl ?_) | (refine Zh ?_; first | (refine Zf ?_; refine qQ ?_) | refine Zm ?_) | refine Zb ?_ | (refine Zi ?_; refine Zr ?_) | (refine Zj ?_; refine Zs ?_) | intro _)
  exact qE (L' := [ZN (.slice va lv.length vc) (lvF lv) sp 34, stoC sb (.slice va lv.length vc) rv ro dv m]) ⟨Hp.le_refl _, _, sp, lv, rv, ro, dv, d, m, hS, Nat.le_succ _, rfl⟩
 repeat' (first | (refine Zz ?_; refine Zk (Zc rfl) rfl rfl ?_) | (refine Zh ?_; first | (refine Zf ?_; refine qQ ?_) | refine Zm ?_) | refine Zb ?_ | (refine Zi ?_; refine Zr ?_) | (refine Zj ?_; refine Zs ?_) | intro _)
 rename_i b3 b5
 have hc : ((lv.length : Int) + 1) = ((lv.length + 1 : Nat) : Int) := rfl
 simp only [hc]
 refine tc_cut_k R [(0, _)] (fun (ζ : (Int) × (Nat)) => [(5, .pointer (some ⟨b5, 0, none⟩))]) (fun (ζ : (Int) × (Nat)) => ρ) (fun (ζ : (Int) × (Nat)) => [[(b5, .cells ⟨YR o.rv (recX o (lv.length + 1) ζ.1 ζ.2)⟩ 34 (0, 0))], ZN (.slice va lv.length vc) (lvF lv) sp 34, stoC sb (.slice va lv.length vc) rv ro dv m]) (fun (ζ : (Int) × (Nat)) => True) Zl ?_ ?_
 ·by_cases k1 : o.rc.kind = 1
  ·simp only [show (o.rc.kind == 1) = true from by simp [k1]]
   repeat' (first | (refine Zz ?_; refine Zk (Zc rfl) rfl rfl ?_) | (refine Zh ?_; first | (refine Zf ?_; refine qQ ?_) | refine Zm ?_) | refine Zb ?_ | (refine Zi ?_; refine Zr ?_) | (refine Zj ?_; refine Zs ?_) | intro _)
   refine te_cut_g ((ro.next, o.rc.prev)) (trivial) Zl Zl rfl tk inferInstance
  ·simp only [show (o.rc.kind == 1) = false from by simp [k1]]
   by_cases hn : 0 < rv.n
   ·obtain ⟨b, off, C, T, fr, x, e1, hb, hfit, hcc⟩ := nth_cellQ hro o.txn hn
    obtain ⟨_, q0, q1⟩ := idxQ_lt o.txn hn
    (simp only [stoC]; rw [e1])
    repeat' (first | (refine Zz ?_; refine Zk (Zc rfl) rfl rfl ?_) | (refine Zh ?_; first | (refine Zf ?_; refine qQ ?_) | refine Zm ?_) | refine Zb ?_ | (refine Zi ?_; refine Zr ?_) | (refine Zj ?_; refine Zs ?_) | intro _)
    refine ZB (Zq _ _ _) Zy ?_
    all_goals (refine ZI 0 ?_; refine rNc 1 ?_; refine ZO 2 ?_; refine ZO 3 ?_; refine ZU 4 ?_; refine ZO 5 ?_; refine ZU 6 ?_; refine rCv 7 ?_; refine ZI 8 ?_; refine rCv 9 ?_; refine rRm 10 ?_; refine rCv 11 ?_; refine rIa 12 ?_; refine ZU 13 ?_)
    all_goals (refine Zt (i := 14) ?_; ((try refine Zn ?_); (first | (refine Zm ?_; try intro _)) <;> ((try simp only [kM, kN, kO]); refine Zb ?_; refine Zo ?_)))
    all_goals (refine Zt (i := 15) ?_; ((try refine Zn ?_); (first | (refine Zm ?_; try intro _)) <;> ((try simp only [kM, kN, kO]); refine Zb ?_; refine Zo ?_)))
    all_goals refine ZE ?_
    all_goals (repeat' (first | (refine Zz ?_; refine Zk (Zc rfl) rfl rfl ?_) | (refine Zh ?_; first | (refine Zf ?_; refine qQ ?_) | refine Zm ?_) | refine Zb ?_ | (refine Zi ?_; refine Zr ?_) | (refine Zj ?_; refine Zs ?_) | intro _))
    all_goals refine ZB (Zq _ _ ([])) (ZG (hT := tk) (Hp.le_refl _)) ?_
    all_goals (refine ZO 0 ?_; refine ZO 2 ?_)
    all_goals (refine YG (i := 1) (j := 3) ?_ ?_ <;> ((try refine Zn ?_); (first | (refine Zf ?_; refine qQ ?_) | (refine Zm ?_; try intro _)) <;> ((try simp only [kM, kN, kO]); refine Zb ?_; refine Zo ?_)))
    all_goals (first | refine ZO 4 ?_ | (refine Zt (i := 1) ?_; ((try refine Zn ?_); (first | (refine Zf ?_; refine qQ ?_) | (refine Zm ?_; try intro _)) <;> ((try simp only [kM, kN, kO]); refine Zb ?_; refine Zo ?_))))
    all_goals (first | refine ZO 4 ?_ | (refine YG (i := 3) (j := 5) ?_ ?_ <;> ((try refine Zn ?_); (first | (refine Zf ?_; refine qQ ?_) | (refine Zm ?_; try intro _)) <;> ((try simp only [kM, kN, kO]); refine Zb ?_; refine Zo ?_))))
    all_goals (first | (refine Zt (i := 5) ?_; ((try refine Zn ?_); (first | (refine Zf ?_; refine qQ ?_) | (refine Zm ?_; try intro _)) <;> ((try simp only [kM, kN, kO]); refine Zb ?_; refine Zo ?_))) | (refine Zt (i := 3) ?_; ((try refine Zn ?_); (first | (refine Zf ?_; refine qQ ?_) | (refine Zm ?_; try intro _)) <;> ((try simp only [kM, kN, kO]); refine Zb ?_; refine Zo ?_))))
    all_goals refine ZO 6 ?_
    all_goals (refine Zt (i := 7) ?_; ((try refine Zn ?_); (first | (refine Zf ?_; refine qQ ?_) | (refine Zm ?_; try intro _)) <;> ((try simp only [kM, kN, kO]); refine Zb ?_; refine Zo ?_)))
    all_goals refine ZE ?_
    all_goals rw [← e1]
    all_goals refine te_cut_g ((x.num, x.last)) (trivial) Zl Zl rfl tk inferInstance
   ·repeat' (first | (refine Zz ?_; refine Zk (Zc rfl) rfl rfl ?_) | (refine Zh ?_; first | (refine Zf ?_; refine qQ ?_) | refine Zm ?_) | refine Zb ?_ | (refine Zi ?_; refine Zr ?_) | (refine Zj ?_; refine Zs ?_) | intro _)
    refine te_cut_g ((o.rc.txn, o.rc.prev)) (trivial) Zl Zl rfl tk inferInstance
 rintro ⟨T, P⟩ -
 simp only [List.cons_append, List.nil_append]
 have hX := recX_in ho (lv.length + 1) T P
 have hXl : (recX o (lv.length + 1) T P).lsn = (lv.map (·.2)).length + 1 := by rw [List.length_map]
 generalize recX o (lv.length + 1) T P = X at *
 have hT := takeF_spec ρ rv ro hro o.rv X hX
 by_cases he : takeE ro.p X = 0
 case' neg =>
  generalize takeE ro.p X = te at *
  repeat' (first | (refine Zz ?_; refine Zk (Zc rfl) rfl rfl ?_) | (refine Zh ?_; first | (refine Zf ?_; refine qQ ?_) | refine Zm ?_) | refine Zb ?_ | (refine Zi ?_; refine Zr ?_) | (refine Zj ?_; refine Zs ?_) | intro _)
  refine ZB (Zq _ _ _) Zy ?_
  all_goals (refine ZI 0 ?_; refine rNc 1 ?_; refine ZO 2 ?_; refine ZU 3 ?_; refine ZU 4 ?_)
  all_goals (refine YG (i := 5) (j := 9) ?_ ?_ <;> ((try refine Zn ?_); (first | (refine Ze (.func 18) ?_; refine qC rfl rfl (hT) ?_; rintro v ρ' L' hle ⟨⟨hz1, v1, r1, rfl, hR1, hp1⟩, rfl⟩ <;> (try simp only [kM, kN, kO])) | (refine Zm ?_; try intro _)) <;> ((try simp only [kM, kN, kO]); refine Zb ?_; refine Zo ?_)))
  all_goals (first | refine ZI 6 ?_ | (refine Zt (i := 5) ?_; ((try refine Zn ?_); (first | (refine Ze (.func 18) ?_; refine qC rfl rfl (hT) ?_; rintro v ρ' L' hle ⟨⟨hz1, v1, r1, rfl, hR1, hp1⟩, rfl⟩ <;> (try simp only [kM, kN, kO])) | (refine Zm ?_; try intro _)) <;> ((try simp only [kM, kN, kO]); refine Zb ?_; refine Zo ?_))))
  all_goals (first | refine ZI 6 ?_ | refine rEx 7 ?_)
  all_goals (first | refine rEx 7 ?_ | refine rEx 8 ?_)
  all_goals (first | refine rEx 8 ?_ | (refine Zt (i := 9) ?_; ((try refine Zn ?_); (first | (refine Zm ?_; try intro _)) <;> ((try simp only [kM, kN, kO]); refine Zb ?_; refine Zo ?_))))
  all_goals (refine Zt (i := 10) ?_; ((try refine Zn ?_); (first | (refine Zm ?_; try intro _)) <;> ((try simp only [kM, kN, kO]); refine Zb ?_; refine Zo ?_)))
  all_goals (refine ZK ?_; refine rAs 11 ?_; refine ZE ?_)
  all_goals (repeat' (first | (refine Zz ?_; refine Zk (Zc rfl) rfl rfl ?_) | (refine Zh ?_; first | (refine Zf ?_; refine qQ ?_) | refine Zm ?_) | refine Zb ?_ | (refine Zi ?_; refine Zr ?_) | (refine Zj ?_; refine Zs ?_) | intro _))
  all_goals exact qE (L' := [ZN (.slice va lv.length vc) (lvF lv) sp 34, stoC sb (.slice va lv.length vc) rv ro dv m]) ⟨hz1, _, sp, lv, rv, ro, dv, d, m, hS.mono hz1, Nat.le_succ _, rfl⟩
 have hoks : Wg ro.p = true ∧ ZZ X = true ∧ YC ro.p X = 0 := by
  unfold takeE at he
  cases e1 : Wg ro.p with
  | false => rw [e1] at he; simp at he
  | true =>
   cases e2 : ZZ X with
   | false => rw [e1, e2] at he; simp at he
   | true => rw [e1, e2] at he; exact ⟨rfl, rfl, he⟩
 obtain ⟨ho1, ho2, ho3⟩ := hoks
 have hPX : takeP ro.p X = Yq ro.p X := by unfold takeP; rw [if_pos he]
 rw [he, hPX] at hT
 have hG := hS.g.take ho2 hXl ho3
 repeat' (first | (refine Zz ?_; refine Zk (Zc rfl) rfl rfl ?_) | (refine Zh ?_; first | (refine Zf ?_; refine qQ ?_) | refine Zm ?_) | refine Zb ?_ | (refine Zi ?_; refine Zr ?_) | (refine Zj ?_; refine Zs ?_) | intro _)
 refine tc_cut_k R [(0, _), (5, _)] (fun (ζ : (Hp) × (Nat) × (SV) × (Ros)) => [(8, .pointer (some ⟨ζ.2.1, 0, none⟩)), (9, .int .i64 0)]) (fun (ζ : (Hp) × (Nat) × (SV) × (Ros)) => ζ.1) (fun (ζ : (Hp) × (Nat) × (SV) × (Ros)) => [[(ζ.2.1, .cells ⟨XI ζ.2.2.1 ζ.2.2.2⟩ 26 (0, 0))], [(b5, .cells ⟨YR o.rv X⟩ 34 (0, 0))], ZN (.slice va lv.length vc) (lvF lv) sp 34, stoC sb (.slice va lv.length vc) rv ro dv m]) (fun (ζ : (Hp) × (Nat) × (SV) × (Ros)) => ρ.le ζ.1 ∧ RosIn ζ.1 ζ.2.2.1 ζ.2.2.2 ∧ ζ.2.2.2.p = Yq ro.p X) Zl ?_ ?_
 ·refine ZB (Zq _ _ _) Zy ?_
  all_goals (refine ZI 0 ?_; refine rNc 1 ?_; refine ZO 2 ?_; refine ZU 3 ?_; refine ZU 4 ?_)
  all_goals (refine YG (i := 5) (j := 9) ?_ ?_ <;> ((try refine Zn ?_); (first | (refine Ze (.func 18) ?_; refine qC rfl rfl (hT) ?_; rintro v ρ' L' hle ⟨⟨hz1, v1, r1, rfl, hR1, hp1⟩, rfl⟩ <;> (try simp only [kM, kN, kO])) | (refine Zm ?_; try intro _)) <;> ((try simp only [kM, kN, kO]); refine Zb ?_; refine Zo ?_)))
  all_goals (first | refine ZI 6 ?_ | (refine Zt (i := 5) ?_; ((try refine Zn ?_); (first | (refine Ze (.func 18) ?_; refine qC rfl rfl (hT) ?_; rintro v ρ' L' hle ⟨⟨hz1, v1, r1, rfl, hR1, hp1⟩, rfl⟩ <;> (try simp only [kM, kN, kO])) | (refine Zm ?_; try intro _)) <;> ((try simp only [kM, kN, kO]); refine Zb ?_; refine Zo ?_))))
  all_goals (first | refine ZI 6 ?_ | refine rEx 7 ?_)
  all_goals (first | refine rEx 7 ?_ | refine rEx 8 ?_)
  all_goals (first | refine rEx 8 ?_ | (refine Zt (i := 9) ?_; ((try refine Zn ?_); (first | (refine Zm ?_; try intro _)) <;> ((try simp only [kM, kN, kO]); refine Zb ?_; refine Zo ?_))))
  all_goals (refine Zt (i := 10) ?_; ((try refine Zn ?_); (first | (refine Zm ?_; try intro _)) <;> ((try simp only [kM, kN, kO]); refine Zb ?_; refine Zo ?_)))
  all_goals (refine ZK ?_; refine rAs 11 ?_; refine ZE ?_)
  all_goals refine te_cut_g ((_, _, v1, r1)) (⟨hz1, hR1, hp1⟩) Zl Zl rfl tk inferInstance
 rintro ⟨ρ2, b8, v1, r1⟩ ⟨hz1, hR1, hp1⟩
 simp only [List.cons_append, List.nil_append]
 refine tc_freeze [(b8, .cells ⟨XI v1 r1⟩ 26 (0, 0))] (h := Rem.here) (fun ρ3 hz3 hfz => ?_)
 have hb8 : ρ3 b8 = some (.cells ⟨XI v1 r1⟩ 26 (0, 0)) := hfz _ (List.mem_singleton.2 rfl)
 clear hfz
 refine tc_freeze [(b5, .cells ⟨YR o.rv X⟩ 34 (0, 0))] (h := Rem.here) (fun ρ4 hz4 hfz => ?_)
 have hb5 : ρ4 b5 = some (.cells ⟨YR o.rv X⟩ 34 (0, 0)) := hfz _ (List.mem_singleton.2 rfl)
 clear hfz
 have hb8' : ρ4 b8 = some (.cells ⟨XI v1 r1⟩ 26 (0, 0)) := Hp.at' hz4 hb8
 have hld5 : List.take 10 (List.drop 0 (YR o.rv X)) = YR o.rv X := rfl
 have hfit5 : 0 + 10 ≤ (YR o.rv X).length := Nat.le_refl 10
 have hld8 : List.take 2 (List.drop 0 (XI v1 r1)) = XI v1 r1 := rfl
 have hfit8 : 0 + 2 ≤ (XI v1 r1).length := Nat.le_refl 2
 have hz : ρ.le ρ4 := Hp.le_trans hz1 (Hp.le_trans hz3 hz4)
 have hR4 := (hR1.mono hz3).mono hz4
 have hTo := touch_spec ρ4 dv d (hS.ds.mono hz) hS.small o.rv X (hX.mono hz) (by omega)
 have e1 : touchE d X = 0 := by unfold touchE; rw [hS.g.ds.t, ho2]; rfl
 have e2 : touchR d X = Xd X d := by unfold touchR; rw [hS.g.ds.t, ho2]; rfl
 rw [e1, e2] at hTo
 repeat' (first | (refine Zz ?_; refine Zk (Zc rfl) rfl rfl ?_) | (refine Zh ?_; first | (refine Zf ?_; refine qQ ?_) | refine Zm ?_) | refine Zb ?_ | (refine Zi ?_; refine Zr ?_) | (refine Zj ?_; refine Zs ?_) | intro _)
 refine ZB (Zq _ _ _) Zy ?_
 all_goals (refine ZI 0 ?_; refine rNc 1 ?_; refine ZO 2 ?_; refine ZU 3 ?_; refine ZU 4 ?_)
 all_goals (refine Zt (i := 5) ?_; ((try refine Zn ?_); (first | (refine Ze (.func 72) ?_; refine qC rfl rfl (hTo) ?_; rintro v ρ' L' hle ⟨hz5, s1, rfl, hs1, rfl⟩ <;> (try simp only [kM, kN, kO])) | (refine Zm ?_; try intro _)) <;> ((try simp only [kM, kN, kO]); refine Zb ?_; refine Zo ?_)))
 all_goals (refine ZK ?_; refine ZI 6 ?_; refine rEx 7 ?_; refine rEx 8 ?_; refine rAs 9 ?_; refine rAs 10 ?_; refine ZE ?_)
 all_goals (repeat' (first | (refine Zz ?_; refine Zk (Zc rfl) rfl rfl ?_) | (refine Zh ?_; first | (refine Zf ?_; refine qQ ?_) | refine Zm ?_) | refine Zb ?_ | (refine Zi ?_; refine Zr ?_) | (refine Zj ?_; refine Zs ?_) | intro _))
 all_goals (
  have hb5q : ρ' b5 = some (.cells ⟨YR o.rv X⟩ 34 (0, 0)) := Hp.at' hz5 hb5
  have hb8q : ρ' b8 = some (.cells ⟨XI v1 r1⟩ 26 (0, 0)) := Hp.at' hz5 hb8'
  clear hb5 hb8 hb8')
 all_goals refine ZB (Zq _ _ ([])) (ZG (hT := tk) (Hp.le_refl _)) ?_
 all_goals (refine ZI 0 ?_; refine ZI 1 ?_; refine ZI 2 ?_; refine ZI 3 ?_; refine rNc 4 ?_; refine ZO 5 ?_; refine ZU 7 ?_; refine ZU 10 ?_; refine ZI 11 ?_)
 all_goals (refine YG (i := 6) (j := 8) ?_ ?_ <;> ((try refine Zn ?_); (first | (refine ZS (css := [lvV (o.rv, X)]) (sz := 10) rfl rfl rfl rfl (by simp) (by simp) rfl (fun bs => ?_); simp only [List.flatten_cons, List.flatten_nil, List.append_nil]) | (refine Xg (ys := lvV (o.rv, X)) (m := 1) rfl rfl hown (hR := by repeat (first | exact Yj | apply Yr)) (SrcV.lit) rfl rfl (by decide) rfl (by omega) (by omega) rfl (fun v9 sp9 hown9 => ?_); obtain ⟨va9, vc9, rfl, _⟩ := hown9.slice) | (refine Zf ?_; refine qQ ?_) | (refine Zm ?_; try intro _)) <;> ((try simp only [kM, kN, kO]); refine Zb ?_; refine Zo ?_)))
 all_goals (first | (refine Zt (i := 8) ?_; ((try refine Zn ?_); (first | (refine ZS (css := [lvV (o.rv, X)]) (sz := 10) rfl rfl rfl rfl (by simp) (by simp) rfl (fun bs => ?_); simp only [List.flatten_cons, List.flatten_nil, List.append_nil]) | (refine Zf ?_; refine qQ ?_) | (refine Zm ?_; try intro _)) <;> ((try simp only [kM, kN, kO]); refine Zb ?_; refine Zo ?_))) | (refine Zt (i := 6) ?_; ((try refine Zn ?_); (first | (refine ZS (css := [lvV (o.rv, X)]) (sz := 10) rfl rfl rfl rfl (by simp) (by simp) rfl (fun bs => ?_); simp only [List.flatten_cons, List.flatten_nil, List.append_nil]) | (refine Xg (ys := lvV (o.rv, X)) (m := 1) rfl rfl hown (hR := by repeat (first | exact Yj | apply Yr)) (SrcV.lit) rfl rfl (by decide) rfl (by omega) (by omega) rfl (fun v9 sp9 hown9 => ?_); obtain ⟨va9, vc9, rfl, _⟩ := hown9.slice) | (refine Zf ?_; refine qQ ?_) | (refine Zm ?_; try intro _)) <;> ((try simp only [kM, kN, kO]); refine Zb ?_; refine Zo ?_))))
 all_goals (refine Zt (i := 9) ?_; ((try refine Zn ?_); (first | (refine ZS (css := [lvV (o.rv, X)]) (sz := 10) rfl rfl rfl rfl (by simp) (by simp) rfl (fun bs => ?_); simp only [List.flatten_cons, List.flatten_nil, List.append_nil]) | (refine Xg (ys := lvV (o.rv, X)) (m := 1) rfl rfl hown (hR := by repeat (first | exact Yj | apply Yr)) (SrcV.lit) rfl rfl (by decide) rfl (by omega) (by omega) rfl (fun v9 sp9 hown9 => ?_); obtain ⟨va9, vc9, rfl, _⟩ := hown9.slice) | (refine Zf ?_; refine qQ ?_) | (refine Zm ?_; try intro _)) <;> ((try simp only [kM, kN, kO]); refine Zb ?_; refine Zo ?_)))
 all_goals (refine rNc 12 ?_; refine ZO 13 ?_)
 all_goals (refine Zt (i := 14) ?_; ((try refine Zn ?_); (first | (refine Zf ?_; refine qQ ?_) | (refine Zm ?_; try intro _)) <;> ((try simp only [kM, kN, kO]); refine Zb ?_; refine Zo ?_)))
 all_goals (refine rNc 15 ?_; refine ZO 16 ?_)
 all_goals (refine Zt (i := 17) ?_; ((try refine Zn ?_); (first | (refine Zf ?_; refine qQ ?_) | (refine Zm ?_; try intro _)) <;> ((try simp only [kM, kN, kO]); refine Zb ?_; refine Zo ?_)))
 all_goals (refine rNc 18 ?_; refine ZO 19 ?_)
 all_goals (refine Zt (i := 20) ?_; ((try refine Zn ?_); (first | (refine Zf ?_; refine qQ ?_) | (refine Zm ?_; try intro _)) <;> ((try simp only [kM, kN, kO]); refine Zb ?_; refine Zo ?_)))
 all_goals refine ZE ?_
 all_goals (repeat' (first | (refine Zz ?_; refine Zk (Zc rfl) rfl rfl ?_) | (refine Zh ?_; first | (refine Zf ?_; refine qQ ?_) | refine Zm ?_) | refine Zb ?_ | (refine Zi ?_; refine Zr ?_) | (refine Zj ?_; refine Zs ?_) | intro _))
 all_goals (
  have hzz : ρ.le ρ' := Hp.le_trans hz hz5
  have hmm : lvF lv ++ lvV (o.rv, X) = lvF (lv ++ [(o.rv, X)]) := by simp [lvF]
  have hS2 : StoS ρ' (.slice va9 (lv.length + 1) vc9) sp9 (lv ++ [(o.rv, X)]) v1 r1 s1 (Xd X d) m := by
   refine ⟨by rw [List.length_append, ← hmm]; exact hown9, hR4.mono hz5, hs1, fun x hx => ?_, by rw [List.map_append]; exact hp1 ▸ hG⟩
   rcases List.mem_append.1 hx with hx | hx
   ·exact (hS.ls x hx).mono hzz
   ·rw [List.mem_singleton.1 hx]; exact hX.mono hzz
  rw [hmm])
 all_goals exact qE (L' := [ZN (.slice va9 (lv.length + 1) vc9) (lvF (lv ++ [(o.rv, X)])) sp9 34, stoC sb (.slice va9 (lv.length + 1) vc9) v1 r1 s1 m]) (hle := hzz) ⟨hzz, _, sp9, _, v1, r1, s1, Xd X d, m, hS2, by simp, rfl⟩
theorem does_spec (ρ : Hp) (sb : Nat) {vv : Value} {sp : List Value} {lv : List (RV × Rc)} {rv : SV} {ro : Ros} {dv : SV} {d : List Yp} {m : Nat} (hS : StoS ρ vv sp lv rv ro dv d m) (hl : lv.length ≤ 1000) (o : FdD) (ho : RcIn ρ o.rv o.rc) (hi : o.rv.i.n ≤ 30) :
  Spec Tryz.prog 37 [.pointer (some ⟨sb, 0, none⟩), .agg ⟨fdV o⟩] ρ [ZN vv (lvF lv) sp 34, stoC sb vv rv ro dv m] (DoesPost ρ sb lv.length) := by
 by_cases h0 : (IntKind.u64.wrap o.kind).tmod 3 = 0
 ·exact does0_spec ρ sb hS hl o ho hi h0
 ·by_cases h1 : (IntKind.u64.wrap o.kind).tmod 3 = 1
  ·exact does1_spec ρ sb hS hl o h1
  ·exact does2_spec ρ sb hS hl o h0 h1
theorem an_eq {d e : AnD} : d.p = e.p ↔ (d.base = e.base ∧ d.master = e.master ∧ d.fin = e.fin ∧ d.next = e.next) ∧ d.ro.p = e.ro.p ∧ d.dirty = e.dirty := by
 simp only [AnD.p, AnP.mk.injEq, and_assoc]
def wIm : Im := ⟨5, nilCV, ztC, nilCV, ztC⟩
def wr1 : Rc := ⟨1, 1, 1, 0, 0, [], [], 0, [], []⟩
def wr2 : Rc := ⟨2, 2, 1, 1, 0, [wIm], [], 0, [], []⟩
def wA3 : AnP := ⟨1, 0, 3, 3, ⟨2, [⟨1, 1, 1, 2, 2, [⟨2, 1⟩], []⟩]⟩, [⟨5, 2⟩]⟩
theorem wA_run : runPE (newA 1 0 3) [wr1, wr2] = 0 ∧ runPP (newA 1 0 3) [wr1, wr2] = wA3 ∧ Yn (newA 1 0 3) = true ∧ Yn wA3 = true ∧ firstN wA3 = 2 := by decide +kernel
theorem change23_spec (ρ : Hp) : Spec Tryz.prog 57 [.int .u64 2, .int .u64 1, .int .i64 5] ρ [] (fun z ρ' L' => ρ.le ρ' ∧ ∃ bs : Nat, z = .agg ⟨YR ⟨⟨some ⟨bs, 0, none⟩, 1, 1⟩, Yz, Yz, Yz⟩ wr2⟩ ∧ RcIn ρ' ⟨⟨some ⟨bs, 0, none⟩, 1, 1⟩, Yz, Yz, Yz⟩ wr2 ∧ L' = []) := by
 refine Zg Tryz.func57 rfl rfl rfl fun u R => ?_
 simp only [Zx, List.cons_append, List.nil_append]
 repeat' (first | (refine ZS (css := [imV wIm]) (sz := 7) rfl rfl rfl rfl (by simp) (by simp) rfl (fun bs => ?_); simp only [List.flatten_cons, List.flatten_nil, List.append_nil]) | (refine Zz ?_; refine Zk (Zc rfl) rfl rfl ?_) | (refine Zh ?_; first | (refine Zf ?_; refine qQ ?_) | refine Zm ?_) | refine Zb ?_ | (refine Zi ?_; refine Zr ?_) | (refine Zj ?_; refine Zs ?_) | intro _)
 refine XX [(bs, .cells ⟨imV wIm⟩ 100 (0, 0))] (h := by repeat (first | exact Yj | apply Yr)) (fun ρ3 hle3 hfz => ?_)
 have hbs := hfz _ (List.mem_singleton.2 rfl)
 exact qE (L' := []) (hle := hle3) ⟨hle3, bs, rfl, ⟨⟨⟨rfl, .inr ⟨bs, 0, _, _, _, rfl, hbs, Nat.le_refl _, rfl⟩, by simp [imV_len]⟩, by dsimp only; omega, by dsimp only; omega⟩, fun x hx => by (rw [List.mem_singleton.1 hx]; exact ⟨CI.nil, CI.nil⟩), AS.nil, AS.nil, AS.nil, by simp [wr2]⟩, rfl⟩
theorem runW (ρ : Hp) (bs b2 : Nat) (h : RcIn ρ ⟨⟨some ⟨bs, 0, none⟩, 1, 1⟩, Yz, Yz, Yz⟩ wr2)
  (hb : ρ b2 = some (.cells ⟨YR noRV wr1 ++ YR ⟨⟨some ⟨bs, 0, none⟩, 1, 1⟩, Yz, Yz, Yz⟩ wr2⟩ 34 (0, 0))) :
  Spec Tryz.prog 35 [.agg ⟨anV (newD 1 0 3)⟩, .slice (some ⟨b2, 0, none⟩) 2 2] ρ [] (fun z ρ' L' => ρ.le ρ' ∧ ∃ d' : AnD, z = .tuple ⟨[.agg ⟨anV d'⟩, .int .i64 0]⟩ ∧ AnIn ρ' d' ∧ d'.p = wA3 ∧ (d'.next = 3 ∧ d'.fin = 3 ∧ d'.rv.n = 1 ∧ d'.dv.n = 1) ∧ (∃ b off C T fr, d'.dv.a = some ⟨b, off, none⟩ ∧ ρ' b = some (.cells ⟨C⟩ T fr) ∧ off + 0 * 2 + 2 ≤ C.length ∧ (C.drop (off + 0 * 2)).take 2 = YM ⟨5, 2⟩) ∧ L' = []) := by
 obtain ⟨w1, w2, w3, w4, w5⟩ := wA_run
 have hA : AIn ρ 10 lvV (some ⟨b2, 0, none⟩) 2 [(noRV, wr1), (⟨⟨some ⟨bs, 0, none⟩, 1, 1⟩, Yz, Yz, Yz⟩, wr2)] := ⟨rfl, .inr ⟨b2, 0, _, _, _, rfl, hb, Nat.le_refl _, rfl⟩, fun x _ => rfl⟩
 have hP : ∀ x ∈ [((noRV, wr1) : RV × Rc), (⟨⟨some ⟨bs, 0, none⟩, 1, 1⟩, Yz, Yz, Yz⟩, wr2)], RcIn ρ x.1 x.2 := fun x hx => by
  rcases List.mem_cons.1 hx with rfl | hx
  ·exact ⟨AS.nil, by simp [wr1], AS.nil, AS.nil, AS.nil, by simp [wr1]⟩
  ·rw [List.mem_singleton.1 hx]; exact h
 have hR := run_an_spec ρ (newD 1 0 3) newD_in (some ⟨b2, 0, none⟩) 2 2 _ hA hP (by omega)
 have e0 : (newD 1 0 3).p = newA 1 0 3 := rfl
 simp only [List.map_cons, List.map_nil, e0, w1, w2] at hR
 refine hR.mono ?_
 rintro z ρ' L' _ ⟨g1, d', g2, g3, g4, g5⟩
 have q1 : d'.ro.p.txns.length = 1 := congrArg (fun a : AnP => a.ros.txns.length) g4
 have q2 : d'.dirty = [⟨5, 2⟩] := congrArg AnP.dirty g4
 have q3 := g3.d.at'
 rw [q2] at q3
 have q4 := q3.len
 have q5 := g3.r.at'.at'.len
 simp only [Ros.p, List.length_map] at q1
 refine ⟨g1, d', g2, g3, g4, ⟨congrArg AnP.next g4, congrArg AnP.fin g4, by omega, q4.symm⟩, ?_, g5⟩
 obtain ⟨b, off, C, T, fr, f1, f2, f3, f4⟩ := q3.get (show 0 < [(⟨5, 2⟩ : Yp)].length by decide)
 exact ⟨b, off, C, T, fr, f1, f2, f3, f4⟩
theorem Xv (ρ : Hp) : Spec Tryz.prog 21 [] ρ [] (fun v ρ' L' => v = .bool true ∧ ρ.le ρ' ∧ L' = []) := by
 obtain ⟨w1, w2, w3, w4, w5⟩ := wA_run
 have hB := fun ρ1 => begin_spec ρ1 1 0 3
 rw [w3] at hB
 simp only [if_true] at hB
 refine Zg Tryz.func21 rfl rfl rfl fun u R => ?_
 simp only [Zx, List.cons_append, List.nil_append]
 repeat' (first | (refine Ze (.func 22) ?_; refine qC rfl rfl (hB _) ?_; rintro v ρ' L' hle ⟨rfl, rfl, rfl⟩ <;> (try simp only [kM, kN, kO])) | (refine Zz ?_; refine Zk (Zc rfl) rfl rfl ?_) | (refine Zh ?_; first | (refine Zf ?_; refine qQ ?_) | refine Zm ?_) | refine Zb ?_ | (refine Zi ?_; refine Zr ?_) | (refine Zj ?_; refine Zs ?_) | intro _)
 refine ZB (Zq _ _ ([])) (ZG (hT := tk) (Hp.le_refl _)) ?_
 all_goals refine rBu 1 ?_ (y := fun _ _ => Zc rfl)
 all_goals (refine YG (i := 0) (j := 2) ?_ ?_ <;> ((try refine Zn ?_); (first | (refine Ze (.func 57) ?_; refine qC rfl rfl (change23_spec _) ?_; rintro v ρ' L' hle ⟨hz1, bs, rfl, hch, rfl⟩ <;> (try simp only [kM, kN, kO])) | (refine ZS (css := [YR noRV wr1, YR ⟨⟨some ⟨bs, 0, none⟩, 1, 1⟩, Yz, Yz, Yz⟩ wr2]) (sz := 10) rfl rfl rfl rfl (by simp) (by simp) rfl (fun b2 => ?_); simp only [List.flatten_cons, List.flatten_nil, List.append_nil]; refine Ye _ (h := Rem.here) (fun ρz hlz hfz => ?_); have hb2 := hfz _ (List.mem_singleton.2 rfl); clear hfz; (try simp only [List.nil_append]); have hRn := runW ρz bs b2 (hch.mono hlz) hb2) | (refine Ze (.func 35) ?_; refine qC rfl rfl (hRn) ?_; rintro v ρ' L' hle ⟨hz2, d1, rfl, hd1, hp1, ⟨n1, n2, n3, n4⟩, ⟨b, off, C, T, fr, f1, f2, f3, f4⟩, rfl⟩ <;> (try simp only [kM, kN, kO])) | (refine Zf ?_; refine qQ ?_) | (refine Zm ?_; try intro _)) <;> ((try simp only [kM, kN, kO]); refine Zb ?_; refine Zo ?_)))
 all_goals (first | (refine Zt (i := 2) ?_; ((try refine Zn ?_); (first | (refine Ze (.func 57) ?_; refine qC rfl rfl (change23_spec _) ?_; rintro v ρ' L' hle ⟨hz1, bs, rfl, hch, rfl⟩ <;> (try simp only [kM, kN, kO])) | (refine Zf ?_; refine qQ ?_) | (refine Zm ?_; try intro _)) <;> ((try simp only [kM, kN, kO]); refine Zb ?_; refine Zo ?_))) | (refine YG (i := 0) (j := 3) ?_ ?_ <;> ((try refine Zn ?_); (first | (refine Ze (.func 57) ?_; refine qC rfl rfl (change23_spec _) ?_; rintro v ρ' L' hle ⟨hz1, bs, rfl, hch, rfl⟩ <;> (try simp only [kM, kN, kO])) | (refine ZS (css := [YR noRV wr1, YR ⟨⟨some ⟨bs, 0, none⟩, 1, 1⟩, Yz, Yz, Yz⟩ wr2]) (sz := 10) rfl rfl rfl rfl (by simp) (by simp) rfl (fun b2 => ?_); simp only [List.flatten_cons, List.flatten_nil, List.append_nil]; refine Ye _ (h := Rem.here) (fun ρz hlz hfz => ?_); have hb2 := hfz _ (List.mem_singleton.2 rfl); clear hfz; (try simp only [List.nil_append]); have hRn := runW ρz bs b2 (hch.mono hlz) hb2) | (refine Ze (.func 35) ?_; refine qC rfl rfl (hRn) ?_; rintro v ρ' L' hle ⟨hz2, d1, rfl, hd1, hp1, ⟨n1, n2, n3, n4⟩, ⟨b, off, C, T, fr, f1, f2, f3, f4⟩, rfl⟩ <;> (try simp only [kM, kN, kO])) | (refine Zf ?_; refine qQ ?_) | (refine Zm ?_; try intro _)) <;> ((try simp only [kM, kN, kO]); refine Zb ?_; refine Zo ?_))))
 all_goals (first | (refine Zt (i := 3) ?_; ((try refine Zn ?_); (first | (refine ZS (css := [YR noRV wr1, YR ⟨⟨some ⟨bs, 0, none⟩, 1, 1⟩, Yz, Yz, Yz⟩ wr2]) (sz := 10) rfl rfl rfl rfl (by simp) (by simp) rfl (fun b2 => ?_); simp only [List.flatten_cons, List.flatten_nil, List.append_nil]; refine Ye _ (h := Rem.here) (fun ρz hlz hfz => ?_); have hb2 := hfz _ (List.mem_singleton.2 rfl); clear hfz; (try simp only [List.nil_append]); have hRn := runW ρz bs b2 (hch.mono hlz) hb2) | (refine Zf ?_; refine qQ ?_) | (refine Zm ?_; try intro _)) <;> ((try simp only [kM, kN, kO]); refine Zb ?_; refine Zo ?_))) | (refine Zt (i := 0) ?_; ((try refine Zn ?_); (first | (refine Ze (.func 57) ?_; refine qC rfl rfl (change23_spec _) ?_; rintro v ρ' L' hle ⟨hz1, bs, rfl, hch, rfl⟩ <;> (try simp only [kM, kN, kO])) | (refine ZS (css := [YR noRV wr1, YR ⟨⟨some ⟨bs, 0, none⟩, 1, 1⟩, Yz, Yz, Yz⟩ wr2]) (sz := 10) rfl rfl rfl rfl (by simp) (by simp) rfl (fun b2 => ?_); simp only [List.flatten_cons, List.flatten_nil, List.append_nil]; refine Ye _ (h := Rem.here) (fun ρz hlz hfz => ?_); have hb2 := hfz _ (List.mem_singleton.2 rfl); clear hfz; (try simp only [List.nil_append]); have hRn := runW ρz bs b2 (hch.mono hlz) hb2) | (refine Ze (.func 35) ?_; refine qC rfl rfl (hRn) ?_; rintro v ρ' L' hle ⟨hz2, d1, rfl, hd1, hp1, ⟨n1, n2, n3, n4⟩, ⟨b, off, C, T, fr, f1, f2, f3, f4⟩, rfl⟩ <;> (try simp only [kM, kN, kO])) | (refine Zf ?_; refine qQ ?_) | (refine Zm ?_; try intro _)) <;> ((try simp only [kM, kN, kO]); refine Zb ?_; refine Zo ?_))))
 all_goals (refine Zt (i := 4) ?_; ((try refine Zn ?_); (first | (refine Ze (.func 35) ?_; refine qC rfl rfl (hRn) ?_; rintro v ρ' L' hle ⟨hz2, d1, rfl, hd1, hp1, ⟨n1, n2, n3, n4⟩, ⟨b, off, C, T, fr, f1, f2, f3, f4⟩, rfl⟩ <;> (try simp only [kM, kN, kO])) | (refine Zf ?_; refine qQ ?_) | (refine Zm ?_; try intro _)) <;> ((try simp only [kM, kN, kO]); refine Zb ?_; refine Zo ?_)))
 all_goals (refine ZI 5 ?_; refine rEx 6 ?_; refine rEx 7 ?_)
 all_goals (refine Zt (i := 8) ?_; ((try refine Zn ?_); (first | (refine Zf ?_; refine qQ ?_) | (refine Zm ?_; try intro _)) <;> ((try simp only [kM, kN, kO]); refine Zb ?_; refine Zo ?_)))
 all_goals (refine ZK ?_; refine rAs 9 ?_; refine ZE ?_)
 all_goals (
  have hOv := over_an_spec ρ' d1 hd1
  have hFi := first_an_spec ρ' d1 hd1
  rw [hp1, w4, n1, n2] at hOv
  rw [hp1, w4, w5] at hFi
  simp only [if_true] at hFi
  simp only [anV, f1, n3, n4] at hOv hFi ⊢)
 all_goals (repeat' (first | (refine Ze (.func 30) ?_; refine qC rfl rfl (hOv) ?_; rintro v ρ' L' hle ⟨rfl, rfl, rfl⟩ <;> (try simp only [kM, kN, kO])) | (refine Ze (.func 31) ?_; refine qC rfl rfl (hFi) ?_; rintro v ρ' L' hle ⟨rfl, rfl, rfl⟩ <;> (try simp only [kM, kN, kO])) | (refine Zz ?_; refine Zk (Zc rfl) rfl rfl ?_) | (refine Zh ?_; first | (refine Zf ?_; refine qQ ?_) | refine Zm ?_) | refine Zb ?_ | (refine Zi ?_; refine Zr ?_) | (refine Zj ?_; refine Zs ?_) | intro _))
 all_goals exact qE (L' := []) (hle := Hp.le_trans hz1 (Hp.le_trans hlz hz2)) ⟨rfl, Hp.le_trans hz1 (Hp.le_trans hlz hz2), rfl⟩
end Go.Proofs.E
