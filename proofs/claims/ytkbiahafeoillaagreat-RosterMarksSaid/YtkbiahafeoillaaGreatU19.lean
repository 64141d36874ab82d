/- The law RosterMarks. Part 19 of 20. -/
import Derived.Test.YtkbiahafeoillaaGreatU18
namespace Go.Proofs.E
open Go
set_option linter.unusedVariables false
set_option linter.unusedSimpArgs false
set_option linter.unusedSectionVars false
set_option maxRecDepth 4000
set_option maxHeartbeats 1000000
attribute [local irreducible] Yl TL TC TE Spec Wh R1 Hp.le EnvLe TS TR YS Zq
theorem rosMarks_spec (ρ : Hp) (a : Option Addr) (n c : Nat) (l : List OpD) (h : AIn ρ 15 opV a n l) (hw : ∀ x ∈ l, OpW ρ x) (hn : n ≤ 9223372036854775807) (m : Int) :
  Spec Tryz.prog 3 [.slice a n c, .int .i64 m] ρ [] (fun z ρ' L' => z = .bool true ∧ ρ.le ρ' ∧ L' = []) := by
 have hl := h.len
 refine Zg Tryz.func3 rfl rfl rfl fun u R => ?_
 simp only [Zx, List.cons_append, List.nil_append]
 repeat' (first | (refine Ze (.func 9) ?_; refine qC rfl rfl (wakes18_spec _) ?_; rintro v ρ' L' hle ⟨rfl, hz1, rfl⟩ <;> (try simp only [kM, kN, kO])) | (refine Ze (.func 10) ?_; refine qC rfl rfl (rnew_spec _) ?_; rintro v ρ' L' hle ⟨rfl, rfl, rfl⟩ <;> (try simp only [kM, kN, kO])) | (refine ZE ?_; refine Zn (Zd rfl) rfl rfl ?_) | (refine Zj ?_; first | (refine Zf ?_; refine qQ ?_) | refine Zm ?_) | refine Za ?_ | (refine Zi ?_; refine Zt ?_) | (refine Zh ?_; refine Zs ?_) | intro _)
 rename_i b5
 refine ZG [(4, _), (5, _), (27, _), (28, _)] (fun (ζ : (Nat) × (Hp) × (SV) × (Ros)) => [(29, .int .i64 ζ.1)]) (fun (ζ : (Nat) × (Hp) × (SV) × (Ros)) => ζ.2.1) (fun (ζ : (Nat) × (Hp) × (SV) × (Ros)) => [[(b5, .cells ⟨Yx ζ.2.2.1 ζ.2.2.2⟩ 26 (0, 0))]]) (fun (ζ : (Nat) × (Hp) × (SV) × (Ros)) => ζ.1 ≤ n ∧ ρ.le ζ.2.1 ∧ RosIn ζ.2.1 ζ.2.2.1 ζ.2.2.2 ∧ Xq ζ.2.2.2.p = true) (fun (ζ : (Nat) × (Hp) × (SV) × (Ros)) => n - ζ.1) ((0, ρ', YI, ⟨1, []⟩)) (⟨Nat.zero_le _, hz1, rnew_in _, show Xq ⟨1, []⟩ = true by decide⟩) Zo Zo rfl tk ?_
 rintro ⟨k, ρ1, v, ro⟩ hI
 try simp only [List.cons_append, List.nil_append, List.append_assoc, List.append_eq] at hI ⊢
 try dsimp only at hI ⊢
 obtain ⟨hk, hle0, hR, hok⟩ := hI
 have hG := Yw.1 hok
 by_cases hgo : k < n ∧ k ≠ 30
 ·obtain ⟨hlt, h30⟩ := hgo
  obtain ⟨b, off, C, T, fr, e1, hb, hfit, hcc⟩ := (h.mono hle0).get (show k < l.length by omega)
  have hwx := (hw _ (List.getElem_mem (show k < l.length by omega))).mono hle0
  generalize l[k]'(by omega) = o at *
  rw [e1]
  have hov := fun ρ2 (h2 : RcW ρ2 o.rv o.rc) => over18_spec ρ2 o.rv o.rc h2
  have hrun := run18L_spec ρ1 o v ro hR (lastP_le hG) hwx.n hwx.r
  cases ho : overB o.rc
  case' true =>
   simp only [ho] at hov
   repeat' (first | (refine Ze (.func 12) ?_; refine qC rfl rfl ((hov _ (hwx.r.mono hz1))) ?_; rintro v ρ' L' hle ⟨rfl, rfl, rfl⟩ <;> (try simp only [kM, kN, kO])) | (refine Ze (.func 11) ?_; refine qC rfl rfl (hrun) ?_; rintro v ρ' L' hle ⟨hz1, v1, r1, rfl, hR1, hp1, rfl⟩ <;> (try simp only [kM, kN, kO])) | (refine ZE ?_; refine Zn (Zd rfl) rfl rfl ?_) | (refine Zj ?_; first | (refine Zf ?_; refine qQ ?_) | refine Zm ?_) | refine Za ?_ | (refine Zi ?_; refine Zt ?_) | (refine Zh ?_; refine Zs ?_) | intro _)
   rw [← e1]
   refine Zr (k + 1, ρ', v, ro) (⟨hlt, Hp.le_trans hle0 hz1, hR.mono hz1, hok⟩) Zo Zo rfl tk inferInstance (by first | omega | (dsimp only; omega))
  simp only [ho] at hov
  by_cases he : runE o ro.p = 0
  case' neg =>
   repeat' (first | (refine Ze (.func 12) ?_; refine qC rfl rfl ((hov _ (hwx.r.mono hz1))) ?_; rintro v ρ' L' hle ⟨rfl, rfl, rfl⟩ <;> (try simp only [kM, kN, kO])) | (refine Ze (.func 11) ?_; refine qC rfl rfl (hrun) ?_; rintro v ρ' L' hle ⟨hz1, v1, r1, rfl, hR1, hp1, rfl⟩ <;> (try simp only [kM, kN, kO])) | (refine ZE ?_; refine Zn (Zd rfl) rfl rfl ?_) | (refine Zj ?_; first | (refine Zf ?_; refine qQ ?_) | refine Zm ?_) | refine Za ?_ | (refine Zi ?_; refine Zt ?_) | (refine Zh ?_; refine Zs ?_) | intro _)
   rw [← e1]
   refine Zr (k + 1, ρ', v, ro) (⟨hlt, Hp.le_trans hle0 hz1, hR.mono hz1, hok⟩) Zo Zo rfl tk inferInstance (by first | omega | (dsimp only; omega))
  have hm := rooms hok he
  rw [he] at hrun
  repeat' (first | (refine Ze (.func 12) ?_; refine qC rfl rfl ((hov _ (hwx.r.mono hz1))) ?_; rintro v ρ' L' hle ⟨rfl, rfl, rfl⟩ <;> (try simp only [kM, kN, kO])) | (refine Ze (.func 11) ?_; refine qC rfl rfl (hrun) ?_; rintro v ρ' L' hle ⟨hz1, v1, r1, rfl, hR1, hp1, rfl⟩ <;> (try simp only [kM, kN, kO])) | (refine ZE ?_; refine Zn (Zd rfl) rfl rfl ?_) | (refine Zj ?_; first | (refine Zf ?_; refine qQ ?_) | refine Zm ?_) | refine Za ?_ | (refine Zi ?_; refine Zt ?_) | (refine Zh ?_; refine Zs ?_) | intro _)
  rw [← e1]
  refine Zr (k + 1, ρ', v1, r1) (⟨hlt, Hp.le_trans hle0 hz1, hR1, by rw [hp1]; exact hm.ok⟩) Zo Zo rfl tk inferInstance (by first | omega | (dsimp only; omega))
 have hA := hR.at'.at'
 have hal := hA.len
 have habig := hR.at'.big
 have hlast := fun ρ2 (h2 : RosIn ρ2 v ro) => last18_spec ρ2 v ro h2
 have hlp := lastP_le hG
 by_cases hkn : k < n
 case' pos =>
  have hk30 : k = 30 := by omega
  obtain ⟨b, off, C, T, fr, e1, hb, hfit, hcc⟩ := (h.mono hle0).get (show k < l.length by omega)
  generalize l[k]'(by omega) = o at *
  rw [e1]
  repeat' (first | (refine ZE ?_; refine Zn (Zd rfl) rfl rfl ?_) | (refine Zj ?_; first | (refine Zf ?_; refine qQ ?_) | refine Zm ?_) | refine Za ?_ | (refine Zi ?_; refine Zt ?_) | (refine Zh ?_; refine Zs ?_) | intro _)
  refine tc_freeze [(_, .cells ⟨opV o⟩ 36 (0, 0))] (h := Rem.here) (fun ρf hs _ => ?_)
 case' neg =>
  repeat' (first | (refine ZE ?_; refine Zn (Zd rfl) rfl rfl ?_) | (refine Zj ?_; first | (refine Zf ?_; refine qQ ?_) | refine Zm ?_) | refine Za ?_ | (refine Zi ?_; refine Zt ?_) | (refine Zh ?_; refine Zs ?_) | intro _)
  have hs := Hp.le_refl ρ1
 all_goals
  refine ZG [(5, _), (52, _), (53, _)] (fun (ζ : (Nat) × (Hp)) => [(54, .int .i64 ζ.1), (4, .bool false)]) (fun (ζ : (Nat) × (Hp)) => ζ.2) (fun (ζ : (Nat) × (Hp)) => [[(b5, .cells ⟨Yx v ro⟩ 26 (0, 0))]]) (fun (ζ : (Nat) × (Hp)) => ζ.1 ≤ v.n ∧ ρ1.le ζ.2) (fun (ζ : (Nat) × (Hp)) => v.n - ζ.1) ((0, _)) (⟨Nat.zero_le _, hs⟩) Zo Zo rfl tk ?_
  rintro ⟨j, ρ2⟩ hI
  try simp only [List.cons_append, List.nil_append, List.append_assoc, List.append_eq] at hI ⊢
  try dsimp only at hI ⊢
  obtain ⟨hj, hle1⟩ := hI
  have hR2 := hR.mono hle1
  by_cases hjl : j < v.n
  ·obtain ⟨b2, off2, C2, T2, fr2, f1, hb2, hfit2, hcc2⟩ := (hA.mono hle1).get (show j < ro.txns.length by omega)
   have hX := hR2.tx _ (List.getElem_mem (show j < ro.txns.length by omega))
   have hxm : (ro.txns[j]'(by omega)).p ∈ ro.p.txns := List.mem_map.2 ⟨_, List.getElem_mem (show j < ro.txns.length by omega), rfl⟩
   generalize ro.txns[j]'(by omega) = x at *
   have hsl := hX.s.len
   have hml := hX.m.len
   rw [f1]
   by_cases he : markE ro.p x.num = 0
   case' neg =>
    have hno := mark_no hG hxm he
    have hmk := markZ_spec ρ2 v ro hR2 x.num
    by_cases hs : x.state = 1
    ·have hm8 : 8 ≤ x.mv.n := by
      refine Nat.le_of_not_lt fun c => hno ⟨hs, ?_⟩
      show x.marks.length < 8
      omega
     have hmb := hX.mb
     repeat' (first | (refine Ze (.func 13) ?_; refine qC rfl rfl (hmk) ?_; rintro v ρ' L' hle ⟨⟨hz1, v1, r1, rfl, hR1, hp1⟩, rfl⟩ <;> (try simp only [kM, kN, kO])) | (refine ZE ?_; refine Zn (Zd rfl) rfl rfl ?_) | (refine Zj ?_; first | (refine Zf ?_; refine qQ ?_) | refine Zm ?_) | refine Za ?_ | (refine Zi ?_; refine Zt ?_) | (refine Zh ?_; refine Zs ?_) | intro _)
     rw [← f1]
     refine Zr (j + 1, ρ') (⟨hjl, Hp.le_trans hle1 hz1⟩) Zo Zo rfl tk inferInstance (by first | omega | (dsimp only; omega))
    ·repeat' (first | (refine Ze (.func 13) ?_; refine qC rfl rfl (hmk) ?_; rintro v ρ' L' hle ⟨⟨hz1, v1, r1, rfl, hR1, hp1⟩, rfl⟩ <;> (try simp only [kM, kN, kO])) | (refine ZE ?_; refine Zn (Zd rfl) rfl rfl ?_) | (refine Zj ?_; first | (refine Zf ?_; refine qQ ?_) | refine Zm ?_) | refine Za ?_ | (refine Zi ?_; refine Zt ?_) | (refine Zh ?_; refine Zs ?_) | intro _)
     rw [← f1]
     refine Zr (j + 1, ρ') (⟨hjl, Hp.le_trans hle1 hz1⟩) Zo Zo rfl tk inferInstance (by first | omega | (dsimp only; omega))
   obtain ⟨hmk, hwh, hct⟩ := mark_c (v := v) hG hX hxm he
   have hmb := hX.mb
   have hsb := hX.sb
   have hled := led_c hG hX hxm he
   generalize ZT ro.p x.num = pa at *
   generalize YH ro.p = lp at *
   clear hX hxm he
   repeat' (first | (refine Ze (.func 13) ?_; refine qC rfl rfl ((hmk _ hR2)) ?_; rintro v ρ' L' hle ⟨hz1, v1, r1, rfl, hR1, hp1, rfl⟩ <;> (try simp only [kM, kN, kO])) | (refine Ze (.func 14) ?_; refine qC rfl rfl ((hwh _ v1 r1 hR1 hp1)) ?_; rintro v ρ' L' hle ⟨hz2, rfl, rfl⟩ <;> (try simp only [kM, kN, kO])) | (refine Ze (.func 15) ?_; refine qC rfl rfl ((hct _ v1 r1 (hR1.mono hz2) hp1)) ?_; rintro v ρ' L' hle ⟨hz3, v3, r3, rfl, hR3, hp3, rfl⟩ <;> (try simp only [kM, kN, kO])) | (refine Ze (.func 16) ?_; refine qC rfl rfl ((rsame_true _ v1 v3 r1 r3 (hR1.mono (Hp.le_trans hz2 hz3)) hR3 (hp1.trans hp3.symm))) ?_; rintro v ρ' L' hle ⟨rfl, rfl, rfl⟩ <;> (try simp only [kM, kN, kO])) | (refine ZE ?_; refine Zn (Zd rfl) rfl rfl ?_) | (refine Zj ?_; first | (refine Zf ?_; refine qQ ?_) | refine Zm ?_) | refine Za ?_ | (refine Zi ?_; refine Zt ?_) | (refine Zh ?_; refine Zs ?_) | intro _)
   have hz03 := Hp.le_trans hz1 (Hp.le_trans hz2 hz3)
   rename_i b10 ρa ha b11 ρb hb b16 hc
   have hlx := hlast _ (hR2.mono hz03)
   refine tc_cut_k R [(4, _), (5, _), (10, _), (11, _), (12, _), (52, _), (53, _), (54, _)] (fun (ζ : (Nat) × (Nat)) => [(18, .pointer (some ⟨ζ.1, 0, none⟩))]) (fun (ζ : (Nat) × (Nat)) => ρ') (fun (ζ : (Nat) × (Nat)) => [[(ζ.2, .cells ⟨stpV ⟨4, ⟨0, 0, 0, []⟩, 0⟩⟩ 60 (0, 0))], [(ζ.1, .cells ⟨doneV lp x ζ.2⟩ 34 (0, 0))], [(b11, .cells ⟨Yx v1 r1⟩ 26 (0, 0))], [(b10, .cells ⟨txV x⟩ 45 (0, 0))], [(b5, .cells ⟨Yx v ro⟩ 26 (0, 0))]]) (fun (ζ : (Nat) × (Nat)) => True) Zo ?_ ?_
   ·refine ZC (Zq _ _ ([[(b5, .cells ⟨Yx v ro⟩ 26 (0, 0))], [(b10, .cells ⟨txV x⟩ 45 (0, 0))]])) (Zy (hT := tk) (Hp.le_refl _)) ?_
    all_goals (refine Yf 0 ?_; refine ZY 3 ?_; refine Yf 4 ?_; refine ZY 5 ?_; refine Yf 6 ?_; refine ZY 7 ?_; refine Yf 8 ?_)
    all_goals refine rBu 9 ?_ (y := fun _ _ => Zd rfl)
    all_goals (refine rStep3 (i := 1) (j := 10) (k := 12) ?_ ?_ ?_ <;> ((try refine Zk ?_); (first | (refine Ze (.func 17) ?_; refine qC rfl rfl (hlx) ?_; rintro v ρ' L' hle ⟨rfl, rfl, rfl⟩ <;> (try simp only [kM, kN, kO])) | (refine Yu (css := [stpV ⟨4, ⟨0, 0, 0, []⟩, 0⟩]) (sz := 6) rfl rfl rfl rfl (by simp) (by simp) rfl (fun bs => ?_); simp only [List.flatten_cons, List.flatten_nil, List.append_nil]) | (refine Zm ?_; try intro _)) <;> ((try simp only [kM, kN, kO]); refine Za ?_; refine Zl ?_)))
    all_goals (first | refine rAd 2 ?_ | (refine Yo (i := 1) (j := 12) ?_ ?_ <;> ((try refine Zk ?_); (first | (refine Ze (.func 17) ?_; refine qC rfl rfl (hlx) ?_; rintro v ρ' L' hle ⟨rfl, rfl, rfl⟩ <;> (try simp only [kM, kN, kO])) | (refine Zm ?_; try intro _)) <;> ((try simp only [kM, kN, kO]); refine Za ?_; refine Zl ?_))) | (refine Yo (i := 1) (j := 10) ?_ ?_ <;> ((try refine Zk ?_); (first | (refine Ze (.func 17) ?_; refine qC rfl rfl (hlx) ?_; rintro v ρ' L' hle ⟨rfl, rfl, rfl⟩ <;> (try simp only [kM, kN, kO])) | (refine Yu (css := [stpV ⟨4, ⟨0, 0, 0, []⟩, 0⟩]) (sz := 6) rfl rfl rfl rfl (by simp) (by simp) rfl (fun bs => ?_); simp only [List.flatten_cons, List.flatten_nil, List.append_nil]) | (refine Zm ?_; try intro _)) <;> ((try simp only [kM, kN, kO]); refine Za ?_; refine Zl ?_))))
    all_goals (first | refine rAd 2 ?_ | (refine Yo (i := 10) (j := 12) ?_ ?_ <;> ((try refine Zk ?_); (first | (refine Yu (css := [stpV ⟨4, ⟨0, 0, 0, []⟩, 0⟩]) (sz := 6) rfl rfl rfl rfl (by simp) (by simp) rfl (fun bs => ?_); simp only [List.flatten_cons, List.flatten_nil, List.append_nil]) | (refine Zm ?_; try intro _)) <;> ((try simp only [kM, kN, kO]); refine Za ?_; refine Zl ?_))) | (refine Zp (i := 1) ?_; ((try refine Zk ?_); (first | (refine Ze (.func 17) ?_; refine qC rfl rfl (hlx) ?_; rintro v ρ' L' hle ⟨rfl, rfl, rfl⟩ <;> (try simp only [kM, kN, kO])) | (refine Zm ?_; try intro _)) <;> ((try simp only [kM, kN, kO]); refine Za ?_; refine Zl ?_))))
    all_goals (first | refine rAd 2 ?_ | refine rBu 11 ?_ (y := fun _ _ => Zd rfl) | (refine Zp (i := 10) ?_; ((try refine Zk ?_); (first | (refine Yu (css := [stpV ⟨4, ⟨0, 0, 0, []⟩, 0⟩]) (sz := 6) rfl rfl rfl rfl (by simp) (by simp) rfl (fun bs => ?_); simp only [List.flatten_cons, List.flatten_nil, List.append_nil]) | (refine Zm ?_; try intro _)) <;> ((try simp only [kM, kN, kO]); refine Za ?_; refine Zl ?_))))
    all_goals (first | refine rBu 11 ?_ (y := fun _ _ => Zd rfl) | (refine Zp (i := 12) ?_; ((try refine Zk ?_); (first | (refine Zm ?_; try intro _)) <;> ((try simp only [kM, kN, kO]); refine Za ?_; refine Zl ?_))))
    all_goals (refine Zp (i := 13) ?_; ((try refine Zk ?_); (first | (refine Zm ?_; try intro _)) <;> ((try simp only [kM, kN, kO]); refine Za ?_; refine Zl ?_)))
    all_goals refine ZH ?_
    all_goals refine te_cut_g ((_, _)) (trivial) Zo Zo rfl tk inferInstance
   rintro ⟨b18, bs⟩ -
   simp only [List.cons_append, List.nil_append]
   refine tc_freeze [(bs, .cells ⟨stpV ⟨4, ⟨0, 0, 0, []⟩, 0⟩⟩ 60 (0, 0))] (h := Rem.here) (fun ρ4 hz4 hfz => ?_)
   have hb9 := hfz _ (List.mem_singleton.2 rfl)
   clear hfz
   have hz04 := Hp.le_trans hz03 hz4
   have hR4 := hR2.mono hz04
   have hRa4 := hR1.mono (Hp.le_trans hz2 (Hp.le_trans hz3 hz4))
   have hlx4 := hlast _ hR4
   by_cases hul : x.undo < x.last
   case' neg =>
    repeat' (first | (refine ZE ?_; refine Zn (Zd rfl) rfl rfl ?_) | (refine Zj ?_; first | (refine Zf ?_; refine qQ ?_) | refine Zm ?_) | refine Za ?_ | (refine Zi ?_; refine Zt ?_) | (refine Zh ?_; refine Zs ?_) | intro _)
    rw [← f1]
    refine Zr (j + 1, _) (⟨hjl, Hp.le_trans hle1 hz04⟩) Zo Zo rfl tk inferInstance (by first | omega | (dsimp only; omega))
   by_cases hl9 : lp ≤ 1099511627774
   case' neg =>
    repeat' (first | (refine Ze (.func 17) ?_; refine qC rfl rfl (hlx4) ?_; rintro v ρ' L' hle ⟨rfl, rfl, rfl⟩ <;> (try simp only [kM, kN, kO])) | (refine ZE ?_; refine Zn (Zd rfl) rfl rfl ?_) | (refine Zj ?_; first | (refine Zf ?_; refine qQ ?_) | refine Zm ?_) | refine Za ?_ | (refine Zi ?_; refine Zt ?_) | (refine Zh ?_; refine Zs ?_) | intro _)
    rw [← f1]
    refine Zr (j + 1, _) (⟨hjl, Hp.le_trans hle1 hz04⟩) Zo Zo rfl tk inferInstance (by first | omega | (dsimp only; omega))
   obtain ⟨pc, pd, rs, ht1, ht2, hfd, hrd, hra⟩ := hled hul hl9
   have ht1 := ht1 ρ4 v1 r1 bs hRa4 hp1 hb9
   repeat' (first | (refine Ze (.func 17) ?_; refine qC rfl rfl (hlx4) ?_; rintro v ρ' L' hle ⟨rfl, rfl, rfl⟩ <;> (try simp only [kM, kN, kO])) | (refine Ze (.func 18) ?_; refine qC rfl rfl (ht1) ?_; rintro v ρ' L' hle ⟨hz5, v5, r5, rfl, hR5, hp5, rfl⟩ <;> (try simp only [kM, kN, kO])) | (refine Ze (.func 18) ?_; refine qC rfl rfl ((ht2 _ v5 r5 hR5 hp5)) ?_; rintro v ρ' L' hle ⟨hz6, v6, r6, rfl, hR6, hp6, rfl⟩ <;> (try simp only [kM, kN, kO])) | (refine Ze (.func 19) ?_; refine qC rfl rfl ((hfd _ v6 r6 hR6 hp6)) ?_; rintro v ρ' L' hle ⟨rfl, y, rfl, ⟨hy1, hy2, hy3⟩, rfl⟩ <;> (try simp only [kM, kN, kO])) | (refine ZE ?_; refine Zn (Zd rfl) rfl rfl ?_) | (refine Zj ?_; first | (refine Zf ?_; refine qQ ?_) | refine Zm ?_) | refine Za ?_ | (refine Zi ?_; refine Zt ?_) | (refine Zh ?_; refine Zs ?_) | intro _)
   clear ht1 ht2 hfd hmk hwh hct hlast hlx hlx4 hled
   refine ZC (Zq _ _ _) ZF ?_
   all_goals (refine ZU 0 ?_; refine rCm 1 ?_; refine ZU 2 ?_; (first | refine Zc 3 ?_ | refine Zb 3 ?_ | refine ZI 3 ?_); (first | refine Zc 4 ?_ | refine Zb 4 ?_ | refine wCm 4 ?_); refine rPk 5 ?_; refine ZU 6 ?_; (first | refine Zc 7 ?_ | refine Zb 7 ?_ | refine ZI 7 ?_); (first | refine Zc 8 ?_ | refine Zb 8 ?_ | refine wUn 8 ?_); refine rPk 9 ?_; refine ZU 10 ?_; (first | refine Zc 11 ?_ | refine Zb 11 ?_ | refine wFa 11 ?_); (first | refine Zc 12 ?_ | refine Zb 12 ?_ | refine wLd 12 ?_); (first | refine Zc 13 ?_ | refine Zb 13 ?_ | refine wFa 13 ?_); (first | refine Zc 14 ?_ | refine Zb 14 ?_ | refine wLd 14 ?_); (first | refine Zc 15 ?_ | refine Zb 15 ?_ | refine wCm 15 ?_); refine rPk 16 ?_; refine ZU 17 ?_; (first | refine Zc 18 ?_ | refine Zb 18 ?_ | refine wFa 18 ?_); (first | refine Zc 19 ?_ | refine Zb 19 ?_ | refine wLd 19 ?_); (first | refine Zc 20 ?_ | refine Zb 20 ?_ | refine wBi 20 ?_); (first | refine Zc 21 ?_ | refine Zb 21 ?_ | refine ZI 21 ?_); (first | refine Zc 22 ?_ | refine Zb 22 ?_ | refine wCm 22 ?_); refine rPk 23 ?_; refine ZU 24 ?_; (first | refine Zc 25 ?_ | refine Zb 25 ?_ | refine wFa 25 ?_); (first | refine Zc 26 ?_ | refine Zb 26 ?_ | refine wLd 26 ?_); (first | refine Zc 27 ?_ | refine Zb 27 ?_ | refine wBi 27 ?_); (first | refine Zc 28 ?_ | refine Zb 28 ?_ | refine wFa 28 ?_); (first | refine Zc 29 ?_ | refine Zb 29 ?_ | refine wLd 29 ?_); (first | refine Zc 30 ?_ | refine Zb 30 ?_ | refine wBi 30 ?_); (first | refine Zc 31 ?_ | refine Zb 31 ?_ | refine wCm 31 ?_); refine rPk 32 ?_; refine ZU 33 ?_; (first | refine Zc 34 ?_ | refine Zb 34 ?_ | refine wLd 34 ?_); (first | refine Zc 36 ?_ | refine Zb 36 ?_ | refine wLd 36 ?_))
   all_goals (first | refine Zc 35 ?_ | refine Zb 35 ?_ | (refine Zp (i := 35) ?_; ((try refine Zk ?_); (first | (refine Ze (.func 20) ?_; refine qC rfl rfl ((hrd _ v6 r6 hR6 hp6)) ?_; rintro v ρ' L' hle ⟨hz7, rfl, rfl⟩ <;> (try simp only [kM, kN, kO])) | (refine Ze (.func 20) ?_; refine qC rfl rfl ((hra _ v1 r1 (hRa4.mono (Hp.le_trans hz5 (Hp.le_trans hz6 hz7))) hp1)) ?_; rintro v ρ' L' hle ⟨hz8, rfl, rfl⟩ <;> (try simp only [kM, kN, kO])) | (refine Zm ?_; try intro _)) <;> ((try simp only [kM, kN, kO]); refine Za ?_; refine Zl ?_))))
   all_goals (first | refine Zc 37 ?_ | refine Zb 37 ?_ | (refine Zp (i := 37) ?_; ((try refine Zk ?_); (first | (refine Ze (.func 20) ?_; refine qC rfl rfl ((hrd _ v6 r6 hR6 hp6)) ?_; rintro v ρ' L' hle ⟨hz7, rfl, rfl⟩ <;> (try simp only [kM, kN, kO])) | (refine Ze (.func 20) ?_; refine qC rfl rfl ((hra _ v1 r1 (hRa4.mono (Hp.le_trans hz5 (Hp.le_trans hz6 hz7))) hp1)) ?_; rintro v ρ' L' hle ⟨hz8, rfl, rfl⟩ <;> (try simp only [kM, kN, kO])) | (refine Zm ?_; try intro _)) <;> ((try simp only [kM, kN, kO]); refine Za ?_; refine Zl ?_))))
   all_goals (refine ZS ?_; (first | refine Zc 38 ?_ | refine Zb 38 ?_ | refine wCm 38 ?_); refine rPk 39 ?_; refine ZH ?_)
   all_goals (repeat' (first | (refine ZE ?_; refine Zn (Zd rfl) rfl rfl ?_) | (refine Zj ?_; first | (refine Zf ?_; refine qQ ?_) | refine Zm ?_) | refine Za ?_ | (refine Zi ?_; refine Zt ?_) | (refine Zh ?_; refine Zs ?_) | intro _))
   all_goals rw [← f1]
   all_goals refine Zr (j + 1, _) (⟨hjl, Hp.le_trans hle1 (Hp.le_trans hz04 (Hp.le_trans hz5 (Hp.le_trans hz6 (Hp.le_trans hz7 hz8))))⟩) Zo Zo rfl tk inferInstance (by first | omega | (dsimp only; omega))
  ·repeat' (first | (refine ZE ?_; refine Zn (Zd rfl) rfl rfl ?_) | (refine Zj ?_; first | (refine Zf ?_; refine qQ ?_) | refine Zm ?_) | refine Za ?_ | (refine Zi ?_; refine Zt ?_) | (refine Zh ?_; refine Zs ?_) | intro _)
   exact qE (L' := []) (hle := Hp.le_trans hle0 hle1) ⟨rfl, Hp.le_trans hle0 hle1, rfl⟩
end Go.Proofs.E
