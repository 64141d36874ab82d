/- The law RosterMarks. Part 9 of 20. -/
import Derived.Test.YtkbiahafeoillaaGreatU8
namespace Go.Proofs.E
open Go
set_option linter.unusedVariables false
set_option linter.unusedSimpArgs false
set_option linter.unusedSectionVars false
set_option maxRecDepth 4000
set_option maxHeartbeats 1000000
attribute [local irreducible] Yl TL TC TE Spec Wh R1 Hp.le EnvLe TS TR YS Zq
theorem stpB_len {s : Stp} (h : Yy s = true) : (stpB s).length ≤ 21 := by
 unfold stpB
 by_cases h23 : s.kind = 2 ∨ s.kind = 3
 ·rw [if_pos h23]
  have hr : Xd s.row = true := by
   unfold Yy at h
   rw [if_neg (by omega), if_neg (by omega), if_pos h23, Bool.and_eq_true] at h
   exact h.2
  have := rowB_le hr
  simp; omega
 ·rw [if_neg h23]
  split <;> simp [ZJ]
theorem ckTB_len (t : CkT) : (ckTB t).length = 29 := by simp [ckTB, ZJ]
theorem ckPB_len (p : CkP) : (ckPB p).length = 9 := by simp [ckPB, ZJ]
theorem step_kinds {s : Stp} (h : Yy s = true) : (s.kind = 1 ∨ s.kind = 2 ∨ s.kind = 3 ∨ s.kind = 4) ∧ ((s.kind = 2 ∨ s.kind = 3) → Xd s.row = true) ∧ (¬ (s.kind = 2 ∨ s.kind = 3) → 0 ≤ s.row.t ∧ s.row.t < 3) := by
 unfold Yy at h
 by_cases h1 : s.kind = 1
 ·rw [if_pos h1] at h
  unfold onlyOk at h
  rw [Bool.and_eq_true, decide_eq_true_eq, decide_eq_true_eq] at h
  exact ⟨.inl h1, fun e => by omega, fun _ => h.2⟩
 ·rw [if_neg h1] at h
  by_cases h4 : s.kind = 4
  ·rw [if_pos h4] at h
   unfold onlyOk at h
   rw [Bool.and_eq_true, Bool.and_eq_true, decide_eq_true_eq, decide_eq_true_eq] at h
   exact ⟨by omega, fun e => by omega, fun _ => h.1.2⟩
  ·rw [if_neg h4] at h
   by_cases h23 : s.kind = 2 ∨ s.kind = 3
   ·rw [if_pos h23, Bool.and_eq_true] at h
    exact ⟨by omega, fun _ => h.2, fun e => absurd h23 e⟩
   ·rw [if_neg h23] at h; cases h
theorem wdone_spec (ρ : Hp) (wb : Nat) (v : RV) (r : Rc) (w : Value) (l : List UInt8) (sp : List Value) (hown : OwnB w l sp) (hn : l.length ≤ 70000) (h : RcIn ρ v r) (hL : LayOk r) :
  Spec Tryz.prog 197 [.pointer (some ⟨wb, 0, none⟩)] ρ [Xw w l sp, wrC wb v r w] (WrP ρ wb v r (l ++ (be 8 r.next ++ XC stpB r.steps))) := by
 have hρ := Hp.le_refl ρ
 have hA := h.s.at'
 have hl := hA.len
 have hil := hL.sl
 refine Zg Tryz.func197 rfl rfl rfl fun u R => ?_
 simp only [Zx, List.cons_append, List.nil_append]
 repeat' (first | (refine Zz rfl rfl rfl rfl (by simp) rfl rfl (fun bs => ?_); refine Yi _ (h := Rem.here) (fun ρz hlz hfz => ?_); have hbs := hfz _ (List.mem_singleton.2 rfl); clear hfz; have hρ := Hp.le_trans hρ hlz; clear hlz; (try simp only [List.nil_append])) | (refine Ze (.func 196) ?_; refine qC rfl rfl (wnested_spec _ wb v r w l sp hown (by omega) hL.next) ?_; rintro v ρ' L' hle ⟨rfl, hl1, w0, sp0, hown, rfl⟩ <;> (try simp only [kM, kN, kO]); have hρ := Hp.le_trans hρ hl1; clear hl1) | (refine Ze (.func 192) ?_; refine qC rfl rfl (YL _ wb v r w0 _ sp0 hown (by (try simp only [List.length_append, List.length_cons, List.length_nil, List.length_map, ZJ]) <;> omega) _ (v.s.n : Int) hbs (by omega)) ?_; rintro v ρ' L' hle ⟨rfl, hl1, w1, sp1, hown, rfl⟩ <;> (try simp only [kM, kN, kO]); have hρ := Hp.le_trans hρ hl1; clear hl1) | (refine Zj ?_; first | (refine Zf ?_; refine qQ ?_) | refine Zm ?_) | refine Za ?_ | (refine Zi ?_; refine Zt ?_) | (refine Zh ?_; refine Zs ?_) | intro _)
 obtain ⟨B, hB⟩ : ∃ B, l ++ be 8 r.next ++ [tB (v.s.n : Int)] = B := ⟨_, rfl⟩
 rw [hB] at hown ⊢
 have hBl : B.length ≤ 80001 := by rw [← hB]; simp [ZJ]; omega
 have hfin : B ++ r.steps.flatMap stpB = l ++ (be 8 r.next ++ XC stpB r.steps) := by rw [← hB]; simp [XC, hl, tB]
 rw [show Xw w1 B sp1 = Xw w1 (B ++ (r.steps.take 0).flatMap stpB) sp1 by simp]
 refine ZG [(0, _), (21, _), (22, _)] (fun (ζ : (Nat) × (Hp) × (Value) × (List Value)) => [(23, .int .i64 ζ.1)]) (fun (ζ : (Nat) × (Hp) × (Value) × (List Value)) => ζ.2.1) (fun (ζ : (Nat) × (Hp) × (Value) × (List Value)) => [Xw ζ.2.2.1 (B ++ (r.steps.take ζ.1).flatMap stpB) ζ.2.2.2, wrC wb v r ζ.2.2.1]) (fun (ζ : (Nat) × (Hp) × (Value) × (List Value)) => ζ.1 ≤ v.s.n ∧ ρ.le ζ.2.1 ∧ OwnB ζ.2.2.1 (B ++ (r.steps.take ζ.1).flatMap stpB) ζ.2.2.2) (fun (ζ : (Nat) × (Hp) × (Value) × (List Value)) => v.s.n - ζ.1) ((0, ρ', w1, sp1)) (⟨Nat.zero_le _, hρ, by simpa using hown⟩) Zo Zo rfl tk ?_
 rintro ⟨k, ρ1, w2, sp2⟩ hI
 try simp only [List.cons_append, List.nil_append, List.append_assoc, List.append_eq] at hI ⊢
 try dsimp only at hI ⊢
 obtain ⟨hk, hle1, hown⟩ := hI
 clear hρ
 by_cases hlt : k < v.s.n
 ·obtain ⟨b, off, C, T, fr, e1, hbb, hfit, hcc⟩ := (hA.mono hle1).get (show k < r.steps.length by omega)
  have hts := flatMap_app stpB r.steps k (by omega)
  have hmem := List.getElem_mem (show k < r.steps.length by omega)
  have hsf := h.sf _ hmem
  obtain ⟨hk4, hr23, hkt⟩ := step_kinds (hL.st _ hmem)
  have hfl := YB stpB 21 (r.steps.take k) (fun x hx => stpB_len (hL.st x (List.mem_of_mem_take hx)))
  have htl : (r.steps.take k).length ≤ 2 := by simp; omega
  generalize r.steps[k]'(by omega) = x at *
  have hxl : (B ++ (r.steps.take k).flatMap stpB).length ≤ 83000 := by simp only [List.length_append]; omega
  have hmm : B ++ (r.steps.take k).flatMap stpB ++ stpB x = B ++ (r.steps.take (k + 1)).flatMap stpB := by rw [hts]; simp
  generalize hX : B ++ (r.steps.take k).flatMap stpB = X at *
  have hρ := Hp.le_refl ρ1
  rw [e1]
  by_cases h23 : x.kind = 2 ∨ x.kind = 3
  ·have hst : stpB x = tB x.kind :: Yr x.row := by unfold stpB; rw [if_pos h23]
   have hre := fun ρ => rowE_spec ρ x.row hsf.id
   have hrl := rowB_le (hr23 h23)
   rw [if_pos (hr23 h23), if_pos (hr23 h23)] at hre
   have hmm2 : (X ++ [tB x.kind]).map u8c ++ (Yr x.row).map u8c = (B ++ (r.steps.take (k + 1)).flatMap stpB).map u8c := by rw [← hmm, hst]; simp
   have hll2 : (X ++ [tB x.kind]).length + (Yr x.row).length = (B ++ (r.steps.take (k + 1)).flatMap stpB).length := by rw [← hmm, hst]; simp; omega
   have hx1 : (X ++ [tB x.kind]).length ≤ 84000 := by simp; omega
   rcases h23 with h2 | h2
   all_goals (repeat' (first | (refine Zz rfl rfl rfl rfl (by simp) rfl rfl (fun bs => ?_); refine Yi _ (h := Rem.here) (fun ρz hlz hfz => ?_); have hbs := hfz _ (List.mem_singleton.2 rfl); clear hfz; have hρ := Hp.le_trans hρ hlz; clear hlz; (try simp only [List.nil_append])) | (refine Ze (.func 192) ?_; refine qC rfl rfl (YL _ wb v r w2 X sp2 hown (by omega) _ x.kind hbs (by omega)) ?_; rintro v ρ' L' hle ⟨rfl, hl1, w3, sp3, hown, rfl⟩ <;> (try simp only [kM, kN, kO]); have hρ := Hp.le_trans hρ hl1; clear hl1; obtain ⟨va, vc, rfl, _⟩ := hown.slice) | (refine Ze (.func 214) ?_; refine qC rfl rfl (hre _) ?_; rintro v ρ' L' hle ⟨hl1, a1, n1, c1, rfl, hc1, hs1, rfl⟩ <;> (try simp only [kM, kN, kO]); have hρ := Hp.le_trans hρ hl1; clear hl1) | (have hn1 := hs1.len; refine Xp (ys := (Yr x.row).map u8c) (m := n1) (sz := 1) rfl rfl hown (hR := by infer_instance) (SIn.srcV hs1) (by simpa using hs1.len) (u8c_one _) (by decide) rfl (by omega) (by omega) rfl (fun v' sp' hown' => ?_); rw [hmm2] at hown' ⊢; rw [← hs1.len, hll2] at hown'; obtain ⟨va', vc', rfl, _⟩ := hown'.slice) | (refine Zj ?_; first | (refine Zf ?_; refine qQ ?_) | refine Zm ?_) | refine Za ?_ | (refine Zi ?_; refine Zt ?_) | (refine Zh ?_; refine Zs ?_) | intro _))
   all_goals rw [← e1]
   all_goals refine Zr (k + 1, _, _, sp') (⟨hlt, Hp.le_trans hle1 hρ, hown'⟩) Zo Zo rfl tk inferInstance (by first | omega | (dsimp only; omega))
  ·have hkt := hkt h23
   have hst : stpB x = tB x.kind :: (tB x.row.t :: (be 2 x.row.id ++ (if x.kind = 1 then be 8 (vN x.by') else []))) := by unfold stpB; rw [if_neg h23]
   have hll2 : (X ++ [tB x.kind] ++ [tB x.row.t]).length + 2 = (X ++ [tB x.kind] ++ [tB x.row.t] ++ be 2 x.row.id).length := by simp [ZJ]
   rcases (show x.kind = 1 ∨ x.kind = 4 by omega) with h1 | h1
   ·rw [if_pos h1] at hst
    have hvl := vN_lt x.by'
    repeat' (first | (refine Zz rfl rfl rfl rfl (by simp) rfl rfl (fun bs => ?_); refine Yi _ (h := Rem.here) (fun ρz hlz hfz => ?_); have hbs := hfz _ (List.mem_singleton.2 rfl); clear hfz; have hρ := Hp.le_trans hρ hlz; clear hlz; (try simp only [List.nil_append])) | (refine Ze (.func 192) ?_; refine qC rfl rfl (YL _ wb v r w2 X sp2 hown (by omega) _ x.kind hbs (by omega)) ?_; rintro v ρ' L' hle ⟨rfl, hl1, w3, sp3, hown, rfl⟩ <;> (try simp only [kM, kN, kO]); have hρ := Hp.le_trans hρ hl1; clear hl1; obtain ⟨va, vc, rfl, _⟩ := hown.slice) | (refine Ze (.func 192) ?_; refine qC rfl rfl (YL _ wb v r _ _ sp3 hown (by (try simp only [List.length_append, List.length_cons, List.length_nil, List.length_map, ZJ]) <;> omega) _ x.row.t hbs (by omega)) ?_; rintro v ρ' L' hle ⟨rfl, hl1, w4, sp4, hown, rfl⟩ <;> (try simp only [kM, kN, kO]); have hρ := Hp.le_trans hρ hl1; clear hl1; obtain ⟨va, vc, rfl, _⟩ := hown.slice) | (refine Zj ?_; first | (refine Zf ?_; refine qQ ?_) | refine Zm ?_) | refine Za ?_ | (refine Zi ?_; refine Zt ?_) | (refine Zh ?_; refine Zs ?_) | intro _)
    refine ZC (Zq _ _ ([[(_, .cells ⟨stpV x⟩ 60 (0, 0))]])) (Zy (hT := tk) (Hp.le_refl _)) ?_
    all_goals (refine ZU 0 ?_; refine ZU 1 ?_; refine rNc 2 ?_; refine ZY 3 ?_; refine ZY 5 ?_; refine ZY 6 ?_; refine ZY 7 ?_; refine Yf 8 ?_)
    all_goals (refine Zp (i := 4) ?_; ((try refine Zk ?_); (first | (refine Ze (.func 215) ?_; refine Yi (Xw (.slice va (X ++ [tB x.kind] ++ [tB x.row.t]).length vc) (X ++ [tB x.kind] ++ [tB x.row.t]) sp4) (h := by repeat (first | exact YG | apply YQ)) (fun ρ2 hle2 hfz => ?_); obtain ⟨a1, c1, f1, hc1, hs1⟩ := hown.sIn hfz; cases f1; refine qC rfl rfl (put16_spec _ va _ vc _ hs1 x.row.id hsf.id (by (try simp only [List.length_append, List.length_cons, List.length_nil, List.length_map, ZJ]) <;> omega)) ?_; rintro v' ρ3 L3 hle3 ⟨rfl, sp5, hown, rfl⟩; simp only [List.cons_append, List.nil_append]; rw [hll2] at hown; obtain ⟨va, vc, rfl, _⟩ := hown.slice; have hρ := Hp.le_trans hρ hle2) | (refine Zf ?_; refine qQ ?_) | (refine Zm ?_; try intro _)) <;> ((try simp only [kM, kN, kO]); refine Za ?_; refine Zl ?_)))
    all_goals (refine Zp (i := 9) ?_; ((try refine Zk ?_); (first | (refine Ze (.func 215) ?_; refine Yi (Xw (.slice va (X ++ [tB x.kind] ++ [tB x.row.t]).length vc) (X ++ [tB x.kind] ++ [tB x.row.t]) sp4) (h := by repeat (first | exact YG | apply YQ)) (fun ρ2 hle2 hfz => ?_); obtain ⟨a1, c1, f1, hc1, hs1⟩ := hown.sIn hfz; cases f1; refine qC rfl rfl (put16_spec _ va _ vc _ hs1 x.row.id hsf.id (by (try simp only [List.length_append, List.length_cons, List.length_nil, List.length_map, ZJ]) <;> omega)) ?_; rintro v' ρ3 L3 hle3 ⟨rfl, sp5, hown, rfl⟩; simp only [List.cons_append, List.nil_append]; rw [hll2] at hown; obtain ⟨va, vc, rfl, _⟩ := hown.slice; have hρ := Hp.le_trans hρ hle2) | (refine Zf ?_; refine qQ ?_) | (refine Zm ?_; try intro _)) <;> ((try simp only [kM, kN, kO]); refine Za ?_; refine Zl ?_)))
    all_goals (refine rNc 10 ?_; refine ZY 11 ?_)
    all_goals (refine Zp (i := 12) ?_; ((try refine Zk ?_); (first | (refine Zf ?_; refine qQ ?_) | (refine Zm ?_; try intro _)) <;> ((try simp only [kM, kN, kO]); refine Za ?_; refine Zl ?_)))
    all_goals refine ZH ?_
    all_goals (repeat' (first | (simp only [vN_eq]; refine Zz rfl rfl rfl rfl (by simp) rfl rfl (fun bs => ?_); refine Yi _ (h := Rem.here) (fun ρz hlz hfz => ?_); have hbs := hfz _ (List.mem_singleton.2 rfl); clear hfz; have hρ := Hp.le_trans hρ hlz; clear hlz; (try simp only [List.nil_append])) | (refine Ze (.func 193) ?_; refine qC rfl rfl (wlong_spec _ wb v r _ _ sp5 hown (by (try simp only [List.length_append, List.length_cons, List.length_nil, List.length_map, ZJ]) <;> omega) _ (vN x.by') hbs hvl) ?_; rintro v ρ' L' hle ⟨rfl, hl1, w6, sp6, hown, rfl⟩ <;> (try simp only [kM, kN, kO]); have hρ := Hp.le_trans hρ hl1; clear hl1; obtain ⟨va, vc, rfl, _⟩ := hown.slice) | (refine Zj ?_; first | (refine Zf ?_; refine qQ ?_) | refine Zm ?_) | refine Za ?_ | (refine Zi ?_; refine Zt ?_) | (refine Zh ?_; refine Zs ?_) | intro _))
    all_goals rw [← e1]
    all_goals have e2 : X ++ [tB x.kind] ++ [tB x.row.t] ++ be 2 x.row.id ++ be 8 (vN x.by') = B ++ (r.steps.take (k + 1)).flatMap stpB := by rw [← hmm, hst]; simp
    all_goals rw [e2] at hown ⊢
    all_goals refine Zr (k + 1, _, _, sp6) (⟨hlt, Hp.le_trans hle1 hρ, hown⟩) Zo Zo rfl tk inferInstance (by first | omega | (dsimp only; omega))
   ·rw [if_neg (by omega)] at hst
    repeat' (first | (refine Zz rfl rfl rfl rfl (by simp) rfl rfl (fun bs => ?_); refine Yi _ (h := Rem.here) (fun ρz hlz hfz => ?_); have hbs := hfz _ (List.mem_singleton.2 rfl); clear hfz; have hρ := Hp.le_trans hρ hlz; clear hlz; (try simp only [List.nil_append])) | (refine Ze (.func 192) ?_; refine qC rfl rfl (YL _ wb v r w2 X sp2 hown (by omega) _ x.kind hbs (by omega)) ?_; rintro v ρ' L' hle ⟨rfl, hl1, w3, sp3, hown, rfl⟩ <;> (try simp only [kM, kN, kO]); have hρ := Hp.le_trans hρ hl1; clear hl1; obtain ⟨va, vc, rfl, _⟩ := hown.slice) | (refine Ze (.func 192) ?_; refine qC rfl rfl (YL _ wb v r _ _ sp3 hown (by (try simp only [List.length_append, List.length_cons, List.length_nil, List.length_map, ZJ]) <;> omega) _ x.row.t hbs (by omega)) ?_; rintro v ρ' L' hle ⟨rfl, hl1, w4, sp4, hown, rfl⟩ <;> (try simp only [kM, kN, kO]); have hρ := Hp.le_trans hρ hl1; clear hl1; obtain ⟨va, vc, rfl, _⟩ := hown.slice) | (refine Zj ?_; first | (refine Zf ?_; refine qQ ?_) | refine Zm ?_) | refine Za ?_ | (refine Zi ?_; refine Zt ?_) | (refine Zh ?_; refine Zs ?_) | intro _)
    refine ZC (Zq _ _ ([[(_, .cells ⟨stpV x⟩ 60 (0, 0))]])) (Zy (hT := tk) (Hp.le_refl _)) ?_
    all_goals (refine ZU 0 ?_; refine ZU 1 ?_; refine rNc 2 ?_; refine ZY 3 ?_; refine ZY 5 ?_; refine ZY 6 ?_; refine ZY 7 ?_; refine Yf 8 ?_)
    all_goals (refine Zp (i := 4) ?_; ((try refine Zk ?_); (first | (refine Ze (.func 215) ?_; refine Yi (Xw (.slice va (X ++ [tB x.kind] ++ [tB x.row.t]).length vc) (X ++ [tB x.kind] ++ [tB x.row.t]) sp4) (h := by repeat (first | exact YG | apply YQ)) (fun ρ2 hle2 hfz => ?_); obtain ⟨a1, c1, f1, hc1, hs1⟩ := hown.sIn hfz; cases f1; refine qC rfl rfl (put16_spec _ va _ vc _ hs1 x.row.id hsf.id (by (try simp only [List.length_append, List.length_cons, List.length_nil, List.length_map, ZJ]) <;> omega)) ?_; rintro v' ρ3 L3 hle3 ⟨rfl, sp5, hown, rfl⟩; simp only [List.cons_append, List.nil_append]; rw [hll2] at hown; obtain ⟨va, vc, rfl, _⟩ := hown.slice; have hρ := Hp.le_trans hρ hle2) | (refine Zf ?_; refine qQ ?_) | (refine Zm ?_; try intro _)) <;> ((try simp only [kM, kN, kO]); refine Za ?_; refine Zl ?_)))
    all_goals (refine Zp (i := 9) ?_; ((try refine Zk ?_); (first | (refine Ze (.func 215) ?_; refine Yi (Xw (.slice va (X ++ [tB x.kind] ++ [tB x.row.t]).length vc) (X ++ [tB x.kind] ++ [tB x.row.t]) sp4) (h := by repeat (first | exact YG | apply YQ)) (fun ρ2 hle2 hfz => ?_); obtain ⟨a1, c1, f1, hc1, hs1⟩ := hown.sIn hfz; cases f1; refine qC rfl rfl (put16_spec _ va _ vc _ hs1 x.row.id hsf.id (by (try simp only [List.length_append, List.length_cons, List.length_nil, List.length_map, ZJ]) <;> omega)) ?_; rintro v' ρ3 L3 hle3 ⟨rfl, sp5, hown, rfl⟩; simp only [List.cons_append, List.nil_append]; rw [hll2] at hown; obtain ⟨va, vc, rfl, _⟩ := hown.slice; have hρ := Hp.le_trans hρ hle2) | (refine Zf ?_; refine qQ ?_) | (refine Zm ?_; try intro _)) <;> ((try simp only [kM, kN, kO]); refine Za ?_; refine Zl ?_)))
    all_goals (refine rNc 10 ?_; refine ZY 11 ?_)
    all_goals (refine Zp (i := 12) ?_; ((try refine Zk ?_); (first | (refine Zf ?_; refine qQ ?_) | (refine Zm ?_; try intro _)) <;> ((try simp only [kM, kN, kO]); refine Za ?_; refine Zl ?_)))
    all_goals refine ZH ?_
    all_goals (repeat' (first | (refine Zj ?_; first | (refine Zf ?_; refine qQ ?_) | refine Zm ?_) | refine Za ?_ | (refine Zi ?_; refine Zt ?_) | (refine Zh ?_; refine Zs ?_) | intro _))
    all_goals rw [← e1]
    all_goals have e2 : X ++ [tB x.kind] ++ [tB x.row.t] ++ be 2 x.row.id = B ++ (r.steps.take (k + 1)).flatMap stpB := by rw [← hmm, hst]; simp
    all_goals rw [e2] at hown ⊢
    all_goals refine Zr (k + 1, _, _, sp5) (⟨hlt, Hp.le_trans hle1 hρ, hown⟩) Zo Zo rfl tk inferInstance (by first | omega | (dsimp only; omega))
 ·rw [show r.steps.take k = r.steps by rw [show k = r.steps.length by omega, List.take_length], hfin] at hown ⊢
  repeat' (first | (refine Zj ?_; first | (refine Zf ?_; refine qQ ?_) | refine Zm ?_) | refine Za ?_ | (refine Zi ?_; refine Zt ?_) | (refine Zh ?_; refine Zs ?_) | intro _)
  exact qE ⟨rfl, hle1, w2, sp2, hown, rfl⟩
theorem wckpt_spec (ρ : Hp) (wb : Nat) (v : RV) (r : Rc) (w : Value) (l : List UInt8) (sp : List Value) (hown : OwnB w l sp) (hn : l.length ≤ 70000) (h : RcIn ρ v r) (hL : LayOk r) :
  Spec Tryz.prog 199 [.pointer (some ⟨wb, 0, none⟩)] ρ [Xw w l sp, wrC wb v r w] (WrP ρ wb v r (l ++ (be 4 r.nextTxn.toNat ++ (XC ckTB r.txns ++ XC ckPB r.dirty)))) := by
 have hρ := Hp.le_refl ρ
 have hA := h.t.at'
 have hl := hA.len
 have hA2 := h.d.at'
 have hl2 := hA2.len
 have hil := hL.tl
 have hil2 := hL.dl
 refine Zg Tryz.func199 rfl rfl rfl fun u R => ?_
 simp only [Zx, List.cons_append, List.nil_append]
 repeat' (first | (refine Zz rfl rfl rfl rfl (by simp) rfl rfl (fun bs => ?_); refine Yi _ (h := Rem.here) (fun ρz hlz hfz => ?_); have hbs := hfz _ (List.mem_singleton.2 rfl); clear hfz; have hρ := Hp.le_trans hρ hlz; clear hlz; (try simp only [List.nil_append])) | (refine Ze (.func 194) ?_; refine qC rfl rfl (wtxn_spec _ wb v r w l sp hown (by omega) r.nextTxn hL.nextTxn) ?_; rintro v ρ' L' hle ⟨rfl, hl1, w0, sp0, hown, rfl⟩ <;> (try simp only [kM, kN, kO]); have hρ := Hp.le_trans hρ hl1; clear hl1) | (refine Ze (.func 192) ?_; refine qC rfl rfl (YL _ wb v r w0 _ sp0 hown (by (try simp only [List.length_append, List.length_cons, List.length_nil, List.length_map, ZJ]) <;> omega) _ (v.t.n : Int) hbs (by omega)) ?_; rintro v ρ' L' hle ⟨rfl, hl1, w1, sp1, hown, rfl⟩ <;> (try simp only [kM, kN, kO]); have hρ := Hp.le_trans hρ hl1; clear hl1) | (refine ZE ?_; refine Zn (Zd rfl) rfl rfl ?_) | (refine Zj ?_; first | (refine Zf ?_; refine qQ ?_) | refine Zm ?_) | refine Za ?_ | (refine Zi ?_; refine Zt ?_) | (refine Zh ?_; refine Zs ?_) | intro _)
 obtain ⟨B, hB⟩ : ∃ B, l ++ be 4 r.nextTxn.toNat ++ [tB (v.t.n : Int)] = B := ⟨_, rfl⟩
 rw [hB] at hown ⊢
 have hBl : B.length ≤ 80001 := by rw [← hB]; simp [ZJ]; omega
 have hfin : B ++ r.txns.flatMap ckTB = l ++ (be 4 r.nextTxn.toNat ++ XC ckTB r.txns) := by rw [← hB]; simp [XC, hl, tB]
 rw [show Xw w1 B sp1 = Xw w1 (B ++ (r.txns.take 0).flatMap ckTB) sp1 by simp]
 refine ZG [(0, _), (26, _), (27, _)] (fun (ζ : (Nat) × (Hp) × (Value) × (List Value)) => [(28, .int .i64 ζ.1)]) (fun (ζ : (Nat) × (Hp) × (Value) × (List Value)) => ζ.2.1) (fun (ζ : (Nat) × (Hp) × (Value) × (List Value)) => [Xw ζ.2.2.1 (B ++ (r.txns.take ζ.1).flatMap ckTB) ζ.2.2.2, wrC wb v r ζ.2.2.1]) (fun (ζ : (Nat) × (Hp) × (Value) × (List Value)) => ζ.1 ≤ v.t.n ∧ ρ.le ζ.2.1 ∧ OwnB ζ.2.2.1 (B ++ (r.txns.take ζ.1).flatMap ckTB) ζ.2.2.2) (fun (ζ : (Nat) × (Hp) × (Value) × (List Value)) => v.t.n - ζ.1) ((0, ρ', w1, sp1)) (⟨Nat.zero_le _, hρ, by simpa using hown⟩) Zo Zo rfl tk ?_
 rintro ⟨k, ρ1, w2, sp2⟩ hI
 try simp only [List.cons_append, List.nil_append, List.append_assoc, List.append_eq] at hI ⊢
 try dsimp only at hI ⊢
 obtain ⟨hk, hle1, hown⟩ := hI
 clear hρ
 by_cases hlt : k < v.t.n
 ·obtain ⟨b, off, C, T, fr, e1, hbb, hfit, hcc⟩ := (hA.mono hle1).get (show k < r.txns.length by omega)
  have hts := flatMap_app ckTB r.txns k (by omega)
  have hmem := List.getElem_mem (show k < r.txns.length by omega)
  obtain ⟨g1, g2, g3, g4, g5⟩ := hL.tx _ hmem
  have hfl := YB ckTB 29 (r.txns.take k) (fun x _ => Nat.le_of_eq (ckTB_len x))
  have htl : (r.txns.take k).length ≤ 8 := by simp; omega
  generalize r.txns[k]'(by omega) = x at *
  have hxl : (B ++ (r.txns.take k).flatMap ckTB).length ≤ 83000 := by simp only [List.length_append]; omega
  have hmm : B ++ (r.txns.take k).flatMap ckTB ++ ckTB x = B ++ (r.txns.take (k + 1)).flatMap ckTB := by rw [hts]; simp
  generalize hX : B ++ (r.txns.take k).flatMap ckTB = X at *
  have hρ := Hp.le_refl ρ1
  rw [e1]
  repeat' (first | (refine Zz rfl rfl rfl rfl (by simp) rfl rfl (fun bs => ?_); refine Yi _ (h := Rem.here) (fun ρz hlz hfz => ?_); have hbs := hfz _ (List.mem_singleton.2 rfl); clear hfz; have hρ := Hp.le_trans hρ hlz; clear hlz; (try simp only [List.nil_append])) | (refine Ze (.func 194) ?_; refine qC rfl rfl (wtxn_spec _ wb v r w2 X sp2 hown (by omega) x.txn g1) ?_; rintro v ρ' L' hle ⟨rfl, hl1, w3, sp3, hown, rfl⟩ <;> (try simp only [kM, kN, kO]); have hρ := Hp.le_trans hρ hl1; clear hl1) | (refine Ze (.func 193) ?_; refine qC rfl rfl (wlong3_spec _ wb v r w3 _ sp3 hown (by (try simp only [List.length_append, List.length_cons, List.length_nil, List.length_map, ZJ]) <;> omega) _ x.first x.last x.undo hbs g2 g3 g4) ?_; rintro v ρ' L' hle ⟨rfl, hl1, w4, sp4, hown, rfl⟩ <;> (try simp only [kM, kN, kO]); have hρ := Hp.le_trans hρ hl1; clear hl1) | (refine Ze (.func 192) ?_; refine qC rfl rfl (YL _ wb v r w4 _ sp4 hown (by (try simp only [List.length_append, List.length_cons, List.length_nil, List.length_map, ZJ]) <;> omega) _ x.state hbs g5) ?_; rintro v ρ' L' hle ⟨rfl, hl1, w5, sp5, hown, rfl⟩ <;> (try simp only [kM, kN, kO]); have hρ := Hp.le_trans hρ hl1; clear hl1) | (refine ZE ?_; refine Zn (Zd rfl) rfl rfl ?_) | (refine Zj ?_; first | (refine Zf ?_; refine qQ ?_) | refine Zm ?_) | refine Za ?_ | (refine Zi ?_; refine Zt ?_) | (refine Zh ?_; refine Zs ?_) | intro _)
  rw [← e1]
  have e2 : X ++ be 4 x.txn.toNat ++ (be 8 x.first ++ (be 8 x.last ++ be 8 x.undo)) ++ [tB x.state] = B ++ (r.txns.take (k + 1)).flatMap ckTB := by rw [← hmm]; simp [ckTB]
  rw [e2] at hown ⊢
  refine Zr (k + 1, _, w5, sp5) (⟨hlt, Hp.le_trans hle1 hρ, hown⟩) Zo Zo rfl tk inferInstance (by first | omega | (dsimp only; omega))
 ·rw [show r.txns.take k = r.txns by rw [show k = r.txns.length by omega, List.take_length], hfin] at hown ⊢
  have hρ := hle1
  obtain ⟨B2, hB2⟩ : ∃ B2, l ++ (be 4 r.nextTxn.toNat ++ XC ckTB r.txns) = B2 := ⟨_, rfl⟩
  have hlT : (XC ckTB r.txns).length ≤ 300 := by
   have := YB ckTB 29 r.txns (fun x _ => Nat.le_of_eq (ckTB_len x))
   unfold XC; rw [List.length_cons]; omega
  have hB2l : B2.length ≤ 71000 := by rw [← hB2]; simp [ZJ]; omega
  rw [hB2] at hown ⊢
  repeat' (first | (refine Zz rfl rfl rfl rfl (by simp) rfl rfl (fun bs => ?_); refine Yi _ (h := Rem.here) (fun ρz hlz hfz => ?_); have hbs := hfz _ (List.mem_singleton.2 rfl); clear hfz; have hρ := Hp.le_trans hρ hlz; clear hlz; (try simp only [List.nil_append])) | (refine Ze (.func 192) ?_; refine qC rfl rfl (YL _ wb v r w2 B2 sp2 hown (by omega) _ (v.d.n : Int) hbs (by omega)) ?_; rintro v ρ' L' hle ⟨rfl, hl1, w1, sp1, hown, rfl⟩ <;> (try simp only [kM, kN, kO]); have hρ := Hp.le_trans hρ hl1; clear hl1) | (refine ZE ?_; refine Zn (Zd rfl) rfl rfl ?_) | (refine Zj ?_; first | (refine Zf ?_; refine qQ ?_) | refine Zm ?_) | refine Za ?_ | (refine Zi ?_; refine Zt ?_) | (refine Zh ?_; refine Zs ?_) | intro _)
  obtain ⟨B3, hB3⟩ : ∃ B3, B2 ++ [tB (v.d.n : Int)] = B3 := ⟨_, rfl⟩
  rw [hB3] at hown ⊢
  have hBl3 : B3.length ≤ 80001 := by rw [← hB3]; simp; omega
  have hfin3 : B3 ++ r.dirty.flatMap ckPB = l ++ (be 4 r.nextTxn.toNat ++ (XC ckTB r.txns ++ XC ckPB r.dirty)) := by rw [← hB3, ← hB2]; simp [XC, hl2, tB]
  rw [show Xw w1 B3 sp1 = Xw w1 (B3 ++ (r.dirty.take 0).flatMap ckPB) sp1 by simp]
  refine ZG [(0, _), (64, _), (65, _)] (fun (ζ : (Nat) × (Hp) × (Value) × (List Value)) => [(66, .int .i64 ζ.1)]) (fun (ζ : (Nat) × (Hp) × (Value) × (List Value)) => ζ.2.1) (fun (ζ : (Nat) × (Hp) × (Value) × (List Value)) => [Xw ζ.2.2.1 (B3 ++ (r.dirty.take ζ.1).flatMap ckPB) ζ.2.2.2, wrC wb v r ζ.2.2.1]) (fun (ζ : (Nat) × (Hp) × (Value) × (List Value)) => ζ.1 ≤ v.d.n ∧ ρ.le ζ.2.1 ∧ OwnB ζ.2.2.1 (B3 ++ (r.dirty.take ζ.1).flatMap ckPB) ζ.2.2.2) (fun (ζ : (Nat) × (Hp) × (Value) × (List Value)) => v.d.n - ζ.1) ((0, ρ', w1, sp1)) (⟨Nat.zero_le _, hρ, by simpa using hown⟩) Zo Zo rfl tk ?_
  rintro ⟨j, ρ2, w3, sp3⟩ hI
  try simp only [List.cons_append, List.nil_append, List.append_assoc, List.append_eq] at hI ⊢
  try dsimp only at hI ⊢
  obtain ⟨hj, hle2, hown⟩ := hI
  clear hρ
  by_cases hlj : j < v.d.n
  ·obtain ⟨b, off, C, T, fr, e1, hbb, hfit, hcc⟩ := (hA2.mono hle2).get (show j < r.dirty.length by omega)
   have hts := flatMap_app ckPB r.dirty j (by omega)
   have hmem := List.getElem_mem (show j < r.dirty.length by omega)
   obtain ⟨g1, g2⟩ := hL.di _ hmem
   have hfl := YB ckPB 9 (r.dirty.take j) (fun x _ => Nat.le_of_eq (ckPB_len x))
   have htl : (r.dirty.take j).length ≤ 64 := by simp; omega
   generalize r.dirty[j]'(by omega) = x at *
   have hxl : (B3 ++ (r.dirty.take j).flatMap ckPB).length ≤ 83000 := by simp only [List.length_append]; omega
   have hmm : B3 ++ (r.dirty.take j).flatMap ckPB ++ ckPB x = B3 ++ (r.dirty.take (j + 1)).flatMap ckPB := by rw [hts]; simp
   generalize hX : B3 ++ (r.dirty.take j).flatMap ckPB = X at *
   have hρ := Hp.le_refl ρ2
   rw [e1]
   repeat' (first | (refine Zz rfl rfl rfl rfl (by simp) rfl rfl (fun bs => ?_); refine Yi _ (h := Rem.here) (fun ρz hlz hfz => ?_); have hbs := hfz _ (List.mem_singleton.2 rfl); clear hfz; have hρ := Hp.le_trans hρ hlz; clear hlz; (try simp only [List.nil_append])) | (refine Ze (.func 192) ?_; refine qC rfl rfl (YL _ wb v r w3 X sp3 hown (by omega) _ x.page hbs (by omega)) ?_; rintro v ρ' L' hle ⟨rfl, hl1, w4, sp4, hown, rfl⟩ <;> (try simp only [kM, kN, kO]); have hρ := Hp.le_trans hρ hl1; clear hl1) | (refine Ze (.func 193) ?_; refine qC rfl rfl (wlong_spec _ wb v r w4 _ sp4 hown (by (try simp only [List.length_append, List.length_cons, List.length_nil, List.length_map, ZJ]) <;> omega) _ x.since hbs g2) ?_; rintro v ρ' L' hle ⟨rfl, hl1, w5, sp5, hown, rfl⟩ <;> (try simp only [kM, kN, kO]); have hρ := Hp.le_trans hρ hl1; clear hl1) | (refine ZE ?_; refine Zn (Zd rfl) rfl rfl ?_) | (refine Zj ?_; first | (refine Zf ?_; refine qQ ?_) | refine Zm ?_) | refine Za ?_ | (refine Zi ?_; refine Zt ?_) | (refine Zh ?_; refine Zs ?_) | intro _)
   rw [← e1]
   have e2 : X ++ [tB x.page] ++ be 8 x.since = B3 ++ (r.dirty.take (j + 1)).flatMap ckPB := by rw [← hmm]; simp [ckPB]
   rw [e2] at hown ⊢
   refine Zr (j + 1, _, w5, sp5) (⟨hlj, Hp.le_trans hle2 hρ, hown⟩) Zo Zo rfl tk inferInstance (by first | omega | (dsimp only; omega))
  ·rw [show r.dirty.take j = r.dirty by rw [show j = r.dirty.length by omega, List.take_length], hfin3] at hown ⊢
   repeat' (first | (refine ZE ?_; refine Zn (Zd rfl) rfl rfl ?_) | (refine Zj ?_; first | (refine Zf ?_; refine qQ ?_) | refine Zm ?_) | refine Za ?_ | (refine Zi ?_; refine Zt ?_) | (refine Zh ?_; refine Zs ?_) | intro _)
   exact qE ⟨rfl, hle2, w3, sp3, hown, rfl⟩
def layF (k : Int) : Nat := if k = 2 then 195 else if k = 3 then 196 else if k = 4 then 197 else if k = 5 then 198 else 199
theorem lay_spec (wb : Nat) (v : RV) (r : Rc) (hL : LayOk r) (hk : r.kind = 2 ∨ r.kind = 3 ∨ r.kind = 4 ∨ r.kind = 5 ∨ r.kind = 9) : Fun Tryz.prog (layF r.kind) ∧ ∀ (ρ : Hp) (w : Value) (l : List UInt8) (sp : List Value), OwnB w l sp → l.length ≤ 60000 → RcIn ρ v r →
  Spec Tryz.prog (layF r.kind) [.pointer (some ⟨wb, 0, none⟩)] ρ [Xw w l sp, wrC wb v r w] (WrP ρ wb v r (l ++ recTB r)) := by
 unfold layF recTB
 rcases hk with e | e | e | e | e
 ·rw [if_pos e, if_pos e]
  exact ⟨inferInstance, fun ρ w l sp hown hn h => wimages_spec ρ wb v r w l sp hown (by omega) h hL⟩
 ·rw [if_neg (by omega), if_pos e, if_neg (by omega), if_pos e]
  exact ⟨inferInstance, fun ρ w l sp hown hn h => wnested_spec ρ wb v r w l sp hown (by omega) hL.next⟩
 ·rw [if_neg (by omega), if_neg (by omega), if_pos e, if_neg (by omega), if_neg (by omega), if_pos e]
  exact ⟨inferInstance, fun ρ w l sp hown hn h => wdone_spec ρ wb v r w l sp hown (by omega) h hL⟩
 ·rw [if_neg (by omega), if_neg (by omega), if_neg (by omega), if_pos e, if_neg (by omega), if_neg (by omega), if_neg (by omega), if_pos e]
  exact ⟨inferInstance, fun ρ w l sp hown hn h => wundone_spec ρ wb v r w l sp hown (by omega) h hL⟩
 ·rw [if_neg (by omega), if_neg (by omega), if_neg (by omega), if_neg (by omega), if_neg (by omega), if_neg (by omega), if_neg (by omega), if_neg (by omega), if_pos e]
  exact ⟨inferInstance, fun ρ w l sp hown hn h => wckpt_spec ρ wb v r w l sp hown (by omega) h hL⟩
theorem layF_chain {f : Nat → Option Value} {k : Int} (hk : k = 2 ∨ k = 3 ∨ k = 4 ∨ k = 5 ∨ k = 9) : (if k = 9 then f 199 else if k = 5 then f 198 else if k = 4 then f 197 else if k = 3 then f 196 else if k = 2 then f 195 else none) = f (layF k) := by
 unfold layF
 rcases hk with e | e | e | e | e <;> subst e <;> rfl
theorem recTB_none {r : Rc} (hk : ¬ (r.kind = 2 ∨ r.kind = 3 ∨ r.kind = 4 ∨ r.kind = 5 ∨ r.kind = 9)) : recTB r = [] := by
 unfold recTB
 rw [if_neg (by omega), if_neg (by omega), if_neg (by omega), if_neg (by omega), if_neg (by omega)]
theorem rlaid_spec (ρ : Hp) (v : RV) (r : Rc) (h : RcIn ρ v r) (hL : LayOk r) : Spec Tryz.prog 176 [.agg ⟨recV v r⟩] ρ []
  (fun z ρ' L' => ρ.le ρ' ∧ ∃ a c, z = .slice a (recB r).length c ∧ (recB r).length ≤ c ∧ SIn ρ' u8c a (recB r).length (recB r) ∧ L' = []) := by
 have hρ := Hp.le_refl ρ
 have hnil : YW .i64 [] := by intro e he; simp at he
 have hg0 : ∀ k : Int, Xh [] k = none := fun _ => rfl
 have k1 := hL.kind
 have k2 := hL.lsn
 have k3 := hL.txn
 have k4 := hL.prev
 refine Zg Tryz.func176 rfl rfl rfl fun u R => ?_
 simp only [Zx, List.cons_append, List.nil_append]
 repeat' (first | (refine Zz rfl rfl rfl rfl (by simp) rfl rfl (fun bs => ?_); refine Yi _ (h := Rem.here) (fun ρz hlz hfz => ?_); have hbs := hfz _ (List.mem_singleton.2 rfl); clear hfz; have hρ := Hp.le_trans hρ hlz; clear hlz; (try simp only [List.nil_append])) | (rename_i rb wb; refine Ze (.func 192) ?_; refine tl_call rfl rfl (YL _ _ v r (.slice none 0 0) [] [] (OwnS.nil 1) (by decide) _ r.kind hbs k1) (take_cons' rem_nil' (take_cons' YG take_nil')) rfl ?_; rintro z1 ρ1 L1 hle0 ⟨rfl, hl1, w1, sp1, hown, rfl⟩; simp only [List.cons_append, List.nil_append] at hown ⊢; have hρ := Hp.le_trans hρ hl1; clear hl1) | (refine Ze (.func 193) ?_; refine qC rfl rfl ((wlong_spec _ _ v r w1 _ sp1 hown (by (try simp only [List.length_append, List.length_cons, List.length_nil, List.length_map, ZJ]) <;> omega) _ r.lsn hbs k2)) ?_; rintro v ρ' L' hle ⟨rfl, hl1, w2, sp2, hown, rfl⟩ <;> (try simp only [kM, kN, kO]); have hρ := Hp.le_trans hρ hl1; clear hl1) | (refine Ze (.func 194) ?_; refine qC rfl rfl ((wtxn_spec _ _ v r w2 _ sp2 hown (by (try simp only [List.length_append, List.length_cons, List.length_nil, List.length_map, ZJ]) <;> omega) r.txn k3)) ?_; rintro v ρ' L' hle ⟨rfl, hl1, w3, sp3, hown, rfl⟩ <;> (try simp only [kM, kN, kO]); have hρ := Hp.le_trans hρ hl1; clear hl1) | (refine Ze (.func 193) ?_; refine qC rfl rfl ((wlong_spec _ _ v r w3 _ sp3 hown (by (try simp only [List.length_append, List.length_cons, List.length_nil, List.length_map, ZJ]) <;> omega) _ r.prev hbs k4)) ?_; rintro v ρ' L' hle ⟨rfl, hl1, w4, sp4, hown, rfl⟩ <;> (try simp only [kM, kN, kO]); have hρ := Hp.le_trans hρ hl1; clear hl1) | (refine ZX rfl rfl rfl hnil (fun es1 ck1 i1 j1 => ?_)) | (refine ZX rfl rfl rfl i1 (fun es2 ck2 i2 j2 => ?_)) | (refine ZX rfl rfl rfl i2 (fun es3 ck3 i3 j3 => ?_)) | (refine ZX rfl rfl rfl i3 (fun es4 ck4 i4 j4 => ?_)) | (refine ZE ?_; refine Zn (Zd rfl) rfl rfl ?_) | (refine Zj ?_; first | (refine Zf ?_; refine qQ ?_) | refine Zm ?_) | refine Za ?_ | (refine Zi ?_; refine Zt ?_) | (refine Zh ?_; refine Zs ?_) | intro _)
 rename_i mb
 refine ZX rfl rfl rfl i4 (fun es5 ck5 i5 j5 => ?_)
 have hg := j5 r.kind
 rw [j4, j3, j2, j1, hg0] at hg
 clear j1 j2 j3 j4 j5 i1 i2 i3 i4
 have hH : tB r.kind :: (be 8 r.lsn ++ be 4 r.txn.toNat ++ be 8 r.prev) = recHB r := by simp [recHB]
 have hHl : (recHB r).length ≤ 100 := by simp [recHB, ZJ]
 simp only [List.cons_append, List.nil_append, hH] at hown ⊢
 by_cases hk : r.kind = 2 ∨ r.kind = 3 ∨ r.kind = 4 ∨ r.kind = 5 ∨ r.kind = 9
 ·obtain ⟨hF, hS⟩ := lay_spec wb v r hL hk
  have hS := fun ρ (hle : Hp.le _ ρ) => hS ρ w4 _ sp4 hown (by omega) (h.mono hle)
  have hgF : Xh es5 r.kind = some (Value.func (.func (layF r.kind)) ⟨[.pointer (some ⟨wb, 0, none⟩)]⟩ ⟨[]⟩) := by
   rw [hg]
   exact layF_chain (f := fun F => some (Value.func (.func F) ⟨[.pointer (some ⟨wb, 0, none⟩)]⟩ ⟨[]⟩)) hk
  clear hg
  generalize layF r.kind = F at *
  repeat' (first | (refine Ze (.tmp 46) ?_; refine qC rfl rfl (hS _ hρ) ?_; rintro v ρ' L' hle ⟨rfl, hl1, w5, sp5, hown, rfl⟩ <;> (try simp only [kM, kN, kO]); have hρ := Hp.le_trans hρ hl1; clear hl1) | (refine ZE ?_; refine Zn (Zd rfl) rfl rfl ?_) | (refine Zj ?_; first | (refine Zf ?_; refine qQ ?_) | refine Zm ?_) | refine Za ?_ | (refine Zi ?_; refine Zt ?_) | (refine Zh ?_; refine Zs ?_) | intro _)
  have hB : recHB r ++ recTB r = recB r := rfl
  rw [hB] at hown ⊢
  obtain ⟨va, vc, rfl, _⟩ := hown.slice
  repeat' (first | (refine ZE ?_; refine Zn (Zd rfl) rfl rfl ?_) | (refine Zj ?_; first | (refine Zf ?_; refine qQ ?_) | refine Zm ?_) | refine Za ?_ | (refine Zi ?_; refine Zt ?_) | (refine Zh ?_; refine Zs ?_) | intro _)
  refine te_freeze (Xw (.slice va (recB r).length vc) (recB r) sp5) (h := by repeat (first | exact YG | apply YQ)) (fun ρ6 hle6 hfz => ?_)
  obtain ⟨a6, c6, e6, hc6, hs6⟩ := hown.sIn hfz
  cases e6
  exact qE ⟨Hp.le_trans hρ hle6, va, vc, rfl, hc6, hs6, rfl⟩
 ·have hgN : Xh es5 r.kind = none := by
   rw [hg]
   simp only [show ¬ r.kind = 9 by omega, show ¬ r.kind = 5 by omega, show ¬ r.kind = 4 by omega, show ¬ r.kind = 3 by omega, show ¬ r.kind = 2 by omega, if_false]
  clear hg
  have hB : recHB r = recB r := by unfold recB; rw [recTB_none hk, List.append_nil]
  rw [hB] at hown ⊢
  obtain ⟨va, vc, rfl, _⟩ := hown.slice
  repeat' (first | (refine ZE ?_; refine Zn (Zd rfl) rfl rfl ?_) | (refine Zj ?_; first | (refine Zf ?_; refine qQ ?_) | refine Zm ?_) | refine Za ?_ | (refine Zi ?_; refine Zt ?_) | (refine Zh ?_; refine Zs ?_) | intro _)
  refine te_freeze (Xw (.slice va (recB r).length vc) (recB r) sp4) (h := by repeat (first | exact YG | apply YQ)) (fun ρ6 hle6 hfz => ?_)
  obtain ⟨a6, c6, e6, hc6, hs6⟩ := hown.sIn hfz
  cases e6
  exact qE ⟨Hp.le_trans hρ hle6, va, vc, rfl, hc6, hs6, rfl⟩
structure IdFit (c : Cont) : Prop where
 row : ∀ r ∈ c.rows, RowFit r
 kid : ∀ k ∈ c.kids, k.id < 65536
theorem contB_form {c : Cont} (h : YE c = true) : (c.kind = 0 ∧ c = ⟨0, [], []⟩ ∧ XD c = [0]) ∨ (c.kind = 1 ∧ c.kids = [] ∧ XD c = 1 :: (UInt8.ofNat c.rows.length :: c.rows.flatMap Yr)) ∨ (c.kind = 2 ∧ c.rows = [] ∧ XD c = 2 :: (UInt8.ofNat c.kids.length :: c.kids.flatMap XH)) := by
 have hF := (Xu h).kind
 obtain ⟨kind, rows, kids⟩ := c
 dsimp only at hF ⊢
 rcases hF with ⟨rfl, rfl, rfl⟩ | ⟨rfl, rfl⟩ | ⟨rfl, rfl, _⟩
 ·exact .inl ⟨rfl, rfl, by simp [XD, cntB]; rfl⟩
 ·exact .inr (.inl ⟨rfl, rfl, by simp [XD, cntB]; rfl⟩)
 ·exact .inr (.inr ⟨rfl, rfl, by simp [XD, cntB]; rfl⟩)
abbrev ztC : Cont := ⟨0, [], []⟩
abbrev nilCV : CV := ⟨none, 0, 0, none, 0, 0⟩
def zeroRc : Rc := ⟨0, 0, 0, 0, 0, [], [], 0, [], []⟩
abbrev Im.plain (x : Im) : Im := ⟨x.page, nilCV, x.b, nilCV, x.a⟩
abbrev Rc.plain (r : Rc) : Rc := { r with ims := r.ims.map Im.plain }
structure CkTF (t : CkT) : Prop where
 txn : 0 ≤ t.txn ∧ t.txn < 4294967296
 first : t.first < 18446744073709551616
 last : t.last < 18446744073709551616
 undo : t.undo < 18446744073709551616
 state : 0 ≤ t.state ∧ t.state < 256
structure CkPF (p : CkP) : Prop where
 page : 0 ≤ p.page ∧ p.page < 256
 since : p.since < 18446744073709551616
theorem up_all {α : Type} {right : α → Bool} {by' : α → Int} {l : List α} (h : upB right by' l l.length = true) : ∀ i (hi : i < l.length), right l[i] = true ∧ (i = 0 ∨ by' (l[i - 1]'(by omega)) < by' l[i]) := by
 intro i hi
 obtain ⟨h1, h2⟩ := (risesB_true h (Nat.le_refl _)).2 i hi hi
 refine ⟨h1, ?_⟩
 rcases h2 with h2 | h2
 ·exact .inl h2
 ·exact .inr (of_decide_eq_true h2)
theorem up_mem {α : Type} {right : α → Bool} {by' : α → Int} {l : List α} (h : upB right by' l l.length = true) : ∀ x ∈ l, right x = true := by
 intro x hx
 obtain ⟨i, hi, rfl⟩ := List.mem_iff_getElem.1 hx
 exact (up_all h i hi).1
theorem ckP_len {lsn : Nat} {l : List CkP} (h : upB (ckPOk lsn) CkP.page l l.length = true) : l.length ≤ 64 := by
 have hp : ∀ i (hi : i < l.length), 0 ≤ l[i].page ∧ l[i].page < 64 := fun i hi => by
  have := (up_all h i hi).1
  unfold ckPOk pageOk at this
  rw [Bool.and_eq_true, decide_eq_true_eq] at this
  exact this.1
 have hi : ∀ i (hi : i < l.length), (i : Int) ≤ l[i].page := by
  intro i
  induction i with
  | zero => intro hi; exact (hp 0 hi).1
  | succ i ih =>
   intro hi
   have h1 := ih (by omega)
   have h2 := (up_all h (i + 1) hi).2
   simp only [Nat.add_sub_cancel] at h2
   omega
 rcases Nat.lt_or_ge 64 l.length with hl | hl
 ·have := hi 64 hl
  have := hp 64 hl
  omega
 ·exact hl
structure RecOk (r : Rc) : Prop where
 kind : 1 ≤ r.kind ∧ r.kind ≤ 9
 lsn : 1 ≤ r.lsn ∧ r.lsn ≤ 1099511627776 ∧ r.prev < r.lsn
 txn : 0 ≤ r.txn ∧ r.txn ≤ 1073741824
 next : r.next ≤ r.lsn
 n0 : r.next = 0 ∨ r.kind = 3 ∨ r.kind = 4 ∨ r.kind = 5
 i0 : r.ims = [] ∨ r.kind = 2 ∨ r.kind = 5
 s0 : r.steps = [] ∨ r.kind = 4
 c0 : (r.txns = [] ∧ r.dirty = [] ∧ r.nextTxn = 0) ∨ r.kind = 9
 il : r.ims.length ≤ 16
 im : ∀ x ∈ r.ims, (0 ≤ x.page ∧ x.page < 64) ∧ YE x.a = true ∧ YE x.b = true
 i5 : r.kind = 5 → ∀ x ∈ r.ims, x.b = ztC
 sl : r.steps.length ≤ 2
 st : ∀ s ∈ r.steps, Yy s = true
 nt : 0 ≤ r.nextTxn ∧ r.nextTxn ≤ 1073741824
 tl : r.txns.length ≤ 8
 tx : ∀ t ∈ r.txns, ckTOk r.lsn r.nextTxn t = true
 dl : r.dirty.length ≤ 64
 di : ∀ p ∈ r.dirty, ckPOk r.lsn p = true
theorem ims_facts {b : Bool} {l : List Im} (h : imsOk b l = true) : l.length ≤ 16 ∧ (∀ x ∈ l, (0 ≤ x.page ∧ x.page < 64) ∧ YE x.a = true ∧ YE x.b = true) ∧ (b = false → ∀ x ∈ l, x.b = ztC) := by
 unfold imsOk at h
 rw [Bool.and_eq_true, decide_eq_true_eq] at h
 obtain ⟨h1, h2⟩ := h
 have h3 := up_mem h2
 have h4 : ∀ x ∈ l, (0 ≤ x.page ∧ x.page < 64) ∧ YE x.a = true ∧ YE x.b = true ∧ (b = true ∨ x.b.kind = 0) := fun x hx => by
  have := h3 x hx
  unfold imOk pageOk at this
  rw [Bool.and_eq_true, Bool.and_eq_true, Bool.and_eq_true, Bool.or_eq_true, decide_eq_true_eq, decide_eq_true_eq] at this
  exact this
 refine ⟨h1, fun x hx => ⟨(h4 x hx).1, (h4 x hx).2.1, (h4 x hx).2.2.1⟩, fun hb x hx => ?_⟩
 obtain ⟨_, _, g3, g4⟩ := h4 x hx
 have g5 : x.b.kind = 0 := by
  rcases g4 with g4 | g4
  ·rw [hb] at g4; cases g4
  ·exact g4
 rcases contB_form g3 with e | e | e
 ·exact e.2.1
 ·omega
 ·omega
theorem XZ {r : Rc} (h : Yp r = true) : RecOk r := by
 unfold Yp headOk bareOk at h
 rw [Bool.and_eq_true, Bool.and_eq_true, Bool.and_eq_true, decide_eq_true_eq, decide_eq_true_eq, decide_eq_true_eq] at h
 obtain ⟨hk, ⟨h1, h2, h3, h4, h5, h6, h7⟩, ha, b1, b2, b3, b4⟩ := h
 unfold askOk at ha
 obtain ⟨k, lsn, txn, prev, next, ims, steps, nt, txns, dirty⟩ := r
 dsimp only at *
 by_cases k2 : k = 2
 ·rw [if_pos k2, Bool.and_eq_true] at ha
  obtain ⟨f1, f2, f3⟩ := ims_facts ha.2
  obtain rfl : steps = [] := by rcases b3 with b3 | b3 <;> first | exact b3 | omega
  obtain ⟨rfl, rfl, rfl⟩ : txns = [] ∧ dirty = [] ∧ nt = 0 := by rcases b4 with b4 | b4 <;> first | exact b4 | omega
  exact ⟨hk, ⟨h1, h2, h3⟩, ⟨h4, h5⟩, by dsimp only; omega, b1, b2, b3, b4, f1, f2, fun e => by dsimp only at e; omega, by simp, by simp, by simp, by simp, by simp, by simp, by simp⟩
 ·rw [if_neg k2] at ha
  by_cases k3 : k = 3
  ·rw [if_pos k3, decide_eq_true_eq] at ha
   obtain rfl : ims = [] := by rcases b2 with b2 | b2 <;> first | exact b2 | omega
   obtain rfl : steps = [] := by rcases b3 with b3 | b3 <;> first | exact b3 | omega
   obtain ⟨rfl, rfl, rfl⟩ : txns = [] ∧ dirty = [] ∧ nt = 0 := by rcases b4 with b4 | b4 <;> first | exact b4 | omega
   exact ⟨hk, ⟨h1, h2, h3⟩, ⟨h4, h5⟩, by dsimp only; omega, b1, b2, b3, b4, by simp, by simp, by simp, by simp, by simp, by simp, by simp, by simp, by simp, by simp⟩
  ·rw [if_neg k3] at ha
   by_cases k4 : k = 4
   ·rw [if_pos k4, Bool.and_eq_true, Bool.and_eq_true, decide_eq_true_eq, decide_eq_true_eq] at ha
    obtain rfl : ims = [] := by rcases b2 with b2 | b2 <;> first | exact b2 | omega
    obtain ⟨rfl, rfl, rfl⟩ : txns = [] ∧ dirty = [] ∧ nt = 0 := by rcases b4 with b4 | b4 <;> first | exact b4 | omega
    exact ⟨hk, ⟨h1, h2, h3⟩, ⟨h4, h5⟩, by dsimp only; omega, b1, b2, b3, b4, by simp, by simp, by simp, ha.2.1.2, List.all_eq_true.1 ha.2.2, by simp, by simp, by simp, by simp, by simp⟩
   ·rw [if_neg k4] at ha
    by_cases k5 : k = 5
    ·rw [if_pos k5, Bool.and_eq_true, decide_eq_true_eq] at ha
     obtain ⟨f1, f2, f3⟩ := ims_facts ha.2
     obtain rfl : steps = [] := by rcases b3 with b3 | b3 <;> first | exact b3 | omega
     obtain ⟨rfl, rfl, rfl⟩ : txns = [] ∧ dirty = [] ∧ nt = 0 := by rcases b4 with b4 | b4 <;> first | exact b4 | omega
     exact ⟨hk, ⟨h1, h2, h3⟩, ⟨h4, h5⟩, by dsimp only; omega, b1, b2, b3, b4, f1, f2, fun _ => f3 rfl, by simp, by simp, by simp, by simp, by simp, by simp, by simp⟩
    ·rw [if_neg k5] at ha
     obtain rfl : ims = [] := by rcases b2 with b2 | b2 <;> first | exact b2 | omega
     obtain rfl : steps = [] := by rcases b3 with b3 | b3 <;> first | exact b3 | omega
     by_cases k9 : k = 9
     ·rw [if_pos k9, Bool.and_eq_true, Bool.and_eq_true, decide_eq_true_eq] at ha
      obtain ⟨⟨a1, a2, a3⟩, a4, a5⟩ := ha
      exact ⟨hk, ⟨h1, h2, h3⟩, ⟨h4, h5⟩, by dsimp only; omega, b1, b2, b3, b4, by simp, by simp, by simp, by simp, by simp, ⟨by dsimp only; omega, a2⟩, a3, up_mem a4, ckP_len a5, up_mem a5⟩
     ·obtain ⟨rfl, rfl, rfl⟩ : txns = [] ∧ dirty = [] ∧ nt = 0 := by rcases b4 with b4 | b4 <;> first | exact b4 | omega
      exact ⟨hk, ⟨h1, h2, h3⟩, ⟨h4, h5⟩, by dsimp only; omega, b1, b2, b3, b4, by simp, by simp, by simp, by simp, by simp, by simp, by simp, by simp, by simp, by simp⟩
theorem ckT_facts {lsn : Nat} {next : Int} {t : CkT} (h : ckTOk lsn next t = true) (hl : lsn ≤ 1099511627776) (hn : next ≤ 1073741824) : CkTF t := by
 unfold ckTOk at h
 rw [decide_eq_true_eq] at h
 obtain ⟨a1, a2, a3, a4, a5, a6, a7, a8⟩ := h
 exact ⟨by omega, by omega, by omega, by omega, by omega⟩
theorem ckP_facts {lsn : Nat} {p : CkP} (h : ckPOk lsn p = true) (hl : lsn ≤ 1099511627776) : CkPF p ∧ p.page < 64 := by
 unfold ckPOk pageOk at h
 rw [Bool.and_eq_true, decide_eq_true_eq, decide_eq_true_eq] at h
 obtain ⟨⟨a1, a2⟩, a3, a4⟩ := h
 exact ⟨⟨by omega, by omega⟩, by omega⟩
theorem recOk_lay {r : Rc} (h : Yp r = true) : LayOk r := by
 have f := XZ h
 have l1 := f.lsn
 have l2 := f.next
 have l3 := f.txn
 have l4 := f.nt
 have l5 := f.kind
 exact ⟨by omega, by omega, by omega, by omega, by omega, by omega, f.il, f.im, f.sl, f.st, f.tl, fun t ht => by
   have g := ckT_facts (f.tx t ht) l1.2.1 l4.2
   exact ⟨g.txn, g.first, g.last, g.undo, g.state.1, g.state.2⟩, f.dl, fun p hp => by
   obtain ⟨g, g2⟩ := ckP_facts (f.di p hp) l1.2.1
   exact ⟨⟨g.page.1, g2⟩, g.since⟩⟩
theorem ContFit.id' {c : Cont} (h : ContFit c) : IdFit c := ⟨h.row, fun k hk => (h.kid k hk).id⟩
def sectsB (n : Nat) : Nat := max 1 ((n + 51) / 52)
theorem rsects_spec (ρ : Hp) (n : Nat) (hn : n ≤ 4611686018427387904) : Spec Tryz.prog 175 [.int .i64 n] ρ [] (fun v ρ' L' => v = .int .i64 (sectsB n : Nat) ∧ ρ' = ρ ∧ L' = []) := by
 refine Zg Tryz.func175 rfl rfl rfl fun u R => ?_
 simp only [Zx, List.cons_append, List.nil_append]
 have e : max 1 (IntKind.i64.wrap (((n : Int) + 52 - 1).tdiv 52)) = ((sectsB n : Nat) : Int) := by
  rw [Int.tdiv_eq_ediv_of_nonneg (by omega), wrap_id (by simp only [lo, hi]; omega)]
  unfold sectsB; omega
 repeat' (first | (refine ZE ?_; refine Zn (Zd rfl) rfl rfl ?_) | (refine Zj ?_; first | (refine Zf ?_; refine qQ ?_) | refine Zm ?_) | refine Za ?_ | (refine Zi ?_; refine Zt ?_) | (refine Zh ?_; refine Zs ?_) | intro _)
 rw [e]
 exact qE ⟨rfl, rfl, rfl⟩
theorem listB_le {α : Type} (f : α → List UInt8) (m : Nat) (l : List α) (h : ∀ x ∈ l, (f x).length ≤ m) : (XC f l).length ≤ 1 + l.length * m := by
 have := YB f m l h
 unfold XC
 rw [List.length_cons]; omega
theorem recB_le {r : Rc} (h : LayOk r) : (recB r).length ≤ 4000 := by
 have h1 : (recHB r).length = 21 := by simp [recHB, ZJ]
 have h2 : (imsB r).length ≤ 1 + r.ims.length * 165 := listB_le _ 165 r.ims (fun x hx => imB_len (h.im x hx).2.1 (h.im x hx).2.2)
 have h3 : (XC stpB r.steps).length ≤ 1 + r.steps.length * 21 := listB_le _ 21 r.steps (fun x hx => stpB_len (h.st x hx))
 have h4 : (XC ckTB r.txns).length ≤ 1 + r.txns.length * 29 := listB_le _ 29 r.txns (fun x hx => Nat.le_of_eq (ckTB_len x))
 have h5 : (XC ckPB r.dirty).length ≤ 1 + r.dirty.length * 9 := listB_le _ 9 r.dirty (fun x hx => Nat.le_of_eq (ckPB_len x))
 have a1 := h.il
 have a2 := h.sl
 have a3 := h.tl
 have a4 := h.dl
 have h6 : (recTB r).length ≤ 3900 := by
  unfold recTB
  split
  ·omega
  ·split
   ·rw [ZJ]; omega
   ·split
    ·rw [List.length_append, ZJ]; omega
    ·split
     ·rw [List.length_append, ZJ]; omega
     ·split
      ·rw [List.length_append, List.length_append, ZJ]; omega
      ·simp
 unfold recB
 rw [List.length_append]; omega
def costN (r : Rc) : Nat := if Yp r then sectsB (recB r).length else 0
def errN (r : Rc) : Int := if Yp r then 0 else 220
def undI (x : Im) : Im := ⟨0, nilCV, ztC, x.bv, x.b⟩
def undR (l : List Im) : Rc := ⟨5, 0, 0, 0, 0, l.map undI, [], 0, [], []⟩
def stepN (s : Stp) : Nat := if s.kind = 3 ∨ s.kind = 4 then 12 else 1
def pagesN (l : List Stp) : Nat := (l.map stepN).sum
def reserveN (r : Rc) : Nat :=
 if Yp r then (if r.kind = 1 then 2 else if r.kind = 2 then sectsB (recB (undR r.ims)).length else if r.kind = 4 then sectsB (30 + min (pagesN r.steps) 16 * 83) else 0) else 0
theorem contOk_z : YE ztC = true := by decide
theorem undR_lay {l : List Im} (h1 : l.length ≤ 16) (h2 : ∀ x ∈ l, YE x.b = true) : LayOk (undR l) := by
 refine ⟨by simp [undR], by simp [undR], by simp [undR], by simp [undR], by simp [undR], by simp [undR], by simp [undR]; omega, ?_, by simp [undR], by simp [undR], by simp [undR], by simp [undR], by simp [undR], by simp [undR]⟩
 intro x hx
 obtain ⟨y, hy, rfl⟩ := List.mem_map.1 hx
 exact ⟨by simp [undI], h2 y hy, contOk_z⟩
def unT (x : TxP) : Tx := ⟨x.num, x.state, x.first, x.last, x.undo, x.stack, x.marks, ⟨none, 0, 0⟩, ⟨none, 0, 0⟩⟩
def Xq (p : Yh) : Bool := XY ⟨p.next, p.txns.map unT⟩
theorem txsB_p (next : Int) : ∀ (l : List Tx) (last : Int), txsB next last ((l.map Tx.p).map unT) = txsB next last l
 | [], _ => rfl
 | x :: r, last => by
  simp only [List.map_cons, txsB]
  rw [show txOk next last (unT x.p) = txOk next last x from rfl, show (unT x.p).num = x.num from rfl, txsB_p next r]
theorem XA (r : Ros) : Xq r.p = XY r := by
 unfold Xq XY
 simp only [Ros.p, List.length_map, txsB_p]
def XL (r : Rc) : Lf := ⟨r.lsn, (reserveN r : Nat)⟩
def backT (t : TxP) (to : Nat) : TxP := { t with undo := to, stack := t.stack.filter (fun s => decide (s.lsn ≤ to)), marks := t.marks.filter (fun m => decide (m ≤ to)) }
def pushT (t : TxP) (r : Rc) : TxP := { t with undo := r.lsn, stack := t.stack ++ [XL r] }
def Xl (t : TxP) (r : Rc) : Bool := decide (t.first ≤ r.next ∧ r.next ≤ t.undo)
def Wa (t : TxP) : Bool := decide (t.state = 1)
def mayT (t : TxP) (r : Rc) : Bool :=
 if r.kind = 3 ∨ r.kind = 4 then Wa t && Xl t r
 else if r.kind = 5 then decide (t.state ≠ 3) && (Xl t r && decide (r.next < t.undo))
 else Wa t
def Xj (t : TxP) (r : Rc) : TxP :=
 if r.kind = 2 then pushT { t with last := r.lsn } r
 else if r.kind = 3 ∨ r.kind = 5 then backT { t with last := r.lsn } r.next
 else if r.kind = 4 then pushT (backT { t with last := r.lsn } r.next) r
 else if r.kind = 6 then { t with last := r.lsn, state := 3, marks := [], stack := [] }
 else { t with last := r.lsn, state := 2, marks := [] }
def Yq (p : Yh) (num : Int) : Option TxP := p.txns.find? (fun t => decide (t.num = num))
def XP (p : Yh) (t : TxP) : Yh := { p with txns := p.txns.map (fun x => if x.num = t.num then t else x) }
def dropT (p : Yh) (num : Int) : Yh := { p with txns := p.txns.filter (fun x => decide (x.num ≠ num)) }
def newT (r : Rc) : TxP := ⟨r.txn, 1, r.lsn, r.lsn, r.lsn, [], []⟩
def ownE (o : Option TxP) (r : Rc) : Int := match o with | none => 4 | some t => if r.prev ≠ t.last then 2 else if r.kind = 8 then 0 else if mayT t r then 0 else 2
def XB (p : Yh) (r : Rc) : Int :=
 if r.kind = 9 then 0
 else if r.kind = 1 then (if r.txn ≠ p.next ∨ p.next = 1073741824 then 2 else if 8 ≤ p.txns.length then 6 else 0)
 else ownE (Yq p r.txn) r
def ownP (p : Yh) (o : Option TxP) (r : Rc) : Yh := match o with | none => p | some t => if r.kind = 8 then dropT p r.txn else XP p (Xj t r)
def Yv (p : Yh) (r : Rc) : Yh :=
 if r.kind = 9 then p
 else if r.kind = 1 then ⟨p.next + 1, p.txns ++ [newT r]⟩
 else ownP p (Yq p r.txn) r
def Xa (p : Yh) (r : Rc) : Int := if Xq p then (if Yp r then XB p r else 220) else 280
def YD (p : Yh) (r : Rc) : Yh := if Xa p r = 0 then Yv p r else ⟨0, []⟩
def askE (f : TxP → Int) (o : Option TxP) : Int := match o with | none => 4 | some t => if t.state = 1 then f t else 2
def askT (f : TxP → TxP) (p : Yh) (o : Option TxP) : Yh := match o with | none => p | some t => XP p (f t)
def Xo (f : TxP → Int) (p : Yh) (num : Int) : Int := if Xq p then askE f (Yq p num) else 280
def asksP (f : TxP → Int) (g : TxP → TxP) (p : Yh) (num : Int) : Yh := if Xo f p num = 0 then askT g p (Yq p num) else ⟨0, []⟩
def markF (t : TxP) : Int := if 8 ≤ t.marks.length then 6 else 0
def Xk (t : TxP) : TxP := { t with marks := t.marks ++ [t.undo] }
def whereF (n : Int) (t : TxP) : Int := if n < 1 ∨ (t.marks.length : Int) < n then 4 else 0
def whereN (n : Int) (t : TxP) : Nat := t.marks.getD (n - 1).toNat 0
def cutF (n : Int) (t : TxP) : Int := if n < 1 ∨ (t.marks.length : Int) < n then 4 else if t.marks.getD (n - 1).toNat 0 ≠ t.undo then 2 else 0
def cutG (n : Int) (t : TxP) : TxP := { t with marks := t.marks.take n.toNat }
structure TxG (t : TxP) : Prop where
 s1 : 1 ≤ t.state
 s3 : t.state ≤ 3
 f1 : 1 ≤ t.first
 fu : t.first ≤ t.undo
 ul : t.undo ≤ t.last
 lm : t.last ≤ 1099511627776
 st : ∀ s ∈ t.stack, t.first < s.lsn ∧ s.lsn ≤ t.undo ∧ 1 ≤ s.cost ∧ s.cost ≤ 400
 so : t.stack.Pairwise (fun a b => a.lsn < b.lsn)
 ml : t.marks.length ≤ 8
 ms : t.marks ≠ [] → t.state = 1
 mb : ∀ m ∈ t.marks, t.first ≤ m ∧ m ≤ t.undo
 mo : t.marks.Pairwise (· ≤ ·)
structure RosG (p : Yh) : Prop where
 n1 : 1 ≤ p.next
 n2 : p.next ≤ 1073741824
 len : p.txns.length ≤ 8
 tx : ∀ t ∈ p.txns, 0 < t.num ∧ t.num < p.next ∧ TxG t
 up : p.txns.Pairwise (fun a b => a.num < b.num)
theorem stackB_iff {undo : Nat} : ∀ {l : List Lf} {last : Nat}, stackB undo last l = true ↔ (∀ s ∈ l, last < s.lsn ∧ s.lsn ≤ undo ∧ 1 ≤ s.cost ∧ s.cost ≤ 400) ∧ l.Pairwise (fun a b => a.lsn < b.lsn)
 | [], last => by simp [stackB]
 | s :: r, last => by
  rw [stackB, Bool.and_eq_true, decide_eq_true_eq, stackB_iff, List.pairwise_cons]
  constructor
  ·rintro ⟨h1, h2, h3⟩
   refine ⟨fun x hx => ?_, fun x hx => (h2 x hx).1, h3⟩
   rcases List.mem_cons.1 hx with rfl | hx
   ·exact h1
   ·have := h2 x hx; omega
  ·rintro ⟨h1, h2, h3⟩
   refine ⟨h1 s (by simp), fun x hx => ⟨h2 x hx, (h1 x (by simp [hx])).2⟩, h3⟩
theorem pair_get {m : List Nat} (h : sortB m = true) : m.Pairwise (· ≤ ·) := by
 rw [List.pairwise_iff_getElem]
 intro i j hi hj hij
 have := sort_le h (Nat.le_of_lt hij) hj
 rwa [Xe hi, Xe hj] at this
theorem pair_sort {m : List Nat} (h : m.Pairwise (· ≤ ·)) : sortB m = true := by
 refine List.all_eq_true.2 (fun i hi => decide_eq_true ?_)
 have hi := List.mem_range.1 hi
 by_cases h0 : i = 0
 ·exact .inl h0
 ·right
  rw [Xe hi, Xe (show i - 1 < m.length by omega)]
  exact List.pairwise_iff_getElem.1 h (i - 1) i (by omega) hi (by omega)
theorem marksB_iff {x : Tx} : marksB x = true ↔ x.marks.length ≤ 8 ∧ (x.marks ≠ [] → x.state = 1) ∧ (∀ m ∈ x.marks, x.first ≤ m ∧ m ≤ x.undo) ∧ x.marks.Pairwise (· ≤ ·) := by
 unfold marksB
 by_cases h0 : x.marks = []
 ·simp [h0]
 ·have hp : 0 < x.marks.length := List.length_pos_iff.2 h0
  rw [decide_eq_false (by omega), Bool.false_or, Bool.and_eq_true, Bool.and_eq_true, decide_eq_true_eq, decide_eq_true_eq]
  constructor
  ·rintro ⟨⟨h1, h2⟩, h3, h4, h5⟩
   refine ⟨h2, fun _ => h1, fun m hm => ?_, pair_get h3⟩
   obtain ⟨i, hi, rfl⟩ := List.mem_iff_getElem.1 hm
   have g1 := sort_le h3 (Nat.zero_le i) hi
   have g2 := sort_le h3 (show i ≤ x.marks.length - 1 by omega) (by omega)
   rw [Xe hi] at g1 g2
   omega
  ·rintro ⟨h1, h2, h3, h4⟩
   refine ⟨⟨h2 h0, h1⟩, pair_sort h4, ?_, ?_⟩
   ·rw [Xe hp]; exact (h3 _ (List.getElem_mem hp)).1
   ·rw [Xe (show x.marks.length - 1 < x.marks.length by omega)]; exact (h3 _ (List.getElem_mem _)).2
theorem tx18_iff {t : TxP} : tx18B (unT t) = true ↔ TxG t := by
 unfold tx18B
 rw [Bool.and_eq_true, Bool.and_eq_true, decide_eq_true_eq, stackB_iff, marksB_iff]
 constructor
 ·rintro ⟨⟨h1, h2, h3, h4, h5, h6⟩, ⟨h7, h8⟩, h9, h10, h11, h12⟩
  exact ⟨h1, h2, h3, h4, h5, h6, h7, h8, h9, h10, h11, h12⟩
 ·rintro ⟨h1, h2, h3, h4, h5, h6, h7, h8, h9, h10, h11, h12⟩
  exact ⟨⟨h1, h2, h3, h4, h5, h6⟩, ⟨h7, h8⟩, h9, h10, h11, h12⟩
theorem txsP_iff {next : Int} : ∀ {l : List TxP} {last : Int}, txsB next last (l.map unT) = true ↔ (∀ t ∈ l, last < t.num ∧ t.num < next ∧ TxG t) ∧ l.Pairwise (fun a b => a.num < b.num)
 | [], last => by simp [txsB]
 | t :: r, last => by
  rw [List.map_cons, txsB, txOk_18, Bool.and_eq_true, Bool.and_eq_true, decide_eq_true_eq, txsP_iff, List.pairwise_cons, tx18_iff]
  constructor
  ·rintro ⟨⟨⟨h1, h1'⟩, h2⟩, h3, h4⟩
   refine ⟨fun x hx => ?_, fun x hx => (h3 x hx).1, h4⟩
   rcases List.mem_cons.1 hx with rfl | hx
   ·exact ⟨h1, h1', h2⟩
   ·have := h3 x hx
    exact ⟨Int.lt_trans h1 this.1, this.2⟩
  ·rintro ⟨h1, h2, h3⟩
   have h0 := h1 t (by simp)
   exact ⟨⟨⟨h0.1, h0.2.1⟩, h0.2.2⟩, fun x hx => ⟨h2 x hx, (h1 x (by simp [hx])).2⟩, h3⟩
theorem Yw {p : Yh} : Xq p = true ↔ RosG p := by
 unfold Xq XY
 rw [Bool.and_eq_true, decide_eq_true_eq, txsP_iff, List.length_map]
 exact ⟨fun ⟨⟨h1, h2, h3⟩, h4, h5⟩ => ⟨h1, h2, h3, h4, h5⟩, fun ⟨h1, h2, h3, h4, h5⟩ => ⟨⟨h1, h2, h3⟩, h4, h5⟩⟩
theorem findT_mem {p : Yh} {n : Int} {t : TxP} (h : Yq p n = some t) : t ∈ p.txns ∧ t.num = n := by
 unfold Yq at h
 exact ⟨List.mem_of_find?_eq_some h, by simpa using List.find?_some h⟩
theorem findT_idx {p : Yh} (h : RosG p) {i : Nat} (hi : i < p.txns.length) : Yq p (p.txns[i]).num = some p.txns[i] := by
 unfold Yq
 rw [List.find?_eq_some_iff_getElem]
 refine ⟨by simp, i, hi, rfl, fun j hj => ?_⟩
 have := List.pairwise_iff_getElem.1 h.up j i (by omega) hi hj
 simp only [Bool.not_eq_true', decide_eq_false_iff_not]; omega
theorem putT_set {p : Yh} (h : RosG p) {i : Nat} (hi : i < p.txns.length) {t : TxP} (ht : t.num = (p.txns[i]).num) : XP p t = { p with txns := p.txns.set i t } := by
 unfold XP
 congr 1
 apply List.ext_getElem (by simp)
 intro j h1 h2
 simp only [List.length_map] at h1
 rw [List.getElem_map, List.getElem_set]
 by_cases e : i = j
 ·subst e; rw [if_pos ht.symm, if_pos rfl]
 ·rw [if_neg e]
  have hne : (p.txns[j]).num ≠ (p.txns[i]).num := by
   rcases Nat.lt_or_gt_of_ne e with hl | hl
   ·have := List.pairwise_iff_getElem.1 h.up i j hi h1 hl; omega
   ·have := List.pairwise_iff_getElem.1 h.up j i h1 hi hl; omega
  rw [if_neg (fun e2 => hne (e2.trans ht))]
theorem pagesN_succ (l : List Stp) (k : Nat) (h : k < l.length) : pagesN (l.take (k + 1)) = pagesN (l.take k) + stepN l[k] := by
 unfold pagesN
 rw [List.take_succ_eq_append_getElem h, List.map_append, List.sum_append]
 simp
theorem pagesN_le (l : List Stp) : pagesN l ≤ l.length * 12 := by
 unfold pagesN
 induction l with
 | nil => simp
 | cons a r ih =>
  have : stepN a ≤ 12 := by unfold stepN; split <;> omega
  simp only [List.map_cons, List.sum_cons, List.length_cons]; omega
theorem undR_nil : (recB (undR [])).length = 30 := by decide
theorem rreserve_spec (ρ : Hp) (v : RV) (r : Rc) (h : RcIn ρ v r) : Spec Tryz.prog 146 [.agg ⟨recV v r⟩] ρ []
  (fun z ρ' L' => ρ.le ρ' ∧ z = .tuple ⟨[.int .i64 (reserveN r : Nat), .int .i64 (errN r)]⟩ ∧ L' = []) := by
 have hck := rcheck_spec ρ v r h
 unfold reserveN errN
 refine Zg Tryz.func146 rfl rfl rfl fun u R => ?_
 simp only [Zx, List.cons_append, List.nil_append]
 cases hok : Yp r
 ·rw [hok] at hck
  repeat' (first | (refine Ze (.func 52) ?_; refine qC rfl rfl (hck) ?_; rintro v ρ' L' hle ⟨rfl, rfl, rfl⟩ <;> (try simp only [kM, kN, kO, if_false, Bool.false_eq_true])) | (refine ZE ?_; refine Zn (Zd rfl) rfl rfl ?_) | (refine Zj ?_; first | (refine Zf ?_; refine qQ ?_) | refine Zm ?_) | refine Za ?_ | (refine Zi ?_; refine Zt ?_) | (refine Zh ?_; refine Zs ?_) | intro _)
  exact qE (L' := []) ⟨Hp.le_refl _, rfl, rfl⟩
 ·rw [hok] at hck
  simp only [if_true]
  have hF := XZ hok
  by_cases k1 : r.kind = 1
  ·rw [if_pos k1]
   repeat' (first | (refine Ze (.func 52) ?_; refine qC rfl rfl (hck) ?_; rintro v ρ' L' hle ⟨rfl, rfl, rfl⟩ <;> (try simp only [kM, kN, kO, if_true])) | (refine ZE ?_; refine Zn (Zd rfl) rfl rfl ?_) | (refine Zj ?_; first | (refine Zf ?_; refine qQ ?_) | refine Zm ?_) | refine Za ?_ | (refine Zi ?_; refine Zt ?_) | (refine Zh ?_; refine Zs ?_) | intro _)
   exact qE (L' := []) ⟨Hp.le_refl _, rfl, rfl⟩
  ·rw [if_neg k1]
   by_cases k2 : r.kind = 2
   ·rw [if_pos k2]
    have hA := h.i.at'
    have hl := hA.len
    have hil := hF.il
    have hlay := undR_lay hil (fun x hx => (hF.im x hx).2.2)
    repeat' (first | (refine Ze (.func 52) ?_; refine qC rfl rfl (hck) ?_; rintro v ρ' L' hle ⟨rfl, rfl, rfl⟩ <;> (try simp only [kM, kN, kO, if_true])) | (refine ZE ?_; refine Zn (Zd rfl) rfl rfl ?_) | (refine Zj ?_; first | (refine Zf ?_; refine qQ ?_) | refine Zm ?_) | refine Za ?_ | (refine Zi ?_; refine Zt ?_) | (refine Zh ?_; refine Zs ?_) | intro _)
    rename_i rb ub
    refine ZG [(1, _), (2, _), (3, _), (5, _), (6, _), (19, _), (25, _), (26, _)] (fun (ζ : (Nat) × (Value) × (List Value)) => [(27, .int .i64 ζ.1)]) (fun (ζ : (Nat) × (Value) × (List Value)) => ρ') (fun (ζ : (Nat) × (Value) × (List Value)) => [[(ub, .cells ⟨[.int .i64 5, .int .u64 0, .int .i64 0, .int .u64 0, .int .u64 0, ζ.2.1, .slice none 0 0, .int .i64 0, .slice none 0 0, .slice none 0 0]⟩ 34 (0, 0))], ZZ ζ.2.1 ((((r.ims.take ζ.1).map undI).map imV).flatten) ζ.2.2 100, [(rb, .cells ⟨recV v r⟩ 34 (0, 0))]]) (fun (ζ : (Nat) × (Value) × (List Value)) => ζ.1 ≤ v.i.n ∧ OwnS ζ.2.1 ζ.1 ((((r.ims.take ζ.1).map undI).map imV).flatten) ζ.2.2 7) (fun (ζ : (Nat) × (Value) × (List Value)) => v.i.n - ζ.1) ((0, .slice none 0 0, [])) (⟨Nat.zero_le _, OwnS.nil 7⟩) Zo Zo rfl tk ?_
    rintro ⟨k, vv, sp⟩ hI
    try simp only [List.cons_append, List.nil_append, List.append_assoc, List.append_eq] at hI ⊢
    try dsimp only at hI ⊢
    obtain ⟨hk, hown⟩ := hI
    obtain ⟨va, vc, rfl, _⟩ := hown.slice
    by_cases hlt : k < v.i.n
    ·obtain ⟨b, off, C, T, fr, e1, hb, hfit, hc⟩ := hA.get (show k < r.ims.length by omega)
     have hx := List.take_succ_eq_append_getElem (show k < r.ims.length by omega)
     generalize r.ims[k]'(by omega) = x at *
     rw [e1]
     repeat' (first | (refine ZE ?_; refine Zn (Zd rfl) rfl rfl ?_) | (refine Zj ?_; first | (refine Zf ?_; refine qQ ?_) | refine Zm ?_) | refine Za ?_ | (refine Zi ?_; refine Zt ?_) | (refine Zh ?_; refine Zs ?_) | intro _)
     refine Yu (css := [imV (undI x)]) (sz := 7) rfl rfl rfl rfl (by simp) (by simp) rfl (fun bs => ?_)
     simp only [List.flatten_cons, List.flatten_nil, List.append_nil]
     refine Xp (ys := imV (undI x)) (m := 1) rfl rfl hown (hR := by infer_instance) (SrcV.lit) rfl rfl (by decide) rfl (by omega) (by omega) rfl (fun v' sp' hown' => ?_)
     have hm : (((r.ims.take k).map undI).map imV).flatten ++ imV (undI x) = (((r.ims.take (k + 1)).map undI).map imV).flatten := by rw [hx]; simp
     rw [hm] at hown' ⊢
     obtain ⟨va', vc', rfl, _⟩ := hown'.slice
     repeat' (first | (refine ZE ?_; refine Zn (Zd rfl) rfl rfl ?_) | (refine Zj ?_; first | (refine Zf ?_; refine qQ ?_) | refine Zm ?_) | refine Za ?_ | (refine Zi ?_; refine Zt ?_) | (refine Zh ?_; refine Zs ?_) | intro _)
     rw [← e1]
     refine Zr (k + 1, _, sp') (⟨hlt, hown'⟩) Zo Zo rfl tk inferInstance (by first | omega | (dsimp only; omega))
    ·have hk2 : k = r.ims.length := by omega
     rw [show r.ims.take k = r.ims by rw [hk2, List.take_length]] at hown ⊢
     refine tc_freeze (ZZ (.slice va k vc) (((r.ims.map undI).map imV).flatten) sp 100) (fun ρ3 hle3 hfz => ?_)
     obtain ⟨sa, sc, e1, hsc, hA2⟩ := hown.aIn (by simp; omega) (fun x _ => imV_len x) hfz
     cases e1
     have hU : RcIn ρ3 ⟨⟨va, k, vc⟩, ⟨none, 0, 0⟩, ⟨none, 0, 0⟩, ⟨none, 0, 0⟩⟩ (undR r.ims) := ⟨⟨hA2, by dsimp only; omega, hsc⟩, fun x hx => by
      obtain ⟨y, hy, rfl⟩ := List.mem_map.1 hx
      exact ⟨CI.nil, ((h.im y hy).b).mono hle3⟩, AS.nil, AS.nil, AS.nil, by simp [undR]⟩
     have hla := rlaid_spec ρ3 _ _ hU hlay
     have hb4 := recB_le hlay
     repeat' (first | (refine Ze (.func 176) ?_; refine qC rfl rfl (hla) ?_; rintro v ρ' L' hle ⟨hl1, a, c, rfl, hc, hs, rfl⟩ <;> (try simp only [kM, kN, kO])) | (simp only [Int.add_zero]; refine Ze (.func 175) ?_; refine qC rfl rfl (rsects_spec _ _ (by omega)) ?_; rintro z1 ρ1 L1 hle0 ⟨rfl, rfl, rfl⟩; simp only [List.cons_append, List.nil_append]) | (refine ZE ?_; refine Zn (Zd rfl) rfl rfl ?_) | (refine Zj ?_; first | (refine Zf ?_; refine qQ ?_) | refine Zm ?_) | refine Za ?_ | (refine Zi ?_; refine Zt ?_) | (refine Zh ?_; refine Zs ?_) | intro _)
     exact qE (L' := []) ⟨Hp.le_trans hle3 hl1, rfl, rfl⟩
   ·rw [if_neg k2]
    by_cases k4 : r.kind = 4
    ·rw [if_pos k4]
     have hA := h.s.at'
     have hl := hA.len
     have hsl := hF.sl
     have hU : ∀ ρ, RcIn ρ ⟨⟨none, 0, 0⟩, ⟨none, 0, 0⟩, ⟨none, 0, 0⟩, ⟨none, 0, 0⟩⟩ (undR []) := fun ρ => ⟨AS.nil, by simp [undR], AS.nil, AS.nil, AS.nil, by simp [undR]⟩
     have hla := fun ρ => rlaid_spec ρ _ _ (hU ρ) (undR_lay (l := []) (by simp) (by simp))
     rw [undR_nil] at hla
     repeat' (first | (refine Ze (.func 52) ?_; refine qC rfl rfl (hck) ?_; rintro v ρ' L' hle ⟨rfl, rfl, rfl⟩ <;> (try simp only [kM, kN, kO, if_true])) | (refine ZE ?_; refine Zn (Zd rfl) rfl rfl ?_) | (refine Zj ?_; first | (refine Zf ?_; refine qQ ?_) | refine Zm ?_) | refine Za ?_ | (refine Zi ?_; refine Zt ?_) | (refine Zh ?_; refine Zs ?_) | intro _)
     rename_i rb ub
     refine ZG [(2, _), (3, _), (5, _), (6, _), (43, _), (44, _)] (fun (ζ : (Nat) × (Nat)) => [(45, .int .i64 ζ.1), (9, .int .i64 ζ.2)]) (fun (ζ : (Nat) × (Nat)) => ρ') (fun (ζ : (Nat) × (Nat)) => [[(rb, .cells ⟨recV v r⟩ 34 (0, 0))]]) (fun (ζ : (Nat) × (Nat)) => ζ.1 ≤ v.s.n ∧ ζ.2 = pagesN (r.steps.take ζ.1)) (fun (ζ : (Nat) × (Nat)) => v.s.n - ζ.1) ((0, 0)) (⟨Nat.zero_le _, rfl⟩) Zo Zo rfl tk ?_
     rintro ⟨k, n⟩ hI
     try simp only [List.cons_append, List.nil_append, List.append_assoc, List.append_eq] at hI ⊢
     try dsimp only at hI ⊢
     obtain ⟨hk, hn⟩ := hI
     have hple := pagesN_le (r.steps.take k)
     have htl : (r.steps.take k).length ≤ 2 := by simp; omega
     by_cases hlt : k < v.s.n
     ·obtain ⟨b, off, C, T, fr, e1, hb, hfit, hc⟩ := hA.get (show k < r.steps.length by omega)
      have hx := pagesN_succ r.steps k (by omega)
      generalize r.steps[k]'(by omega) = x at *
      rw [e1]
      unfold stepN at hx
      by_cases h34 : x.kind = 3 ∨ x.kind = 4
      ·rw [if_pos h34] at hx
       rcases h34 with e | e
       all_goals (repeat' (first | (refine ZE ?_; refine Zn (Zd rfl) rfl rfl ?_) | (refine Zj ?_; first | (refine Zf ?_; refine qQ ?_) | refine Zm ?_) | refine Za ?_ | (refine Zi ?_; refine Zt ?_) | (refine Zh ?_; refine Zs ?_) | intro _))
       all_goals rw [← e1]
       all_goals refine Zr (k + 1, n + 12) (⟨hlt, by dsimp only; omega⟩) Zo Zo rfl tk inferInstance (by first | omega | (dsimp only; omega))
      ·rw [if_neg h34] at hx
       repeat' (first | (refine ZE ?_; refine Zn (Zd rfl) rfl rfl ?_) | (refine Zj ?_; first | (refine Zf ?_; refine qQ ?_) | refine Zm ?_) | refine Za ?_ | (refine Zi ?_; refine Zt ?_) | (refine Zh ?_; refine Zs ?_) | intro _)
       rw [← e1]
       refine Zr (k + 1, n + 1) (⟨hlt, by dsimp only; omega⟩) Zo Zo rfl tk inferInstance (by first | omega | (dsimp only; omega))
     ·rw [show r.steps.take k = r.steps by rw [show k = r.steps.length by omega, List.take_length]] at hn hple htl
      subst hn
      repeat' (first | (refine Ze (.func 176) ?_; refine qC rfl rfl (hla _) ?_; rintro v ρ' L' hle ⟨hl1, a, c, rfl, hc, hs, rfl⟩ <;> (try simp only [kM, kN, kO])) | (rw [show ((30 : Nat) : Int) + min ((pagesN r.steps : Nat) : Int) 16 * 83 = ((30 + min (pagesN r.steps) 16 * 83 : Nat) : Int) by omega]; refine Ze (.func 175) ?_; refine qC rfl rfl (rsects_spec _ _ (by omega)) ?_; rintro z1 ρ1 L1 hle0 ⟨rfl, rfl, rfl⟩; simp only [List.cons_append, List.nil_append]) | (refine ZE ?_; refine Zn (Zd rfl) rfl rfl ?_) | (refine Zj ?_; first | (refine Zf ?_; refine qQ ?_) | refine Zm ?_) | refine Za ?_ | (refine Zi ?_; refine Zt ?_) | (refine Zh ?_; refine Zs ?_) | intro _)
      exact qE (L' := []) ⟨hl1, rfl, rfl⟩
    ·rw [if_neg k4]
     repeat' (first | (refine Ze (.func 52) ?_; refine qC rfl rfl (hck) ?_; rintro v ρ' L' hle ⟨rfl, rfl, rfl⟩ <;> (try simp only [kM, kN, kO, if_true])) | (refine ZE ?_; refine Zn (Zd rfl) rfl rfl ?_) | (refine Zj ?_; first | (refine Zf ?_; refine qQ ?_) | refine Zm ?_) | refine Za ?_ | (refine Zi ?_; refine Zt ?_) | (refine Zh ?_; refine Zs ?_) | intro _)
     exact qE (L' := []) ⟨Hp.le_refl _, rfl, rfl⟩
theorem reserve_ok {r : Rc} (h : Yp r = true) (k : r.kind = 2 ∨ r.kind = 4) : 1 ≤ reserveN r ∧ reserveN r ≤ 400 := by
 have hF := XZ h
 unfold reserveN
 rw [h, if_pos rfl]
 rcases k with k | k
 ·rw [k, if_neg (by decide), if_pos rfl]
  have := recB_le (undR_lay hF.il (fun x hx => (hF.im x hx).2.2))
  unfold sectsB; omega
 ·rw [k, if_neg (by decide), if_neg (by decide), if_pos rfl]
  unfold sectsB; omega
theorem TxG.late {t : TxP} (h : TxG t) {n : Nat} (h1 : t.last ≤ n) (h2 : n ≤ 1099511627776) : TxG { t with last := n } :=
 ⟨h.s1, h.s3, h.f1, h.fu, Nat.le_trans h.ul h1, h2, h.st, h.so, h.ml, h.ms, h.mb, h.mo⟩
theorem TxG.back {t : TxP} (h : TxG t) {to : Nat} (h1 : t.first ≤ to) (h2 : to ≤ t.undo) : TxG (backT t to) := by
 refine ⟨h.s1, h.s3, h.f1, h1, Nat.le_trans h2 h.ul, h.lm, fun s hs => ?_, h.so.filter _, ?_, fun hne => h.ms ?_, fun m hm => ?_, h.mo.filter _⟩
 ·obtain ⟨g1, g2⟩ := List.mem_filter.1 hs
  have := h.st s g1
  simp only [decide_eq_true_eq] at g2
  show t.first < s.lsn ∧ s.lsn ≤ to ∧ _
  omega
 ·have := List.length_filter_le (fun m => decide (m ≤ to)) t.marks
  have := h.ml
  show (t.marks.filter _).length ≤ 8
  omega
 ·intro e
  apply hne
  show t.marks.filter _ = []
  rw [e]; rfl
 ·obtain ⟨g1, g2⟩ := List.mem_filter.1 hm
  have := h.mb m g1
  simp only [decide_eq_true_eq] at g2
  show t.first ≤ m ∧ m ≤ to
  omega
theorem TxG.push {t : TxP} (h : TxG t) {r : Rc} (h1 : t.undo < r.lsn) (h2 : t.last = r.lsn) (h3 : 1 ≤ reserveN r ∧ reserveN r ≤ 400) : TxG (pushT t r) := by
 have := h.fu
 refine ⟨h.s1, h.s3, h.f1, ?_, Nat.le_of_eq h2.symm, h.lm, fun s hs => ?_, ?_, h.ml, h.ms, fun m hm => ?_, h.mo⟩
 ·show t.first ≤ r.lsn
  omega
 ·show t.first < s.lsn ∧ s.lsn ≤ r.lsn ∧ _
  rcases List.mem_append.1 hs with hs | hs
  ·have := h.st s hs; omega
  ·rw [List.mem_singleton] at hs
   subst hs
   unfold XL; dsimp only; omega
 ·show (t.stack ++ [XL r]).Pairwise _
  refine List.pairwise_append.2 ⟨h.so, by simp, fun a ha b hb => ?_⟩
  rw [List.mem_singleton] at hb
  subst hb
  have := h.st a ha
  unfold XL; dsimp only; omega
 ·have := h.mb m hm
  show t.first ≤ m ∧ m ≤ r.lsn
  omega
theorem TxG.next {t : TxP} {r : Rc} (h : TxG t) (hr : Yp r = true) (hp : r.prev = t.last) (hm : mayT t r = true) (k : 2 ≤ r.kind ∧ r.kind ≤ 7) : TxG (Xj t r) := by
 have hF := XZ hr
 have hlm := hF.lsn
 have hpl : t.last < r.lsn ∧ r.lsn ≤ 1099511627776 := by
  unfold Yp at hr
  simp only [Bool.and_eq_true, decide_eq_true_eq] at hr
  have hh := hr.2.1
  unfold headOk at hh
  rw [decide_eq_true_eq] at hh
  omega
 have hl := h.late (n := r.lsn) (by omega) hpl.2
 have hul := h.ul
 unfold mayT at hm
 unfold Xj
 by_cases k2 : r.kind = 2
 ·rw [if_pos k2]
  exact hl.push (by dsimp only; omega) rfl (reserve_ok hr (.inl k2))
 ·rw [if_neg k2]
  by_cases k35 : r.kind = 3 ∨ r.kind = 5
  ·rw [if_pos k35]
   have hw : Xl t r = true := by
    rcases k35 with e | e
    ·rw [if_pos (.inl e), Bool.and_eq_true] at hm; exact hm.2
    ·rw [if_neg (by omega), if_pos e, Bool.and_eq_true, Bool.and_eq_true] at hm; exact hm.2.1
   unfold Xl at hw
   rw [decide_eq_true_eq] at hw
   exact hl.back hw.1 hw.2
  ·rw [if_neg k35]
   by_cases k4 : r.kind = 4
   ·rw [if_pos k4]
    rw [if_pos (.inr k4), Bool.and_eq_true] at hm
    have hw := hm.2
    unfold Xl at hw
    rw [decide_eq_true_eq] at hw
    exact (hl.back hw.1 hw.2).push (by show r.next < r.lsn; omega) rfl (reserve_ok hr (.inr k4))
   ·rw [if_neg k4]
    split
    ·exact ⟨by dsimp only; omega, by dsimp only; omega, hl.f1, hl.fu, hl.ul, hl.lm, by simp, by simp, by simp, by simp, by simp, by simp⟩
    ·exact ⟨by dsimp only; omega, by dsimp only; omega, hl.f1, hl.fu, hl.ul, hl.lm, hl.st, hl.so, by simp, by simp, by simp, by simp⟩
theorem RosG.set {p : Yh} (h : RosG p) {i : Nat} (hi : i < p.txns.length) {t : TxP} (ht : t.num = (p.txns[i]).num) (hg : TxG t) : RosG { p with txns := p.txns.set i t } := by
 refine ⟨h.n1, h.n2, by simpa using h.len, fun x hx => ?_, ?_⟩
 ·rcases List.mem_or_eq_of_mem_set hx with hx | rfl
  ·exact h.tx x hx
  ·have := h.tx _ (List.getElem_mem hi)
   exact ⟨by omega, by show x.num < p.next; omega, hg⟩
 ·rw [List.pairwise_iff_getElem]
  intro a b ha hb hab
  simp only [List.length_set] at ha hb
  have := List.pairwise_iff_getElem.1 h.up a b ha hb hab
  dsimp only
  rw [List.getElem_set, List.getElem_set]
  split <;> split <;> first | omega | (subst_vars; omega)
theorem RosG.drop {p : Yh} (h : RosG p) (n : Int) : RosG (dropT p n) :=
 ⟨h.n1, h.n2, Nat.le_trans (List.length_filter_le _ _) h.len, fun x hx => h.tx x (List.mem_filter.1 hx).1, h.up.filter _⟩
theorem takes_ok {p : Yh} {r : Rc} (h : RosG p) (hr : Yp r = true) (he : XB p r = 0) : RosG (Yv p r) := by
 have hk : 1 ≤ r.kind ∧ r.kind ≤ 9 := by
  unfold Yp at hr
  rw [Bool.and_eq_true, decide_eq_true_eq] at hr
  exact hr.1
 unfold XB at he
 unfold Yv
 by_cases k9 : r.kind = 9
 ·rw [if_pos k9]; exact h
 ·rw [if_neg k9] at he ⊢
  by_cases k1 : r.kind = 1
  ·rw [if_pos k1] at he ⊢
   have hl := (XZ hr).lsn
   have hh : 1 ≤ r.lsn ∧ r.lsn ≤ 1099511627776 := by
    unfold Yp at hr
    simp only [Bool.and_eq_true, decide_eq_true_eq] at hr
    have hh := hr.2.1
    unfold headOk at hh
    rw [decide_eq_true_eq] at hh
    omega
   split at he
   ·cases he
   ·rename_i hb
    split at he
    ·cases he
    ·rename_i h8
     have n1 := h.n1
     have n2 := h.n2
     refine ⟨by dsimp only; omega, by dsimp only; omega, by simp only [List.length_append, List.length_singleton]; omega, fun x hx => ?_, ?_⟩
     ·rcases List.mem_append.1 hx with hx | hx
      ·have := h.tx x hx
       exact ⟨this.1, by dsimp only; omega, this.2.2⟩
      ·rw [List.mem_singleton] at hx
       subst hx
       refine ⟨by show 0 < r.txn; omega, by show r.txn < p.next + 1; omega, ⟨by show (1:Int) ≤ 1; omega, by show (1:Int) ≤ 3; omega, hh.1, Nat.le_refl _, Nat.le_refl _, hh.2, by simp [newT], by simp [newT], by simp [newT], by simp [newT], by simp [newT], by simp [newT]⟩⟩
     ·refine List.pairwise_append.2 ⟨h.up, by simp, fun a ha b hb2 => ?_⟩
      rw [List.mem_singleton] at hb2
      subst hb2
      have := h.tx a ha
      show a.num < r.txn
      omega
  ·rw [if_neg k1] at he ⊢
   cases hf : Yq p r.txn with
   | none => rw [hf] at he; cases he
   | some t =>
    rw [hf] at he
    unfold ownE at he
    unfold ownP
    dsimp only at he ⊢
    split at he
    ·cases he
    ·rename_i hpv
     by_cases k8 : r.kind = 8
     ·rw [if_pos k8]; exact h.drop _
     ·rw [if_neg k8] at he ⊢
      split at he
      ·rename_i hm
       obtain ⟨hm1, hm2⟩ := findT_mem hf
       obtain ⟨i, hi, rfl⟩ := List.mem_iff_getElem.1 hm1
       have hn : (Xj p.txns[i] r).num = p.txns[i].num := by
        unfold Xj
        split
        ·rfl
        ·split
         ·rfl
         ·split
          ·rfl
          ·split <;> rfl
       rw [putT_set h hi hn]
       exact h.set hi hn ((h.tx _ hm1).2.2.next hr (by omega) hm (by omega))
      ·cases he
theorem atT1_spec (ρ : Hp) (p : Tx) (n : Int) : Spec Tryz.prog 102 [.agg ⟨txV p⟩, .int .i64 n] ρ [] (fun v ρ' L' => v = .int .i64 (cmpI p.num n) ∧ ρ' = ρ ∧ L' = []) := by
 refine Zg Tryz.func102 rfl rfl rfl fun u R => ?_
 simp only [Zx, List.cons_append, List.nil_append]
 repeat' (first | (refine Ze (.func 103) ?_; refine qC rfl rfl (cmpI_spec _ _ _) ?_; rintro v ρ' L' hle ⟨rfl, rfl, rfl⟩ <;> (try simp only [kM, kN, kO])) | (refine ZE ?_; refine Zn (Zd rfl) rfl rfl ?_) | (refine Zj ?_; first | (refine Zf ?_; refine qQ ?_) | refine Zm ?_) | refine Za ?_ | (refine Zi ?_; refine Zt ?_) | (refine Zh ?_; refine Zs ?_) | intro _)
 exact qE ⟨rfl, rfl, rfl⟩
abbrev TblT (l : List Tx) : Prop := l.Pairwise (fun a b => a.num < b.num)
structure AtT (l : List Tx) (num : Int) (i : Nat) (there : Bool) : Prop where
 le : i ≤ l.length
 hit : there = true → ∃ h : i < l.length, l[i].num = num
 lo : TblT l → ∀ j (h : j < l.length), j < i → l[j].num < num
 hi : TblT l → there = false → ∀ j (h : j < l.length), i ≤ j → num < l[j].num
theorem tblT_lt {l : List Tx} (h : TblT l) (i j : Nat) (hj : j < l.length) (hij : i < j) : (l[i]'(by omega)).num < l[j].num := List.pairwise_iff_getElem.1 h i j (by omega) hj hij
theorem searchT_spec (ρ : Hp) (a : Option Addr) (n c : Nat) (l : List Tx) (h : AIn ρ 7 txV a n l) (hn : n ≤ 1000000) (num : Int) :
  Spec Tryz.prog 101 [.slice a n c, .int .i64 num, .func (.func 102) ⟨[]⟩ ⟨[]⟩] ρ []
  (fun v ρ' L' => ρ' = ρ ∧ ∃ i there, v = .tuple ⟨[.int .i64 (i : Nat), .bool there]⟩ ∧ AtT l num i there ∧ L' = []) := by
 have hl := h.len
 refine Zg Tryz.func101 rfl rfl rfl fun u R => ?_
 simp only [Zx, List.cons_append, List.nil_append]
 repeat' (first | (refine ZE ?_; refine Zn (Zd rfl) rfl rfl ?_) | (refine Zj ?_; first | (refine Zf ?_; refine qQ ?_) | refine Zm ?_) | refine Za ?_ | (refine Zi ?_; refine Zt ?_) | (refine Zh ?_; refine Zs ?_) | intro _)
 refine ZG [(0, _), (1, _), (2, _), (6, _), (7, _), (8, _)] (fun (ζ : (Nat) × (Nat)) => [(9, .int .i64 ζ.1), (10, .int .i64 ζ.2)]) (fun (ζ : (Nat) × (Nat)) => ρ) (fun (ζ : (Nat) × (Nat)) => []) (fun (ζ : (Nat) × (Nat)) => ζ.1 ≤ ζ.2 ∧ ζ.2 ≤ n ∧ (TblT l → (∀ k (h : k < l.length), k < ζ.1 → l[k].num < num) ∧ ∀ k (h : k < l.length), ζ.2 ≤ k → num ≤ l[k].num)) (fun (ζ : (Nat) × (Nat)) => ζ.2 - ζ.1) ((0, n)) (⟨Nat.zero_le _, Nat.le_refl _, fun _ => ⟨fun k _ h => by omega, fun k h1 h2 => by omega⟩⟩) Zo Zo rfl tk ?_
 rintro ⟨i, j⟩ hI
 try simp only [List.cons_append, List.nil_append, List.append_assoc, List.append_eq] at hI ⊢
 try dsimp only at hI ⊢
 obtain ⟨hij, hj, hok⟩ := hI
 by_cases hlt : i < j
 ·have hm : ((i : Int) + (j : Int)) / 2 ^ 1 = (((i + j) / 2 : Nat) : Int) := by omega
  obtain ⟨b, off, C, T, fr, e1, hb, hfit, hc⟩ := h.get (show (i + j) / 2 < l.length by omega)
  have hq : ∀ x : Tx, l[(i + j) / 2]'(by omega) = x → (x.num < num → TblT l → (∀ k (h : k < l.length), k < (i + j) / 2 + 1 → l[k].num < num)) ∧ (num ≤ x.num → TblT l → ∀ k (h : k < l.length), (i + j) / 2 ≤ k → num ≤ l[k].num) := fun x hx => by
   refine ⟨fun hp ht k hk hk2 => ?_, fun hp ht k hk hk2 => ?_⟩
   ·have hs := tblT_lt ht k ((i + j) / 2) (by omega)
    by_cases e : k = (i + j) / 2
    ·subst e; rw [hx]; exact hp
    ·have := hs (by omega); rw [hx] at this; omega
   ·have hs := tblT_lt ht ((i + j) / 2) k hk
    by_cases e : k = (i + j) / 2
    ·subst e; rw [hx]; exact hp
    ·have := hs (by omega); rw [hx] at this; omega
  generalize hX : l[(i + j) / 2]'(by omega) = x at *
  obtain ⟨q1, q2⟩ := hq x rfl
  rw [e1]
  by_cases hlp : x.num < num
  ·have hcm : cmpI x.num num < 0 := by unfold cmpI; rw [if_pos hlp]; omega
   repeat' (first | (refine iSr ?_; refine Zn (y_shr (c := 1) rfl rfl (by omega) (by simp [IntKind.bits])) rfl rfl ?_; rw [hm]) | (refine Ze (.tmp 24) ?_; refine qC rfl rfl (atT1_spec _ _ _) ?_; rintro v ρ' L' hle ⟨rfl, rfl, rfl⟩ <;> (try simp only [kM, kN, kO])) | (refine ZE ?_; refine Zn (Zd rfl) rfl rfl ?_) | (refine Zj ?_; first | (refine Zf ?_; refine qQ ?_) | refine Zm ?_) | refine Za ?_ | (refine Zi ?_; refine Zt ?_) | (refine Zh ?_; refine Zs ?_) | intro _)
   rw [← e1]
   have hs1 := q1 hlp
   refine Zr ((i + j) / 2 + 1, j) (⟨by omega, hj, fun ht => ⟨hs1 ht, (hok ht).2⟩⟩) Zo Zo rfl tk inferInstance (by first | omega | (dsimp only; omega))
  ·have hcm : ¬ cmpI x.num num < 0 := by unfold cmpI; rw [if_neg hlp]; split <;> omega
   repeat' (first | (refine iSr ?_; refine Zn (y_shr (c := 1) rfl rfl (by omega) (by simp [IntKind.bits])) rfl rfl ?_; rw [hm]) | (refine Ze (.tmp 24) ?_; refine qC rfl rfl (atT1_spec _ _ _) ?_; rintro v ρ' L' hle ⟨rfl, rfl, rfl⟩ <;> (try simp only [kM, kN, kO])) | (refine ZE ?_; refine Zn (Zd rfl) rfl rfl ?_) | (refine Zj ?_; first | (refine Zf ?_; refine qQ ?_) | refine Zm ?_) | refine Za ?_ | (refine Zi ?_; refine Zt ?_) | (refine Zh ?_; refine Zs ?_) | intro _)
   rw [← e1]
   have hs2 := q2 (by omega)
   refine Zr (i, (i + j) / 2) (⟨by omega, by omega, fun ht => ⟨(hok ht).1, hs2 ht⟩⟩) Zo Zo rfl tk inferInstance (by first | omega | (dsimp only; omega))
 ·obtain rfl : i = j := by omega
  by_cases hin : i < n
  ·obtain ⟨b, off, C, T, fr, e1, hb, hfit, hc⟩ := h.get (show i < l.length by omega)
   have hX : l[i]'(by omega) = l[i]'(by omega) := rfl
   generalize hx : l[i]'(by omega) = x at hc hX
   rw [e1]
   by_cases hp : x.num = num
   ·have hcm : cmpI x.num num = 0 := by unfold cmpI; rw [hp]; simp
    repeat' (first | (refine Ze (.tmp 40) ?_; refine qC rfl rfl (atT1_spec _ _ _) ?_; rintro v ρ' L' hle ⟨rfl, rfl, rfl⟩ <;> (try simp only [kM, kN, kO, hcm])) | (refine ZE ?_; refine Zn (Zd rfl) rfl rfl ?_) | (refine Zj ?_; first | (refine Zf ?_; refine qQ ?_) | refine Zm ?_) | refine Za ?_ | (refine Zi ?_; refine Zt ?_) | (refine Zh ?_; refine Zs ?_) | intro _)
    exact qE ⟨rfl, i, true, rfl, ⟨by omega, fun _ => ⟨by omega, by rw [hx]; exact hp⟩, fun ht => (hok ht).1, (fun _ e => nomatch e)⟩, rfl⟩
   ·have hcm : cmpI x.num num ≠ 0 := by unfold cmpI; split <;> (try split) <;> omega
    repeat' (first | (refine Ze (.tmp 40) ?_; refine qC rfl rfl (atT1_spec _ _ _) ?_; rintro v ρ' L' hle ⟨rfl, rfl, rfl⟩ <;> (try simp only [kM, kN, kO])) | (refine ZE ?_; refine Zn (Zd rfl) rfl rfl ?_) | (refine Zj ?_; first | (refine Zf ?_; refine qQ ?_) | refine Zm ?_) | refine Za ?_ | (refine Zi ?_; refine Zt ?_) | (refine Zh ?_; refine Zs ?_) | intro _)
    refine qE ⟨rfl, i, false, rfl, ⟨by omega, (fun e => nomatch e), fun ht => (hok ht).1, fun ht _ k hk hik => ?_⟩, rfl⟩
    have h1 := (hok ht).2 k hk hik
    by_cases e : i = k
    ·subst e; rw [hx]; rw [hx] at h1; omega
    ·have h2 := tblT_lt ht i k hk (by omega)
     have h3 := (hok ht).2 i (by omega) (Nat.le_refl _)
     omega
  ·repeat' (first | (refine ZE ?_; refine Zn (Zd rfl) rfl rfl ?_) | (refine Zj ?_; first | (refine Zf ?_; refine qQ ?_) | refine Zm ?_) | refine Za ?_ | (refine Zi ?_; refine Zt ?_) | (refine Zh ?_; refine Zs ?_) | intro _)
   exact qE ⟨rfl, i, false, rfl, ⟨by omega, (fun e => nomatch e), fun ht => (hok ht).1, fun ht _ k hk hik => by omega⟩, rfl⟩
theorem atT_spec (ρ : Hp) (nx : Int) (s : SV) (l : List Tx) (h : AS ρ 7 txV s l) (num : Int) :
  Spec Tryz.prog 54 [.agg ⟨Yx s ⟨nx, l⟩⟩, .int .i64 num] ρ [] (fun v ρ' L' => ρ' = ρ ∧ ∃ i there, v = .tuple ⟨[.int .i64 (i : Nat), .bool there]⟩ ∧ AtT l num i there ∧ L' = []) := by
 have hs := searchT_spec ρ s.a s.n s.c l h.at' h.big num
 refine Zg Tryz.func54 rfl rfl rfl fun u R => ?_
 simp only [Zx, List.cons_append, List.nil_append]
 repeat' (first | (refine Ze (.func 101) ?_; refine qC rfl rfl (hs) ?_; rintro v ρ' L' hle ⟨rfl, i, there, rfl, hA, rfl⟩ <;> (try simp only [kM, kN, kO])) | (refine ZE ?_; refine Zn (Zd rfl) rfl rfl ?_) | (refine Zj ?_; first | (refine Zf ?_; refine qQ ?_) | refine Zm ?_) | refine Za ?_ | (refine Zi ?_; refine Zt ?_) | (refine Zh ?_; refine Zs ?_) | intro _)
 exact qE ⟨rfl, i, there, rfl, hA, rfl⟩
structure OT where
 x : Tx
 ss : List Value
 ms : List Value
abbrev Wd (x : Tx) (ss : List Value) : List (Nat × Obj) := ZZ (.slice x.sv.a x.sv.n x.sv.c) ((x.stack.map lfV).flatten) ss 108
abbrev XW (x : Tx) (ms : List Value) : List (Nat × Obj) := ZZ (.slice x.mv.a x.mv.n x.mv.c) (x.marks.map Yj) ms 28
structure OwnX (x : Tx) (ss ms : List Value) : Prop where
 s : OwnS (.slice x.sv.a x.sv.n x.sv.c) x.stack.length ((x.stack.map lfV).flatten) ss 2
 m : OwnS (.slice x.mv.a x.mv.n x.mv.c) x.marks.length (x.marks.map Yj) ms 1
theorem OwnS.nn {a : Option Addr} {n c m sz : Nat} {xs sp : List Value} (h : OwnS (.slice a n c) m xs sp sz) : n = m ∧ m ≤ c := by
 rcases h.out with ⟨e, h1, _, _⟩ | ⟨b, cap, e, _, _, h3⟩
 ·have := Value.slice.inj e; omega
 ·have := Value.slice.inj e; omega
def OT.Own (o : OT) : Prop := OwnX o.x o.ss o.ms
def stC (os : List OT) : List (Nat × Obj) := os.flatMap (fun o => Wd o.x o.ss ++ XW o.x o.ms)
def txF (os : List OT) : List Value := ((os.map OT.x).map txV).flatten
theorem Wf (a b : List OT) : stC (a ++ b) = stC a ++ stC b := by unfold stC; rw [List.flatMap_append]
theorem stC_one (o : OT) : stC [o] = Wd o.x o.ss ++ XW o.x o.ms := by simp [stC]
theorem XR (a b : List OT) : txF (a ++ b) = txF a ++ txF b := by simp [txF]
theorem txF_one (o : OT) : txF [o] = txV o.x := by simp [txF]
theorem txF_len (os : List OT) : (txF os).length = os.length * 7 := by
 have := flatN_len txV_len (os.map OT.x)
 rw [List.length_map] at this
 exact this
abbrev YJ (cb : Nat) (next : Int) (v : Value) (rv : RV) (r : Rc) (t : Option Addr) : List (Nat × Obj) := [(cb, .cells ⟨[.int .i64 next, v, .int .i64 r.kind, .int .u64 r.lsn, .int .i64 r.txn, .int .u64 r.prev, .int .u64 r.next, .slice rv.i.a rv.i.n rv.i.c, .slice rv.s.a rv.s.n rv.s.c, .int .i64 r.nextTxn, .slice rv.t.a rv.t.n rv.t.c, .slice rv.d.a rv.d.n rv.d.c, .pointer t]⟩ 149 (0, 0))]
abbrev noRV : RV := ⟨⟨none, 0, 0⟩, ⟨none, 0, 0⟩, ⟨none, 0, 0⟩, ⟨none, 0, 0⟩⟩
structure OwnR (vv : Value) (sp : List Value) (os : List OT) (txns : List TxP) : Prop where
 own : OwnS vv os.length (txF os) sp 7
 each : ∀ o ∈ os, o.Own
 says : os.map (fun o => o.x.p) = txns
abbrev Xs (vv : Value) (sp : List Value) (os : List OT) : SH := [ZZ vv (txF os) sp 45, stC os]
theorem OwnR.len {vv sp os txns} (h : OwnR vv sp os txns) : os.length = txns.length := by rw [← h.says, List.length_map]
theorem OwnX.tin {ρ : Hp} {x : Tx} {ss ms : List Value} (h : OwnX x ss ms) (h1 : ∀ p ∈ Wd x ss, ρ p.1 = some p.2) (h2 : ∀ p ∈ XW x ms, ρ p.1 = some p.2) (hs : x.stack.length ≤ 200000000000000) (hm : x.marks.length ≤ 200000000000000) : Tx.In ρ x := by
 obtain ⟨a, c, e, hc, hA⟩ := h.s.aIn rfl (fun _ _ => rfl) h1
 obtain ⟨a2, c2, e2, hc2, hA2⟩ := h.m.sIn h2
 have f1 := Value.slice.inj e
 have f2 := Value.slice.inj e2
 obtain ⟨num, st, fi, la, un, sk, mk, ⟨sa, sn, sc⟩, ⟨ma, mn, mc⟩⟩ := x
 dsimp only at *
 obtain ⟨rfl, rfl, rfl⟩ := f1
 obtain ⟨rfl, rfl, rfl⟩ := f2
 exact ⟨hA, hA2, hs, hm, hc, hc2⟩
theorem stC_mem {ρ : Hp} {os : List OT} (h : ∀ p ∈ stC os, ρ p.1 = some p.2) {o : OT} (ho : o ∈ os) : (∀ p ∈ Wd o.x o.ss, ρ p.1 = some p.2) ∧ (∀ p ∈ XW o.x o.ms, ρ p.1 = some p.2) :=
 ⟨fun p hp => h p (List.mem_flatMap.2 ⟨o, ho, List.mem_append_left _ hp⟩), fun p hp => h p (List.mem_flatMap.2 ⟨o, ho, List.mem_append_right _ hp⟩)⟩
theorem OwnR.frozen {ρ : Hp} {vv sp os txns} (h : OwnR vv sp os txns) (hn : txns.length ≤ 1000000) (hb : ∀ t ∈ txns, t.stack.length ≤ 200000000000000 ∧ t.marks.length ≤ 200000000000000) (h1 : ∀ p ∈ ZZ vv (txF os) sp 45, ρ p.1 = some p.2) (h2 : ∀ p ∈ stC os, ρ p.1 = some p.2) (next : Int) :
  ∃ (v : SV) (r : Ros), vv = .slice v.a v.n v.c ∧ RosIn ρ v r ∧ r.p = ⟨next, txns⟩ ∧ r.next = next := by
 have hl := h.len
 have ho : OwnS vv os.length (((os.map OT.x).map txV).flatten) sp 7 := h.own
 obtain ⟨a, c, e, hc, hA⟩ := ho.aIn (by simp) (fun x _ => txV_len x) h1
 refine ⟨⟨a, os.length, c⟩, ⟨next, os.map OT.x⟩, e, ⟨⟨hA, by show os.length ≤ 1000000; omega, hc⟩, fun x hx => ?_⟩, ?_, rfl⟩
 ·obtain ⟨o, hm, rfl⟩ := List.mem_map.1 hx
  obtain ⟨g1, g2⟩ := stC_mem h2 hm
  have := hb o.x.p (by rw [← h.says]; exact List.mem_map.2 ⟨o, hm, rfl⟩)
  exact (h.each o hm).tin g1 g2 this.1 this.2
 ·show (⟨next, (os.map OT.x).map Tx.p⟩ : Yh) = _
  rw [List.map_map, ← h.says]; rfl
theorem pair_bound {l : List Nat} : ∀ {lo hi : Nat}, l.Pairwise (· < ·) → (∀ x ∈ l, lo < x ∧ x ≤ hi) → l.length ≤ hi - lo := by
 induction l with
 | nil => intro _ _ _ _; simp
 | cons a r ih =>
  intro lo hi h hb
  rw [List.pairwise_cons] at h
  have ha := hb a (by simp)
  have := ih (lo := a) (hi := hi) h.2 (fun x hx => ⟨h.1 x hx, (hb x (by simp [hx])).2⟩)
  rw [List.length_cons]; omega
theorem TxG.sl {t : TxP} (h : TxG t) : t.stack.length ≤ 1099511627776 := by
 have h1 : (t.stack.map Lf.lsn).Pairwise (· < ·) := List.pairwise_map.2 h.so
 have h2 := pair_bound (lo := t.first) (hi := t.undo) h1 (fun x hx => by
  obtain ⟨s, hs, rfl⟩ := List.mem_map.1 hx
  exact ⟨(h.st s hs).1, (h.st s hs).2.1⟩)
 rw [List.length_map] at h2
 have := h.ul
 have := h.lm
 omega
theorem RosG.bounds {p : Yh} (h : RosG p) : ∀ t ∈ p.txns, t.stack.length ≤ 200000000000000 ∧ t.marks.length ≤ 200000000000000 := fun t ht => by
 have := (h.tx t ht).2.2
 have h1 := this.sl
 have h2 := this.ml
 omega
theorem idxB_spec (ρ : Hp) (b0 : Nat) (bs : List Bool) (hn : bs.length ≤ 10) : Spec Tryz.prog 200 [.slice (some ⟨b0, 0, none⟩) bs.length bs.length, .bool false] ρ [[(b0, .cells ⟨bs.map Value.bool⟩ 4 (0, 0))]]
  (fun z ρ' L' => (∃ i : Int, z = .int .i64 i ∧ (0 ≤ i ↔ bs.all id = false)) ∧ ρ' = ρ ∧ L' = [[(b0, .cells ⟨bs.map Value.bool⟩ 4 (0, 0))]]) := by
 refine Zg Tryz.func200 rfl rfl rfl fun u R => ?_
 simp only [Zx, List.cons_append, List.nil_append]
 repeat' (first | (refine ZE ?_; refine Zn (Zd rfl) rfl rfl ?_) | (refine Zj ?_; first | (refine Zf ?_; refine qQ ?_) | refine Zm ?_) | refine Za ?_ | (refine Zi ?_; refine Zt ?_) | (refine Zh ?_; refine Zs ?_) | intro _)
 refine ZG [(0, _), (1, _), (7, _)] (fun (ζ : (Nat)) => [(8, .int .i64 ζ), (4, .int .i64 0)]) (fun (ζ : (Nat)) => ρ) (fun (ζ : (Nat)) => [[(b0, .cells ⟨bs.map Value.bool⟩ 4 (0, 0))]]) (fun (ζ : (Nat)) => ζ ≤ bs.length ∧ ∀ x ∈ bs.take ζ, x = true) (fun (ζ : (Nat)) => bs.length - ζ) (0) (⟨Nat.zero_le _, by simp⟩) Zo Zo rfl tk ?_
 rintro k hI
 try simp only [List.cons_append, List.nil_append, List.append_assoc, List.append_eq] at hI ⊢
 try dsimp only at hI ⊢
 obtain ⟨hk, hok⟩ := hI
 by_cases hlt : k < bs.length
 ·have hcell : (bs.map Value.bool)[0 + k * 1]? = some (.bool bs[k]) := by simp [hlt]
  have ht := take_more (p := fun x => x = true) hlt
  have hmem := List.getElem_mem hlt
  generalize bs[k] = y at *
  cases y
  ·repeat' (first | (refine ZE ?_; refine Zn (Zd rfl) rfl rfl ?_) | (refine Zj ?_; first | (refine Zf ?_; refine qQ ?_) | refine Zm ?_) | refine Za ?_ | (refine Zi ?_; refine Zt ?_) | (refine Zh ?_; refine Zs ?_) | intro _)
   exact qE (L' := _) ⟨⟨k, rfl, ⟨fun _ => List.all_eq_false.2 ⟨false, hmem, by simp⟩, fun _ => by omega⟩⟩, rfl, rfl⟩
  ·repeat' (first | (refine ZE ?_; refine Zn (Zd rfl) rfl rfl ?_) | (refine Zj ?_; first | (refine Zf ?_; refine qQ ?_) | refine Zm ?_) | refine Za ?_ | (refine Zi ?_; refine Zt ?_) | (refine Zh ?_; refine Zs ?_) | intro _)
   refine Zr (k + 1) (⟨hlt, ht rfl hok⟩) Zo Zo rfl tk inferInstance (by first | omega | (dsimp only; omega))
 ·have : bs.all id = true := List.all_eq_true.2 (fun x hx => hok x (by rw [List.take_of_length_le (by omega)]; exact hx))
  repeat' (first | (refine ZE ?_; refine Zn (Zd rfl) rfl rfl ?_) | (refine Zj ?_; first | (refine Zf ?_; refine qQ ?_) | refine Zm ?_) | refine Za ?_ | (refine Zi ?_; refine Zt ?_) | (refine Zh ?_; refine Zs ?_) | intro _)
  exact qE (L' := _) ⟨⟨-1, rfl, ⟨fun h => by omega, fun h => by rw [this] at h; cases h⟩⟩, rfl, rfl⟩
theorem needB_spec (ρ : Hp) (b0 n : Nat) (bs : List Bool) (hn : bs.length ≤ 10) (hnn : n = bs.length) : Spec Tryz.prog 147 [.slice (some ⟨b0, 0, none⟩) n n] ρ [[(b0, .cells ⟨bs.map Value.bool⟩ 4 (0, 0))]]
  (fun z ρ' L' => z = .int .i64 (if bs.all id then 0 else 2) ∧ ρ' = ρ ∧ L' = []) := by
 subst hnn
 have hI := idxB_spec ρ b0 bs hn
 have hC : Spec Tryz.prog 177 [.slice (some ⟨b0, 0, none⟩) bs.length bs.length, .bool false] ρ [[(b0, .cells ⟨bs.map Value.bool⟩ 4 (0, 0))]]
  (fun z ρ' L' => z = .bool (!(bs.all id)) ∧ ρ' = ρ ∧ L' = []) := by
  refine Zg Tryz.func177 rfl rfl rfl fun u R => ?_
  simp only [Zx, List.cons_append, List.nil_append]
  repeat' (first | (refine Ze (.func 200) ?_; refine qC rfl rfl (hI) ?_; rintro v ρ' L' hle ⟨⟨i, rfl, hi⟩, rfl, rfl⟩ <;> (try simp only [kM, kN, kO])) | (refine ZE ?_; refine Zn (Zd rfl) rfl rfl ?_) | (refine Zj ?_; first | (refine Zf ?_; refine qQ ?_) | refine Zm ?_) | refine Za ?_ | (refine Zi ?_; refine Zt ?_) | (refine Zh ?_; refine Zs ?_) | intro _)
  by_cases h0 : 0 ≤ i
  ·rw [hi.1 h0, Bool.not_false, decide_eq_true (show i ≥ 0 from h0)]
   exact qE (L' := []) ⟨rfl, rfl, rfl⟩
  ·have : bs.all id = true := by
    cases h : bs.all id
    ·exact absurd (hi.2 h) h0
    ·rfl
   rw [this, Bool.not_true, decide_eq_false (show ¬ i ≥ 0 from h0)]
   exact qE (L' := []) ⟨rfl, rfl, rfl⟩
 refine Zg Tryz.func147 rfl rfl rfl fun u R => ?_
 simp only [Zx, List.cons_append, List.nil_append]
 cases hb : bs.all id
 ·rw [hb] at hC
  simp only [Bool.false_eq_true, if_false]
  repeat' (first | (refine Ze (.func 177) ?_; refine qC rfl rfl (hC) ?_; rintro v ρ' L' hle ⟨rfl, rfl, rfl⟩ <;> (try simp only [kM, kN, kO])) | (refine ZE ?_; refine Zn (Zd rfl) rfl rfl ?_) | (refine Zj ?_; first | (refine Zf ?_; refine qQ ?_) | refine Zm ?_) | refine Za ?_ | (refine Zi ?_; refine Zt ?_) | (refine Zh ?_; refine Zs ?_) | intro _)
  exact qE (L' := []) ⟨rfl, rfl, rfl⟩
 ·rw [hb] at hC
  simp only [if_true]
  repeat' (first | (refine Ze (.func 177) ?_; refine qC rfl rfl (hC) ?_; rintro v ρ' L' hle ⟨rfl, rfl, rfl⟩ <;> (try simp only [kM, kN, kO])) | (refine ZE ?_; refine Zn (Zd rfl) rfl rfl ?_) | (refine Zj ?_; first | (refine Zf ?_; refine qQ ?_) | refine Zm ?_) | refine Za ?_ | (refine Zi ?_; refine Zt ?_) | (refine Zh ?_; refine Zs ?_) | intro _)
  exact qE (L' := []) ⟨rfl, rfl, rfl⟩
end Go.Proofs.E
