/- Laws of analysis. Part 20 of 41. -/
import Derived.Test.YtkbiahafeoillaaGreatA19
namespace Go.Proofs.E
open Go
set_option linter.unusedVariables false
set_option linter.unusedSimpArgs false
set_option linter.unusedSectionVars false
set_option maxRecDepth 4000
set_option maxHeartbeats 1000000
attribute [local irreducible] Yl TL TC TE Spec Xb R1 Hp.le EnvLe TS TR YS Zk
theorem stpB_len {s : Stp} (h : YM s = true) : (XB s).length ≤ 21 := by
 unfold XB
 by_cases h23 : s.kind = 2 ∨ s.kind = 3
 ·rw [if_pos h23]
  have hr : Xr s.row = true := by
   unfold YM at h
   rw [if_neg (by omega), if_neg (by omega), if_pos h23, Bool.and_eq_true] at h
   exact h.2
  have := rowB_le hr
  simp; omega
 ·rw [if_neg h23]
  split <;> simp [Zm]
theorem ckTB_len (t : CkT) : (XT t).length = 29 := by simp [XT, Zm]
theorem ckPB_len (p : Yq) : (Wq p).length = 9 := by simp [Wq, Zm]
theorem step_kinds {s : Stp} (h : YM s = true) : (s.kind = 1 ∨ s.kind = 2 ∨ s.kind = 3 ∨ s.kind = 4) ∧ ((s.kind = 2 ∨ s.kind = 3) → Xr s.row = true) ∧ (¬ (s.kind = 2 ∨ s.kind = 3) → 0 ≤ s.row.t ∧ s.row.t < 3) := by
 unfold YM at h
 by_cases h1 : s.kind = 1
 ·rw [if_pos h1] at h
  unfold onlyOk at h
  rw [Bool.and_eq_true, decide_eq_true_eq, decide_eq_true_eq] at h
  exact ⟨.inl h1, fun e => by omega, fun _ => h.2⟩
 ·rw [if_neg h1] at h
  by_cases h4 : s.kind = 4
  ·rw [if_pos h4] at h
   unfold onlyOk at h
   rw [Bool.and_eq_true, Bool.and_eq_true, decide_eq_true_eq, decide_eq_true_eq] at h
   exact ⟨by omega, fun e => by omega, fun _ => h.1.2⟩
  ·rw [if_neg h4] at h
   by_cases h23 : s.kind = 2 ∨ s.kind = 3
   ·rw [if_pos h23, Bool.and_eq_true] at h
    exact ⟨by omega, fun _ => h.2, fun e => absurd h23 e⟩
   ·rw [if_neg h23] at h; cases h
theorem wdone_spec (ρ : Hp) (wb : Nat) (v : RV) (r : Rc) (w : Value) (l : List UInt8) (sp : List Value) (hown : Wo w l sp) (hn : l.length ≤ 70000) (h : RcIn ρ v r) (hL : LayOk r) :
  Spec Tryz.prog 197 [.pointer (some ⟨wb, 0, none⟩)] ρ [YY w l sp, wrC wb v r w] (WrP ρ wb v r (l ++ (be 8 r.next ++ XJ XB r.steps))) := by
 have hρ := Hp.le_refl ρ
 have hA := h.s.at'
 have hl := hA.len
 have hil := hL.sl
 refine Zd Tryz.func197 rfl rfl rfl fun u R => ?_
 simp only [Zo, List.cons_append, List.nil_append]
 repeat' (first | (refine Zl rfl rfl rfl rfl (by simp) rfl rfl (fun bs => ?_); refine Yb _ (h := Rem.here) (fun ρz hlz hfz => ?_); have hbs := hfz _ (List.mem_singleton.2 rfl); clear hfz; have hρ := Hp.le_trans hρ hlz; clear hlz; (try simp only [List.nil_append])) | (refine Zc (.func 196) ?_; refine qC rfl rfl (wnested_spec _ wb v r w l sp hown (by omega) hL.next) ?_; rintro v ρ' L' hle ⟨rfl, hl1, w0, sp0, hown, rfl⟩ <;> (try simp only [kM, kN, kO]); have hρ := Hp.le_trans hρ hl1; clear hl1) | (refine Zc (.func 192) ?_; refine qC rfl rfl (YR _ wb v r w0 _ sp0 hown (by (try simp only [List.length_append, List.length_cons, List.length_nil, List.length_map, Zm]) <;> omega) _ (v.s.n : Int) hbs (by omega)) ?_; rintro v ρ' L' hle ⟨rfl, hl1, w1, sp1, hown, rfl⟩ <;> (try simp only [kM, kN, kO]); have hρ := Hp.le_trans hρ hl1; clear hl1) | refine zW ?_ | intro _)
 obtain ⟨B, hB⟩ : ∃ B, l ++ be 8 r.next ++ [tB (v.s.n : Int)] = B := ⟨_, rfl⟩
 rw [hB] at hown ⊢
 have hBl : B.length ≤ 80001 := by rw [← hB]; simp [Zm]; omega
 have hfin : B ++ r.steps.flatMap XB = l ++ (be 8 r.next ++ XJ XB r.steps) := by rw [← hB]; simp [XJ, hl, tB]
 rw [show YY w1 B sp1 = YY w1 (B ++ (r.steps.take 0).flatMap XB) sp1 by simp]
 refine Zq [(0, _), (21, _), (22, _)] (fun (ζ : (Nat) × (Hp) × (Value) × (List Value)) => [(23, .int .i64 ζ.1)]) (fun (ζ : (Nat) × (Hp) × (Value) × (List Value)) => ζ.2.1) (fun (ζ : (Nat) × (Hp) × (Value) × (List Value)) => [YY ζ.2.2.1 (B ++ (r.steps.take ζ.1).flatMap XB) ζ.2.2.2, wrC wb v r ζ.2.2.1]) (fun (ζ : (Nat) × (Hp) × (Value) × (List Value)) => ζ.1 ≤ v.s.n ∧ ρ.le ζ.2.1 ∧ Wo ζ.2.2.1 (B ++ (r.steps.take ζ.1).flatMap XB) ζ.2.2.2) (fun (ζ : (Nat) × (Hp) × (Value) × (List Value)) => v.s.n - ζ.1) ((0, ρ', w1, sp1)) (⟨Nat.zero_le _, hρ, by simpa using hown⟩) Ze Ze rfl tk ?_
 rintro ⟨k, ρ1, w2, sp2⟩ hI
 try simp only [List.cons_append, List.nil_append, List.append_assoc, List.append_eq] at hI ⊢
 try dsimp only at hI ⊢
 obtain ⟨hk, hle1, hown⟩ := hI
 clear hρ
 by_cases hlt : k < v.s.n
 ·obtain ⟨b, off, C, T, fr, e1, hbb, hfit, hcc⟩ := (hA.mono hle1).get (show k < r.steps.length by omega)
  have hts := Xo XB r.steps k (by omega)
  have hmem := List.getElem_mem (show k < r.steps.length by omega)
  have hsf := h.sf _ hmem
  obtain ⟨hk4, hr23, hkt⟩ := step_kinds (hL.st _ hmem)
  have hfl := Yd XB 21 (r.steps.take k) (fun x hx => stpB_len (hL.st x (List.mem_of_mem_take hx)))
  have htl : (r.steps.take k).length ≤ 2 := by simp; omega
  generalize r.steps[k]'(by omega) = x at *
  have hxl : (B ++ (r.steps.take k).flatMap XB).length ≤ 83000 := by simp only [List.length_append]; omega
  have hmm : B ++ (r.steps.take k).flatMap XB ++ XB x = B ++ (r.steps.take (k + 1)).flatMap XB := by rw [hts]; simp
  generalize hX : B ++ (r.steps.take k).flatMap XB = X at *
  have hρ := Hp.le_refl ρ1
  rw [e1]
  by_cases h23 : x.kind = 2 ∨ x.kind = 3
  ·have hst : XB x = tB x.kind :: Yf x.row := by unfold XB; rw [if_pos h23]
   have hre := fun ρ => rowE_spec ρ x.row hsf.id
   have hrl := rowB_le (hr23 h23)
   rw [if_pos (hr23 h23), if_pos (hr23 h23)] at hre
   have hmm2 : (X ++ [tB x.kind]).map ZR ++ (Yf x.row).map ZR = (B ++ (r.steps.take (k + 1)).flatMap XB).map ZR := by rw [← hmm, hst]; simp
   have hll2 : (X ++ [tB x.kind]).length + (Yf x.row).length = (B ++ (r.steps.take (k + 1)).flatMap XB).length := by rw [← hmm, hst]; simp; omega
   have hx1 : (X ++ [tB x.kind]).length ≤ 84000 := by simp; omega
   rcases h23 with h2 | h2
   all_goals (repeat' (first | (refine Zl rfl rfl rfl rfl (by simp) rfl rfl (fun bs => ?_); refine Yb _ (h := Rem.here) (fun ρz hlz hfz => ?_); have hbs := hfz _ (List.mem_singleton.2 rfl); clear hfz; have hρ := Hp.le_trans hρ hlz; clear hlz; (try simp only [List.nil_append])) | (refine Zc (.func 192) ?_; refine qC rfl rfl (YR _ wb v r w2 X sp2 hown (by omega) _ x.kind hbs (by omega)) ?_; rintro v ρ' L' hle ⟨rfl, hl1, w3, sp3, hown, rfl⟩ <;> (try simp only [kM, kN, kO]); have hρ := Hp.le_trans hρ hl1; clear hl1; obtain ⟨va, vc, rfl, _⟩ := hown.slice) | (refine Zc (.func 214) ?_; refine qC rfl rfl (hre _) ?_; rintro v ρ' L' hle ⟨hl1, a1, n1, c1, rfl, hc1, hs1, rfl⟩ <;> (try simp only [kM, kN, kO]); have hρ := Hp.le_trans hρ hl1; clear hl1) | (have hn1 := hs1.len; refine ZZ (ys := (Yf x.row).map ZR) (m := n1) (sz := 1) rfl rfl hown (hR := by infer_instance) (SIn.srcV hs1) (by simpa using hs1.len) (u8c_one _) (by decide) rfl (by omega) (by omega) rfl (fun v' sp' hown' => ?_); rw [hmm2] at hown' ⊢; rw [← hs1.len, hll2] at hown'; obtain ⟨va', vc', rfl, _⟩ := hown'.slice) | refine zW ?_ | intro _))
   all_goals rw [← e1]
   all_goals refine Zg (k + 1, _, _, sp') (⟨hlt, Hp.le_trans hle1 hρ, hown'⟩) Ze Ze rfl tk inferInstance (by first | omega | (dsimp only; omega))
  ·have hkt := hkt h23
   have hst : XB x = tB x.kind :: (tB x.row.t :: (be 2 x.row.id ++ (if x.kind = 1 then be 8 (vN x.by') else []))) := by unfold XB; rw [if_neg h23]
   have hll2 : (X ++ [tB x.kind] ++ [tB x.row.t]).length + 2 = (X ++ [tB x.kind] ++ [tB x.row.t] ++ be 2 x.row.id).length := by simp [Zm]
   rcases (show x.kind = 1 ∨ x.kind = 4 by omega) with h1 | h1
   ·rw [if_pos h1] at hst
    have hvl := vN_lt x.by'
    repeat' (first | (refine Zl rfl rfl rfl rfl (by simp) rfl rfl (fun bs => ?_); refine Yb _ (h := Rem.here) (fun ρz hlz hfz => ?_); have hbs := hfz _ (List.mem_singleton.2 rfl); clear hfz; have hρ := Hp.le_trans hρ hlz; clear hlz; (try simp only [List.nil_append])) | (refine Zc (.func 192) ?_; refine qC rfl rfl (YR _ wb v r w2 X sp2 hown (by omega) _ x.kind hbs (by omega)) ?_; rintro v ρ' L' hle ⟨rfl, hl1, w3, sp3, hown, rfl⟩ <;> (try simp only [kM, kN, kO]); have hρ := Hp.le_trans hρ hl1; clear hl1; obtain ⟨va, vc, rfl, _⟩ := hown.slice) | (refine Zc (.func 192) ?_; refine qC rfl rfl (YR _ wb v r _ _ sp3 hown (by (try simp only [List.length_append, List.length_cons, List.length_nil, List.length_map, Zm]) <;> omega) _ x.row.t hbs (by omega)) ?_; rintro v ρ' L' hle ⟨rfl, hl1, w4, sp4, hown, rfl⟩ <;> (try simp only [kM, kN, kO]); have hρ := Hp.le_trans hρ hl1; clear hl1; obtain ⟨va, vc, rfl, _⟩ := hown.slice) | refine zW ?_ | intro _)
    refine Zu (Zk _ _ ([[(_, .cells ⟨stpV x⟩ 60 (0, 0))]])) (Zw (hT := tk) (Hp.le_refl _)) ?_
    all_goals (refine Zx 0 ?_; refine Zx 1 ?_; refine rNc 2 ?_; refine ZN 3 ?_; refine ZN 5 ?_; refine ZN 6 ?_; refine ZN 7 ?_; refine ZQ 8 ?_)
    all_goals (refine Zj (i := 4) ?_; ((try refine Zh ?_); (first | (refine Zc (.func 215) ?_; refine Yb (YY (.slice va (X ++ [tB x.kind] ++ [tB x.row.t]).length vc) (X ++ [tB x.kind] ++ [tB x.row.t]) sp4) (h := by repeat (first | exact ZD | apply ZA)) (fun ρ2 hle2 hfz => ?_); obtain ⟨a1, c1, f1, hc1, hs1⟩ := hown.sIn hfz; cases f1; refine qC rfl rfl (put16_spec _ va _ vc _ hs1 x.row.id hsf.id (by (try simp only [List.length_append, List.length_cons, List.length_nil, List.length_map, Zm]) <;> omega)) ?_; rintro v' ρ3 L3 hle3 ⟨rfl, sp5, hown, rfl⟩; simp only [List.cons_append, List.nil_append]; rw [hll2] at hown; obtain ⟨va, vc, rfl, _⟩ := hown.slice; have hρ := Hp.le_trans hρ hle2) | (refine Xv ?_; refine qQ ?_) | (refine ZF ?_; try intro _)) <;> ((try simp only [kM, kN, kO]); refine Zf ?_; refine Zi ?_)))
    all_goals (refine Zj (i := 9) ?_; ((try refine Zh ?_); (first | (refine Zc (.func 215) ?_; refine Yb (YY (.slice va (X ++ [tB x.kind] ++ [tB x.row.t]).length vc) (X ++ [tB x.kind] ++ [tB x.row.t]) sp4) (h := by repeat (first | exact ZD | apply ZA)) (fun ρ2 hle2 hfz => ?_); obtain ⟨a1, c1, f1, hc1, hs1⟩ := hown.sIn hfz; cases f1; refine qC rfl rfl (put16_spec _ va _ vc _ hs1 x.row.id hsf.id (by (try simp only [List.length_append, List.length_cons, List.length_nil, List.length_map, Zm]) <;> omega)) ?_; rintro v' ρ3 L3 hle3 ⟨rfl, sp5, hown, rfl⟩; simp only [List.cons_append, List.nil_append]; rw [hll2] at hown; obtain ⟨va, vc, rfl, _⟩ := hown.slice; have hρ := Hp.le_trans hρ hle2) | (refine Xv ?_; refine qQ ?_) | (refine ZF ?_; try intro _)) <;> ((try simp only [kM, kN, kO]); refine Zf ?_; refine Zi ?_)))
    all_goals (refine rNc 10 ?_; refine ZN 11 ?_)
    all_goals (refine Zj (i := 12) ?_; ((try refine Zh ?_); (first | (refine Xv ?_; refine qQ ?_) | (refine ZF ?_; try intro _)) <;> ((try simp only [kM, kN, kO]); refine Zf ?_; refine Zi ?_)))
    all_goals refine Zv ?_
    all_goals (repeat' (first | (simp only [vN_eq]; refine Zl rfl rfl rfl rfl (by simp) rfl rfl (fun bs => ?_); refine Yb _ (h := Rem.here) (fun ρz hlz hfz => ?_); have hbs := hfz _ (List.mem_singleton.2 rfl); clear hfz; have hρ := Hp.le_trans hρ hlz; clear hlz; (try simp only [List.nil_append])) | (refine Zc (.func 193) ?_; refine qC rfl rfl (wlong_spec _ wb v r _ _ sp5 hown (by (try simp only [List.length_append, List.length_cons, List.length_nil, List.length_map, Zm]) <;> omega) _ (vN x.by') hbs hvl) ?_; rintro v ρ' L' hle ⟨rfl, hl1, w6, sp6, hown, rfl⟩ <;> (try simp only [kM, kN, kO]); have hρ := Hp.le_trans hρ hl1; clear hl1; obtain ⟨va, vc, rfl, _⟩ := hown.slice) | refine zW ?_ | intro _))
    all_goals rw [← e1]
    all_goals have e2 : X ++ [tB x.kind] ++ [tB x.row.t] ++ be 2 x.row.id ++ be 8 (vN x.by') = B ++ (r.steps.take (k + 1)).flatMap XB := by rw [← hmm, hst]; simp
    all_goals rw [e2] at hown ⊢
    all_goals refine Zg (k + 1, _, _, sp6) (⟨hlt, Hp.le_trans hle1 hρ, hown⟩) Ze Ze rfl tk inferInstance (by first | omega | (dsimp only; omega))
   ·rw [if_neg (by omega)] at hst
    repeat' (first | (refine Zl rfl rfl rfl rfl (by simp) rfl rfl (fun bs => ?_); refine Yb _ (h := Rem.here) (fun ρz hlz hfz => ?_); have hbs := hfz _ (List.mem_singleton.2 rfl); clear hfz; have hρ := Hp.le_trans hρ hlz; clear hlz; (try simp only [List.nil_append])) | (refine Zc (.func 192) ?_; refine qC rfl rfl (YR _ wb v r w2 X sp2 hown (by omega) _ x.kind hbs (by omega)) ?_; rintro v ρ' L' hle ⟨rfl, hl1, w3, sp3, hown, rfl⟩ <;> (try simp only [kM, kN, kO]); have hρ := Hp.le_trans hρ hl1; clear hl1; obtain ⟨va, vc, rfl, _⟩ := hown.slice) | (refine Zc (.func 192) ?_; refine qC rfl rfl (YR _ wb v r _ _ sp3 hown (by (try simp only [List.length_append, List.length_cons, List.length_nil, List.length_map, Zm]) <;> omega) _ x.row.t hbs (by omega)) ?_; rintro v ρ' L' hle ⟨rfl, hl1, w4, sp4, hown, rfl⟩ <;> (try simp only [kM, kN, kO]); have hρ := Hp.le_trans hρ hl1; clear hl1; obtain ⟨va, vc, rfl, _⟩ := hown.slice) | refine zW ?_ | intro _)
    refine Zu (Zk _ _ ([[(_, .cells ⟨stpV x⟩ 60 (0, 0))]])) (Zw (hT := tk) (Hp.le_refl _)) ?_
    all_goals (refine Zx 0 ?_; refine Zx 1 ?_; refine rNc 2 ?_; refine ZN 3 ?_; refine ZN 5 ?_; refine ZN 6 ?_; refine ZN 7 ?_; refine ZQ 8 ?_)
    all_goals (refine Zj (i := 4) ?_; ((try refine Zh ?_); (first | (refine Zc (.func 215) ?_; refine Yb (YY (.slice va (X ++ [tB x.kind] ++ [tB x.row.t]).length vc) (X ++ [tB x.kind] ++ [tB x.row.t]) sp4) (h := by repeat (first | exact ZD | apply ZA)) (fun ρ2 hle2 hfz => ?_); obtain ⟨a1, c1, f1, hc1, hs1⟩ := hown.sIn hfz; cases f1; refine qC rfl rfl (put16_spec _ va _ vc _ hs1 x.row.id hsf.id (by (try simp only [List.length_append, List.length_cons, List.length_nil, List.length_map, Zm]) <;> omega)) ?_; rintro v' ρ3 L3 hle3 ⟨rfl, sp5, hown, rfl⟩; simp only [List.cons_append, List.nil_append]; rw [hll2] at hown; obtain ⟨va, vc, rfl, _⟩ := hown.slice; have hρ := Hp.le_trans hρ hle2) | (refine Xv ?_; refine qQ ?_) | (refine ZF ?_; try intro _)) <;> ((try simp only [kM, kN, kO]); refine Zf ?_; refine Zi ?_)))
    all_goals (refine Zj (i := 9) ?_; ((try refine Zh ?_); (first | (refine Zc (.func 215) ?_; refine Yb (YY (.slice va (X ++ [tB x.kind] ++ [tB x.row.t]).length vc) (X ++ [tB x.kind] ++ [tB x.row.t]) sp4) (h := by repeat (first | exact ZD | apply ZA)) (fun ρ2 hle2 hfz => ?_); obtain ⟨a1, c1, f1, hc1, hs1⟩ := hown.sIn hfz; cases f1; refine qC rfl rfl (put16_spec _ va _ vc _ hs1 x.row.id hsf.id (by (try simp only [List.length_append, List.length_cons, List.length_nil, List.length_map, Zm]) <;> omega)) ?_; rintro v' ρ3 L3 hle3 ⟨rfl, sp5, hown, rfl⟩; simp only [List.cons_append, List.nil_append]; rw [hll2] at hown; obtain ⟨va, vc, rfl, _⟩ := hown.slice; have hρ := Hp.le_trans hρ hle2) | (refine Xv ?_; refine qQ ?_) | (refine ZF ?_; try intro _)) <;> ((try simp only [kM, kN, kO]); refine Zf ?_; refine Zi ?_)))
    all_goals (refine rNc 10 ?_; refine ZN 11 ?_)
    all_goals (refine Zj (i := 12) ?_; ((try refine Zh ?_); (first | (refine Xv ?_; refine qQ ?_) | (refine ZF ?_; try intro _)) <;> ((try simp only [kM, kN, kO]); refine Zf ?_; refine Zi ?_)))
    all_goals refine Zv ?_
    all_goals (repeat' (first | refine zW ?_ | intro _))
    all_goals rw [← e1]
    all_goals have e2 : X ++ [tB x.kind] ++ [tB x.row.t] ++ be 2 x.row.id = B ++ (r.steps.take (k + 1)).flatMap XB := by rw [← hmm, hst]; simp
    all_goals rw [e2] at hown ⊢
    all_goals refine Zg (k + 1, _, _, sp5) (⟨hlt, Hp.le_trans hle1 hρ, hown⟩) Ze Ze rfl tk inferInstance (by first | omega | (dsimp only; omega))
 ·rw [show r.steps.take k = r.steps by rw [show k = r.steps.length by omega, List.take_length], hfin] at hown ⊢
  repeat' (first | refine zW ?_ | intro _)
  exact qE ⟨rfl, hle1, w2, sp2, hown, rfl⟩
theorem wckpt_spec (ρ : Hp) (wb : Nat) (v : RV) (r : Rc) (w : Value) (l : List UInt8) (sp : List Value) (hown : Wo w l sp) (hn : l.length ≤ 70000) (h : RcIn ρ v r) (hL : LayOk r) :
  Spec Tryz.prog 199 [.pointer (some ⟨wb, 0, none⟩)] ρ [YY w l sp, wrC wb v r w] (WrP ρ wb v r (l ++ (be 4 r.nextTxn.toNat ++ (XJ XT r.txns ++ XJ Wq r.dirty)))) := by
 have hρ := Hp.le_refl ρ
 have hA := h.t.at'
 have hl := hA.len
 have hA2 := h.d.at'
 have hl2 := hA2.len
 have hil := hL.tl
 have hil2 := hL.dl
 refine Zd Tryz.func199 rfl rfl rfl fun u R => ?_
 simp only [Zo, List.cons_append, List.nil_append]
 repeat' (first | (refine Zl rfl rfl rfl rfl (by simp) rfl rfl (fun bs => ?_); refine Yb _ (h := Rem.here) (fun ρz hlz hfz => ?_); have hbs := hfz _ (List.mem_singleton.2 rfl); clear hfz; have hρ := Hp.le_trans hρ hlz; clear hlz; (try simp only [List.nil_append])) | (refine Zc (.func 194) ?_; refine qC rfl rfl (wtxn_spec _ wb v r w l sp hown (by omega) r.nextTxn hL.nextTxn) ?_; rintro v ρ' L' hle ⟨rfl, hl1, w0, sp0, hown, rfl⟩ <;> (try simp only [kM, kN, kO]); have hρ := Hp.le_trans hρ hl1; clear hl1) | (refine Zc (.func 192) ?_; refine qC rfl rfl (YR _ wb v r w0 _ sp0 hown (by (try simp only [List.length_append, List.length_cons, List.length_nil, List.length_map, Zm]) <;> omega) _ (v.t.n : Int) hbs (by omega)) ?_; rintro v ρ' L' hle ⟨rfl, hl1, w1, sp1, hown, rfl⟩ <;> (try simp only [kM, kN, kO]); have hρ := Hp.le_trans hρ hl1; clear hl1) | refine zV ?_ | intro _)
 obtain ⟨B, hB⟩ : ∃ B, l ++ be 4 r.nextTxn.toNat ++ [tB (v.t.n : Int)] = B := ⟨_, rfl⟩
 rw [hB] at hown ⊢
 have hBl : B.length ≤ 80001 := by rw [← hB]; simp [Zm]; omega
 have hfin : B ++ r.txns.flatMap XT = l ++ (be 4 r.nextTxn.toNat ++ XJ XT r.txns) := by rw [← hB]; simp [XJ, hl, tB]
 rw [show YY w1 B sp1 = YY w1 (B ++ (r.txns.take 0).flatMap XT) sp1 by simp]
 refine Zq [(0, _), (26, _), (27, _)] (fun (ζ : (Nat) × (Hp) × (Value) × (List Value)) => [(28, .int .i64 ζ.1)]) (fun (ζ : (Nat) × (Hp) × (Value) × (List Value)) => ζ.2.1) (fun (ζ : (Nat) × (Hp) × (Value) × (List Value)) => [YY ζ.2.2.1 (B ++ (r.txns.take ζ.1).flatMap XT) ζ.2.2.2, wrC wb v r ζ.2.2.1]) (fun (ζ : (Nat) × (Hp) × (Value) × (List Value)) => ζ.1 ≤ v.t.n ∧ ρ.le ζ.2.1 ∧ Wo ζ.2.2.1 (B ++ (r.txns.take ζ.1).flatMap XT) ζ.2.2.2) (fun (ζ : (Nat) × (Hp) × (Value) × (List Value)) => v.t.n - ζ.1) ((0, ρ', w1, sp1)) (⟨Nat.zero_le _, hρ, by simpa using hown⟩) Ze Ze rfl tk ?_
 rintro ⟨k, ρ1, w2, sp2⟩ hI
 try simp only [List.cons_append, List.nil_append, List.append_assoc, List.append_eq] at hI ⊢
 try dsimp only at hI ⊢
 obtain ⟨hk, hle1, hown⟩ := hI
 clear hρ
 by_cases hlt : k < v.t.n
 ·obtain ⟨b, off, C, T, fr, e1, hbb, hfit, hcc⟩ := (hA.mono hle1).get (show k < r.txns.length by omega)
  have hts := Xo XT r.txns k (by omega)
  have hmem := List.getElem_mem (show k < r.txns.length by omega)
  obtain ⟨g1, g2, g3, g4, g5⟩ := hL.tx _ hmem
  have hfl := Yd XT 29 (r.txns.take k) (fun x _ => Nat.le_of_eq (ckTB_len x))
  have htl : (r.txns.take k).length ≤ 8 := by simp; omega
  generalize r.txns[k]'(by omega) = x at *
  have hxl : (B ++ (r.txns.take k).flatMap XT).length ≤ 83000 := by simp only [List.length_append]; omega
  have hmm : B ++ (r.txns.take k).flatMap XT ++ XT x = B ++ (r.txns.take (k + 1)).flatMap XT := by rw [hts]; simp
  generalize hX : B ++ (r.txns.take k).flatMap XT = X at *
  have hρ := Hp.le_refl ρ1
  rw [e1]
  repeat' (first | (refine Zl rfl rfl rfl rfl (by simp) rfl rfl (fun bs => ?_); refine Yb _ (h := Rem.here) (fun ρz hlz hfz => ?_); have hbs := hfz _ (List.mem_singleton.2 rfl); clear hfz; have hρ := Hp.le_trans hρ hlz; clear hlz; (try simp only [List.nil_append])) | (refine Zc (.func 194) ?_; refine qC rfl rfl (wtxn_spec _ wb v r w2 X sp2 hown (by omega) x.txn g1) ?_; rintro v ρ' L' hle ⟨rfl, hl1, w3, sp3, hown, rfl⟩ <;> (try simp only [kM, kN, kO]); have hρ := Hp.le_trans hρ hl1; clear hl1) | (refine Zc (.func 193) ?_; refine qC rfl rfl (wlong3_spec _ wb v r w3 _ sp3 hown (by (try simp only [List.length_append, List.length_cons, List.length_nil, List.length_map, Zm]) <;> omega) _ x.first x.last x.undo hbs g2 g3 g4) ?_; rintro v ρ' L' hle ⟨rfl, hl1, w4, sp4, hown, rfl⟩ <;> (try simp only [kM, kN, kO]); have hρ := Hp.le_trans hρ hl1; clear hl1) | (refine Zc (.func 192) ?_; refine qC rfl rfl (YR _ wb v r w4 _ sp4 hown (by (try simp only [List.length_append, List.length_cons, List.length_nil, List.length_map, Zm]) <;> omega) _ x.state hbs g5) ?_; rintro v ρ' L' hle ⟨rfl, hl1, w5, sp5, hown, rfl⟩ <;> (try simp only [kM, kN, kO]); have hρ := Hp.le_trans hρ hl1; clear hl1) | refine zV ?_ | intro _)
  rw [← e1]
  have e2 : X ++ be 4 x.txn.toNat ++ (be 8 x.first ++ (be 8 x.last ++ be 8 x.undo)) ++ [tB x.state] = B ++ (r.txns.take (k + 1)).flatMap XT := by rw [← hmm]; simp [XT]
  rw [e2] at hown ⊢
  refine Zg (k + 1, _, w5, sp5) (⟨hlt, Hp.le_trans hle1 hρ, hown⟩) Ze Ze rfl tk inferInstance (by first | omega | (dsimp only; omega))
 ·rw [show r.txns.take k = r.txns by rw [show k = r.txns.length by omega, List.take_length], hfin] at hown ⊢
  have hρ := hle1
  obtain ⟨B2, hB2⟩ : ∃ B2, l ++ (be 4 r.nextTxn.toNat ++ XJ XT r.txns) = B2 := ⟨_, rfl⟩
  have hlT : (XJ XT r.txns).length ≤ 300 := by
   have := Yd XT 29 r.txns (fun x _ => Nat.le_of_eq (ckTB_len x))
   unfold XJ; rw [List.length_cons]; omega
  have hB2l : B2.length ≤ 71000 := by rw [← hB2]; simp [Zm]; omega
  rw [hB2] at hown ⊢
  repeat' (first | (refine Zl rfl rfl rfl rfl (by simp) rfl rfl (fun bs => ?_); refine Yb _ (h := Rem.here) (fun ρz hlz hfz => ?_); have hbs := hfz _ (List.mem_singleton.2 rfl); clear hfz; have hρ := Hp.le_trans hρ hlz; clear hlz; (try simp only [List.nil_append])) | (refine Zc (.func 192) ?_; refine qC rfl rfl (YR _ wb v r w2 B2 sp2 hown (by omega) _ (v.d.n : Int) hbs (by omega)) ?_; rintro v ρ' L' hle ⟨rfl, hl1, w1, sp1, hown, rfl⟩ <;> (try simp only [kM, kN, kO]); have hρ := Hp.le_trans hρ hl1; clear hl1) | refine zV ?_ | intro _)
  obtain ⟨B3, hB3⟩ : ∃ B3, B2 ++ [tB (v.d.n : Int)] = B3 := ⟨_, rfl⟩
  rw [hB3] at hown ⊢
  have hBl3 : B3.length ≤ 80001 := by rw [← hB3]; simp; omega
  have hfin3 : B3 ++ r.dirty.flatMap Wq = l ++ (be 4 r.nextTxn.toNat ++ (XJ XT r.txns ++ XJ Wq r.dirty)) := by rw [← hB3, ← hB2]; simp [XJ, hl2, tB]
  rw [show YY w1 B3 sp1 = YY w1 (B3 ++ (r.dirty.take 0).flatMap Wq) sp1 by simp]
  refine Zq [(0, _), (64, _), (65, _)] (fun (ζ : (Nat) × (Hp) × (Value) × (List Value)) => [(66, .int .i64 ζ.1)]) (fun (ζ : (Nat) × (Hp) × (Value) × (List Value)) => ζ.2.1) (fun (ζ : (Nat) × (Hp) × (Value) × (List Value)) => [YY ζ.2.2.1 (B3 ++ (r.dirty.take ζ.1).flatMap Wq) ζ.2.2.2, wrC wb v r ζ.2.2.1]) (fun (ζ : (Nat) × (Hp) × (Value) × (List Value)) => ζ.1 ≤ v.d.n ∧ ρ.le ζ.2.1 ∧ Wo ζ.2.2.1 (B3 ++ (r.dirty.take ζ.1).flatMap Wq) ζ.2.2.2) (fun (ζ : (Nat) × (Hp) × (Value) × (List Value)) => v.d.n - ζ.1) ((0, ρ', w1, sp1)) (⟨Nat.zero_le _, hρ, by simpa using hown⟩) Ze Ze rfl tk ?_
  rintro ⟨j, ρ2, w3, sp3⟩ hI
  try simp only [List.cons_append, List.nil_append, List.append_assoc, List.append_eq] at hI ⊢
  try dsimp only at hI ⊢
  obtain ⟨hj, hle2, hown⟩ := hI
  clear hρ
  by_cases hlj : j < v.d.n
  ·obtain ⟨b, off, C, T, fr, e1, hbb, hfit, hcc⟩ := (hA2.mono hle2).get (show j < r.dirty.length by omega)
   have hts := Xo Wq r.dirty j (by omega)
   have hmem := List.getElem_mem (show j < r.dirty.length by omega)
   obtain ⟨g1, g2⟩ := hL.di _ hmem
   have hfl := Yd Wq 9 (r.dirty.take j) (fun x _ => Nat.le_of_eq (ckPB_len x))
   have htl : (r.dirty.take j).length ≤ 64 := by simp; omega
   generalize r.dirty[j]'(by omega) = x at *
   have hxl : (B3 ++ (r.dirty.take j).flatMap Wq).length ≤ 83000 := by simp only [List.length_append]; omega
   have hmm : B3 ++ (r.dirty.take j).flatMap Wq ++ Wq x = B3 ++ (r.dirty.take (j + 1)).flatMap Wq := by rw [hts]; simp
   generalize hX : B3 ++ (r.dirty.take j).flatMap Wq = X at *
   have hρ := Hp.le_refl ρ2
   rw [e1]
   repeat' (first | (refine Zl rfl rfl rfl rfl (by simp) rfl rfl (fun bs => ?_); refine Yb _ (h := Rem.here) (fun ρz hlz hfz => ?_); have hbs := hfz _ (List.mem_singleton.2 rfl); clear hfz; have hρ := Hp.le_trans hρ hlz; clear hlz; (try simp only [List.nil_append])) | (refine Zc (.func 192) ?_; refine qC rfl rfl (YR _ wb v r w3 X sp3 hown (by omega) _ x.page hbs (by omega)) ?_; rintro v ρ' L' hle ⟨rfl, hl1, w4, sp4, hown, rfl⟩ <;> (try simp only [kM, kN, kO]); have hρ := Hp.le_trans hρ hl1; clear hl1) | (refine Zc (.func 193) ?_; refine qC rfl rfl (wlong_spec _ wb v r w4 _ sp4 hown (by (try simp only [List.length_append, List.length_cons, List.length_nil, List.length_map, Zm]) <;> omega) _ x.since hbs g2) ?_; rintro v ρ' L' hle ⟨rfl, hl1, w5, sp5, hown, rfl⟩ <;> (try simp only [kM, kN, kO]); have hρ := Hp.le_trans hρ hl1; clear hl1) | refine zV ?_ | intro _)
   rw [← e1]
   have e2 : X ++ [tB x.page] ++ be 8 x.since = B3 ++ (r.dirty.take (j + 1)).flatMap Wq := by rw [← hmm]; simp [Wq]
   rw [e2] at hown ⊢
   refine Zg (j + 1, _, w5, sp5) (⟨hlj, Hp.le_trans hle2 hρ, hown⟩) Ze Ze rfl tk inferInstance (by first | omega | (dsimp only; omega))
  ·rw [show r.dirty.take j = r.dirty by rw [show j = r.dirty.length by omega, List.take_length], hfin3] at hown ⊢
   repeat' (first | refine zV ?_ | intro _)
   exact qE ⟨rfl, hle2, w3, sp3, hown, rfl⟩
def layF (k : Int) : Nat := if k = 2 then 195 else if k = 3 then 196 else if k = 4 then 197 else if k = 5 then 198 else 199
theorem lay_spec (wb : Nat) (v : RV) (r : Rc) (hL : LayOk r) (hk : r.kind = 2 ∨ r.kind = 3 ∨ r.kind = 4 ∨ r.kind = 5 ∨ r.kind = 9) : Ya Tryz.prog (layF r.kind) ∧ ∀ (ρ : Hp) (w : Value) (l : List UInt8) (sp : List Value), Wo w l sp → l.length ≤ 60000 → RcIn ρ v r →
  Spec Tryz.prog (layF r.kind) [.pointer (some ⟨wb, 0, none⟩)] ρ [YY w l sp, wrC wb v r w] (WrP ρ wb v r (l ++ recTB r)) := by
 unfold layF recTB
 rcases hk with e | e | e | e | e
 ·rw [if_pos e, if_pos e]
  exact ⟨inferInstance, fun ρ w l sp hown hn h => wimages_spec ρ wb v r w l sp hown (by omega) h hL⟩
 ·rw [if_neg (by omega), if_pos e, if_neg (by omega), if_pos e]
  exact ⟨inferInstance, fun ρ w l sp hown hn h => wnested_spec ρ wb v r w l sp hown (by omega) hL.next⟩
 ·rw [if_neg (by omega), if_neg (by omega), if_pos e, if_neg (by omega), if_neg (by omega), if_pos e]
  exact ⟨inferInstance, fun ρ w l sp hown hn h => wdone_spec ρ wb v r w l sp hown (by omega) h hL⟩
 ·rw [if_neg (by omega), if_neg (by omega), if_neg (by omega), if_pos e, if_neg (by omega), if_neg (by omega), if_neg (by omega), if_pos e]
  exact ⟨inferInstance, fun ρ w l sp hown hn h => wundone_spec ρ wb v r w l sp hown (by omega) h hL⟩
 ·rw [if_neg (by omega), if_neg (by omega), if_neg (by omega), if_neg (by omega), if_neg (by omega), if_neg (by omega), if_neg (by omega), if_neg (by omega), if_pos e]
  exact ⟨inferInstance, fun ρ w l sp hown hn h => wckpt_spec ρ wb v r w l sp hown (by omega) h hL⟩
theorem layF_chain {f : Nat → Option Value} {k : Int} (hk : k = 2 ∨ k = 3 ∨ k = 4 ∨ k = 5 ∨ k = 9) : (if k = 9 then f 199 else if k = 5 then f 198 else if k = 4 then f 197 else if k = 3 then f 196 else if k = 2 then f 195 else none) = f (layF k) := by
 unfold layF
 rcases hk with e | e | e | e | e <;> subst e <;> rfl
theorem recTB_none {r : Rc} (hk : ¬ (r.kind = 2 ∨ r.kind = 3 ∨ r.kind = 4 ∨ r.kind = 5 ∨ r.kind = 9)) : recTB r = [] := by
 unfold recTB
 rw [if_neg (by omega), if_neg (by omega), if_neg (by omega), if_neg (by omega), if_neg (by omega)]
theorem rlaid_spec (ρ : Hp) (v : RV) (r : Rc) (h : RcIn ρ v r) (hL : LayOk r) : Spec Tryz.prog 176 [.agg ⟨Yx v r⟩] ρ []
  (fun z ρ' L' => ρ.le ρ' ∧ ∃ a c, z = .slice a (XA r).length c ∧ (XA r).length ≤ c ∧ SIn ρ' ZR a (XA r).length (XA r) ∧ L' = []) := by
 have hρ := Hp.le_refl ρ
 have hnil : Xm .i64 [] := by intro e he; simp at he
 have hg0 : ∀ k : Int, XH [] k = none := fun _ => rfl
 have k1 := hL.kind
 have k2 := hL.lsn
 have k3 := hL.txn
 have k4 := hL.prev
 refine Zd Tryz.func176 rfl rfl rfl fun u R => ?_
 simp only [Zo, List.cons_append, List.nil_append]
 repeat' (first | (refine Zl rfl rfl rfl rfl (by simp) rfl rfl (fun bs => ?_); refine Yb _ (h := Rem.here) (fun ρz hlz hfz => ?_); have hbs := hfz _ (List.mem_singleton.2 rfl); clear hfz; have hρ := Hp.le_trans hρ hlz; clear hlz; (try simp only [List.nil_append])) | (rename_i rb wb; refine Zc (.func 192) ?_; refine tl_call rfl rfl (YR _ _ v r (.slice none 0 0) [] [] (OwnS.nil 1) (by decide) _ r.kind hbs k1) (take_cons' rem_nil' (take_cons' ZD take_nil')) rfl ?_; rintro z1 ρ1 L1 hle0 ⟨rfl, hl1, w1, sp1, hown, rfl⟩; simp only [List.cons_append, List.nil_append] at hown ⊢; have hρ := Hp.le_trans hρ hl1; clear hl1) | (refine Zc (.func 193) ?_; refine qC rfl rfl ((wlong_spec _ _ v r w1 _ sp1 hown (by (try simp only [List.length_append, List.length_cons, List.length_nil, List.length_map, Zm]) <;> omega) _ r.lsn hbs k2)) ?_; rintro v ρ' L' hle ⟨rfl, hl1, w2, sp2, hown, rfl⟩ <;> (try simp only [kM, kN, kO]); have hρ := Hp.le_trans hρ hl1; clear hl1) | (refine Zc (.func 194) ?_; refine qC rfl rfl ((wtxn_spec _ _ v r w2 _ sp2 hown (by (try simp only [List.length_append, List.length_cons, List.length_nil, List.length_map, Zm]) <;> omega) r.txn k3)) ?_; rintro v ρ' L' hle ⟨rfl, hl1, w3, sp3, hown, rfl⟩ <;> (try simp only [kM, kN, kO]); have hρ := Hp.le_trans hρ hl1; clear hl1) | (refine Zc (.func 193) ?_; refine qC rfl rfl ((wlong_spec _ _ v r w3 _ sp3 hown (by (try simp only [List.length_append, List.length_cons, List.length_nil, List.length_map, Zm]) <;> omega) _ r.prev hbs k4)) ?_; rintro v ρ' L' hle ⟨rfl, hl1, w4, sp4, hown, rfl⟩ <;> (try simp only [kM, kN, kO]); have hρ := Hp.le_trans hρ hl1; clear hl1) | (refine Ys rfl rfl rfl hnil (fun es1 ck1 i1 j1 => ?_)) | (refine Ys rfl rfl rfl i1 (fun es2 ck2 i2 j2 => ?_)) | (refine Ys rfl rfl rfl i2 (fun es3 ck3 i3 j3 => ?_)) | (refine Ys rfl rfl rfl i3 (fun es4 ck4 i4 j4 => ?_)) | refine zV ?_ | intro _)
 rename_i mb
 refine Ys rfl rfl rfl i4 (fun es5 ck5 i5 j5 => ?_)
 have hg := j5 r.kind
 rw [j4, j3, j2, j1, hg0] at hg
 clear j1 j2 j3 j4 j5 i1 i2 i3 i4
 have hH : tB r.kind :: (be 8 r.lsn ++ be 4 r.txn.toNat ++ be 8 r.prev) = recHB r := by simp [recHB]
 have hHl : (recHB r).length ≤ 100 := by simp [recHB, Zm]
 simp only [List.cons_append, List.nil_append, hH] at hown ⊢
 by_cases hk : r.kind = 2 ∨ r.kind = 3 ∨ r.kind = 4 ∨ r.kind = 5 ∨ r.kind = 9
 ·obtain ⟨hF, hS⟩ := lay_spec wb v r hL hk
  have hS := fun ρ (hle : Hp.le _ ρ) => hS ρ w4 _ sp4 hown (by omega) (h.mono hle)
  have hgF : XH es5 r.kind = some (Value.func (.func (layF r.kind)) ⟨[.pointer (some ⟨wb, 0, none⟩)]⟩ ⟨[]⟩) := by
   rw [hg]
   exact layF_chain (f := fun F => some (Value.func (.func F) ⟨[.pointer (some ⟨wb, 0, none⟩)]⟩ ⟨[]⟩)) hk
  clear hg
  generalize layF r.kind = F at *
  repeat' (first | (refine Zc (.tmp 46) ?_; refine qC rfl rfl (hS _ hρ) ?_; rintro v ρ' L' hle ⟨rfl, hl1, w5, sp5, hown, rfl⟩ <;> (try simp only [kM, kN, kO]); have hρ := Hp.le_trans hρ hl1; clear hl1) | refine zV ?_ | intro _)
  have hB : recHB r ++ recTB r = XA r := rfl
  rw [hB] at hown ⊢
  obtain ⟨va, vc, rfl, _⟩ := hown.slice
  repeat' (first | refine zV ?_ | intro _)
  refine ZY (YY (.slice va (XA r).length vc) (XA r) sp5) (h := by repeat (first | exact ZD | apply ZA)) (fun ρ6 hle6 hfz => ?_)
  obtain ⟨a6, c6, e6, hc6, hs6⟩ := hown.sIn hfz
  cases e6
  exact qE ⟨Hp.le_trans hρ hle6, va, vc, rfl, hc6, hs6, rfl⟩
 ·have hgN : XH es5 r.kind = none := by
   rw [hg]
   simp only [show ¬ r.kind = 9 by omega, show ¬ r.kind = 5 by omega, show ¬ r.kind = 4 by omega, show ¬ r.kind = 3 by omega, show ¬ r.kind = 2 by omega, if_false]
  clear hg
  have hB : recHB r = XA r := by unfold XA; rw [recTB_none hk, List.append_nil]
  rw [hB] at hown ⊢
  obtain ⟨va, vc, rfl, _⟩ := hown.slice
  repeat' (first | refine zV ?_ | intro _)
  refine ZY (YY (.slice va (XA r).length vc) (XA r) sp4) (h := by repeat (first | exact ZD | apply ZA)) (fun ρ6 hle6 hfz => ?_)
  obtain ⟨a6, c6, e6, hc6, hs6⟩ := hown.sIn hfz
  cases e6
  exact qE ⟨Hp.le_trans hρ hle6, va, vc, rfl, hc6, hs6, rfl⟩
structure IdFit (c : Cont) : Prop where
 row : ∀ r ∈ c.rows, RowFit r
 kid : ∀ k ∈ c.kids, k.id < 65536
theorem contB_form {c : Cont} (h : YE c = true) : (c.kind = 0 ∧ c = ⟨0, [], []⟩ ∧ Xf c = [0]) ∨ (c.kind = 1 ∧ c.kids = [] ∧ Xf c = 1 :: (UInt8.ofNat c.rows.length :: c.rows.flatMap Yf)) ∨ (c.kind = 2 ∧ c.rows = [] ∧ Xf c = 2 :: (UInt8.ofNat c.kids.length :: c.kids.flatMap Xt)) := by
 have hF := (contOk_facts h).kind
 obtain ⟨kind, rows, kids⟩ := c
 dsimp only at hF ⊢
 rcases hF with ⟨rfl, rfl, rfl⟩ | ⟨rfl, rfl⟩ | ⟨rfl, rfl, _⟩
 ·exact .inl ⟨rfl, rfl, by simp [Xf, cntB]; rfl⟩
 ·exact .inr (.inl ⟨rfl, rfl, by simp [Xf, cntB]; rfl⟩)
 ·exact .inr (.inr ⟨rfl, rfl, by simp [Xf, cntB]; rfl⟩)
abbrev ztC : Cont := ⟨0, [], []⟩
abbrev nilCV : CV := ⟨none, 0, 0, none, 0, 0⟩
def zeroRc : Rc := ⟨0, 0, 0, 0, 0, [], [], 0, [], []⟩
abbrev Im.plain (x : Im) : Im := ⟨x.page, nilCV, x.b, nilCV, x.a⟩
abbrev Rc.plain (r : Rc) : Rc := { r with ims := r.ims.map Im.plain }
theorem up_all {α : Type} {right : α → Bool} {by' : α → Int} {l : List α} (h : upB right by' l l.length = true) : ∀ i (hi : i < l.length), right l[i] = true ∧ (i = 0 ∨ by' (l[i - 1]'(by omega)) < by' l[i]) := by
 intro i hi
 obtain ⟨h1, h2⟩ := (XP h (Nat.le_refl _)).2 i hi hi
 refine ⟨h1, ?_⟩
 rcases h2 with h2 | h2
 ·exact .inl h2
 ·exact .inr (of_decide_eq_true h2)
theorem up_mem {α : Type} {right : α → Bool} {by' : α → Int} {l : List α} (h : upB right by' l l.length = true) : ∀ x ∈ l, right x = true := by
 intro x hx
 obtain ⟨i, hi, rfl⟩ := List.mem_iff_getElem.1 hx
 exact (up_all h i hi).1
theorem ckP_len {lsn : Nat} {l : List Yq} (h : upB (ckPOk lsn) Yq.page l l.length = true) : l.length ≤ 64 := by
 have hp : ∀ i (hi : i < l.length), 0 ≤ l[i].page ∧ l[i].page < 64 := fun i hi => by
  have := (up_all h i hi).1
  unfold ckPOk Wv at this
  rw [Bool.and_eq_true, decide_eq_true_eq] at this
  exact this.1
 have hi : ∀ i (hi : i < l.length), (i : Int) ≤ l[i].page := by
  intro i
  induction i with
  | zero => intro hi; exact (hp 0 hi).1
  | succ i ih =>
   intro hi
   have h1 := ih (by omega)
   have h2 := (up_all h (i + 1) hi).2
   simp only [Nat.add_sub_cancel] at h2
   omega
 rcases Nat.lt_or_ge 64 l.length with hl | hl
 ·have := hi 64 hl
  have := hp 64 hl
  omega
 ·exact hl
structure RecOk (r : Rc) : Prop where
 kind : 1 ≤ r.kind ∧ r.kind ≤ 9
 lsn : 1 ≤ r.lsn ∧ r.lsn ≤ 1099511627776 ∧ r.prev < r.lsn
 txn : 0 ≤ r.txn ∧ r.txn ≤ 1073741824
 next : r.next ≤ r.lsn
 n0 : r.next = 0 ∨ r.kind = 3 ∨ r.kind = 4 ∨ r.kind = 5
 i0 : r.ims = [] ∨ r.kind = 2 ∨ r.kind = 5
 s0 : r.steps = [] ∨ r.kind = 4
 c0 : (r.txns = [] ∧ r.dirty = [] ∧ r.nextTxn = 0) ∨ r.kind = 9
 il : r.ims.length ≤ 16
 im : ∀ x ∈ r.ims, (0 ≤ x.page ∧ x.page < 64) ∧ YE x.a = true ∧ YE x.b = true
 i5 : r.kind = 5 → ∀ x ∈ r.ims, x.b = ztC
 sl : r.steps.length ≤ 2
 st : ∀ s ∈ r.steps, YM s = true
 nt : 0 ≤ r.nextTxn ∧ r.nextTxn ≤ 1073741824
 tl : r.txns.length ≤ 8
 tx : ∀ t ∈ r.txns, ckTOk r.lsn r.nextTxn t = true
 dl : r.dirty.length ≤ 64
 di : ∀ p ∈ r.dirty, ckPOk r.lsn p = true
theorem ims_facts {b : Bool} {l : List Im} (h : imsOk b l = true) : l.length ≤ 16 ∧ (∀ x ∈ l, (0 ≤ x.page ∧ x.page < 64) ∧ YE x.a = true ∧ YE x.b = true) ∧ (b = false → ∀ x ∈ l, x.b = ztC) := by
 unfold imsOk at h
 rw [Bool.and_eq_true, decide_eq_true_eq] at h
 obtain ⟨h1, h2⟩ := h
 have h3 := up_mem h2
 have h4 : ∀ x ∈ l, (0 ≤ x.page ∧ x.page < 64) ∧ YE x.a = true ∧ YE x.b = true ∧ (b = true ∨ x.b.kind = 0) := fun x hx => by
  have := h3 x hx
  unfold imOk Wv at this
  rw [Bool.and_eq_true, Bool.and_eq_true, Bool.and_eq_true, Bool.or_eq_true, decide_eq_true_eq, decide_eq_true_eq] at this
  exact this
 refine ⟨h1, fun x hx => ⟨(h4 x hx).1, (h4 x hx).2.1, (h4 x hx).2.2.1⟩, fun hb x hx => ?_⟩
 obtain ⟨_, _, g3, g4⟩ := h4 x hx
 have g5 : x.b.kind = 0 := by
  rcases g4 with g4 | g4
  ·rw [hb] at g4; cases g4
  ·exact g4
 rcases contB_form g3 with e | e | e
 ·exact e.2.1
 ·omega
 ·omega
theorem Xp {r : Rc} (h : ZU r = true) : RecOk r := by
 unfold ZU headOk bareOk at h
 rw [Bool.and_eq_true, Bool.and_eq_true, Bool.and_eq_true, decide_eq_true_eq, decide_eq_true_eq, decide_eq_true_eq] at h
 obtain ⟨hk, ⟨h1, h2, h3, h4, h5, h6, h7⟩, ha, b1, b2, b3, b4⟩ := h
 unfold askOk at ha
 obtain ⟨k, lsn, txn, prev, next, ims, steps, nt, txns, dirty⟩ := r
 dsimp only at *
 by_cases k2 : k = 2
 ·rw [if_pos k2, Bool.and_eq_true] at ha
  obtain ⟨f1, f2, f3⟩ := ims_facts ha.2
  obtain rfl : steps = [] := by rcases b3 with b3 | b3 <;> first | exact b3 | omega
  obtain ⟨rfl, rfl, rfl⟩ : txns = [] ∧ dirty = [] ∧ nt = 0 := by rcases b4 with b4 | b4 <;> first | exact b4 | omega
  exact ⟨hk, ⟨h1, h2, h3⟩, ⟨h4, h5⟩, by dsimp only; omega, b1, b2, b3, b4, f1, f2, fun e => by dsimp only at e; omega, by simp, by simp, by simp, by simp, by simp, by simp, by simp⟩
 ·rw [if_neg k2] at ha
  by_cases k3 : k = 3
  ·rw [if_pos k3, decide_eq_true_eq] at ha
   obtain rfl : ims = [] := by rcases b2 with b2 | b2 <;> first | exact b2 | omega
   obtain rfl : steps = [] := by rcases b3 with b3 | b3 <;> first | exact b3 | omega
   obtain ⟨rfl, rfl, rfl⟩ : txns = [] ∧ dirty = [] ∧ nt = 0 := by rcases b4 with b4 | b4 <;> first | exact b4 | omega
   exact ⟨hk, ⟨h1, h2, h3⟩, ⟨h4, h5⟩, by dsimp only; omega, b1, b2, b3, b4, by simp, by simp, by simp, by simp, by simp, by simp, by simp, by simp, by simp, by simp⟩
  ·rw [if_neg k3] at ha
   by_cases k4 : k = 4
   ·rw [if_pos k4, Bool.and_eq_true, Bool.and_eq_true, decide_eq_true_eq, decide_eq_true_eq] at ha
    obtain rfl : ims = [] := by rcases b2 with b2 | b2 <;> first | exact b2 | omega
    obtain ⟨rfl, rfl, rfl⟩ : txns = [] ∧ dirty = [] ∧ nt = 0 := by rcases b4 with b4 | b4 <;> first | exact b4 | omega
    exact ⟨hk, ⟨h1, h2, h3⟩, ⟨h4, h5⟩, by dsimp only; omega, b1, b2, b3, b4, by simp, by simp, by simp, ha.2.1.2, List.all_eq_true.1 ha.2.2, by simp, by simp, by simp, by simp, by simp⟩
   ·rw [if_neg k4] at ha
    by_cases k5 : k = 5
    ·rw [if_pos k5, Bool.and_eq_true, decide_eq_true_eq] at ha
     obtain ⟨f1, f2, f3⟩ := ims_facts ha.2
     obtain rfl : steps = [] := by rcases b3 with b3 | b3 <;> first | exact b3 | omega
     obtain ⟨rfl, rfl, rfl⟩ : txns = [] ∧ dirty = [] ∧ nt = 0 := by rcases b4 with b4 | b4 <;> first | exact b4 | omega
     exact ⟨hk, ⟨h1, h2, h3⟩, ⟨h4, h5⟩, by dsimp only; omega, b1, b2, b3, b4, f1, f2, fun _ => f3 rfl, by simp, by simp, by simp, by simp, by simp, by simp, by simp⟩
    ·rw [if_neg k5] at ha
     obtain rfl : ims = [] := by rcases b2 with b2 | b2 <;> first | exact b2 | omega
     obtain rfl : steps = [] := by rcases b3 with b3 | b3 <;> first | exact b3 | omega
     by_cases k9 : k = 9
     ·rw [if_pos k9, Bool.and_eq_true, Bool.and_eq_true, decide_eq_true_eq] at ha
      obtain ⟨⟨a1, a2, a3⟩, a4, a5⟩ := ha
      exact ⟨hk, ⟨h1, h2, h3⟩, ⟨h4, h5⟩, by dsimp only; omega, b1, b2, b3, b4, by simp, by simp, by simp, by simp, by simp, ⟨by dsimp only; omega, a2⟩, a3, up_mem a4, ckP_len a5, up_mem a5⟩
     ·obtain ⟨rfl, rfl, rfl⟩ : txns = [] ∧ dirty = [] ∧ nt = 0 := by rcases b4 with b4 | b4 <;> first | exact b4 | omega
      exact ⟨hk, ⟨h1, h2, h3⟩, ⟨h4, h5⟩, by dsimp only; omega, b1, b2, b3, b4, by simp, by simp, by simp, by simp, by simp, by simp, by simp, by simp, by simp, by simp⟩
theorem ContFit.id' {c : Cont} (h : ContFit c) : IdFit c := ⟨h.row, fun k hk => (h.kid k hk).id⟩
end Go.Proofs.E
