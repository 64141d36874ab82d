/- The law PoolTells. Part 8 of 20. -/
import Derived.Test.YtobldeddiffjgaaGreatC7
namespace Go.Proofs.E
open Go
set_option linter.unusedVariables false
set_option linter.unusedSimpArgs false
set_option linter.unusedSectionVars false
set_option maxRecDepth 4000
set_option maxHeartbeats 1000000
attribute [local irreducible] Yl TL TC TE Spec XU R1 Hp.le EnvLe TS TR YS Zr
theorem imB_len {two : Bool} {x : Im} (ha : ZT x.a = true) (hb : ZT x.b = true) : (imB two x).length ≤ 165 := by
 have h1 := Vg ha
 have h2 := Vg hb
 cases two <;> simp [imB] <;> omega
theorem wimages_spec (ρ : Hp) (wb : Nat) (v : RV) (r : Rc) (w : Value) (l : List UInt8) (sp : List Value) (hown : OwnB w l sp) (hn : l.length ≤ 80000) (h : RcIn ρ v r) (hL : LayOk r) :
  Spec Tryz.prog 168 [.pointer (some ⟨wb, 0, none⟩)] ρ [Wn w l sp, wrC wb v r w] (WrP ρ wb v r (l ++ imsB r)) := by
 have hρ := Hp.le_refl ρ
 have hA := h.i.at'
 have hl := hA.len
 have hil := hL.il
 refine Ze Tryz.func168 rfl rfl rfl fun u R => ?_
 simp only [Zt, List.cons_append, List.nil_append]
 repeat' (first | (refine ZC rfl rfl rfl rfl (by simp) rfl rfl (fun bs => ?_); refine ZM _ (h := Rem.here) (fun ρz hlz hfz => ?_); have hbs := hfz _ (List.mem_singleton.2 rfl); clear hfz; have hρ := Hp.le_trans hρ hlz; clear hlz; (try simp only [List.nil_append])) | (refine Zc (.func 165) ?_; refine qC rfl rfl (Xi _ wb v r w l sp hown (by omega) _ (v.i.n : Int) hbs (by omega)) ?_; rintro v ρ' L' hle ⟨rfl, hl1, w1, sp1, hown, rfl⟩ <;> (try simp only [kM, kN, kO]); have hρ := Hp.le_trans hρ hl1; clear hl1) | (refine Zg ?_; first | (refine Zf ?_; refine qQ ?_) | refine Zj ?_) | refine Za ?_ | (refine Zh ?_; refine Zu ?_) | (refine Zi ?_; refine Zv ?_) | intro _)
 obtain ⟨B, hB⟩ : ∃ B, l ++ [tB (v.i.n : Int)] = B := ⟨_, rfl⟩
 rw [hB] at hown ⊢
 have hBl : B.length ≤ 80001 := by rw [← hB]; simp; omega
 have hfin : B ++ r.ims.flatMap (imB (decide (r.kind = 2))) = l ++ imsB r := by rw [← hB]; simp [imsB, Wy, hl, tB]
 generalize hf : imB (decide (r.kind = 2)) = f at *
 rw [show Wn w1 B sp1 = Wn w1 (B ++ (r.ims.take 0).flatMap f) sp1 by simp]
 refine ZH [(0, _), (17, _), (18, _)] (fun (ζ : (Nat) × (Hp) × (Value) × (List Value)) => [(19, .int .i64 ζ.1)]) (fun (ζ : (Nat) × (Hp) × (Value) × (List Value)) => ζ.2.1) (fun (ζ : (Nat) × (Hp) × (Value) × (List Value)) => [Wn ζ.2.2.1 (B ++ (r.ims.take ζ.1).flatMap f) ζ.2.2.2, wrC wb v r ζ.2.2.1]) (fun (ζ : (Nat) × (Hp) × (Value) × (List Value)) => ζ.1 ≤ v.i.n ∧ ρ.le ζ.2.1 ∧ OwnB ζ.2.2.1 (B ++ (r.ims.take ζ.1).flatMap f) ζ.2.2.2) (fun (ζ : (Nat) × (Hp) × (Value) × (List Value)) => v.i.n - ζ.1) ((0, ρ', w1, sp1)) (⟨Nat.zero_le _, hρ, by simpa using hown⟩) Zo Zo rfl tk ?_
 rintro ⟨k, ρ1, w2, sp2⟩ hI
 try simp only [List.cons_append, List.nil_append, List.append_assoc, List.append_eq] at hI ⊢
 try dsimp only at hI ⊢
 obtain ⟨hk, hle1, hown⟩ := hI
 clear hρ
 by_cases hlt : k < v.i.n
 ·obtain ⟨b, off, C, T, fr, e1, hbb, hfit, hcc⟩ := (hA.mono hle1).get (show k < r.ims.length by omega)
  have hts := flatMap_app f r.ims k (by omega)
  have hmem := List.getElem_mem (show k < r.ims.length by omega)
  have hin := (h.im _ hmem).mono hle1
  obtain ⟨hp, ha, hb⟩ := hL.im _ hmem
  have hfl := YN f 165 (r.ims.take k) (fun x hx => by
   rw [← hf]; exact imB_len (hL.im x (List.mem_of_mem_take hx)).2.1 (hL.im x (List.mem_of_mem_take hx)).2.2)
  have htl : (r.ims.take k).length ≤ 16 := by simp; omega
  generalize r.ims[k]'(by omega) = x at *
  have hxl : (B ++ (r.ims.take k).flatMap f).length ≤ 83000 := by simp only [List.length_append]; omega
  have hmm : B ++ (r.ims.take k).flatMap f ++ f x = B ++ (r.ims.take (k + 1)).flatMap f := by rw [hts]; simp
  generalize hX : B ++ (r.ims.take k).flatMap f = X at *
  have hρ := Hp.le_refl ρ1
  have h82 := Vg hb
  have h83 := Vg ha
  rw [e1]
  by_cases h2 : r.kind = 2
  ·have hfx : f x = tB x.page :: (YK x.b ++ YK x.a) := by rw [← hf, h2]; rfl
   repeat' (first | (refine ZC rfl rfl rfl rfl (by simp) rfl rfl (fun bs => ?_); refine ZM _ (h := Rem.here) (fun ρz hlz hfz => ?_); have hbs := hfz _ (List.mem_singleton.2 rfl); clear hfz; have hρ := Hp.le_trans hρ hlz; clear hlz; (try simp only [List.nil_append])) | (refine Zc (.func 165) ?_; refine qC rfl rfl (Xi _ wb v r w2 X sp2 hown (by omega) _ x.page hbs (by omega)) ?_; rintro v ρ' L' hle ⟨rfl, hl1, w3, sp3, hown, rfl⟩ <;> (try simp only [kM, kN, kO]); have hρ := Hp.le_trans hρ hl1; clear hl1) | (refine Zc (.func 219) ?_; refine qC rfl rfl ((wcontent_spec _ wb v r w3 _ sp3 hown (by (try simp only [List.length_append, List.length_cons, List.length_nil, List.length_map, Zw]) <;> omega) x.bv x.b (hin.b.mono hρ) hb)) ?_; rintro v ρ' L' hle ⟨rfl, hl1, w4, sp4, hown, rfl⟩ <;> (try simp only [kM, kN, kO]); have hρ := Hp.le_trans hρ hl1; clear hl1) | (refine Zc (.func 219) ?_; refine qC rfl rfl ((wcontent_spec _ wb v r w4 _ sp4 hown (by (try simp only [List.length_append, List.length_cons, List.length_nil, List.length_map, Zw]) <;> omega) x.av x.a (hin.a.mono hρ) ha)) ?_; rintro v ρ' L' hle ⟨rfl, hl1, w5, sp5, hown, rfl⟩ <;> (try simp only [kM, kN, kO]); have hρ := Hp.le_trans hρ hl1; clear hl1) | (refine Zg ?_; first | (refine Zf ?_; refine qQ ?_) | refine Zj ?_) | refine Za ?_ | (refine Zh ?_; refine Zu ?_) | (refine Zi ?_; refine Zv ?_) | intro _)
   rw [← e1]
   have e2 : X ++ [tB x.page] ++ YK x.b ++ YK x.a = B ++ (r.ims.take (k + 1)).flatMap f := by rw [← hmm, hfx]; simp
   rw [e2] at hown ⊢
   refine Zx (k + 1, _, w5, sp5) (⟨hlt, Hp.le_trans hle1 hρ, hown⟩) Zo Zo rfl tk inferInstance (by first | omega | (dsimp only; omega))
  ·have hfx : f x = tB x.page :: YK x.a := by rw [← hf, decide_eq_false h2]; rfl
   repeat' (first | (refine ZC rfl rfl rfl rfl (by simp) rfl rfl (fun bs => ?_); refine ZM _ (h := Rem.here) (fun ρz hlz hfz => ?_); have hbs := hfz _ (List.mem_singleton.2 rfl); clear hfz; have hρ := Hp.le_trans hρ hlz; clear hlz; (try simp only [List.nil_append])) | (refine Zc (.func 165) ?_; refine qC rfl rfl (Xi _ wb v r w2 X sp2 hown (by omega) _ x.page hbs (by omega)) ?_; rintro v ρ' L' hle ⟨rfl, hl1, w3, sp3, hown, rfl⟩ <;> (try simp only [kM, kN, kO]); have hρ := Hp.le_trans hρ hl1; clear hl1) | (refine Zc (.func 219) ?_; refine qC rfl rfl ((wcontent_spec _ wb v r w3 _ sp3 hown (by (try simp only [List.length_append, List.length_cons, List.length_nil, List.length_map, Zw]) <;> omega) x.av x.a (hin.a.mono hρ) ha)) ?_; rintro v ρ' L' hle ⟨rfl, hl1, w5, sp5, hown, rfl⟩ <;> (try simp only [kM, kN, kO]); have hρ := Hp.le_trans hρ hl1; clear hl1) | (refine Zg ?_; first | (refine Zf ?_; refine qQ ?_) | refine Zj ?_) | refine Za ?_ | (refine Zh ?_; refine Zu ?_) | (refine Zi ?_; refine Zv ?_) | intro _)
   rw [← e1]
   have e2 : X ++ [tB x.page] ++ YK x.a = B ++ (r.ims.take (k + 1)).flatMap f := by rw [← hmm, hfx]; simp
   rw [e2] at hown ⊢
   refine Zx (k + 1, _, w5, sp5) (⟨hlt, Hp.le_trans hle1 hρ, hown⟩) Zo Zo rfl tk inferInstance (by first | omega | (dsimp only; omega))
 ·rw [show r.ims.take k = r.ims by rw [show k = r.ims.length by omega, List.take_length], hfin] at hown ⊢
  repeat' (first | (refine Zg ?_; first | (refine Zf ?_; refine qQ ?_) | refine Zj ?_) | refine Za ?_ | (refine Zh ?_; refine Zu ?_) | (refine Zi ?_; refine Zv ?_) | intro _)
  exact qE ⟨rfl, hle1, w2, sp2, hown, rfl⟩
theorem wundone_spec (ρ : Hp) (wb : Nat) (v : RV) (r : Rc) (w : Value) (l : List UInt8) (sp : List Value) (hown : OwnB w l sp) (hn : l.length ≤ 70000) (h : RcIn ρ v r) (hL : LayOk r) :
  Spec Tryz.prog 171 [.pointer (some ⟨wb, 0, none⟩)] ρ [Wn w l sp, wrC wb v r w] (WrP ρ wb v r (l ++ (be 8 r.next ++ imsB r))) := by
 refine Ze Tryz.func171 rfl rfl rfl fun u R => ?_
 simp only [Zt, List.cons_append, List.nil_append]
 repeat' (first | (refine Zc (.func 169) ?_; refine qC rfl rfl (wnested_spec _ wb v r w l sp hown (by omega) hL.next) ?_; rintro v ρ' L' hle ⟨rfl, hl1, w1, sp1, hown, rfl⟩ <;> (try simp only [kM, kN, kO])) | (refine Zc (.func 168) ?_; refine qC rfl rfl (wimages_spec _ wb v r w1 _ sp1 hown (by (try simp only [List.length_append, List.length_cons, List.length_nil, List.length_map, Zw]) <;> omega) (h.mono hl1) hL) ?_; rintro v ρ' L' hle ⟨rfl, hl2, w2, sp2, hown, rfl⟩ <;> (try simp only [kM, kN, kO])) | (refine Zg ?_; first | (refine Zf ?_; refine qQ ?_) | refine Zj ?_) | refine Za ?_ | (refine Zh ?_; refine Zu ?_) | (refine Zi ?_; refine Zv ?_) | intro _)
 rw [List.append_assoc] at hown ⊢
 exact qE ⟨rfl, Hp.le_trans hl1 hl2, w2, sp2, hown, rfl⟩
theorem stpB_len {s : Stp} (h : XS s = true) : (stpB s).length ≤ 21 := by
 unfold stpB
 by_cases h23 : s.kind = 2 ∨ s.kind = 3
 ·rw [if_pos h23]
  have hr : Wi s.row = true := by
   unfold XS at h
   rw [if_neg (by omega), if_neg (by omega), if_pos h23, Bool.and_eq_true] at h
   exact h.2
  have := rowB_le hr
  simp; omega
 ·rw [if_neg h23]
  split <;> simp [Zw]
theorem ckTB_len (t : CkT) : (ckTB t).length = 29 := by simp [ckTB, Zw]
theorem ckPB_len (p : CkP) : (ckPB p).length = 9 := by simp [ckPB, Zw]
theorem step_kinds {s : Stp} (h : XS s = true) : (s.kind = 1 ∨ s.kind = 2 ∨ s.kind = 3 ∨ s.kind = 4) ∧ ((s.kind = 2 ∨ s.kind = 3) → Wi s.row = true) ∧ (¬ (s.kind = 2 ∨ s.kind = 3) → 0 ≤ s.row.t ∧ s.row.t < 3) := by
 unfold XS at h
 by_cases h1 : s.kind = 1
 ·rw [if_pos h1] at h
  unfold onlyOk at h
  rw [Bool.and_eq_true, decide_eq_true_eq, decide_eq_true_eq] at h
  exact ⟨.inl h1, fun e => by omega, fun _ => h.2⟩
 ·rw [if_neg h1] at h
  by_cases h4 : s.kind = 4
  ·rw [if_pos h4] at h
   unfold onlyOk at h
   rw [Bool.and_eq_true, Bool.and_eq_true, decide_eq_true_eq, decide_eq_true_eq] at h
   exact ⟨by omega, fun e => by omega, fun _ => h.1.2⟩
  ·rw [if_neg h4] at h
   by_cases h23 : s.kind = 2 ∨ s.kind = 3
   ·rw [if_pos h23, Bool.and_eq_true] at h
    exact ⟨by omega, fun _ => h.2, fun e => absurd h23 e⟩
   ·rw [if_neg h23] at h; cases h
theorem wdone_spec (ρ : Hp) (wb : Nat) (v : RV) (r : Rc) (w : Value) (l : List UInt8) (sp : List Value) (hown : OwnB w l sp) (hn : l.length ≤ 70000) (h : RcIn ρ v r) (hL : LayOk r) :
  Spec Tryz.prog 170 [.pointer (some ⟨wb, 0, none⟩)] ρ [Wn w l sp, wrC wb v r w] (WrP ρ wb v r (l ++ (be 8 r.next ++ Wy stpB r.steps))) := by
 have hρ := Hp.le_refl ρ
 have hA := h.s.at'
 have hl := hA.len
 have hil := hL.sl
 refine Ze Tryz.func170 rfl rfl rfl fun u R => ?_
 simp only [Zt, List.cons_append, List.nil_append]
 repeat' (first | (refine ZC rfl rfl rfl rfl (by simp) rfl rfl (fun bs => ?_); refine ZM _ (h := Rem.here) (fun ρz hlz hfz => ?_); have hbs := hfz _ (List.mem_singleton.2 rfl); clear hfz; have hρ := Hp.le_trans hρ hlz; clear hlz; (try simp only [List.nil_append])) | (refine Zc (.func 169) ?_; refine qC rfl rfl (wnested_spec _ wb v r w l sp hown (by omega) hL.next) ?_; rintro v ρ' L' hle ⟨rfl, hl1, w0, sp0, hown, rfl⟩ <;> (try simp only [kM, kN, kO]); have hρ := Hp.le_trans hρ hl1; clear hl1) | (refine Zc (.func 165) ?_; refine qC rfl rfl (Xi _ wb v r w0 _ sp0 hown (by (try simp only [List.length_append, List.length_cons, List.length_nil, List.length_map, Zw]) <;> omega) _ (v.s.n : Int) hbs (by omega)) ?_; rintro v ρ' L' hle ⟨rfl, hl1, w1, sp1, hown, rfl⟩ <;> (try simp only [kM, kN, kO]); have hρ := Hp.le_trans hρ hl1; clear hl1) | (refine Zg ?_; first | (refine Zf ?_; refine qQ ?_) | refine Zj ?_) | refine Za ?_ | (refine Zh ?_; refine Zu ?_) | (refine Zi ?_; refine Zv ?_) | intro _)
 obtain ⟨B, hB⟩ : ∃ B, l ++ be 8 r.next ++ [tB (v.s.n : Int)] = B := ⟨_, rfl⟩
 rw [hB] at hown ⊢
 have hBl : B.length ≤ 80001 := by rw [← hB]; simp [Zw]; omega
 have hfin : B ++ r.steps.flatMap stpB = l ++ (be 8 r.next ++ Wy stpB r.steps) := by rw [← hB]; simp [Wy, hl, tB]
 rw [show Wn w1 B sp1 = Wn w1 (B ++ (r.steps.take 0).flatMap stpB) sp1 by simp]
 refine ZH [(0, _), (21, _), (22, _)] (fun (ζ : (Nat) × (Hp) × (Value) × (List Value)) => [(23, .int .i64 ζ.1)]) (fun (ζ : (Nat) × (Hp) × (Value) × (List Value)) => ζ.2.1) (fun (ζ : (Nat) × (Hp) × (Value) × (List Value)) => [Wn ζ.2.2.1 (B ++ (r.steps.take ζ.1).flatMap stpB) ζ.2.2.2, wrC wb v r ζ.2.2.1]) (fun (ζ : (Nat) × (Hp) × (Value) × (List Value)) => ζ.1 ≤ v.s.n ∧ ρ.le ζ.2.1 ∧ OwnB ζ.2.2.1 (B ++ (r.steps.take ζ.1).flatMap stpB) ζ.2.2.2) (fun (ζ : (Nat) × (Hp) × (Value) × (List Value)) => v.s.n - ζ.1) ((0, ρ', w1, sp1)) (⟨Nat.zero_le _, hρ, by simpa using hown⟩) Zo Zo rfl tk ?_
 rintro ⟨k, ρ1, w2, sp2⟩ hI
 try simp only [List.cons_append, List.nil_append, List.append_assoc, List.append_eq] at hI ⊢
 try dsimp only at hI ⊢
 obtain ⟨hk, hle1, hown⟩ := hI
 clear hρ
 by_cases hlt : k < v.s.n
 ·obtain ⟨b, off, C, T, fr, e1, hbb, hfit, hcc⟩ := (hA.mono hle1).get (show k < r.steps.length by omega)
  have hts := flatMap_app stpB r.steps k (by omega)
  have hmem := List.getElem_mem (show k < r.steps.length by omega)
  have hsf := h.sf _ hmem
  obtain ⟨hk4, hr23, hkt⟩ := step_kinds (hL.st _ hmem)
  have hfl := YN stpB 21 (r.steps.take k) (fun x hx => stpB_len (hL.st x (List.mem_of_mem_take hx)))
  have htl : (r.steps.take k).length ≤ 2 := by simp; omega
  generalize r.steps[k]'(by omega) = x at *
  have hxl : (B ++ (r.steps.take k).flatMap stpB).length ≤ 83000 := by simp only [List.length_append]; omega
  have hmm : B ++ (r.steps.take k).flatMap stpB ++ stpB x = B ++ (r.steps.take (k + 1)).flatMap stpB := by rw [hts]; simp
  generalize hX : B ++ (r.steps.take k).flatMap stpB = X at *
  have hρ := Hp.le_refl ρ1
  rw [e1]
  by_cases h23 : x.kind = 2 ∨ x.kind = 3
  ·have hst : stpB x = tB x.kind :: Yw x.row := by unfold stpB; rw [if_pos h23]
   have hre := fun ρ => rowE_spec ρ x.row hsf.id
   have hrl := rowB_le (hr23 h23)
   rw [if_pos (hr23 h23), if_pos (hr23 h23)] at hre
   have hmm2 : (X ++ [tB x.kind]).map ZD ++ (Yw x.row).map ZD = (B ++ (r.steps.take (k + 1)).flatMap stpB).map ZD := by rw [← hmm, hst]; simp
   have hll2 : (X ++ [tB x.kind]).length + (Yw x.row).length = (B ++ (r.steps.take (k + 1)).flatMap stpB).length := by rw [← hmm, hst]; simp; omega
   have hx1 : (X ++ [tB x.kind]).length ≤ 84000 := by simp; omega
   rcases h23 with h2 | h2
   all_goals (repeat' (first | (refine ZC rfl rfl rfl rfl (by simp) rfl rfl (fun bs => ?_); refine ZM _ (h := Rem.here) (fun ρz hlz hfz => ?_); have hbs := hfz _ (List.mem_singleton.2 rfl); clear hfz; have hρ := Hp.le_trans hρ hlz; clear hlz; (try simp only [List.nil_append])) | (refine Zc (.func 165) ?_; refine qC rfl rfl (Xi _ wb v r w2 X sp2 hown (by omega) _ x.kind hbs (by omega)) ?_; rintro v ρ' L' hle ⟨rfl, hl1, w3, sp3, hown, rfl⟩ <;> (try simp only [kM, kN, kO]); have hρ := Hp.le_trans hρ hl1; clear hl1; obtain ⟨va, vc, rfl, _⟩ := hown.slice) | (refine Zc (.func 220) ?_; refine qC rfl rfl (hre _) ?_; rintro v ρ' L' hle ⟨hl1, a1, n1, c1, rfl, hc1, hs1, rfl⟩ <;> (try simp only [kM, kN, kO]); have hρ := Hp.le_trans hρ hl1; clear hl1) | (have hn1 := hs1.len; refine YQ (ys := (Yw x.row).map ZD) (m := n1) (sz := 1) rfl rfl hown (hR := by infer_instance) (SIn.srcV hs1) (by simpa using hs1.len) (Yr _) (by decide) rfl (by omega) (by omega) rfl (fun v' sp' hown' => ?_); rw [hmm2] at hown' ⊢; rw [← hs1.len, hll2] at hown'; obtain ⟨va', vc', rfl, _⟩ := hown'.slice) | (refine Zg ?_; first | (refine Zf ?_; refine qQ ?_) | refine Zj ?_) | refine Za ?_ | (refine Zh ?_; refine Zu ?_) | (refine Zi ?_; refine Zv ?_) | intro _))
   all_goals rw [← e1]
   all_goals refine Zx (k + 1, _, _, sp') (⟨hlt, Hp.le_trans hle1 hρ, hown'⟩) Zo Zo rfl tk inferInstance (by first | omega | (dsimp only; omega))
  ·have hkt := hkt h23
   have hst : stpB x = tB x.kind :: (tB x.row.t :: (be 2 x.row.id ++ (if x.kind = 1 then be 8 (vN x.by') else []))) := by unfold stpB; rw [if_neg h23]
   have hll2 : (X ++ [tB x.kind] ++ [tB x.row.t]).length + 2 = (X ++ [tB x.kind] ++ [tB x.row.t] ++ be 2 x.row.id).length := by simp [Zw]
   rcases (show x.kind = 1 ∨ x.kind = 4 by omega) with h1 | h1
   ·rw [if_pos h1] at hst
    have hvl := vN_lt x.by'
    repeat' (first | (refine ZC rfl rfl rfl rfl (by simp) rfl rfl (fun bs => ?_); refine ZM _ (h := Rem.here) (fun ρz hlz hfz => ?_); have hbs := hfz _ (List.mem_singleton.2 rfl); clear hfz; have hρ := Hp.le_trans hρ hlz; clear hlz; (try simp only [List.nil_append])) | (refine Zc (.func 165) ?_; refine qC rfl rfl (Xi _ wb v r w2 X sp2 hown (by omega) _ x.kind hbs (by omega)) ?_; rintro v ρ' L' hle ⟨rfl, hl1, w3, sp3, hown, rfl⟩ <;> (try simp only [kM, kN, kO]); have hρ := Hp.le_trans hρ hl1; clear hl1; obtain ⟨va, vc, rfl, _⟩ := hown.slice) | (refine Zc (.func 165) ?_; refine qC rfl rfl (Xi _ wb v r _ _ sp3 hown (by (try simp only [List.length_append, List.length_cons, List.length_nil, List.length_map, Zw]) <;> omega) _ x.row.t hbs (by omega)) ?_; rintro v ρ' L' hle ⟨rfl, hl1, w4, sp4, hown, rfl⟩ <;> (try simp only [kM, kN, kO]); have hρ := Hp.le_trans hρ hl1; clear hl1; obtain ⟨va, vc, rfl, _⟩ := hown.slice) | (refine Zg ?_; first | (refine Zf ?_; refine qQ ?_) | refine Zj ?_) | refine Za ?_ | (refine Zh ?_; refine Zu ?_) | (refine Zi ?_; refine Zv ?_) | intro _)
    refine Zz (Zr _ _ ([[(_, .cells ⟨stpV x⟩ 246 (0, 0))]])) (Zy (hT := tk) (Hp.le_refl _)) ?_
    all_goals (refine ZO 0 ?_; refine ZO 1 ?_; refine rNc 2 ?_; refine Yv 3 ?_; refine Yv 5 ?_; refine Yv 6 ?_; refine Yv 7 ?_; refine ZX 8 ?_)
    all_goals (refine Zm (i := 4) ?_; ((try refine Zk ?_); (first | (refine Zc (.func 221) ?_; refine ZM (Wn (.slice va (X ++ [tB x.kind] ++ [tB x.row.t]).length vc) (X ++ [tB x.kind] ++ [tB x.row.t]) sp4) (h := by repeat (first | exact Ya | apply Yn)) (fun ρ2 hle2 hfz => ?_); obtain ⟨a1, c1, f1, hc1, hs1⟩ := hown.sIn hfz; cases f1; refine qC rfl rfl (put16_spec _ va _ vc _ hs1 x.row.id hsf.id (by (try simp only [List.length_append, List.length_cons, List.length_nil, List.length_map, Zw]) <;> omega)) ?_; rintro v' ρ3 L3 hle3 ⟨rfl, sp5, hown, rfl⟩; simp only [List.cons_append, List.nil_append]; rw [hll2] at hown; obtain ⟨va, vc, rfl, _⟩ := hown.slice; have hρ := Hp.le_trans hρ hle2) | (refine Zf ?_; refine qQ ?_) | (refine Zj ?_; try intro _)) <;> ((try simp only [kM, kN, kO]); refine Za ?_; refine Zl ?_)))
    all_goals (refine Zm (i := 9) ?_; ((try refine Zk ?_); (first | (refine Zc (.func 221) ?_; refine ZM (Wn (.slice va (X ++ [tB x.kind] ++ [tB x.row.t]).length vc) (X ++ [tB x.kind] ++ [tB x.row.t]) sp4) (h := by repeat (first | exact Ya | apply Yn)) (fun ρ2 hle2 hfz => ?_); obtain ⟨a1, c1, f1, hc1, hs1⟩ := hown.sIn hfz; cases f1; refine qC rfl rfl (put16_spec _ va _ vc _ hs1 x.row.id hsf.id (by (try simp only [List.length_append, List.length_cons, List.length_nil, List.length_map, Zw]) <;> omega)) ?_; rintro v' ρ3 L3 hle3 ⟨rfl, sp5, hown, rfl⟩; simp only [List.cons_append, List.nil_append]; rw [hll2] at hown; obtain ⟨va, vc, rfl, _⟩ := hown.slice; have hρ := Hp.le_trans hρ hle2) | (refine Zf ?_; refine qQ ?_) | (refine Zj ?_; try intro _)) <;> ((try simp only [kM, kN, kO]); refine Za ?_; refine Zl ?_)))
    all_goals (refine rNc 10 ?_; refine Yv 11 ?_)
    all_goals (refine Zm (i := 12) ?_; ((try refine Zk ?_); (first | (refine Zf ?_; refine qQ ?_) | (refine Zj ?_; try intro _)) <;> ((try simp only [kM, kN, kO]); refine Za ?_; refine Zl ?_)))
    all_goals refine ZI ?_
    all_goals (repeat' (first | (simp only [vN_eq]; refine ZC rfl rfl rfl rfl (by simp) rfl rfl (fun bs => ?_); refine ZM _ (h := Rem.here) (fun ρz hlz hfz => ?_); have hbs := hfz _ (List.mem_singleton.2 rfl); clear hfz; have hρ := Hp.le_trans hρ hlz; clear hlz; (try simp only [List.nil_append])) | (refine Zc (.func 166) ?_; refine qC rfl rfl (wlong_spec _ wb v r _ _ sp5 hown (by (try simp only [List.length_append, List.length_cons, List.length_nil, List.length_map, Zw]) <;> omega) _ (vN x.by') hbs hvl) ?_; rintro v ρ' L' hle ⟨rfl, hl1, w6, sp6, hown, rfl⟩ <;> (try simp only [kM, kN, kO]); have hρ := Hp.le_trans hρ hl1; clear hl1; obtain ⟨va, vc, rfl, _⟩ := hown.slice) | (refine Zg ?_; first | (refine Zf ?_; refine qQ ?_) | refine Zj ?_) | refine Za ?_ | (refine Zh ?_; refine Zu ?_) | (refine Zi ?_; refine Zv ?_) | intro _))
    all_goals rw [← e1]
    all_goals have e2 : X ++ [tB x.kind] ++ [tB x.row.t] ++ be 2 x.row.id ++ be 8 (vN x.by') = B ++ (r.steps.take (k + 1)).flatMap stpB := by rw [← hmm, hst]; simp
    all_goals rw [e2] at hown ⊢
    all_goals refine Zx (k + 1, _, _, sp6) (⟨hlt, Hp.le_trans hle1 hρ, hown⟩) Zo Zo rfl tk inferInstance (by first | omega | (dsimp only; omega))
   ·rw [if_neg (by omega)] at hst
    repeat' (first | (refine ZC rfl rfl rfl rfl (by simp) rfl rfl (fun bs => ?_); refine ZM _ (h := Rem.here) (fun ρz hlz hfz => ?_); have hbs := hfz _ (List.mem_singleton.2 rfl); clear hfz; have hρ := Hp.le_trans hρ hlz; clear hlz; (try simp only [List.nil_append])) | (refine Zc (.func 165) ?_; refine qC rfl rfl (Xi _ wb v r w2 X sp2 hown (by omega) _ x.kind hbs (by omega)) ?_; rintro v ρ' L' hle ⟨rfl, hl1, w3, sp3, hown, rfl⟩ <;> (try simp only [kM, kN, kO]); have hρ := Hp.le_trans hρ hl1; clear hl1; obtain ⟨va, vc, rfl, _⟩ := hown.slice) | (refine Zc (.func 165) ?_; refine qC rfl rfl (Xi _ wb v r _ _ sp3 hown (by (try simp only [List.length_append, List.length_cons, List.length_nil, List.length_map, Zw]) <;> omega) _ x.row.t hbs (by omega)) ?_; rintro v ρ' L' hle ⟨rfl, hl1, w4, sp4, hown, rfl⟩ <;> (try simp only [kM, kN, kO]); have hρ := Hp.le_trans hρ hl1; clear hl1; obtain ⟨va, vc, rfl, _⟩ := hown.slice) | (refine Zg ?_; first | (refine Zf ?_; refine qQ ?_) | refine Zj ?_) | refine Za ?_ | (refine Zh ?_; refine Zu ?_) | (refine Zi ?_; refine Zv ?_) | intro _)
    refine Zz (Zr _ _ ([[(_, .cells ⟨stpV x⟩ 246 (0, 0))]])) (Zy (hT := tk) (Hp.le_refl _)) ?_
    all_goals (refine ZO 0 ?_; refine ZO 1 ?_; refine rNc 2 ?_; refine Yv 3 ?_; refine Yv 5 ?_; refine Yv 6 ?_; refine Yv 7 ?_; refine ZX 8 ?_)
    all_goals (refine Zm (i := 4) ?_; ((try refine Zk ?_); (first | (refine Zc (.func 221) ?_; refine ZM (Wn (.slice va (X ++ [tB x.kind] ++ [tB x.row.t]).length vc) (X ++ [tB x.kind] ++ [tB x.row.t]) sp4) (h := by repeat (first | exact Ya | apply Yn)) (fun ρ2 hle2 hfz => ?_); obtain ⟨a1, c1, f1, hc1, hs1⟩ := hown.sIn hfz; cases f1; refine qC rfl rfl (put16_spec _ va _ vc _ hs1 x.row.id hsf.id (by (try simp only [List.length_append, List.length_cons, List.length_nil, List.length_map, Zw]) <;> omega)) ?_; rintro v' ρ3 L3 hle3 ⟨rfl, sp5, hown, rfl⟩; simp only [List.cons_append, List.nil_append]; rw [hll2] at hown; obtain ⟨va, vc, rfl, _⟩ := hown.slice; have hρ := Hp.le_trans hρ hle2) | (refine Zf ?_; refine qQ ?_) | (refine Zj ?_; try intro _)) <;> ((try simp only [kM, kN, kO]); refine Za ?_; refine Zl ?_)))
    all_goals (refine Zm (i := 9) ?_; ((try refine Zk ?_); (first | (refine Zc (.func 221) ?_; refine ZM (Wn (.slice va (X ++ [tB x.kind] ++ [tB x.row.t]).length vc) (X ++ [tB x.kind] ++ [tB x.row.t]) sp4) (h := by repeat (first | exact Ya | apply Yn)) (fun ρ2 hle2 hfz => ?_); obtain ⟨a1, c1, f1, hc1, hs1⟩ := hown.sIn hfz; cases f1; refine qC rfl rfl (put16_spec _ va _ vc _ hs1 x.row.id hsf.id (by (try simp only [List.length_append, List.length_cons, List.length_nil, List.length_map, Zw]) <;> omega)) ?_; rintro v' ρ3 L3 hle3 ⟨rfl, sp5, hown, rfl⟩; simp only [List.cons_append, List.nil_append]; rw [hll2] at hown; obtain ⟨va, vc, rfl, _⟩ := hown.slice; have hρ := Hp.le_trans hρ hle2) | (refine Zf ?_; refine qQ ?_) | (refine Zj ?_; try intro _)) <;> ((try simp only [kM, kN, kO]); refine Za ?_; refine Zl ?_)))
    all_goals (refine rNc 10 ?_; refine Yv 11 ?_)
    all_goals (refine Zm (i := 12) ?_; ((try refine Zk ?_); (first | (refine Zf ?_; refine qQ ?_) | (refine Zj ?_; try intro _)) <;> ((try simp only [kM, kN, kO]); refine Za ?_; refine Zl ?_)))
    all_goals refine ZI ?_
    all_goals (repeat' (first | (refine Zg ?_; first | (refine Zf ?_; refine qQ ?_) | refine Zj ?_) | refine Za ?_ | (refine Zh ?_; refine Zu ?_) | (refine Zi ?_; refine Zv ?_) | intro _))
    all_goals rw [← e1]
    all_goals have e2 : X ++ [tB x.kind] ++ [tB x.row.t] ++ be 2 x.row.id = B ++ (r.steps.take (k + 1)).flatMap stpB := by rw [← hmm, hst]; simp
    all_goals rw [e2] at hown ⊢
    all_goals refine Zx (k + 1, _, _, sp5) (⟨hlt, Hp.le_trans hle1 hρ, hown⟩) Zo Zo rfl tk inferInstance (by first | omega | (dsimp only; omega))
 ·rw [show r.steps.take k = r.steps by rw [show k = r.steps.length by omega, List.take_length], hfin] at hown ⊢
  repeat' (first | (refine Zg ?_; first | (refine Zf ?_; refine qQ ?_) | refine Zj ?_) | refine Za ?_ | (refine Zh ?_; refine Zu ?_) | (refine Zi ?_; refine Zv ?_) | intro _)
  exact qE ⟨rfl, hle1, w2, sp2, hown, rfl⟩
theorem wckpt_spec (ρ : Hp) (wb : Nat) (v : RV) (r : Rc) (w : Value) (l : List UInt8) (sp : List Value) (hown : OwnB w l sp) (hn : l.length ≤ 70000) (h : RcIn ρ v r) (hL : LayOk r) :
  Spec Tryz.prog 172 [.pointer (some ⟨wb, 0, none⟩)] ρ [Wn w l sp, wrC wb v r w] (WrP ρ wb v r (l ++ (be 4 r.nextTxn.toNat ++ (Wy ckTB r.txns ++ Wy ckPB r.dirty)))) := by
 have hρ := Hp.le_refl ρ
 have hA := h.t.at'
 have hl := hA.len
 have hA2 := h.d.at'
 have hl2 := hA2.len
 have hil := hL.tl
 have hil2 := hL.dl
 refine Ze Tryz.func172 rfl rfl rfl fun u R => ?_
 simp only [Zt, List.cons_append, List.nil_append]
 repeat' (first | (refine ZC rfl rfl rfl rfl (by simp) rfl rfl (fun bs => ?_); refine ZM _ (h := Rem.here) (fun ρz hlz hfz => ?_); have hbs := hfz _ (List.mem_singleton.2 rfl); clear hfz; have hρ := Hp.le_trans hρ hlz; clear hlz; (try simp only [List.nil_append])) | (refine Zc (.func 167) ?_; refine qC rfl rfl (wtxn_spec _ wb v r w l sp hown (by omega) r.nextTxn hL.nextTxn) ?_; rintro v ρ' L' hle ⟨rfl, hl1, w0, sp0, hown, rfl⟩ <;> (try simp only [kM, kN, kO]); have hρ := Hp.le_trans hρ hl1; clear hl1) | (refine Zc (.func 165) ?_; refine qC rfl rfl (Xi _ wb v r w0 _ sp0 hown (by (try simp only [List.length_append, List.length_cons, List.length_nil, List.length_map, Zw]) <;> omega) _ (v.t.n : Int) hbs (by omega)) ?_; rintro v ρ' L' hle ⟨rfl, hl1, w1, sp1, hown, rfl⟩ <;> (try simp only [kM, kN, kO]); have hρ := Hp.le_trans hρ hl1; clear hl1) | (refine iBu ?_; refine ZL (Zn rfl) rfl rfl ?_) | (refine Zg ?_; first | (refine Zf ?_; refine qQ ?_) | refine Zj ?_) | refine Za ?_ | (refine Zh ?_; refine Zu ?_) | (refine Zi ?_; refine Zv ?_) | intro _)
 obtain ⟨B, hB⟩ : ∃ B, l ++ be 4 r.nextTxn.toNat ++ [tB (v.t.n : Int)] = B := ⟨_, rfl⟩
 rw [hB] at hown ⊢
 have hBl : B.length ≤ 80001 := by rw [← hB]; simp [Zw]; omega
 have hfin : B ++ r.txns.flatMap ckTB = l ++ (be 4 r.nextTxn.toNat ++ Wy ckTB r.txns) := by rw [← hB]; simp [Wy, hl, tB]
 rw [show Wn w1 B sp1 = Wn w1 (B ++ (r.txns.take 0).flatMap ckTB) sp1 by simp]
 refine ZH [(0, _), (26, _), (27, _)] (fun (ζ : (Nat) × (Hp) × (Value) × (List Value)) => [(28, .int .i64 ζ.1)]) (fun (ζ : (Nat) × (Hp) × (Value) × (List Value)) => ζ.2.1) (fun (ζ : (Nat) × (Hp) × (Value) × (List Value)) => [Wn ζ.2.2.1 (B ++ (r.txns.take ζ.1).flatMap ckTB) ζ.2.2.2, wrC wb v r ζ.2.2.1]) (fun (ζ : (Nat) × (Hp) × (Value) × (List Value)) => ζ.1 ≤ v.t.n ∧ ρ.le ζ.2.1 ∧ OwnB ζ.2.2.1 (B ++ (r.txns.take ζ.1).flatMap ckTB) ζ.2.2.2) (fun (ζ : (Nat) × (Hp) × (Value) × (List Value)) => v.t.n - ζ.1) ((0, ρ', w1, sp1)) (⟨Nat.zero_le _, hρ, by simpa using hown⟩) Zo Zo rfl tk ?_
 rintro ⟨k, ρ1, w2, sp2⟩ hI
 try simp only [List.cons_append, List.nil_append, List.append_assoc, List.append_eq] at hI ⊢
 try dsimp only at hI ⊢
 obtain ⟨hk, hle1, hown⟩ := hI
 clear hρ
 by_cases hlt : k < v.t.n
 ·obtain ⟨b, off, C, T, fr, e1, hbb, hfit, hcc⟩ := (hA.mono hle1).get (show k < r.txns.length by omega)
  have hts := flatMap_app ckTB r.txns k (by omega)
  have hmem := List.getElem_mem (show k < r.txns.length by omega)
  obtain ⟨g1, g2, g3, g4, g5⟩ := hL.tx _ hmem
  have hfl := YN ckTB 29 (r.txns.take k) (fun x _ => Nat.le_of_eq (ckTB_len x))
  have htl : (r.txns.take k).length ≤ 8 := by simp; omega
  generalize r.txns[k]'(by omega) = x at *
  have hxl : (B ++ (r.txns.take k).flatMap ckTB).length ≤ 83000 := by simp only [List.length_append]; omega
  have hmm : B ++ (r.txns.take k).flatMap ckTB ++ ckTB x = B ++ (r.txns.take (k + 1)).flatMap ckTB := by rw [hts]; simp
  generalize hX : B ++ (r.txns.take k).flatMap ckTB = X at *
  have hρ := Hp.le_refl ρ1
  rw [e1]
  repeat' (first | (refine ZC rfl rfl rfl rfl (by simp) rfl rfl (fun bs => ?_); refine ZM _ (h := Rem.here) (fun ρz hlz hfz => ?_); have hbs := hfz _ (List.mem_singleton.2 rfl); clear hfz; have hρ := Hp.le_trans hρ hlz; clear hlz; (try simp only [List.nil_append])) | (refine Zc (.func 167) ?_; refine qC rfl rfl (wtxn_spec _ wb v r w2 X sp2 hown (by omega) x.txn g1) ?_; rintro v ρ' L' hle ⟨rfl, hl1, w3, sp3, hown, rfl⟩ <;> (try simp only [kM, kN, kO]); have hρ := Hp.le_trans hρ hl1; clear hl1) | (refine Zc (.func 166) ?_; refine qC rfl rfl (wlong3_spec _ wb v r w3 _ sp3 hown (by (try simp only [List.length_append, List.length_cons, List.length_nil, List.length_map, Zw]) <;> omega) _ x.first x.last x.undo hbs g2 g3 g4) ?_; rintro v ρ' L' hle ⟨rfl, hl1, w4, sp4, hown, rfl⟩ <;> (try simp only [kM, kN, kO]); have hρ := Hp.le_trans hρ hl1; clear hl1) | (refine Zc (.func 165) ?_; refine qC rfl rfl (Xi _ wb v r w4 _ sp4 hown (by (try simp only [List.length_append, List.length_cons, List.length_nil, List.length_map, Zw]) <;> omega) _ x.state hbs g5) ?_; rintro v ρ' L' hle ⟨rfl, hl1, w5, sp5, hown, rfl⟩ <;> (try simp only [kM, kN, kO]); have hρ := Hp.le_trans hρ hl1; clear hl1) | (refine iBu ?_; refine ZL (Zn rfl) rfl rfl ?_) | (refine Zg ?_; first | (refine Zf ?_; refine qQ ?_) | refine Zj ?_) | refine Za ?_ | (refine Zh ?_; refine Zu ?_) | (refine Zi ?_; refine Zv ?_) | intro _)
  rw [← e1]
  have e2 : X ++ be 4 x.txn.toNat ++ (be 8 x.first ++ (be 8 x.last ++ be 8 x.undo)) ++ [tB x.state] = B ++ (r.txns.take (k + 1)).flatMap ckTB := by rw [← hmm]; simp [ckTB]
  rw [e2] at hown ⊢
  refine Zx (k + 1, _, w5, sp5) (⟨hlt, Hp.le_trans hle1 hρ, hown⟩) Zo Zo rfl tk inferInstance (by first | omega | (dsimp only; omega))
 ·rw [show r.txns.take k = r.txns by rw [show k = r.txns.length by omega, List.take_length], hfin] at hown ⊢
  have hρ := hle1
  obtain ⟨B2, hB2⟩ : ∃ B2, l ++ (be 4 r.nextTxn.toNat ++ Wy ckTB r.txns) = B2 := ⟨_, rfl⟩
  have hlT : (Wy ckTB r.txns).length ≤ 300 := by
   have := YN ckTB 29 r.txns (fun x _ => Nat.le_of_eq (ckTB_len x))
   unfold Wy; rw [List.length_cons]; omega
  have hB2l : B2.length ≤ 71000 := by rw [← hB2]; simp [Zw]; omega
  rw [hB2] at hown ⊢
  repeat' (first | (refine ZC rfl rfl rfl rfl (by simp) rfl rfl (fun bs => ?_); refine ZM _ (h := Rem.here) (fun ρz hlz hfz => ?_); have hbs := hfz _ (List.mem_singleton.2 rfl); clear hfz; have hρ := Hp.le_trans hρ hlz; clear hlz; (try simp only [List.nil_append])) | (refine Zc (.func 165) ?_; refine qC rfl rfl (Xi _ wb v r w2 B2 sp2 hown (by omega) _ (v.d.n : Int) hbs (by omega)) ?_; rintro v ρ' L' hle ⟨rfl, hl1, w1, sp1, hown, rfl⟩ <;> (try simp only [kM, kN, kO]); have hρ := Hp.le_trans hρ hl1; clear hl1) | (refine iBu ?_; refine ZL (Zn rfl) rfl rfl ?_) | (refine Zg ?_; first | (refine Zf ?_; refine qQ ?_) | refine Zj ?_) | refine Za ?_ | (refine Zh ?_; refine Zu ?_) | (refine Zi ?_; refine Zv ?_) | intro _)
  obtain ⟨B3, hB3⟩ : ∃ B3, B2 ++ [tB (v.d.n : Int)] = B3 := ⟨_, rfl⟩
  rw [hB3] at hown ⊢
  have hBl3 : B3.length ≤ 80001 := by rw [← hB3]; simp; omega
  have hfin3 : B3 ++ r.dirty.flatMap ckPB = l ++ (be 4 r.nextTxn.toNat ++ (Wy ckTB r.txns ++ Wy ckPB r.dirty)) := by rw [← hB3, ← hB2]; simp [Wy, hl2, tB]
  rw [show Wn w1 B3 sp1 = Wn w1 (B3 ++ (r.dirty.take 0).flatMap ckPB) sp1 by simp]
  refine ZH [(0, _), (64, _), (65, _)] (fun (ζ : (Nat) × (Hp) × (Value) × (List Value)) => [(66, .int .i64 ζ.1)]) (fun (ζ : (Nat) × (Hp) × (Value) × (List Value)) => ζ.2.1) (fun (ζ : (Nat) × (Hp) × (Value) × (List Value)) => [Wn ζ.2.2.1 (B3 ++ (r.dirty.take ζ.1).flatMap ckPB) ζ.2.2.2, wrC wb v r ζ.2.2.1]) (fun (ζ : (Nat) × (Hp) × (Value) × (List Value)) => ζ.1 ≤ v.d.n ∧ ρ.le ζ.2.1 ∧ OwnB ζ.2.2.1 (B3 ++ (r.dirty.take ζ.1).flatMap ckPB) ζ.2.2.2) (fun (ζ : (Nat) × (Hp) × (Value) × (List Value)) => v.d.n - ζ.1) ((0, ρ', w1, sp1)) (⟨Nat.zero_le _, hρ, by simpa using hown⟩) Zo Zo rfl tk ?_
  rintro ⟨j, ρ2, w3, sp3⟩ hI
  try simp only [List.cons_append, List.nil_append, List.append_assoc, List.append_eq] at hI ⊢
  try dsimp only at hI ⊢
  obtain ⟨hj, hle2, hown⟩ := hI
  clear hρ
  by_cases hlj : j < v.d.n
  ·obtain ⟨b, off, C, T, fr, e1, hbb, hfit, hcc⟩ := (hA2.mono hle2).get (show j < r.dirty.length by omega)
   have hts := flatMap_app ckPB r.dirty j (by omega)
   have hmem := List.getElem_mem (show j < r.dirty.length by omega)
   obtain ⟨g1, g2⟩ := hL.di _ hmem
   have hfl := YN ckPB 9 (r.dirty.take j) (fun x _ => Nat.le_of_eq (ckPB_len x))
   have htl : (r.dirty.take j).length ≤ 64 := by simp; omega
   generalize r.dirty[j]'(by omega) = x at *
   have hxl : (B3 ++ (r.dirty.take j).flatMap ckPB).length ≤ 83000 := by simp only [List.length_append]; omega
   have hmm : B3 ++ (r.dirty.take j).flatMap ckPB ++ ckPB x = B3 ++ (r.dirty.take (j + 1)).flatMap ckPB := by rw [hts]; simp
   generalize hX : B3 ++ (r.dirty.take j).flatMap ckPB = X at *
   have hρ := Hp.le_refl ρ2
   rw [e1]
   repeat' (first | (refine ZC rfl rfl rfl rfl (by simp) rfl rfl (fun bs => ?_); refine ZM _ (h := Rem.here) (fun ρz hlz hfz => ?_); have hbs := hfz _ (List.mem_singleton.2 rfl); clear hfz; have hρ := Hp.le_trans hρ hlz; clear hlz; (try simp only [List.nil_append])) | (refine Zc (.func 165) ?_; refine qC rfl rfl (Xi _ wb v r w3 X sp3 hown (by omega) _ x.page hbs (by omega)) ?_; rintro v ρ' L' hle ⟨rfl, hl1, w4, sp4, hown, rfl⟩ <;> (try simp only [kM, kN, kO]); have hρ := Hp.le_trans hρ hl1; clear hl1) | (refine Zc (.func 166) ?_; refine qC rfl rfl (wlong_spec _ wb v r w4 _ sp4 hown (by (try simp only [List.length_append, List.length_cons, List.length_nil, List.length_map, Zw]) <;> omega) _ x.since hbs g2) ?_; rintro v ρ' L' hle ⟨rfl, hl1, w5, sp5, hown, rfl⟩ <;> (try simp only [kM, kN, kO]); have hρ := Hp.le_trans hρ hl1; clear hl1) | (refine iBu ?_; refine ZL (Zn rfl) rfl rfl ?_) | (refine Zg ?_; first | (refine Zf ?_; refine qQ ?_) | refine Zj ?_) | refine Za ?_ | (refine Zh ?_; refine Zu ?_) | (refine Zi ?_; refine Zv ?_) | intro _)
   rw [← e1]
   have e2 : X ++ [tB x.page] ++ be 8 x.since = B3 ++ (r.dirty.take (j + 1)).flatMap ckPB := by rw [← hmm]; simp [ckPB]
   rw [e2] at hown ⊢
   refine Zx (j + 1, _, w5, sp5) (⟨hlj, Hp.le_trans hle2 hρ, hown⟩) Zo Zo rfl tk inferInstance (by first | omega | (dsimp only; omega))
  ·rw [show r.dirty.take j = r.dirty by rw [show j = r.dirty.length by omega, List.take_length], hfin3] at hown ⊢
   repeat' (first | (refine iBu ?_; refine ZL (Zn rfl) rfl rfl ?_) | (refine Zg ?_; first | (refine Zf ?_; refine qQ ?_) | refine Zj ?_) | refine Za ?_ | (refine Zh ?_; refine Zu ?_) | (refine Zi ?_; refine Zv ?_) | intro _)
   exact qE ⟨rfl, hle2, w3, sp3, hown, rfl⟩
end Go.Proofs.E
