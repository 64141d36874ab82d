/- Laws of analysis. Part 34 of 41. -/
import Derived.Test.YtkbiahafeoillaaGreatA33
namespace Go.Proofs.E
open Go
set_option linter.unusedVariables false
set_option linter.unusedSimpArgs false
set_option linter.unusedSectionVars false
set_option maxRecDepth 4000
set_option maxHeartbeats 1000000
attribute [local irreducible] Yl TL TC TE Spec Xb R1 Hp.le EnvLe TS TR YS Zk
theorem Yt (ρ : Hp) (x : Nat) (n : Nat) (hz : x < 18446744073709551616) (hn : n ≤ 8) :
  Spec Tryz.prog 223 [.int .u64 (x : Int), .int .i64 n] ρ [] (fun v ρ' L' => ρ.le ρ' ∧ ∃ a c, v = .slice a n c ∧ n ≤ c ∧ SIn ρ' ZR a n (be n x) ∧ L' = []) := by
 have := Wg ρ (x : Int) n (by omega) (by omega) hn
 rwa [Int.toNat_natCast] at this
theorem bytes12_spec (ρ : Hp) (v : RV) (r : Rc) (h : RcIn ρ v r) (hL : LayOk r) :
  Spec Tryz.prog 218 [.agg ⟨Yx v r⟩] ρ [] (fun z ρ' L' => ρ.le ρ' ∧ ∃ a c, z = .slice a (XA r).length c ∧ (XA r).length ≤ c ∧ SIn ρ' ZR a (XA r).length (XA r) ∧ L' = []) := by
 have g1 := hL.kind
 have g2 := hL.lsn
 have g3 := hL.txn
 have g4 := hL.next
 have g5 := hL.nextTxn
 have g6 := hL.prev
 have hkB := tB_eq (t := r.kind) (by omega) (by omega)
 have hil := h.i.at'.len
 have hsl := h.s.at'.len
 have htl := h.t.at'.len
 have hdl := h.d.at'.len
 have li := hL.il
 have ls := hL.sl
 have lt' := hL.tl
 have ld := hL.dl
 have hbi := lenB (n := v.i.n) (by omega)
 have hbs := lenB (n := v.s.n) (by omega)
 have hbt := lenB (n := v.t.n) (by omega)
 have hbd := lenB (n := v.d.n) (by omega)
 refine Zd Tryz.func218 rfl rfl rfl fun u R => ?_
 simp only [Zo, List.cons_append, List.nil_append]
 obtain ⟨X0, hX0⟩ : ∃ X0, [tB r.kind] = X0 := ⟨_, rfl⟩
 have hX0l : X0.length = 1 := by rw [← hX0]; rfl
 repeat' (first | refine zV ?_ | intro _)
 rename_i rb
 refine tc_cut_k R [] (fun (ζ : (Hp) × (Value) × (List Value)) => [(1, .pointer (some ⟨rb, 0, none⟩)), (2, .slice none 0 0), (3, ζ.2.1)]) (fun (ζ : (Hp) × (Value) × (List Value)) => ζ.1) (fun (ζ : (Hp) × (Value) × (List Value)) => [YY ζ.2.1 (X0 ++ be 8 r.lsn) ζ.2.2, [(rb, .cells ⟨Yx v r⟩ 34 (0, 0))]]) (fun (ζ : (Hp) × (Value) × (List Value)) => ρ.le ζ.1 ∧ Wo ζ.2.1 (X0 ++ be 8 r.lsn) ζ.2.2) Ze ?_ ?_
 ·refine Zu (Zk _ _ ([[(rb, .cells ⟨Yx v r⟩ 34 (0, 0))]])) (Zw (hT := tk) (Hp.le_refl _)) ?_
  all_goals (refine ZN 0 ?_; refine ZQ 1 ?_; refine rCv 2 ?_; refine ZN 4 ?_; refine ZQ 5 ?_)
  all_goals (refine YD (i := 3) (j := 6) ?_ ?_ <;> ((try refine Zh ?_); (first | (refine Zl rfl rfl rfl rfl (by simp) rfl rfl (fun bs => ?_); simp only [hkB]; rw [show ([(bs, Obj.cells ⟨[ZR (tB r.kind)]⟩ 5 (0, 0))] : List (Nat × Obj)) = ZG (.slice (some ⟨bs, 0, none⟩) 1 1) ([tB r.kind].map ZR) [] 5 from rfl]; have hown : Wo (.slice (some ⟨bs, 0, none⟩) 1 1) [tB r.kind] [] := ⟨.inr ⟨bs, 1, rfl, rfl, rfl, Nat.le_refl _⟩⟩; rw [hX0] at hown ⊢) | (refine Zc (.func 223) ?_; refine qC rfl rfl (Yt _ (r.lsn) 8 (by omega) (by decide)) ?_; rintro v ρ' L' hle ⟨hl1, a1, c1, rfl, hc1, hs1, rfl⟩ <;> (try simp only [kM, kN, kO])) | (refine ZF ?_; try intro _)) <;> ((try simp only [kM, kN, kO]); refine Zf ?_; refine Zi ?_)))
  all_goals (first | (refine Zj (i := 6) ?_; ((try refine Zh ?_); (first | (refine Zc (.func 223) ?_; refine qC rfl rfl (Yt _ (r.lsn) 8 (by omega) (by decide)) ?_; rintro v ρ' L' hle ⟨hl1, a1, c1, rfl, hc1, hs1, rfl⟩ <;> (try simp only [kM, kN, kO])) | (refine ZF ?_; try intro _)) <;> ((try simp only [kM, kN, kO]); refine Zf ?_; refine Zi ?_))) | (refine Zj (i := 3) ?_; ((try refine Zh ?_); (first | (refine Zl rfl rfl rfl rfl (by simp) rfl rfl (fun bs => ?_); simp only [hkB]; rw [show ([(bs, Obj.cells ⟨[ZR (tB r.kind)]⟩ 5 (0, 0))] : List (Nat × Obj)) = ZG (.slice (some ⟨bs, 0, none⟩) 1 1) ([tB r.kind].map ZR) [] 5 from rfl]; have hown : Wo (.slice (some ⟨bs, 0, none⟩) 1 1) [tB r.kind] [] := ⟨.inr ⟨bs, 1, rfl, rfl, rfl, Nat.le_refl _⟩⟩; rw [hX0] at hown ⊢) | (refine ZF ?_; try intro _)) <;> ((try simp only [kM, kN, kO]); refine Zf ?_; refine Zi ?_))))
  all_goals (refine Zj (i := 7) ?_; ((try refine Zh ?_); (first | (refine Yn (Y := be 8 r.lsn) rfl rfl hown (by first | exact hs1 | exact SIn.mono hs1 (by assumption)) (by (try simp [Zm]) <;> omega) rfl (fun va vc sp' hown => ?_)) | (refine ZF ?_; try intro _)) <;> ((try simp only [kM, kN, kO]); refine Zf ?_; refine Zi ?_)))
  all_goals (refine Zz ?_; refine rAs 8 ?_; refine Zv ?_)
  all_goals refine te_cut_g ((_, _, _)) (⟨hl1, hown⟩) Ze Ze rfl tk inferInstance
 rintro ⟨ρ1, w, sp⟩ ⟨hle1, hown⟩
 simp only [List.cons_append, List.nil_append] at hle1 ⊢
 dsimp only at hown
 obtain ⟨va, vc, rfl, _⟩ := hown.slice
 refine tc_seq ?_
 refine tc_cut_k R [] (fun (ζ : (Hp) × (Value) × (List Value)) => [(1, .pointer (some ⟨rb, 0, none⟩)), (2, .slice none 0 0), (3, ζ.2.1)]) (fun (ζ : (Hp) × (Value) × (List Value)) => ζ.1) (fun (ζ : (Hp) × (Value) × (List Value)) => [YY ζ.2.1 (X0 ++ be 8 r.lsn ++ be 4 r.txn.toNat ++ be 8 r.prev) ζ.2.2, [(rb, .cells ⟨Yx v r⟩ 34 (0, 0))]]) (fun (ζ : (Hp) × (Value) × (List Value)) => ρ1.le ζ.1 ∧ Wo ζ.2.1 (X0 ++ be 8 r.lsn ++ be 4 r.txn.toNat ++ be 8 r.prev) ζ.2.2) Ze ?_ ?_
 ·refine Zu (Zk _ _ ([[(rb, .cells ⟨Yx v r⟩ 34 (0, 0))]])) (Zw (hT := tk) (Hp.le_refl _)) ?_
  all_goals (refine Zx 0 ?_; refine ZN 1 ?_; refine ZQ 2 ?_; refine rCv 3 ?_; refine ZN 6 ?_; refine ZQ 7 ?_)
  all_goals (refine Zj (i := 4) ?_; ((try refine Zh ?_); (first | (refine Zc (.func 223) ?_; refine qC rfl rfl (Wg _ (r.txn) 4 (by omega) (by omega) (by decide)) ?_; rintro v ρ' L' hle ⟨hl2, a2, c2, rfl, hc2, hs2, rfl⟩ <;> (try simp only [kM, kN, kO])) | (refine Zc (.func 223) ?_; refine qC rfl rfl (Yt _ (r.prev) 8 (by omega) (by decide)) ?_; rintro v ρ' L' hle ⟨hl3, a3, c3, rfl, hc3, hs3, rfl⟩ <;> (try simp only [kM, kN, kO])) | (refine ZF ?_; try intro _)) <;> ((try simp only [kM, kN, kO]); refine Zf ?_; refine Zi ?_)))
  all_goals (refine Zj (i := 5) ?_; ((try refine Zh ?_); (first | (refine Yn (Y := be 4 r.txn.toNat) rfl rfl hown (by first | exact hs2 | exact SIn.mono hs2 (by assumption)) (by (try simp [Zm]) <;> omega) rfl (fun va vc sp' hown => ?_)) | (refine Yn (Y := be 8 r.prev) rfl rfl hown (by first | exact hs3 | exact SIn.mono hs3 (by assumption)) (by (try simp [Zm]) <;> omega) rfl (fun va vc sp' hown => ?_)) | (refine ZF ?_; try intro _)) <;> ((try simp only [kM, kN, kO]); refine Zf ?_; refine Zi ?_)))
  all_goals (refine Zj (i := 8) ?_; ((try refine Zh ?_); (first | (refine Zc (.func 223) ?_; refine qC rfl rfl (Wg _ (r.txn) 4 (by omega) (by omega) (by decide)) ?_; rintro v ρ' L' hle ⟨hl2, a2, c2, rfl, hc2, hs2, rfl⟩ <;> (try simp only [kM, kN, kO])) | (refine Zc (.func 223) ?_; refine qC rfl rfl (Yt _ (r.prev) 8 (by omega) (by decide)) ?_; rintro v ρ' L' hle ⟨hl3, a3, c3, rfl, hc3, hs3, rfl⟩ <;> (try simp only [kM, kN, kO])) | (refine ZF ?_; try intro _)) <;> ((try simp only [kM, kN, kO]); refine Zf ?_; refine Zi ?_)))
  all_goals (refine Zj (i := 9) ?_; ((try refine Zh ?_); (first | (refine Yn (Y := be 4 r.txn.toNat) rfl rfl hown (by first | exact hs2 | exact SIn.mono hs2 (by assumption)) (by (try simp [Zm]) <;> omega) rfl (fun va vc sp' hown => ?_)) | (refine Yn (Y := be 8 r.prev) rfl rfl hown (by first | exact hs3 | exact SIn.mono hs3 (by assumption)) (by (try simp [Zm]) <;> omega) rfl (fun va vc sp' hown => ?_)) | (refine ZF ?_; try intro _)) <;> ((try simp only [kM, kN, kO]); refine Zf ?_; refine Zi ?_)))
  all_goals (refine Zz ?_; refine rAs 10 ?_; refine Zv ?_)
  all_goals refine te_cut_g ((_, _, _)) (⟨Hp.le_trans hl2 hl3, hown⟩) Ze Ze rfl tk inferInstance
 rintro ⟨ρ2, w, sp⟩ ⟨hle2, hown⟩
 simp only [List.cons_append, List.nil_append] at hle2 ⊢
 dsimp only at hown
 obtain ⟨H, hH⟩ : ∃ H, X0 ++ be 8 r.lsn ++ be 4 r.txn.toNat ++ be 8 r.prev = H := ⟨_, rfl⟩
 have hHl : H.length = 21 := by rw [← hH]; simp [Zm, hX0l]
 have hHB : H = recHB r := by rw [← hH, ← hX0]; simp [recHB]
 rw [hH] at hown ⊢
 obtain ⟨va, vc, rfl, _⟩ := hown.slice
 have hρ := Hp.le_trans hle1 hle2
 have hNX : r.next < 18446744073709551616 := by omega
 by_cases k3 : r.kind = 3
 ·have hfin : XA r = H ++ be 8 r.next := by unfold XA recTB; rw [hHB, if_neg (by omega), if_pos k3]
  rw [hfin]
  repeat' (first | (refine Zc (.func 223) ?_; refine qC rfl rfl (Yt _ (r.next) 8 (by omega) (by decide)) ?_; rintro v ρ' L' hle ⟨hl4, a4, c4, rfl, hc4, hs4, rfl⟩ <;> (try simp only [kM, kN, kO])) | (refine Yn (Y := be 8 r.next) rfl rfl hown (by first | exact hs4 | exact SIn.mono hs4 (by assumption)) (by (try simp [Zm]) <;> omega) rfl (fun va vc sp' hown => ?_)) | refine zV ?_ | intro _)
  refine ZY (YY (.slice va (H ++ be 8 r.next).length vc) (H ++ be 8 r.next) sp') (h := by repeat (first | exact ZD | apply ZA)) (fun ρ6 hle6 hfz => ?_)
  obtain ⟨a6, c6, e6, hc6, hs6⟩ := hown.sIn hfz
  cases e6
  exact qE (L' := []) ⟨Hp.le_trans (Hp.le_trans hρ hl4) hle6, va, vc, rfl, hc6, hs6, rfl⟩
 by_cases k4 : r.kind = 4
 ·repeat' (first | (refine Zc (.func 223) ?_; refine qC rfl rfl (Yt _ (r.next) 8 (by omega) (by decide)) ?_; rintro v ρ' L' hle ⟨hl4, a4, c4, rfl, hc4, hs4, rfl⟩ <;> (try simp only [kM, kN, kO])) | (refine Yn (Y := be 8 r.next) rfl rfl hown (by first | exact hs4 | exact SIn.mono hs4 (by assumption)) (by (try simp [Zm]) <;> omega) rfl (fun va vc sp' hown => ?_)) | (refine Zl rfl rfl rfl rfl (by simp) rfl rfl (fun bs => ?_); simp only [hbs]; refine Xy (b := UInt8.ofNat v.s.n) rfl rfl hown SrcV.lit (by (try simp [Zm]) <;> omega) rfl (fun va vc sp' hown => ?_)) | refine zV ?_ | intro _)
  obtain ⟨B, hB⟩ : ∃ B, H ++ be 8 r.next ++ [UInt8.ofNat v.s.n] = B := ⟨_, rfl⟩
  rw [hB] at hown ⊢
  have hBl : B.length = 30 := by rw [← hB]; simp [Zm, hHl]
  have hfin : B ++ r.steps.flatMap XB = XA r := by rw [← hB]; unfold XA recTB XJ; rw [hHB, if_neg (by omega), if_neg (by omega), if_pos k4, hsl]; simp
  have hρ := Hp.le_trans hρ hl4
  rw [show ZG (.slice va B.length vc) (B.map ZR) sp' 5 = ZG (.slice va B.length vc) ((B ++ (r.steps.take 0).flatMap XB).map ZR) sp' 5 by simp]
  refine Zq [(1, _), (2, _), (49, _), (97, _), (98, _)] (fun (ζ : (Nat) × (Hp) × (Value) × (List Value)) => [(99, .int .i64 ζ.1), (3, ζ.2.2.1)]) (fun (ζ : (Nat) × (Hp) × (Value) × (List Value)) => ζ.2.1) (fun (ζ : (Nat) × (Hp) × (Value) × (List Value)) => [YY ζ.2.2.1 (B ++ (r.steps.take ζ.1).flatMap XB) ζ.2.2.2, [(rb, .cells ⟨Yx v r⟩ 34 (0, 0))]]) (fun (ζ : (Nat) × (Hp) × (Value) × (List Value)) => ζ.1 ≤ v.s.n ∧ ρ.le ζ.2.1 ∧ Wo ζ.2.2.1 (B ++ (r.steps.take ζ.1).flatMap XB) ζ.2.2.2) (fun (ζ : (Nat) × (Hp) × (Value) × (List Value)) => v.s.n - ζ.1) ((0, ρ', .slice va B.length vc, sp')) (⟨Nat.zero_le _, hρ, by simpa using hown⟩) Ze Ze rfl tk ?_
  rintro ⟨k, ρ1, w2, sp2⟩ hI
  try simp only [List.cons_append, List.nil_append, List.append_assoc, List.append_eq] at hI ⊢
  try dsimp only at hI ⊢
  obtain ⟨hk, hle7, hown⟩ := hI
  clear hρ
  by_cases hlt : k < v.s.n
  ·obtain ⟨b, off, C, T, fr, e1, hbb, hfit, hcc⟩ := (h.s.at'.mono hle7).get (show k < r.steps.length by omega)
   have hts := Xo XB r.steps k (by omega)
   have hmem := List.getElem_mem (show k < r.steps.length by omega)
   have hfl := Yd XB 21 (r.steps.take k) (fun x hx => stpB_len (hL.st x (List.mem_of_mem_take hx)))
   have htk : (r.steps.take k).length ≤ 64 := by simp; omega
   have hst := hL.st _ hmem
   have hsf := h.sf _ hmem
   generalize r.steps[k]'(by omega) = x at *
   have hxl : (B ++ (r.steps.take k).flatMap XB).length ≤ 20000 := by simp only [List.length_append]; omega
   have hmm : B ++ (r.steps.take k).flatMap XB ++ XB x = B ++ (r.steps.take (k + 1)).flatMap XB := by rw [hts]; simp
   generalize hX : B ++ (r.steps.take k).flatMap XB = X at *
   obtain ⟨va, vc, rfl, _⟩ := hown.slice
   rw [e1]
   have hln := stpB_len hst
   repeat' (first | (refine Zc (.func 225) ?_; refine qC rfl rfl (stepped_spec _ x hst hsf) ?_; rintro v ρ' L' hle ⟨hl5, a5, c5, rfl, hc5, hs5, rfl⟩ <;> (try simp only [kM, kN, kO])) | (refine Yn (Y := XB x) rfl rfl hown (by first | exact hs5 | exact SIn.mono hs5 (by assumption)) (by (try simp [Zm]) <;> omega) rfl (fun va vc sp' hown => ?_)) | refine zV ?_ | intro _)
   rw [← e1]
   rw [hmm] at hown ⊢
   refine Zg (k + 1, _, _, sp') (⟨hlt, Hp.le_trans hle7 hl5, hown⟩) Ze Ze rfl tk inferInstance (by first | omega | (dsimp only; omega))
  ·rw [show r.steps.take k = r.steps by rw [show k = r.steps.length by omega, List.take_length]] at hown ⊢
   have hρ := hle7
   rw [hfin] at hown ⊢
   obtain ⟨va, vc, rfl, _⟩ := hown.slice
   repeat' (first | refine zV ?_ | intro _)
   refine ZY (YY (.slice va (XA r).length vc) (XA r) sp2) (h := by repeat (first | exact ZD | apply ZA)) (fun ρ6 hle6 hfz => ?_)
   obtain ⟨a6, c6, e6, hc6, hs6⟩ := hown.sIn hfz
   cases e6
   exact qE (L' := []) ⟨Hp.le_trans hρ hle6, va, vc, rfl, hc6, hs6, rfl⟩
 by_cases k2 : r.kind = 2
 ·repeat' (first | (refine Zl rfl rfl rfl rfl (by simp) rfl rfl (fun bs => ?_); simp only [hbi]; refine Xy (b := UInt8.ofNat v.i.n) rfl rfl hown SrcV.lit (by (try simp [Zm]) <;> omega) rfl (fun va vc sp' hown => ?_)) | refine zV ?_ | intro _)
  obtain ⟨B, hB⟩ : ∃ B, H ++ [UInt8.ofNat v.i.n] = B := ⟨_, rfl⟩
  rw [hB] at hown ⊢
  have hBl : B.length ≤ 30 := by rw [← hB]; simp [hHl]
  have hfin : B ++ r.ims.flatMap (imB true) = XA r := by rw [← hB]; unfold XA recTB imsB XJ; rw [hHB, if_pos k2, decide_eq_true k2, hil]; simp
  rw [show ZG (.slice va B.length vc) (B.map ZR) sp' 5 = ZG (.slice va B.length vc) ((B ++ (r.ims.take 0).flatMap (imB true)).map ZR) sp' 5 by simp]
  refine Zq [(1, _), (2, _), (49, _), (61, _), (62, _)] (fun (ζ : (Nat) × (Hp) × (Value) × (List Value)) => [(63, .int .i64 ζ.1), (3, ζ.2.2.1)]) (fun (ζ : (Nat) × (Hp) × (Value) × (List Value)) => ζ.2.1) (fun (ζ : (Nat) × (Hp) × (Value) × (List Value)) => [YY ζ.2.2.1 (B ++ (r.ims.take ζ.1).flatMap (imB true)) ζ.2.2.2, [(rb, .cells ⟨Yx v r⟩ 34 (0, 0))]]) (fun (ζ : (Nat) × (Hp) × (Value) × (List Value)) => ζ.1 ≤ v.i.n ∧ ρ.le ζ.2.1 ∧ Wo ζ.2.2.1 (B ++ (r.ims.take ζ.1).flatMap (imB true)) ζ.2.2.2) (fun (ζ : (Nat) × (Hp) × (Value) × (List Value)) => v.i.n - ζ.1) ((0, ρ2, .slice va B.length vc, sp')) (⟨Nat.zero_le _, hρ, by simpa using hown⟩) Ze Ze rfl tk ?_
  rintro ⟨k, ρ1, w2, sp2⟩ hI
  try simp only [List.cons_append, List.nil_append, List.append_assoc, List.append_eq] at hI ⊢
  try dsimp only at hI ⊢
  obtain ⟨hk, hle7, hown⟩ := hI
  clear hρ
  by_cases hlt : k < v.i.n
  ·obtain ⟨b, off, C, T, fr, e1, hbb, hfit, hcc⟩ := (h.i.at'.mono hle7).get (show k < r.ims.length by omega)
   have hts := Xo (imB true) r.ims k (by omega)
   have hmem := List.getElem_mem (show k < r.ims.length by omega)
   have hfl := Yd (imB true) 165 (r.ims.take k) (fun x hx => imB_len (hL.im x (List.mem_of_mem_take hx)).2.1 (hL.im x (List.mem_of_mem_take hx)).2.2)
   have htk : (r.ims.take k).length ≤ 64 := by simp; omega
   have hin := h.im _ hmem
   obtain ⟨hp, ha, hb⟩ := hL.im _ hmem
   generalize r.ims[k]'(by omega) = x at *
   have hxl : (B ++ (r.ims.take k).flatMap (imB true)).length ≤ 20000 := by simp only [List.length_append]; omega
   have hmm : B ++ (r.ims.take k).flatMap (imB true) ++ (imB true) x = B ++ (r.ims.take (k + 1)).flatMap (imB true) := by rw [hts]; simp
   generalize hX : B ++ (r.ims.take k).flatMap (imB true) = X at *
   obtain ⟨va, vc, rfl, _⟩ := hown.slice
   rw [e1]
   have hpg := tB_eq (t := x.page) (by omega) (by omega)
   have h82 := Wf hb
   have h83 := Wf ha
   have hcb := bytesR_spec ρ1 x.bv x.b (hin.b.cin.mono hle7) hb (fun r hr => (hin.b.row r hr).id) hin.b.kid
   have hca := fun ρ (hle : ρ1.le ρ) => bytesR_spec ρ x.av x.a ((hin.a.cin.mono hle7).mono hle) ha (fun r hr => (hin.a.row r hr).id) hin.a.kid
   have hρ := Hp.le_refl ρ1
   repeat' (first | (refine Zl rfl rfl rfl rfl (by simp) rfl rfl (fun bs => ?_); simp only [hpg]; refine Xy (b := tB x.page) rfl rfl hown SrcV.lit (by (try simp [Zm]) <;> omega) rfl (fun va vc sp' hown => ?_)) | (refine Zc (.func 224) ?_; refine qC rfl rfl (hcb) ?_; rintro v ρ' L' hle ⟨hl5, a5, n5, c5, rfl, hc5, hs5, rfl⟩ <;> (try simp only [kM, kN, kO]); have hρ := hl5) | (refine Yn (Y := Xf x.b) rfl rfl hown (by first | exact hs5 | exact SIn.mono hs5 (by assumption)) (by (try simp [Zm]) <;> omega) rfl (fun va vc sp' hown => ?_)) | (refine Zc (.func 224) ?_; refine qC rfl rfl (hca _ hρ) ?_; rintro v ρ' L' hle ⟨hl6, a6, n6, c6, rfl, hc6, hs6, rfl⟩ <;> (try simp only [kM, kN, kO]); have hρ := Hp.le_trans hρ hl6) | (refine Yn (Y := Xf x.a) rfl rfl hown (by first | exact hs6 | exact SIn.mono hs6 (by assumption)) (by (try simp [Zm]) <;> omega) rfl (fun va vc sp' hown => ?_)) | refine zV ?_ | intro _)
   rw [← e1]
   have e2 : X ++ [tB x.page] ++ Xf x.b ++ Xf x.a = B ++ (r.ims.take (k + 1)).flatMap (imB true) := by rw [← hmm]; simp [imB]
   rw [e2] at hown ⊢
   refine Zg (k + 1, _, _, sp') (⟨hlt, Hp.le_trans hle7 hρ, hown⟩) Ze Ze rfl tk inferInstance (by first | omega | (dsimp only; omega))
  ·rw [show r.ims.take k = r.ims by rw [show k = r.ims.length by omega, List.take_length]] at hown ⊢
   have hρ := hle7
   rw [hfin] at hown ⊢
   obtain ⟨va, vc, rfl, _⟩ := hown.slice
   repeat' (first | refine zV ?_ | intro _)
   refine ZY (YY (.slice va (XA r).length vc) (XA r) sp2) (h := by repeat (first | exact ZD | apply ZA)) (fun ρ6 hle6 hfz => ?_)
   obtain ⟨a6, c6, e6, hc6, hs6⟩ := hown.sIn hfz
   cases e6
   exact qE (L' := []) ⟨Hp.le_trans hρ hle6, va, vc, rfl, hc6, hs6, rfl⟩
 by_cases k5 : r.kind = 5
 ·repeat' (first | (refine Zc (.func 223) ?_; refine qC rfl rfl (Yt _ (r.next) 8 (by omega) (by decide)) ?_; rintro v ρ' L' hle ⟨hl4, a4, c4, rfl, hc4, hs4, rfl⟩ <;> (try simp only [kM, kN, kO])) | (refine Yn (Y := be 8 r.next) rfl rfl hown (by first | exact hs4 | exact SIn.mono hs4 (by assumption)) (by (try simp [Zm]) <;> omega) rfl (fun va vc sp' hown => ?_)) | (refine Zl rfl rfl rfl rfl (by simp) rfl rfl (fun bs => ?_); simp only [hbi]; refine Xy (b := UInt8.ofNat v.i.n) rfl rfl hown SrcV.lit (by (try simp [Zm]) <;> omega) rfl (fun va vc sp' hown => ?_)) | refine zV ?_ | intro _)
  obtain ⟨B, hB⟩ : ∃ B, H ++ be 8 r.next ++ [UInt8.ofNat v.i.n] = B := ⟨_, rfl⟩
  rw [hB] at hown ⊢
  have hBl : B.length ≤ 30 := by rw [← hB]; simp [Zm, hHl]
  have hfin : B ++ r.ims.flatMap (imB false) = XA r := by rw [← hB]; unfold XA recTB imsB XJ; rw [hHB, if_neg (by omega), if_neg (by omega), if_neg (by omega), if_pos k5, decide_eq_false (by omega), hil]; simp
  have hρ := Hp.le_trans hρ hl4
  rw [show ZG (.slice va B.length vc) (B.map ZR) sp' 5 = ZG (.slice va B.length vc) ((B ++ (r.ims.take 0).flatMap (imB false)).map ZR) sp' 5 by simp]
  refine Zq [(1, _), (2, _), (49, _), (61, _), (62, _)] (fun (ζ : (Nat) × (Hp) × (Value) × (List Value)) => [(63, .int .i64 ζ.1), (3, ζ.2.2.1)]) (fun (ζ : (Nat) × (Hp) × (Value) × (List Value)) => ζ.2.1) (fun (ζ : (Nat) × (Hp) × (Value) × (List Value)) => [YY ζ.2.2.1 (B ++ (r.ims.take ζ.1).flatMap (imB false)) ζ.2.2.2, [(rb, .cells ⟨Yx v r⟩ 34 (0, 0))]]) (fun (ζ : (Nat) × (Hp) × (Value) × (List Value)) => ζ.1 ≤ v.i.n ∧ ρ.le ζ.2.1 ∧ Wo ζ.2.2.1 (B ++ (r.ims.take ζ.1).flatMap (imB false)) ζ.2.2.2) (fun (ζ : (Nat) × (Hp) × (Value) × (List Value)) => v.i.n - ζ.1) ((0, ρ', .slice va B.length vc, sp')) (⟨Nat.zero_le _, hρ, by simpa using hown⟩) Ze Ze rfl tk ?_
  rintro ⟨k, ρ1, w2, sp2⟩ hI
  try simp only [List.cons_append, List.nil_append, List.append_assoc, List.append_eq] at hI ⊢
  try dsimp only at hI ⊢
  obtain ⟨hk, hle7, hown⟩ := hI
  clear hρ
  by_cases hlt : k < v.i.n
  ·obtain ⟨b, off, C, T, fr, e1, hbb, hfit, hcc⟩ := (h.i.at'.mono hle7).get (show k < r.ims.length by omega)
   have hts := Xo (imB false) r.ims k (by omega)
   have hmem := List.getElem_mem (show k < r.ims.length by omega)
   have hfl := Yd (imB false) 165 (r.ims.take k) (fun x hx => imB_len (hL.im x (List.mem_of_mem_take hx)).2.1 (hL.im x (List.mem_of_mem_take hx)).2.2)
   have htk : (r.ims.take k).length ≤ 64 := by simp; omega
   have hin := h.im _ hmem
   obtain ⟨hp, ha, hb⟩ := hL.im _ hmem
   generalize r.ims[k]'(by omega) = x at *
   have hxl : (B ++ (r.ims.take k).flatMap (imB false)).length ≤ 20000 := by simp only [List.length_append]; omega
   have hmm : B ++ (r.ims.take k).flatMap (imB false) ++ (imB false) x = B ++ (r.ims.take (k + 1)).flatMap (imB false) := by rw [hts]; simp
   generalize hX : B ++ (r.ims.take k).flatMap (imB false) = X at *
   obtain ⟨va, vc, rfl, _⟩ := hown.slice
   rw [e1]
   have hpg := tB_eq (t := x.page) (by omega) (by omega)
   have h82 := Wf hb
   have h83 := Wf ha
   have hcb := bytesR_spec ρ1 x.bv x.b (hin.b.cin.mono hle7) hb (fun r hr => (hin.b.row r hr).id) hin.b.kid
   have hca := fun ρ (hle : ρ1.le ρ) => bytesR_spec ρ x.av x.a ((hin.a.cin.mono hle7).mono hle) ha (fun r hr => (hin.a.row r hr).id) hin.a.kid
   have hρ := Hp.le_refl ρ1
   repeat' (first | (refine Zl rfl rfl rfl rfl (by simp) rfl rfl (fun bs => ?_); simp only [hpg]; refine Xy (b := tB x.page) rfl rfl hown SrcV.lit (by (try simp [Zm]) <;> omega) rfl (fun va vc sp' hown => ?_)) | (refine Zc (.func 224) ?_; refine qC rfl rfl (hca _ hρ) ?_; rintro v ρ' L' hle ⟨hl6, a6, n6, c6, rfl, hc6, hs6, rfl⟩ <;> (try simp only [kM, kN, kO]); have hρ := Hp.le_trans hρ hl6) | (refine Yn (Y := Xf x.a) rfl rfl hown (by first | exact hs6 | exact SIn.mono hs6 (by assumption)) (by (try simp [Zm]) <;> omega) rfl (fun va vc sp' hown => ?_)) | refine zV ?_ | intro _)
   rw [← e1]
   have e2 : X ++ [tB x.page] ++ Xf x.a = B ++ (r.ims.take (k + 1)).flatMap (imB false) := by rw [← hmm]; simp [imB]
   rw [e2] at hown ⊢
   refine Zg (k + 1, _, _, sp') (⟨hlt, Hp.le_trans hle7 hρ, hown⟩) Ze Ze rfl tk inferInstance (by first | omega | (dsimp only; omega))
  ·rw [show r.ims.take k = r.ims by rw [show k = r.ims.length by omega, List.take_length]] at hown ⊢
   have hρ := hle7
   rw [hfin] at hown ⊢
   obtain ⟨va, vc, rfl, _⟩ := hown.slice
   repeat' (first | refine zV ?_ | intro _)
   refine ZY (YY (.slice va (XA r).length vc) (XA r) sp2) (h := by repeat (first | exact ZD | apply ZA)) (fun ρ6 hle6 hfz => ?_)
   obtain ⟨a6, c6, e6, hc6, hs6⟩ := hown.sIn hfz
   cases e6
   exact qE (L' := []) ⟨Hp.le_trans hρ hle6, va, vc, rfl, hc6, hs6, rfl⟩
 by_cases k9 : r.kind = 9
 ·repeat' (first | refine zV ?_ | intro _)
  refine tc_cut_k R [] (fun (ζ : (Hp) × (Value) × (List Value)) => [(1, .pointer (some ⟨rb, 0, none⟩)), (2, .slice none 0 0), (3, ζ.2.1)]) (fun (ζ : (Hp) × (Value) × (List Value)) => ζ.1) (fun (ζ : (Hp) × (Value) × (List Value)) => [YY ζ.2.1 (H ++ be 4 r.nextTxn.toNat ++ [UInt8.ofNat v.t.n]) ζ.2.2, [(rb, .cells ⟨Yx v r⟩ 34 (0, 0))]]) (fun (ζ : (Hp) × (Value) × (List Value)) => ρ2.le ζ.1 ∧ Wo ζ.2.1 (H ++ be 4 r.nextTxn.toNat ++ [UInt8.ofNat v.t.n]) ζ.2.2) Ze ?_ ?_
  ·refine Zu (Zk _ _ ([[(rb, .cells ⟨Yx v r⟩ 34 (0, 0))]])) (Zw (hT := tk) (Hp.le_refl _)) ?_
   all_goals (refine Zx 0 ?_; refine ZN 1 ?_; refine ZQ 2 ?_; refine rCv 3 ?_; refine ZN 6 ?_; refine ZQ 7 ?_; refine rBi 8 ?_; refine rCv 9 ?_)
   all_goals (refine YD (i := 4) (j := 10) ?_ ?_ <;> ((try refine Zh ?_); (first | (refine Zc (.func 223) ?_; refine qC rfl rfl (Wg _ (r.nextTxn) 4 (by omega) (by omega) (by decide)) ?_; rintro v ρ' L' hle ⟨hl5, a5, c5, rfl, hc5, hs5, rfl⟩ <;> (try simp only [kM, kN, kO])) | (refine Zl rfl rfl rfl rfl (by simp) rfl rfl (fun bs => ?_); simp only [hbt]) | (refine ZF ?_; try intro _)) <;> ((try simp only [kM, kN, kO]); refine Zf ?_; refine Zi ?_)))
   all_goals (first | (refine YD (i := 5) (j := 10) ?_ ?_ <;> ((try refine Zh ?_); (first | (refine Yn (Y := be 4 r.nextTxn.toNat) rfl rfl hown (by first | exact hs5 | exact SIn.mono hs5 (by assumption)) (by (try simp [Zm]) <;> omega) rfl (fun va vc sp' hown => ?_)) | (refine Zl rfl rfl rfl rfl (by simp) rfl rfl (fun bs => ?_); simp only [hbt]) | (refine Xy (b := UInt8.ofNat v.t.n) rfl rfl hown SrcV.lit (by (try simp [Zm]) <;> omega) rfl (fun va vc sp' hown => ?_)) | (refine ZF ?_; try intro _)) <;> ((try simp only [kM, kN, kO]); refine Zf ?_; refine Zi ?_))) | (refine Zj (i := 4) ?_; ((try refine Zh ?_); (first | (refine Zc (.func 223) ?_; refine qC rfl rfl (Wg _ (r.nextTxn) 4 (by omega) (by omega) (by decide)) ?_; rintro v ρ' L' hle ⟨hl5, a5, c5, rfl, hc5, hs5, rfl⟩ <;> (try simp only [kM, kN, kO])) | (refine ZF ?_; try intro _)) <;> ((try simp only [kM, kN, kO]); refine Zf ?_; refine Zi ?_))))
   all_goals (first | (refine Zj (i := 10) ?_; ((try refine Zh ?_); (first | (refine Zl rfl rfl rfl rfl (by simp) rfl rfl (fun bs => ?_); simp only [hbt]) | (refine ZF ?_; try intro _)) <;> ((try simp only [kM, kN, kO]); refine Zf ?_; refine Zi ?_))) | (refine Zj (i := 5) ?_; ((try refine Zh ?_); (first | (refine Yn (Y := be 4 r.nextTxn.toNat) rfl rfl hown (by first | exact hs5 | exact SIn.mono hs5 (by assumption)) (by (try simp [Zm]) <;> omega) rfl (fun va vc sp' hown => ?_)) | (refine Xy (b := UInt8.ofNat v.t.n) rfl rfl hown SrcV.lit (by (try simp [Zm]) <;> omega) rfl (fun va vc sp' hown => ?_)) | (refine ZF ?_; try intro _)) <;> ((try simp only [kM, kN, kO]); refine Zf ?_; refine Zi ?_))))
   all_goals (refine Zj (i := 11) ?_; ((try refine Zh ?_); (first | (refine Yn (Y := be 4 r.nextTxn.toNat) rfl rfl hown (by first | exact hs5 | exact SIn.mono hs5 (by assumption)) (by (try simp [Zm]) <;> omega) rfl (fun va vc sp' hown => ?_)) | (refine Xy (b := UInt8.ofNat v.t.n) rfl rfl hown SrcV.lit (by (try simp [Zm]) <;> omega) rfl (fun va vc sp' hown => ?_)) | (refine ZF ?_; try intro _)) <;> ((try simp only [kM, kN, kO]); refine Zf ?_; refine Zi ?_)))
   all_goals (refine Zz ?_; refine rAs 12 ?_; refine Zv ?_)
   all_goals refine te_cut_g ((_, _, _)) (⟨hl5, hown⟩) Ze Ze rfl tk inferInstance
  rintro ⟨ρ3, w, sp⟩ ⟨hle3, hown⟩
  simp only [List.cons_append, List.nil_append] at hle3 ⊢
  dsimp only at hown
  obtain ⟨va, vc, rfl, _⟩ := hown.slice
  obtain ⟨B, hB⟩ : ∃ B, H ++ be 4 r.nextTxn.toNat ++ [UInt8.ofNat v.t.n] = B := ⟨_, rfl⟩
  rw [hB] at hown ⊢
  have hBl : B.length = 26 := by rw [← hB]; simp [Zm, hHl]
  have hfin : B ++ r.txns.flatMap XT ++ [UInt8.ofNat v.d.n] ++ r.dirty.flatMap Wq = XA r := by rw [← hB]; unfold XA recTB XJ; rw [hHB, if_neg (by omega), if_neg (by omega), if_neg (by omega), if_neg (by omega), if_pos k9, htl, hdl]; simp
  have hρ := Hp.le_trans hρ hle3
  repeat' (first | refine zV ?_ | intro _)
  rw [show YY (.slice va B.length vc) B sp = ZG (.slice va B.length vc) (B.map ZR) sp 5 from rfl]
  rw [show ZG (.slice va B.length vc) (B.map ZR) sp 5 = ZG (.slice va B.length vc) ((B ++ (r.txns.take 0).flatMap XT).map ZR) sp 5 by simp]
  refine Zq [(1, _), (2, _), (123, _), (124, _)] (fun (ζ : (Nat) × (Hp) × (Value) × (List Value)) => [(125, .int .i64 ζ.1), (3, ζ.2.2.1)]) (fun (ζ : (Nat) × (Hp) × (Value) × (List Value)) => ζ.2.1) (fun (ζ : (Nat) × (Hp) × (Value) × (List Value)) => [YY ζ.2.2.1 (B ++ (r.txns.take ζ.1).flatMap XT) ζ.2.2.2, [(rb, .cells ⟨Yx v r⟩ 34 (0, 0))]]) (fun (ζ : (Nat) × (Hp) × (Value) × (List Value)) => ζ.1 ≤ v.t.n ∧ ρ.le ζ.2.1 ∧ Wo ζ.2.2.1 (B ++ (r.txns.take ζ.1).flatMap XT) ζ.2.2.2) (fun (ζ : (Nat) × (Hp) × (Value) × (List Value)) => v.t.n - ζ.1) ((0, ρ3, .slice va B.length vc, sp)) (⟨Nat.zero_le _, hρ, by simpa using hown⟩) Ze Ze rfl tk ?_
  rintro ⟨k, ρ1, w2, sp2⟩ hI
  try simp only [List.cons_append, List.nil_append, List.append_assoc, List.append_eq] at hI ⊢
  try dsimp only at hI ⊢
  obtain ⟨hk, hle7, hown⟩ := hI
  clear hρ
  by_cases hlt : k < v.t.n
  ·obtain ⟨b, off, C, T, fr, e1, hbb, hfit, hcc⟩ := (h.t.at'.mono hle7).get (show k < r.txns.length by omega)
   have hts := Xo XT r.txns k (by omega)
   have hmem := List.getElem_mem (show k < r.txns.length by omega)
   have hfl := Yd XT 29 (r.txns.take k) (fun x hx => Nat.le_of_eq (ckTB_len x))
   have htk : (r.txns.take k).length ≤ 64 := by simp; omega
   obtain ⟨q1, q2, q3, q4, q5⟩ := hL.tx _ hmem
   generalize r.txns[k]'(by omega) = x at *
   have hxl : (B ++ (r.txns.take k).flatMap XT).length ≤ 20000 := by simp only [List.length_append]; omega
   have hmm : B ++ (r.txns.take k).flatMap XT ++ XT x = B ++ (r.txns.take (k + 1)).flatMap XT := by rw [hts]; simp
   generalize hX : B ++ (r.txns.take k).flatMap XT = X at *
   obtain ⟨va, vc, rfl, _⟩ := hown.slice
   rw [e1]
   have hst := tB_eq (t := x.state) (by omega) (by omega)
   repeat' (first | refine zV ?_ | intro _)
   refine Zu (Zk _ _ ([[(_, .cells ⟨XU x⟩ 169 (0, 0))]])) (Zw (hT := tk) (Hp.le_refl _)) ?_
   all_goals (refine Zx 0 ?_; refine ZN 1 ?_; refine ZQ 2 ?_; refine rCv 3 ?_; refine ZN 6 ?_; refine ZQ 7 ?_)
   all_goals (refine Zj (i := 4) ?_; ((try refine Zh ?_); (first | (refine Zc (.func 223) ?_; refine qC rfl rfl (Wg _ (x.txn) 4 (by omega) (by omega) (by decide)) ?_; rintro v ρ' L' hle ⟨hl5, a5, c5, rfl, hc5, hs5, rfl⟩ <;> (try simp only [kM, kN, kO])) | (refine Zc (.func 223) ?_; refine qC rfl rfl (Yt _ (x.first) 8 (by omega) (by decide)) ?_; rintro v ρ' L' hle ⟨hl6, a6, c6, rfl, hc6, hs6, rfl⟩ <;> (try simp only [kM, kN, kO])) | (refine ZF ?_; try intro _)) <;> ((try simp only [kM, kN, kO]); refine Zf ?_; refine Zi ?_)))
   all_goals (refine Zj (i := 5) ?_; ((try refine Zh ?_); (first | (refine Yn (Y := be 4 x.txn.toNat) rfl rfl hown (by first | exact hs5 | exact SIn.mono hs5 (by assumption)) (by (try simp [Zm]) <;> omega) rfl (fun va vc sp' hown => ?_)) | (refine Yn (Y := be 8 x.first) rfl rfl hown (by first | exact hs6 | exact SIn.mono hs6 (by assumption)) (by (try simp [Zm]) <;> omega) rfl (fun va vc sp' hown => ?_)) | (refine ZF ?_; try intro _)) <;> ((try simp only [kM, kN, kO]); refine Zf ?_; refine Zi ?_)))
   all_goals (refine Zj (i := 8) ?_; ((try refine Zh ?_); (first | (refine Zc (.func 223) ?_; refine qC rfl rfl (Wg _ (x.txn) 4 (by omega) (by omega) (by decide)) ?_; rintro v ρ' L' hle ⟨hl5, a5, c5, rfl, hc5, hs5, rfl⟩ <;> (try simp only [kM, kN, kO])) | (refine Zc (.func 223) ?_; refine qC rfl rfl (Yt _ (x.first) 8 (by omega) (by decide)) ?_; rintro v ρ' L' hle ⟨hl6, a6, c6, rfl, hc6, hs6, rfl⟩ <;> (try simp only [kM, kN, kO])) | (refine ZF ?_; try intro _)) <;> ((try simp only [kM, kN, kO]); refine Zf ?_; refine Zi ?_)))
   all_goals (refine Zj (i := 9) ?_; ((try refine Zh ?_); (first | (refine Yn (Y := be 4 x.txn.toNat) rfl rfl hown (by first | exact hs5 | exact SIn.mono hs5 (by assumption)) (by (try simp [Zm]) <;> omega) rfl (fun va vc sp' hown => ?_)) | (refine Yn (Y := be 8 x.first) rfl rfl hown (by first | exact hs6 | exact SIn.mono hs6 (by assumption)) (by (try simp [Zm]) <;> omega) rfl (fun va vc sp' hown => ?_)) | (refine ZF ?_; try intro _)) <;> ((try simp only [kM, kN, kO]); refine Zf ?_; refine Zi ?_)))
   all_goals (refine Zz ?_; refine rAs 10 ?_; refine Zv ?_)
   all_goals (repeat' (first | refine zV ?_ | intro _))
   all_goals refine Zu (Zk _ _ ([[(_, .cells ⟨XU x⟩ 169 (0, 0))]])) (Zw (hT := tk) (Hp.le_refl _)) ?_
   all_goals (refine Zx 0 ?_; refine ZN 1 ?_; refine ZQ 2 ?_; refine ZN 5 ?_; refine ZQ 6 ?_; refine ZN 9 ?_; refine ZQ 10 ?_; refine rCv 11 ?_)
   all_goals (refine YD (i := 3) (j := 12) ?_ ?_ <;> ((try refine Zh ?_); (first | (refine Zc (.func 223) ?_; refine qC rfl rfl (Yt _ (x.last) 8 (by omega) (by decide)) ?_; rintro v ρ' L' hle ⟨hl7, a7, c7, rfl, hc7, hs7, rfl⟩ <;> (try simp only [kM, kN, kO])) | (refine Zc (.func 223) ?_; refine qC rfl rfl (Yt _ (x.undo) 8 (by omega) (by decide)) ?_; rintro v ρ' L' hle ⟨hl8, a8, c8, rfl, hc8, hs8, rfl⟩ <;> (try simp only [kM, kN, kO])) | (refine Zl rfl rfl rfl rfl (by simp) rfl rfl (fun bs => ?_); simp only [hst]) | (refine ZF ?_; try intro _)) <;> ((try simp only [kM, kN, kO]); refine Zf ?_; refine Zi ?_)))
   all_goals (first | (refine YD (i := 4) (j := 12) ?_ ?_ <;> ((try refine Zh ?_); (first | (refine Yn (Y := be 8 x.last) rfl rfl hown (by first | exact hs7 | exact SIn.mono hs7 (by assumption)) (by (try simp [Zm]) <;> omega) rfl (fun va vc sp' hown => ?_)) | (refine Yn (Y := be 8 x.undo) rfl rfl hown (by first | exact hs8 | exact SIn.mono hs8 (by assumption)) (by (try simp [Zm]) <;> omega) rfl (fun va vc sp' hown => ?_)) | (refine Zl rfl rfl rfl rfl (by simp) rfl rfl (fun bs => ?_); simp only [hst]) | (refine Xy (b := tB x.state) rfl rfl hown SrcV.lit (by (try simp [Zm]) <;> omega) rfl (fun va vc sp' hown => ?_)) | (refine ZF ?_; try intro _)) <;> ((try simp only [kM, kN, kO]); refine Zf ?_; refine Zi ?_))) | (refine Zj (i := 3) ?_; ((try refine Zh ?_); (first | (refine Zc (.func 223) ?_; refine qC rfl rfl (Yt _ (x.last) 8 (by omega) (by decide)) ?_; rintro v ρ' L' hle ⟨hl7, a7, c7, rfl, hc7, hs7, rfl⟩ <;> (try simp only [kM, kN, kO])) | (refine Zc (.func 223) ?_; refine qC rfl rfl (Yt _ (x.undo) 8 (by omega) (by decide)) ?_; rintro v ρ' L' hle ⟨hl8, a8, c8, rfl, hc8, hs8, rfl⟩ <;> (try simp only [kM, kN, kO])) | (refine ZF ?_; try intro _)) <;> ((try simp only [kM, kN, kO]); refine Zf ?_; refine Zi ?_))))
   all_goals (first | (refine YD (i := 7) (j := 12) ?_ ?_ <;> ((try refine Zh ?_); (first | (refine Zc (.func 223) ?_; refine qC rfl rfl (Yt _ (x.last) 8 (by omega) (by decide)) ?_; rintro v ρ' L' hle ⟨hl7, a7, c7, rfl, hc7, hs7, rfl⟩ <;> (try simp only [kM, kN, kO])) | (refine Zc (.func 223) ?_; refine qC rfl rfl (Yt _ (x.undo) 8 (by omega) (by decide)) ?_; rintro v ρ' L' hle ⟨hl8, a8, c8, rfl, hc8, hs8, rfl⟩ <;> (try simp only [kM, kN, kO])) | (refine Zl rfl rfl rfl rfl (by simp) rfl rfl (fun bs => ?_); simp only [hst]) | (refine ZF ?_; try intro _)) <;> ((try simp only [kM, kN, kO]); refine Zf ?_; refine Zi ?_))) | (refine Zj (i := 4) ?_; ((try refine Zh ?_); (first | (refine Yn (Y := be 8 x.last) rfl rfl hown (by first | exact hs7 | exact SIn.mono hs7 (by assumption)) (by (try simp [Zm]) <;> omega) rfl (fun va vc sp' hown => ?_)) | (refine Yn (Y := be 8 x.undo) rfl rfl hown (by first | exact hs8 | exact SIn.mono hs8 (by assumption)) (by (try simp [Zm]) <;> omega) rfl (fun va vc sp' hown => ?_)) | (refine Xy (b := tB x.state) rfl rfl hown SrcV.lit (by (try simp [Zm]) <;> omega) rfl (fun va vc sp' hown => ?_)) | (refine ZF ?_; try intro _)) <;> ((try simp only [kM, kN, kO]); refine Zf ?_; refine Zi ?_))))
   all_goals (first | (refine YD (i := 8) (j := 12) ?_ ?_ <;> ((try refine Zh ?_); (first | (refine Yn (Y := be 8 x.last) rfl rfl hown (by first | exact hs7 | exact SIn.mono hs7 (by assumption)) (by (try simp [Zm]) <;> omega) rfl (fun va vc sp' hown => ?_)) | (refine Yn (Y := be 8 x.undo) rfl rfl hown (by first | exact hs8 | exact SIn.mono hs8 (by assumption)) (by (try simp [Zm]) <;> omega) rfl (fun va vc sp' hown => ?_)) | (refine Zl rfl rfl rfl rfl (by simp) rfl rfl (fun bs => ?_); simp only [hst]) | (refine Xy (b := tB x.state) rfl rfl hown SrcV.lit (by (try simp [Zm]) <;> omega) rfl (fun va vc sp' hown => ?_)) | (refine ZF ?_; try intro _)) <;> ((try simp only [kM, kN, kO]); refine Zf ?_; refine Zi ?_))) | (refine Zj (i := 7) ?_; ((try refine Zh ?_); (first | (refine Zc (.func 223) ?_; refine qC rfl rfl (Yt _ (x.last) 8 (by omega) (by decide)) ?_; rintro v ρ' L' hle ⟨hl7, a7, c7, rfl, hc7, hs7, rfl⟩ <;> (try simp only [kM, kN, kO])) | (refine Zc (.func 223) ?_; refine qC rfl rfl (Yt _ (x.undo) 8 (by omega) (by decide)) ?_; rintro v ρ' L' hle ⟨hl8, a8, c8, rfl, hc8, hs8, rfl⟩ <;> (try simp only [kM, kN, kO])) | (refine ZF ?_; try intro _)) <;> ((try simp only [kM, kN, kO]); refine Zf ?_; refine Zi ?_))))
   all_goals (first | (refine Zj (i := 12) ?_; ((try refine Zh ?_); (first | (refine Zl rfl rfl rfl rfl (by simp) rfl rfl (fun bs => ?_); simp only [hst]) | (refine ZF ?_; try intro _)) <;> ((try simp only [kM, kN, kO]); refine Zf ?_; refine Zi ?_))) | (refine Zj (i := 8) ?_; ((try refine Zh ?_); (first | (refine Yn (Y := be 8 x.last) rfl rfl hown (by first | exact hs7 | exact SIn.mono hs7 (by assumption)) (by (try simp [Zm]) <;> omega) rfl (fun va vc sp' hown => ?_)) | (refine Yn (Y := be 8 x.undo) rfl rfl hown (by first | exact hs8 | exact SIn.mono hs8 (by assumption)) (by (try simp [Zm]) <;> omega) rfl (fun va vc sp' hown => ?_)) | (refine Xy (b := tB x.state) rfl rfl hown SrcV.lit (by (try simp [Zm]) <;> omega) rfl (fun va vc sp' hown => ?_)) | (refine ZF ?_; try intro _)) <;> ((try simp only [kM, kN, kO]); refine Zf ?_; refine Zi ?_))))
   all_goals (refine Zj (i := 13) ?_; ((try refine Zh ?_); (first | (refine Yn (Y := be 8 x.last) rfl rfl hown (by first | exact hs7 | exact SIn.mono hs7 (by assumption)) (by (try simp [Zm]) <;> omega) rfl (fun va vc sp' hown => ?_)) | (refine Yn (Y := be 8 x.undo) rfl rfl hown (by first | exact hs8 | exact SIn.mono hs8 (by assumption)) (by (try simp [Zm]) <;> omega) rfl (fun va vc sp' hown => ?_)) | (refine Xy (b := tB x.state) rfl rfl hown SrcV.lit (by (try simp [Zm]) <;> omega) rfl (fun va vc sp' hown => ?_)) | (refine ZF ?_; try intro _)) <;> ((try simp only [kM, kN, kO]); refine Zf ?_; refine Zi ?_)))
   all_goals (refine Zz ?_; refine rAs 14 ?_; refine Zv ?_)
   all_goals (repeat' (first | refine zV ?_ | intro _))
   all_goals rw [← e1]
   all_goals have e2 : X ++ be 4 x.txn.toNat ++ be 8 x.first ++ be 8 x.last ++ be 8 x.undo ++ [tB x.state] = B ++ (r.txns.take (k + 1)).flatMap XT := by rw [← hmm]; simp [XT]
   all_goals rw [e2] at hown ⊢
   all_goals refine Zg (k + 1, _, _, sp') (⟨hlt, Hp.le_trans hle7 (Hp.le_trans hl5 (Hp.le_trans hl6 (Hp.le_trans hl7 hl8))), hown⟩) Ze Ze rfl tk inferInstance (by first | omega | (dsimp only; omega))
  ·rw [show r.txns.take k = r.txns by rw [show k = r.txns.length by omega, List.take_length]] at hown ⊢
   have hρ := hle7
   obtain ⟨C1, hC1⟩ : ∃ C1, B ++ r.txns.flatMap XT = C1 := ⟨_, rfl⟩
   rw [hC1] at hown hfin ⊢
   have hC1l : C1.length ≤ 300 := by
    have := Yd XT 29 r.txns (fun x hx => Nat.le_of_eq (ckTB_len x))
    rw [← hC1, List.length_append]; omega
   obtain ⟨va, vc, rfl, _⟩ := hown.slice
   repeat' (first | (refine Zl rfl rfl rfl rfl (by simp) rfl rfl (fun bs => ?_); simp only [hbd]; refine Xy (b := UInt8.ofNat v.d.n) rfl rfl hown SrcV.lit (by (try simp [Zm]) <;> omega) rfl (fun va vc sp' hown => ?_)) | refine zV ?_ | intro _)
   obtain ⟨B2, hB2⟩ : ∃ B2, C1 ++ [UInt8.ofNat v.d.n] = B2 := ⟨_, rfl⟩
   rw [hB2] at hown hfin ⊢
   have hfin2 := hfin
   have hB2l : B2.length ≤ 400 := by rw [← hB2]; simp; omega
   rw [show ZG (.slice va B2.length vc) (B2.map ZR) sp' 5 = ZG (.slice va B2.length vc) ((B2 ++ (r.dirty.take 0).flatMap Wq).map ZR) sp' 5 by simp]
   refine Zq [(2, _), (162, _), (163, _)] (fun (ζ : (Nat) × (Hp) × (Value) × (List Value)) => [(164, .int .i64 ζ.1), (3, ζ.2.2.1)]) (fun (ζ : (Nat) × (Hp) × (Value) × (List Value)) => ζ.2.1) (fun (ζ : (Nat) × (Hp) × (Value) × (List Value)) => [YY ζ.2.2.1 (B2 ++ (r.dirty.take ζ.1).flatMap Wq) ζ.2.2.2, [(rb, .cells ⟨Yx v r⟩ 34 (0, 0))]]) (fun (ζ : (Nat) × (Hp) × (Value) × (List Value)) => ζ.1 ≤ v.d.n ∧ ρ.le ζ.2.1 ∧ Wo ζ.2.2.1 (B2 ++ (r.dirty.take ζ.1).flatMap Wq) ζ.2.2.2) (fun (ζ : (Nat) × (Hp) × (Value) × (List Value)) => v.d.n - ζ.1) ((0, ρ1, .slice va B2.length vc, sp')) (⟨Nat.zero_le _, hρ, by simpa using hown⟩) Ze Ze rfl tk ?_
   rintro ⟨k, ρ9, w2, sp2⟩ hI
   try simp only [List.cons_append, List.nil_append, List.append_assoc, List.append_eq] at hI ⊢
   try dsimp only at hI ⊢
   obtain ⟨hk, hle7, hown⟩ := hI
   clear hρ
   by_cases hlt : k < v.d.n
   ·obtain ⟨b, off, C, T, fr, e1, hbb, hfit, hcc⟩ := (h.d.at'.mono hle7).get (show k < r.dirty.length by omega)
    have hts := Xo Wq r.dirty k (by omega)
    have hmem := List.getElem_mem (show k < r.dirty.length by omega)
    have hfl := Yd Wq 9 (r.dirty.take k) (fun x hx => Nat.le_of_eq (ckPB_len x))
    have htk : (r.dirty.take k).length ≤ 64 := by simp; omega
    obtain ⟨q1, q2⟩ := hL.di _ hmem
    generalize r.dirty[k]'(by omega) = x at *
    have hxl : (B2 ++ (r.dirty.take k).flatMap Wq).length ≤ 20000 := by simp only [List.length_append]; omega
    have hmm : B2 ++ (r.dirty.take k).flatMap Wq ++ Wq x = B2 ++ (r.dirty.take (k + 1)).flatMap Wq := by rw [hts]; simp
    generalize hX : B2 ++ (r.dirty.take k).flatMap Wq = X at *
    obtain ⟨va, vc, rfl, _⟩ := hown.slice
    rw [e1]
    have hpg := tB_eq (t := x.page) (by omega) (by omega)
    repeat' (first | refine zV ?_ | intro _)
    refine Zu (Zk _ _ ([[(_, .cells ⟨YG x⟩ 92 (0, 0))]])) (Zw (hT := tk) (Hp.le_refl _)) ?_
    all_goals (refine Zx 0 ?_; refine ZN 1 ?_; refine ZQ 2 ?_; refine rCv 3 ?_; refine ZN 6 ?_; refine ZQ 7 ?_)
    all_goals (refine Zj (i := 4) ?_; ((try refine Zh ?_); (first | (refine Zl rfl rfl rfl rfl (by simp) rfl rfl (fun bs => ?_); simp only [hpg]) | (refine ZF ?_; try intro _)) <;> ((try simp only [kM, kN, kO]); refine Zf ?_; refine Zi ?_)))
    all_goals (refine Zj (i := 5) ?_; ((try refine Zh ?_); (first | (refine Xy (b := tB x.page) rfl rfl hown SrcV.lit (by (try simp [Zm]) <;> omega) rfl (fun va vc sp' hown => ?_)) | (refine Yn (Y := be 8 x.since) rfl rfl hown (by first | exact hs8 | exact SIn.mono hs8 (by assumption)) (by (try simp [Zm]) <;> omega) rfl (fun va vc sp' hown => ?_)) | (refine ZF ?_; try intro _)) <;> ((try simp only [kM, kN, kO]); refine Zf ?_; refine Zi ?_)))
    all_goals (refine Zj (i := 8) ?_; ((try refine Zh ?_); (first | (refine Zc (.func 223) ?_; refine qC rfl rfl (Yt _ (x.since) 8 (by omega) (by decide)) ?_; rintro v ρ' L' hle ⟨hl8, a8, c8, rfl, hc8, hs8, rfl⟩ <;> (try simp only [kM, kN, kO])) | (refine ZF ?_; try intro _)) <;> ((try simp only [kM, kN, kO]); refine Zf ?_; refine Zi ?_)))
    all_goals (refine Zj (i := 9) ?_; ((try refine Zh ?_); (first | (refine Xy (b := tB x.page) rfl rfl hown SrcV.lit (by (try simp [Zm]) <;> omega) rfl (fun va vc sp' hown => ?_)) | (refine Yn (Y := be 8 x.since) rfl rfl hown (by first | exact hs8 | exact SIn.mono hs8 (by assumption)) (by (try simp [Zm]) <;> omega) rfl (fun va vc sp' hown => ?_)) | (refine ZF ?_; try intro _)) <;> ((try simp only [kM, kN, kO]); refine Zf ?_; refine Zi ?_)))
    all_goals (refine Zz ?_; refine rAs 10 ?_; refine Zv ?_)
    all_goals (repeat' (first | refine zV ?_ | intro _))
    all_goals rw [← e1]
    all_goals have e2 : X ++ [tB x.page] ++ be 8 x.since = B2 ++ (r.dirty.take (k + 1)).flatMap Wq := by rw [← hmm]; simp [Wq]
    all_goals rw [e2] at hown ⊢
    all_goals refine Zg (k + 1, _, _, sp') (⟨hlt, Hp.le_trans hle7 hl8, hown⟩) Ze Ze rfl tk inferInstance (by first | omega | (dsimp only; omega))
   ·rw [show r.dirty.take k = r.dirty by rw [show k = r.dirty.length by omega, List.take_length]] at hown ⊢
    have hρ := hle7
    rw [hfin2] at hown ⊢
    obtain ⟨va, vc, rfl, _⟩ := hown.slice
    repeat' (first | refine zV ?_ | intro _)
    refine ZY (YY (.slice va (XA r).length vc) (XA r) sp2) (h := by repeat (first | exact ZD | apply ZA)) (fun ρ6 hle6 hfz => ?_)
    obtain ⟨a6, c6, e6, hc6, hs6⟩ := hown.sIn hfz
    cases e6
    exact qE (L' := []) ⟨Hp.le_trans hρ hle6, va, vc, rfl, hc6, hs6, rfl⟩
 have hfin : H = XA r := by unfold XA recTB; rw [hHB, if_neg k2, if_neg k3, if_neg k4, if_neg k5, if_neg k9, List.append_nil]
 rw [hfin] at hown ⊢
 repeat' (first | refine zV ?_ | intro _)
 refine ZY (YY (.slice va (XA r).length vc) (XA r) sp) (h := by repeat (first | exact ZD | apply ZA)) (fun ρ6 hle6 hfz => ?_)
 obtain ⟨a6, c6, e6, hc6, hs6⟩ := hown.sIn hfz
 cases e6
 exact qE (L' := []) ⟨Hp.le_trans hρ hle6, va, vc, rfl, hc6, hs6, rfl⟩
end Go.Proofs.E
