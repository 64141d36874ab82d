/- The law RosterDoes. Part 14 of 20. -/
import Derived.Test.YtjajdpfdhokkhaaGreatY13
namespace Go.Proofs.E
open Go
set_option linter.unusedVariables false
set_option linter.unusedSimpArgs false
set_option linter.unusedSectionVars false
set_option maxRecDepth 4000
set_option maxHeartbeats 1000000
attribute [local irreducible] Yl TL TC TE Spec Wq R1 Hp.le EnvLe TS TR YS Zs
theorem YC (ρ : Hp) (x : Nat) (n : Nat) (hz : x < 18446744073709551616) (hn : n ≤ 8) :
  Spec Tryz.prog 113 [.int .u64 (x : Int), .int .i64 n] ρ [] (fun v ρ' L' => ρ.le ρ' ∧ ∃ a c, v = .slice a n c ∧ n ≤ c ∧ SIn ρ' Yc a n (be n x) ∧ L' = []) := by
 have := Wl ρ (x : Int) n (by omega) (by omega) hn
 rwa [Int.toNat_natCast] at this
theorem bytes12_spec (ρ : Hp) (v : RV) (r : Rc) (h : RcIn ρ v r) (hL : LayOk r) :
  Spec Tryz.prog 31 [.agg ⟨Xh v r⟩] ρ [] (fun z ρ' L' => ρ.le ρ' ∧ ∃ a c, z = .slice a (Xv r).length c ∧ (Xv r).length ≤ c ∧ SIn ρ' Yc a (Xv r).length (Xv r) ∧ L' = []) := by
 have g1 := hL.kind
 have g2 := hL.lsn
 have g3 := hL.txn
 have g4 := hL.next
 have g5 := hL.nextTxn
 have g6 := hL.prev
 have hkB := tB_eq (t := r.kind) (by omega) (by omega)
 have hil := h.i.at'.len
 have hsl := h.s.at'.len
 have htl := h.t.at'.len
 have hdl := h.d.at'.len
 have li := hL.il
 have ls := hL.sl
 have lt' := hL.tl
 have ld := hL.dl
 have hbi := lenB (n := v.i.n) (by omega)
 have hbs := lenB (n := v.s.n) (by omega)
 have hbt := lenB (n := v.t.n) (by omega)
 have hbd := lenB (n := v.d.n) (by omega)
 refine Zg Tryz.func31 rfl rfl rfl fun u R => ?_
 simp only [Zx, List.cons_append, List.nil_append]
 obtain ⟨X0, hX0⟩ : ∃ X0, [tB r.kind] = X0 := ⟨_, rfl⟩
 have hX0l : X0.length = 1 := by rw [← hX0]; rfl
 repeat' (first | (refine ZE ?_; refine Zo (Zd rfl) rfl rfl ?_) | (refine Zj ?_; first | (refine Zf ?_; refine qQ ?_) | refine Zn ?_) | refine Zb ?_ | (refine Zi ?_; refine Zv ?_) | (refine Zh ?_; refine Zu ?_) | intro _)
 rename_i rb
 refine tc_cut_k R [] (fun (ζ : (Hp) × (Value) × (List Value)) => [(1, .pointer (some ⟨rb, 0, none⟩)), (2, .slice none 0 0), (3, ζ.2.1)]) (fun (ζ : (Hp) × (Value) × (List Value)) => ζ.1) (fun (ζ : (Hp) × (Value) × (List Value)) => [YV ζ.2.1 (X0 ++ be 8 r.lsn) ζ.2.2, [(rb, .cells ⟨Xh v r⟩ 30 (0, 0))]]) (fun (ζ : (Hp) × (Value) × (List Value)) => ρ.le ζ.1 ∧ Wt ζ.2.1 (X0 ++ be 8 r.lsn) ζ.2.2) Zm ?_ ?_
 ·refine ZD (Zs _ _ ([[(rb, .cells ⟨Xh v r⟩ 30 (0, 0))]])) (Zz (hT := tk) (Hp.le_refl _)) ?_
  all_goals (refine ZS 0 ?_; refine ZX 1 ?_; refine rCv 2 ?_; refine ZS 4 ?_; refine ZX 5 ?_)
  all_goals (refine Ye (i := 3) (j := 6) ?_ ?_ <;> ((try refine Zk ?_); (first | (refine Zr rfl rfl rfl rfl (by simp) rfl rfl (fun bs => ?_); simp only [hkB]; rw [show ([(bs, Obj.cells ⟨[Yc (tB r.kind)]⟩ 5 (0, 0))] : List (Nat × Obj)) = ZK (.slice (some ⟨bs, 0, none⟩) 1 1) ([tB r.kind].map Yc) [] 5 from rfl]; have hown : Wt (.slice (some ⟨bs, 0, none⟩) 1 1) [tB r.kind] [] := ⟨.inr ⟨bs, 1, rfl, rfl, rfl, Nat.le_refl _⟩⟩; rw [hX0] at hown ⊢) | (refine Ze (.func 113) ?_; refine qC rfl rfl (YC _ (r.lsn) 8 (by omega) (by decide)) ?_; rintro v ρ' L' hle ⟨hl1, a1, c1, rfl, hc1, hs1, rfl⟩ <;> (try simp only [kM, kN, kO])) | (refine Zn ?_; try intro _)) <;> ((try simp only [kM, kN, kO]); refine Zb ?_; refine Zl ?_)))
  all_goals (first | (refine Zp (i := 6) ?_; ((try refine Zk ?_); (first | (refine Ze (.func 113) ?_; refine qC rfl rfl (YC _ (r.lsn) 8 (by omega) (by decide)) ?_; rintro v ρ' L' hle ⟨hl1, a1, c1, rfl, hc1, hs1, rfl⟩ <;> (try simp only [kM, kN, kO])) | (refine Zn ?_; try intro _)) <;> ((try simp only [kM, kN, kO]); refine Zb ?_; refine Zl ?_))) | (refine Zp (i := 3) ?_; ((try refine Zk ?_); (first | (refine Zr rfl rfl rfl rfl (by simp) rfl rfl (fun bs => ?_); simp only [hkB]; rw [show ([(bs, Obj.cells ⟨[Yc (tB r.kind)]⟩ 5 (0, 0))] : List (Nat × Obj)) = ZK (.slice (some ⟨bs, 0, none⟩) 1 1) ([tB r.kind].map Yc) [] 5 from rfl]; have hown : Wt (.slice (some ⟨bs, 0, none⟩) 1 1) [tB r.kind] [] := ⟨.inr ⟨bs, 1, rfl, rfl, rfl, Nat.le_refl _⟩⟩; rw [hX0] at hown ⊢) | (refine Zn ?_; try intro _)) <;> ((try simp only [kM, kN, kO]); refine Zb ?_; refine Zl ?_))))
  all_goals (refine Zp (i := 7) ?_; ((try refine Zk ?_); (first | (refine Yv (Y := be 8 r.lsn) rfl rfl hown (by first | exact hs1 | exact SIn.mono hs1 (by assumption)) (by (try simp [Zt]) <;> omega) rfl (fun va vc sp' hown => ?_)) | (refine Zn ?_; try intro _)) <;> ((try simp only [kM, kN, kO]); refine Zb ?_; refine Zl ?_)))
  all_goals (refine ZO ?_; refine rAs 8 ?_; refine ZI ?_)
  all_goals refine te_cut_g ((_, _, _)) (⟨hl1, hown⟩) Zm Zm rfl tk inferInstance
 rintro ⟨ρ1, w, sp⟩ ⟨hle1, hown⟩
 simp only [List.cons_append, List.nil_append] at hle1 ⊢
 dsimp only at hown
 obtain ⟨va, vc, rfl, _⟩ := hown.slice
 refine tc_seq ?_
 refine tc_cut_k R [] (fun (ζ : (Hp) × (Value) × (List Value)) => [(1, .pointer (some ⟨rb, 0, none⟩)), (2, .slice none 0 0), (3, ζ.2.1)]) (fun (ζ : (Hp) × (Value) × (List Value)) => ζ.1) (fun (ζ : (Hp) × (Value) × (List Value)) => [YV ζ.2.1 (X0 ++ be 8 r.lsn ++ be 4 r.txn.toNat ++ be 8 r.prev) ζ.2.2, [(rb, .cells ⟨Xh v r⟩ 30 (0, 0))]]) (fun (ζ : (Hp) × (Value) × (List Value)) => ρ1.le ζ.1 ∧ Wt ζ.2.1 (X0 ++ be 8 r.lsn ++ be 4 r.txn.toNat ++ be 8 r.prev) ζ.2.2) Zm ?_ ?_
 ·refine ZD (Zs _ _ ([[(rb, .cells ⟨Xh v r⟩ 30 (0, 0))]])) (Zz (hT := tk) (Hp.le_refl _)) ?_
  all_goals (refine ZT 0 ?_; refine ZS 1 ?_; refine ZX 2 ?_; refine rCv 3 ?_; refine ZS 6 ?_; refine ZX 7 ?_)
  all_goals (refine Zp (i := 4) ?_; ((try refine Zk ?_); (first | (refine Ze (.func 113) ?_; refine qC rfl rfl (Wl _ (r.txn) 4 (by omega) (by omega) (by decide)) ?_; rintro v ρ' L' hle ⟨hl2, a2, c2, rfl, hc2, hs2, rfl⟩ <;> (try simp only [kM, kN, kO])) | (refine Ze (.func 113) ?_; refine qC rfl rfl (YC _ (r.prev) 8 (by omega) (by decide)) ?_; rintro v ρ' L' hle ⟨hl3, a3, c3, rfl, hc3, hs3, rfl⟩ <;> (try simp only [kM, kN, kO])) | (refine Zn ?_; try intro _)) <;> ((try simp only [kM, kN, kO]); refine Zb ?_; refine Zl ?_)))
  all_goals (refine Zp (i := 5) ?_; ((try refine Zk ?_); (first | (refine Yv (Y := be 4 r.txn.toNat) rfl rfl hown (by first | exact hs2 | exact SIn.mono hs2 (by assumption)) (by (try simp [Zt]) <;> omega) rfl (fun va vc sp' hown => ?_)) | (refine Yv (Y := be 8 r.prev) rfl rfl hown (by first | exact hs3 | exact SIn.mono hs3 (by assumption)) (by (try simp [Zt]) <;> omega) rfl (fun va vc sp' hown => ?_)) | (refine Zn ?_; try intro _)) <;> ((try simp only [kM, kN, kO]); refine Zb ?_; refine Zl ?_)))
  all_goals (refine Zp (i := 8) ?_; ((try refine Zk ?_); (first | (refine Ze (.func 113) ?_; refine qC rfl rfl (Wl _ (r.txn) 4 (by omega) (by omega) (by decide)) ?_; rintro v ρ' L' hle ⟨hl2, a2, c2, rfl, hc2, hs2, rfl⟩ <;> (try simp only [kM, kN, kO])) | (refine Ze (.func 113) ?_; refine qC rfl rfl (YC _ (r.prev) 8 (by omega) (by decide)) ?_; rintro v ρ' L' hle ⟨hl3, a3, c3, rfl, hc3, hs3, rfl⟩ <;> (try simp only [kM, kN, kO])) | (refine Zn ?_; try intro _)) <;> ((try simp only [kM, kN, kO]); refine Zb ?_; refine Zl ?_)))
  all_goals (refine Zp (i := 9) ?_; ((try refine Zk ?_); (first | (refine Yv (Y := be 4 r.txn.toNat) rfl rfl hown (by first | exact hs2 | exact SIn.mono hs2 (by assumption)) (by (try simp [Zt]) <;> omega) rfl (fun va vc sp' hown => ?_)) | (refine Yv (Y := be 8 r.prev) rfl rfl hown (by first | exact hs3 | exact SIn.mono hs3 (by assumption)) (by (try simp [Zt]) <;> omega) rfl (fun va vc sp' hown => ?_)) | (refine Zn ?_; try intro _)) <;> ((try simp only [kM, kN, kO]); refine Zb ?_; refine Zl ?_)))
  all_goals (refine ZO ?_; refine rAs 10 ?_; refine ZI ?_)
  all_goals refine te_cut_g ((_, _, _)) (⟨Hp.le_trans hl2 hl3, hown⟩) Zm Zm rfl tk inferInstance
 rintro ⟨ρ2, w, sp⟩ ⟨hle2, hown⟩
 simp only [List.cons_append, List.nil_append] at hle2 ⊢
 dsimp only at hown
 obtain ⟨H, hH⟩ : ∃ H, X0 ++ be 8 r.lsn ++ be 4 r.txn.toNat ++ be 8 r.prev = H := ⟨_, rfl⟩
 have hHl : H.length = 21 := by rw [← hH]; simp [Zt, hX0l]
 have hHB : H = recHB r := by rw [← hH, ← hX0]; simp [recHB]
 rw [hH] at hown ⊢
 obtain ⟨va, vc, rfl, _⟩ := hown.slice
 have hρ := Hp.le_trans hle1 hle2
 have hNX : r.next < 18446744073709551616 := by omega
 by_cases k3 : r.kind = 3
 ·have hfin : Xv r = H ++ be 8 r.next := by unfold Xv recTB; rw [hHB, if_neg (by omega), if_pos k3]
  rw [hfin]
  repeat' (first | (refine Ze (.func 113) ?_; refine qC rfl rfl (YC _ (r.next) 8 (by omega) (by decide)) ?_; rintro v ρ' L' hle ⟨hl4, a4, c4, rfl, hc4, hs4, rfl⟩ <;> (try simp only [kM, kN, kO])) | (refine Yv (Y := be 8 r.next) rfl rfl hown (by first | exact hs4 | exact SIn.mono hs4 (by assumption)) (by (try simp [Zt]) <;> omega) rfl (fun va vc sp' hown => ?_)) | (refine ZE ?_; refine Zo (Zd rfl) rfl rfl ?_) | (refine Zj ?_; first | (refine Zf ?_; refine qQ ?_) | refine Zn ?_) | refine Zb ?_ | (refine Zi ?_; refine Zv ?_) | (refine Zh ?_; refine Zu ?_) | intro _)
  refine Yk (YV (.slice va (H ++ be 8 r.next).length vc) (H ++ be 8 r.next) sp') (h := by repeat (first | exact ZH | apply ZG)) (fun ρ6 hle6 hfz => ?_)
  obtain ⟨a6, c6, e6, hc6, hs6⟩ := hown.sIn hfz
  cases e6
  exact qE (L' := []) ⟨Hp.le_trans (Hp.le_trans hρ hl4) hle6, va, vc, rfl, hc6, hs6, rfl⟩
 by_cases k4 : r.kind = 4
 ·repeat' (first | (refine Ze (.func 113) ?_; refine qC rfl rfl (YC _ (r.next) 8 (by omega) (by decide)) ?_; rintro v ρ' L' hle ⟨hl4, a4, c4, rfl, hc4, hs4, rfl⟩ <;> (try simp only [kM, kN, kO])) | (refine Yv (Y := be 8 r.next) rfl rfl hown (by first | exact hs4 | exact SIn.mono hs4 (by assumption)) (by (try simp [Zt]) <;> omega) rfl (fun va vc sp' hown => ?_)) | (refine Zr rfl rfl rfl rfl (by simp) rfl rfl (fun bs => ?_); simp only [hbs]; refine Xr (b := UInt8.ofNat v.s.n) rfl rfl hown SrcV.lit (by (try simp [Zt]) <;> omega) rfl (fun va vc sp' hown => ?_)) | (refine ZE ?_; refine Zo (Zd rfl) rfl rfl ?_) | (refine Zj ?_; first | (refine Zf ?_; refine qQ ?_) | refine Zn ?_) | refine Zb ?_ | (refine Zi ?_; refine Zv ?_) | (refine Zh ?_; refine Zu ?_) | intro _)
  obtain ⟨B, hB⟩ : ∃ B, H ++ be 8 r.next ++ [UInt8.ofNat v.s.n] = B := ⟨_, rfl⟩
  rw [hB] at hown ⊢
  have hBl : B.length = 30 := by rw [← hB]; simp [Zt, hHl]
  have hfin : B ++ r.steps.flatMap Xu = Xv r := by rw [← hB]; unfold Xv recTB XD; rw [hHB, if_neg (by omega), if_neg (by omega), if_pos k4, hsl]; simp
  have hρ := Hp.le_trans hρ hl4
  rw [show ZK (.slice va B.length vc) (B.map Yc) sp' 5 = ZK (.slice va B.length vc) ((B ++ (r.steps.take 0).flatMap Xu).map Yc) sp' 5 by simp]
  refine ZB [(1, _), (2, _), (49, _), (97, _), (98, _)] (fun (ζ : (Nat) × (Hp) × (Value) × (List Value)) => [(99, .int .i64 ζ.1), (3, ζ.2.2.1)]) (fun (ζ : (Nat) × (Hp) × (Value) × (List Value)) => ζ.2.1) (fun (ζ : (Nat) × (Hp) × (Value) × (List Value)) => [YV ζ.2.2.1 (B ++ (r.steps.take ζ.1).flatMap Xu) ζ.2.2.2, [(rb, .cells ⟨Xh v r⟩ 30 (0, 0))]]) (fun (ζ : (Nat) × (Hp) × (Value) × (List Value)) => ζ.1 ≤ v.s.n ∧ ρ.le ζ.2.1 ∧ Wt ζ.2.2.1 (B ++ (r.steps.take ζ.1).flatMap Xu) ζ.2.2.2) (fun (ζ : (Nat) × (Hp) × (Value) × (List Value)) => v.s.n - ζ.1) ((0, ρ', .slice va B.length vc, sp')) (⟨Nat.zero_le _, hρ, by simpa using hown⟩) Zm Zm rfl tk ?_
  rintro ⟨k, ρ1, w2, sp2⟩ hI
  try simp only [List.cons_append, List.nil_append, List.append_assoc, List.append_eq] at hI ⊢
  try dsimp only at hI ⊢
  obtain ⟨hk, hle7, hown⟩ := hI
  clear hρ
  by_cases hlt : k < v.s.n
  ·obtain ⟨b, off, C, T, fr, e1, hbb, hfit, hcc⟩ := (h.s.at'.mono hle7).get (show k < r.steps.length by omega)
   have hts := Xm Xu r.steps k (by omega)
   have hmem := List.getElem_mem (show k < r.steps.length by omega)
   have hfl := Yq Xu 21 (r.steps.take k) (fun x hx => stpB_len (hL.st x (List.mem_of_mem_take hx)))
   have htk : (r.steps.take k).length ≤ 64 := by simp; omega
   have hst := hL.st _ hmem
   have hsf := h.sf _ hmem
   generalize r.steps[k]'(by omega) = x at *
   have hxl : (B ++ (r.steps.take k).flatMap Xu).length ≤ 20000 := by simp only [List.length_append]; omega
   have hmm : B ++ (r.steps.take k).flatMap Xu ++ Xu x = B ++ (r.steps.take (k + 1)).flatMap Xu := by rw [hts]; simp
   generalize hX : B ++ (r.steps.take k).flatMap Xu = X at *
   obtain ⟨va, vc, rfl, _⟩ := hown.slice
   rw [e1]
   have hln := stpB_len hst
   repeat' (first | (refine Ze (.func 115) ?_; refine qC rfl rfl (stepped_spec _ x hst hsf) ?_; rintro v ρ' L' hle ⟨hl5, a5, c5, rfl, hc5, hs5, rfl⟩ <;> (try simp only [kM, kN, kO])) | (refine Yv (Y := Xu x) rfl rfl hown (by first | exact hs5 | exact SIn.mono hs5 (by assumption)) (by (try simp [Zt]) <;> omega) rfl (fun va vc sp' hown => ?_)) | (refine ZE ?_; refine Zo (Zd rfl) rfl rfl ?_) | (refine Zj ?_; first | (refine Zf ?_; refine qQ ?_) | refine Zn ?_) | refine Zb ?_ | (refine Zi ?_; refine Zv ?_) | (refine Zh ?_; refine Zu ?_) | intro _)
   rw [← e1]
   rw [hmm] at hown ⊢
   refine Zq (k + 1, _, _, sp') (⟨hlt, Hp.le_trans hle7 hl5, hown⟩) Zm Zm rfl tk inferInstance (by first | omega | (dsimp only; omega))
  ·rw [show r.steps.take k = r.steps by rw [show k = r.steps.length by omega, List.take_length]] at hown ⊢
   have hρ := hle7
   rw [hfin] at hown ⊢
   obtain ⟨va, vc, rfl, _⟩ := hown.slice
   repeat' (first | (refine ZE ?_; refine Zo (Zd rfl) rfl rfl ?_) | (refine Zj ?_; first | (refine Zf ?_; refine qQ ?_) | refine Zn ?_) | refine Zb ?_ | (refine Zi ?_; refine Zv ?_) | (refine Zh ?_; refine Zu ?_) | intro _)
   refine Yk (YV (.slice va (Xv r).length vc) (Xv r) sp2) (h := by repeat (first | exact ZH | apply ZG)) (fun ρ6 hle6 hfz => ?_)
   obtain ⟨a6, c6, e6, hc6, hs6⟩ := hown.sIn hfz
   cases e6
   exact qE (L' := []) ⟨Hp.le_trans hρ hle6, va, vc, rfl, hc6, hs6, rfl⟩
 by_cases k2 : r.kind = 2
 ·repeat' (first | (refine Zr rfl rfl rfl rfl (by simp) rfl rfl (fun bs => ?_); simp only [hbi]; refine Xr (b := UInt8.ofNat v.i.n) rfl rfl hown SrcV.lit (by (try simp [Zt]) <;> omega) rfl (fun va vc sp' hown => ?_)) | (refine ZE ?_; refine Zo (Zd rfl) rfl rfl ?_) | (refine Zj ?_; first | (refine Zf ?_; refine qQ ?_) | refine Zn ?_) | refine Zb ?_ | (refine Zi ?_; refine Zv ?_) | (refine Zh ?_; refine Zu ?_) | intro _)
  obtain ⟨B, hB⟩ : ∃ B, H ++ [UInt8.ofNat v.i.n] = B := ⟨_, rfl⟩
  rw [hB] at hown ⊢
  have hBl : B.length ≤ 30 := by rw [← hB]; simp [hHl]
  have hfin : B ++ r.ims.flatMap (imB true) = Xv r := by rw [← hB]; unfold Xv recTB imsB XD; rw [hHB, if_pos k2, decide_eq_true k2, hil]; simp
  rw [show ZK (.slice va B.length vc) (B.map Yc) sp' 5 = ZK (.slice va B.length vc) ((B ++ (r.ims.take 0).flatMap (imB true)).map Yc) sp' 5 by simp]
  refine ZB [(1, _), (2, _), (49, _), (61, _), (62, _)] (fun (ζ : (Nat) × (Hp) × (Value) × (List Value)) => [(63, .int .i64 ζ.1), (3, ζ.2.2.1)]) (fun (ζ : (Nat) × (Hp) × (Value) × (List Value)) => ζ.2.1) (fun (ζ : (Nat) × (Hp) × (Value) × (List Value)) => [YV ζ.2.2.1 (B ++ (r.ims.take ζ.1).flatMap (imB true)) ζ.2.2.2, [(rb, .cells ⟨Xh v r⟩ 30 (0, 0))]]) (fun (ζ : (Nat) × (Hp) × (Value) × (List Value)) => ζ.1 ≤ v.i.n ∧ ρ.le ζ.2.1 ∧ Wt ζ.2.2.1 (B ++ (r.ims.take ζ.1).flatMap (imB true)) ζ.2.2.2) (fun (ζ : (Nat) × (Hp) × (Value) × (List Value)) => v.i.n - ζ.1) ((0, ρ2, .slice va B.length vc, sp')) (⟨Nat.zero_le _, hρ, by simpa using hown⟩) Zm Zm rfl tk ?_
  rintro ⟨k, ρ1, w2, sp2⟩ hI
  try simp only [List.cons_append, List.nil_append, List.append_assoc, List.append_eq] at hI ⊢
  try dsimp only at hI ⊢
  obtain ⟨hk, hle7, hown⟩ := hI
  clear hρ
  by_cases hlt : k < v.i.n
  ·obtain ⟨b, off, C, T, fr, e1, hbb, hfit, hcc⟩ := (h.i.at'.mono hle7).get (show k < r.ims.length by omega)
   have hts := Xm (imB true) r.ims k (by omega)
   have hmem := List.getElem_mem (show k < r.ims.length by omega)
   have hfl := Yq (imB true) 165 (r.ims.take k) (fun x hx => imB_len (hL.im x (List.mem_of_mem_take hx)).2.1 (hL.im x (List.mem_of_mem_take hx)).2.2)
   have htk : (r.ims.take k).length ≤ 64 := by simp; omega
   have hin := h.im _ hmem
   obtain ⟨hp, ha, hb⟩ := hL.im _ hmem
   generalize r.ims[k]'(by omega) = x at *
   have hxl : (B ++ (r.ims.take k).flatMap (imB true)).length ≤ 20000 := by simp only [List.length_append]; omega
   have hmm : B ++ (r.ims.take k).flatMap (imB true) ++ (imB true) x = B ++ (r.ims.take (k + 1)).flatMap (imB true) := by rw [hts]; simp
   generalize hX : B ++ (r.ims.take k).flatMap (imB true) = X at *
   obtain ⟨va, vc, rfl, _⟩ := hown.slice
   rw [e1]
   have hpg := tB_eq (t := x.page) (by omega) (by omega)
   have h82 := Wm hb
   have h83 := Wm ha
   have hcb := bytesR_spec ρ1 x.bv x.b (hin.b.cin.mono hle7) hb (fun r hr => (hin.b.row r hr).id) hin.b.kid
   have hca := fun ρ (hle : ρ1.le ρ) => bytesR_spec ρ x.av x.a ((hin.a.cin.mono hle7).mono hle) ha (fun r hr => (hin.a.row r hr).id) hin.a.kid
   have hρ := Hp.le_refl ρ1
   repeat' (first | (refine Zr rfl rfl rfl rfl (by simp) rfl rfl (fun bs => ?_); simp only [hpg]; refine Xr (b := tB x.page) rfl rfl hown SrcV.lit (by (try simp [Zt]) <;> omega) rfl (fun va vc sp' hown => ?_)) | (refine Ze (.func 114) ?_; refine qC rfl rfl (hcb) ?_; rintro v ρ' L' hle ⟨hl5, a5, n5, c5, rfl, hc5, hs5, rfl⟩ <;> (try simp only [kM, kN, kO]); have hρ := hl5) | (refine Yv (Y := Xb x.b) rfl rfl hown (by first | exact hs5 | exact SIn.mono hs5 (by assumption)) (by (try simp [Zt]) <;> omega) rfl (fun va vc sp' hown => ?_)) | (refine Ze (.func 114) ?_; refine qC rfl rfl (hca _ hρ) ?_; rintro v ρ' L' hle ⟨hl6, a6, n6, c6, rfl, hc6, hs6, rfl⟩ <;> (try simp only [kM, kN, kO]); have hρ := Hp.le_trans hρ hl6) | (refine Yv (Y := Xb x.a) rfl rfl hown (by first | exact hs6 | exact SIn.mono hs6 (by assumption)) (by (try simp [Zt]) <;> omega) rfl (fun va vc sp' hown => ?_)) | (refine ZE ?_; refine Zo (Zd rfl) rfl rfl ?_) | (refine Zj ?_; first | (refine Zf ?_; refine qQ ?_) | refine Zn ?_) | refine Zb ?_ | (refine Zi ?_; refine Zv ?_) | (refine Zh ?_; refine Zu ?_) | intro _)
   rw [← e1]
   have e2 : X ++ [tB x.page] ++ Xb x.b ++ Xb x.a = B ++ (r.ims.take (k + 1)).flatMap (imB true) := by rw [← hmm]; simp [imB]
   rw [e2] at hown ⊢
   refine Zq (k + 1, _, _, sp') (⟨hlt, Hp.le_trans hle7 hρ, hown⟩) Zm Zm rfl tk inferInstance (by first | omega | (dsimp only; omega))
  ·rw [show r.ims.take k = r.ims by rw [show k = r.ims.length by omega, List.take_length]] at hown ⊢
   have hρ := hle7
   rw [hfin] at hown ⊢
   obtain ⟨va, vc, rfl, _⟩ := hown.slice
   repeat' (first | (refine ZE ?_; refine Zo (Zd rfl) rfl rfl ?_) | (refine Zj ?_; first | (refine Zf ?_; refine qQ ?_) | refine Zn ?_) | refine Zb ?_ | (refine Zi ?_; refine Zv ?_) | (refine Zh ?_; refine Zu ?_) | intro _)
   refine Yk (YV (.slice va (Xv r).length vc) (Xv r) sp2) (h := by repeat (first | exact ZH | apply ZG)) (fun ρ6 hle6 hfz => ?_)
   obtain ⟨a6, c6, e6, hc6, hs6⟩ := hown.sIn hfz
   cases e6
   exact qE (L' := []) ⟨Hp.le_trans hρ hle6, va, vc, rfl, hc6, hs6, rfl⟩
 by_cases k5 : r.kind = 5
 ·repeat' (first | (refine Ze (.func 113) ?_; refine qC rfl rfl (YC _ (r.next) 8 (by omega) (by decide)) ?_; rintro v ρ' L' hle ⟨hl4, a4, c4, rfl, hc4, hs4, rfl⟩ <;> (try simp only [kM, kN, kO])) | (refine Yv (Y := be 8 r.next) rfl rfl hown (by first | exact hs4 | exact SIn.mono hs4 (by assumption)) (by (try simp [Zt]) <;> omega) rfl (fun va vc sp' hown => ?_)) | (refine Zr rfl rfl rfl rfl (by simp) rfl rfl (fun bs => ?_); simp only [hbi]; refine Xr (b := UInt8.ofNat v.i.n) rfl rfl hown SrcV.lit (by (try simp [Zt]) <;> omega) rfl (fun va vc sp' hown => ?_)) | (refine ZE ?_; refine Zo (Zd rfl) rfl rfl ?_) | (refine Zj ?_; first | (refine Zf ?_; refine qQ ?_) | refine Zn ?_) | refine Zb ?_ | (refine Zi ?_; refine Zv ?_) | (refine Zh ?_; refine Zu ?_) | intro _)
  obtain ⟨B, hB⟩ : ∃ B, H ++ be 8 r.next ++ [UInt8.ofNat v.i.n] = B := ⟨_, rfl⟩
  rw [hB] at hown ⊢
  have hBl : B.length ≤ 30 := by rw [← hB]; simp [Zt, hHl]
  have hfin : B ++ r.ims.flatMap (imB false) = Xv r := by rw [← hB]; unfold Xv recTB imsB XD; rw [hHB, if_neg (by omega), if_neg (by omega), if_neg (by omega), if_pos k5, decide_eq_false (by omega), hil]; simp
  have hρ := Hp.le_trans hρ hl4
  rw [show ZK (.slice va B.length vc) (B.map Yc) sp' 5 = ZK (.slice va B.length vc) ((B ++ (r.ims.take 0).flatMap (imB false)).map Yc) sp' 5 by simp]
  refine ZB [(1, _), (2, _), (49, _), (61, _), (62, _)] (fun (ζ : (Nat) × (Hp) × (Value) × (List Value)) => [(63, .int .i64 ζ.1), (3, ζ.2.2.1)]) (fun (ζ : (Nat) × (Hp) × (Value) × (List Value)) => ζ.2.1) (fun (ζ : (Nat) × (Hp) × (Value) × (List Value)) => [YV ζ.2.2.1 (B ++ (r.ims.take ζ.1).flatMap (imB false)) ζ.2.2.2, [(rb, .cells ⟨Xh v r⟩ 30 (0, 0))]]) (fun (ζ : (Nat) × (Hp) × (Value) × (List Value)) => ζ.1 ≤ v.i.n ∧ ρ.le ζ.2.1 ∧ Wt ζ.2.2.1 (B ++ (r.ims.take ζ.1).flatMap (imB false)) ζ.2.2.2) (fun (ζ : (Nat) × (Hp) × (Value) × (List Value)) => v.i.n - ζ.1) ((0, ρ', .slice va B.length vc, sp')) (⟨Nat.zero_le _, hρ, by simpa using hown⟩) Zm Zm rfl tk ?_
  rintro ⟨k, ρ1, w2, sp2⟩ hI
  try simp only [List.cons_append, List.nil_append, List.append_assoc, List.append_eq] at hI ⊢
  try dsimp only at hI ⊢
  obtain ⟨hk, hle7, hown⟩ := hI
  clear hρ
  by_cases hlt : k < v.i.n
  ·obtain ⟨b, off, C, T, fr, e1, hbb, hfit, hcc⟩ := (h.i.at'.mono hle7).get (show k < r.ims.length by omega)
   have hts := Xm (imB false) r.ims k (by omega)
   have hmem := List.getElem_mem (show k < r.ims.length by omega)
   have hfl := Yq (imB false) 165 (r.ims.take k) (fun x hx => imB_len (hL.im x (List.mem_of_mem_take hx)).2.1 (hL.im x (List.mem_of_mem_take hx)).2.2)
   have htk : (r.ims.take k).length ≤ 64 := by simp; omega
   have hin := h.im _ hmem
   obtain ⟨hp, ha, hb⟩ := hL.im _ hmem
   generalize r.ims[k]'(by omega) = x at *
   have hxl : (B ++ (r.ims.take k).flatMap (imB false)).length ≤ 20000 := by simp only [List.length_append]; omega
   have hmm : B ++ (r.ims.take k).flatMap (imB false) ++ (imB false) x = B ++ (r.ims.take (k + 1)).flatMap (imB false) := by rw [hts]; simp
   generalize hX : B ++ (r.ims.take k).flatMap (imB false) = X at *
   obtain ⟨va, vc, rfl, _⟩ := hown.slice
   rw [e1]
   have hpg := tB_eq (t := x.page) (by omega) (by omega)
   have h82 := Wm hb
   have h83 := Wm ha
   have hcb := bytesR_spec ρ1 x.bv x.b (hin.b.cin.mono hle7) hb (fun r hr => (hin.b.row r hr).id) hin.b.kid
   have hca := fun ρ (hle : ρ1.le ρ) => bytesR_spec ρ x.av x.a ((hin.a.cin.mono hle7).mono hle) ha (fun r hr => (hin.a.row r hr).id) hin.a.kid
   have hρ := Hp.le_refl ρ1
   repeat' (first | (refine Zr rfl rfl rfl rfl (by simp) rfl rfl (fun bs => ?_); simp only [hpg]; refine Xr (b := tB x.page) rfl rfl hown SrcV.lit (by (try simp [Zt]) <;> omega) rfl (fun va vc sp' hown => ?_)) | (refine Ze (.func 114) ?_; refine qC rfl rfl (hca _ hρ) ?_; rintro v ρ' L' hle ⟨hl6, a6, n6, c6, rfl, hc6, hs6, rfl⟩ <;> (try simp only [kM, kN, kO]); have hρ := Hp.le_trans hρ hl6) | (refine Yv (Y := Xb x.a) rfl rfl hown (by first | exact hs6 | exact SIn.mono hs6 (by assumption)) (by (try simp [Zt]) <;> omega) rfl (fun va vc sp' hown => ?_)) | (refine ZE ?_; refine Zo (Zd rfl) rfl rfl ?_) | (refine Zj ?_; first | (refine Zf ?_; refine qQ ?_) | refine Zn ?_) | refine Zb ?_ | (refine Zi ?_; refine Zv ?_) | (refine Zh ?_; refine Zu ?_) | intro _)
   rw [← e1]
   have e2 : X ++ [tB x.page] ++ Xb x.a = B ++ (r.ims.take (k + 1)).flatMap (imB false) := by rw [← hmm]; simp [imB]
   rw [e2] at hown ⊢
   refine Zq (k + 1, _, _, sp') (⟨hlt, Hp.le_trans hle7 hρ, hown⟩) Zm Zm rfl tk inferInstance (by first | omega | (dsimp only; omega))
  ·rw [show r.ims.take k = r.ims by rw [show k = r.ims.length by omega, List.take_length]] at hown ⊢
   have hρ := hle7
   rw [hfin] at hown ⊢
   obtain ⟨va, vc, rfl, _⟩ := hown.slice
   repeat' (first | (refine ZE ?_; refine Zo (Zd rfl) rfl rfl ?_) | (refine Zj ?_; first | (refine Zf ?_; refine qQ ?_) | refine Zn ?_) | refine Zb ?_ | (refine Zi ?_; refine Zv ?_) | (refine Zh ?_; refine Zu ?_) | intro _)
   refine Yk (YV (.slice va (Xv r).length vc) (Xv r) sp2) (h := by repeat (first | exact ZH | apply ZG)) (fun ρ6 hle6 hfz => ?_)
   obtain ⟨a6, c6, e6, hc6, hs6⟩ := hown.sIn hfz
   cases e6
   exact qE (L' := []) ⟨Hp.le_trans hρ hle6, va, vc, rfl, hc6, hs6, rfl⟩
 by_cases k9 : r.kind = 9
 ·repeat' (first | (refine ZE ?_; refine Zo (Zd rfl) rfl rfl ?_) | (refine Zj ?_; first | (refine Zf ?_; refine qQ ?_) | refine Zn ?_) | refine Zb ?_ | (refine Zi ?_; refine Zv ?_) | (refine Zh ?_; refine Zu ?_) | intro _)
  refine tc_cut_k R [] (fun (ζ : (Hp) × (Value) × (List Value)) => [(1, .pointer (some ⟨rb, 0, none⟩)), (2, .slice none 0 0), (3, ζ.2.1)]) (fun (ζ : (Hp) × (Value) × (List Value)) => ζ.1) (fun (ζ : (Hp) × (Value) × (List Value)) => [YV ζ.2.1 (H ++ be 4 r.nextTxn.toNat ++ [UInt8.ofNat v.t.n]) ζ.2.2, [(rb, .cells ⟨Xh v r⟩ 30 (0, 0))]]) (fun (ζ : (Hp) × (Value) × (List Value)) => ρ2.le ζ.1 ∧ Wt ζ.2.1 (H ++ be 4 r.nextTxn.toNat ++ [UInt8.ofNat v.t.n]) ζ.2.2) Zm ?_ ?_
  ·refine ZD (Zs _ _ ([[(rb, .cells ⟨Xh v r⟩ 30 (0, 0))]])) (Zz (hT := tk) (Hp.le_refl _)) ?_
   all_goals (refine ZT 0 ?_; refine ZS 1 ?_; refine ZX 2 ?_; refine rCv 3 ?_; refine ZS 6 ?_; refine ZX 7 ?_; refine rBi 8 ?_; refine rCv 9 ?_)
   all_goals (refine Ye (i := 4) (j := 10) ?_ ?_ <;> ((try refine Zk ?_); (first | (refine Ze (.func 113) ?_; refine qC rfl rfl (Wl _ (r.nextTxn) 4 (by omega) (by omega) (by decide)) ?_; rintro v ρ' L' hle ⟨hl5, a5, c5, rfl, hc5, hs5, rfl⟩ <;> (try simp only [kM, kN, kO])) | (refine Zr rfl rfl rfl rfl (by simp) rfl rfl (fun bs => ?_); simp only [hbt]) | (refine Zn ?_; try intro _)) <;> ((try simp only [kM, kN, kO]); refine Zb ?_; refine Zl ?_)))
   all_goals (first | (refine Ye (i := 5) (j := 10) ?_ ?_ <;> ((try refine Zk ?_); (first | (refine Yv (Y := be 4 r.nextTxn.toNat) rfl rfl hown (by first | exact hs5 | exact SIn.mono hs5 (by assumption)) (by (try simp [Zt]) <;> omega) rfl (fun va vc sp' hown => ?_)) | (refine Zr rfl rfl rfl rfl (by simp) rfl rfl (fun bs => ?_); simp only [hbt]) | (refine Xr (b := UInt8.ofNat v.t.n) rfl rfl hown SrcV.lit (by (try simp [Zt]) <;> omega) rfl (fun va vc sp' hown => ?_)) | (refine Zn ?_; try intro _)) <;> ((try simp only [kM, kN, kO]); refine Zb ?_; refine Zl ?_))) | (refine Zp (i := 4) ?_; ((try refine Zk ?_); (first | (refine Ze (.func 113) ?_; refine qC rfl rfl (Wl _ (r.nextTxn) 4 (by omega) (by omega) (by decide)) ?_; rintro v ρ' L' hle ⟨hl5, a5, c5, rfl, hc5, hs5, rfl⟩ <;> (try simp only [kM, kN, kO])) | (refine Zn ?_; try intro _)) <;> ((try simp only [kM, kN, kO]); refine Zb ?_; refine Zl ?_))))
   all_goals (first | (refine Zp (i := 10) ?_; ((try refine Zk ?_); (first | (refine Zr rfl rfl rfl rfl (by simp) rfl rfl (fun bs => ?_); simp only [hbt]) | (refine Zn ?_; try intro _)) <;> ((try simp only [kM, kN, kO]); refine Zb ?_; refine Zl ?_))) | (refine Zp (i := 5) ?_; ((try refine Zk ?_); (first | (refine Yv (Y := be 4 r.nextTxn.toNat) rfl rfl hown (by first | exact hs5 | exact SIn.mono hs5 (by assumption)) (by (try simp [Zt]) <;> omega) rfl (fun va vc sp' hown => ?_)) | (refine Xr (b := UInt8.ofNat v.t.n) rfl rfl hown SrcV.lit (by (try simp [Zt]) <;> omega) rfl (fun va vc sp' hown => ?_)) | (refine Zn ?_; try intro _)) <;> ((try simp only [kM, kN, kO]); refine Zb ?_; refine Zl ?_))))
   all_goals (refine Zp (i := 11) ?_; ((try refine Zk ?_); (first | (refine Yv (Y := be 4 r.nextTxn.toNat) rfl rfl hown (by first | exact hs5 | exact SIn.mono hs5 (by assumption)) (by (try simp [Zt]) <;> omega) rfl (fun va vc sp' hown => ?_)) | (refine Xr (b := UInt8.ofNat v.t.n) rfl rfl hown SrcV.lit (by (try simp [Zt]) <;> omega) rfl (fun va vc sp' hown => ?_)) | (refine Zn ?_; try intro _)) <;> ((try simp only [kM, kN, kO]); refine Zb ?_; refine Zl ?_)))
   all_goals (refine ZO ?_; refine rAs 12 ?_; refine ZI ?_)
   all_goals refine te_cut_g ((_, _, _)) (⟨hl5, hown⟩) Zm Zm rfl tk inferInstance
  rintro ⟨ρ3, w, sp⟩ ⟨hle3, hown⟩
  simp only [List.cons_append, List.nil_append] at hle3 ⊢
  dsimp only at hown
  obtain ⟨va, vc, rfl, _⟩ := hown.slice
  obtain ⟨B, hB⟩ : ∃ B, H ++ be 4 r.nextTxn.toNat ++ [UInt8.ofNat v.t.n] = B := ⟨_, rfl⟩
  rw [hB] at hown ⊢
  have hBl : B.length = 26 := by rw [← hB]; simp [Zt, hHl]
  have hfin : B ++ r.txns.flatMap XS ++ [UInt8.ofNat v.d.n] ++ r.dirty.flatMap Ww = Xv r := by rw [← hB]; unfold Xv recTB XD; rw [hHB, if_neg (by omega), if_neg (by omega), if_neg (by omega), if_neg (by omega), if_pos k9, htl, hdl]; simp
  have hρ := Hp.le_trans hρ hle3
  repeat' (first | (refine ZE ?_; refine Zo (Zd rfl) rfl rfl ?_) | (refine Zj ?_; first | (refine Zf ?_; refine qQ ?_) | refine Zn ?_) | refine Zb ?_ | (refine Zi ?_; refine Zv ?_) | (refine Zh ?_; refine Zu ?_) | intro _)
  rw [show YV (.slice va B.length vc) B sp = ZK (.slice va B.length vc) (B.map Yc) sp 5 from rfl]
  rw [show ZK (.slice va B.length vc) (B.map Yc) sp 5 = ZK (.slice va B.length vc) ((B ++ (r.txns.take 0).flatMap XS).map Yc) sp 5 by simp]
  refine ZB [(1, _), (2, _), (123, _), (124, _)] (fun (ζ : (Nat) × (Hp) × (Value) × (List Value)) => [(125, .int .i64 ζ.1), (3, ζ.2.2.1)]) (fun (ζ : (Nat) × (Hp) × (Value) × (List Value)) => ζ.2.1) (fun (ζ : (Nat) × (Hp) × (Value) × (List Value)) => [YV ζ.2.2.1 (B ++ (r.txns.take ζ.1).flatMap XS) ζ.2.2.2, [(rb, .cells ⟨Xh v r⟩ 30 (0, 0))]]) (fun (ζ : (Nat) × (Hp) × (Value) × (List Value)) => ζ.1 ≤ v.t.n ∧ ρ.le ζ.2.1 ∧ Wt ζ.2.2.1 (B ++ (r.txns.take ζ.1).flatMap XS) ζ.2.2.2) (fun (ζ : (Nat) × (Hp) × (Value) × (List Value)) => v.t.n - ζ.1) ((0, ρ3, .slice va B.length vc, sp)) (⟨Nat.zero_le _, hρ, by simpa using hown⟩) Zm Zm rfl tk ?_
  rintro ⟨k, ρ1, w2, sp2⟩ hI
  try simp only [List.cons_append, List.nil_append, List.append_assoc, List.append_eq] at hI ⊢
  try dsimp only at hI ⊢
  obtain ⟨hk, hle7, hown⟩ := hI
  clear hρ
  by_cases hlt : k < v.t.n
  ·obtain ⟨b, off, C, T, fr, e1, hbb, hfit, hcc⟩ := (h.t.at'.mono hle7).get (show k < r.txns.length by omega)
   have hts := Xm XS r.txns k (by omega)
   have hmem := List.getElem_mem (show k < r.txns.length by omega)
   have hfl := Yq XS 29 (r.txns.take k) (fun x hx => Nat.le_of_eq (ckTB_len x))
   have htk : (r.txns.take k).length ≤ 64 := by simp; omega
   obtain ⟨q1, q2, q3, q4, q5⟩ := hL.tx _ hmem
   generalize r.txns[k]'(by omega) = x at *
   have hxl : (B ++ (r.txns.take k).flatMap XS).length ≤ 20000 := by simp only [List.length_append]; omega
   have hmm : B ++ (r.txns.take k).flatMap XS ++ XS x = B ++ (r.txns.take (k + 1)).flatMap XS := by rw [hts]; simp
   generalize hX : B ++ (r.txns.take k).flatMap XS = X at *
   obtain ⟨va, vc, rfl, _⟩ := hown.slice
   rw [e1]
   have hst := tB_eq (t := x.state) (by omega) (by omega)
   repeat' (first | (refine ZE ?_; refine Zo (Zd rfl) rfl rfl ?_) | (refine Zj ?_; first | (refine Zf ?_; refine qQ ?_) | refine Zn ?_) | refine Zb ?_ | (refine Zi ?_; refine Zv ?_) | (refine Zh ?_; refine Zu ?_) | intro _)
   refine ZD (Zs _ _ ([[(_, .cells ⟨ckTV x⟩ 81 (0, 0))]])) (Zz (hT := tk) (Hp.le_refl _)) ?_
   all_goals (refine ZT 0 ?_; refine ZS 1 ?_; refine ZX 2 ?_; refine rCv 3 ?_; refine ZS 6 ?_; refine ZX 7 ?_)
   all_goals (refine Zp (i := 4) ?_; ((try refine Zk ?_); (first | (refine Ze (.func 113) ?_; refine qC rfl rfl (Wl _ (x.txn) 4 (by omega) (by omega) (by decide)) ?_; rintro v ρ' L' hle ⟨hl5, a5, c5, rfl, hc5, hs5, rfl⟩ <;> (try simp only [kM, kN, kO])) | (refine Ze (.func 113) ?_; refine qC rfl rfl (YC _ (x.first) 8 (by omega) (by decide)) ?_; rintro v ρ' L' hle ⟨hl6, a6, c6, rfl, hc6, hs6, rfl⟩ <;> (try simp only [kM, kN, kO])) | (refine Zn ?_; try intro _)) <;> ((try simp only [kM, kN, kO]); refine Zb ?_; refine Zl ?_)))
   all_goals (refine Zp (i := 5) ?_; ((try refine Zk ?_); (first | (refine Yv (Y := be 4 x.txn.toNat) rfl rfl hown (by first | exact hs5 | exact SIn.mono hs5 (by assumption)) (by (try simp [Zt]) <;> omega) rfl (fun va vc sp' hown => ?_)) | (refine Yv (Y := be 8 x.first) rfl rfl hown (by first | exact hs6 | exact SIn.mono hs6 (by assumption)) (by (try simp [Zt]) <;> omega) rfl (fun va vc sp' hown => ?_)) | (refine Zn ?_; try intro _)) <;> ((try simp only [kM, kN, kO]); refine Zb ?_; refine Zl ?_)))
   all_goals (refine Zp (i := 8) ?_; ((try refine Zk ?_); (first | (refine Ze (.func 113) ?_; refine qC rfl rfl (Wl _ (x.txn) 4 (by omega) (by omega) (by decide)) ?_; rintro v ρ' L' hle ⟨hl5, a5, c5, rfl, hc5, hs5, rfl⟩ <;> (try simp only [kM, kN, kO])) | (refine Ze (.func 113) ?_; refine qC rfl rfl (YC _ (x.first) 8 (by omega) (by decide)) ?_; rintro v ρ' L' hle ⟨hl6, a6, c6, rfl, hc6, hs6, rfl⟩ <;> (try simp only [kM, kN, kO])) | (refine Zn ?_; try intro _)) <;> ((try simp only [kM, kN, kO]); refine Zb ?_; refine Zl ?_)))
   all_goals (refine Zp (i := 9) ?_; ((try refine Zk ?_); (first | (refine Yv (Y := be 4 x.txn.toNat) rfl rfl hown (by first | exact hs5 | exact SIn.mono hs5 (by assumption)) (by (try simp [Zt]) <;> omega) rfl (fun va vc sp' hown => ?_)) | (refine Yv (Y := be 8 x.first) rfl rfl hown (by first | exact hs6 | exact SIn.mono hs6 (by assumption)) (by (try simp [Zt]) <;> omega) rfl (fun va vc sp' hown => ?_)) | (refine Zn ?_; try intro _)) <;> ((try simp only [kM, kN, kO]); refine Zb ?_; refine Zl ?_)))
   all_goals (refine ZO ?_; refine rAs 10 ?_; refine ZI ?_)
   all_goals (repeat' (first | (refine ZE ?_; refine Zo (Zd rfl) rfl rfl ?_) | (refine Zj ?_; first | (refine Zf ?_; refine qQ ?_) | refine Zn ?_) | refine Zb ?_ | (refine Zi ?_; refine Zv ?_) | (refine Zh ?_; refine Zu ?_) | intro _))
   all_goals refine ZD (Zs _ _ ([[(_, .cells ⟨ckTV x⟩ 81 (0, 0))]])) (Zz (hT := tk) (Hp.le_refl _)) ?_
   all_goals (refine ZT 0 ?_; refine ZS 1 ?_; refine ZX 2 ?_; refine ZS 5 ?_; refine ZX 6 ?_; refine ZS 9 ?_; refine ZX 10 ?_; refine rCv 11 ?_)
   all_goals (refine Ye (i := 3) (j := 12) ?_ ?_ <;> ((try refine Zk ?_); (first | (refine Ze (.func 113) ?_; refine qC rfl rfl (YC _ (x.last) 8 (by omega) (by decide)) ?_; rintro v ρ' L' hle ⟨hl7, a7, c7, rfl, hc7, hs7, rfl⟩ <;> (try simp only [kM, kN, kO])) | (refine Ze (.func 113) ?_; refine qC rfl rfl (YC _ (x.undo) 8 (by omega) (by decide)) ?_; rintro v ρ' L' hle ⟨hl8, a8, c8, rfl, hc8, hs8, rfl⟩ <;> (try simp only [kM, kN, kO])) | (refine Zr rfl rfl rfl rfl (by simp) rfl rfl (fun bs => ?_); simp only [hst]) | (refine Zn ?_; try intro _)) <;> ((try simp only [kM, kN, kO]); refine Zb ?_; refine Zl ?_)))
   all_goals (first | (refine Ye (i := 4) (j := 12) ?_ ?_ <;> ((try refine Zk ?_); (first | (refine Yv (Y := be 8 x.last) rfl rfl hown (by first | exact hs7 | exact SIn.mono hs7 (by assumption)) (by (try simp [Zt]) <;> omega) rfl (fun va vc sp' hown => ?_)) | (refine Yv (Y := be 8 x.undo) rfl rfl hown (by first | exact hs8 | exact SIn.mono hs8 (by assumption)) (by (try simp [Zt]) <;> omega) rfl (fun va vc sp' hown => ?_)) | (refine Zr rfl rfl rfl rfl (by simp) rfl rfl (fun bs => ?_); simp only [hst]) | (refine Xr (b := tB x.state) rfl rfl hown SrcV.lit (by (try simp [Zt]) <;> omega) rfl (fun va vc sp' hown => ?_)) | (refine Zn ?_; try intro _)) <;> ((try simp only [kM, kN, kO]); refine Zb ?_; refine Zl ?_))) | (refine Zp (i := 3) ?_; ((try refine Zk ?_); (first | (refine Ze (.func 113) ?_; refine qC rfl rfl (YC _ (x.last) 8 (by omega) (by decide)) ?_; rintro v ρ' L' hle ⟨hl7, a7, c7, rfl, hc7, hs7, rfl⟩ <;> (try simp only [kM, kN, kO])) | (refine Ze (.func 113) ?_; refine qC rfl rfl (YC _ (x.undo) 8 (by omega) (by decide)) ?_; rintro v ρ' L' hle ⟨hl8, a8, c8, rfl, hc8, hs8, rfl⟩ <;> (try simp only [kM, kN, kO])) | (refine Zn ?_; try intro _)) <;> ((try simp only [kM, kN, kO]); refine Zb ?_; refine Zl ?_))))
   all_goals (first | (refine Ye (i := 7) (j := 12) ?_ ?_ <;> ((try refine Zk ?_); (first | (refine Ze (.func 113) ?_; refine qC rfl rfl (YC _ (x.last) 8 (by omega) (by decide)) ?_; rintro v ρ' L' hle ⟨hl7, a7, c7, rfl, hc7, hs7, rfl⟩ <;> (try simp only [kM, kN, kO])) | (refine Ze (.func 113) ?_; refine qC rfl rfl (YC _ (x.undo) 8 (by omega) (by decide)) ?_; rintro v ρ' L' hle ⟨hl8, a8, c8, rfl, hc8, hs8, rfl⟩ <;> (try simp only [kM, kN, kO])) | (refine Zr rfl rfl rfl rfl (by simp) rfl rfl (fun bs => ?_); simp only [hst]) | (refine Zn ?_; try intro _)) <;> ((try simp only [kM, kN, kO]); refine Zb ?_; refine Zl ?_))) | (refine Zp (i := 4) ?_; ((try refine Zk ?_); (first | (refine Yv (Y := be 8 x.last) rfl rfl hown (by first | exact hs7 | exact SIn.mono hs7 (by assumption)) (by (try simp [Zt]) <;> omega) rfl (fun va vc sp' hown => ?_)) | (refine Yv (Y := be 8 x.undo) rfl rfl hown (by first | exact hs8 | exact SIn.mono hs8 (by assumption)) (by (try simp [Zt]) <;> omega) rfl (fun va vc sp' hown => ?_)) | (refine Xr (b := tB x.state) rfl rfl hown SrcV.lit (by (try simp [Zt]) <;> omega) rfl (fun va vc sp' hown => ?_)) | (refine Zn ?_; try intro _)) <;> ((try simp only [kM, kN, kO]); refine Zb ?_; refine Zl ?_))))
   all_goals (first | (refine Ye (i := 8) (j := 12) ?_ ?_ <;> ((try refine Zk ?_); (first | (refine Yv (Y := be 8 x.last) rfl rfl hown (by first | exact hs7 | exact SIn.mono hs7 (by assumption)) (by (try simp [Zt]) <;> omega) rfl (fun va vc sp' hown => ?_)) | (refine Yv (Y := be 8 x.undo) rfl rfl hown (by first | exact hs8 | exact SIn.mono hs8 (by assumption)) (by (try simp [Zt]) <;> omega) rfl (fun va vc sp' hown => ?_)) | (refine Zr rfl rfl rfl rfl (by simp) rfl rfl (fun bs => ?_); simp only [hst]) | (refine Xr (b := tB x.state) rfl rfl hown SrcV.lit (by (try simp [Zt]) <;> omega) rfl (fun va vc sp' hown => ?_)) | (refine Zn ?_; try intro _)) <;> ((try simp only [kM, kN, kO]); refine Zb ?_; refine Zl ?_))) | (refine Zp (i := 7) ?_; ((try refine Zk ?_); (first | (refine Ze (.func 113) ?_; refine qC rfl rfl (YC _ (x.last) 8 (by omega) (by decide)) ?_; rintro v ρ' L' hle ⟨hl7, a7, c7, rfl, hc7, hs7, rfl⟩ <;> (try simp only [kM, kN, kO])) | (refine Ze (.func 113) ?_; refine qC rfl rfl (YC _ (x.undo) 8 (by omega) (by decide)) ?_; rintro v ρ' L' hle ⟨hl8, a8, c8, rfl, hc8, hs8, rfl⟩ <;> (try simp only [kM, kN, kO])) | (refine Zn ?_; try intro _)) <;> ((try simp only [kM, kN, kO]); refine Zb ?_; refine Zl ?_))))
   all_goals (first | (refine Zp (i := 12) ?_; ((try refine Zk ?_); (first | (refine Zr rfl rfl rfl rfl (by simp) rfl rfl (fun bs => ?_); simp only [hst]) | (refine Zn ?_; try intro _)) <;> ((try simp only [kM, kN, kO]); refine Zb ?_; refine Zl ?_))) | (refine Zp (i := 8) ?_; ((try refine Zk ?_); (first | (refine Yv (Y := be 8 x.last) rfl rfl hown (by first | exact hs7 | exact SIn.mono hs7 (by assumption)) (by (try simp [Zt]) <;> omega) rfl (fun va vc sp' hown => ?_)) | (refine Yv (Y := be 8 x.undo) rfl rfl hown (by first | exact hs8 | exact SIn.mono hs8 (by assumption)) (by (try simp [Zt]) <;> omega) rfl (fun va vc sp' hown => ?_)) | (refine Xr (b := tB x.state) rfl rfl hown SrcV.lit (by (try simp [Zt]) <;> omega) rfl (fun va vc sp' hown => ?_)) | (refine Zn ?_; try intro _)) <;> ((try simp only [kM, kN, kO]); refine Zb ?_; refine Zl ?_))))
   all_goals (refine Zp (i := 13) ?_; ((try refine Zk ?_); (first | (refine Yv (Y := be 8 x.last) rfl rfl hown (by first | exact hs7 | exact SIn.mono hs7 (by assumption)) (by (try simp [Zt]) <;> omega) rfl (fun va vc sp' hown => ?_)) | (refine Yv (Y := be 8 x.undo) rfl rfl hown (by first | exact hs8 | exact SIn.mono hs8 (by assumption)) (by (try simp [Zt]) <;> omega) rfl (fun va vc sp' hown => ?_)) | (refine Xr (b := tB x.state) rfl rfl hown SrcV.lit (by (try simp [Zt]) <;> omega) rfl (fun va vc sp' hown => ?_)) | (refine Zn ?_; try intro _)) <;> ((try simp only [kM, kN, kO]); refine Zb ?_; refine Zl ?_)))
   all_goals (refine ZO ?_; refine rAs 14 ?_; refine ZI ?_)
   all_goals (repeat' (first | (refine ZE ?_; refine Zo (Zd rfl) rfl rfl ?_) | (refine Zj ?_; first | (refine Zf ?_; refine qQ ?_) | refine Zn ?_) | refine Zb ?_ | (refine Zi ?_; refine Zv ?_) | (refine Zh ?_; refine Zu ?_) | intro _))
   all_goals rw [← e1]
   all_goals have e2 : X ++ be 4 x.txn.toNat ++ be 8 x.first ++ be 8 x.last ++ be 8 x.undo ++ [tB x.state] = B ++ (r.txns.take (k + 1)).flatMap XS := by rw [← hmm]; simp [XS]
   all_goals rw [e2] at hown ⊢
   all_goals refine Zq (k + 1, _, _, sp') (⟨hlt, Hp.le_trans hle7 (Hp.le_trans hl5 (Hp.le_trans hl6 (Hp.le_trans hl7 hl8))), hown⟩) Zm Zm rfl tk inferInstance (by first | omega | (dsimp only; omega))
  ·rw [show r.txns.take k = r.txns by rw [show k = r.txns.length by omega, List.take_length]] at hown ⊢
   have hρ := hle7
   obtain ⟨C1, hC1⟩ : ∃ C1, B ++ r.txns.flatMap XS = C1 := ⟨_, rfl⟩
   rw [hC1] at hown hfin ⊢
   have hC1l : C1.length ≤ 300 := by
    have := Yq XS 29 r.txns (fun x hx => Nat.le_of_eq (ckTB_len x))
    rw [← hC1, List.length_append]; omega
   obtain ⟨va, vc, rfl, _⟩ := hown.slice
   repeat' (first | (refine Zr rfl rfl rfl rfl (by simp) rfl rfl (fun bs => ?_); simp only [hbd]; refine Xr (b := UInt8.ofNat v.d.n) rfl rfl hown SrcV.lit (by (try simp [Zt]) <;> omega) rfl (fun va vc sp' hown => ?_)) | (refine ZE ?_; refine Zo (Zd rfl) rfl rfl ?_) | (refine Zj ?_; first | (refine Zf ?_; refine qQ ?_) | refine Zn ?_) | refine Zb ?_ | (refine Zi ?_; refine Zv ?_) | (refine Zh ?_; refine Zu ?_) | intro _)
   obtain ⟨B2, hB2⟩ : ∃ B2, C1 ++ [UInt8.ofNat v.d.n] = B2 := ⟨_, rfl⟩
   rw [hB2] at hown hfin ⊢
   have hfin2 := hfin
   have hB2l : B2.length ≤ 400 := by rw [← hB2]; simp; omega
   rw [show ZK (.slice va B2.length vc) (B2.map Yc) sp' 5 = ZK (.slice va B2.length vc) ((B2 ++ (r.dirty.take 0).flatMap Ww).map Yc) sp' 5 by simp]
   refine ZB [(2, _), (162, _), (163, _)] (fun (ζ : (Nat) × (Hp) × (Value) × (List Value)) => [(164, .int .i64 ζ.1), (3, ζ.2.2.1)]) (fun (ζ : (Nat) × (Hp) × (Value) × (List Value)) => ζ.2.1) (fun (ζ : (Nat) × (Hp) × (Value) × (List Value)) => [YV ζ.2.2.1 (B2 ++ (r.dirty.take ζ.1).flatMap Ww) ζ.2.2.2, [(rb, .cells ⟨Xh v r⟩ 30 (0, 0))]]) (fun (ζ : (Nat) × (Hp) × (Value) × (List Value)) => ζ.1 ≤ v.d.n ∧ ρ.le ζ.2.1 ∧ Wt ζ.2.2.1 (B2 ++ (r.dirty.take ζ.1).flatMap Ww) ζ.2.2.2) (fun (ζ : (Nat) × (Hp) × (Value) × (List Value)) => v.d.n - ζ.1) ((0, ρ1, .slice va B2.length vc, sp')) (⟨Nat.zero_le _, hρ, by simpa using hown⟩) Zm Zm rfl tk ?_
   rintro ⟨k, ρ9, w2, sp2⟩ hI
   try simp only [List.cons_append, List.nil_append, List.append_assoc, List.append_eq] at hI ⊢
   try dsimp only at hI ⊢
   obtain ⟨hk, hle7, hown⟩ := hI
   clear hρ
   by_cases hlt : k < v.d.n
   ·obtain ⟨b, off, C, T, fr, e1, hbb, hfit, hcc⟩ := (h.d.at'.mono hle7).get (show k < r.dirty.length by omega)
    have hts := Xm Ww r.dirty k (by omega)
    have hmem := List.getElem_mem (show k < r.dirty.length by omega)
    have hfl := Yq Ww 9 (r.dirty.take k) (fun x hx => Nat.le_of_eq (ckPB_len x))
    have htk : (r.dirty.take k).length ≤ 64 := by simp; omega
    obtain ⟨q1, q2⟩ := hL.di _ hmem
    generalize r.dirty[k]'(by omega) = x at *
    have hxl : (B2 ++ (r.dirty.take k).flatMap Ww).length ≤ 20000 := by simp only [List.length_append]; omega
    have hmm : B2 ++ (r.dirty.take k).flatMap Ww ++ Ww x = B2 ++ (r.dirty.take (k + 1)).flatMap Ww := by rw [hts]; simp
    generalize hX : B2 ++ (r.dirty.take k).flatMap Ww = X at *
    obtain ⟨va, vc, rfl, _⟩ := hown.slice
    rw [e1]
    have hpg := tB_eq (t := x.page) (by omega) (by omega)
    repeat' (first | (refine ZE ?_; refine Zo (Zd rfl) rfl rfl ?_) | (refine Zj ?_; first | (refine Zf ?_; refine qQ ?_) | refine Zn ?_) | refine Zb ?_ | (refine Zi ?_; refine Zv ?_) | (refine Zh ?_; refine Zu ?_) | intro _)
    refine ZD (Zs _ _ ([[(_, .cells ⟨ckPV x⟩ 125 (0, 0))]])) (Zz (hT := tk) (Hp.le_refl _)) ?_
    all_goals (refine ZT 0 ?_; refine ZS 1 ?_; refine ZX 2 ?_; refine rCv 3 ?_; refine ZS 6 ?_; refine ZX 7 ?_)
    all_goals (refine Zp (i := 4) ?_; ((try refine Zk ?_); (first | (refine Zr rfl rfl rfl rfl (by simp) rfl rfl (fun bs => ?_); simp only [hpg]) | (refine Zn ?_; try intro _)) <;> ((try simp only [kM, kN, kO]); refine Zb ?_; refine Zl ?_)))
    all_goals (refine Zp (i := 5) ?_; ((try refine Zk ?_); (first | (refine Xr (b := tB x.page) rfl rfl hown SrcV.lit (by (try simp [Zt]) <;> omega) rfl (fun va vc sp' hown => ?_)) | (refine Yv (Y := be 8 x.since) rfl rfl hown (by first | exact hs8 | exact SIn.mono hs8 (by assumption)) (by (try simp [Zt]) <;> omega) rfl (fun va vc sp' hown => ?_)) | (refine Zn ?_; try intro _)) <;> ((try simp only [kM, kN, kO]); refine Zb ?_; refine Zl ?_)))
    all_goals (refine Zp (i := 8) ?_; ((try refine Zk ?_); (first | (refine Ze (.func 113) ?_; refine qC rfl rfl (YC _ (x.since) 8 (by omega) (by decide)) ?_; rintro v ρ' L' hle ⟨hl8, a8, c8, rfl, hc8, hs8, rfl⟩ <;> (try simp only [kM, kN, kO])) | (refine Zn ?_; try intro _)) <;> ((try simp only [kM, kN, kO]); refine Zb ?_; refine Zl ?_)))
    all_goals (refine Zp (i := 9) ?_; ((try refine Zk ?_); (first | (refine Xr (b := tB x.page) rfl rfl hown SrcV.lit (by (try simp [Zt]) <;> omega) rfl (fun va vc sp' hown => ?_)) | (refine Yv (Y := be 8 x.since) rfl rfl hown (by first | exact hs8 | exact SIn.mono hs8 (by assumption)) (by (try simp [Zt]) <;> omega) rfl (fun va vc sp' hown => ?_)) | (refine Zn ?_; try intro _)) <;> ((try simp only [kM, kN, kO]); refine Zb ?_; refine Zl ?_)))
    all_goals (refine ZO ?_; refine rAs 10 ?_; refine ZI ?_)
    all_goals (repeat' (first | (refine ZE ?_; refine Zo (Zd rfl) rfl rfl ?_) | (refine Zj ?_; first | (refine Zf ?_; refine qQ ?_) | refine Zn ?_) | refine Zb ?_ | (refine Zi ?_; refine Zv ?_) | (refine Zh ?_; refine Zu ?_) | intro _))
    all_goals rw [← e1]
    all_goals have e2 : X ++ [tB x.page] ++ be 8 x.since = B2 ++ (r.dirty.take (k + 1)).flatMap Ww := by rw [← hmm]; simp [Ww]
    all_goals rw [e2] at hown ⊢
    all_goals refine Zq (k + 1, _, _, sp') (⟨hlt, Hp.le_trans hle7 hl8, hown⟩) Zm Zm rfl tk inferInstance (by first | omega | (dsimp only; omega))
   ·rw [show r.dirty.take k = r.dirty by rw [show k = r.dirty.length by omega, List.take_length]] at hown ⊢
    have hρ := hle7
    rw [hfin2] at hown ⊢
    obtain ⟨va, vc, rfl, _⟩ := hown.slice
    repeat' (first | (refine ZE ?_; refine Zo (Zd rfl) rfl rfl ?_) | (refine Zj ?_; first | (refine Zf ?_; refine qQ ?_) | refine Zn ?_) | refine Zb ?_ | (refine Zi ?_; refine Zv ?_) | (refine Zh ?_; refine Zu ?_) | intro _)
    refine Yk (YV (.slice va (Xv r).length vc) (Xv r) sp2) (h := by repeat (first | exact ZH | apply ZG)) (fun ρ6 hle6 hfz => ?_)
    obtain ⟨a6, c6, e6, hc6, hs6⟩ := hown.sIn hfz
    cases e6
    exact qE (L' := []) ⟨Hp.le_trans hρ hle6, va, vc, rfl, hc6, hs6, rfl⟩
 have hfin : H = Xv r := by unfold Xv recTB; rw [hHB, if_neg k2, if_neg k3, if_neg k4, if_neg k5, if_neg k9, List.append_nil]
 rw [hfin] at hown ⊢
 repeat' (first | (refine ZE ?_; refine Zo (Zd rfl) rfl rfl ?_) | (refine Zj ?_; first | (refine Zf ?_; refine qQ ?_) | refine Zn ?_) | refine Zb ?_ | (refine Zi ?_; refine Zv ?_) | (refine Zh ?_; refine Zu ?_) | intro _)
 refine Yk (YV (.slice va (Xv r).length vc) (Xv r) sp) (h := by repeat (first | exact ZH | apply ZG)) (fun ρ6 hle6 hfz => ?_)
 obtain ⟨a6, c6, e6, hc6, hs6⟩ := hown.sIn hfz
 cases e6
 exact qE (L' := []) ⟨Hp.le_trans hρ hle6, va, vc, rfl, hc6, hs6, rfl⟩
theorem sects04_spec (ρ : Hp) (n : Nat) (hn : n ≤ 4611686018427387904) : Spec Tryz.prog 310 [.int .i64 n] ρ [] (fun v ρ' L' => v = .int .i64 (sectsB n : Nat) ∧ ρ' = ρ ∧ L' = []) := by
 refine Zg Tryz.func310 rfl rfl rfl fun u R => ?_
 simp only [Zx, List.cons_append, List.nil_append]
 have e : max 1 (IntKind.i64.wrap (((n : Int) + 51).tdiv 52)) = ((sectsB n : Nat) : Int) := by
  rw [Int.tdiv_eq_ediv_of_nonneg (by omega), WK (by simp only [lo, hi]; omega)]
  unfold sectsB; omega
 repeat' (first | (refine ZE ?_; refine Zo (Zd rfl) rfl rfl ?_) | (refine Zj ?_; first | (refine Zf ?_; refine qQ ?_) | refine Zn ?_) | refine Zb ?_ | (refine Zi ?_; refine Zv ?_) | (refine Zh ?_; refine Zu ?_) | intro _)
 rw [e]
 exact qE ⟨rfl, rfl, rfl⟩
theorem cost12_spec (ρ : Hp) (v : RV) (r : Rc) (h : RcIn ρ v r) (hL : LayOk r) : Spec Tryz.prog 309 [.agg ⟨Xh v r⟩] ρ []
  (fun z ρ' L' => ρ.le ρ' ∧ z = .int .i64 (sectsB (Xv r).length : Nat) ∧ L' = []) := by
 have hb := recB_le hL
 have hB := bytes12_spec ρ v r h hL
 refine Zg Tryz.func309 rfl rfl rfl fun u R => ?_
 simp only [Zx, List.cons_append, List.nil_append]
 repeat' (first | (refine Ze (.func 31) ?_; refine qC rfl rfl (hB) ?_; rintro v ρ' L' hle ⟨hl1, a, c, rfl, hc, hs, rfl⟩ <;> (try simp only [kM, kN, kO])) | (refine Ze (.func 310) ?_; refine qC rfl rfl (sects04_spec _ _ (by omega)) ?_; rintro v ρ' L' hle ⟨rfl, rfl, rfl⟩ <;> (try simp only [kM, kN, kO])) | (refine ZE ?_; refine Zo (Zd rfl) rfl rfl ?_) | (refine Zj ?_; first | (refine Zf ?_; refine qQ ?_) | refine Zn ?_) | refine Zb ?_ | (refine Zi ?_; refine Zv ?_) | (refine Zh ?_; refine Zu ?_) | intro _)
 exact qE ⟨hl1, rfl, rfl⟩
def unR (l : List Im) : Rc := ⟨5, 0, 0, 0, 0, l.map unI, [], 0, [], []⟩
theorem unR_lay {l : List Im} (h1 : l.length ≤ 16) (h2 : ∀ x ∈ l, (0 ≤ x.page ∧ x.page < 64) ∧ YI x.b = true) : LayOk (unR l) := by
 refine ⟨by simp [unR], by simp [unR], by simp [unR], by simp [unR], by simp [unR], by simp [unR], by simp [unR]; omega, ?_, by simp [unR], by simp [unR], by simp [unR], by simp [unR], by simp [unR], by simp [unR]⟩
 intro x hx
 obtain ⟨y, hy, rfl⟩ := List.mem_map.1 hx
 exact ⟨(h2 y hy).1, (h2 y hy).2, contOk_z⟩
theorem unR_len (l : List Im) : (Xv (unR l)).length = (Xv (undR l)).length := by
 unfold Xv recHB recTB imsB XD
 simp only [unR, undR, show ¬ ((5 : Int) = 2) by decide, show ¬ ((5 : Int) = 3) by decide, show ¬ ((5 : Int) = 4) by decide, if_false, if_true, decide_false, List.length_append, List.length_cons, Zt, List.flatMap_map, List.length_map]
 rw [flatMap_len2 (fun a => imB false (unI a)) (fun a => imB false (undI a)) l (fun x _ => by simp [imB, unI, undI])]
theorem reserve12_spec (ρ : Hp) (v : RV) (r : Rc) (h : RcIn ρ v r) (hok : YF r = true) : Spec Tryz.prog 287 [.agg ⟨Xh v r⟩] ρ []
  (fun z ρ' L' => ρ.le ρ' ∧ z = .int .i64 (Wd r : Nat) ∧ L' = []) := by
 have hF := We hok
 unfold Wd
 rw [hok, if_pos rfl]
 refine Zg Tryz.func287 rfl rfl rfl fun u R => ?_
 simp only [Zx, List.cons_append, List.nil_append]
 by_cases k1 : r.kind = 1
 ·rw [if_pos k1]
  repeat' (first | (refine ZE ?_; refine Zo (Zd rfl) rfl rfl ?_) | (refine Zj ?_; first | (refine Zf ?_; refine qQ ?_) | refine Zn ?_) | refine Zb ?_ | (refine Zi ?_; refine Zv ?_) | (refine Zh ?_; refine Zu ?_) | intro _)
  exact qE (L' := []) ⟨Hp.le_refl _, rfl, rfl⟩
 ·rw [if_neg k1]
  by_cases k2 : r.kind = 2
  ·rw [if_pos k2]
   have hA := h.i.at'
   have hl := hA.len
   have hil := hF.il
   have hlay := unR_lay hil (fun x hx => ⟨(hF.im x hx).1, (hF.im x hx).2.2⟩)
   repeat' (first | (refine ZE ?_; refine Zo (Zd rfl) rfl rfl ?_) | (refine Zj ?_; first | (refine Zf ?_; refine qQ ?_) | refine Zn ?_) | refine Zb ?_ | (refine Zi ?_; refine Zv ?_) | (refine Zh ?_; refine Zu ?_) | intro _)
   rename_i rb ub
   refine ZB [(1, _), (2, _), (3, _), (11, _), (17, _), (18, _)] (fun (ζ : (Nat) × (Value) × (List Value)) => [(19, .int .i64 ζ.1)]) (fun (ζ : (Nat) × (Value) × (List Value)) => ρ) (fun (ζ : (Nat) × (Value) × (List Value)) => [[(ub, .cells ⟨[.int .i64 5, .int .u64 0, .int .i64 0, .int .u64 0, .int .u64 0, ζ.2.1, .slice none 0 0, .int .i64 0, .slice none 0 0, .slice none 0 0]⟩ 30 (0, 0))], ZK ζ.2.1 ((((r.ims.take ζ.1).map unI).map imV).flatten) ζ.2.2 128, [(rb, .cells ⟨Xh v r⟩ 30 (0, 0))]]) (fun (ζ : (Nat) × (Value) × (List Value)) => ζ.1 ≤ v.i.n ∧ OwnS ζ.2.1 ζ.1 ((((r.ims.take ζ.1).map unI).map imV).flatten) ζ.2.2 7) (fun (ζ : (Nat) × (Value) × (List Value)) => v.i.n - ζ.1) ((0, .slice none 0 0, [])) (⟨Nat.zero_le _, OwnS.nil 7⟩) Zm Zm rfl tk ?_
   rintro ⟨k, vv, sp⟩ hI
   try simp only [List.cons_append, List.nil_append, List.append_assoc, List.append_eq] at hI ⊢
   try dsimp only at hI ⊢
   obtain ⟨hk, hown⟩ := hI
   obtain ⟨va, vc, rfl, _⟩ := hown.slice
   by_cases hlt : k < v.i.n
   ·obtain ⟨b, off, C, T, fr, e1, hb, hfit, hc⟩ := hA.get (show k < r.ims.length by omega)
    have hx := List.take_succ_eq_append_getElem (show k < r.ims.length by omega)
    generalize r.ims[k]'(by omega) = x at *
    rw [e1]
    repeat' (first | (refine ZE ?_; refine Zo (Zd rfl) rfl rfl ?_) | (refine Zj ?_; first | (refine Zf ?_; refine qQ ?_) | refine Zn ?_) | refine Zb ?_ | (refine Zi ?_; refine Zv ?_) | (refine Zh ?_; refine Zu ?_) | intro _)
    refine ZL (css := [imV (unI x)]) (sz := 7) rfl rfl rfl rfl (by simp) (by simp) rfl (fun bs => ?_)
    simp only [List.flatten_cons, List.flatten_nil, List.append_nil]
    refine ZV (ys := imV (unI x)) (m := 1) rfl rfl hown (hR := by infer_instance) (SrcV.lit) rfl rfl (by decide) rfl (by omega) (by omega) rfl (fun v' sp' hown' => ?_)
    have hm : (((r.ims.take k).map unI).map imV).flatten ++ imV (unI x) = (((r.ims.take (k + 1)).map unI).map imV).flatten := by rw [hx]; simp
    rw [hm] at hown' ⊢
    obtain ⟨va', vc', rfl, _⟩ := hown'.slice
    repeat' (first | (refine ZE ?_; refine Zo (Zd rfl) rfl rfl ?_) | (refine Zj ?_; first | (refine Zf ?_; refine qQ ?_) | refine Zn ?_) | refine Zb ?_ | (refine Zi ?_; refine Zv ?_) | (refine Zh ?_; refine Zu ?_) | intro _)
    rw [← e1]
    refine Zq (k + 1, _, sp') (⟨hlt, hown'⟩) Zm Zm rfl tk inferInstance (by first | omega | (dsimp only; omega))
   ·have hk2 : k = r.ims.length := by omega
    rw [show r.ims.take k = r.ims by rw [hk2, List.take_length]] at hown ⊢
    refine tc_freeze (ZK (.slice va k vc) (((r.ims.map unI).map imV).flatten) sp 128) (fun ρ3 hle3 hfz => ?_)
    obtain ⟨sa, sc, e1, hsc, hA2⟩ := hown.aIn (by simp; omega) (fun x _ => imV_len x) hfz
    cases e1
    have hU : RcIn ρ3 ⟨⟨va, k, vc⟩, ⟨none, 0, 0⟩, ⟨none, 0, 0⟩, ⟨none, 0, 0⟩⟩ (unR r.ims) := ⟨⟨hA2, by dsimp only; omega, hsc⟩, fun x hx => by
     obtain ⟨y, hy, rfl⟩ := List.mem_map.1 hx
     exact ⟨CI.nil, ((h.im y hy).b).mono hle3⟩, AS.nil, AS.nil, AS.nil, by simp [unR]⟩
    have hla := cost12_spec ρ3 _ _ hU hlay
    rw [unR_len] at hla
    repeat' (first | (refine Ze (.func 309) ?_; refine qC rfl rfl (hla) ?_; rintro v ρ' L' hle ⟨hl1, rfl, rfl⟩ <;> (try simp only [kM, kN, kO])) | (refine ZE ?_; refine Zo (Zd rfl) rfl rfl ?_) | (refine Zj ?_; first | (refine Zf ?_; refine qQ ?_) | refine Zn ?_) | refine Zb ?_ | (refine Zi ?_; refine Zv ?_) | (refine Zh ?_; refine Zu ?_) | intro _)
    exact qE (L' := []) ⟨Hp.le_trans hle3 hl1, rfl, rfl⟩
  ·rw [if_neg k2]
   by_cases k4 : r.kind = 4
   ·rw [if_pos k4]
    have hA := h.s.at'
    have hl := hA.len
    have hsl := hF.sl
    have hU : ∀ ρ, RcIn ρ ⟨⟨none, 0, 0⟩, ⟨none, 0, 0⟩, ⟨none, 0, 0⟩, ⟨none, 0, 0⟩⟩ (undR []) := fun ρ => ⟨AS.nil, by simp [undR], AS.nil, AS.nil, AS.nil, by simp [undR]⟩
    have hla := fun ρ => bytes12_spec ρ _ _ (hU ρ) (undR_lay (l := []) (by simp) (by simp))
    rw [undR_nil] at hla
    repeat' (first | (refine ZE ?_; refine Zo (Zd rfl) rfl rfl ?_) | (refine Zj ?_; first | (refine Zf ?_; refine qQ ?_) | refine Zn ?_) | refine Zb ?_ | (refine Zi ?_; refine Zv ?_) | (refine Zh ?_; refine Zu ?_) | intro _)
    refine ZB [(2, _), (3, _), (39, _), (40, _)] (fun (ζ : (Nat) × (Nat)) => [(41, .int .i64 ζ.1), (6, .int .i64 ζ.2)]) (fun (ζ : (Nat) × (Nat)) => ρ) (fun (ζ : (Nat) × (Nat)) => [[(_, .cells ⟨Xh v r⟩ 30 (0, 0))]]) (fun (ζ : (Nat) × (Nat)) => ζ.1 ≤ v.s.n ∧ ζ.2 = pagesN (r.steps.take ζ.1)) (fun (ζ : (Nat) × (Nat)) => v.s.n - ζ.1) ((0, 0)) (⟨Nat.zero_le _, rfl⟩) Zm Zm rfl tk ?_
    rintro ⟨k, n⟩ hI
    try simp only [List.cons_append, List.nil_append, List.append_assoc, List.append_eq] at hI ⊢
    try dsimp only at hI ⊢
    obtain ⟨hk, hn⟩ := hI
    have hple := pagesN_le (r.steps.take k)
    have htl : (r.steps.take k).length ≤ 2 := by simp; omega
    by_cases hlt : k < v.s.n
    ·obtain ⟨b, off, C, T, fr, e1, hb, hfit, hc⟩ := hA.get (show k < r.steps.length by omega)
     have hx := pagesN_succ r.steps k (by omega)
     generalize r.steps[k]'(by omega) = x at *
     rw [e1]
     unfold stepN at hx
     by_cases h34 : x.kind = 3 ∨ x.kind = 4
     ·rw [if_pos h34] at hx
      rcases h34 with e | e
      all_goals (repeat' (first | (refine ZE ?_; refine Zo (Zd rfl) rfl rfl ?_) | (refine Zj ?_; first | (refine Zf ?_; refine qQ ?_) | refine Zn ?_) | refine Zb ?_ | (refine Zi ?_; refine Zv ?_) | (refine Zh ?_; refine Zu ?_) | intro _))
      all_goals rw [← e1]
      all_goals refine Zq (k + 1, n + 12) (⟨hlt, by dsimp only; omega⟩) Zm Zm rfl tk inferInstance (by first | omega | (dsimp only; omega))
     ·rw [if_neg h34] at hx
      repeat' (first | (refine ZE ?_; refine Zo (Zd rfl) rfl rfl ?_) | (refine Zj ?_; first | (refine Zf ?_; refine qQ ?_) | refine Zn ?_) | refine Zb ?_ | (refine Zi ?_; refine Zv ?_) | (refine Zh ?_; refine Zu ?_) | intro _)
      rw [← e1]
      refine Zq (k + 1, n + 1) (⟨hlt, by dsimp only; omega⟩) Zm Zm rfl tk inferInstance (by first | omega | (dsimp only; omega))
    ·rw [show r.steps.take k = r.steps by rw [show k = r.steps.length by omega, List.take_length]] at hn hple htl
     subst hn
     repeat' (first | (refine Ze (.func 31) ?_; refine qC rfl rfl (hla _) ?_; rintro v ρ' L' hle ⟨hl1, a, c, rfl, hc, hs, rfl⟩ <;> (try simp only [kM, kN, kO])) | (rw [show ((30 : Nat) : Int) + min ((pagesN r.steps : Nat) : Int) 16 * 83 = ((30 + min (pagesN r.steps) 16 * 83 : Nat) : Int) by omega]; refine Ze (.func 310) ?_; refine qC rfl rfl (sects04_spec _ _ (by omega)) ?_; rintro z1 ρ1 L1 hle0 ⟨rfl, rfl, rfl⟩; simp only [List.cons_append, List.nil_append]) | (refine ZE ?_; refine Zo (Zd rfl) rfl rfl ?_) | (refine Zj ?_; first | (refine Zf ?_; refine qQ ?_) | refine Zn ?_) | refine Zb ?_ | (refine Zi ?_; refine Zv ?_) | (refine Zh ?_; refine Zu ?_) | intro _)
     exact qE (L' := []) ⟨hl1, rfl, rfl⟩
   ·rw [if_neg k4]
    repeat' (first | (refine ZE ?_; refine Zo (Zd rfl) rfl rfl ?_) | (refine Zj ?_; first | (refine Zf ?_; refine qQ ?_) | refine Zn ?_) | refine Zb ?_ | (refine Zi ?_; refine Zv ?_) | (refine Zh ?_; refine Zu ?_) | intro _)
    exact qE (L' := []) ⟨Hp.le_refl _, rfl, rfl⟩
structure TxP where
 num : Int
 state : Int
 first : Nat
 last : Nat
 undo : Nat
 stack : List Lf
 marks : List Nat
deriving DecidableEq
abbrev Tx.p (x : Tx) : TxP := ⟨x.num, x.state, x.first, x.last, x.undo, x.stack, x.marks⟩
structure Yr where
 next : Int
 txns : List TxP
deriving DecidableEq
abbrev Ros.p (r : Ros) : Yr := ⟨r.next, r.txns.map Tx.p⟩
instance (priority := 1200) eqLf {x y : Lf} : EqC Tryz.prog 8 74 (.agg ⟨lfV x⟩) (.agg ⟨lfV y⟩) (decide (x = y)) := by
 have h : EqC Tryz.prog 8 74 (.agg ⟨[.int .u64 x.lsn, .int .i64 x.cost]⟩) (.agg ⟨[.int .u64 y.lsn, .int .i64 y.cost]⟩) _ := inferInstance
 refine ⟨fun d w hd => ?_⟩
 rw [h.out d w hd]
 congr 1
 obtain ⟨i, t⟩ := x
 obtain ⟨i', t'⟩ := y
 simp only [Lf.mk.injEq, Bool.and_true, Bool.decide_and]
 have e : ((i : Int) == (i' : Int)) = decide (i = i') := by
  by_cases h : i = i'
  ·subst h; simp
  ·rw [decide_eq_false h]; simp only [beq_eq_false_iff_ne, ne_eq]; omega
 rw [e]
 by_cases h1 : t = t' <;> by_cases h2 : i = i' <;> simp [h1, h2]
theorem sameTx18_spec (ρ : Hp) (x y : Tx) (hx : Tx.In ρ x) (hy : Tx.In ρ y) : Spec Tryz.prog 54 [.agg ⟨Ym x⟩, .agg ⟨Ym y⟩] ρ [] (fun z ρ' L' => z = .bool (decide (x.p = y.p)) ∧ ρ' = ρ ∧ L' = []) := by
 obtain ⟨xn, xst, xf, xl, xu, xs, xm, ⟨sa, sn, sc⟩, ⟨ma, mn, mc⟩⟩ := x
 obtain ⟨yn, yst, yf, yl, yu, ys, ym, ⟨ra, rn, rc⟩, ⟨ka, kn, kc⟩⟩ := y
 obtain ⟨xS, xM, b1, b2, -, -⟩ := hx
 obtain ⟨yS, yM, b3, b4, -, -⟩ := hy
 dsimp only at xS xM yS yM b1 b2 b3 b4
 have n1 := xS.len
 have n2 := xM.len
 have n3 := yS.len
 have n4 := yM.len
 simp only [Ym, Tx.p, TxP.mk.injEq]
 refine Zg Tryz.func54 rfl rfl rfl fun u R => ?_
 simp only [Zx, List.cons_append, List.nil_append]
 by_cases e : xn = yn ∧ xst = yst ∧ xf = yf ∧ xl = yl ∧ xu = yu
 ·obtain ⟨rfl, rfl, rfl, rfl, rfl⟩ := e
  by_cases hn : sn = rn ∧ mn = kn
  ·obtain ⟨rfl, rfl⟩ := hn
   repeat' (first | (refine ZE ?_; refine Zo (Zd rfl) rfl rfl ?_) | (refine Zj ?_; first | (refine Zf ?_; refine qQ ?_) | refine Zn ?_) | refine Zb ?_ | (refine Zi ?_; refine Zv ?_) | (refine Zh ?_; refine Zu ?_) | intro _)
   rename_i c2 c3
   refine ZB [(2, _), (3, _), (60, _)] (fun (ζ : (Nat)) => [(61, .int .i64 ζ), (4, .bool false)]) (fun (ζ : (Nat)) => ρ) (fun (ζ : (Nat)) => [[(c3, .cells ⟨[.int .i64 xn, .int .i64 xst, .int .u64 xf, .int .u64 xl, .int .u64 xu, .slice ra sn rc, .slice ka mn kc]⟩ 72 (0, 0))], [(c2, .cells ⟨[.int .i64 xn, .int .i64 xst, .int .u64 xf, .int .u64 xl, .int .u64 xu, .slice sa sn sc, .slice ma mn mc]⟩ 72 (0, 0))]]) (fun (ζ : (Nat)) => ζ ≤ sn ∧ xs.take ζ = ys.take ζ) (fun (ζ : (Nat)) => sn - ζ) (0) (⟨Nat.zero_le _, rfl⟩) Zm Zm rfl tk ?_
   rintro k hI
   try simp only [List.cons_append, List.nil_append, List.append_assoc, List.append_eq] at hI ⊢
   try dsimp only at hI ⊢
   obtain ⟨hk, hpre⟩ := hI
   by_cases hlt : k < sn
   ·obtain ⟨b, off, C, T, fr, rfl, hb, hfit, hc⟩ := xS.get (show k < xs.length by omega)
    obtain ⟨bb, off2, C2, T2, fr2, rfl, hb2, hfit2, hc2⟩ := yS.get (show k < ys.length by omega)
    have ht1 := List.take_succ_eq_append_getElem (show k < xs.length by omega)
    have ht2 := List.take_succ_eq_append_getElem (show k < ys.length by omega)
    have hf : xs = ys → xs[k]'(by omega) = ys[k]'(by omega) := fun e => by subst e; rfl
    generalize xs[k]'(by omega) = xi at *
    generalize ys[k]'(by omega) = yi at *
    by_cases c : xi = yi
    ·have hd : decide (xi = yi) = true := decide_eq_true c
     repeat' (first | (refine ZE ?_; refine Zo (Zd rfl) rfl rfl ?_) | (refine Zj ?_; first | (refine Zf ?_; refine qQ ?_) | refine Zn ?_) | refine Zb ?_ | (refine Zi ?_; refine Zv ?_) | (refine Zh ?_; refine Zu ?_) | intro _)
     refine ZD (Zs _ _ _) ZF ?_
     all_goals (refine ZS 0 ?_; refine ZO ?_; refine ZX 1 ?_; refine ZT 2 ?_; refine rIa 3 ?_; refine ZX 4 ?_; refine ZS 5 ?_; refine ZX 6 ?_; refine ZT 7 ?_; refine rIa 8 ?_; refine ZX 9 ?_; refine rCm 10 ?_; refine ZI ?_)
     all_goals (repeat' (first | (refine ZE ?_; refine Zo (Zd rfl) rfl rfl ?_) | (refine Zj ?_; first | (refine Zf ?_; refine qQ ?_) | refine Zn ?_) | refine Zb ?_ | (refine Zi ?_; refine Zv ?_) | (refine Zh ?_; refine Zu ?_) | intro _))
     all_goals refine Zq (k + 1) (⟨hlt, by rw [ht1, ht2, hpre, c]⟩) Zm Zm rfl tk inferInstance (by first | omega | (dsimp only; omega))
    ·have hd : decide (xi = yi) = false := decide_eq_false c
     rw [decide_eq_false (fun e => c (hf e.2.2.2.2.2.1))]
     repeat' (first | (refine ZE ?_; refine Zo (Zd rfl) rfl rfl ?_) | (refine Zj ?_; first | (refine Zf ?_; refine qQ ?_) | refine Zn ?_) | refine Zb ?_ | (refine Zi ?_; refine Zv ?_) | (refine Zh ?_; refine Zu ?_) | intro _)
     refine ZD (Zs _ _ _) ZF ?_
     all_goals (refine ZS 0 ?_; refine ZO ?_; refine ZX 1 ?_; refine ZT 2 ?_; refine rIa 3 ?_; refine ZX 4 ?_; refine ZS 5 ?_; refine ZX 6 ?_; refine ZT 7 ?_; refine rIa 8 ?_; refine ZX 9 ?_; refine rCm 10 ?_; refine ZI ?_)
     all_goals (repeat' (first | (refine ZE ?_; refine Zo (Zd rfl) rfl rfl ?_) | (refine Zj ?_; first | (refine Zf ?_; refine qQ ?_) | refine Zn ?_) | refine Zb ?_ | (refine Zi ?_; refine Zv ?_) | (refine Zh ?_; refine Zu ?_) | intro _))
     all_goals exact qE (L' := []) ⟨rfl, rfl, rfl⟩
   ·have hS : xs = ys := by
     rwa [List.take_of_length_le (by omega), List.take_of_length_le (by omega)] at hpre
    repeat' (first | (refine ZE ?_; refine Zo (Zd rfl) rfl rfl ?_) | (refine Zj ?_; first | (refine Zf ?_; refine qQ ?_) | refine Zn ?_) | refine Zb ?_ | (refine Zi ?_; refine Zv ?_) | (refine Zh ?_; refine Zu ?_) | intro _)
    refine ZB [(2, _), (3, _), (78, _)] (fun (ζ : (Nat)) => [(79, .int .i64 ζ), (4, .bool false)]) (fun (ζ : (Nat)) => ρ) (fun (ζ : (Nat)) => [[(c3, .cells ⟨[.int .i64 xn, .int .i64 xst, .int .u64 xf, .int .u64 xl, .int .u64 xu, .slice ra sn rc, .slice ka mn kc]⟩ 72 (0, 0))], [(c2, .cells ⟨[.int .i64 xn, .int .i64 xst, .int .u64 xf, .int .u64 xl, .int .u64 xu, .slice sa sn sc, .slice ma mn mc]⟩ 72 (0, 0))]]) (fun (ζ : (Nat)) => ζ ≤ mn ∧ xm.take ζ = ym.take ζ) (fun (ζ : (Nat)) => mn - ζ) (0) (⟨Nat.zero_le _, rfl⟩) Zm Zm rfl tk ?_
    rintro j hI
    try simp only [List.cons_append, List.nil_append, List.append_assoc, List.append_eq] at hI ⊢
    try dsimp only at hI ⊢
    obtain ⟨hj, hpre2⟩ := hI
    by_cases hlt2 : j < mn
    ·obtain ⟨b, off, C, T, fr, rfl, hb, hc⟩ := xM.get (show j < xm.length by omega)
     obtain ⟨bb, off2, C2, T2, fr2, rfl, hb2, hc2⟩ := yM.get (show j < ym.length by omega)
     have ht1 := List.take_succ_eq_append_getElem (show j < xm.length by omega)
     have ht2 := List.take_succ_eq_append_getElem (show j < ym.length by omega)
     have hf : xm = ym → xm[j]'(by omega) = ym[j]'(by omega) := fun e => by subst e; rfl
     generalize xm[j]'(by omega) = xi at *
     generalize ym[j]'(by omega) = yi at *
     by_cases c : xi = yi
     ·repeat' (first | (refine ZE ?_; refine Zo (Zd rfl) rfl rfl ?_) | (refine Zj ?_; first | (refine Zf ?_; refine qQ ?_) | refine Zn ?_) | refine Zb ?_ | (refine Zi ?_; refine Zv ?_) | (refine Zh ?_; refine Zu ?_) | intro _)
      refine ZD (Zs _ _ _) ZF ?_
      all_goals (refine ZS 0 ?_; refine ZO ?_; refine ZX 1 ?_; refine ZT 2 ?_; refine rIa 3 ?_; refine ZX 4 ?_; refine ZS 5 ?_; refine ZX 6 ?_; refine ZT 7 ?_; refine rIa 8 ?_; refine ZX 9 ?_; refine rCm 10 ?_; refine ZI ?_)
      all_goals (repeat' (first | (refine ZE ?_; refine Zo (Zd rfl) rfl rfl ?_) | (refine Zj ?_; first | (refine Zf ?_; refine qQ ?_) | refine Zn ?_) | refine Zb ?_ | (refine Zi ?_; refine Zv ?_) | (refine Zh ?_; refine Zu ?_) | intro _))
      all_goals refine Zq (j + 1) (⟨hlt2, by rw [ht1, ht2, hpre2, c]⟩) Zm Zm rfl tk inferInstance (by first | omega | (dsimp only; omega))
     ·rw [decide_eq_false (fun e => c (hf e.2.2.2.2.2.2))]
      repeat' (first | (refine ZE ?_; refine Zo (Zd rfl) rfl rfl ?_) | (refine Zj ?_; first | (refine Zf ?_; refine qQ ?_) | refine Zn ?_) | refine Zb ?_ | (refine Zi ?_; refine Zv ?_) | (refine Zh ?_; refine Zu ?_) | intro _)
      refine ZD (Zs _ _ _) ZF ?_
      all_goals (refine ZS 0 ?_; refine ZO ?_; refine ZX 1 ?_; refine ZT 2 ?_; refine rIa 3 ?_; refine ZX 4 ?_; refine ZS 5 ?_; refine ZX 6 ?_; refine ZT 7 ?_; refine rIa 8 ?_; refine ZX 9 ?_; refine rCm 10 ?_; refine ZI ?_)
      all_goals (repeat' (first | (refine ZE ?_; refine Zo (Zd rfl) rfl rfl ?_) | (refine Zj ?_; first | (refine Zf ?_; refine qQ ?_) | refine Zn ?_) | refine Zb ?_ | (refine Zi ?_; refine Zv ?_) | (refine Zh ?_; refine Zu ?_) | intro _))
      all_goals exact qE (L' := []) ⟨rfl, rfl, rfl⟩
    ·have hM : xm = ym := by
      rwa [List.take_of_length_le (by omega), List.take_of_length_le (by omega)] at hpre2
     simp only [hS, hM, and_self, decide_true, eq_self]
     repeat' (first | (refine ZE ?_; refine Zo (Zd rfl) rfl rfl ?_) | (refine Zj ?_; first | (refine Zf ?_; refine qQ ?_) | refine Zn ?_) | refine Zb ?_ | (refine Zi ?_; refine Zv ?_) | (refine Zh ?_; refine Zu ?_) | intro _)
     exact qE (L' := []) ⟨rfl, rfl, rfl⟩
  ·rw [decide_eq_false (fun e => hn ⟨by rw [← n1, ← n3, e.2.2.2.2.2.1], by rw [← n2, ← n4, e.2.2.2.2.2.2]⟩)]
   repeat' (first | (refine ZE ?_; refine Zo (Zd rfl) rfl rfl ?_) | (refine Zj ?_; first | (refine Zf ?_; refine qQ ?_) | refine Zn ?_) | refine Zb ?_ | (refine Zi ?_; refine Zv ?_) | (refine Zh ?_; refine Zu ?_) | (refine Xd ?_; refine ZN rfl rfl (fun hb => ?_) (fun hb => ?_) <;> (try simp only [decide_eq_true_eq, decide_eq_false_iff_not, Bool.not_eq_true, Bool.not_eq_false, beq_iff_eq, bne_iff_ne, ne_eq, decide_eq_decide, Bool.not_eq_eq_eq_not, Bool.not_true, Bool.not_false, beq_eq_false_iff_ne, bne_eq_false_iff_eq, Bool.and_eq_true, Bool.or_eq_true, Bool.and_eq_false_imp, Bool.or_eq_false_iff, bq2, bqt, bqf] at hb)) | (refine Yn ?_; refine Ya rfl (fun hb => ?_) (fun hb => ?_) <;> (try simp only [decide_eq_true_eq, decide_eq_false_iff_not, Bool.not_eq_true, Bool.not_eq_false, beq_iff_eq, bne_iff_ne, ne_eq, decide_eq_decide, Bool.not_eq_eq_eq_not, Bool.not_true, Bool.not_false, beq_eq_false_iff_ne, bne_eq_false_iff_eq, Bool.and_eq_true, Bool.or_eq_true, Bool.and_eq_false_imp, Bool.or_eq_false_iff, bq2, bqt, bqf] at hb)) | intro _)
   all_goals first | (exfalso; omega) | skip
   all_goals (refine qF (L' := []) ?_; exact ⟨YD (by (try simp [*]); first | done | omega | (intros; omega) | (constructor <;> intros <;> (try simp_all) <;> omega)), rfl, rfl⟩)
 ·rw [decide_eq_false (fun h => e ⟨h.1, h.2.1, h.2.2.1, h.2.2.2.1, h.2.2.2.2.1⟩)]
  repeat' (first | (refine ZE ?_; refine Zo (Zd rfl) rfl rfl ?_) | (refine Zj ?_; first | (refine Zf ?_; refine qQ ?_) | refine Zn ?_) | refine Zb ?_ | (refine Zi ?_; refine Zv ?_) | (refine Zh ?_; refine Zu ?_) | (refine Xd ?_; refine ZN rfl rfl (fun hb => ?_) (fun hb => ?_) <;> (try simp only [decide_eq_true_eq, decide_eq_false_iff_not, Bool.not_eq_true, Bool.not_eq_false, beq_iff_eq, bne_iff_ne, ne_eq, decide_eq_decide, Bool.not_eq_eq_eq_not, Bool.not_true, Bool.not_false, beq_eq_false_iff_ne, bne_eq_false_iff_eq, Bool.and_eq_true, Bool.or_eq_true, Bool.and_eq_false_imp, Bool.or_eq_false_iff, bq2, bqt, bqf] at hb)) | (refine Yn ?_; refine Ya rfl (fun hb => ?_) (fun hb => ?_) <;> (try simp only [decide_eq_true_eq, decide_eq_false_iff_not, Bool.not_eq_true, Bool.not_eq_false, beq_iff_eq, bne_iff_ne, ne_eq, decide_eq_decide, Bool.not_eq_eq_eq_not, Bool.not_true, Bool.not_false, beq_eq_false_iff_ne, bne_eq_false_iff_eq, Bool.and_eq_true, Bool.or_eq_true, Bool.and_eq_false_imp, Bool.or_eq_false_iff, bq2, bqt, bqf] at hb)) | intro _)
  all_goals first | (exfalso; omega) | skip
  all_goals (refine qF (L' := []) ?_; exact ⟨YD (by (try simp [*]); first | done | omega | (intros; omega) | (constructor <;> intros <;> (try simp_all) <;> omega)), rfl, rfl⟩)
theorem map_take_suc {α β : Type} (g : α → β) (l : List α) (k : Nat) (h : k < l.length) : (l.map g).take (k + 1) = (l.map g).take k ++ [g l[k]] := by
 rw [List.take_succ_eq_append_getElem (by simpa using h), List.getElem_map]
theorem same18_spec (ρ : Hp) (v v' : SV) (x y : Ros) (hx : RosIn ρ v x) (hy : RosIn ρ v' y) : Spec Tryz.prog 19 [.agg ⟨Yh v x⟩, .agg ⟨Yh v' y⟩] ρ [] (fun z ρ' L' => z = .bool (decide (x.p = y.p)) ∧ ρ' = ρ ∧ L' = []) := by
 obtain ⟨⟨hA, hbig, -⟩, hT⟩ := hx
 obtain ⟨⟨hB, -, -⟩, hU⟩ := hy
 obtain ⟨sa, sn, sc⟩ := v
 obtain ⟨ra, rn, rc⟩ := v'
 dsimp only at hA hB hbig
 have n1 := hA.len
 have n2 := hB.len
 simp only [Yh, Ros.p, Yr.mk.injEq]
 refine Zg Tryz.func19 rfl rfl rfl fun u R => ?_
 simp only [Zx, List.cons_append, List.nil_append]
 by_cases e : x.next = y.next
 ·by_cases hn : sn = rn
  ·subst hn
   repeat' (first | (refine ZE ?_; refine Zo (Zd rfl) rfl rfl ?_) | (refine Zj ?_; first | (refine Zf ?_; refine qQ ?_) | refine Zn ?_) | refine Zb ?_ | (refine Zi ?_; refine Zv ?_) | (refine Zh ?_; refine Zu ?_) | intro _)
   rename_i c2 c3
   refine ZB [(2, _), (3, _), (22, _)] (fun (ζ : (Nat)) => [(23, .int .i64 ζ), (4, .bool false)]) (fun (ζ : (Nat)) => ρ) (fun (ζ : (Nat)) => [[(c3, .cells ⟨[.int .i64 y.next, .slice ra sn rc]⟩ 34 (0, 0))], [(c2, .cells ⟨[.int .i64 x.next, .slice sa sn sc]⟩ 34 (0, 0))]]) (fun (ζ : (Nat)) => ζ ≤ sn ∧ (x.txns.map Tx.p).take ζ = (y.txns.map Tx.p).take ζ) (fun (ζ : (Nat)) => sn - ζ) (0) (⟨Nat.zero_le _, rfl⟩) Zm Zm rfl tk ?_
   rintro k hI
   try simp only [List.cons_append, List.nil_append, List.append_assoc, List.append_eq] at hI ⊢
   try dsimp only at hI ⊢
   obtain ⟨hk, hpre⟩ := hI
   by_cases hlt : k < sn
   ·obtain ⟨b, off, C, T, fr, rfl, hb, hfit, hc⟩ := hA.get (show k < x.txns.length by omega)
    obtain ⟨bb, off2, C2, T2, fr2, rfl, hb2, hfit2, hc2⟩ := hB.get (show k < y.txns.length by omega)
    have ht1 := map_take_suc Tx.p x.txns k (by omega)
    have ht2 := map_take_suc Tx.p y.txns k (by omega)
    have hf : x.txns.map Tx.p = y.txns.map Tx.p → (x.txns[k]'(by omega)).p = (y.txns[k]'(by omega)).p := fun e => by
     have g1 : (x.txns.map Tx.p)[k]? = some (x.txns[k]'(by omega)).p := by simp [show k < x.txns.length by omega]
     have g2 : (y.txns.map Tx.p)[k]? = some (y.txns[k]'(by omega)).p := by simp [show k < y.txns.length by omega]
     rw [e, g2] at g1
     exact (Option.some.inj g1).symm
    have i1 := hT _ (List.getElem_mem (show k < x.txns.length by omega))
    have i2 := hU _ (List.getElem_mem (show k < y.txns.length by omega))
    generalize x.txns[k]'(by omega) = xi at *
    generalize y.txns[k]'(by omega) = yi at *
    have q := sameTx18_spec ρ xi yi i1 i2
    by_cases c : xi.p = yi.p
    ·rw [decide_eq_true c] at q
     repeat' (first | (refine ZE ?_; refine Zo (Zd rfl) rfl rfl ?_) | (refine Zj ?_; first | (refine Zf ?_; refine qQ ?_) | refine Zn ?_) | refine Zb ?_ | (refine Zi ?_; refine Zv ?_) | (refine Zh ?_; refine Zu ?_) | intro _)
     refine ZD (Zs _ _ _) ZF ?_
     all_goals (refine ZS 0 ?_; refine ZX 1 ?_; refine ZT 2 ?_; refine rIa 3 ?_; refine ZX 4 ?_; refine ZS 5 ?_; refine ZX 6 ?_; refine ZT 7 ?_; refine rIa 8 ?_; refine ZX 9 ?_)
     all_goals (refine Zp (i := 10) ?_; ((try refine Zk ?_); (first | (refine Ze (.func 54) ?_; refine qC rfl rfl (q) ?_; rintro v ρ' L' hle ⟨rfl, rfl, rfl⟩ <;> (try simp only [kM, kN, kO])) | (refine Zn ?_; try intro _)) <;> ((try simp only [kM, kN, kO]); refine Zb ?_; refine Zl ?_)))
     all_goals (refine ZO ?_; refine rUn 11 ?_; refine ZI ?_)
     all_goals (repeat' (first | (refine ZE ?_; refine Zo (Zd rfl) rfl rfl ?_) | (refine Zj ?_; first | (refine Zf ?_; refine qQ ?_) | refine Zn ?_) | refine Zb ?_ | (refine Zi ?_; refine Zv ?_) | (refine Zh ?_; refine Zu ?_) | intro _))
     all_goals refine Zq (k + 1) (⟨hlt, by rw [ht1, ht2, hpre, c]⟩) Zm Zm rfl tk inferInstance (by first | omega | (dsimp only; omega))
    ·rw [decide_eq_false c] at q
     rw [decide_eq_false (fun e => c (hf e.2))]
     repeat' (first | (refine ZE ?_; refine Zo (Zd rfl) rfl rfl ?_) | (refine Zj ?_; first | (refine Zf ?_; refine qQ ?_) | refine Zn ?_) | refine Zb ?_ | (refine Zi ?_; refine Zv ?_) | (refine Zh ?_; refine Zu ?_) | intro _)
     refine ZD (Zs _ _ _) ZF ?_
     all_goals (refine ZS 0 ?_; refine ZX 1 ?_; refine ZT 2 ?_; refine rIa 3 ?_; refine ZX 4 ?_; refine ZS 5 ?_; refine ZX 6 ?_; refine ZT 7 ?_; refine rIa 8 ?_; refine ZX 9 ?_)
     all_goals (refine Zp (i := 10) ?_; ((try refine Zk ?_); (first | (refine Ze (.func 54) ?_; refine qC rfl rfl (q) ?_; rintro v ρ' L' hle ⟨rfl, rfl, rfl⟩ <;> (try simp only [kM, kN, kO])) | (refine Zn ?_; try intro _)) <;> ((try simp only [kM, kN, kO]); refine Zb ?_; refine Zl ?_)))
     all_goals (refine ZO ?_; refine rUn 11 ?_; refine ZI ?_)
     all_goals (repeat' (first | (refine ZE ?_; refine Zo (Zd rfl) rfl rfl ?_) | (refine Zj ?_; first | (refine Zf ?_; refine qQ ?_) | refine Zn ?_) | refine Zb ?_ | (refine Zi ?_; refine Zv ?_) | (refine Zh ?_; refine Zu ?_) | intro _))
     all_goals exact qE (L' := []) ⟨rfl, rfl, rfl⟩
   ·have hS : x.txns.map Tx.p = y.txns.map Tx.p := by
     rwa [List.take_of_length_le (by simp; omega), List.take_of_length_le (by simp; omega)] at hpre
    rw [decide_eq_true ⟨e, hS⟩]
    repeat' (first | (refine ZE ?_; refine Zo (Zd rfl) rfl rfl ?_) | (refine Zj ?_; first | (refine Zf ?_; refine qQ ?_) | refine Zn ?_) | refine Zb ?_ | (refine Zi ?_; refine Zv ?_) | (refine Zh ?_; refine Zu ?_) | intro _)
    exact qE (L' := []) ⟨rfl, rfl, rfl⟩
  ·rw [decide_eq_false (fun e => hn (by have := congrArg List.length e.2; simp only [List.length_map] at this; omega))]
   repeat' (first | (refine ZE ?_; refine Zo (Zd rfl) rfl rfl ?_) | (refine Zj ?_; first | (refine Zf ?_; refine qQ ?_) | refine Zn ?_) | refine Zb ?_ | (refine Zi ?_; refine Zv ?_) | (refine Zh ?_; refine Zu ?_) | (refine Xd ?_; refine ZN rfl rfl (fun hb => ?_) (fun hb => ?_) <;> (try simp only [decide_eq_true_eq, decide_eq_false_iff_not, Bool.not_eq_true, Bool.not_eq_false, beq_iff_eq, bne_iff_ne, ne_eq, decide_eq_decide, Bool.not_eq_eq_eq_not, Bool.not_true, Bool.not_false, beq_eq_false_iff_ne, bne_eq_false_iff_eq, Bool.and_eq_true, Bool.or_eq_true, Bool.and_eq_false_imp, Bool.or_eq_false_iff, bq2, bqt, bqf] at hb)) | (refine Yn ?_; refine Ya rfl (fun hb => ?_) (fun hb => ?_) <;> (try simp only [decide_eq_true_eq, decide_eq_false_iff_not, Bool.not_eq_true, Bool.not_eq_false, beq_iff_eq, bne_iff_ne, ne_eq, decide_eq_decide, Bool.not_eq_eq_eq_not, Bool.not_true, Bool.not_false, beq_eq_false_iff_ne, bne_eq_false_iff_eq, Bool.and_eq_true, Bool.or_eq_true, Bool.and_eq_false_imp, Bool.or_eq_false_iff, bq2, bqt, bqf] at hb)) | intro _)
   all_goals first | (exfalso; omega) | skip
   all_goals (refine qF (L' := []) ?_; exact ⟨YD (by (try simp [*]); first | done | omega | (intros; omega) | (constructor <;> intros <;> (try simp_all) <;> omega)), rfl, rfl⟩)
 ·rw [decide_eq_false (fun h => e h.1)]
  repeat' (first | (refine ZE ?_; refine Zo (Zd rfl) rfl rfl ?_) | (refine Zj ?_; first | (refine Zf ?_; refine qQ ?_) | refine Zn ?_) | refine Zb ?_ | (refine Zi ?_; refine Zv ?_) | (refine Zh ?_; refine Zu ?_) | (refine Xd ?_; refine ZN rfl rfl (fun hb => ?_) (fun hb => ?_) <;> (try simp only [decide_eq_true_eq, decide_eq_false_iff_not, Bool.not_eq_true, Bool.not_eq_false, beq_iff_eq, bne_iff_ne, ne_eq, decide_eq_decide, Bool.not_eq_eq_eq_not, Bool.not_true, Bool.not_false, beq_eq_false_iff_ne, bne_eq_false_iff_eq, Bool.and_eq_true, Bool.or_eq_true, Bool.and_eq_false_imp, Bool.or_eq_false_iff, bq2, bqt, bqf] at hb)) | (refine Yn ?_; refine Ya rfl (fun hb => ?_) (fun hb => ?_) <;> (try simp only [decide_eq_true_eq, decide_eq_false_iff_not, Bool.not_eq_true, Bool.not_eq_false, beq_iff_eq, bne_iff_ne, ne_eq, decide_eq_decide, Bool.not_eq_eq_eq_not, Bool.not_true, Bool.not_false, beq_eq_false_iff_ne, bne_eq_false_iff_eq, Bool.and_eq_true, Bool.or_eq_true, Bool.and_eq_false_imp, Bool.or_eq_false_iff, bq2, bqt, bqf] at hb)) | intro _)
  all_goals first | (exfalso; omega) | skip
  all_goals (refine qF (L' := []) ?_; exact ⟨YD (by (try simp [*]); first | done | omega | (intros; omega) | (constructor <;> intros <;> (try simp_all) <;> omega)), rfl, rfl⟩)
def unT (x : TxP) : Tx := ⟨x.num, x.state, x.first, x.last, x.undo, x.stack, x.marks, ⟨none, 0, 0⟩, ⟨none, 0, 0⟩⟩
def XW (p : Yr) : Bool := rosOk ⟨p.next, p.txns.map unT⟩
theorem txsB_p (next : Int) : ∀ (l : List Tx) (last : Int), txsB next last ((l.map Tx.p).map unT) = txsB next last l
 | [], _ => rfl
 | x :: r, last => by
  simp only [List.map_cons, txsB]
  rw [show txOk next last (unT x.p) = txOk next last x from rfl, show (unT x.p).num = x.num from rfl, txsB_p next r]
theorem rosOk_p (r : Ros) : XW r.p = rosOk r := by
 unfold XW rosOk
 simp only [Ros.p, List.length_map, txsB_p]
def Xq (r : Rc) : Lf := ⟨r.lsn, (Wd r : Nat)⟩
def backT (t : TxP) (to : Nat) : TxP := { t with undo := to, stack := t.stack.filter (fun s => decide (s.lsn ≤ to)), marks := t.marks.filter (fun m => decide (m ≤ to)) }
def pushT (t : TxP) (r : Rc) : TxP := { t with undo := r.lsn, stack := t.stack ++ [Xq r] }
def XE (t : TxP) (r : Rc) : Bool := decide (t.first ≤ r.next ∧ r.next ≤ t.undo)
def WS (t : TxP) : Bool := decide (t.state = 1)
def mayT (t : TxP) (r : Rc) : Bool :=
 if r.kind = 3 ∨ r.kind = 4 then WS t && XE t r
 else if r.kind = 5 then decide (t.state ≠ 3) && (XE t r && decide (r.next < t.undo))
 else WS t
def XG (t : TxP) (r : Rc) : TxP :=
 if r.kind = 2 then pushT { t with last := r.lsn } r
 else if r.kind = 3 ∨ r.kind = 5 then backT { t with last := r.lsn } r.next
 else if r.kind = 4 then pushT (backT { t with last := r.lsn } r.next) r
 else if r.kind = 6 then { t with last := r.lsn, state := 3, marks := [], stack := [] }
 else { t with last := r.lsn, state := 2, marks := [] }
def Yf (p : Yr) (num : Int) : Option TxP := p.txns.find? (fun t => decide (t.num = num))
def putT (p : Yr) (t : TxP) : Yr := { p with txns := p.txns.map (fun x => if x.num = t.num then t else x) }
def dropT (p : Yr) (num : Int) : Yr := { p with txns := p.txns.filter (fun x => decide (x.num ≠ num)) }
def newT (r : Rc) : TxP := ⟨r.txn, 1, r.lsn, r.lsn, r.lsn, [], []⟩
def ownE (o : Option TxP) (r : Rc) : Int := match o with | none => 4 | some t => if r.prev ≠ t.last then 2 else if r.kind = 8 then 0 else if mayT t r then 0 else 2
def takesE (p : Yr) (r : Rc) : Int :=
 if r.kind = 9 then 0
 else if r.kind = 1 then (if r.txn ≠ p.next ∨ p.next = 1073741824 then 2 else if 8 ≤ p.txns.length then 6 else 0)
 else ownE (Yf p r.txn) r
def ownP (p : Yr) (o : Option TxP) (r : Rc) : Yr := match o with | none => p | some t => if r.kind = 8 then dropT p r.txn else putT p (XG t r)
def WC (p : Yr) (r : Rc) : Yr :=
 if r.kind = 9 then p
 else if r.kind = 1 then ⟨p.next + 1, p.txns ++ [newT r]⟩
 else ownP p (Yf p r.txn) r
def XY (p : Yr) (r : Rc) : Int := if XW p then (if YF r then takesE p r else 220) else 280
def XK (p : Yr) (r : Rc) : Yr := if XY p r = 0 then WC p r else ⟨0, []⟩
def liveE (o : Option TxP) : Int := match o with | none => 4 | some t => if t.state = 1 then 0 else 2
def WJ (f : TxP → Int) (o : Option TxP) : Int := match o with | none => 4 | some t => if t.state = 1 then f t else 2
def askT (f : TxP → TxP) (p : Yr) (o : Option TxP) : Yr := match o with | none => p | some t => putT p (f t)
def XM (f : TxP → Int) (p : Yr) (num : Int) : Int := if XW p then WJ f (Yf p num) else 280
def asksP (f : TxP → Int) (g : TxP → TxP) (p : Yr) (num : Int) : Yr := if XM f p num = 0 then askT g p (Yf p num) else ⟨0, []⟩
def XR (t : TxP) : Int := if 8 ≤ t.marks.length then 6 else 0
def markG (t : TxP) : TxP := { t with marks := t.marks ++ [t.undo] }
def XF (n : Int) (t : TxP) : Int := if n < 1 ∨ (t.marks.length : Int) < n then 4 else 0
def whereN (n : Int) (t : TxP) : Nat := t.marks.getD (n - 1).toNat 0
def cutF (n : Int) (t : TxP) : Int := if n < 1 ∨ (t.marks.length : Int) < n then 4 else if t.marks.getD (n - 1).toNat 0 ≠ t.undo then 2 else 0
def cutG (n : Int) (t : TxP) : TxP := { t with marks := t.marks.take n.toNat }
structure TxG (t : TxP) : Prop where
 s1 : 1 ≤ t.state
 s3 : t.state ≤ 3
 f1 : 1 ≤ t.first
 fu : t.first ≤ t.undo
 ul : t.undo ≤ t.last
 lm : t.last ≤ 1099511627776
 st : ∀ s ∈ t.stack, t.first < s.lsn ∧ s.lsn ≤ t.undo ∧ 1 ≤ s.cost ∧ s.cost ≤ 400
 so : t.stack.Pairwise (fun a b => a.lsn < b.lsn)
 ml : t.marks.length ≤ 8
 ms : t.marks ≠ [] → t.state = 1
 mb : ∀ m ∈ t.marks, t.first ≤ m ∧ m ≤ t.undo
 mo : t.marks.Pairwise (· ≤ ·)
structure RosG (p : Yr) : Prop where
 n1 : 1 ≤ p.next
 n2 : p.next ≤ 1073741824
 len : p.txns.length ≤ 8
 tx : ∀ t ∈ p.txns, 0 < t.num ∧ t.num < p.next ∧ TxG t
 up : p.txns.Pairwise (fun a b => a.num < b.num)
theorem stackB_iff {undo : Nat} : ∀ {l : List Lf} {last : Nat}, Wr undo last l = true ↔ (∀ s ∈ l, last < s.lsn ∧ s.lsn ≤ undo ∧ 1 ≤ s.cost ∧ s.cost ≤ 400) ∧ l.Pairwise (fun a b => a.lsn < b.lsn)
 | [], last => by simp [Wr]
 | s :: r, last => by
  rw [Wr, Bool.and_eq_true, decide_eq_true_eq, stackB_iff, List.pairwise_cons]
  constructor
  ·rintro ⟨h1, h2, h3⟩
   refine ⟨fun x hx => ?_, fun x hx => (h2 x hx).1, h3⟩
   rcases List.mem_cons.1 hx with rfl | hx
   ·exact h1
   ·have := h2 x hx; omega
  ·rintro ⟨h1, h2, h3⟩
   refine ⟨h1 s (by simp), fun x hx => ⟨h2 x hx, (h1 x (by simp [hx])).2⟩, h3⟩
theorem pair_get {m : List Nat} (h : sortB m = true) : m.Pairwise (· ≤ ·) := by
 rw [List.pairwise_iff_getElem]
 intro i j hi hj hij
 have := sort_le h (Nat.le_of_lt hij) hj
 rwa [YW hi, YW hj] at this
theorem pair_sort {m : List Nat} (h : m.Pairwise (· ≤ ·)) : sortB m = true := by
 refine List.all_eq_true.2 (fun i hi => decide_eq_true ?_)
 have hi := List.mem_range.1 hi
 by_cases h0 : i = 0
 ·exact .inl h0
 ·right
  rw [YW hi, YW (show i - 1 < m.length by omega)]
  exact List.pairwise_iff_getElem.1 h (i - 1) i (by omega) hi (by omega)
theorem marksB_iff {x : Tx} : WR x = true ↔ x.marks.length ≤ 8 ∧ (x.marks ≠ [] → x.state = 1) ∧ (∀ m ∈ x.marks, x.first ≤ m ∧ m ≤ x.undo) ∧ x.marks.Pairwise (· ≤ ·) := by
 unfold WR
 by_cases h0 : x.marks = []
 ·simp [h0]
 ·have hp : 0 < x.marks.length := List.length_pos_iff.2 h0
  rw [decide_eq_false (by omega), Bool.false_or, Bool.and_eq_true, Bool.and_eq_true, decide_eq_true_eq, decide_eq_true_eq]
  constructor
  ·rintro ⟨⟨h1, h2⟩, h3, h4, h5⟩
   refine ⟨h2, fun _ => h1, fun m hm => ?_, pair_get h3⟩
   obtain ⟨i, hi, rfl⟩ := List.mem_iff_getElem.1 hm
   have g1 := sort_le h3 (Nat.zero_le i) hi
   have g2 := sort_le h3 (show i ≤ x.marks.length - 1 by omega) (by omega)
   rw [YW hi] at g1 g2
   omega
  ·rintro ⟨h1, h2, h3, h4⟩
   refine ⟨⟨h2 h0, h1⟩, pair_sort h4, ?_, ?_⟩
   ·rw [YW hp]; exact (h3 _ (List.getElem_mem hp)).1
   ·rw [YW (show x.marks.length - 1 < x.marks.length by omega)]; exact (h3 _ (List.getElem_mem _)).2
theorem tx18_iff {t : TxP} : tx18B (unT t) = true ↔ TxG t := by
 unfold tx18B
 rw [Bool.and_eq_true, Bool.and_eq_true, decide_eq_true_eq, stackB_iff, marksB_iff]
 constructor
 ·rintro ⟨⟨h1, h2, h3, h4, h5, h6⟩, ⟨h7, h8⟩, h9, h10, h11, h12⟩
  exact ⟨h1, h2, h3, h4, h5, h6, h7, h8, h9, h10, h11, h12⟩
 ·rintro ⟨h1, h2, h3, h4, h5, h6, h7, h8, h9, h10, h11, h12⟩
  exact ⟨⟨h1, h2, h3, h4, h5, h6⟩, ⟨h7, h8⟩, h9, h10, h11, h12⟩
theorem txsP_iff {next : Int} : ∀ {l : List TxP} {last : Int}, txsB next last (l.map unT) = true ↔ (∀ t ∈ l, last < t.num ∧ t.num < next ∧ TxG t) ∧ l.Pairwise (fun a b => a.num < b.num)
 | [], last => by simp [txsB]
 | t :: r, last => by
  rw [List.map_cons, txsB, txOk_18, Bool.and_eq_true, Bool.and_eq_true, decide_eq_true_eq, txsP_iff, List.pairwise_cons, tx18_iff]
  constructor
  ·rintro ⟨⟨⟨h1, h1'⟩, h2⟩, h3, h4⟩
   refine ⟨fun x hx => ?_, fun x hx => (h3 x hx).1, h4⟩
   rcases List.mem_cons.1 hx with rfl | hx
   ·exact ⟨h1, h1', h2⟩
   ·have := h3 x hx
    exact ⟨Int.lt_trans h1 this.1, this.2⟩
  ·rintro ⟨h1, h2, h3⟩
   have h0 := h1 t (by simp)
   exact ⟨⟨⟨h0.1, h0.2.1⟩, h0.2.2⟩, fun x hx => ⟨h2 x hx, (h1 x (by simp [hx])).2⟩, h3⟩
theorem WP {p : Yr} : XW p = true ↔ RosG p := by
 unfold XW rosOk
 rw [Bool.and_eq_true, decide_eq_true_eq, txsP_iff, List.length_map]
 exact ⟨fun ⟨⟨h1, h2, h3⟩, h4, h5⟩ => ⟨h1, h2, h3, h4, h5⟩, fun ⟨h1, h2, h3, h4, h5⟩ => ⟨⟨h1, h2, h3⟩, h4, h5⟩⟩
theorem findT_mem {p : Yr} {n : Int} {t : TxP} (h : Yf p n = some t) : t ∈ p.txns ∧ t.num = n := by
 unfold Yf at h
 exact ⟨List.mem_of_find?_eq_some h, by simpa using List.find?_some h⟩
theorem findT_idx {p : Yr} (h : RosG p) {i : Nat} (hi : i < p.txns.length) : Yf p (p.txns[i]).num = some p.txns[i] := by
 unfold Yf
 rw [List.find?_eq_some_iff_getElem]
 refine ⟨by simp, i, hi, rfl, fun j hj => ?_⟩
 have := List.pairwise_iff_getElem.1 h.up j i (by omega) hi hj
 simp only [Bool.not_eq_true', decide_eq_false_iff_not]; omega
theorem putT_set {p : Yr} (h : RosG p) {i : Nat} (hi : i < p.txns.length) {t : TxP} (ht : t.num = (p.txns[i]).num) : putT p t = { p with txns := p.txns.set i t } := by
 unfold putT
 congr 1
 apply List.ext_getElem (by simp)
 intro j h1 h2
 simp only [List.length_map] at h1
 rw [List.getElem_map, List.getElem_set]
 by_cases e : i = j
 ·subst e; rw [if_pos ht.symm, if_pos rfl]
 ·rw [if_neg e]
  have hne : (p.txns[j]).num ≠ (p.txns[i]).num := by
   rcases Nat.lt_or_gt_of_ne e with hl | hl
   ·have := List.pairwise_iff_getElem.1 h.up i j hi h1 hl; omega
   ·have := List.pairwise_iff_getElem.1 h.up j i h1 hi hl; omega
  rw [if_neg (fun e2 => hne (e2.trans ht))]
theorem reserve_ok {r : Rc} (h : YF r = true) (k : r.kind = 2 ∨ r.kind = 4) : 1 ≤ Wd r ∧ Wd r ≤ 400 := by
 have hF := We h
 unfold Wd
 rw [h, if_pos rfl]
 rcases k with k | k
 ·rw [k, if_neg (by decide), if_pos rfl]
  have := recB_le (undR_lay hF.il (fun x hx => (hF.im x hx).2.2))
  unfold sectsB; omega
 ·rw [k, if_neg (by decide), if_neg (by decide), if_pos rfl]
  unfold sectsB; omega
theorem TxG.late {t : TxP} (h : TxG t) {n : Nat} (h1 : t.last ≤ n) (h2 : n ≤ 1099511627776) : TxG { t with last := n } :=
 ⟨h.s1, h.s3, h.f1, h.fu, Nat.le_trans h.ul h1, h2, h.st, h.so, h.ml, h.ms, h.mb, h.mo⟩
theorem TxG.back {t : TxP} (h : TxG t) {to : Nat} (h1 : t.first ≤ to) (h2 : to ≤ t.undo) : TxG (backT t to) := by
 refine ⟨h.s1, h.s3, h.f1, h1, Nat.le_trans h2 h.ul, h.lm, fun s hs => ?_, h.so.filter _, ?_, fun hne => h.ms ?_, fun m hm => ?_, h.mo.filter _⟩
 ·obtain ⟨g1, g2⟩ := List.mem_filter.1 hs
  have := h.st s g1
  simp only [decide_eq_true_eq] at g2
  show t.first < s.lsn ∧ s.lsn ≤ to ∧ _
  omega
 ·have := List.length_filter_le (fun m => decide (m ≤ to)) t.marks
  have := h.ml
  show (t.marks.filter _).length ≤ 8
  omega
 ·intro e
  apply hne
  show t.marks.filter _ = []
  rw [e]; rfl
 ·obtain ⟨g1, g2⟩ := List.mem_filter.1 hm
  have := h.mb m g1
  simp only [decide_eq_true_eq] at g2
  show t.first ≤ m ∧ m ≤ to
  omega
theorem TxG.push {t : TxP} (h : TxG t) {r : Rc} (h1 : t.undo < r.lsn) (h2 : t.last = r.lsn) (h3 : 1 ≤ Wd r ∧ Wd r ≤ 400) : TxG (pushT t r) := by
 have := h.fu
 refine ⟨h.s1, h.s3, h.f1, ?_, Nat.le_of_eq h2.symm, h.lm, fun s hs => ?_, ?_, h.ml, h.ms, fun m hm => ?_, h.mo⟩
 ·show t.first ≤ r.lsn
  omega
 ·show t.first < s.lsn ∧ s.lsn ≤ r.lsn ∧ _
  rcases List.mem_append.1 hs with hs | hs
  ·have := h.st s hs; omega
  ·rw [List.mem_singleton] at hs
   subst hs
   unfold Xq; dsimp only; omega
 ·show (t.stack ++ [Xq r]).Pairwise _
  refine List.pairwise_append.2 ⟨h.so, by simp, fun a ha b hb => ?_⟩
  rw [List.mem_singleton] at hb
  subst hb
  have := h.st a ha
  unfold Xq; dsimp only; omega
 ·have := h.mb m hm
  show t.first ≤ m ∧ m ≤ r.lsn
  omega
theorem TxG.next {t : TxP} {r : Rc} (h : TxG t) (hr : YF r = true) (hp : r.prev = t.last) (hm : mayT t r = true) (k : 2 ≤ r.kind ∧ r.kind ≤ 7) : TxG (XG t r) := by
 have hF := We hr
 have hlm := hF.lsn
 have hpl : t.last < r.lsn ∧ r.lsn ≤ 1099511627776 := by
  unfold YF at hr
  simp only [Bool.and_eq_true, decide_eq_true_eq] at hr
  have hh := hr.2.1
  unfold headOk at hh
  rw [decide_eq_true_eq] at hh
  omega
 have hl := h.late (n := r.lsn) (by omega) hpl.2
 have hul := h.ul
 unfold mayT at hm
 unfold XG
 by_cases k2 : r.kind = 2
 ·rw [if_pos k2]
  exact hl.push (by dsimp only; omega) rfl (reserve_ok hr (.inl k2))
 ·rw [if_neg k2]
  by_cases k35 : r.kind = 3 ∨ r.kind = 5
  ·rw [if_pos k35]
   have hw : XE t r = true := by
    rcases k35 with e | e
    ·rw [if_pos (.inl e), Bool.and_eq_true] at hm; exact hm.2
    ·rw [if_neg (by omega), if_pos e, Bool.and_eq_true, Bool.and_eq_true] at hm; exact hm.2.1
   unfold XE at hw
   rw [decide_eq_true_eq] at hw
   exact hl.back hw.1 hw.2
  ·rw [if_neg k35]
   by_cases k4 : r.kind = 4
   ·rw [if_pos k4]
    rw [if_pos (.inr k4), Bool.and_eq_true] at hm
    have hw := hm.2
    unfold XE at hw
    rw [decide_eq_true_eq] at hw
    exact (hl.back hw.1 hw.2).push (by show r.next < r.lsn; omega) rfl (reserve_ok hr (.inr k4))
   ·rw [if_neg k4]
    split
    ·exact ⟨by dsimp only; omega, by dsimp only; omega, hl.f1, hl.fu, hl.ul, hl.lm, by simp, by simp, by simp, by simp, by simp, by simp⟩
    ·exact ⟨by dsimp only; omega, by dsimp only; omega, hl.f1, hl.fu, hl.ul, hl.lm, hl.st, hl.so, by simp, by simp, by simp, by simp⟩
theorem RosG.set {p : Yr} (h : RosG p) {i : Nat} (hi : i < p.txns.length) {t : TxP} (ht : t.num = (p.txns[i]).num) (hg : TxG t) : RosG { p with txns := p.txns.set i t } := by
 refine ⟨h.n1, h.n2, by simpa using h.len, fun x hx => ?_, ?_⟩
 ·rcases List.mem_or_eq_of_mem_set hx with hx | rfl
  ·exact h.tx x hx
  ·have := h.tx _ (List.getElem_mem hi)
   exact ⟨by omega, by show x.num < p.next; omega, hg⟩
 ·rw [List.pairwise_iff_getElem]
  intro a b ha hb hab
  simp only [List.length_set] at ha hb
  have := List.pairwise_iff_getElem.1 h.up a b ha hb hab
  dsimp only
  rw [List.getElem_set, List.getElem_set]
  split <;> split <;> first | omega | (subst_vars; omega)
theorem RosG.drop {p : Yr} (h : RosG p) (n : Int) : RosG (dropT p n) :=
 ⟨h.n1, h.n2, Nat.le_trans (List.length_filter_le _ _) h.len, fun x hx => h.tx x (List.mem_filter.1 hx).1, h.up.filter _⟩
theorem takes_ok {p : Yr} {r : Rc} (h : RosG p) (hr : YF r = true) (he : takesE p r = 0) : RosG (WC p r) := by
 have hk : 1 ≤ r.kind ∧ r.kind ≤ 9 := by
  unfold YF at hr
  rw [Bool.and_eq_true, decide_eq_true_eq] at hr
  exact hr.1
 unfold takesE at he
 unfold WC
 by_cases k9 : r.kind = 9
 ·rw [if_pos k9]; exact h
 ·rw [if_neg k9] at he ⊢
  by_cases k1 : r.kind = 1
  ·rw [if_pos k1] at he ⊢
   have hl := (We hr).lsn
   have hh : 1 ≤ r.lsn ∧ r.lsn ≤ 1099511627776 := by
    unfold YF at hr
    simp only [Bool.and_eq_true, decide_eq_true_eq] at hr
    have hh := hr.2.1
    unfold headOk at hh
    rw [decide_eq_true_eq] at hh
    omega
   split at he
   ·cases he
   ·rename_i hb
    split at he
    ·cases he
    ·rename_i h8
     have n1 := h.n1
     have n2 := h.n2
     refine ⟨by dsimp only; omega, by dsimp only; omega, by simp only [List.length_append, List.length_singleton]; omega, fun x hx => ?_, ?_⟩
     ·rcases List.mem_append.1 hx with hx | hx
      ·have := h.tx x hx
       exact ⟨this.1, by dsimp only; omega, this.2.2⟩
      ·rw [List.mem_singleton] at hx
       subst hx
       refine ⟨by show 0 < r.txn; omega, by show r.txn < p.next + 1; omega, ⟨by show (1:Int) ≤ 1; omega, by show (1:Int) ≤ 3; omega, hh.1, Nat.le_refl _, Nat.le_refl _, hh.2, by simp [newT], by simp [newT], by simp [newT], by simp [newT], by simp [newT], by simp [newT]⟩⟩
     ·refine List.pairwise_append.2 ⟨h.up, by simp, fun a ha b hb2 => ?_⟩
      rw [List.mem_singleton] at hb2
      subst hb2
      have := h.tx a ha
      show a.num < r.txn
      omega
  ·rw [if_neg k1] at he ⊢
   cases hf : Yf p r.txn with
   | none => rw [hf] at he; cases he
   | some t =>
    rw [hf] at he
    unfold ownE at he
    unfold ownP
    dsimp only at he ⊢
    split at he
    ·cases he
    ·rename_i hpv
     by_cases k8 : r.kind = 8
     ·rw [if_pos k8]; exact h.drop _
     ·rw [if_neg k8] at he ⊢
      split at he
      ·rename_i hm
       obtain ⟨hm1, hm2⟩ := findT_mem hf
       obtain ⟨i, hi, rfl⟩ := List.mem_iff_getElem.1 hm1
       have hn : (XG p.txns[i] r).num = p.txns[i].num := by
        unfold XG
        split
        ·rfl
        ·split
         ·rfl
         ·split
          ·rfl
          ·split <;> rfl
       rw [putT_set h hi hn]
       exact h.set hi hn ((h.tx _ hm1).2.2.next hr (by omega) hm (by omega))
      ·cases he
end Go.Proofs.E
