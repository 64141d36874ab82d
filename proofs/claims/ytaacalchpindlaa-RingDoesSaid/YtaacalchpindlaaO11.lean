/- The law RingDoes. Part 11 of 17. -/
import Derived.Test.YtaacalchpindlaaO10
namespace Go.Proofs.E
open Go
set_option linter.unusedVariables false
set_option linter.unusedSimpArgs false
set_option linter.unusedSectionVars false
set_option maxRecDepth 4000
set_option maxHeartbeats 1000000
attribute [local irreducible] Yl TL TC TE Spec Xt R1 Hp.le EnvLe TS TR YS Zo
def openAns (ρ' : Hp) (db : Nat) (k : DK) (r : Option RgS × DS × Int) (v : Value) (L' : SH) : Prop := match r.1 with
 | none => v = .tuple ⟨[.pointer none, .int .i64 r.2.2]⟩ ∧ L' = Zi db k r.2.1
 | some R => ∃ rb w, v = .tuple ⟨[.pointer (some ⟨rb, 0, none⟩), .int .i64 0]⟩ ∧ RIn ρ' R w ∧ L' = ZT rb db R w ++ Zi db k r.2.1
theorem readB_right {s : Blk} (h : (Yr s).2 = true) : ∃ n, (Yr s).1.Right n := by
 unfold Yr at h ⊢
 split at h
 ·rename_i hr; rw [if_pos hr]; exact ⟨_, hr⟩
 ·cases h
theorem countsB_right {a b : Blk} (h : (Yt a b).2 = true) : ∃ n, (Yt a b).1.Right n := by
 unfold Yt at h ⊢
 split
 ·rename_i hc; simp only [Bool.and_eq_true] at hc; exact readB_right hc.1
 ·rename_i hc; rw [if_neg hc] at h; exact readB_right h
theorem foundGo_h : ∀ (f : Nat) (R : RgS) (D : DS), (Yh f R D).1.h = R.h
 | 0, R, D => rfl
 | f + 1, R, D => by
  unfold Yh
  split
  ·split
   ·split
    ·rw [foundGo_h]; rfl
    ·rfl
   ·rfl
  ·rfl
theorem open_spec (ρ : Hp) (db : Nat) (k : DK) (D : DS) (hD : DOk k D) :
  Spec Try.prog 19 [.pointer (some ⟨db, 0, none⟩)] ρ (Zi db k D) (fun v ρ' L' => ρ.le ρ' ∧ ∃ k', DOk k' (openR D).2.1 ∧ openAns ρ' db k' (openR D) v L') := by
 have hOR : openR D = if (D.read 0).2.2 ≠ 0 then (none, (D.read 0).1, (D.read 0).2.2)
  else if ((D.read 0).1.read 1).2.2 ≠ 0 then (none, ((D.read 0).1.read 1).1, ((D.read 0).1.read 1).2.2)
  else if (Yt (D.read 0).2.1 ((D.read 0).1.read 1).2.1).2 = false then (none, ((D.read 0).1.read 1).1, 140)
  else openH (Yt (D.read 0).2.1 ((D.read 0).1.read 1).2.1).1 ((D.read 0).1.read 1).1 := rfl
 have hk0 : ∀ ρ, Spec Try.prog _ _ ρ _ _ := fun ρ => kread ρ db k D 0 hD
 have hDa : DOk k (D.read 0).1 := ⟨hD.ok.read, hD.map.read⟩
 have hs0 := Xn hD.ok 0
 generalize openR D = RES at *
 generalize D.read 0 = r0 at *
 obtain ⟨Da, s0, e0⟩ := r0
 dsimp only at hOR hk0 hDa hs0
 have hk1 : ∀ ρ, Spec Try.prog _ _ ρ _ _ := fun ρ => kread ρ db k Da 1 hDa
 have hDb : DOk k (Da.read 1).1 := ⟨hDa.ok.read, hDa.map.read⟩
 have hs1 := Xn hDa.ok 1
 generalize Da.read 1 = r1 at *
 obtain ⟨Db, s1, e1⟩ := r1
 dsimp only at hOR hk1 hDb hs1
 have hpl0 : (s0.map ZE).length = 64 := by simpa using hs0
 have hpo0 := ZM s0
 have hpl1 : (s1.map ZE).length = 64 := by simpa using hs1
 have hpo1 := ZM s1
 have hst0 : stc ((z8 128).map ZE) (0 + Int.toNat 0 * 64) (s0.map ZE) = (s0 ++ z8 64).map ZE := by
  simp [stc, z8, hs0]
 have hst1 : stc ((s0 ++ z8 64).map ZE) (0 + Int.toNat 1 * 64) (s1.map ZE) = (s0 ++ s1).map ZE := by
  simp [stc, z8, hs0, hs1]
 have hl128 : ((s0 ++ z8 64).map ZE).length = 128 := by simp [z8, hs0]
 refine Zd Try.func19 rfl rfl rfl fun u RR => ?_
 simp only [Zw, List.cons_append, List.nil_append]
 repeat' (first | (refine Zf ?_; first | (refine Ze ?_; refine qQ ?_) | refine Zk ?_) | refine Za ?_ | (refine Zg ?_; refine Zu ?_) | (refine Zh ?_; refine Zv ?_) | intro _)
 rename_i hb
 refine ZP [(0, _), (4, _)] (fun (ζ : (Int) × (List Value) × (DS)) => [(13, .int .i64 ζ.1), (2, .pointer none), (3, .int .i64 0)]) (fun (ζ : (Int) × (List Value) × (DS)) => ρ) (fun (ζ : (Int) × (List Value) × (DS)) => [[(hb, .cells ⟨ζ.2.1⟩ 92 (0, 0))]] ++ Zi db k ζ.2.2) (fun (ζ : (Int) × (List Value) × (DS)) => DOk k ζ.2.2 ∧ ((ζ.1 = 0 ∧ ζ.2.2 = D ∧ ζ.2.1 = (z8 128).map ZE) ∨ (ζ.1 = 1 ∧ ζ.2.2 = Da ∧ e0 = 0 ∧ ζ.2.1 = (s0 ++ z8 64).map ZE) ∨ (ζ.1 = 2 ∧ ζ.2.2 = Db ∧ e0 = 0 ∧ e1 = 0 ∧ ζ.2.1 = (s0 ++ s1).map ZE))) (fun (ζ : (Int) × (List Value) × (DS)) => (2 - ζ.1).toNat) ((0, (z8 128).map ZE, D)) (⟨hD, .inl ⟨rfl, rfl, rfl⟩⟩) Zx Zx rfl tk ?_
 rintro ⟨i, cs, D1⟩ hI
 try simp only [List.cons_append, List.nil_append, List.append_assoc, List.append_eq] at hI ⊢
 try dsimp only at hI ⊢
 obtain ⟨hD1, hor⟩ := hI
 rcases hor with ⟨rfl, rfl, rfl⟩ | ⟨rfl, rfl, rfl, rfl⟩ | ⟨rfl, rfl, rfl, rfl, rfl⟩
 ·by_cases he : e0 = 0
  ·subst he
   repeat' (first | (refine Zb (.func 9) ?_; refine qC rfl rfl (hk0 _) ?_; rintro v ρ' L' hle ⟨rfl, rfl, hD2, rfl⟩ <;> (try simp only [kM, kN, kO])) | (refine Zf ?_; first | (refine Ze ?_; refine qQ ?_) | refine Zk ?_) | refine Za ?_ | (refine Zg ?_; refine Zu ?_) | (refine Zh ?_; refine Zv ?_) | intro _)
   rw [hst0]
   refine ZI (1, (s0 ++ z8 64).map ZE, Da) (⟨hD2, .inr (.inl (by simp))⟩) Zx Zx rfl tk inferInstance (by first | omega | (dsimp only; omega))
  ·rw [if_pos he] at hOR
   have hcb : (e0 != 0) = true := by simpa using he
   repeat' (first | (refine Zb (.func 9) ?_; refine qC rfl rfl (hk0 _) ?_; rintro v ρ' L' hle ⟨rfl, rfl, hD2, rfl⟩ <;> (try simp only [kM, kN, kO])) | (refine Zf ?_; first | (refine Ze ?_; refine qQ ?_) | refine Zk ?_) | refine Za ?_ | (refine Zg ?_; refine Zu ?_) | (refine Zh ?_; refine Zv ?_) | intro _)
   subst hOR
   exact qE (L' := Zi db k Da) ⟨Hp.le_refl _, k, hDa, rfl, rfl⟩
 ·rw [if_neg (by simp)] at hOR
  by_cases he : e1 = 0
  ·subst he
   repeat' (first | (refine Zb (.func 9) ?_; refine qC rfl rfl (hk1 _) ?_; rintro v ρ' L' hle ⟨rfl, rfl, hD2, rfl⟩ <;> (try simp only [kM, kN, kO])) | (refine Zf ?_; first | (refine Ze ?_; refine qQ ?_) | refine Zk ?_) | refine Za ?_ | (refine Zg ?_; refine Zu ?_) | (refine Zh ?_; refine Zv ?_) | intro _)
   rw [hst1]
   refine ZI (2, (s0 ++ s1).map ZE, Db) (⟨hD2, .inr (.inr (by simp))⟩) Zx Zx rfl tk inferInstance (by first | omega | (dsimp only; omega))
  ·rw [if_pos he] at hOR
   have hcb : (e1 != 0) = true := by simpa using he
   repeat' (first | (refine Zb (.func 9) ?_; refine qC rfl rfl (hk1 _) ?_; rintro v ρ' L' hle ⟨rfl, rfl, hD2, rfl⟩ <;> (try simp only [kM, kN, kO])) | (refine Zf ?_; first | (refine Ze ?_; refine qQ ?_) | refine Zk ?_) | refine Za ?_ | (refine Zg ?_; refine Zu ?_) | (refine Zh ?_; refine Zv ?_) | intro _)
   subst hOR
   exact qE (L' := Zi db k Db) ⟨Hp.le_refl _, k, hDb, rfl, rfl⟩
 ·rw [if_neg (by simp), if_neg (by simp)] at hOR
  have hct := fun ρ => counts_spec ρ s0 s1 hs0 hs1
  have hrt := @countsB_right s0 s1
  generalize Yt s0 s1 = c at *
  obtain ⟨h, ok⟩ := c
  dsimp only at hOR hct hrt
  have hlc : ((s0 ++ s1).map ZE).length = 128 := by simp [hs0, hs1]
  have hla : List.take 64 (List.drop (0 + Int.toNat 0 * 64) ((s0 ++ s1).map ZE)) = s0.map ZE := by simp [hs0]
  have hlb : List.take 64 (List.drop (0 + Int.toNat 1 * 64) ((s0 ++ s1).map ZE)) = s1.map ZE := by
   simp [hs0]
   exact List.take_of_length_le (by simp [hs1])
  cases ok with
  | false =>
   rw [if_pos rfl] at hOR
   repeat' (first | (refine Zb (.func 49) ?_; refine qC rfl rfl (hct _) ?_; rintro v2 ρ2 L2 hle2 ⟨hl2, ⟨na2, nn2, nc2, rfl, hs2, hc2, hm2⟩, rfl⟩; try simp only [List.cons_append, List.nil_append]) | (refine Zf ?_; first | (refine Ze ?_; refine qQ ?_) | refine Zk ?_) | refine Za ?_ | (refine Zg ?_; refine Zu ?_) | (refine Zh ?_; refine Zv ?_) | intro _)
   rename_i b8
   refine ZA (Zo _ _ ([[(b8, .cells ⟨hdV h na2 nn2 nc2⟩ 81 (0, 0))]])) (Zn (hT := tk) (Hp.le_refl _)) ?_
   all_goals (refine ZL 0 ?_; refine rUn 1 ?_; refine ZL 2 ?_; (first | refine Zr 3 ?_ | refine Zj 3 ?_ | refine wMv 3 ?_); (first | refine Zr 5 ?_ | refine Zj 5 ?_ | refine wFa 5 ?_); (first | refine Zr 6 ?_ | refine Zj 6 ?_ | refine wLd 6 ?_); (first | refine Zr 7 ?_ | refine Zj 7 ?_ | refine wAd 7 ?_))
   all_goals (first | refine Zr 4 ?_ | refine Zj 4 ?_ | (refine Zp (i := 4) ?_; ((try refine Zl ?_); (first | (refine Zb (.func 36) ?_; refine qC rfl rfl (klen _ db k _) ?_; rintro v ρ' L' hle ⟨rfl, rfl, rfl⟩ <;> (try simp only [kM, kN, kO])) | (refine Zk ?_; try intro _)) <;> ((try simp only [kM, kN, kO]); refine Za ?_; refine Zm ?_))))
   all_goals (refine ZN ?_; (first | refine Zr 8 ?_ | refine Zj 8 ?_ | refine wCm 8 ?_); refine rPk 9 ?_; refine ZH ?_)
   all_goals (repeat' (first | (refine Zf ?_; first | (refine Ze ?_; refine qQ ?_) | refine Zk ?_) | refine Za ?_ | (refine Zg ?_; refine Zu ?_) | (refine Zh ?_; refine Zv ?_) | intro _))
   all_goals subst hOR
   all_goals exact qE (L' := Zi db k _) ⟨hl2, k, hDb, rfl, rfl⟩
  | true =>
   obtain ⟨nh, hr⟩ := hrt rfl
   unfold Hd.Right at hr
   rw [if_neg (by simp)] at hOR
   repeat' (first | (refine Zb (.func 49) ?_; refine qC rfl rfl (hct _) ?_; rintro v2 ρ2 L2 hle2 ⟨hl2, ⟨na2, nn2, nc2, rfl, hs2, hc2, hm2⟩, rfl⟩; try simp only [List.cons_append, List.nil_append]) | (refine Zf ?_; first | (refine Ze ?_; refine qQ ?_) | refine Zk ?_) | refine Za ?_ | (refine Zg ?_; refine Zu ?_) | (refine Zh ?_; refine Zv ?_) | intro _)
   rename_i b8
   unfold openH at hOR
   by_cases hln : D1.secs.length < h.size + 2
   ·rw [if_pos hln] at hOR
    refine ZA (Zo _ _ ([[(b8, .cells ⟨hdV h na2 nn2 nc2⟩ 81 (0, 0))]])) (Zn (hT := tk) (Hp.le_refl _)) ?_
    all_goals (refine ZL 0 ?_; refine rUn 1 ?_; refine ZL 2 ?_; (first | refine Zr 3 ?_ | refine Zj 3 ?_ | refine wMv 3 ?_); (first | refine Zr 5 ?_ | refine Zj 5 ?_ | refine wFa 5 ?_); (first | refine Zr 6 ?_ | refine Zj 6 ?_ | refine wLd 6 ?_); (first | refine Zr 7 ?_ | refine Zj 7 ?_ | refine wAd 7 ?_))
    all_goals (first | refine Zr 4 ?_ | refine Zj 4 ?_ | (refine Zp (i := 4) ?_; ((try refine Zl ?_); (first | (refine Zb (.func 36) ?_; refine qC rfl rfl (klen _ db k _) ?_; rintro v ρ' L' hle ⟨rfl, rfl, rfl⟩ <;> (try simp only [kM, kN, kO])) | (refine Zk ?_; try intro _)) <;> ((try simp only [kM, kN, kO]); refine Za ?_; refine Zm ?_))))
    all_goals (refine ZN ?_; (first | refine Zr 8 ?_ | refine Zj 8 ?_ | refine wCm 8 ?_); refine rPk 9 ?_; refine ZH ?_)
    all_goals (repeat' (first | (refine Zf ?_; first | (refine Ze ?_; refine qQ ?_) | refine Zk ?_) | refine Za ?_ | (refine Zg ?_; refine Zu ?_) | (refine Zh ?_; refine Zv ?_) | intro _))
    all_goals subst hOR
    all_goals exact qE (L' := Zi db k _) ⟨hl2, k, hDb, rfl, rfl⟩
   ·rw [if_neg hln] at hOR
    refine ZA (Zo _ _ ([[(b8, .cells ⟨hdV h na2 nn2 nc2⟩ 81 (0, 0))]])) (Zn (hT := tk) (Hp.le_refl _)) ?_
    all_goals (refine ZL 0 ?_; refine rUn 1 ?_; refine ZL 2 ?_; (first | refine Zr 3 ?_ | refine Zj 3 ?_ | refine wMv 3 ?_); (first | refine Zr 5 ?_ | refine Zj 5 ?_ | refine wFa 5 ?_); (first | refine Zr 6 ?_ | refine Zj 6 ?_ | refine wLd 6 ?_); (first | refine Zr 7 ?_ | refine Zj 7 ?_ | refine wAd 7 ?_))
    all_goals (first | refine Zr 4 ?_ | refine Zj 4 ?_ | (refine Zp (i := 4) ?_; ((try refine Zl ?_); (first | (refine Zb (.func 36) ?_; refine qC rfl rfl (klen _ db k _) ?_; rintro v ρ' L' hle ⟨rfl, rfl, rfl⟩ <;> (try simp only [kM, kN, kO])) | (refine Zk ?_; try intro _)) <;> ((try simp only [kM, kN, kO]); refine Za ?_; refine Zm ?_))))
    all_goals (refine ZN ?_; (first | refine Zr 8 ?_ | refine Zj 8 ?_ | refine wCm 8 ?_); refine rPk 9 ?_; refine ZH ?_)
    all_goals (iterate 8 (first | (refine Zg ?_; refine Zu ?_) | (refine Zh ?_; refine Zv ?_) | refine Za ?_ | (refine Zf ?_; refine Ze ?_; refine qQ ?_)))
    all_goals (refine Zy (y_build (vs := [.agg ⟨hdV h na2 nn2 nc2⟩, .pointer (some ⟨db, 0, none⟩)]) (cells := ⟨rgV ⟨h, [], 0, false⟩ db ⟨na2, nn2, nc2, .slice none 0 0, [], []⟩⟩) rfl rfl) rfl rfl ?_)
    all_goals have hR0 : RIn _ ⟨h, [], 0, false⟩ ⟨na2, nn2, nc2, .slice none 0 0, [], []⟩ := ⟨⟨⟨hr.1, hr.2.1⟩, ⟨hr.2.2.1, hr.2.2.2.1⟩, hr.2.2.2.2.1, by unfold RgS.next; simp; exact hr.2.2.2.2.2.1, hr.2.2.2.2.2.2.1, by rw [hs2.len]; exact hm2, rfl, Nat.zero_le _, fun b hb => by cases hb⟩, hs2, hc2, OwnS.nil 1, rfl, fun e he => by cases he⟩
    all_goals have hfd := fun rb => found_spec _ rb db ⟨h, [], 0, false⟩ ⟨na2, nn2, nc2, .slice none 0 0, [], []⟩ hR0 k D1 hDb
    all_goals have hfh := foundGo_h (h.size + 1) ⟨h, [], 0, false⟩ D1
    all_goals generalize Yh (h.size + 1) ⟨h, [], 0, false⟩ D1 = r at *
    all_goals (repeat' (first | (refine Zb (.func 50) ?_; refine qC rfl rfl (hfd _) ?_; rintro v5 ρ5 L5 hle5 ⟨rfl, hl5, hD5, w5, hR5, rfl⟩; try simp only [List.cons_append, List.nil_append]) | (refine Zf ?_; first | (refine Ze ?_; refine qQ ?_) | refine Zk ?_) | refine Za ?_ | (refine Zg ?_; refine Zu ?_) | (refine Zh ?_; refine Zv ?_) | intro _))
    all_goals obtain ⟨R1, D5, e5⟩ := r
    all_goals dsimp only at *
    all_goals by_cases hz : e5 = 0
    ·subst hz
     rw [if_neg (by simp)] at hOR
     rw [show ((0 : Int) != 0) = false from rfl]
     subst hfh
     obtain ⟨hd, ents, used, broken⟩ := R1
     dsimp only at *
     have hfin := Hp.le_trans hl2 hl5
     by_cases ht : hd.turn = 1073741824
     ·rw [if_pos ht] at hOR
      have ht' : ((hd.turn : Nat) : Int) = 1073741824 := by omega
      repeat' (first | (refine Zf ?_; first | (refine Ze ?_; refine qQ ?_) | refine Zk ?_) | refine Za ?_ | (refine Zg ?_; refine Zu ?_) | (refine Zh ?_; refine Zv ?_) | intro _)
      subst hOR
      exact qE (L' := Zi db k D5) (v := .tuple ⟨[.pointer none, .int .i64 140]⟩) ⟨hfin, k, hD5, rfl, rfl⟩
     ·rw [if_neg ht] at hOR
      have ht' : ¬ ((hd.turn : Nat) : Int) = 1073741824 := by omega
      have hn5 : SIn ρ5 ZE w5.na w5.nn hd.note := hR5.note
      have hnl5 : w5.nn ≤ 32 := by have := hR5.ok.note; have := hn5.len; dsimp only at *; omega
      have hld := laid_spec ρ5 { hd with turn := hd.turn + 1 } w5.na w5.nn w5.nc hn5 (by dsimp only; omega) (by dsimp only; omega) (by dsimp only; omega) (by dsimp only; omega) hnl5 db k D5 hD5
      have hev : ((hd.turn : Nat) : Int) + 1 = ((hd.turn + 1 : Nat) : Int) := by omega
      generalize hLD : DS.lays (ZQ { hd with turn := hd.turn + 1 }) D5 = r6 at *
      obtain ⟨D6, e6⟩ := r6
      dsimp only at *
      repeat' (first | (refine Zb (.func 39) ?_; simp only [hev]; refine qC rfl rfl hld ?_; rintro v6 ρ6 L6 hle6 ⟨rfl, hl6, k6, hD6, rfl⟩; try simp only [List.cons_append, List.nil_append]) | (refine Zf ?_; first | (refine Ze ?_; refine qQ ?_) | refine Zk ?_) | refine Za ?_ | (refine Zg ?_; refine Zu ?_) | (refine Zh ?_; refine Zv ?_) | intro _)
      have hfin6 := Hp.le_trans hfin hl6
      have hok := hR5.ok
      by_cases hz6 : e6 = 0
      ·subst hz6
       rw [if_pos rfl] at hOR
       subst hOR
       rw [show ((0 : Int) != 0) = false from rfl]
       repeat' (first | (refine Zf ?_; first | (refine Ze ?_; refine qQ ?_) | refine Zk ?_) | refine Za ?_ | (refine Zg ?_; refine Zu ?_) | (refine Zh ?_; refine Zv ?_) | intro _)
       rename_i rb6
       have hR6 : RIn ρ6 ⟨{ hd with turn := hd.turn + 1 }, ents, used, broken⟩ w5 := (RIn.mono ⟨⟨⟨by dsimp only; omega, by dsimp only; omega⟩, hok.size, hok.first, hok.next, hok.place, hok.note, hok.used, hok.fit, hok.long⟩, hR5.note, hR5.nle, hR5.own, hR5.ents, hR5.els⟩ hl6)
       exact qE (L' := ZT _ db ⟨{ hd with turn := hd.turn + 1 }, ents, used, broken⟩ w5 ++ Zi db k6 D6) ⟨hfin6, k6, hD6, _, w5, rfl, hR6, rfl⟩
      ·have hcb : (e6 != 0) = true := by simpa using hz6
       rw [if_neg hz6] at hOR
       rw [hcb]
       repeat' (first | (refine Zf ?_; first | (refine Ze ?_; refine qQ ?_) | refine Zk ?_) | refine Za ?_ | (refine Zg ?_; refine Zu ?_) | (refine Zh ?_; refine Zv ?_) | intro _)
       subst hOR
       exact qE (L' := Zi db k6 D6) (v := .tuple ⟨[.pointer none, .int .i64 e6]⟩) ⟨hfin6, k6, hD6, rfl, rfl⟩
    ·have hcb : (e5 != 0) = true := by simpa using hz
     rw [if_pos hz] at hOR
     rw [hcb]
     repeat' (first | (refine Zf ?_; first | (refine Ze ?_; refine qQ ?_) | refine Zk ?_) | refine Za ?_ | (refine Zg ?_; refine Zu ?_) | (refine Zh ?_; refine Zv ?_) | intro _)
     have hfin := Hp.le_trans hl2 hl5
     subst hOR
     exact qE (L' := Zi db k D5) (v := .tuple ⟨[.pointer none, .int .i64 e5]⟩) ⟨hfin, k, hD5, rfl, rfl⟩
structure TurnI (R : RgS) (j : Nat) : Prop where
 size : R.h.size = 20
 turn : R.h.turn = R.h.first
 next : R.next = j + 1
 note : R.h.note = []
theorem TurnI.minus {R : RgS} {j : Nat} (h : TurnI R j) (h0 : 1 ≤ R.ents.length) : TurnI (R.minus 1 []) j := by
 have h1 := h.turn
 have h2 := h.next
 refine ⟨h.size, ?_, ?_, rfl⟩
 ·simp only [RgS.minus, RgS.cutH, Hd.cut]; omega
 ·simp only [RgS.next] at h2
  simp only [RgS.minus, RgS.cutH, Hd.cut, RgS.next, List.length_drop]; omega
theorem TurnI.plus {R : RgS} {j : Nat} {b : Bs} (h : TurnI R j) : TurnI (R.plus b) (j + 1) := by
 have h2 := h.next
 refine ⟨h.size, h.turn, ?_, h.note⟩
 simp only [RgS.next] at h2
 simp only [RgS.plus, RgS.next, List.length_append, List.length_singleton]; omega
structure Hs where
 first : Nat
 a : Option Addr
 n : Nat
 c : Nat
 els : List BSl
 note : BSl
structure HIn (ρ : Hp) (H : Hs) : Prop where
 s : SIn ρ slv H.a H.n H.els
 le : H.n ≤ H.c
 els : ∀ e ∈ H.els, BIn ρ e
 note : BIn ρ H.note
theorem HIn.mono {ρ ρ' : Hp} {H : Hs} (h : HIn ρ H) (hle : ρ.le ρ') : HIn ρ' H := ⟨h.s.mono hle, h.le, fun e he => (h.els e he).mono hle, h.note.mono hle⟩
def HR (R : RgS) (H : Hs) : Prop := R.h.first = H.first ∧ R.ents = H.els.map BSl.l ∧ R.h.note = H.note.l
instance (R : RgS) (H : Hs) : Decidable (HR R H) := by unfold HR; infer_instance
structure Bd (R : RgS) (t m : Nat) : Prop where
 size : R.h.size = 20
 turn : R.h.turn ≤ t
 next : R.next ≤ m
theorem Bd.mono {R : RgS} {t m t' m' : Nat} (h : Bd R t m) (ht : t ≤ t') (hm : m ≤ m') : Bd R t' m' := ⟨h.size, by have := h.turn; omega, by have := h.next; omega⟩
theorem Bd.plus {R : RgS} {t m : Nat} {b : Bs} (h : Bd R t m) : Bd (R.plus b) (t + 1) (m + 1) := by
 have h1 := h.turn; have h2 := h.next
 refine ⟨h.size, by simp only [RgS.plus]; omega, ?_⟩
 simp only [RgS.next] at h2
 simp only [RgS.plus, RgS.next, List.length_append, List.length_singleton]; omega
theorem Bd.minus {R : RgS} {t m n : Nat} {note : Bs} (h : Bd R t m) (hn : n ≤ R.ents.length) : Bd (R.minus n note) (t + 1) (m + 1) := by
 have h1 := h.turn; have h2 := h.next
 refine ⟨h.size, by simp only [RgS.minus, RgS.cutH, Hd.cut]; omega, ?_⟩
 simp only [RgS.next] at h2
 simp only [RgS.minus, RgS.cutH, Hd.cut, RgS.next, List.length_drop]; omega
theorem Bd.again {R : RgS} {t m : Nat} (h : Bd R t m) : Bd R.again (t + 1) m := ⟨h.size, by have := h.turn; simp only [RgS.again]; omega, h.next⟩
structure Aft (R' : RgS) (D' : DS) (H' N : Hs) (t m : Nat) : Prop where
 live : R'.broken = false → RO R' D' ∧ Frs R' D' ∧ HR R' H' ∧ Bd R' t m
 dead : ∀ keep, ∃ Rx, RO Rx (D'.crash keep) ∧ (HR Rx H' ∨ HR Rx N) ∧ Bd Rx t m
 hold : DS.Ok D'
theorem RO.arm {R : RgS} {D : DS} (h : RO R D) (n : Int) (hn : -1 ≤ n ∧ n ≤ 9223372036854775807) : RO R (D.arm n).1 ∧ (D.arm n).2 = 0 := by
 have ha := h.alive
 unfold DS.arm
 rw [ha, if_neg (by simp)]
 have hd := h.dok
 exact ⟨⟨h.ok, h.live, h.num, ⟨hd.secs, by dsimp only; omega, by dsimp only; omega, hd.f1, hd.f2⟩, rfl, h.empty, h.len, h.head, h.other, h.has, h.none, h.bound⟩, rfl⟩
theorem RO.fail {R : RgS} {D : DS} (h : RO R D) (n : Int) (hn : -1 ≤ n ∧ n ≤ 9223372036854775807) : RO R (D.fail n).1 ∧ (D.fail n).2 = 0 := by
 have ha := h.alive
 unfold DS.fail
 rw [ha, if_neg (by simp)]
 have hd := h.dok
 exact ⟨⟨h.ok, h.live, h.num, ⟨hd.secs, hd.a1, hd.a2, by dsimp only; omega, by dsimp only; omega⟩, rfl, h.empty, h.len, h.head, h.other, h.has, h.none, h.bound⟩, rfl⟩
theorem Frs.same {R : RgS} {D D' : DS} (h : Frs R D) (hs : D'.secs = D.secs) : Frs R D' := fun q hq => by rw [Xg hs]; exact h q hq
theorem Aft.same {R : RgS} {D : DS} {H N : Hs} {t m : Nat} (h : RO R D) (hf : Frs R D) (hr : HR R H) (hb : Bd R t m) : Aft R D H N (t + 1) (m + 1) :=
 ⟨fun _ => ⟨h, hf, hr, hb.mono (by omega) (by omega)⟩, fun keep => ⟨R, h.crash keep, .inl hr, hb.mono (by omega) (by omega)⟩, h.dok⟩
theorem kcrash (ρ : Hp) (db : Nat) (k : DK) (D : DS) (hD : DOk k D) (ka : Option Addr) (kn kp : Nat) (ks : List Bool) (hk : SIn ρ bb ka kn ks) (hn : kn ≤ 40) (hp : kn ≤ kp) :
  Spec Try.prog 8 [.pointer (some ⟨db, 0, none⟩), .slice ka kn kp] ρ (Zi db k D)
   (fun v ρ' L' => v = .int .i64 0 ∧ ρ.le ρ' ∧ ∃ k', DOk k' (D.crash (keepB (ks.take 60))) ∧ L' = Zi db k' (D.crash (keepB (ks.take 60)))) :=
 (crash_in ρ db k.hb k.mb k.es k.ck D hD.ok hD.map ka kn kp kn ks ⟨hp, hk.len, by omega, hk.out⟩ (by omega)).mono (fun v ρ' L' _ ⟨h1, h2, mb', ck', h3⟩ => ⟨h1, h2, ⟨k.hb, mb', [], ck'⟩, ⟨hD.ok.crash, MapOk.empty YD⟩, h3⟩)
theorem HR.again {R : RgS} {H : Hs} (h : HR R H) : HR R.again H := h
theorem kcopy4 (ρ : Hp) (db : Nat) (k : DK) (D : DS) (hD : DOk k D) : Spec Try.prog 71 [.pointer (some ⟨db, 0, none⟩)] ρ (Zi db k D) (fun v ρ' L' => ρ' = ρ ∧ ∃ db' k', v = .pointer (some ⟨db', 0, none⟩) ∧ DOk k' D ∧ L' = Zi db k D ++ Zi db' k' D) :=
 (copy_spec ρ db k.hb k.mb k.es k.ck D hD.ok).mono (fun v ρ' L' _ ⟨h1, b', hb', mb', h2, h3⟩ => ⟨h1, b', ⟨hb', mb', k.es, k.ck⟩, h2, ⟨hD.1, hD.2⟩, h3⟩)
theorem DS.Ok.arm4 {D : DS} (h : D.Ok) {n : Int} (hn : n ≤ 9223372036854775807) : (D.arm n).1.Ok := by
 unfold DS.arm
 split
 ·exact h
 ·exact ⟨h.secs, by dsimp only; omega, by dsimp only; omega, h.f1, h.f2⟩
theorem DS.Ok.fail4 {D : DS} (h : D.Ok) {n : Int} (hn : n ≤ 9223372036854775807) : (D.fail n).1.Ok := by
 unfold DS.fail
 split
 ·exact h
 ·exact ⟨h.secs, h.a1, h.a2, by dsimp only; omega, by dsimp only; omega⟩
theorem karm4 (ρ : Hp) (db : Nat) (k : DK) (D : DS) (hD : DOk k D) (n : Int) (hn : n ≤ 9223372036854775807) : Spec Try.prog 17 [.pointer (some ⟨db, 0, none⟩), .int .i64 n] ρ (Zi db k D) (fun v ρ' L' => v = .int .i64 (D.arm n).2 ∧ ρ' = ρ ∧ DOk k (D.arm n).1 ∧ L' = Zi db k (D.arm n).1) :=
 (arm_disk ρ db k.hb k.mb k.es k.ck D n).mono (fun v ρ' L' _ ⟨h1, h2, h3⟩ => ⟨h1, h2, ⟨hD.ok.arm4 hn, hD.map.arm⟩, h3⟩)
theorem kfail4 (ρ : Hp) (db : Nat) (k : DK) (D : DS) (hD : DOk k D) (n : Int) (hn : n ≤ 9223372036854775807) : Spec Try.prog 18 [.pointer (some ⟨db, 0, none⟩), .int .i64 n] ρ (Zi db k D) (fun v ρ' L' => v = .int .i64 (D.fail n).2 ∧ ρ' = ρ ∧ DOk k (D.fail n).1 ∧ L' = Zi db k (D.fail n).1) :=
 (fail_disk ρ db k.hb k.mb k.es k.ck D n).mono (fun v ρ' L' _ ⟨h1, h2, h3⟩ => ⟨h1, h2, ⟨hD.ok.fail4 hn, hD.map.fail⟩, h3⟩)
structure Free (D : DS) : Prop where
 dead : D.dead = false
 fail : D.failing = -1
theorem Free.read {D : DS} (h : Free D) {i : Nat} (hi : i < D.secs.length) : (D.read (i : Int)).2.2 = 0 ∧ Free (D.read (i : Int)).1 := by
 unfold DS.read
 rw [if_neg (by rw [h.dead]; decide), if_neg (by omega), if_neg (by rw [h.fail]; decide)]
 exact ⟨rfl, h.dead, by show cnt D.failing = -1; rw [h.fail]; decide⟩
theorem cntn_len {D : DS} (h : D.Ok) (i : Nat) : (cntn D i).length = 64 := by
 unfold cntn
 by_cases hi : i < D.secs.length
 ·rw [List.getElem?_eq_getElem hi]
  have hm := List.getElem_mem hi
  show (says1 D.secs[i]).length = 64
  unfold says1
  cases hc : (D.secs[i]).2 with
  | none => exact h.secs.held _ hm
  | some c => exact h.secs.cached _ hm c hc
 ·rw [List.getElem?_eq_none (by omega)]; rfl
theorem places_spec (ρ : Hp) (mb db : Nat) (h : Hd) (w : MW) (br no : Bool) (k : DK) (D : DS) (hD : DOk k D) (size : Nat) (hs : size ≤ 1000) (hdd : D.dead = false) (hlen : size + 2 ≤ D.secs.length) :
  Spec Try.prog 53 [.pointer (some ⟨mb, 0, none⟩), .int .i64 size] ρ ([[(mb, .cells ⟨mdV db h w br no⟩ 38 (0, 0))]] ++ Zi db k D) (fun v ρ' L' => ρ.le ρ' ∧ (∃ a c, v = .slice a size c ∧ AIn ρ' 64 (fun b : Blk => b.map ZE) a size ((List.range size).map fun i => cntn D (2 + i))) ∧ L' = [[(mb, .cells ⟨mdV db h w br no⟩ 38 (0, 0))]] ++ Zi db k D) := by
 refine Zd Try.func53 rfl rfl rfl fun u R => ?_
 simp only [Zw, List.cons_append, List.nil_append]
 repeat' (first | (refine Zb (.func 71) ?_; refine qC rfl rfl (kcopy4 _ db k D hD) ?_; rintro v ρ' L' hle ⟨rfl, db2, k2, rfl, hk2, rfl⟩ <;> (try simp only [kM, kN, kO, List.append_assoc])) | (refine ZV ?_; refine Zy (Zc rfl) rfl rfl ?_) | (refine Zf ?_; first | (refine Ze ?_; refine qQ ?_) | refine Zk ?_) | refine Za ?_ | (refine Zg ?_; refine Zu ?_) | (refine Zh ?_; refine Zv ?_) | intro _)
 have ha2 : (D.arm (-1)).2 = 0 := by unfold DS.arm; rw [if_neg (by rw [hdd]; decide)]
 have ha1 : (D.arm (-1)).1 = { D with armed := -1 } := by unfold DS.arm; rw [if_neg (by rw [hdd]; decide)]; rfl
 have hf2 : ((D.arm (-1)).1.fail (-1)).2 = 0 := by rw [ha1]; unfold DS.fail; rw [if_neg (by rw [hdd]; decide)]
 have hf1 : ((D.arm (-1)).1.fail (-1)).1 = { D with armed := -1, failing := -1 } := by rw [ha1]; unfold DS.fail; rw [if_neg (by rw [hdd]; decide)]; rfl
 have hka := fun ρ => karm4 ρ db2 k2 D hk2 (-1) (by omega)
 rw [ha2] at hka
 have hkf := fun ρ hk => kfail4 ρ db2 k2 (D.arm (-1)).1 hk (-1) (by omega)
 rw [hf2, hf1] at hkf
 repeat' (first | (refine Zb (.func 17) ?_; refine qC rfl rfl ((hka _)) ?_; rintro v ρ' L' hle ⟨rfl, rfl, hk3, rfl⟩ <;> (try simp only [kM, kN, kO])) | (refine Zb (.func 18) ?_; refine qC rfl rfl ((hkf _ hk3)) ?_; rintro v ρ' L' hle ⟨rfl, rfl, hk4, rfl⟩ <;> (try simp only [kM, kN, kO])) | (refine ZV ?_; refine Zy (Zc rfl) rfl rfl ?_) | (refine Zf ?_; first | (refine Ze ?_; refine qQ ?_) | refine Zk ?_) | refine Za ?_ | (refine Zg ?_; refine Zu ?_) | (refine Zh ?_; refine Zv ?_) | intro _)
 have hfr : Free { D with armed := -1, failing := -1 } := ⟨hdd, rfl⟩
 have hsec0 : ({ D with armed := -1, failing := -1 } : DS).secs = D.secs := rfl
 generalize ({ D with armed := -1, failing := -1 } : DS) = D0 at *
 clear hkf hka
 refine ZP [(4, _), (5, _), (25, _)] (fun (ζ : (Nat) × (Value) × (List Value) × (DS)) => [(26, .int .i64 ζ.1), (6, ζ.2.1)]) (fun (ζ : (Nat) × (Value) × (List Value) × (DS)) => ρ') (fun (ζ : (Nat) × (Value) × (List Value) × (DS)) => [ZO ζ.2.1 (((List.range ζ.1).map fun j => cntn D (2 + j)).map (fun b : Blk => b.map ZE)).flatten ζ.2.2.1 48] ++ ([[(mb, .cells ⟨mdV db h w br no⟩ 38 (0, 0))]] ++ (Zi db k D ++ Zi db2 k2 ζ.2.2.2))) (fun (ζ : (Nat) × (Value) × (List Value) × (DS)) => ζ.1 ≤ size ∧ OwnS ζ.2.1 ζ.1 (((List.range ζ.1).map fun j => cntn D (2 + j)).map (fun b : Blk => b.map ZE)).flatten ζ.2.2.1 64 ∧ Free ζ.2.2.2 ∧ DOk k2 ζ.2.2.2 ∧ ζ.2.2.2.secs = D.secs) (fun (ζ : (Nat) × (Value) × (List Value) × (DS)) => size - ζ.1) ((0, .slice none 0 0, [], D0)) (⟨Nat.zero_le _, OwnS.nil 64, hfr, hk4, hsec0⟩) Zx Zx rfl tk ?_
 rintro ⟨i, va, sp, Dc⟩ hI
 try simp only [List.cons_append, List.nil_append, List.append_assoc, List.append_eq] at hI ⊢
 try dsimp only at hI ⊢
 obtain ⟨hi, hown, hF, hk, hse⟩ := hI
 obtain ⟨aa, ac, rfl, hac⟩ := hown.slice
 by_cases hlt : i < size
 ·obtain ⟨r1, r2⟩ := hF.read (i := 2 + i) (by rw [hse]; omega)
  have r3 := read_cntn r1
  rw [cntn_same hse] at r3
  have hkr := fun ρ => kread ρ db2 k2 Dc ((2 + i : Nat) : Int) hk
  have hbl := Xn hk.ok ((2 + i : Nat) : Int)
  rw [r1, r3] at hkr
  rw [r3] at hbl
  rw [show ((2 + i : Nat) : Int) = 2 + (i : Int) by omega] at hkr r2
  have hrs : (Dc.read (2 + (i : Int))).1.secs = D.secs := (XF _).trans hse
  have hnx : (((List.range i).map fun j => cntn D (2 + j)).map (fun b : Blk => b.map ZE)).flatten ++ (cntn D (2 + i)).map ZE = (((List.range (i + 1)).map fun j => cntn D (2 + j)).map (fun b : Blk => b.map ZE)).flatten := by rw [List.range_succ]; simp
  generalize cntn D (2 + i) = q at *
  have hql : (q.map ZE).length = 64 := by simpa using hbl
  have hqo := ZM q
  repeat' (first | (refine Zb (.func 9) ?_; refine qC rfl rfl ((hkr _)) ?_; rintro v ρ' L' hle ⟨rfl, rfl, hk5, rfl⟩ <;> (try simp only [kM, kN, kO])) | (refine Xa (sz := 64) (vs := [bv q]) (css := [q.map ZE]) rfl rfl rfl rfl (by simpa using hbl) (by simp) rfl (fun c8 => ?_)) | (refine Xv (ys := q.map ZE) (m := 1) (sz := 64) rfl rfl hown (hR := by infer_instance) (SrcV.find (n := 64) (l := [q.map ZE].flatten) (off := 0) (by simp only [List.flatten_cons, List.flatten_nil, List.append_nil, List.drop_zero]; exact List.take_of_length_le (by omega))) (by simpa using hql) hqo (by decide) rfl (by omega) (by omega) rfl (fun v9 sp9 hown9 => ?_); rw [hnx] at hown9 ⊢) | (refine ZV ?_; refine Zy (Zc rfl) rfl rfl ?_) | (refine Zf ?_; first | (refine Ze ?_; refine qQ ?_) | refine Zk ?_) | refine Za ?_ | (refine Zg ?_; refine Zu ?_) | (refine Zh ?_; refine Zv ?_) | intro _)
  refine ZI (i + 1, v9, sp9, _) (⟨hlt, hown9, r2, hk5, hrs⟩) Zx Zx rfl tk inferInstance (by first | omega | (dsimp only; omega))
 ·have hin : i = size := by omega
  subst hin
  refine YZ (ZO (.slice aa i ac) (((List.range i).map fun j => cntn D (2 + j)).map (fun b : Blk => b.map ZE)).flatten sp 48) (h := by infer_instance) (fun ρ5 hl5 hfz5 => ?_)
  obtain ⟨a5, c5, e5, hc5, hs5⟩ := hown.aIn (by simp) (fun x hx => by simp only [List.mem_map] at hx; obtain ⟨j, _, rfl⟩ := hx; simpa using cntn_len hD.ok _) hfz5
  cases e5
  repeat' (first | (refine ZV ?_; refine Zy (Zc rfl) rfl rfl ?_) | (refine Zf ?_; first | (refine Ze ?_; refine qQ ?_) | refine Zk ?_) | refine Za ?_ | (refine Zg ?_; refine Zu ?_) | (refine Zh ?_; refine Zv ?_) | intro _)
  exact qE (L' := [[(mb, .cells ⟨mdV db h w br no⟩ 38 (0, 0))]] ++ Zi db k D) ⟨hl5, ⟨aa, ac, rfl, hs5⟩, rfl⟩
theorem entS_congr {h : Hd} {f f' : Nat → Blk} (hsz : 0 < h.size) (hf : ∀ i, i < h.size → f i = f' i) (n at' turn size : Nat) : ∀ (j k : Nat) (acc : Bs), XM h f n at' turn size j k acc = XM h f' n at' turn size j k acc
 | 0, k, acc => rfl
 | j + 1, k, acc => by
  unfold XM
  rw [hf _ (Nat.mod_lt _ hsz), entS_congr hsz hf n at' turn size j (k + 1) _]
theorem entryS_congr {h : Hd} {f f' : Nat → Blk} (hsz : 0 < h.size) (hf : ∀ i, i < h.size → f i = f' i) (n at' left : Nat) : YR h f n at' left = YR h f' n at' left := by
 unfold YR
 rw [hf _ (Nat.mod_lt _ hsz), entS_congr hsz hf]
theorem saysGo_congr {h : Hd} {f f' : Nat → Blk} (hsz : 0 < h.size) (hf : ∀ i, i < h.size → f i = f' i) : ∀ (g : Nat) (es : List Bs) (ask : List Nat), Yx h f g es ask = Yx h f' g es ask
 | 0, es, ask => rfl
 | g + 1, es, ask => by
  unfold Yx
  rw [entryS_congr hsz hf]
  simp only [saysGo_congr hsz hf g]
theorem readAll_drop {l : List Nat} {i : Nat} (hi : i < l.length) (D : DS) : Ya (l.drop i) D = if (D.read ((2 + l[i] : Nat) : Int)).2.2 = 0 then Ya (l.drop (i + 1)) (D.read ((2 + l[i] : Nat) : Int)).1 else ((D.read ((2 + l[i] : Nat) : Int)).1, (D.read ((2 + l[i] : Nat) : Int)).2.2) := by
 rw [List.drop_eq_getElem_cons hi, Ya]
theorem read_dead {D : DS} {i : Int} (h : (D.read i).2.2 = 0) : D.dead = false ∧ (D.read i).1.dead = false := by
 unfold DS.read at h ⊢
 by_cases h1 : D.dead = true
 ·rw [if_pos h1] at h; exact absurd h (show ¬ (9 : Int) = 0 by decide)
 ·have h0 : D.dead = false := by simpa using h1
  refine ⟨h0, ?_⟩
  rw [if_neg h1]
  split
  ·exact h0
  ·split
   ·exact h0
   ·exact h0
theorem cut04_early (ρ : Hp) (mb db : Nat) (R : RgS) (hok : R.Ok) (w : MW) (hm : MIn ρ R.h w) (hel : w.els.map BSl.l = R.ents) (e : BSl) (he : BIn ρ e) (he8 : e.n ≤ 1000000) (n : Int) (hn : -9223372036854775808 ≤ n ∧ n ≤ 9223372036854775807) (k : DK) (D : DS) (hD : DOk k D)
  (hbad : R.broken = true ∨ (n < 0 ∨ (R.ents.length : Int) < n ∨ R.h.turn = 1073741824) ∨ 32 < e.l.length) :
  Spec Try.prog 16 [.pointer (some ⟨mb, 0, none⟩), .int .i64 n, slv e] ρ ([[(mb, .cells ⟨mdV db R.h w R.broken false⟩ 38 (0, 0))]] ++ Zi db k D)
   (fun v ρ' L' => v = .int .i64 (R.cut n e.l D).2.2 ∧ ρ' = ρ ∧ (R.cut n e.l D).2.1 = D ∧ (R.cut n e.l D).1 = R ∧ L' = [[(mb, .cells ⟨mdV db R.h w R.broken false⟩ 38 (0, 0))]] ++ Zi db k D) := by
 have hlen := he.s.len
 have hll : R.ents.length = w.els.length := by rw [← hel, List.length_map]
 have hsz := hok.size
 have htu := hok.turn
 obtain ⟨fI, hfI⟩ : ∃ z : Int, z = (R.h.first : Int) := ⟨_, rfl⟩
 obtain ⟨tI, htI⟩ : ∃ z : Int, z = (R.h.turn : Int) := ⟨_, rfl⟩
 have htq : R.h.turn = 1073741824 ↔ tI = 1073741824 := by omega
 rw [hlen, hll] at hbad
 have hap : R.cut n e.l D = if R.broken then (R, D, 8) else if n < 0 ∨ (w.els.length : Int) < n ∨ tI = 1073741824 then (R, D, 2) else if 32 < e.n then (R, D, 3) else (R.cut n e.l D) := by
  unfold RgS.cut
  simp only [← htq, hlen, hll]
  split
  ·rfl
  ·split
   ·rfl
   ·split
    ·rfl
    ·rfl
 rw [htq] at hbad
 generalize R.cut n e.l D = AP at *
 unfold mdV mdT
 rw [← hfI, ← htI]
 have hlv : slv e = .slice e.a e.n e.c := rfl
 rw [hlv]
 have hul : w.els.length ≤ 1000 := by
  have h1 := Xi R.ents
  have h2 := hok.used
  have h3 := hok.fit
  omega
 refine Zd Try.func16 rfl rfl rfl fun u RR => ?_
 simp only [Zw, List.cons_append, List.nil_append]
 generalize hbr : R.broken = br at *
 cases br with
 | true =>
  rw [if_pos rfl] at hap
  repeat' (first | (refine ZV ?_; refine Zy (Zc rfl) rfl rfl ?_) | (refine Zf ?_; first | (refine Ze ?_; refine qQ ?_) | refine Zk ?_) | refine Za ?_ | (refine Zg ?_; refine Zu ?_) | (refine Zh ?_; refine Zv ?_) | intro _)
  subst hap
  exact qE (L' := [[(mb, .cells ⟨[.pointer (some ⟨db, 0, none⟩), .int .u64 tI, .int .i64 (R.h.size : Nat), .int .u64 fI, .int .i64 (R.h.place : Nat), .slice w.na w.nn w.nc, .slice w.ea w.els.length w.ec, .slice w.sa w.sn w.sc, .bool true, .bool false]⟩ 38 (0, 0))]] ++ Zi db k D) ⟨rfl, rfl, rfl, rfl, rfl⟩
 | false =>
  rw [if_neg (by decide)] at hap
  by_cases h1 : n < 0
  ·rw [if_pos (.inl h1)] at hap
   repeat' (first | (refine ZV ?_; refine Zy (Zc rfl) rfl rfl ?_) | (refine Zf ?_; first | (refine Ze ?_; refine qQ ?_) | refine Zk ?_) | refine Za ?_ | (refine Zg ?_; refine Zu ?_) | (refine Zh ?_; refine Zv ?_) | intro _)
   subst hap
   exact qE (L' := [[(mb, .cells ⟨[.pointer (some ⟨db, 0, none⟩), .int .u64 tI, .int .i64 (R.h.size : Nat), .int .u64 fI, .int .i64 (R.h.place : Nat), .slice w.na w.nn w.nc, .slice w.ea w.els.length w.ec, .slice w.sa w.sn w.sc, .bool false, .bool false]⟩ 38 (0, 0))]] ++ Zi db k D) ⟨rfl, rfl, rfl, rfl, rfl⟩
  ·by_cases h2 : (w.els.length : Int) < n
   ·rw [if_pos (.inr (.inl h2))] at hap
    repeat' (first | (refine ZV ?_; refine Zy (Zc rfl) rfl rfl ?_) | (refine Zf ?_; first | (refine Ze ?_; refine qQ ?_) | refine Zk ?_) | refine Za ?_ | (refine Zg ?_; refine Zu ?_) | (refine Zh ?_; refine Zv ?_) | intro _)
    subst hap
    exact qE (L' := [[(mb, .cells ⟨[.pointer (some ⟨db, 0, none⟩), .int .u64 tI, .int .i64 (R.h.size : Nat), .int .u64 fI, .int .i64 (R.h.place : Nat), .slice w.na w.nn w.nc, .slice w.ea w.els.length w.ec, .slice w.sa w.sn w.sc, .bool false, .bool false]⟩ 38 (0, 0))]] ++ Zi db k D) ⟨rfl, rfl, rfl, rfl, rfl⟩
   ·by_cases h3 : tI = 1073741824
    ·rw [if_pos (.inr (.inr h3))] at hap
     repeat' (first | (refine ZV ?_; refine Zy (Zc rfl) rfl rfl ?_) | (refine Zf ?_; first | (refine Ze ?_; refine qQ ?_) | refine Zk ?_) | refine Za ?_ | (refine Zg ?_; refine Zu ?_) | (refine Zh ?_; refine Zv ?_) | intro _)
     subst hap
     exact qE (L' := [[(mb, .cells ⟨[.pointer (some ⟨db, 0, none⟩), .int .u64 tI, .int .i64 (R.h.size : Nat), .int .u64 fI, .int .i64 (R.h.place : Nat), .slice w.na w.nn w.nc, .slice w.ea w.els.length w.ec, .slice w.sa w.sn w.sc, .bool false, .bool false]⟩ 38 (0, 0))]] ++ Zi db k D) ⟨rfl, rfl, rfl, rfl, rfl⟩
    ·have h4 : 32 < e.n := by
      rcases hbad with h | h | h
      ·exact absurd h (by decide)
      ·rcases h with h | h | h
       ·exact absurd h h1
       ·exact absurd h h2
       ·exact absurd h h3
      ·exact h
     rw [if_neg (by omega), if_pos h4] at hap
     repeat' (first | (refine ZV ?_; refine Zy (Zc rfl) rfl rfl ?_) | (refine Zf ?_; first | (refine Ze ?_; refine qQ ?_) | refine Zk ?_) | refine Za ?_ | (refine Zg ?_; refine Zu ?_) | (refine Zh ?_; refine Zv ?_) | intro _)
     subst hap
     exact qE (L' := [[(mb, .cells ⟨[.pointer (some ⟨db, 0, none⟩), .int .u64 tI, .int .i64 (R.h.size : Nat), .int .u64 fI, .int .i64 (R.h.place : Nat), .slice w.na w.nn w.nc, .slice w.ea w.els.length w.ec, .slice w.sa w.sn w.sc, .bool false, .bool false]⟩ 38 (0, 0))]] ++ Zi db k D) ⟨rfl, rfl, rfl, rfl, rfl⟩
theorem cut04_main (ρ : Hp) (mb db : Nat) (R : RgS) (hok : R.Ok) (w : MW) (hm : MIn ρ R.h w) (hel : w.els.map BSl.l = R.ents) (e : BSl) (he : BIn ρ e) (m : Nat) (k : DK) (D : DS) (hD : DOk k D)
  (hbr : R.broken = false) (h1 : m ≤ R.ents.length) (h2 : R.h.turn < 1073741824) (h3 : e.l.length ≤ 32) :
  Spec Try.prog 16 [.pointer (some ⟨mb, 0, none⟩), .int .i64 m, slv e] ρ ([[(mb, .cells ⟨mdV db R.h w R.broken false⟩ 38 (0, 0))]] ++ Zi db k D)
   (fun v ρ' L' => v = .int .i64 (R.cut m e.l D).2.2 ∧ ρ.le ρ' ∧ ∃ k' w', DOk k' (R.cut m e.l D).2.1 ∧ MIn ρ' (R.cut m e.l D).1.h w' ∧ w'.els.map BSl.l = (R.cut m e.l D).1.ents ∧ L' = [[(mb, .cells ⟨mdV db (R.cut m e.l D).1.h w' (R.cut m e.l D).1.broken false⟩ 38 (0, 0))]] ++ Zi db k' (R.cut m e.l D).2.1) := by
 have hlen := he.s.len
 have hll : R.ents.length = w.els.length := by rw [← hel, List.length_map]
 have hsz := hok.size
 have htu := hok.turn
 have hpl := hok.place
 have hft := hok.fit
 have hus := hok.used
 have hnx := hok.next
 have hf0 := hok.first
 unfold RgS.next at hnx
 have hul : w.els.length ≤ 1000 := by
  have h1 := Xi R.ents
  omega
 obtain ⟨fI, hfI⟩ : ∃ z : Int, z = (R.h.first : Int) := ⟨_, rfl⟩
 obtain ⟨tI, htI⟩ : ∃ z : Int, z = (R.h.turn : Int) := ⟨_, rfl⟩
 have hgo : ZB (R.ents.take m) ≤ R.used := by
  have := Xf R.ents m
  omega
 have hap : R.cut m e.l D = if (DS.lays (ZQ (R.cutH m e.l)) D).2 = 0 then (⟨R.cutH m e.l, R.ents.drop m, R.used - ZB (R.ents.take m), false⟩, DS.lays (ZQ (R.cutH m e.l)) D) else (⟨R.h, R.ents, R.used, true⟩, DS.lays (ZQ (R.cutH m e.l)) D) := by
  unfold RgS.cut
  rw [hbr, if_neg (by decide), if_neg (by omega), if_neg (by omega), Int.toNat_natCast]
 have hcH : R.cutH m e.l = ⟨R.h.turn + 1, R.h.first + m, R.h.size, (R.h.place + ZB (R.ents.take m)) % R.h.size, e.l⟩ := rfl
 rw [hbr]
 generalize R.cut m e.l D = AP at *
 rw [hcH] at hap
 have hte : (w.els.take m).map BSl.l = R.ents.take m := by rw [List.map_take, hel]
 have hsT := hm.ents.take (hi' := m) (by omega)
 have hsD := hm.ents.sub (lo' := m) (hi' := w.els.length) (by omega) (by omega) (cap := w.ec) hm.ele
 have hec := hm.ele
 have hU := used04_spec ρ w.ea m w.ec (w.els.take m) hsT (fun x hx => hm.bin x (List.mem_of_mem_take hx)) (by rw [hte]; omega) (fun x hx => hm.lon x (List.mem_of_mem_take hx))
 rw [hte] at hU
 have hhd := fun ρ hn => head_spec ρ mb db R.h w false false ⟨R.h.turn + 1, R.h.first + m, R.h.size, (R.h.place + ZB (R.ents.take m)) % R.h.size, e.l⟩ e.a e.n e.c hn (by dsimp only; omega) (by dsimp only; omega) (by dsimp only; omega) (by dsimp only; have := Nat.mod_lt (R.h.place + ZB (R.ents.take m)) (show 0 < R.h.size by omega); omega) (by omega) k D hD
 have hmod2 : (((R.h.place : Nat) : Int) + (ZB (R.ents.take m) : Nat)).tmod (R.h.size : Nat) = (((R.h.place + ZB (R.ents.take m)) % R.h.size : Nat) : Int) := by
  rw [← Int.natCast_add, Int.tmod_eq_emod_of_nonneg (by omega), Int.natCast_emod]
 have hml := Nat.mod_lt (R.h.place + ZB (R.ents.take m)) (show 0 < R.h.size by omega)
 have hm0 : 0 ≤ (((R.h.place : Nat) : Int) + (ZB (R.ents.take m) : Nat)).tmod (R.h.size : Nat) := by rw [hmod2]; omega
 have hm1 : (((R.h.place : Nat) : Int) + (ZB (R.ents.take m) : Nat)).tmod (R.h.size : Nat) < R.h.size := by rw [hmod2]; omega
 have hc1 : ((R.h.turn + 1 : Nat) : Int) = tI + 1 := by omega
 have hc2 : ((R.h.first + m : Nat) : Int) = fI + (m : Int) := by omega
 generalize (R.h.place + ZB (R.ents.take m)) % R.h.size = P at *
 generalize hG : ZB (R.ents.take m) = G at *
 generalize hLY : DS.lays (ZQ ⟨R.h.turn + 1, R.h.first + m, R.h.size, P, e.l⟩) D = LY at *
 obtain ⟨D4, e4⟩ := LY
 dsimp only at hap hhd
 unfold mdV mdT rhV at hhd
 dsimp only at hhd
 rw [hc1, hc2, ← htI, ← hfI] at hhd
 unfold mdV mdT
 rw [← hfI, ← htI]
 have q1 : 0 ≤ tI := by omega
 have q2 : tI < 1073741824 := by omega
 have q3 : 0 ≤ fI := by omega
 have q4 : fI + (m : Int) ≤ 1099511627776 := by omega
 have hlv : slv e = .slice e.a e.n e.c := rfl
 rw [hlv]
 refine Zd Try.func16 rfl rfl rfl fun u RR => ?_
 simp only [Zw, List.cons_append, List.nil_append]
 repeat' (first | (refine ZV ?_; refine Zy (Zc rfl) rfl rfl ?_) | (refine Zf ?_; first | (refine Ze ?_; refine qQ ?_) | refine Zk ?_) | refine Za ?_ | (refine Zg ?_; refine Zu ?_) | (refine Zh ?_; refine Zv ?_) | intro _)
 rename_i b7
 refine tc_phase 14 (Zo _ _ ([[(b7, .cells ⟨[.int .u64 (tI + 1), .int .i64 (R.h.size : Nat), .int .u64 (fI + (m : Int)), .int .i64 (R.h.place : Nat), .slice e.a e.n e.c]⟩ 32 (0, 0))], [(mb, .cells ⟨[.pointer (some ⟨db, 0, none⟩), .int .u64 tI, .int .i64 (R.h.size : Nat), .int .u64 fI, .int .i64 (R.h.place : Nat), .slice w.na w.nn w.nc, .slice w.ea w.els.length w.ec, .slice w.sa w.sn w.sc, .bool false, .bool false]⟩ 38 (0, 0))]])) (by decide +kernel) (Zn (hT := tk) (Hp.le_refl _)) ?_
 simp only [List.take_succ_cons, List.take_zero]
 all_goals (refine ZU 0 ?_; refine ZX 1 ?_; refine ZL 2 ?_; refine rNc 3 ?_; refine ZU 4 ?_; refine ZU 5 ?_; refine ZX 6 ?_; refine ZL 7 ?_; refine rSl 8 ?_; refine ZU 11 ?_; refine ZX 12 ?_)
 all_goals (refine Zp (i := 9) ?_; ((try refine Zl ?_); (first | (refine Zb (.func 26) ?_; refine qC rfl rfl (hU) ?_; rintro v ρ' L' hle ⟨rfl, rfl, rfl⟩ <;> (try simp only [kM, kN, kO])) | (refine Zk ?_; try intro _)) <;> ((try simp only [kM, kN, kO]); refine Za ?_; refine Zm ?_)))
 all_goals (refine rAd 10 ?_; refine rRm 13 ?_; refine ZH ?_)
 all_goals refine te_phase (fuel := 2) (m := [true, true, true, true, true, true, true, true, true, true, true, true, true, true, false, false]) (Zo _ _ ([])) rfl rfl (Zn (hT := tk) (Hp.le_refl _)) ?_
 all_goals refine ZU 14 ?_
 all_goals (refine Zp (i := 15) ?_; ((try refine Zl ?_); (first | (refine Zk ?_; try intro _)) <;> ((try simp only [kM, kN, kO]); refine Za ?_; refine Zm ?_)))
 all_goals refine ZH ?_
 rw [hmod2]
 by_cases he4 : e4 = 0
 ·rw [if_pos he4] at hap
  subst he4
  repeat' (first | (refine Zb (.func 47) ?_; refine qC rfl rfl ((hhd _ he.s)) ?_; rintro v ρ' L' hle ⟨rfl, hl7, k7, hk7, rfl⟩ <;> (try simp only [kM, kN, kO])) | (refine ZV ?_; refine Zy (Zc rfl) rfl rfl ?_) | (refine Zf ?_; first | (refine Ze ?_; refine qQ ?_) | refine Zk ?_) | refine Za ?_ | (refine Zg ?_; refine Zu ?_) | (refine Zh ?_; refine Zv ?_) | intro _)
  refine tc_phase 10 (Zo _ _ ([[(b7, .cells ⟨[.int .u64 (tI + 1), .int .i64 (R.h.size : Nat), .int .u64 (fI + (m : Int)), .int .i64 (P : Nat), .slice e.a e.n e.c]⟩ 32 (0, 0))], [(mb, .cells ⟨[.pointer (some ⟨db, 0, none⟩), .int .u64 tI, .int .i64 (R.h.size : Nat), .int .u64 fI, .int .i64 (R.h.place : Nat), .slice w.na w.nn w.nc, .slice w.ea w.els.length w.ec, .slice w.sa w.sn w.sc, .bool false, .bool false]⟩ 38 (0, 0))]])) (by decide +kernel) (Zn (hT := tk) (Hp.le_refl _)) ?_
  simp only [List.take_succ_cons, List.take_zero]
  all_goals (refine ZL 0 ?_; refine ZX 1 ?_; refine ZL 2 ?_; refine rNc 3 ?_; refine ZU 4 ?_; refine ZU 5 ?_; refine ZX 6 ?_; refine ZL 7 ?_; refine rSl 8 ?_)
  all_goals refine rBu 9 ?_ (y := fun _ _ => Zc rfl)
  all_goals refine ZH ?_
  all_goals refine te_phase (fuel := 3) (m := [true, true, true, true, true, true, true, true, true, true, false, false, false]) (Zo _ _ ([])) rfl rfl (Zn (hT := tk) (Hp.le_refl _)) ?_
  all_goals (refine rNc 10 ?_; refine ZU 11 ?_)
  all_goals (refine Zp (i := 12) ?_; ((try refine Zl ?_); (first | (refine Zk ?_; try intro _)) <;> ((try simp only [kM, kN, kO]); refine Za ?_; refine Zm ?_)))
  all_goals refine ZH ?_
  repeat' (first | (refine ZV ?_; refine Zy (Zc rfl) rfl rfl ?_) | (refine Zf ?_; first | (refine Ze ?_; refine qQ ?_) | refine Zk ?_) | refine Za ?_ | (refine Zg ?_; refine Zu ?_) | (refine Zh ?_; refine Zv ?_) | intro _)
  have hdl : (w.els.drop m).length = w.els.length - m := by simp
  rw [List.take_of_length_le (by omega)] at hsD
  simp only [Int.toNat_natCast]
  rw [← hdl] at hsD ⊢
  rw [← hc1, ← hc2]
  generalize (if w.ec = m then w.ea else Option.map (fun x => x.add (m * 1)) w.ea) = X at *
  subst hap
  exact qE (v := .int .i64 0) (L' := [[(mb, .cells ⟨mdV db ⟨R.h.turn + 1, R.h.first + m, R.h.size, P, e.l⟩ ⟨e.a, e.n, e.c, X, w.ec - m, w.els.drop m, none, 0, 0⟩ false false⟩ 38 (0, 0))]] ++ Zi db k7 D4) ⟨rfl, hl7, k7, ⟨e.a, e.n, e.c, X, w.ec - m, w.els.drop m, none, 0, 0⟩, hk7, ⟨he.s.mono hl7, he.le, by dsimp only; omega, hsD.mono hl7, by dsimp only; omega, fun x hx => (hm.bin x (List.mem_of_mem_drop hx)).mono hl7, fun x hx => hm.lon x (List.mem_of_mem_drop hx)⟩, by dsimp only; rw [List.map_drop, hel], rfl⟩
 ·rw [if_neg he4] at hap
  repeat' (first | (refine Zb (.func 47) ?_; refine qC rfl rfl ((hhd _ he.s)) ?_; rintro v ρ' L' hle ⟨rfl, hl7, k7, hk7, rfl⟩ <;> (try simp only [kM, kN, kO])) | (refine ZV ?_; refine Zy (Zc rfl) rfl rfl ?_) | (refine Zf ?_; first | (refine Ze ?_; refine qQ ?_) | refine Zk ?_) | refine Za ?_ | (refine Zg ?_; refine Zu ?_) | (refine Zh ?_; refine Zv ?_) | intro _)
  subst hap
  subst hfI
  subst htI
  exact qE (L' := [[(mb, .cells ⟨mdV db R.h w true false⟩ 38 (0, 0))]] ++ Zi db k7 D4) ⟨rfl, hl7, k7, w, hk7, hm.mono hl7, hel, rfl⟩
theorem append04_early (ρ : Hp) (mb db : Nat) (R : RgS) (hok : R.Ok) (w : MW) (hm : MIn ρ R.h w) (hel : w.els.map BSl.l = R.ents) (e : BSl) (he : BIn ρ e) (he8 : e.n ≤ 1000000) (k : DK) (D : DS) (hD : DOk k D)
  (hbad : R.broken = true ∨ 8000 < e.l.length ∨ R.h.size - R.used < Zt e.l.length ∨ 1099511627776 ≤ R.next) :
  Spec Try.prog 22 [.pointer (some ⟨mb, 0, none⟩), slv e] ρ ([[(mb, .cells ⟨mdV db R.h w R.broken false⟩ 38 (0, 0))]] ++ Zi db k D)
   (fun v ρ' L' => v = .int .i64 (R.append e.l D).2.2 ∧ ρ' = ρ ∧ (R.append e.l D).2.1 = D ∧ (R.append e.l D).1 = R ∧ L' = [[(mb, .cells ⟨mdV db R.h w R.broken false⟩ 38 (0, 0))]] ++ Zi db k D) := by
 have hlen := he.s.len
 have hu : ZB (w.els.map BSl.l) = R.used := by rw [hel, hok.used]
 have hft := hok.fit
 have hsz := hok.size
 have hnx : R.next = R.h.first + w.els.length := by unfold RgS.next; rw [← hel, List.length_map]
 have hus := fun ρ hs => used04_spec ρ w.ea w.els.length w.ec w.els hs
 have hn0 := hok.next
 have hf0 := hok.first
 rw [hu] at hus
 rw [hnx] at hn0 hbad
 have hsp := YI e.n
 have hsc := XG ρ e.n (by omega)
 obtain ⟨fI, hfI⟩ : ∃ z : Int, z = (R.h.first : Int) := ⟨_, rfl⟩
 unfold mdV mdT
 rw [← hfI]
 rw [hlen] at hbad
 have q2 : 0 ≤ fI := by omega
 have q3 : fI + (w.els.length : Int) ≤ 1099511627776 := by omega
 have hus1 := hus ρ hm.ents hm.bin (by omega) hm.lon
 have hap : R.append e.l D = if R.broken then (R, D, 8) else if 8000 < e.n then (R, D, 3) else if R.h.size - R.used < Zt e.n ∨ 1099511627776 ≤ R.h.first + w.els.length then (R, D, 6) else (R.append e.l D) := by
  rw [← hnx, ← hlen]
  unfold RgS.append
  split
  ·rfl
  ·split
   ·rfl
   ·split
    ·rfl
    ·rfl
 generalize R.append e.l D = AP at *
 have hsl : ∀ x : Nat, ((R.h.size : Nat) : Int) - (R.used : Nat) = ((R.h.size - R.used : Nat) : Int) := fun _ => by omega
 have hlv : slv e = .slice e.a e.n e.c := rfl
 rw [hlv]
 refine Zd Try.func22 rfl rfl rfl fun u RR => ?_
 simp only [Zw, List.cons_append, List.nil_append]
 repeat' (first | (refine ZV ?_; refine Zy (Zc rfl) rfl rfl ?_) | (refine Zf ?_; first | (refine Ze ?_; refine qQ ?_) | refine Zk ?_) | refine Za ?_ | (refine Zg ?_; refine Zu ?_) | (refine Zh ?_; refine Zv ?_) | intro _)
 generalize hbr : R.broken = br at *
 cases br with
 | true =>
  rw [if_pos rfl] at hap
  refine ZA (Zo _ _ ([[(mb, .cells ⟨[.pointer (some ⟨db, 0, none⟩), .int .u64 (R.h.turn : Nat), .int .i64 (R.h.size : Nat), .int .u64 fI, .int .i64 (R.h.place : Nat), .slice w.na w.nn w.nc, .slice w.ea w.els.length w.ec, .slice w.sa w.sn w.sc, .bool true, .bool false]⟩ 38 (0, 0))]])) (Zn (hT := tk) (Hp.le_refl _)) ?_
  all_goals (refine ZL 0 ?_; refine ZN ?_; refine rNc 1 ?_; refine ZU 2 ?_; refine ZU 3 ?_; refine ZU 4 ?_; refine ZX 5 ?_; refine ZL 6 ?_; refine rNc 7 ?_; refine ZU 8 ?_; refine ZU 9 ?_; refine ZX 10 ?_; refine rBi 11 ?_; refine rCv 12 ?_; refine rAd 13 ?_; refine rAs 14 ?_; refine ZH ?_)
  all_goals (repeat' (first | (refine Zb (.func 26) ?_; refine qC rfl rfl (hus1) ?_; rintro v ρ' L' hle ⟨rfl, rfl, rfl⟩ <;> (try simp only [kM, kN, kO])) | (refine ZV ?_; refine Zy (Zc rfl) rfl rfl ?_) | (refine Zf ?_; first | (refine Ze ?_; refine qQ ?_) | refine Zk ?_) | refine Za ?_ | (refine Zg ?_; refine Zu ?_) | (refine Zh ?_; refine Zv ?_) | intro _))
  subst hap
  exact qE (L' := [[(mb, .cells ⟨[.pointer (some ⟨db, 0, none⟩), .int .u64 (R.h.turn : Nat), .int .i64 (R.h.size : Nat), .int .u64 fI, .int .i64 (R.h.place : Nat), .slice w.na w.nn w.nc, .slice w.ea w.els.length w.ec, .slice w.sa w.sn w.sc, .bool true, .bool false]⟩ 38 (0, 0))]] ++ Zi db k D) ⟨rfl, rfl, rfl, rfl, rfl⟩
 | false =>
  rw [if_neg (by decide)] at hap
  by_cases h3 : 8000 < e.n
  ·rw [if_pos h3] at hap
   refine ZA (Zo _ _ ([[(mb, .cells ⟨[.pointer (some ⟨db, 0, none⟩), .int .u64 (R.h.turn : Nat), .int .i64 (R.h.size : Nat), .int .u64 fI, .int .i64 (R.h.place : Nat), .slice w.na w.nn w.nc, .slice w.ea w.els.length w.ec, .slice w.sa w.sn w.sc, .bool false, .bool false]⟩ 38 (0, 0))]])) (Zn (hT := tk) (Hp.le_refl _)) ?_
   all_goals (refine ZL 0 ?_; refine ZN ?_; refine rNc 1 ?_; refine ZU 2 ?_; refine ZU 3 ?_; refine ZU 4 ?_; refine ZX 5 ?_; refine ZL 6 ?_; refine rNc 7 ?_; refine ZU 8 ?_; refine ZU 9 ?_; refine ZX 10 ?_; refine rBi 11 ?_; refine rCv 12 ?_; refine rAd 13 ?_; refine rAs 14 ?_; refine ZH ?_)
   all_goals (repeat' (first | (refine Zb (.func 26) ?_; refine qC rfl rfl (hus1) ?_; rintro v ρ' L' hle ⟨rfl, rfl, rfl⟩ <;> (try simp only [kM, kN, kO])) | (refine ZV ?_; refine Zy (Zc rfl) rfl rfl ?_) | (refine Zf ?_; first | (refine Ze ?_; refine qQ ?_) | refine Zk ?_) | refine Za ?_ | (refine Zg ?_; refine Zu ?_) | (refine Zh ?_; refine Zv ?_) | intro _))
   subst hap
   exact qE (L' := [[(mb, .cells ⟨[.pointer (some ⟨db, 0, none⟩), .int .u64 (R.h.turn : Nat), .int .i64 (R.h.size : Nat), .int .u64 fI, .int .i64 (R.h.place : Nat), .slice w.na w.nn w.nc, .slice w.ea w.els.length w.ec, .slice w.sa w.sn w.sc, .bool false, .bool false]⟩ 38 (0, 0))]] ++ Zi db k D) ⟨rfl, rfl, rfl, rfl, rfl⟩
  ·rw [if_neg h3] at hap
   have h6 : R.h.size - R.used < Zt e.n ∨ 1099511627776 ≤ R.h.first + w.els.length := by
    rcases hbad with h | h | h
    ·exact absurd h (by decide)
    ·exact absurd h h3
    ·exact h
   rw [if_pos h6] at hap
   by_cases h7 : R.h.size - R.used < Zt e.n
   ·refine ZA (Zo _ _ ([[(mb, .cells ⟨[.pointer (some ⟨db, 0, none⟩), .int .u64 (R.h.turn : Nat), .int .i64 (R.h.size : Nat), .int .u64 fI, .int .i64 (R.h.place : Nat), .slice w.na w.nn w.nc, .slice w.ea w.els.length w.ec, .slice w.sa w.sn w.sc, .bool false, .bool false]⟩ 38 (0, 0))]])) (Zn (hT := tk) (Hp.le_refl _)) ?_
    all_goals (refine ZL 0 ?_; refine ZN ?_; refine rNc 1 ?_; refine ZU 2 ?_; refine ZU 3 ?_; refine ZU 4 ?_; refine ZX 5 ?_; refine ZL 6 ?_; refine rNc 7 ?_; refine ZU 8 ?_; refine ZU 9 ?_; refine ZX 10 ?_; refine rBi 11 ?_; refine rCv 12 ?_; refine rAd 13 ?_; refine rAs 14 ?_; refine ZH ?_)
    all_goals (repeat' (first | (refine Zb (.func 26) ?_; refine qC rfl rfl (hus1) ?_; rintro v ρ' L' hle ⟨rfl, rfl, rfl⟩ <;> (try simp only [kM, kN, kO])) | (refine ZV ?_; refine Zy (Zc rfl) rfl rfl ?_) | (refine Zf ?_; first | (refine Ze ?_; refine qQ ?_) | refine Zk ?_) | refine Za ?_ | (refine Zg ?_; refine Zu ?_) | (refine Zh ?_; refine Zv ?_) | intro _))
    refine ZA (Zo _ _ ([[(mb, .cells ⟨[.pointer (some ⟨db, 0, none⟩), .int .u64 (R.h.turn : Nat), .int .i64 (R.h.size : Nat), .int .u64 fI, .int .i64 (R.h.place : Nat), .slice w.na w.nn w.nc, .slice w.ea w.els.length w.ec, .slice w.sa w.sn w.sc, .bool false, .bool false]⟩ 38 (0, 0))]])) (Zn (hT := tk) (Hp.le_refl _)) ?_
    all_goals (refine ZL 0 ?_; refine rBi 1 ?_; refine ZL 3 ?_; refine rNc 4 ?_; refine ZU 5 ?_; refine ZU 6 ?_; refine ZU 7 ?_; refine ZX 8 ?_; refine ZL 9 ?_; refine rSb 10 ?_)
    all_goals (refine Zp (i := 2) ?_; ((try refine Zl ?_); (first | (refine Zb (.func 55) ?_; refine qC rfl rfl (hsc) ?_; rintro v ρ' L' hle ⟨rfl, rfl, rfl⟩ <;> (try simp only [kM, kN, kO])) | (refine Zk ?_; try intro _)) <;> ((try simp only [kM, kN, kO]); refine Za ?_; refine Zm ?_)))
    all_goals (refine ZN ?_; refine rCm 11 ?_; refine ZL 12 ?_; (first | refine Zr 13 ?_ | refine Zj 13 ?_ | refine wMv 13 ?_); (first | refine Zr 14 ?_ | refine Zj 14 ?_ | refine wCm 14 ?_); refine rPk 15 ?_; refine rAs 16 ?_; refine ZH ?_)
    all_goals (repeat' (first | (refine ZV ?_; refine Zy (Zc rfl) rfl rfl ?_) | (refine Zf ?_; first | (refine Ze ?_; refine qQ ?_) | refine Zk ?_) | refine Za ?_ | (refine Zg ?_; refine Zu ?_) | (refine Zh ?_; refine Zv ?_) | intro _))
    subst hap
    all_goals exact qE (L' := [[(mb, .cells ⟨[.pointer (some ⟨db, 0, none⟩), .int .u64 (R.h.turn : Nat), .int .i64 (R.h.size : Nat), .int .u64 fI, .int .i64 (R.h.place : Nat), .slice w.na w.nn w.nc, .slice w.ea w.els.length w.ec, .slice w.sa w.sn w.sc, .bool false, .bool false]⟩ 38 (0, 0))]] ++ Zi db k D) ⟨rfl, rfl, rfl, rfl, rfl⟩
   ·have q4 : (1099511627776 : Int) ≤ fI + (w.els.length : Int) := by omega
    refine ZA (Zo _ _ ([[(mb, .cells ⟨[.pointer (some ⟨db, 0, none⟩), .int .u64 (R.h.turn : Nat), .int .i64 (R.h.size : Nat), .int .u64 fI, .int .i64 (R.h.place : Nat), .slice w.na w.nn w.nc, .slice w.ea w.els.length w.ec, .slice w.sa w.sn w.sc, .bool false, .bool false]⟩ 38 (0, 0))]])) (Zn (hT := tk) (Hp.le_refl _)) ?_
    all_goals (refine ZL 0 ?_; refine ZN ?_; refine rNc 1 ?_; refine ZU 2 ?_; refine ZU 3 ?_; refine ZU 4 ?_; refine ZX 5 ?_; refine ZL 6 ?_; refine rNc 7 ?_; refine ZU 8 ?_; refine ZU 9 ?_; refine ZX 10 ?_; refine rBi 11 ?_; refine rCv 12 ?_; refine rAd 13 ?_; refine rAs 14 ?_; refine ZH ?_)
    all_goals (repeat' (first | (refine Zb (.func 26) ?_; refine qC rfl rfl (hus1) ?_; rintro v ρ' L' hle ⟨rfl, rfl, rfl⟩ <;> (try simp only [kM, kN, kO])) | (refine ZV ?_; refine Zy (Zc rfl) rfl rfl ?_) | (refine Zf ?_; first | (refine Ze ?_; refine qQ ?_) | refine Zk ?_) | refine Za ?_ | (refine Zg ?_; refine Zu ?_) | (refine Zh ?_; refine Zv ?_) | intro _))
    refine ZA (Zo _ _ ([[(mb, .cells ⟨[.pointer (some ⟨db, 0, none⟩), .int .u64 (R.h.turn : Nat), .int .i64 (R.h.size : Nat), .int .u64 fI, .int .i64 (R.h.place : Nat), .slice w.na w.nn w.nc, .slice w.ea w.els.length w.ec, .slice w.sa w.sn w.sc, .bool false, .bool false]⟩ 38 (0, 0))]])) (Zn (hT := tk) (Hp.le_refl _)) ?_
    all_goals (refine ZL 0 ?_; refine rBi 1 ?_; refine ZL 3 ?_; refine rNc 4 ?_; refine ZU 5 ?_; refine ZU 6 ?_; refine ZU 7 ?_; refine ZX 8 ?_; refine ZL 9 ?_; refine rSb 10 ?_)
    all_goals (refine Zp (i := 2) ?_; ((try refine Zl ?_); (first | (refine Zb (.func 55) ?_; refine qC rfl rfl (hsc) ?_; rintro v ρ' L' hle ⟨rfl, rfl, rfl⟩ <;> (try simp only [kM, kN, kO])) | (refine Zk ?_; try intro _)) <;> ((try simp only [kM, kN, kO]); refine Za ?_; refine Zm ?_)))
    all_goals (refine ZN ?_; refine rCm 11 ?_; refine ZL 12 ?_; (first | refine Zr 13 ?_ | refine Zj 13 ?_ | refine wMv 13 ?_); (first | refine Zr 14 ?_ | refine Zj 14 ?_ | refine wCm 14 ?_); refine rPk 15 ?_; refine rAs 16 ?_; refine ZH ?_)
    all_goals (repeat' (first | (refine ZV ?_; refine Zy (Zc rfl) rfl rfl ?_) | (refine Zf ?_; first | (refine Ze ?_; refine qQ ?_) | refine Zk ?_) | refine Za ?_ | (refine Zg ?_; refine Zu ?_) | (refine Zh ?_; refine Zv ?_) | intro _))
    subst hap
    all_goals exact qE (L' := [[(mb, .cells ⟨[.pointer (some ⟨db, 0, none⟩), .int .u64 (R.h.turn : Nat), .int .i64 (R.h.size : Nat), .int .u64 fI, .int .i64 (R.h.place : Nat), .slice w.na w.nn w.nc, .slice w.ea w.els.length w.ec, .slice w.sa w.sn w.sc, .bool false, .bool false]⟩ 38 (0, 0))]] ++ Zi db k D) ⟨rfl, rfl, rfl, rfl, rfl⟩
theorem saysGo_lt {h : Hd} {f : Nat → Blk} (hsz : 0 < h.size) : ∀ (g : Nat) (es : List Bs) (ask : List Nat), (∀ x ∈ ask, x < h.size) → ∀ x ∈ (Yx h f g es ask).2, x < h.size
 | 0, es, ask, ha => ha
 | g + 1, es, ask, ha => by
  have hk : ∀ a at', ∀ x ∈ ask ++ askL h at' a, x < h.size := fun a at' x hx => by
   rcases List.mem_append.1 hx with h1 | h1
   ·exact ha x h1
   ·unfold askL at h1
    simp only [List.mem_map] at h1
    obtain ⟨j, _, rfl⟩ := h1
    exact Nat.mod_lt _ hsz
  unfold Yx
  split
  ·split
   ·exact saysGo_lt hsz g _ _ (hk _ _)
   ·exact hk _ _
  ·exact ha
theorem open04_spec (ρ : Hp) (mb db : Nat) (h : Hd) (w : MW) (br no : Bool) (k : DK) (D : DS) (hD : DOk k D) :
  Spec Try.prog 20 [.pointer (some ⟨mb, 0, none⟩)] ρ ([[(mb, .cells ⟨mdV db h w br no⟩ 38 (0, 0))]] ++ Zi db k D) (fun v ρ' L' => ρ.le ρ' ∧ mdAns ρ' mb db h w br no (openR D) v L') := by
 have hE : openR D = if (D.read 0).2.2 ≠ 0 then (none, (D.read 0).1, (D.read 0).2.2) else if ((D.read 0).1.read 1).2.2 ≠ 0 then (none, ((D.read 0).1.read 1).1, ((D.read 0).1.read 1).2.2) else if (Yt (D.read 0).2.1 ((D.read 0).1.read 1).2.1).2 = false then (none, ((D.read 0).1.read 1).1, 140) else openH (Yt (D.read 0).2.1 ((D.read 0).1.read 1).2.1).1 ((D.read 0).1.read 1).1 := rfl
 generalize openR D = RES at *
 have hk0 := fun ρ => kread ρ db k D 0 hD
 have hl0 := Xn hD.ok 0
 refine Zd Try.func20 rfl rfl rfl fun u R => ?_
 simp only [Zw, List.cons_append, List.nil_append]
 by_cases e0 : (D.read 0).2.2 = 0
 ·rw [if_neg (by simpa using e0)] at hE
  have hdd := (read_dead e0).2
  have hs0 : (D.read 0).1.secs = D.secs := XF _
  rw [e0] at hk0
  generalize D.read 0 = A at *
  obtain ⟨D1, a, ea⟩ := A
  dsimp only at e0 hE hk0 hl0 hdd hs0
  have hal : (a.map ZE).length = 64 := by simpa using hl0
  have hao := ZM a
  by_cases e1 : (D1.read 1).2.2 = 0
  ·have hk1 := fun ρ hk => kread ρ db k D1 1 hk
   have hl1 := fun (hk : DOk k D1) => Xn hk.ok 1
   rw [if_neg (by simpa using e1)] at hE
   have hdd2 := (read_dead e1).2
   have hs1 : (D1.read 1).1.secs = D1.secs := XF _
   rw [e1] at hk1
   generalize D1.read 1 = B at *
   obtain ⟨D2, b, eb⟩ := B
   dsimp only at e1 hE hk1 hl1 hdd2 hs1
   repeat' (first | (refine Zb (.func 9) ?_; refine qC rfl rfl ((hk0 _)) ?_; rintro v ρ' L' hle ⟨rfl, rfl, hk3, rfl⟩ <;> (try simp only [kM, kN, kO])) | (refine ZV ?_; refine Zy (Zc rfl) rfl rfl ?_) | (refine Zf ?_; first | (refine Ze ?_; refine qQ ?_) | refine Zk ?_) | refine Za ?_ | (refine Zg ?_; refine Zu ?_) | (refine Zh ?_; refine Zv ?_) | intro _)
   have hbl0 := hl1 hk3
   have hbl : (b.map ZE).length = 64 := by simpa using hbl0
   have hbo := ZM b
   have hct := fun ρ => counts04_spec ρ a b hl0 hbl0
   have hrt := @countsB_right a b
   generalize Yt a b = CB at *
   obtain ⟨h', ok⟩ := CB
   cases ok with
   | false =>
    repeat' (first | (refine Zb (.func 9) ?_; refine qC rfl rfl ((hk1 _ hk3)) ?_; rintro v ρ' L' hle ⟨rfl, rfl, hk4, rfl⟩ <;> (try simp only [kM, kN, kO])) | (refine Zb (.func 51) ?_; refine qC rfl rfl ((hct _)) ?_; rintro v ρ' L' hle ⟨hl5, ⟨na, nn, nc, rfl, hs5, hc5, hn5⟩, rfl⟩ <;> (try simp only [kM, kN, kO])) | (refine ZV ?_; refine Zy (Zc rfl) rfl rfl ?_) | (refine Zf ?_; first | (refine Ze ?_; refine qQ ?_) | refine Zk ?_) | refine Za ?_ | (refine Zg ?_; refine Zu ?_) | (refine Zh ?_; refine Zv ?_) | intro _)
    rename_i b3 b5 b6
    refine ZA (Zo _ _ ([[(mb, .cells ⟨mdV db h w br no⟩ 38 (0, 0))]])) (Zn (hT := tk) (Hp.le_refl _)) ?_
    all_goals (refine ZL 0 ?_; refine rUn 1 ?_; refine ZL 2 ?_; (first | refine Zr 3 ?_ | refine Zj 3 ?_ | refine wMv 3 ?_); (first | refine Zr 4 ?_ | refine Zj 4 ?_ | refine wNc 4 ?_); (first | refine Zr 5 ?_ | refine Zj 5 ?_ | refine wFa 5 ?_); (first | refine Zr 6 ?_ | refine Zj 6 ?_ | refine wLd 6 ?_); (first | refine Zr 8 ?_ | refine Zj 8 ?_ | refine wFa 8 ?_); (first | refine Zr 9 ?_ | refine Zj 9 ?_ | refine wLd 9 ?_); (first | refine Zr 10 ?_ | refine Zj 10 ?_ | refine wAd 10 ?_))
    all_goals (first | refine Zr 7 ?_ | refine Zj 7 ?_ | (refine Zp (i := 7) ?_; ((try refine Zl ?_); (first | (refine Zb (.func 36) ?_; refine qC rfl rfl (klen _ db k D2) ?_; rintro v ρ' L' hle ⟨rfl, rfl, rfl⟩ <;> (try simp only [kM, kN, kO])) | (refine Zk ?_; try intro _)) <;> ((try simp only [kM, kN, kO]); refine Za ?_; refine Zm ?_))))
    all_goals (refine ZN ?_; (first | refine Zr 11 ?_ | refine Zj 11 ?_ | refine wCm 11 ?_); refine rPk 12 ?_; refine ZH ?_)
    all_goals (repeat' (first | (refine ZV ?_; refine Zy (Zc rfl) rfl rfl ?_) | (refine Zf ?_; first | (refine Ze ?_; refine qQ ?_) | refine Zk ?_) | refine Za ?_ | (refine Zg ?_; refine Zu ?_) | (refine Zh ?_; refine Zv ?_) | intro _))
    dsimp only at hE
    rw [if_pos rfl] at hE
    subst hE
    all_goals exact qE (L' := [[(mb, .cells ⟨mdV db h w br no⟩ 38 (0, 0))]] ++ Zi db k D2) ⟨hl5, k, hk4, rfl, rfl⟩
   | true =>
    have hOt : hOf (h', true) = h' := rfl
    rw [hOt] at hct
    dsimp only at hE hrt
    rw [if_neg (by decide)] at hE
    obtain ⟨nr, t1, t2, t3, t4, t5, t6, t7, t8⟩ := hrt rfl
    repeat' (first | (refine Zb (.func 9) ?_; refine qC rfl rfl ((hk1 _ hk3)) ?_; rintro v ρ' L' hle ⟨rfl, rfl, hk4, rfl⟩ <;> (try simp only [kM, kN, kO])) | (refine Zb (.func 51) ?_; refine qC rfl rfl ((hct _)) ?_; rintro v ρ' L' hle ⟨hl5, ⟨na, nn, nc, rfl, hs5, hc5, hn5⟩, rfl⟩ <;> (try simp only [kM, kN, kO])) | (refine ZV ?_; refine Zy (Zc rfl) rfl rfl ?_) | (refine Zf ?_; first | (refine Ze ?_; refine qQ ?_) | refine Zk ?_) | refine Za ?_ | (refine Zg ?_; refine Zu ?_) | (refine Zh ?_; refine Zv ?_) | intro _)
    rename_i b3 b5 b6
    have hul : ∀ (n m : Nat), ((n : Int) < (m : Int) + 2) ↔ n < m + 2 := fun n m => by omega
    unfold openH at hE
    by_cases hlen : D2.secs.length < h'.size + 2
    ·rw [if_pos hlen] at hE
     refine ZA (Zo _ _ ([[(b6, .cells ⟨rhV h' na nn nc⟩ 32 (0, 0))], [(mb, .cells ⟨mdV db h w br no⟩ 38 (0, 0))]])) (Zn (hT := tk) (Hp.le_refl _)) ?_
     all_goals (refine ZL 0 ?_; refine rUn 1 ?_; refine ZL 2 ?_; (first | refine Zr 3 ?_ | refine Zj 3 ?_ | refine wMv 3 ?_); (first | refine Zr 4 ?_ | refine Zj 4 ?_ | refine wNc 4 ?_); (first | refine Zr 5 ?_ | refine Zj 5 ?_ | refine wFa 5 ?_); (first | refine Zr 6 ?_ | refine Zj 6 ?_ | refine wLd 6 ?_); (first | refine Zr 8 ?_ | refine Zj 8 ?_ | refine wFa 8 ?_); (first | refine Zr 9 ?_ | refine Zj 9 ?_ | refine wLd 9 ?_); (first | refine Zr 10 ?_ | refine Zj 10 ?_ | refine wAd 10 ?_))
     all_goals (first | refine Zr 7 ?_ | refine Zj 7 ?_ | (refine Zp (i := 7) ?_; ((try refine Zl ?_); (first | (refine Zb (.func 36) ?_; refine qC rfl rfl (klen _ db k D2) ?_; rintro v ρ' L' hle ⟨rfl, rfl, rfl⟩ <;> (try simp only [kM, kN, kO])) | (refine Zk ?_; try intro _)) <;> ((try simp only [kM, kN, kO]); refine Za ?_; refine Zm ?_))))
     all_goals (refine ZN ?_; (first | refine Zr 11 ?_ | refine Zj 11 ?_ | refine wCm 11 ?_); refine rPk 12 ?_; refine ZH ?_)
     all_goals (repeat' (first | (refine ZV ?_; refine Zy (Zc rfl) rfl rfl ?_) | (refine Zf ?_; first | (refine Ze ?_; refine qQ ?_) | refine Zk ?_) | refine Za ?_ | (refine Zg ?_; refine Zu ?_) | (refine Zh ?_; refine Zv ?_) | intro _))
     subst hE
     all_goals exact qE (L' := [[(mb, .cells ⟨mdV db h w br no⟩ 38 (0, 0))]] ++ Zi db k D2) ⟨hl5, k, hk4, rfl, rfl⟩
    ·rw [if_neg hlen] at hE
     refine ZA (Zo _ _ ([[(b6, .cells ⟨rhV h' na nn nc⟩ 32 (0, 0))], [(mb, .cells ⟨mdV db h w br no⟩ 38 (0, 0))]])) (Zn (hT := tk) (Hp.le_refl _)) ?_
     all_goals (refine ZL 0 ?_; refine rUn 1 ?_; refine ZL 2 ?_; (first | refine Zr 3 ?_ | refine Zj 3 ?_ | refine wMv 3 ?_); (first | refine Zr 4 ?_ | refine Zj 4 ?_ | refine wNc 4 ?_); (first | refine Zr 5 ?_ | refine Zj 5 ?_ | refine wFa 5 ?_); (first | refine Zr 6 ?_ | refine Zj 6 ?_ | refine wLd 6 ?_); (first | refine Zr 8 ?_ | refine Zj 8 ?_ | refine wFa 8 ?_); (first | refine Zr 9 ?_ | refine Zj 9 ?_ | refine wLd 9 ?_); (first | refine Zr 10 ?_ | refine Zj 10 ?_ | refine wAd 10 ?_))
     all_goals (first | refine Zr 7 ?_ | refine Zj 7 ?_ | (refine Zp (i := 7) ?_; ((try refine Zl ?_); (first | (refine Zb (.func 36) ?_; refine qC rfl rfl (klen _ db k D2) ?_; rintro v ρ' L' hle ⟨rfl, rfl, rfl⟩ <;> (try simp only [kM, kN, kO])) | (refine Zk ?_; try intro _)) <;> ((try simp only [kM, kN, kO]); refine Za ?_; refine Zm ?_))))
     all_goals (refine ZN ?_; (first | refine Zr 11 ?_ | refine Zj 11 ?_ | refine wCm 11 ?_); refine rPk 12 ?_; refine ZH ?_)
     all_goals (repeat' (first | (refine ZV ?_; refine Zy (Zc rfl) rfl rfl ?_) | (refine Zf ?_; first | (refine Ze ?_; refine qQ ?_) | refine Zk ?_) | refine Za ?_ | (refine Zg ?_; refine Zu ?_) | (refine Zh ?_; refine Zv ?_) | intro _))
     obtain ⟨F, hFd⟩ : ∃ F : List Blk, F = (List.range h'.size).map (fun i => cntn D2 (2 + i)) := ⟨_, rfl⟩
     have hFf : ∀ i, i < h'.size → (fun i => F[i]?.getD Yv) i = (fun i => cntn D2 (2 + i)) i := fun i hi => by
      rw [hFd]; simp [hi]
     have hF64 : ∀ b ∈ F, b.length = 64 := fun b hb => by
      rw [hFd] at hb
      simp only [List.mem_map] at hb
      obtain ⟨j, _, rfl⟩ := hb
      exact cntn_len hk4.ok _
     have hpl := places_spec ρ' mb db h w br no k D2 hk4 h'.size (by omega) hdd2 (by omega)
     rw [← hFd] at hpl
     have hsy := fun ρ a c hF => says04_spec ρ h' na nn nc (by omega) (by omega) (by omega) t6 t7 a c F hF hF64
     rw [saysGo_congr (by omega) hFf] at hsy
     obtain ⟨f1, f2⟩ := found_law (fun i => cntn D2 (2 + i)) (h'.size + 1) ⟨h', [], 0, false⟩ D2 (fun i => rfl) rfl
     dsimp only at f1 f2
     have hask := saysGo_lt (h := h') (f := fun i => cntn D2 (2 + i)) (by omega) (h'.size + 1) [] [] (fun x hx => by simp at hx)
     generalize Yh (h'.size + 1) ⟨h', [], 0, false⟩ D2 = FG at *
     generalize Yx h' (fun i => cntn D2 (2 + i)) (h'.size + 1) [] [] = S at *
     obtain ⟨R1, DA, eA⟩ := FG
     dsimp only at f1 f2 hE
     refine tc_cut_k R [(0, _), (2, _), (4, _), (6, _)] (fun (ζ : (Hp) × (Nat) × (Option Addr) × (Nat) × (List BSl) × (Option Addr) × (Nat)) => [(8, .pointer (some ⟨ζ.2.1, 0, none⟩))]) (fun (ζ : (Hp) × (Nat) × (Option Addr) × (Nat) × (List BSl) × (Option Addr) × (Nat)) => ζ.1) (fun (ζ : (Hp) × (Nat) × (Option Addr) × (Nat) × (List BSl) × (Option Addr) × (Nat)) => [[(ζ.2.1, .cells ⟨saidV h' na nn nc (.slice ζ.2.2.1 ζ.2.2.2.2.1.length ζ.2.2.2.1) (.slice ζ.2.2.2.2.2.1 S.2.length ζ.2.2.2.2.2.2)⟩ 36 (0, 0))], [(mb, .cells ⟨mdV db h w br no⟩ 38 (0, 0))]] ++ (Zi db k D2 ++ [[(b6, .cells ⟨rhV h' na nn nc⟩ 32 (0, 0))]])) (fun (ζ : (Hp) × (Nat) × (Option Addr) × (Nat) × (List BSl) × (Option Addr) × (Nat)) => ρ'.le ζ.1 ∧ SIn ζ.1 slv ζ.2.2.1 ζ.2.2.2.2.1.length ζ.2.2.2.2.1 ∧ (∀ e ∈ ζ.2.2.2.2.1, BIn ζ.1 e) ∧ ζ.2.2.2.2.1.length ≤ ζ.2.2.2.1 ∧ ζ.2.2.2.2.1.map BSl.l = S.1 ∧ ZB (ζ.2.2.2.2.1.map BSl.l) ≤ h'.size ∧ (∀ e ∈ ζ.2.2.2.2.1, e.n ≤ 8000) ∧ SIn ζ.1 nv ζ.2.2.2.2.2.1 S.2.length S.2 ∧ S.2.length ≤ 400000) Zx ?_ ?_
     ·refine ZA (Zo _ _ ([[(b6, .cells ⟨rhV h' na nn nc⟩ 32 (0, 0))]])) (Zn (hT := tk) (Hp.le_refl _)) ?_
      all_goals (refine ZX 0 ?_; refine ZL 1 ?_; refine ZU 2 ?_; refine ZX 3 ?_)
      all_goals (refine YV (i := 4) (j := 6) ?_ ?_ <;> ((try refine Zl ?_); (first | (refine Zb (.func 53) ?_; refine qC rfl rfl (hpl) ?_; rintro v ρ' L' hle ⟨hl9, ⟨a9, c9, rfl, hF9⟩, rfl⟩ <;> (try simp only [kM, kN, kO])) | (refine Zk ?_; try intro _)) <;> ((try simp only [kM, kN, kO]); refine Za ?_; refine Zm ?_)))
      all_goals (first | (refine YV (i := 5) (j := 6) ?_ ?_ <;> ((try refine Zl ?_); (first | (refine Zb (.func 52) ?_; refine qC rfl rfl ((hsy _ a9 c9 hF9)) ?_; rintro v ρ' L' hle ⟨hl10, ⟨ea, ec, els, sa, sc, rfl, hse, hbe, hece, hel, heu, he8, hsa, hsl⟩, rfl⟩ <;> (try simp only [kM, kN, kO])) | (refine Zk ?_; try intro _)) <;> ((try simp only [kM, kN, kO]); refine Za ?_; refine Zm ?_))) | (refine Zp (i := 4) ?_; ((try refine Zl ?_); (first | (refine Zb (.func 53) ?_; refine qC rfl rfl (hpl) ?_; rintro v ρ' L' hle ⟨hl9, ⟨a9, c9, rfl, hF9⟩, rfl⟩ <;> (try simp only [kM, kN, kO])) | (refine Zk ?_; try intro _)) <;> ((try simp only [kM, kN, kO]); refine Za ?_; refine Zm ?_))))
      all_goals (first | (refine Zp (i := 6) ?_; ((try refine Zl ?_); (first | (refine Zk ?_; try intro _)) <;> ((try simp only [kM, kN, kO]); refine Za ?_; refine Zm ?_))) | (refine Zp (i := 5) ?_; ((try refine Zl ?_); (first | (refine Zb (.func 52) ?_; refine qC rfl rfl ((hsy _ a9 c9 hF9)) ?_; rintro v ρ' L' hle ⟨hl10, ⟨ea, ec, els, sa, sc, rfl, hse, hbe, hece, hel, heu, he8, hsa, hsl⟩, rfl⟩ <;> (try simp only [kM, kN, kO])) | (refine Zk ?_; try intro _)) <;> ((try simp only [kM, kN, kO]); refine Za ?_; refine Zm ?_))))
      all_goals (refine Zp (i := 7) ?_; ((try refine Zl ?_); (first | (refine Zk ?_; try intro _)) <;> ((try simp only [kM, kN, kO]); refine Za ?_; refine Zm ?_)))
      all_goals refine ZH ?_
      all_goals refine te_cut_g ((_, _, ea, ec, els, sa, sc)) (⟨Hp.le_trans hl9 hl10, hse, hbe, hece, hel, heu, he8, hsa, hsl⟩) Zx Zx rfl tk inferInstance
     rintro ⟨ρa, b8, ea, ec, els, sa, sc⟩ ⟨hla, hse, hbe, hece, hel, heu, he8, hsa, hsl⟩
     simp only [List.cons_append, List.nil_append] at hla hse hbe hece hel heu he8 hsa hsl ⊢
     repeat' (first | (refine ZV ?_; refine Zy (Zc rfl) rfl rfl ?_) | (refine Zf ?_; first | (refine Ze ?_; refine qQ ?_) | refine Zk ?_) | refine Za ?_ | (refine Zg ?_; refine Zu ?_) | (refine Zh ?_; refine Zv ?_) | intro _)
     refine ZP [(0, _), (4, _), (6, _), (8, _), (61, _), (62, _)] (fun (ζ : (Nat) × (DS)) => [(63, .int .i64 ζ.1), (2, .int .i64 0)]) (fun (ζ : (Nat) × (DS)) => ρa) (fun (ζ : (Nat) × (DS)) => [[(b8, .cells ⟨saidV h' na nn nc (.slice ea els.length ec) (.slice sa S.2.length sc)⟩ 36 (0, 0))], [(mb, .cells ⟨mdV db h w br no⟩ 38 (0, 0))]] ++ (Zi db k ζ.2 ++ [[(b6, .cells ⟨rhV h' na nn nc⟩ 32 (0, 0))]])) (fun (ζ : (Nat) × (DS)) => ζ.1 ≤ S.2.length ∧ DOk k ζ.2 ∧ Ya (S.2.drop ζ.1) ζ.2 = (DA, eA)) (fun (ζ : (Nat) × (DS)) => S.2.length - ζ.1) ((0, D2)) (⟨Nat.zero_le _, hk4, f1.symm⟩) Zx Zx rfl tk ?_
     rintro ⟨i, D'⟩ hI
     try simp only [List.cons_append, List.nil_append, List.append_assoc, List.append_eq] at hI ⊢
     try dsimp only at hI ⊢
     obtain ⟨hi, hk5, hra⟩ := hI
     have hl95 := Hp.le_trans hl5 hla
     by_cases hlt : i < S.2.length
     ·obtain ⟨bq, off, C, T, fr, rfl, hb, hc⟩ := hsa.get hlt
      rw [readAll_drop hlt] at hra
      have hplt := hask _ (List.getElem_mem hlt)
      generalize S.2[i] = p at *
      have hpv : C[off + i * 1]? = some (.int .i64 (p : Int)) := hc
      have hkr := fun ρ => kread ρ db k D' ((2 + p : Nat) : Int) hk5
      have hrl := Xn hk5.ok ((2 + p : Nat) : Int)
      rw [show ((2 + p : Nat) : Int) = 2 + (p : Int) by omega] at hkr hrl hra
      by_cases er : (D'.read (2 + (p : Int))).2.2 = 0
      ·rw [if_pos er] at hra
       rw [er] at hkr
       generalize D'.read (2 + (p : Int)) = Z at *
       obtain ⟨D3, q, eq⟩ := Z
       dsimp only at hkr hrl hra
       have hql : (q.map ZE).length = 64 := by simpa using hrl
       have hqo := ZM q
       repeat' (first | (refine Zb (.func 9) ?_; refine qC rfl rfl ((hkr _)) ?_; rintro v ρ' L' hle ⟨rfl, rfl, hk6, rfl⟩ <;> (try simp only [kM, kN, kO])) | (refine ZV ?_; refine Zy (Zc rfl) rfl rfl ?_) | (refine Zf ?_; first | (refine Ze ?_; refine qQ ?_) | refine Zk ?_) | refine Za ?_ | (refine Zg ?_; refine Zu ?_) | (refine Zh ?_; refine Zv ?_) | intro _)
       refine ZI (i + 1, D3) (⟨hlt, hk6, hra⟩) Zx Zx rfl tk inferInstance (by first | omega | (dsimp only; omega))
      ·rw [if_neg er] at hra
       generalize D'.read (2 + (p : Int)) = Z at *
       obtain ⟨D3, q, eq⟩ := Z
       dsimp only at hkr hrl hra er
       cases hra
       have hql : (q.map ZE).length = 64 := by simpa using hrl
       have hqo := ZM q
       rw [if_pos er] at hE
       repeat' (first | (refine Zb (.func 9) ?_; refine qC rfl rfl ((hkr _)) ?_; rintro v ρ' L' hle ⟨rfl, rfl, hk6, rfl⟩ <;> (try simp only [kM, kN, kO])) | (refine ZV ?_; refine Zy (Zc rfl) rfl rfl ?_) | (refine Zf ?_; first | (refine Ze ?_; refine qQ ?_) | refine Zk ?_) | refine Za ?_ | (refine Zg ?_; refine Zu ?_) | (refine Zh ?_; refine Zv ?_) | intro _)
       subst hE
       exact qE (L' := [[(mb, .cells ⟨mdV db h w br no⟩ 38 (0, 0))]] ++ Zi db k DA) ⟨hl95, k, hk6, rfl, rfl⟩
     ·rw [List.drop_of_length_le (by omega), Ya] at hra
      cases hra
      rw [if_neg (by decide)] at hE
      have hR1 := f2 (by rw [← f1])
      obtain ⟨tI, htI⟩ : ∃ z : Int, z = (h'.turn : Int) := ⟨_, rfl⟩
      unfold saidV rhV
      rw [← htI]
      by_cases htu : h'.turn = 1073741824
      ·rw [if_pos htu] at hE
       have q1 : tI = 1073741824 := by omega
       repeat' (first | (refine ZV ?_; refine Zy (Zc rfl) rfl rfl ?_) | (refine Zf ?_; first | (refine Ze ?_; refine qQ ?_) | refine Zk ?_) | refine Za ?_ | (refine Zg ?_; refine Zu ?_) | (refine Zh ?_; refine Zv ?_) | intro _)
       subst hE
       exact qE (L' := [[(mb, .cells ⟨mdV db h w br no⟩ 38 (0, 0))]] ++ Zi db k DA) ⟨hl95, k, hk5, rfl, rfl⟩
      ·rw [if_neg htu] at hE
       have q1 : tI < 1073741824 := by omega
       have q2 : 0 ≤ tI := by omega
       have hc1 : ((h'.turn + 1 : Nat) : Int) = tI + 1 := by omega
       have hhd := fun ρ hn => head_spec ρ mb db h w br no ⟨h'.turn + 1, h'.first, h'.size, h'.place, h'.note⟩ na nn nc hn (by dsimp only; omega) (by dsimp only; omega) (by dsimp only; omega) (by dsimp only; omega) hn5 k DA hk5
       unfold rhV at hhd
       dsimp only at hhd
       rw [hc1] at hhd
       generalize hLY : DS.lays (ZQ ⟨h'.turn + 1, h'.first, h'.size, h'.place, h'.note⟩) DA = LY at *
       obtain ⟨D4, e4⟩ := LY
       dsimp only at hhd hE
       by_cases he4 : e4 = 0
       ·rw [if_pos he4] at hE
        subst he4
        repeat' (first | (refine Zb (.func 47) ?_; refine qC rfl rfl ((hhd _ (hs5.mono hla))) ?_; rintro v ρ' L' hle ⟨rfl, hl11, k6, hk6, rfl⟩ <;> (try simp only [kM, kN, kO])) | (refine ZV ?_; refine Zy (Zc rfl) rfl rfl ?_) | (refine Zf ?_; first | (refine Ze ?_; refine qQ ?_) | refine Zk ?_) | refine Za ?_ | (refine Zg ?_; refine Zu ?_) | (refine Zh ?_; refine Zv ?_) | intro _)
        subst hE
        rw [hR1]
        have hfin := Hp.le_trans hl95 hl11
        rw [← hc1]
        exact qE (v := .int .i64 0) (L' := [[(mb, .cells ⟨mdV db ⟨h'.turn + 1, h'.first, h'.size, h'.place, h'.note⟩ ⟨na, nn, nc, ea, ec, els, sa, S.2.length, sc⟩ false false⟩ 38 (0, 0))]] ++ Zi db k6 D4) ⟨hfin, k6, hk6, rfl, ⟨na, nn, nc, ea, ec, els, sa, S.2.length, sc⟩, ⟨hs5.mono (Hp.le_trans hla hl11), hc5, hn5, hse.mono hl11, hece, fun e he => (hbe e he).mono hl11, he8⟩, hel, rfl⟩
       ·rw [if_neg he4] at hE
        repeat' (first | (refine Zb (.func 47) ?_; refine qC rfl rfl ((hhd _ (hs5.mono hla))) ?_; rintro v ρ' L' hle ⟨rfl, hl11, k6, hk6, rfl⟩ <;> (try simp only [kM, kN, kO])) | (refine ZV ?_; refine Zy (Zc rfl) rfl rfl ?_) | (refine Zf ?_; first | (refine Ze ?_; refine qQ ?_) | refine Zk ?_) | refine Za ?_ | (refine Zg ?_; refine Zu ?_) | (refine Zh ?_; refine Zv ?_) | intro _)
        subst hE
        have hfin := Hp.le_trans hl95 hl11
        exact qE (L' := [[(mb, .cells ⟨mdV db h w br no⟩ 38 (0, 0))]] ++ Zi db k6 D4) ⟨hfin, k6, hk6, rfl, rfl⟩
  ·rw [if_pos (by simpa using e1)] at hE
   subst hE
   have hk1 := fun ρ hk => kread ρ db k D1 1 hk
   have hl1 := fun (hk : DOk k D1) => Xn hk.ok 1
   generalize D1.read 1 = B at *
   obtain ⟨D2, b, eb⟩ := B
   dsimp only at e1 hk1 hl1
   repeat' (first | (refine Zb (.func 9) ?_; refine qC rfl rfl ((hk0 _)) ?_; rintro v ρ' L' hle ⟨rfl, rfl, hk3, rfl⟩ <;> (try simp only [kM, kN, kO])) | (refine ZV ?_; refine Zy (Zc rfl) rfl rfl ?_) | (refine Zf ?_; first | (refine Ze ?_; refine qQ ?_) | refine Zk ?_) | refine Za ?_ | (refine Zg ?_; refine Zu ?_) | (refine Zh ?_; refine Zv ?_) | intro _)
   have hbl : (b.map ZE).length = 64 := by simpa using hl1 hk3
   have hbo := ZM b
   repeat' (first | (refine Zb (.func 9) ?_; refine qC rfl rfl ((hk1 _ hk3)) ?_; rintro v ρ' L' hle ⟨rfl, rfl, hk4, rfl⟩ <;> (try simp only [kM, kN, kO])) | (refine ZV ?_; refine Zy (Zc rfl) rfl rfl ?_) | (refine Zf ?_; first | (refine Ze ?_; refine qQ ?_) | refine Zk ?_) | refine Za ?_ | (refine Zg ?_; refine Zu ?_) | (refine Zh ?_; refine Zv ?_) | intro _)
   exact qE (L' := [[(mb, .cells ⟨mdV db h w br no⟩ 38 (0, 0))]] ++ Zi db k D2) ⟨Hp.le_refl _, k, hk4, rfl, rfl⟩
 ·rw [if_pos (by simpa using e0)] at hE
  subst hE
  generalize D.read 0 = A at *
  obtain ⟨D1, a, ea⟩ := A
  dsimp only at e0 hk0 hl0
  have hal : (a.map ZE).length = 64 := by simpa using hl0
  have hao := ZM a
  repeat' (first | (refine Zb (.func 9) ?_; refine qC rfl rfl ((hk0 _)) ?_; rintro v ρ' L' hle ⟨rfl, rfl, hk3, rfl⟩ <;> (try simp only [kM, kN, kO])) | (refine ZV ?_; refine Zy (Zc rfl) rfl rfl ?_) | (refine Zf ?_; first | (refine Ze ?_; refine qQ ?_) | refine Zk ?_) | refine Za ?_ | (refine Zg ?_; refine Zu ?_) | (refine Zh ?_; refine Zv ?_) | intro _)
  exact qE (L' := [[(mb, .cells ⟨mdV db h w br no⟩ 38 (0, 0))]] ++ Zi db k D1) ⟨Hp.le_refl _, k, hk3, rfl, rfl⟩
theorem zip_parts (h : Hd) (n : Nat) (b : Bs) (at' : Nat) : ((List.range (Zt b.length)).map fun j => 2 + (at' + j) % h.size).zip ((List.range (Zt b.length)).map fun j => ZJ h.turn n b j) = ZZ h n b at' := by
 unfold ZZ
 apply List.ext_getElem
 ·simp
 ·intro j h1 h2
  simp
theorem append04_main (ρ : Hp) (mb db : Nat) (R : RgS) (hok : R.Ok) (w : MW) (hm : MIn ρ R.h w) (hel : w.els.map BSl.l = R.ents) (e : BSl) (he : BIn ρ e) (he8 : e.n ≤ 1000000) (k : DK) (D : DS) (hD : DOk k D)
  (hbr : R.broken = false) (h3 : e.l.length ≤ 8000) (h4 : Zt e.l.length ≤ R.h.size - R.used) (h5 : R.next < 1099511627776) :
  Spec Try.prog 22 [.pointer (some ⟨mb, 0, none⟩), slv e] ρ ([[(mb, .cells ⟨mdV db R.h w R.broken false⟩ 38 (0, 0))]] ++ Zi db k D)
   (fun v ρ' L' => v = .int .i64 (R.append e.l D).2.2 ∧ ρ.le ρ' ∧ ∃ k' w', DOk k' (R.append e.l D).2.1 ∧ MIn ρ' (R.append e.l D).1.h w' ∧ w'.els.map BSl.l = (R.append e.l D).1.ents ∧ L' = [[(mb, .cells ⟨mdV db (R.append e.l D).1.h w' (R.append e.l D).1.broken false⟩ 38 (0, 0))]] ++ Zi db k' (R.append e.l D).2.1) := by
 have hlen := he.s.len
 have hu : ZB (w.els.map BSl.l) = R.used := by rw [hel, hok.used]
 have hft := hok.fit
 have hsz := hok.size
 have hpl := hok.place
 have htu := hok.turn
 have hnx : R.next = R.h.first + w.els.length := by unfold RgS.next; rw [← hel, List.length_map]
 have hf0 := hok.first
 have hul := Xi (w.els.map BSl.l)
 rw [List.length_map, hu] at hul
 have hsp := YI e.n
 rw [hlen] at h3 h4
 have hs154 := sects_le h3
 have hsc := fun ρ => XG ρ e.n (by omega)
 obtain ⟨fI, hfI⟩ : ∃ z : Int, z = (R.h.first : Int) := ⟨_, rfl⟩
 have hfn : ((R.next : Nat) : Int) = fI + (w.els.length : Int) := by omega
 have hZ := zip_parts R.h R.next e.l (R.h.place + R.used)
 have hap : R.append e.l D = if (DS.lays (ZZ R.h R.next e.l (R.h.place + R.used)) D).2 = 0 then (⟨R.h, R.ents ++ [e.l], R.used + Zt e.n, false⟩, DS.lays (ZZ R.h R.next e.l (R.h.place + R.used)) D) else (⟨R.h, R.ents, R.used, true⟩, DS.lays (ZZ R.h R.next e.l (R.h.place + R.used)) D) := by
  unfold RgS.append
  rw [hbr, if_neg (by decide), hlen, if_neg (by omega), if_neg (by omega)]
 rw [hbr]
 generalize R.append e.l D = AP at *
 have hpt := fun ρ (h : BIn ρ e) j hj => part04_spec ρ [] R.h.turn R.next e.a e.n e.c e.l h.s.rd h.le j (by omega) (by omega) (by omega) hj
 rw [hfn] at hpt
 have hus := used04_spec ρ w.ea w.els.length w.ec w.els hm.ents hm.bin (by omega) hm.lon
 rw [hu] at hus
 rw [hlen] at hZ
 have hat1 : ∀ i, ((List.range i).map fun j => 2 + (R.h.place + R.used + j) % R.h.size).map nv ++ [nv (2 + (R.h.place + R.used + i) % R.h.size)] = ((List.range (i + 1)).map fun j => 2 + (R.h.place + R.used + j) % R.h.size).map nv := fun i => by rw [List.range_succ]; simp
 have hbl1 : ∀ i, (((List.range i).map fun j => ZJ R.h.turn R.next e.l j).map (fun b : Blk => b.map ZE)).flatten ++ (ZJ R.h.turn R.next e.l i).map ZE = (((List.range (i + 1)).map fun j => ZJ R.h.turn R.next e.l j).map (fun b : Blk => b.map ZE)).flatten := fun i => by rw [List.range_succ]; simp
 have hblL : ∀ i, ∀ x ∈ (List.range i).map (fun j => ZJ R.h.turn R.next e.l j), x.length = 64 := fun i x hx => by
  simp only [List.mem_map] at hx
  obtain ⟨j, _, rfl⟩ := hx
  exact YF _ _ _ _
 generalize hLY : DS.lays (ZZ R.h R.next e.l (R.h.place + R.used)) D = LY at *
 unfold mdV mdT
 rw [← hfI]
 have q2 : 0 ≤ fI := by omega
 have q3 : fI + (w.els.length : Int) < 1099511627776 := by omega
 have hlv : slv e = .slice e.a e.n e.c := rfl
 rw [hlv]
 refine Zd Try.func22 rfl rfl rfl fun u RR => ?_
 simp only [Zw, List.cons_append, List.nil_append]
 repeat' (first | (refine ZV ?_; refine Zy (Zc rfl) rfl rfl ?_) | (refine Zf ?_; first | (refine Ze ?_; refine qQ ?_) | refine Zk ?_) | refine Za ?_ | (refine Zg ?_; refine Zu ?_) | (refine Zh ?_; refine Zv ?_) | intro _)
 refine ZA (Zo _ _ ([[(mb, .cells ⟨[.pointer (some ⟨db, 0, none⟩), .int .u64 (R.h.turn : Nat), .int .i64 (R.h.size : Nat), .int .u64 fI, .int .i64 (R.h.place : Nat), .slice w.na w.nn w.nc, .slice w.ea w.els.length w.ec, .slice w.sa w.sn w.sc, .bool false, .bool false]⟩ 38 (0, 0))]])) (Zn (hT := tk) (Hp.le_refl _)) ?_
 all_goals (refine ZL 0 ?_; refine ZN ?_; refine rNc 1 ?_; refine ZU 2 ?_; refine ZU 3 ?_; refine ZU 4 ?_; refine ZX 5 ?_; refine ZL 6 ?_; refine rNc 7 ?_; refine ZU 8 ?_; refine ZU 9 ?_; refine ZX 10 ?_; refine rBi 11 ?_; refine rCv 12 ?_; refine rAd 13 ?_; refine rAs 14 ?_; refine ZH ?_)
 all_goals (repeat' (first | (refine Zb (.func 26) ?_; refine qC rfl rfl (hus) ?_; rintro v ρ' L' hle ⟨rfl, rfl, rfl⟩ <;> (try simp only [kM, kN, kO])) | (refine ZV ?_; refine Zy (Zc rfl) rfl rfl ?_) | (refine Zf ?_; first | (refine Ze ?_; refine qQ ?_) | refine Zk ?_) | refine Za ?_ | (refine Zg ?_; refine Zu ?_) | (refine Zh ?_; refine Zv ?_) | intro _))
 refine ZA (Zo _ _ ([[(mb, .cells ⟨[.pointer (some ⟨db, 0, none⟩), .int .u64 (R.h.turn : Nat), .int .i64 (R.h.size : Nat), .int .u64 fI, .int .i64 (R.h.place : Nat), .slice w.na w.nn w.nc, .slice w.ea w.els.length w.ec, .slice w.sa w.sn w.sc, .bool false, .bool false]⟩ 38 (0, 0))]])) (Zn (hT := tk) (Hp.le_refl _)) ?_
 all_goals (refine ZL 0 ?_; refine rBi 1 ?_; refine ZL 3 ?_; refine rNc 4 ?_; refine ZU 5 ?_; refine ZU 6 ?_; refine ZU 7 ?_; refine ZX 8 ?_; refine ZL 9 ?_; refine rSb 10 ?_)
 all_goals (refine Zp (i := 2) ?_; ((try refine Zl ?_); (first | (refine Zb (.func 55) ?_; refine qC rfl rfl ((hsc _)) ?_; rintro v ρ' L' hle ⟨rfl, rfl, rfl⟩ <;> (try simp only [kM, kN, kO])) | (refine Zk ?_; try intro _)) <;> ((try simp only [kM, kN, kO]); refine Za ?_; refine Zm ?_)))
 all_goals (refine ZN ?_; refine rCm 11 ?_; refine ZL 12 ?_; (first | refine Zr 13 ?_ | refine Zj 13 ?_ | refine wMv 13 ?_); (first | refine Zr 14 ?_ | refine Zj 14 ?_ | refine wCm 14 ?_); refine rPk 15 ?_; refine rAs 16 ?_; refine ZH ?_)
 all_goals (repeat' (first | (refine Zb (.func 55) ?_; refine qC rfl rfl ((hsc _)) ?_; rintro v ρ' L' hle ⟨rfl, rfl, rfl⟩ <;> (try simp only [kM, kN, kO])) | (refine ZV ?_; refine Zy (Zc rfl) rfl rfl ?_) | (refine Zf ?_; first | (refine Ze ?_; refine qQ ?_) | refine Zk ?_) | refine Za ?_ | (refine Zg ?_; refine Zu ?_) | (refine Zh ?_; refine Zv ?_) | intro _))
 refine ZP [(0, _), (1, _), (4, _), (5, _), (6, _), (64, _)] (fun (ζ : (Nat) × (Value) × (List Value) × (Value) × (List Value) × (Hp)) => [(65, .int .i64 ζ.1), (7, ζ.2.1), (8, ζ.2.2.2.1)]) (fun (ζ : (Nat) × (Value) × (List Value) × (Value) × (List Value) × (Hp)) => ζ.2.2.2.2.2) (fun (ζ : (Nat) × (Value) × (List Value) × (Value) × (List Value) × (Hp)) => [ZO ζ.2.1 (((List.range ζ.1).map fun j => 2 + (R.h.place + R.used + j) % R.h.size).map nv) ζ.2.2.1 3, ZO ζ.2.2.2.1 (((List.range ζ.1).map fun j => ZJ R.h.turn R.next e.l j).map (fun b : Blk => b.map ZE)).flatten ζ.2.2.2.2.1 48, [(mb, .cells ⟨[.pointer (some ⟨db, 0, none⟩), .int .u64 (R.h.turn : Nat), .int .i64 (R.h.size : Nat), .int .u64 fI, .int .i64 (R.h.place : Nat), .slice w.na w.nn w.nc, .slice w.ea w.els.length w.ec, .slice w.sa w.sn w.sc, .bool false, .bool false]⟩ 38 (0, 0))]] ++ Zi db k D) (fun (ζ : (Nat) × (Value) × (List Value) × (Value) × (List Value) × (Hp)) => ζ.1 ≤ Zt e.n ∧ OwnS ζ.2.1 ζ.1 (((List.range ζ.1).map fun j => 2 + (R.h.place + R.used + j) % R.h.size).map nv) ζ.2.2.1 1 ∧ OwnS ζ.2.2.2.1 ζ.1 (((List.range ζ.1).map fun j => ZJ R.h.turn R.next e.l j).map (fun b : Blk => b.map ZE)).flatten ζ.2.2.2.2.1 64 ∧ ρ'.le ζ.2.2.2.2.2) (fun (ζ : (Nat) × (Value) × (List Value) × (Value) × (List Value) × (Hp)) => Zt e.n - ζ.1) ((0, .slice none 0 0, [], .slice none 0 0, [], ρ')) (⟨Nat.zero_le _, OwnS.nil 1, OwnS.nil 64, Hp.le_refl _⟩) Zx Zx rfl tk ?_
 rintro ⟨i, va, spa, vl, spl, ρ2⟩ hI
 try simp only [List.cons_append, List.nil_append, List.append_assoc, List.append_eq] at hI ⊢
 try dsimp only at hI ⊢
 obtain ⟨hi, howna, hownl, hl2⟩ := hI
 obtain ⟨aa, ac, rfl, hac⟩ := howna.slice
 obtain ⟨la, lc, rfl, hlc⟩ := hownl.slice
 by_cases hlt : i < Zt e.n
 ·have hmod : ((R.h.place : Nat) : Int) + (R.used : Nat) + (i : Nat) = ((R.h.place + R.used + i : Nat) : Int) := by omega
  have hmod2 : (((R.h.place : Nat) : Int) + (R.used : Nat) + (i : Nat)).tmod (R.h.size : Nat) = (((R.h.place + R.used + i) % R.h.size : Nat) : Int) := by
   rw [hmod, Int.tmod_eq_emod_of_nonneg (by omega), Int.natCast_emod]
  have hml := Nat.mod_lt (R.h.place + R.used + i) (show 0 < R.h.size by omega)
  have hm0 : 0 ≤ (((R.h.place : Nat) : Int) + (R.used : Nat) + (i : Nat)).tmod (R.h.size : Nat) := by rw [hmod2]; omega
  have hm1 : (((R.h.place : Nat) : Int) + (R.used : Nat) + (i : Nat)).tmod (R.h.size : Nat) < R.h.size := by rw [hmod2]; omega
  have h2m : (2 : Int) + (((R.h.place + R.used + i) % R.h.size : Nat) : Int) = ((2 + (R.h.place + R.used + i) % R.h.size : Nat) : Int) := by omega
  have hA := hat1 i
  have hB := hbl1 i
  have hq := hpt ρ2 (he.mono hl2) i hlt
  have hq64 := YF R.h.turn R.next e.l i
  generalize (R.h.place + R.used + i) % R.h.size = M at *
  generalize ZJ R.h.turn R.next e.l i = q at *
  have hql : (q.map ZE).length = 64 := by simpa using hq64
  have hqo := ZM q
  repeat' (first | (refine ZV ?_; refine Zy (Zc rfl) rfl rfl ?_) | (refine Zf ?_; first | (refine Ze ?_; refine qQ ?_) | refine Zk ?_) | refine Za ?_ | (refine Zg ?_; refine Zu ?_) | (refine Zh ?_; refine Zv ?_) | intro _)
  refine ZA (Zo _ _ ([[(mb, .cells ⟨[.pointer (some ⟨db, 0, none⟩), .int .u64 (R.h.turn : Nat), .int .i64 (R.h.size : Nat), .int .u64 fI, .int .i64 (R.h.place : Nat), .slice w.na w.nn w.nc, .slice w.ea w.els.length w.ec, .slice w.sa w.sn w.sc, .bool false, .bool false]⟩ 38 (0, 0))]])) (Zn (hT := tk) (Hp.le_refl _)) ?_
  all_goals (refine ZL 0 ?_; refine ZL 1 ?_; refine rNc 2 ?_; refine ZU 3 ?_; refine ZU 4 ?_; refine ZU 5 ?_; refine ZX 6 ?_; refine ZL 7 ?_; refine rAd 8 ?_; refine ZL 9 ?_; refine rAd 10 ?_; refine ZL 11 ?_; refine rNc 12 ?_; refine ZU 13 ?_; refine ZU 14 ?_; refine ZU 15 ?_; refine ZX 16 ?_; refine rRm 17 ?_; refine rAd 18 ?_)
  all_goals (refine Zp (i := 19) ?_; ((try refine Zl ?_); (first | (simp only [hmod2, h2m]; refine Zq rfl rfl rfl rfl (by simp) rfl rfl (fun _ => ?_)) | (refine Zk ?_; try intro _)) <;> ((try simp only [kM, kN, kO]); refine Za ?_; refine Zm ?_)))
  all_goals (refine Zp (i := 20) ?_; ((try refine Zl ?_); (first | (refine Xv (ys := [nv (2 + M)]) (m := 1) rfl rfl howna (hR := by infer_instance) SrcV.lit rfl rfl (by decide) rfl (by omega) (by omega) rfl (fun v9 sp9 hown9 => ?_); rw [hA] at hown9 ⊢) | (refine Zk ?_; try intro _)) <;> ((try simp only [kM, kN, kO]); refine Za ?_; refine Zm ?_)))
  all_goals (refine ZN ?_; refine rAs 21 ?_; refine ZH ?_)
  all_goals (repeat' (first | (refine Zb (.func 56) ?_; refine qC rfl rfl (hq) ?_; rintro v ρ' L' hle ⟨rfl, hl7, rfl⟩ <;> (try simp only [kM, kN, kO])) | (refine Xa (sz := 64) (vs := [bv q]) (css := [q.map ZE]) rfl rfl rfl rfl (by simpa using hq64) (by simp) rfl (fun c8 => ?_)) | (refine Xv (ys := q.map ZE) (m := 1) (sz := 64) rfl rfl hownl (hR := by infer_instance) (SrcV.find (n := 64) (l := [q.map ZE].flatten) (off := 0) (by simp only [List.flatten_cons, List.flatten_nil, List.append_nil, List.drop_zero]; exact List.take_of_length_le (by omega))) (by simpa using hql) hqo (by decide) rfl (by omega) (by omega) rfl (fun v8 sp8 hown8 => ?_); rw [hB] at hown8 ⊢) | (refine ZV ?_; refine Zy (Zc rfl) rfl rfl ?_) | (refine Zf ?_; first | (refine Ze ?_; refine qQ ?_) | refine Zk ?_) | refine Za ?_ | (refine Zg ?_; refine Zu ?_) | (refine Zh ?_; refine Zv ?_) | intro _))
  all_goals refine ZI (i + 1, v9, sp9, v8, sp8, _) (⟨hlt, hown9, hown8, Hp.le_trans hl2 hl7⟩) Zx Zx rfl tk inferInstance (by first | omega | (dsimp only; omega))
 ·have hin : i = Zt e.n := by omega
  subst hin
  refine YZ (ZO (.slice aa (Zt e.n) ac) (((List.range (Zt e.n)).map fun j => 2 + (R.h.place + R.used + j) % R.h.size).map nv) spa 3) (h := by infer_instance) (fun ρ5 hl5 hfz5 => ?_)
  obtain ⟨a5, c5, e5, hc5, hs5⟩ := howna.sIn hfz5
  cases e5
  refine YZ (ZO (.slice la (Zt e.n) lc) (((List.range (Zt e.n)).map fun j => ZJ R.h.turn R.next e.l j).map (fun b : Blk => b.map ZE)).flatten spl 48) (h := by infer_instance) (fun ρ6 hl6 hfz6 => ?_)
  obtain ⟨a6, c6, e6, hc6, hs6⟩ := hownl.aIn (by simp) (fun x hx => by simpa using hblL _ x hx) hfz6
  cases e6
  have hwr := writes_spec ρ6 mb db R.h w false false aa (Zt e.n) ac _ (hs5.mono hl6) la lc _ hs6 (hblL _) (by omega) k D hD
  rw [hZ, hLY] at hwr
  unfold mdV mdT at hwr
  rw [← hfI] at hwr
  obtain ⟨D4, e4⟩ := LY
  dsimp only at hwr hap
  have hl26 := Hp.le_trans hl2 (Hp.le_trans hl5 hl6)
  by_cases he4 : e4 = 0
  ·rw [if_pos he4] at hap
   subst he4
   repeat' (first | (refine Zb (.func 54) ?_; refine qC rfl rfl (hwr) ?_; rintro v ρ' L' hle ⟨rfl, hl7, k7, hk7, rfl⟩ <;> (try simp only [kM, kN, kO])) | (refine ZV ?_; refine Zy (Zc rfl) rfl rfl ?_) | (refine Zf ?_; first | (refine Ze ?_; refine qQ ?_) | refine Zk ?_) | refine Za ?_ | (refine Zg ?_; refine Zu ?_) | (refine Zh ?_; refine Zv ?_) | intro _)
   have hm7 := hm.mono (Hp.le_trans hl26 hl7)
   have hms : w.els.map slv ++ [slv e] = (w.els ++ [e]).map slv := by simp
   have hm1 : w.els.length + 1 = (w.els ++ [e]).length := by simp
   have hec := hm7.ele
   refine tc_phase 22 (Zo _ _ ([[(mb, .cells ⟨[.pointer (some ⟨db, 0, none⟩), .int .u64 (R.h.turn : Nat), .int .i64 (R.h.size : Nat), .int .u64 fI, .int .i64 (R.h.place : Nat), .slice w.na w.nn w.nc, .slice w.ea w.els.length w.ec, .slice w.sa w.sn w.sc, .bool false, .bool false]⟩ 38 (0, 0))]])) (by decide +kernel) (Zn (hT := tk) (Hp.le_refl _)) ?_
   simp only [List.take_succ_cons, List.take_zero]
   all_goals (refine ZL 0 ?_; refine ZL 1 ?_; refine rNc 2 ?_; refine ZU 3 ?_; refine ZU 4 ?_; refine ZX 5 ?_; refine ZL 6 ?_; refine rNc 7 ?_; refine ZU 8 ?_; refine ZU 9 ?_; refine ZX 10 ?_; refine rBi 11 ?_; refine ZL 12 ?_; refine rNc 13 ?_; refine ZU 14 ?_; refine ZU 15 ?_; refine ZX 16 ?_; refine rBi 17 ?_; refine rSl 18 ?_; refine ZL 19 ?_)
   all_goals (refine Zp (i := 20) ?_; ((try refine Zl ?_); (first | (refine Zq rfl rfl rfl rfl (by simp) rfl rfl (fun _ => ?_)) | (refine Zk ?_; try intro _)) <;> ((try simp only [kM, kN, kO]); refine Za ?_; refine Zm ?_)))
   all_goals (refine Zp (i := 21) ?_; ((try refine Zl ?_); (first | (refine tl_app_fr (n := w.els.length) (m := 1) (sz := 1) (xs := w.els.map slv) (ys := [slv e]) rfl rfl hm7.ents.srcV (by simp) SrcV.lit rfl (by simp) (by decide) rfl (by omega) (by omega) rfl (fun v9 sp9 hown9 => ?_); rw [hms] at hown9 ⊢; obtain ⟨na9, nc9, rfl, _⟩ := hown9.slice) | (refine Zk ?_; try intro _)) <;> ((try simp only [kM, kN, kO]); refine Za ?_; refine Zm ?_)))
   all_goals refine ZH ?_
   all_goals refine te_phase (fuel := 4) (m := [true, true, true, true, true, true, true, true, true, true, true, true, true, true, true, true, true, true, true, true, true, true, false, false, false, false]) (Zo _ _ ([])) rfl rfl (Zn (hT := tk) (Hp.le_refl _)) ?_
   all_goals (refine rNc 22 ?_; refine ZU 23 ?_; refine ZU 24 ?_)
   all_goals (refine Zp (i := 25) ?_; ((try refine Zl ?_); (first | (refine Zk ?_; try intro _)) <;> ((try simp only [kM, kN, kO]); refine Za ?_; refine Zm ?_)))
   all_goals refine ZH ?_
   all_goals (repeat' (first | (refine ZV ?_; refine Zy (Zc rfl) rfl rfl ?_) | (refine Zf ?_; first | (refine Ze ?_; refine qQ ?_) | refine Zk ?_) | refine Za ?_ | (refine Zg ?_; refine Zu ?_) | (refine Zh ?_; refine Zv ?_) | intro _))
   rw [hm1] at hown9 ⊢
   refine te_freeze (ZO (.slice na9 (w.els ++ [e]).length nc9) ((w.els ++ [e]).map slv) sp9 30) (h := by infer_instance) (fun ρ8 hl8 hfz8 => ?_)
   obtain ⟨a9, c9, e9, hc9, hs9⟩ := hown9.sIn hfz8
   cases e9
   subst hap
   subst hfI
   have hl28 := Hp.le_trans hl26 (Hp.le_trans hl7 hl8)
   exact qE (v := .int .i64 0) (L' := [[(mb, .cells ⟨mdV db R.h ⟨w.na, w.nn, w.nc, na9, nc9, w.els ++ [e], w.sa, w.sn, w.sc⟩ false false⟩ 38 (0, 0))]] ++ Zi db k7 D4) ⟨rfl, hl28, k7, ⟨w.na, w.nn, w.nc, na9, nc9, w.els ++ [e], w.sa, w.sn, w.sc⟩, hk7, ⟨hm.note.mono hl28, hm.nle, hm.n32, hs9, hc9, fun x hx => by rcases List.mem_append.1 hx with h1 | h1; exact (hm.bin x h1).mono hl28; rw [List.mem_singleton.1 h1]; exact he.mono hl28, fun x hx => by rcases List.mem_append.1 hx with h1 | h1; exact hm.lon x h1; rw [List.mem_singleton.1 h1]; omega⟩, by simp [hel], rfl⟩
  ·rw [if_neg he4] at hap
   repeat' (first | (refine Zb (.func 54) ?_; refine qC rfl rfl (hwr) ?_; rintro v ρ' L' hle ⟨rfl, hl7, k7, hk7, rfl⟩ <;> (try simp only [kM, kN, kO])) | (refine ZV ?_; refine Zy (Zc rfl) rfl rfl ?_) | (refine Zf ?_; first | (refine Ze ?_; refine qQ ?_) | refine Zk ?_) | refine Za ?_ | (refine Zg ?_; refine Zu ?_) | (refine Zh ?_; refine Zv ?_) | intro _)
   subst hap
   subst hfI
   have hfin := Hp.le_trans hl26 hl7
   exact qE (L' := [[(mb, .cells ⟨mdV db R.h w true false⟩ 38 (0, 0))]] ++ Zi db k7 D4) ⟨rfl, hfin, k7, w, hk7, hm.mono hfin, hel, rfl⟩
def hstep (x : Nat) : Nat := if x % 2 = 1 then (x / 2) ^^^ 2197175160 else x / 2
def hit : Nat → Nat → Nat
 | 0, x => x
 | j + 1, x => hstep (hit j x)
def hal (l n : Nat) : Nat := (l / 16) ^^^ hit 4 ((l ^^^ n) &&& 15)
end Go.Proofs.E
