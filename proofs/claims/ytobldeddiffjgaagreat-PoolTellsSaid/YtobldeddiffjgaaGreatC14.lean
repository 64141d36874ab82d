/- The law PoolTells. Part 14 of 20. -/
import Derived.Test.YtobldeddiffjgaaGreatC13
namespace Go.Proofs.E
open Go
set_option linter.unusedVariables false
set_option linter.unusedSimpArgs false
set_option linter.unusedSectionVars false
set_option maxRecDepth 4000
set_option maxHeartbeats 1000000
attribute [local irreducible] Yl TL TC TE Spec XU R1 Hp.le EnvLe TS TR YS Zr
structure FIn (ρ : Hp) (fb db base : Nat) : Prop where
 at' : ρ fb = some (.cells ⟨[.pointer (some ⟨db, 0, none⟩), .int .i64 base]⟩ 226 (0, 0))
theorem FIn.mono {ρ ρ' : Hp} {fb db base : Nat} (h : FIn ρ fb db base) (hle : ρ.le ρ') : FIn ρ' fb db base := ⟨Hp.at' hle h.at'⟩
theorem at_spec (ρ : Hp) (fb db base num which : Nat) (h : FIn ρ fb db base) (hb : base ≤ 100000) (hn : num < 64) (hw : which < 2) :
  Spec Tryz.prog 123 [.pointer (some ⟨fb, 0, none⟩), .int .i64 num, .int .i64 which] ρ [] (fun v ρ' L' => v = .int .i64 ((base + 4 * num + 2 * which : Nat) : Int) ∧ ρ' = ρ ∧ L' = []) := by
 have hb1 := h.at'
 refine Ze Tryz.func123 rfl rfl rfl fun u R => ?_
 simp only [Zt, List.cons_append, List.nil_append]
 repeat' (first | (refine Zg ?_; first | (refine Zf ?_; refine qQ ?_) | refine Zj ?_ | refine qAn ?_ | refine qXo ?_ | refine qNt ?_) | refine Za ?_ | (refine Zh ?_; refine Zu ?_) | (refine Zi ?_; refine Zv ?_) | intro _)
 rw [show (base : Int) + (2 * (num : Int) + (which : Int)) * 2 = ((base + 4 * num + 2 * which : Nat) : Int) by omega]
 exact qE (L' := []) ⟨rfl, rfl, rfl⟩
def slotAt (num : Nat) (a b : Blk) : SlD := { YA num a b with most := Wm num a b }
def Ws (D : DS) (i : Nat) : DS × (Blk × Blk) × Int :=
 if (D.read i).2.2 ≠ 0 then ((D.read i).1, (XK, XK), (D.read i).2.2)
 else if ((D.read i).1.read (i + 1 : Nat)).2.2 ≠ 0 then (((D.read i).1.read (i + 1 : Nat)).1, (XK, XK), ((D.read i).1.read (i + 1 : Nat)).2.2)
 else (((D.read i).1.read (i + 1 : Nat)).1, ((D.read i).2.1, ((D.read i).1.read (i + 1 : Nat)).2.1), 0)
def slD (D : DS) (base num : Nat) : Nat → DS
 | 0 => D
 | k + 1 => (Ws (slD D base num k) (base + 4 * num + 2 * k)).1
def slR (D : DS) (base num k : Nat) : DS × (Blk × Blk) × Int := Ws (slD D base num k) (base + 4 * num + 2 * k)
def slY (num : Nat) (r : DS × (Blk × Blk) × Int) : SlD × Int := if r.2.2 ≠ 0 then (zSl, r.2.2) else (slotAt num r.2.1.1 r.2.1.2, 0)
def YO (D : DS) (base num : Nat) : List (SlD × Int) :=
 if (slR D base num 0).2.2 ≠ 0 then [slY num (slR D base num 0)] else [slY num (slR D base num 0), slY num (slR D base num 1)]
def encS (ρ : Hp) (y : SlD × Int) (vs : List Value) : Prop := ∃ w, vs = [.agg ⟨slV y.1 w⟩, .int .i64 y.2] ∧ CIn ρ w y.1.c.rows y.1.c.kids
theorem rdSlot_ok {D : DS} {i : Nat} (h : D.Ok) : (Ws D i).1.Ok := by
 unfold Ws
 split
 ·exact h.read
 ·split <;> exact h.read.read
theorem slD_ok {D : DS} {base num : Nat} (h : D.Ok) : ∀ k, (slD D base num k).Ok
 | 0 => h
 | k + 1 => rdSlot_ok (slD_ok h k)
theorem rdSlot_secs (D : DS) (i : Nat) : (Ws D i).1.secs = D.secs := by
 unfold Ws
 split
 ·rw [read_secs]
 ·split <;> rw [read_secs, read_secs]
theorem XG (D : DS) (base num : Nat) : ∀ k, (slD D base num k).secs = D.secs
 | 0 => rfl
 | k + 1 => by rw [slD, rdSlot_secs, XG D base num k]
theorem slD_dok {k : DK} {D : DS} {base num : Nat} (h : DOk k D) (j : Nat) : DOk k (slD D base num j) := ⟨slD_ok h.ok j, by rw [XG]; exact h.map⟩
theorem slotsX_at {D : DS} {base num j : Nat} (h : j < (YO D base num).length) : (YO D base num)[j] = slY num (slR D base num j) := by
 have : ∀ l : List (SlD × Int), YO D base num = l → ∀ h : j < l.length, l[j] = slY num (slR D base num j) := by
  intro l hl h
  unfold YO at hl
  split at hl <;> subst hl
  ·have : j = 0 := by simpa using h
   subst this; rfl
  ·rcases (show j = 0 ∨ j = 1 by simp at h; omega) with rfl | rfl <;> rfl
 exact this _ rfl h
theorem slotsX_len {D : DS} {base num : Nat} (h : (slR D base num 0).2.2 = 0) : (YO D base num).length = 2 := by
 unfold YO; rw [if_neg (by simp [h])]; rfl
theorem slotsX_last {D : DS} {base num j : Nat} (h : j < (YO D base num).length) (he : (slR D base num j).2.2 ≠ 0) : (YO D base num).length = j + 1 := by
 unfold YO at h ⊢
 split
 ·rename_i hc
  rw [if_pos hc] at h
  have : j = 0 := by simpa using h
  subst this; rfl
 ·rename_i hc
  rw [if_neg hc] at h
  rcases (show j = 0 ∨ j = 1 by simp at h; omega) with rfl | rfl
  ·exact absurd he hc
  ·rfl
theorem slots_iter (ρ0 : Hp) (b2 b3 fb db base num : Nat) (hf : FIn ρ0 fb db base) (h2 : ρ0 b2 = some (.cells ⟨[.pointer (some ⟨fb, 0, none⟩)]⟩ 56 (0, 0))) (h3 : ρ0 b3 = some (.cells ⟨[.int .i64 num]⟩ 3 (0, 0)))
  (hb : base ≤ 100000) (hn : num < 64) (k : DK) (D : DS) (hD : DOk k D) :
  IterS Tryz.prog 181 [] [.pointer (some ⟨b2, 0, none⟩), .pointer (some ⟨b3, 0, none⟩)] encS ρ0 (fun pre => ZA db k (slD D base num pre.length)) (YO D base num) := by
 intro l J Jx hM hY ρ Lj hl0 hJ
 have hXl : (YO D base num).length ≤ 2 := by unfold YO; split <;> simp
 refine Ze Tryz.func181 rfl rfl rfl fun u R => ?_
 simp only [Zt, List.cons_append, List.nil_append, List.append_assoc, List.length_nil]
 repeat' (first | (refine Zg ?_; first | (refine Zf ?_; refine qQ ?_) | refine Zj ?_ | refine qAn ?_ | refine qXo ?_ | refine qNt ?_) | refine Za ?_ | (refine Zh ?_; refine Zu ?_) | (refine Zi ?_; refine Zv ?_) | intro _)
 refine ZH [(0, _), (1, _), (2, _)] (fun (ζ : (Nat) × (Hp) × (SH)) => [(10, .int .i64 ζ.1)]) (fun (ζ : (Nat) × (Hp) × (SH)) => ζ.2.1) (fun (ζ : (Nat) × (Hp) × (SH)) => ZA db k (slD D base num ζ.1) ++ ζ.2.2) (fun (ζ : (Nat) × (Hp) × (SH)) => ζ.1 ≤ (YO D base num).length ∧ ρ.le ζ.2.1 ∧ J ((YO D base num).take ζ.1) ζ.2.1 ζ.2.2 ∧ (ζ.1 < 2 → ζ.1 < (YO D base num).length)) (fun (ζ : (Nat) × (Hp) × (SH)) => 2 - ζ.1) ((0, ρ, Lj)) (⟨Nat.zero_le _, Hp.le_refl _, hJ, fun _ => by unfold YO; split <;> simp⟩) Zo Zo rfl tk ?_
 rintro ⟨j, ρ1, L1⟩ hI
 try simp only [List.cons_append, List.nil_append, List.append_assoc, List.append_eq] at hI ⊢
 try dsimp only at hI ⊢
 obtain ⟨hj, hle1, hjj, hjx⟩ := hI
 by_cases hlt : j < 2
 ·have hk2 := hjx hlt
  have hpre := take_succ_pre (YO D base num) j hk2
  have hts := List.take_succ_eq_append_getElem hk2
  rw [slotsX_at hk2] at hpre hts
  have hlast := slotsX_last (j := j) hk2
  have hlen2 := fun h : j = 0 => slotsX_len (D := D) (base := base) (num := num) |>.comp (fun hh : (slR D base num j).2.2 = 0 => by rw [← h]; exact hh)
  have hSd : slD D base num (j + 1) = (slR D base num j).1 := rfl
  have hDj := slD_dok (base := base) (num := num) hD j
  have hlen : (List.take j (YO D base num) ++ [slY num (slR D base num j)]).length = j + 1 := by simp; omega
  have hy := fun vs ρ Lj h1 h2 h3 => hY _ _ vs ρ Lj hpre h1 h2 h3
  simp only [hlen, hSd] at hy
  have hR : slR D base num j = Ws (slD D base num j) (base + 4 * num + 2 * j) := rfl
  unfold Ws at hR
  have hat := fun ρ (h : FIn ρ fb db base) => at_spec ρ fb db base num j h hb hn hlt
  have hbd : base + 4 * num + 2 * j ≤ 200000 := by omega
  generalize slR D base num j = RES at *
  generalize base + 4 * num + 2 * j = ix at *
  generalize slD D base num j = Dj at *
  have hk0 : ∀ ρ, Spec Tryz.prog _ _ ρ _ _ := fun ρ => kread ρ db k Dj (ix : Nat) hDj
  have hDa : DOk k (Dj.read (ix : Nat)).1 := ⟨hDj.ok.read, hDj.map.read⟩
  have hs0 := read_len hDj.ok (ix : Nat)
  generalize Dj.read (ix : Nat) = r0 at *
  obtain ⟨Da, s0, e0⟩ := r0
  dsimp only at hR hk0 hDa hs0
  have hk1 : ∀ ρ, Spec Tryz.prog _ _ ρ _ _ := fun ρ => kread ρ db k Da ((ix + 1 : Nat) : Nat) hDa
  have hDb : DOk k (Da.read ((ix + 1 : Nat) : Nat)).1 := ⟨hDa.ok.read, hDa.map.read⟩
  have hs1 := read_len hDa.ok ((ix + 1 : Nat) : Nat)
  generalize Da.read ((ix + 1 : Nat) : Nat) = r1 at *
  obtain ⟨Db, s1, e1⟩ := r1
  dsimp only at hR hk1 hDb hs1
  repeat' (first | (refine Zg ?_; first | (refine Zf ?_; refine qQ ?_) | refine Zj ?_ | refine qAn ?_ | refine qXo ?_ | refine qNt ?_) | refine Za ?_ | (refine Zh ?_; refine Zu ?_) | (refine Zi ?_; refine Zv ?_) | intro _)
  rename_i b5
  have hl01 := Hp.le_trans hl0 hle1
  have hf1 := hf.mono hl01
  have hb2 := Hp.at' hl01 h2
  have hb3 := Hp.at' hl01 h3
  have hfile := hf1.at'
  have hpl0 : (s0.map ZD).length = 64 := by simpa using hs0
  have hpo0 := Yr s0
  have hpl1 : (s1.map ZD).length = 64 := by simpa using hs1
  have hpo1 := Yr s1
  have hst0 : stc ((z8 128).map ZD) (0 + Int.toNat 0 * 64) (s0.map ZD) = (s0 ++ z8 64).map ZD := by simp [stc, z8, hs0]
  have hst1 : stc ((s0 ++ z8 64).map ZD) (0 + Int.toNat 1 * 64) (s1.map ZD) = (s0 ++ s1).map ZD := by simp [stc, z8, hs0, hs1]
  have hl128 : ((s0 ++ z8 64).map ZD).length = 128 := by simp [z8, hs0]
  have hlc : ((s0 ++ s1).map ZD).length = 128 := by simp [hs0, hs1]
  have hoc := Yr (s0 ++ s1)
  have hix0 : (ix : Int) + 0 = (ix : Int) := by omega
  have hix1 : (ix : Int) + 1 = ((ix + 1 : Nat) : Int) := by omega
  refine ZH [(0, _), (1, _), (2, _), (4, _), (5, _), (10, _), (11, _), (12, _)] (fun (ζ : (Int) × (List Value) × (DS)) => [(13, .int .i64 ζ.1)]) (fun (ζ : (Int) × (List Value) × (DS)) => ρ1) (fun (ζ : (Int) × (List Value) × (DS)) => [[(b5, .cells ⟨ζ.2.1⟩ 179 (0, 0))]] ++ ZA db k ζ.2.2) (fun (ζ : (Int) × (List Value) × (DS)) => DOk k ζ.2.2 ∧ ((ζ.1 = 0 ∧ ζ.2.2 = Dj ∧ ζ.2.1 = (z8 128).map ZD) ∨ (ζ.1 = 1 ∧ ζ.2.2 = Da ∧ e0 = 0 ∧ ζ.2.1 = (s0 ++ z8 64).map ZD) ∨ (ζ.1 = 2 ∧ ζ.2.2 = Db ∧ e0 = 0 ∧ e1 = 0 ∧ ζ.2.1 = (s0 ++ s1).map ZD))) (fun (ζ : (Int) × (List Value) × (DS)) => (2 - ζ.1).toNat) ((0, (z8 128).map ZD, Dj)) (⟨hDj, .inl ⟨rfl, rfl, rfl⟩⟩) Zo Zo rfl tk ?_
  rintro ⟨i, cs, D1⟩ hI
  try simp only [List.cons_append, List.nil_append, List.append_assoc, List.append_eq] at hI ⊢
  try dsimp only at hI ⊢
  obtain ⟨hD1, hor⟩ := hI
  rcases hor with ⟨rfl, rfl, rfl⟩ | ⟨rfl, rfl, rfl, rfl⟩ | ⟨rfl, rfl, rfl, rfl, rfl⟩
  ·by_cases he : e0 = 0
   ·subst he
    repeat' (first | (refine Zg ?_; first | (refine Zf ?_; refine qQ ?_) | refine Zj ?_ | refine qAn ?_ | refine qXo ?_ | refine qNt ?_) | refine Za ?_ | (refine Zh ?_; refine Zu ?_) | (refine Zi ?_; refine Zv ?_) | intro _)
    refine Zz (Zr _ _ ([])) (Zy (hT := tk) (Hp.le_refl _)) ?_
    all_goals (refine ZX 0 ?_; refine rNc 1 ?_; refine Yv 2 ?_; refine ZX 3 ?_; refine ZX 4 ?_; refine ZX 5 ?_; refine ZO 6 ?_; refine ZO 8 ?_)
    all_goals (refine Xn (i := 7) (j := 14) ?_ ?_ <;> ((try refine Zk ?_); (first | (refine Zc (.func 123) ?_; refine qC rfl rfl ((hat _ hf1)) ?_; rintro v ρ' L' hle ⟨rfl, rfl, rfl⟩ <;> (try simp only [kM, kN, kO])) | (refine Zf ?_; refine qQ ?_) | (refine Zj ?_; try intro _)) <;> ((try simp only [kM, kN, kO]); refine Za ?_; refine Zl ?_)))
    all_goals (first | refine rAd 9 ?_ | (refine Zm (i := 7) ?_; ((try refine Zk ?_); (first | (refine Zc (.func 123) ?_; refine qC rfl rfl ((hat _ hf1)) ?_; rintro v ρ' L' hle ⟨rfl, rfl, rfl⟩ <;> (try simp only [kM, kN, kO])) | (refine Zf ?_; refine qQ ?_) | (refine Zj ?_; try intro _)) <;> ((try simp only [kM, kN, kO]); refine Za ?_; refine Zl ?_))))
    all_goals (first | refine rAd 9 ?_ | (refine Xn (i := 10) (j := 14) ?_ ?_ <;> ((try refine Zk ?_); (first | (simp only [hix0]; refine Zc (.func 91) ?_; refine qC rfl rfl (hk0 _) ?_; rintro v2 ρ2 L2 hle2 ⟨rfl, rfl, hD2, rfl⟩; try simp only [kM, kN, kO]) | (refine Zf ?_; refine qQ ?_) | (refine Zj ?_; try intro _)) <;> ((try simp only [kM, kN, kO]); refine Za ?_; refine Zl ?_))))
    all_goals (first | refine ZO 11 ?_ | (refine Zm (i := 10) ?_; ((try refine Zk ?_); (first | (simp only [hix0]; refine Zc (.func 91) ?_; refine qC rfl rfl (hk0 _) ?_; rintro v2 ρ2 L2 hle2 ⟨rfl, rfl, hD2, rfl⟩; try simp only [kM, kN, kO]) | (refine Zf ?_; refine qQ ?_) | (refine Zj ?_; try intro _)) <;> ((try simp only [kM, kN, kO]); refine Za ?_; refine Zl ?_))))
    all_goals (first | refine ZO 11 ?_ | refine rEx 12 ?_)
    all_goals (first | refine rEx 12 ?_ | (refine Xn (i := 13) (j := 14) ?_ ?_ <;> ((try refine Zk ?_); (first | (refine Zc (.func 123) ?_; refine qC rfl rfl ((hat _ hf1)) ?_; rintro v ρ' L' hle ⟨rfl, rfl, rfl⟩ <;> (try simp only [kM, kN, kO])) | (simp only [hix0]; refine Zc (.func 91) ?_; refine qC rfl rfl (hk0 _) ?_; rintro v2 ρ2 L2 hle2 ⟨rfl, rfl, hD2, rfl⟩; try simp only [kM, kN, kO]) | (refine Zf ?_; refine qQ ?_) | (refine Zj ?_; try intro _)) <;> ((try simp only [kM, kN, kO]); refine Za ?_; refine Zl ?_))))
    all_goals (first | (refine Zm (i := 14) ?_; ((try refine Zk ?_); (first | (refine Zf ?_; refine qQ ?_) | (refine Zj ?_; try intro _)) <;> ((try simp only [kM, kN, kO]); refine Za ?_; refine Zl ?_))) | (refine Xn (i := 13) (j := 15) ?_ ?_ <;> ((try refine Zk ?_); (first | (refine Zc (.func 123) ?_; refine qC rfl rfl ((hat _ hf1)) ?_; rintro v ρ' L' hle ⟨rfl, rfl, rfl⟩ <;> (try simp only [kM, kN, kO])) | (simp only [hix0]; refine Zc (.func 91) ?_; refine qC rfl rfl (hk0 _) ?_; rintro v2 ρ2 L2 hle2 ⟨rfl, rfl, hD2, rfl⟩; try simp only [kM, kN, kO]) | (refine Zf ?_; refine qQ ?_) | (refine Zj ?_; try intro _)) <;> ((try simp only [kM, kN, kO]); refine Za ?_; refine Zl ?_))))
    all_goals (first | (refine Zm (i := 15) ?_; ((try refine Zk ?_); (first | (refine Zf ?_; refine qQ ?_) | (refine Zj ?_; try intro _)) <;> ((try simp only [kM, kN, kO]); refine Za ?_; refine Zl ?_))) | (refine Zm (i := 13) ?_; ((try refine Zk ?_); (first | (refine Zc (.func 123) ?_; refine qC rfl rfl ((hat _ hf1)) ?_; rintro v ρ' L' hle ⟨rfl, rfl, rfl⟩ <;> (try simp only [kM, kN, kO])) | (simp only [hix0]; refine Zc (.func 91) ?_; refine qC rfl rfl (hk0 _) ?_; rintro v2 ρ2 L2 hle2 ⟨rfl, rfl, hD2, rfl⟩; try simp only [kM, kN, kO]) | (refine Zf ?_; refine qQ ?_) | (refine Zj ?_; try intro _)) <;> ((try simp only [kM, kN, kO]); refine Za ?_; refine Zl ?_))))
    all_goals (refine ZN ?_; refine rAs 16 ?_; refine ZI ?_)
    all_goals (repeat' (first | (refine Zg ?_; first | (refine Zf ?_; refine qQ ?_) | refine Zj ?_ | refine qAn ?_ | refine qXo ?_ | refine qNt ?_) | refine Za ?_ | (refine Zh ?_; refine Zu ?_) | (refine Zi ?_; refine Zv ?_) | intro _))
    all_goals rw [hst0]
    all_goals refine Zx (1, (s0 ++ z8 64).map ZD, Da) (⟨hD2, .inr (.inl (by simp))⟩) Zo Zo rfl tk inferInstance (by first | omega | (dsimp only; omega))
   ·have hcb : (e0 != 0) = true := by simpa using he
    have hRE : RES = (Da, (XK, XK), e0) := by rw [hR]; exact if_pos he
    subst hRE
    have hsY : slY num (Da, (XK, XK), e0) = (zSl, e0) := if_pos he
    rw [hsY] at hy hts
    have hln := hlast he
    have hfull : YO D base num = List.take j (YO D base num) ++ [(zSl, e0)] := by rw [← hts]; exact (List.take_of_length_le (by omega)).symm
    have hyE := fun ρ h1 h3 => hy [.agg ⟨slV zSl ⟨none, 0, 0, none, 0, 0⟩⟩, .int .i64 e0] ρ L1 h1 ⟨⟨none, 0, 0, none, 0, 0⟩, rfl, CIn.nil⟩ h3
    repeat' (first | (refine Zg ?_; first | (refine Zf ?_; refine qQ ?_) | refine Zj ?_ | refine qAn ?_ | refine qXo ?_ | refine qNt ?_) | refine Za ?_ | (refine Zh ?_; refine Zu ?_) | (refine Zi ?_; refine Zv ?_) | intro _)
    refine Zz (Zr _ _ ([])) (Zy (hT := tk) (Hp.le_refl _)) ?_
    all_goals (refine ZX 0 ?_; refine rNc 1 ?_; refine Yv 2 ?_; refine ZX 3 ?_; refine ZX 4 ?_; refine ZX 5 ?_; refine ZO 6 ?_; refine ZO 8 ?_)
    all_goals (refine Xn (i := 7) (j := 14) ?_ ?_ <;> ((try refine Zk ?_); (first | (refine Zc (.func 123) ?_; refine qC rfl rfl ((hat _ hf1)) ?_; rintro v ρ' L' hle ⟨rfl, rfl, rfl⟩ <;> (try simp only [kM, kN, kO])) | (refine Zf ?_; refine qQ ?_) | (refine Zj ?_; try intro _)) <;> ((try simp only [kM, kN, kO]); refine Za ?_; refine Zl ?_)))
    all_goals (first | refine rAd 9 ?_ | (refine Zm (i := 7) ?_; ((try refine Zk ?_); (first | (refine Zc (.func 123) ?_; refine qC rfl rfl ((hat _ hf1)) ?_; rintro v ρ' L' hle ⟨rfl, rfl, rfl⟩ <;> (try simp only [kM, kN, kO])) | (refine Zf ?_; refine qQ ?_) | (refine Zj ?_; try intro _)) <;> ((try simp only [kM, kN, kO]); refine Za ?_; refine Zl ?_))))
    all_goals (first | refine rAd 9 ?_ | (refine Xn (i := 10) (j := 14) ?_ ?_ <;> ((try refine Zk ?_); (first | (simp only [hix0]; refine Zc (.func 91) ?_; refine qC rfl rfl (hk0 _) ?_; rintro v2 ρ2 L2 hle2 ⟨rfl, rfl, hD2, rfl⟩; try simp only [kM, kN, kO]) | (refine Zf ?_; refine qQ ?_) | (refine Zj ?_; try intro _)) <;> ((try simp only [kM, kN, kO]); refine Za ?_; refine Zl ?_))))
    all_goals (first | refine ZO 11 ?_ | (refine Zm (i := 10) ?_; ((try refine Zk ?_); (first | (simp only [hix0]; refine Zc (.func 91) ?_; refine qC rfl rfl (hk0 _) ?_; rintro v2 ρ2 L2 hle2 ⟨rfl, rfl, hD2, rfl⟩; try simp only [kM, kN, kO]) | (refine Zf ?_; refine qQ ?_) | (refine Zj ?_; try intro _)) <;> ((try simp only [kM, kN, kO]); refine Za ?_; refine Zl ?_))))
    all_goals (first | refine ZO 11 ?_ | refine rEx 12 ?_)
    all_goals (first | refine rEx 12 ?_ | (refine Xn (i := 13) (j := 14) ?_ ?_ <;> ((try refine Zk ?_); (first | (refine Zc (.func 123) ?_; refine qC rfl rfl ((hat _ hf1)) ?_; rintro v ρ' L' hle ⟨rfl, rfl, rfl⟩ <;> (try simp only [kM, kN, kO])) | (simp only [hix0]; refine Zc (.func 91) ?_; refine qC rfl rfl (hk0 _) ?_; rintro v2 ρ2 L2 hle2 ⟨rfl, rfl, hD2, rfl⟩; try simp only [kM, kN, kO]) | (refine Zf ?_; refine qQ ?_) | (refine Zj ?_; try intro _)) <;> ((try simp only [kM, kN, kO]); refine Za ?_; refine Zl ?_))))
    all_goals (first | (refine Zm (i := 14) ?_; ((try refine Zk ?_); (first | (refine Zf ?_; refine qQ ?_) | (refine Zj ?_; try intro _)) <;> ((try simp only [kM, kN, kO]); refine Za ?_; refine Zl ?_))) | (refine Xn (i := 13) (j := 15) ?_ ?_ <;> ((try refine Zk ?_); (first | (refine Zc (.func 123) ?_; refine qC rfl rfl ((hat _ hf1)) ?_; rintro v ρ' L' hle ⟨rfl, rfl, rfl⟩ <;> (try simp only [kM, kN, kO])) | (simp only [hix0]; refine Zc (.func 91) ?_; refine qC rfl rfl (hk0 _) ?_; rintro v2 ρ2 L2 hle2 ⟨rfl, rfl, hD2, rfl⟩; try simp only [kM, kN, kO]) | (refine Zf ?_; refine qQ ?_) | (refine Zj ?_; try intro _)) <;> ((try simp only [kM, kN, kO]); refine Za ?_; refine Zl ?_))))
    all_goals (first | (refine Zm (i := 15) ?_; ((try refine Zk ?_); (first | (refine Zf ?_; refine qQ ?_) | (refine Zj ?_; try intro _)) <;> ((try simp only [kM, kN, kO]); refine Za ?_; refine Zl ?_))) | (refine Zm (i := 13) ?_; ((try refine Zk ?_); (first | (refine Zc (.func 123) ?_; refine qC rfl rfl ((hat _ hf1)) ?_; rintro v ρ' L' hle ⟨rfl, rfl, rfl⟩ <;> (try simp only [kM, kN, kO])) | (simp only [hix0]; refine Zc (.func 91) ?_; refine qC rfl rfl (hk0 _) ?_; rintro v2 ρ2 L2 hle2 ⟨rfl, rfl, hD2, rfl⟩; try simp only [kM, kN, kO]) | (refine Zf ?_; refine qQ ?_) | (refine Zj ?_; try intro _)) <;> ((try simp only [kM, kN, kO]); refine Za ?_; refine Zl ?_))))
    all_goals (refine ZN ?_; refine rAs 16 ?_; refine ZI ?_)
    all_goals try simp only [hcb]
    all_goals (repeat' (first | (refine Zc (.tmp 32) ?_; refine qY rfl rfl (hyE _ hl01 hjj) ?_; rintro v ρ' L' hle ⟨Lj', rfl, ⟨rfl, hj'⟩ | ⟨rfl, hj'⟩⟩ <;> (try simp only [kM, kN, kO])) | (refine Zg ?_; first | (refine Zf ?_; refine qQ ?_) | refine Zj ?_ | refine qAn ?_ | refine qXo ?_ | refine qNt ?_) | refine Za ?_ | (refine Zh ?_; refine Zu ?_) | (refine Zi ?_; refine Zv ?_) | intro _))
    all_goals first | exact qE (L' := ZA db k Da ++ Lj') ⟨Lj', .inl ⟨by show ZA db k Da ++ Lj' = ZA db k (slD D base num (YO D base num).length) ++ Lj'; rw [hln, hSd], by rw [hfull]; exact hj'⟩⟩ | exact qE (L' := ZA db k Da ++ Lj') ⟨Lj', .inr ⟨List.take j (YO D base num) ++ [(zSl, e0)], by show ZA db k Da ++ Lj' = ZA db k (slD D base num _) ++ Lj'; rw [← hfull, hln, hSd], hj'⟩⟩
  ·by_cases he : e1 = 0
   ·subst he
    repeat' (first | (refine Zg ?_; first | (refine Zf ?_; refine qQ ?_) | refine Zj ?_ | refine qAn ?_ | refine qXo ?_ | refine qNt ?_) | refine Za ?_ | (refine Zh ?_; refine Zu ?_) | (refine Zi ?_; refine Zv ?_) | intro _)
    refine Zz (Zr _ _ ([])) (Zy (hT := tk) (Hp.le_refl _)) ?_
    all_goals (refine ZX 0 ?_; refine rNc 1 ?_; refine Yv 2 ?_; refine ZX 3 ?_; refine ZX 4 ?_; refine ZX 5 ?_; refine ZO 6 ?_; refine ZO 8 ?_)
    all_goals (refine Xn (i := 7) (j := 14) ?_ ?_ <;> ((try refine Zk ?_); (first | (refine Zc (.func 123) ?_; refine qC rfl rfl ((hat _ hf1)) ?_; rintro v ρ' L' hle ⟨rfl, rfl, rfl⟩ <;> (try simp only [kM, kN, kO])) | (refine Zf ?_; refine qQ ?_) | (refine Zj ?_; try intro _)) <;> ((try simp only [kM, kN, kO]); refine Za ?_; refine Zl ?_)))
    all_goals (first | refine rAd 9 ?_ | (refine Zm (i := 7) ?_; ((try refine Zk ?_); (first | (refine Zc (.func 123) ?_; refine qC rfl rfl ((hat _ hf1)) ?_; rintro v ρ' L' hle ⟨rfl, rfl, rfl⟩ <;> (try simp only [kM, kN, kO])) | (refine Zf ?_; refine qQ ?_) | (refine Zj ?_; try intro _)) <;> ((try simp only [kM, kN, kO]); refine Za ?_; refine Zl ?_))))
    all_goals (first | refine rAd 9 ?_ | (refine Xn (i := 10) (j := 14) ?_ ?_ <;> ((try refine Zk ?_); (first | (simp only [hix1]; refine Zc (.func 91) ?_; refine qC rfl rfl (hk1 _) ?_; rintro v2 ρ2 L2 hle2 ⟨rfl, rfl, hD2, rfl⟩; try simp only [kM, kN, kO]) | (refine Zf ?_; refine qQ ?_) | (refine Zj ?_; try intro _)) <;> ((try simp only [kM, kN, kO]); refine Za ?_; refine Zl ?_))))
    all_goals (first | refine ZO 11 ?_ | (refine Zm (i := 10) ?_; ((try refine Zk ?_); (first | (simp only [hix1]; refine Zc (.func 91) ?_; refine qC rfl rfl (hk1 _) ?_; rintro v2 ρ2 L2 hle2 ⟨rfl, rfl, hD2, rfl⟩; try simp only [kM, kN, kO]) | (refine Zf ?_; refine qQ ?_) | (refine Zj ?_; try intro _)) <;> ((try simp only [kM, kN, kO]); refine Za ?_; refine Zl ?_))))
    all_goals (first | refine ZO 11 ?_ | refine rEx 12 ?_)
    all_goals (first | refine rEx 12 ?_ | (refine Xn (i := 13) (j := 14) ?_ ?_ <;> ((try refine Zk ?_); (first | (refine Zc (.func 123) ?_; refine qC rfl rfl ((hat _ hf1)) ?_; rintro v ρ' L' hle ⟨rfl, rfl, rfl⟩ <;> (try simp only [kM, kN, kO])) | (simp only [hix1]; refine Zc (.func 91) ?_; refine qC rfl rfl (hk1 _) ?_; rintro v2 ρ2 L2 hle2 ⟨rfl, rfl, hD2, rfl⟩; try simp only [kM, kN, kO]) | (refine Zf ?_; refine qQ ?_) | (refine Zj ?_; try intro _)) <;> ((try simp only [kM, kN, kO]); refine Za ?_; refine Zl ?_))))
    all_goals (first | (refine Zm (i := 14) ?_; ((try refine Zk ?_); (first | (refine Zf ?_; refine qQ ?_) | (refine Zj ?_; try intro _)) <;> ((try simp only [kM, kN, kO]); refine Za ?_; refine Zl ?_))) | (refine Xn (i := 13) (j := 15) ?_ ?_ <;> ((try refine Zk ?_); (first | (refine Zc (.func 123) ?_; refine qC rfl rfl ((hat _ hf1)) ?_; rintro v ρ' L' hle ⟨rfl, rfl, rfl⟩ <;> (try simp only [kM, kN, kO])) | (simp only [hix1]; refine Zc (.func 91) ?_; refine qC rfl rfl (hk1 _) ?_; rintro v2 ρ2 L2 hle2 ⟨rfl, rfl, hD2, rfl⟩; try simp only [kM, kN, kO]) | (refine Zf ?_; refine qQ ?_) | (refine Zj ?_; try intro _)) <;> ((try simp only [kM, kN, kO]); refine Za ?_; refine Zl ?_))))
    all_goals (first | (refine Zm (i := 15) ?_; ((try refine Zk ?_); (first | (refine Zf ?_; refine qQ ?_) | (refine Zj ?_; try intro _)) <;> ((try simp only [kM, kN, kO]); refine Za ?_; refine Zl ?_))) | (refine Zm (i := 13) ?_; ((try refine Zk ?_); (first | (refine Zc (.func 123) ?_; refine qC rfl rfl ((hat _ hf1)) ?_; rintro v ρ' L' hle ⟨rfl, rfl, rfl⟩ <;> (try simp only [kM, kN, kO])) | (simp only [hix1]; refine Zc (.func 91) ?_; refine qC rfl rfl (hk1 _) ?_; rintro v2 ρ2 L2 hle2 ⟨rfl, rfl, hD2, rfl⟩; try simp only [kM, kN, kO]) | (refine Zf ?_; refine qQ ?_) | (refine Zj ?_; try intro _)) <;> ((try simp only [kM, kN, kO]); refine Za ?_; refine Zl ?_))))
    all_goals (refine ZN ?_; refine rAs 16 ?_; refine ZI ?_)
    all_goals (repeat' (first | (refine Zg ?_; first | (refine Zf ?_; refine qQ ?_) | refine Zj ?_ | refine qAn ?_ | refine qXo ?_ | refine qNt ?_) | refine Za ?_ | (refine Zh ?_; refine Zu ?_) | (refine Zi ?_; refine Zv ?_) | intro _))
    all_goals rw [hst1]
    all_goals refine Zx (2, (s0 ++ s1).map ZD, Db) (⟨hD2, .inr (.inr (by simp))⟩) Zo Zo rfl tk inferInstance (by first | omega | (dsimp only; omega))
   ·have hcb : (e1 != 0) = true := by simpa using he
    have hRE : RES = (Db, (XK, XK), e1) := by rw [hR]; rw [if_neg (by simp)]; exact if_pos he
    subst hRE
    have hsY : slY num (Db, (XK, XK), e1) = (zSl, e1) := if_pos he
    rw [hsY] at hy hts
    have hln := hlast he
    have hfull : YO D base num = List.take j (YO D base num) ++ [(zSl, e1)] := by rw [← hts]; exact (List.take_of_length_le (by omega)).symm
    have hyE := fun ρ h1 h3 => hy [.agg ⟨slV zSl ⟨none, 0, 0, none, 0, 0⟩⟩, .int .i64 e1] ρ L1 h1 ⟨⟨none, 0, 0, none, 0, 0⟩, rfl, CIn.nil⟩ h3
    repeat' (first | (refine Zg ?_; first | (refine Zf ?_; refine qQ ?_) | refine Zj ?_ | refine qAn ?_ | refine qXo ?_ | refine qNt ?_) | refine Za ?_ | (refine Zh ?_; refine Zu ?_) | (refine Zi ?_; refine Zv ?_) | intro _)
    refine Zz (Zr _ _ ([])) (Zy (hT := tk) (Hp.le_refl _)) ?_
    all_goals (refine ZX 0 ?_; refine rNc 1 ?_; refine Yv 2 ?_; refine ZX 3 ?_; refine ZX 4 ?_; refine ZX 5 ?_; refine ZO 6 ?_; refine ZO 8 ?_)
    all_goals (refine Xn (i := 7) (j := 14) ?_ ?_ <;> ((try refine Zk ?_); (first | (refine Zc (.func 123) ?_; refine qC rfl rfl ((hat _ hf1)) ?_; rintro v ρ' L' hle ⟨rfl, rfl, rfl⟩ <;> (try simp only [kM, kN, kO])) | (refine Zf ?_; refine qQ ?_) | (refine Zj ?_; try intro _)) <;> ((try simp only [kM, kN, kO]); refine Za ?_; refine Zl ?_)))
    all_goals (first | refine rAd 9 ?_ | (refine Zm (i := 7) ?_; ((try refine Zk ?_); (first | (refine Zc (.func 123) ?_; refine qC rfl rfl ((hat _ hf1)) ?_; rintro v ρ' L' hle ⟨rfl, rfl, rfl⟩ <;> (try simp only [kM, kN, kO])) | (refine Zf ?_; refine qQ ?_) | (refine Zj ?_; try intro _)) <;> ((try simp only [kM, kN, kO]); refine Za ?_; refine Zl ?_))))
    all_goals (first | refine rAd 9 ?_ | (refine Xn (i := 10) (j := 14) ?_ ?_ <;> ((try refine Zk ?_); (first | (simp only [hix1]; refine Zc (.func 91) ?_; refine qC rfl rfl (hk1 _) ?_; rintro v2 ρ2 L2 hle2 ⟨rfl, rfl, hD2, rfl⟩; try simp only [kM, kN, kO]) | (refine Zf ?_; refine qQ ?_) | (refine Zj ?_; try intro _)) <;> ((try simp only [kM, kN, kO]); refine Za ?_; refine Zl ?_))))
    all_goals (first | refine ZO 11 ?_ | (refine Zm (i := 10) ?_; ((try refine Zk ?_); (first | (simp only [hix1]; refine Zc (.func 91) ?_; refine qC rfl rfl (hk1 _) ?_; rintro v2 ρ2 L2 hle2 ⟨rfl, rfl, hD2, rfl⟩; try simp only [kM, kN, kO]) | (refine Zf ?_; refine qQ ?_) | (refine Zj ?_; try intro _)) <;> ((try simp only [kM, kN, kO]); refine Za ?_; refine Zl ?_))))
    all_goals (first | refine ZO 11 ?_ | refine rEx 12 ?_)
    all_goals (first | refine rEx 12 ?_ | (refine Xn (i := 13) (j := 14) ?_ ?_ <;> ((try refine Zk ?_); (first | (refine Zc (.func 123) ?_; refine qC rfl rfl ((hat _ hf1)) ?_; rintro v ρ' L' hle ⟨rfl, rfl, rfl⟩ <;> (try simp only [kM, kN, kO])) | (simp only [hix1]; refine Zc (.func 91) ?_; refine qC rfl rfl (hk1 _) ?_; rintro v2 ρ2 L2 hle2 ⟨rfl, rfl, hD2, rfl⟩; try simp only [kM, kN, kO]) | (refine Zf ?_; refine qQ ?_) | (refine Zj ?_; try intro _)) <;> ((try simp only [kM, kN, kO]); refine Za ?_; refine Zl ?_))))
    all_goals (first | (refine Zm (i := 14) ?_; ((try refine Zk ?_); (first | (refine Zf ?_; refine qQ ?_) | (refine Zj ?_; try intro _)) <;> ((try simp only [kM, kN, kO]); refine Za ?_; refine Zl ?_))) | (refine Xn (i := 13) (j := 15) ?_ ?_ <;> ((try refine Zk ?_); (first | (refine Zc (.func 123) ?_; refine qC rfl rfl ((hat _ hf1)) ?_; rintro v ρ' L' hle ⟨rfl, rfl, rfl⟩ <;> (try simp only [kM, kN, kO])) | (simp only [hix1]; refine Zc (.func 91) ?_; refine qC rfl rfl (hk1 _) ?_; rintro v2 ρ2 L2 hle2 ⟨rfl, rfl, hD2, rfl⟩; try simp only [kM, kN, kO]) | (refine Zf ?_; refine qQ ?_) | (refine Zj ?_; try intro _)) <;> ((try simp only [kM, kN, kO]); refine Za ?_; refine Zl ?_))))
    all_goals (first | (refine Zm (i := 15) ?_; ((try refine Zk ?_); (first | (refine Zf ?_; refine qQ ?_) | (refine Zj ?_; try intro _)) <;> ((try simp only [kM, kN, kO]); refine Za ?_; refine Zl ?_))) | (refine Zm (i := 13) ?_; ((try refine Zk ?_); (first | (refine Zc (.func 123) ?_; refine qC rfl rfl ((hat _ hf1)) ?_; rintro v ρ' L' hle ⟨rfl, rfl, rfl⟩ <;> (try simp only [kM, kN, kO])) | (simp only [hix1]; refine Zc (.func 91) ?_; refine qC rfl rfl (hk1 _) ?_; rintro v2 ρ2 L2 hle2 ⟨rfl, rfl, hD2, rfl⟩; try simp only [kM, kN, kO]) | (refine Zf ?_; refine qQ ?_) | (refine Zj ?_; try intro _)) <;> ((try simp only [kM, kN, kO]); refine Za ?_; refine Zl ?_))))
    all_goals (refine ZN ?_; refine rAs 16 ?_; refine ZI ?_)
    all_goals try simp only [hcb]
    all_goals (repeat' (first | (refine Zc (.tmp 32) ?_; refine qY rfl rfl (hyE _ hl01 hjj) ?_; rintro v ρ' L' hle ⟨Lj', rfl, ⟨rfl, hj'⟩ | ⟨rfl, hj'⟩⟩ <;> (try simp only [kM, kN, kO])) | (refine Zg ?_; first | (refine Zf ?_; refine qQ ?_) | refine Zj ?_ | refine qAn ?_ | refine qXo ?_ | refine qNt ?_) | refine Za ?_ | (refine Zh ?_; refine Zu ?_) | (refine Zi ?_; refine Zv ?_) | intro _))
    all_goals first | exact qE (L' := ZA db k Db ++ Lj') ⟨Lj', .inl ⟨by show ZA db k Db ++ Lj' = ZA db k (slD D base num (YO D base num).length) ++ Lj'; rw [hln, hSd], by rw [hfull]; exact hj'⟩⟩ | exact qE (L' := ZA db k Db ++ Lj') ⟨Lj', .inr ⟨List.take j (YO D base num) ++ [(zSl, e1)], by show ZA db k Db ++ Lj' = ZA db k (slD D base num _) ++ Lj'; rw [← hfull, hln, hSd], hj'⟩⟩
  ·have hRE : RES = (D1, (s0, s1), 0) := by rw [hR, if_neg (by simp), if_neg (by simp)]
   subst hRE
   have hsY : slY num (D1, (s0, s1), 0) = (slotAt num s0 s1, 0) := if_neg (by simp)
   rw [hsY] at hy hts
   have hsa := fun ρ => says_spec ρ num hn s0 s1 hs0 hs1
   have hsm := fun ρ => stamps_spec ρ num hn s0 s1 hs0 hs1
   repeat' (first | (refine Zc (.func 182) ?_; refine qC rfl rfl (hsa _) ?_; rintro v3 ρ3 L3 hle3 ⟨hl3, w, rfl, hC, rfl⟩; have hb3' := Hp.at' hl3 hb3; try simp only [kM, kN, kO]) | (refine Zg ?_; first | (refine Zf ?_; refine qQ ?_) | refine Zj ?_ | refine qAn ?_ | refine qXo ?_ | refine qNt ?_) | refine Za ?_ | (refine Zh ?_; refine Zu ?_) | (refine Zi ?_; refine Zv ?_) | intro _)
   repeat' (first | (refine Zc (.func 183) ?_; refine qC rfl rfl (hsm _) ?_; rintro v4 ρ4 L4 hle4 ⟨rfl, hl4, rfl⟩; try simp only [kM, kN, kO]) | (refine Zg ?_; first | (refine Zf ?_; refine qQ ?_) | refine Zj ?_ | refine qAn ?_ | refine qXo ?_ | refine qNt ?_) | refine Za ?_ | (refine Zh ?_; refine Zu ?_) | (refine Zi ?_; refine Zv ?_) | intro _)
   have hl14 := Hp.le_trans hl3 hl4
   have hyG := hy [.agg ⟨slV (slotAt num s0 s1) w⟩, .int .i64 0] ρ4 L1 (Hp.le_trans hl01 hl14) ⟨w, rfl, hC.mono hl4⟩ (hM _ _ _ _ hl14 hjj)
   repeat' (first | (refine Zc (.tmp 47) ?_; refine qY rfl rfl (hyG) ?_; rintro v ρ' L' hle ⟨Lj', rfl, ⟨rfl, hj'⟩ | ⟨rfl, hj'⟩⟩ <;> (try simp only [kM, kN, kO])) | (refine Zg ?_; first | (refine Zf ?_; refine qQ ?_) | refine Zj ?_ | refine qAn ?_ | refine qXo ?_ | refine qNt ?_) | refine Za ?_ | (refine Zh ?_; refine Zu ?_) | (refine Zi ?_; refine Zv ?_) | intro _)
   ·have hD1e : D1 = slD D base num (j + 1) := hSd.symm
    have hfl : j + 1 < 2 → j + 1 < (YO D base num).length := fun h => by
     have := hlen2 (by omega) rfl; omega
    repeat' (first | (refine Zg ?_; first | (refine Zf ?_; refine qQ ?_) | refine Zj ?_ | refine qAn ?_ | refine qXo ?_ | refine qNt ?_) | refine Za ?_ | (refine Zh ?_; refine Zu ?_) | (refine Zi ?_; refine Zv ?_) | intro _)
    rw [hD1e]
    refine Zx (j + 1, ρ', Lj') (⟨hk2, Hp.le_trans hle1 (Hp.le_trans hl14 hle), by dsimp only; rw [hts]; exact hj', hfl⟩) Zo Zo rfl tk inferInstance (by first | omega | (dsimp only; omega))
   ·exact qE (L' := ZA db k D1 ++ Lj') ⟨Lj', .inr ⟨List.take j (YO D base num) ++ [(slotAt num s0 s1, 0)], by show ZA db k D1 ++ Lj' = ZA db k (slD D base num _) ++ Lj'; rw [List.length_append, List.length_singleton, List.length_take, Nat.min_eq_left (by omega), hSd], hj'⟩⟩
 ·have h2 : j = 2 := by omega
  subst h2
  have hln : (YO D base num).length = 2 := by omega
  rw [List.take_of_length_le (by omega)] at hjj
  repeat' (first | (refine Zg ?_; first | (refine Zf ?_; refine qQ ?_) | refine Zj ?_ | refine qAn ?_ | refine qXo ?_ | refine qNt ?_) | refine Za ?_ | (refine Zh ?_; refine Zu ?_) | (refine Zi ?_; refine Zv ?_) | intro _)
  exact qE (L' := ZA db k (slD D base num 2) ++ L1) ⟨L1, .inl ⟨by show ZA db k (slD D base num 2) ++ L1 = ZA db k (slD D base num (YO D base num).length) ++ L1; rw [hln], hjj⟩⟩
theorem slots_spec (ρ : Hp) (fb num : Nat) :
  Spec Tryz.prog 125 [.pointer (some ⟨fb, 0, none⟩), .int .i64 num] ρ [] (fun v ρ' L' => ρ.le ρ' ∧ ∃ b2 b3, v = .func (.func 181) ⟨[]⟩ ⟨[.pointer (some ⟨b2, 0, none⟩), .pointer (some ⟨b3, 0, none⟩)]⟩ ∧ ρ' b2 = some (.cells ⟨[.pointer (some ⟨fb, 0, none⟩)]⟩ 56 (0, 0)) ∧ ρ' b3 = some (.cells ⟨[.int .i64 num]⟩ 3 (0, 0)) ∧ L' = []) := by
 refine Ze Tryz.func125 rfl rfl rfl fun u R => ?_
 simp only [Zt, List.cons_append, List.nil_append]
 repeat' (first | (refine Zg ?_; first | (refine Zf ?_; refine qQ ?_) | refine Zj ?_ | refine qAn ?_ | refine qXo ?_ | refine qNt ?_) | refine Za ?_ | (refine Zh ?_; refine Zu ?_) | (refine Zi ?_; refine Zv ?_) | intro _)
 rename_i b2 b3
 refine Xs [(b2, .cells ⟨[.pointer (some ⟨fb, 0, none⟩)]⟩ 56 (0, 0))] (h := by infer_instance) (fun ρ1 hl1 hf1 => ?_)
 refine Xs [(b3, .cells ⟨[.int .i64 num]⟩ 3 (0, 0))] (h := by infer_instance) (fun ρ2 hl2 hf2 => ?_)
 have h1 := Hp.at' hl2 (hf1 _ (List.mem_singleton.2 rfl))
 have h2 := hf2 _ (List.mem_singleton.2 rfl)
 have hfin := Hp.le_trans hl1 hl2
 exact qE (L' := []) ⟨hfin, b2, b3, rfl, h1, h2, rfl⟩
structure CS where
 best : SlD
 other : Nat
 most : Nat
def CS.step (a : CS) (which : Nat) (s : SlD) : CS :=
 if s.right = true ∧ (a.best.right = false ∨ a.best.stamp < s.stamp) then ⟨s, 1 - which, max a.most s.most⟩ else ⟨a.best, a.other, max a.most s.most⟩
def csTo (D : DS) (base num : Nat) : Nat → CS
 | 0 => ⟨zSl, 0, 0⟩
 | k + 1 => (csTo D base num k).step k (slY num (slR D base num k)).1
theorem pre_last {α : Type} {pre X : List α} {y : α} (h : pre ++ [y] <+: X) : ∃ hl : pre.length < X.length, X[pre.length] = y := by
 obtain ⟨t, rfl⟩ := h
 exact ⟨by simp, by simp⟩
theorem saysF_lt (num : Nat) (a b : Blk) : (YA num a b).stamp < 18446744073709551616 ∧ (YA num a b).lsn < 18446744073709551616 := by
 unfold YA
 split
 ·exact ⟨by decide, by decide⟩
 ·exact ⟨unbe_take8 _, unbe_take8 _⟩
theorem stampsF_lt (num : Nat) (a b : Blk) : Wm num a b < 18446744073709551616 := by
 have h1 := stampOf_lt a; have h2 := stampOf_lt b
 unfold Wm stampR
 repeat' split
 all_goals omega
structure SlLt (s : SlD) : Prop where
 stamp : s.stamp < 18446744073709551616
 lsn : s.lsn < 18446744073709551616
 most : s.most < 18446744073709551616
theorem zSl_lt : SlLt zSl := ⟨by decide, by decide, by decide⟩
theorem slY_lt (num : Nat) (r : DS × (Blk × Blk) × Int) : SlLt (slY num r).1 := by
 unfold slY
 split
 ·exact zSl_lt
 ·exact ⟨(saysF_lt _ _ _).1, (saysF_lt _ _ _).2, stampsF_lt _ _ _⟩
theorem csTo_lt (D : DS) (base num : Nat) : ∀ k, SlLt (csTo D base num k).best ∧ (csTo D base num k).most < 18446744073709551616 ∧ (csTo D base num k).other < 2
 | 0 => ⟨zSl_lt, by show (0 : Nat) < _; omega, by show (0 : Nat) < 2; omega⟩
 | k + 1 => by
  obtain ⟨h1, h2, h3⟩ := csTo_lt D base num k
  have h4 := slY_lt num (slR D base num k)
  have h5 := h4.most
  rw [csTo, CS.step]
  split
  ·exact ⟨h4, by dsimp only; omega, by dsimp only; omega⟩
  ·exact ⟨h1, by dsimp only; omega, h3⟩
def ZE (D : DS) (base num : Nat) : (SlD × Nat) × DS × Int :=
 if (slR D base num 0).2.2 ≠ 0 then ((zSl, 0), (slR D base num 0).1, (slR D base num 0).2.2)
 else if (slR D base num 1).2.2 ≠ 0 then ((zSl, 0), (slR D base num 1).1, (slR D base num 1).2.2)
 else (({ (csTo D base num 2).best with most := (csTo D base num 2).most }, (csTo D base num 2).other), slD D base num 2, 0)
abbrev cntC (b4 b5 b6 b7 b8 : Nat) (s : SlD) (w : CV) (other : Int) (e which : Int) (most : Nat) : SH := [[(b4, .cells ⟨slV s w⟩ 151 (0, 0))], [(b5, .cells ⟨[.int .i64 other]⟩ 3 (0, 0))], [(b6, .cells ⟨[.int .i64 e]⟩ 25 (0, 0))], [(b7, .cells ⟨[.int .i64 which]⟩ 3 (0, 0))], [(b8, .cells ⟨[.int .u64 most]⟩ 22 (0, 0))]]
abbrev zCV : CV := ⟨none, 0, 0, none, 0, 0⟩
theorem fcounts_spec (ρ : Hp) (fb db base num : Nat) (hf : FIn ρ fb db base) (hb : base ≤ 100000) (hn : num < 64) (k : DK) (D : DS) (hD : DOk k D) :
  Spec Tryz.prog 75 [.pointer (some ⟨fb, 0, none⟩), .int .i64 num] ρ (ZA db k D) (fun v ρ' L' => ρ.le ρ' ∧ ∃ w, v = .tuple ⟨[.agg ⟨slV (ZE D base num).1.1 w⟩, .int .i64 (ZE D base num).1.2, .int .i64 (ZE D base num).2.2]⟩ ∧ CIn ρ' w (ZE D base num).1.1.c.rows (ZE D base num).1.1.c.kids ∧ DOk k (ZE D base num).2.1 ∧ L' = ZA db k (ZE D base num).2.1) := by
 refine Ze Tryz.func75 rfl rfl rfl fun u R => ?_
 simp only [Zt, List.cons_append, List.nil_append]
 repeat' (first | (refine Zc (.func 125) ?_; refine qC rfl rfl (slots_spec _ fb num) ?_; rintro v1 ρ1 L1 hle1 ⟨hl1, c2, c3, rfl, hc2, hc3, rfl⟩; try simp only [kM, kN, kO]) | (refine Zg ?_; first | (refine Zf ?_; refine qQ ?_) | refine Zj ?_ | refine qAn ?_ | refine qXo ?_ | refine qNt ?_) | refine Za ?_ | (refine Zh ?_; refine Zu ?_) | (refine Zi ?_; refine Zv ?_) | intro _)
 rename_i b4 b5 b6 b7 b8
 have hf1 := hf.mono hl1
 have hIt := slots_iter ρ1 c2 c3 fb db base num hf1 hc2 hc3 hb hn k D hD
 have hXl : (YO D base num).length ≤ 2 := by unfold YO; split <;> simp
 have hlt := csTo_lt D base num
 refine tc_rangeFuncS (S := fun pre => ZA db k (slD D base num pre.length)) (L0 := cntC b4 b5 b6 b7 b8 zSl zCV 0 0 0 0) (R := R) (R0 := [(b8, .cells ⟨[.int .u64 0]⟩ 22 (0, 0))] :: [(b7, .cells ⟨[.int .i64 0]⟩ 3 (0, 0))] :: [(b6, .cells ⟨[.int .i64 0]⟩ 25 (0, 0))] :: [(b5, .cells ⟨[.int .i64 0]⟩ 3 (0, 0))] :: [(b4, .cells ⟨slV zSl zCV⟩ 151 (0, 0))] :: R) rfl rfl hIt (Hp.le_refl _) (fun ρ y vs ⟨w, e, _⟩ => by rw [e]; rfl) rfl
  (fun pre ρ2 Lu => ρ1.le ρ2 ∧ (∀ j, j < pre.length → (slR D base num j).2.2 = 0) ∧ ∃ w, CIn ρ2 w (csTo D base num pre.length).best.c.rows (csTo D base num pre.length).best.c.kids ∧ Lu = cntC b4 b5 b6 b7 b8 (csTo D base num pre.length).best w (csTo D base num pre.length).other 0 pre.length (csTo D base num pre.length).most)
  (fun pre c ρ2 Lu => c = .ret ∧ ρ1.le ρ2 ∧ ∃ which most e, e ≠ 0 ∧ ZE D base num = ((zSl, 0), slD D base num pre.length, e) ∧ Lu = cntC b4 b5 b6 b7 b8 zSl zCV 0 e which most)
  ?k1 ?k2 (fun pre ρ2 ρ3 Lj h23 ⟨h1, h2, w, h3, h4⟩ => ⟨Hp.le_trans h1 h23, h2, w, h3.mono h23, h4⟩) ⟨Hp.le_refl _, by simp, zCV, CIn.nil, rfl⟩ ?round ?done ?stop
 case k1 => exact tk
 case k2 => exact tk
 case round =>
  rintro l tm r pre y vs ρ2 Lu u R' hpre hl2 ⟨w, rfl, hC⟩ ⟨hl3, hno, w0, hC0, rfl⟩ hr hrec
  obtain ⟨hpl, hy⟩ := pre_last hpre
  rw [slotsX_at hpl] at hy
  have hp2 : pre.length < 2 := by omega
  simp only [envP, List.cons_append, List.nil_append, List.length_append, List.length_singleton]
  have hq := hlt pre.length
  repeat' (first | (refine Zg ?_; first | (refine Zf ?_; refine qQ ?_) | refine Zj ?_ | refine qAn ?_ | refine qXo ?_ | refine qNt ?_) | refine Za ?_ | (refine Zh ?_; refine Zu ?_) | (refine Zi ?_; refine Zv ?_) | intro _)
  refine ZV [(l, .loop r)] ?_
  refine te_begin rfl hr (fun r' hbz hrec' => ?_)
  rename_i b9
  have hy2 : y.2 = (slR D base num pre.length).2.2 := by
   rw [← hy]; unfold slY; split
   ·rfl
   ·rename_i hc; simp only [ne_eq, Decidable.not_not] at hc; rw [hc]
  by_cases he : y.2 = 0
  ·have hno' : ∀ j, j < pre.length + 1 → (slR D base num j).2.2 = 0 := fun j hj => by
    rcases (show j < pre.length ∨ j = pre.length by omega) with h | h
    ·exact hno j h
    ·rw [h, ← hy2, he]
   have Vh : csTo D base num (pre.length + 1) = (csTo D base num pre.length).step pre.length y.1 := by rw [← hy]; rfl
   have hsl := slY_lt num (slR D base num pre.length)
   rw [hy] at hsl
   obtain ⟨s, e⟩ := y
   dsimp only at he Vh hC hsl
   subst he
   clear hy hy2
   unfold CS.step at Vh
   obtain ⟨hb1, hb2, hb3⟩ := hq
   have hb4 := hb1.stamp
   have hb5 := hsl.stamp
   have hb6 := hsl.most
   generalize csTo D base num pre.length = a at *
   obtain ⟨sst, sls, sc, srt, smo⟩ := s
   obtain ⟨⟨bst, bls, bc, brt, bmo⟩, aot, amo⟩ := a
   dsimp only at *
   have h1w : (1 : Int) - (pre.length : Int) = ((1 - pre.length : Nat) : Int) := by omega
   have h2w : (pre.length : Int) + 1 = ((pre.length + 1 : Nat) : Int) := by omega
   have h3m : max ((amo : Nat) : Int) ((smo : Nat) : Int) = ((max amo smo : Nat) : Int) := by omega
   cases srt
   ·skip
    rw [if_neg (by simp)] at Vh
    repeat' (first | (refine Zg ?_; first | (refine Zf ?_; refine qQ ?_) | refine Zj ?_ | refine qAn ?_ | refine qXo ?_ | refine qNt ?_) | refine Za ?_ | (refine Zh ?_; refine Zu ?_) | (refine Zi ?_; refine Zv ?_) | intro _)
    simp only [h2w, h3m]
    refine ZV [(l, .loop r')] ?_
    refine Vx (Lu := cntC b4 b5 b6 b7 b8 ⟨bst, bls, bc, brt, bmo⟩ w0 aot 0 ((pre.length + 1 : Nat) : Int) (max amo smo)) rfl (Hp.le_refl _) ⟨hrec'.tmps.trans hrec.tmps, hrec'.params.trans hrec.params, hrec'.assign.trans hrec.assign, hrec'.body.trans hrec.body⟩ tk tk inferInstance ?_
    exact ⟨hl3, hno', w0, by rw [Vh]; exact hC0, by rw [Vh]⟩
   ·cases brt
    ·skip
     rw [if_pos (by simp)] at Vh
     repeat' (first | (refine Zg ?_; first | (refine Zf ?_; refine qQ ?_) | refine Zj ?_ | refine qAn ?_ | refine qXo ?_ | refine qNt ?_) | refine Za ?_ | (refine Zh ?_; refine Zu ?_) | (refine Zi ?_; refine Zv ?_) | intro _)
     refine Zz (Zr _ _ ([[(b9, .cells ⟨slV ⟨sst, sls, sc, true, smo⟩ w⟩ 151 (0, 0))], [(b7, .cells ⟨[.int .i64 (pre.length : Nat)]⟩ 3 (0, 0))]])) (Zy (hT := tk) (Hp.le_refl _)) ?_
     all_goals (refine ZX 0 ?_; refine ZX 1 ?_; refine rSb 2 ?_)
     all_goals (refine Zm (i := 3) ?_; ((try refine Zk ?_); (first | (refine Zj ?_; try intro _)) <;> ((try simp only [kM, kN, kO]); refine Za ?_; refine Zl ?_)))
     all_goals (refine Zm (i := 4) ?_; ((try refine Zk ?_); (first | (refine Zj ?_; try intro _)) <;> ((try simp only [kM, kN, kO]); refine Za ?_; refine Zl ?_)))
     all_goals refine ZI ?_
     all_goals (repeat' (first | (refine Zg ?_; first | (refine Zf ?_; refine qQ ?_) | refine Zj ?_ | refine qAn ?_ | refine qXo ?_ | refine qNt ?_) | refine Za ?_ | (refine Zh ?_; refine Zu ?_) | (refine Zi ?_; refine Zv ?_) | intro _))
     all_goals simp only [h1w, h2w, h3m]
     all_goals refine ZV [(l, .loop r')] ?_
     all_goals refine Vx (Lu := cntC b4 b5 b6 b7 b8 ⟨sst, sls, sc, true, smo⟩ w ((1 - pre.length : Nat) : Int) 0 ((pre.length + 1 : Nat) : Int) (max amo smo)) rfl (Hp.le_refl _) ⟨hrec'.tmps.trans hrec.tmps, hrec'.params.trans hrec.params, hrec'.assign.trans hrec.assign, hrec'.body.trans hrec.body⟩ tk tk inferInstance ?_
     all_goals exact ⟨hl3, hno', w, by rw [Vh]; exact hC, by rw [Vh]⟩
    ·by_cases hlt2 : bst < sst
     ·have hlt3 : ((bst : Nat) : Int) < ((sst : Nat) : Int) := by omega
      rw [if_pos (⟨rfl, .inr hlt2⟩)] at Vh
      repeat' (first | (refine Zg ?_; first | (refine Zf ?_; refine qQ ?_) | refine Zj ?_ | refine qAn ?_ | refine qXo ?_ | refine qNt ?_) | refine Za ?_ | (refine Zh ?_; refine Zu ?_) | (refine Zi ?_; refine Zv ?_) | intro _)
      refine Zz (Zr _ _ ([[(b9, .cells ⟨slV ⟨sst, sls, sc, true, smo⟩ w⟩ 151 (0, 0))], [(b7, .cells ⟨[.int .i64 (pre.length : Nat)]⟩ 3 (0, 0))]])) (Zy (hT := tk) (Hp.le_refl _)) ?_
      all_goals (refine ZX 0 ?_; refine ZX 1 ?_; refine rSb 2 ?_)
      all_goals (refine Zm (i := 3) ?_; ((try refine Zk ?_); (first | (refine Zj ?_; try intro _)) <;> ((try simp only [kM, kN, kO]); refine Za ?_; refine Zl ?_)))
      all_goals (refine Zm (i := 4) ?_; ((try refine Zk ?_); (first | (refine Zj ?_; try intro _)) <;> ((try simp only [kM, kN, kO]); refine Za ?_; refine Zl ?_)))
      all_goals refine ZI ?_
      all_goals (repeat' (first | (refine Zg ?_; first | (refine Zf ?_; refine qQ ?_) | refine Zj ?_ | refine qAn ?_ | refine qXo ?_ | refine qNt ?_) | refine Za ?_ | (refine Zh ?_; refine Zu ?_) | (refine Zi ?_; refine Zv ?_) | intro _))
      all_goals simp only [h1w, h2w, h3m]
      all_goals refine ZV [(l, .loop r')] ?_
      all_goals refine Vx (Lu := cntC b4 b5 b6 b7 b8 ⟨sst, sls, sc, true, smo⟩ w ((1 - pre.length : Nat) : Int) 0 ((pre.length + 1 : Nat) : Int) (max amo smo)) rfl (Hp.le_refl _) ⟨hrec'.tmps.trans hrec.tmps, hrec'.params.trans hrec.params, hrec'.assign.trans hrec.assign, hrec'.body.trans hrec.body⟩ tk tk inferInstance ?_
      all_goals exact ⟨hl3, hno', w, by rw [Vh]; exact hC, by rw [Vh]⟩
     ·have hlt3 : ¬ ((bst : Nat) : Int) < ((sst : Nat) : Int) := by omega
      rw [if_neg (by simp; omega)] at Vh
      repeat' (first | (refine Zg ?_; first | (refine Zf ?_; refine qQ ?_) | refine Zj ?_ | refine qAn ?_ | refine qXo ?_ | refine qNt ?_) | refine Za ?_ | (refine Zh ?_; refine Zu ?_) | (refine Zi ?_; refine Zv ?_) | intro _)
      simp only [h2w, h3m]
      refine ZV [(l, .loop r')] ?_
      refine Vx (Lu := cntC b4 b5 b6 b7 b8 ⟨bst, bls, bc, true, bmo⟩ w0 aot 0 ((pre.length + 1 : Nat) : Int) (max amo smo)) rfl (Hp.le_refl _) ⟨hrec'.tmps.trans hrec.tmps, hrec'.params.trans hrec.params, hrec'.assign.trans hrec.assign, hrec'.body.trans hrec.body⟩ tk tk inferInstance ?_
      exact ⟨hl3, hno', w0, by rw [Vh]; exact hC0, by rw [Vh]⟩
  ·have hcb : (y.2 != 0) = true := by simpa using he
   have hcd : ZE D base num = ((zSl, 0), slD D base num (pre.length + 1), y.2) := by
    rw [hy2] at he ⊢
    unfold ZE
    rcases (show pre.length = 0 ∨ pre.length = 1 by omega) with h | h
    ·rw [h] at he ⊢; rw [if_pos he]; rfl
    ·rw [h] at he ⊢; rw [if_neg (by have := hno 0 (by omega); simp [this]), if_pos he]; rfl
   repeat' (first | (refine Zg ?_; first | (refine Zf ?_; refine qQ ?_) | refine Zj ?_ | refine qAn ?_ | refine qXo ?_ | refine qNt ?_) | refine Za ?_ | (refine Zh ?_; refine Zu ?_) | (refine Zi ?_; refine Zv ?_) | intro _)
   refine ZV [(l, .loop r')] ?_
   refine te_leave (Lu := cntC b4 b5 b6 b7 b8 zSl zCV 0 y.2 pre.length (csTo D base num pre.length).most) rfl rfl (Hp.le_refl _) ⟨hrec'.tmps.trans hrec.tmps, hrec'.params.trans hrec.params, hrec'.assign.trans hrec.assign, hrec'.body.trans hrec.body⟩ tk tk inferInstance ?_
   exact ⟨rfl, hl3, _, _, y.2, he, hcd, rfl⟩
 case done =>
  rintro D0 ρ2 Lu hl2 ⟨hl3, hno, w, hC, rfl⟩
  have h0 : (slR D base num 0).2.2 = 0 := hno 0 (by unfold YO; split <;> simp)
  have hln := slotsX_len h0
  have h1 := hno 1 (by omega)
  have hcd : ZE D base num = (({ (csTo D base num 2).best with most := (csTo D base num 2).most }, (csTo D base num 2).other), slD D base num 2, 0) := by
   unfold ZE
   rw [if_neg (by simp [h0]), if_neg (by simp [h1])]
  rw [hln] at hC
  simp only [List.cons_append, List.nil_append, hln]
  generalize csTo D base num 2 = a at *
  obtain ⟨⟨bst, bls, bc, brt, bmo⟩, aot, amo⟩ := a
  dsimp only at *
  have hfin := Hp.le_trans hl1 hl3
  repeat' (first | (refine Zg ?_; first | (refine Zf ?_; refine qQ ?_) | refine Zj ?_ | refine qAn ?_ | refine qXo ?_ | refine qNt ?_) | refine Za ?_ | (refine Zh ?_; refine Zu ?_) | (refine Zi ?_; refine Zv ?_) | intro _)
  refine Zz (Zr _ _ ([])) (Zy (hT := tk) (Hp.le_refl _)) ?_
  all_goals (refine Xn (i := 0) (j := 1) ?_ ?_ <;> ((try refine Zk ?_); (first | (refine Zf ?_; refine qQ ?_) | (refine Zj ?_; try intro _)) <;> ((try simp only [kM, kN, kO]); refine Za ?_; refine Zl ?_)))
  all_goals (first | (refine Xn (i := 1) (j := 2) ?_ ?_ <;> ((try refine Zk ?_); (first | (refine Zf ?_; refine qQ ?_) | (refine Zj ?_; try intro _)) <;> ((try simp only [kM, kN, kO]); refine Za ?_; refine Zl ?_))) | (refine Zm (i := 0) ?_; ((try refine Zk ?_); (first | (refine Zf ?_; refine qQ ?_) | (refine Zj ?_; try intro _)) <;> ((try simp only [kM, kN, kO]); refine Za ?_; refine Zl ?_))))
  all_goals (first | (refine Zm (i := 2) ?_; ((try refine Zk ?_); (first | (refine Zf ?_; refine qQ ?_) | (refine Zj ?_; try intro _)) <;> ((try simp only [kM, kN, kO]); refine Za ?_; refine Zl ?_))) | (refine Zm (i := 1) ?_; ((try refine Zk ?_); (first | (refine Zf ?_; refine qQ ?_) | (refine Zj ?_; try intro _)) <;> ((try simp only [kM, kN, kO]); refine Za ?_; refine Zl ?_))))
  all_goals (refine Zm (i := 3) ?_; ((try refine Zk ?_); (first | (refine Zf ?_; refine qQ ?_) | (refine Zj ?_; try intro _)) <;> ((try simp only [kM, kN, kO]); refine Za ?_; refine Zl ?_)))
  all_goals (refine Zm (i := 4) ?_; ((try refine Zk ?_); (first | (refine Zf ?_; refine qQ ?_) | (refine Zj ?_; try intro _)) <;> ((try simp only [kM, kN, kO]); refine Za ?_; refine Zl ?_)))
  all_goals refine ZI ?_
  all_goals (repeat' (first | (refine Zg ?_; first | (refine Zf ?_; refine qQ ?_) | refine Zj ?_ | refine qAn ?_ | refine qXo ?_ | refine qNt ?_) | refine Za ?_ | (refine Zh ?_; refine Zu ?_) | (refine Zi ?_; refine Zv ?_) | intro _))
  all_goals refine ZV [(D0, .deferred (some []))] ?_
  all_goals rw [hcd]
  all_goals exact Wa rfl rfl rfl inferInstance (Vn rfl (ZZ rfl rfl) (ZJ rfl rfl) (ZJ rfl rfl)) hfin tk (by infer_instance) (L' := ZA db k (slD D base num 2)) ⟨hfin, w, rfl, hC, slD_dok hD 2, rfl⟩
 case stop =>
  rintro D0 pre c ρ2 Lu hl2 ⟨rfl, hl3, which, most, e, he, hcd, rfl⟩
  simp only [List.cons_append, List.nil_append]
  have hfin := Hp.le_trans hl1 hl3
  repeat' (first | (refine Zg ?_; first | (refine Zf ?_; refine qQ ?_) | refine Zj ?_ | refine qAn ?_ | refine qXo ?_ | refine qNt ?_) | refine Za ?_ | (refine Zh ?_; refine Zu ?_) | (refine Zi ?_; refine Zv ?_) | intro _)
  refine ZV [(D0, .deferred (some []))] ?_
  rw [hcd]
  exact Wa rfl rfl rfl inferInstance (Vn rfl (ZZ rfl rfl) (ZJ rfl rfl) (ZJ rfl rfl)) hfin tk (by infer_instance) (L' := ZA db k (slD D base num pre.length)) ⟨hfin, zCV, rfl, CIn.nil, slD_dok hD _, rfl⟩
theorem row_spec (ρ0 ρ : Hp) (fb base : Nat) (g : Nat) (cs : List Value) (S : SH) (xs : List (Nat × Blk)) (hl0 : ρ0.le ρ) (hI : Iter Tryz.prog g [] cs pencV ρ0 S xs) [hF : Yf Tryz.prog g] (h64 : ∀ p ∈ xs, p.2.length = 64) (b : Nat) (hf : FIn ρ fb b base) (k : DK) (D : DS) (hD : DOk k D) :
  Spec Tryz.prog 116 [.pointer (some ⟨fb, 0, none⟩), .func (.func g) ⟨[]⟩ ⟨cs⟩] ρ (S ++ ZA b k D) (fun v ρ' L' => v = .int .i64 (DS.lays xs D).2 ∧ ρ.le ρ' ∧ ∃ k', DOk k' (DS.lays xs D).1 ∧ L' = S ++ ZA b k' (DS.lays xs D).1) := by
 refine Ze Tryz.func116 rfl rfl rfl fun u R => ?_
 simp only [Zt, List.cons_append, List.nil_append, List.append_assoc]
 repeat' (first | (refine Zg ?_; first | (refine Zf ?_; refine qQ ?_) | refine Zj ?_ | refine qAn ?_ | refine qXo ?_ | refine qNt ?_) | refine Za ?_ | (refine Zh ?_; refine Zu ?_) | (refine Zi ?_; refine Zv ?_) | intro _)
 rename_i b2 b4
 refine tc_rangeFunc (S := S) (L0 := [[(b2, .cells ⟨[.pointer (some ⟨fb, 0, none⟩)]⟩ 56 (0, 0))], [(b4, .cells ⟨[.int .i64 0]⟩ 25 (0, 0))]] ++ ZA b k D) (R := R) (R0 := [(b4, .cells ⟨[.int .i64 0]⟩ 25 (0, 0))] :: [(b2, .cells ⟨[.pointer (some ⟨fb, 0, none⟩)]⟩ 56 (0, 0))] :: (ZA b k D ++ R)) rfl rfl hI hl0 (fun _ => rfl) rfl
  (fun pre ρ1 Lu => ∃ D1 k1, ρ.le ρ1 ∧ Wr D pre D1 ∧ DOk k1 D1 ∧ Lu = [[(b2, .cells ⟨[.pointer (some ⟨fb, 0, none⟩)]⟩ 56 (0, 0))], [(b4, .cells ⟨[.int .i64 0]⟩ 25 (0, 0))]] ++ ZA b k1 D1)
  (fun c ρ1 Lu => c = .exit 0 ∧ ∃ D2 k2 e, ρ.le ρ1 ∧ e ≠ 0 ∧ DS.lays xs D = (D2, e) ∧ DOk k2 D2 ∧ Lu = [[(b2, .cells ⟨[.pointer (some ⟨fb, 0, none⟩)]⟩ 56 (0, 0))], [(b4, .cells ⟨[.int .i64 e]⟩ 25 (0, 0))]] ++ ZA b k2 D2) ?k1 ?k2 ⟨D, k, Hp.le_refl _, .nil, hD, rfl⟩ ?round ?done ?stop
 case k1 => exact tk
 case k2 => exact tk
 case round =>
  rintro l tm r pre y ρ1 Lu u R' hpre hl1 ⟨D1, k1, hl2, hwr, hD1, rfl⟩ hr hrec
  simp only [envP, List.cons_append, List.nil_append]
  have hm64 := h64 y (hpre.subset (by simp))
  have hy1 := Yr y.2
  have hyl : (y.2.map ZD).length = 64 := by simpa using hm64
  repeat' (first | (refine Zg ?_; first | (refine Zf ?_; refine qQ ?_) | refine Zj ?_ | refine qAn ?_ | refine qXo ?_ | refine qNt ?_) | refine Za ?_ | (refine Zh ?_; refine Zu ?_) | (refine Zi ?_; refine Zv ?_) | intro _)
  refine ZV [(l, .loop r)] ?_
  refine te_begin rfl hr (fun r' hbz hrec' => ?_)
  rename_i b7
  have hfile := (hf.mono hl2).at'
  repeat' (first | (refine Zg ?_; first | (refine Zf ?_; refine qQ ?_) | refine Zj ?_ | refine qAn ?_ | refine qXo ?_ | refine qNt ?_) | refine Za ?_ | (refine Zh ?_; refine Zu ?_) | (refine Zi ?_; refine Zv ?_) | intro _)
  by_cases hc : (D1.write (y.1 : Int) y.2).2 = 0
  ·have hcb : ((D1.write (y.1 : Int) y.2).2 != 0) = false := by simpa using hc
   have hw2 := hwr.snoc hc
   refine Zz (Zr _ _ ([[(b2, .cells ⟨[.pointer (some ⟨fb, 0, none⟩)]⟩ 56 (0, 0))], [(b7, .cells ⟨y.2.map ZD⟩ 172 (0, 0))]])) (Zy (hT := tk) (Hp.le_refl _)) ?_
   all_goals (refine ZX 0 ?_; refine rNc 1 ?_; refine Yv 2 ?_; refine ZX 3 ?_; refine ZO 4 ?_; refine ZX 5 ?_)
   all_goals (refine Zm (i := 6) ?_; ((try refine Zk ?_); (first | (refine Zc (.func 133) ?_; refine qC rfl rfl (kwrite _ b k1 D1 y.1 y.2 hm64 hD1) ?_; rintro v ρ' L' hle ⟨rfl, rfl, k2, hD2, rfl⟩ <;> (try simp only [kM, kN, kO])) | (refine Zj ?_; try intro _)) <;> ((try simp only [kM, kN, kO]); refine Za ?_; refine Zl ?_)))
   all_goals (refine Zm (i := 7) ?_; ((try refine Zk ?_); (first | (refine Zj ?_; try intro _)) <;> ((try simp only [kM, kN, kO]); refine Za ?_; refine Zl ?_)))
   all_goals refine ZI ?_
   simp only [hc]
   repeat' (first | (refine Zg ?_; first | (refine Zf ?_; refine qQ ?_) | refine Zj ?_ | refine qAn ?_ | refine qXo ?_ | refine qNt ?_) | refine Za ?_ | (refine Zh ?_; refine Zu ?_) | (refine Zi ?_; refine Zv ?_) | intro _)
   refine ZV [(l, .loop r')] ?_
   refine Vx (Lu := [[(b2, .cells ⟨[.pointer (some ⟨fb, 0, none⟩)]⟩ 56 (0, 0))], [(b4, .cells ⟨[.int .i64 0]⟩ 25 (0, 0))]] ++ ZA b k2 (D1.write (y.1 : Int) y.2).1) rfl (Hp.le_refl _) ⟨hrec'.tmps.trans hrec.tmps, hrec'.params.trans hrec.params, hrec'.assign.trans hrec.assign, hrec'.body.trans hrec.body⟩ tk tk inferInstance ?_
   exact ⟨_, k2, hl2, hw2, hD2, rfl⟩
  ·have hcb : ((D1.write (y.1 : Int) y.2).2 != 0) = true := by simpa using hc
   have hst := hwr.stop hpre hc
   refine Zz (Zr _ _ ([[(b2, .cells ⟨[.pointer (some ⟨fb, 0, none⟩)]⟩ 56 (0, 0))], [(b7, .cells ⟨y.2.map ZD⟩ 172 (0, 0))]])) (Zy (hT := tk) (Hp.le_refl _)) ?_
   all_goals (refine ZX 0 ?_; refine rNc 1 ?_; refine Yv 2 ?_; refine ZX 3 ?_; refine ZO 4 ?_; refine ZX 5 ?_)
   all_goals (refine Zm (i := 6) ?_; ((try refine Zk ?_); (first | (refine Zc (.func 133) ?_; refine qC rfl rfl (kwrite _ b k1 D1 y.1 y.2 hm64 hD1) ?_; rintro v ρ' L' hle ⟨rfl, rfl, k2, hD2, rfl⟩ <;> (try simp only [kM, kN, kO])) | (refine Zj ?_; try intro _)) <;> ((try simp only [kM, kN, kO]); refine Za ?_; refine Zl ?_)))
   all_goals (refine Zm (i := 7) ?_; ((try refine Zk ?_); (first | (refine Zj ?_; try intro _)) <;> ((try simp only [kM, kN, kO]); refine Za ?_; refine Zl ?_)))
   all_goals refine ZI ?_
   repeat' (first | (refine Zg ?_; first | (refine Zf ?_; refine qQ ?_) | refine Zj ?_ | refine qAn ?_ | refine qXo ?_ | refine qNt ?_) | refine Za ?_ | (refine Zh ?_; refine Zu ?_) | (refine Zi ?_; refine Zv ?_) | intro _)
   refine ZV [(l, .loop r')] ?_
   refine te_leave (Lu := [[(b2, .cells ⟨[.pointer (some ⟨fb, 0, none⟩)]⟩ 56 (0, 0))], [(b4, .cells ⟨[.int .i64 (D1.write (y.1 : Int) y.2).2]⟩ 25 (0, 0))]] ++ ZA b k2 (D1.write (y.1 : Int) y.2).1) rfl rfl (Hp.le_refl _) ⟨hrec'.tmps.trans hrec.tmps, hrec'.params.trans hrec.params, hrec'.assign.trans hrec.assign, hrec'.body.trans hrec.body⟩ tk tk inferInstance ?_
   exact ⟨rfl, _, k2, _, hl2, hc, hst, hD2, rfl⟩
 case done =>
  rintro D0 ρ1 Lu hl1 ⟨D1, k1, hl2, hwr, hD1, rfl⟩
  simp only [List.cons_append, List.nil_append]
  have hlay := hwr.lays []
  rw [List.append_nil, DS.lays] at hlay
  rw [hlay]
  have hfile := (hf.mono hl2).at'
  repeat' (first | (refine Zc (.func 134) ?_; refine qC rfl rfl (ksync _ b k1 D1 hD1) ?_; rintro v ρ' L' hle ⟨rfl, hl3, k2, hD2, rfl⟩ <;> (try simp only [kM, kN, kO])) | (refine Zg ?_; first | (refine Zf ?_; refine qQ ?_) | refine Zj ?_ | refine qAn ?_ | refine qXo ?_ | refine qNt ?_) | refine Za ?_ | (refine Zh ?_; refine Zu ?_) | (refine Zi ?_; refine Zv ?_) | intro _)
  refine ZV [(D0, .deferred (some []))] ?_
  exact Wa rfl rfl rfl inferInstance (res1 rfl (Yt rfl)) (Hp.le_trans hl2 hl3) tk (by infer_instance) (L' := S ++ ZA b k2 D1.sync.1) ⟨rfl, Hp.le_trans hl2 hl3, k2, hD2, rfl⟩
 case stop =>
  rintro D0 c ρ1 Lu hl1 ⟨rfl, D2, k2, e, hl2, he, hlay, hD2, rfl⟩
  simp only [List.cons_append, List.nil_append]
  have heb : (e != 0) = true := by simpa using he
  rw [hlay]
  repeat' (first | (refine Zg ?_; first | (refine Zf ?_; refine qQ ?_) | refine Zj ?_ | refine qAn ?_ | refine qXo ?_ | refine qNt ?_) | refine Za ?_ | (refine Zh ?_; refine Zu ?_) | (refine Zi ?_; refine Zv ?_) | intro _)
  refine ZV [(D0, .deferred (some []))] ?_
  exact Wa rfl rfl rfl inferInstance (res1 rfl (Yt rfl)) hl2 tk (by infer_instance) (L' := S ++ ZA b k2 D2) ⟨rfl, hl2, k2, hD2, rfl⟩
theorem page_spec (ρ : Hp) (num : Int) : Spec Tryz.prog 74 [.int .i64 num] ρ [] (fun v ρ' L' => v = .bool (decide (0 ≤ num ∧ num < 64)) ∧ ρ' = ρ ∧ L' = []) := by
 by_cases h0 : 0 ≤ num
 ·by_cases h1 : num < 64
  ·rw [decide_eq_true ⟨h0, h1⟩]
   refine Ze Tryz.func74 rfl rfl rfl fun u R => ?_
   simp only [Zt, List.cons_append, List.nil_append]
   repeat' (first | (refine Zg ?_; first | (refine Zf ?_; refine qQ ?_) | refine Zj ?_ | refine qAn ?_ | refine qXo ?_ | refine qNt ?_) | refine Za ?_ | (refine Zh ?_; refine Zu ?_) | (refine Zi ?_; refine Zv ?_) | intro _)
   exact qE (L' := []) ⟨rfl, rfl, rfl⟩
  ·rw [decide_eq_false (fun h => h1 h.2)]
   refine Ze Tryz.func74 rfl rfl rfl fun u R => ?_
   simp only [Zt, List.cons_append, List.nil_append]
   repeat' (first | (refine Zg ?_; first | (refine Zf ?_; refine qQ ?_) | refine Zj ?_ | refine qAn ?_ | refine qXo ?_ | refine qNt ?_) | refine Za ?_ | (refine Zh ?_; refine Zu ?_) | (refine Zi ?_; refine Zv ?_) | intro _)
   exact qE (L' := []) ⟨rfl, rfl, rfl⟩
 ·rw [decide_eq_false (fun h => h0 h.1)]
  refine Ze Tryz.func74 rfl rfl rfl fun u R => ?_
  simp only [Zt, List.cons_append, List.nil_append]
  repeat' (first | (refine Zg ?_; first | (refine Zf ?_; refine qQ ?_) | refine Zj ?_ | refine qAn ?_ | refine qXo ?_ | refine qNt ?_) | refine Za ?_ | (refine Zh ?_; refine Zu ?_) | (refine Zi ?_; refine Zv ?_) | intro _)
  exact qE (L' := []) ⟨rfl, rfl, rfl⟩
def OpenOk (D : DS) (base : Int) : Prop := 0 ≤ base ∧ base + 256 ≤ D.secs.length
instance (D : DS) (base : Int) : Decidable (OpenOk D base) := by unfold OpenOk; infer_instance
theorem openf_spec (ρ : Hp) (db : Nat) (k : DK) (D : DS) (hD : DOk k D) (base : Nat) (h : base + 256 ≤ D.secs.length) :
  Spec Tryz.prog 86 [.pointer (some ⟨db, 0, none⟩), .int .i64 base] ρ (ZA db k D) (fun v ρ' L' => ρ.le ρ' ∧ ∃ fb, v = .tuple ⟨[.pointer (some ⟨fb, 0, none⟩), .int .i64 0]⟩ ∧ FIn ρ' fb db base ∧ L' = ZA db k D) := by
 have hln := hD.ok.secs.len
 refine Ze Tryz.func86 rfl rfl rfl fun u R => ?_
 simp only [Zt, List.cons_append, List.nil_append]
 repeat' (first | (refine Zc (.func 87) ?_; refine qC rfl rfl (klen _ db k D) ?_; rintro v ρ' L' hle ⟨rfl, rfl, rfl⟩ <;> (try simp only [kM, kN, kO])) | (refine Zg ?_; first | (refine Zf ?_; refine qQ ?_) | refine Zj ?_ | refine qAn ?_ | refine qXo ?_ | refine qNt ?_) | refine Za ?_ | (refine Zh ?_; refine Zu ?_) | (refine Zi ?_; refine Zv ?_) | intro _)
 rename_i fb
 refine Xs [(fb, .cells ⟨[.pointer (some ⟨db, 0, none⟩), .int .i64 base]⟩ 226 (0, 0))] (h := by infer_instance) (fun ρ1 hl1 hf1 => ?_)
 have h1 := hf1 _ (List.mem_singleton.2 rfl)
 have hF : FIn ρ1 fb db base := ⟨h1⟩
 exact qE (L' := ZA db k D) ⟨hl1, fb, rfl, hF, rfl⟩
def ZQ (base : Nat) : List (Nat × Blk) := (List.range 256).map fun i => (base + i, XK)
theorem noughtsF_at {base k : Nat} (hk : k < (ZQ base).length) : (ZQ base)[k] = (base + k, XK) := by simp [ZQ]
theorem noughtsF_len {base : Nat} : (ZQ base).length = 256 := by simp [ZQ]
theorem noughtsF_64 {n : Nat} : ∀ p ∈ ZQ n, p.2.length = 64 := fun p hp => by
 simp only [ZQ, List.mem_map] at hp
 obtain ⟨k, _, rfl⟩ := hp; rfl
theorem noughtsF_iter (ρ0 : Hp) (sb base : Nat) (hn : base ≤ 1000000) : Iter Tryz.prog 117 [] [.pointer (some ⟨sb, 0, none⟩)] pencV ρ0 [[(sb, .cells ⟨[.int .i64 base]⟩ 3 (0, 0))]] (ZQ base) := by
 intro l J Jx hY ρ Lj hl0 hJ
 have hlen := noughtsF_len (base := base)
 refine Ze Tryz.func117 rfl rfl rfl fun u R => ?_
 simp only [Zt, List.cons_append, List.nil_append, List.append_assoc]
 repeat' (first | (refine Zg ?_; first | (refine Zf ?_; refine qQ ?_) | refine Zj ?_ | refine qAn ?_ | refine qXo ?_ | refine qNt ?_) | refine Za ?_ | (refine Zh ?_; refine Zu ?_) | (refine Zi ?_; refine Zv ?_) | intro _)
 refine ZH [(0, _), (1, _)] (fun (ζ : (Nat) × (Hp) × (SH)) => [(4, .int .i64 ζ.1)]) (fun (ζ : (Nat) × (Hp) × (SH)) => ζ.2.1) (fun (ζ : (Nat) × (Hp) × (SH)) => [[(sb, .cells ⟨[.int .i64 base]⟩ 3 (0, 0))]] ++ ζ.2.2) (fun (ζ : (Nat) × (Hp) × (SH)) => ζ.1 ≤ 256 ∧ ρ.le ζ.2.1 ∧ J ((ZQ base).take ζ.1) ζ.2.1 ζ.2.2) (fun (ζ : (Nat) × (Hp) × (SH)) => 256 - ζ.1) ((0, ρ, Lj)) (⟨Nat.zero_le _, Hp.le_refl _, hJ⟩) Zo Zo rfl tk ?_
 rintro ⟨k, ρ1, L1⟩ hI
 try simp only [List.cons_append, List.nil_append, List.append_assoc, List.append_eq] at hI ⊢
 try dsimp only at hI ⊢
 obtain ⟨hk, hle1, hj⟩ := hI
 by_cases hlt : k < 256
 ·have hk2 : k < (ZQ base).length := by omega
  have hpre := take_succ_pre (ZQ base) k hk2
  rw [noughtsF_at] at hpre
  have hts := List.take_succ_eq_append_getElem hk2
  rw [noughtsF_at] at hts
  have hy := hY _ _ ρ1 L1 hpre (Hp.le_trans hl0 hle1) hj
  have hbk : (base : Int) + (k : Int) = ((base + k : Nat) : Int) := by omega
  repeat' (first | (simp only [Value.cells, zblk_cells, hbk]; refine Zc (.tmp 7) ?_; refine qY rfl rfl hy ?_; rintro v ρ' L' hle ⟨Lj', rfl, ⟨rfl, hj'⟩ | ⟨rfl, hj'⟩⟩ <;> (try simp only [kM, kN, kO])) | (refine Zg ?_; first | (refine Zf ?_; refine qQ ?_) | refine Zj ?_ | refine qAn ?_ | refine qXo ?_ | refine qNt ?_) | refine Za ?_ | (refine Zh ?_; refine Zu ?_) | (refine Zi ?_; refine Zv ?_) | intro _)
  ·refine Zx (k + 1, ρ', Lj') (⟨hlt, Hp.le_trans hle1 hle, by dsimp only; rw [hts]; exact hj'⟩) Zo Zo rfl tk inferInstance (by first | omega | (dsimp only; omega))
  ·exact qE (L' := [[(sb, .cells ⟨[.int .i64 base]⟩ 3 (0, 0))]] ++ Lj') ⟨Lj', rfl, .inr hj'⟩
 ·have hk2 : k = 256 := by omega
  subst hk2
  rw [List.take_of_length_le (by omega)] at hj
  repeat' (first | (refine Zg ?_; first | (refine Zf ?_; refine qQ ?_) | refine Zj ?_ | refine qAn ?_ | refine qXo ?_ | refine qNt ?_) | refine Za ?_ | (refine Zh ?_; refine Zu ?_) | (refine Zi ?_; refine Zv ?_) | intro _)
  exact qE (L' := [[(sb, .cells ⟨[.int .i64 base]⟩ 3 (0, 0))]] ++ L1) ⟨L1, rfl, .inl hj⟩
theorem Format_spec (ρ : Hp) (db : Nat) (k : DK) (D : DS) (hD : DOk k D) (base : Nat) (h : base + 256 ≤ D.secs.length) (h0 : (DS.lays (ZQ base) D).2 = 0) :
  Spec Tryz.prog 62 [.pointer (some ⟨db, 0, none⟩), .int .i64 base] ρ (ZA db k D) (fun v ρ' L' => ρ.le ρ' ∧ ∃ fb k', v = .tuple ⟨[.pointer (some ⟨fb, 0, none⟩), .int .i64 0]⟩ ∧ FIn ρ' fb db base ∧ DOk k' (DS.lays (ZQ base) D).1 ∧ L' = ZA db k' (DS.lays (ZQ base) D).1) := by
 have hln := hD.ok.secs.len
 refine Ze Tryz.func62 rfl rfl rfl fun u R => ?_
 simp only [Zt, List.cons_append, List.nil_append]
 repeat' (first | (refine Zc (.func 86) ?_; refine qC rfl rfl (openf_spec _ db k D hD base h) ?_; rintro v1 ρ1 L1 hle1 ⟨hl1, fb, rfl, hF, rfl⟩; try simp only [kM, kN, kO]) | (refine Zg ?_; first | (refine Zf ?_; refine qQ ?_) | refine Zj ?_ | refine qAn ?_ | refine qXo ?_ | refine qNt ?_) | refine Za ?_ | (refine Zh ?_; refine Zu ?_) | (refine Zi ?_; refine Zv ?_) | intro _)
 rename_i b3
 repeat' (first | (refine Zc (.func 116) ?_; refine qC rfl rfl (row_spec _ _ fb base 117 [.pointer (some ⟨b3, 0, none⟩)] [[(b3, .cells ⟨[.int .i64 base]⟩ 3 (0, 0))]] (ZQ base) (Hp.le_refl _) (noughtsF_iter _ b3 base (by omega)) noughtsF_64 db hF k D hD) ?_; rintro v2 ρ2 L2 hle2 ⟨rfl, hl2, k2, hD2, rfl⟩; simp only [List.cons_append, List.nil_append, List.append_assoc, List.append_eq, h0]) | (refine Zg ?_; first | (refine Zf ?_; refine qQ ?_) | refine Zj ?_ | refine qAn ?_ | refine qXo ?_ | refine qNt ?_) | refine Za ?_ | (refine Zh ?_; refine Zu ?_) | (refine Zi ?_; refine Zv ?_) | intro _)
 have hfin := Hp.le_trans hl1 hl2
 have hF2 := hF.mono hl2
 exact qE (L' := ZA db k2 (DS.lays (ZQ base) D).1) ⟨hfin, fb, k2, rfl, hF2, hD2, rfl⟩
def We (D : DS) (base num : Nat) : (Yb × Nat × Int) × DS :=
 if (ZE D base num).2.2 ≠ 0 ∨ (ZE D base num).1.1.right = false then ((⟨0, [], []⟩, 0, (ZE D base num).2.2), (ZE D base num).2.1)
 else (((ZE D base num).1.1.c, (ZE D base num).1.1.lsn, 0), (ZE D base num).2.1)
theorem Read_spec (ρ : Hp) (fb db base num : Nat) (hf : FIn ρ fb db base) (hb : base ≤ 100000) (hn : num < 64) (k : DK) (D : DS) (hD : DOk k D) :
  Spec Tryz.prog 33 [.pointer (some ⟨fb, 0, none⟩), .int .i64 num] ρ (ZA db k D) (fun v ρ' L' => ρ.le ρ' ∧ ∃ w, v = .tuple ⟨[.agg ⟨XF (We D base num).1.1.kind w⟩, .int .u64 ((We D base num).1.2.1 : Nat), .int .i64 (We D base num).1.2.2]⟩ ∧ CIn ρ' w (We D base num).1.1.rows (We D base num).1.1.kids ∧ DOk k (We D base num).2 ∧ L' = ZA db k (We D base num).2) := by
 have hp := page_spec ρ num
 rw [decide_eq_true ⟨by omega, by omega⟩] at hp
 have hcn := fcounts_spec ρ fb db base num hf hb hn k D hD
 have hR : We D base num = if (ZE D base num).2.2 ≠ 0 ∨ (ZE D base num).1.1.right = false then ((⟨0, [], []⟩, 0, (ZE D base num).2.2), (ZE D base num).2.1)
  else (((ZE D base num).1.1.c, (ZE D base num).1.1.lsn, 0), (ZE D base num).2.1) := rfl
 generalize We D base num = RES at *
 generalize ZE D base num = r at *
 obtain ⟨⟨⟨st, ls, c, rt, mo⟩, ot⟩, D', ec⟩ := r
 dsimp only at hR hcn
 refine Ze Tryz.func33 rfl rfl rfl fun u R => ?_
 simp only [Zt, List.cons_append, List.nil_append]
 by_cases he : ec = 0
 ·subst he
  cases rt with
  | true =>
   rw [if_neg (by simp)] at hR
   subst hR
   repeat' (first | (refine Zc (.func 74) ?_; refine qC rfl rfl (hp) ?_; rintro v ρ' L' hle ⟨rfl, rfl, rfl⟩ <;> (try simp only [kM, kN, kO])) | (refine Zc (.func 75) ?_; refine qC rfl rfl hcn ?_; rintro v2 ρ2 L2 hle2 ⟨hl2, w, rfl, hC, hD2, rfl⟩; try simp only [kM, kN, kO]) | (refine Zg ?_; first | (refine Zf ?_; refine qQ ?_) | refine Zj ?_ | refine qAn ?_ | refine qXo ?_ | refine qNt ?_) | refine Za ?_ | (refine Zh ?_; refine Zu ?_) | (refine Zi ?_; refine Zv ?_) | intro _)
   rename_i b4 b7
   refine Zz (Zr _ _ ([[(b7, .cells ⟨slV ⟨st, ls, c, true, mo⟩ w⟩ 151 (0, 0))]])) (Zy (hT := tk) (Hp.le_refl _)) ?_
   all_goals (refine Yv 0 ?_; refine ZX 1 ?_; refine Yv 2 ?_; refine ZX 3 ?_)
   all_goals (refine Zm (i := 4) ?_; ((try refine Zk ?_); (first | (refine Zj ?_; try intro _)) <;> ((try simp only [kM, kN, kO]); refine Za ?_; refine Zl ?_)))
   all_goals (refine ZN ?_; refine rAs 5 ?_; refine rAs 6 ?_; refine ZI ?_)
   all_goals (repeat' (first | (refine Zg ?_; first | (refine Zf ?_; refine qQ ?_) | refine Zj ?_ | refine qAn ?_ | refine qXo ?_ | refine qNt ?_) | refine Za ?_ | (refine Zh ?_; refine Zu ?_) | (refine Zi ?_; refine Zv ?_) | intro _))
   all_goals exact qE (L' := ZA db k D') ⟨hl2, w, rfl, hC, hD2, rfl⟩
  | false =>
   rw [if_pos (.inr rfl)] at hR
   subst hR
   repeat' (first | (refine Zc (.func 74) ?_; refine qC rfl rfl (hp) ?_; rintro v ρ' L' hle ⟨rfl, rfl, rfl⟩ <;> (try simp only [kM, kN, kO])) | (refine Zc (.func 75) ?_; refine qC rfl rfl hcn ?_; rintro v2 ρ2 L2 hle2 ⟨hl2, w, rfl, hC, hD2, rfl⟩; try simp only [kM, kN, kO]) | (refine Zg ?_; first | (refine Zf ?_; refine qQ ?_) | refine Zj ?_ | refine qAn ?_ | refine qXo ?_ | refine qNt ?_) | refine Za ?_ | (refine Zh ?_; refine Zu ?_) | (refine Zi ?_; refine Zv ?_) | intro _)
   exact qE (L' := ZA db k D') ⟨hl2, zCV, rfl, CIn.nil, hD2, rfl⟩
 ·have hcb : (ec != 0) = true := by simpa using he
  rw [if_pos (.inl he)] at hR
  subst hR
  repeat' (first | (refine Zc (.func 74) ?_; refine qC rfl rfl (hp) ?_; rintro v ρ' L' hle ⟨rfl, rfl, rfl⟩ <;> (try simp only [kM, kN, kO])) | (refine Zc (.func 75) ?_; refine qC rfl rfl hcn ?_; rintro v2 ρ2 L2 hle2 ⟨hl2, w, rfl, hC, hD2, rfl⟩; try simp only [kM, kN, kO]) | (refine Zg ?_; first | (refine Zf ?_; refine qQ ?_) | refine Zj ?_ | refine qAn ?_ | refine qXo ?_ | refine qNt ?_) | refine Za ?_ | (refine Zh ?_; refine Zu ?_) | (refine Zi ?_; refine Zv ?_) | intro _)
  exact qE (L' := ZA db k D') ⟨hl2, zCV, rfl, CIn.nil, hD2, rfl⟩
def YW (ix : Nat) (a b : Blk) : List (Nat × Blk) := [(ix, a), (ix + 1, b)]
abbrev wS (b1 b2 b3 b4 fb num other : Nat) (a b : Blk) : SH := [[(b1, .cells ⟨(a ++ b).map ZD⟩ 179 (0, 0))], [(b2, .cells ⟨[.pointer (some ⟨fb, 0, none⟩)]⟩ 56 (0, 0))], [(b3, .cells ⟨[.int .i64 num]⟩ 3 (0, 0))], [(b4, .cells ⟨[.int .i64 other]⟩ 3 (0, 0))]]
theorem write_iter (ρ0 : Hp) (b1 b2 b3 b4 fb db base num other : Nat) (a b : Blk) (ha : a.length = 64) (hb : b.length = 64) (hf : FIn ρ0 fb db base) (hbase : base ≤ 100000) (hn : num < 64) (ho : other < 2) :
  Iter Tryz.prog 122 [] [.pointer (some ⟨b1, 0, none⟩), .pointer (some ⟨b2, 0, none⟩), .pointer (some ⟨b3, 0, none⟩), .pointer (some ⟨b4, 0, none⟩)] pencV ρ0 (wS b1 b2 b3 b4 fb num other a b) (YW (base + 4 * num + 2 * other) a b) := by
 intro l J Jx hY ρ Lj hl0 hJ
 have hat := fun ρ (h : FIn ρ fb db base) => at_spec ρ fb db base num other h hbase hn ho
 have hix0 : base + 4 * num + 2 * other ≤ 200000 := by omega
 generalize base + 4 * num + 2 * other = ix at *
 have hab : ((a ++ b).map ZD).length = 128 := by simp [ha, hb]
 have hone := Yr (a ++ b)
 have hld : List.take 128 (List.drop 0 ((a ++ b).map ZD)) = (a ++ b).map ZD := by rw [List.drop_zero, List.take_of_length_le (by omega)]
 refine Ze Tryz.func122 rfl rfl rfl fun u R => ?_
 simp only [Zt, List.cons_append, List.nil_append, List.append_assoc]
 repeat' (first | (refine Zg ?_; first | (refine Zf ?_; refine qQ ?_) | refine Zj ?_ | refine qAn ?_ | refine qXo ?_ | refine qNt ?_) | refine Za ?_ | (refine Zh ?_; refine Zu ?_) | (refine Zi ?_; refine Zv ?_) | intro _)
 refine ZH [(0, _), (2, _), (3, _), (4, _), (8, _)] (fun (ζ : (Nat) × (Hp) × (SH)) => [(9, .int .i64 ζ.1)]) (fun (ζ : (Nat) × (Hp) × (SH)) => ζ.2.1) (fun (ζ : (Nat) × (Hp) × (SH)) => wS b1 b2 b3 b4 fb num other a b ++ ζ.2.2) (fun (ζ : (Nat) × (Hp) × (SH)) => ζ.1 ≤ 2 ∧ ρ.le ζ.2.1 ∧ J ((YW ix a b).take ζ.1) ζ.2.1 ζ.2.2) (fun (ζ : (Nat) × (Hp) × (SH)) => 2 - ζ.1) ((0, ρ, Lj)) (⟨Nat.zero_le _, Hp.le_refl _, hJ⟩) Zo Zo rfl tk ?_
 rintro ⟨i, ρ1, L1⟩ hI
 try simp only [List.cons_append, List.nil_append, List.append_assoc, List.append_eq] at hI ⊢
 try dsimp only at hI ⊢
 obtain ⟨hi, hle1, hj⟩ := hI
 by_cases hlt : i < 2
 ·obtain ⟨blk, hbl, hix, hpw⟩ : ∃ blk : Blk, blk.length = 64 ∧ (((a ++ b).map ZD).drop (i * 64)).take 64 = blk.map ZD ∧ (YW ix a b).take (i + 1) = (YW ix a b).take i ++ [(ix + i, blk)] := by
   rcases (show i = 0 ∨ i = 1 by omega) with rfl | rfl
   ·refine ⟨a, ha, ?_, rfl⟩
    rw [List.map_append, Nat.zero_mul, List.drop_zero, List.take_left' (by simpa using ha)]
   ·refine ⟨b, hb, ?_, rfl⟩
    rw [List.map_append, Nat.one_mul, List.drop_left' (by simpa using ha), List.take_of_length_le (by simp; omega)]
  have hb64 : (blk.map ZD).length = 64 := by simpa using hbl
  have hbo := Yr blk
  have hpre : (YW ix a b).take i ++ [(ix + i, blk)] <+: YW ix a b := by rw [← hpw]; exact List.take_prefix _ _
  have hf1 := hf.mono (Hp.le_trans hl0 hle1)
  have hy := hY _ _ ρ1 L1 hpre (Hp.le_trans hl0 hle1) hj
  have hii : (ix : Int) + (i : Int) = ((ix + i : Nat) : Int) := by omega
  repeat' (first | (refine ZL (y_index_a rfl rfl hlt hix) rfl rfl ?_) | (refine Zg ?_; first | (refine Zf ?_; refine qQ ?_) | refine Zj ?_ | refine qAn ?_ | refine qXo ?_ | refine qNt ?_) | refine Za ?_ | (refine Zh ?_; refine Zu ?_) | (refine Zi ?_; refine Zv ?_) | intro _)
  rename_i b7
  refine Zz (Zr _ _ ([[(b2, .cells ⟨[.pointer (some ⟨fb, 0, none⟩)]⟩ 56 (0, 0))], [(b3, .cells ⟨[.int .i64 num]⟩ 3 (0, 0))], [(b4, .cells ⟨[.int .i64 other]⟩ 3 (0, 0))], [(b7, .cells ⟨blk.map ZD⟩ 172 (0, 0))]])) (Zy (hT := tk) (Hp.le_refl _)) ?_
  all_goals (refine ZO 0 ?_; refine ZX 1 ?_; refine ZX 2 ?_; refine ZX 3 ?_; refine ZO 5 ?_; refine ZX 7 ?_)
  all_goals (refine Zm (i := 4) ?_; ((try refine Zk ?_); (first | (refine Zc (.func 123) ?_; refine qC rfl rfl ((hat _ hf1)) ?_; rintro v ρ' L' hle ⟨rfl, rfl, rfl⟩ <;> (try simp only [kM, kN, kO])) | (refine Zj ?_; try intro _)) <;> ((try simp only [kM, kN, kO]); refine Za ?_; refine Zl ?_)))
  all_goals refine rAd 6 ?_
  all_goals (refine Zm (i := 8) ?_; ((try refine Zk ?_); (first | (simp only [hii]; refine Zc (.tmp 13) ?_; refine qY rfl rfl hy ?_; rintro v ρ' L' hle ⟨Lj', rfl, ⟨rfl, hj'⟩ | ⟨rfl, hj'⟩⟩ <;> (try simp only [kM, kN, kO, List.append_assoc])) | (refine Zj ?_; try intro _)) <;> ((try simp only [kM, kN, kO]); refine Za ?_; refine Zl ?_)))
  all_goals (refine ZN ?_; refine rUn 9 ?_; refine ZI ?_)
  ·repeat' (first | (refine Zg ?_; first | (refine Zf ?_; refine qQ ?_) | refine Zj ?_ | refine qAn ?_ | refine qXo ?_ | refine qNt ?_) | refine Za ?_ | (refine Zh ?_; refine Zu ?_) | (refine Zi ?_; refine Zv ?_) | intro _)
   refine Zx (i + 1, ρ', Lj') (⟨hlt, Hp.le_trans hle1 hle, by dsimp only; rw [hpw]; exact hj'⟩) Zo Zo rfl tk inferInstance (by first | omega | (dsimp only; omega))
  ·repeat' (first | (refine Zg ?_; first | (refine Zf ?_; refine qQ ?_) | refine Zj ?_ | refine qAn ?_ | refine qXo ?_ | refine qNt ?_) | refine Za ?_ | (refine Zh ?_; refine Zu ?_) | (refine Zi ?_; refine Zv ?_) | intro _)
   exact qE (L' := wS b1 b2 b3 b4 fb num other a b ++ Lj') ⟨Lj', rfl, .inr hj'⟩
 ·have h2 : i = 2 := by omega
  subst h2
  repeat' (first | (refine Zg ?_; first | (refine Zf ?_; refine qQ ?_) | refine Zj ?_ | refine qAn ?_ | refine qXo ?_ | refine qNt ?_) | refine Za ?_ | (refine Zh ?_; refine Zu ?_) | (refine Zi ?_; refine Zv ?_) | intro _)
  exact qE (L' := wS b1 b2 b3 b4 fb num other a b ++ L1) ⟨L1, rfl, .inl hj⟩
def XJ (D : DS) (base num lsn : Nat) (c : Yb) : DS × Int :=
 if (ZE D base num).2.2 ≠ 0 then (ZE D base num).2
 else if (ZE D base num).1.1.most = 18446744073709551615 then ((ZE D base num).2.1, 6)
 else DS.lays (YW (base + 4 * num + 2 * (ZE D base num).1.2) (ZP num ((ZE D base num).1.1.most + 1) lsn c 0) (ZP num ((ZE D base num).1.1.most + 1) lsn c 1)) (ZE D base num).2.1
theorem countsD_lt (D : DS) (base num : Nat) : (ZE D base num).1.1.most < 18446744073709551616 ∧ (ZE D base num).1.2 < 2 := by
 unfold ZE
 split
 ·exact ⟨by show (0 : Nat) < _; omega, by show (0 : Nat) < 2; omega⟩
 ·split
  ·exact ⟨by show (0 : Nat) < _; omega, by show (0 : Nat) < 2; omega⟩
  ·exact ⟨(csTo_lt D base num 2).2.1, (csTo_lt D base num 2).2.2⟩
theorem Write_spec (ρ : Hp) (fb db base num lsn : Nat) (hf : FIn ρ fb db base) (hb : base ≤ 100000) (hn : num < 64) (hls : lsn < 18446744073709551616) (c : Yb) (w : CV) (hC : CIn ρ w c.rows c.kids) (hok : ZT c = true) (hir : ∀ r ∈ c.rows, r.id < 65536) (hik : ∀ k ∈ c.kids, k.id < 65536) (k : DK) (D : DS) (hD : DOk k D) :
  Spec Tryz.prog 67 [.pointer (some ⟨fb, 0, none⟩), .int .i64 num, .int .u64 lsn, .agg ⟨XF c.kind w⟩] ρ (ZA db k D) (fun v ρ' L' => v = .int .i64 (XJ D base num lsn c).2 ∧ ρ.le ρ' ∧ ∃ k', DOk k' (XJ D base num lsn c).1 ∧ L' = ZA db k' (XJ D base num lsn c).1) := by
 have hp := page_spec ρ num
 rw [decide_eq_true ⟨by omega, by omega⟩] at hp
 have hck := XN ρ w c hC
 rw [hok] at hck
 simp only [if_true] at hck
 have hcn := fcounts_spec ρ fb db base num hf hb hn k D hD
 have hclt := countsD_lt D base num
 have hR : XJ D base num lsn c = if (ZE D base num).2.2 ≠ 0 then (ZE D base num).2
  else if (ZE D base num).1.1.most = 18446744073709551615 then ((ZE D base num).2.1, 6)
  else DS.lays (YW (base + 4 * num + 2 * (ZE D base num).1.2) (ZP num ((ZE D base num).1.1.most + 1) lsn c 0) (ZP num ((ZE D base num).1.1.most + 1) lsn c 1)) (ZE D base num).2.1 := rfl
 generalize XJ D base num lsn c = RES at *
 generalize ZE D base num = r at *
 obtain ⟨⟨⟨st, ls, c0, rt, mo⟩, ot⟩, D', ec⟩ := r
 dsimp only at hR hcn hclt
 refine Ze Tryz.func67 rfl rfl rfl fun u R => ?_
 simp only [Zt, List.cons_append, List.nil_append]
 by_cases he : ec = 0
 ·subst he
  rw [if_neg (by simp)] at hR
  by_cases hmo : mo = 18446744073709551615
  ·rw [if_pos hmo] at hR
   subst hR
   have hmo' : ((mo : Nat) : Int) = 18446744073709551615 := by omega
   repeat' (first | (refine Zc (.func 74) ?_; refine qC rfl rfl (hp) ?_; rintro v ρ' L' hle ⟨rfl, rfl, rfl⟩ <;> (try simp only [kM, kN, kO])) | (refine Zc (.func 118) ?_; refine qC rfl rfl (hck) ?_; rintro v ρ' L' hle ⟨rfl, rfl, rfl⟩ <;> (try simp only [kM, kN, kO])) | (refine Zc (.func 75) ?_; refine qC rfl rfl hcn ?_; rintro v2 ρ2 L2 hle2 ⟨hl2, w2, rfl, hC2, hD2, rfl⟩; try simp only [kM, kN, kO]) | (refine Zg ?_; first | (refine Zf ?_; refine qQ ?_) | refine Zj ?_ | refine qAn ?_ | refine qXo ?_ | refine qNt ?_) | refine Za ?_ | (refine Zh ?_; refine Zu ?_) | (refine Zi ?_; refine Zv ?_) | intro _)
   exact qE (L' := ZA db k D') ⟨rfl, hl2, k, hD2, rfl⟩
  ·rw [if_neg hmo] at hR
   have hmo' : ¬ ((mo : Nat) : Int) = 18446744073709551615 := by omega
   have hm1 : ((mo : Nat) : Int) + 1 = ((mo + 1 : Nat) : Int) := by omega
   have hmlt : mo + 1 < 18446744073709551616 := by omega
   repeat' (first | (refine Zc (.func 74) ?_; refine qC rfl rfl (hp) ?_; rintro v ρ' L' hle ⟨rfl, rfl, rfl⟩ <;> (try simp only [kM, kN, kO])) | (refine Zc (.func 118) ?_; refine qC rfl rfl (hck) ?_; rintro v ρ' L' hle ⟨rfl, rfl, rfl⟩ <;> (try simp only [kM, kN, kO])) | (refine Zc (.func 75) ?_; refine qC rfl rfl hcn ?_; rintro v2 ρ2 L2 hle2 ⟨hl2, w2, rfl, hC2, hD2, rfl⟩; try simp only [kM, kN, kO]) | (refine ZL (Vz (vs := [.int .u64 ((mo + 1 : Nat) : Int), .int .u64 lsn, .agg ⟨XF c.kind w⟩]) (cells := ⟨slV ⟨mo + 1, lsn, c, false, 0⟩ w⟩) rfl rfl) rfl rfl ?_) | (refine Zg ?_; first | (refine Zf ?_; refine qQ ?_) | refine Zj ?_ | refine qAn ?_ | refine qXo ?_ | refine qNt ?_) | refine Za ?_ | (refine Zh ?_; refine Zu ?_) | (refine Zi ?_; refine Zv ?_) | intro _)
   repeat' (first | (refine Zc (.func 121) ?_; refine qC rfl rfl (Va _ num hn ⟨mo + 1, lsn, c, false, 0⟩ w (hC.mono hl2) hok hir hik hmlt hls) ?_; rintro v5 ρ5 L5 hle5 ⟨rfl, hl5, rfl⟩; dsimp only; have hP0 := Xl num (mo + 1) lsn c (i := 0) (by omega); have hP1 := Xl num (mo + 1) lsn c (i := 1) (by omega); have hPo := Yr (ZP num (mo + 1) lsn c 0 ++ ZP num (mo + 1) lsn c 1); have hPl : ((ZP num (mo + 1) lsn c 0 ++ ZP num (mo + 1) lsn c 1).map ZD).length = 128 := (by simp [hP0, hP1]); try simp only [kM, kN, kO]) | (refine Zg ?_; first | (refine Zf ?_; refine qQ ?_) | refine Zj ?_ | refine qAn ?_ | refine qXo ?_ | refine qNt ?_) | refine Za ?_ | (refine Zh ?_; refine Zu ?_) | (refine Zi ?_; refine Zv ?_) | intro _)
   rename_i b4 b5 b7 hq b10 b11 b13
   have hf5 := hf.mono (Hp.le_trans hl2 hl5)
   have h64 : ∀ p ∈ YW (base + 4 * num + 2 * ot) (ZP num (mo + 1) lsn c 0) (ZP num (mo + 1) lsn c 1), p.2.length = 64 := fun p hp => by
    simp only [YW, List.mem_cons, List.not_mem_nil, or_false] at hp
    rcases hp with rfl | rfl
    ·exact hP0
    ·exact hP1
   repeat' (first | (refine Zc (.func 116) ?_; refine qC rfl rfl (row_spec _ _ fb base 122 [.pointer (some ⟨b13, 0, none⟩), .pointer (some ⟨b4, 0, none⟩), .pointer (some ⟨b5, 0, none⟩), .pointer (some ⟨b11, 0, none⟩)] (wS b13 b4 b5 b11 fb num ot (ZP num (mo + 1) lsn c 0) (ZP num (mo + 1) lsn c 1)) _ (Hp.le_refl _) (write_iter _ b13 b4 b5 b11 fb db base num ot _ _ hP0 hP1 hf5 hb hn hclt.2) h64 db hf5 k D' hD2) ?_; rintro v6 ρ6 L6 hle6 ⟨rfl, hl6, k6, hD6, rfl⟩; simp only [List.cons_append, List.nil_append, List.append_assoc, List.append_eq]) | (refine Zg ?_; first | (refine Zf ?_; refine qQ ?_) | refine Zj ?_ | refine qAn ?_ | refine qXo ?_ | refine qNt ?_) | refine Za ?_ | (refine Zh ?_; refine Zu ?_) | (refine Zi ?_; refine Zv ?_) | intro _)
   subst hR
   have hfin := Hp.le_trans hl2 (Hp.le_trans hl5 hl6)
   exact qE (L' := ZA db k6 _) ⟨rfl, hfin, k6, hD6, rfl⟩
 ·have hcb : (ec != 0) = true := by simpa using he
  rw [if_pos he] at hR
  subst hR
  repeat' (first | (refine Zc (.func 74) ?_; refine qC rfl rfl (hp) ?_; rintro v ρ' L' hle ⟨rfl, rfl, rfl⟩ <;> (try simp only [kM, kN, kO])) | (refine Zc (.func 118) ?_; refine qC rfl rfl (hck) ?_; rintro v ρ' L' hle ⟨rfl, rfl, rfl⟩ <;> (try simp only [kM, kN, kO])) | (refine Zc (.func 75) ?_; refine qC rfl rfl hcn ?_; rintro v2 ρ2 L2 hle2 ⟨hl2, w2, rfl, hC2, hD2, rfl⟩; try simp only [kM, kN, kO]) | (refine Zg ?_; first | (refine Zf ?_; refine qQ ?_) | refine Zj ?_ | refine qAn ?_ | refine qXo ?_ | refine qNt ?_) | refine Za ?_ | (refine Zh ?_; refine Zu ?_) | (refine Zi ?_; refine Zv ?_) | intro _)
  exact qE (L' := ZA db k D') ⟨rfl, hl2, k, hD2, rfl⟩
def M64 : Nat := 18446744073709551616
structure Fit (c : Yb) : Prop where
 ok : ZT c = true
 id : IdFit c
theorem dataB_eq {c : Yb} (h : ZT c = true) : dataB c = UInt8.ofNat (YK c).length :: (YK c ++ z8 (83 - (YK c).length)) := by
 have := Vg h
 unfold dataB
 rw [fit_lay (by simp; omega)]
 simp only [List.length_cons, List.cons_append]
 congr 3; omega
theorem data_halves (c : Yb) : ((dataB c).drop (42 * 0)).take 42 ++ ((dataB c).drop (42 * 1)).take 42 = dataB c := by
 have h := dataB_len c
 rw [Nat.mul_zero, List.drop_zero, List.take_of_length_le (l := (dataB c).drop (42 * 1)) (by simp; omega), List.take_append_drop]
theorem body_drop (num st lsn : Nat) (c : Yb) (i k : Nat) : (bodyF num st lsn c i).drop (2 + k) = (be 8 st ++ (be 8 lsn ++ ((dataB c).drop (42 * i)).take 42)).drop k := by
 unfold bodyF
 rw [Nat.add_comm, List.drop_succ_cons, List.drop_succ_cons]
theorem WZ (num st lsn : Nat) (c : Yb) {i : Nat} (hi : i < 2) (hst : st < M64) : XA (ZP num st lsn c i) = st := by
 have hb := bodyF_len num st lsn c hi
 unfold XA ZP
 rw [List.drop_append_of_le_length (by omega), List.take_append_of_le_length (by simp; omega), show 2 = 2 + 0 from rfl, body_drop, List.drop_zero, List.take_left' (Zw _ _), WI]
 exact Nat.mod_eq_of_lt (by simpa [M64] using hst)
theorem part_lsn (num st lsn : Nat) (c : Yb) {i : Nat} (hi : i < 2) (hl : lsn < M64) : Yx (((ZP num st lsn c i).drop 10).take 8) = lsn := by
 have hb := bodyF_len num st lsn c hi
 unfold ZP
 rw [List.drop_append_of_le_length (by omega), List.take_append_of_le_length (by simp; omega), show 10 = 2 + 8 from rfl, body_drop, List.drop_left' (Zw _ _), List.take_left' (Zw _ _), WI]
 exact Nat.mod_eq_of_lt (by simpa [M64] using hl)
theorem part_data (num st lsn : Nat) (c : Yb) {i : Nat} (hi : i < 2) : ((ZP num st lsn c i).drop 18).take 42 = ((dataB c).drop (42 * i)).take 42 := by
 have hb := bodyF_len num st lsn c hi
 have hd := dataB_len c
 unfold ZP
 rw [List.drop_append_of_le_length (by omega), List.take_append_of_le_length (by simp; omega), show 18 = 2 + 16 from rfl, body_drop, ← List.append_assoc, List.drop_left' (by simp [Zw])]
 rw [List.take_of_length_le (by simp; omega)]
theorem part_ok (num st lsn : Nat) (c : Yb) {i : Nat} (hi : i < 2) (hn : num < 64) : PartOk num i (ZP num st lsn c i) := by
 have hb := bodyF_len num st lsn c hi
 refine ⟨?_, ?_, ?_⟩
 ·show (UInt8.ofNat num).toNat = num
  simp; omega
 ·show (UInt8.ofNat i).toNat = i
  simp; omega
 ·unfold ZP
  rw [List.drop_left' hb, List.take_left' hb, WI]
  exact Nat.mod_eq_of_lt (by have := sumB_lt (bodyF num st lsn c i); simpa using this)
theorem says_part (num st lsn : Nat) (c : Yb) (hc : Fit c) (h0 : 0 < st) (hst : st < M64) (hl : lsn < M64) : YA num (ZP num st lsn c 0) (ZP num st lsn c 1) = ⟨st, lsn, c, true, 0⟩ := by
 have hde := dataB_eq hc.ok
 have h82 := Vg hc.ok
 have e0 : ((ZP num st lsn c 0).getD 18 0).toNat = (YK c).length := by
  have h1 := part_data num st lsn c (i := 0) (by omega)
  rw [Nat.mul_zero, List.drop_zero, hde] at h1
  have h2 : ((ZP num st lsn c 0).drop 18).take 42 = ((ZP num st lsn c 0).drop 18).take 42 := rfl
  have h3 := congrArg (fun l : Bs => l[0]?) h1
  simp only [List.take_succ_cons, List.getElem?_cons_zero] at h3
  rw [List.getElem?_take_of_lt (by omega), List.getElem?_drop] at h3
  rw [List.getD_eq_getElem?_getD, h3]
  simp; omega
 have e1 : ((ZP num st lsn c 0).drop 18).take 42 ++ ((ZP num st lsn c 1).drop 18).take 42 = dataB c := by
  rw [part_data _ _ _ _ (by omega), part_data _ _ _ _ (by omega), data_halves]
 have e2 : ((dataB c).drop 1).take (YK c).length = YK c := by rw [hde, List.drop_succ_cons, List.drop_zero, List.take_left]
 have e3 := takeCont_back hc.ok hc.id []
 rw [List.append_nil] at e3
 have e4 : Yx (((ZP num st lsn c 0).drop 2).take 8) = st := WZ num st lsn c (by omega) hst
 unfold YA
 rw [e0, if_neg (by omega), e1, e2, e3, e4, part_lsn _ _ _ _ (by omega) hl]
 simp [h0]
theorem says_right {num : Nat} {a b : Blk} (ha : a.length = 64) (hb : b.length = 64) (h : (YA num a b).right = true) : 0 < XA a ∧ XA b = XA a ∧ (YA num a b).stamp = XA a := by
 have hlt := stampOf_lt a
 unfold YA at h ⊢
 split
 ·rename_i hc; rw [if_pos hc] at h; cases h
 ·rename_i hc
  rw [if_neg hc] at h
  dsimp only at h ⊢
  have h' := of_decide_eq_true h
  obtain ⟨h1, h2, h3, h4⟩ := h'
  have hp0 := Xl num (Yx ((a.drop 2).take 8)) (Yx ((a.drop 10).take 8)) (Yj ((((a.drop 18).take 42 ++ (b.drop 18).take 42).drop 1).take (a.getD 18 0).toNat)).1 (i := 0) (by omega)
  have hb1 := (List.append_inj h4 (by omega)).2
  refine ⟨h3, ?_, rfl⟩
  exact (congrArg XA hb1).symm.trans (WZ num _ _ _ (by decide) hlt)
theorem stamp_zblk : XA XK = 0 := by
 unfold XA
 rw [zblk_z]
 simp only [z8, List.drop_replicate]
 exact z8_take _ _
def Sec (num i t : Nat) (b : Blk) : Prop := b = XK ∨ ∃ st lsn c, 0 < st ∧ st ≤ t ∧ b = ZP num st lsn c i
theorem Sec.mono {num i t t' : Nat} {b : Blk} (h : Sec num i t b) (ht : t ≤ t') : Sec num i t' b := by
 rcases h with h | ⟨st, lsn, c, h1, h2, h3⟩
 ·exact .inl h
 ·exact .inr ⟨st, lsn, c, h1, by omega, h3⟩
theorem Sec.len {num i t : Nat} {b : Blk} (h : Sec num i t b) (hi : i < 2) : b.length = 64 := by
 rcases h with rfl | ⟨st, lsn, c, h1, h2, rfl⟩
 ·rfl
 ·exact Xl _ _ _ _ hi
theorem Sec.stamp {num i t : Nat} {b : Blk} (h : Sec num i t b) (hi : i < 2) (hn : num < 64) (ht : t < M64) : stampR num i b = XA b ∧ XA b ≤ t := by
 rcases h with rfl | ⟨st, lsn, c, h1, h2, rfl⟩
 ·unfold stampR
  rw [stamp_zblk]
  exact ⟨by split <;> rfl, Nat.zero_le _⟩
 ·rw [WZ num st lsn c hi (by omega)]
  exact ⟨by unfold stampR; rw [if_pos (part_ok num st lsn c hi hn), WZ num st lsn c hi (by omega)], h2⟩
def cs2 (num : Nat) (a0 b0 a1 b1 : Blk) : CS := ((⟨zSl, 0, 0⟩ : CS).step 0 (slotAt num a0 b0)).step 1 (slotAt num a1 b1)
abbrev Xc := Yb × Nat
def zHeld : Xc := (⟨0, [], []⟩, 0)
def WW (cs : CS) : Xc := if cs.best.right = true then (cs.best.c, cs.best.lsn) else zHeld
def sayH (num : Nat) (a b : Blk) : Xc := ((YA num a b).c, (YA num a b).lsn)
theorem cs2_eq (num : Nat) (a0 b0 a1 b1 : Blk) : WW (cs2 num a0 b0 a1 b1) = (if (YA num a0 b0).right = true then (if (YA num a1 b1).right = true ∧ (YA num a0 b0).stamp < (YA num a1 b1).stamp then sayH num a1 b1 else sayH num a0 b0) else if (YA num a1 b1).right = true then sayH num a1 b1 else zHeld) ∧
  (cs2 num a0 b0 a1 b1).other = (if (YA num a0 b0).right = true then (if (YA num a1 b1).right = true ∧ (YA num a0 b0).stamp < (YA num a1 b1).stamp then 0 else 1) else 0) ∧
  (cs2 num a0 b0 a1 b1).most = max (Wm num a0 b0) (Wm num a1 b1) := by
 unfold cs2 CS.step WW sayH slotAt
 generalize Wm num a0 b0 = m0
 generalize Wm num a1 b1 = m1
 generalize YA num a0 b0 = s0
 generalize YA num a1 b1 = s1
 obtain ⟨st0, ls0, c0, r0, mo0⟩ := s0
 obtain ⟨st1, ls1, c1, r1, mo1⟩ := s1
 cases r0
 ·cases r1
  ·simp [zSl]
  ·simp [zSl]
 ·cases r1
  ·simp [zSl]
  ·by_cases hlt : st0 < st1
   ·simp [zSl, hlt]
   ·simp [zSl, hlt]
theorem mixed {num t lsn : Nat} {c : Yb} {a b x y : Blk} (hn : num < 64) (hc : Fit c) (hl : lsn < M64) (ht : t + 1 < M64) (ha : Sec num 0 t a) (hb : Sec num 1 t b)
  (hx : x = a ∨ x = ZP num (t + 1) lsn c 0) (hy : y = b ∨ y = ZP num (t + 1) lsn c 1) :
  (x = a ∧ y = b) ∨ (YA num x y).right = false ∨ (YA num x y = ⟨t + 1, lsn, c, true, 0⟩) := by
 have h1 := ha.stamp (by omega) hn (by omega)
 have h2 := hb.stamp (by omega) hn (by omega)
 have p0 := WZ num (t + 1) lsn c (i := 0) (by omega) ht
 have p1 := WZ num (t + 1) lsn c (i := 1) (by omega) ht
 rcases hx with rfl | rfl
 ·rcases hy with rfl | rfl
  ·exact .inl ⟨rfl, rfl⟩
  ·right; left
   cases hr : (YA num x (ZP num (t + 1) lsn c 1)).right with
   | false => rfl
   | true =>
    have := says_right (ha.len (by omega)) (Xl _ _ _ _ (by omega)) hr
    rw [p1] at this; omega
 ·rcases hy with rfl | rfl
  ·right; left
   cases hr : (YA num (ZP num (t + 1) lsn c 0) y).right with
   | false => rfl
   | true =>
    have := says_right (Xl _ _ _ _ (by omega)) (hb.len (by omega)) hr
    rw [p0] at this; omega
  ·exact .inr (.inr (says_part num (t + 1) lsn c hc (by omega) ht hl))
theorem stampsF_le {num t : Nat} {a b : Blk} (hn : num < 64) (ht : t < M64) (ha : Sec num 0 t a) (hb : Sec num 1 t b) : Wm num a b ≤ t ∧ ((YA num a b).right = true → (YA num a b).stamp ≤ Wm num a b) := by
 have h1 := ha.stamp (by omega) hn ht
 have h2 := hb.stamp (by omega) hn ht
 unfold Wm
 rw [h1.1, h2.1]
 refine ⟨by omega, fun hr => ?_⟩
 have := says_right (ha.len (by omega)) (hb.len (by omega)) hr
 omega
theorem wrote {num mo lsn : Nat} {c : Yb} {a0 b0 a1 b1 x0 y0 x1 y1 : Blk} (hn : num < 64) (hc : Fit c) (hl : lsn < M64) (h0 : Sec num 0 mo a0) (h1 : Sec num 1 mo b0) (h2 : Sec num 0 mo a1) (h3 : Sec num 1 mo b1) (hmo : mo = (cs2 num a0 b0 a1 b1).most) (ht : mo + 1 < M64)
  (hx0 : x0 = a0 ∨ (cs2 num a0 b0 a1 b1).other = 0 ∧ x0 = ZP num (mo + 1) lsn c 0) (hy0 : y0 = b0 ∨ (cs2 num a0 b0 a1 b1).other = 0 ∧ y0 = ZP num (mo + 1) lsn c 1)
  (hx1 : x1 = a1 ∨ (cs2 num a0 b0 a1 b1).other = 1 ∧ x1 = ZP num (mo + 1) lsn c 0) (hy1 : y1 = b1 ∨ (cs2 num a0 b0 a1 b1).other = 1 ∧ y1 = ZP num (mo + 1) lsn c 1) :
  (WW (cs2 num x0 y0 x1 y1) = WW (cs2 num a0 b0 a1 b1) ∨ WW (cs2 num x0 y0 x1 y1) = (c, lsn)) ∧
  ((if (cs2 num a0 b0 a1 b1).other = 0 then x0 = ZP num (mo + 1) lsn c 0 ∧ y0 = ZP num (mo + 1) lsn c 1 else x1 = ZP num (mo + 1) lsn c 0 ∧ y1 = ZP num (mo + 1) lsn c 1) → WW (cs2 num x0 y0 x1 y1) = (c, lsn)) := by
 obtain ⟨e1, e2, e3⟩ := cs2_eq num a0 b0 a1 b1
 obtain ⟨f1, _, _⟩ := cs2_eq num x0 y0 x1 y1
 have g0 := stampsF_le hn (by omega) h0 h1
 have g1 := stampsF_le hn (by omega) h2 h3
 have hsp := says_part num (mo + 1) lsn c hc (by omega) ht hl
 rw [e3] at hmo
 have q0 : (YA num a0 b0).right = true → (YA num a0 b0).stamp ≤ mo := fun h => by have := g0.2 h; omega
 have q1 : (YA num a1 b1).right = true → (YA num a1 b1).stamp ≤ mo := fun h => by have := g1.2 h; omega
 by_cases ho : (cs2 num a0 b0 a1 b1).other = 0
 ·have hx1' : x1 = a1 := hx1.resolve_right (fun h => by omega)
  have hy1' : y1 = b1 := hy1.resolve_right (fun h => by omega)
  subst hx1'; subst hy1'
  rw [if_pos ho]
  have hnc : ¬ ((YA num a0 b0).right = true ∧ ¬ ((YA num x1 y1).right = true ∧ (YA num a0 b0).stamp < (YA num x1 y1).stamp)) := fun hh => by
   rw [e2, if_pos hh.1, if_neg hh.2] at ho; cases ho
  have hold : WW (cs2 num a0 b0 x1 y1) = if (YA num x1 y1).right = true then sayH num x1 y1 else zHeld := by
   rw [e1]
   by_cases hr : (YA num a0 b0).right = true
   ·have hq : (YA num x1 y1).right = true ∧ (YA num a0 b0).stamp < (YA num x1 y1).stamp := Classical.not_not.1 (fun h => hnc ⟨hr, h⟩)
    rw [if_pos hr, if_pos hq, if_pos hq.1]
   ·rw [if_neg hr]
  have hnew : YA num x0 y0 = ⟨mo + 1, lsn, c, true, 0⟩ → WW (cs2 num x0 y0 x1 y1) = (c, lsn) := fun he => by
   rw [f1, he, if_pos rfl, if_neg (fun hh => by have := q1 hh.1; have := hh.2; dsimp only at this; omega)]
   unfold sayH; rw [he]
  refine ⟨?_, fun hh => hnew (by rw [hh.1, hh.2]; exact hsp)⟩
  rcases mixed hn hc hl ht h0 h1 (hx0.imp id (·.2)) (hy0.imp id (·.2)) with ⟨rfl, rfl⟩ | hm | hm
  ·exact .inl rfl
  ·left
   rw [hold, f1, hm, if_neg (by simp)]
  ·exact .inr (hnew hm)
 ·have hx0' : x0 = a0 := hx0.resolve_right (fun h => ho h.1)
  have hy0' : y0 = b0 := hy0.resolve_right (fun h => ho h.1)
  subst hx0'; subst hy0'
  rw [if_neg ho]
  have hr : (YA num x0 y0).right = true := Classical.not_not.1 (fun h => ho (by rw [e2, if_neg h]))
  have hnq : ¬ ((YA num a1 b1).right = true ∧ (YA num x0 y0).stamp < (YA num a1 b1).stamp) := fun h => ho (by rw [e2, if_pos hr, if_pos h])
  have hold : WW (cs2 num x0 y0 a1 b1) = sayH num x0 y0 := by rw [e1, if_pos hr, if_neg hnq]
  have hnew : YA num x1 y1 = ⟨mo + 1, lsn, c, true, 0⟩ → WW (cs2 num x0 y0 x1 y1) = (c, lsn) := fun he => by
   rw [f1, if_pos hr, he, if_pos ⟨rfl, by have := q0 hr; dsimp only; omega⟩]
   unfold sayH; rw [he]
  refine ⟨?_, fun hh => hnew (by rw [hh.1, hh.2]; exact hsp)⟩
  rcases mixed hn hc hl ht h2 h3 (hx1.imp id (·.2)) (hy1.imp id (·.2)) with ⟨rfl, rfl⟩ | hm | hm
  ·exact .inl rfl
  ·left
   rw [hold, f1, if_pos hr, hm, if_neg (by simp)]
  ·exact .inr (hnew hm)
theorem Sec.least {num i t m : Nat} {b : Blk} (h : Sec num i t b) (hi : i < 2) (ht : t < M64) (hm : XA b ≤ m) : Sec num i m b := by
 rcases h with h | ⟨st, lsn, c, h1, h2, rfl⟩
 ·exact .inl h
 ·rw [WZ num st lsn c hi (by omega)] at hm
  exact .inr ⟨st, lsn, c, h1, hm, rfl⟩
abbrev pg (D : DS) (base num j : Nat) : Blk := img D (base + 4 * num + j)
abbrev csD (D : DS) (base num : Nat) : CS := cs2 num (pg D base num 0) (pg D base num 1) (pg D base num 2) (pg D base num 3)
structure FO (D : DS) (base t : Nat) (held : Nat → Xc) : Prop where
 dok : D.Ok
 alive : D.dead = false
 empty : YI D.secs
 len : base + 256 ≤ D.secs.length
 sec : ∀ num j, num < 64 → j < 4 → Sec num (j % 2) t (pg D base num j)
 held : ∀ num, num < 64 → WW (csD D base num) = held num
theorem FO.congr {D D' : DS} {base t : Nat} {held : Nat → Xc} (h : FO D base t held) (hs : D'.secs = D.secs) (hok : D'.Ok) (ha : D'.dead = false) : FO D' base t held := by
 have hi := XM hs
 exact ⟨hok, ha, by rw [hs]; exact h.empty, by rw [hs]; exact h.len, fun num j h1 h2 => by unfold pg; rw [hi]; exact h.sec num j h1 h2, fun num h1 => by unfold csD pg; rw [hi]; exact h.held num h1⟩
theorem FO.crash {D : DS} {base t : Nat} {held : Nat → Xc} (h : FO D base t held) (keep : Nat → Bool) : FO (D.crash keep) base t held :=
 h.congr (by simp only [DS.crash]; exact settled_empty h.empty) h.dok.crash rfl
theorem rd_ok {D : DS} (he : YI D.secs) (ha : D.dead = false) {i : Nat} (hi : i < D.secs.length) : (D.read (i : Int)).1.dead = false ∧ ((D.read (i : Int)).2.2 = 0 → (D.read (i : Int)).2.1 = img D i) := by
 unfold DS.read
 rw [if_neg (by simp [ha]), if_neg (by omega)]
 split
 ·exact ⟨ha, fun h => by simp at h⟩
 ·refine ⟨ha, fun _ => ?_⟩
  rw [img_at hi]
  simp [says1, List.getElem?_eq_getElem hi, he _ (List.getElem_mem hi)]
theorem rdSlot_img {D : DS} (he : YI D.secs) (ha : D.dead = false) {i : Nat} (hi : i + 1 < D.secs.length) : (Ws D i).1.dead = false ∧ ((Ws D i).2.2 = 0 → (Ws D i).2.1 = (img D i, img D (i + 1))) := by
 obtain ⟨h1, h2⟩ := rd_ok he ha (i := i) (by omega)
 have hs := read_secs (D := D) (i : Int)
 obtain ⟨h3, h4⟩ := rd_ok (D := (D.read (i : Int)).1) (by rw [hs]; exact he) h1 (i := i + 1) (by rw [hs]; exact hi)
 rw [XM hs] at h4
 unfold Ws
 split
 ·rename_i hc; exact ⟨h1, fun h => absurd h hc⟩
 ·rename_i hc
  split
  ·rename_i hd; exact ⟨h3, fun h => absurd h hd⟩
  ·rename_i hd
   refine ⟨h3, fun _ => ?_⟩
   rw [h2 (Classical.not_not.1 hc), h4 (Classical.not_not.1 hd)]
theorem slD_alive {D : DS} {base num : Nat} (he : YI D.secs) (ha : D.dead = false) (hl : base + 4 * num + 4 ≤ D.secs.length) : ∀ k, k ≤ 2 → (slD D base num k).dead = false
 | 0, _ => ha
 | k + 1, hk => (rdSlot_img (D := slD D base num k) (by rw [XG]; exact he) (slD_alive he ha hl k (by omega)) (i := base + 4 * num + 2 * k) (by rw [XG]; omega)).1
theorem slR_img {D : DS} {base num k : Nat} (he : YI D.secs) (ha : D.dead = false) (hl : base + 4 * num + 4 ≤ D.secs.length) (hk : k < 2) (h0 : (slR D base num k).2.2 = 0) : (slR D base num k).2.1 = (pg D base num (2 * k), pg D base num (2 * k + 1)) := by
 have := (rdSlot_img (D := slD D base num k) (by rw [XG]; exact he) (slD_alive he ha hl k (by omega)) (i := base + 4 * num + 2 * k) (by rw [XG]; omega)).2 h0
 rw [XM (XG D base num k)] at this
 exact this
theorem Vq {D : DS} {base num : Nat} : (ZE D base num).2.1.secs = D.secs := by
 unfold ZE
 split
 ·exact XG D base num 1
 ·split
  ·exact XG D base num 2
  ·exact XG D base num 2
theorem countsD_ok {D : DS} {base num : Nat} (h : D.Ok) : (ZE D base num).2.1.Ok := by
 unfold ZE
 split
 ·exact slD_ok h 1
 ·split
  ·exact slD_ok h 2
  ·exact slD_ok h 2
theorem countsD_alive {D : DS} {base num : Nat} (he : YI D.secs) (ha : D.dead = false) (hl : base + 4 * num + 4 ≤ D.secs.length) : (ZE D base num).2.1.dead = false := by
 unfold ZE
 split
 ·exact slD_alive he ha hl 1 (by omega)
 ·split
  ·exact slD_alive he ha hl 2 (by omega)
  ·exact slD_alive he ha hl 2 (by omega)
theorem countsD_val {D : DS} {base num : Nat} (he : YI D.secs) (ha : D.dead = false) (hl : base + 4 * num + 4 ≤ D.secs.length) (h0 : (ZE D base num).2.2 = 0) :
  (ZE D base num).1 = ({ (csD D base num).best with most := (csD D base num).most }, (csD D base num).other) := by
 unfold ZE at h0 ⊢
 split at h0
 ·rename_i hc; exact absurd h0 hc
 ·rename_i hc
  split at h0
  ·rename_i hd; exact absurd h0 hd
  ·rename_i hd
   have e0 := slR_img he ha hl (k := 0) (by omega) (Classical.not_not.1 hc)
   have e1 := slR_img he ha hl (k := 1) (by omega) (Classical.not_not.1 hd)
   rw [if_neg hc, if_neg hd]
   have y0 : (slY num (slR D base num 0)).1 = slotAt num (pg D base num 0) (pg D base num 1) := by unfold slY; rw [if_neg hc, e0]
   have y1 : (slY num (slR D base num 1)).1 = slotAt num (pg D base num 2) (pg D base num 3) := by unfold slY; rw [if_neg hd, e1]
   have : csTo D base num 2 = csD D base num := by
    show (((⟨zSl, 0, 0⟩ : CS).step 0 (slY num (slR D base num 0)).1).step 1 (slY num (slR D base num 1)).1) = _
    rw [y0, y1]; rfl
   rw [this]
theorem rdSlot_calm {D : DS} (h : D.Calm) {i : Nat} (hi : i + 1 < D.secs.length) : (Ws D i).1.Calm ∧ (Ws D i).2.2 = 0 := by
 have e1 := h.read_eq (i := i) (by omega)
 unfold Ws
 rw [e1]
 have e2 := (DS.Calm.mk' (s := D.secs) (o := IntKind.i64.wrap (D.ops + 1))).read_eq (i := i + 1) hi
 rw [if_neg (by simp), e2, if_neg (by simp)]
 exact ⟨DS.Calm.mk', rfl⟩
theorem slD_calm {D : DS} {base num : Nat} (h : D.Calm) (hl : base + 4 * num + 4 ≤ D.secs.length) : ∀ k, k ≤ 2 → (slD D base num k).Calm
 | 0, _ => h
 | k + 1, hk => (rdSlot_calm (slD_calm h hl k (by omega)) (i := base + 4 * num + 2 * k) (by rw [XG]; omega)).1
theorem countsD_calm {D : DS} {base num : Nat} (h : D.Calm) (hl : base + 4 * num + 4 ≤ D.secs.length) : (ZE D base num).2.2 = 0 ∧ (ZE D base num).2.1.Calm := by
 have e0 := (rdSlot_calm (slD_calm h hl 0 (by omega)) (i := base + 4 * num + 2 * 0) (by rw [XG]; omega)).2
 have e1 := (rdSlot_calm (slD_calm h hl 1 (by omega)) (i := base + 4 * num + 2 * 1) (by rw [XG]; omega)).2
 unfold ZE slR
 rw [if_neg (by rw [e0]; simp), if_neg (by rw [e1]; simp)]
 exact ⟨rfl, slD_calm h hl 2 (by omega)⟩
theorem FO.read {D : DS} {base t : Nat} {held : Nat → Xc} (h : FO D base t held) (hc : D.Calm) {num : Nat} (hn : num < 64) : (We D base num).1 = ((held num).1, (held num).2, 0) ∧ FO (We D base num).2 base t held ∧ (We D base num).2.Calm := by
 have hln := h.len
 have hl : base + 4 * num + 4 ≤ D.secs.length := by omega
 obtain ⟨e1, e2⟩ := countsD_calm hc hl
 have e3 := countsD_val h.empty h.alive hl e1
 have e4 := h.held num hn
 have hf := h.congr (D' := (ZE D base num).2.1) Vq (countsD_ok h.dok) e2.dead
 unfold WW at e4
 unfold We
 rw [e1, e3]
 dsimp only
 by_cases hr : (csD D base num).best.right = true
 ·rw [if_pos hr] at e4
  rw [if_neg (by simp [hr]), ← e4]
  exact ⟨rfl, hf, e2⟩
 ·rw [if_neg hr] at e4
  rw [if_pos (.inr (by simpa using hr)), ← e4]
  exact ⟨rfl, hf, e2⟩
def upd (f : Nat → Xc) (n : Nat) (v : Xc) : Nat → Xc := fun k => if k = n then v else f k
theorem upd_self (f : Nat → Xc) (n : Nat) : upd f n (f n) = f := by funext k; unfold upd; split <;> simp_all
end Go.Proofs.E
