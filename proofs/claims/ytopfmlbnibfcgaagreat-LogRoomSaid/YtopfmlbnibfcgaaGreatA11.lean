/- The law LogRoom. Part 11 of 16. -/
import Derived.Test.YtopfmlbnibfcgaaGreatA10
namespace Go.Proofs.E
open Go
set_option linter.unusedVariables false
set_option linter.unusedSimpArgs false
set_option linter.unusedSectionVars false
set_option maxRecDepth 4000
set_option maxHeartbeats 1000000
attribute [local irreducible] Yl TL TC TE Spec ZN R1 Hp.le EnvLe TS TR YS Zp TP QP
theorem RIn.cutOk {ρ : Hp} {R : RgS} {w : RW} (h : RIn ρ R w) {n : Nat} {note : Bs} (hn : n ≤ R.ents.length) (ht : R.h.turn < 1073741824) (hnl : note.length ≤ 32) {e : BSl} (he : BIn ρ e) (hel : e.l = note) {v : Value} {sp : List Value} (ho : OwnS v (w.els.length - n) ((w.els.drop n).map slv) sp 1) :
  RIn ρ ⟨R.cutH n note, R.ents.drop n, R.used - Yc (R.ents.take n), false⟩ ⟨e.a, e.n, e.c, v, w.els.drop n, sp⟩ := by
 have hsz := h.ok.size
 have hlen := h.len
 have hus := h.ok.used
 have hft := h.ok.fit
 have htd := Wg R.ents n
 have hnx := h.ok.next
 have hfi := h.ok.first
 have htu := h.ok.turn
 subst hel
 unfold RgS.next at hnx
 refine ⟨⟨⟨?_, ?_⟩, hsz, ?_, ?_, Nat.mod_lt _ (by omega), hnl, ?_, ?_, fun c hc => h.ok.long c (List.mem_of_mem_drop hc)⟩, he.s, he.le, by simpa using ho, ?_, fun x hx => h.els x (List.mem_of_mem_drop hx)⟩
 all_goals dsimp only [RgS.cutH, Hd.cut, RgS.next]
 any_goals simp only [List.length_drop]
 any_goals omega
 rw [h.ents, List.map_drop]
theorem cut_spec_main (ρ : Hp) (rb db : Nat) (R : RgS) (w : RW) (h : RIn ρ R w) (k : DK) (D : DS) (hD : DOk k D) (X : SH) (a : Option Addr) (nn c : Nat) (note : Bs) (hb : Rd ρ X a nn note) (m : Nat) (hbr : R.broken = false) (hm : m ≤ R.ents.length) (ht : R.h.turn < 1073741824) (hnl : note.length ≤ 32) :
  Spec Tryz.prog 14 [.pointer (some ⟨rb, 0, none⟩), .int .i64 m, .slice a nn c] ρ (ZO rb db R w ++ (Zs db k D ++ X))
   (fun v ρ' L' => v = .int .i64 (R.cut m note D).2.2 ∧ ρ.le ρ' ∧ ∃ k' w', DOk k' (R.cut m note D).2.1 ∧ RIn ρ' (R.cut m note D).1 w' ∧ L' = ZO rb db (R.cut m note D).1 w' ++ (Zs db k' (R.cut m note D).2.1 ++ X)) := by
 have hl := hb.len
 have hlen := h.len
 have hsz := h.ok.size
 have hus := h.ok.used
 have hft := h.ok.fit
 have hnx := h.ok.next
 have hfi := h.ok.first
 have hpl := h.ok.place
 have hul := usedL_len R.ents
 have htd := Wg R.ents m
 have hsome : R.cut m note D = if (DS.lays (ZU (R.cutH m note)) D).2 = 0 then (⟨R.cutH m note, R.ents.drop m, R.used - Yc (R.ents.take m), false⟩, DS.lays (ZU (R.cutH m note)) D) else ({ R with broken := true }, DS.lays (ZU (R.cutH m note)) D) := by
  unfold RgS.cut
  rw [hbr, if_neg (by simp), if_neg (by omega), if_neg (by omega)]
  simp only [Int.toNat_natCast]
 have e1 : (R.h.turn : Int) + 1 = ((R.cutH m note).turn : Int) := by simp [RgS.cutH, Hd.cut]
 have e2 : (R.h.first : Int) + (m : Int) = ((R.cutH m note).first : Int) := by simp [RgS.cutH, Hd.cut]
 have e3 : ((R.h.place : Int) + ((Yc (R.ents.take m) : Nat) : Int)).tmod (R.h.size : Int) = ((R.cutH m note).place : Int) := by
  rw [Int.tmod_eq_emod_of_nonneg (by omega)]; simp [RgS.cutH, Hd.cut]
 have hfj : (R.h.first : Int) + (m : Int) ≤ 1099511627776 := by unfold RgS.next at hnx; omega
 have e4 : (R.used : Int) - ((Yc (R.ents.take m) : Nat) : Int) = ((R.used - Yc (R.ents.take m) : Nat) : Int) := by omega
 have hcl : (R.cutH m note).turn < 4294967296 ∧ (R.cutH m note).first ≤ 1099511627776 ∧ (R.cutH m note).size < 65536 ∧ (R.cutH m note).place < 65536 := by
  have := Nat.mod_lt (R.h.place + Yc (R.ents.take m)) (show 0 < R.h.size by omega)
  dsimp only [RgS.cutH, Hd.cut]; omega
 have hw0 := works_spec ρ rb db R w
 rw [hbr] at hw0
 simp only [Bool.false_eq_true, if_false] at hw0
 have hall := fun {j : Nat} (hj : j < w.els.length) => h.at hj
 have hcutok := fun {ρ2 : Hp} (hle : ρ.le ρ2) {e : BSl} (he : BIn ρ2 e) (hel : e.l = note) {v : Value} {sp : List Value} ho => (h.mono hle).cutOk (v := v) (sp := sp) hm ht hnl he hel ho
 have hbrk := fun {ρ2 : Hp} (hle : ρ.le ρ2) => (h.mono hle).broken true
 rcases h.own.out with ⟨hev, h0, h1, h2⟩ | ⟨bx, cap, hev, g1, g2, g3⟩
 ·obtain ⟨wna, wnn, wnc, wev, els, sp⟩ := w
  dsimp only at hev h0 h1 h2 hlen hcutok hbrk hw0 ⊢
  subst hev
  subst h2
  have hels : els = [] := List.eq_nil_of_length_eq_zero h0
  subst hels
  have hm0 : m = 0 := by simp at hlen; omega
  subst hm0
  simp only [ZO, Zw]
  refine Za Tryz.func14 rfl rfl rfl fun u R0 => ?_
  simp only [Zf, kA, List.append_assoc]
  repeat' (first | (refine Zb (.func 61) ?_; refine qC rfl rfl (hw0) ?_; rintro v ρ' L' hle ⟨rfl, rfl, rfl⟩ <;> (try simp only [kA])) | refine zW ?_ | intro _)
  refine Zm [(0, _), (1, _), (2, _), (6, _), (7, _), (47, _), (48, _)] (fun (ζ : (Nat)) => [(49, .int .i64 ζ), (8, .int .i64 (Yc (R.ents.take ζ) : Nat))]) (fun (ζ : (Nat)) => ρ') (fun (ζ : (Nat)) => []) (fun (ζ : (Nat)) => ζ = 0) (fun (ζ : (Nat)) => 0) (0) (rfl) Zc Zc rfl tk ?_
  rintro j hI
  try simp only [kA, List.append_assoc] at hI ⊢
  try dsimp only at hI ⊢
  subst hI
  repeat' (first | refine zW ?_ | intro _)
  refine tpA [0,1,2,3,4,5,6,7,8,9,10,11,12,13,14,15,16,17,18,19,20,21,22,23,24,25,26,27,28,29,30,31,32] (.b 33 35 [34] [] (.e 35 [] (.e 36 [] .o)) (.e 33 [34] (.e 36 [] .o))) ([[(rb, .cells ⟨rgV R db ⟨wna, wnn, wnc, .slice none 0 0, [], []⟩⟩ 123 (0, 0))]]) ?_
  repeat' (refine iT ?_; first | refine rA ?_ | ((first | (refine iE ?_; refine rE ?_) | (refine iB ?_; refine rB ?_ ?_)) <;> ((try refine Zr ?_); (first | (refine Zb (.func 66) ?_; refine qC rfl rfl (Wn _ X a nn c note (hb.mono (by assumption)) (by omega)) ?_; rintro v7 ρ7 L7 hle7 ⟨hl7, e, rfl, he, hel, hen, rfl⟩; simp only [kA]) | (refine qEf ?_; try intro _)) <;> ((try simp only [kA]); refine Zj ?_; refine rN ?_))))
  all_goals (repeat' (first | refine zW ?_ | intro _))
  all_goals
   simp only [e1, e2, e3]
   rename_i bh
   have hls := laid_spec ρ7 (R.cutH 0 note) e.a e.n e.c (by have := he.s; rw [hel] at this; exact this) hcl.1 hcl.2.1 hcl.2.2.1 hcl.2.2.2 (by rw [hen]; omega) db k D hD
   refine tpA [0,1,2,3,4] (.e 5 [] (.f [6] .o)) ([[(bh, .cells ⟨hdV (R.cutH 0 note) e.a e.n e.c⟩ 120 (0, 0))], [(rb, .cells ⟨rgV R db ⟨wna, wnn, wnc, .slice none 0 0, [], []⟩⟩ 123 (0, 0))]]) ?_
   repeat' (refine iT ?_; first | refine rA ?_ | ((refine iE ?_; refine rE ?_) <;> ((try refine Zr ?_); (first | (refine Zb (.func 55) ?_; refine qC rfl rfl hls ?_; rintro v8 ρ8 L8 hle8 ⟨rfl, hl8, k8, hD8, rfl⟩; try simp only [kA, List.append_assoc]) | (refine qEf ?_; try intro _)) <;> ((try simp only [kA]); refine Zj ?_; refine rN ?_))))
   all_goals (repeat' (first | refine zW ?_ | intro _))
   have hhe := fun (v : Value) (sp : List Value) ho => hcutok (Hp.le_trans hl7 hl8) (he.mono hl8) hel (v := v) (sp := sp) ho
   have hbk := hbrk (Hp.le_trans hl7 hl8)
   rw [hsome]
   generalize DS.lays (ZU (R.cutH 0 note)) D = r at *
   obtain ⟨D', ec⟩ := r
   dsimp only at hD8 ⊢
   by_cases hz : ec = 0
   ·subst hz
    rw [show ((0 : Int) != 0) = false from rfl, if_pos rfl]
    repeat' (first | refine zW ?_ | intro _)
    refine tpA [0,1,2,3,4,5,6,8,11,12,13,15] (.b 7 14 [9] [16] (.b 10 14 [] [16] (.e 14 [16,17,18] (.e 19 [20,21] (.e 22 [23,24] (.e 25 [] .o)))) (.e 10 [17,18] (.e 19 [20,21] (.e 22 [23,24] (.e 25 [] .o))))) (.e 7 [9] (.e 10 [17,18] (.e 19 [20,21] (.e 22 [23,24] (.e 25 [] .o)))))) ([[(bh, .cells ⟨hdV (R.cutH 0 note) e.a e.n e.c⟩ 120 (0, 0))]]) ?_
    repeat' (refine iT ?_; first | refine rA ?_ | ((first | (refine iE ?_; refine rE ?_) | (refine iB ?_; refine rB ?_ ?_)) <;> ((try refine Zr ?_); (first | (refine Zb (.func 70) ?_; refine qC rfl rfl (clone2_nil _ _ _) ?_; rintro v9 ρ9 L9 hle9 ⟨rfl, rfl, rfl⟩; try simp only [kA]) | (refine i_qq ?_; refine qQ ?_) | (refine qEf ?_; try intro _)) <;> ((try simp only [kA]); refine Zj ?_; refine rN ?_))))
    all_goals (repeat' (first | refine zW ?_ | intro _))
    all_goals simp only [e4]
    all_goals exact qE (L' := ZO rb db ⟨R.cutH 0 note, R.ents.drop 0, R.used - Yc (R.ents.take 0), false⟩ ⟨e.a, e.n, e.c, .slice none 0 0, [].drop 0, []⟩ ++ (Zs db k8 D' ++ L7)) ⟨rfl, Hp.le_trans hl7 hl8, k8, _, hD8, hhe _ [] (OwnS.nil 1), rfl⟩
   ·have hcb : (ec != 0) = true := by simpa using hz
    rw [hcb, if_neg hz]
    repeat' (first | refine zW ?_ | intro _)
    exact qE (L' := ZO rb db { R with broken := true } ⟨wna, wnn, wnc, .slice none 0 0, [], []⟩ ++ (Zs db k8 D' ++ L7)) ⟨rfl, Hp.le_trans hl7 hl8, k8, _, hD8, hbk, rfl⟩
 ·obtain ⟨wna, wnn, wnc, wev, els, sp⟩ := w
  dsimp only at hev g1 g2 g3 hlen hall hcutok hbrk hw0 ⊢
  subst hev
  simp only [ZO, Zw]
  refine Za Tryz.func14 rfl rfl rfl fun u R0 => ?_
  simp only [Zf, kA, List.append_assoc]
  repeat' (first | (refine Zb (.func 61) ?_; refine qC rfl rfl (hw0) ?_; rintro v ρ' L' hle ⟨rfl, rfl, rfl⟩ <;> (try simp only [kA])) | refine zW ?_ | intro _)
  refine Zm [(0, _), (1, _), (2, _), (6, _), (7, _), (47, _), (48, _)] (fun (ζ : (Nat)) => [(49, .int .i64 ζ), (8, .int .i64 (Yc (R.ents.take ζ) : Nat))]) (fun (ζ : (Nat)) => ρ') (fun (ζ : (Nat)) => [[(bx, .cells ⟨els.map slv ++ sp⟩ 22 (0, 0))]]) (fun (ζ : (Nat)) => ζ ≤ m) (fun (ζ : (Nat)) => m - ζ) (0) (Nat.zero_le _) Zc Zc rfl tk ?_
  rintro j hI
  try simp only [kA, List.append_assoc] at hI ⊢
  try dsimp only at hI ⊢
  by_cases hlt : j < m
  ·obtain ⟨q1, q2, q3⟩ := hall (show j < els.length by omega)
   have hts := usedL_take_succ R.ents j (by omega)
   have hq2 := q2.s.len
   have hget : (els.map slv ++ sp)[0 + j * 1]? = some (slv els[j]) := by
    rw [Nat.zero_add, Nat.mul_one, List.getElem?_append_left (by simp; omega)]; simp [show j < els.length by omega]
   have hle : Yc (R.ents.take j) ≤ Yc R.ents := by have := Wg R.ents j; omega
   have hsc := sects_le q3
   rw [← q1, hq2] at hts
   repeat' (first | (refine Zb (.func 62) ?_; refine qC rfl rfl (sects_nat _ (els[j]).n (by omega)) ?_; rintro v ρ' L' hle ⟨rfl, rfl, rfl⟩ <;> (try simp only [kA])) | refine zW ?_ | intro _)
   rw [show ((Yc (R.ents.take j) : Nat) : Int) + ((Zv (els[j]).n : Nat) : Int) = ((Yc (R.ents.take (j + 1)) : Nat) : Int) by rw [hts]; omega]
   refine Zi (j + 1) (hlt) Zc Zc rfl tk inferInstance (by first | omega | (dsimp only; omega))
  ·have hjm : j = m := by omega
   subst hjm
   repeat' (first | refine zW ?_ | intro _)
   refine tpA [0,1,2,3,4,5,6,7,8,9,10,11,12,13,14,15,16,17,18,19,20,21,22,23,24,25,26,27,28,29,30,31,32] (.b 33 35 [34] [] (.e 35 [] (.e 36 [] .o)) (.e 33 [34] (.e 36 [] .o))) ([[(rb, .cells ⟨rgV R db ⟨wna, wnn, wnc, .slice (some ⟨bx, 0, none⟩) els.length cap, els, sp⟩⟩ 123 (0, 0))]]) ?_
   repeat' (refine iT ?_; first | refine rA ?_ | ((first | (refine iE ?_; refine rE ?_) | (refine iB ?_; refine rB ?_ ?_)) <;> ((try refine Zr ?_); (first | (refine Zb (.func 66) ?_; refine qC rfl rfl (Wn _ X a nn c note (hb.mono (by assumption)) (by omega)) ?_; rintro v7 ρ7 L7 hle7 ⟨hl7, e, rfl, he, hel, hen, rfl⟩; simp only [kA]) | (refine qEf ?_; try intro _)) <;> ((try simp only [kA]); refine Zj ?_; refine rN ?_))))
   all_goals (repeat' (first | refine zW ?_ | intro _))
   all_goals
    simp only [e1, e2, e3]
    rename_i bh
    have hls := laid_spec ρ7 (R.cutH j note) e.a e.n e.c (by have := he.s; rw [hel] at this; exact this) hcl.1 hcl.2.1 hcl.2.2.1 hcl.2.2.2 (by rw [hen]; omega) db k D hD
    refine tpA [0,1,2,3,4] (.e 5 [] (.f [6] .o)) ([[(bh, .cells ⟨hdV (R.cutH j note) e.a e.n e.c⟩ 120 (0, 0))], [(rb, .cells ⟨rgV R db ⟨wna, wnn, wnc, .slice (some ⟨bx, 0, none⟩) els.length cap, els, sp⟩⟩ 123 (0, 0))]]) ?_
    repeat' (refine iT ?_; first | refine rA ?_ | ((refine iE ?_; refine rE ?_) <;> ((try refine Zr ?_); (first | (refine Zb (.func 55) ?_; refine qC rfl rfl hls ?_; rintro v8 ρ8 L8 hle8 ⟨rfl, hl8, k8, hD8, rfl⟩; try simp only [kA, List.append_assoc]) | (refine qEf ?_; try intro _)) <;> ((try simp only [kA]); refine Zj ?_; refine rN ?_))))
    all_goals (repeat' (first | refine zW ?_ | intro _))
    have hhe := fun (v : Value) (sp : List Value) ho => hcutok (Hp.le_trans hl7 hl8) (he.mono hl8) hel (v := v) (sp := sp) ho
    have hbk := hbrk (Hp.le_trans hl7 hl8)
    rw [hsome]
    generalize DS.lays (ZU (R.cutH j note)) D = r at *
    obtain ⟨D', ec⟩ := r
    dsimp only at hD8 ⊢
    by_cases hz : ec = 0
    ·subst hz
     rw [show ((0 : Int) != 0) = false from rfl, if_pos rfl]
     repeat' (first | refine zW ?_ | intro _)
     obtain ⟨off, hval, hxx⟩ : ∃ off, (if cap = j then some (⟨bx, 0, none⟩ : Addr) else some ⟨bx, 0 + j * 1, none⟩) = some ⟨bx, off, none⟩ ∧ ((els.map slv ++ sp).drop off).take (els.length - j) = (els.drop j).map slv := by
      by_cases hcap : cap = j
      ·refine ⟨0, by rw [if_pos hcap], ?_⟩
       have : els.length - j = 0 := by omega
       have h2 : els.drop j = [] := List.drop_eq_nil_of_le (by omega)
       rw [this, h2]; simp
      ·refine ⟨j, by rw [if_neg hcap]; simp, ?_⟩
       rw [List.drop_append_of_le_length (by simp; omega), List.take_append_of_le_length (by simp), List.take_of_length_le (by simp), List.map_drop]
     refine tpA [0,1,2,3,4,5,6,8,11,12,13,15] (.b 7 14 [9] [16] (.b 10 14 [] [16] (.e 14 [16,17,18] (.e 19 [20,21] (.e 22 [23,24] (.e 25 [] .o)))) (.e 10 [17,18] (.e 19 [20,21] (.e 22 [23,24] (.e 25 [] .o))))) (.e 7 [9] (.e 10 [17,18] (.e 19 [20,21] (.e 22 [23,24] (.e 25 [] .o)))))) ([[(bh, .cells ⟨hdV (R.cutH j note) e.a e.n e.c⟩ 120 (0, 0))]]) ?_
     repeat' (refine iT ?_; first | refine rA ?_ | ((first | (refine iE ?_; refine rE ?_) | (refine iB ?_; refine rB ?_ ?_)) <;> ((try refine Zr ?_); (first | (simp only [Int.toNat_natCast, Option.map_some, Yw, hval]; refine Zb (.func 70) ?_; refine qC rfl rfl (clone2_spec _ _ (els.length - j) _ off 22 (els.map slv ++ sp) sp _ bx cap (els.drop j) (by omega) (by simp) rfl rfl hxx) ?_; rintro v9 ρ9 L9 hle9 ⟨rfl, sp9, hown9, rfl⟩; obtain ⟨a9, c9, rfl, _⟩ := hown9.slice; simp only [kA]) | (refine i_qq ?_; refine qQ ?_) | (refine qEf ?_; try intro _)) <;> ((try simp only [kA]); refine Zj ?_; refine rN ?_))))
     all_goals (repeat' (first | refine zW ?_ | intro _))
     all_goals simp only [e4]
     all_goals exact qE (L' := ZO rb db ⟨R.cutH j note, R.ents.drop j, R.used - Yc (R.ents.take j), false⟩ ⟨e.a, e.n, e.c, _, els.drop j, sp9⟩ ++ (Zs db k8 D' ++ L7)) ⟨rfl, Hp.le_trans hl7 hl8, k8, _, hD8, hhe _ sp9 hown9, rfl⟩
    ·have hcb : (ec != 0) = true := by simpa using hz
     rw [hcb, if_neg hz]
     repeat' (first | refine zW ?_ | intro _)
     exact qE (L' := ZO rb db { R with broken := true } ⟨wna, wnn, wnc, .slice (some ⟨bx, 0, none⟩) els.length cap, els, sp⟩ ++ (Zs db k8 D' ++ L7)) ⟨rfl, Hp.le_trans hl7 hl8, k8, _, hD8, hbk, rfl⟩
theorem noughtsL_64 {n : Nat} : ∀ p ∈ ZB n, p.2.length = 64 := fun p hp => by
 simp only [ZB, List.mem_map] at hp
 obtain ⟨k, _, rfl⟩ := hp; rfl
theorem fresh_rok {n : Nat} (h0 : 4 ≤ n) (h1 : n ≤ 1000) : RgS.Ok ⟨ZC n, [], 0, false⟩ :=
 ⟨by simp [ZC], ⟨h0, h1⟩, by simp [ZC], by simp [RgS.next, ZC], by simp only [ZC]; omega, by simp [ZC], rfl, Nat.zero_le _, by simp⟩
theorem fresh_rin {ρ : Hp} {n : Nat} (h0 : 4 ≤ n) (h1 : n ≤ 1000) : RIn ρ ⟨ZC n, [], 0, false⟩ ⟨none, 0, 0, .slice none 0 0, [], []⟩ :=
 ⟨fresh_rok h0 h1, SIn.nil, Nat.le_refl _, OwnS.nil 1, rfl, by simp⟩
def ringAns (ρ' : Hp) (db : Nat) (r : Option RgS × DS × Int) (v : Value) (L' : SH) : Prop :=
 ∃ k', DOk k' r.2.1 ∧ match r.1 with
  | none => v = .tuple ⟨[.pointer none, .int .i64 r.2.2]⟩ ∧ L' = Zs db k' r.2.1
  | some R => ∃ rb w, v = .tuple ⟨[.pointer (some ⟨rb, 0, none⟩), .int .i64 0]⟩ ∧ RIn ρ' R w ∧ L' = ZO rb db R w ++ Zs db k' r.2.1
theorem format_spec (ρ : Hp) (db : Nat) (k : DK) (D : DS) (hD : DOk k D) (size : Int) (hs : -9223372036854775808 ≤ size ∧ size ≤ 9223372036854775807) :
  Spec Tryz.prog 9 [.pointer (some ⟨db, 0, none⟩), .int .i64 size] ρ (Zs db k D) (fun v ρ' L' => ρ.le ρ' ∧ ringAns ρ' db (Wf size D) v L') := by
 by_cases h1 : size < 4
 ·have he : Wf size D = (none, D, 2) := by unfold Wf; rw [if_pos (.inl h1)]
  rw [he]
  refine Za Tryz.func9 rfl rfl rfl fun u R => ?_
  simp only [Zf, kA]
  repeat' (first | refine zW ?_ | intro _)
  rename_i b3
  refine tpA [0,1,2,3,4,5,6,7,9,10] (.e 8 [] (.f [11,12] .o)) ([[(b3, .cells ⟨[.int .i64 size]⟩ 3 (0, 0))]]) ?_
  repeat' (refine iT ?_; first | refine rA ?_ | ((refine iE ?_; refine rE ?_) <;> ((try refine Zr ?_); (first | (refine Zb (.func 52) ?_; refine qR rfl rfl (klen _ db k D) ?_; try simp only [kA]) | (refine qEf ?_; try intro _)) <;> ((try simp only [kA]); refine Zj ?_; refine rN ?_))))
  all_goals (repeat' (first | refine zW ?_ | intro _))
  all_goals exact qE ⟨Hp.le_refl _, k, hD, rfl, rfl⟩
 ·by_cases h2 : 1000 < size
  ·have he : Wf size D = (none, D, 2) := by unfold Wf; rw [if_pos (.inr (.inl h2))]
   rw [he]
   refine Za Tryz.func9 rfl rfl rfl fun u R => ?_
   simp only [Zf, kA]
   repeat' (first | refine zW ?_ | intro _)
   rename_i b3
   refine tpA [0,1,2,3,4,5,6,7,9,10] (.e 8 [] (.f [11,12] .o)) ([[(b3, .cells ⟨[.int .i64 size]⟩ 3 (0, 0))]]) ?_
   repeat' (refine iT ?_; first | refine rA ?_ | ((refine iE ?_; refine rE ?_) <;> ((try refine Zr ?_); (first | (refine Zb (.func 52) ?_; refine qR rfl rfl (klen _ db k D) ?_; try simp only [kA]) | (refine qEf ?_; try intro _)) <;> ((try simp only [kA]); refine Zj ?_; refine rN ?_))))
   all_goals (repeat' (first | refine zW ?_ | intro _))
   all_goals exact qE ⟨Hp.le_refl _, k, hD, rfl, rfl⟩
  ·by_cases h3 : (D.secs.length : Int) < size + 2
   ·have he : Wf size D = (none, D, 2) := by unfold Wf; rw [if_pos (.inr (.inr h3))]
    rw [he]
    refine Za Tryz.func9 rfl rfl rfl fun u R => ?_
    simp only [Zf, kA]
    repeat' (first | refine zW ?_ | intro _)
    rename_i b3
    refine tpA [0,1,2,3,4,5,6,7,9,10] (.e 8 [] (.f [11,12] .o)) ([[(b3, .cells ⟨[.int .i64 size]⟩ 3 (0, 0))]]) ?_
    repeat' (refine iT ?_; first | refine rA ?_ | ((refine iE ?_; refine rE ?_) <;> ((try refine Zr ?_); (first | (refine Zb (.func 52) ?_; refine qR rfl rfl (klen _ db k D) ?_; try simp only [kA]) | (refine qEf ?_; try intro _)) <;> ((try simp only [kA]); refine Zj ?_; refine rN ?_))))
    all_goals (repeat' (first | refine zW ?_ | intro _))
    all_goals exact qE ⟨Hp.le_refl _, k, hD, rfl, rfl⟩
   ·obtain ⟨n, rfl⟩ : ∃ n : Nat, size = n := ⟨size.toNat, by omega⟩
    have hn0 : 4 ≤ n := by omega
    have hn1 : n ≤ 1000 := by omega
    have he : Wf n D = if (DS.lays (ZB n) D).2 = 0 then
      if (DS.lays (ZU (ZC n)) (DS.lays (ZB n) D).1).2 = 0 then (some ⟨ZC n, [], 0, false⟩, DS.lays (ZU (ZC n)) (DS.lays (ZB n) D).1) else (none, DS.lays (ZU (ZC n)) (DS.lays (ZB n) D).1)
     else (none, DS.lays (ZB n) D) := by unfold Wf; rw [if_neg (by omega)]; simp only [Int.toNat_natCast]
    rw [he]
    refine Za Tryz.func9 rfl rfl rfl fun u R => ?_
    simp only [Zf, kA]
    repeat' (first | refine zW ?_ | intro _)
    rename_i b3
    refine tpA [0,1,2,3,4,5,6,7,9,10] (.e 8 [] (.f [11,12] .o)) ([[(b3, .cells ⟨[.int .i64 n]⟩ 3 (0, 0))]]) ?_
    repeat' (refine iT ?_; first | refine rA ?_ | ((refine iE ?_; refine rE ?_) <;> ((try refine Zr ?_); (first | (refine Zb (.func 52) ?_; refine qR rfl rfl (klen _ db k D) ?_; try simp only [kA]) | (refine qEf ?_; try intro _)) <;> ((try simp only [kA]); refine Zj ?_; refine rN ?_))))
    all_goals (repeat' (first | (refine Zb (.func 53) ?_; refine qC rfl rfl (lays_spec _ _ 54 [.pointer (some ⟨b3, 0, none⟩)] [[(b3, .cells ⟨[.int .i64 n]⟩ 3 (0, 0))]] (ZB n) (Hp.le_refl _) (noughts_iter _ b3 n (by omega)) noughtsL_64 db k D hD) ?_; rintro v6 ρ6 L6 hle6 ⟨rfl, hl6, k6, hD6, rfl⟩; simp only [kA, List.append_assoc]) | refine zW ?_ | intro _))
    all_goals generalize DS.lays (ZB n) D = r at *
    all_goals obtain ⟨D', ec⟩ := r
    all_goals dsimp only at hD6 ⊢
    all_goals
     by_cases hz : ec = 0
     ·subst hz
      have hrd := fun ρ => laid_spec ρ (ZC n) none 0 0 SIn.nil (by simp [ZC]) (by simp [ZC]) (by simp only [ZC]; omega) (by simp [ZC]) (by omega) db k6 D' hD6
      rw [show ((0 : Int) == 0) = true from rfl, if_pos rfl]
      repeat' (first | (refine Zb (.func 55) ?_; refine qC rfl rfl (hrd _) ?_; rintro v8 ρ8 L8 hle8 ⟨rfl, hl8, k8, hD8, rfl⟩; try simp only [kA, List.append_assoc]) | refine zW ?_ | intro _)
      generalize DS.lays (ZU (ZC n)) D' = r at *
      obtain ⟨D'', ec⟩ := r
      dsimp only at hD8 ⊢
      by_cases hz : ec = 0
      ·subst hz
       rw [show ((0 : Int) != 0) = false from rfl, if_pos rfl]
       repeat' (first | refine zW ?_ | intro _)
       rename_i rb
       exact qE (L' := ZO rb db ⟨ZC n, [], 0, false⟩ ⟨none, 0, 0, .slice none 0 0, [], []⟩ ++ Zs db k8 D'') ⟨Hp.le_trans hl6 hl8, k8, hD8, rb, _, rfl, fresh_rin hn0 hn1, rfl⟩
      ·have hcb : (ec != 0) = true := by simpa using hz
       rw [hcb, if_neg hz]
       repeat' (first | refine zW ?_ | intro _)
       exact qE (L' := Zs db k8 D'') ⟨Hp.le_trans hl6 hl8, k8, hD8, rfl, rfl⟩
     ·have hcb : (ec == 0) = false := by simpa using hz
      have hcb2 : (ec != 0) = true := by simpa using hz
      rw [hcb, if_neg hz]
      repeat' (first | refine zW ?_ | intro _)
      exact qE (L' := Zs db k6 D') ⟨hl6, k6, hD6, rfl, rfl⟩
theorem first_spec (ρ : Hp) (rb db : Nat) (R : RgS) (w : RW) : Spec Tryz.prog 74 [.pointer (some ⟨rb, 0, none⟩)] ρ [[(rb, .cells ⟨rgV R db w⟩ 123 (0, 0))]] (fun v ρ' L' => v = .int .u64 (R.h.first : Nat) ∧ ρ' = ρ ∧ L' = [[(rb, .cells ⟨rgV R db w⟩ 123 (0, 0))]]) := by
 refine Za Tryz.func74 rfl rfl rfl fun u R0 => ?_
 simp only [Zf, kA]
 repeat' (first | refine zW ?_ | intro _)
 exact qE ⟨rfl, rfl, rfl⟩
theorem note_spec (ρ : Hp) (rb db : Nat) (R : RgS) (w : RW) (h : RIn ρ R w) : Spec Tryz.prog 76 [.pointer (some ⟨rb, 0, none⟩)] ρ [[(rb, .cells ⟨rgV R db w⟩ 123 (0, 0))]] (fun v ρ' L' => ρ.le ρ' ∧ ∃ e : BSl, v = slv e ∧ BIn ρ' e ∧ e.l = R.h.note ∧ L' = [[(rb, .cells ⟨rgV R db w⟩ 123 (0, 0))]]) := by
 have hn := h.ok.note
 have hl := h.note.len
 refine Za Tryz.func76 rfl rfl rfl fun u R0 => ?_
 simp only [Zf, kA]
 repeat' (first | (refine Zb (.func 66) ?_; refine qC rfl rfl (Wn _ [] w.na w.nn w.nc R.h.note h.note.rd (by omega)) ?_; rintro v7 ρ7 L7 hle7 ⟨hl7, e, rfl, he, hel, hen, rfl⟩; simp only [kA]) | refine zW ?_ | intro _)
 exact qE ⟨hl7, e, rfl, he, hel, rfl⟩
end Go.Proofs.E
namespace Go.Proofs.E
open Go
set_option linter.unusedVariables false
set_option linter.unusedSimpArgs false
set_option linter.unusedSectionVars false
set_option maxRecDepth 4000
set_option maxHeartbeats 1000000
attribute [local irreducible] Yl TL TC TE Spec ZN R1 Hp.le EnvLe TS TR YS Zp
theorem all_spec (ρ : Hp) (rb db : Nat) (R : RgS) (w : RW) (h : RIn ρ R w) :
  Spec Tryz.prog 15 [.pointer (some ⟨rb, 0, none⟩)] ρ (ZO rb db R w) (fun v ρ' L' => ρ.le ρ' ∧ ∃ (els' : List BSl) (sp' : List Value), OwnS v els'.length (els'.map slv) sp' 1 ∧ (∀ e ∈ els', BIn ρ' e) ∧ els'.map BSl.l = R.ents ∧ L' = ZO rb db R w ++ [Zw v (els'.map slv) sp' 22]) := by
 have hlen := h.len
 have hfit := h.ok.fit
 have hsz := h.ok.size
 have hus := h.ok.used
 have hul := usedL_len R.ents
 have hall := fun {j : Nat} (hj : j < w.els.length) => h.at hj
 rcases h.own.out with ⟨hev, h0, h1, h2⟩ | ⟨bx, cap, hev, g1, g2, g3⟩
 ·have he : R.ents = [] := List.eq_nil_of_length_eq_zero (by omega)
  obtain ⟨wna, wnn, wnc, wev, els, sp⟩ := w
  dsimp only at hev h0 h1 h2 ⊢
  subst hev
  subst h2
  have hels : els = [] := List.eq_nil_of_length_eq_zero h0
  subst hels
  refine Za Tryz.func15 rfl rfl rfl fun u R0 => ?_
  simp only [Zf, kA]
  repeat' (first | refine zW ?_ | intro _)
  refine Zm [(2, _), (11, _), (12, _)] (fun (ζ : (Nat)) => [(13, .int .i64 ζ), (3, .slice none 0 0)]) (fun (ζ : (Nat)) => ρ) (fun (ζ : (Nat)) => []) (fun (ζ : (Nat)) => ζ = 0) (fun (ζ : (Nat)) => 0) (0) (rfl) Zc Zc rfl tk ?_
  rintro j hI
  try simp only [kA, List.append_assoc] at hI ⊢
  try dsimp only at hI ⊢
  subst hI
  repeat' (first | refine zW ?_ | intro _)
  exact qE (L' := ZO rb db R ⟨wna, wnn, wnc, .slice none 0 0, [], []⟩ ++ [[]]) ⟨Hp.le_refl _, [], [], OwnS.nil 1, fun x hx => (by cases hx), he.symm, rfl⟩
 ·obtain ⟨wna, wnn, wnc, wev, els, sp⟩ := w
  dsimp only at hev g1 g2 g3 hlen hall ⊢
  subst hev
  simp only [ZO, Zw]
  refine Za Tryz.func15 rfl rfl rfl fun u R0 => ?_
  simp only [Zf, kA]
  repeat' (first | refine zW ?_ | intro _)
  refine Zm [(2, _), (11, _), (12, _)] (fun (ζ : (Nat) × (Hp) × (Value) × (List BSl) × (List Value)) => [(13, .int .i64 ζ.1), (3, ζ.2.2.1)]) (fun (ζ : (Nat) × (Hp) × (Value) × (List BSl) × (List Value)) => ζ.2.1) (fun (ζ : (Nat) × (Hp) × (Value) × (List BSl) × (List Value)) => [[(bx, .cells ⟨els.map slv ++ sp⟩ 22 (0, 0))], Zw ζ.2.2.1 (ζ.2.2.2.1.map slv) ζ.2.2.2.2 22]) (fun (ζ : (Nat) × (Hp) × (Value) × (List BSl) × (List Value)) => ζ.1 ≤ els.length ∧ ρ.le ζ.2.1 ∧ OwnS ζ.2.2.1 ζ.2.2.2.1.length (ζ.2.2.2.1.map slv) ζ.2.2.2.2 1 ∧ (∀ e ∈ ζ.2.2.2.1, BIn ζ.2.1 e) ∧ ζ.2.2.2.1.map BSl.l = R.ents.take ζ.1) (fun (ζ : (Nat) × (Hp) × (Value) × (List BSl) × (List Value)) => els.length - ζ.1) ((0, ρ, .slice none 0 0, [], [])) (⟨Nat.zero_le _, Hp.le_refl _, OwnS.nil 1, by simp, rfl⟩) Zc Zc rfl tk ?_
  rintro ⟨j, ρ1, v, els2, sp2⟩ hI
  try simp only [kA, List.append_assoc] at hI ⊢
  try dsimp only at hI ⊢
  obtain ⟨hj, hle1, hown, hbin, hl⟩ := hI
  by_cases hlt : j < els.length
  ·obtain ⟨q1, q2, q3⟩ := hall hlt
   have hget : (els.map slv ++ sp)[0 + j * 1]? = some (slv els[j]) := by
    rw [Nat.zero_add, Nat.mul_one, List.getElem?_append_left (by simp; omega)]; simp [hlt]
   have hl2 : els2.length = j := by have := congrArg List.length hl; simp at this; omega
   repeat' (first | (refine Zb (.func 66) ?_; refine qC rfl rfl (Wn _ [] (els[j]).a (els[j]).n (els[j]).c (els[j]).l (q2.mono hle1).s.rd (by omega)) ?_; rintro v7 ρ7 L7 hle7 ⟨hl7, e, rfl, he, hel, hen, rfl⟩; try simp only [kA]) | (refine Zl rfl rfl rfl rfl (by simp) rfl rfl (fun _ => ?_)) | (refine Yk (ys := [slv e]) (m := 1) (sz := 1) rfl rfl hown (hR := by infer_instance) SrcV.lit rfl rfl (by decide) rfl (by omega) (by omega) rfl (fun v2 sp3 hown2 => ?_); rw [show els2.map slv ++ [slv e] = (els2 ++ [e]).map slv by simp] at hown2 ⊢) | refine zW ?_ | intro _)
   rw [show els2.length + 1 = (els2 ++ [e]).length by simp] at hown2
   refine Zi (j + 1, ρ7, v2, els2 ++ [e], sp3) (⟨hlt, Hp.le_trans hle1 hl7, hown2, fun x hx => (by rcases List.mem_append.1 hx with hx | hx <;> first | exact (hbin x hx).mono hl7 | (rw [List.mem_singleton.1 hx]; exact he)), by dsimp only; rw [List.map_append, hl, List.take_succ_eq_append_getElem (by omega), ← q1, ← hel]; rfl⟩) Zc Zc rfl tk inferInstance (by first | omega | (dsimp only; omega))
  ·have hk : j = els.length := by omega
   rw [hk, hlen, List.take_of_length_le (Nat.le_refl _)] at hl
   repeat' (first | refine zW ?_ | intro _)
   exact qE (L' := ZO rb db R ⟨wna, wnn, wnc, .slice (some ⟨bx, 0, none⟩) els.length cap, els, sp⟩ ++ [Zw v (els2.map slv) sp2 22]) ⟨hle1, els2, sp2, hown, hbin, hl, rfl⟩
structure Good (R : RgS) (D : DS) : Prop where
 ro : RO R D
 frs : Frs R D
 calm : D.Calm
theorem calm_pair {r : DS × Int} (h : r.2 = 0) : r = (r.1, 0) := Prod.ext rfl h
theorem Good.append {R : RgS} {D : DS} {b : Bs} (h : Good R D) (hb : b.length ≤ 8000) (hn : R.next < 1099511627776) (hfit : Zv b.length ≤ R.h.size - R.used) : ∃ D', R.append b D = (R.plus b, D', 0) ∧ Good (R.plus b) D' := by
 have hsz := h.ro.ok.size
 have hlen := h.ro.len
 have hidx : ∀ p ∈ ZY R.h R.next b (R.h.place + R.used), p.1 < D.secs.length := fun p hp => by
  obtain ⟨k, hk, rfl⟩ := partsL_mem.1 hp
  have := Nat.mod_lt (R.h.place + R.used + k) (show 0 < R.h.size by omega)
  dsimp only; omega
 obtain ⟨l0, l1, l2⟩ := Calm_lays (ZY R.h R.next b (R.h.place + R.used)) D h.calm hidx
 have ha := (h.ro.append h.frs hb hfit hn).1 l0
 refine ⟨(DS.lays (ZY R.h R.next b (R.h.place + R.used)) D).1, ?_, ha.1, ha.2, l1⟩
 unfold RgS.append
 rw [h.ro.live, if_neg (by simp), if_neg (by omega), if_neg (by omega), if_pos l0, calm_pair l0]
 rfl
theorem Good.full {R : RgS} {D : DS} {b : Bs} (h : Good R D) (hb : b.length ≤ 8000) (hfit : ¬ Zv b.length ≤ R.h.size - R.used) : R.append b D = (R, D, 6) := by
 unfold RgS.append
 rw [h.ro.live, if_neg (by simp), if_neg (by omega), if_pos (by omega)]
theorem Good.cut {R : RgS} {D : DS} {n : Nat} {note : Bs} (h : Good R D) (hn : n ≤ R.ents.length) (ht : R.h.turn < 1073741824) (hnote : note.length ≤ 32) (hnum : R.next < 1099511627776) : ∃ D', R.cut n note D = (R.minus n note, D', 0) ∧ Good (R.minus n note) D' := by
 have hsz := h.ro.ok.size
 have hlen := h.ro.len
 have hidx : ∀ p ∈ ZU (R.cutH n note), p.1 < D.secs.length := fun p hp => by rw [(YG hp).1]; omega
 obtain ⟨l0, l1, l2⟩ := Calm_lays (ZU (R.cutH n note)) D h.calm hidx
 have ha := (h.ro.cut hn ht hnote hnum).1 l0
 refine ⟨(DS.lays (ZU (R.cutH n note)) D).1, ?_, ha.1, ha.2, l1⟩
 unfold RgS.cut
 rw [h.ro.live, if_neg (by simp), if_neg (by omega), if_neg (by omega)]
 simp only [Int.toNat_natCast]
 rw [if_pos l0, calm_pair l0]
 rfl
theorem z8_take (n m : Nat) : Ym ((z8 n).take m) = 0 := by
 have : ∀ k, Ym (z8 k) = 0 := fun k => by
  induction k with
  | zero => rfl
  | succ k ih => simp only [z8, List.replicate_succ] at ih ⊢; rw [unbe_cons, ih]; simp
 simp only [z8, List.take_replicate]
 exact this _
theorem zblk_z : zblk = z8 64 := rfl
theorem turn_zblk : Yh zblk = 0 := by unfold Yh; rw [zblk_z, z8_take]
theorem num_zblk : numOf zblk = 0 := by
 unfold numOf; rw [zblk_z]; simp only [z8, List.drop_replicate]; exact z8_take _ _
theorem read_zblk : (Xh zblk).2 = false := by
 have h : ¬ (headOf zblk).Right (zblk.getD 21 0).toNat := fun h => by
  have h1 := h.1
  have : (headOf zblk).turn = 0 := by
   simp only [headOf, zblk_z, z8, List.drop_replicate]; exact z8_take _ _
  omega
 unfold Xh
 rw [if_neg h]
theorem Good.format {D : DS} {n : Nat} (hok : D.Ok) (hc : D.Calm) (h0 : 4 ≤ n) (h1 : n ≤ 1000) (hl : n + 2 ≤ D.secs.length) (he : Wj D.secs) : ∃ D', Wf n D = (some ⟨ZC n, [], 0, false⟩, D', 0) ∧ Good ⟨ZC n, [], 0, false⟩ D' := by
 have hidx : ∀ p ∈ ZB n, p.1 < D.secs.length := fun p hp => by
  simp only [ZB, List.mem_map, List.mem_range] at hp
  obtain ⟨k, hk, rfl⟩ := hp
  dsimp only; omega
 obtain ⟨l0, l1, l2⟩ := Calm_lays (ZB n) D hc hidx
 have hok1 := hok.lays (l := ZB n) noughtsL_64
 have hlen1 := XB (ZB n) D
 have hemp1 : Wj (DS.lays (ZB n) D).1.secs := by rw [l2]; exact Xb
 have hidx2 : ∀ p ∈ ZU (ZC n), p.1 < (DS.lays (ZB n) D).1.secs.length := fun p hp => by
  rw [(YG hp).1, hlen1]; simp only [ZC]; omega
 obtain ⟨m0, m1, m2⟩ := Calm_lays (ZU (ZC n)) (DS.lays (ZB n) D).1 l1 hidx2
 have hok2 := hok1.lays (l := ZU (ZC n)) (fun p hp => by rw [(YG hp).2]; exact headB_len _)
 have hlen2 := XB (ZU (ZC n)) (DS.lays (ZB n) D).1
 have himg1 : ∀ i, i < n + 2 → img (DS.lays (ZB n) D).1 i = zblk := fun i hi => by
  rcases img_all he l2 D rfl (i := i) (by omega) with ⟨_, hno⟩ | ⟨p, hp, h1, h2⟩
  ·exact absurd rfl (hno (i, zblk) (by simp only [ZB, List.mem_map, List.mem_range]; exact ⟨i, hi, rfl⟩))
  ·simp only [ZB, List.mem_map, List.mem_range] at hp
   obtain ⟨k, hk, rfl⟩ := hp
   exact h2
 have himg2 : img (DS.lays (ZU (ZC n)) (DS.lays (ZB n) D).1).1 1 = YY (ZC n) := by
  rcases img_all hemp1 m2 (DS.lays (ZB n) D).1 rfl (i := 1) (by omega) with ⟨_, hno⟩ | ⟨p, hp, _, h2⟩
  ·exact absurd rfl (hno (1, YY (ZC n)) (List.mem_singleton.2 rfl))
  ·rw [h2, (YG hp).2]
 have himg3 : ∀ i, i < n + 2 → i ≠ 1 → img (DS.lays (ZU (ZC n)) (DS.lays (ZB n) D).1).1 i = zblk := fun i hi hne => by
  rcases XT hemp1 m2 (DS.lays (ZB n) D).1 rfl i with e | ⟨p, hp, h1, _⟩
  ·rw [e]; exact himg1 i hi
  ·exact absurd (by rw [← h1, (YG hp).1]; rfl) hne
 refine ⟨(DS.lays (ZU (ZC n)) (DS.lays (ZB n) D).1).1, ?_, ⟨fresh_rok h0 h1, rfl, by simp [ZC], hok2, m1.dead, by rw [m2]; exact Xb, ?_, ?_, ?_, trivial, ?_, ?_⟩, ?_, m1⟩
 ·unfold Wf
  rw [if_neg (by omega)]
  simp only [Int.toNat_natCast]
  rw [if_pos l0, if_pos m0, calm_pair m0]
 ·show n + 2 ≤ _
  omega
 ·exact himg2
 ·rw [show (({ h := ZC n, ents := [], used := 0, broken := false } : RgS).h.turn + 1) % 2 = 0 from (by simp [ZC]), himg3 0 (by omega) (by omega), read_zblk]
  intro h; cases h
 ·intro _ t b ht ht2 _ _
  refine ⟨0, Wa _, fun hx => ?_⟩
  have := congrArg Yh hx
  rw [himg3 _ (by have := Nat.mod_lt ((ZC n).place + 0 + 0) (show 0 < (ZC n).size by simp only [ZC]; omega); simp only [ZC] at this ⊢; omega) (by omega), turn_zblk, partB_turn (by omega)] at this
  omega
 ·intro q hq
  have hq2 : q < n := hq
  rw [himg3 _ (by omega) (by omega), turn_zblk, num_zblk]
  exact ⟨Nat.zero_le _, Nat.zero_le _⟩
 ·intro q hq hc
  have hq2 : q < n := hq
  rw [himg3 _ (by omega) (by omega), turn_zblk] at hc
  exact absurd hc.1 (by simp [ZC])
end Go.Proofs.E
namespace Go.Proofs.E
open Go Go.RowKit
set_option linter.unusedVariables false
set_option linter.unusedSimpArgs false
set_option linter.unusedSectionVars false
set_option maxRecDepth 8000
theorem Opn.mono {H : Type} {enc : TypeId × Value → H} {P : Program} {w : World} {t : TypeId} {α β : Type} {R : List Value → α → Prop} {R' : List Value → β → Prop} (h : Opn enc P w t R) (k : ∀ cs a, R cs a → ∃ b, R' cs b) : Opn enc P w t R' := fun fuel cs x hx => by
 obtain ⟨a, ha⟩ := h fuel cs x hx
 exact k cs a ha
end Go.Proofs.E
namespace Go.Proofs.E
open Go
set_option linter.unusedVariables false
set_option linter.unusedSimpArgs false
set_option linter.unusedSectionVars false
set_option maxRecDepth 4000
set_option maxHeartbeats 1000000
attribute [local irreducible] Yl TL TC TE Spec ZN R1 Hp.le EnvLe TS TR YS Zp
theorem knew (ρ : Hp) (n : Nat) (h0 : 0 < n) (h1 : n ≤ 2048) : Spec Tryz.prog 8 [.int .i64 n] ρ [] (fun v ρ' L' => ρ' = ρ ∧ ∃ b k, v = .tuple ⟨[.pointer (some ⟨b, 0, none⟩), .int .i64 0]⟩ ∧ DOk k (DS.new n) ∧ L' = Zs b k (DS.new n)) :=
 (new_spec ρ n h0 h1).mono (fun v ρ' L' _ ⟨h1', b, hb, mb, ck, h2, h3⟩ => ⟨h1', b, ⟨hb, mb, [], ck⟩, h2, ⟨new_okD h0 h1, MapOk.empty fresh_empty⟩, h3⟩)
theorem We {ρ : Hp} {b : Nat} {s : Bs} {T : TypeId} {fr : Nat × Nat} (h : ρ b = some (.cells ⟨s.map Zo⟩ T fr)) (lo' n : Nat) (hn : lo' + n ≤ s.length) : SIn ρ Zo (some ⟨b, lo', none⟩) n ((s.drop lo').take n) := by
 refine ⟨by simp; omega, .inr ⟨b, lo', _, _, _, rfl, h, by rw [List.map_take, List.map_drop]⟩⟩
end Go.Proofs.E
namespace Go.Proofs.E
open Go
set_option linter.unusedVariables false
set_option linter.unusedSimpArgs false
set_option linter.unusedSectionVars false
set_option maxRecDepth 4000
set_option maxHeartbeats 1000000
attribute [local irreducible] Yl TL TC TE Spec ZN R1 Hp.le EnvLe TS TR YS Zp TP QP
abbrev RR := RV × Rc
abbrev rrV (x : RR) : List Value := Wt x.1 x.2
abbrev Xm (l : List RR) : List Value := (l.map rrV).flatten
theorem flatL_len (l : List RR) : (Xm l).length = l.length * 10 := by
 induction l with
 | nil => rfl
 | cons x r ih => simp only [Xm, List.map_cons, List.flatten_cons, List.length_append] at ih ⊢; rw [ih]; simp [rrV]; omega
theorem flatL_add (l m : List RR) : Xm (l ++ m) = Xm l ++ Xm m := by simp [Xm]
structure LgS where
 R : RgS
 base : Nat
 fl : Nat
 ma : Nat
 nx : Int
 recs : List RR
def ZH (l : List RR) : Nat := (l.map fun x => Xz x.2).sum
theorem usedR_add (l m : List RR) : ZH (l ++ m) = ZH l + ZH m := by simp [ZH]
def LgS.next (S : LgS) : Nat := S.base + S.recs.length
def LgS.more (S : LgS) (x : RR) : LgS := { S with recs := S.recs ++ [x] }
abbrev lgV (rb : Nat) (S : LgS) (v : Value) : List Value := [.pointer (some ⟨rb, 0, none⟩), .int .u64 S.base, .int .u64 S.fl, .int .u64 S.ma, .int .i64 S.nx, v, .int .i64 (ZH S.recs : Nat)]
abbrev Ye (lb rb : Nat) (S : LgS) (v : Value) : List (Nat × Obj) := [(lb, .cells ⟨lgV rb S v⟩ 155 (0, 0))]
abbrev Xp (S : LgS) (v : Value) (sp : List Value) : List (Nat × Obj) := Zw v (Xm S.recs) sp 39
structure LgIn (ρ : Hp) (S : LgS) (v : Value) (sp : List Value) : Prop where
 own : OwnS v S.recs.length (Xm S.recs) sp 10
 rin : ∀ x ∈ S.recs, RcIn ρ x.1 x.2
 ok : ∀ x ∈ S.recs, Yr x.2 = true
 used : ZH S.recs ≤ 1000000
 base : S.base ≤ 1099511627777
theorem costN_le (r : Rc) : Xz r ≤ 100 := by
 unfold Xz
 split
 ·rename_i h
  have := recB_le (recOk_lay h)
  unfold sectsB; omega
 ·omega
theorem costN_pos {r : Rc} (h : Yr r = true) : 1 ≤ Xz r := by
 unfold Xz; rw [if_pos h]; unfold sectsB; omega
theorem usedR_len {l : List RR} (h : ∀ x ∈ l, Yr x.2 = true) : l.length ≤ ZH l := by
 induction l with
 | nil => exact Nat.zero_le _
 | cons x r ih =>
  have h1 := costN_pos (h x (by simp))
  have h2 := ih (fun y hy => h y (by simp [hy]))
  simp only [ZH, List.map_cons, List.sum_cons, List.length_cons] at h2 ⊢
  omega
theorem LgIn.mono {ρ ρ' S v sp} (h : LgIn ρ S v sp) (hle : ρ.le ρ') : LgIn ρ' S v sp := ⟨h.own, fun x hx => (h.rin x hx).mono hle, h.ok, h.used, h.base⟩
theorem LgIn.len {ρ S v sp} (h : LgIn ρ S v sp) : S.recs.length ≤ 1000000 := Nat.le_trans (usedR_len h.ok) h.used
theorem LgIn.next {ρ S v sp} (h : LgIn ρ S v sp) : S.next < 2000000000000 := by
 have h1 := h.len
 have h2 := h.base
 unfold LgS.next; omega
theorem XC (ρ : Hp) (lb rb : Nat) (S : LgS) (v : Value) (sp : List Value) (h : LgIn ρ S v sp) :
  Spec Tryz.prog 22 [.pointer (some ⟨lb, 0, none⟩)] ρ [Ye lb rb S v] (fun z ρ' L' => z = .int .u64 (S.next : Nat) ∧ ρ' = ρ ∧ L' = [Ye lb rb S v]) := by
 have h1 := h.len
 have h2 := h.base
 obtain ⟨a, c, rfl, _⟩ := h.own.len
 have e : ((S.base : Nat) : Int) + ((S.recs.length : Nat) : Int) = ((S.next : Nat) : Int) := by unfold LgS.next; omega
 refine Za Tryz.func22 rfl rfl rfl fun u R => ?_
 simp only [Zf, kA]
 repeat' (first | refine zW ?_ | intro _)
 refine tpZ [0] (.f [1,2,3,4,5,6,7,8,9,10,11] .o) ?_
 repeat' (refine iT ?_; first | refine rA ?_)
 all_goals (repeat' (first | refine zW ?_ | intro _))
 all_goals rw [e]
 all_goals exact qE (L' := [Ye lb rb S (.slice a S.recs.length c)]) ⟨rfl, rfl, rfl⟩
theorem flushed16_spec (ρ : Hp) (lb rb : Nat) (S : LgS) (v : Value) :
  Spec Tryz.prog 27 [.pointer (some ⟨lb, 0, none⟩)] ρ [Ye lb rb S v] (fun z ρ' L' => z = .int .u64 (S.fl : Nat) ∧ ρ' = ρ ∧ L' = [Ye lb rb S v]) := by
 refine Za Tryz.func27 rfl rfl rfl fun u R => ?_
 simp only [Zf, kA]
 repeat' (first | refine zW ?_ | intro _)
 exact qE (L' := [Ye lb rb S v]) ⟨rfl, rfl, rfl⟩
theorem used16_spec (ρ : Hp) (lb rb : Nat) (S : LgS) (v : Value) :
  Spec Tryz.prog 24 [.pointer (some ⟨lb, 0, none⟩)] ρ [Ye lb rb S v] (fun z ρ' L' => z = .int .i64 (ZH S.recs : Nat) ∧ ρ' = ρ ∧ L' = [Ye lb rb S v]) := by
 refine Za Tryz.func24 rfl rfl rfl fun u R => ?_
 simp only [Zf, kA]
 repeat' (first | refine zW ?_ | intro _)
 exact qE (L' := [Ye lb rb S v]) ⟨rfl, rfl, rfl⟩
theorem takes_spec16 (ρ : Hp) (lb rb : Nat) (S : LgS) (v : Value) (sp : List Value) (h : LgIn ρ S v sp) (x : RR) (hx : RcIn ρ x.1 x.2) (hok : Yr x.2 = true) (hu : ZH S.recs + Xz x.2 ≤ 1000000) :
  Spec Tryz.prog 79 [.pointer (some ⟨lb, 0, none⟩), .agg ⟨Wt x.1 x.2⟩] ρ [Ye lb rb S v, Xp S v sp]
   (fun z ρ' L' => z = .tuple ⟨[]⟩ ∧ ρ.le ρ' ∧ ∃ v' sp', LgIn ρ' (S.more x) v' sp' ∧ L' = [Ye lb rb (S.more x) v', Xp (S.more x) v' sp']) := by
 have h1 := h.len
 have hc := rcost_spec ρ x.1 x.2 hx
 have hcl := costN_le x.2
 have hown := h.own
 obtain ⟨va, vc, rfl, _⟩ := hown.len
 have e1 : ((ZH S.recs : Nat) : Int) + ((Xz x.2 : Nat) : Int) = ((ZH (S.recs ++ [x]) : Nat) : Int) := by rw [usedR_add]; simp [ZH]
 refine Za Tryz.func79 rfl rfl rfl fun u R => ?_
 simp only [Zf, kA]
 repeat' (first | (refine Zb (.func 87) ?_; refine qC rfl rfl (hc) ?_; rintro v ρ' L' hle ⟨hle1, rfl, rfl⟩ <;> (try simp only [kA])) | refine zW ?_ | intro _)
 rename_i xb
 refine tpA [0,1,2,3,4,6,9,10,11,13] (.c 5 7 12 [] [] [14] (.b 7 12 [] [14] (.b 8 12 [] [14] (.e 12 [14,15,16] (.e 17 [18,19] (.e 20 [] .o))) (.e 8 [15,16] (.e 17 [18,19] (.e 20 [] .o)))) (.e 7 [] (.e 8 [15,16] (.e 17 [18,19] (.e 20 [] .o))))) (.b 5 12 [] [14] (.b 8 12 [] [14] (.e 12 [14,15,16] (.e 17 [18,19] (.e 20 [] .o))) (.e 8 [15,16] (.e 17 [18,19] (.e 20 [] .o)))) (.e 5 [] (.e 8 [15,16] (.e 17 [18,19] (.e 20 [] .o))))) (.b 5 7 [] [] (.e 7 [] (.e 8 [15,16] (.e 17 [18,19] (.e 20 [] .o)))) (.e 5 [] (.e 8 [15,16] (.e 17 [18,19] (.e 20 [] .o)))))) ([[(xb, .cells ⟨Wt x.1 x.2⟩ 39 (0, 0))]]) ?_
 repeat' (refine iT ?_; first | refine rA ?_ | ((first | (refine iE ?_; refine rE ?_) | (refine iB ?_; refine rB ?_ ?_) | (refine iC ?_; refine rC ?_ ?_ ?_)) <;> ((try refine Zr ?_); (first | (refine Yz (css := [Wt x.1 x.2]) (sz := 10) rfl rfl rfl rfl (by simp) (by simp) rfl (fun bs => ?_); simp only [List.flatten_cons, List.flatten_nil, List.append_nil]) | (refine Yk (ys := Wt x.1 x.2) (m := 1) (sz := 10) rfl rfl hown (hR := by repeat (first | exact Zz | apply ZE)) SrcV.lit rfl rfl (by decide) rfl (by omega) (by omega) rfl (fun v' sp' hown' => ?_); obtain ⟨va2, vc2, rfl, hvc2⟩ := hown'.slice) | (refine i_qq ?_; refine qQ ?_) | (refine qEf ?_; try intro _)) <;> ((try simp only [kA]); refine Zj ?_; refine rN ?_))))
 all_goals (repeat' (first | refine zW ?_ | intro _))
 all_goals
  have hfl : Xm S.recs ++ Wt x.1 x.2 = Xm (S.recs ++ [x]) := by rw [flatL_add]; simp [Xm]
  simp only [e1]
  rw [hfl] at hown' ⊢
  refine qE (L' := [Ye lb rb (S.more x) (.slice va2 (S.recs.length + 1) vc2), Xp (S.more x) (.slice va2 (S.recs.length + 1) vc2) sp']) ⟨rfl, hle1, _, sp', ⟨by simpa [LgS.more] using hown', ?_, ?_, ?_, h.base⟩, rfl⟩
  ·intro y hy
   rcases List.mem_append.1 hy with hy | hy
   ·exact (h.rin y hy).mono hle1
   ·rw [List.mem_singleton.1 hy]; exact hx.mono hle1
  ·intro y hy
   rcases List.mem_append.1 hy with hy | hy
   ·exact h.ok y hy
   ·rw [List.mem_singleton.1 hy]; exact hok
  ·show ZH (S.recs ++ [x]) ≤ 1000000
   rw [usedR_add]; simpa [ZH] using hu
def appE (S : LgS) (r : Rc) (res : Int) : Int :=
 if Yr r = false then 220 else if r.lsn ≠ S.next ∨ res < 0 ∨ 400 < res then 2
 else if 400 < (ZH S.recs : Int) + (Xz r : Int) + res ∨ S.next = 1099511627776 then 261 else 0
theorem append16_no (ρ : Hp) (lb rb : Nat) (S : LgS) (v : Value) (sp : List Value) (h : LgIn ρ S v sp) (x : RR) (hx : RcIn ρ x.1 x.2) (res : Int) (hno : appE S x.2 res ≠ 0) :
  Spec Tryz.prog 23 [.pointer (some ⟨lb, 0, none⟩), .agg ⟨Wt x.1 x.2⟩, .int .i64 res] ρ [Ye lb rb S v, Xp S v sp]
   (fun z ρ' L' => z = .int .i64 (appE S x.2 res) ∧ ρ.le ρ' ∧ L' = [Ye lb rb S v, Xp S v sp]) := by
 have h1 := h.len
 have hc := rcost_spec ρ x.1 x.2 hx
 have hcl := costN_le x.2
 have hus := h.used
 have hn := fun ρ => XC ρ lb rb S v sp
 have hown := h.own
 obtain ⟨va, vc, rfl, _⟩ := hown.len
 unfold appE at hno ⊢
 unfold errN at hc
 refine Za Tryz.func23 rfl rfl rfl fun u R => ?_
 simp only [Zf, kA]
 cases hok : Yr x.2
 ·rw [hok] at hc
  simp only [Bool.false_eq_true, if_false] at hc
  rw [if_pos rfl]
  repeat' (first | (refine Zb (.func 87) ?_; refine qC rfl rfl (hc) ?_; rintro v ρ' L' hle ⟨hle1, rfl, rfl⟩ <;> (try simp only [kA])) | refine zW ?_ | intro _)
  exact qE (L' := [Ye lb rb S (.slice va S.recs.length vc), Xp S (.slice va S.recs.length vc) sp]) ⟨rfl, hle1, rfl⟩
 ·rw [hok] at hc hno
  simp only [if_true, Bool.true_eq_false, if_false] at hc hno
  rw [if_neg (by simp)]
  by_cases h2 : x.2.lsn ≠ S.next ∨ res < 0 ∨ 400 < res
  ·rw [if_pos h2]
   repeat' (first | (refine Zb (.func 87) ?_; refine qC rfl rfl (hc) ?_; rintro v ρ' L' hle ⟨hle1, rfl, rfl⟩ <;> (try simp only [kA])) | refine zW ?_ | intro _)
   rename_i xb
   have hn1 := hn _ (h.mono hle1)
   by_cases a1 : x.2.lsn = S.next
   ·by_cases a2 : res < 0
    ·refine tpA [0,1,2] (.e 3 [] (.f [4,5,6,7,8,9,10,11,12,13] .o)) ([[(xb, .cells ⟨Wt x.1 x.2⟩ 39 (0, 0))]]) ?_
     repeat' (refine iT ?_; first | refine rA ?_ | ((refine iE ?_; refine rE ?_) <;> ((try refine Zr ?_); (first | (refine Zb (.func 22) ?_; refine qR rfl rfl (hn1) ?_; try simp only [kA]) | (refine qEf ?_; try intro _)) <;> ((try simp only [kA]); refine Zj ?_; refine rN ?_))))
     all_goals (repeat' (first | refine zW ?_ | intro _))
     all_goals exact qE (L' := [Ye lb rb S (.slice va S.recs.length vc), Xp S (.slice va S.recs.length vc) sp]) ⟨rfl, hle1, rfl⟩
    ·have a3 : 400 < res := by omega
     refine tpA [0,1,2] (.e 3 [] (.f [4,5,6,7,8,9,10,11,12,13] .o)) ([[(xb, .cells ⟨Wt x.1 x.2⟩ 39 (0, 0))]]) ?_
     repeat' (refine iT ?_; first | refine rA ?_ | ((refine iE ?_; refine rE ?_) <;> ((try refine Zr ?_); (first | (refine Zb (.func 22) ?_; refine qR rfl rfl (hn1) ?_; try simp only [kA]) | (refine qEf ?_; try intro _)) <;> ((try simp only [kA]); refine Zj ?_; refine rN ?_))))
     all_goals (repeat' (first | refine zW ?_ | intro _))
     all_goals exact qE (L' := [Ye lb rb S (.slice va S.recs.length vc), Xp S (.slice va S.recs.length vc) sp]) ⟨rfl, hle1, rfl⟩
   ·refine tpA [0,1,2] (.e 3 [] (.f [4,5,6,7,8,9,10,11,12,13] .o)) ([[(xb, .cells ⟨Wt x.1 x.2⟩ 39 (0, 0))]]) ?_
    repeat' (refine iT ?_; first | refine rA ?_ | ((refine iE ?_; refine rE ?_) <;> ((try refine Zr ?_); (first | (refine Zb (.func 22) ?_; refine qR rfl rfl (hn1) ?_; try simp only [kA]) | (refine qEf ?_; try intro _)) <;> ((try simp only [kA]); refine Zj ?_; refine rN ?_))))
    all_goals (repeat' (first | refine zW ?_ | intro _))
    all_goals exact qE (L' := [Ye lb rb S (.slice va S.recs.length vc), Xp S (.slice va S.recs.length vc) sp]) ⟨rfl, hle1, rfl⟩
  ·rw [if_neg h2] at hno ⊢
   have h3 : 400 < (ZH S.recs : Int) + (Xz x.2 : Int) + res ∨ S.next = 1099511627776 := by
    by_cases h3 : 400 < (ZH S.recs : Int) + (Xz x.2 : Int) + res ∨ S.next = 1099511627776
    ·exact h3
    ·rw [if_neg h3] at hno; exact absurd rfl hno
   rw [if_pos h3]
   obtain ⟨a1, a2⟩ := not_or.1 h2
   have a1 : x.2.lsn = S.next := Classical.not_not.1 a1
   have a3 : ¬ res < 0 := by omega
   have a4 : ¬ 400 < res := by omega
   repeat' (first | (refine Zb (.func 87) ?_; refine qC rfl rfl (hc) ?_; rintro v ρ' L' hle ⟨hle1, rfl, rfl⟩ <;> (try simp only [kA])) | refine zW ?_ | intro _)
   rename_i xb
   have hn1 := hn _ (h.mono hle1)
   refine tpA [0,1,2] (.e 3 [] (.f [4,5,6,7,8,9,10,11,12,13] .o)) ([[(xb, .cells ⟨Wt x.1 x.2⟩ 39 (0, 0))]]) ?_
   repeat' (refine iT ?_; first | refine rA ?_ | ((refine iE ?_; refine rE ?_) <;> ((try refine Zr ?_); (first | (refine Zb (.func 22) ?_; refine qR rfl rfl (hn1) ?_; try simp only [kA]) | (refine qEf ?_; try intro _)) <;> ((try simp only [kA]); refine Zj ?_; refine rN ?_))))
   by_cases a5 : 400 < (ZH S.recs : Int) + (Xz x.2 : Int) + res
   ·all_goals (repeat' (first | refine zW ?_ | intro _))
    all_goals exact qE (L' := [Ye lb rb S (.slice va S.recs.length vc), Xp S (.slice va S.recs.length vc) sp]) ⟨rfl, hle1, rfl⟩
   ·have a6 : S.next = 1099511627776 := by omega
    all_goals (repeat' (first | (refine Zb (.func 22) ?_; refine qR rfl rfl (hn1) ?_; try simp only [kA]) | refine zW ?_ | intro _))
    all_goals exact qE (L' := [Ye lb rb S (.slice va S.recs.length vc), Xp S (.slice va S.recs.length vc) sp]) ⟨rfl, hle1, rfl⟩
theorem append16_yes (ρ : Hp) (lb rb : Nat) (S : LgS) (v : Value) (sp : List Value) (h : LgIn ρ S v sp) (x : RR) (hx : RcIn ρ x.1 x.2) (res : Int) (hyes : appE S x.2 res = 0) :
  Spec Tryz.prog 23 [.pointer (some ⟨lb, 0, none⟩), .agg ⟨Wt x.1 x.2⟩, .int .i64 res] ρ [Ye lb rb S v, Xp S v sp]
   (fun z ρ' L' => z = .int .i64 0 ∧ ρ.le ρ' ∧ ∃ v' sp', LgIn ρ' (S.more x) v' sp' ∧ L' = [Ye lb rb (S.more x) v', Xp (S.more x) v' sp']) := by
 have h1 := h.len
 have hc := rcost_spec ρ x.1 x.2 hx
 have hcl := costN_le x.2
 have hus := h.used
 have hn := fun ρ => XC ρ lb rb S v sp
 have hown := h.own
 have ht := fun ρ hin => takes_spec16 ρ lb rb S v sp hin x
 obtain ⟨va, vc, rfl, _⟩ := hown.len
 unfold appE at hyes
 unfold errN at hc
 cases hok : Yr x.2
 ·rw [hok, if_pos rfl] at hyes; omega
 ·rw [hok] at hc
  simp only [if_true] at hc
  rw [hok, if_neg (by simp)] at hyes
  by_cases h2 : x.2.lsn ≠ S.next ∨ res < 0 ∨ 400 < res
  ·rw [if_pos h2] at hyes; omega
  ·rw [if_neg h2] at hyes
   by_cases h3 : 400 < (ZH S.recs : Int) + (Xz x.2 : Int) + res ∨ S.next = 1099511627776
   ·rw [if_pos h3] at hyes; omega
   ·obtain ⟨a1, a2⟩ := not_or.1 h2
    have a1 : x.2.lsn = S.next := Classical.not_not.1 a1
    have a3 : ¬ res < 0 := by omega
    have a4 : ¬ 400 < res := by omega
    have a5 : ¬ 400 < (ZH S.recs : Int) + (Xz x.2 : Int) + res := by omega
    have a6 : ¬ ((S.next : Nat) : Int) = 1099511627776 := by omega
    refine Za Tryz.func23 rfl rfl rfl fun u R => ?_
    simp only [Zf, kA]
    repeat' (first | (refine Zb (.func 87) ?_; refine qC rfl rfl (hc) ?_; rintro v ρ' L' hle ⟨hle1, rfl, rfl⟩ <;> (try simp only [kA])) | refine zW ?_ | intro _)
    rename_i xb
    have hn1 := hn _ (h.mono hle1)
    refine tpA [0,1,2] (.e 3 [] (.f [4,5,6,7,8,9,10,11,12,13] .o)) ([[(xb, .cells ⟨Wt x.1 x.2⟩ 39 (0, 0))]]) ?_
    repeat' (refine iT ?_; first | refine rA ?_ | ((refine iE ?_; refine rE ?_) <;> ((try refine Zr ?_); (first | (refine Zb (.func 22) ?_; refine qR rfl rfl (hn1) ?_; try simp only [kA]) | (refine qEf ?_; try intro _)) <;> ((try simp only [kA]); refine Zj ?_; refine rN ?_))))
    all_goals (repeat' (first | (refine Zb (.func 22) ?_; refine qR rfl rfl (hn1) ?_; try simp only [kA]) | (refine Zb (.func 79) ?_; refine qC rfl rfl ((ht _ (h.mono hle1) (hx.mono hle1) hok (by omega))) ?_; rintro v ρ' L' hle ⟨rfl, hle2, v', sp', hin, rfl⟩ <;> (try simp only [kA])) | refine zW ?_ | intro _))
    all_goals exact qE (L' := [Ye lb rb (S.more x) v', Xp (S.more x) v' sp']) ⟨rfl, Hp.le_trans hle1 hle2, v', sp', hin, rfl⟩
end Go.Proofs.E
namespace Go.Proofs.E
open Go
set_option linter.unusedVariables false
set_option linter.unusedSimpArgs false
set_option linter.unusedSectionVars false
set_option maxRecDepth 4000
set_option maxHeartbeats 1000000
attribute [local irreducible] Yl TL TC TE Spec ZN R1 Hp.le EnvLe TS TR YS Zp
theorem filt_pre16 {α : Type} (q : α → Bool) (l : List α) {k : Nat} (hk : k < l.length) (hq : q l[k] = true) : ((l.take k).filter q ++ [l[k]]) <+: l.filter q ∧ (l.take (k + 1)).filter q = (l.take k).filter q ++ [l[k]] := by
 have e : (l.take (k + 1)).filter q = (l.take k).filter q ++ [l[k]] := by
  rw [List.take_succ_eq_append_getElem hk, List.filter_append]
  congr 1
  simp [hq]
 refine ⟨?_, e⟩
 rw [← e]
 exact ⟨(l.drop (k + 1)).filter q, by rw [← List.filter_append, List.take_append_drop]⟩
theorem filt_no16 {α : Type} (q : α → Bool) (l : List α) {k : Nat} (hk : k < l.length) (hq : q l[k] = false) : (l.take (k + 1)).filter q = (l.take k).filter q := by
 rw [List.take_succ_eq_append_getElem hk, List.filter_append]
 simp [hq]
theorem flatL_at {l : List RR} {sp : List Value} {k : Nat} (h : k < l.length) : ((Xm l ++ sp).drop (0 + k * 10)).take 10 = rrV l[k] := by
 have h1 := flatL_len l
 rw [Nat.zero_add, List.drop_append_of_le_length (by omega), List.take_append_of_le_length (by rw [List.length_drop]; omega)]
 exact flat_at rrV 10 l k h (fun x _ => rfl)
abbrev Yo (S : LgS) (lsn : Nat) : List RR := S.recs.filter (fun x => decide (lsn ≤ x.2.lsn))
abbrev fb1 (b lb : Nat) : List (Nat × Obj) := [(b, .cells ⟨[.pointer (some ⟨lb, 0, none⟩)]⟩ 52 (0, 0))]
abbrev fb2 (b lsn : Nat) : List (Nat × Obj) := [(b, .cells ⟨[.int .u64 (lsn : Nat)]⟩ 33 (0, 0))]
theorem from16_spec (ρ : Hp) (lb lsn : Nat) : Spec Tryz.prog 88 [.pointer (some ⟨lb, 0, none⟩), .int .u64 (lsn : Nat)] ρ [] (fun v ρ' L' => ∃ b1 b2, v = .func (.func 154) ⟨[]⟩ ⟨[.pointer (some ⟨b1, 0, none⟩), .pointer (some ⟨b2, 0, none⟩)]⟩ ∧ ρ' = ρ ∧ L' = [fb1 b1 lb, fb2 b2 lsn]) := by
 refine Za Tryz.func88 rfl rfl rfl fun u R => ?_
 simp only [Zf, kA]
 repeat' (first | refine zW ?_ | intro _)
 rename_i b1 b2
 exact qE (L' := [fb1 b1 lb, fb2 b2 lsn]) ⟨b1, b2, rfl, rfl, rfl⟩
theorem from16_iter (ρ0 : Hp) (lb rb b1 b2 lsn : Nat) (S : LgS) (v : Value) (sp : List Value) (h : LgIn ρ0 S v sp) :
  IterP Tryz.prog 154 [] [.pointer (some ⟨b1, 0, none⟩), .pointer (some ⟨b2, 0, none⟩)] (fun x : RR => [.agg ⟨rrV x⟩]) ρ0 [fb1 b1 lb, fb2 b2 lsn, Xp S v sp] (Ye lb rb S v) (Yo S lsn) := by
 intro l J Jx hC hY ρ Lj hl0 hJ
 have h1 := h.len
 obtain ⟨A, B, rfl⟩ := hC _ _ hJ
 rcases h.own.out with ⟨rfl, g0, g1, g2⟩ | ⟨bx, cap, rfl, g1, g2, g3⟩
 ·have hnil : S.recs = [] := List.eq_nil_of_length_eq_zero g0
  subst g2
  simp only [Xp, Zw, Yo, hnil, List.filter_nil]
  refine Za Tryz.func154 rfl rfl rfl fun u R => ?_
  simp only [Zf, kA, List.append_assoc]
  repeat' (first | refine zW ?_ | intro _)
  refine Zm [(0, _), (2, _), (9, _), (10, _)] (fun (ζ : (Nat)) => [(11, .int .i64 ζ)]) (fun (ζ : (Nat)) => ρ) (fun (ζ : (Nat)) => fb1 b1 lb :: fb2 b2 lsn :: (A ++ Ye lb rb S (.slice none 0 0) :: B)) (fun (ζ : (Nat)) => ζ = 0) (fun (ζ : (Nat)) => 0) (0) (rfl) Zc Zc rfl tk ?_
  rintro k hI
  try simp only [kA, List.append_assoc] at hI ⊢
  try dsimp only at hI ⊢
  subst hI
  repeat' (first | refine zW ?_ | intro _)
  exact qE (L' := fb1 b1 lb :: fb2 b2 lsn :: [] :: (A ++ Ye lb rb S (.slice none 0 0) :: B)) ⟨_, rfl, .inl hJ⟩
 ·simp only [Xp, Zw]
  have hfl := flatL_len S.recs
  have hlen : (Xm S.recs ++ sp).length = cap * 10 := by rw [List.length_append]; exact g2
  refine Za Tryz.func154 rfl rfl rfl fun u R => ?_
  simp only [Zf, kA, List.append_assoc]
  repeat' (first | refine zW ?_ | intro _)
  refine Zm [(0, _), (2, _), (9, _), (10, _)] (fun (ζ : (Nat) × (Hp) × (SH)) => [(11, .int .i64 ζ.1)]) (fun (ζ : (Nat) × (Hp) × (SH)) => ζ.2.1) (fun (ζ : (Nat) × (Hp) × (SH)) => fb1 b1 lb :: fb2 b2 lsn :: [(bx, .cells ⟨Xm S.recs ++ sp⟩ 39 (0, 0))] :: ζ.2.2) (fun (ζ : (Nat) × (Hp) × (SH)) => ζ.1 ≤ S.recs.length ∧ ρ.le ζ.2.1 ∧ J ((S.recs.take ζ.1).filter (fun x => decide (lsn ≤ x.2.lsn))) ζ.2.1 ζ.2.2) (fun (ζ : (Nat) × (Hp) × (SH)) => S.recs.length - ζ.1) ((0, ρ, A ++ Ye lb rb S (.slice (some ⟨bx, 0, none⟩) S.recs.length cap) :: B)) (⟨Nat.zero_le _, Hp.le_refl _, hJ⟩) Zc Zc rfl tk ?_
  rintro ⟨k, ρ1, L1⟩ hI
  try simp only [kA, List.append_assoc] at hI ⊢
  try dsimp only at hI ⊢
  obtain ⟨hk, hle1, hj⟩ := hI
  by_cases hlt : k < S.recs.length
  ·have hl1 := Hp.le_trans hl0 hle1
   have hc := flatL_at (sp := sp) hlt
   have hyes := filt_pre16 (fun x : RR => decide (lsn ≤ x.2.lsn)) S.recs hlt
   have hno := filt_no16 (fun x : RR => decide (lsn ≤ x.2.lsn)) S.recs hlt
   generalize S.recs[k] = x at *
   obtain ⟨xv, xr⟩ := x
   dsimp only [rrV] at hc hyes hno
   by_cases hq : lsn ≤ xr.lsn
   ·obtain ⟨hpre, hts⟩ := hyes (decide_eq_true hq)
    clear hyes hno
    have hy := hY _ _ ρ1 L1 hpre hl1 hj
    repeat' (first | (refine Zb (.tmp 20) ?_; refine qY rfl rfl (hy) ?_; rintro v ρ' L' hle ⟨Lj', rfl, ⟨rfl, hj'⟩ | ⟨rfl, hj'⟩⟩ <;> (try simp only [kA])) | refine zW ?_ | intro _)
    ·repeat' (first | refine zW ?_ | intro _)
     refine Zi (k + 1, ρ', Lj') (⟨hlt, Hp.le_trans hle1 hle, by dsimp only; rw [hts]; exact hj'⟩) Zc Zc rfl tk inferInstance (by first | omega | (dsimp only; omega))
    ·repeat' (first | refine zW ?_ | intro _)
     exact qE (L' := fb1 b1 lb :: fb2 b2 lsn :: [(bx, .cells ⟨Xm S.recs ++ sp⟩ 39 (0, 0))] :: Lj') ⟨Lj', rfl, .inr hj'⟩
   ·have hts := hno (decide_eq_false hq)
    clear hyes hno
    repeat' (first | refine zW ?_ | intro _)
    refine Zi (k + 1, ρ1, L1) (⟨hlt, hle1, by dsimp only; rw [hts]; exact hj⟩) Zc Zc rfl tk inferInstance (by first | omega | (dsimp only; omega))
  ·have hk2 : k = S.recs.length := by omega
   rw [hk2, List.take_length] at hj
   repeat' (first | refine zW ?_ | intro _)
   exact qE (L' := fb1 b1 lb :: fb2 b2 lsn :: [(bx, .cells ⟨Xm S.recs ++ sp⟩ 39 (0, 0))] :: L1) ⟨L1, rfl, .inl hj⟩
end Go.Proofs.E
namespace Go.Proofs.E
open Go
set_option linter.unusedVariables false
set_option linter.unusedSimpArgs false
set_option linter.unusedSectionVars false
set_option maxRecDepth 4000
set_option maxHeartbeats 1000000
attribute [local irreducible] Yl TL TC TE Spec ZN R1 Hp.le EnvLe TS TR YS Zp TP QP
def Wz (to : Nat) : List RR → RgS → DS → Nat → RgS × DS × Nat × Int
 | [], R, D, f => (R, D, f, 0)
 | x :: l, R, D, f => if to < x.2.lsn then (R, D, f, 0)
  else if (R.append (Xa x.2) D).2.2 = 0 then Wz to l (R.append (Xa x.2) D).1 (R.append (Xa x.2) D).2.1 x.2.lsn
  else ((R.append (Xa x.2) D).1, (R.append (Xa x.2) D).2.1, f, (R.append (Xa x.2) D).2.2)
def LgS.at (S : LgS) (R : RgS) (f : Nat) : LgS := { S with R := R, fl := f }
def LgS.flush (S : LgS) (to : Nat) (D : DS) : LgS × DS × Int :=
 if S.next ≤ to then (S, D, 2) else
 (S.at (Wz to (Yo S (S.fl + 1)) S.R D S.fl).1 (Wz to (Yo S (S.fl + 1)) S.R D S.fl).2.2.1, (Wz to (Yo S (S.fl + 1)) S.R D S.fl).2.1, (Wz to (Yo S (S.fl + 1)) S.R D S.fl).2.2.2)
theorem fromL_mem {S : LgS} {lsn : Nat} {x : RR} (h : x ∈ Yo S lsn) : x ∈ S.recs := (List.mem_filter.1 h).1
abbrev b2C (b lb : Nat) : List (Nat × Obj) := [(b, .cells ⟨[.pointer (some ⟨lb, 0, none⟩)]⟩ 52 (0, 0))]
abbrev b3C (b to : Nat) : List (Nat × Obj) := [(b, .cells ⟨[.int .u64 (to : Nat)]⟩ 33 (0, 0))]
abbrev b4C (b : Nat) (e : Int) : List (Nat × Obj) := [(b, .cells ⟨[.int .i64 e]⟩ 27 (0, 0))]
theorem flush16_spec (ρ : Hp) (lb rb db : Nat) (S : LgS) (v : Value) (sp : List Value) (h : LgIn ρ S v sp) (w : RW) (hR : RIn ρ S.R w) (k : DK) (D : DS) (hD : DOk k D) (to : Nat) (hf : S.fl < 1000000000000000) :
  Spec Tryz.prog 25 [.pointer (some ⟨lb, 0, none⟩), .int .u64 (to : Nat)] ρ (Ye lb rb S v :: Xp S v sp :: (ZO rb db S.R w ++ Zs db k D))
   (fun z ρ' L' => z = .int .i64 (S.flush to D).2.2 ∧ ρ.le ρ' ∧ ∃ w' k', RIn ρ' (S.flush to D).1.R w' ∧ DOk k' (S.flush to D).2.1 ∧ L' = Ye lb rb (S.flush to D).1 v :: Xp S v sp :: (ZO rb db (S.flush to D).1.R w' ++ Zs db k' (S.flush to D).2.1)) := by
 have hn := fun ρ => XC ρ lb rb S v sp
 by_cases hto : S.next ≤ to
 ·have e : S.flush to D = (S, D, 2) := by unfold LgS.flush; rw [if_pos hto]
  rw [e]
  refine Za Tryz.func25 rfl rfl rfl fun u R => ?_
  simp only [Zf, kA]
  repeat' (first | refine zW ?_ | intro _)
  rename_i c2 c3 c4
  refine tpA [0,1] (.e 2 [] (.f [3] .o)) ([b2C c2 lb, b3C c3 to]) ?_
  repeat' (refine iT ?_; first | refine rA ?_ | ((refine iE ?_; refine rE ?_) <;> ((try refine Zr ?_); (first | (refine Zb (.func 22) ?_; refine qR rfl rfl (hn _ h) ?_; try simp only [kA]) | (refine qEf ?_; try intro _)) <;> ((try simp only [kA]); refine Zj ?_; refine rN ?_))))
  all_goals (repeat' (first | refine zW ?_ | intro _))
  all_goals exact qE (L' := Ye lb rb S v :: Xp S v sp :: (ZO rb db S.R w ++ Zs db k D)) ⟨rfl, Hp.le_refl _, w, k, hR, hD, rfl⟩
 ·generalize hq : Wz to (Yo S (S.fl + 1)) S.R D S.fl = q
  have e : S.flush to D = (S.at q.1 q.2.2.1, q.2.1, q.2.2.2) := by unfold LgS.flush; rw [if_neg hto, hq]
  rw [e]
  dsimp only
  obtain ⟨Rq, Dq, fq, eq⟩ := q
  refine Za Tryz.func25 rfl rfl rfl fun u R => ?_
  simp only [Zf, kA]
  have e1 : ((S.fl : Nat) : Int) + 1 = ((S.fl + 1 : Nat) : Int) := by omega
  repeat' (first | refine zW ?_ | intro _)
  rename_i c2 c3 c4
  refine tpA [0,1] (.e 2 [] (.f [3] .o)) ([b2C c2 lb, b3C c3 to]) ?_
  repeat' (refine iT ?_; first | refine rA ?_ | ((refine iE ?_; refine rE ?_) <;> ((try refine Zr ?_); (first | (refine Zb (.func 22) ?_; refine qR rfl rfl (hn _ h) ?_; try simp only [kA]) | (refine qEf ?_; try intro _)) <;> ((try simp only [kA]); refine Zj ?_; refine rN ?_))))
  all_goals (repeat' (first | refine zW ?_ | intro _))
  all_goals
   refine tpZ [0,1,2,3,4,5] (.e 6 [] .o) ?_
   repeat' (refine iT ?_; first | refine rA ?_ | ((refine iE ?_; refine rE ?_) <;> ((try refine Zr ?_); (first | (simp only [e1]; refine Zb (.func 88) ?_; refine qC rfl rfl (from16_spec _ lb (S.fl + 1)) ?_; rintro v1 ρ1 L1 hle1 ⟨d1, d2, rfl, rfl, rfl⟩; simp only [kA]) | (refine qEf ?_; try intro _)) <;> ((try simp only [kA]); refine Zj ?_; refine rN ?_))))
  all_goals (repeat' (first | refine zW ?_ | intro _))
  refine tc_rangeFuncP (S := [fb1 d1 lb, fb2 d2 (S.fl + 1), Xp S v sp]) (L0 := [b2C c2 lb, b3C c3 to, b4C c4 0, Ye lb rb S v] ++ (ZO rb db S.R w ++ Zs db k D)) (R := R) (R0 := ?r0) rfl rfl (from16_iter ρ1 lb rb d1 d2 (S.fl + 1) S v sp h) (Hp.le_refl _) (fun _ => rfl) rfl
   (fun pre ρ2 Lu => ∃ R1 D1 f1 w1 k1, (∀ rest, Wz to (pre ++ rest) S.R D S.fl = Wz to rest R1 D1 f1) ∧ ρ1.le ρ2 ∧ RIn ρ2 R1 w1 ∧ DOk k1 D1 ∧ Lu = [b2C c2 lb, b3C c3 to, b4C c4 0, Ye lb rb (S.at R1 f1) v] ++ (ZO rb db R1 w1 ++ Zs db k1 D1))
   (fun c ρ2 Lu => ((c = .exit 0 ∧ eq = 0) ∨ (c = .ret ∧ eq ≠ 0)) ∧ ∃ w1 k1, ρ1.le ρ2 ∧ RIn ρ2 Rq w1 ∧ DOk k1 Dq ∧ Lu = [b2C c2 lb, b3C c3 to, b4C c4 eq, Ye lb rb (S.at Rq fq) v] ++ (ZO rb db Rq w1 ++ Zs db k1 Dq)) ?k1 ?k2 ⟨S.R, D, S.fl, w, k, fun _ => rfl, Hp.le_refl _, hR, hD, rfl⟩ ?hC ?round ?done ?stop
  case k1 => exact tk
  case k2 => exact tk
  case hC =>
   rintro ρ2 Lu ⟨R1, D1, f1, w1, k1, h1, _, _, _, rfl⟩
   have := h1 []
   simp only [List.append_nil, Wz, Prod.mk.injEq] at this
   obtain ⟨rfl, rfl, rfl, _⟩ := this
   exact ⟨[b2C c2 lb, b3C c3 to, b4C c4 0], ZO rb db S.R w1 ++ Zs db k1 D, rfl⟩
  case round =>
   rintro l tm r pre y ρ2 Lu u R' hpre hl1 ⟨R1, D1, f1, w1, k1, hgo, hl2, hR1, hD1, rfl⟩ hr hrec
   simp only [envP, kA]
   obtain ⟨t, ht⟩ := hpre
   have hmem : y ∈ S.recs := fromL_mem (lsn := S.fl + 1) (by rw [← ht]; simp)
   have hin := (h.rin y hmem).mono hl2
   have hok := h.ok y hmem
   have hgo1 := hgo (y :: t)
   have ht' : pre ++ y :: t = Yo S (S.fl + 1) := by rw [← ht]; simp
   have hgo2 := fun rest => hgo (y :: rest)
   rw [ht', hq] at hgo1
   obtain ⟨yv, yr⟩ := y
   dsimp only at hin hok hgo1 hgo2
   rw [Wz] at hgo1
   simp only [Wz] at hgo2
   repeat' (first | refine zW ?_ | intro _)
   refine YO [(l, .loop r)] ?_
   refine te_begin rfl hr (fun r' hbz hrec' => ?_)
   by_cases hgt : to < yr.lsn
   ·rw [if_pos hgt] at hgo1
    simp only [Prod.mk.injEq] at hgo1
    obtain ⟨rfl, rfl, rfl, rfl⟩ := hgo1
    repeat' (first | refine zW ?_ | intro _)
    refine YO [(l, .loop r')] ?_
    refine te_leave (Lu := [b2C c2 lb, b3C c3 to, b4C c4 0, Ye lb rb (S.at Rq fq) v] ++ (ZO rb db Rq w1 ++ Zs db k1 Dq)) rfl rfl (Hp.le_refl _) ⟨hrec'.tmps.trans hrec.tmps, hrec'.params.trans hrec.params, hrec'.assign.trans hrec.assign, hrec'.body.trans hrec.body⟩ tk tk inferInstance ?_
    exact ⟨.inl ⟨rfl, rfl⟩, w1, k1, hl2, hR1, hD1, rfl⟩
   ·rw [if_neg hgt] at hgo1
    simp only [if_neg hgt] at hgo2
    have henc := rencode_spec ρ2 yv yr hin
    rw [hok] at henc
    simp only [if_true] at henc
    have hlen := recB_le (recOk_lay hok)
    have happ := fun {ρ3 : Hp} {a : Option Addr} {n c : Nat} (hl : ρ2.le ρ3) (hs : SIn ρ3 Zo a n (Xa yr)) (hc : n ≤ c) => append_spec ρ3 rb db R1 w1 (hR1.mono hl) k1 D1 hD1 [] a n c (Xa yr) hs.rd hc (by have := hs.len; omega)
    repeat' (first | (refine Zb (.func 89) ?_; refine qC rfl rfl (henc) ?_; rintro v ρ' L' hle ⟨hl3, ea, en, ec, rfl, hec, hes, rfl⟩ <;> (try simp only [kA])) | (refine Zb (.func 12) ?_; refine qC rfl rfl (happ (by assumption) hes hec) ?_; rintro v4 ρ4 L4 hle4 ⟨rfl, hl4, k4, w4, hD4, hR4, rfl⟩; try simp only [kA, List.append_nil, List.append_assoc]) | refine zW ?_ | intro _)
    generalize R1.append (Xa yr) D1 = ap at *
    obtain ⟨Ra, Da, ea⟩ := ap
    dsimp only at *
    by_cases hz : ea = 0
    ·subst hz
     rw [if_pos rfl] at hgo1
     simp only [if_true] at hgo2
     rw [show ((0 : Int) != 0) = false from rfl]
     repeat' (first | refine zW ?_ | intro _)
     refine YO [(l, .loop r')] ?_
     refine te_next (Lu := [b2C c2 lb, b3C c3 to, b4C c4 0, Ye lb rb (S.at Ra yr.lsn) v] ++ (ZO rb db Ra w4 ++ Zs db k4 Da)) rfl (Hp.le_trans hl3 hl4) ⟨hrec'.tmps.trans hrec.tmps, hrec'.params.trans hrec.params, hrec'.assign.trans hrec.assign, hrec'.body.trans hrec.body⟩ tk tk inferInstance ?_
     exact ⟨Ra, Da, yr.lsn, w4, k4, hgo2, Hp.le_trans hl2 (Hp.le_trans hl3 hl4), hR4, hD4, rfl⟩
    ·rw [if_neg hz] at hgo1
     simp only [Prod.mk.injEq] at hgo1
     obtain ⟨rfl, rfl, rfl, rfl⟩ := hgo1
     have hcb : (eq != 0) = true := by simpa using hz
     rw [hcb]
     repeat' (first | refine zW ?_ | intro _)
     refine YO [(l, .loop r')] ?_
     refine te_leave (Lu := [b2C c2 lb, b3C c3 to, b4C c4 eq, Ye lb rb (S.at Rq fq) v] ++ (ZO rb db Rq w4 ++ Zs db k4 Dq)) rfl rfl (Hp.le_trans hl3 hl4) ⟨hrec'.tmps.trans hrec.tmps, hrec'.params.trans hrec.params, hrec'.assign.trans hrec.assign, hrec'.body.trans hrec.body⟩ tk tk inferInstance ?_
     exact ⟨.inr ⟨rfl, hz⟩, w4, k4, Hp.le_trans hl2 (Hp.le_trans hl3 hl4), hR4, hD4, rfl⟩
  case done =>
   rintro D0 ρ2 Lu hl1 ⟨R1, D1, f1, w1, k1, hgo, hl2, hR1, hD1, rfl⟩
   have := hgo []
   rw [List.append_nil, hq] at this
   simp only [Wz, Prod.mk.injEq] at this
   obtain ⟨rfl, rfl, rfl, rfl⟩ := this
   simp only [kA]
   repeat' (first | refine zW ?_ | intro _)
   refine YO [(D0, .deferred (some []))] ?_
   exact te_end_d rfl rfl rfl inferInstance (res1 rfl (Zu rfl rfl)) hl2 tk (by infer_instance) (L' := Ye lb rb (S.at Rq fq) v :: Xp S v sp :: (ZO rb db Rq w1 ++ Zs db k1 Dq)) ⟨rfl, hl2, w1, k1, hR1, hD1, rfl⟩
  case stop =>
   rintro D0 c ρ2 Lu hl1 ⟨hc, w1, k1, hl2, hR1, hD1, rfl⟩
   simp only [kA]
   rcases hc with ⟨rfl, rfl⟩ | ⟨rfl, hne⟩
   ·repeat' (first | refine zW ?_ | intro _)
    refine YO [(D0, .deferred (some []))] ?_
    exact te_end_d rfl rfl rfl inferInstance (res1 rfl (Zu rfl rfl)) hl2 tk (by infer_instance) (L' := Ye lb rb (S.at Rq fq) v :: Xp S v sp :: (ZO rb db Rq w1 ++ Zs db k1 Dq)) ⟨rfl, hl2, w1, k1, hR1, hD1, rfl⟩
   ·repeat' (first | refine zW ?_ | intro _)
    refine YO [(D0, .deferred (some []))] ?_
    exact te_end_d rfl rfl rfl inferInstance (res1 rfl (Zu rfl rfl)) hl2 tk (by infer_instance) (L' := Ye lb rb (S.at Rq fq) v :: Xp S v sp :: (ZO rb db Rq w1 ++ Zs db k1 Dq)) ⟨rfl, hl2, w1, k1, hR1, hD1, rfl⟩
end Go.Proofs.E
namespace Go.Proofs.E
open Go
set_option linter.unusedVariables false
set_option linter.unusedSimpArgs false
set_option linter.unusedSectionVars false
set_option maxRecDepth 4000
set_option maxHeartbeats 1000000
attribute [local irreducible] Yl TL TC TE Spec ZN R1 Hp.le EnvLe TS TR YS Zp
def zRR : RR := (⟨⟨none, 0, 0⟩, ⟨none, 0, 0⟩, ⟨none, 0, 0⟩, ⟨none, 0, 0⟩⟩, ⟨0, 0, 0, 0, 0, [], [], 0, [], []⟩)
theorem fromL_len (S : LgS) (lsn : Nat) : (Yo S lsn).length ≤ S.recs.length := List.length_filter_le _ _
theorem recs16_spec (ρ : Hp) (lb rb : Nat) (S : LgS) (v : Value) (sp : List Value) (h : LgIn ρ S v sp) (lsn : Nat) :
  Spec Tryz.prog 30 [.pointer (some ⟨lb, 0, none⟩), .int .u64 (lsn : Nat)] ρ [Ye lb rb S v, Xp S v sp] (fun z ρ' L' => ρ.le ρ' ∧ ∃ sp', OwnS z (Yo S lsn).length (Xm (Yo S lsn)) sp' 10 ∧ L' = [Ye lb rb S v, Xp S v sp, Zw z (Xm (Yo S lsn)) sp' 39]) := by
 have h1 := h.len
 have h2 := fromL_len S lsn
 refine Za Tryz.func30 rfl rfl rfl fun u R => ?_
 simp only [Zf, kA]
 repeat' (first | (refine Zb (.func 88) ?_; refine qC rfl rfl (from16_spec _ lb lsn) ?_; rintro v1 ρ1 L1 hle1 ⟨d1, d2, rfl, rfl, rfl⟩; simp only [kA]) | refine zW ?_ | intro _)
 rename_i c5
 refine tc_rangeFuncP (S := [fb1 d1 lb, fb2 d2 lsn, Xp S v sp]) (L0 := [[(c5, .cells ⟨[.slice none 0 0]⟩ 23 (0, 0))], Ye lb rb S v, Zw (.slice none 0 0) (Xm []) [] 39]) (R := R) (R0 := [(c5, .cells ⟨[.slice none 0 0]⟩ 23 (0, 0))] :: Ye lb rb S v :: R) rfl rfl (from16_iter ρ1 lb rb d1 d2 lsn S v sp h) (Hp.le_refl _) (fun _ => rfl) rfl
   (fun pre ρ2 Lu => ρ1.le ρ2 ∧ ∃ z sp', OwnS z pre.length (Xm pre) sp' 10 ∧ Lu = [[(c5, .cells ⟨[z]⟩ 23 (0, 0))], Ye lb rb S v, Zw z (Xm pre) sp' 39])
   (fun c ρ2 Lu => False) ?k1 ?k2 ⟨Hp.le_refl _, _, [], OwnS.nil 10, rfl⟩ ?hC ?round ?done ?stop
 case k1 => exact tk
 case k2 => exact Wl Zz (Wl Zz (Wl rem_nil' take_nil'))
 case stop => rintro D0 c ρ2 Lu _ hf; exact hf.elim
 case hC =>
  rintro ρ2 Lu ⟨_, z, sp', _, rfl⟩
  exact ⟨[[(c5, .cells ⟨[z]⟩ 23 (0, 0))]], _, rfl⟩
 case round =>
  rintro l tm r pre y ρ2 Lu u R' hpre hl1 ⟨hl2, z, sp1, hown, rfl⟩ hr hrec
  simp only [envP, kA]
  have hlen := hpre.length_le
  simp only [List.length_append, List.length_singleton] at hlen
  obtain ⟨za, zc, rfl, _⟩ := hown.slice
  repeat' (first | refine zW ?_ | intro _)
  refine YO [(l, .loop r)] ?_
  refine te_begin rfl hr (fun r' hbz hrec' => ?_)
  repeat' (first | (refine Yz (css := [rrV y]) (sz := 10) rfl rfl rfl rfl (by simp) (by simp) rfl (fun bs => ?_); simp only [List.flatten_cons, List.flatten_nil, List.append_nil]) | (refine Yk (ys := rrV y) (m := 1) (sz := 10) rfl rfl hown (hR := by repeat (first | exact Zz | apply ZE)) SrcV.lit rfl rfl (by decide) rfl (by omega) (by omega) rfl (fun v' sp' hown' => ?_); obtain ⟨a', cap', rfl, hvl⟩ := hown'.slice) | refine zW ?_ | intro _)
  rw [show Xm pre ++ rrV y = Xm (pre ++ [y]) by rw [flatL_add]; simp [Xm]] at hown' ⊢
  refine YO [(l, .loop r')] ?_
  refine te_next (Lu := [[(c5, .cells ⟨[.slice a' (pre.length + 1) cap']⟩ 23 (0, 0))], Ye lb rb S v, Zw (.slice a' (pre.length + 1) cap') (Xm (pre ++ [y])) sp' 39]) rfl (Hp.le_refl _) ⟨hrec'.tmps.trans hrec.tmps, hrec'.params.trans hrec.params, hrec'.assign.trans hrec.assign, hrec'.body.trans hrec.body⟩ tk tk inferInstance ?_
  exact ⟨hl2, _, sp', by simpa using hown', rfl⟩
 case done =>
  rintro D0 ρ2 Lu hl1 ⟨hl2, z, sp1, hown, rfl⟩
  simp only [kA]
  obtain ⟨za, zc, rfl, _⟩ := hown.slice
  repeat' (first | refine zW ?_ | intro _)
  refine YO [(D0, .deferred (some []))] ?_
  exact te_end_d rfl rfl rfl inferInstance (res1 rfl (ZZ rfl)) hl2 tk (by infer_instance) (L' := [Ye lb rb S v, Xp S v sp, Zw (.slice za (Yo S lsn).length zc) (Xm (Yo S lsn)) sp1 39]) ⟨hl2, sp1, hown, rfl⟩
structure EvV where
 kind : Int
 n : Int
 b : BSl
 note : BSl
 ka : Option Addr
 kn : Nat
 kp : Nat
 ks : List Bool
structure EvIn (ρ : Hp) (e : EvV) : Prop where
 n : -9223372036854775808 ≤ e.n ∧ e.n ≤ 9223372036854775807
 kind : -9223372036854775808 ≤ e.kind ∧ e.kind ≤ 9223372036854775807
 b : BIn ρ e.b
 bbg : e.b.n ≤ 9223372036854775807
 note : BIn ρ e.note
 nb : e.note.n ≤ 9223372036854775807
 ks : SIn ρ bb e.ka e.kn e.ks
 kc : e.kn ≤ e.kp
 kb : e.kn ≤ 9223372036854775807
theorem EvIn.mono {ρ ρ' : Hp} {e : EvV} (h : EvIn ρ e) (hle : ρ.le ρ') : EvIn ρ' e := ⟨h.n, h.kind, h.b.mono hle, h.bbg, h.note.mono hle, h.nb, h.ks.mono hle, h.kc, h.kb⟩
theorem Good.append2 {R : RgS} {D : DS} {b : Bs} (h : Good R D) (hb : b.length ≤ 8000) (hn : R.next < 1099511627776) (hfit : Zv b.length ≤ R.h.size - R.used) :
  ∃ D', R.append b D = (R.plus b, D', 0) ∧ Good (R.plus b) D' ∧ D'.secs.length = D.secs.length ∧ ∀ i, R.h.size + 2 ≤ i → img D' i = img D i := by
 have hsz := h.ro.ok.size
 have hlen := h.ro.len
 have hidx : ∀ p ∈ ZY R.h R.next b (R.h.place + R.used), p.1 < R.h.size + 2 := fun p hp => by
  obtain ⟨k, hk, rfl⟩ := partsL_mem.1 hp
  have := Nat.mod_lt (R.h.place + R.used + k) (show 0 < R.h.size by omega)
  dsimp only; omega
 obtain ⟨l0, l1, l2⟩ := Calm_lays (ZY R.h R.next b (R.h.place + R.used)) D h.calm (fun p hp => by have := hidx p hp; omega)
 have ha := (h.ro.append h.frs hb hfit hn).1 l0
 refine ⟨(DS.lays (ZY R.h R.next b (R.h.place + R.used)) D).1, ?_, ⟨ha.1, ha.2, l1⟩, XB _ _, fun i hi => ?_⟩
 ·unfold RgS.append
  rw [h.ro.live, if_neg (by simp), if_neg (by omega), if_neg (by omega), if_pos l0, calm_pair l0]
  rfl
 ·rcases XT h.ro.empty l2 D rfl i with e | ⟨p, hp, h1, _⟩
  ·exact e
  ·have := hidx p hp; omega
def lastF (f : Nat) : List RR → Nat
 | [] => f
 | x :: l => lastF x.2.lsn l
abbrev upTo (to : Nat) (l : List RR) : List RR := l.takeWhile (fun x => decide (x.2.lsn ≤ to))
theorem costN_ok {r : Rc} (h : Yr r = true) : Xz r = Zv (Xa r).length := by unfold Xz; rw [if_pos h]; rfl
theorem flushL_good (to : Nat) : ∀ (l : List RR) (R : RgS) (D : DS) (f : Nat), Good R D → (∀ x ∈ l, Yr x.2 = true) → ZH l ≤ R.h.size - R.used → R.next + l.length ≤ 1099511627776 →
  ∃ R' D', Wz to l R D f = (R', D', lastF f (upTo to l), 0) ∧ Good R' D' ∧ R'.h = R.h ∧ R'.ents = R.ents ++ (upTo to l).map (fun x => Xa x.2) ∧ R'.used = R.used + ZH (upTo to l) ∧ D'.secs.length = D.secs.length ∧ ∀ i, R.h.size + 2 ≤ i → img D' i = img D i
 | [], R, D, f, g, _, _, _ => ⟨R, D, rfl, g, rfl, by simp, by simp [ZH], rfl, fun _ _ => rfl⟩
 | x :: l, R, D, f, g, hok, hu, hn => by
  have hx := hok x (by simp)
  have hc := costN_ok hx
  have hlen := recB_le (recOk_lay hx)
  simp only [ZH, List.map_cons, List.sum_cons] at hu
  simp only [List.length_cons] at hn
  unfold upTo
  rw [Wz, List.takeWhile_cons]
  by_cases hto : to < x.2.lsn
  ·rw [if_pos hto, decide_eq_false (by omega)]
   exact ⟨R, D, rfl, g, rfl, by simp, by simp [ZH], rfl, fun _ _ => rfl⟩
  ·rw [if_neg hto, decide_eq_true (by omega)]
   obtain ⟨D', e, g', hl', hi'⟩ := g.append2 (b := Xa x.2) (by omega) (by omega) (by omega)
   have hnx : (R.plus (Xa x.2)).next = R.next + 1 := by simp [RgS.plus, RgS.next]; omega
   have hus : (R.plus (Xa x.2)).used = R.used + Zv (Xa x.2).length := rfl
   obtain ⟨R2, D2, e2, g2, h2, he2, hu2, hl2, hi2⟩ := flushL_good to l (R.plus (Xa x.2)) D' x.2.lsn g' (fun y hy => hok y (by simp [hy])) (by rw [hus]; show _ ≤ R.h.size - _; unfold ZH; omega) (by rw [hnx]; omega)
   rw [e]
   dsimp only
   rw [if_pos rfl, e2]
   refine ⟨R2, D2, rfl, g2, h2, ?_, ?_, hl2.trans hl', fun i hi => (hi2 i hi).trans (hi' i hi)⟩
   ·rw [he2]; simp [RgS.plus, upTo]
   ·rw [hu2, hus, ← hc]; simp [ZH, upTo]; omega
def newLg (R : RgS) : LgS := ⟨R, 1, 0, 0, 1, []⟩
theorem newLg_in {ρ : Hp} {R : RgS} : LgIn ρ (newLg R) (.slice none 0 0) [] := ⟨OwnS.nil 10, by simp [newLg], by simp [newLg], by simp [newLg, ZH], by simp [newLg]⟩
theorem kformat16 (ρ : Hp) (n m : Nat) (hn0 : 4 ≤ n) (hn1 : n ≤ 1000) (hm : n + 2 ≤ m) (hm1 : m ≤ 2048) (db : Nat) (k : DK) (hk : DOk k (DS.new m)) :
  Spec Tryz.prog 20 [.pointer (some ⟨db, 0, none⟩), .int .i64 n] ρ (Zs db k (DS.new m)) (fun v ρ' L' => ρ.le ρ' ∧ ∃ lb rb w k' D', v = .tuple ⟨[.pointer (some ⟨lb, 0, none⟩), .int .i64 0]⟩ ∧ DOk k' D' ∧ RIn ρ' ⟨ZC n, [], 0, false⟩ w ∧ Good ⟨ZC n, [], 0, false⟩ D' ∧ D'.secs.length = m ∧ L' = Ye lb rb (newLg ⟨ZC n, [], 0, false⟩) (.slice none 0 0) :: (ZO rb db ⟨ZC n, [], 0, false⟩ w ++ Zs db k' D')) := by
 obtain ⟨D', e, g⟩ := Good.format (D := DS.new m) (n := n) (new_okD (by omega) hm1) new_calm hn0 hn1 (by simp [DS.new, fresh]; omega) fresh_empty
 have hlen : D'.secs.length = m := by
  unfold Wf at e
  split at e
  ·simp at e
  ·split at e
   ·split at e
    ·have := congrArg (fun x => x.2.1.secs.length) e
     dsimp only at this
     rw [← this, XB, XB]; simp [DS.new, fresh]
    ·simp at e
   ·simp at e
 have hf := format_spec ρ db k (DS.new m) hk n (by omega)
 rw [e] at hf
 refine Za Tryz.func20 rfl rfl rfl fun u R => ?_
 simp only [Zf, kA]
 repeat' (first | (refine Zb (.func 9) ?_; refine qC rfl rfl hf ?_; rintro v1 ρ1 L1 hle1 ⟨hl1, k1, hk1, rb, w, rfl, hr, rfl⟩; try simp only [kA, List.append_assoc]) | refine zW ?_ | intro _)
 rename_i lb
 exact qE (L' := Ye lb rb (newLg ⟨ZC n, [], 0, false⟩) (.slice none 0 0) :: (ZO rb db ⟨ZC n, [], 0, false⟩ w ++ Zs db k1 D')) ⟨hl1, lb, rb, w, k1, D', rfl, hk1, hr, g, hlen, rfl⟩
end Go.Proofs.E
namespace Go.Proofs.E
open Go
set_option linter.unusedVariables false
set_option linter.unusedSimpArgs false
set_option linter.unusedSectionVars false
set_option maxRecDepth 4000
set_option maxHeartbeats 1000000
attribute [local irreducible] Yl TL TC TE Spec ZN R1 Hp.le EnvLe TS TR YS Zp TP QP
def begR (lsn : Nat) (txn : Nat) : Rc := ⟨1, lsn, txn, 0, 0, [], [], 0, [], []⟩
abbrev begX (lsn txn : Nat) : RR := (zRR.1, begR lsn txn)
theorem begR_in {ρ : Hp} (lsn txn : Nat) : RcIn ρ zRR.1 (begR lsn txn) := ⟨AS.nil, by simp [begR], AS.nil, AS.nil, AS.nil, by simp [begR]⟩
theorem begR_ok {lsn txn : Nat} (h1 : 1 ≤ lsn) (h2 : lsn ≤ 1099511627776) (h3 : 1 ≤ txn) (h4 : txn ≤ 1073741824) : Yr (begR lsn txn) = true := by
 unfold Yr begR headOk askOk bareOk
 simp only [Bool.and_eq_true, decide_eq_true_eq]
 refine ⟨by omega, ⟨by omega, by omega, by omega, by omega, by omega, by simp; omega, by simp⟩, by simp, by simp⟩
theorem begR_len (lsn txn : Nat) : (Xa (begR lsn txn)).length = 21 := by simp [Xa, recHB, recTB, begR, Zh]
theorem begR_cost {lsn txn : Nat} (h : Yr (begR lsn txn) = true) : Xz (begR lsn txn) = 1 := by
 rw [costN_ok h, begR_len]; rfl
abbrev wS0 : LgS := newLg ⟨ZC 450, [], 0, false⟩
abbrev wS1 : LgS := wS0.more (begX 1 7)
theorem wk_b : Yr (begR 1 7) = true := begR_ok (by omega) (by omega) (by omega) (by omega)
theorem wk_a : appE wS0 (begR 1 7) 2 = 0 := by
 unfold appE
 rw [wk_b, begR_cost wk_b]; rfl
theorem wk_c : appE wS1 (begR 1 7) 2 = 2 := by
 unfold appE
 rw [wk_b]; rfl
theorem wk_u : ZH wS1.recs = 1 := by
 show ZH [begX 1 7] = 1
 simp [ZH, begR_cost wk_b]
theorem wk_f {D : DS} (g : Good ⟨ZC 450, [], 0, false⟩ D) : ∃ R' D', wS1.flush 1 D = (wS1.at R' 1, D', 0) := by
 obtain ⟨R', D', e, _⟩ := flushL_good 1 [begX 1 7] ⟨ZC 450, [], 0, false⟩ D 0 g (fun x hx => by rw [List.mem_singleton.1 hx]; exact wk_b) (by simp [ZH, begR_cost wk_b, ZC]) (by simp [RgS.next, ZC])
 refine ⟨R', D', ?_⟩
 unfold LgS.flush
 rw [if_neg (by decide)]
 rw [show Yo wS1 (wS1.fl + 1) = [begX 1 7] from rfl, show wS1.R = ⟨ZC 450, [], 0, false⟩ from rfl, show wS1.fl = 0 from rfl, e]
 rfl
theorem LgIn.at {ρ S v sp} (h : LgIn ρ S v sp) (R : RgS) (f : Nat) : LgIn ρ (S.at R f) v sp := ⟨h.own, h.rin, h.ok, h.used, h.base⟩
theorem wakes16_spec (ρ : Hp) : Spec Tryz.prog 7 [] ρ [] (fun v ρ' L' => v = .bool true ∧ ρ.le ρ' ∧ L' = []) := by
 refine Za Tryz.func7 rfl rfl rfl fun u R => ?_
 simp only [Zf, kA]
 repeat' (first | (refine Zb (.func 8) ?_; refine qC rfl rfl (knew _ 452 (by omega) (by omega)) ?_; rintro v ρ' L' hle ⟨rfl, db, k0, rfl, hk0, rfl⟩ <;> (try simp only [kA])) | (refine Zb (.func 20) ?_; refine qC rfl rfl (kformat16 _ 450 452 (by omega) (by omega) (by omega) (by omega) db k0 hk0) ?_; rintro v1 ρ1 L1 hle1 ⟨hl1, lb, rb, w1, k1, D1, rfl, hk1, hr1, g1, _, rfl⟩; try simp only [kA, List.append_assoc]) | refine zW ?_ | intro _)
 rename_i xb
 have hA := append16_yes ρ1 lb rb wS0 (.slice none 0 0) [] newLg_in (begX 1 7) (begR_in _ _) 2 wk_a
 obtain ⟨R', D', hfl⟩ := wk_f g1
 refine tpA [0,1,3,4,6] (.e 2 [] (.e 5 [] (.e 7 [] (.f [8,9,10] .o)))) ([[(xb, .cells ⟨rrV (begX 1 7)⟩ 39 (0, 0))]]) ?_
 repeat' (refine iT ?_; first | refine rA ?_ | ((refine iE ?_; refine rE ?_) <;> ((try refine Zr ?_); (first | (refine Zb (.func 23) ?_; refine qC rfl rfl hA ?_; rintro v2 ρ2 L2 hle2 ⟨rfl, hl2, va2, sp2, hin2, rfl⟩; have hB := append16_no ρ2 lb rb wS1 va2 sp2 hin2 (begX 1 7) (begR_in _ _) 2 (by rw [wk_c]; omega); try simp only [kA, List.append_assoc]) | (refine Zb (.func 23) ?_; refine qC rfl rfl hB ?_; rintro v3 ρ3 L3 hle3 ⟨rfl, hl3, rfl⟩; have hC := flush16_spec ρ3 lb rb db wS1 va2 sp2 (hin2.mono hl3) w1 ((hr1.mono hl2).mono hl3) k1 D1 hk1 1 (by decide); rw [hfl] at hC; try simp only [kA, List.append_assoc]) | (refine Zb (.func 25) ?_; refine qC rfl rfl hC ?_; rintro v4 ρ4 L4 hle4 ⟨rfl, hl4, w4, k4, hr4, hk4, rfl⟩; have hin4 := (hin2.mono hl3).mono hl4; try simp only [kA, List.append_assoc]) | (refine qEf ?_; try intro _)) <;> ((try simp only [kA]); refine Zj ?_; refine rN ?_))))
 all_goals
  have hat := hin4.at R' 1
  have hN := XC ρ4 lb rb (wS1.at R' 1) va2 sp2 hat
  have hF := flushed16_spec ρ4 lb rb (wS1.at R' 1) va2
  have hU := used16_spec ρ4 lb rb (wS1.at R' 1) va2
  have hQ := recs16_spec ρ4 lb rb (wS1.at R' 1) va2 sp2 hat 1
  rw [show ZH (wS1.at R' 1).recs = 1 from wk_u] at hU
  rw [show (wS1.at R' 1).next = 2 from rfl] at hN
  rw [show (wS1.at R' 1).fl = 1 from rfl] at hF
  rw [show Yo (wS1.at R' 1) 1 = [begX 1 7] from rfl] at hQ
  simp only [show (appE wS1 (begR 1 7) 2) = 2 from wk_c]
  repeat' (first | (refine Zb (.func 27) ?_; refine qR rfl rfl (hF) ?_; try simp only [kA]) | (refine Zb (.func 22) ?_; refine qR rfl rfl (hN) ?_; try simp only [kA]) | (refine Zb (.func 24) ?_; refine qR rfl rfl (hU) ?_; try simp only [kA]) | (refine Zb (.func 30) ?_; refine qC rfl rfl hQ ?_; rintro v5 ρ5 L5 hle5 ⟨hl5, sp5, ho5, rfl⟩; obtain ⟨va5, vc5, rfl, _⟩ := ho5.slice; try simp only [kA, List.append_assoc]) | refine zW ?_ | intro _)
  have hfin := Hp.le_trans hl1 (Hp.le_trans hl2 (Hp.le_trans hl3 (Hp.le_trans hl4 hl5)))
  exact qE (L' := []) ⟨rfl, hfin, rfl⟩
end Go.Proofs.E
