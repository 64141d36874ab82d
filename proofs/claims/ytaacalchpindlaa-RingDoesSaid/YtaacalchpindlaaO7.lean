/- The law RingDoes. Part 7 of 17. -/
import Derived.Test.YtaacalchpindlaaO6
namespace Go.Proofs.E
open Go
set_option linter.unusedVariables false
set_option linter.unusedSimpArgs false
set_option linter.unusedSectionVars false
set_option maxRecDepth 4000
set_option maxHeartbeats 1000000
attribute [local irreducible] Yl TL TC TE Spec Xt R1 Hp.le EnvLe TS TR YS Zo
theorem RIn.cutOk {ρ : Hp} {R : RgS} {w : RW} (h : RIn ρ R w) {n : Nat} {note : Bs} (hn : n ≤ R.ents.length) (ht : R.h.turn < 1073741824) (hnl : note.length ≤ 32) {e : BSl} (he : BIn ρ e) (hel : e.l = note) {v : Value} {sp : List Value} (ho : OwnS v (w.els.length - n) ((w.els.drop n).map slv) sp 1) :
  RIn ρ ⟨R.cutH n note, R.ents.drop n, R.used - ZB (R.ents.take n), false⟩ ⟨e.a, e.n, e.c, v, w.els.drop n, sp⟩ := by
 have hsz := h.ok.size
 have hlen := h.len
 have hus := h.ok.used
 have hft := h.ok.fit
 have htd := Xf R.ents n
 have hnx := h.ok.next
 have hfi := h.ok.first
 have htu := h.ok.turn
 subst hel
 unfold RgS.next at hnx
 refine ⟨⟨⟨?_, ?_⟩, hsz, ?_, ?_, Nat.mod_lt _ (by omega), hnl, ?_, ?_, fun c hc => h.ok.long c (List.mem_of_mem_drop hc)⟩, he.s, he.le, by simpa using ho, ?_, fun x hx => h.els x (List.mem_of_mem_drop hx)⟩
 all_goals dsimp only [RgS.cutH, Hd.cut, RgS.next]
 any_goals simp only [List.length_drop]
 any_goals omega
 rw [h.ents, List.map_drop]
theorem cut_spec_main (ρ : Hp) (rb db : Nat) (R : RgS) (w : RW) (h : RIn ρ R w) (k : DK) (D : DS) (hD : DOk k D) (X : SH) (a : Option Addr) (nn c : Nat) (note : Bs) (hb : Rd ρ X a nn note) (m : Nat) (hbr : R.broken = false) (hm : m ≤ R.ents.length) (ht : R.h.turn < 1073741824) (hnl : note.length ≤ 32) :
  Spec Try.prog 13 [.pointer (some ⟨rb, 0, none⟩), .int .i64 m, .slice a nn c] ρ (ZT rb db R w ++ (Zi db k D ++ X))
   (fun v ρ' L' => v = .int .i64 (R.cut m note D).2.2 ∧ ρ.le ρ' ∧ ∃ k' w', DOk k' (R.cut m note D).2.1 ∧ RIn ρ' (R.cut m note D).1 w' ∧ L' = ZT rb db (R.cut m note D).1 w' ++ (Zi db k' (R.cut m note D).2.1 ++ X)) := by
 have hl := hb.len
 have hlen := h.len
 have hsz := h.ok.size
 have hus := h.ok.used
 have hft := h.ok.fit
 have hnx := h.ok.next
 have hfi := h.ok.first
 have hpl := h.ok.place
 have hul := Xi R.ents
 have htd := Xf R.ents m
 have hsome : R.cut m note D = if (DS.lays (ZQ (R.cutH m note)) D).2 = 0 then (⟨R.cutH m note, R.ents.drop m, R.used - ZB (R.ents.take m), false⟩, DS.lays (ZQ (R.cutH m note)) D) else ({ R with broken := true }, DS.lays (ZQ (R.cutH m note)) D) := by
  unfold RgS.cut
  rw [hbr, if_neg (by simp), if_neg (by omega), if_neg (by omega)]
  simp only [Int.toNat_natCast]
 have e1 : (R.h.turn : Int) + 1 = ((R.cutH m note).turn : Int) := by simp [RgS.cutH, Hd.cut]
 have e2 : (R.h.first : Int) + (m : Int) = ((R.cutH m note).first : Int) := by simp [RgS.cutH, Hd.cut]
 have e3 : ((R.h.place : Int) + ((ZB (R.ents.take m) : Nat) : Int)).tmod (R.h.size : Int) = ((R.cutH m note).place : Int) := by
  rw [Int.tmod_eq_emod_of_nonneg (by omega)]; simp [RgS.cutH, Hd.cut]
 have hfj : (R.h.first : Int) + (m : Int) ≤ 1099511627776 := by unfold RgS.next at hnx; omega
 have e4 : (R.used : Int) - ((ZB (R.ents.take m) : Nat) : Int) = ((R.used - ZB (R.ents.take m) : Nat) : Int) := by omega
 have hcl : (R.cutH m note).turn < 4294967296 ∧ (R.cutH m note).first ≤ 1099511627776 ∧ (R.cutH m note).size < 65536 ∧ (R.cutH m note).place < 65536 := by
  have := Nat.mod_lt (R.h.place + ZB (R.ents.take m)) (show 0 < R.h.size by omega)
  dsimp only [RgS.cutH, Hd.cut]; omega
 have hw0 := works_spec ρ rb db R w
 rw [hbr] at hw0
 simp only [Bool.false_eq_true, if_false] at hw0
 have hall := fun {j : Nat} (hj : j < w.els.length) => h.at hj
 have hcutok := fun {ρ2 : Hp} (hle : ρ.le ρ2) {e : BSl} (he : BIn ρ2 e) (hel : e.l = note) {v : Value} {sp : List Value} ho => (h.mono hle).cutOk (v := v) (sp := sp) hm ht hnl he hel ho
 have hbrk := fun {ρ2 : Hp} (hle : ρ.le ρ2) => (h.mono hle).broken true
 rcases h.own.out with ⟨hev, h0, h1, h2⟩ | ⟨bx, cap, hev, g1, g2, g3⟩
 ·obtain ⟨wna, wnn, wnc, wev, els, sp⟩ := w
  dsimp only at hev h0 h1 h2 hlen hcutok hbrk hw0 ⊢
  subst hev
  subst h2
  have hels : els = [] := List.eq_nil_of_length_eq_zero h0
  subst hels
  have hm0 : m = 0 := by simp at hlen; omega
  subst hm0
  simp only [ZT, ZO]
  refine Zd Try.func13 rfl rfl rfl fun u R0 => ?_
  simp only [Zw, List.cons_append, List.nil_append, List.append_assoc]
  repeat' (first | (refine Zb (.func 40) ?_; refine qC rfl rfl (hw0) ?_; rintro v ρ' L' hle ⟨rfl, rfl, rfl⟩ <;> (try simp only [kM, kN, kO])) | (refine Zf ?_; first | (refine Ze ?_; refine qQ ?_) | refine Zk ?_) | refine Za ?_ | (refine Zg ?_; refine Zu ?_) | (refine Zh ?_; refine Zv ?_) | intro _)
  refine ZP [(0, _), (1, _), (2, _), (6, _), (7, _), (47, _), (48, _)] (fun (ζ : (Nat)) => [(49, .int .i64 ζ), (8, .int .i64 (ZB (R.ents.take ζ) : Nat))]) (fun (ζ : (Nat)) => ρ') (fun (ζ : (Nat)) => []) (fun (ζ : (Nat)) => ζ = 0) (fun (ζ : (Nat)) => 0) (0) (rfl) Zx Zx rfl tk ?_
  rintro j hI
  try simp only [List.cons_append, List.nil_append, List.append_assoc, List.append_eq] at hI ⊢
  try dsimp only at hI ⊢
  subst hI
  repeat' (first | (refine Zf ?_; first | (refine Ze ?_; refine qQ ?_) | refine Zk ?_) | refine Za ?_ | (refine Zg ?_; refine Zu ?_) | (refine Zh ?_; refine Zv ?_) | intro _)
  refine ZA (Zo _ _ ([[(rb, .cells ⟨rgV R db ⟨wna, wnn, wnc, .slice none 0 0, [], []⟩⟩ 84 (0, 0))]])) (Zn (hT := tk) (Hp.le_refl _)) ?_
  all_goals (refine ZL 0 ?_; refine rNc 1 ?_; refine ZU 2 ?_; refine ZU 3 ?_; refine ZX 4 ?_; refine rAd 5 ?_; refine ZL 6 ?_; refine rNc 7 ?_; refine ZU 8 ?_; refine ZU 9 ?_; refine ZX 10 ?_; refine ZL 11 ?_; refine rCv 12 ?_; refine rAd 13 ?_; refine ZL 14 ?_; refine rNc 15 ?_; refine ZU 16 ?_; refine ZU 17 ?_; refine ZX 18 ?_; refine ZL 19 ?_; refine rNc 20 ?_; refine ZU 21 ?_; refine ZU 22 ?_; refine ZX 23 ?_; refine ZL 24 ?_; refine rAd 25 ?_; refine ZL 26 ?_; refine rNc 27 ?_; refine ZU 28 ?_; refine ZU 29 ?_; refine ZX 30 ?_; refine rRm 31 ?_; refine ZL 32 ?_)
  all_goals (refine YV (i := 33) (j := 35) ?_ ?_ <;> ((try refine Zl ?_); (first | (refine Zb (.func 45) ?_; refine qC rfl rfl (Xb _ X a nn c note (hb.mono (by assumption)) (by omega)) ?_; rintro v7 ρ7 L7 hle7 ⟨hl7, e, rfl, he, hel, hen, rfl⟩; simp only [List.cons_append, List.nil_append]) | (refine Zk ?_; try intro _)) <;> ((try simp only [kM, kN, kO]); refine Za ?_; refine Zm ?_)))
  all_goals (first | refine rBu 34 ?_ | (refine Zp (i := 33) ?_; ((try refine Zl ?_); (first | (refine Zb (.func 45) ?_; refine qC rfl rfl (Xb _ X a nn c note (hb.mono (by assumption)) (by omega)) ?_; rintro v7 ρ7 L7 hle7 ⟨hl7, e, rfl, he, hel, hen, rfl⟩; simp only [List.cons_append, List.nil_append]) | (refine Zk ?_; try intro _)) <;> ((try simp only [kM, kN, kO]); refine Za ?_; refine Zm ?_))))
  all_goals (first | refine rBu 34 ?_ | (refine Zp (i := 35) ?_; ((try refine Zl ?_); (first | (refine Zk ?_; try intro _)) <;> ((try simp only [kM, kN, kO]); refine Za ?_; refine Zm ?_))))
  all_goals (refine Zp (i := 36) ?_; ((try refine Zl ?_); (first | (refine Zk ?_; try intro _)) <;> ((try simp only [kM, kN, kO]); refine Za ?_; refine Zm ?_)))
  all_goals refine ZH ?_
  all_goals (repeat' (first | (refine Zf ?_; first | (refine Ze ?_; refine qQ ?_) | refine Zk ?_) | refine Za ?_ | (refine Zg ?_; refine Zu ?_) | (refine Zh ?_; refine Zv ?_) | intro _))
  all_goals
   simp only [e1, e2, e3]
   rename_i bh
   have hls := laid_spec ρ7 (R.cutH 0 note) e.a e.n e.c (by have := he.s; rw [hel] at this; exact this) hcl.1 hcl.2.1 hcl.2.2.1 hcl.2.2.2 (by rw [hen]; omega) db k D hD
   refine ZA (Zo _ _ ([[(bh, .cells ⟨hdV (R.cutH 0 note) e.a e.n e.c⟩ 81 (0, 0))], [(rb, .cells ⟨rgV R db ⟨wna, wnn, wnc, .slice none 0 0, [], []⟩⟩ 84 (0, 0))]])) (Zn (hT := tk) (Hp.le_refl _)) ?_
   all_goals (refine ZX 0 ?_; refine ZL 1 ?_; refine rNc 2 ?_; refine ZU 3 ?_; refine ZX 4 ?_)
   all_goals (refine Zp (i := 5) ?_; ((try refine Zl ?_); (first | (refine Zb (.func 39) ?_; refine qC rfl rfl hls ?_; rintro v8 ρ8 L8 hle8 ⟨rfl, hl8, k8, hD8, rfl⟩; try simp only [List.cons_append, List.nil_append, List.append_assoc]) | (refine Zk ?_; try intro _)) <;> ((try simp only [kM, kN, kO]); refine Za ?_; refine Zm ?_)))
   all_goals (refine ZN ?_; refine rAs 6 ?_; refine ZH ?_)
   all_goals (repeat' (first | (refine Zf ?_; first | (refine Ze ?_; refine qQ ?_) | refine Zk ?_) | refine Za ?_ | (refine Zg ?_; refine Zu ?_) | (refine Zh ?_; refine Zv ?_) | intro _))
   have hhe := fun (v : Value) (sp : List Value) ho => hcutok (Hp.le_trans hl7 hl8) (he.mono hl8) hel (v := v) (sp := sp) ho
   have hbk := hbrk (Hp.le_trans hl7 hl8)
   rw [hsome]
   generalize DS.lays (ZQ (R.cutH 0 note)) D = r at *
   obtain ⟨D', ec⟩ := r
   dsimp only at hD8 ⊢
   by_cases hz : ec = 0
   ·subst hz
    rw [show ((0 : Int) != 0) = false from rfl, if_pos rfl]
    repeat' (first | (refine Zf ?_; first | (refine Ze ?_; refine qQ ?_) | refine Zk ?_) | refine Za ?_ | (refine Zg ?_; refine Zu ?_) | (refine Zh ?_; refine Zv ?_) | intro _)
    refine ZA (Zo _ _ ([[(bh, .cells ⟨hdV (R.cutH 0 note) e.a e.n e.c⟩ 81 (0, 0))]])) (Zn (hT := tk) (Hp.le_refl _)) ?_
    all_goals (refine ZL 0 ?_; refine ZL 1 ?_; refine ZL 2 ?_; refine ZX 3 ?_; refine ZL 4 ?_; refine rNc 5 ?_; refine ZU 6 ?_; refine ZL 8 ?_; refine ZL 11 ?_; refine rNc 12 ?_; refine ZU 13 ?_; refine ZL 15 ?_)
    all_goals (refine YV (i := 7) (j := 14) ?_ ?_ <;> ((try refine Zl ?_); (first | (refine Zb (.func 46) ?_; refine qC rfl rfl (clone2_nil _ _ _) ?_; rintro v9 ρ9 L9 hle9 ⟨rfl, rfl, rfl⟩; try simp only [List.cons_append, List.nil_append]) | (refine Ze ?_; refine qQ ?_) | (refine Zk ?_; try intro _)) <;> ((try simp only [kM, kN, kO]); refine Za ?_; refine Zm ?_)))
    all_goals (first | refine rSl 9 ?_ | refine rSb 16 ?_)
    all_goals (first | (refine YV (i := 10) (j := 14) ?_ ?_ <;> ((try refine Zl ?_); (first | (refine Zb (.func 46) ?_; refine qC rfl rfl (clone2_nil _ _ _) ?_; rintro v9 ρ9 L9 hle9 ⟨rfl, rfl, rfl⟩; try simp only [List.cons_append, List.nil_append]) | (refine Ze ?_; refine qQ ?_) | (refine Zk ?_; try intro _)) <;> ((try simp only [kM, kN, kO]); refine Za ?_; refine Zm ?_))) | (refine Zp (i := 7) ?_; ((try refine Zl ?_); (first | (refine Zb (.func 46) ?_; refine qC rfl rfl (clone2_nil _ _ _) ?_; rintro v9 ρ9 L9 hle9 ⟨rfl, rfl, rfl⟩; try simp only [List.cons_append, List.nil_append]) | (refine Ze ?_; refine qQ ?_) | (refine Zk ?_; try intro _)) <;> ((try simp only [kM, kN, kO]); refine Za ?_; refine Zm ?_))))
    all_goals (first | refine rSl 9 ?_ | refine rSb 16 ?_ | (refine Zp (i := 14) ?_; ((try refine Zl ?_); (first | (refine Zb (.func 46) ?_; refine qC rfl rfl (clone2_nil _ _ _) ?_; rintro v9 ρ9 L9 hle9 ⟨rfl, rfl, rfl⟩; try simp only [List.cons_append, List.nil_append]) | (refine Ze ?_; refine qQ ?_) | (refine Zk ?_; try intro _)) <;> ((try simp only [kM, kN, kO]); refine Za ?_; refine Zm ?_))))
    all_goals (first | refine rSb 16 ?_ | (refine Zp (i := 10) ?_; ((try refine Zl ?_); (first | (refine Zb (.func 46) ?_; refine qC rfl rfl (clone2_nil _ _ _) ?_; rintro v9 ρ9 L9 hle9 ⟨rfl, rfl, rfl⟩; try simp only [List.cons_append, List.nil_append]) | (refine Ze ?_; refine qQ ?_) | (refine Zk ?_; try intro _)) <;> ((try simp only [kM, kN, kO]); refine Za ?_; refine Zm ?_))))
    all_goals (refine rNc 17 ?_; refine ZU 18 ?_)
    all_goals (refine Zp (i := 19) ?_; ((try refine Zl ?_); (first | (refine Ze ?_; refine qQ ?_) | (refine Zk ?_; try intro _)) <;> ((try simp only [kM, kN, kO]); refine Za ?_; refine Zm ?_)))
    all_goals (refine rNc 20 ?_; refine ZU 21 ?_)
    all_goals (refine Zp (i := 22) ?_; ((try refine Zl ?_); (first | (refine Ze ?_; refine qQ ?_) | (refine Zk ?_; try intro _)) <;> ((try simp only [kM, kN, kO]); refine Za ?_; refine Zm ?_)))
    all_goals (refine rNc 23 ?_; refine ZU 24 ?_)
    all_goals (refine Zp (i := 25) ?_; ((try refine Zl ?_); (first | (refine Ze ?_; refine qQ ?_) | (refine Zk ?_; try intro _)) <;> ((try simp only [kM, kN, kO]); refine Za ?_; refine Zm ?_)))
    all_goals refine ZH ?_
    all_goals (repeat' (first | (refine Zf ?_; first | (refine Ze ?_; refine qQ ?_) | refine Zk ?_) | refine Za ?_ | (refine Zg ?_; refine Zu ?_) | (refine Zh ?_; refine Zv ?_) | intro _))
    all_goals simp only [e4]
    all_goals exact qE (L' := ZT rb db ⟨R.cutH 0 note, R.ents.drop 0, R.used - ZB (R.ents.take 0), false⟩ ⟨e.a, e.n, e.c, .slice none 0 0, [].drop 0, []⟩ ++ (Zi db k8 D' ++ L7)) ⟨rfl, Hp.le_trans hl7 hl8, k8, _, hD8, hhe _ [] (OwnS.nil 1), rfl⟩
   ·have hcb : (ec != 0) = true := by simpa using hz
    rw [hcb, if_neg hz]
    repeat' (first | (refine Zf ?_; first | (refine Ze ?_; refine qQ ?_) | refine Zk ?_) | refine Za ?_ | (refine Zg ?_; refine Zu ?_) | (refine Zh ?_; refine Zv ?_) | intro _)
    exact qE (L' := ZT rb db { R with broken := true } ⟨wna, wnn, wnc, .slice none 0 0, [], []⟩ ++ (Zi db k8 D' ++ L7)) ⟨rfl, Hp.le_trans hl7 hl8, k8, _, hD8, hbk, rfl⟩
 ·obtain ⟨wna, wnn, wnc, wev, els, sp⟩ := w
  dsimp only at hev g1 g2 g3 hlen hall hcutok hbrk hw0 ⊢
  subst hev
  simp only [ZT, ZO]
  refine Zd Try.func13 rfl rfl rfl fun u R0 => ?_
  simp only [Zw, List.cons_append, List.nil_append, List.append_assoc]
  repeat' (first | (refine Zb (.func 40) ?_; refine qC rfl rfl (hw0) ?_; rintro v ρ' L' hle ⟨rfl, rfl, rfl⟩ <;> (try simp only [kM, kN, kO])) | (refine Zf ?_; first | (refine Ze ?_; refine qQ ?_) | refine Zk ?_) | refine Za ?_ | (refine Zg ?_; refine Zu ?_) | (refine Zh ?_; refine Zv ?_) | intro _)
  refine ZP [(0, _), (1, _), (2, _), (6, _), (7, _), (47, _), (48, _)] (fun (ζ : (Nat)) => [(49, .int .i64 ζ), (8, .int .i64 (ZB (R.ents.take ζ) : Nat))]) (fun (ζ : (Nat)) => ρ') (fun (ζ : (Nat)) => [[(bx, .cells ⟨els.map slv ++ sp⟩ 30 (0, 0))]]) (fun (ζ : (Nat)) => ζ ≤ m) (fun (ζ : (Nat)) => m - ζ) (0) (Nat.zero_le _) Zx Zx rfl tk ?_
  rintro j hI
  try simp only [List.cons_append, List.nil_append, List.append_assoc, List.append_eq] at hI ⊢
  try dsimp only at hI ⊢
  by_cases hlt : j < m
  ·obtain ⟨q1, q2, q3⟩ := hall (show j < els.length by omega)
   have hts := usedL_take_succ R.ents j (by omega)
   have hq2 := q2.s.len
   have hget : (els.map slv ++ sp)[0 + j * 1]? = some (slv els[j]) := by
    rw [Nat.zero_add, Nat.mul_one, List.getElem?_append_left (by simp; omega)]; simp [show j < els.length by omega]
   have hle : ZB (R.ents.take j) ≤ ZB R.ents := by have := Xf R.ents j; omega
   have hsc := sects_le q3
   rw [← q1, hq2] at hts
   repeat' (first | (refine Zb (.func 41) ?_; refine qC rfl rfl (XI _ (els[j]).n (by omega)) ?_; rintro v ρ' L' hle ⟨rfl, rfl, rfl⟩ <;> (try simp only [kM, kN, kO])) | (refine Zf ?_; first | (refine Ze ?_; refine qQ ?_) | refine Zk ?_) | refine Za ?_ | (refine Zg ?_; refine Zu ?_) | (refine Zh ?_; refine Zv ?_) | intro _)
   rw [show ((ZB (R.ents.take j) : Nat) : Int) + ((Zt (els[j]).n : Nat) : Int) = ((ZB (R.ents.take (j + 1)) : Nat) : Int) by rw [hts]; omega]
   refine ZI (j + 1) (hlt) Zx Zx rfl tk inferInstance (by first | omega | (dsimp only; omega))
  ·have hjm : j = m := by omega
   subst hjm
   repeat' (first | (refine Zf ?_; first | (refine Ze ?_; refine qQ ?_) | refine Zk ?_) | refine Za ?_ | (refine Zg ?_; refine Zu ?_) | (refine Zh ?_; refine Zv ?_) | intro _)
   refine ZA (Zo _ _ ([[(rb, .cells ⟨rgV R db ⟨wna, wnn, wnc, .slice (some ⟨bx, 0, none⟩) els.length cap, els, sp⟩⟩ 84 (0, 0))]])) (Zn (hT := tk) (Hp.le_refl _)) ?_
   all_goals (refine ZL 0 ?_; refine rNc 1 ?_; refine ZU 2 ?_; refine ZU 3 ?_; refine ZX 4 ?_; refine rAd 5 ?_; refine ZL 6 ?_; refine rNc 7 ?_; refine ZU 8 ?_; refine ZU 9 ?_; refine ZX 10 ?_; refine ZL 11 ?_; refine rCv 12 ?_; refine rAd 13 ?_; refine ZL 14 ?_; refine rNc 15 ?_; refine ZU 16 ?_; refine ZU 17 ?_; refine ZX 18 ?_; refine ZL 19 ?_; refine rNc 20 ?_; refine ZU 21 ?_; refine ZU 22 ?_; refine ZX 23 ?_; refine ZL 24 ?_; refine rAd 25 ?_; refine ZL 26 ?_; refine rNc 27 ?_; refine ZU 28 ?_; refine ZU 29 ?_; refine ZX 30 ?_; refine rRm 31 ?_; refine ZL 32 ?_)
   all_goals (refine YV (i := 33) (j := 35) ?_ ?_ <;> ((try refine Zl ?_); (first | (refine Zb (.func 45) ?_; refine qC rfl rfl (Xb _ X a nn c note (hb.mono (by assumption)) (by omega)) ?_; rintro v7 ρ7 L7 hle7 ⟨hl7, e, rfl, he, hel, hen, rfl⟩; simp only [List.cons_append, List.nil_append]) | (refine Zk ?_; try intro _)) <;> ((try simp only [kM, kN, kO]); refine Za ?_; refine Zm ?_)))
   all_goals (first | refine rBu 34 ?_ | (refine Zp (i := 33) ?_; ((try refine Zl ?_); (first | (refine Zb (.func 45) ?_; refine qC rfl rfl (Xb _ X a nn c note (hb.mono (by assumption)) (by omega)) ?_; rintro v7 ρ7 L7 hle7 ⟨hl7, e, rfl, he, hel, hen, rfl⟩; simp only [List.cons_append, List.nil_append]) | (refine Zk ?_; try intro _)) <;> ((try simp only [kM, kN, kO]); refine Za ?_; refine Zm ?_))))
   all_goals (first | refine rBu 34 ?_ | (refine Zp (i := 35) ?_; ((try refine Zl ?_); (first | (refine Zk ?_; try intro _)) <;> ((try simp only [kM, kN, kO]); refine Za ?_; refine Zm ?_))))
   all_goals (refine Zp (i := 36) ?_; ((try refine Zl ?_); (first | (refine Zk ?_; try intro _)) <;> ((try simp only [kM, kN, kO]); refine Za ?_; refine Zm ?_)))
   all_goals refine ZH ?_
   all_goals (repeat' (first | (refine Zf ?_; first | (refine Ze ?_; refine qQ ?_) | refine Zk ?_) | refine Za ?_ | (refine Zg ?_; refine Zu ?_) | (refine Zh ?_; refine Zv ?_) | intro _))
   all_goals
    simp only [e1, e2, e3]
    rename_i bh
    have hls := laid_spec ρ7 (R.cutH j note) e.a e.n e.c (by have := he.s; rw [hel] at this; exact this) hcl.1 hcl.2.1 hcl.2.2.1 hcl.2.2.2 (by rw [hen]; omega) db k D hD
    refine ZA (Zo _ _ ([[(bh, .cells ⟨hdV (R.cutH j note) e.a e.n e.c⟩ 81 (0, 0))], [(rb, .cells ⟨rgV R db ⟨wna, wnn, wnc, .slice (some ⟨bx, 0, none⟩) els.length cap, els, sp⟩⟩ 84 (0, 0))]])) (Zn (hT := tk) (Hp.le_refl _)) ?_
    all_goals (refine ZX 0 ?_; refine ZL 1 ?_; refine rNc 2 ?_; refine ZU 3 ?_; refine ZX 4 ?_)
    all_goals (refine Zp (i := 5) ?_; ((try refine Zl ?_); (first | (refine Zb (.func 39) ?_; refine qC rfl rfl hls ?_; rintro v8 ρ8 L8 hle8 ⟨rfl, hl8, k8, hD8, rfl⟩; try simp only [List.cons_append, List.nil_append, List.append_assoc]) | (refine Zk ?_; try intro _)) <;> ((try simp only [kM, kN, kO]); refine Za ?_; refine Zm ?_)))
    all_goals (refine ZN ?_; refine rAs 6 ?_; refine ZH ?_)
    all_goals (repeat' (first | (refine Zf ?_; first | (refine Ze ?_; refine qQ ?_) | refine Zk ?_) | refine Za ?_ | (refine Zg ?_; refine Zu ?_) | (refine Zh ?_; refine Zv ?_) | intro _))
    have hhe := fun (v : Value) (sp : List Value) ho => hcutok (Hp.le_trans hl7 hl8) (he.mono hl8) hel (v := v) (sp := sp) ho
    have hbk := hbrk (Hp.le_trans hl7 hl8)
    rw [hsome]
    generalize DS.lays (ZQ (R.cutH j note)) D = r at *
    obtain ⟨D', ec⟩ := r
    dsimp only at hD8 ⊢
    by_cases hz : ec = 0
    ·subst hz
     rw [show ((0 : Int) != 0) = false from rfl, if_pos rfl]
     repeat' (first | (refine Zf ?_; first | (refine Ze ?_; refine qQ ?_) | refine Zk ?_) | refine Za ?_ | (refine Zg ?_; refine Zu ?_) | (refine Zh ?_; refine Zv ?_) | intro _)
     obtain ⟨off, hval, hxx⟩ : ∃ off, (if cap = j then some (⟨bx, 0, none⟩ : Addr) else some ⟨bx, 0 + j * 1, none⟩) = some ⟨bx, off, none⟩ ∧ ((els.map slv ++ sp).drop off).take (els.length - j) = (els.drop j).map slv := by
      by_cases hcap : cap = j
      ·refine ⟨0, by rw [if_pos hcap], ?_⟩
       have : els.length - j = 0 := by omega
       have h2 : els.drop j = [] := List.drop_eq_nil_of_le (by omega)
       rw [this, h2]; simp
      ·refine ⟨j, by rw [if_neg hcap]; simp, ?_⟩
       rw [List.drop_append_of_le_length (by simp; omega), List.take_append_of_le_length (by simp), List.take_of_length_le (by simp), List.map_drop]
     refine ZA (Zo _ _ ([[(bh, .cells ⟨hdV (R.cutH j note) e.a e.n e.c⟩ 81 (0, 0))]])) (Zn (hT := tk) (Hp.le_refl _)) ?_
     all_goals (refine ZL 0 ?_; refine ZL 1 ?_; refine ZL 2 ?_; refine ZX 3 ?_; refine ZL 4 ?_; refine rNc 5 ?_; refine ZU 6 ?_; refine ZL 8 ?_; refine ZL 11 ?_; refine rNc 12 ?_; refine ZU 13 ?_; refine ZL 15 ?_)
     all_goals (refine YV (i := 7) (j := 14) ?_ ?_ <;> ((try refine Zl ?_); (first | (simp only [Int.toNat_natCast, Option.map_some, Yg, hval]; refine Zb (.func 46) ?_; refine qC rfl rfl (clone2_spec _ _ (els.length - j) _ off 30 (els.map slv ++ sp) sp _ bx cap (els.drop j) (by omega) (by simp) rfl rfl hxx) ?_; rintro v9 ρ9 L9 hle9 ⟨rfl, sp9, hown9, rfl⟩; obtain ⟨a9, c9, rfl, _⟩ := hown9.slice; simp only [List.cons_append, List.nil_append]) | (refine Ze ?_; refine qQ ?_) | (refine Zk ?_; try intro _)) <;> ((try simp only [kM, kN, kO]); refine Za ?_; refine Zm ?_)))
     all_goals (first | refine rSl 9 ?_ | refine rSb 16 ?_)
     all_goals (first | (refine YV (i := 10) (j := 14) ?_ ?_ <;> ((try refine Zl ?_); (first | (simp only [Int.toNat_natCast, Option.map_some, Yg, hval]; refine Zb (.func 46) ?_; refine qC rfl rfl (clone2_spec _ _ (els.length - j) _ off 30 (els.map slv ++ sp) sp _ bx cap (els.drop j) (by omega) (by simp) rfl rfl hxx) ?_; rintro v9 ρ9 L9 hle9 ⟨rfl, sp9, hown9, rfl⟩; obtain ⟨a9, c9, rfl, _⟩ := hown9.slice; simp only [List.cons_append, List.nil_append]) | (refine Ze ?_; refine qQ ?_) | (refine Zk ?_; try intro _)) <;> ((try simp only [kM, kN, kO]); refine Za ?_; refine Zm ?_))) | (refine Zp (i := 7) ?_; ((try refine Zl ?_); (first | (simp only [Int.toNat_natCast, Option.map_some, Yg, hval]; refine Zb (.func 46) ?_; refine qC rfl rfl (clone2_spec _ _ (els.length - j) _ off 30 (els.map slv ++ sp) sp _ bx cap (els.drop j) (by omega) (by simp) rfl rfl hxx) ?_; rintro v9 ρ9 L9 hle9 ⟨rfl, sp9, hown9, rfl⟩; obtain ⟨a9, c9, rfl, _⟩ := hown9.slice; simp only [List.cons_append, List.nil_append]) | (refine Ze ?_; refine qQ ?_) | (refine Zk ?_; try intro _)) <;> ((try simp only [kM, kN, kO]); refine Za ?_; refine Zm ?_))))
     all_goals (first | refine rSl 9 ?_ | refine rSb 16 ?_ | (refine Zp (i := 14) ?_; ((try refine Zl ?_); (first | (simp only [Int.toNat_natCast, Option.map_some, Yg, hval]; refine Zb (.func 46) ?_; refine qC rfl rfl (clone2_spec _ _ (els.length - j) _ off 30 (els.map slv ++ sp) sp _ bx cap (els.drop j) (by omega) (by simp) rfl rfl hxx) ?_; rintro v9 ρ9 L9 hle9 ⟨rfl, sp9, hown9, rfl⟩; obtain ⟨a9, c9, rfl, _⟩ := hown9.slice; simp only [List.cons_append, List.nil_append]) | (refine Ze ?_; refine qQ ?_) | (refine Zk ?_; try intro _)) <;> ((try simp only [kM, kN, kO]); refine Za ?_; refine Zm ?_))))
     all_goals (first | refine rSb 16 ?_ | (refine Zp (i := 10) ?_; ((try refine Zl ?_); (first | (simp only [Int.toNat_natCast, Option.map_some, Yg, hval]; refine Zb (.func 46) ?_; refine qC rfl rfl (clone2_spec _ _ (els.length - j) _ off 30 (els.map slv ++ sp) sp _ bx cap (els.drop j) (by omega) (by simp) rfl rfl hxx) ?_; rintro v9 ρ9 L9 hle9 ⟨rfl, sp9, hown9, rfl⟩; obtain ⟨a9, c9, rfl, _⟩ := hown9.slice; simp only [List.cons_append, List.nil_append]) | (refine Ze ?_; refine qQ ?_) | (refine Zk ?_; try intro _)) <;> ((try simp only [kM, kN, kO]); refine Za ?_; refine Zm ?_))))
     all_goals (refine rNc 17 ?_; refine ZU 18 ?_)
     all_goals (refine Zp (i := 19) ?_; ((try refine Zl ?_); (first | (refine Ze ?_; refine qQ ?_) | (refine Zk ?_; try intro _)) <;> ((try simp only [kM, kN, kO]); refine Za ?_; refine Zm ?_)))
     all_goals (refine rNc 20 ?_; refine ZU 21 ?_)
     all_goals (refine Zp (i := 22) ?_; ((try refine Zl ?_); (first | (refine Ze ?_; refine qQ ?_) | (refine Zk ?_; try intro _)) <;> ((try simp only [kM, kN, kO]); refine Za ?_; refine Zm ?_)))
     all_goals (refine rNc 23 ?_; refine ZU 24 ?_)
     all_goals (refine Zp (i := 25) ?_; ((try refine Zl ?_); (first | (refine Ze ?_; refine qQ ?_) | (refine Zk ?_; try intro _)) <;> ((try simp only [kM, kN, kO]); refine Za ?_; refine Zm ?_)))
     all_goals refine ZH ?_
     all_goals (repeat' (first | (refine Zf ?_; first | (refine Ze ?_; refine qQ ?_) | refine Zk ?_) | refine Za ?_ | (refine Zg ?_; refine Zu ?_) | (refine Zh ?_; refine Zv ?_) | intro _))
     all_goals simp only [e4]
     all_goals exact qE (L' := ZT rb db ⟨R.cutH j note, R.ents.drop j, R.used - ZB (R.ents.take j), false⟩ ⟨e.a, e.n, e.c, _, els.drop j, sp9⟩ ++ (Zi db k8 D' ++ L7)) ⟨rfl, Hp.le_trans hl7 hl8, k8, _, hD8, hhe _ sp9 hown9, rfl⟩
    ·have hcb : (ec != 0) = true := by simpa using hz
     rw [hcb, if_neg hz]
     repeat' (first | (refine Zf ?_; first | (refine Ze ?_; refine qQ ?_) | refine Zk ?_) | refine Za ?_ | (refine Zg ?_; refine Zu ?_) | (refine Zh ?_; refine Zv ?_) | intro _)
     exact qE (L' := ZT rb db { R with broken := true } ⟨wna, wnn, wnc, .slice (some ⟨bx, 0, none⟩) els.length cap, els, sp⟩ ++ (Zi db k8 D' ++ L7)) ⟨rfl, Hp.le_trans hl7 hl8, k8, _, hD8, hbk, rfl⟩
theorem noughtsL_64 {n : Nat} : ∀ p ∈ ZG n, p.2.length = 64 := fun p hp => by
 simp only [ZG, List.mem_map] at hp
 obtain ⟨k, _, rfl⟩ := hp; rfl
theorem fresh_rok {n : Nat} (h0 : 4 ≤ n) (h1 : n ≤ 1000) : RgS.Ok ⟨ZK n, [], 0, false⟩ :=
 ⟨by simp [ZK], ⟨h0, h1⟩, by simp [ZK], by simp [RgS.next, ZK], by simp only [ZK]; omega, by simp [ZK], rfl, Nat.zero_le _, by simp⟩
theorem fresh_rin {ρ : Hp} {n : Nat} (h0 : 4 ≤ n) (h1 : n ≤ 1000) : RIn ρ ⟨ZK n, [], 0, false⟩ ⟨none, 0, 0, .slice none 0 0, [], []⟩ :=
 ⟨fresh_rok h0 h1, SIn.nil, Nat.le_refl _, OwnS.nil 1, rfl, by simp⟩
def ringAns (ρ' : Hp) (db : Nat) (r : Option RgS × DS × Int) (v : Value) (L' : SH) : Prop :=
 ∃ k', DOk k' r.2.1 ∧ match r.1 with
  | none => v = .tuple ⟨[.pointer none, .int .i64 r.2.2]⟩ ∧ L' = Zi db k' r.2.1
  | some R => ∃ rb w, v = .tuple ⟨[.pointer (some ⟨rb, 0, none⟩), .int .i64 0]⟩ ∧ RIn ρ' R w ∧ L' = ZT rb db R w ++ Zi db k' r.2.1
theorem format_spec (ρ : Hp) (db : Nat) (k : DK) (D : DS) (hD : DOk k D) (size : Int) (hs : -9223372036854775808 ≤ size ∧ size ≤ 9223372036854775807) :
  Spec Try.prog 10 [.pointer (some ⟨db, 0, none⟩), .int .i64 size] ρ (Zi db k D) (fun v ρ' L' => ρ.le ρ' ∧ ringAns ρ' db (Yj size D) v L') := by
 by_cases h1 : size < 4
 ·have he : Yj size D = (none, D, 2) := by unfold Yj; rw [if_pos (.inl h1)]
  rw [he]
  refine Zd Try.func10 rfl rfl rfl fun u R => ?_
  simp only [Zw, List.cons_append, List.nil_append]
  repeat' (first | (refine Zf ?_; first | (refine Ze ?_; refine qQ ?_) | refine Zk ?_) | refine Za ?_ | (refine Zg ?_; refine Zu ?_) | (refine Zh ?_; refine Zv ?_) | intro _)
  rename_i b3
  refine ZA (Zo _ _ ([[(b3, .cells ⟨[.int .i64 size]⟩ 3 (0, 0))]])) (Zn (hT := tk) (Hp.le_refl _)) ?_
  all_goals (refine ZX 0 ?_; refine rCm 1 ?_; refine ZL 2 ?_; (first | refine Zr 3 ?_ | refine Zj 3 ?_ | refine wLd 3 ?_); (first | refine Zr 4 ?_ | refine Zj 4 ?_ | refine wCm 4 ?_); refine rPk 5 ?_; refine ZL 6 ?_; (first | refine Zr 7 ?_ | refine Zj 7 ?_ | refine wMv 7 ?_); (first | refine Zr 9 ?_ | refine Zj 9 ?_ | refine wLd 9 ?_); (first | refine Zr 10 ?_ | refine Zj 10 ?_ | refine wAd 10 ?_))
  all_goals (first | refine Zr 8 ?_ | refine Zj 8 ?_ | (refine Zp (i := 8) ?_; ((try refine Zl ?_); (first | (refine Zb (.func 36) ?_; refine qC rfl rfl (klen _ db k D) ?_; rintro v ρ' L' hle ⟨rfl, rfl, rfl⟩ <;> (try simp only [kM, kN, kO])) | (refine Zk ?_; try intro _)) <;> ((try simp only [kM, kN, kO]); refine Za ?_; refine Zm ?_))))
  all_goals (refine ZN ?_; (first | refine Zr 11 ?_ | refine Zj 11 ?_ | refine wCm 11 ?_); refine rPk 12 ?_; refine ZH ?_)
  all_goals (repeat' (first | (refine Zf ?_; first | (refine Ze ?_; refine qQ ?_) | refine Zk ?_) | refine Za ?_ | (refine Zg ?_; refine Zu ?_) | (refine Zh ?_; refine Zv ?_) | intro _))
  all_goals exact qE ⟨Hp.le_refl _, k, hD, rfl, rfl⟩
 ·by_cases h2 : 1000 < size
  ·have he : Yj size D = (none, D, 2) := by unfold Yj; rw [if_pos (.inr (.inl h2))]
   rw [he]
   refine Zd Try.func10 rfl rfl rfl fun u R => ?_
   simp only [Zw, List.cons_append, List.nil_append]
   repeat' (first | (refine Zf ?_; first | (refine Ze ?_; refine qQ ?_) | refine Zk ?_) | refine Za ?_ | (refine Zg ?_; refine Zu ?_) | (refine Zh ?_; refine Zv ?_) | intro _)
   rename_i b3
   refine ZA (Zo _ _ ([[(b3, .cells ⟨[.int .i64 size]⟩ 3 (0, 0))]])) (Zn (hT := tk) (Hp.le_refl _)) ?_
   all_goals (refine ZX 0 ?_; refine rCm 1 ?_; refine ZL 2 ?_; (first | refine Zr 3 ?_ | refine Zj 3 ?_ | refine wLd 3 ?_); (first | refine Zr 4 ?_ | refine Zj 4 ?_ | refine wCm 4 ?_); refine rPk 5 ?_; refine ZL 6 ?_; (first | refine Zr 7 ?_ | refine Zj 7 ?_ | refine wMv 7 ?_); (first | refine Zr 9 ?_ | refine Zj 9 ?_ | refine wLd 9 ?_); (first | refine Zr 10 ?_ | refine Zj 10 ?_ | refine wAd 10 ?_))
   all_goals (first | refine Zr 8 ?_ | refine Zj 8 ?_ | (refine Zp (i := 8) ?_; ((try refine Zl ?_); (first | (refine Zb (.func 36) ?_; refine qC rfl rfl (klen _ db k D) ?_; rintro v ρ' L' hle ⟨rfl, rfl, rfl⟩ <;> (try simp only [kM, kN, kO])) | (refine Zk ?_; try intro _)) <;> ((try simp only [kM, kN, kO]); refine Za ?_; refine Zm ?_))))
   all_goals (refine ZN ?_; (first | refine Zr 11 ?_ | refine Zj 11 ?_ | refine wCm 11 ?_); refine rPk 12 ?_; refine ZH ?_)
   all_goals (repeat' (first | (refine Zf ?_; first | (refine Ze ?_; refine qQ ?_) | refine Zk ?_) | refine Za ?_ | (refine Zg ?_; refine Zu ?_) | (refine Zh ?_; refine Zv ?_) | intro _))
   all_goals exact qE ⟨Hp.le_refl _, k, hD, rfl, rfl⟩
  ·by_cases h3 : (D.secs.length : Int) < size + 2
   ·have he : Yj size D = (none, D, 2) := by unfold Yj; rw [if_pos (.inr (.inr h3))]
    rw [he]
    refine Zd Try.func10 rfl rfl rfl fun u R => ?_
    simp only [Zw, List.cons_append, List.nil_append]
    repeat' (first | (refine Zf ?_; first | (refine Ze ?_; refine qQ ?_) | refine Zk ?_) | refine Za ?_ | (refine Zg ?_; refine Zu ?_) | (refine Zh ?_; refine Zv ?_) | intro _)
    rename_i b3
    refine ZA (Zo _ _ ([[(b3, .cells ⟨[.int .i64 size]⟩ 3 (0, 0))]])) (Zn (hT := tk) (Hp.le_refl _)) ?_
    all_goals (refine ZX 0 ?_; refine rCm 1 ?_; refine ZL 2 ?_; (first | refine Zr 3 ?_ | refine Zj 3 ?_ | refine wLd 3 ?_); (first | refine Zr 4 ?_ | refine Zj 4 ?_ | refine wCm 4 ?_); refine rPk 5 ?_; refine ZL 6 ?_; (first | refine Zr 7 ?_ | refine Zj 7 ?_ | refine wMv 7 ?_); (first | refine Zr 9 ?_ | refine Zj 9 ?_ | refine wLd 9 ?_); (first | refine Zr 10 ?_ | refine Zj 10 ?_ | refine wAd 10 ?_))
    all_goals (first | refine Zr 8 ?_ | refine Zj 8 ?_ | (refine Zp (i := 8) ?_; ((try refine Zl ?_); (first | (refine Zb (.func 36) ?_; refine qC rfl rfl (klen _ db k D) ?_; rintro v ρ' L' hle ⟨rfl, rfl, rfl⟩ <;> (try simp only [kM, kN, kO])) | (refine Zk ?_; try intro _)) <;> ((try simp only [kM, kN, kO]); refine Za ?_; refine Zm ?_))))
    all_goals (refine ZN ?_; (first | refine Zr 11 ?_ | refine Zj 11 ?_ | refine wCm 11 ?_); refine rPk 12 ?_; refine ZH ?_)
    all_goals (repeat' (first | (refine Zf ?_; first | (refine Ze ?_; refine qQ ?_) | refine Zk ?_) | refine Za ?_ | (refine Zg ?_; refine Zu ?_) | (refine Zh ?_; refine Zv ?_) | intro _))
    all_goals exact qE ⟨Hp.le_refl _, k, hD, rfl, rfl⟩
   ·obtain ⟨n, rfl⟩ : ∃ n : Nat, size = n := ⟨size.toNat, by omega⟩
    have hn0 : 4 ≤ n := by omega
    have hn1 : n ≤ 1000 := by omega
    have he : Yj n D = if (DS.lays (ZG n) D).2 = 0 then
      if (DS.lays (ZQ (ZK n)) (DS.lays (ZG n) D).1).2 = 0 then (some ⟨ZK n, [], 0, false⟩, DS.lays (ZQ (ZK n)) (DS.lays (ZG n) D).1) else (none, DS.lays (ZQ (ZK n)) (DS.lays (ZG n) D).1)
     else (none, DS.lays (ZG n) D) := by unfold Yj; rw [if_neg (by omega)]; simp only [Int.toNat_natCast]
    rw [he]
    refine Zd Try.func10 rfl rfl rfl fun u R => ?_
    simp only [Zw, List.cons_append, List.nil_append]
    repeat' (first | (refine Zf ?_; first | (refine Ze ?_; refine qQ ?_) | refine Zk ?_) | refine Za ?_ | (refine Zg ?_; refine Zu ?_) | (refine Zh ?_; refine Zv ?_) | intro _)
    rename_i b3
    refine ZA (Zo _ _ ([[(b3, .cells ⟨[.int .i64 n]⟩ 3 (0, 0))]])) (Zn (hT := tk) (Hp.le_refl _)) ?_
    all_goals (refine ZX 0 ?_; refine rCm 1 ?_; refine ZL 2 ?_; (first | refine Zr 3 ?_ | refine Zj 3 ?_ | refine wLd 3 ?_); (first | refine Zr 4 ?_ | refine Zj 4 ?_ | refine wCm 4 ?_); refine rPk 5 ?_; refine ZL 6 ?_; (first | refine Zr 7 ?_ | refine Zj 7 ?_ | refine wMv 7 ?_); (first | refine Zr 9 ?_ | refine Zj 9 ?_ | refine wLd 9 ?_); (first | refine Zr 10 ?_ | refine Zj 10 ?_ | refine wAd 10 ?_))
    all_goals (first | refine Zr 8 ?_ | refine Zj 8 ?_ | (refine Zp (i := 8) ?_; ((try refine Zl ?_); (first | (refine Zb (.func 36) ?_; refine qC rfl rfl (klen _ db k D) ?_; rintro v ρ' L' hle ⟨rfl, rfl, rfl⟩ <;> (try simp only [kM, kN, kO])) | (refine Zk ?_; try intro _)) <;> ((try simp only [kM, kN, kO]); refine Za ?_; refine Zm ?_))))
    all_goals (refine ZN ?_; (first | refine Zr 11 ?_ | refine Zj 11 ?_ | refine wCm 11 ?_); refine rPk 12 ?_; refine ZH ?_)
    all_goals (repeat' (first | (refine Zb (.func 37) ?_; refine qC rfl rfl (lays_spec _ _ 38 [.pointer (some ⟨b3, 0, none⟩)] [[(b3, .cells ⟨[.int .i64 n]⟩ 3 (0, 0))]] (ZG n) (Hp.le_refl _) (noughts_iter _ b3 n (by omega)) noughtsL_64 db k D hD) ?_; rintro v6 ρ6 L6 hle6 ⟨rfl, hl6, k6, hD6, rfl⟩; simp only [List.cons_append, List.nil_append, List.append_assoc]) | (refine Zf ?_; first | (refine Ze ?_; refine qQ ?_) | refine Zk ?_) | refine Za ?_ | (refine Zg ?_; refine Zu ?_) | (refine Zh ?_; refine Zv ?_) | intro _))
    all_goals generalize DS.lays (ZG n) D = r at *
    all_goals obtain ⟨D', ec⟩ := r
    all_goals dsimp only at hD6 ⊢
    all_goals
     by_cases hz : ec = 0
     ·subst hz
      have hrd := fun ρ => laid_spec ρ (ZK n) none 0 0 SIn.nil (by simp [ZK]) (by simp [ZK]) (by simp only [ZK]; omega) (by simp [ZK]) (by omega) db k6 D' hD6
      rw [show ((0 : Int) == 0) = true from rfl, if_pos rfl]
      repeat' (first | (refine Zb (.func 39) ?_; refine qC rfl rfl (hrd _) ?_; rintro v8 ρ8 L8 hle8 ⟨rfl, hl8, k8, hD8, rfl⟩; try simp only [List.cons_append, List.nil_append, List.append_assoc]) | (refine Zf ?_; first | (refine Ze ?_; refine qQ ?_) | refine Zk ?_) | refine Za ?_ | (refine Zg ?_; refine Zu ?_) | (refine Zh ?_; refine Zv ?_) | intro _)
      generalize DS.lays (ZQ (ZK n)) D' = r at *
      obtain ⟨D'', ec⟩ := r
      dsimp only at hD8 ⊢
      by_cases hz : ec = 0
      ·subst hz
       rw [show ((0 : Int) != 0) = false from rfl, if_pos rfl]
       repeat' (first | (refine Zf ?_; first | (refine Ze ?_; refine qQ ?_) | refine Zk ?_) | refine Za ?_ | (refine Zg ?_; refine Zu ?_) | (refine Zh ?_; refine Zv ?_) | intro _)
       rename_i rb
       exact qE (L' := ZT rb db ⟨ZK n, [], 0, false⟩ ⟨none, 0, 0, .slice none 0 0, [], []⟩ ++ Zi db k8 D'') ⟨Hp.le_trans hl6 hl8, k8, hD8, rb, _, rfl, fresh_rin hn0 hn1, rfl⟩
      ·have hcb : (ec != 0) = true := by simpa using hz
       rw [hcb, if_neg hz]
       repeat' (first | (refine Zf ?_; first | (refine Ze ?_; refine qQ ?_) | refine Zk ?_) | refine Za ?_ | (refine Zg ?_; refine Zu ?_) | (refine Zh ?_; refine Zv ?_) | intro _)
       exact qE (L' := Zi db k8 D'') ⟨Hp.le_trans hl6 hl8, k8, hD8, rfl, rfl⟩
     ·have hcb : (ec == 0) = false := by simpa using hz
      have hcb2 : (ec != 0) = true := by simpa using hz
      rw [hcb, if_neg hz]
      repeat' (first | (refine Zf ?_; first | (refine Ze ?_; refine qQ ?_) | refine Zk ?_) | refine Za ?_ | (refine Zg ?_; refine Zu ?_) | (refine Zh ?_; refine Zv ?_) | intro _)
      exact qE (L' := Zi db k6 D') ⟨hl6, k6, hD6, rfl, rfl⟩
theorem first_spec (ρ : Hp) (rb db : Nat) (R : RgS) (w : RW) : Spec Try.prog 14 [.pointer (some ⟨rb, 0, none⟩)] ρ [[(rb, .cells ⟨rgV R db w⟩ 84 (0, 0))]] (fun v ρ' L' => v = .int .u64 (R.h.first : Nat) ∧ ρ' = ρ ∧ L' = [[(rb, .cells ⟨rgV R db w⟩ 84 (0, 0))]]) := by
 refine Zd Try.func14 rfl rfl rfl fun u R0 => ?_
 simp only [Zw, List.cons_append, List.nil_append]
 repeat' (first | (refine Zf ?_; first | (refine Ze ?_; refine qQ ?_) | refine Zk ?_) | refine Za ?_ | (refine Zg ?_; refine Zu ?_) | (refine Zh ?_; refine Zv ?_) | intro _)
 exact qE ⟨rfl, rfl, rfl⟩
theorem left_spec4 (ρ : Hp) (rb db : Nat) (R : RgS) (w : RW) (h : R.Ok) : Spec Try.prog 12 [.pointer (some ⟨rb, 0, none⟩)] ρ [[(rb, .cells ⟨rgV R db w⟩ 84 (0, 0))]] (fun v ρ' L' => v = .int .i64 ((R.h.size - R.used : Nat) : Int) ∧ ρ' = ρ ∧ L' = [[(rb, .cells ⟨rgV R db w⟩ 84 (0, 0))]]) := by
 have hft := h.fit
 have hsz := h.size
 have e : (R.h.size : Int) - (R.used : Int) = ((R.h.size - R.used : Nat) : Int) := by omega
 refine Zd Try.func12 rfl rfl rfl fun u R0 => ?_
 simp only [Zw, List.cons_append, List.nil_append]
 repeat' (first | (refine Zf ?_; first | (refine Ze ?_; refine qQ ?_) | refine Zk ?_) | refine Za ?_ | (refine Zg ?_; refine Zu ?_) | (refine Zh ?_; refine Zv ?_) | intro _)
 refine ZA (Zo _ _ _) stays_refl ?_
 all_goals (refine ZL 0 ?_; refine ZN ?_; refine rNc 1 ?_; refine ZU 2 ?_; refine ZU 3 ?_; refine ZX 4 ?_; refine ZL 5 ?_; refine rNc 6 ?_; refine ZU 7 ?_; refine ZX 8 ?_; refine rSb 9 ?_; refine rAs 10 ?_; refine ZH ?_)
 all_goals (repeat' (first | (refine Zf ?_; first | (refine Ze ?_; refine qQ ?_) | refine Zk ?_) | refine Za ?_ | (refine Zg ?_; refine Zu ?_) | (refine Zh ?_; refine Zv ?_) | intro _))
 rw [e]
 exact qE ⟨rfl, rfl, rfl⟩
theorem broken_spec (ρ : Hp) (rb db : Nat) (R : RgS) (w : RW) : Spec Try.prog 27 [.pointer (some ⟨rb, 0, none⟩)] ρ [[(rb, .cells ⟨rgV R db w⟩ 84 (0, 0))]] (fun v ρ' L' => v = .bool R.broken ∧ ρ' = ρ ∧ L' = [[(rb, .cells ⟨rgV R db w⟩ 84 (0, 0))]]) := by
 refine Zd Try.func27 rfl rfl rfl fun u R0 => ?_
 simp only [Zw, List.cons_append, List.nil_append]
 repeat' (first | (refine Zf ?_; first | (refine Ze ?_; refine qQ ?_) | refine Zk ?_) | refine Za ?_ | (refine Zg ?_; refine Zu ?_) | (refine Zh ?_; refine Zv ?_) | intro _)
 exact qE ⟨rfl, rfl, rfl⟩
theorem note_spec (ρ : Hp) (rb db : Nat) (R : RgS) (w : RW) (h : RIn ρ R w) : Spec Try.prog 31 [.pointer (some ⟨rb, 0, none⟩)] ρ [[(rb, .cells ⟨rgV R db w⟩ 84 (0, 0))]] (fun v ρ' L' => ρ.le ρ' ∧ ∃ e : BSl, v = slv e ∧ BIn ρ' e ∧ e.l = R.h.note ∧ L' = [[(rb, .cells ⟨rgV R db w⟩ 84 (0, 0))]]) := by
 have hn := h.ok.note
 have hl := h.note.len
 refine Zd Try.func31 rfl rfl rfl fun u R0 => ?_
 simp only [Zw, List.cons_append, List.nil_append]
 repeat' (first | (refine Zb (.func 45) ?_; refine qC rfl rfl (Xb _ [] w.na w.nn w.nc R.h.note h.note.rd (by omega)) ?_; rintro v7 ρ7 L7 hle7 ⟨hl7, e, rfl, he, hel, hen, rfl⟩; simp only [List.cons_append, List.nil_append]) | (refine Zf ?_; first | (refine Ze ?_; refine qQ ?_) | refine Zk ?_) | refine Za ?_ | (refine Zg ?_; refine Zu ?_) | (refine Zh ?_; refine Zv ?_) | intro _)
 exact qE ⟨hl7, e, rfl, he, hel, rfl⟩
theorem all_spec (ρ : Hp) (rb db : Nat) (R : RgS) (w : RW) (h : RIn ρ R w) :
  Spec Try.prog 29 [.pointer (some ⟨rb, 0, none⟩)] ρ (ZT rb db R w) (fun v ρ' L' => ρ.le ρ' ∧ ∃ (els' : List BSl) (sp' : List Value), OwnS v els'.length (els'.map slv) sp' 1 ∧ (∀ e ∈ els', BIn ρ' e) ∧ els'.map BSl.l = R.ents ∧ L' = ZT rb db R w ++ [ZO v (els'.map slv) sp' 30]) := by
 have hlen := h.len
 have hfit := h.ok.fit
 have hsz := h.ok.size
 have hus := h.ok.used
 have hul := Xi R.ents
 have hall := fun {j : Nat} (hj : j < w.els.length) => h.at hj
 rcases h.own.out with ⟨hev, h0, h1, h2⟩ | ⟨bx, cap, hev, g1, g2, g3⟩
 ·have he : R.ents = [] := List.eq_nil_of_length_eq_zero (by omega)
  obtain ⟨wna, wnn, wnc, wev, els, sp⟩ := w
  dsimp only at hev h0 h1 h2 ⊢
  subst hev
  subst h2
  have hels : els = [] := List.eq_nil_of_length_eq_zero h0
  subst hels
  refine Zd Try.func29 rfl rfl rfl fun u R0 => ?_
  simp only [Zw, List.cons_append, List.nil_append]
  repeat' (first | (refine Zf ?_; first | (refine Ze ?_; refine qQ ?_) | refine Zk ?_) | refine Za ?_ | (refine Zg ?_; refine Zu ?_) | (refine Zh ?_; refine Zv ?_) | intro _)
  refine ZP [(2, _), (11, _), (12, _)] (fun (ζ : (Nat)) => [(13, .int .i64 ζ), (3, .slice none 0 0)]) (fun (ζ : (Nat)) => ρ) (fun (ζ : (Nat)) => []) (fun (ζ : (Nat)) => ζ = 0) (fun (ζ : (Nat)) => 0) (0) (rfl) Zx Zx rfl tk ?_
  rintro j hI
  try simp only [List.cons_append, List.nil_append, List.append_assoc, List.append_eq] at hI ⊢
  try dsimp only at hI ⊢
  subst hI
  repeat' (first | (refine Zf ?_; first | (refine Ze ?_; refine qQ ?_) | refine Zk ?_) | refine Za ?_ | (refine Zg ?_; refine Zu ?_) | (refine Zh ?_; refine Zv ?_) | intro _)
  exact qE (L' := ZT rb db R ⟨wna, wnn, wnc, .slice none 0 0, [], []⟩ ++ [[]]) ⟨Hp.le_refl _, [], [], OwnS.nil 1, fun x hx => (by cases hx), he.symm, rfl⟩
 ·obtain ⟨wna, wnn, wnc, wev, els, sp⟩ := w
  dsimp only at hev g1 g2 g3 hlen hall ⊢
  subst hev
  simp only [ZT, ZO]
  refine Zd Try.func29 rfl rfl rfl fun u R0 => ?_
  simp only [Zw, List.cons_append, List.nil_append]
  repeat' (first | (refine Zf ?_; first | (refine Ze ?_; refine qQ ?_) | refine Zk ?_) | refine Za ?_ | (refine Zg ?_; refine Zu ?_) | (refine Zh ?_; refine Zv ?_) | intro _)
  refine ZP [(2, _), (11, _), (12, _)] (fun (ζ : (Nat) × (Hp) × (Value) × (List BSl) × (List Value)) => [(13, .int .i64 ζ.1), (3, ζ.2.2.1)]) (fun (ζ : (Nat) × (Hp) × (Value) × (List BSl) × (List Value)) => ζ.2.1) (fun (ζ : (Nat) × (Hp) × (Value) × (List BSl) × (List Value)) => [[(bx, .cells ⟨els.map slv ++ sp⟩ 30 (0, 0))], ZO ζ.2.2.1 (ζ.2.2.2.1.map slv) ζ.2.2.2.2 30]) (fun (ζ : (Nat) × (Hp) × (Value) × (List BSl) × (List Value)) => ζ.1 ≤ els.length ∧ ρ.le ζ.2.1 ∧ OwnS ζ.2.2.1 ζ.2.2.2.1.length (ζ.2.2.2.1.map slv) ζ.2.2.2.2 1 ∧ (∀ e ∈ ζ.2.2.2.1, BIn ζ.2.1 e) ∧ ζ.2.2.2.1.map BSl.l = R.ents.take ζ.1) (fun (ζ : (Nat) × (Hp) × (Value) × (List BSl) × (List Value)) => els.length - ζ.1) ((0, ρ, .slice none 0 0, [], [])) (⟨Nat.zero_le _, Hp.le_refl _, OwnS.nil 1, by simp, rfl⟩) Zx Zx rfl tk ?_
  rintro ⟨j, ρ1, v, els2, sp2⟩ hI
  try simp only [List.cons_append, List.nil_append, List.append_assoc, List.append_eq] at hI ⊢
  try dsimp only at hI ⊢
  obtain ⟨hj, hle1, hown, hbin, hl⟩ := hI
  by_cases hlt : j < els.length
  ·obtain ⟨q1, q2, q3⟩ := hall hlt
   have hget : (els.map slv ++ sp)[0 + j * 1]? = some (slv els[j]) := by
    rw [Nat.zero_add, Nat.mul_one, List.getElem?_append_left (by simp; omega)]; simp [hlt]
   have hl2 : els2.length = j := by have := congrArg List.length hl; simp at this; omega
   repeat' (first | (refine Zb (.func 45) ?_; refine qC rfl rfl (Xb _ [] (els[j]).a (els[j]).n (els[j]).c (els[j]).l (q2.mono hle1).s.rd (by omega)) ?_; rintro v7 ρ7 L7 hle7 ⟨hl7, e, rfl, he, hel, hen, rfl⟩; try simp only [List.cons_append, List.nil_append]) | (refine Zq rfl rfl rfl rfl (by simp) rfl rfl (fun _ => ?_)) | (refine Xv (ys := [slv e]) (m := 1) (sz := 1) rfl rfl hown (hR := by infer_instance) SrcV.lit rfl rfl (by decide) rfl (by omega) (by omega) rfl (fun v2 sp3 hown2 => ?_); rw [show els2.map slv ++ [slv e] = (els2 ++ [e]).map slv by simp] at hown2 ⊢) | (refine Zf ?_; first | (refine Ze ?_; refine qQ ?_) | refine Zk ?_) | refine Za ?_ | (refine Zg ?_; refine Zu ?_) | (refine Zh ?_; refine Zv ?_) | intro _)
   rw [show els2.length + 1 = (els2 ++ [e]).length by simp] at hown2
   refine ZI (j + 1, ρ7, v2, els2 ++ [e], sp3) (⟨hlt, Hp.le_trans hle1 hl7, hown2, fun x hx => (by rcases List.mem_append.1 hx with hx | hx <;> first | exact (hbin x hx).mono hl7 | (rw [List.mem_singleton.1 hx]; exact he)), by dsimp only; rw [List.map_append, hl, List.take_succ_eq_append_getElem (by omega), ← q1, ← hel]; rfl⟩) Zx Zx rfl tk inferInstance (by first | omega | (dsimp only; omega))
  ·have hk : j = els.length := by omega
   rw [hk, hlen, List.take_of_length_le (Nat.le_refl _)] at hl
   repeat' (first | (refine Zf ?_; first | (refine Ze ?_; refine qQ ?_) | refine Zk ?_) | refine Za ?_ | (refine Zg ?_; refine Zu ?_) | (refine Zh ?_; refine Zv ?_) | intro _)
   exact qE (L' := ZT rb db R ⟨wna, wnn, wnc, .slice (some ⟨bx, 0, none⟩) els.length cap, els, sp⟩ ++ [ZO v (els2.map slv) sp2 30]) ⟨hle1, els2, sp2, hown, hbin, hl, rfl⟩
structure Good (R : RgS) (D : DS) : Prop where
 ro : RO R D
 frs : Frs R D
 calm : D.Calm
theorem calm_pair {r : DS × Int} (h : r.2 = 0) : r = (r.1, 0) := Prod.ext rfl h
theorem Good.append {R : RgS} {D : DS} {b : Bs} (h : Good R D) (hb : b.length ≤ 8000) (hn : R.next < 1099511627776) (hfit : Zt b.length ≤ R.h.size - R.used) : ∃ D', R.append b D = (R.plus b, D', 0) ∧ Good (R.plus b) D' := by
 have hsz := h.ro.ok.size
 have hlen := h.ro.len
 have hidx : ∀ p ∈ ZZ R.h R.next b (R.h.place + R.used), p.1 < D.secs.length := fun p hp => by
  obtain ⟨k, hk, rfl⟩ := partsL_mem.1 hp
  have := Nat.mod_lt (R.h.place + R.used + k) (show 0 < R.h.size by omega)
  dsimp only; omega
 obtain ⟨l0, l1, l2⟩ := Calm_lays (ZZ R.h R.next b (R.h.place + R.used)) D h.calm hidx
 have ha := (h.ro.append h.frs hb hfit hn).1 l0
 refine ⟨(DS.lays (ZZ R.h R.next b (R.h.place + R.used)) D).1, ?_, ha.1, ha.2, l1⟩
 unfold RgS.append
 rw [h.ro.live, if_neg (by simp), if_neg (by omega), if_neg (by omega), if_pos l0, calm_pair l0]
 rfl
theorem Good.full {R : RgS} {D : DS} {b : Bs} (h : Good R D) (hb : b.length ≤ 8000) (hfit : ¬ Zt b.length ≤ R.h.size - R.used) : R.append b D = (R, D, 6) := by
 unfold RgS.append
 rw [h.ro.live, if_neg (by simp), if_neg (by omega), if_pos (by omega)]
theorem Good.cut {R : RgS} {D : DS} {n : Nat} {note : Bs} (h : Good R D) (hn : n ≤ R.ents.length) (ht : R.h.turn < 1073741824) (hnote : note.length ≤ 32) (hnum : R.next < 1099511627776) : ∃ D', R.cut n note D = (R.minus n note, D', 0) ∧ Good (R.minus n note) D' := by
 have hsz := h.ro.ok.size
 have hlen := h.ro.len
 have hidx : ∀ p ∈ ZQ (R.cutH n note), p.1 < D.secs.length := fun p hp => by rw [(YA hp).1]; omega
 obtain ⟨l0, l1, l2⟩ := Calm_lays (ZQ (R.cutH n note)) D h.calm hidx
 have ha := (h.ro.cut hn ht hnote hnum).1 l0
 refine ⟨(DS.lays (ZQ (R.cutH n note)) D).1, ?_, ha.1, ha.2, l1⟩
 unfold RgS.cut
 rw [h.ro.live, if_neg (by simp), if_neg (by omega), if_neg (by omega)]
 simp only [Int.toNat_natCast]
 rw [if_pos l0, calm_pair l0]
 rfl
theorem z8_take (n m : Nat) : YJ ((z8 n).take m) = 0 := by
 have : ∀ k, YJ (z8 k) = 0 := fun k => by
  induction k with
  | zero => rfl
  | succ k ih => simp only [z8, List.replicate_succ] at ih ⊢; rw [unbe_cons, ih]; simp
 simp only [z8, List.take_replicate]
 exact this _
theorem zblk_z : Yv = z8 64 := rfl
theorem turn_zblk : ZW Yv = 0 := by unfold ZW; rw [zblk_z, z8_take]
theorem num_zblk : numOf Yv = 0 := by
 unfold numOf; rw [zblk_z]; simp only [z8, List.drop_replicate]; exact z8_take _ _
theorem read_zblk : (Yr Yv).2 = false := by
 have h : ¬ (Xu Yv).Right (Yv.getD 21 0).toNat := fun h => by
  have h1 := h.1
  have : (Xu Yv).turn = 0 := by
   simp only [Xu, zblk_z, z8, List.drop_replicate]; exact z8_take _ _
  omega
 unfold Yr
 rw [if_neg h]
theorem Good.format {D : DS} {n : Nat} (hok : D.Ok) (hc : D.Calm) (h0 : 4 ≤ n) (h1 : n ≤ 1000) (hl : D.secs.length = n + 2) (he : XA D.secs) : ∃ D', Yj n D = (some ⟨ZK n, [], 0, false⟩, D', 0) ∧ Good ⟨ZK n, [], 0, false⟩ D' := by
 have hidx : ∀ p ∈ ZG n, p.1 < D.secs.length := fun p hp => by
  simp only [ZG, List.mem_map, List.mem_range] at hp
  obtain ⟨k, hk, rfl⟩ := hp
  dsimp only; omega
 obtain ⟨l0, l1, l2⟩ := Calm_lays (ZG n) D hc hidx
 have hok1 := hok.lays (l := ZG n) noughtsL_64
 have hlen1 := lays_length (ZG n) D
 have hemp1 : XA (DS.lays (ZG n) D).1.secs := by rw [l2]; exact YD
 have hidx2 : ∀ p ∈ ZQ (ZK n), p.1 < (DS.lays (ZG n) D).1.secs.length := fun p hp => by
  rw [(YA hp).1, hlen1, hl]; simp only [ZK]; omega
 obtain ⟨m0, m1, m2⟩ := Calm_lays (ZQ (ZK n)) (DS.lays (ZG n) D).1 l1 hidx2
 have hok2 := hok1.lays (l := ZQ (ZK n)) (fun p hp => by rw [(YA hp).2]; exact Xq _)
 have hlen2 := lays_length (ZQ (ZK n)) (DS.lays (ZG n) D).1
 have himg1 : ∀ i, i < n + 2 → img (DS.lays (ZG n) D).1 i = Yv := fun i hi => by
  rcases img_all he l2 D rfl (i := i) (by omega) with ⟨_, hno⟩ | ⟨p, hp, h1, h2⟩
  ·exact absurd rfl (hno (i, Yv) (by simp only [ZG, List.mem_map, List.mem_range]; exact ⟨i, hi, rfl⟩))
  ·simp only [ZG, List.mem_map, List.mem_range] at hp
   obtain ⟨k, hk, rfl⟩ := hp
   exact h2
 have himg2 : img (DS.lays (ZQ (ZK n)) (DS.lays (ZG n) D).1).1 1 = Yk (ZK n) := by
  rcases img_all hemp1 m2 (DS.lays (ZG n) D).1 rfl (i := 1) (by omega) with ⟨_, hno⟩ | ⟨p, hp, _, h2⟩
  ·exact absurd rfl (hno (1, Yk (ZK n)) (List.mem_singleton.2 rfl))
  ·rw [h2, (YA hp).2]
 have himg3 : ∀ i, i < n + 2 → i ≠ 1 → img (DS.lays (ZQ (ZK n)) (DS.lays (ZG n) D).1).1 i = Yv := fun i hi hne => by
  rcases XE hemp1 m2 (DS.lays (ZG n) D).1 rfl i with e | ⟨p, hp, h1, _⟩
  ·rw [e]; exact himg1 i hi
  ·exact absurd (by rw [← h1, (YA hp).1]; rfl) hne
 refine ⟨(DS.lays (ZQ (ZK n)) (DS.lays (ZG n) D).1).1, ?_, ⟨fresh_rok h0 h1, rfl, by simp [ZK], hok2, m1.dead, by rw [m2]; exact YD, ?_, ?_, ?_, trivial, ?_, ?_⟩, ?_, m1⟩
 ·unfold Yj
  rw [if_neg (by omega)]
  simp only [Int.toNat_natCast]
  rw [if_pos l0, if_pos m0, calm_pair m0]
 ·show n + 2 ≤ _
  omega
 ·exact himg2
 ·rw [show (({ h := ZK n, ents := [], used := 0, broken := false } : RgS).h.turn + 1) % 2 = 0 from (by simp [ZK]), himg3 0 (by omega) (by omega), read_zblk]
  intro h; cases h
 ·intro _ t b ht ht2 _ _
  refine ⟨0, YI _, fun hx => ?_⟩
  have := congrArg ZW hx
  rw [himg3 _ (by have := Nat.mod_lt ((ZK n).place + 0 + 0) (show 0 < (ZK n).size by simp only [ZK]; omega); simp only [ZK] at this ⊢; omega) (by omega), turn_zblk, partB_turn (by omega)] at this
  omega
 ·intro q hq
  have hq2 : q < n := hq
  rw [himg3 _ (by omega) (by omega), turn_zblk, num_zblk]
  exact ⟨Nat.zero_le _, Nat.zero_le _⟩
 ·intro q hq hc
  have hq2 : q < n := hq
  rw [himg3 _ (by omega) (by omega), turn_zblk] at hc
  exact absurd hc.1 (by simp [ZK])
theorem new_good {n : Nat} (h0 : 4 ≤ n) (h1 : n ≤ 1000) : ∃ D', Yj n (DS.new (n + 2)) = (some ⟨ZK n, [], 0, false⟩, D', 0) ∧ Good ⟨ZK n, [], 0, false⟩ D' :=
 Good.format (new_okD (by omega) (by omega)) new_calm h0 h1 (by simp [DS.new, fresh]) fresh_empty
theorem kformat (ρ : Hp) (n : Nat) (hn0 : 4 ≤ n) (hn1 : n ≤ 1000) (db : Nat) (k : DK) (hk : DOk k (DS.new (n + 2))) :
  Spec Try.prog 10 [.pointer (some ⟨db, 0, none⟩), .int .i64 n] ρ (Zi db k (DS.new (n + 2))) (fun v ρ' L' => ρ.le ρ' ∧ ∃ rb w k' D', v = .tuple ⟨[.pointer (some ⟨rb, 0, none⟩), .int .i64 0]⟩ ∧ DOk k' D' ∧ RIn ρ' ⟨ZK n, [], 0, false⟩ w ∧ Good ⟨ZK n, [], 0, false⟩ D' ∧ L' = ZT rb db ⟨ZK n, [], 0, false⟩ w ++ Zi db k' D') := by
 obtain ⟨D', e, g⟩ := new_good hn0 hn1
 refine (format_spec ρ db k (DS.new (n + 2)) hk n (by omega)).mono ?_
 rintro v ρ' L' _ ⟨hle, h⟩
 unfold ringAns at h
 rw [e] at h
 obtain ⟨k', hk', rb, w, hv, hin, hL⟩ := h
 exact ⟨hle, rb, w, k', D', hv, hk', hin, g, hL⟩
theorem knew (ρ : Hp) (n : Nat) (h0 : 0 < n) (h1 : n ≤ 2048) : Spec Try.prog 5 [.int .i64 n] ρ [] (fun v ρ' L' => ρ' = ρ ∧ ∃ b k, v = .tuple ⟨[.pointer (some ⟨b, 0, none⟩), .int .i64 0]⟩ ∧ DOk k (DS.new n) ∧ L' = Zi b k (DS.new n)) :=
 (new_spec ρ n h0 h1).mono (fun v ρ' L' _ ⟨h1', b, hb, mb, ck, h2, h3⟩ => ⟨h1', b, ⟨hb, mb, [], ck⟩, h2, ⟨new_okD h0 h1, MapOk.empty fresh_empty⟩, h3⟩)
theorem gappend (ρ : Hp) (rb db : Nat) (R : RgS) (w : RW) (h : RIn ρ R w) (k : DK) (D : DS) (hD : DOk k D) (g : Good R D) (X : SH) (a : Option Addr) (n c : Nat) (b : Bs) (hb : Rd ρ X a n b) (hc : n ≤ c) (hn : n ≤ 8000) (hfit : Zt n ≤ R.h.size - R.used) (hnx : R.next < 1099511627776) :
  Spec Try.prog 11 [.pointer (some ⟨rb, 0, none⟩), .slice a n c] ρ (ZT rb db R w ++ (Zi db k D ++ X))
   (fun v ρ' L' => v = .int .i64 0 ∧ ρ.le ρ' ∧ ∃ k' D' w', DOk k' D' ∧ RIn ρ' (R.plus b) w' ∧ Good (R.plus b) D' ∧ L' = ZT rb db (R.plus b) w' ++ (Zi db k' D' ++ X)) := by
 have hl := hb.len
 obtain ⟨D', e, g'⟩ := g.append (b := b) (by omega) hnx (by rw [hl]; exact hfit)
 refine (append_spec ρ rb db R w h k D hD X a n c b hb hc (by omega)).mono ?_
 rintro v ρ' L' _ ⟨hv, hle, k', w', h1, h2, h3⟩
 rw [e] at hv h1 h2 h3
 exact ⟨hv, hle, k', D', w', h1, h2, g', h3⟩
theorem gfull (ρ : Hp) (rb db : Nat) (R : RgS) (w : RW) (h : RIn ρ R w) (k : DK) (D : DS) (hD : DOk k D) (g : Good R D) (X : SH) (a : Option Addr) (n c : Nat) (b : Bs) (hb : Rd ρ X a n b) (hc : n ≤ c) (hn : n ≤ 8000) (hfit : ¬ Zt n ≤ R.h.size - R.used) :
  Spec Try.prog 11 [.pointer (some ⟨rb, 0, none⟩), .slice a n c] ρ (ZT rb db R w ++ (Zi db k D ++ X))
   (fun v ρ' L' => v = .int .i64 6 ∧ ρ.le ρ' ∧ ∃ k' w', DOk k' D ∧ RIn ρ' R w' ∧ L' = ZT rb db R w' ++ (Zi db k' D ++ X)) := by
 have hl := hb.len
 have e := g.full (b := b) (by omega) (by rw [hl]; exact hfit)
 refine (append_spec ρ rb db R w h k D hD X a n c b hb hc (by omega)).mono ?_
 rintro v ρ' L' _ ⟨hv, hle, k', w', h1, h2, h3⟩
 rw [e] at hv h1 h2 h3
 exact ⟨hv, hle, k', w', h1, h2, h3⟩
theorem gcut (ρ : Hp) (rb db : Nat) (R : RgS) (w : RW) (h : RIn ρ R w) (k : DK) (D : DS) (hD : DOk k D) (g : Good R D) (X : SH) (a : Option Addr) (nn c : Nat) (note : Bs) (hb : Rd ρ X a nn note) (m : Nat) (hm : m ≤ R.ents.length) (ht : R.h.turn < 1073741824) (hnl : nn ≤ 32) (hnx : R.next < 1099511627776) :
  Spec Try.prog 13 [.pointer (some ⟨rb, 0, none⟩), .int .i64 m, .slice a nn c] ρ (ZT rb db R w ++ (Zi db k D ++ X))
   (fun v ρ' L' => v = .int .i64 0 ∧ ρ.le ρ' ∧ ∃ k' D' w', DOk k' D' ∧ RIn ρ' (R.minus m note) w' ∧ Good (R.minus m note) D' ∧ L' = ZT rb db (R.minus m note) w' ++ (Zi db k' D' ++ X)) := by
 have hl := hb.len
 obtain ⟨D', e, g'⟩ := g.cut (note := note) hm ht (by omega) hnx
 refine (cut_spec_main ρ rb db R w h k D hD X a nn c note hb m g.ro.live hm ht (by omega)).mono ?_
 rintro v ρ' L' _ ⟨hv, hle, k', w', h1, h2, h3⟩
 rw [e] at hv h1 h2 h3
 exact ⟨hv, hle, k', D', w', h1, h2, g', h3⟩
theorem sIn_z {ρ : Hp} {b n : Nat} {T : TypeId} {fr : Nat × Nat} (h : ρ b = some (.cells ⟨(z8 n).map ZE⟩ T fr)) : SIn ρ ZE (some ⟨b, 0, none⟩) n (z8 n) := ⟨by simp [z8], .inr ⟨b, 0, _, _, _, rfl, h, by simp [z8]⟩⟩
theorem sIn_l {ρ : Hp} {b : Nat} {l : Bs} {T : TypeId} {fr : Nat × Nat} (h : ρ b = some (.cells ⟨l.map ZE⟩ T fr)) : SIn ρ ZE (some ⟨b, 0, none⟩) l.length l := ⟨rfl, .inr ⟨b, 0, _, _, _, rfl, h, by rw [List.drop_zero, List.take_of_length_le (by simp)]⟩⟩
abbrev wR0 : RgS := ⟨ZK 6, [], 0, false⟩
abbrev wR1 : RgS := wR0.plus (z8 100)
abbrev wR2 : RgS := wR1.plus (z8 3)
abbrev wR3 : RgS := wR2.minus 1 [7]
theorem wk_l2 : ((wR2.h.size - wR2.used : Nat) : Int) = 3 := by decide
theorem wk_l3 : ((wR3.h.size - wR3.used : Nat) : Int) = 5 := by decide
theorem wk_f3 : ((wR3.h.first : Nat) : Int) = 2 := by decide
theorem wakes4_spec (ρ : Hp) : Spec Try.prog 4 [] ρ [] (fun v ρ' L' => v = .bool true ∧ ρ.le ρ' ∧ L' = []) := by
 refine Zd Try.func4 rfl rfl rfl fun u R => ?_
 simp only [Zw, List.cons_append, List.nil_append]
 repeat' (first | (refine Zb (.func 5) ?_; refine qC rfl rfl (knew _ 8 (by omega) (by omega)) ?_; rintro v ρ' L' hle ⟨rfl, db, k0, rfl, hk0, rfl⟩ <;> (try simp only [kM, kN, kO])) | (refine Zb (.func 10) ?_; refine qC rfl rfl (kformat _ 6 (by omega) (by omega) db k0 hk0) ?_; rintro v1 ρ1 L1 hle1 ⟨hl1, rb, w1, k1, D1, rfl, hk1, hr1, g1, rfl⟩; try simp only [List.cons_append, List.nil_append, List.append_assoc]) | (refine Xc rfl rfl (by omega) (by omega) (by omega) (by omega) rfl (fun hbn1 => ?_); simp only [Nat.mul_one, made_z8]; refine Yd [(hbn1, .cells ⟨(z8 100).map ZE⟩ 5 (0, 0))] (h := Rem.here) (fun ρm1 hlm1 hfz1 => ?_); have hs1 := sIn_z (hfz1 _ (List.mem_singleton.2 rfl))) | (refine Zf ?_; first | (refine Ze ?_; refine qQ ?_) | refine Zk ?_) | refine Za ?_ | (refine Zg ?_; refine Zu ?_) | (refine Zh ?_; refine Zv ?_) | intro _)
 repeat' (first | (refine Zb (.func 11) ?_; refine qC rfl rfl (gappend _ rb db wR0 w1 (hr1.mono hlm1) k1 D1 hk1 g1 [] _ 100 _ (z8 100) hs1.rd (by omega) (by omega) (by decide) (by decide)) ?_; rintro v2 ρ2 L2 hle2 ⟨rfl, hl2, k2, D2, w2, hk2, hr2, g2, rfl⟩; try simp only [List.cons_append, List.nil_append, List.append_assoc]) | (refine Xc rfl rfl (by omega) (by omega) (by omega) (by omega) rfl (fun hbn2 => ?_); simp only [Nat.mul_one, made_z8]; refine Yd [(hbn2, .cells ⟨(z8 3).map ZE⟩ 5 (0, 0))] (h := Rem.here) (fun ρm2 hlm2 hfz2 => ?_); have hs2 := sIn_z (hfz2 _ (List.mem_singleton.2 rfl))) | (refine Zf ?_; first | (refine Ze ?_; refine qQ ?_) | refine Zk ?_) | refine Za ?_ | (refine Zg ?_; refine Zu ?_) | (refine Zh ?_; refine Zv ?_) | intro _)
 repeat' (first | (refine Zb (.func 11) ?_; refine qC rfl rfl (gappend _ rb db wR1 w2 (hr2.mono hlm2) k2 D2 hk2 g2 [] _ 3 _ (z8 3) hs2.rd (by omega) (by omega) (by decide) (by decide)) ?_; rintro v3 ρ3 L3 hle3 ⟨rfl, hl3, k3, D3, w3, hk3, hr3, g3, rfl⟩; try simp only [List.cons_append, List.nil_append, List.append_assoc]) | (refine Zb (.func 12) ?_; refine qC rfl rfl (left_spec4 _ rb db wR2 w3 hr3.ok) ?_; rintro v ρ' L' hle ⟨rfl, rfl, rfl⟩ <;> (try simp only [kM, kN, kO, wk_l2])) | (refine Xc rfl rfl (by omega) (by omega) (by omega) (by omega) rfl (fun hbn3 => ?_); simp only [Nat.mul_one, made_z8]; refine Yd [(hbn3, .cells ⟨(z8 160).map ZE⟩ 5 (0, 0))] (h := Rem.here) (fun ρm3 hlm3 hfz3 => ?_); have hs3 := sIn_z (hfz3 _ (List.mem_singleton.2 rfl))) | (refine Zf ?_; first | (refine Ze ?_; refine qQ ?_) | refine Zk ?_) | refine Za ?_ | (refine Zg ?_; refine Zu ?_) | (refine Zh ?_; refine Zv ?_) | intro _)
 repeat' (first | (refine Zb (.func 11) ?_; refine qC rfl rfl (gfull _ rb db wR2 w3 (hr3.mono hlm3) k3 D3 hk3 g3 [] _ 160 _ (z8 160) hs3.rd (by omega) (by omega) (by decide)) ?_; rintro v4 ρ4 L4 hle4 ⟨rfl, hl4, k4, w4, hk4, hr4, rfl⟩; try simp only [List.cons_append, List.nil_append, List.append_assoc]) | (refine Zq rfl rfl rfl rfl (by simp) rfl rfl (fun hb7 => ?_); refine Yd [(hb7, .cells ⟨[(7 : UInt8)].map ZE⟩ 5 (0, 0))] (h := Rem.here) (fun ρm4 hlm4 hfz4 => ?_); have hs4 := sIn_l (hfz4 _ (List.mem_singleton.2 rfl))) | (refine Zf ?_; first | (refine Ze ?_; refine qQ ?_) | refine Zk ?_) | refine Za ?_ | (refine Zg ?_; refine Zu ?_) | (refine Zh ?_; refine Zv ?_) | intro _)
 repeat' (first | (refine Zb (.func 13) ?_; refine qC rfl rfl (gcut _ rb db wR2 w4 (hr4.mono hlm4) k4 D3 hk4 g3 [] _ 1 _ [7] hs4.rd 1 (by decide) (by decide) (by omega) (by decide)) ?_; rintro v5 ρ5 L5 hle5 ⟨rfl, hl5, k5, D5, w5, hk5, hr5, g5, rfl⟩; try simp only [List.cons_append, List.nil_append, List.append_assoc]) | (refine Zb (.func 14) ?_; refine qC rfl rfl (first_spec _ rb db wR3 w5) ?_; rintro v ρ' L' hle ⟨rfl, rfl, rfl⟩ <;> (try simp only [kM, kN, kO, wk_f3])) | (refine Zb (.func 12) ?_; refine qC rfl rfl (left_spec4 _ rb db wR3 w5 hr5.ok) ?_; rintro v ρ' L' hle ⟨rfl, rfl, rfl⟩ <;> (try simp only [kM, kN, kO, wk_l3])) | (refine Xc rfl rfl (by omega) (by omega) (by omega) (by omega) rfl (fun hbn5 => ?_); simp only [Nat.mul_one, made_z8]; refine Yd [(hbn5, .cells ⟨(z8 160).map ZE⟩ 5 (0, 0))] (h := Rem.here) (fun ρm5 hlm5 hfz5 => ?_); have hs5 := sIn_z (hfz5 _ (List.mem_singleton.2 rfl))) | (refine Zf ?_; first | (refine Ze ?_; refine qQ ?_) | refine Zk ?_) | refine Za ?_ | (refine Zg ?_; refine Zu ?_) | (refine Zh ?_; refine Zv ?_) | intro _)
 repeat' (first | (refine Zb (.func 11) ?_; refine qC rfl rfl (gappend _ rb db wR3 w5 (hr5.mono (by assumption)) k5 D5 hk5 g5 [] _ 160 _ (z8 160) hs5.rd (by omega) (by omega) (by decide) (by decide)) ?_; rintro v6 ρ6 L6 hle6 ⟨rfl, hl6, k6, D6, w6, hk6, hr6, g6, rfl⟩; try simp only [List.cons_append, List.nil_append, List.append_assoc]) | (refine Zf ?_; first | (refine Ze ?_; refine qQ ?_) | refine Zk ?_) | refine Za ?_ | (refine Zg ?_; refine Zu ?_) | (refine Zh ?_; refine Zv ?_) | intro _)
 have hfin := Hp.le_trans hl1 (Hp.le_trans hlm1 (Hp.le_trans hl2 (Hp.le_trans hlm2 (Hp.le_trans hl3 (Hp.le_trans hlm3 (Hp.le_trans hl4 (Hp.le_trans hlm4 (Hp.le_trans hl5 (Hp.le_trans hlm5 (hl6))))))))))
 exact qE (L' := []) ⟨rfl, hfin, rfl⟩
end Go.Proofs.E
namespace Go.Proofs.E
open Go Go.RowKit
set_option linter.unusedVariables false
set_option linter.unusedSimpArgs false
set_option linter.unusedSectionVars false
set_option maxRecDepth 8000
theorem rs_flatK {α : Type} {sz : Nat} {g : α → List Value} {C : List Value} {off : Nat} : ∀ (l : List α) (k : Nat), k ≤ l.length → (∀ i (h : i < l.length), (C.drop (off + i * sz)).take sz = g l[i]) → (C.drop off).take (k * sz) = ((l.take k).map g).flatten
 | l, 0, _, _ => by simp
 | l, k + 1, hk, h => by
  have ih := rs_flatK l k (by omega) h
  rw [show l.take (k + 1) = l.take k ++ [l[k]'(by omega)] from List.take_succ_eq_append_getElem (by omega), Nat.add_mul, Nat.one_mul, List.take_add, ih, List.drop_drop, h k (by omega)]
  simp only [List.map_append, List.flatten_append, List.map_cons, List.map_nil, List.flatten_cons, List.flatten_nil, List.append_nil]
theorem aIn_ofK {ρ : Hp} {α : Type} {sz : Nat} {g : α → List Value} {P : α → Prop} {cs : List Value} {s : Option Addr × Nat × Nat × List α} (hg : ∀ x, (g x).length = sz) (h : RS ρ sz (fun cs x => cs = g x ∧ P x) cs s) : AIn ρ sz g s.1 s.2.1 s.2.2.2 ∧ (∀ x ∈ s.2.2.2, P x) ∧ s.2.1 ≤ s.2.2.1 ∧ s.2.1 ≤ 9223372036854775807 := by
 obtain ⟨a, n, c, ks⟩ := s
 obtain ⟨h1, h2, h3, h4, h5⟩ := h
 dsimp only at h1 h2 h3 h4 h5 ⊢
 refine ⟨⟨h4, ?_, fun x _ => hg x⟩, fun x hx => ?_, h2, by omega⟩
 ·by_cases h0 : n = 0
  ·exact .inl h0
  ·right
   obtain ⟨b, off, C, T, fr, e1, e2, e3, e4⟩ := h5 0 (by omega)
   have same : ∀ i (h : i < ks.length), off + i * sz + sz ≤ C.length ∧ (C.drop (off + i * sz)).take sz = g ks[i] := fun i hi => by
    obtain ⟨b', off', C', T', fr', f1, f2, f3, f4⟩ := h5 i hi
    rw [e1] at f1
    cases f1
    rw [e2] at f2
    cases f2
    exact ⟨f3, f4.1⟩
   refine ⟨b, off, C, T, fr, e1, e2, ?_, ?_⟩
   ·have := (same (n - 1) (by omega)).1
    have e : n * sz = (n - 1) * sz + sz := by
     obtain ⟨m, rfl⟩ : ∃ m, n = m + 1 := ⟨n - 1, by omega⟩
     rw [Nat.add_mul]; simp
    omega
   ·have := rs_flatK (sz := sz) (g := g) ks n (by omega) (fun i hi => (same i hi).2)
    rw [this, List.take_of_length_le (by omega)]
 ·obtain ⟨i, hi, rfl⟩ := List.mem_iff_getElem.1 hx
  obtain ⟨_, _, _, _, _, _, _, _, f⟩ := h5 i hi
  exact f.2
theorem opn_u8K {H : Type} {enc : TypeId × Value → H} {w : World} : Opn enc Try.prog w 5 (fun cs (b : UInt8) => cs = [ZE b]) := fun fuel cs x h => by
 obtain ⟨n, rfl, h1, h2⟩ := opn_int Try.underlying5 fuel cs x h
 simp only [lo, hi] at h1 h2
 refine ⟨UInt8.ofNat n.toNat, ?_⟩
 have : ((UInt8.ofNat n.toNat).toNat : Int) = n := by simp [UInt8.toNat_ofNat]; omega
 simp only [ZE, this]
theorem opn_bytesK {H : Type} {enc : TypeId × Value → H} {w : World} : Opn enc Try.prog w 30 (RS (hpOf w) 1 (fun cs (b : UInt8) => cs = [ZE b])) :=
 opn_slice Try.underlying30 (by kernel_rfl) (by decide) opn_u8K
theorem sIn_ofK {ρ : Hp} {cs : List Value} {s : Option Addr × Nat × Nat × List UInt8} (h : RS ρ 1 (fun cs (b : UInt8) => cs = [ZE b]) cs s) : SIn ρ ZE s.1 s.2.1 s.2.2.2 ∧ s.2.1 ≤ s.2.2.1 ∧ s.2.1 ≤ 9223372036854775807 := by
 obtain ⟨a, n, c, ks⟩ := s
 obtain ⟨h1, h2, h3, h4, h5⟩ := h
 dsimp only at h1 h2 h3 h4 h5 ⊢
 refine ⟨⟨h4, ?_⟩, h2, by omega⟩
 by_cases h0 : n = 0
 ·exact .inl h0
 ·right
  obtain ⟨b, off, C, T, fr, e1, e2, e3, e4⟩ := h5 0 (by omega)
  have same : ∀ i (h : i < ks.length), off + i * 1 + 1 ≤ C.length ∧ (C.drop (off + i * 1)).take 1 = [ZE ks[i]] := fun i hi => by
   obtain ⟨b', off', C', T', fr', f1, f2, f3, f4⟩ := h5 i hi
   rw [e1] at f1
   cases f1
   rw [e2] at f2
   cases f2
   exact ⟨f3, f4⟩
  refine ⟨b, off, C, T, fr, e1, e2, ?_⟩
  apply List.ext_getElem
  ·have := (same (n - 1) (by omega)).1
   simp; omega
  ·intro i h1 h2
   have hi : i < ks.length := by simpa using h2
   have h3 := (same i hi).2
   have h4 := congrArg (fun l : List Value => l[0]?) h3
   simp only [List.getElem?_cons_zero] at h4
   rw [List.getElem?_take_of_lt (by omega), List.getElem?_drop] at h4
   have h5 : C[off + i]? = some (ZE ks[i]) := by simpa using h4
   simp only [List.getElem_take, List.getElem_drop, List.getElem_map]
   exact (List.getElem?_eq_some_iff.1 h5).2
theorem Opn.mono {H : Type} {enc : TypeId × Value → H} {P : Program} {w : World} {t : TypeId} {α β : Type} {R : List Value → α → Prop} {R' : List Value → β → Prop} (h : Opn enc P w t R) (k : ∀ cs a, R cs a → ∃ b, R' cs b) : Opn enc P w t R' := fun fuel cs x hx => by
 obtain ⟨a, ha⟩ := h fuel cs x hx
 exact k cs a ha
theorem sIn_of1 {ρ : Hp} {α : Type} {g : α → Value} {a : Option Addr} {n : Nat} {l : List α} (h : AIn ρ 1 (fun x => [g x]) a n l) : SIn ρ g a n l := by
 refine ⟨h.len, ?_⟩
 rcases h.out with h0 | ⟨b, off, C, T, fr, h1, h2, h3, h4⟩
 ·exact .inl h0
 ·right
  refine ⟨b, off, C, T, fr, h1, h2, ?_⟩
  rw [Nat.mul_one] at h4
  rw [h4]
  clear h h4 h3
  induction l with
  | nil => rfl
  | cons x r ih => simp [ih]
end Go.Proofs.E
namespace Go.Proofs.E
open Go
set_option linter.unusedVariables false
set_option linter.unusedSimpArgs false
set_option linter.unusedSectionVars false
set_option maxRecDepth 4000
set_option maxHeartbeats 1000000
attribute [local irreducible] Yl TL TC TE Spec Xt R1 Hp.le EnvLe TS TR YS Zo
variable {H : Type} {enc : TypeId × Value → H} {w : World}
theorem opn_bsl : Opn enc Try.prog w 30 (fun cs (e : BSl) => cs = [slv e] ∧ (BIn (hpOf w) e ∧ e.n ≤ 9223372036854775807)) :=
 opn_bytesK.mono (fun cs s h => by
  obtain ⟨h1, h2, h3⟩ := sIn_ofK h
  exact ⟨⟨s.1, s.2.1, s.2.2.1, s.2.2.2⟩, h.cells, ⟨h1, h2⟩, h3⟩)
theorem append_nil4 (ρ : Hp) (a : Option Addr) (n c : Nat) : Spec Try.prog 11 [.pointer none, .slice a n c] ρ [] (fun v ρ' L' => v = .int .i64 1 ∧ ρ' = ρ ∧ L' = []) := by
 refine Zd Try.func11 rfl rfl rfl fun u R => ?_
 simp only [Zw, List.cons_append, List.nil_append]
 repeat' (first | (refine Zb (.func 40) ?_; refine qC rfl rfl (works_nil _) ?_; rintro v ρ' L' hle ⟨rfl, rfl, rfl⟩ <;> (try simp only [kM, kN, kO])) | (refine Zf ?_; first | (refine Ze ?_; refine qQ ?_) | refine Zk ?_) | refine Za ?_ | (refine Zg ?_; refine Zu ?_) | (refine Zh ?_; refine Zv ?_) | intro _)
 exact qE ⟨rfl, rfl, rfl⟩
theorem cut_nil4 (ρ : Hp) (m : Int) (a : Option Addr) (n c : Nat) : Spec Try.prog 13 [.pointer none, .int .i64 m, .slice a n c] ρ [] (fun v ρ' L' => v = .int .i64 1 ∧ ρ' = ρ ∧ L' = []) := by
 refine Zd Try.func13 rfl rfl rfl fun u R => ?_
 simp only [Zw, List.cons_append, List.nil_append]
 repeat' (first | (refine Zb (.func 40) ?_; refine qC rfl rfl (works_nil _) ?_; rintro v ρ' L' hle ⟨rfl, rfl, rfl⟩ <;> (try simp only [kM, kN, kO])) | (refine Zf ?_; first | (refine Ze ?_; refine qQ ?_) | refine Zk ?_) | refine Za ?_ | (refine Zg ?_; refine Zu ?_) | (refine Zh ?_; refine Zv ?_) | intro _)
 exact qE ⟨rfl, rfl, rfl⟩
theorem XG (ρ : Hp) (n : Nat) (hn : n ≤ 4611686018427387904) : Spec Try.prog 55 [.int .i64 n] ρ [] (fun v ρ' L' => v = .int .i64 (Zt n : Nat) ∧ ρ' = ρ ∧ L' = []) := by
 refine Zd Try.func55 rfl rfl rfl fun u R => ?_
 simp only [Zw, List.cons_append, List.nil_append]
 have e : max 1 (IntKind.i64.wrap (((n : Int) + 51).tdiv 52)) = ((Zt n : Nat) : Int) := by
  rw [Int.tdiv_eq_ediv_of_nonneg (by omega), Xr (by simp only [lo, hi]; omega)]
  unfold Zt; omega
 repeat' (first | (refine Zf ?_; first | (refine Ze ?_; refine qQ ?_) | refine Zk ?_) | refine Za ?_ | (refine Zg ?_; refine Zu ?_) | (refine Zh ?_; refine Zv ?_) | intro _)
 rw [e]
 exact qE ⟨rfl, rfl, rfl⟩
structure EvV where
 kind : Int
 n : Int
 b : BSl
 note : BSl
 ka : Option Addr
 kn : Nat
 kp : Nat
 ks : List Bool
abbrev evC (e : EvV) : List Value := [.int .i64 e.kind, .int .i64 e.n, slv e.b, slv e.note, .slice e.ka e.kn e.kp]
structure EvIn (ρ : Hp) (e : EvV) : Prop where
 n : -9223372036854775808 ≤ e.n ∧ e.n ≤ 9223372036854775807
 kind : -9223372036854775808 ≤ e.kind ∧ e.kind ≤ 9223372036854775807
 b : BIn ρ e.b
 bbg : e.b.n ≤ 9223372036854775807
 note : BIn ρ e.note
 nb : e.note.n ≤ 9223372036854775807
 ks : SIn ρ bb e.ka e.kn e.ks
 kc : e.kn ≤ e.kp
 kb : e.kn ≤ 9223372036854775807
theorem EvIn.mono {ρ ρ' : Hp} {e : EvV} (h : EvIn ρ e) (hle : ρ.le ρ') : EvIn ρ' e := ⟨h.n, h.kind, h.b.mono hle, h.bbg, h.note.mono hle, h.nb, h.ks.mono hle, h.kc, h.kb⟩
theorem few4_spec (ρ : Hp) (e : EvV) (h : EvIn ρ e) :
  Spec Try.prog 15 [.agg ⟨evC e⟩] ρ [] (fun v ρ' L' => ρ' = ρ ∧ ∃ a1 c1 s1 a2 c2 s2 a3 c3 s3, v = .agg ⟨[.int .i64 e.kind, .int .i64 e.n, .slice a1 (min e.b.n 400) c1, .slice a2 (min e.note.n 33) c2, .slice a3 (min e.kn 40) c3]⟩ ∧
   OwnS (.slice a1 (min e.b.n 400) c1) (min e.b.n 400) ((e.b.l.take (min e.b.n 400)).map ZE) s1 1 ∧ OwnS (.slice a2 (min e.note.n 33) c2) (min e.note.n 33) ((e.note.l.take (min e.note.n 33)).map ZE) s2 1 ∧ OwnS (.slice a3 (min e.kn 40) c3) (min e.kn 40) ((e.ks.take (min e.kn 40)).map bb) s3 1 ∧
   L' = [ZO (.slice a1 (min e.b.n 400) c1) ((e.b.l.take (min e.b.n 400)).map ZE) s1 5, ZO (.slice a2 (min e.note.n 33) c2) ((e.note.l.take (min e.note.n 33)).map ZE) s2 5, ZO (.slice a3 (min e.kn 40) c3) ((e.ks.take (min e.kn 40)).map bb) s3 4]) := by
 have hl1 := h.b.s.len
 have hl2 := h.note.s.len
 have hl3 := h.ks.len
 have hc1 := h.b.le
 have hc2 := h.note.le
 have hc3 := h.kc
 have hb1 := h.bbg
 have hb2 := h.nb
 have hb3 := h.kb
 have m1 : (min (e.b.n : Int) 400).toNat = min e.b.n 400 := by omega
 have m2 : (min (e.note.n : Int) 33).toNat = min e.note.n 33 := by omega
 have m3 : (min (e.kn : Int) 40).toNat = min e.kn 40 := by omega
 have t1 := h.b.s.take (hi' := min e.b.n 400) (Nat.min_le_left _ _)
 have t2 := h.note.s.take (hi' := min e.note.n 33) (Nat.min_le_left _ _)
 have t3 := h.ks.take (hi' := min e.kn 40) (Nat.min_le_left _ _)
 have q1 : min e.b.n 400 ≤ 400 := Nat.min_le_right _ _
 have q2 : min e.note.n 33 ≤ 33 := Nat.min_le_right _ _
 have q3 : min e.kn 40 ≤ 40 := Nat.min_le_right _ _
 have t1l := t1.len
 have t2l := t2.len
 have t3l := t3.len
 refine Zd Try.func15 rfl rfl rfl fun u R => ?_
 simp only [Zw, List.cons_append, List.nil_append]
 repeat' (first | (simp only [m1]; refine Xv (n := 0) (xs := []) (sp := []) (ys := (e.b.l.take (min e.b.n 400)).map ZE) (sz := 1) rfl rfl (OwnS.zero _ 1) (hR := YK) t1.srcV (by simpa using t1l) (ZM _) (by decide) rfl (by omega) (by omega) rfl (fun v1 sp1 hown1 => ?_); simp only [Nat.zero_add, List.nil_append] at hown1 ⊢; obtain ⟨a1, c1, rfl, _⟩ := hown1.slice) | (refine Zf ?_; first | (refine Ze ?_; refine qQ ?_) | refine Zk ?_) | refine Za ?_ | (refine Zg ?_; refine Zu ?_) | (refine Zh ?_; refine Zv ?_) | intro _)
 repeat' (first | (simp only [m2]; refine Xv (n := 0) (xs := []) (sp := []) (ys := (e.note.l.take (min e.note.n 33)).map ZE) (sz := 1) rfl rfl (OwnS.zero _ 1) (hR := YK) t2.srcV (by simpa using t2l) (ZM _) (by decide) rfl (by omega) (by omega) rfl (fun v2 sp2 hown2 => ?_); simp only [Nat.zero_add, List.nil_append] at hown2 ⊢; obtain ⟨a2, c2, rfl, _⟩ := hown2.slice) | (refine Zf ?_; first | (refine Ze ?_; refine qQ ?_) | refine Zk ?_) | refine Za ?_ | (refine Zg ?_; refine Zu ?_) | (refine Zh ?_; refine Zv ?_) | intro _)
 repeat' (first | (simp only [m3]; refine Xv (n := 0) (xs := []) (sp := []) (ys := (e.ks.take (min e.kn 40)).map bb) (sz := 1) rfl rfl (OwnS.zero _ 1) (hR := YK) t3.srcV (by simpa using t3l) (bb_one _) (by decide) rfl (by omega) (by omega) rfl (fun v3 sp3 hown3 => ?_); simp only [Nat.zero_add, List.nil_append] at hown3 ⊢; obtain ⟨a3, c3, rfl, _⟩ := hown3.slice) | (refine Zf ?_; first | (refine Ze ?_; refine qQ ?_) | refine Zk ?_) | refine Za ?_ | (refine Zg ?_; refine Zu ?_) | (refine Zh ?_; refine Zv ?_) | intro _)
 exact qE (L' := [ZO (.slice a1 (min e.b.n 400) c1) ((e.b.l.take (min e.b.n 400)).map ZE) sp1 5, ZO (.slice a2 (min e.note.n 33) c2) ((e.note.l.take (min e.note.n 33)).map ZE) sp2 5, ZO (.slice a3 (min e.kn 40) c3) ((e.ks.take (min e.kn 40)).map bb) sp3 4]) ⟨rfl, a1, c1, sp1, a2, c2, sp2, a3, c3, sp3, rfl, hown1, hown2, hown3, rfl⟩
theorem pad_go {l : Bs} {k : Nat} (hk : k < 64) (hl : k < l.length) : SetL ((l.take k ++ z8 (64 - k)).map ZE) (0 + k * 1) (ZE (l[k]'hl)) ((l.take (k + 1) ++ z8 (64 - (k + 1))).map ZE) := by
 have h0 : 0 + k * 1 = k := by omega
 rw [h0]
 have hlt : (l.take k).length = k := by simp; omega
 refine ⟨by simp [z8]; omega, ?_⟩
 obtain ⟨m, hm⟩ : ∃ m, 64 - k = m + 1 := ⟨63 - k, by omega⟩
 rw [hm, show 64 - (k + 1) = m by omega, List.take_succ_eq_append_getElem hl]
 simp only [stc, z8, List.replicate_succ, List.map_append, List.map_cons, List.length_singleton, List.map_nil]
 have e1 : (List.map ZE (List.take k l)).length = k := by simpa using hlt
 rw [List.take_left' e1, List.drop_append, e1, List.drop_of_length_le (by omega), show k + 1 - k = 1 by omega]
 simp
theorem pad_end (l : Bs) : l.take (min l.length 64) ++ z8 (64 - min l.length 64) = pad l := by
 unfold pad
 by_cases h : l.length ≤ 64
 ·rw [Nat.min_eq_left h, List.take_length, List.take_append, List.take_of_length_le h]
  congr 1
  unfold z8
  rw [List.take_replicate, Nat.min_eq_left (by omega)]
 ·rw [Nat.min_eq_right (by omega), Nat.sub_self, List.take_append_of_le_length (by omega)]
  simp [z8]
theorem block04_in (ρ : Hp) (a : Option Addr) (n c : Nat) (l : Bs) (h : SIn ρ ZE a n l) (hn : n ≤ 100000) :
  Spec Try.prog 73 [.slice a n c] ρ [] (fun v ρ' L' => v = bv (pad l) ∧ ρ' = ρ ∧ L' = []) := by
 have hl := h.len
 refine Zd Try.func73 rfl rfl rfl fun u R => ?_
 simp only [Zw, List.cons_append, List.nil_append]
 obtain ⟨m, hm, hm2⟩ : ∃ m : Nat, min (n : Int) 64 = m ∧ m = min l.length 64 := ⟨min n 64, by omega, by omega⟩
 repeat' (first | (refine ZV ?_; refine Zy (Zc rfl) rfl rfl ?_) | (refine Zf ?_; first | (refine Ze ?_; refine qQ ?_) | refine Zk ?_) | refine Za ?_ | (refine Zg ?_; refine Zu ?_) | (refine Zh ?_; refine Zv ?_) | intro _)
 rename_i b2 b3
 rw [hm]
 rw [show (List.replicate 64 (Value.int .u8 0)) = (l.take 0 ++ z8 (64 - 0)).map ZE by simp [z8, ZE]]
 refine ZP [(0, _), (2, _), (3, _), (7, _)] (fun (ζ : (Nat)) => [(8, .int .i64 ζ)]) (fun (ζ : (Nat)) => ρ) (fun (ζ : (Nat)) => [[(b2, .cells ⟨List.replicate 64 (Value.int .u8 0)⟩ 48 (0, 0))], [(b3, .cells ⟨(l.take ζ ++ z8 (64 - ζ)).map ZE⟩ 48 (0, 0))]]) (fun (ζ : (Nat)) => ζ ≤ m) (fun (ζ : (Nat)) => m - ζ) (0) (Nat.zero_le _) Zx Zx rfl tk ?_
 rintro k hI
 try simp only [List.cons_append, List.nil_append, List.append_assoc, List.append_eq] at hI ⊢
 try dsimp only at hI ⊢
 by_cases hlt : k < m
 ·have hkl : k < l.length := by omega
  obtain ⟨b, off, C, T, fr, rfl, hb, hc⟩ := h.get hkl
  haveI hst := pad_go (l := l) (k := k) (by omega) hkl
  have hL : ((l.take k ++ z8 (64 - k)).map ZE).length = 64 := by simp [z8]; omega
  generalize (l.take k ++ z8 (64 - k)).map ZE = Z at *
  generalize hZ' : (l.take (k + 1) ++ z8 (64 - (k + 1))).map ZE = Z' at *
  repeat' (first | (refine ZV ?_; refine Zy (Zc rfl) rfl rfl ?_) | (refine Zf ?_; first | (refine Ze ?_; refine qQ ?_) | refine Zk ?_) | refine Za ?_ | (refine Zg ?_; refine Zu ?_) | (refine Zh ?_; refine Zv ?_) | intro _)
  subst hZ'
  refine ZI (k + 1) ((show k + 1 ≤ m by omega)) Zx Zx rfl tk inferInstance (by first | omega | (dsimp only; omega))
 ·have hkm : k = m := by omega
  subst hkm
  rw [hm2, pad_end]
  have hpl : ((pad l).map ZE).length = 64 := by simp [pad_len]
  have h1 := ZM (pad l)
  repeat' (first | (refine ZV ?_; refine Zy (Zc rfl) rfl rfl ?_) | (refine Zf ?_; first | (refine Ze ?_; refine qQ ?_) | refine Zk ?_) | refine Za ?_ | (refine Zg ?_; refine Zu ?_) | (refine Zh ?_; refine Zv ?_) | intro _)
  exact qE (L' := []) ⟨rfl, rfl, rfl⟩
theorem block04_own (ρ : Hp) (v : Value) (n : Nat) (l : Bs) (sp : List Value) (h : OwnS v n (l.map ZE) sp 1) (hn : n ≤ 100000) :
  Spec Try.prog 73 [v] ρ [ZO v (l.map ZE) sp 5] (fun z ρ' L' => z = bv (pad l) ∧ ρ' = ρ ∧ L' = [ZO v (l.map ZE) sp 5]) := by
 refine (Spec.thaw (C := [ZO v (l.map ZE) sp 5]) (L := []) (Post := fun z L' => z = bv (pad l) ∧ L' = []) (fun ρ1 hle hf => ?_)).mono ?_
 ·obtain ⟨a1, c1, rfl, hc1, hs1⟩ := h.sIn (fun p hp => hf p (by simpa using hp))
  exact (block04_in ρ1 a1 n c1 l hs1 hn).mono (fun z ρ' L' _ ⟨h1, h2, h3⟩ => ⟨h2, h1, h3⟩)
 ·rintro z ρ' L' _ ⟨h1, L2, ⟨h2, rfl⟩, h3⟩
  exact ⟨h2, h1, h3⟩
theorem same04_spec (ρ : Hp) (a a' : Option Addr) (n c n' c' : Nat) (l : Bs) (h : SIn ρ ZE a n l) (h' : SIn ρ ZE a' n' l) (hn : n ≤ 4611686018427387904) :
  Spec Try.prog 30 [.slice a n c, .slice a' n' c'] ρ [] (fun v ρ' L' => v = .bool true ∧ ρ' = ρ ∧ L' = []) := by
 have hl := h.len
 have hl' := h'.len
 refine Zd Try.func30 rfl rfl rfl fun u R => ?_
 simp only [Zw, List.cons_append, List.nil_append]
 repeat' (first | (refine ZV ?_; refine Zy (Zc rfl) rfl rfl ?_) | (refine Zf ?_; first | (refine Ze ?_; refine qQ ?_) | refine Zk ?_) | refine Za ?_ | (refine Zg ?_; refine Zu ?_) | (refine Zh ?_; refine Zv ?_) | intro _)
 refine ZP [(0, _), (1, _), (12, _)] (fun (ζ : (Nat)) => [(13, .int .i64 ζ), (4, .bool false)]) (fun (ζ : (Nat)) => ρ) (fun (ζ : (Nat)) => []) (fun (ζ : (Nat)) => ζ ≤ n) (fun (ζ : (Nat)) => n - ζ) (0) (Nat.zero_le _) Zx Zx rfl tk ?_
 rintro k hI
 try simp only [List.cons_append, List.nil_append, List.append_assoc, List.append_eq] at hI ⊢
 try dsimp only at hI ⊢
 by_cases hlt : k < n
 ·obtain ⟨b, off, C, T, fr, rfl, hb, hc⟩ := h.get (show k < l.length by omega)
  obtain ⟨b', off', C', T', fr', rfl, hb', hc'⟩ := h'.get (show k < l.length by omega)
  have hx := (l[k]'(by omega)).toNat_lt
  repeat' (first | (refine ZV ?_; refine Zy (Zc rfl) rfl rfl ?_) | (refine Zf ?_; first | (refine Ze ?_; refine qQ ?_) | refine Zk ?_) | refine Za ?_ | (refine Zg ?_; refine Zu ?_) | (refine Zh ?_; refine Zv ?_) | intro _)
  refine ZA (Zo _ _ ([])) (Zn (hT := tk) (Hp.le_refl _)) ?_
  all_goals (refine ZL 0 ?_; refine ZN ?_; refine ZL 1 ?_; refine rIa 2 ?_; refine ZX 3 ?_; refine ZL 4 ?_; refine ZL 5 ?_; refine rIa 6 ?_; refine ZX 7 ?_; refine rCm 8 ?_; refine ZH ?_)
  all_goals (repeat' (first | (refine ZV ?_; refine Zy (Zc rfl) rfl rfl ?_) | (refine Zf ?_; first | (refine Ze ?_; refine qQ ?_) | refine Zk ?_) | refine Za ?_ | (refine Zg ?_; refine Zu ?_) | (refine Zh ?_; refine Zv ?_) | intro _))
  all_goals refine ZI (k + 1) ((show k + 1 ≤ n by omega)) Zx Zx rfl tk inferInstance (by first | omega | (dsimp only; omega))
 ·repeat' (first | (refine ZV ?_; refine Zy (Zc rfl) rfl rfl ?_) | (refine Zf ?_; first | (refine Ze ?_; refine qQ ?_) | refine Zk ?_) | refine Za ?_ | (refine Zg ?_; refine Zu ?_) | (refine Zh ?_; refine Zv ?_) | intro _)
  exact qE (L' := []) ⟨rfl, rfl, rfl⟩
theorem used04_spec (ρ : Hp) (a : Option Addr) (n c : Nat) (els : List BSl) (h : SIn ρ slv a n els) (hin : ∀ e ∈ els, BIn ρ e) (hu : ZB (els.map BSl.l) ≤ 100000) (hlong : ∀ e ∈ els, e.n ≤ 8000) :
  Spec Try.prog 26 [.slice a n c] ρ [] (fun v ρ' L' => v = .int .i64 (ZB (els.map BSl.l) : Nat) ∧ ρ' = ρ ∧ L' = []) := by
 have hl := h.len
 have hnb : n ≤ 100000 := by
  have := Xi (els.map BSl.l)
  rw [List.length_map] at this
  omega
 refine Zd Try.func26 rfl rfl rfl fun u R => ?_
 simp only [Zw, List.cons_append, List.nil_append]
 repeat' (first | (refine ZV ?_; refine Zy (Zc rfl) rfl rfl ?_) | (refine Zf ?_; first | (refine Ze ?_; refine qQ ?_) | refine Zk ?_) | refine Za ?_ | (refine Zg ?_; refine Zu ?_) | (refine Zh ?_; refine Zv ?_) | intro _)
 refine ZP [(2, _), (6, _), (7, _)] (fun (ζ : (Nat) × (Nat)) => [(8, .int .i64 ζ.1), (3, .int .i64 ζ.2)]) (fun (ζ : (Nat) × (Nat)) => ρ) (fun (ζ : (Nat) × (Nat)) => []) (fun (ζ : (Nat) × (Nat)) => ζ.1 ≤ n ∧ ζ.2 = ZB ((els.take ζ.1).map BSl.l)) (fun (ζ : (Nat) × (Nat)) => n - ζ.1) ((0, 0)) (⟨Nat.zero_le _, rfl⟩) Zx Zx rfl tk ?_
 rintro ⟨k, m⟩ hI
 try simp only [List.cons_append, List.nil_append, List.append_assoc, List.append_eq] at hI ⊢
 try dsimp only at hI ⊢
 obtain ⟨hk, hm⟩ := hI
 have hmb : m ≤ 100000 := by
  have e := congrArg (fun z => ZB (z.map BSl.l)) (List.take_append_drop k els)
  simp only [List.map_append, YO] at e
  omega
 by_cases hlt : k < n
 ·obtain ⟨b, off, C, T, fr, rfl, hb, hc⟩ := h.get (show k < els.length by omega)
  have hmem := List.getElem_mem (show k < els.length by omega)
  have he := hin _ hmem
  have h8 := hlong _ hmem
  have hts : els.take (k + 1) = els.take k ++ [els[k]'(by omega)] := List.take_succ_eq_append_getElem (by omega)
  generalize els[k]'(by omega) = e at *
  have hel := he.s.len
  have hsl := sects_le h8
  have hnx : ZB ((els.take (k + 1)).map BSl.l) = m + Zt e.n := by rw [hts, List.map_append, YO, ← hm, List.map_cons, List.map_nil, Xd, hel]; rfl
  repeat' (first | (refine Zb (.func 55) ?_; refine qC rfl rfl (XG _ e.n (by omega)) ?_; rintro v ρ' L' hle ⟨rfl, rfl, rfl⟩ <;> (try simp only [kM, kN, kO])) | (refine ZV ?_; refine Zy (Zc rfl) rfl rfl ?_) | (refine Zf ?_; first | (refine Ze ?_; refine qQ ?_) | refine Zk ?_) | refine Za ?_ | (refine Zg ?_; refine Zu ?_) | (refine Zh ?_; refine Zv ?_) | intro _)
  rw [show (m : Int) + (Zt e.n : Nat) = ((m + Zt e.n : Nat) : Int) by omega]
  refine ZI (k + 1, m + Zt e.n) (⟨hlt, hnx.symm⟩) Zx Zx rfl tk inferInstance (by first | omega | (dsimp only; omega))
 ·have hkn : k = els.length := by omega
  rw [List.take_of_length_le (by omega)] at hm
  subst hm
  repeat' (first | (refine ZV ?_; refine Zy (Zc rfl) rfl rfl ?_) | (refine Zf ?_; first | (refine Ze ?_; refine qQ ?_) | refine Zk ?_) | refine Za ?_ | (refine Zg ?_; refine Zu ?_) | (refine Zh ?_; refine Zv ?_) | intro _)
  exact qE (L' := []) ⟨rfl, rfl, rfl⟩
theorem sameAll04_in (ρ : Hp) (a a' : Option Addr) (n c n' c' : Nat) (els els' : List BSl) (h : SIn ρ slv a n els) (h' : SIn ρ slv a' n' els') (hin : ∀ e ∈ els, BIn ρ e) (hin' : ∀ e ∈ els', BIn ρ e) (he : els.map BSl.l = els'.map BSl.l) (hn : n ≤ 4611686018427387904) (hs : ∀ e ∈ els, e.n ≤ 4611686018427387904) :
  Spec Try.prog 28 [.slice a n c, .slice a' n' c'] ρ [] (fun v ρ' L' => v = .bool true ∧ ρ' = ρ ∧ L' = []) := by
 have hl := h.len
 have hl' := h'.len
 have hnn : n = n' := by
  have := congrArg List.length he
  simp at this; omega
 subst hnn
 refine Zd Try.func28 rfl rfl rfl fun u R => ?_
 simp only [Zw, List.cons_append, List.nil_append]
 repeat' (first | (refine ZV ?_; refine Zy (Zc rfl) rfl rfl ?_) | (refine Zf ?_; first | (refine Ze ?_; refine qQ ?_) | refine Zk ?_) | refine Za ?_ | (refine Zg ?_; refine Zu ?_) | (refine Zh ?_; refine Zv ?_) | intro _)
 refine ZP [(0, _), (1, _), (12, _)] (fun (ζ : (Nat)) => [(13, .int .i64 ζ), (4, .bool false)]) (fun (ζ : (Nat)) => ρ) (fun (ζ : (Nat)) => []) (fun (ζ : (Nat)) => ζ ≤ n) (fun (ζ : (Nat)) => n - ζ) (0) (Nat.zero_le _) Zx Zx rfl tk ?_
 rintro k hI
 try simp only [List.cons_append, List.nil_append, List.append_assoc, List.append_eq] at hI ⊢
 try dsimp only at hI ⊢
 by_cases hlt : k < n
 ·obtain ⟨b, off, C, T, fr, rfl, hb, hc⟩ := h.get (show k < els.length by omega)
  obtain ⟨b', off', C', T', fr', rfl, hb', hc'⟩ := h'.get (show k < els'.length by omega)
  have g1 := hin _ (List.getElem_mem (show k < els.length by omega))
  have g2 := hin' _ (List.getElem_mem (show k < els'.length by omega))
  have g3 := hs _ (List.getElem_mem (show k < els.length by omega))
  have g4 : (els[k]'(by omega)).l = (els'[k]'(by omega)).l := by
   have := congrArg (fun z => z[k]?) he
   simpa [show k < els.length by omega, show k < els'.length by omega] using this
  generalize els[k]'(by omega) = e at *
  generalize els'[k]'(by omega) = e' at *
  have g5 := g2.s
  rw [← g4] at g5
  repeat' (first | (refine ZV ?_; refine Zy (Zc rfl) rfl rfl ?_) | (refine Zf ?_; first | (refine Ze ?_; refine qQ ?_) | refine Zk ?_) | refine Za ?_ | (refine Zg ?_; refine Zu ?_) | (refine Zh ?_; refine Zv ?_) | intro _)
  refine ZA (Zo _ _ ([])) (Zn (hT := tk) (Hp.le_refl _)) ?_
  all_goals (refine ZL 0 ?_; refine ZL 1 ?_; refine rIa 2 ?_; refine ZX 3 ?_; refine ZL 4 ?_; refine ZL 5 ?_; refine rIa 6 ?_; refine ZX 7 ?_)
  all_goals (refine Zp (i := 8) ?_; ((try refine Zl ?_); (first | (refine Zb (.func 30) ?_; refine qC rfl rfl (same04_spec _ _ _ _ _ _ _ _ g1.s g5 g3) ?_; rintro v ρ' L' hle ⟨rfl, rfl, rfl⟩ <;> (try simp only [kM, kN, kO])) | (refine Zk ?_; try intro _)) <;> ((try simp only [kM, kN, kO]); refine Za ?_; refine Zm ?_)))
  all_goals (refine ZN ?_; refine rUn 9 ?_; refine ZH ?_)
  all_goals (repeat' (first | (refine ZV ?_; refine Zy (Zc rfl) rfl rfl ?_) | (refine Zf ?_; first | (refine Ze ?_; refine qQ ?_) | refine Zk ?_) | refine Za ?_ | (refine Zg ?_; refine Zu ?_) | (refine Zh ?_; refine Zv ?_) | intro _))
  all_goals refine ZI (k + 1) ((show k + 1 ≤ n by omega)) Zx Zx rfl tk inferInstance (by first | omega | (dsimp only; omega))
 ·repeat' (first | (refine ZV ?_; refine Zy (Zc rfl) rfl rfl ?_) | (refine Zf ?_; first | (refine Ze ?_; refine qQ ?_) | refine Zk ?_) | refine Za ?_ | (refine Zg ?_; refine Zu ?_) | (refine Zh ?_; refine Zv ?_) | intro _)
  exact qE (L' := []) ⟨rfl, rfl, rfl⟩
theorem OwnS.re {v : Value} {n m : Nat} {xs sp : List Value} {sz : Nat} (h : OwnS v n xs sp sz) (e : n = m) : OwnS v m xs sp sz := e ▸ h
theorem part04_spec (ρ : Hp) (X : SH) (turn n : Nat) (a : Option Addr) (bn c : Nat) (b : Bs) (hb : Rd ρ X a bn b) (hc : bn ≤ c) (k : Nat) (ht : turn < 4294967296) (hn : n ≤ 1099511627776) (hbl : bn ≤ 8000) (hk : k < Zt bn) :
  Spec Try.prog 56 [.int .u64 turn, .int .u64 n, .slice a bn c, .int .i64 k] ρ X (fun v ρ' L' => v = bv (ZJ turn n b k) ∧ ρ.le ρ' ∧ L' = X) := by
 have hl := hb.len
 have hkm : 52 * k ≤ bn := by unfold Zt at hk; omega
 have hk2 : k < 256 := by unfold Zt at hk; omega
 have hkb : Value.int .u8 (IntKind.u8.wrap (k : Int)) = ZE (UInt8.ofNat k) := u8_wrap k
 have hkb' : Value.int .u8 (k : Int) = ZE (UInt8.ofNat k) := by rw [← hkb, Xr (by simp only [lo, hi]; omega)]
 have hlo : (52 * (k : Int)).toNat = 52 * k := by omega
 have hhi : (min (52 * (k : Int) + 52) (bn : Int)).toNat - 52 * k = min 52 (bn - 52 * k) := by omega
 have htk : (b.drop (52 * k)).take (min 52 (bn - 52 * k)) = (b.drop (52 * k)).take 52 := by
  by_cases h : 52 ≤ bn - 52 * k
  ·rw [Nat.min_eq_left h]
  ·rw [Nat.min_eq_right (by omega), List.take_of_length_le (by simp; omega), List.take_of_length_le (by simp; omega)]
 have hfin : ∀ n2, pad (be 4 turn ++ be 5 n ++ be 2 n2 ++ [UInt8.ofNat k] ++ (b.drop (52 * k)).take (min 52 (bn - 52 * k))) = pad (be 4 turn ++ (be 5 n ++ (be 2 n2 ++ (UInt8.ofNat k :: (b.drop (52 * k)).take 52)))) := fun n2 => by rw [htk]; simp
 have hfin2 : pad (be 4 turn ++ be 5 n ++ be 2 bn ++ [UInt8.ofNat k] ++ (b.drop (52 * k)).take (min 52 (bn - 52 * k))) = ZJ turn n b k := by rw [hfin, ← hl]; rfl
 have hpl : ((ZJ turn n b k).map ZE).length = 64 := by simp [YF]
 have hp1 := ZM (ZJ turn n b k)
 refine Zd Try.func56 rfl rfl rfl fun u R => ?_
 simp only [Zw, List.cons_append, List.nil_append]
 repeat' (first | (refine Zb (.func 72) ?_; refine qC rfl rfl (high04_own _ turn 4 (by omega) (by omega)) ?_; rintro v1 ρ1 L1 hle1 ⟨rfl, a1, c1, sp1, rfl, hown1, rfl⟩; replace hown1 := hown1.re (Zs 4 turn).symm; simp only [List.cons_append, List.nil_append]) | (refine Zb (.func 72) ?_; refine qC rfl rfl (Ye _ n 5 (by omega) (by omega)) ?_; rintro v2 ρ2 L2 hle2 ⟨⟨hl2, a2, c2, rfl, hc2, hs2⟩, rfl⟩; simp only [List.cons_append, List.nil_append]) | (refine ZR (ys := be 5 n) (m := 5) rfl rfl hown1 (hR := by infer_instance) (SIn.srcV hs2) (Zs _ _) (by simp [Zs]) rfl (fun v3 sp3 hown3 => ?_)) | (refine ZV ?_; refine Zy (Zc rfl) rfl rfl ?_) | (refine Zf ?_; first | (refine Ze ?_; refine qQ ?_) | refine Zk ?_) | refine Za ?_ | (refine Zg ?_; refine Zu ?_) | (refine Zh ?_; refine Zv ?_) | intro _)
 repeat' (first | (refine Zb (.func 72) ?_; refine qC rfl rfl (Ye _ bn 2 (by omega) (by omega)) ?_; rintro v4 ρ4 L4 hle4 ⟨⟨hl4, a4, c4, rfl, hc4, hs4⟩, rfl⟩; simp only [List.cons_append, List.nil_append]) | (refine ZR (ys := be 2 bn) (m := 2) rfl rfl hown3 (hR := by infer_instance) (SIn.srcV hs4) (Zs _ _) (by simp [Zs]) rfl (fun v5 sp5 hown5 => ?_)) | (simp only [hkb']; refine Zq rfl rfl rfl rfl (by simp) rfl rfl (fun _ => ?_)) | (refine ZR (ys := [UInt8.ofNat k]) (m := 1) rfl rfl hown5 (hR := by infer_instance) SrcV.lit rfl (by simp [Zs]) rfl (fun v6 sp6 hown6 => ?_)) | (refine ZV ?_; refine Zy (Zc rfl) rfl rfl ?_) | (refine Zf ?_; first | (refine Ze ?_; refine qQ ?_) | refine Zk ?_) | refine Za ?_ | (refine Zg ?_; refine Zu ?_) | (refine Zh ?_; refine Zv ?_) | intro _)
 repeat' (first | (simp only [hlo, hhi]; refine ZR (ys := (b.drop (52 * k)).take (min 52 (bn - 52 * k))) rfl rfl hown6 (hR := by infer_instance) (by rw [List.map_take, List.map_drop]; exact SrcV.sub (hb.src _ _ _ _ (Hp.le_trans hl2 hl4) tk) (by simp; omega) (by simpa [hl] using hc)) (by simp; omega) (by simp [Zs]; omega) rfl (fun v7 sp7 hown7 => ?_)) | (refine Zb (.func 73) ?_; refine qC rfl rfl (block04_own _ _ _ _ _ hown7 (by simp [Zs]; omega)) ?_; rintro v8 ρ8 L8 hle8 ⟨rfl, rfl, rfl⟩; simp only [List.cons_append, List.nil_append, hfin2]) | (refine ZV ?_; refine Zy (Zc rfl) rfl rfl ?_) | (refine Zf ?_; first | (refine Ze ?_; refine qQ ?_) | refine Zk ?_) | refine Za ?_ | (refine Zg ?_; refine Zu ?_) | (refine Zh ?_; refine Zv ?_) | intro _)
 have hfl := Hp.le_trans hl2 hl4
 exact qE (L' := X) ⟨rfl, hfl, rfl⟩
theorem Yy {ρ : Hp} {b : Nat} {s : Bs} {T : TypeId} {fr : Nat × Nat} (h : ρ b = some (.cells ⟨s.map ZE⟩ T fr)) (lo' n : Nat) (hn : lo' + n ≤ s.length) : SIn ρ ZE (some ⟨b, lo', none⟩) n ((s.drop lo').take n) := by
 refine ⟨by simp; omega, .inr ⟨b, lo', _, _, _, rfl, h, by rw [List.map_take, List.map_drop]⟩⟩
theorem sector_spec (ρ : Hp) (rb rbx db : Nat) (R : RgS) (w : RW) (k : DK) (D : DS) (hD : DOk k D) (place : Int) (h0 : 0 ≤ place) (h1 : place ≤ 1000000) :
  Spec Try.prog 67 [.int .i64 place, .pointer (some ⟨rbx, 0, none⟩)] ρ ([[(rbx, .cells ⟨[.pointer (some ⟨rb, 0, none⟩)]⟩ 39 (0, 0))], [(rb, .cells ⟨rgV R db w⟩ 84 (0, 0))]] ++ Zi db k D)
   (fun v ρ' L' => v = .tuple ⟨[bv (D.read (2 + place)).2.1, .int .i64 (D.read (2 + place)).2.2]⟩ ∧ ρ' = ρ ∧ DOk k (D.read (2 + place)).1 ∧ L' = [[(rbx, .cells ⟨[.pointer (some ⟨rb, 0, none⟩)]⟩ 39 (0, 0))], [(rb, .cells ⟨rgV R db w⟩ 84 (0, 0))]] ++ Zi db k (D.read (2 + place)).1) := by
 have h64 := Xn hD.ok (2 + place)
 have hpl : ((D.read (2 + place)).2.1.map ZE).length = 64 := by simpa using h64
 have hp1 := ZM (D.read (2 + place)).2.1
 refine Zd Try.func67 rfl rfl rfl fun u R0 => ?_
 simp only [Zw, List.cons_append, List.nil_append]
 repeat' (first | (refine Zb (.func 9) ?_; refine qC rfl rfl (kread _ db k D _ hD) ?_; rintro v ρ' L' hle ⟨rfl, rfl, hD2, rfl⟩ <;> (try simp only [kM, kN, kO])) | (refine Zf ?_; first | (refine Ze ?_; refine qQ ?_) | refine Zk ?_) | refine Za ?_ | (refine Zg ?_; refine Zu ?_) | (refine Zh ?_; refine Zv ?_) | intro _)
 exact qE (L' := [[(rbx, .cells ⟨[.pointer (some ⟨rb, 0, none⟩)]⟩ 39 (0, 0))], [(rb, .cells ⟨rgV R db w⟩ 84 (0, 0))]] ++ Zi db k (D.read (2 + place)).1) ⟨rfl, rfl, hD2, rfl⟩
theorem fit_copy {size k : Nat} {acc s : Bs} (hl : acc.length = 52 * k) (hk : 52 * k ≤ size) (hs : s.length = 52) : stc ((Yi size acc).map ZE) (52 * k) ((s.map ZE).take (size - 52 * k)) = (Yi size (acc ++ s)).map ZE := by
 have e1 : Yi size acc = acc ++ z8 (size - 52 * k) := by
  unfold Yi z8
  rw [List.take_append, List.take_of_length_le (by omega), List.take_replicate, hl]
  congr 2; omega
 have e2 : Yi size (acc ++ s) = acc ++ (s.take (size - 52 * k) ++ z8 (size - 52 * k - 52)) := by
  unfold Yi z8
  rw [List.append_assoc, List.take_append, List.take_of_length_le (by omega), hl, List.take_append, List.take_replicate, hs]
  congr 3; omega
 rw [e1, e2]
 unfold stc
 simp only [List.map_append, List.map_take]
 rw [List.take_left' (by simpa using hl), ← List.drop_drop, List.drop_left' (by simpa using hl), List.append_assoc]
 congr 2
 simp only [z8, List.map_replicate, List.drop_replicate, List.length_take, List.length_map, hs]
 congr 1; omega
end Go.Proofs.E
