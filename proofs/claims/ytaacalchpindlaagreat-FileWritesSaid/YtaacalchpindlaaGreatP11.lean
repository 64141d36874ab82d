/- The law FileWrites. Part 11 of 17. -/
import Derived.Test.YtaacalchpindlaaGreatP10
namespace Go.Proofs.E
open Go
set_option linter.unusedVariables false
set_option linter.unusedSimpArgs false
set_option linter.unusedSectionVars false
set_option maxRecDepth 4000
set_option maxHeartbeats 1000000
attribute [local irreducible] Yl TL TC TE Spec XM R1 Hp.le EnvLe TS TR YS Zo
def ZM (num : Nat) (a b : Blk) : SlD :=
 if 83 < (a.getD 18 0).toNat then zSl
 else
  ⟨ZP ((a.drop 2).take 8), ZP ((a.drop 10).take 8), (Zz ((((a.drop 18).take 42 ++ (b.drop 18).take 42).drop 1).take (a.getD 18 0).toNat)).1,
   decide ((Zz ((((a.drop 18).take 42 ++ (b.drop 18).take 42).drop 1).take (a.getD 18 0).toNat)).2.2 = 0 ∧ (Zz ((((a.drop 18).take 42 ++ (b.drop 18).take 42).drop 1).take (a.getD 18 0).toNat)).2.1 = (a.getD 18 0).toNat ∧ 0 < ZP ((a.drop 2).take 8) ∧
    ZE num (ZP ((a.drop 2).take 8)) (ZP ((a.drop 10).take 8)) (Zz ((((a.drop 18).take 42 ++ (b.drop 18).take 42).drop 1).take (a.getD 18 0).toNat)).1 0 ++ ZE num (ZP ((a.drop 2).take 8)) (ZP ((a.drop 10).take 8)) (Zz ((((a.drop 18).take 42 ++ (b.drop 18).take 42).drop 1).take (a.getD 18 0).toNat)).1 1 = a ++ b), 0⟩
theorem Wy (l : Bs) : ZP (l.take 8) < 18446744073709551616 := by
 have := WS (l.take 8)
 have h8 : (l.take 8).length ≤ 8 := by simp; omega
 have : 256 ^ (l.take 8).length ≤ 256 ^ 8 := Nat.pow_le_pow_right (by decide) h8
 omega
theorem u64_ok (ρ : Hp) (br : Nat) (a : Option Addr) (n c : Nat) (l : Bs) (h : SIn ρ Zs a n l) (hc : n ≤ c) (h8 : 8 ≤ n) :
  Spec Tryz.prog 89 [.pointer (some ⟨br, 0, none⟩)] ρ [rdC br a n c 0]
   (fun v ρ' L' => v = .int .u64 (ZP (l.take 8) : Nat) ∧ ρ' = ρ ∧ ∃ a' c', SIn ρ Zs a' (n - 8) (l.drop 8) ∧ n - 8 ≤ c' ∧ L' = [rdC br a' (n - 8) c' 0]) := by
 have hl := h.len
 have e : Yg 8 l 0 = (ZP (l.take 8), l.drop 8, 0) := by unfold Yg; rw [if_neg (by simp), if_neg (by omega)]
 refine (u64_spec ρ br a n c l h hc 0).mono ?_
 rintro v ρ' L' _ ⟨h1, h2, a', n', c', h3, h4, h5⟩
 rw [e] at h1 h3 h5
 have hn : n' = n - 8 := by have := h3.len; simp at this; omega
 subst hn
 exact ⟨h1, h2, a', c', h3, h4, h5⟩
theorem u32_ok (ρ : Hp) (br : Nat) (a : Option Addr) (n c : Nat) (l : Bs) (h : SIn ρ Zs a n l) (hc : n ≤ c) (h4 : 4 ≤ n) :
  Spec Tryz.prog 91 [.pointer (some ⟨br, 0, none⟩)] ρ [rdC br a n c 0] (fun v ρ' L' => v = .int .u32 (ZP (l.take 4) : Nat) ∧ ρ' = ρ ∧ ∃ a' n' c', L' = [rdC br a' n' c' 0]) := by
 have hl := h.len
 have e : Yg 4 l 0 = (ZP (l.take 4), l.drop 4, 0) := by unfold Yg; rw [if_neg (by simp), if_neg (by omega)]
 have hn := number_spec ρ br a n c l h hc 0 4 (by omega)
 rw [e] at hn
 have hlt := WS (l.take 4)
 rw [show (l.take 4).length = 4 by simp; omega] at hlt
 dsimp only at hn
 generalize ZP (l.take 4) = x at *
 refine Zf Tryz.func91 rfl rfl rfl fun u R => ?_
 simp only [Zv, List.cons_append, List.nil_append]
 repeat' (first | (refine Zd (.func 96) ?_; refine qC rfl rfl (hn) ?_; rintro v ρ' L' hle ⟨rfl, rfl, a', n', c', hs', hc', rfl⟩ <;> (try simp only [kM, kN, kO])) | (refine Zg ?_; first | (refine Ze ?_; refine qQ ?_) | refine Zj ?_ | refine qAn ?_ | refine qXo ?_ | refine qNt ?_) | refine Za ?_ | (refine Zh ?_; refine Zq ?_) | (refine Zi ?_; refine Zr ?_) | intro _)
 exact qE ⟨rfl, rfl, a', n', c', rfl⟩
theorem says_spec (ρ : Hp) (num : Nat) (hnum : num < 64) (a b : Blk) (ha : a.length = 64) (hb : b.length = 64) :
  Spec Tryz.prog 72 [.int .i64 num, .agg ⟨(a ++ b).map Zs⟩] ρ [] (fun v ρ' L' => ρ.le ρ' ∧ ∃ w, v = .agg ⟨slV (ZM num a b) w⟩ ∧ CIn ρ' w (ZM num a b).c.rows (ZM num a b).c.kids ∧ L' = []) := by
 have hab : ((a ++ b).map Zs).length = 128 := by simp [ha, hb]
 have hone := ZI (a ++ b)
 have e8 : ((a ++ b).drop 2).take 16 = (a.drop 2).take 16 := by rw [List.drop_append_of_le_length (by omega), List.take_append_of_le_length (by simp; omega)]
 refine Zf Tryz.func72 rfl rfl rfl fun u R => ?_
 simp only [Zv, List.cons_append, List.nil_append]
 repeat' (first | (refine Zg ?_; first | (refine Ze ?_; refine qQ ?_) | refine Zj ?_ | refine qAn ?_ | refine qXo ?_ | refine qNt ?_) | refine Za ?_ | (refine Zh ?_; refine Zq ?_) | (refine Zi ?_; refine Zr ?_) | intro _)
 rename_i b3 b4
 refine Xe [(b3, .cells ⟨(a ++ b).map Zs⟩ 52 (0, 0))] (h := by infer_instance) (fun ρ1 hl1 hfz => ?_)
 have hbs := hfz _ (List.mem_singleton.2 rfl)
 have hs16 := WQ hbs 2 16 (by simp; omega)
 rw [e8] at hs16
 simp only [show 0 + Int.toNat 0 * 64 + Int.toNat 2 * 1 = 2 from rfl, show Int.toNat 18 - Int.toNat 2 = 16 from rfl]
 repeat' (first | (refine Zd (.func 88) ?_; refine qC rfl rfl (read_spec _ _ 16 _ _ hs16 (by omega)) ?_; rintro v2 ρ2 L2 hle2 ⟨hl2, br, ra, rc, rfl, hrc, hrs, rfl⟩; simp only [List.cons_append, List.nil_append]) | (refine Zg ?_; first | (refine Ze ?_; refine qQ ?_) | refine Zj ?_ | refine qAn ?_ | refine qXo ?_ | refine qNt ?_) | refine Za ?_ | (refine Zh ?_; refine Zq ?_) | (refine Zi ?_; refine Zr ?_) | intro _)
 repeat' (first | (refine Zd (.func 89) ?_; refine qC rfl rfl (u64_ok _ br ra 16 rc _ hrs hrc (by omega)) ?_; rintro v3 ρ3 L3 hle3 ⟨rfl, rfl, ra3, rc3, hrs3, hrc3, rfl⟩; simp only [List.cons_append, List.nil_append]) | (refine Zg ?_; first | (refine Ze ?_; refine qQ ?_) | refine Zj ?_ | refine qAn ?_ | refine qXo ?_ | refine qNt ?_) | refine Za ?_ | (refine Zh ?_; refine Zq ?_) | (refine Zi ?_; refine Zr ?_) | intro _)
 repeat' (first | (refine Zd (.func 89) ?_; refine qC rfl rfl (u64_ok _ br ra3 8 rc3 _ hrs3 hrc3 (by omega)) ?_; rintro v4 ρ4 L4 hle4 ⟨rfl, rfl, ra4, rc4, hrs4, hrc4, rfl⟩; simp only [List.cons_append, List.nil_append]) | (refine Zg ?_; first | (refine Ze ?_; refine qQ ?_) | refine Zj ?_ | refine qAn ?_ | refine qXo ?_ | refine qNt ?_) | refine Za ?_ | (refine Zh ?_; refine Zq ?_) | (refine Zi ?_; refine Zr ?_) | intro _)
 rename_i b6
 have hd0 : (a ++ b).getD 18 0 = a.getD 18 0 := by simp [List.getD_eq_getElem?_getD, List.getElem?_append_left (show 18 < a.length by omega)]
 have hx1 : ZP (((a.drop 2).take 16).take 8) = ZP ((a.drop 2).take 8) := by rw [List.take_take]; rfl
 have hx2 : ZP ((((a.drop 2).take 16).drop 8).take 8) = ZP ((a.drop 10).take 8) := by rw [List.drop_take, List.take_take, List.drop_drop]; rfl
 simp only [hx1, hx2]
 have hb4 := Hp.at' hl2 hbs
 dsimp only at hb4
 have hld : List.take 128 (List.drop 0 ((a ++ b).map Zs)) = (a ++ b).map Zs := by rw [List.drop_zero, List.take_of_length_le (by omega)]
 obtain ⟨dat, hdat⟩ : ∃ dat, dat = (a.drop 18).take 42 ++ (b.drop 18).take 42 := ⟨_, rfl⟩
 have hdl : dat.length = 84 := by rw [hdat]; simp; omega
 repeat' (first | (refine Zg ?_; first | (refine Ze ?_; refine qQ ?_) | refine Zj ?_ | refine qAn ?_ | refine qXo ?_ | refine qNt ?_) | refine Za ?_ | (refine Zh ?_; refine Zq ?_) | (refine Zi ?_; refine Zr ?_) | intro _)
 refine ZB [(0, _), (3, _), (4, _), (6, _), (22, _)] (fun (ζ : (Nat) × (Hp) × (Value) × (List Value)) => [(23, .int .i64 ζ.1), (7, ζ.2.2.1)]) (fun (ζ : (Nat) × (Hp) × (Value) × (List Value)) => ζ.2.1) (fun (ζ : (Nat) × (Hp) × (Value) × (List Value)) => [Ye ζ.2.2.1 ((dat.take (42 * ζ.1)).map Zs) ζ.2.2.2 5]) (fun (ζ : (Nat) × (Hp) × (Value) × (List Value)) => ζ.1 ≤ 2 ∧ ρ4.le ζ.2.1 ∧ OwnS ζ.2.2.1 (42 * ζ.1) ((dat.take (42 * ζ.1)).map Zs) ζ.2.2.2 1) (fun (ζ : (Nat) × (Hp) × (Value) × (List Value)) => 2 - ζ.1) ((0, ρ4, .slice none 0 0, [])) (⟨Nat.zero_le _, Hp.le_refl _, OwnS.nil 1⟩) Zm Zm rfl tk ?_
 rintro ⟨i, ρ5, v, sp⟩ hI
 try simp only [List.cons_append, List.nil_append, List.append_assoc, List.append_eq] at hI ⊢
 try dsimp only at hI ⊢
 obtain ⟨hi, hl5, hown⟩ := hI
 by_cases hlt : i < 2
 ·obtain ⟨blk, hbl, hix, hnx⟩ : ∃ blk : Blk, blk.length = 64 ∧ (((a ++ b).map Zs).drop (i * 64)).take 64 = blk.map Zs ∧ ((dat.take (42 * i)).map Zs ++ ((blk.drop 18).take 42).map Zs) = (dat.take (42 * (i + 1))).map Zs := by
   have hla : ((a.drop 18).take 42).length = 42 := by simp; omega
   have hlb : ((b.drop 18).take 42).length = 42 := by simp; omega
   rcases (show i = 0 ∨ i = 1 by omega) with rfl | rfl
   ·refine ⟨a, ha, ?_, ?_⟩
    ·rw [List.map_append, Nat.zero_mul, List.drop_zero, List.take_left' (by simpa using ha)]
    ·rw [hdat]
     simp only [Nat.mul_zero, List.take_zero, List.map_nil, List.nil_append]
     rw [List.take_left' hla]
   ·refine ⟨b, hb, ?_, ?_⟩
    ·rw [List.map_append, Nat.one_mul, List.drop_left' (by simpa using ha), List.take_of_length_le (by simp; omega)]
    ·rw [List.take_of_length_le (show dat.length ≤ 42 * (1 + 1) by omega), hdat, List.take_left' (by omega), List.map_append]
  have hb64 : (blk.map Zs).length = 64 := by simpa using hbl
  have hbo := ZI blk
  have hsub : ((blk.map Zs).drop 18).take 42 = ((blk.drop 18).take 42).map Zs := by rw [List.map_take, List.map_drop]
  have hsl : (((blk.drop 18).take 42).map Zs).length = 42 := by simp; omega
  repeat' (first | (refine Yb (y_index_a rfl rfl hlt hix) rfl rfl ?_) | (simp only [show Int.toNat 60 - Int.toNat 18 = 42 from rfl, show 0 + Int.toNat 18 * 1 = 18 from rfl]; refine Yh (ys := ((blk.drop 18).take 42).map Zs) (m := 42) (sz := 1) rfl rfl hown (hR := by infer_instance) (SrcV.find hsub) hsl (ZI _) (by decide) rfl (by omega) (by omega) rfl (fun v7 sp7 hown7 => ?_); rw [hnx] at hown7 ⊢) | (refine Zg ?_; first | (refine Ze ?_; refine qQ ?_) | refine Zj ?_ | refine qAn ?_ | refine qXo ?_ | refine qNt ?_) | refine Za ?_ | (refine Zh ?_; refine Zq ?_) | (refine Zi ?_; refine Zr ?_) | intro _)
  refine Zp (i + 1, ρ5, v7, sp7) (⟨hlt, hl5, hown7⟩) Zm Zm rfl tk inferInstance (by first | omega | (dsimp only; omega))
 ·have h2 : i = 2 := by omega
  subst h2
  rw [List.take_of_length_le (show dat.length ≤ 42 * 2 by omega)] at hown ⊢
  repeat' (first | (refine Zg ?_; first | (refine Ze ?_; refine qQ ?_) | refine Zj ?_ | refine qAn ?_ | refine qXo ?_ | refine qNt ?_) | refine Za ?_ | (refine Zh ?_; refine Zq ?_) | (refine Zi ?_; refine Zr ?_) | intro _)
  refine Xe (Ye v (dat.map Zs) sp 5) (h := by infer_instance) (fun ρ6 hl6 hfz6 => ?_)
  obtain ⟨a7, c7, rfl, hc7, hs7⟩ := hown.sIn hfz6
  obtain ⟨bx, ox, Cx', Tx, frx, rfl, hbx, hcx⟩ := hs7.get (i := 0) (by omega)
  have hda : dat[0]'(by omega) = a.getD 18 0 := by
   simp only [hdat]
   rw [List.getElem_append_left (by simp; omega), List.getElem_take, List.getElem_drop]
   rw [List.getD_eq_getElem?_getD, List.getElem?_eq_getElem (by omega)]; rfl
  rw [hda] at hcx
  have hdlt := (a.getD 18 0).toNat_lt
  have hsF : ZM num a b = if 83 < (a.getD 18 0).toNat then zSl else
   ⟨ZP ((a.drop 2).take 8), ZP ((a.drop 10).take 8), (Zz ((dat.drop 1).take (a.getD 18 0).toNat)).1,
   decide ((Zz ((dat.drop 1).take (a.getD 18 0).toNat)).2.2 = 0 ∧ (Zz ((dat.drop 1).take (a.getD 18 0).toNat)).2.1 = (a.getD 18 0).toNat ∧ 0 < ZP ((a.drop 2).take 8) ∧
    ZE num (ZP ((a.drop 2).take 8)) (ZP ((a.drop 10).take 8)) (Zz ((dat.drop 1).take (a.getD 18 0).toNat)).1 0 ++ ZE num (ZP ((a.drop 2).take 8)) (ZP ((a.drop 10).take 8)) (Zz ((dat.drop 1).take (a.getD 18 0).toNat)).1 1 = a ++ b), 0⟩ := by
   rw [hdat]; rfl
  have hst8 := Wy (a.drop 2)
  have hls8 := Wy (a.drop 10)
  generalize ZM num a b = S at *
  generalize ZP ((a.drop 2).take 8) = st at *
  generalize ZP ((a.drop 10).take 8) = ls at *
  generalize a.getD 18 0 = d8 at *
  have hcx2 : Cx'[ox + Int.toNat 0 * 1]? = some (Zs d8) := hcx
  have hl46 : ρ.le ρ6 := Hp.le_trans hl1 (Hp.le_trans hl2 (Hp.le_trans hl5 hl6))
  by_cases hbig : 83 < d8.toNat
  ·rw [if_pos hbig] at hsF
   subst hsF
   repeat' (first | (refine Zg ?_; first | (refine Ze ?_; refine qQ ?_) | refine Zj ?_ | refine qAn ?_ | refine qXo ?_ | refine qNt ?_) | refine Za ?_ | (refine Zh ?_; refine Zq ?_) | (refine Zi ?_; refine Zr ?_) | intro _)
   exact qE (L' := []) ⟨hl46, ⟨none, 0, 0, none, 0, 0⟩, rfl, CIn.nil, rfl⟩
  ·rw [if_neg hbig] at hsF
   have hsub := hs7.sub (lo' := 1) (hi' := 1 + d8.toNat) (by omega) (by omega) (cap := c7) (by omega)
   rw [show 1 + d8.toNat - 1 = d8.toNat by omega] at hsub
   have htc := takeCont_spec _ _ d8.toNat (c7 - 1) _ hsub (by omega)
   have hok := @WC ((dat.drop 1).take d8.toNat)
   generalize Zz ((dat.drop 1).take d8.toNat) = r at *
   obtain ⟨cc, kk, ec⟩ := r
   dsimp only at hsF htc hok
   have hq1 : ((1 : Int) + (d8.toNat : Int)).toNat - Int.toNat 1 = d8.toNat := by omega
   repeat' (first | (simp only [hq1]; refine Zd (.func 90) ?_; refine qC rfl rfl htc ?_; rintro v8 ρ8 L8 hle8 ⟨hl8, w, rfl, hC, rfl⟩; simp only [List.cons_append, List.nil_append]) | (refine Zg ?_; first | (refine Ze ?_; refine qQ ?_) | refine Zj ?_ | refine qAn ?_ | refine qXo ?_ | refine qNt ?_) | refine Za ?_ | (refine Zh ?_; refine Zq ?_) | (refine Zi ?_; refine Zr ?_) | intro _)
   have hb8 := Hp.at' (Hp.le_trans hl2 (Hp.le_trans hl5 (Hp.le_trans hl6 hl8))) hbs
   dsimp only at hb8
   have hl48 := Hp.le_trans hl46 hl8
   by_cases h1 : ec = 0
   ·obtain ⟨n1, rfl, _, hco, _, hcf⟩ := hok h1
    have hir : ∀ r ∈ cc.rows, r.id < 65536 := fun r hr => (hcf.row r hr).id
    have hik : ∀ k ∈ cc.kids, k.id < 65536 := fun k hk => (hcf.kid k hk).id
    by_cases h2 : (n1 : Int) = d8.toNat
    ·by_cases h3 : 0 < st
     ·have hEq : EqC Tryz.prog 8 52 (.agg ⟨(ZE num st ls cc 0 ++ ZE num st ls cc 1).map Zs⟩) (.agg ⟨(a ++ b).map Zs⟩) (decide (ZE num st ls cc 0 ++ ZE num st ls cc 1 = a ++ b)) := eqC_two (m := 5) _ _ _ _ (Ya _ _ _ _ (by omega)) (Ya _ _ _ _ (by omega)) ha hb
      have h3' : (0 : Int) < ((st : Nat) : Int) := by omega
      by_cases h4 : ZE num st ls cc 0 ++ ZE num st ls cc 1 = a ++ b
      ·rw [decide_eq_true h4] at hEq
       refine ZD (Zo _ _ ([])) (Zx (hT := tk) (Hp.le_refl _)) ?_
       all_goals (refine ZO 0 ?_; refine rCm 1 ?_; refine ZO 2 ?_; (first | refine Zc 3 ?_ | refine Zb 3 ?_ | refine ZU 3 ?_); (first | refine Zc 4 ?_ | refine Zb 4 ?_ | refine ZU 4 ?_); (first | refine Zc 5 ?_ | refine Zb 5 ?_ | refine wSb 5 ?_); (first | refine Zc 6 ?_ | refine Zb 6 ?_ | refine wCm 6 ?_); refine rPk 7 ?_; refine ZO 8 ?_; (first | refine Zc 9 ?_ | refine Zb 9 ?_ | refine wFa 9 ?_))
       all_goals (first | refine Zc 10 ?_ | refine Zb 10 ?_ | (refine Zn (i := 10) ?_; ((try refine Zk ?_); (first | (refine Zd (.func 31) ?_; refine qC rfl rfl (Wu _ num hnum ⟨st, ls, cc, false, 0⟩ w hC hco hir hik hst8 hls8) ?_; rintro v9 ρ9 L9 hle9 ⟨rfl, hl9, rfl⟩; simp only [List.cons_append, List.nil_append]) | (refine Ze ?_; refine qQ ?_) | (refine Zj ?_; try intro _)) <;> ((try simp only [kM, kN, kO]); refine Za ?_; refine Zl ?_))))
       all_goals ((first | refine Zc 11 ?_ | refine Zb 11 ?_ | refine wCm 11 ?_); refine rPk 12 ?_; refine ZO 13 ?_; (first | refine Zc 14 ?_ | refine Zb 14 ?_ | refine ZU 14 ?_); (first | refine Zc 17 ?_ | refine Zb 17 ?_ | refine wLd 17 ?_))
       all_goals (first | refine Zc 15 ?_ | refine Zb 15 ?_ | (refine Zn (i := 15) ?_; ((try refine Zk ?_); (first | (refine Zd (.func 31) ?_; refine qC rfl rfl (Wu _ num hnum ⟨st, ls, cc, false, 0⟩ w hC hco hir hik hst8 hls8) ?_; rintro v9 ρ9 L9 hle9 ⟨rfl, hl9, rfl⟩; simp only [List.cons_append, List.nil_append]) | (refine Ze ?_; refine qQ ?_) | (refine Zj ?_; try intro _)) <;> ((try simp only [kM, kN, kO]); refine Za ?_; refine Zl ?_))))
       all_goals (first | refine Zc 16 ?_ | refine Zb 16 ?_ | (refine Zn (i := 16) ?_; ((try refine Zk ?_); (first | (refine Zd (.func 31) ?_; refine qC rfl rfl (Wu _ num hnum ⟨st, ls, cc, false, 0⟩ w hC hco hir hik hst8 hls8) ?_; rintro v9 ρ9 L9 hle9 ⟨rfl, hl9, rfl⟩; simp only [List.cons_append, List.nil_append]) | (refine Ze ?_; refine qQ ?_) | (refine Zj ?_; try intro _)) <;> ((try simp only [kM, kN, kO]); refine Za ?_; refine Zl ?_))))
       all_goals ((first | refine Zc 18 ?_ | refine Zb 18 ?_ | refine wCm 18 ?_); refine rPk 19 ?_; refine rFa 20 ?_)
       all_goals (refine Zn (i := 21) ?_; ((try refine Zk ?_); (first | (refine Ze ?_; refine qQ ?_) | (refine Zj ?_; try intro _)) <;> ((try simp only [kM, kN, kO]); refine Za ?_; refine Zl ?_)))
       all_goals refine ZH ?_
       all_goals (repeat' (first | (refine Zg ?_; first | (refine Ze ?_; refine qQ ?_) | refine Zj ?_ | refine qAn ?_ | refine qXo ?_ | refine qNt ?_) | refine Za ?_ | (refine Zh ?_; refine Zq ?_) | (refine Zi ?_; refine Zr ?_) | intro _))
       all_goals have hv : S = ⟨st, ls, cc, true, 0⟩ := by rw [hsF]; congr 1; exact decide_eq_true ⟨h1, h2, h3, h4⟩
       all_goals subst hv
       all_goals have hfin := Hp.le_trans hl48 hl9
       all_goals exact qE (L' := []) ⟨hfin, w, rfl, hC.mono hl9, rfl⟩
      ·rw [decide_eq_false h4] at hEq
       refine ZD (Zo _ _ ([])) (Zx (hT := tk) (Hp.le_refl _)) ?_
       all_goals (refine ZO 0 ?_; refine rCm 1 ?_; refine ZO 2 ?_; (first | refine Zc 3 ?_ | refine Zb 3 ?_ | refine ZU 3 ?_); (first | refine Zc 4 ?_ | refine Zb 4 ?_ | refine ZU 4 ?_); (first | refine Zc 5 ?_ | refine Zb 5 ?_ | refine wSb 5 ?_); (first | refine Zc 6 ?_ | refine Zb 6 ?_ | refine wCm 6 ?_); refine rPk 7 ?_; refine ZO 8 ?_; (first | refine Zc 9 ?_ | refine Zb 9 ?_ | refine wFa 9 ?_))
       all_goals (first | refine Zc 10 ?_ | refine Zb 10 ?_ | (refine Zn (i := 10) ?_; ((try refine Zk ?_); (first | (refine Zd (.func 31) ?_; refine qC rfl rfl (Wu _ num hnum ⟨st, ls, cc, false, 0⟩ w hC hco hir hik hst8 hls8) ?_; rintro v9 ρ9 L9 hle9 ⟨rfl, hl9, rfl⟩; simp only [List.cons_append, List.nil_append]) | (refine Ze ?_; refine qQ ?_) | (refine Zj ?_; try intro _)) <;> ((try simp only [kM, kN, kO]); refine Za ?_; refine Zl ?_))))
       all_goals ((first | refine Zc 11 ?_ | refine Zb 11 ?_ | refine wCm 11 ?_); refine rPk 12 ?_; refine ZO 13 ?_; (first | refine Zc 14 ?_ | refine Zb 14 ?_ | refine ZU 14 ?_); (first | refine Zc 17 ?_ | refine Zb 17 ?_ | refine wLd 17 ?_))
       all_goals (first | refine Zc 15 ?_ | refine Zb 15 ?_ | (refine Zn (i := 15) ?_; ((try refine Zk ?_); (first | (refine Zd (.func 31) ?_; refine qC rfl rfl (Wu _ num hnum ⟨st, ls, cc, false, 0⟩ w hC hco hir hik hst8 hls8) ?_; rintro v9 ρ9 L9 hle9 ⟨rfl, hl9, rfl⟩; simp only [List.cons_append, List.nil_append]) | (refine Ze ?_; refine qQ ?_) | (refine Zj ?_; try intro _)) <;> ((try simp only [kM, kN, kO]); refine Za ?_; refine Zl ?_))))
       all_goals (first | refine Zc 16 ?_ | refine Zb 16 ?_ | (refine Zn (i := 16) ?_; ((try refine Zk ?_); (first | (refine Zd (.func 31) ?_; refine qC rfl rfl (Wu _ num hnum ⟨st, ls, cc, false, 0⟩ w hC hco hir hik hst8 hls8) ?_; rintro v9 ρ9 L9 hle9 ⟨rfl, hl9, rfl⟩; simp only [List.cons_append, List.nil_append]) | (refine Ze ?_; refine qQ ?_) | (refine Zj ?_; try intro _)) <;> ((try simp only [kM, kN, kO]); refine Za ?_; refine Zl ?_))))
       all_goals ((first | refine Zc 18 ?_ | refine Zb 18 ?_ | refine wCm 18 ?_); refine rPk 19 ?_; refine rFa 20 ?_)
       all_goals (refine Zn (i := 21) ?_; ((try refine Zk ?_); (first | (refine Ze ?_; refine qQ ?_) | (refine Zj ?_; try intro _)) <;> ((try simp only [kM, kN, kO]); refine Za ?_; refine Zl ?_)))
       all_goals refine ZH ?_
       all_goals (repeat' (first | (refine Zg ?_; first | (refine Ze ?_; refine qQ ?_) | refine Zj ?_ | refine qAn ?_ | refine qXo ?_ | refine qNt ?_) | refine Za ?_ | (refine Zh ?_; refine Zq ?_) | (refine Zi ?_; refine Zr ?_) | intro _))
       all_goals have hv : S = ⟨st, ls, cc, false, 0⟩ := by rw [hsF]; congr 1; exact decide_eq_false (fun hh => h4 hh.2.2.2)
       all_goals subst hv
       all_goals have hfin := Hp.le_trans hl48 hl9
       all_goals exact qE (L' := []) ⟨hfin, w, rfl, hC.mono hl9, rfl⟩
     ·have h3' : ¬ (0 : Int) < ((st : Nat) : Int) := by omega
      refine ZD (Zo _ _ ([])) (Zx (hT := tk) (Hp.le_refl _)) ?_
      all_goals (refine ZO 0 ?_; refine rCm 1 ?_; refine ZO 2 ?_; (first | refine Zc 3 ?_ | refine Zb 3 ?_ | refine ZU 3 ?_); (first | refine Zc 4 ?_ | refine Zb 4 ?_ | refine ZU 4 ?_); (first | refine Zc 5 ?_ | refine Zb 5 ?_ | refine wSb 5 ?_); (first | refine Zc 6 ?_ | refine Zb 6 ?_ | refine wCm 6 ?_); refine rPk 7 ?_; refine ZO 8 ?_; (first | refine Zc 9 ?_ | refine Zb 9 ?_ | refine wFa 9 ?_))
      all_goals (first | refine Zc 10 ?_ | refine Zb 10 ?_ | (refine Zn (i := 10) ?_; ((try refine Zk ?_); (first | (refine Ze ?_; refine qQ ?_) | (refine Zj ?_; try intro _)) <;> ((try simp only [kM, kN, kO]); refine Za ?_; refine Zl ?_))))
      all_goals ((first | refine Zc 11 ?_ | refine Zb 11 ?_ | refine wCm 11 ?_); refine rPk 12 ?_; refine ZO 13 ?_; (first | refine Zc 14 ?_ | refine Zb 14 ?_ | refine ZU 14 ?_); (first | refine Zc 17 ?_ | refine Zb 17 ?_ | refine wLd 17 ?_))
      all_goals (first | refine Zc 15 ?_ | refine Zb 15 ?_ | (refine Zn (i := 15) ?_; ((try refine Zk ?_); (first | (refine Ze ?_; refine qQ ?_) | (refine Zj ?_; try intro _)) <;> ((try simp only [kM, kN, kO]); refine Za ?_; refine Zl ?_))))
      all_goals (first | refine Zc 16 ?_ | refine Zb 16 ?_ | (refine Zn (i := 16) ?_; ((try refine Zk ?_); (first | (refine Ze ?_; refine qQ ?_) | (refine Zj ?_; try intro _)) <;> ((try simp only [kM, kN, kO]); refine Za ?_; refine Zl ?_))))
      all_goals ((first | refine Zc 18 ?_ | refine Zb 18 ?_ | refine wCm 18 ?_); refine rPk 19 ?_; refine rFa 20 ?_)
      all_goals (refine Zn (i := 21) ?_; ((try refine Zk ?_); (first | (refine Ze ?_; refine qQ ?_) | (refine Zj ?_; try intro _)) <;> ((try simp only [kM, kN, kO]); refine Za ?_; refine Zl ?_)))
      all_goals refine ZH ?_
      all_goals (repeat' (first | (refine Zg ?_; first | (refine Ze ?_; refine qQ ?_) | refine Zj ?_ | refine qAn ?_ | refine qXo ?_ | refine qNt ?_) | refine Za ?_ | (refine Zh ?_; refine Zq ?_) | (refine Zi ?_; refine Zr ?_) | intro _))
      all_goals have hv : S = ⟨st, ls, cc, false, 0⟩ := by rw [hsF]; congr 1; exact decide_eq_false (fun hh => h3 hh.2.2.1)
      all_goals subst hv
      all_goals have hfin := hl48
      all_goals exact qE (L' := []) ⟨hfin, w, rfl, hC, rfl⟩
    ·refine ZD (Zo _ _ ([])) (Zx (hT := tk) (Hp.le_refl _)) ?_
     all_goals (refine ZO 0 ?_; refine rCm 1 ?_; refine ZO 2 ?_; (first | refine Zc 3 ?_ | refine Zb 3 ?_ | refine ZU 3 ?_); (first | refine Zc 4 ?_ | refine Zb 4 ?_ | refine ZU 4 ?_); (first | refine Zc 5 ?_ | refine Zb 5 ?_ | refine wSb 5 ?_); (first | refine Zc 6 ?_ | refine Zb 6 ?_ | refine wCm 6 ?_); refine rPk 7 ?_; refine ZO 8 ?_; (first | refine Zc 9 ?_ | refine Zb 9 ?_ | refine wFa 9 ?_))
     all_goals (first | refine Zc 10 ?_ | refine Zb 10 ?_ | (refine Zn (i := 10) ?_; ((try refine Zk ?_); (first | (refine Ze ?_; refine qQ ?_) | (refine Zj ?_; try intro _)) <;> ((try simp only [kM, kN, kO]); refine Za ?_; refine Zl ?_))))
     all_goals ((first | refine Zc 11 ?_ | refine Zb 11 ?_ | refine wCm 11 ?_); refine rPk 12 ?_; refine ZO 13 ?_; (first | refine Zc 14 ?_ | refine Zb 14 ?_ | refine ZU 14 ?_); (first | refine Zc 17 ?_ | refine Zb 17 ?_ | refine wLd 17 ?_))
     all_goals (first | refine Zc 15 ?_ | refine Zb 15 ?_ | (refine Zn (i := 15) ?_; ((try refine Zk ?_); (first | (refine Ze ?_; refine qQ ?_) | (refine Zj ?_; try intro _)) <;> ((try simp only [kM, kN, kO]); refine Za ?_; refine Zl ?_))))
     all_goals (first | refine Zc 16 ?_ | refine Zb 16 ?_ | (refine Zn (i := 16) ?_; ((try refine Zk ?_); (first | (refine Ze ?_; refine qQ ?_) | (refine Zj ?_; try intro _)) <;> ((try simp only [kM, kN, kO]); refine Za ?_; refine Zl ?_))))
     all_goals ((first | refine Zc 18 ?_ | refine Zb 18 ?_ | refine wCm 18 ?_); refine rPk 19 ?_; refine rFa 20 ?_)
     all_goals (refine Zn (i := 21) ?_; ((try refine Zk ?_); (first | (refine Ze ?_; refine qQ ?_) | (refine Zj ?_; try intro _)) <;> ((try simp only [kM, kN, kO]); refine Za ?_; refine Zl ?_)))
     all_goals refine ZH ?_
     all_goals (repeat' (first | (refine Zg ?_; first | (refine Ze ?_; refine qQ ?_) | refine Zj ?_ | refine qAn ?_ | refine qXo ?_ | refine qNt ?_) | refine Za ?_ | (refine Zh ?_; refine Zq ?_) | (refine Zi ?_; refine Zr ?_) | intro _))
     all_goals have hv : S = ⟨st, ls, cc, false, 0⟩ := by rw [hsF]; congr 1; exact decide_eq_false (fun hh => h2 hh.2.1)
     all_goals subst hv
     all_goals have hfin := hl48
     all_goals exact qE (L' := []) ⟨hfin, w, rfl, hC, rfl⟩
   ·refine ZD (Zo _ _ ([])) (Zx (hT := tk) (Hp.le_refl _)) ?_
    all_goals (refine ZO 0 ?_; refine rCm 1 ?_; refine ZO 2 ?_; (first | refine Zc 3 ?_ | refine Zb 3 ?_ | refine ZU 3 ?_); (first | refine Zc 4 ?_ | refine Zb 4 ?_ | refine ZU 4 ?_); (first | refine Zc 5 ?_ | refine Zb 5 ?_ | refine wSb 5 ?_); (first | refine Zc 6 ?_ | refine Zb 6 ?_ | refine wCm 6 ?_); refine rPk 7 ?_; refine ZO 8 ?_; (first | refine Zc 9 ?_ | refine Zb 9 ?_ | refine wFa 9 ?_))
    all_goals (first | refine Zc 10 ?_ | refine Zb 10 ?_ | (refine Zn (i := 10) ?_; ((try refine Zk ?_); (first | (refine Ze ?_; refine qQ ?_) | (refine Zj ?_; try intro _)) <;> ((try simp only [kM, kN, kO]); refine Za ?_; refine Zl ?_))))
    all_goals ((first | refine Zc 11 ?_ | refine Zb 11 ?_ | refine wCm 11 ?_); refine rPk 12 ?_; refine ZO 13 ?_; (first | refine Zc 14 ?_ | refine Zb 14 ?_ | refine ZU 14 ?_); (first | refine Zc 17 ?_ | refine Zb 17 ?_ | refine wLd 17 ?_))
    all_goals (first | refine Zc 15 ?_ | refine Zb 15 ?_ | (refine Zn (i := 15) ?_; ((try refine Zk ?_); (first | (refine Ze ?_; refine qQ ?_) | (refine Zj ?_; try intro _)) <;> ((try simp only [kM, kN, kO]); refine Za ?_; refine Zl ?_))))
    all_goals (first | refine Zc 16 ?_ | refine Zb 16 ?_ | (refine Zn (i := 16) ?_; ((try refine Zk ?_); (first | (refine Ze ?_; refine qQ ?_) | (refine Zj ?_; try intro _)) <;> ((try simp only [kM, kN, kO]); refine Za ?_; refine Zl ?_))))
    all_goals ((first | refine Zc 18 ?_ | refine Zb 18 ?_ | refine wCm 18 ?_); refine rPk 19 ?_; refine rFa 20 ?_)
    all_goals (refine Zn (i := 21) ?_; ((try refine Zk ?_); (first | (refine Ze ?_; refine qQ ?_) | (refine Zj ?_; try intro _)) <;> ((try simp only [kM, kN, kO]); refine Za ?_; refine Zl ?_)))
    all_goals refine ZH ?_
    all_goals (repeat' (first | (refine Zg ?_; first | (refine Ze ?_; refine qQ ?_) | refine Zj ?_ | refine qAn ?_ | refine qXo ?_ | refine qNt ?_) | refine Za ?_ | (refine Zh ?_; refine Zq ?_) | (refine Zi ?_; refine Zr ?_) | intro _))
    all_goals have hv : S = ⟨st, ls, cc, false, 0⟩ := by rw [hsF]; congr 1; exact decide_eq_false (fun hh => h1 hh.1)
    all_goals subst hv
    all_goals have hfin := hl48
    all_goals exact qE (L' := []) ⟨hfin, w, rfl, hC, rfl⟩
def YA (b : Blk) : Nat := ZP ((b.drop 2).take 8)
theorem Wx (b : Blk) : YA b < 18446744073709551616 := Wy _
def PartOk (num i : Nat) (b : Blk) : Prop := (b.getD 0 0).toNat = num ∧ (b.getD 1 0).toNat = i ∧ ZP (b.drop 60) = sumB (b.take 60)
instance (num i : Nat) (b : Blk) : Decidable (PartOk num i b) := by unfold PartOk; infer_instance
def XG (num i : Nat) (b : Blk) : Nat := if PartOk num i b then YA b else 0
def YN (num : Nat) (a b : Blk) : Nat := max (XG num 0 a) (XG num 1 b)
def Yx (num : Nat) (a b : Blk) (i : Nat) : Nat := if i = 0 then 0 else if i = 1 then XG num 0 a else YN num a b
theorem stamps_spec (ρ : Hp) (num : Nat) (hnum : num < 64) (a b : Blk) (ha : a.length = 64) (hb : b.length = 64) :
  Spec Tryz.prog 73 [.int .i64 num, .agg ⟨(a ++ b).map Zs⟩] ρ [] (fun v ρ' L' => v = .int .u64 (YN num a b : Nat) ∧ ρ.le ρ' ∧ L' = []) := by
 have hab : ((a ++ b).map Zs).length = 128 := by simp [ha, hb]
 have hone := ZI (a ++ b)
 have hld : List.take 128 (List.drop 0 ((a ++ b).map Zs)) = (a ++ b).map Zs := by rw [List.drop_zero, List.take_of_length_le (by omega)]
 refine Zf Tryz.func73 rfl rfl rfl fun u R => ?_
 simp only [Zv, List.cons_append, List.nil_append]
 repeat' (first | (refine Zg ?_; first | (refine Ze ?_; refine qQ ?_) | refine Zj ?_ | refine qAn ?_ | refine qXo ?_ | refine qNt ?_) | refine Za ?_ | (refine Zh ?_; refine Zq ?_) | (refine Zi ?_; refine Zr ?_) | intro _)
 refine ZB [(0, _), (4, _), (8, _)] (fun (ζ : (Nat) × (Hp) × (Nat)) => [(9, .int .i64 ζ.1), (5, .int .u64 ζ.2.2)]) (fun (ζ : (Nat) × (Hp) × (Nat)) => ζ.2.1) (fun (ζ : (Nat) × (Hp) × (Nat)) => []) (fun (ζ : (Nat) × (Hp) × (Nat)) => ζ.1 ≤ 2 ∧ ρ.le ζ.2.1 ∧ ζ.2.2 = Yx num a b ζ.1) (fun (ζ : (Nat) × (Hp) × (Nat)) => 2 - ζ.1) ((0, ρ, 0)) (⟨Nat.zero_le _, Hp.le_refl _, rfl⟩) Zm Zm rfl tk ?_
 rintro ⟨i, ρ5, y⟩ hI
 try simp only [List.cons_append, List.nil_append, List.append_assoc, List.append_eq] at hI ⊢
 try dsimp only at hI ⊢
 obtain ⟨hi, hl5, hy⟩ := hI
 by_cases hlt : i < 2
 ·obtain ⟨blk, hbl, hix, hnx⟩ : ∃ blk : Blk, blk.length = 64 ∧ (((a ++ b).map Zs).drop (i * 64)).take 64 = blk.map Zs ∧ max (Yx num a b i) (XG num i blk) = Yx num a b (i + 1) := by
   rcases (show i = 0 ∨ i = 1 by omega) with rfl | rfl
   ·refine ⟨a, ha, ?_, by simp [Yx]⟩
    rw [List.map_append, Nat.zero_mul, List.drop_zero, List.take_left' (by simpa using ha)]
   ·refine ⟨b, hb, ?_, by simp [Yx, YN]⟩
    rw [List.map_append, Nat.one_mul, List.drop_left' (by simpa using ha), List.take_of_length_le (by simp; omega)]
  have hb64 : (blk.map Zs).length = 64 := by simpa using hbl
  have hbo := ZI blk
  repeat' (first | (refine Yb (y_index_a rfl rfl hlt hix) rfl rfl ?_) | (refine Zg ?_; first | (refine Ze ?_; refine qQ ?_) | refine Zj ?_ | refine qAn ?_ | refine qXo ?_ | refine qNt ?_) | refine Za ?_ | (refine Zh ?_; refine Zq ?_) | (refine Zi ?_; refine Zr ?_) | intro _)
  rename_i b2 b7
  refine Wf [(b7, .cells ⟨blk.map Zs⟩ 51 (0, 0))] (h := by infer_instance) (fun ρ6 hl6 hfz => ?_)
  have hbs := hfz _ (List.mem_singleton.2 rfl)
  dsimp only at hbs
  have hs60 := WQ hbs 60 4 (by omega)
  have hsA := WQ hbs 0 60 (by omega)
  have hs16 := WQ hbs 2 16 (by omega)
  rw [List.drop_zero] at hsA
  have hx60 : ZP (((blk.drop 60).take 4).take 4) = ZP (blk.drop 60) := by rw [List.take_take, List.take_of_length_le (by simp; omega)]
  have hc0 : (blk.map Zs)[0 + Int.toNat 0 * 1]? = some (Zs (blk.getD 0 0)) := by
   rw [show 0 + Int.toNat 0 * 1 = 0 from rfl, List.getElem?_map, List.getD_eq_getElem?_getD, List.getElem?_eq_getElem (by omega)]; rfl
  have hc1 : (blk.map Zs)[0 + Int.toNat 1 * 1]? = some (Zs (blk.getD 1 0)) := by
   rw [show 0 + Int.toNat 1 * 1 = 1 from rfl, List.getElem?_map, List.getD_eq_getElem?_getD, List.getElem?_eq_getElem (by omega)]; rfl
  have hx8 : ZP (((blk.drop 2).take 16).take 8) = YA blk := by rw [List.take_take]; rfl
  have hl0 := (blk.getD 0 0).toNat_lt
  have hl1 := (blk.getD 1 0).toNat_lt
  have hyl : y < 18446744073709551616 := by
   have h1 := Wx a; have h2 := Wx b
   subst hy; unfold Yx YN XG; repeat' split
   all_goals omega
  by_cases h0 : (blk.getD 0 0).toNat = num
  ·by_cases h1 : (blk.getD 1 0).toNat = i
   ·by_cases h2 : ZP (blk.drop 60) = sumB (blk.take 60)
    ·have h2' : ((ZP (blk.drop 60) : Nat) : Int) = ((sumB (blk.take 60) : Nat) : Int) := by rw [h2]
     have hR : XG num i blk = YA blk := if_pos ⟨h0, h1, h2⟩
     rw [hR, ← hy] at hnx
     refine ZD (Zo _ _ ([])) (Zx (hT := tk) (Hp.le_refl _)) ?_
     all_goals (refine rIa 0 ?_; refine rLd 1 ?_; refine rCv 2 ?_; refine ZO 3 ?_; refine rCm 4 ?_; refine ZO 5 ?_; (first | refine Zc 6 ?_ | refine Zb 6 ?_ | refine wIa 6 ?_); (first | refine Zc 7 ?_ | refine Zb 7 ?_ | refine wLd 7 ?_); (first | refine Zc 8 ?_ | refine Zb 8 ?_ | refine wCv 8 ?_); (first | refine Zc 9 ?_ | refine Zb 9 ?_ | refine ZU 9 ?_); (first | refine Zc 10 ?_ | refine Zb 10 ?_ | refine wCm 10 ?_); refine rPk 11 ?_; refine ZO 12 ?_; (first | refine Zc 13 ?_ | refine Zb 13 ?_ | refine wSl 13 ?_); (first | refine Zc 16 ?_ | refine Zb 16 ?_ | refine wSl 16 ?_))
     all_goals (first | refine Zc 14 ?_ | refine Zb 14 ?_ | (refine Zn (i := 14) ?_; ((try refine Zk ?_); (first | (refine Zd (.func 88) ?_; refine qC rfl rfl (read_spec _ _ 4 _ _ (by first | exact hs60 | exact hs60.mono (by assumption)) (by omega)) ?_; rintro v2 ρ2 L2 hle2 ⟨hl2, br, ra, rc, rfl, hrc, hrs, rfl⟩; simp only [List.cons_append, List.nil_append]) | (refine Zj ?_; try intro _)) <;> ((try simp only [kM, kN, kO]); refine Za ?_; refine Zl ?_))))
     all_goals (first | refine Zc 15 ?_ | refine Zb 15 ?_ | (refine Zn (i := 15) ?_; ((try refine Zk ?_); (first | (refine Zd (.func 91) ?_; refine qC rfl rfl (u32_ok _ br ra 4 rc _ hrs hrc (by omega)) ?_; rintro v3 ρ3 L3 hle3 ⟨rfl, rfl, ra3, rn3, rc3, rfl⟩; simp only [List.cons_append, List.nil_append, hx60]) | (refine Zj ?_; try intro _)) <;> ((try simp only [kM, kN, kO]); refine Za ?_; refine Zl ?_))))
     all_goals (first | refine Zc 17 ?_ | refine Zb 17 ?_ | (refine Zn (i := 17) ?_; ((try refine Zk ?_); (first | (refine Zd (.func 60) ?_; refine qC rfl rfl (sum32_spec _ _ 60 _ _ (by first | exact hsA | exact hsA.mono (by assumption)) (by omega)) ?_; rintro v4 ρ4 L4 hle4 ⟨rfl, rfl, rfl⟩; simp only [List.cons_append, List.nil_append]) | (refine Zj ?_; try intro _)) <;> ((try simp only [kM, kN, kO]); refine Za ?_; refine Zl ?_))))
     all_goals (refine ZR ?_; (first | refine Zc 18 ?_ | refine Zb 18 ?_ | refine wCm 18 ?_); refine rPk 19 ?_; refine ZH ?_)
     all_goals have hs16' := hs16.mono hl2
     all_goals (repeat' (first | (refine Zd (.func 88) ?_; refine qC rfl rfl (read_spec _ _ 16 _ _ hs16' (by omega)) ?_; rintro v5 ρ7 L5 hle5 ⟨hl7, br5, ra5, rc5, rfl, hrc5, hrs5, rfl⟩; simp only [List.cons_append, List.nil_append]) | (refine Zd (.func 89) ?_; refine qC rfl rfl (u64_ok _ br5 ra5 16 rc5 _ hrs5 hrc5 (by omega)) ?_; rintro v6 ρ8 L6 hle6 ⟨rfl, rfl, ra6, rc6, hrs6, hrc6, rfl⟩; simp only [List.cons_append, List.nil_append, hx8]) | (refine Zg ?_; first | (refine Ze ?_; refine qQ ?_) | refine Zj ?_ | refine qAn ?_ | refine qXo ?_ | refine qNt ?_) | refine Za ?_ | (refine Zh ?_; refine Zq ?_) | (refine Zi ?_; refine Zr ?_) | intro _))
     all_goals rw [show max ((y : Nat) : Int) ((YA blk : Nat) : Int) = ((max y (YA blk) : Nat) : Int) by omega]
     all_goals have hfin := Hp.le_trans hl5 (Hp.le_trans hl6 (Hp.le_trans hl2 hl7))
     all_goals refine Zp (i + 1, _, max y (YA blk)) (⟨hlt, hfin, hnx⟩) Zm Zm rfl tk inferInstance (by first | omega | (dsimp only; omega))
    ·have h2' : ¬ ((ZP (blk.drop 60) : Nat) : Int) = ((sumB (blk.take 60) : Nat) : Int) := by omega
     refine ZD (Zo _ _ ([])) (Zx (hT := tk) (Hp.le_refl _)) ?_
     all_goals (refine rIa 0 ?_; refine rLd 1 ?_; refine rCv 2 ?_; refine ZO 3 ?_; refine rCm 4 ?_; refine ZO 5 ?_; (first | refine Zc 6 ?_ | refine Zb 6 ?_ | refine wIa 6 ?_); (first | refine Zc 7 ?_ | refine Zb 7 ?_ | refine wLd 7 ?_); (first | refine Zc 8 ?_ | refine Zb 8 ?_ | refine wCv 8 ?_); (first | refine Zc 9 ?_ | refine Zb 9 ?_ | refine ZU 9 ?_); (first | refine Zc 10 ?_ | refine Zb 10 ?_ | refine wCm 10 ?_); refine rPk 11 ?_; refine ZO 12 ?_; (first | refine Zc 13 ?_ | refine Zb 13 ?_ | refine wSl 13 ?_); (first | refine Zc 16 ?_ | refine Zb 16 ?_ | refine wSl 16 ?_))
     all_goals (first | refine Zc 14 ?_ | refine Zb 14 ?_ | (refine Zn (i := 14) ?_; ((try refine Zk ?_); (first | (refine Zd (.func 88) ?_; refine qC rfl rfl (read_spec _ _ 4 _ _ (by first | exact hs60 | exact hs60.mono (by assumption)) (by omega)) ?_; rintro v2 ρ2 L2 hle2 ⟨hl2, br, ra, rc, rfl, hrc, hrs, rfl⟩; simp only [List.cons_append, List.nil_append]) | (refine Zj ?_; try intro _)) <;> ((try simp only [kM, kN, kO]); refine Za ?_; refine Zl ?_))))
     all_goals (first | refine Zc 15 ?_ | refine Zb 15 ?_ | (refine Zn (i := 15) ?_; ((try refine Zk ?_); (first | (refine Zd (.func 91) ?_; refine qC rfl rfl (u32_ok _ br ra 4 rc _ hrs hrc (by omega)) ?_; rintro v3 ρ3 L3 hle3 ⟨rfl, rfl, ra3, rn3, rc3, rfl⟩; simp only [List.cons_append, List.nil_append, hx60]) | (refine Zj ?_; try intro _)) <;> ((try simp only [kM, kN, kO]); refine Za ?_; refine Zl ?_))))
     all_goals (first | refine Zc 17 ?_ | refine Zb 17 ?_ | (refine Zn (i := 17) ?_; ((try refine Zk ?_); (first | (refine Zd (.func 60) ?_; refine qC rfl rfl (sum32_spec _ _ 60 _ _ (by first | exact hsA | exact hsA.mono (by assumption)) (by omega)) ?_; rintro v4 ρ4 L4 hle4 ⟨rfl, rfl, rfl⟩; simp only [List.cons_append, List.nil_append]) | (refine Zj ?_; try intro _)) <;> ((try simp only [kM, kN, kO]); refine Za ?_; refine Zl ?_))))
     all_goals (refine ZR ?_; (first | refine Zc 18 ?_ | refine Zb 18 ?_ | refine wCm 18 ?_); refine rPk 19 ?_; refine ZH ?_)
     all_goals (repeat' (first | (refine Zg ?_; first | (refine Ze ?_; refine qQ ?_) | refine Zj ?_ | refine qAn ?_ | refine qXo ?_ | refine qNt ?_) | refine Za ?_ | (refine Zh ?_; refine Zq ?_) | (refine Zi ?_; refine Zr ?_) | intro _))
     all_goals have hR0 : XG num i blk = 0 := if_neg (fun hh => h2 hh.2.2)
     all_goals rw [hR0, Nat.max_zero, ← hy] at hnx
     all_goals have hfin := Hp.le_trans hl5 (Hp.le_trans hl6 hl2)
     all_goals refine Zp (i + 1, _, y) (⟨hlt, hfin, hnx⟩) Zm Zm rfl tk inferInstance (by first | omega | (dsimp only; omega))
   ·skip
    refine ZD (Zo _ _ ([])) (Zx (hT := tk) (Hp.le_refl _)) ?_
    all_goals (refine rIa 0 ?_; refine rLd 1 ?_; refine rCv 2 ?_; refine ZO 3 ?_; refine rCm 4 ?_; refine ZO 5 ?_; (first | refine Zc 6 ?_ | refine Zb 6 ?_ | refine wIa 6 ?_); (first | refine Zc 7 ?_ | refine Zb 7 ?_ | refine wLd 7 ?_); (first | refine Zc 8 ?_ | refine Zb 8 ?_ | refine wCv 8 ?_); (first | refine Zc 9 ?_ | refine Zb 9 ?_ | refine ZU 9 ?_); (first | refine Zc 10 ?_ | refine Zb 10 ?_ | refine wCm 10 ?_); refine rPk 11 ?_; refine ZO 12 ?_; (first | refine Zc 13 ?_ | refine Zb 13 ?_ | refine wSl 13 ?_); (first | refine Zc 16 ?_ | refine Zb 16 ?_ | refine wSl 16 ?_))
    all_goals (first | refine Zc 14 ?_ | refine Zb 14 ?_ | (refine Zn (i := 14) ?_; ((try refine Zk ?_); (first | (refine Zj ?_; try intro _)) <;> ((try simp only [kM, kN, kO]); refine Za ?_; refine Zl ?_))))
    all_goals (first | refine Zc 15 ?_ | refine Zb 15 ?_ | (refine Zn (i := 15) ?_; ((try refine Zk ?_); (first | (refine Zj ?_; try intro _)) <;> ((try simp only [kM, kN, kO]); refine Za ?_; refine Zl ?_))))
    all_goals (first | refine Zc 17 ?_ | refine Zb 17 ?_ | (refine Zn (i := 17) ?_; ((try refine Zk ?_); (first | (refine Zj ?_; try intro _)) <;> ((try simp only [kM, kN, kO]); refine Za ?_; refine Zl ?_))))
    all_goals (refine ZR ?_; (first | refine Zc 18 ?_ | refine Zb 18 ?_ | refine wCm 18 ?_); refine rPk 19 ?_; refine ZH ?_)
    all_goals (repeat' (first | (refine Zg ?_; first | (refine Ze ?_; refine qQ ?_) | refine Zj ?_ | refine qAn ?_ | refine qXo ?_ | refine qNt ?_) | refine Za ?_ | (refine Zh ?_; refine Zq ?_) | (refine Zi ?_; refine Zr ?_) | intro _))
    all_goals have hR0 : XG num i blk = 0 := if_neg (fun hh => h1 hh.2.1)
    all_goals rw [hR0, Nat.max_zero, ← hy] at hnx
    all_goals refine Zp (i + 1, ρ6, y) (⟨hlt, Hp.le_trans hl5 hl6, hnx⟩) Zm Zm rfl tk inferInstance (by first | omega | (dsimp only; omega))
  ·skip
   refine ZD (Zo _ _ ([])) (Zx (hT := tk) (Hp.le_refl _)) ?_
   all_goals (refine rIa 0 ?_; refine rLd 1 ?_; refine rCv 2 ?_; refine ZO 3 ?_; refine rCm 4 ?_; refine ZO 5 ?_; (first | refine Zc 6 ?_ | refine Zb 6 ?_ | refine wIa 6 ?_); (first | refine Zc 7 ?_ | refine Zb 7 ?_ | refine wLd 7 ?_); (first | refine Zc 8 ?_ | refine Zb 8 ?_ | refine wCv 8 ?_); (first | refine Zc 9 ?_ | refine Zb 9 ?_ | refine ZU 9 ?_); (first | refine Zc 10 ?_ | refine Zb 10 ?_ | refine wCm 10 ?_); refine rPk 11 ?_; refine ZO 12 ?_; (first | refine Zc 13 ?_ | refine Zb 13 ?_ | refine wSl 13 ?_); (first | refine Zc 16 ?_ | refine Zb 16 ?_ | refine wSl 16 ?_))
   all_goals (first | refine Zc 14 ?_ | refine Zb 14 ?_ | (refine Zn (i := 14) ?_; ((try refine Zk ?_); (first | (refine Zj ?_; try intro _)) <;> ((try simp only [kM, kN, kO]); refine Za ?_; refine Zl ?_))))
   all_goals (first | refine Zc 15 ?_ | refine Zb 15 ?_ | (refine Zn (i := 15) ?_; ((try refine Zk ?_); (first | (refine Zj ?_; try intro _)) <;> ((try simp only [kM, kN, kO]); refine Za ?_; refine Zl ?_))))
   all_goals (first | refine Zc 17 ?_ | refine Zb 17 ?_ | (refine Zn (i := 17) ?_; ((try refine Zk ?_); (first | (refine Zj ?_; try intro _)) <;> ((try simp only [kM, kN, kO]); refine Za ?_; refine Zl ?_))))
   all_goals (refine ZR ?_; (first | refine Zc 18 ?_ | refine Zb 18 ?_ | refine wCm 18 ?_); refine rPk 19 ?_; refine ZH ?_)
   all_goals (repeat' (first | (refine Zg ?_; first | (refine Ze ?_; refine qQ ?_) | refine Zj ?_ | refine qAn ?_ | refine qXo ?_ | refine qNt ?_) | refine Za ?_ | (refine Zh ?_; refine Zq ?_) | (refine Zi ?_; refine Zr ?_) | intro _))
   all_goals have hR0 : XG num i blk = 0 := if_neg (fun hh => h0 hh.1)
   all_goals rw [hR0, Nat.max_zero, ← hy] at hnx
   all_goals refine Zp (i + 1, ρ6, y) (⟨hlt, Hp.le_trans hl5 hl6, hnx⟩) Zm Zm rfl tk inferInstance (by first | omega | (dsimp only; omega))
 ·have h2 : i = 2 := by omega
  subst h2
  repeat' (first | (refine Zg ?_; first | (refine Ze ?_; refine qQ ?_) | refine Zj ?_ | refine qAn ?_ | refine qXo ?_ | refine qNt ?_) | refine Za ?_ | (refine Zh ?_; refine Zq ?_) | (refine Zi ?_; refine Zr ?_) | intro _)
  subst hy
  exact qE (L' := []) ⟨rfl, hl5, rfl⟩
structure FIn (ρ : Hp) (fb db base : Nat) : Prop where
 at' : ρ fb = some (.cells ⟨[.pointer (some ⟨db, 0, none⟩), .int .i64 base]⟩ 109 (0, 0))
theorem FIn.mono {ρ ρ' : Hp} {fb db base : Nat} (h : FIn ρ fb db base) (hle : ρ.le ρ') : FIn ρ' fb db base := ⟨Hp.at' hle h.at'⟩
theorem at_spec (ρ : Hp) (fb db base num which : Nat) (h : FIn ρ fb db base) (hb : base ≤ 100000) (hn : num < 64) (hw : which < 2) :
  Spec Tryz.prog 34 [.pointer (some ⟨fb, 0, none⟩), .int .i64 num, .int .i64 which] ρ [] (fun v ρ' L' => v = .int .i64 ((base + 4 * num + 2 * which : Nat) : Int) ∧ ρ' = ρ ∧ L' = []) := by
 have hb1 := h.at'
 refine Zf Tryz.func34 rfl rfl rfl fun u R => ?_
 simp only [Zv, List.cons_append, List.nil_append]
 repeat' (first | (refine Zg ?_; first | (refine Ze ?_; refine qQ ?_) | refine Zj ?_ | refine qAn ?_ | refine qXo ?_ | refine qNt ?_) | refine Za ?_ | (refine Zh ?_; refine Zq ?_) | (refine Zi ?_; refine Zr ?_) | intro _)
 rw [show (base : Int) + (2 * (num : Int) + (which : Int)) * 2 = ((base + 4 * num + 2 * which : Nat) : Int) by omega]
 exact qE (L' := []) ⟨rfl, rfl, rfl⟩
def slotAt (num : Nat) (a b : Blk) : SlD := { ZM num a b with most := YN num a b }
def Wv (D : DS) (i : Nat) : DS × (Blk × Blk) × Int :=
 if (D.read i).2.2 ≠ 0 then ((D.read i).1, (XL, XL), (D.read i).2.2)
 else if ((D.read i).1.read (i + 1 : Nat)).2.2 ≠ 0 then (((D.read i).1.read (i + 1 : Nat)).1, (XL, XL), ((D.read i).1.read (i + 1 : Nat)).2.2)
 else (((D.read i).1.read (i + 1 : Nat)).1, ((D.read i).2.1, ((D.read i).1.read (i + 1 : Nat)).2.1), 0)
def slD (D : DS) (base num : Nat) : Nat → DS
 | 0 => D
 | k + 1 => (Wv (slD D base num k) (base + 4 * num + 2 * k)).1
def slR (D : DS) (base num k : Nat) : DS × (Blk × Blk) × Int := Wv (slD D base num k) (base + 4 * num + 2 * k)
def slY (num : Nat) (r : DS × (Blk × Blk) × Int) : SlD × Int := if r.2.2 ≠ 0 then (zSl, r.2.2) else (slotAt num r.2.1.1 r.2.1.2, 0)
def Yz (D : DS) (base num : Nat) : List (SlD × Int) :=
 if (slR D base num 0).2.2 ≠ 0 then [slY num (slR D base num 0)] else [slY num (slR D base num 0), slY num (slR D base num 1)]
def encS (ρ : Hp) (y : SlD × Int) (vs : List Value) : Prop := ∃ w, vs = [.agg ⟨slV y.1 w⟩, .int .i64 y.2] ∧ CIn ρ w y.1.c.rows y.1.c.kids
theorem rdSlot_ok {D : DS} {i : Nat} (h : D.Ok) : (Wv D i).1.Ok := by
 unfold Wv
 split
 ·exact h.read
 ·split <;> exact h.read.read
theorem slD_ok {D : DS} {base num : Nat} (h : D.Ok) : ∀ k, (slD D base num k).Ok
 | 0 => h
 | k + 1 => rdSlot_ok (slD_ok h k)
theorem rdSlot_secs (D : DS) (i : Nat) : (Wv D i).1.secs = D.secs := by
 unfold Wv
 split
 ·rw [read_secs]
 ·split <;> rw [read_secs, read_secs]
theorem XA (D : DS) (base num : Nat) : ∀ k, (slD D base num k).secs = D.secs
 | 0 => rfl
 | k + 1 => by rw [slD, rdSlot_secs, XA D base num k]
theorem slD_dok {k : DK} {D : DS} {base num : Nat} (h : DOk k D) (j : Nat) : DOk k (slD D base num j) := ⟨slD_ok h.ok j, by rw [XA]; exact h.map⟩
theorem slotsX_at {D : DS} {base num j : Nat} (h : j < (Yz D base num).length) : (Yz D base num)[j] = slY num (slR D base num j) := by
 have : ∀ l : List (SlD × Int), Yz D base num = l → ∀ h : j < l.length, l[j] = slY num (slR D base num j) := by
  intro l hl h
  unfold Yz at hl
  split at hl <;> subst hl
  ·have : j = 0 := by simpa using h
   subst this; rfl
  ·rcases (show j = 0 ∨ j = 1 by simp at h; omega) with rfl | rfl <;> rfl
 exact this _ rfl h
theorem slotsX_len {D : DS} {base num : Nat} (h : (slR D base num 0).2.2 = 0) : (Yz D base num).length = 2 := by
 unfold Yz; rw [if_neg (by simp [h])]; rfl
theorem slotsX_last {D : DS} {base num j : Nat} (h : j < (Yz D base num).length) (he : (slR D base num j).2.2 ≠ 0) : (Yz D base num).length = j + 1 := by
 unfold Yz at h ⊢
 split
 ·rename_i hc
  rw [if_pos hc] at h
  have : j = 0 := by simpa using h
  subst this; rfl
 ·rename_i hc
  rw [if_neg hc] at h
  rcases (show j = 0 ∨ j = 1 by simp at h; omega) with rfl | rfl
  ·exact absurd he hc
  ·rfl
theorem slots_iter (ρ0 : Hp) (b2 b3 fb db base num : Nat) (hf : FIn ρ0 fb db base) (h2 : ρ0 b2 = some (.cells ⟨[.pointer (some ⟨fb, 0, none⟩)]⟩ 30 (0, 0))) (h3 : ρ0 b3 = some (.cells ⟨[.int .i64 num]⟩ 3 (0, 0)))
  (hb : base ≤ 100000) (hn : num < 64) (k : DK) (D : DS) (hD : DOk k D) :
  IterS Tryz.prog 71 [] [.pointer (some ⟨b2, 0, none⟩), .pointer (some ⟨b3, 0, none⟩)] encS ρ0 (fun pre => ZF db k (slD D base num pre.length)) (Yz D base num) := by
 intro l J Jx hM hY ρ Lj hl0 hJ
 have hXl : (Yz D base num).length ≤ 2 := by unfold Yz; split <;> simp
 refine Zf Tryz.func71 rfl rfl rfl fun u R => ?_
 simp only [Zv, List.cons_append, List.nil_append, List.append_assoc, List.length_nil]
 repeat' (first | (refine Zg ?_; first | (refine Ze ?_; refine qQ ?_) | refine Zj ?_ | refine qAn ?_ | refine qXo ?_ | refine qNt ?_) | refine Za ?_ | (refine Zh ?_; refine Zq ?_) | (refine Zi ?_; refine Zr ?_) | intro _)
 refine ZB [(0, _), (1, _), (2, _)] (fun (ζ : (Nat) × (Hp) × (SH)) => [(10, .int .i64 ζ.1)]) (fun (ζ : (Nat) × (Hp) × (SH)) => ζ.2.1) (fun (ζ : (Nat) × (Hp) × (SH)) => ZF db k (slD D base num ζ.1) ++ ζ.2.2) (fun (ζ : (Nat) × (Hp) × (SH)) => ζ.1 ≤ (Yz D base num).length ∧ ρ.le ζ.2.1 ∧ J ((Yz D base num).take ζ.1) ζ.2.1 ζ.2.2 ∧ (ζ.1 < 2 → ζ.1 < (Yz D base num).length)) (fun (ζ : (Nat) × (Hp) × (SH)) => 2 - ζ.1) ((0, ρ, Lj)) (⟨Nat.zero_le _, Hp.le_refl _, hJ, fun _ => by unfold Yz; split <;> simp⟩) Zm Zm rfl tk ?_
 rintro ⟨j, ρ1, L1⟩ hI
 try simp only [List.cons_append, List.nil_append, List.append_assoc, List.append_eq] at hI ⊢
 try dsimp only at hI ⊢
 obtain ⟨hj, hle1, hjj, hjx⟩ := hI
 by_cases hlt : j < 2
 ·have hk2 := hjx hlt
  have hpre := take_succ_pre (Yz D base num) j hk2
  have hts := List.take_succ_eq_append_getElem hk2
  rw [slotsX_at hk2] at hpre hts
  have hlast := slotsX_last (j := j) hk2
  have hlen2 := fun h : j = 0 => slotsX_len (D := D) (base := base) (num := num) |>.comp (fun hh : (slR D base num j).2.2 = 0 => by rw [← h]; exact hh)
  have hSd : slD D base num (j + 1) = (slR D base num j).1 := rfl
  have hDj := slD_dok (base := base) (num := num) hD j
  have hlen : (List.take j (Yz D base num) ++ [slY num (slR D base num j)]).length = j + 1 := by simp; omega
  have hy := fun vs ρ Lj h1 h2 h3 => hY _ _ vs ρ Lj hpre h1 h2 h3
  simp only [hlen, hSd] at hy
  have hR : slR D base num j = Wv (slD D base num j) (base + 4 * num + 2 * j) := rfl
  unfold Wv at hR
  have hat := fun ρ (h : FIn ρ fb db base) => at_spec ρ fb db base num j h hb hn hlt
  have hbd : base + 4 * num + 2 * j ≤ 200000 := by omega
  generalize slR D base num j = RES at *
  generalize base + 4 * num + 2 * j = ix at *
  generalize slD D base num j = Dj at *
  have hk0 : ∀ ρ, Spec Tryz.prog _ _ ρ _ _ := fun ρ => kread ρ db k Dj (ix : Nat) hDj
  have hDa : DOk k (Dj.read (ix : Nat)).1 := ⟨hDj.ok.read, hDj.map.read⟩
  have hs0 := read_len hDj.ok (ix : Nat)
  generalize Dj.read (ix : Nat) = r0 at *
  obtain ⟨Da, s0, e0⟩ := r0
  dsimp only at hR hk0 hDa hs0
  have hk1 : ∀ ρ, Spec Tryz.prog _ _ ρ _ _ := fun ρ => kread ρ db k Da ((ix + 1 : Nat) : Nat) hDa
  have hDb : DOk k (Da.read ((ix + 1 : Nat) : Nat)).1 := ⟨hDa.ok.read, hDa.map.read⟩
  have hs1 := read_len hDa.ok ((ix + 1 : Nat) : Nat)
  generalize Da.read ((ix + 1 : Nat) : Nat) = r1 at *
  obtain ⟨Db, s1, e1⟩ := r1
  dsimp only at hR hk1 hDb hs1
  repeat' (first | (refine Zg ?_; first | (refine Ze ?_; refine qQ ?_) | refine Zj ?_ | refine qAn ?_ | refine qXo ?_ | refine qNt ?_) | refine Za ?_ | (refine Zh ?_; refine Zq ?_) | (refine Zi ?_; refine Zr ?_) | intro _)
  rename_i b5
  have hl01 := Hp.le_trans hl0 hle1
  have hf1 := hf.mono hl01
  have hb2 := Hp.at' hl01 h2
  have hb3 := Hp.at' hl01 h3
  have hfile := hf1.at'
  have hpl0 : (s0.map Zs).length = 64 := by simpa using hs0
  have hpo0 := ZI s0
  have hpl1 : (s1.map Zs).length = 64 := by simpa using hs1
  have hpo1 := ZI s1
  have hst0 : stc ((z8 128).map Zs) (0 + Int.toNat 0 * 64) (s0.map Zs) = (s0 ++ z8 64).map Zs := by simp [stc, z8, hs0]
  have hst1 : stc ((s0 ++ z8 64).map Zs) (0 + Int.toNat 1 * 64) (s1.map Zs) = (s0 ++ s1).map Zs := by simp [stc, z8, hs0, hs1]
  have hl128 : ((s0 ++ z8 64).map Zs).length = 128 := by simp [z8, hs0]
  have hlc : ((s0 ++ s1).map Zs).length = 128 := by simp [hs0, hs1]
  have hoc := ZI (s0 ++ s1)
  have hix0 : (ix : Int) + 0 = (ix : Int) := by omega
  have hix1 : (ix : Int) + 1 = ((ix + 1 : Nat) : Int) := by omega
  refine ZB [(0, _), (1, _), (2, _), (4, _), (5, _), (10, _), (11, _), (12, _)] (fun (ζ : (Int) × (List Value) × (DS)) => [(13, .int .i64 ζ.1)]) (fun (ζ : (Int) × (List Value) × (DS)) => ρ1) (fun (ζ : (Int) × (List Value) × (DS)) => [[(b5, .cells ⟨ζ.2.1⟩ 52 (0, 0))]] ++ ZF db k ζ.2.2) (fun (ζ : (Int) × (List Value) × (DS)) => DOk k ζ.2.2 ∧ ((ζ.1 = 0 ∧ ζ.2.2 = Dj ∧ ζ.2.1 = (z8 128).map Zs) ∨ (ζ.1 = 1 ∧ ζ.2.2 = Da ∧ e0 = 0 ∧ ζ.2.1 = (s0 ++ z8 64).map Zs) ∨ (ζ.1 = 2 ∧ ζ.2.2 = Db ∧ e0 = 0 ∧ e1 = 0 ∧ ζ.2.1 = (s0 ++ s1).map Zs))) (fun (ζ : (Int) × (List Value) × (DS)) => (2 - ζ.1).toNat) ((0, (z8 128).map Zs, Dj)) (⟨hDj, .inl ⟨rfl, rfl, rfl⟩⟩) Zm Zm rfl tk ?_
  rintro ⟨i, cs, D1⟩ hI
  try simp only [List.cons_append, List.nil_append, List.append_assoc, List.append_eq] at hI ⊢
  try dsimp only at hI ⊢
  obtain ⟨hD1, hor⟩ := hI
  rcases hor with ⟨rfl, rfl, rfl⟩ | ⟨rfl, rfl, rfl, rfl⟩ | ⟨rfl, rfl, rfl, rfl, rfl⟩
  ·by_cases he : e0 = 0
   ·subst he
    repeat' (first | (refine Zg ?_; first | (refine Ze ?_; refine qQ ?_) | refine Zj ?_ | refine qAn ?_ | refine qXo ?_ | refine qNt ?_) | refine Za ?_ | (refine Zh ?_; refine Zq ?_) | (refine Zi ?_; refine Zr ?_) | intro _)
    refine ZD (Zo _ _ ([])) (Zx (hT := tk) (Hp.le_refl _)) ?_
    all_goals (refine rLd 0 ?_; refine rNc 1 ?_; refine rFa 2 ?_; refine rLd 3 ?_; refine rLd 4 ?_; refine rLd 5 ?_; refine ZO 6 ?_; refine ZO 8 ?_)
    all_goals (refine Xh (i := 7) (j := 14) ?_ ?_ <;> ((try refine Zk ?_); (first | (refine Zd (.func 34) ?_; refine qC rfl rfl ((hat _ hf1)) ?_; rintro v ρ' L' hle ⟨rfl, rfl, rfl⟩ <;> (try simp only [kM, kN, kO])) | (refine Ze ?_; refine qQ ?_) | (refine Zj ?_; try intro _)) <;> ((try simp only [kM, kN, kO]); refine Za ?_; refine Zl ?_)))
    all_goals (first | refine rAd 9 ?_ | (refine Zn (i := 7) ?_; ((try refine Zk ?_); (first | (refine Zd (.func 34) ?_; refine qC rfl rfl ((hat _ hf1)) ?_; rintro v ρ' L' hle ⟨rfl, rfl, rfl⟩ <;> (try simp only [kM, kN, kO])) | (refine Ze ?_; refine qQ ?_) | (refine Zj ?_; try intro _)) <;> ((try simp only [kM, kN, kO]); refine Za ?_; refine Zl ?_))))
    all_goals (first | refine rAd 9 ?_ | (refine Xh (i := 10) (j := 14) ?_ ?_ <;> ((try refine Zk ?_); (first | (simp only [hix0]; refine Zd (.func 37) ?_; refine qC rfl rfl (hk0 _) ?_; rintro v2 ρ2 L2 hle2 ⟨rfl, rfl, hD2, rfl⟩; try simp only [kM, kN, kO]) | (refine Ze ?_; refine qQ ?_) | (refine Zj ?_; try intro _)) <;> ((try simp only [kM, kN, kO]); refine Za ?_; refine Zl ?_))))
    all_goals (first | refine ZO 11 ?_ | (refine Zn (i := 10) ?_; ((try refine Zk ?_); (first | (simp only [hix0]; refine Zd (.func 37) ?_; refine qC rfl rfl (hk0 _) ?_; rintro v2 ρ2 L2 hle2 ⟨rfl, rfl, hD2, rfl⟩; try simp only [kM, kN, kO]) | (refine Ze ?_; refine qQ ?_) | (refine Zj ?_; try intro _)) <;> ((try simp only [kM, kN, kO]); refine Za ?_; refine Zl ?_))))
    all_goals (first | refine ZO 11 ?_ | refine rEx 12 ?_)
    all_goals (first | refine rEx 12 ?_ | (refine Xh (i := 13) (j := 14) ?_ ?_ <;> ((try refine Zk ?_); (first | (refine Zd (.func 34) ?_; refine qC rfl rfl ((hat _ hf1)) ?_; rintro v ρ' L' hle ⟨rfl, rfl, rfl⟩ <;> (try simp only [kM, kN, kO])) | (simp only [hix0]; refine Zd (.func 37) ?_; refine qC rfl rfl (hk0 _) ?_; rintro v2 ρ2 L2 hle2 ⟨rfl, rfl, hD2, rfl⟩; try simp only [kM, kN, kO]) | (refine Ze ?_; refine qQ ?_) | (refine Zj ?_; try intro _)) <;> ((try simp only [kM, kN, kO]); refine Za ?_; refine Zl ?_))))
    all_goals (first | (refine Zn (i := 14) ?_; ((try refine Zk ?_); (first | (refine Ze ?_; refine qQ ?_) | (refine Zj ?_; try intro _)) <;> ((try simp only [kM, kN, kO]); refine Za ?_; refine Zl ?_))) | (refine Xh (i := 13) (j := 15) ?_ ?_ <;> ((try refine Zk ?_); (first | (refine Zd (.func 34) ?_; refine qC rfl rfl ((hat _ hf1)) ?_; rintro v ρ' L' hle ⟨rfl, rfl, rfl⟩ <;> (try simp only [kM, kN, kO])) | (simp only [hix0]; refine Zd (.func 37) ?_; refine qC rfl rfl (hk0 _) ?_; rintro v2 ρ2 L2 hle2 ⟨rfl, rfl, hD2, rfl⟩; try simp only [kM, kN, kO]) | (refine Ze ?_; refine qQ ?_) | (refine Zj ?_; try intro _)) <;> ((try simp only [kM, kN, kO]); refine Za ?_; refine Zl ?_))))
    all_goals (first | (refine Zn (i := 15) ?_; ((try refine Zk ?_); (first | (refine Ze ?_; refine qQ ?_) | (refine Zj ?_; try intro _)) <;> ((try simp only [kM, kN, kO]); refine Za ?_; refine Zl ?_))) | (refine Zn (i := 13) ?_; ((try refine Zk ?_); (first | (refine Zd (.func 34) ?_; refine qC rfl rfl ((hat _ hf1)) ?_; rintro v ρ' L' hle ⟨rfl, rfl, rfl⟩ <;> (try simp only [kM, kN, kO])) | (simp only [hix0]; refine Zd (.func 37) ?_; refine qC rfl rfl (hk0 _) ?_; rintro v2 ρ2 L2 hle2 ⟨rfl, rfl, hD2, rfl⟩; try simp only [kM, kN, kO]) | (refine Ze ?_; refine qQ ?_) | (refine Zj ?_; try intro _)) <;> ((try simp only [kM, kN, kO]); refine Za ?_; refine Zl ?_))))
    all_goals (refine ZR ?_; refine rAs 16 ?_; refine ZH ?_)
    all_goals (repeat' (first | (refine Zg ?_; first | (refine Ze ?_; refine qQ ?_) | refine Zj ?_ | refine qAn ?_ | refine qXo ?_ | refine qNt ?_) | refine Za ?_ | (refine Zh ?_; refine Zq ?_) | (refine Zi ?_; refine Zr ?_) | intro _))
    all_goals rw [hst0]
    all_goals refine Zp (1, (s0 ++ z8 64).map Zs, Da) (⟨hD2, .inr (.inl (by simp))⟩) Zm Zm rfl tk inferInstance (by first | omega | (dsimp only; omega))
   ·have hcb : (e0 != 0) = true := by simpa using he
    have hRE : RES = (Da, (XL, XL), e0) := by rw [hR]; exact if_pos he
    subst hRE
    have hsY : slY num (Da, (XL, XL), e0) = (zSl, e0) := if_pos he
    rw [hsY] at hy hts
    have hln := hlast he
    have hfull : Yz D base num = List.take j (Yz D base num) ++ [(zSl, e0)] := by rw [← hts]; exact (List.take_of_length_le (by omega)).symm
    have hyE := fun ρ h1 h3 => hy [.agg ⟨slV zSl ⟨none, 0, 0, none, 0, 0⟩⟩, .int .i64 e0] ρ L1 h1 ⟨⟨none, 0, 0, none, 0, 0⟩, rfl, CIn.nil⟩ h3
    repeat' (first | (refine Zg ?_; first | (refine Ze ?_; refine qQ ?_) | refine Zj ?_ | refine qAn ?_ | refine qXo ?_ | refine qNt ?_) | refine Za ?_ | (refine Zh ?_; refine Zq ?_) | (refine Zi ?_; refine Zr ?_) | intro _)
    refine ZD (Zo _ _ ([])) (Zx (hT := tk) (Hp.le_refl _)) ?_
    all_goals (refine rLd 0 ?_; refine rNc 1 ?_; refine rFa 2 ?_; refine rLd 3 ?_; refine rLd 4 ?_; refine rLd 5 ?_; refine ZO 6 ?_; refine ZO 8 ?_)
    all_goals (refine Xh (i := 7) (j := 14) ?_ ?_ <;> ((try refine Zk ?_); (first | (refine Zd (.func 34) ?_; refine qC rfl rfl ((hat _ hf1)) ?_; rintro v ρ' L' hle ⟨rfl, rfl, rfl⟩ <;> (try simp only [kM, kN, kO])) | (refine Ze ?_; refine qQ ?_) | (refine Zj ?_; try intro _)) <;> ((try simp only [kM, kN, kO]); refine Za ?_; refine Zl ?_)))
    all_goals (first | refine rAd 9 ?_ | (refine Zn (i := 7) ?_; ((try refine Zk ?_); (first | (refine Zd (.func 34) ?_; refine qC rfl rfl ((hat _ hf1)) ?_; rintro v ρ' L' hle ⟨rfl, rfl, rfl⟩ <;> (try simp only [kM, kN, kO])) | (refine Ze ?_; refine qQ ?_) | (refine Zj ?_; try intro _)) <;> ((try simp only [kM, kN, kO]); refine Za ?_; refine Zl ?_))))
    all_goals (first | refine rAd 9 ?_ | (refine Xh (i := 10) (j := 14) ?_ ?_ <;> ((try refine Zk ?_); (first | (simp only [hix0]; refine Zd (.func 37) ?_; refine qC rfl rfl (hk0 _) ?_; rintro v2 ρ2 L2 hle2 ⟨rfl, rfl, hD2, rfl⟩; try simp only [kM, kN, kO]) | (refine Ze ?_; refine qQ ?_) | (refine Zj ?_; try intro _)) <;> ((try simp only [kM, kN, kO]); refine Za ?_; refine Zl ?_))))
    all_goals (first | refine ZO 11 ?_ | (refine Zn (i := 10) ?_; ((try refine Zk ?_); (first | (simp only [hix0]; refine Zd (.func 37) ?_; refine qC rfl rfl (hk0 _) ?_; rintro v2 ρ2 L2 hle2 ⟨rfl, rfl, hD2, rfl⟩; try simp only [kM, kN, kO]) | (refine Ze ?_; refine qQ ?_) | (refine Zj ?_; try intro _)) <;> ((try simp only [kM, kN, kO]); refine Za ?_; refine Zl ?_))))
    all_goals (first | refine ZO 11 ?_ | refine rEx 12 ?_)
    all_goals (first | refine rEx 12 ?_ | (refine Xh (i := 13) (j := 14) ?_ ?_ <;> ((try refine Zk ?_); (first | (refine Zd (.func 34) ?_; refine qC rfl rfl ((hat _ hf1)) ?_; rintro v ρ' L' hle ⟨rfl, rfl, rfl⟩ <;> (try simp only [kM, kN, kO])) | (simp only [hix0]; refine Zd (.func 37) ?_; refine qC rfl rfl (hk0 _) ?_; rintro v2 ρ2 L2 hle2 ⟨rfl, rfl, hD2, rfl⟩; try simp only [kM, kN, kO]) | (refine Ze ?_; refine qQ ?_) | (refine Zj ?_; try intro _)) <;> ((try simp only [kM, kN, kO]); refine Za ?_; refine Zl ?_))))
    all_goals (first | (refine Zn (i := 14) ?_; ((try refine Zk ?_); (first | (refine Ze ?_; refine qQ ?_) | (refine Zj ?_; try intro _)) <;> ((try simp only [kM, kN, kO]); refine Za ?_; refine Zl ?_))) | (refine Xh (i := 13) (j := 15) ?_ ?_ <;> ((try refine Zk ?_); (first | (refine Zd (.func 34) ?_; refine qC rfl rfl ((hat _ hf1)) ?_; rintro v ρ' L' hle ⟨rfl, rfl, rfl⟩ <;> (try simp only [kM, kN, kO])) | (simp only [hix0]; refine Zd (.func 37) ?_; refine qC rfl rfl (hk0 _) ?_; rintro v2 ρ2 L2 hle2 ⟨rfl, rfl, hD2, rfl⟩; try simp only [kM, kN, kO]) | (refine Ze ?_; refine qQ ?_) | (refine Zj ?_; try intro _)) <;> ((try simp only [kM, kN, kO]); refine Za ?_; refine Zl ?_))))
    all_goals (first | (refine Zn (i := 15) ?_; ((try refine Zk ?_); (first | (refine Ze ?_; refine qQ ?_) | (refine Zj ?_; try intro _)) <;> ((try simp only [kM, kN, kO]); refine Za ?_; refine Zl ?_))) | (refine Zn (i := 13) ?_; ((try refine Zk ?_); (first | (refine Zd (.func 34) ?_; refine qC rfl rfl ((hat _ hf1)) ?_; rintro v ρ' L' hle ⟨rfl, rfl, rfl⟩ <;> (try simp only [kM, kN, kO])) | (simp only [hix0]; refine Zd (.func 37) ?_; refine qC rfl rfl (hk0 _) ?_; rintro v2 ρ2 L2 hle2 ⟨rfl, rfl, hD2, rfl⟩; try simp only [kM, kN, kO]) | (refine Ze ?_; refine qQ ?_) | (refine Zj ?_; try intro _)) <;> ((try simp only [kM, kN, kO]); refine Za ?_; refine Zl ?_))))
    all_goals (refine ZR ?_; refine rAs 16 ?_; refine ZH ?_)
    all_goals try simp only [hcb]
    all_goals (repeat' (first | (refine Zd (.tmp 32) ?_; refine qY rfl rfl (hyE _ hl01 hjj) ?_; rintro v ρ' L' hle ⟨Lj', rfl, ⟨rfl, hj'⟩ | ⟨rfl, hj'⟩⟩ <;> (try simp only [kM, kN, kO])) | (refine Zg ?_; first | (refine Ze ?_; refine qQ ?_) | refine Zj ?_ | refine qAn ?_ | refine qXo ?_ | refine qNt ?_) | refine Za ?_ | (refine Zh ?_; refine Zq ?_) | (refine Zi ?_; refine Zr ?_) | intro _))
    all_goals first | exact qE (L' := ZF db k Da ++ Lj') ⟨Lj', .inl ⟨by show ZF db k Da ++ Lj' = ZF db k (slD D base num (Yz D base num).length) ++ Lj'; rw [hln, hSd], by rw [hfull]; exact hj'⟩⟩ | exact qE (L' := ZF db k Da ++ Lj') ⟨Lj', .inr ⟨List.take j (Yz D base num) ++ [(zSl, e0)], by show ZF db k Da ++ Lj' = ZF db k (slD D base num _) ++ Lj'; rw [← hfull, hln, hSd], hj'⟩⟩
  ·by_cases he : e1 = 0
   ·subst he
    repeat' (first | (refine Zg ?_; first | (refine Ze ?_; refine qQ ?_) | refine Zj ?_ | refine qAn ?_ | refine qXo ?_ | refine qNt ?_) | refine Za ?_ | (refine Zh ?_; refine Zq ?_) | (refine Zi ?_; refine Zr ?_) | intro _)
    refine ZD (Zo _ _ ([])) (Zx (hT := tk) (Hp.le_refl _)) ?_
    all_goals (refine rLd 0 ?_; refine rNc 1 ?_; refine rFa 2 ?_; refine rLd 3 ?_; refine rLd 4 ?_; refine rLd 5 ?_; refine ZO 6 ?_; refine ZO 8 ?_)
    all_goals (refine Xh (i := 7) (j := 14) ?_ ?_ <;> ((try refine Zk ?_); (first | (refine Zd (.func 34) ?_; refine qC rfl rfl ((hat _ hf1)) ?_; rintro v ρ' L' hle ⟨rfl, rfl, rfl⟩ <;> (try simp only [kM, kN, kO])) | (refine Ze ?_; refine qQ ?_) | (refine Zj ?_; try intro _)) <;> ((try simp only [kM, kN, kO]); refine Za ?_; refine Zl ?_)))
    all_goals (first | refine rAd 9 ?_ | (refine Zn (i := 7) ?_; ((try refine Zk ?_); (first | (refine Zd (.func 34) ?_; refine qC rfl rfl ((hat _ hf1)) ?_; rintro v ρ' L' hle ⟨rfl, rfl, rfl⟩ <;> (try simp only [kM, kN, kO])) | (refine Ze ?_; refine qQ ?_) | (refine Zj ?_; try intro _)) <;> ((try simp only [kM, kN, kO]); refine Za ?_; refine Zl ?_))))
    all_goals (first | refine rAd 9 ?_ | (refine Xh (i := 10) (j := 14) ?_ ?_ <;> ((try refine Zk ?_); (first | (simp only [hix1]; refine Zd (.func 37) ?_; refine qC rfl rfl (hk1 _) ?_; rintro v2 ρ2 L2 hle2 ⟨rfl, rfl, hD2, rfl⟩; try simp only [kM, kN, kO]) | (refine Ze ?_; refine qQ ?_) | (refine Zj ?_; try intro _)) <;> ((try simp only [kM, kN, kO]); refine Za ?_; refine Zl ?_))))
    all_goals (first | refine ZO 11 ?_ | (refine Zn (i := 10) ?_; ((try refine Zk ?_); (first | (simp only [hix1]; refine Zd (.func 37) ?_; refine qC rfl rfl (hk1 _) ?_; rintro v2 ρ2 L2 hle2 ⟨rfl, rfl, hD2, rfl⟩; try simp only [kM, kN, kO]) | (refine Ze ?_; refine qQ ?_) | (refine Zj ?_; try intro _)) <;> ((try simp only [kM, kN, kO]); refine Za ?_; refine Zl ?_))))
    all_goals (first | refine ZO 11 ?_ | refine rEx 12 ?_)
    all_goals (first | refine rEx 12 ?_ | (refine Xh (i := 13) (j := 14) ?_ ?_ <;> ((try refine Zk ?_); (first | (refine Zd (.func 34) ?_; refine qC rfl rfl ((hat _ hf1)) ?_; rintro v ρ' L' hle ⟨rfl, rfl, rfl⟩ <;> (try simp only [kM, kN, kO])) | (simp only [hix1]; refine Zd (.func 37) ?_; refine qC rfl rfl (hk1 _) ?_; rintro v2 ρ2 L2 hle2 ⟨rfl, rfl, hD2, rfl⟩; try simp only [kM, kN, kO]) | (refine Ze ?_; refine qQ ?_) | (refine Zj ?_; try intro _)) <;> ((try simp only [kM, kN, kO]); refine Za ?_; refine Zl ?_))))
    all_goals (first | (refine Zn (i := 14) ?_; ((try refine Zk ?_); (first | (refine Ze ?_; refine qQ ?_) | (refine Zj ?_; try intro _)) <;> ((try simp only [kM, kN, kO]); refine Za ?_; refine Zl ?_))) | (refine Xh (i := 13) (j := 15) ?_ ?_ <;> ((try refine Zk ?_); (first | (refine Zd (.func 34) ?_; refine qC rfl rfl ((hat _ hf1)) ?_; rintro v ρ' L' hle ⟨rfl, rfl, rfl⟩ <;> (try simp only [kM, kN, kO])) | (simp only [hix1]; refine Zd (.func 37) ?_; refine qC rfl rfl (hk1 _) ?_; rintro v2 ρ2 L2 hle2 ⟨rfl, rfl, hD2, rfl⟩; try simp only [kM, kN, kO]) | (refine Ze ?_; refine qQ ?_) | (refine Zj ?_; try intro _)) <;> ((try simp only [kM, kN, kO]); refine Za ?_; refine Zl ?_))))
    all_goals (first | (refine Zn (i := 15) ?_; ((try refine Zk ?_); (first | (refine Ze ?_; refine qQ ?_) | (refine Zj ?_; try intro _)) <;> ((try simp only [kM, kN, kO]); refine Za ?_; refine Zl ?_))) | (refine Zn (i := 13) ?_; ((try refine Zk ?_); (first | (refine Zd (.func 34) ?_; refine qC rfl rfl ((hat _ hf1)) ?_; rintro v ρ' L' hle ⟨rfl, rfl, rfl⟩ <;> (try simp only [kM, kN, kO])) | (simp only [hix1]; refine Zd (.func 37) ?_; refine qC rfl rfl (hk1 _) ?_; rintro v2 ρ2 L2 hle2 ⟨rfl, rfl, hD2, rfl⟩; try simp only [kM, kN, kO]) | (refine Ze ?_; refine qQ ?_) | (refine Zj ?_; try intro _)) <;> ((try simp only [kM, kN, kO]); refine Za ?_; refine Zl ?_))))
    all_goals (refine ZR ?_; refine rAs 16 ?_; refine ZH ?_)
    all_goals (repeat' (first | (refine Zg ?_; first | (refine Ze ?_; refine qQ ?_) | refine Zj ?_ | refine qAn ?_ | refine qXo ?_ | refine qNt ?_) | refine Za ?_ | (refine Zh ?_; refine Zq ?_) | (refine Zi ?_; refine Zr ?_) | intro _))
    all_goals rw [hst1]
    all_goals refine Zp (2, (s0 ++ s1).map Zs, Db) (⟨hD2, .inr (.inr (by simp))⟩) Zm Zm rfl tk inferInstance (by first | omega | (dsimp only; omega))
   ·have hcb : (e1 != 0) = true := by simpa using he
    have hRE : RES = (Db, (XL, XL), e1) := by rw [hR]; rw [if_neg (by simp)]; exact if_pos he
    subst hRE
    have hsY : slY num (Db, (XL, XL), e1) = (zSl, e1) := if_pos he
    rw [hsY] at hy hts
    have hln := hlast he
    have hfull : Yz D base num = List.take j (Yz D base num) ++ [(zSl, e1)] := by rw [← hts]; exact (List.take_of_length_le (by omega)).symm
    have hyE := fun ρ h1 h3 => hy [.agg ⟨slV zSl ⟨none, 0, 0, none, 0, 0⟩⟩, .int .i64 e1] ρ L1 h1 ⟨⟨none, 0, 0, none, 0, 0⟩, rfl, CIn.nil⟩ h3
    repeat' (first | (refine Zg ?_; first | (refine Ze ?_; refine qQ ?_) | refine Zj ?_ | refine qAn ?_ | refine qXo ?_ | refine qNt ?_) | refine Za ?_ | (refine Zh ?_; refine Zq ?_) | (refine Zi ?_; refine Zr ?_) | intro _)
    refine ZD (Zo _ _ ([])) (Zx (hT := tk) (Hp.le_refl _)) ?_
    all_goals (refine rLd 0 ?_; refine rNc 1 ?_; refine rFa 2 ?_; refine rLd 3 ?_; refine rLd 4 ?_; refine rLd 5 ?_; refine ZO 6 ?_; refine ZO 8 ?_)
    all_goals (refine Xh (i := 7) (j := 14) ?_ ?_ <;> ((try refine Zk ?_); (first | (refine Zd (.func 34) ?_; refine qC rfl rfl ((hat _ hf1)) ?_; rintro v ρ' L' hle ⟨rfl, rfl, rfl⟩ <;> (try simp only [kM, kN, kO])) | (refine Ze ?_; refine qQ ?_) | (refine Zj ?_; try intro _)) <;> ((try simp only [kM, kN, kO]); refine Za ?_; refine Zl ?_)))
    all_goals (first | refine rAd 9 ?_ | (refine Zn (i := 7) ?_; ((try refine Zk ?_); (first | (refine Zd (.func 34) ?_; refine qC rfl rfl ((hat _ hf1)) ?_; rintro v ρ' L' hle ⟨rfl, rfl, rfl⟩ <;> (try simp only [kM, kN, kO])) | (refine Ze ?_; refine qQ ?_) | (refine Zj ?_; try intro _)) <;> ((try simp only [kM, kN, kO]); refine Za ?_; refine Zl ?_))))
    all_goals (first | refine rAd 9 ?_ | (refine Xh (i := 10) (j := 14) ?_ ?_ <;> ((try refine Zk ?_); (first | (simp only [hix1]; refine Zd (.func 37) ?_; refine qC rfl rfl (hk1 _) ?_; rintro v2 ρ2 L2 hle2 ⟨rfl, rfl, hD2, rfl⟩; try simp only [kM, kN, kO]) | (refine Ze ?_; refine qQ ?_) | (refine Zj ?_; try intro _)) <;> ((try simp only [kM, kN, kO]); refine Za ?_; refine Zl ?_))))
    all_goals (first | refine ZO 11 ?_ | (refine Zn (i := 10) ?_; ((try refine Zk ?_); (first | (simp only [hix1]; refine Zd (.func 37) ?_; refine qC rfl rfl (hk1 _) ?_; rintro v2 ρ2 L2 hle2 ⟨rfl, rfl, hD2, rfl⟩; try simp only [kM, kN, kO]) | (refine Ze ?_; refine qQ ?_) | (refine Zj ?_; try intro _)) <;> ((try simp only [kM, kN, kO]); refine Za ?_; refine Zl ?_))))
    all_goals (first | refine ZO 11 ?_ | refine rEx 12 ?_)
    all_goals (first | refine rEx 12 ?_ | (refine Xh (i := 13) (j := 14) ?_ ?_ <;> ((try refine Zk ?_); (first | (refine Zd (.func 34) ?_; refine qC rfl rfl ((hat _ hf1)) ?_; rintro v ρ' L' hle ⟨rfl, rfl, rfl⟩ <;> (try simp only [kM, kN, kO])) | (simp only [hix1]; refine Zd (.func 37) ?_; refine qC rfl rfl (hk1 _) ?_; rintro v2 ρ2 L2 hle2 ⟨rfl, rfl, hD2, rfl⟩; try simp only [kM, kN, kO]) | (refine Ze ?_; refine qQ ?_) | (refine Zj ?_; try intro _)) <;> ((try simp only [kM, kN, kO]); refine Za ?_; refine Zl ?_))))
    all_goals (first | (refine Zn (i := 14) ?_; ((try refine Zk ?_); (first | (refine Ze ?_; refine qQ ?_) | (refine Zj ?_; try intro _)) <;> ((try simp only [kM, kN, kO]); refine Za ?_; refine Zl ?_))) | (refine Xh (i := 13) (j := 15) ?_ ?_ <;> ((try refine Zk ?_); (first | (refine Zd (.func 34) ?_; refine qC rfl rfl ((hat _ hf1)) ?_; rintro v ρ' L' hle ⟨rfl, rfl, rfl⟩ <;> (try simp only [kM, kN, kO])) | (simp only [hix1]; refine Zd (.func 37) ?_; refine qC rfl rfl (hk1 _) ?_; rintro v2 ρ2 L2 hle2 ⟨rfl, rfl, hD2, rfl⟩; try simp only [kM, kN, kO]) | (refine Ze ?_; refine qQ ?_) | (refine Zj ?_; try intro _)) <;> ((try simp only [kM, kN, kO]); refine Za ?_; refine Zl ?_))))
    all_goals (first | (refine Zn (i := 15) ?_; ((try refine Zk ?_); (first | (refine Ze ?_; refine qQ ?_) | (refine Zj ?_; try intro _)) <;> ((try simp only [kM, kN, kO]); refine Za ?_; refine Zl ?_))) | (refine Zn (i := 13) ?_; ((try refine Zk ?_); (first | (refine Zd (.func 34) ?_; refine qC rfl rfl ((hat _ hf1)) ?_; rintro v ρ' L' hle ⟨rfl, rfl, rfl⟩ <;> (try simp only [kM, kN, kO])) | (simp only [hix1]; refine Zd (.func 37) ?_; refine qC rfl rfl (hk1 _) ?_; rintro v2 ρ2 L2 hle2 ⟨rfl, rfl, hD2, rfl⟩; try simp only [kM, kN, kO]) | (refine Ze ?_; refine qQ ?_) | (refine Zj ?_; try intro _)) <;> ((try simp only [kM, kN, kO]); refine Za ?_; refine Zl ?_))))
    all_goals (refine ZR ?_; refine rAs 16 ?_; refine ZH ?_)
    all_goals try simp only [hcb]
    all_goals (repeat' (first | (refine Zd (.tmp 32) ?_; refine qY rfl rfl (hyE _ hl01 hjj) ?_; rintro v ρ' L' hle ⟨Lj', rfl, ⟨rfl, hj'⟩ | ⟨rfl, hj'⟩⟩ <;> (try simp only [kM, kN, kO])) | (refine Zg ?_; first | (refine Ze ?_; refine qQ ?_) | refine Zj ?_ | refine qAn ?_ | refine qXo ?_ | refine qNt ?_) | refine Za ?_ | (refine Zh ?_; refine Zq ?_) | (refine Zi ?_; refine Zr ?_) | intro _))
    all_goals first | exact qE (L' := ZF db k Db ++ Lj') ⟨Lj', .inl ⟨by show ZF db k Db ++ Lj' = ZF db k (slD D base num (Yz D base num).length) ++ Lj'; rw [hln, hSd], by rw [hfull]; exact hj'⟩⟩ | exact qE (L' := ZF db k Db ++ Lj') ⟨Lj', .inr ⟨List.take j (Yz D base num) ++ [(zSl, e1)], by show ZF db k Db ++ Lj' = ZF db k (slD D base num _) ++ Lj'; rw [← hfull, hln, hSd], hj'⟩⟩
  ·have hRE : RES = (D1, (s0, s1), 0) := by rw [hR, if_neg (by simp), if_neg (by simp)]
   subst hRE
   have hsY : slY num (D1, (s0, s1), 0) = (slotAt num s0 s1, 0) := if_neg (by simp)
   rw [hsY] at hy hts
   have hsa := fun ρ => says_spec ρ num hn s0 s1 hs0 hs1
   have hsm := fun ρ => stamps_spec ρ num hn s0 s1 hs0 hs1
   repeat' (first | (refine Zd (.func 72) ?_; refine qC rfl rfl (hsa _) ?_; rintro v3 ρ3 L3 hle3 ⟨hl3, w, rfl, hC, rfl⟩; have hb3' := Hp.at' hl3 hb3; try simp only [kM, kN, kO]) | (refine Zg ?_; first | (refine Ze ?_; refine qQ ?_) | refine Zj ?_ | refine qAn ?_ | refine qXo ?_ | refine qNt ?_) | refine Za ?_ | (refine Zh ?_; refine Zq ?_) | (refine Zi ?_; refine Zr ?_) | intro _)
   repeat' (first | (refine Zd (.func 73) ?_; refine qC rfl rfl (hsm _) ?_; rintro v4 ρ4 L4 hle4 ⟨rfl, hl4, rfl⟩; try simp only [kM, kN, kO]) | (refine Zg ?_; first | (refine Ze ?_; refine qQ ?_) | refine Zj ?_ | refine qAn ?_ | refine qXo ?_ | refine qNt ?_) | refine Za ?_ | (refine Zh ?_; refine Zq ?_) | (refine Zi ?_; refine Zr ?_) | intro _)
   have hl14 := Hp.le_trans hl3 hl4
   have hyG := hy [.agg ⟨slV (slotAt num s0 s1) w⟩, .int .i64 0] ρ4 L1 (Hp.le_trans hl01 hl14) ⟨w, rfl, hC.mono hl4⟩ (hM _ _ _ _ hl14 hjj)
   repeat' (first | (refine Zd (.tmp 47) ?_; refine qY rfl rfl (hyG) ?_; rintro v ρ' L' hle ⟨Lj', rfl, ⟨rfl, hj'⟩ | ⟨rfl, hj'⟩⟩ <;> (try simp only [kM, kN, kO])) | (refine Zg ?_; first | (refine Ze ?_; refine qQ ?_) | refine Zj ?_ | refine qAn ?_ | refine qXo ?_ | refine qNt ?_) | refine Za ?_ | (refine Zh ?_; refine Zq ?_) | (refine Zi ?_; refine Zr ?_) | intro _)
   ·have hD1e : D1 = slD D base num (j + 1) := hSd.symm
    have hfl : j + 1 < 2 → j + 1 < (Yz D base num).length := fun h => by
     have := hlen2 (by omega) rfl; omega
    repeat' (first | (refine Zg ?_; first | (refine Ze ?_; refine qQ ?_) | refine Zj ?_ | refine qAn ?_ | refine qXo ?_ | refine qNt ?_) | refine Za ?_ | (refine Zh ?_; refine Zq ?_) | (refine Zi ?_; refine Zr ?_) | intro _)
    rw [hD1e]
    refine Zp (j + 1, ρ', Lj') (⟨hk2, Hp.le_trans hle1 (Hp.le_trans hl14 hle), by dsimp only; rw [hts]; exact hj', hfl⟩) Zm Zm rfl tk inferInstance (by first | omega | (dsimp only; omega))
   ·exact qE (L' := ZF db k D1 ++ Lj') ⟨Lj', .inr ⟨List.take j (Yz D base num) ++ [(slotAt num s0 s1, 0)], by show ZF db k D1 ++ Lj' = ZF db k (slD D base num _) ++ Lj'; rw [List.length_append, List.length_singleton, List.length_take, Nat.min_eq_left (by omega), hSd], hj'⟩⟩
 ·have h2 : j = 2 := by omega
  subst h2
  have hln : (Yz D base num).length = 2 := by omega
  rw [List.take_of_length_le (by omega)] at hjj
  repeat' (first | (refine Zg ?_; first | (refine Ze ?_; refine qQ ?_) | refine Zj ?_ | refine qAn ?_ | refine qXo ?_ | refine qNt ?_) | refine Za ?_ | (refine Zh ?_; refine Zq ?_) | (refine Zi ?_; refine Zr ?_) | intro _)
  exact qE (L' := ZF db k (slD D base num 2) ++ L1) ⟨L1, .inl ⟨by show ZF db k (slD D base num 2) ++ L1 = ZF db k (slD D base num (Yz D base num).length) ++ L1; rw [hln], hjj⟩⟩
theorem slots_spec (ρ : Hp) (fb num : Nat) :
  Spec Tryz.prog 51 [.pointer (some ⟨fb, 0, none⟩), .int .i64 num] ρ [] (fun v ρ' L' => ρ.le ρ' ∧ ∃ b2 b3, v = .func (.func 71) ⟨[]⟩ ⟨[.pointer (some ⟨b2, 0, none⟩), .pointer (some ⟨b3, 0, none⟩)]⟩ ∧ ρ' b2 = some (.cells ⟨[.pointer (some ⟨fb, 0, none⟩)]⟩ 30 (0, 0)) ∧ ρ' b3 = some (.cells ⟨[.int .i64 num]⟩ 3 (0, 0)) ∧ L' = []) := by
 refine Zf Tryz.func51 rfl rfl rfl fun u R => ?_
 simp only [Zv, List.cons_append, List.nil_append]
 repeat' (first | (refine Zg ?_; first | (refine Ze ?_; refine qQ ?_) | refine Zj ?_ | refine qAn ?_ | refine qXo ?_ | refine qNt ?_) | refine Za ?_ | (refine Zh ?_; refine Zq ?_) | (refine Zi ?_; refine Zr ?_) | intro _)
 rename_i b2 b3
 refine Xd [(b2, .cells ⟨[.pointer (some ⟨fb, 0, none⟩)]⟩ 30 (0, 0))] (h := by infer_instance) (fun ρ1 hl1 hf1 => ?_)
 refine Xd [(b3, .cells ⟨[.int .i64 num]⟩ 3 (0, 0))] (h := by infer_instance) (fun ρ2 hl2 hf2 => ?_)
 have h1 := Hp.at' hl2 (hf1 _ (List.mem_singleton.2 rfl))
 have h2 := hf2 _ (List.mem_singleton.2 rfl)
 have hfin := Hp.le_trans hl1 hl2
 exact qE (L' := []) ⟨hfin, b2, b3, rfl, h1, h2, rfl⟩
structure CS where
 best : SlD
 other : Nat
 most : Nat
def CS.step (a : CS) (which : Nat) (s : SlD) : CS :=
 if s.right = true ∧ (a.best.right = false ∨ a.best.stamp < s.stamp) then ⟨s, 1 - which, max a.most s.most⟩ else ⟨a.best, a.other, max a.most s.most⟩
def csTo (D : DS) (base num : Nat) : Nat → CS
 | 0 => ⟨zSl, 0, 0⟩
 | k + 1 => (csTo D base num k).step k (slY num (slR D base num k)).1
theorem pre_last {α : Type} {pre X : List α} {y : α} (h : pre ++ [y] <+: X) : ∃ hl : pre.length < X.length, X[pre.length] = y := by
 obtain ⟨t, rfl⟩ := h
 exact ⟨by simp, by simp⟩
theorem saysF_lt (num : Nat) (a b : Blk) : (ZM num a b).stamp < 18446744073709551616 ∧ (ZM num a b).lsn < 18446744073709551616 := by
 unfold ZM
 split
 ·exact ⟨by decide, by decide⟩
 ·exact ⟨Wy _, Wy _⟩
theorem stampsF_lt (num : Nat) (a b : Blk) : YN num a b < 18446744073709551616 := by
 have h1 := Wx a; have h2 := Wx b
 unfold YN XG
 repeat' split
 all_goals omega
structure SlLt (s : SlD) : Prop where
 stamp : s.stamp < 18446744073709551616
 lsn : s.lsn < 18446744073709551616
 most : s.most < 18446744073709551616
theorem zSl_lt : SlLt zSl := ⟨by decide, by decide, by decide⟩
theorem slY_lt (num : Nat) (r : DS × (Blk × Blk) × Int) : SlLt (slY num r).1 := by
 unfold slY
 split
 ·exact zSl_lt
 ·exact ⟨(saysF_lt _ _ _).1, (saysF_lt _ _ _).2, stampsF_lt _ _ _⟩
theorem csTo_lt (D : DS) (base num : Nat) : ∀ k, SlLt (csTo D base num k).best ∧ (csTo D base num k).most < 18446744073709551616 ∧ (csTo D base num k).other < 2
 | 0 => ⟨zSl_lt, by show (0 : Nat) < _; omega, by show (0 : Nat) < 2; omega⟩
 | k + 1 => by
  obtain ⟨h1, h2, h3⟩ := csTo_lt D base num k
  have h4 := slY_lt num (slR D base num k)
  have h5 := h4.most
  rw [csTo, CS.step]
  split
  ·exact ⟨h4, by dsimp only; omega, by dsimp only; omega⟩
  ·exact ⟨h1, by dsimp only; omega, h3⟩
def ZA (D : DS) (base num : Nat) : (SlD × Nat) × DS × Int :=
 if (slR D base num 0).2.2 ≠ 0 then ((zSl, 0), (slR D base num 0).1, (slR D base num 0).2.2)
 else if (slR D base num 1).2.2 ≠ 0 then ((zSl, 0), (slR D base num 1).1, (slR D base num 1).2.2)
 else (({ (csTo D base num 2).best with most := (csTo D base num 2).most }, (csTo D base num 2).other), slD D base num 2, 0)
abbrev cntC (b4 b5 b6 b7 b8 : Nat) (s : SlD) (w : CV) (other : Int) (e which : Int) (most : Nat) : SH := [[(b4, .cells ⟨slV s w⟩ 78 (0, 0))], [(b5, .cells ⟨[.int .i64 other]⟩ 3 (0, 0))], [(b6, .cells ⟨[.int .i64 e]⟩ 26 (0, 0))], [(b7, .cells ⟨[.int .i64 which]⟩ 3 (0, 0))], [(b8, .cells ⟨[.int .u64 most]⟩ 37 (0, 0))]]
abbrev zCV : CV := ⟨none, 0, 0, none, 0, 0⟩
theorem fcounts_spec (ρ : Hp) (fb db base num : Nat) (hf : FIn ρ fb db base) (hb : base ≤ 100000) (hn : num < 64) (k : DK) (D : DS) (hD : DOk k D) :
  Spec Tryz.prog 27 [.pointer (some ⟨fb, 0, none⟩), .int .i64 num] ρ (ZF db k D) (fun v ρ' L' => ρ.le ρ' ∧ ∃ w, v = .tuple ⟨[.agg ⟨slV (ZA D base num).1.1 w⟩, .int .i64 (ZA D base num).1.2, .int .i64 (ZA D base num).2.2]⟩ ∧ CIn ρ' w (ZA D base num).1.1.c.rows (ZA D base num).1.1.c.kids ∧ DOk k (ZA D base num).2.1 ∧ L' = ZF db k (ZA D base num).2.1) := by
 refine Zf Tryz.func27 rfl rfl rfl fun u R => ?_
 simp only [Zv, List.cons_append, List.nil_append]
 repeat' (first | (refine Zd (.func 51) ?_; refine qC rfl rfl (slots_spec _ fb num) ?_; rintro v1 ρ1 L1 hle1 ⟨hl1, c2, c3, rfl, hc2, hc3, rfl⟩; try simp only [kM, kN, kO]) | (refine Zg ?_; first | (refine Ze ?_; refine qQ ?_) | refine Zj ?_ | refine qAn ?_ | refine qXo ?_ | refine qNt ?_) | refine Za ?_ | (refine Zh ?_; refine Zq ?_) | (refine Zi ?_; refine Zr ?_) | intro _)
 rename_i b4 b5 b6 b7 b8
 have hf1 := hf.mono hl1
 have hIt := slots_iter ρ1 c2 c3 fb db base num hf1 hc2 hc3 hb hn k D hD
 have hXl : (Yz D base num).length ≤ 2 := by unfold Yz; split <;> simp
 have hlt := csTo_lt D base num
 refine tc_rangeFuncS (S := fun pre => ZF db k (slD D base num pre.length)) (L0 := cntC b4 b5 b6 b7 b8 zSl zCV 0 0 0 0) (R := R) (R0 := [(b8, .cells ⟨[.int .u64 0]⟩ 37 (0, 0))] :: [(b7, .cells ⟨[.int .i64 0]⟩ 3 (0, 0))] :: [(b6, .cells ⟨[.int .i64 0]⟩ 26 (0, 0))] :: [(b5, .cells ⟨[.int .i64 0]⟩ 3 (0, 0))] :: [(b4, .cells ⟨slV zSl zCV⟩ 78 (0, 0))] :: R) rfl rfl hIt (Hp.le_refl _) (fun ρ y vs ⟨w, e, _⟩ => by rw [e]; rfl) rfl
  (fun pre ρ2 Lu => ρ1.le ρ2 ∧ (∀ j, j < pre.length → (slR D base num j).2.2 = 0) ∧ ∃ w, CIn ρ2 w (csTo D base num pre.length).best.c.rows (csTo D base num pre.length).best.c.kids ∧ Lu = cntC b4 b5 b6 b7 b8 (csTo D base num pre.length).best w (csTo D base num pre.length).other 0 pre.length (csTo D base num pre.length).most)
  (fun pre c ρ2 Lu => c = .ret ∧ ρ1.le ρ2 ∧ ∃ which most e, e ≠ 0 ∧ ZA D base num = ((zSl, 0), slD D base num pre.length, e) ∧ Lu = cntC b4 b5 b6 b7 b8 zSl zCV 0 e which most)
  ?k1 ?k2 (fun pre ρ2 ρ3 Lj h23 ⟨h1, h2, w, h3, h4⟩ => ⟨Hp.le_trans h1 h23, h2, w, h3.mono h23, h4⟩) ⟨Hp.le_refl _, by simp, zCV, CIn.nil, rfl⟩ ?round ?done ?stop
 case k1 => exact tk
 case k2 => exact tk
 case round =>
  rintro l tm r pre y vs ρ2 Lu u R' hpre hl2 ⟨w, rfl, hC⟩ ⟨hl3, hno, w0, hC0, rfl⟩ hr hrec
  obtain ⟨hpl, hy⟩ := pre_last hpre
  rw [slotsX_at hpl] at hy
  have hp2 : pre.length < 2 := by omega
  simp only [envP, List.cons_append, List.nil_append, List.length_append, List.length_singleton]
  have hq := hlt pre.length
  repeat' (first | (refine Zg ?_; first | (refine Ze ?_; refine qQ ?_) | refine Zj ?_ | refine qAn ?_ | refine qXo ?_ | refine qNt ?_) | refine Za ?_ | (refine Zh ?_; refine Zq ?_) | (refine Zi ?_; refine Zr ?_) | intro _)
  refine Xj [(l, .loop r)] ?_
  refine te_begin rfl hr (fun r' hbz hrec' => ?_)
  rename_i b9
  have hy2 : y.2 = (slR D base num pre.length).2.2 := by
   rw [← hy]; unfold slY; split
   ·rfl
   ·rename_i hc; simp only [ne_eq, Decidable.not_not] at hc; rw [hc]
  by_cases he : y.2 = 0
  ·have hno' : ∀ j, j < pre.length + 1 → (slR D base num j).2.2 = 0 := fun j hj => by
    rcases (show j < pre.length ∨ j = pre.length by omega) with h | h
    ·exact hno j h
    ·rw [h, ← hy2, he]
   have YD : csTo D base num (pre.length + 1) = (csTo D base num pre.length).step pre.length y.1 := by rw [← hy]; rfl
   have hsl := slY_lt num (slR D base num pre.length)
   rw [hy] at hsl
   obtain ⟨s, e⟩ := y
   dsimp only at he YD hC hsl
   subst he
   clear hy hy2
   unfold CS.step at YD
   obtain ⟨hb1, hb2, hb3⟩ := hq
   have hb4 := hb1.stamp
   have hb5 := hsl.stamp
   have hb6 := hsl.most
   generalize csTo D base num pre.length = a at *
   obtain ⟨sst, sls, sc, srt, smo⟩ := s
   obtain ⟨⟨bst, bls, bc, brt, bmo⟩, aot, amo⟩ := a
   dsimp only at *
   have h1w : (1 : Int) - (pre.length : Int) = ((1 - pre.length : Nat) : Int) := by omega
   have h2w : (pre.length : Int) + 1 = ((pre.length + 1 : Nat) : Int) := by omega
   have h3m : max ((amo : Nat) : Int) ((smo : Nat) : Int) = ((max amo smo : Nat) : Int) := by omega
   cases srt
   ·skip
    rw [if_neg (by simp)] at YD
    repeat' (first | (refine Zg ?_; first | (refine Ze ?_; refine qQ ?_) | refine Zj ?_ | refine qAn ?_ | refine qXo ?_ | refine qNt ?_) | refine Za ?_ | (refine Zh ?_; refine Zq ?_) | (refine Zi ?_; refine Zr ?_) | intro _)
    simp only [h2w, h3m]
    refine Xj [(l, .loop r')] ?_
    refine te_next (Lu := cntC b4 b5 b6 b7 b8 ⟨bst, bls, bc, brt, bmo⟩ w0 aot 0 ((pre.length + 1 : Nat) : Int) (max amo smo)) rfl (Hp.le_refl _) ⟨hrec'.tmps.trans hrec.tmps, hrec'.params.trans hrec.params, hrec'.assign.trans hrec.assign, hrec'.body.trans hrec.body⟩ tk tk inferInstance ?_
    exact ⟨hl3, hno', w0, by rw [YD]; exact hC0, by rw [YD]⟩
   ·cases brt
    ·skip
     rw [if_pos (by simp)] at YD
     repeat' (first | (refine Zg ?_; first | (refine Ze ?_; refine qQ ?_) | refine Zj ?_ | refine qAn ?_ | refine qXo ?_ | refine qNt ?_) | refine Za ?_ | (refine Zh ?_; refine Zq ?_) | (refine Zi ?_; refine Zr ?_) | intro _)
     refine ZD (Zo _ _ ([[(b9, .cells ⟨slV ⟨sst, sls, sc, true, smo⟩ w⟩ 78 (0, 0))], [(b7, .cells ⟨[.int .i64 (pre.length : Nat)]⟩ 3 (0, 0))]])) (Zx (hT := tk) (Hp.le_refl _)) ?_
     all_goals (refine rLd 0 ?_; refine rLd 1 ?_; refine rSb 2 ?_)
     all_goals (refine Zn (i := 3) ?_; ((try refine Zk ?_); (first | (refine Zj ?_; try intro _)) <;> ((try simp only [kM, kN, kO]); refine Za ?_; refine Zl ?_)))
     all_goals (refine Zn (i := 4) ?_; ((try refine Zk ?_); (first | (refine Zj ?_; try intro _)) <;> ((try simp only [kM, kN, kO]); refine Za ?_; refine Zl ?_)))
     all_goals refine ZH ?_
     all_goals (repeat' (first | (refine Zg ?_; first | (refine Ze ?_; refine qQ ?_) | refine Zj ?_ | refine qAn ?_ | refine qXo ?_ | refine qNt ?_) | refine Za ?_ | (refine Zh ?_; refine Zq ?_) | (refine Zi ?_; refine Zr ?_) | intro _))
     all_goals simp only [h1w, h2w, h3m]
     all_goals refine Xj [(l, .loop r')] ?_
     all_goals refine te_next (Lu := cntC b4 b5 b6 b7 b8 ⟨sst, sls, sc, true, smo⟩ w ((1 - pre.length : Nat) : Int) 0 ((pre.length + 1 : Nat) : Int) (max amo smo)) rfl (Hp.le_refl _) ⟨hrec'.tmps.trans hrec.tmps, hrec'.params.trans hrec.params, hrec'.assign.trans hrec.assign, hrec'.body.trans hrec.body⟩ tk tk inferInstance ?_
     all_goals exact ⟨hl3, hno', w, by rw [YD]; exact hC, by rw [YD]⟩
    ·by_cases hlt2 : bst < sst
     ·have hlt3 : ((bst : Nat) : Int) < ((sst : Nat) : Int) := by omega
      rw [if_pos (⟨rfl, .inr hlt2⟩)] at YD
      repeat' (first | (refine Zg ?_; first | (refine Ze ?_; refine qQ ?_) | refine Zj ?_ | refine qAn ?_ | refine qXo ?_ | refine qNt ?_) | refine Za ?_ | (refine Zh ?_; refine Zq ?_) | (refine Zi ?_; refine Zr ?_) | intro _)
      refine ZD (Zo _ _ ([[(b9, .cells ⟨slV ⟨sst, sls, sc, true, smo⟩ w⟩ 78 (0, 0))], [(b7, .cells ⟨[.int .i64 (pre.length : Nat)]⟩ 3 (0, 0))]])) (Zx (hT := tk) (Hp.le_refl _)) ?_
      all_goals (refine rLd 0 ?_; refine rLd 1 ?_; refine rSb 2 ?_)
      all_goals (refine Zn (i := 3) ?_; ((try refine Zk ?_); (first | (refine Zj ?_; try intro _)) <;> ((try simp only [kM, kN, kO]); refine Za ?_; refine Zl ?_)))
      all_goals (refine Zn (i := 4) ?_; ((try refine Zk ?_); (first | (refine Zj ?_; try intro _)) <;> ((try simp only [kM, kN, kO]); refine Za ?_; refine Zl ?_)))
      all_goals refine ZH ?_
      all_goals (repeat' (first | (refine Zg ?_; first | (refine Ze ?_; refine qQ ?_) | refine Zj ?_ | refine qAn ?_ | refine qXo ?_ | refine qNt ?_) | refine Za ?_ | (refine Zh ?_; refine Zq ?_) | (refine Zi ?_; refine Zr ?_) | intro _))
      all_goals simp only [h1w, h2w, h3m]
      all_goals refine Xj [(l, .loop r')] ?_
      all_goals refine te_next (Lu := cntC b4 b5 b6 b7 b8 ⟨sst, sls, sc, true, smo⟩ w ((1 - pre.length : Nat) : Int) 0 ((pre.length + 1 : Nat) : Int) (max amo smo)) rfl (Hp.le_refl _) ⟨hrec'.tmps.trans hrec.tmps, hrec'.params.trans hrec.params, hrec'.assign.trans hrec.assign, hrec'.body.trans hrec.body⟩ tk tk inferInstance ?_
      all_goals exact ⟨hl3, hno', w, by rw [YD]; exact hC, by rw [YD]⟩
     ·have hlt3 : ¬ ((bst : Nat) : Int) < ((sst : Nat) : Int) := by omega
      rw [if_neg (by simp; omega)] at YD
      repeat' (first | (refine Zg ?_; first | (refine Ze ?_; refine qQ ?_) | refine Zj ?_ | refine qAn ?_ | refine qXo ?_ | refine qNt ?_) | refine Za ?_ | (refine Zh ?_; refine Zq ?_) | (refine Zi ?_; refine Zr ?_) | intro _)
      simp only [h2w, h3m]
      refine Xj [(l, .loop r')] ?_
      refine te_next (Lu := cntC b4 b5 b6 b7 b8 ⟨bst, bls, bc, true, bmo⟩ w0 aot 0 ((pre.length + 1 : Nat) : Int) (max amo smo)) rfl (Hp.le_refl _) ⟨hrec'.tmps.trans hrec.tmps, hrec'.params.trans hrec.params, hrec'.assign.trans hrec.assign, hrec'.body.trans hrec.body⟩ tk tk inferInstance ?_
      exact ⟨hl3, hno', w0, by rw [YD]; exact hC0, by rw [YD]⟩
  ·have hcb : (y.2 != 0) = true := by simpa using he
   have hcd : ZA D base num = ((zSl, 0), slD D base num (pre.length + 1), y.2) := by
    rw [hy2] at he ⊢
    unfold ZA
    rcases (show pre.length = 0 ∨ pre.length = 1 by omega) with h | h
    ·rw [h] at he ⊢; rw [if_pos he]; rfl
    ·rw [h] at he ⊢; rw [if_neg (by have := hno 0 (by omega); simp [this]), if_pos he]; rfl
   repeat' (first | (refine Zg ?_; first | (refine Ze ?_; refine qQ ?_) | refine Zj ?_ | refine qAn ?_ | refine qXo ?_ | refine qNt ?_) | refine Za ?_ | (refine Zh ?_; refine Zq ?_) | (refine Zi ?_; refine Zr ?_) | intro _)
   refine Xj [(l, .loop r')] ?_
   refine te_leave (Lu := cntC b4 b5 b6 b7 b8 zSl zCV 0 y.2 pre.length (csTo D base num pre.length).most) rfl rfl (Hp.le_refl _) ⟨hrec'.tmps.trans hrec.tmps, hrec'.params.trans hrec.params, hrec'.assign.trans hrec.assign, hrec'.body.trans hrec.body⟩ tk tk inferInstance ?_
   exact ⟨rfl, hl3, _, _, y.2, he, hcd, rfl⟩
 case done =>
  rintro D0 ρ2 Lu hl2 ⟨hl3, hno, w, hC, rfl⟩
  have h0 : (slR D base num 0).2.2 = 0 := hno 0 (by unfold Yz; split <;> simp)
  have hln := slotsX_len h0
  have h1 := hno 1 (by omega)
  have hcd : ZA D base num = (({ (csTo D base num 2).best with most := (csTo D base num 2).most }, (csTo D base num 2).other), slD D base num 2, 0) := by
   unfold ZA
   rw [if_neg (by simp [h0]), if_neg (by simp [h1])]
  rw [hln] at hC
  simp only [List.cons_append, List.nil_append, hln]
  generalize csTo D base num 2 = a at *
  obtain ⟨⟨bst, bls, bc, brt, bmo⟩, aot, amo⟩ := a
  dsimp only at *
  have hfin := Hp.le_trans hl1 hl3
  repeat' (first | (refine Zg ?_; first | (refine Ze ?_; refine qQ ?_) | refine Zj ?_ | refine qAn ?_ | refine qXo ?_ | refine qNt ?_) | refine Za ?_ | (refine Zh ?_; refine Zq ?_) | (refine Zi ?_; refine Zr ?_) | intro _)
  refine ZD (Zo _ _ ([])) (Zx (hT := tk) (Hp.le_refl _)) ?_
  all_goals (refine Xh (i := 0) (j := 1) ?_ ?_ <;> ((try refine Zk ?_); (first | (refine Ze ?_; refine qQ ?_) | (refine Zj ?_; try intro _)) <;> ((try simp only [kM, kN, kO]); refine Za ?_; refine Zl ?_)))
  all_goals (first | (refine Xh (i := 1) (j := 2) ?_ ?_ <;> ((try refine Zk ?_); (first | (refine Ze ?_; refine qQ ?_) | (refine Zj ?_; try intro _)) <;> ((try simp only [kM, kN, kO]); refine Za ?_; refine Zl ?_))) | (refine Zn (i := 0) ?_; ((try refine Zk ?_); (first | (refine Ze ?_; refine qQ ?_) | (refine Zj ?_; try intro _)) <;> ((try simp only [kM, kN, kO]); refine Za ?_; refine Zl ?_))))
  all_goals (first | (refine Zn (i := 2) ?_; ((try refine Zk ?_); (first | (refine Ze ?_; refine qQ ?_) | (refine Zj ?_; try intro _)) <;> ((try simp only [kM, kN, kO]); refine Za ?_; refine Zl ?_))) | (refine Zn (i := 1) ?_; ((try refine Zk ?_); (first | (refine Ze ?_; refine qQ ?_) | (refine Zj ?_; try intro _)) <;> ((try simp only [kM, kN, kO]); refine Za ?_; refine Zl ?_))))
  all_goals (refine Zn (i := 3) ?_; ((try refine Zk ?_); (first | (refine Ze ?_; refine qQ ?_) | (refine Zj ?_; try intro _)) <;> ((try simp only [kM, kN, kO]); refine Za ?_; refine Zl ?_)))
  all_goals (refine Zn (i := 4) ?_; ((try refine Zk ?_); (first | (refine Ze ?_; refine qQ ?_) | (refine Zj ?_; try intro _)) <;> ((try simp only [kM, kN, kO]); refine Za ?_; refine Zl ?_)))
  all_goals refine ZH ?_
  all_goals (repeat' (first | (refine Zg ?_; first | (refine Ze ?_; refine qQ ?_) | refine Zj ?_ | refine qAn ?_ | refine qXo ?_ | refine qNt ?_) | refine Za ?_ | (refine Zh ?_; refine Zq ?_) | (refine Zi ?_; refine Zr ?_) | intro _))
  all_goals refine Xj [(D0, .deferred (some []))] ?_
  all_goals rw [hcd]
  all_goals exact te_end_d rfl rfl rfl inferInstance (WG rfl (ZV rfl rfl) (ZG rfl rfl) (ZG rfl rfl)) hfin tk (by infer_instance) (L' := ZF db k (slD D base num 2)) ⟨hfin, w, rfl, hC, slD_dok hD 2, rfl⟩
 case stop =>
  rintro D0 pre c ρ2 Lu hl2 ⟨rfl, hl3, which, most, e, he, hcd, rfl⟩
  simp only [List.cons_append, List.nil_append]
  have hfin := Hp.le_trans hl1 hl3
  repeat' (first | (refine Zg ?_; first | (refine Ze ?_; refine qQ ?_) | refine Zj ?_ | refine qAn ?_ | refine qXo ?_ | refine qNt ?_) | refine Za ?_ | (refine Zh ?_; refine Zq ?_) | (refine Zi ?_; refine Zr ?_) | intro _)
  refine Xj [(D0, .deferred (some []))] ?_
  rw [hcd]
  exact te_end_d rfl rfl rfl inferInstance (WG rfl (ZV rfl rfl) (ZG rfl rfl) (ZG rfl rfl)) hfin tk (by infer_instance) (L' := ZF db k (slD D base num pre.length)) ⟨hfin, zCV, rfl, CIn.nil, slD_dok hD _, rfl⟩
end Go.Proofs.E
