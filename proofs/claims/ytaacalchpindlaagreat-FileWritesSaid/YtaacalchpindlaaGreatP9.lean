/- The law FileWrites. Part 9 of 17. -/
import Derived.Test.YtaacalchpindlaaGreatP8
namespace Go.Proofs.E
open Go
set_option linter.unusedVariables false
set_option linter.unusedSimpArgs false
set_option linter.unusedSectionVars false
set_option maxRecDepth 4000
set_option maxHeartbeats 1000000
attribute [local irreducible] Yl TL TC TE Spec XM R1 Hp.le EnvLe TS TR YS Zo
theorem bytesR_spec (ρ : Hp) (w : CV) (c : Yr) (h : CIn ρ w c.rows c.kids) (hok : ZN c = true) (hir : ∀ r ∈ c.rows, r.id < 65536) (hik : ∀ k ∈ c.kids, k.id < 65536) :
  Spec Tryz.prog 41 [.agg ⟨Yt c.kind w⟩] ρ [] (fun v ρ' L' => ρ.le ρ' ∧ ∃ a n c', v = .slice a n c' ∧ n ≤ c' ∧ SIn ρ' Zs a n (Yk c) ∧ L' = []) := by
 obtain ⟨hkind, hrl, hkl, hrow, hkid⟩ := XE hok
 obtain ⟨kind, rows, kids⟩ := c
 obtain ⟨ra, rn, rc, ka, kn, kc⟩ := w
 obtain ⟨hr, hk, hrb, hkb, hrc, hkc⟩ := h
 dsimp only at hkind hrc hkc hr hk hrb hkb hrow hkid hrl hkl hir hik ⊢
 have hrn := hr.len
 have hkn := hk.len
 have hcr := lenB (n := rn) (by omega)
 have hck := lenB (n := kn) (by omega)
 have hkB := tB_eq (t := kind) (by omega) (by omega)
 refine Zf Tryz.func41 rfl rfl rfl fun u R => ?_
 simp only [Zv, List.cons_append, List.nil_append]
 dsimp only [Yt]
 repeat' (first | (refine ZC rfl rfl rfl rfl (by simp) rfl rfl (fun _ => ?_); simp only [hkB]) | (refine Zg ?_; first | (refine Ze ?_; refine qQ ?_) | refine Zj ?_) | refine Za ?_ | (refine Zh ?_; refine Zq ?_) | (refine Zi ?_; refine Zr ?_) | intro _)
 rename_i b1 b2
 rw [show ([(b2, Obj.cells ⟨[Zs (tB kind)]⟩ 5 (0, 0))] : List (Nat × Obj)) = Ye (.slice (some ⟨b2, 0, none⟩) 1 1) ([tB kind].map Zs) [] 5 from rfl]
 have hown0 : OwnS (.slice (some ⟨b2, 0, none⟩) 1 1) 1 ([tB kind].map Zs) [] 1 := ⟨.inr ⟨b2, 1, rfl, rfl, rfl, Nat.le_refl _⟩⟩
 generalize Value.slice (some ⟨b2, 0, none⟩) 1 1 = v0 at *
 rcases hkind with ⟨rfl, rfl, rfl⟩ | ⟨rfl, rfl⟩ | ⟨rfl, rfl, hk1⟩
 ·repeat' (first | (refine Zg ?_; first | (refine Ze ?_; refine qQ ?_) | refine Zj ?_) | refine Za ?_ | (refine Zh ?_; refine Zq ?_) | (refine Zi ?_; refine Zr ?_) | intro _)
  refine Xd _ (h := Rem.here) (fun ρ6 hle6 hfz => ?_)
  obtain ⟨a6, c6, rfl, hc6, hs6⟩ := hown0.sIn hfz
  exact qE ⟨hle6, a6, _, c6, rfl, hc6, hs6, rfl⟩
 ·have hX : ∀ B0, [tB 1] ++ [UInt8.ofNat rn] = B0 → B0.length = 2 := fun B0 e => by rw [← e]; rfl
  repeat' (first | (refine ZC rfl rfl rfl rfl (by simp) rfl rfl (fun _ => ?_); simp only [hcr]) | (refine Yh (ys := [Zs (UInt8.ofNat rn)]) (m := 1) rfl rfl hown0 (hR := by infer_instance) SrcV.lit rfl rfl (by decide) rfl (by omega) (by omega) rfl (fun v1 sp1 hown1 => ?_); rw [show [tB 1].map Zs ++ [Zs (UInt8.ofNat rn)] = (([tB 1] ++ [UInt8.ofNat rn]) ++ (rows.take 0).flatMap ZL).map Zs by simp] at hown1 ⊢) | (refine Zg ?_; first | (refine Ze ?_; refine qQ ?_) | refine Zj ?_) | refine Za ?_ | (refine Zh ?_; refine Zq ?_) | (refine Zi ?_; refine Zr ?_) | intro _)
  generalize hB0 : [tB 1] ++ [UInt8.ofNat rn] = B0 at *
  have hBl := hX _ rfl
  clear hX
  refine ZB [(1, _), (2, _), (13, _), (24, _), (25, _)] (fun (ζ : (Nat) × (Hp) × (Value) × (List Value)) => [(26, .int .i64 ζ.1), (3, ζ.2.2.1)]) (fun (ζ : (Nat) × (Hp) × (Value) × (List Value)) => ζ.2.1) (fun (ζ : (Nat) × (Hp) × (Value) × (List Value)) => [Ye ζ.2.2.1 ((B0 ++ (rows.take ζ.1).flatMap ZL).map Zs) ζ.2.2.2 5, [(b1, .cells ⟨[.int .i64 1, .slice ra rn rc, .slice ka kn kc]⟩ 36 (0, 0))]]) (fun (ζ : (Nat) × (Hp) × (Value) × (List Value)) => ζ.1 ≤ rn ∧ ρ.le ζ.2.1 ∧ OwnS ζ.2.2.1 (B0 ++ (rows.take ζ.1).flatMap ZL).length ((B0 ++ (rows.take ζ.1).flatMap ZL).map Zs) ζ.2.2.2 1) (fun (ζ : (Nat) × (Hp) × (Value) × (List Value)) => rn - ζ.1) ((0, ρ, v1, sp1)) (⟨Nat.zero_le _, Hp.le_refl _, by simpa [hBl] using hown1⟩) Zm Zm rfl tk ?_
  rintro ⟨k, ρ1, v, sp⟩ hI
  try simp only [List.cons_append, List.nil_append, List.append_assoc, List.append_eq] at hI ⊢
  try dsimp only at hI ⊢
  obtain ⟨hkn0, hle1, hown⟩ := hI
  by_cases hlt : k < rn
  ·obtain ⟨b, off, C, T, fr, rfl, hb, hfit, hc⟩ := (hr.mono hle1).get (show k < rows.length by omega)
   have hmem : rows[k]'(by omega) ∈ rows := List.getElem_mem _
   have hro := hrow _ hmem
   have hid := hir _ hmem
   have hts := Xb ZL rows k (by omega)
   have hfl := Xn ZL 20 (rows.take k) (fun x hx => rowB_le (hrow x (List.mem_of_mem_take hx)))
   have htl : (rows.take k).length ≤ 4 := by simp; omega
   have hXl : (B0 ++ (rows.take k).flatMap ZL).length ≤ 100 := by simp only [List.length_append]; omega
   have hll : (B0 ++ (rows.take k).flatMap ZL).length + (ZL (rows[k]'(by omega))).length = (B0 ++ (rows.take (k + 1)).flatMap ZL).length := by rw [hts]; simp; omega
   have hmm : B0 ++ (rows.take k).flatMap ZL ++ ZL (rows[k]'(by omega)) = B0 ++ (rows.take (k + 1)).flatMap ZL := by rw [hts]; simp
   have hrb20 := rowB_le hro
   generalize rows[k]'(by omega) = x at *
   repeat' (first | (refine Zd (.func 67) ?_; refine qC rfl rfl (rowR6_spec _ x hro hid) ?_; rintro v2 ρ2 L2 hle0 ⟨hle2, sp2, hown2, rfl⟩; simp only [List.cons_append, List.nil_append]; refine Xe _ (h := Rem.here) (fun ρ3 hle3 hfz => ?_); obtain ⟨a3, c3, rfl, hc3, hs3⟩ := hown2.sIn hfz) | (refine Yh (ys := (ZL x).map Zs) (m := (ZL x).length) rfl rfl hown (hR := by infer_instance) (SIn.srcV hs3) (by simp) (ZI _) (by decide) rfl (by omega) (by omega) rfl (fun v5 sp5 hown5 => ?_); rw [← List.map_append, hmm] at hown5 ⊢; rw [hll] at hown5) | (refine Zg ?_; first | (refine Ze ?_; refine qQ ?_) | refine Zj ?_) | refine Za ?_ | (refine Zh ?_; refine Zq ?_) | (refine Zi ?_; refine Zr ?_) | intro _)
   refine Zp (k + 1, _, v5, sp5) (⟨hlt, Hp.le_trans hle1 (Hp.le_trans hle2 hle3), hown5⟩) Zm Zm rfl tk inferInstance (by first | omega | (dsimp only; omega))
  ·have hk2 : k = rn := by omega
   subst hk2
   rw [List.take_of_length_le (by omega)] at hown ⊢
   have hfin : B0 ++ rows.flatMap ZL = Yk ⟨1, rows, []⟩ := by rw [← hB0]; simp [Yk, cntB, hrn]
   rw [hfin] at hown ⊢
   repeat' (first | (refine Zg ?_; first | (refine Ze ?_; refine qQ ?_) | refine Zj ?_) | refine Za ?_ | (refine Zh ?_; refine Zq ?_) | (refine Zi ?_; refine Zr ?_) | intro _)
   refine Xd _ (h := Rem.here) (fun ρ6 hle6 hfz => ?_)
   obtain ⟨a6, c6, rfl, hc6, hs6⟩ := hown.sIn hfz
   exact qE ⟨Hp.le_trans hle1 hle6, a6, _, c6, rfl, hc6, hs6, rfl⟩
 ·have hX : ∀ B0, [tB 2] ++ [UInt8.ofNat kn] = B0 → B0.length = 2 := fun B0 e => by rw [← e]; rfl
  repeat' (first | (refine ZC rfl rfl rfl rfl (by simp) rfl rfl (fun _ => ?_); simp only [hck]) | (refine Yh (ys := [Zs (UInt8.ofNat kn)]) (m := 1) rfl rfl hown0 (hR := by infer_instance) SrcV.lit rfl rfl (by decide) rfl (by omega) (by omega) rfl (fun v1 sp1 hown1 => ?_); rw [show [tB 2].map Zs ++ [Zs (UInt8.ofNat kn)] = (([tB 2] ++ [UInt8.ofNat kn]) ++ (kids.take 0).flatMap Yj).map Zs by simp] at hown1 ⊢) | (refine Zg ?_; first | (refine Ze ?_; refine qQ ?_) | refine Zj ?_) | refine Za ?_ | (refine Zh ?_; refine Zq ?_) | (refine Zi ?_; refine Zr ?_) | intro _)
  generalize hB0 : [tB 2] ++ [UInt8.ofNat kn] = B0 at *
  have hBl := hX _ rfl
  clear hX
  refine ZB [(2, _), (45, _), (46, _)] (fun (ζ : (Nat) × (Value) × (List Value)) => [(47, .int .i64 ζ.1), (3, ζ.2.1)]) (fun (ζ : (Nat) × (Value) × (List Value)) => ρ) (fun (ζ : (Nat) × (Value) × (List Value)) => [Ye ζ.2.1 ((B0 ++ (kids.take ζ.1).flatMap Yj).map Zs) ζ.2.2 5]) (fun (ζ : (Nat) × (Value) × (List Value)) => ζ.1 ≤ kn ∧ OwnS ζ.2.1 (B0 ++ (kids.take ζ.1).flatMap Yj).length ((B0 ++ (kids.take ζ.1).flatMap Yj).map Zs) ζ.2.2 1) (fun (ζ : (Nat) × (Value) × (List Value)) => kn - ζ.1) ((0, v1, sp1)) (⟨Nat.zero_le _, by simpa [hBl] using hown1⟩) Zm Zm rfl tk ?_
  rintro ⟨j, v, sp⟩ hI
  try simp only [List.cons_append, List.nil_append, List.append_assoc, List.append_eq] at hI ⊢
  try dsimp only at hI ⊢
  obtain ⟨hj0, hown⟩ := hI
  by_cases hlj : j < kn
  ·obtain ⟨b, off, C, T, fr, rfl, hb, hfit, hc⟩ := hk.get (show j < kids.length by omega)
   have hmem : kids[j]'(by omega) ∈ kids := List.getElem_mem _
   have hko := hkid _ hmem
   have hid := hik _ hmem
   have hts := Xb Yj kids j (by omega)
   have hfk := Xn Yj 4 (kids.take j) (fun x hx => Nat.le_of_eq (WM x))
   have htl : (kids.take j).length ≤ 4 := by simp; omega
   have hXl : (B0 ++ (kids.take j).flatMap Yj).length ≤ 200 := by simp only [List.length_append]; omega
   have hmm : B0 ++ (kids.take j).flatMap Yj ++ Xf (kids[j]'(by omega)).t (kids[j]'(by omega)).id ++ [tB (kids[j]'(by omega)).page] = B0 ++ (kids.take (j + 1)).flatMap Yj := by rw [hts]; simp [Yj]
   have hll : (B0 ++ (kids.take j).flatMap Yj).length + 3 + 1 = (B0 ++ (kids.take (j + 1)).flatMap Yj).length := by rw [hts]; simp [WM]; omega
   have hpg := tB_eq (t := (kids[j]'(by omega)).page) (by omega) (by omega)
   generalize kids[j]'(by omega) = x at *
   generalize hX : B0 ++ (kids.take j).flatMap Yj = X at *
   have hkl : (Xf x.t x.id).length = 3 := by simp [Xf, ZJ]
   repeat' (first | (refine Zg ?_; first | (refine Ze ?_; refine qQ ?_) | refine Zj ?_) | refine Za ?_ | (refine Zh ?_; refine Zq ?_) | (refine Zi ?_; refine Zr ?_) | intro _)
   rename_i b9
   refine ZD (Zo _ _ ([[(b9, .cells ⟨YY x⟩ 82 (0, 0))]])) (Zx (hT := tk) (Hp.le_refl _)) ?_
   all_goals (refine ZO 0 ?_; refine rFa 1 ?_; refine rLd 2 ?_; refine rFa 5 ?_; refine rLd 6 ?_; refine rCv 7 ?_)
   all_goals (refine Xh (i := 3) (j := 8) ?_ ?_ <;> ((try refine Zk ?_); (first | (refine Zd (.func 68) ?_; refine qC rfl rfl (keyR_spec _ x.t x.id hko.1.1 (by omega) hid) ?_; rintro v ρ' L' hle ⟨rfl, bk, rfl, rfl⟩ <;> (try simp only [kM, kN, kO])) | (refine ZC rfl rfl rfl rfl (by simp) rfl rfl (fun _ => ?_); simp only [hpg]) | (refine Zj ?_; try intro _)) <;> ((try simp only [kM, kN, kO]); refine Za ?_; refine Zl ?_)))
   all_goals (first | (refine Xh (i := 4) (j := 8) ?_ ?_ <;> ((try refine Zk ?_); (first | (refine ZC rfl rfl rfl rfl (by simp) rfl rfl (fun _ => ?_); simp only [hpg]) | (refine Yh (ys := (Xf x.t x.id).map Zs) (m := 3) rfl rfl hown (hR := by infer_instance) (SrcV.find (l := (Xf x.t x.id).map Zs) (T := 5) (fr := (0, 0)) (n := 3) (by rw [List.drop_zero]; exact List.take_of_length_le (by simp [hkl]))) (by simp [hkl]) (ZI _) (by decide) rfl (by omega) (by omega) rfl (fun v4 sp4 hown4 => ?_)) | (refine Yh (ys := [Zs (tB x.page)]) (m := 1) rfl rfl hown4 (hR := by infer_instance) SrcV.lit rfl rfl (by decide) rfl (by omega) (by omega) rfl (fun v5 sp5 hown5 => ?_); rw [show X.map Zs ++ (Xf x.t x.id).map Zs ++ [Zs (tB x.page)] = (X ++ Xf x.t x.id ++ [tB x.page]).map Zs by simp, hmm] at hown5 ⊢; rw [hll] at hown5) | (refine Zj ?_; try intro _)) <;> ((try simp only [kM, kN, kO]); refine Za ?_; refine Zl ?_))) | (refine Zn (i := 3) ?_; ((try refine Zk ?_); (first | (refine Zd (.func 68) ?_; refine qC rfl rfl (keyR_spec _ x.t x.id hko.1.1 (by omega) hid) ?_; rintro v ρ' L' hle ⟨rfl, bk, rfl, rfl⟩ <;> (try simp only [kM, kN, kO])) | (refine Zj ?_; try intro _)) <;> ((try simp only [kM, kN, kO]); refine Za ?_; refine Zl ?_))))
   all_goals (first | (refine Zn (i := 8) ?_; ((try refine Zk ?_); (first | (refine ZC rfl rfl rfl rfl (by simp) rfl rfl (fun _ => ?_); simp only [hpg]) | (refine Zj ?_; try intro _)) <;> ((try simp only [kM, kN, kO]); refine Za ?_; refine Zl ?_))) | (refine Zn (i := 4) ?_; ((try refine Zk ?_); (first | (refine Yh (ys := (Xf x.t x.id).map Zs) (m := 3) rfl rfl hown (hR := by infer_instance) (SrcV.find (l := (Xf x.t x.id).map Zs) (T := 5) (fr := (0, 0)) (n := 3) (by rw [List.drop_zero]; exact List.take_of_length_le (by simp [hkl]))) (by simp [hkl]) (ZI _) (by decide) rfl (by omega) (by omega) rfl (fun v4 sp4 hown4 => ?_)) | (refine Yh (ys := [Zs (tB x.page)]) (m := 1) rfl rfl hown4 (hR := by infer_instance) SrcV.lit rfl rfl (by decide) rfl (by omega) (by omega) rfl (fun v5 sp5 hown5 => ?_); rw [show X.map Zs ++ (Xf x.t x.id).map Zs ++ [Zs (tB x.page)] = (X ++ Xf x.t x.id ++ [tB x.page]).map Zs by simp, hmm] at hown5 ⊢; rw [hll] at hown5) | (refine Zj ?_; try intro _)) <;> ((try simp only [kM, kN, kO]); refine Za ?_; refine Zl ?_))))
   all_goals (refine Zn (i := 9) ?_; ((try refine Zk ?_); (first | (refine Yh (ys := (Xf x.t x.id).map Zs) (m := 3) rfl rfl hown (hR := by infer_instance) (SrcV.find (l := (Xf x.t x.id).map Zs) (T := 5) (fr := (0, 0)) (n := 3) (by rw [List.drop_zero]; exact List.take_of_length_le (by simp [hkl]))) (by simp [hkl]) (ZI _) (by decide) rfl (by omega) (by omega) rfl (fun v4 sp4 hown4 => ?_)) | (refine Yh (ys := [Zs (tB x.page)]) (m := 1) rfl rfl hown4 (hR := by infer_instance) SrcV.lit rfl rfl (by decide) rfl (by omega) (by omega) rfl (fun v5 sp5 hown5 => ?_); rw [show X.map Zs ++ (Xf x.t x.id).map Zs ++ [Zs (tB x.page)] = (X ++ Xf x.t x.id ++ [tB x.page]).map Zs by simp, hmm] at hown5 ⊢; rw [hll] at hown5) | (refine Zj ?_; try intro _)) <;> ((try simp only [kM, kN, kO]); refine Za ?_; refine Zl ?_)))
   all_goals (refine ZR ?_; refine rAs 10 ?_; refine ZH ?_)
   all_goals (repeat' (first | (refine Zg ?_; first | (refine Ze ?_; refine qQ ?_) | refine Zj ?_) | refine Za ?_ | (refine Zh ?_; refine Zq ?_) | (refine Zi ?_; refine Zr ?_) | intro _))
   all_goals refine Zp (j + 1, v5, sp5) (⟨hlj, hown5⟩) Zm Zm rfl tk inferInstance (by first | omega | (dsimp only; omega))
  ·have hj2 : j = kn := by omega
   subst hj2
   rw [List.take_of_length_le (by omega)] at hown ⊢
   have hfin : B0 ++ kids.flatMap Yj = Yk ⟨2, [], kids⟩ := by rw [← hB0]; simp [Yk, cntB, hkn]
   rw [hfin] at hown ⊢
   repeat' (first | (refine Zg ?_; first | (refine Ze ?_; refine qQ ?_) | refine Zj ?_) | refine Za ?_ | (refine Zh ?_; refine Zq ?_) | (refine Zi ?_; refine Zr ?_) | intro _)
   refine Xd _ (h := Rem.here) (fun ρ6 hle6 hfz => ?_)
   obtain ⟨a6, c6, rfl, hc6, hs6⟩ := hown.sIn hfz
   exact qE ⟨hle6, a6, _, c6, rfl, hc6, hs6, rfl⟩
end Go.Proofs.E
