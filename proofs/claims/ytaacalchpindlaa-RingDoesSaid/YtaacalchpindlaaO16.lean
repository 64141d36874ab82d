/- The law RingDoes. Part 16 of 17. -/
import Derived.Test.YtaacalchpindlaaO15
namespace Go.Proofs.E
open Go
set_option linter.unusedVariables false
set_option linter.unusedSimpArgs false
set_option linter.unusedSectionVars false
set_option maxRecDepth 4000
set_option maxHeartbeats 1000000
attribute [local irreducible] Yl TL TC TE Spec Xt R1 Hp.le EnvLe TS TR YS Zo
def rel4 (ρ : Hp) (om db : Nat) (rp : Value) (G : SH) (M : List Value) : Prop :=
 (rp = .pointer none ∧ G = [] ∧ M = mdV om zHd zMW false true) ∨ (∃ rb R wr w, rp = .pointer (some ⟨rb, 0, none⟩) ∧ MIn ρ R.h w ∧ w.els.map BSl.l = R.ents ∧ RIn ρ R wr ∧ G = ZT rb db R wr ∧ M = mdV om R.h w R.broken false)
theorem n30 (a : Int) : ∃ N : Nat, ((a.tmod 30 + 30).tmod 30 + 1) = (N : Int) ∧ 1 ≤ N ∧ N ≤ 30 ∧ -30 < a.tmod 30 ∧ a.tmod 30 < 30 ∧ 0 ≤ (a.tmod 30 + 30).tmod 30 ∧ (a.tmod 30 + 30).tmod 30 < 30 := by
 have h1 := Int.tmod_lt_of_pos a (show (0 : Int) < 30 by decide)
 have h2 : -30 < a.tmod 30 := by
  rcases Int.le_total 0 a with h | h
  ·rw [Int.tmod_eq_emod_of_nonneg h]; omega
  ·obtain ⟨b, rfl⟩ : ∃ b, a = -b := ⟨-a, by omega⟩
   rw [Int.neg_tmod, Int.tmod_eq_emod_of_nonneg (by omega)]; omega
 have h3 : (a.tmod 30 + 30).tmod 30 = (a.tmod 30 + 30) % 30 := Int.tmod_eq_emod_of_nonneg (by omega)
 rw [h3]
 have h4 := Int.emod_nonneg (a.tmod 30 + 30) (show (30 : Int) ≠ 0 by decide)
 have h5 := Int.emod_lt_of_pos (a.tmod 30 + 30) (show (0 : Int) < 30 by decide)
 exact ⟨((a.tmod 30 + 30) % 30 + 1).toNat, by omega, by omega, by omega, h2, h1, h4, h5⟩
theorem ringDoes_spec (ρ : Hp) (nn : Int) (a : Option Addr) (n c : Nat) (l : List EvV) (hl : AIn ρ 5 evC a n l) (hin : ∀ e ∈ l, EvIn ρ e) (hbig : n ≤ 9223372036854775807) :
  Spec Try.prog 3 [.int .i64 nn, .slice a n c] ρ [] (fun v ρ' L' => v = .bool true ∧ ρ.le ρ' ∧ L' = []) := by
 have hlen := hl.len
 obtain ⟨N, hN, hN1, hN30, t1, t2, t3, t4⟩ := n30 nn
 refine Zd Try.func3 rfl rfl rfl fun u R => ?_
 simp only [Zw, List.cons_append, List.nil_append]
 repeat' (first | (refine Zb (.func 4) ?_; refine qC rfl rfl (wakes4_spec _) ?_; rintro v ρ' L' hle ⟨rfl, hl1, rfl⟩ <;> (try simp only [kM, kN, kO])) | (refine ZV ?_; refine Zy (Zc rfl) rfl rfl ?_) | (refine Zf ?_; first | (refine Ze ?_; refine qQ ?_) | refine Zk ?_) | refine Za ?_ | (refine Zg ?_; refine Zu ?_) | (refine Zh ?_; refine Zv ?_) | intro _)
 rw [hN]
 repeat' (first | (refine ZV ?_; refine Zy (Zc rfl) rfl rfl ?_) | (refine Zf ?_; first | (refine Ze ?_; refine qQ ?_) | refine Zk ?_) | refine Za ?_ | (refine Zg ?_; refine Zu ?_) | (refine Zh ?_; refine Zv ?_) | intro _)
 (refine Zb (.func 5) ?_; refine qC rfl rfl (knew _ N (by omega) (by omega)) ?_; rintro v2 ρ2 L2 hle2 ⟨rfl, db, k0, rfl, hk0, rfl⟩; try simp only [List.cons_append, List.nil_append, List.append_assoc, List.append_eq])
 repeat' (first | (refine ZV ?_; refine Zy (Zc rfl) rfl rfl ?_) | (refine Zf ?_; first | (refine Ze ?_; refine qQ ?_) | refine Zk ?_) | refine Za ?_ | (refine Zg ?_; refine Zu ?_) | (refine Zh ?_; refine Zv ?_) | intro _)
 (refine Zb (.func 5) ?_; refine qC rfl rfl (knew _ N (by omega) (by omega)) ?_; rintro v3 ρ3 L3 hle3 ⟨rfl, om, km0, rfl, hkm0, rfl⟩; try simp only [List.cons_append, List.nil_append, List.append_assoc, List.append_eq])
 repeat' (first | (refine ZV ?_; refine Zy (Zc rfl) rfl rfl ?_) | (refine Zf ?_; first | (refine Ze ?_; refine qQ ?_) | refine Zk ?_) | refine Za ?_ | (refine Zg ?_; refine Zu ?_) | (refine Zh ?_; refine Zv ?_) | intro _)
 rename_i mb
 refine ZP [(0, _), (5, _), (7, _), (9, _), (45, _), (46, _)] (fun (ζ : (Nat) × (Hp) × (Value) × (SH) × (List Value) × (DS) × (DK) × (DK)) => [(47, .int .i64 ζ.1), (4, .bool false), (10, ζ.2.2.1)]) (fun (ζ : (Nat) × (Hp) × (Value) × (SH) × (List Value) × (DS) × (DK) × (DK)) => ζ.2.1) (fun (ζ : (Nat) × (Hp) × (Value) × (SH) × (List Value) × (DS) × (DK) × (DK)) => [[(mb, .cells ⟨ζ.2.2.2.2.1⟩ 38 (0, 0))]] ++ (ζ.2.2.2.1 ++ (Zi om ζ.2.2.2.2.2.2.1 ζ.2.2.2.2.2.1 ++ Zi db ζ.2.2.2.2.2.2.2 ζ.2.2.2.2.2.1))) (fun (ζ : (Nat) × (Hp) × (Value) × (SH) × (List Value) × (DS) × (DK) × (DK)) => (ζ.1 ≤ n ∧ ζ.1 ≤ 50) ∧ ρ3.le ζ.2.1 ∧ DOk ζ.2.2.2.2.2.2.1 ζ.2.2.2.2.2.1 ∧ DOk ζ.2.2.2.2.2.2.2 ζ.2.2.2.2.2.1 ∧ rel4 ζ.2.1 om db ζ.2.2.1 ζ.2.2.2.1 ζ.2.2.2.2.1) (fun (ζ : (Nat) × (Hp) × (Value) × (SH) × (List Value) × (DS) × (DK) × (DK)) => n - ζ.1) ((0, ρ3, .pointer none, [], mdV om zHd zMW false true, DS.new N, km0, k0)) (⟨⟨Nat.zero_le _, Nat.zero_le _⟩, Hp.le_refl _, hkm0, hk0, .inl ⟨rfl, rfl, rfl⟩⟩) Zx Zx rfl tk ?_
 rintro ⟨j, ρ4, rp, G, M, D, km, k⟩ hI
 try simp only [List.cons_append, List.nil_append, List.append_assoc, List.append_eq] at hI ⊢
 try dsimp only at hI ⊢
 obtain ⟨⟨hj, hj5⟩, hl4, hkm, hk, hrel⟩ := hI
 have hl14 := Hp.le_trans hl1 hl4
 by_cases hlt : j < n ∧ j ≠ 50
 ·obtain ⟨b, off, C, T, fr, rfl, hb, hb5, hcd⟩ := (hl.mono hl14).get (show j < l.length by omega)
  have he := (hin _ (List.getElem_mem (show j < l.length by omega))).mono hl14
  generalize l[j]'(by omega) = e at *
  rcases hrel with ⟨rfl, rfl, rfl⟩ | ⟨rb, RR, wr, w, rfl, hm, hel, hr, rfl, rfl⟩
  ·repeat' (first | (refine Zb (.func 6) ?_; refine qC rfl rfl (does_none _ mb om db km k D hkm hk e he) ?_; rintro v5 ρ5 L5 hle5 ⟨hl5, D5, km5, k5, hkm5, hk5, ⟨rb5, R5, wr5, w5, rfl, hm5, hel5, hr5, rfl⟩ | ⟨rfl, rfl⟩⟩ <;> (try simp only [List.cons_append, List.nil_append, List.append_assoc, List.append_eq])) | (refine ZV ?_; refine Zy (Zc rfl) rfl rfl ?_) | (refine Zf ?_; first | (refine Ze ?_; refine qQ ?_) | refine Zk ?_) | refine Za ?_ | (refine Zg ?_; refine Zu ?_) | (refine Zh ?_; refine Zv ?_) | intro _)
   all_goals (repeat' (first | (refine Zb (.func 7) ?_; refine qC rfl rfl (says_some _ mb om rb5 db R5 w5 hm5 hel5 wr5 hr5 km5 k5 D5) ?_; rintro v6 ρ6 L6 hle6 ⟨rfl, hl6, rfl⟩; try simp only [List.cons_append, List.nil_append, List.append_assoc, List.append_eq]) | (refine Zb (.func 7) ?_; refine qC rfl rfl (says_none _ mb om db zHd zMW false km5 k5 D5) ?_; rintro v6 ρ6 L6 hle6 ⟨rfl, rfl, rfl⟩; try simp only [List.cons_append, List.nil_append, List.append_assoc, List.append_eq]) | (refine ZV ?_; refine Zy (Zc rfl) rfl rfl ?_) | (refine Zf ?_; first | (refine Ze ?_; refine qQ ?_) | refine Zk ?_) | refine Za ?_ | (refine Zg ?_; refine Zu ?_) | (refine Zh ?_; refine Zv ?_) | intro _))
   ·refine ZI (j + 1, _, .pointer (some ⟨rb5, 0, none⟩), ZT rb5 db R5 wr5, mdV om R5.h w5 R5.broken false, D5, km5, k5) (⟨⟨hlt.1, by omega⟩, Hp.le_trans hl4 (Hp.le_trans hl5 hl6), hkm5, hk5, .inr ⟨rb5, R5, wr5, w5, rfl, hm5.mono hl6, hel5, hr5.mono hl6, rfl, rfl⟩⟩) Zx Zx rfl tk inferInstance (by first | omega | (dsimp only; omega))
   ·refine ZI (j + 1, _, .pointer none, [], mdV om zHd zMW false true, D5, km5, k5) (⟨⟨hlt.1, by omega⟩, Hp.le_trans hl4 hl5, hkm5, hk5, .inl ⟨rfl, rfl, rfl⟩⟩) Zx Zx rfl tk inferInstance (by first | omega | (dsimp only; omega))
  ·repeat' (first | (refine Zb (.func 6) ?_; refine qC rfl rfl (does_some _ mb om rb db RR w hm hel wr hr km k D hkm hk e he) ?_; rintro v5 ρ5 L5 hle5 ⟨hl5, D5, km5, k5, hkm5, hk5, ⟨rb5, R5, wr5, w5, rfl, hm5, hel5, hr5, rfl⟩ | ⟨rfl, rfl⟩⟩ <;> (try simp only [List.cons_append, List.nil_append, List.append_assoc, List.append_eq])) | (refine ZV ?_; refine Zy (Zc rfl) rfl rfl ?_) | (refine Zf ?_; first | (refine Ze ?_; refine qQ ?_) | refine Zk ?_) | refine Za ?_ | (refine Zg ?_; refine Zu ?_) | (refine Zh ?_; refine Zv ?_) | intro _)
   all_goals (repeat' (first | (refine Zb (.func 7) ?_; refine qC rfl rfl (says_some _ mb om rb5 db R5 w5 hm5 hel5 wr5 hr5 km5 k5 D5) ?_; rintro v6 ρ6 L6 hle6 ⟨rfl, hl6, rfl⟩; try simp only [List.cons_append, List.nil_append, List.append_assoc, List.append_eq]) | (refine Zb (.func 7) ?_; refine qC rfl rfl (says_none _ mb om db zHd zMW false km5 k5 D5) ?_; rintro v6 ρ6 L6 hle6 ⟨rfl, rfl, rfl⟩; try simp only [List.cons_append, List.nil_append, List.append_assoc, List.append_eq]) | (refine ZV ?_; refine Zy (Zc rfl) rfl rfl ?_) | (refine Zf ?_; first | (refine Ze ?_; refine qQ ?_) | refine Zk ?_) | refine Za ?_ | (refine Zg ?_; refine Zu ?_) | (refine Zh ?_; refine Zv ?_) | intro _))
   ·refine ZI (j + 1, _, .pointer (some ⟨rb5, 0, none⟩), ZT rb5 db R5 wr5, mdV om R5.h w5 R5.broken false, D5, km5, k5) (⟨⟨hlt.1, by omega⟩, Hp.le_trans hl4 (Hp.le_trans hl5 hl6), hkm5, hk5, .inr ⟨rb5, R5, wr5, w5, rfl, hm5.mono hl6, hel5, hr5.mono hl6, rfl, rfl⟩⟩) Zx Zx rfl tk inferInstance (by first | omega | (dsimp only; omega))
   ·refine ZI (j + 1, _, .pointer none, [], mdV om zHd zMW false true, D5, km5, k5) (⟨⟨hlt.1, by omega⟩, Hp.le_trans hl4 hl5, hkm5, hk5, .inl ⟨rfl, rfl, rfl⟩⟩) Zx Zx rfl tk inferInstance (by first | omega | (dsimp only; omega))
 ·by_cases hlt2 : j < n
  ·have hj50 : j = 50 := by omega
   obtain ⟨b, off, C, T, fr, rfl, hb, hb5, hcd⟩ := (hl.mono hl14).get (show j < l.length by omega)
   repeat' (first | (refine ZV ?_; refine Zy (Zc rfl) rfl rfl ?_) | (refine Zf ?_; first | (refine Ze ?_; refine qQ ?_) | refine Zk ?_) | refine Za ?_ | (refine Zg ?_; refine Zu ?_) | (refine Zh ?_; refine Zv ?_) | intro _)
   (refine Zb (.func 8) ?_; refine qC rfl rfl (kcrash _ db k D hk none 0 0 [] SIn.nil (by omega) (Nat.le_refl _)) ?_; rintro v7 ρ7 L7 hle7 ⟨rfl, hl7, k7, hk7, rfl⟩; try simp only [List.cons_append, List.nil_append, List.append_assoc, List.append_eq])
   repeat' (first | (refine ZV ?_; refine Zy (Zc rfl) rfl rfl ?_) | (refine Zf ?_; first | (refine Ze ?_; refine qQ ?_) | refine Zk ?_) | refine Za ?_ | (refine Zg ?_; refine Zu ?_) | (refine Zh ?_; refine Zv ?_) | intro _)
   (refine Zb (.func 8) ?_; refine qC rfl rfl (kcrash _ om km D hkm none 0 0 [] SIn.nil (by omega) (Nat.le_refl _)) ?_; rintro v8 ρ8 L8 hle8 ⟨rfl, hl8, k8, hk8, rfl⟩; try simp only [List.cons_append, List.nil_append, List.append_assoc, List.append_eq])
   generalize D.crash (keepB (([] : List Bool).take 60)) = Dc at *
   repeat' (first | (refine ZV ?_; refine Zy (Zc rfl) rfl rfl ?_) | (refine Zf ?_; first | (refine Ze ?_; refine qQ ?_) | refine Zk ?_) | refine Za ?_ | (refine Zg ?_; refine Zu ?_) | (refine Zh ?_; refine Zv ?_) | intro _)
   refine ZP [(5, _), (7, _), (80, _)] (fun (ζ : (Nat) × (DS)) => [(81, .int .i64 ζ.1), (4, .bool false)]) (fun (ζ : (Nat) × (DS)) => ρ8) (fun (ζ : (Nat) × (DS)) => (Zi om k8 ζ.2 ++ Zi db k7 ζ.2)) (fun (ζ : (Nat) × (DS)) => ζ.1 ≤ N ∧ DOk k8 ζ.2 ∧ DOk k7 ζ.2) (fun (ζ : (Nat) × (DS)) => N - ζ.1) ((0, Dc)) (⟨Nat.zero_le _, hk8, hk7⟩) Zx Zx rfl tk ?_
   rintro ⟨i, Dx⟩ hI
   try simp only [List.cons_append, List.nil_append, List.append_assoc, List.append_eq] at hI ⊢
   try dsimp only at hI ⊢
   obtain ⟨hi, hx8, hx7⟩ := hI
   by_cases hiN : i < N
   ·have hra := fun ρ => kread ρ db k7 Dx (i : Int) hx7
    have hrb := fun ρ => kread ρ om k8 Dx (i : Int) hx8
    have hln := Xn hx7.ok (i : Int)
    generalize Dx.read (i : Int) = Z at *
    obtain ⟨Dy, X, ez⟩ := Z
    dsimp only at hra hrb hln
    have hql : (X.map ZE).length = 64 := by simpa using hln
    have hqo := ZM X
    repeat' (first | (refine Zb (.func 9) ?_; refine qC rfl rfl ((hra _)) ?_; rintro v ρ' L' hle ⟨rfl, rfl, hy7, rfl⟩ <;> (try simp only [kM, kN, kO])) | (refine Zb (.func 9) ?_; refine qC rfl rfl ((hrb _)) ?_; rintro v ρ' L' hle ⟨rfl, rfl, hy8, rfl⟩ <;> (try simp only [kM, kN, kO])) | (refine ZV ?_; refine Zy (Zc rfl) rfl rfl ?_) | (refine Zf ?_; first | (refine Ze ?_; refine qQ ?_) | refine Zk ?_) | refine Za ?_ | (refine Zg ?_; refine Zu ?_) | (refine Zh ?_; refine Zv ?_) | intro _)
    refine ZI (i + 1, Dy) (⟨hiN, hy8, hy7⟩) Zx Zx rfl tk inferInstance (by first | omega | (dsimp only; omega))
   ·repeat' (first | (refine ZV ?_; refine Zy (Zc rfl) rfl rfl ?_) | (refine Zf ?_; first | (refine Ze ?_; refine qQ ?_) | refine Zk ?_) | refine Za ?_ | (refine Zg ?_; refine Zu ?_) | (refine Zh ?_; refine Zv ?_) | intro _)
    have hfin := Hp.le_trans hl14 (Hp.le_trans hl7 hl8)
    exact qE (L' := []) ⟨rfl, hfin, rfl⟩
  ·repeat' (first | (refine ZV ?_; refine Zy (Zc rfl) rfl rfl ?_) | (refine Zf ?_; first | (refine Ze ?_; refine qQ ?_) | refine Zk ?_) | refine Za ?_ | (refine Zg ?_; refine Zu ?_) | (refine Zh ?_; refine Zv ?_) | intro _)
   (refine Zb (.func 8) ?_; refine qC rfl rfl (kcrash _ db k D hk none 0 0 [] SIn.nil (by omega) (Nat.le_refl _)) ?_; rintro v7 ρ7 L7 hle7 ⟨rfl, hl7, k7, hk7, rfl⟩; try simp only [List.cons_append, List.nil_append, List.append_assoc, List.append_eq])
   repeat' (first | (refine ZV ?_; refine Zy (Zc rfl) rfl rfl ?_) | (refine Zf ?_; first | (refine Ze ?_; refine qQ ?_) | refine Zk ?_) | refine Za ?_ | (refine Zg ?_; refine Zu ?_) | (refine Zh ?_; refine Zv ?_) | intro _)
   (refine Zb (.func 8) ?_; refine qC rfl rfl (kcrash _ om km D hkm none 0 0 [] SIn.nil (by omega) (Nat.le_refl _)) ?_; rintro v8 ρ8 L8 hle8 ⟨rfl, hl8, k8, hk8, rfl⟩; try simp only [List.cons_append, List.nil_append, List.append_assoc, List.append_eq])
   generalize D.crash (keepB (([] : List Bool).take 60)) = Dc at *
   repeat' (first | (refine ZV ?_; refine Zy (Zc rfl) rfl rfl ?_) | (refine Zf ?_; first | (refine Ze ?_; refine qQ ?_) | refine Zk ?_) | refine Za ?_ | (refine Zg ?_; refine Zu ?_) | (refine Zh ?_; refine Zv ?_) | intro _)
   refine ZP [(5, _), (7, _), (80, _)] (fun (ζ : (Nat) × (DS)) => [(81, .int .i64 ζ.1), (4, .bool false)]) (fun (ζ : (Nat) × (DS)) => ρ8) (fun (ζ : (Nat) × (DS)) => (Zi om k8 ζ.2 ++ Zi db k7 ζ.2)) (fun (ζ : (Nat) × (DS)) => ζ.1 ≤ N ∧ DOk k8 ζ.2 ∧ DOk k7 ζ.2) (fun (ζ : (Nat) × (DS)) => N - ζ.1) ((0, Dc)) (⟨Nat.zero_le _, hk8, hk7⟩) Zx Zx rfl tk ?_
   rintro ⟨i, Dx⟩ hI
   try simp only [List.cons_append, List.nil_append, List.append_assoc, List.append_eq] at hI ⊢
   try dsimp only at hI ⊢
   obtain ⟨hi, hx8, hx7⟩ := hI
   by_cases hiN : i < N
   ·have hra := fun ρ => kread ρ db k7 Dx (i : Int) hx7
    have hrb := fun ρ => kread ρ om k8 Dx (i : Int) hx8
    have hln := Xn hx7.ok (i : Int)
    generalize Dx.read (i : Int) = Z at *
    obtain ⟨Dy, X, ez⟩ := Z
    dsimp only at hra hrb hln
    have hql : (X.map ZE).length = 64 := by simpa using hln
    have hqo := ZM X
    repeat' (first | (refine Zb (.func 9) ?_; refine qC rfl rfl ((hra _)) ?_; rintro v ρ' L' hle ⟨rfl, rfl, hy7, rfl⟩ <;> (try simp only [kM, kN, kO])) | (refine Zb (.func 9) ?_; refine qC rfl rfl ((hrb _)) ?_; rintro v ρ' L' hle ⟨rfl, rfl, hy8, rfl⟩ <;> (try simp only [kM, kN, kO])) | (refine ZV ?_; refine Zy (Zc rfl) rfl rfl ?_) | (refine Zf ?_; first | (refine Ze ?_; refine qQ ?_) | refine Zk ?_) | refine Za ?_ | (refine Zg ?_; refine Zu ?_) | (refine Zh ?_; refine Zv ?_) | intro _)
    refine ZI (i + 1, Dy) (⟨hiN, hy8, hy7⟩) Zx Zx rfl tk inferInstance (by first | omega | (dsimp only; omega))
   ·repeat' (first | (refine ZV ?_; refine Zy (Zc rfl) rfl rfl ?_) | (refine Zf ?_; first | (refine Ze ?_; refine qQ ?_) | refine Zk ?_) | refine Za ?_ | (refine Zg ?_; refine Zu ?_) | (refine Zh ?_; refine Zv ?_) | intro _)
    have hfin := Hp.le_trans hl14 (Hp.le_trans hl7 hl8)
    exact qE (L' := []) ⟨rfl, hfin, rfl⟩
end Go.Proofs.E
